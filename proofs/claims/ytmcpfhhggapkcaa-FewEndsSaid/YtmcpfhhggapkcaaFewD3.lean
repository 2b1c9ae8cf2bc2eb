/-
  Layer 7: the range of 'does': each kid is turned, then taken.
-/
import Derived.Test.YtmcpfhhggapkcaaFewD1
namespace Go.Proofs.Ytmcpfhhggapkcaa
open Go.RowKit Go.Shelf
set_option linter.unusedVariables false
set_option linter.unusedSimpArgs false
attribute [local go_sem] Oper.semAt_some

def DrainI (w : World) (lo gk gr gc g3 : Nat) (room : Int) (f : Kids) (W : World) : Prop := (∃ f', FewAt W gk room f') ∧ Blk W g3 24 #[.pointer (some ⟨gk, 0, none⟩)] ∧ FewAt W gc room f ∧ RefAt W gr room f ∧ Two gk gr w W ∧ lo ≤ W.heap.size
theorem drainI_own {w wx : World} {lo gk gr gc g3 : Nat} {room : Int} {f : Kids} (hw : w.heap.size ≤ wx.heap.size) : OwnFrom (β := List Kid) wx.heap.size (fun _ W => DrainI w lo gk gr gc g3 room f W) := by
  intro s W W' row hs hg hr
  obtain ⟨⟨f', h1⟩, h2, h3, h4, h5, h6⟩ := hs
  have hr' := fun r e => (hr r e).2
  exact ⟨⟨f', h1.own_ hg hr'⟩, h2.own_ hg hr', h3.own_ hg hr', h4.own_ hg hr', h5.grown hg (fun r e => .inr (.inr (Nat.le_trans hw (hr r e).1))), Nat.le_trans h6 hg.size⟩
theorem drainI_few {w W W' : World} {lo gk gr gc g3 : Nat} {room : Int} {f f' : Kids} (h : DrainI w lo gk gr gc g3 room f W) (hne : gc ≠ gk) (hf : FewAt W' gk room f') (hg : W.grownBy W' (some gk)) : DrainI w lo gk gr gc g3 room f W' := by
  obtain ⟨⟨f0, h1⟩, h2, h3, h4, h5, h6⟩ := h
  exact ⟨⟨f', hf⟩, h2.grown hg (fun e => h1.ne_blk h2 (by decide) (by injection e with e; exact e.symm)), h3.kept hg (fun e => hne (by injection e)), h4.kept hg (fun e => h1.ne_ref h4 (by injection e with e; exact e.symm)), h5.grown hg (fun r e => by injection e with e; exact .inl e.symm), Nat.le_trans h6 hg.size⟩
theorem keepsFrom_few {B : Nat} {W W' : World} {g : Nat} {room : Int} {f : Kids} (h : FewAt W g room f) (hg : W.grownBy W' (some g)) : KeepsFrom B W W' := by
  obtain ⟨o, _, _, _, h1⟩ := h
  exact ⟨hg.size, fun k o2 _ h2 hc => (hg.block k (Array.getElem?_eq_some_iff.1 h2).1 (fun e => by
    injection e with e; subst e; unfold Blk at h1; rw [h1] at h2; injection h2 with h2; subst h2; cases hc)).trans h2⟩
theorem keepsB_few {B : Nat} {W W' : World} {g : Nat} {room : Int} {f : Kids} (h : FewAt W g room f) (hg : W.grownBy W' (some g)) : KeepsB B W W' := by
  obtain ⟨o, _, _, _, h1⟩ := h
  exact KeepsB.of_other hg (fun g' e => by injection e with e; subst e; exact ⟨_, _, h1, by decide⟩)

set_option maxHeartbeats 6400000 in
set_option maxRecDepth 100000 in
theorem drain_loop (gk gr gc g3 gb : Nat) (room : Int) (f f1 : Kids) {u0 u1 u2 u4 u5 u6 u7 u8 u9 u10 u11 u12 u13 u14 u15 u16 u17 u18 u19 u20 u21 u22 u23 u24 u25 u26 u27 u28 u29 u30 u31 u32 u33 u34 u35 u36 u37 u38 u39 u40 u41 u42 u43 u44 u45 u46 u47 u48 u49 u50 u51 u52 u53 u54 u55 u56 u57 u58 u59 u60 u61 u62 u63 u64 u65 u66 u67 u68 u69 u70 u71 u72 u73 u74 u75 u76 u77 u78 u79 u80 u81 u82 u83 u84 u85 u86 u87 u88 u89 u90 u91 u92 u93 u94 u95 u96 u97 u98 u99 u100 u101 u102 u103 u104 u105 u106 u107 u108 u109 u110 u111 u112 u113 u114 u115 u116 u117 u118 u119 u120 u121 u122 u123 u124 u125 u126 u127 u128 u129 u130 u131 u132 u133 u135 u136 u137 u138 u139 u140 u141 u142 u143 u144 u145 u146 u147 u148 u149 u150 u151 u152 u153 u154 u155 u156 u157 u158 : Value} (w wx : World) {Q : Exit → Act → World → Prop} (hgb : wx.cell? ⟨gb, 0, none⟩ = some (.pointer (some ⟨gk, 0, none⟩))) (hf : FewAt wx gk room f1) (hne : gc ≠ gk) (hw : w.heap.size ≤ wx.heap.size) (hI : DrainI w wx.heap.size gk gr gc g3 room f wx)
    (hQ : ∀ (D : Nat) (W : World), wx.heap.size ≤ D → DrainI w wx.heap.size gk gr gc g3 room f W → W.heap[D]? = some (.deferred (some [])) → Q .normal ⟨#[u0, u1, u2, .pointer (some ⟨g3, 0, none⟩), u4, u5, u6, u7, u8, u9, u10, u11, u12, u13, u14, u15, u16, u17, u18, u19, u20, u21, u22, u23, u24, u25, u26, u27, u28, u29, u30, u31, u32, u33, u34, u35, u36, u37, u38, u39, u40, u41, u42, u43, u44, u45, u46, u47, u48, u49, u50, u51, u52, u53, u54, u55, u56, u57, u58, u59, u60, u61, u62, u63, u64, u65, u66, u67, u68, u69, u70, u71, u72, u73, u74, u75, u76, u77, u78, u79, u80, u81, u82, u83, u84, u85, u86, u87, u88, u89, u90, u91, u92, u93, u94, u95, u96, u97, u98, u99, u100, u101, u102, u103, u104, u105, u106, u107, u108, u109, u110, u111, u112, u113, u114, u115, u116, u117, u118, u119, u120, u121, u122, u123, u124, u125, u126, u127, u128, u129, u130, u131, u132, u133, .func (.func 35) #[] #[.pointer (some ⟨gb, 0, none⟩)], u135, u136, u137, u138, u139, u140, u141, u142, u143, u144, u145, u146, u147, u148, u149, u150, u151, u152, u153, u154, u155, u156, u157, u158], [{ target := .collected D, args := #[] }]⟩ W) :
    Code.wp Try.prog (part Try.f26 [1, 1, 1, 1, 0, 1, 2, 1, 4, 1, 4, 1, 4, 1, 3, 1, 1, 0, 1, 2]) Q ⟨#[u0, u1, u2, .pointer (some ⟨g3, 0, none⟩), u4, u5, u6, u7, u8, u9, u10, u11, u12, u13, u14, u15, u16, u17, u18, u19, u20, u21, u22, u23, u24, u25, u26, u27, u28, u29, u30, u31, u32, u33, u34, u35, u36, u37, u38, u39, u40, u41, u42, u43, u44, u45, u46, u47, u48, u49, u50, u51, u52, u53, u54, u55, u56, u57, u58, u59, u60, u61, u62, u63, u64, u65, u66, u67, u68, u69, u70, u71, u72, u73, u74, u75, u76, u77, u78, u79, u80, u81, u82, u83, u84, u85, u86, u87, u88, u89, u90, u91, u92, u93, u94, u95, u96, u97, u98, u99, u100, u101, u102, u103, u104, u105, u106, u107, u108, u109, u110, u111, u112, u113, u114, u115, u116, u117, u118, u119, u120, u121, u122, u123, u124, u125, u126, u127, u128, u129, u130, u131, u132, u133, .func (.func 35) #[] #[.pointer (some ⟨gb, 0, none⟩)], u135, u136, u137, u138, u139, u140, u141, u142, u143, u144, u145, u146, u147, u148, u149, u150, u151, u152, u153, u154, u155, u156, u157, u158], []⟩ wx := by
  conv => arg 2; whnf
  have HQ := Lib.hid hQ
  clear hQ
  refine (wpIn_wide (n := 10)).1 ?_
  refine wpIn_rangeFunc_ownH rfl (by decide) (gf := 35) (lb := #[.pointer (some ⟨gb, 0, none⟩)]) rfl trivial (enters_of Try.func35 (by kernel_rfl) rfl)
    (all_stops gb gk 9 wx.heap.size room f1 wx (Nat.le_refl _) (by decide) hgb hf) (fun h k => h.trans k) (fun W l o o' hl h1 h2 h3 => KeepsB.book W l o o' h1 h2) (Below.refl _ _) (fun _ => rfl)
    (fun _ W => DrainI w wx.heap.size gk gr gc g3 room f W) (fun _ pre W => False) (drainI_own hw) (fun c s W W' row hs hg hr => hs) hI
    (fun x a' W => a' = ⟨#[u0, u1, u2, .pointer (some ⟨g3, 0, none⟩), u4, u5, u6, u7, u8, u9, u10, u11, u12, u13, u14, u15, u16, u17, u18, u19, u20, u21, u22, .int .u8 (x.1.val : Int), u24, u25, u26, u27, u28, u29, u30, u31, u32, u33, u34, u35, u36, u37, u38, u39, u40, u41, u42, u43, u44, u45, u46, u47, u48, u49, u50, u51, u52, u53, u54, u55, u56, u57, u58, u59, u60, u61, u62, u63, u64, u65, u66, u67, u68, u69, u70, u71, u72, u73, u74, u75, u76, u77, u78, u79, u80, u81, u82, u83, u84, u85, u86, u87, u88, u89, u90, u91, u92, u93, u94, u95, u96, u97, u98, u99, u100, u101, u102, u103, u104, u105, u106, u107, u108, u109, u110, u111, u112, u113, u114, u115, u116, u117, u118, u119, u120, u121, u122, u123, u124, u125, u126, u127, u128, u129, u130, u131, u132, u133, .func (.func 35) #[] #[.pointer (some ⟨gb, 0, none⟩)], .int .u8 (x.1.val : Int), refV x.2, u137, u138, u139, u140, u141, u142, u143, u144, u145, u146, u147, u148, u149, u150, u151, u152, u153, u154, u155, u156, u157, u158], []⟩) (fun x a' s W W' row hs hg hr => hs) ?assign ?body ?done ?stop
  case assign =>
    rintro l pre x W K hi hK
    have hfin : K ⟨#[u0, u1, u2, .pointer (some ⟨g3, 0, none⟩), u4, u5, u6, u7, u8, u9, u10, u11, u12, u13, u14, u15, u16, u17, u18, u19, u20, u21, u22, .int .u8 (x.1.val : Int), u24, u25, u26, u27, u28, u29, u30, u31, u32, u33, u34, u35, u36, u37, u38, u39, u40, u41, u42, u43, u44, u45, u46, u47, u48, u49, u50, u51, u52, u53, u54, u55, u56, u57, u58, u59, u60, u61, u62, u63, u64, u65, u66, u67, u68, u69, u70, u71, u72, u73, u74, u75, u76, u77, u78, u79, u80, u81, u82, u83, u84, u85, u86, u87, u88, u89, u90, u91, u92, u93, u94, u95, u96, u97, u98, u99, u100, u101, u102, u103, u104, u105, u106, u107, u108, u109, u110, u111, u112, u113, u114, u115, u116, u117, u118, u119, u120, u121, u122, u123, u124, u125, u126, u127, u128, u129, u130, u131, u132, u133, .func (.func 35) #[] #[.pointer (some ⟨gb, 0, none⟩)], .int .u8 (x.1.val : Int), refV x.2, u137, u138, u139, u140, u141, u142, u143, u144, u145, u146, u147, u148, u149, u150, u151, u152, u153, u154, u155, u156, u157, u158], []⟩ W := hK _ _ (KeepsFrom.refl _ _) (KeepsB.refl _ _) hi rfl
    have HF := Lib.hid hfin
    clear hfin hK
    gi_wp2
    exact HF.out
  case body =>
    rintro l pre x a' W hl ⟨rec, hrec⟩ hi rfl hlen
    obtain ⟨f2, hf2⟩ := hi.1
    have e3 := hi.2.1.cell 0
    simp at e3
    have hT := (callsIn_wide (n := 7)).2 (Turn_k gk room f2 x.1.val (99, 0) W hf2 x.1.isLt)
    have HT : Hid (CallsIn Fence.wide 7 Try.prog 28 #[.pointer (some ⟨gk, 0, none⟩), .int .u8 (x.1.val : Int), .agg #[.int .i64 99, .int .u32 0]] W (FewEnd (.int .i64 (turnK f2 x.1.val (99, 0)).1) gk room (turnK f2 x.1.val (99, 0)).2 W)) := Lib.hid hT
    have HH := Lib.hid (And.intro hi hf2)
    have hx0 : (0 : Int) ≤ (x.1.val : Int) := by omega
    have hx1 : (x.1.val : Int) ≤ 255 := by have := x.1.isLt; omega
    have n1 : 1 ≤ 8 := by decide
    clear hi hf2 hT
    gi_wp2_with (fail)
    refine ⟨trivial, ?_⟩
    refine (CallsIn.inRound l HT.out).mono ?_
    rintro e W2 ⟨rfl, hf3, hg3⟩
    have hi2 := drainI_few HH.out.1 hne hf3 hg3
    have hk1 := keepsFrom_few (B := wx.heap.size) HH.out.2 hg3
    have hk2 := keepsB_few (B := wx.heap.size) HH.out.2 hg3
    have e3 := hi2.2.1.cell 0
    simp at e3
    have HK := (callsIn_wide (n := 7)).2 (Take_k gk room _ x.1.val W2 hf3 x.1.isLt)
    have HTK := Lib.hid HK
    have HH2 := Lib.hid (And.intro hi2 (And.intro hf3 (And.intro hk1 hk2)))
    clear hi2 hf3 hg3 hk1 hk2 HK HT HH
    gi_wp2_with (fail)
    refine ⟨trivial, ?_⟩
    refine (CallsIn.inRound l HTK.out).mono ?_
    rintro e W3 ⟨rfl, hf4, hg4⟩
    have hi3 := drainI_few HH2.out.1 hne hf4 hg4
    have hk1 := HH2.out.2.2.1.trans (keepsFrom_few (B := wx.heap.size) HH2.out.2.1 hg4)
    have hk2 := HH2.out.2.2.2.trans (keepsB_few (B := wx.heap.size) HH2.out.2.1 hg4)
    have HN := Lib.hid (And.intro hk1 (And.intro hk2 hi3))
    clear hi3 hk1 hk2 hf4 hg4 HTK HH2 e3
    gi_wp2
    exact HN.out
  case done =>
    rintro D xs W hD rfl hi hk
    exact HQ.out D W hD hi hk
  case stop =>
    rintro D c pre W hD hsp hx hk
    exact hx.elim
end Go.Proofs.Ytmcpfhhggapkcaa
