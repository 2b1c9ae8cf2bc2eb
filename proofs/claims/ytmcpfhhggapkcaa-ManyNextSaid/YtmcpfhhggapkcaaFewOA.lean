/-
  Layer 7: FewOrder's ranges over the kids of two rows.
-/
import Derived.Test.YtmcpfhhggapkcaaFewN
import Derived.Test.YtmcpfhhggapkcaaFewL2
namespace Go.Proofs.Ytmcpfhhggapkcaa
open Go.RowKit Go.Shelf
set_option linter.unusedVariables false
set_option linter.unusedSimpArgs false
attribute [local go_sem] Oper.semAt_some

theorem infoU8o : (Try.prog.info? 5).map (fun i => (i.zero, i.size, i.bytes)) = some (some (.int .u8 0), 1, 1) := by kernel_rfl
/-- The bytes of kids. -/
def rowB (l : List Kid) : List Value := l.map fun x => .int .u8 (x.1.val : Int)
theorem rowB_snoc (l : List Kid) (x : Kid) : rowB (l ++ [x]) = rowB l ++ [.int .u8 (x.1.val : Int)] := by simp [rowB]
/-- What holds between two rounds: the list of bytes, and the rest of the world. -/
def OrdI (lo gx : Nat) (R : World → Prop) (pre : List Kid) (W : World) : Prop :=
  (∃ v, Blk W gx 22 #[v] ∧ W.ownsRow lo 5 1 v pre.length (rowB pre)) ∧ R W ∧ lo ≤ W.heap.size
/-- What abides whatever is written beyond, or in the block gx. -/
def Stays (lo gx : Nat) (R : World → Prop) : Prop := ∀ W W' row, R W → W.grownBy W' row → (∀ r, row = some r → lo ≤ r ∨ r = gx) → R W'
theorem Stays.alloc {lo gx : Nat} {R : World → Prop} (h : Stays lo gx R) {W : World} (hR : R W) (o : Obj) : R (W.alloc o) := h W _ none hR (World.grownBy_alloc W o none) (fun r e => by cases e)
theorem ownsRow_own {W W' : World} {base : Nat} {e : TypeId} {size n : Nat} {v : Value} {xs : List Value} {row : Option Nat} (h : W.ownsRow base e size v n xs) (hg : W.grownBy W' row) (hr : ∀ r, row = some r → ∃ o : Obj, W.heap[r]? = some o ∧ o.isCells = false) : W'.ownsRow base e size v n xs := by
  refine h.kept hg ?_
  rcases h.2 with ⟨rfl, _⟩ | ⟨g, cap, cur, rfl, _, hgb, _⟩
  · exact .inl rfl
  · refine .inr fun e' => ?_
    obtain ⟨o, ho, hc⟩ := hr g (by simpa [Value.ownBlock] using e'.symm)
    rw [hgb] at ho; cases ho; cases hc
theorem ordI_own {lo gx : Nat} {R : World → Prop} (hR : Stays lo gx R) : OwnFrom lo (OrdI lo gx R) := by
  intro s W W' row hs hg hr
  obtain ⟨⟨v, h1, h2⟩, h3, h4⟩ := hs
  have hr' := fun r e => (hr r e).2
  exact ⟨⟨v, h1.own_ hg hr', ownsRow_own h2 hg hr'⟩, hR W W' row h3 hg (fun r e => .inl (hr r e).1), Nat.le_trans h4 hg.size⟩
theorem ordI_alloc {lo gx : Nat} {R : World → Prop} (hR : Stays lo gx R) {pre : List Kid} {W : World} (h : OrdI lo gx R pre W) (o : Obj) : OrdI lo gx R pre (W.alloc o) := by
  obtain ⟨⟨v, h1, h2⟩, h3, h4⟩ := h
  exact ⟨⟨v, h1.alloc o, h2.alloc o⟩, hR.alloc h3 o, Nat.le_trans h4 (by simp)⟩
/-- Behind the append and the store. -/
theorem appended {W w1 : World} {lo gx : Nat} {R : World → Prop} (hR : Stays lo gx R) {v v' : Value} {n : Nat} {xs ys : List Value} {tmp : Obj}
    (hv : Blk W gx 22 #[v]) (hrow : W.ownsRow lo 5 1 v n xs) (hRW : R W) (hlo : lo ≤ W.heap.size) (hgx : gx < lo) (hown' : w1.ownsRow lo 5 1 v' (n + 1) ys) (hgrow : (W.alloc tmp).grownBy w1 v.ownBlock) :
    Blk w1 gx 22 #[v] ∧ Blk (w1.setCell ⟨gx, 0, none⟩ v') gx 22 #[v'] ∧ (w1.setCell ⟨gx, 0, none⟩ v').ownsRow lo 5 1 v' (n + 1) ys ∧ KeepsFrom lo W (w1.setCell ⟨gx, 0, none⟩ v') ∧ KeepsB lo W (w1.setCell ⟨gx, 0, none⟩ v') ∧ R (w1.setCell ⟨gx, 0, none⟩ v') ∧ lo ≤ (w1.setCell ⟨gx, 0, none⟩ v').heap.size := by
  have hlt := hrow.lt
  have hn : some gx ≠ v.ownBlock := fun e => by have := (hlt gx e.symm).1; omega
  have hv1 : Blk w1 gx 22 #[v] := (hv.alloc tmp).grown hgrow hn
  have hown : ∀ g, v.ownBlock = some g → ∃ cs, Blk (W.alloc tmp) g 5 cs := by
    intro g hg
    rcases (hrow.alloc tmp).2 with ⟨rfl, _⟩ | ⟨g', cap, cur, rfl, _, hgb, _⟩
    · simp [Value.ownBlock] at hg
    · obtain rfl : g' = g := by simpa [Value.ownBlock] using hg
      exact ⟨cur, hgb⟩
  refine ⟨hv1, by simpa using hv1.set_ 0 v', hown'.kept (grownBy_setCell' w1 gx v') ?_, ?_, ?_, ?_, ?_⟩
  · cases hv' : v'.ownBlock with
    | none => exact .inl rfl
    | some g => exact .inr (fun e => by injection e with e; subst e; have := (hown'.lt g hv').1; omega)
  · refine (((KeepsOthers.alloc W tmp).trans (KeepsOthers.of_grownBy hgrow fun j o ej hj => ?_)).trans (KeepsOthers.setCell _ _ _)).from _
    obtain ⟨cs, hcs⟩ := hown j ej
    unfold Blk at hcs
    rw [hcs] at hj
    cases hj; rfl
  · exact ((KeepsB.of_below (below_box W tmp)).trans (KeepsB.of_other hgrow (fun g hg => by obtain ⟨cs, hcs⟩ := hown g hg; exact ⟨_, cs, hcs, by decide⟩))).trans (KeepsB.setCell _ _ _ hgx)
  · exact hR _ _ (some gx) (hR _ _ _ (hR.alloc hRW tmp) hgrow (fun r e => .inl (hlt r e).1)) (grownBy_setCell' w1 gx v') (fun r e => by injection e with e; exact .inr e.symm)
  · have h1 := hgrow.size
    simp at h1
    simp [World.setCell]
    omega

set_option maxHeartbeats 6400000 in
set_option maxRecDepth 100000 in
theorem ordA_loop (g8 gx gb g : Nat) (f : Kids) {u0 u1 u2 u3 u4 u5 u6 u7 u9 u10 u11 u12 u13 u14 u15 u16 u17 u18 u19 u20 u22 u23 u24 u25 u26 u27 u28 u29 u30 u31 u32 u33 u34 u35 u36 u37 u38 u39 u40 u41 u42 u43 u44 u45 u46 u47 u48 u49 u50 u51 u52 u53 u54 u55 u56 u57 u58 u59 u60 u61 u62 u63 u64 u65 u66 u67 u68 u69 u70 u71 u72 u73 u74 u75 u76 u77 u78 u79 u80 u81 u82 u83 u84 u85 u86 u87 u88 u89 u90 u91 u92 u93 u94 u95 u96 u97 u98 u99 u100 u101 u102 u103 u104 u105 u106 u107 u108 u109 u110 u111 u112 u113 u114 u115 u116 u117 u118 u119 u120 u121 u122 u123 u124 u125 u126 u127 u128 u129 u130 u131 u132 u133 u134 u135 u136 u137 u138 u139 u140 u141 u142 u143 u144 u145 u147 u148 u149 u150 u151 u152 u153 u154 u155 u156 u157 u158 u159 u160 u161 u162 u163 u164 u165 u166 u167 u168 u169 u170 u171 u172 u173 u174 u175 u176 u177 u178 u179 u180 u181 u182 u183 u184 u185 u186 u187 u188 u189 u190 u191 u192 u193 u194 u195 u196 u197 u198 u199 u200 u201 u202 u203 u204 u205 u206 u207 u208 u209 u210 u211 u212 u213 u214 u215 u216 : Value} (wx : World) {ds : List Deferred} {Q : Exit → Act → World → Prop} (R : World → Prop) (hR : Stays wx.heap.size gx R) (hR0 : R wx) (hgb : wx.cell? ⟨gb, 0, none⟩ = some (.pointer (some ⟨g, 0, none⟩))) (hf : FewAt wx g 16 f) (hx : Blk wx gx 22 #[.slice none 0 0]) (hkid : ∀ x ∈ kidsF f, x.2.1 = (x.1.val : Int)) (h8 : ∀ W, R W → Blk W g8 4 #[.bool false])
    (hQ : ∀ (D : Nat) (v : Value) (W : World), wx.heap.size ≤ D → Blk W gx 22 #[v] → W.ownsRow wx.heap.size 5 1 v (kidsF f).length (rowB (kidsF f)) → R W → wx.heap.size ≤ W.heap.size → W.heap[D]? = some (.deferred (some [])) → Q .normal ⟨#[u0, u1, u2, u3, u4, u5, u6, u7, .pointer (some ⟨g8, 0, none⟩), u9, u10, u11, u12, u13, u14, u15, u16, u17, u18, u19, u20, .pointer (some ⟨gx, 0, none⟩), u22, u23, u24, u25, u26, u27, u28, u29, u30, u31, u32, u33, u34, u35, u36, u37, u38, u39, u40, u41, u42, u43, u44, u45, u46, u47, u48, u49, u50, u51, u52, u53, u54, u55, u56, u57, u58, u59, u60, u61, u62, u63, u64, u65, u66, u67, u68, u69, u70, u71, u72, u73, u74, u75, u76, u77, u78, u79, u80, u81, u82, u83, u84, u85, u86, u87, u88, u89, u90, u91, u92, u93, u94, u95, u96, u97, u98, u99, u100, u101, u102, u103, u104, u105, u106, u107, u108, u109, u110, u111, u112, u113, u114, u115, u116, u117, u118, u119, u120, u121, u122, u123, u124, u125, u126, u127, u128, u129, u130, u131, u132, u133, u134, u135, u136, u137, u138, u139, u140, u141, u142, u143, u144, u145, .func (.func 35) #[] #[.pointer (some ⟨gb, 0, none⟩)], u147, u148, u149, u150, u151, u152, u153, u154, u155, u156, u157, u158, u159, u160, u161, u162, u163, u164, u165, u166, u167, u168, u169, u170, u171, u172, u173, u174, u175, u176, u177, u178, u179, u180, u181, u182, u183, u184, u185, u186, u187, u188, u189, u190, u191, u192, u193, u194, u195, u196, u197, u198, u199, u200, u201, u202, u203, u204, u205, u206, u207, u208, u209, u210, u211, u212, u213, u214, u215, u216], { target := .collected D, args := #[] } :: ds⟩ W) :
    Code.wp Try.prog (part Try.f3 [1, 1, 1, 1, 1, 1, 1, 1, 1, 1, 1, 1, 1, 0, 1]) Q ⟨#[u0, u1, u2, u3, u4, u5, u6, u7, .pointer (some ⟨g8, 0, none⟩), u9, u10, u11, u12, u13, u14, u15, u16, u17, u18, u19, u20, .pointer (some ⟨gx, 0, none⟩), u22, u23, u24, u25, u26, u27, u28, u29, u30, u31, u32, u33, u34, u35, u36, u37, u38, u39, u40, u41, u42, u43, u44, u45, u46, u47, u48, u49, u50, u51, u52, u53, u54, u55, u56, u57, u58, u59, u60, u61, u62, u63, u64, u65, u66, u67, u68, u69, u70, u71, u72, u73, u74, u75, u76, u77, u78, u79, u80, u81, u82, u83, u84, u85, u86, u87, u88, u89, u90, u91, u92, u93, u94, u95, u96, u97, u98, u99, u100, u101, u102, u103, u104, u105, u106, u107, u108, u109, u110, u111, u112, u113, u114, u115, u116, u117, u118, u119, u120, u121, u122, u123, u124, u125, u126, u127, u128, u129, u130, u131, u132, u133, u134, u135, u136, u137, u138, u139, u140, u141, u142, u143, u144, u145, .func (.func 35) #[] #[.pointer (some ⟨gb, 0, none⟩)], u147, u148, u149, u150, u151, u152, u153, u154, u155, u156, u157, u158, u159, u160, u161, u162, u163, u164, u165, u166, u167, u168, u169, u170, u171, u172, u173, u174, u175, u176, u177, u178, u179, u180, u181, u182, u183, u184, u185, u186, u187, u188, u189, u190, u191, u192, u193, u194, u195, u196, u197, u198, u199, u200, u201, u202, u203, u204, u205, u206, u207, u208, u209, u210, u211, u212, u213, u214, u215, u216], ds⟩ wx := by
  conv => arg 2; whnf
  obtain ⟨i0, hi, hz0, hz1, hz2⟩ := info_parts infoU8o
  have HQ := Lib.hid hQ
  have hgx := hx.lt
  clear hQ
  refine wp_block ?_
  refine (wpIn_wide (n := 10)).1 ?_
  refine wpIn_rangeFunc_ownH rfl (by decide) (gf := 35) (lb := #[.pointer (some ⟨gb, 0, none⟩)]) rfl trivial (enters_of Try.func35 (by kernel_rfl) rfl)
    (all_stops gb g 9 wx.heap.size 16 f wx (Nat.le_refl _) (by decide) hgb hf) (fun h k => h.trans k) (fun W l o o' hl h1 h2 h3 => KeepsB.book W l o o' h1 h2) (Below.refl _ _) (fun _ => rfl)
    (OrdI wx.heap.size gx R) (fun _ pre W => ¬ (pre <+: kidsF f)) (ordI_own hR) (fun c s W W' row hs hg hr => hs) ⟨⟨_, hx, World.ownsRow_nil _ _ _ _⟩, hR0, Nat.le_refl _⟩
    (fun x a' W => NextA x wx.heap.size (fun B9 => ⟨#[u0, u1, u2, u3, u4, u5, u6, u7, .pointer (some ⟨g8, 0, none⟩), u9, u10, u11, u12, u13, u14, u15, u16, u17, u18, u19, u20, .pointer (some ⟨gx, 0, none⟩), u22, .int .u8 (x.1.val : Int), .pointer (some ⟨B9, 0, none⟩), u25, u26, u27, u28, u29, u30, u31, u32, u33, u34, u35, u36, u37, u38, u39, u40, u41, u42, u43, u44, u45, u46, u47, u48, u49, u50, u51, u52, u53, u54, u55, u56, u57, u58, u59, u60, u61, u62, u63, u64, u65, u66, u67, u68, u69, u70, u71, u72, u73, u74, u75, u76, u77, u78, u79, u80, u81, u82, u83, u84, u85, u86, u87, u88, u89, u90, u91, u92, u93, u94, u95, u96, u97, u98, u99, u100, u101, u102, u103, u104, u105, u106, u107, u108, u109, u110, u111, u112, u113, u114, u115, u116, u117, u118, u119, u120, u121, u122, u123, u124, u125, u126, u127, u128, u129, u130, u131, u132, u133, u134, u135, u136, u137, u138, u139, u140, u141, u142, u143, u144, u145, .func (.func 35) #[] #[.pointer (some ⟨gb, 0, none⟩)], .int .u8 (x.1.val : Int), refV x.2, u149, u150, u151, u152, u153, u154, u155, u156, u157, u158, u159, u160, u161, u162, u163, u164, u165, u166, u167, u168, u169, u170, u171, u172, u173, u174, u175, u176, u177, u178, u179, u180, u181, u182, u183, u184, u185, u186, u187, u188, u189, u190, u191, u192, u193, u194, u195, u196, u197, u198, u199, u200, u201, u202, u203, u204, u205, u206, u207, u208, u209, u210, u211, u212, u213, u214, u215, u216], []⟩) a' W) (fun x a' s W W' row hs hg hr => (show NextA x wx.heap.size _ a' W' from by obtain ⟨B9, hb, he, hk⟩ := hs; exact ⟨B9, hb, he, hk.own_ hg (fun r e => (hr r e).2)⟩)) ?assign ?body ?done ?stop
  case assign =>
    rintro l pre x W K hi hK
    have hfin : K ⟨#[u0, u1, u2, u3, u4, u5, u6, u7, .pointer (some ⟨g8, 0, none⟩), u9, u10, u11, u12, u13, u14, u15, u16, u17, u18, u19, u20, .pointer (some ⟨gx, 0, none⟩), u22, .int .u8 (x.1.val : Int), .pointer (some ⟨W.heap.size, 0, none⟩), u25, u26, u27, u28, u29, u30, u31, u32, u33, u34, u35, u36, u37, u38, u39, u40, u41, u42, u43, u44, u45, u46, u47, u48, u49, u50, u51, u52, u53, u54, u55, u56, u57, u58, u59, u60, u61, u62, u63, u64, u65, u66, u67, u68, u69, u70, u71, u72, u73, u74, u75, u76, u77, u78, u79, u80, u81, u82, u83, u84, u85, u86, u87, u88, u89, u90, u91, u92, u93, u94, u95, u96, u97, u98, u99, u100, u101, u102, u103, u104, u105, u106, u107, u108, u109, u110, u111, u112, u113, u114, u115, u116, u117, u118, u119, u120, u121, u122, u123, u124, u125, u126, u127, u128, u129, u130, u131, u132, u133, u134, u135, u136, u137, u138, u139, u140, u141, u142, u143, u144, u145, .func (.func 35) #[] #[.pointer (some ⟨gb, 0, none⟩)], .int .u8 (x.1.val : Int), refV x.2, u149, u150, u151, u152, u153, u154, u155, u156, u157, u158, u159, u160, u161, u162, u163, u164, u165, u166, u167, u168, u169, u170, u171, u172, u173, u174, u175, u176, u177, u178, u179, u180, u181, u182, u183, u184, u185, u186, u187, u188, u189, u190, u191, u192, u193, u194, u195, u196, u197, u198, u199, u200, u201, u202, u203, u204, u205, u206, u207, u208, u209, u210, u211, u212, u213, u214, u215, u216], []⟩ (W.alloc (.cells #[.int .i64 x.2.1, .int .u32 x.2.2] 31)) :=
      hK _ _ ((KeepsOthers.alloc W _).from _) (KeepsB.of_below (below_box W _)) (ordI_alloc hR hi _) ⟨W.heap.size, hi.2.2, rfl, Blk.new _ _ _⟩
    have HF := Lib.hid hfin
    clear hfin hK
    gi_wp2
    exact HF.out
  case body =>
    rintro l pre x a' W hl ⟨rec, hrec⟩ ⟨⟨v, hv, hrow⟩, hRW, hsz⟩ ⟨B9, hB9, rfl, hk9⟩ hlen
    have h8W := h8 W hRW
    have e8 := h8W.cell 0
    have g80 := h8W.frozen 0
    have l8 := h8W.lt
    have e90 := hk9.cell 0
    have ex := hv.cell 0
    simp at e8 e90 ex
    have HO := Lib.hid (And.intro hv (And.intro hrow (And.intro hRW hsz)))
    have hx0 : (0 : Int) ≤ (x.1.val : Int) := by omega
    have hx1 : (x.1.val : Int) ≤ 255 := by have := x.1.isLt; omega
    have n1 : 1 ≤ 8 := by decide
    have sw : IntKind.i64.wrap (x.1.val : Int) = (x.1.val : Int) := IntWalk.i64_in _ (by omega)
    obtain ⟨A, c, rfl, hA0, hnc, hcm⟩ := own_form hrow
    clear h8W hk9 hv hrow hRW hsz
    by_cases hs : x.2.1 = (x.1.val : Int)
    · have hsb : (x.2.1 != (x.1.val : Int)) = false := by rw [hs]; simp
      gi_wp2_with (gi_at_builtin; refine wpListIn_append_own _ rfl _ _ 22 rfl wx.heap.size 5 i0 (.int .u8 0) 1 1 Try.underlying22 hi hz0 hz1 hz2 rfl (by decide) _ _ _ rfl (HO.out.2.1.alloc _) ⟨W.heap.size, 0, none⟩ 1 1 [.int .u8 (x.1.val : Int)] rfl rfl (cell_one_new _ _ _) (by simp [Value.oneCell']) (by unfold maxLen; omega) (by omega) (by have := HO.out.2.2.2; simp; omega) ?_; intro v' w1 hown' hgrow _; obtain ⟨g', cap', rfl⟩ := ownsRow_succ hown'; obtain ⟨hv1, hv2, hr2, hk2, hb2, hR2, hs2⟩ := appended hR HO.out.1 HO.out.2.1 HO.out.2.2.1 HO.out.2.2.2 hgx hown' hgrow; have HN := Lib.hid (And.intro hv2 (And.intro hr2 (And.intro hk2 (And.intro hb2 (And.intro hR2 hs2))))); have hc1 := hv1.cell 0; have hf1 := hv1.frozen 0; have hl1 := hv1.lt; simp at hc1; clear hv1 hv2 hr2 hk2 hb2 hR2 hs2 hown' hgrow)
      exact ⟨HN.out.2.2.1, HN.out.2.2.2.1, ⟨_, HN.out.1, by rw [rowB_snoc]; simpa using HN.out.2.1⟩, HN.out.2.2.2.2.1, HN.out.2.2.2.2.2⟩
    · have hsb : (x.2.1 != (x.1.val : Int)) = true := by rw [bne_iff_ne]; exact hs
      have hkf : KeepsFrom wx.heap.size W (W.setCell ⟨g8, 0, none⟩ (.bool false)) := (KeepsOthers.setCell _ _ _).from _
      have HKF := Lib.hid hkf
      clear hkf
      gi_wp2
      have hx : ¬ (pre ++ [x]) <+: kidsF f := fun hp => hs (hkid x (hp.subset (by simp)))
      exact ⟨HKF.out, hx⟩
  case done =>
    rintro D xs W hD rfl ⟨⟨v, h1, h2⟩, h3, h4⟩ hk
    exact HQ.out D v W hD h1 h2 h3 h4 hk
  case stop =>
    rintro D c pre W hD hsp hx hk
    exact absurd hsp hx

set_option maxHeartbeats 6400000 in
set_option maxRecDepth 100000 in
theorem ordB_loop (gx gb g : Nat) (f : Kids) {u0 u1 u2 u3 u4 u5 u6 u7 u8 u9 u10 u11 u12 u13 u14 u15 u16 u17 u18 u19 u20 u21 u23 u24 u25 u26 u27 u28 u29 u30 u31 u32 u33 u34 u35 u36 u37 u38 u39 u40 u41 u42 u43 u44 u45 u46 u47 u48 u49 u50 u51 u52 u53 u54 u55 u56 u57 u58 u59 u60 u61 u62 u63 u64 u65 u66 u67 u68 u69 u70 u71 u72 u73 u74 u75 u76 u77 u78 u79 u80 u81 u82 u83 u84 u85 u86 u87 u88 u89 u90 u91 u92 u93 u94 u95 u96 u97 u98 u99 u100 u101 u102 u103 u104 u105 u106 u107 u108 u109 u110 u111 u112 u113 u114 u115 u116 u117 u118 u119 u120 u121 u122 u123 u124 u125 u126 u127 u128 u129 u130 u131 u132 u133 u134 u135 u136 u137 u138 u139 u140 u141 u142 u143 u144 u145 u146 u147 u148 u149 u150 u151 u152 u153 u154 u155 u156 u157 u158 u160 u161 u162 u163 u164 u165 u166 u167 u168 u169 u170 u171 u172 u173 u174 u175 u176 u177 u178 u179 u180 u181 u182 u183 u184 u185 u186 u187 u188 u189 u190 u191 u192 u193 u194 u195 u196 u197 u198 u199 u200 u201 u202 u203 u204 u205 u206 u207 u208 u209 u210 u211 u212 u213 u214 u215 u216 : Value} (wx : World) {ds : List Deferred} {Q : Exit → Act → World → Prop} (R : World → Prop) (hR : Stays wx.heap.size gx R) (hR0 : R wx) (hgb : wx.cell? ⟨gb, 0, none⟩ = some (.pointer (some ⟨g, 0, none⟩))) (hf : FewAt wx g 16 f) (hx : Blk wx gx 22 #[.slice none 0 0]) 
    (hQ : ∀ (D : Nat) (v : Value) (W : World), wx.heap.size ≤ D → Blk W gx 22 #[v] → W.ownsRow wx.heap.size 5 1 v (kidsF f).length (rowB (kidsF f)) → R W → wx.heap.size ≤ W.heap.size → W.heap[D]? = some (.deferred (some [])) → Q .normal ⟨#[u0, u1, u2, u3, u4, u5, u6, u7, u8, u9, u10, u11, u12, u13, u14, u15, u16, u17, u18, u19, u20, u21, .pointer (some ⟨gx, 0, none⟩), u23, u24, u25, u26, u27, u28, u29, u30, u31, u32, u33, u34, u35, u36, u37, u38, u39, u40, u41, u42, u43, u44, u45, u46, u47, u48, u49, u50, u51, u52, u53, u54, u55, u56, u57, u58, u59, u60, u61, u62, u63, u64, u65, u66, u67, u68, u69, u70, u71, u72, u73, u74, u75, u76, u77, u78, u79, u80, u81, u82, u83, u84, u85, u86, u87, u88, u89, u90, u91, u92, u93, u94, u95, u96, u97, u98, u99, u100, u101, u102, u103, u104, u105, u106, u107, u108, u109, u110, u111, u112, u113, u114, u115, u116, u117, u118, u119, u120, u121, u122, u123, u124, u125, u126, u127, u128, u129, u130, u131, u132, u133, u134, u135, u136, u137, u138, u139, u140, u141, u142, u143, u144, u145, u146, u147, u148, u149, u150, u151, u152, u153, u154, u155, u156, u157, u158, .func (.func 35) #[] #[.pointer (some ⟨gb, 0, none⟩)], u160, u161, u162, u163, u164, u165, u166, u167, u168, u169, u170, u171, u172, u173, u174, u175, u176, u177, u178, u179, u180, u181, u182, u183, u184, u185, u186, u187, u188, u189, u190, u191, u192, u193, u194, u195, u196, u197, u198, u199, u200, u201, u202, u203, u204, u205, u206, u207, u208, u209, u210, u211, u212, u213, u214, u215, u216], { target := .collected D, args := #[] } :: ds⟩ W) :
    Code.wp Try.prog (part Try.f3 [1, 1, 1, 1, 1, 1, 1, 1, 1, 1, 1, 1, 1, 1, 0, 1]) Q ⟨#[u0, u1, u2, u3, u4, u5, u6, u7, u8, u9, u10, u11, u12, u13, u14, u15, u16, u17, u18, u19, u20, u21, .pointer (some ⟨gx, 0, none⟩), u23, u24, u25, u26, u27, u28, u29, u30, u31, u32, u33, u34, u35, u36, u37, u38, u39, u40, u41, u42, u43, u44, u45, u46, u47, u48, u49, u50, u51, u52, u53, u54, u55, u56, u57, u58, u59, u60, u61, u62, u63, u64, u65, u66, u67, u68, u69, u70, u71, u72, u73, u74, u75, u76, u77, u78, u79, u80, u81, u82, u83, u84, u85, u86, u87, u88, u89, u90, u91, u92, u93, u94, u95, u96, u97, u98, u99, u100, u101, u102, u103, u104, u105, u106, u107, u108, u109, u110, u111, u112, u113, u114, u115, u116, u117, u118, u119, u120, u121, u122, u123, u124, u125, u126, u127, u128, u129, u130, u131, u132, u133, u134, u135, u136, u137, u138, u139, u140, u141, u142, u143, u144, u145, u146, u147, u148, u149, u150, u151, u152, u153, u154, u155, u156, u157, u158, .func (.func 35) #[] #[.pointer (some ⟨gb, 0, none⟩)], u160, u161, u162, u163, u164, u165, u166, u167, u168, u169, u170, u171, u172, u173, u174, u175, u176, u177, u178, u179, u180, u181, u182, u183, u184, u185, u186, u187, u188, u189, u190, u191, u192, u193, u194, u195, u196, u197, u198, u199, u200, u201, u202, u203, u204, u205, u206, u207, u208, u209, u210, u211, u212, u213, u214, u215, u216], ds⟩ wx := by
  conv => arg 2; whnf
  obtain ⟨i0, hi, hz0, hz1, hz2⟩ := info_parts infoU8o
  have HQ := Lib.hid hQ
  have hgx := hx.lt
  clear hQ
  refine wp_block ?_
  refine (wpIn_wide (n := 10)).1 ?_
  refine wpIn_rangeFunc_ownH rfl (by decide) (gf := 35) (lb := #[.pointer (some ⟨gb, 0, none⟩)]) rfl trivial (enters_of Try.func35 (by kernel_rfl) rfl)
    (all_stops gb g 9 wx.heap.size 16 f wx (Nat.le_refl _) (by decide) hgb hf) (fun h k => h.trans k) (fun W l o o' hl h1 h2 h3 => KeepsB.book W l o o' h1 h2) (Below.refl _ _) (fun _ => rfl)
    (OrdI wx.heap.size gx R) (fun _ pre W => ¬ (pre <+: kidsF f)) (ordI_own hR) (fun c s W W' row hs hg hr => hs) ⟨⟨_, hx, World.ownsRow_nil _ _ _ _⟩, hR0, Nat.le_refl _⟩
    (fun x a' W => a' = ⟨#[u0, u1, u2, u3, u4, u5, u6, u7, u8, u9, u10, u11, u12, u13, u14, u15, u16, u17, u18, u19, u20, u21, .pointer (some ⟨gx, 0, none⟩), u23, u24, .int .u8 (x.1.val : Int), u26, u27, u28, u29, u30, u31, u32, u33, u34, u35, u36, u37, u38, u39, u40, u41, u42, u43, u44, u45, u46, u47, u48, u49, u50, u51, u52, u53, u54, u55, u56, u57, u58, u59, u60, u61, u62, u63, u64, u65, u66, u67, u68, u69, u70, u71, u72, u73, u74, u75, u76, u77, u78, u79, u80, u81, u82, u83, u84, u85, u86, u87, u88, u89, u90, u91, u92, u93, u94, u95, u96, u97, u98, u99, u100, u101, u102, u103, u104, u105, u106, u107, u108, u109, u110, u111, u112, u113, u114, u115, u116, u117, u118, u119, u120, u121, u122, u123, u124, u125, u126, u127, u128, u129, u130, u131, u132, u133, u134, u135, u136, u137, u138, u139, u140, u141, u142, u143, u144, u145, u146, u147, u148, u149, u150, u151, u152, u153, u154, u155, u156, u157, u158, .func (.func 35) #[] #[.pointer (some ⟨gb, 0, none⟩)], .int .u8 (x.1.val : Int), refV x.2, u162, u163, u164, u165, u166, u167, u168, u169, u170, u171, u172, u173, u174, u175, u176, u177, u178, u179, u180, u181, u182, u183, u184, u185, u186, u187, u188, u189, u190, u191, u192, u193, u194, u195, u196, u197, u198, u199, u200, u201, u202, u203, u204, u205, u206, u207, u208, u209, u210, u211, u212, u213, u214, u215, u216], []⟩) (fun x a' s W W' row hs hg hr => hs) ?assign ?body ?done ?stop
  case assign =>
    rintro l pre x W K hi hK
    have hfin : K ⟨#[u0, u1, u2, u3, u4, u5, u6, u7, u8, u9, u10, u11, u12, u13, u14, u15, u16, u17, u18, u19, u20, u21, .pointer (some ⟨gx, 0, none⟩), u23, u24, .int .u8 (x.1.val : Int), u26, u27, u28, u29, u30, u31, u32, u33, u34, u35, u36, u37, u38, u39, u40, u41, u42, u43, u44, u45, u46, u47, u48, u49, u50, u51, u52, u53, u54, u55, u56, u57, u58, u59, u60, u61, u62, u63, u64, u65, u66, u67, u68, u69, u70, u71, u72, u73, u74, u75, u76, u77, u78, u79, u80, u81, u82, u83, u84, u85, u86, u87, u88, u89, u90, u91, u92, u93, u94, u95, u96, u97, u98, u99, u100, u101, u102, u103, u104, u105, u106, u107, u108, u109, u110, u111, u112, u113, u114, u115, u116, u117, u118, u119, u120, u121, u122, u123, u124, u125, u126, u127, u128, u129, u130, u131, u132, u133, u134, u135, u136, u137, u138, u139, u140, u141, u142, u143, u144, u145, u146, u147, u148, u149, u150, u151, u152, u153, u154, u155, u156, u157, u158, .func (.func 35) #[] #[.pointer (some ⟨gb, 0, none⟩)], .int .u8 (x.1.val : Int), refV x.2, u162, u163, u164, u165, u166, u167, u168, u169, u170, u171, u172, u173, u174, u175, u176, u177, u178, u179, u180, u181, u182, u183, u184, u185, u186, u187, u188, u189, u190, u191, u192, u193, u194, u195, u196, u197, u198, u199, u200, u201, u202, u203, u204, u205, u206, u207, u208, u209, u210, u211, u212, u213, u214, u215, u216], []⟩ W := hK _ _ (KeepsFrom.refl _ _) (KeepsB.refl _ _) hi rfl
    have HF := Lib.hid hfin
    clear hfin hK
    gi_wp2
    exact HF.out
  case body =>
    rintro l pre x a' W hl ⟨rec, hrec⟩ ⟨⟨v, hv, hrow⟩, hRW, hsz⟩ rfl hlen
    have ex := hv.cell 0
    simp at ex
    have HO := Lib.hid (And.intro hv (And.intro hrow (And.intro hRW hsz)))
    have hx0 : (0 : Int) ≤ (x.1.val : Int) := by omega
    have hx1 : (x.1.val : Int) ≤ 255 := by have := x.1.isLt; omega
    have n1 : 1 ≤ 8 := by decide
    obtain ⟨A, c, rfl, hA0, hnc, hcm⟩ := own_form hrow
    clear hv hrow hRW hsz
    gi_wp2_with (gi_at_builtin; refine wpListIn_append_own _ rfl _ _ 22 rfl wx.heap.size 5 i0 (.int .u8 0) 1 1 Try.underlying22 hi hz0 hz1 hz2 rfl (by decide) _ _ _ rfl (HO.out.2.1.alloc _) ⟨W.heap.size, 0, none⟩ 1 1 [.int .u8 (x.1.val : Int)] rfl rfl (cell_one_new _ _ _) (by simp [Value.oneCell']) (by unfold maxLen; omega) (by omega) (by have := HO.out.2.2.2; simp; omega) ?_; intro v' w1 hown' hgrow _; obtain ⟨g', cap', rfl⟩ := ownsRow_succ hown'; obtain ⟨hv1, hv2, hr2, hk2, hb2, hR2, hs2⟩ := appended hR HO.out.1 HO.out.2.1 HO.out.2.2.1 HO.out.2.2.2 hgx hown' hgrow; have HN := Lib.hid (And.intro hv2 (And.intro hr2 (And.intro hk2 (And.intro hb2 (And.intro hR2 hs2))))); have hc1 := hv1.cell 0; have hf1 := hv1.frozen 0; have hl1 := hv1.lt; simp at hc1; clear hv1 hv2 hr2 hk2 hb2 hR2 hs2 hown' hgrow)
    exact ⟨HN.out.2.2.1, HN.out.2.2.2.1, ⟨_, HN.out.1, by rw [rowB_snoc]; simpa using HN.out.2.1⟩, HN.out.2.2.2.2.1, HN.out.2.2.2.2.2⟩
  case done =>
    rintro D xs W hD rfl ⟨⟨v, h1, h2⟩, h3, h4⟩ hk
    exact HQ.out D v W hD h1 h2 h3 h4 hk
  case stop =>
    rintro D c pre W hD hsp hx hk
    exact absurd hsp hx
end Go.Proofs.Ytmcpfhhggapkcaa
