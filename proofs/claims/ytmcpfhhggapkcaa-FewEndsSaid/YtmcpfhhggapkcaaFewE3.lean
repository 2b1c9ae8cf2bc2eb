/-
  Layer 7: FewEnds' range that stops early.
-/
import Derived.Test.YtmcpfhhggapkcaaFewD3
namespace Go.Proofs.Ytmcpfhhggapkcaa
open Go.RowKit Go.Shelf
set_option linter.unusedVariables false
set_option linter.unusedSimpArgs false
attribute [local go_sem] Oper.semAt_some

/-- Each kid that is seen is taken, and the byte behind it. -/
def drainF (f : Kids) (pre : List Kid) : Kids := pre.foldl (fun f x => (takeK (takeK f x.1.val).2 ((x.1.val + 1) % 256)).2) f
theorem drainF_snoc (f : Kids) (pre : List Kid) (x : Kid) : drainF f (pre ++ [x]) = (takeK (takeK (drainF f pre) x.1.val).2 ((x.1.val + 1) % 256)).2 := by unfold drainF; rw [List.foldl_append]; rfl
def BrkI (w : World) (lo g0 g8 g10 gk : Nat) (f : Kids) (pre : List Kid) (W : World) : Prop :=
  FewAt W gk 4 (drainF f pre) ∧ Blk W g10 3 #[.int .i64 (pre.length : Int)] ∧ Blk W g8 24 #[.pointer (some ⟨gk, 0, none⟩)] ∧ Blk W g0 4 #[.bool false] ∧ Below w.heap.size w W ∧ lo ≤ W.heap.size
theorem brkI_own {w wx W W' : World} {lo g0 g8 g10 gk : Nat} {f : Kids} {s : List Kid} {row : Option Nat} (hw : w.heap.size ≤ wx.heap.size) (hs : BrkI w lo g0 g8 g10 gk f s W) (hg : W.grownBy W' row) (hr : ∀ r, row = some r → wx.heap.size ≤ r ∧ ∃ o : Obj, W.heap[r]? = some o ∧ o.isCells = false) : BrkI w lo g0 g8 g10 gk f s W' := by
  obtain ⟨h1, h2, h3, h4, h5, h6⟩ := hs
  have hr' := fun r e => (hr r e).2
  exact ⟨h1.own_ hg hr', h2.own_ hg hr', h3.own_ hg hr', h4.own_ hg hr', ownFrom_below (β := Unit) (Nat.le_refl _) hw () W W' row h5 hg hr, Nat.le_trans h6 hg.size⟩
/-- Behind two Takes. -/
theorem brkI_step {w W W2 W3 : World} {lo g0 g8 g10 gk : Nat} {f : Kids} {pre : List Kid} {x : Kid} (h : BrkI w lo g0 g8 g10 gk f pre W) (hge : w.heap.size ≤ gk ∧ w.heap.size ≤ g10) {f1 : Kids} (hf1 : FewAt W2 gk 4 f1) (h1 : W.grownBy W2 (some gk)) (hf2 : FewAt W3 gk 4 (drainF f (pre ++ [x]))) (h2 : W2.grownBy W3 (some gk)) :
    BrkI w lo g0 g8 g10 gk f (pre ++ [x]) (W3.setCell ⟨g10, 0, none⟩ (.int .i64 ((pre.length : Int) + 1))) := by
  obtain ⟨a1, a2, a3, a4, a5, a6⟩ := h
  have k1 : Blk W3 g10 3 #[.int .i64 (pre.length : Int)] := (a2.grown h1 (fun e => a1.ne_blk a2 (by decide) (by injection e with e; exact e.symm))).grown h2 (fun e => a1.ne_blk a2 (by decide) (by injection e with e; exact e.symm))
  have k2 : Blk W3 g8 24 #[.pointer (some ⟨gk, 0, none⟩)] := (a3.grown h1 (fun e => a1.ne_blk a3 (by decide) (by injection e with e; exact e.symm))).grown h2 (fun e => a1.ne_blk a3 (by decide) (by injection e with e; exact e.symm))
  have k3 : Blk W3 g0 4 #[.bool false] := (a4.grown h1 (fun e => a1.ne_blk a4 (by decide) (by injection e with e; exact e.symm))).grown h2 (fun e => a1.ne_blk a4 (by decide) (by injection e with e; exact e.symm))
  have hb1 := a5.grown h1 a5.size (fun k e => by injection e with e; omega)
  have hb2 := hb1.grown h2 hb1.size (fun k e => by injection e with e; omega)
  refine ⟨hf2.setOther (p := ⟨g10, 0, none⟩) k1 (by decide) _, ?_, k2.far (p := ⟨g10, 0, none⟩) (blk_neF k2 k1 (by decide)) _, k3.far (p := ⟨g10, 0, none⟩) (blk_neF k3 k1 (by decide)) _, hb2.setCell (p := ⟨g10, 0, none⟩) hge.2 _, ?_⟩
  · simpa using k1.set_ 0 (.int .i64 ((pre.length : Int) + 1))
  · have := h1.size
    have := h2.size
    simp [World.setCell]
    omega
theorem u8_next (b : Nat) : IntKind.u8.wrap ((b : Int) + 1) = (((b + 1) % 256 : Nat) : Int) := by
  simp [IntKind.wrap, IntKind.bits, IntKind.signed]

set_option maxHeartbeats 6400000 in
set_option maxRecDepth 100000 in
theorem break_loop (g0 g8 g10 gk gb : Nat) (f : Kids) {u0 u1 u2 u3 u4 u5 u6 u7 u9 u11 u12 u13 u14 u15 u16 u17 u18 u19 u20 u21 u22 u23 u24 u25 u26 u27 u28 u29 u30 u31 u32 u33 u34 u35 u36 u37 u38 u39 u40 u41 u42 u43 u44 u45 u46 u47 u48 u49 u50 u51 u52 u53 u54 u55 u56 u57 u58 u59 u60 u61 u62 u63 u64 u65 u66 u67 u68 u69 u70 u71 u72 u73 u74 u75 u76 u77 u78 u79 u80 u81 u82 u83 u84 u85 u86 u87 u88 u89 u90 u91 u92 u93 u94 u95 u96 u98 u99 u100 u101 u102 u103 u104 u105 u106 u107 u108 u109 u110 u111 u112 u113 u114 u115 u116 u117 u118 u119 u120 u121 u122 u123 u124 u125 u126 u127 u128 u129 u130 u131 u132 u133 u134 u135 u136 u137 u138 u139 u140 u141 u142 u143 u144 u145 u146 u147 u148 u149 u150 u151 u152 u153 u154 u155 u156 u157 u158 u159 u160 u161 u162 u163 u164 u165 u166 u167 u168 u169 u170 u171 u172 u173 u174 u175 u176 u177 u178 u179 u180 u181 u182 u183 u184 u185 u186 u187 u188 u189 u190 u191 u192 u193 u194 u195 u196 u197 u198 u199 u200 u201 u202 u203 u204 u205 u206 u207 : Value} (w wx : World) {Q : Exit → Act → World → Prop} (hgb : wx.cell? ⟨gb, 0, none⟩ = some (.pointer (some ⟨gk, 0, none⟩))) (hw : w.heap.size ≤ wx.heap.size) (hI : BrkI w wx.heap.size g0 g8 g10 gk f [] wx) (hlen : 2 ≤ (kidsF f).length)
    (hge : w.heap.size ≤ gk ∧ w.heap.size ≤ g10) (hlt : g10 < wx.heap.size)
    (hQ : ∀ (D : Nat) (pre : List Kid) (W : World), wx.heap.size ≤ D → pre <+: kidsF f → pre.length = 2 → BrkI w wx.heap.size g0 g8 g10 gk f pre W → W.heap[D]? = some (.deferred (some [])) → Q .normal ⟨#[u0, u1, u2, u3, u4, u5, u6, u7, .pointer (some ⟨g8, 0, none⟩), u9, .pointer (some ⟨g10, 0, none⟩), u11, u12, u13, u14, u15, u16, u17, u18, u19, u20, u21, u22, u23, u24, u25, u26, u27, u28, u29, u30, u31, u32, u33, u34, u35, u36, u37, u38, u39, u40, u41, u42, u43, u44, u45, u46, u47, u48, u49, u50, u51, u52, u53, u54, u55, u56, u57, u58, u59, u60, u61, u62, u63, u64, u65, u66, u67, u68, u69, u70, u71, u72, u73, u74, u75, u76, u77, u78, u79, u80, u81, u82, u83, u84, u85, u86, u87, u88, u89, u90, u91, u92, u93, u94, u95, u96, .func (.func 35) #[] #[.pointer (some ⟨gb, 0, none⟩)], u98, u99, u100, u101, u102, u103, u104, u105, u106, u107, u108, u109, u110, u111, u112, u113, u114, u115, u116, u117, u118, u119, u120, u121, u122, u123, u124, u125, u126, u127, u128, u129, u130, u131, u132, u133, u134, u135, u136, u137, u138, u139, u140, u141, u142, u143, u144, u145, u146, u147, u148, u149, u150, u151, u152, u153, u154, u155, u156, u157, u158, u159, u160, u161, u162, u163, u164, u165, u166, u167, u168, u169, u170, u171, u172, u173, u174, u175, u176, u177, u178, u179, u180, u181, u182, u183, u184, u185, u186, u187, u188, u189, u190, u191, u192, u193, u194, u195, u196, u197, u198, u199, u200, u201, u202, u203, u204, u205, u206, u207], [{ target := .collected D, args := #[] }]⟩ W) :
    Code.wp Try.prog (part Try.f7 [1, 1, 1, 1, 1, 1, 1, 1, 1, 0, 1]) Q ⟨#[u0, u1, u2, u3, u4, u5, u6, u7, .pointer (some ⟨g8, 0, none⟩), u9, .pointer (some ⟨g10, 0, none⟩), u11, u12, u13, u14, u15, u16, u17, u18, u19, u20, u21, u22, u23, u24, u25, u26, u27, u28, u29, u30, u31, u32, u33, u34, u35, u36, u37, u38, u39, u40, u41, u42, u43, u44, u45, u46, u47, u48, u49, u50, u51, u52, u53, u54, u55, u56, u57, u58, u59, u60, u61, u62, u63, u64, u65, u66, u67, u68, u69, u70, u71, u72, u73, u74, u75, u76, u77, u78, u79, u80, u81, u82, u83, u84, u85, u86, u87, u88, u89, u90, u91, u92, u93, u94, u95, u96, .func (.func 35) #[] #[.pointer (some ⟨gb, 0, none⟩)], u98, u99, u100, u101, u102, u103, u104, u105, u106, u107, u108, u109, u110, u111, u112, u113, u114, u115, u116, u117, u118, u119, u120, u121, u122, u123, u124, u125, u126, u127, u128, u129, u130, u131, u132, u133, u134, u135, u136, u137, u138, u139, u140, u141, u142, u143, u144, u145, u146, u147, u148, u149, u150, u151, u152, u153, u154, u155, u156, u157, u158, u159, u160, u161, u162, u163, u164, u165, u166, u167, u168, u169, u170, u171, u172, u173, u174, u175, u176, u177, u178, u179, u180, u181, u182, u183, u184, u185, u186, u187, u188, u189, u190, u191, u192, u193, u194, u195, u196, u197, u198, u199, u200, u201, u202, u203, u204, u205, u206, u207], []⟩ wx := by
  conv => arg 2; whnf
  have HQ := Lib.hid hQ
  clear hQ
  refine wp_block ?_
  refine (wpIn_wide (n := 10)).1 ?_
  refine wpIn_rangeFunc_ownH rfl (by decide) (gf := 35) (lb := #[.pointer (some ⟨gb, 0, none⟩)]) rfl trivial (enters_of Try.func35 (by kernel_rfl) rfl)
    (all_stops gb gk 9 wx.heap.size 4 f wx (Nat.le_refl _) (by decide) hgb hI.1) (fun h k => h.trans k) (fun W l o o' hl h1 h2 h3 => KeepsB.book W l o o' h1 h2) (Below.refl _ _) (fun _ => rfl)
    (fun pre W => pre.length ≤ 1 ∧ BrkI w wx.heap.size g0 g8 g10 gk f pre W) (fun c pre W => c = .exit 6 ∧ pre.length = 2 ∧ BrkI w wx.heap.size g0 g8 g10 gk f pre W) (fun s W W' row hs hg hr => ⟨hs.1, brkI_own hw hs.2 hg hr⟩) (fun c s W W' row hs hg hr => ⟨hs.1, hs.2.1, brkI_own hw hs.2.2 hg hr⟩) ⟨by simp, hI⟩
    (fun x a' W => a' = ⟨#[u0, u1, u2, u3, u4, u5, u6, u7, .pointer (some ⟨g8, 0, none⟩), u9, .pointer (some ⟨g10, 0, none⟩), .int .u8 (x.1.val : Int), u12, u13, u14, u15, u16, u17, u18, u19, u20, u21, u22, u23, u24, u25, u26, u27, u28, u29, u30, u31, u32, u33, u34, u35, u36, u37, u38, u39, u40, u41, u42, u43, u44, u45, u46, u47, u48, u49, u50, u51, u52, u53, u54, u55, u56, u57, u58, u59, u60, u61, u62, u63, u64, u65, u66, u67, u68, u69, u70, u71, u72, u73, u74, u75, u76, u77, u78, u79, u80, u81, u82, u83, u84, u85, u86, u87, u88, u89, u90, u91, u92, u93, u94, u95, u96, .func (.func 35) #[] #[.pointer (some ⟨gb, 0, none⟩)], .int .u8 (x.1.val : Int), refV x.2, u100, u101, u102, u103, u104, u105, u106, u107, u108, u109, u110, u111, u112, u113, u114, u115, u116, u117, u118, u119, u120, u121, u122, u123, u124, u125, u126, u127, u128, u129, u130, u131, u132, u133, u134, u135, u136, u137, u138, u139, u140, u141, u142, u143, u144, u145, u146, u147, u148, u149, u150, u151, u152, u153, u154, u155, u156, u157, u158, u159, u160, u161, u162, u163, u164, u165, u166, u167, u168, u169, u170, u171, u172, u173, u174, u175, u176, u177, u178, u179, u180, u181, u182, u183, u184, u185, u186, u187, u188, u189, u190, u191, u192, u193, u194, u195, u196, u197, u198, u199, u200, u201, u202, u203, u204, u205, u206, u207], []⟩) (fun x a' s W W' row hs hg hr => hs) ?assign ?body ?done ?stop
  case assign =>
    rintro l pre x W K hi hK
    have hfin : K ⟨#[u0, u1, u2, u3, u4, u5, u6, u7, .pointer (some ⟨g8, 0, none⟩), u9, .pointer (some ⟨g10, 0, none⟩), .int .u8 (x.1.val : Int), u12, u13, u14, u15, u16, u17, u18, u19, u20, u21, u22, u23, u24, u25, u26, u27, u28, u29, u30, u31, u32, u33, u34, u35, u36, u37, u38, u39, u40, u41, u42, u43, u44, u45, u46, u47, u48, u49, u50, u51, u52, u53, u54, u55, u56, u57, u58, u59, u60, u61, u62, u63, u64, u65, u66, u67, u68, u69, u70, u71, u72, u73, u74, u75, u76, u77, u78, u79, u80, u81, u82, u83, u84, u85, u86, u87, u88, u89, u90, u91, u92, u93, u94, u95, u96, .func (.func 35) #[] #[.pointer (some ⟨gb, 0, none⟩)], .int .u8 (x.1.val : Int), refV x.2, u100, u101, u102, u103, u104, u105, u106, u107, u108, u109, u110, u111, u112, u113, u114, u115, u116, u117, u118, u119, u120, u121, u122, u123, u124, u125, u126, u127, u128, u129, u130, u131, u132, u133, u134, u135, u136, u137, u138, u139, u140, u141, u142, u143, u144, u145, u146, u147, u148, u149, u150, u151, u152, u153, u154, u155, u156, u157, u158, u159, u160, u161, u162, u163, u164, u165, u166, u167, u168, u169, u170, u171, u172, u173, u174, u175, u176, u177, u178, u179, u180, u181, u182, u183, u184, u185, u186, u187, u188, u189, u190, u191, u192, u193, u194, u195, u196, u197, u198, u199, u200, u201, u202, u203, u204, u205, u206, u207], []⟩ W := hK _ _ (KeepsFrom.refl _ _) (KeepsB.refl _ _) hi rfl
    have HF := Lib.hid hfin
    clear hfin hK
    gi_wp2
    exact HF.out
  case body =>
    rintro l pre x a' W hl ⟨rec, hrec⟩ ⟨hp1, hi⟩ rfl hlen2
    have e8 := hi.2.2.1.cell 0
    have l8 := hi.2.2.1.lt
    simp at e8
    have hT := (callsIn_wide (n := 7)).2 (Take_k gk 4 (drainF f pre) x.1.val W hi.1 x.1.isLt)
    have HT := Lib.hid hT
    have HH := Lib.hid hi
    have HP := Lib.hid hp1
    have hx0 : (0 : Int) ≤ (x.1.val : Int) := by omega
    have hx1 : (x.1.val : Int) ≤ 255 := by have := x.1.isLt; omega
    have n1 : 1 ≤ 8 := by decide
    have su := u8_next x.1.val
    obtain ⟨b2, hb2⟩ : ∃ b2, b2 = (x.1.val + 1) % 256 := ⟨_, rfl⟩
    have hb256 : b2 < 256 := by omega
    rw [← hb2] at su
    have HB2 := Lib.hid hb2
    clear hi hT hp1 hb2 hlen2
    gi_wp2_with (fail)
    refine ⟨trivial, ?_⟩
    refine (CallsIn.inRound l HT.out).mono ?_
    rintro e W2 ⟨rfl, hf1, hg1⟩
    have hT2 := (callsIn_wide (n := 7)).2 (Take_k gk 4 _ b2 W2 hf1 hb256)
    have HT2 := Lib.hid hT2
    have e8 : W2.cell? ⟨g8, 0, none⟩ = some (.pointer (some ⟨gk, 0, none⟩)) := (HH.out.2.2.1.grown hg1 (fun e => HH.out.1.ne_blk HH.out.2.2.1 (by decide) (by injection e with e; exact e.symm))).cell 0
    have H2 := Lib.hid (And.intro hf1 hg1)
    clear hf1 hg1 hT2 HT
    gi_wp2_with (fail)
    refine ⟨trivial, ?_⟩
    refine (CallsIn.inRound l HT2.out).mono ?_
    rintro e W3 ⟨rfl, hf2, hg2⟩
    have hfd : FewAt W3 gk 4 (drainF f (pre ++ [x])) := by rw [drainF_snoc, ← HB2.out]; exact hf2
    have hst := brkI_step (x := x) HH.out hge H2.out.1 H2.out.2 hfd hg2
    have k10 : Blk W3 g10 3 #[.int .i64 (pre.length : Int)] := (HH.out.2.1.grown H2.out.2 (fun e => HH.out.1.ne_blk HH.out.2.1 (by decide) (by injection e with e; exact e.symm))).grown hg2 (fun e => HH.out.1.ne_blk HH.out.2.1 (by decide) (by injection e with e; exact e.symm))
    have e10 := k10.cell 0
    have g100 := k10.frozen 0
    have l10 := k10.lt
    simp at e10
    have hk1 : KeepsFrom wx.heap.size W (W3.setCell ⟨g10, 0, none⟩ (.int .i64 ((pre.length : Int) + 1))) := ((keepsFrom_few HH.out.1 H2.out.2).trans (keepsFrom_few H2.out.1 hg2)).trans ((KeepsOthers.setCell _ _ _).from _)
    have hk2 : KeepsB wx.heap.size W (W3.setCell ⟨g10, 0, none⟩ (.int .i64 ((pre.length : Int) + 1))) := ((keepsB_few HH.out.1 H2.out.2).trans (keepsB_few H2.out.1 hg2)).trans (KeepsB.setCell _ _ _ hlt)
    have HN := Lib.hid (And.intro hk1 (And.intro hk2 hst))
    clear hfd hst k10 hk1 hk2 hf2 hg2 HT2 H2 HH e8
    rcases (show pre.length = 0 ∨ pre.length = 1 by have := HP.out; omega) with h0 | h0
    · have e10 : W3.cell? ⟨g10, 0, none⟩ = some (.int .i64 0) := by rw [e10, h0]; rfl
      have HN : Hid (KeepsFrom wx.heap.size W (W3.setCell ⟨g10, 0, none⟩ (.int .i64 1)) ∧ KeepsB wx.heap.size W (W3.setCell ⟨g10, 0, none⟩ (.int .i64 1)) ∧ BrkI w wx.heap.size g0 g8 g10 gk f (pre ++ [x]) (W3.setCell ⟨g10, 0, none⟩ (.int .i64 1))) := by rw [h0] at HN; exact HN
      gi_wp2
      exact ⟨HN.out.1, HN.out.2.1, by simp [h0], HN.out.2.2⟩
    · have e10 : W3.cell? ⟨g10, 0, none⟩ = some (.int .i64 1) := by rw [e10, h0]; rfl
      have HN : Hid (KeepsFrom wx.heap.size W (W3.setCell ⟨g10, 0, none⟩ (.int .i64 2)) ∧ KeepsB wx.heap.size W (W3.setCell ⟨g10, 0, none⟩ (.int .i64 2)) ∧ BrkI w wx.heap.size g0 g8 g10 gk f (pre ++ [x]) (W3.setCell ⟨g10, 0, none⟩ (.int .i64 2))) := by rw [h0] at HN; exact HN
      gi_wp2
      exact ⟨HN.out.1, rfl, by simp [h0], HN.out.2.2⟩
  case done =>
    rintro D xs W hD rfl ⟨h1, hi⟩ hk
    omega
  case stop =>
    rintro D c pre W hD hsp ⟨rfl, h2, hi⟩ hk
    have HF := Lib.hid (HQ.out D pre W hD hsp h2 hi hk)
    gi_wp2
    exact HF.out
end Go.Proofs.Ytmcpfhhggapkcaa
