/-
  Layer 7: FewNext's range over the kids.
-/
import Derived.Test.YtmcpfhhggapkcaaFewS
namespace Go.Proofs.Ytmcpfhhggapkcaa
open Go.RowKit Go.Shelf
set_option linter.unusedVariables false
set_option linter.unusedSimpArgs false
attribute [local go_sem] Oper.semAt_some

/-- What holds between two rounds. -/
def NextI (w : World) (lo g g4 g5 g7 : Nat) (f : Kids) (pre : List Kid) (W : World) : Prop :=
  (∃ m : Nat, Blk W g7 3 #[.int .i64 (m : Int)] ∧ m ≤ 256 ∧ (pre <+: kidsF f → m = fromOf pre)) ∧ Blk W g4 4 #[.bool false] ∧ Blk W g5 24 #[.pointer (some ⟨g, 0, none⟩)] ∧ FewAt W g 16 f ∧ (Below w.heap.size w W ∧ lo ≤ W.heap.size)
theorem Blk.own_ {W W' : World} {row : Option Nat} {g : Nat} {t : TypeId} {cs : Array Value} (h : Blk W g t cs) (hg : W.grownBy W' row) (hr : ∀ r, row = some r → ∃ o : Obj, W.heap[r]? = some o ∧ o.isCells = false) : Blk W' g t cs :=
  (grownBy_keeps_cells hg hr h rfl).trans h
theorem FewAt.own_ {W W' : World} {row : Option Nat} {g : Nat} {room : Int} {f : Kids} (h : FewAt W g room f) (hg : W.grownBy W' row) (hr : ∀ r, row = some r → ∃ o : Obj, W.heap[r]? = some o ∧ o.isCells = false) : FewAt W' g room f := by
  obtain ⟨o, h1, h2, h3, h4⟩ := h
  exact ⟨o, h1, h2, h3, h4.own_ hg hr⟩
theorem nextI_own {w wx : World} {g g4 g5 g7 : Nat} {f : Kids} {lo : Nat} (hw : w.heap.size ≤ wx.heap.size) : OwnFrom wx.heap.size (NextI w lo g g4 g5 g7 f) := by
  intro s W W' row hs hg hr
  obtain ⟨⟨m, h1, h2, h3⟩, h4, h5, h6, h7⟩ := hs
  have hr' := fun r e => (hr r e).2
  exact ⟨⟨m, h1.own_ hg hr', h2, h3⟩, h4.own_ hg hr', h5.own_ hg hr', h6.own_ hg hr', ownFrom_below (β := Unit) (Nat.le_refl _) hw () W W' row h7.1 hg hr, Nat.le_trans h7.2 hg.size⟩
theorem nextI_alloc {w : World} {lo g g4 g5 g7 : Nat} {f : Kids} {pre : List Kid} {W : World} (h : NextI w lo g g4 g5 g7 f pre W) (o : Obj) : NextI w lo g g4 g5 g7 f pre (W.alloc o) := by
  obtain ⟨⟨m, h1, h2, h3⟩, h4, h5, h6, h7⟩ := h
  exact ⟨⟨m, h1.alloc o, h2, h3⟩, h4.alloc o, h5.alloc o, h6.alloc o, below_alloc h7.1 o, Nat.le_trans h7.2 (by simp)⟩
theorem FewAt.setOther {W : World} {g : Nat} {room : Int} {f : Kids} {t : TypeId} {cs : Array Value} {p : Addr} (h : FewAt W g room f) (hb : Blk W p.block t cs) (hne : 66 ≠ t) (u : Value) : FewAt (W.setCell p u) g room f := by
  obtain ⟨o, h1, h2, h3, h4⟩ := h
  exact ⟨o, h1, h2, h3, h4.far (p := p) (blk_neF h4 hb hne) u⟩
/-- What the body is told of its variables. -/
def NextA (x : Kid) (lo : Nat) (mk : Nat → Act) (a' : Act) (W : World) : Prop := ∃ B9, lo ≤ B9 ∧ a' = mk B9 ∧ Blk W B9 31 #[.int .i64 x.2.1, .int .u32 x.2.2]

theorem keepsFrom_below {B : Nat} {W W' : World} (h : Below W.heap.size W W') : KeepsFrom B W W' := ⟨h.size, fun k o _ h1 _ => (h.block k (Array.getElem?_eq_some_iff.1 h1).1).trans h1⟩
theorem guardRef : Try.prog.eqGuardType Try.prog.depth 31 = false := by kernel_rfl
set_option maxHeartbeats 6400000 in
set_option maxRecDepth 100000 in
theorem next_loop (g g4 g5 g7 gb : Nat) (f : Kids) {u0 u1 u2 u3 u6 u8 u9 u10 u11 u12 u13 u14 u15 u16 u17 u18 u19 u20 u21 u22 u23 u24 u25 u26 u27 u28 u29 u30 u31 u32 u33 u34 u35 u36 u37 u39 u40 u41 u42 u43 u44 u45 u46 u47 u48 u49 u50 u51 u52 u53 u54 u55 u56 u57 u58 u59 u60 u61 u62 u63 u64 u65 u66 u67 u68 u69 u70 u71 u72 u73 u74 u75 u76 u77 u78 u79 u80 u81 u82 u83 u84 u85 u86 u87 u88 u89 u90 u91 u92 u93 u94 u95 u96 u97 u98 u99 u100 u101 u102 u103 u104 u105 u106 u107 u108 u109 u110 u111 u112 u113 u114 u115 u116 u117 u118 u119 u120 u121 u122 u123 u124 u125 u126 u127 u128 u129 u130 u131 u132 u133 u134 u135 u136 u137 u138 u139 u140 : Value} (w wx : World) {Q : Exit → Act → World → Prop} (hgb : wx.cell? ⟨gb, 0, none⟩ = some (.pointer (some ⟨g, 0, none⟩))) (hw : w.heap.size ≤ wx.heap.size) (hI : NextI w wx.heap.size g g4 g5 g7 f [] wx)
    (hlt : g < wx.heap.size ∧ g4 < wx.heap.size ∧ g5 < wx.heap.size ∧ g7 < wx.heap.size) (hge : w.heap.size ≤ g ∧ w.heap.size ≤ g4 ∧ w.heap.size ≤ g5 ∧ w.heap.size ≤ g7)
    (hQ : ∀ (D : Nat) (W : World), wx.heap.size ≤ D → NextI w wx.heap.size g g4 g5 g7 f (kidsF f) W → W.heap[D]? = some (.deferred (some [])) → Q .normal ⟨#[u0, u1, u2, u3, .pointer (some ⟨g4, 0, none⟩), .pointer (some ⟨g5, 0, none⟩), u6, .pointer (some ⟨g7, 0, none⟩), u8, u9, u10, u11, u12, u13, u14, u15, u16, u17, u18, u19, u20, u21, u22, u23, u24, u25, u26, u27, u28, u29, u30, u31, u32, u33, u34, u35, u36, u37, .func (.func 35) #[] #[.pointer (some ⟨gb, 0, none⟩)], u39, u40, u41, u42, u43, u44, u45, u46, u47, u48, u49, u50, u51, u52, u53, u54, u55, u56, u57, u58, u59, u60, u61, u62, u63, u64, u65, u66, u67, u68, u69, u70, u71, u72, u73, u74, u75, u76, u77, u78, u79, u80, u81, u82, u83, u84, u85, u86, u87, u88, u89, u90, u91, u92, u93, u94, u95, u96, u97, u98, u99, u100, u101, u102, u103, u104, u105, u106, u107, u108, u109, u110, u111, u112, u113, u114, u115, u116, u117, u118, u119, u120, u121, u122, u123, u124, u125, u126, u127, u128, u129, u130, u131, u132, u133, u134, u135, u136, u137, u138, u139, u140], [{ target := .collected D, args := #[] }]⟩ W) :
    Code.wp Try.prog (part Try.f4 [1, 1, 1, 1, 1, 1, 0, 1]) Q ⟨#[u0, u1, u2, u3, .pointer (some ⟨g4, 0, none⟩), .pointer (some ⟨g5, 0, none⟩), u6, .pointer (some ⟨g7, 0, none⟩), u8, u9, u10, u11, u12, u13, u14, u15, u16, u17, u18, u19, u20, u21, u22, u23, u24, u25, u26, u27, u28, u29, u30, u31, u32, u33, u34, u35, u36, u37, .func (.func 35) #[] #[.pointer (some ⟨gb, 0, none⟩)], u39, u40, u41, u42, u43, u44, u45, u46, u47, u48, u49, u50, u51, u52, u53, u54, u55, u56, u57, u58, u59, u60, u61, u62, u63, u64, u65, u66, u67, u68, u69, u70, u71, u72, u73, u74, u75, u76, u77, u78, u79, u80, u81, u82, u83, u84, u85, u86, u87, u88, u89, u90, u91, u92, u93, u94, u95, u96, u97, u98, u99, u100, u101, u102, u103, u104, u105, u106, u107, u108, u109, u110, u111, u112, u113, u114, u115, u116, u117, u118, u119, u120, u121, u122, u123, u124, u125, u126, u127, u128, u129, u130, u131, u132, u133, u134, u135, u136, u137, u138, u139, u140], []⟩ wx := by
  conv => arg 2; whnf
  have HQ := Lib.hid hQ
  clear hQ
  refine wp_block ?_
  refine (wpIn_wide (n := 10)).1 ?_
  obtain ⟨h7lt, h4lt, h5lt, hflt⟩ := hlt
  refine wpIn_rangeFunc_ownH rfl (by decide) (gf := 35) (lb := #[.pointer (some ⟨gb, 0, none⟩)]) rfl trivial (enters_of Try.func35 (by kernel_rfl) rfl)
    (all_stops gb g 9 wx.heap.size 16 f wx (Nat.le_refl _) (by decide) hgb hI.2.2.2.1) (fun h k => h.trans k) (fun W l o o' hl h1 h2 h3 => KeepsB.book W l o o' h1 h2) (Below.refl _ _) (fun _ => rfl)
    (NextI w wx.heap.size g g4 g5 g7 f) (fun _ pre W => ¬ (pre <+: kidsF f)) (nextI_own hw) (fun c s W W' row hs hg hr => hs) hI
    (fun x a' W => NextA x wx.heap.size (fun B9 => ⟨#[u0, u1, u2, u3, .pointer (some ⟨g4, 0, none⟩), .pointer (some ⟨g5, 0, none⟩), u6, .pointer (some ⟨g7, 0, none⟩), .int .u8 (x.1.val : Int), .pointer (some ⟨B9, 0, none⟩), u10, u11, u12, u13, u14, u15, u16, u17, u18, u19, u20, u21, u22, u23, u24, u25, u26, u27, u28, u29, u30, u31, u32, u33, u34, u35, u36, u37, .func (.func 35) #[] #[.pointer (some ⟨gb, 0, none⟩)], .int .u8 (x.1.val : Int), refV x.2, u41, u42, u43, u44, u45, u46, u47, u48, u49, u50, u51, u52, u53, u54, u55, u56, u57, u58, u59, u60, u61, u62, u63, u64, u65, u66, u67, u68, u69, u70, u71, u72, u73, u74, u75, u76, u77, u78, u79, u80, u81, u82, u83, u84, u85, u86, u87, u88, u89, u90, u91, u92, u93, u94, u95, u96, u97, u98, u99, u100, u101, u102, u103, u104, u105, u106, u107, u108, u109, u110, u111, u112, u113, u114, u115, u116, u117, u118, u119, u120, u121, u122, u123, u124, u125, u126, u127, u128, u129, u130, u131, u132, u133, u134, u135, u136, u137, u138, u139, u140], []⟩) a' W) (fun x a' s W W' row hs hg hr => ?own) ?assign ?body ?done ?stop
  case own =>
    obtain ⟨B9, hb, he, hk⟩ := hs
    exact ⟨B9, hb, he, hk.own_ hg (fun r e => (hr r e).2)⟩
  case assign =>
    rintro l pre x W K hi hK
    have hfin : K ⟨#[u0, u1, u2, u3, .pointer (some ⟨g4, 0, none⟩), .pointer (some ⟨g5, 0, none⟩), u6, .pointer (some ⟨g7, 0, none⟩), .int .u8 (x.1.val : Int), .pointer (some ⟨W.heap.size, 0, none⟩), u10, u11, u12, u13, u14, u15, u16, u17, u18, u19, u20, u21, u22, u23, u24, u25, u26, u27, u28, u29, u30, u31, u32, u33, u34, u35, u36, u37, .func (.func 35) #[] #[.pointer (some ⟨gb, 0, none⟩)], .int .u8 (x.1.val : Int), refV x.2, u41, u42, u43, u44, u45, u46, u47, u48, u49, u50, u51, u52, u53, u54, u55, u56, u57, u58, u59, u60, u61, u62, u63, u64, u65, u66, u67, u68, u69, u70, u71, u72, u73, u74, u75, u76, u77, u78, u79, u80, u81, u82, u83, u84, u85, u86, u87, u88, u89, u90, u91, u92, u93, u94, u95, u96, u97, u98, u99, u100, u101, u102, u103, u104, u105, u106, u107, u108, u109, u110, u111, u112, u113, u114, u115, u116, u117, u118, u119, u120, u121, u122, u123, u124, u125, u126, u127, u128, u129, u130, u131, u132, u133, u134, u135, u136, u137, u138, u139, u140], []⟩ (W.alloc (.cells #[.int .i64 x.2.1, .int .u32 x.2.2] 31)) :=
      hK _ _ ((KeepsOthers.alloc W _).from _) (KeepsB.of_below (below_box W _)) (nextI_alloc hi _) ⟨W.heap.size, hi.2.2.2.2.2, rfl, Blk.new _ _ _⟩
    have HF := Lib.hid hfin
    clear hfin hK
    gi_wp2
    exact HF.out
  case body =>
    rintro l pre x a' W hl ⟨rec, hrec⟩ hi ⟨B9, hB9, rfl, hk9⟩ hlen
    obtain ⟨⟨m, hm1, hm2, hm3⟩, h4, h5, h6, h7⟩ := hi
    have hn := (callsIn_wide (n := 7)).2 (Next_k g 16 f (m : Int) W h6)
    obtain ⟨d, hd⟩ : ∃ d, (nextK f (m : Int)).1 = d := ⟨_, rfl⟩
    obtain ⟨q, hq⟩ : ∃ q, (nextK f (m : Int)).2.1 = q := ⟨_, rfl⟩
    obtain ⟨is, his⟩ : ∃ is, (nextK f (m : Int)).2.2 = is := ⟨_, rfl⟩
    rw [hd, hq, his] at hn
    have HNX := Lib.hid hn
    have c7 := hm1.cell 0
    have c5 := h5.cell 0
    simp at c7 c5
    have HH := Lib.hid (And.intro hm1 (And.intro h4 (And.intro h5 (And.intro h6 (And.intro h7 hk9)))))
    have HM := Lib.hid hm3
    have HD := Lib.hid (And.intro hd (And.intro hq his))
    have hx0 : (0 : Int) ≤ (x.1.val : Int) := by omega
    have hx1 : (x.1.val : Int) ≤ 255 := by have := x.1.isLt; omega
    have n1 : 1 ≤ 8 := by decide
    clear hn hm1 h4 h5 h6 h7 hk9 hm3 hd hq his
    gi_wp2_with (fail)
    refine ⟨trivial, ?_⟩
    refine (CallsIn.inRound l HNX.out).mono ?_
    rintro e W2 ⟨rfl, hb2⟩
    have HB := Lib.hid hb2
    have hH7 := HH.out.1.below hb2 HH.out.1.lt
    have hH9 := HH.out.2.2.2.2.2.below hb2 HH.out.2.2.2.2.2.lt
    have e7 := hH7.cell 0
    have g70 := hH7.frozen 0
    have e90 := hH9.cell 0
    have e91 := hH9.cell 1
    have l7 := hH7.lt
    have l9 := hH9.lt
    simp at e7 e90 e91
    clear hb2 hH7 hH9 c7 c5 HNX
    have hH4 := HH.out.2.1.below HB.out HH.out.2.1.lt
    have e4 := hH4.cell 0
    have g40 := hH4.frozen 0
    have l4 := hH4.lt
    simp at e4
    have HNXT : Hid ((pre ++ [x]) <+: kidsF f → d = (x.1.val : Int) ∧ q = x.2 ∧ is = true ∧ m ≤ x.1.val) := Lib.hid (fun hp => by
      have hp1 : pre <+: kidsF f := (List.prefix_append _ _).trans hp
      have h1 := next_at hp
      rw [← HM.out hp1] at h1
      rw [← HD.out.1, ← HD.out.2.1, ← HD.out.2.2, h1.1]
      exact ⟨rfl, rfl, rfl, h1.2⟩)
    have hkf : KeepsFrom wx.heap.size W ((W2.setCell ⟨g4, 0, none⟩ (.bool false)).alloc (.cells #[.int .i64 q.1, .int .u32 q.2] 31)) := (keepsFrom_below HB.out).trans (((KeepsOthers.setCell _ _ _).from _).trans ((KeepsOthers.alloc _ _).from _))
    have hkf2 : KeepsFrom wx.heap.size W ((W2.setCell ⟨g7, 0, none⟩ (.int .i64 ((x.1.val : Int) + 1))).alloc (.cells #[.int .i64 q.1, .int .u32 q.2] 31)) := (keepsFrom_below HB.out).trans (((KeepsOthers.setCell _ _ _).from _).trans ((KeepsOthers.alloc _ _).from _))
    have HKF := Lib.hid hkf
    have HKF2 := Lib.hid hkf2
    have nr := neqRef q x.2
    have nr2 := neqRef x.2 q
    have gr := guardRef
    clear hkf hkf2 hH4
    cases is with
    | false =>
      gi_wp2
      have hx : ¬ (pre ++ [x]) <+: kidsF f := fun hp => by
        have := HNXT.out hp
        simp at this
      exact ⟨HKF.out, hx⟩
    | true =>
      by_cases hd1 : d = (x.1.val : Int)
      · have hdb : ((x.1.val : Int) != d) = false := by rw [hd1]; simp
        by_cases hq1 : x.2 = q
        · by_cases hm1 : x.1.val < m
          · have hmb : (x.1.val : Int) < (m : Int) := by omega
            gi_wp2
            have hx : ¬ (pre ++ [x]) <+: kidsF f := fun hp => by
              have := HNXT.out hp
              omega
            exact ⟨HKF.out, hx⟩
          · have hmb : ¬ ((x.1.val : Int) < (m : Int)) := by omega
            have hI2 : NextI w wx.heap.size g g4 g5 g7 f (pre ++ [x]) (W2.setCell ⟨g7, 0, none⟩ (.int .i64 ((x.1.val : Int) + 1))) := by
              obtain ⟨a1, a2, a3, a4, a5, a6⟩ := HH.out
              have b1 := a1.below HB.out a1.lt
              have b2 := a2.below HB.out a2.lt
              have b3 := a3.below HB.out a3.lt
              have b4 := a4.below HB.out
              have n4 : g4 ≠ g7 := blk_neF b2 b1 (by decide)
              have n5 : g5 ≠ g7 := blk_neF b3 b1 (by decide)
              refine ⟨⟨x.1.val + 1, ?_, by have := x.1.isLt; omega, fun _ => (fromOf_snoc pre x).symm⟩, b2.far (p := ⟨g7, 0, none⟩) n4 _, b3.far (p := ⟨g7, 0, none⟩) n5 _, ?_, ?_, ?_⟩
              · have := b1.set_ 0 (.int .i64 ((x.1.val : Int) + 1))
                simpa using this
              · exact b4.setOther (p := ⟨g7, 0, none⟩) (t := 3) b1 (by decide) _
              · exact (below_trans a5.1 HB.out).setCell (p := ⟨g7, 0, none⟩) hge.2.2.2 _
              · have := a5.2
                have := HB.out.size
                simp [World.setCell]
                omega
            have hK2 : KeepsB wx.heap.size W ((W2.setCell ⟨g7, 0, none⟩ (.int .i64 ((x.1.val : Int) + 1))).alloc (.cells #[.int .i64 q.1, .int .u32 q.2] 31)) :=
              ((KeepsB.of_below HB.out).trans (KeepsB.setCell _ _ _ hflt)).trans (KeepsB.of_below (below_box _ _))
            have hI2 := nextI_alloc hI2 (.cells #[.int .i64 q.1, .int .u32 q.2] 31)
            have HFI := Lib.hid (And.intro hK2 hI2)
            clear hK2 hI2
            gi_wp2
            exact ⟨HKF2.out, HFI.out.1, HFI.out.2⟩
        · gi_wp2
          have hx : ¬ (pre ++ [x]) <+: kidsF f := fun hp => by
            have := HNXT.out hp
            exact hq1 this.2.1.symm
          exact ⟨HKF.out, hx⟩
      · have hdb : ((x.1.val : Int) != d) = true := by rw [bne_iff_ne]; exact fun e => hd1 e.symm
        gi_wp2
        have hx : ¬ (pre ++ [x]) <+: kidsF f := fun hp => by
          have := HNXT.out hp
          exact hd1 this.1
        exact ⟨HKF.out, hx⟩
  case done =>
    rintro D xs W hD rfl hi hk
    exact HQ.out D W hD hi hk
  case stop =>
    rintro D c pre W hD hsp hx hk
    exact absurd hsp hx
end Go.Proofs.Ytmcpfhhggapkcaa
