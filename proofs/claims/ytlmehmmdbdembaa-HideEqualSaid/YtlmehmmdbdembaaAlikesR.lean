/-
  Walks: HideAlikes, the region that makes two lent scripts.
-/
import Derived.Test.YtlmehmmdbdembaaHideTimesW
import Derived.Test.YtlmehmmdbdembaaRBlurW
import Derived.Test.YtlmehmmdbdembaaAlike2W
import Derived.Test.YtlmehmmdbdembaaTail
namespace Go.Proofs.Ytlmehmmdbdembaa
open Go.RowKit
set_option linter.unusedVariables false
set_option linter.unusedSimpArgs false

/-- The operations of a region. -/
def regOps : Code → Array Oper
  | .region _ ops _ => ops
  | _ => #[]

/-- A lent script, its rows owned. -/
def LO (base : Nat) (W : World) (p1 c1 p2 c2 : Nat) (a : List Ent) (pa : List Int) : Prop :=
  a.length + 12 ≤ c1 ∧ c1 ≤ maxLen ∧ pa.length + 12 ≤ c2 ∧ c2 ≤ maxLen ∧
    W.ownsRow base 46 13 (.slice (some ⟨p1, 0, none⟩) (a.length + 12) c1) (a.length + 12) ((a ++ marksE 12).flatMap Ent.row) ∧
    W.ownsRow base 3 1 (.slice (some ⟨p2, 0, none⟩) (pa.length + 12) c2) (pa.length + 12) ((pa ++ marksI 12).flatMap irow)
theorem LO.below {base : Nat} {W W' : World} {p1 c1 p2 c2 : Nat} {a : List Ent} {pa : List Int} (h : LO base W p1 c1 p2 c2 a pa) (hb : Below W.heap.size W W') : LO base W' p1 c1 p2 c2 a pa :=
  ⟨h.1, h.2.1, h.2.2.1, h.2.2.2.1, ownsRow_below h.2.2.2.2.1 hb (Nat.le_refl _), ownsRow_below h.2.2.2.2.2 hb (Nat.le_refl _)⟩
theorem LO.store {base : Nat} {W : World} {p1 c1 p2 c2 g : Nat} {a : List Ent} {pa : List Int} {cs : Array Value} (h : LO base W p1 c1 p2 c2 a pa) (hg : Blk W g 41 cs) (p : Nat) (u : Value) : LO base (W.setCell ⟨g, p, none⟩ u) p1 c1 p2 c2 a pa :=
  ⟨h.1, h.2.1, h.2.2.1, h.2.2.2.1, own_far h.2.2.2.2.1 (own_blk_ne h.2.2.2.2.1 hg (by decide)) p u, own_far h.2.2.2.2.2 (own_blk_ne h.2.2.2.2.2 hg (by decide)) p u⟩
theorem LO.lent {base : Nat} {W : World} {p1 c1 p2 c2 : Nat} {a : List Ent} {pa : List Int} (h : LO base W p1 c1 p2 c2 a pa) : LentIn W p1 c1 p2 c2 a pa :=
  ⟨Reads.of_own h.2.2.2.2.1, Reads.of_own h.2.2.2.2.2, (h.2.2.2.2.1.lt p1 rfl).2, (h.2.2.2.2.2.lt p2 rfl).2, h.1, h.2.2.1, h.2.1, h.2.2.2.1⟩

/-- What holds throughout the region. -/
def Bo (w : World) (cx cy : Array Value) (W : World) : Prop := Below w.heap.size w W ∧ Blk W w.heap.size 41 cx ∧ Blk W (w.heap.size + 1) 41 cy
theorem Bo.below {w W W' : World} {cx cy : Array Value} (h : Bo w cx cy W) (hb : Below W.heap.size W W') : Bo w cx cy W' := ⟨below_trans h.1 hb, h.2.1.below hb h.2.1.lt, h.2.2.below hb h.2.2.lt⟩
theorem Bo.store {w W : World} {cx cy : Array Value} (h : Bo w cx cy W) {g p : Nat} (hg : w.heap.size + 1 < g) (u : Value) : Bo w cx cy (W.setCell ⟨g, p, none⟩ u) :=
  ⟨h.1.setCell (p := ⟨g, p, none⟩) (by simp; omega) u, h.2.1.far (p := ⟨g, p, none⟩) (by simp; omega) u, h.2.2.far (p := ⟨g, p, none⟩) (by simp; omega) u⟩

/-- Two lent scripts in two variables. -/
def TwoIn (w : World) (a b : List Ent) (pa pb : List Int) (cx cy : Array Value) (s7 s8 : Value) (W : World) : Prop :=
  ∃ g7 g8 p1 c1 p2 c2 q1 d1 q2 d2, s7 = .pointer (some ⟨g7, 0, none⟩) ∧ s8 = .pointer (some ⟨g8, 0, none⟩) ∧ w.heap.size + 1 < g7 ∧ w.heap.size + 1 < g8 ∧ Bo w cx cy W ∧
    Blk W g7 41 #[.slice (some ⟨p1, 0, none⟩) a.length c1, .slice (some ⟨p2, 0, none⟩) pa.length c2] ∧ Blk W g8 41 #[.slice (some ⟨q1, 0, none⟩) b.length d1, .slice (some ⟨q2, 0, none⟩) pb.length d2] ∧
    LO w.heap.size W p1 c1 p2 c2 a pa ∧ LO w.heap.size W q1 d1 q2 d2 b pb

set_option maxHeartbeats 3200000 in
set_option maxRecDepth 100000 in
theorem al_012345 (A B A' B' : Option Addr) (c d c' d' : Nat) (a b : List Ent) (pa pb : List Int) {u0 u1 u2 u5 u6 u9 u10 u11 u12 u13 u14 u15 u16 u17 u18 u23 u24 u25 u26 u27 u28 u29 u30 u31 u32 u33 u34 u35 u36 u37 u38 u39 u40 u41 u42 u43 u44 u45 u46 u47 u48 u49 u50 u51 u52 u53 u54 u55 : Value} (w W : World) {Q : Exit → Act → World → Prop} (HSS : Hid (ScrIn w A B a pa ∧ ScrIn w A' B' b pb)) {p1 c1 p2 c2 : Nat} {q1 d1 q2 d2 : Nat} {g4 : Nat} {g5 : Nat} (hQ : ∀ s7 s8 s19 s20 s21 s22 W', TwoIn w a b pa pb #[.slice A a.length c, .slice B pa.length d] #[.slice A' b.length c', .slice B' pb.length d'] s7 s8 W' → Q .normal ⟨#[u0, u1, u2, .pointer (some ⟨w.heap.size, 0, none⟩), .pointer (some ⟨(w.heap.size + 1), 0, none⟩), u5, u6, s7, s8, u9, u10, u11, u12, u13, u14, u15, u16, u17, u18, s19, s20, s21, s22, u23, u24, u25, u26, u27, u28, u29, u30, u31, u32, u33, u34, u35, u36, u37, u38, u39, u40, u41, u42, u43, u44, u45, u46, u47, u48, u49, u50, u51, u52, u53, u54, u55], []⟩ W')
    (hB : Bo w #[.slice A a.length c, .slice B pa.length d] #[.slice A' b.length c', .slice B' pb.length d'] W) (hl1 : LO w.heap.size W p1 c1 p2 c2 a pa) (hl3 : LO w.heap.size W q1 d1 q2 d2 b pb) (hk4 : Blk W g4 41 #[.slice none 0 0, .slice none 0 0]) (hg4 : w.heap.size + 1 < g4) (hk5 : Blk W g5 41 #[.slice none 0 0, .slice none 0 0]) (hg5 : w.heap.size + 1 < g5) (hne : g4 ≠ g5) :
    wpAnyH Try.prog .any (regOps (codeHead (bodyTail Try.f6 2))) Q (Bo w #[.slice A a.length c, .slice B pa.length d] #[.slice A' b.length c', .slice B' pb.length d']) 2 #[true, true, true, true, true, true, false, false] ⟨#[u0, u1, u2, .pointer (some ⟨w.heap.size, 0, none⟩), .pointer (some ⟨(w.heap.size + 1), 0, none⟩), u5, u6, .pointer (some ⟨g4, 0, none⟩), .pointer (some ⟨g5, 0, none⟩), u9, u10, u11, u12, u13, u14, u15, u16, u17, u18, .agg #[.slice A a.length c, .slice B pa.length d], .agg #[.slice (some ⟨p1, 0, none⟩) a.length c1, .slice (some ⟨p2, 0, none⟩) pa.length c2], .agg #[.slice A' b.length c', .slice B' pb.length d'], .agg #[.slice (some ⟨q1, 0, none⟩) b.length d1, .slice (some ⟨q2, 0, none⟩) pb.length d2], u23, u24, u25, u26, u27, u28, u29, u30, u31, u32, u33, u34, u35, u36, u37, u38, u39, u40, u41, u42, u43, u44, u45, u46, u47, u48, u49, u50, u51, u52, u53, u54, u55], []⟩ W := by
  conv => arg 3; whnf
  have HQ := Lib.hid hQ
  clear hQ
  have c0 := hk4.cell 0
  have c1_ := hk4.cell 1
  have f0 := hk4.frozen 0
  have f1 := hk4.frozen 1
  simp at c0 c1_
  refine wpAnyH_ready (rs := [6]) (by kernel_rfl) (by simp) ?_
  refine AllReadyH.cons rfl (fun K hK => ?_) ?_
  · have hB := (hB.store (p := 0) hg4 (.slice (some ⟨p1, 0, none⟩) a.length c1)).store (p := 1) hg4 (.slice (some ⟨p2, 0, none⟩) pa.length c2)
    have hl1 := (hl1.store hk4 0 (.slice (some ⟨p1, 0, none⟩) a.length c1)).store (hk4.set_ 0 (.slice (some ⟨p1, 0, none⟩) a.length c1)) 1 (.slice (some ⟨p2, 0, none⟩) pa.length c2)
    have hl3 := (hl3.store hk4 0 (.slice (some ⟨p1, 0, none⟩) a.length c1)).store (hk4.set_ 0 (.slice (some ⟨p1, 0, none⟩) a.length c1)) 1 (.slice (some ⟨p2, 0, none⟩) pa.length c2)
    have hk5 := (hk5.far (p := ⟨g4, 0, none⟩) (by simp; omega) (.slice (some ⟨p1, 0, none⟩) a.length c1)).far (p := ⟨g4, 1, none⟩) (by simp; omega) (.slice (some ⟨p2, 0, none⟩) pa.length c2)
    have hk4 := (hk4.set_ 0 (.slice (some ⟨p1, 0, none⟩) a.length c1)).set_ 1 (.slice (some ⟨p2, 0, none⟩) pa.length c2)
    go_wp2_with fail
    refine hK.out _ _ ?_ (fun hH => ?_)
    · exact hB
    clear hK K c0 c1_ f0 f1
    try simp only [Act.put, List.setIfInBounds_toArray, List.set_cons_zero, List.set_cons_succ]
    generalize (W.setCell ⟨g4, 0, none⟩ (.slice (some ⟨p1, 0, none⟩) a.length c1)).setCell ⟨g4, 1, none⟩ (.slice (some ⟨p2, 0, none⟩) pa.length c2) = W2 at hB hl1 hl3 hk4 hk5 hH ⊢
    have c0 := hk5.cell 0
    have c1_ := hk5.cell 1
    have f0 := hk5.frozen 0
    have f1 := hk5.frozen 1
    simp at c0 c1_
    refine wpAnyH_ready (rs := [7]) (by kernel_rfl) (by simp) ?_
    refine AllReadyH.cons rfl (fun K hK => ?_) ?_
    · have hB := (hB.store (p := 0) hg5 (.slice (some ⟨q1, 0, none⟩) b.length d1)).store (p := 1) hg5 (.slice (some ⟨q2, 0, none⟩) pb.length d2)
      have hl1 := (hl1.store hk5 0 (.slice (some ⟨q1, 0, none⟩) b.length d1)).store (hk5.set_ 0 (.slice (some ⟨q1, 0, none⟩) b.length d1)) 1 (.slice (some ⟨q2, 0, none⟩) pb.length d2)
      have hl3 := (hl3.store hk5 0 (.slice (some ⟨q1, 0, none⟩) b.length d1)).store (hk5.set_ 0 (.slice (some ⟨q1, 0, none⟩) b.length d1)) 1 (.slice (some ⟨q2, 0, none⟩) pb.length d2)
      have hk4 := (hk4.far (p := ⟨g5, 0, none⟩) (by simp; omega) (.slice (some ⟨q1, 0, none⟩) b.length d1)).far (p := ⟨g5, 1, none⟩) (by simp; omega) (.slice (some ⟨q2, 0, none⟩) pb.length d2)
      have hk5 := (hk5.set_ 0 (.slice (some ⟨q1, 0, none⟩) b.length d1)).set_ 1 (.slice (some ⟨q2, 0, none⟩) pb.length d2)
      go_wp2_with fail
      refine hK.out _ _ ?_ (fun hH => ?_)
      · exact hB
      clear hK K
      refine wpAnyH_done (by kernel_rfl) ?_ _
      exact HQ.out _ _ _ _ _ _ _ ⟨g4, g5, p1, c1, p2, c2, q1, d1, q2, d2, rfl, rfl, hg4, hg5, hB, hk4, hk5, hl1, hl3⟩
    exact AllReadyH.nil
  exact AllReadyH.nil

set_option maxHeartbeats 3200000 in
set_option maxRecDepth 100000 in
theorem al_01234 (A B A' B' : Option Addr) (c d c' d' : Nat) (a b : List Ent) (pa pb : List Int) {u0 u1 u2 u5 u6 u8 u9 u10 u11 u12 u13 u14 u15 u16 u17 u18 u23 u24 u25 u26 u27 u28 u29 u30 u31 u32 u33 u34 u35 u36 u37 u38 u39 u40 u41 u42 u43 u44 u45 u46 u47 u48 u49 u50 u51 u52 u53 u54 u55 : Value} (w W : World) {Q : Exit → Act → World → Prop} (HSS : Hid (ScrIn w A B a pa ∧ ScrIn w A' B' b pb)) {p1 c1 p2 c2 : Nat} {q1 d1 q2 d2 : Nat} {g4 : Nat} (hQ : ∀ s7 s8 s19 s20 s21 s22 W', TwoIn w a b pa pb #[.slice A a.length c, .slice B pa.length d] #[.slice A' b.length c', .slice B' pb.length d'] s7 s8 W' → Q .normal ⟨#[u0, u1, u2, .pointer (some ⟨w.heap.size, 0, none⟩), .pointer (some ⟨(w.heap.size + 1), 0, none⟩), u5, u6, s7, s8, u9, u10, u11, u12, u13, u14, u15, u16, u17, u18, s19, s20, s21, s22, u23, u24, u25, u26, u27, u28, u29, u30, u31, u32, u33, u34, u35, u36, u37, u38, u39, u40, u41, u42, u43, u44, u45, u46, u47, u48, u49, u50, u51, u52, u53, u54, u55], []⟩ W')
    (hB : Bo w #[.slice A a.length c, .slice B pa.length d] #[.slice A' b.length c', .slice B' pb.length d'] W) (hl1 : LO w.heap.size W p1 c1 p2 c2 a pa) (hl3 : LO w.heap.size W q1 d1 q2 d2 b pb) (hk4 : Blk W g4 41 #[.slice none 0 0, .slice none 0 0]) (hg4 : w.heap.size + 1 < g4) :
    wpAnyH Try.prog .any (regOps (codeHead (bodyTail Try.f6 2))) Q (Bo w #[.slice A a.length c, .slice B pa.length d] #[.slice A' b.length c', .slice B' pb.length d']) 3 #[true, true, true, true, true, false, false, false] ⟨#[u0, u1, u2, .pointer (some ⟨w.heap.size, 0, none⟩), .pointer (some ⟨(w.heap.size + 1), 0, none⟩), u5, u6, .pointer (some ⟨g4, 0, none⟩), u8, u9, u10, u11, u12, u13, u14, u15, u16, u17, u18, .agg #[.slice A a.length c, .slice B pa.length d], .agg #[.slice (some ⟨p1, 0, none⟩) a.length c1, .slice (some ⟨p2, 0, none⟩) pa.length c2], .agg #[.slice A' b.length c', .slice B' pb.length d'], .agg #[.slice (some ⟨q1, 0, none⟩) b.length d1, .slice (some ⟨q2, 0, none⟩) pb.length d2], u23, u24, u25, u26, u27, u28, u29, u30, u31, u32, u33, u34, u35, u36, u37, u38, u39, u40, u41, u42, u43, u44, u45, u46, u47, u48, u49, u50, u51, u52, u53, u54, u55], []⟩ W := by
  conv => arg 3; whnf
  have HQ := Lib.hid hQ
  clear hQ
  refine wpAnyH_ready (rs := [5]) (by kernel_rfl) (by simp) ?_
  refine AllReadyH.cons rfl (fun K hK => ?_) ?_
  · obtain ⟨g5, hgg⟩ : ∃ g, W.heap.size = g := ⟨_, rfl⟩
    have hg5 : w.heap.size + 1 < g5 := by rw [← hgg]; exact hB.2.2.lt
    have hk5 := Blk.new W 41 #[.slice none 0 0, .slice none 0 0]
    rw [hgg] at hk5
    have hne : g4 ≠ g5 := by have := hk4.lt; omega
    have hbm := below_box W (.cells #[.slice none 0 0, .slice none 0 0] 41)
    have hB := hB.below hbm
    have hl1 := hl1.below hbm
    have hl3 := hl3.below hbm
    have hk4 := hk4.alloc (.cells #[.slice none 0 0, .slice none 0 0] 41)
    clear hbm
    go_wp2_with fail
    clear hgg
    refine hK.out _ _ ?_ (fun hH => ?_)
    · exact hB
    clear hK K
    try simp only [Act.put, List.setIfInBounds_toArray, List.set_cons_zero, List.set_cons_succ]
    exact al_012345 A B A' B' c d c' d' a b pa pb w _ HSS HQ.out hB hl1 hl3 hk4 hg4 hk5 hg5 hne
  exact AllReadyH.nil

set_option maxHeartbeats 3200000 in
set_option maxRecDepth 100000 in
theorem al_01235 (A B A' B' : Option Addr) (c d c' d' : Nat) (a b : List Ent) (pa pb : List Int) {u0 u1 u2 u5 u6 u7 u9 u10 u11 u12 u13 u14 u15 u16 u17 u18 u23 u24 u25 u26 u27 u28 u29 u30 u31 u32 u33 u34 u35 u36 u37 u38 u39 u40 u41 u42 u43 u44 u45 u46 u47 u48 u49 u50 u51 u52 u53 u54 u55 : Value} (w W : World) {Q : Exit → Act → World → Prop} (HSS : Hid (ScrIn w A B a pa ∧ ScrIn w A' B' b pb)) {p1 c1 p2 c2 : Nat} {q1 d1 q2 d2 : Nat} {g5 : Nat} (hQ : ∀ s7 s8 s19 s20 s21 s22 W', TwoIn w a b pa pb #[.slice A a.length c, .slice B pa.length d] #[.slice A' b.length c', .slice B' pb.length d'] s7 s8 W' → Q .normal ⟨#[u0, u1, u2, .pointer (some ⟨w.heap.size, 0, none⟩), .pointer (some ⟨(w.heap.size + 1), 0, none⟩), u5, u6, s7, s8, u9, u10, u11, u12, u13, u14, u15, u16, u17, u18, s19, s20, s21, s22, u23, u24, u25, u26, u27, u28, u29, u30, u31, u32, u33, u34, u35, u36, u37, u38, u39, u40, u41, u42, u43, u44, u45, u46, u47, u48, u49, u50, u51, u52, u53, u54, u55], []⟩ W')
    (hB : Bo w #[.slice A a.length c, .slice B pa.length d] #[.slice A' b.length c', .slice B' pb.length d'] W) (hl1 : LO w.heap.size W p1 c1 p2 c2 a pa) (hl3 : LO w.heap.size W q1 d1 q2 d2 b pb) (hk5 : Blk W g5 41 #[.slice none 0 0, .slice none 0 0]) (hg5 : w.heap.size + 1 < g5) :
    wpAnyH Try.prog .any (regOps (codeHead (bodyTail Try.f6 2))) Q (Bo w #[.slice A a.length c, .slice B pa.length d] #[.slice A' b.length c', .slice B' pb.length d']) 3 #[true, true, true, true, false, true, false, false] ⟨#[u0, u1, u2, .pointer (some ⟨w.heap.size, 0, none⟩), .pointer (some ⟨(w.heap.size + 1), 0, none⟩), u5, u6, u7, .pointer (some ⟨g5, 0, none⟩), u9, u10, u11, u12, u13, u14, u15, u16, u17, u18, .agg #[.slice A a.length c, .slice B pa.length d], .agg #[.slice (some ⟨p1, 0, none⟩) a.length c1, .slice (some ⟨p2, 0, none⟩) pa.length c2], .agg #[.slice A' b.length c', .slice B' pb.length d'], .agg #[.slice (some ⟨q1, 0, none⟩) b.length d1, .slice (some ⟨q2, 0, none⟩) pb.length d2], u23, u24, u25, u26, u27, u28, u29, u30, u31, u32, u33, u34, u35, u36, u37, u38, u39, u40, u41, u42, u43, u44, u45, u46, u47, u48, u49, u50, u51, u52, u53, u54, u55], []⟩ W := by
  conv => arg 3; whnf
  have HQ := Lib.hid hQ
  clear hQ
  refine wpAnyH_ready (rs := [4]) (by kernel_rfl) (by simp) ?_
  refine AllReadyH.cons rfl (fun K hK => ?_) ?_
  · obtain ⟨g4, hgg⟩ : ∃ g, W.heap.size = g := ⟨_, rfl⟩
    have hg4 : w.heap.size + 1 < g4 := by rw [← hgg]; exact hB.2.2.lt
    have hk4 := Blk.new W 41 #[.slice none 0 0, .slice none 0 0]
    rw [hgg] at hk4
    have hne : g4 ≠ g5 := by have := hk5.lt; omega
    have hbm := below_box W (.cells #[.slice none 0 0, .slice none 0 0] 41)
    have hB := hB.below hbm
    have hl1 := hl1.below hbm
    have hl3 := hl3.below hbm
    have hk5 := hk5.alloc (.cells #[.slice none 0 0, .slice none 0 0] 41)
    clear hbm
    go_wp2_with fail
    clear hgg
    refine hK.out _ _ ?_ (fun hH => ?_)
    · exact hB
    clear hK K
    try simp only [Act.put, List.setIfInBounds_toArray, List.set_cons_zero, List.set_cons_succ]
    exact al_012345 A B A' B' c d c' d' a b pa pb w _ HSS HQ.out hB hl1 hl3 hk4 hg4 hk5 hg5 hne
  exact AllReadyH.nil

set_option maxHeartbeats 3200000 in
set_option maxRecDepth 100000 in
theorem al_01245 (A B A' B' : Option Addr) (c d c' d' : Nat) (a b : List Ent) (pa pb : List Int) {u0 u1 u2 u5 u6 u9 u10 u11 u12 u13 u14 u15 u16 u17 u18 u22 u23 u24 u25 u26 u27 u28 u29 u30 u31 u32 u33 u34 u35 u36 u37 u38 u39 u40 u41 u42 u43 u44 u45 u46 u47 u48 u49 u50 u51 u52 u53 u54 u55 : Value} (w W : World) {Q : Exit → Act → World → Prop} (HSS : Hid (ScrIn w A B a pa ∧ ScrIn w A' B' b pb)) {p1 c1 p2 c2 : Nat} {g4 : Nat} {g5 : Nat} (hQ : ∀ s7 s8 s19 s20 s21 s22 W', TwoIn w a b pa pb #[.slice A a.length c, .slice B pa.length d] #[.slice A' b.length c', .slice B' pb.length d'] s7 s8 W' → Q .normal ⟨#[u0, u1, u2, .pointer (some ⟨w.heap.size, 0, none⟩), .pointer (some ⟨(w.heap.size + 1), 0, none⟩), u5, u6, s7, s8, u9, u10, u11, u12, u13, u14, u15, u16, u17, u18, s19, s20, s21, s22, u23, u24, u25, u26, u27, u28, u29, u30, u31, u32, u33, u34, u35, u36, u37, u38, u39, u40, u41, u42, u43, u44, u45, u46, u47, u48, u49, u50, u51, u52, u53, u54, u55], []⟩ W')
    (hB : Bo w #[.slice A a.length c, .slice B pa.length d] #[.slice A' b.length c', .slice B' pb.length d'] W) (hl1 : LO w.heap.size W p1 c1 p2 c2 a pa) (hk4 : Blk W g4 41 #[.slice none 0 0, .slice none 0 0]) (hg4 : w.heap.size + 1 < g4) (hk5 : Blk W g5 41 #[.slice none 0 0, .slice none 0 0]) (hg5 : w.heap.size + 1 < g5) (hne : g4 ≠ g5) :
    wpAnyH Try.prog .any (regOps (codeHead (bodyTail Try.f6 2))) Q (Bo w #[.slice A a.length c, .slice B pa.length d] #[.slice A' b.length c', .slice B' pb.length d']) 3 #[true, true, true, false, true, true, false, false] ⟨#[u0, u1, u2, .pointer (some ⟨w.heap.size, 0, none⟩), .pointer (some ⟨(w.heap.size + 1), 0, none⟩), u5, u6, .pointer (some ⟨g4, 0, none⟩), .pointer (some ⟨g5, 0, none⟩), u9, u10, u11, u12, u13, u14, u15, u16, u17, u18, .agg #[.slice A a.length c, .slice B pa.length d], .agg #[.slice (some ⟨p1, 0, none⟩) a.length c1, .slice (some ⟨p2, 0, none⟩) pa.length c2], .agg #[.slice A' b.length c', .slice B' pb.length d'], u22, u23, u24, u25, u26, u27, u28, u29, u30, u31, u32, u33, u34, u35, u36, u37, u38, u39, u40, u41, u42, u43, u44, u45, u46, u47, u48, u49, u50, u51, u52, u53, u54, u55], []⟩ W := by
  conv => arg 3; whnf
  have HQ := Lib.hid hQ
  clear hQ
  refine wpAnyH_ready (rs := [3]) (by kernel_rfl) (by simp) ?_
  refine AllReadyH.cons rfl (fun K hK => ?_) ?_
  · go_simp
    go_at_call 18
    refine (lent_script A' B' c' d' b pb _ (HSS.out.2.below hB.1)).mono ?_
    rintro e W2 ⟨q1, d1, q2, d2, rfl, hc1, hm1, hc2, hm2, ho1, ho2, hbm⟩
    have hl3 : LO w.heap.size W2 q1 d1 q2 d2 b pb := ⟨hc1, hm1, hc2, hm2, ownsRow_more ho1 hB.1.size, ownsRow_more ho2 hB.1.size⟩
    have hB := hB.below hbm
    have hl1 := hl1.below hbm
    have hk4 := hk4.below hbm hk4.lt
    have hk5 := hk5.below hbm hk5.lt
    clear ho1 ho2 hbm
    go_wp2_with fail
    refine hK.out _ _ ?_ (fun hH => ?_)
    · exact hB
    clear hK K
    try simp only [Act.put, List.setIfInBounds_toArray, List.set_cons_zero, List.set_cons_succ]
    exact al_012345 A B A' B' c d c' d' a b pa pb w _ HSS HQ.out hB hl1 hl3 hk4 hg4 hk5 hg5 hne
  exact AllReadyH.nil

set_option maxHeartbeats 3200000 in
set_option maxRecDepth 100000 in
theorem al_0123 (A B A' B' : Option Addr) (c d c' d' : Nat) (a b : List Ent) (pa pb : List Int) {u0 u1 u2 u5 u6 u7 u8 u9 u10 u11 u12 u13 u14 u15 u16 u17 u18 u23 u24 u25 u26 u27 u28 u29 u30 u31 u32 u33 u34 u35 u36 u37 u38 u39 u40 u41 u42 u43 u44 u45 u46 u47 u48 u49 u50 u51 u52 u53 u54 u55 : Value} (w W : World) {Q : Exit → Act → World → Prop} (HSS : Hid (ScrIn w A B a pa ∧ ScrIn w A' B' b pb)) {p1 c1 p2 c2 : Nat} {q1 d1 q2 d2 : Nat} (hQ : ∀ s7 s8 s19 s20 s21 s22 W', TwoIn w a b pa pb #[.slice A a.length c, .slice B pa.length d] #[.slice A' b.length c', .slice B' pb.length d'] s7 s8 W' → Q .normal ⟨#[u0, u1, u2, .pointer (some ⟨w.heap.size, 0, none⟩), .pointer (some ⟨(w.heap.size + 1), 0, none⟩), u5, u6, s7, s8, u9, u10, u11, u12, u13, u14, u15, u16, u17, u18, s19, s20, s21, s22, u23, u24, u25, u26, u27, u28, u29, u30, u31, u32, u33, u34, u35, u36, u37, u38, u39, u40, u41, u42, u43, u44, u45, u46, u47, u48, u49, u50, u51, u52, u53, u54, u55], []⟩ W')
    (hB : Bo w #[.slice A a.length c, .slice B pa.length d] #[.slice A' b.length c', .slice B' pb.length d'] W) (hl1 : LO w.heap.size W p1 c1 p2 c2 a pa) (hl3 : LO w.heap.size W q1 d1 q2 d2 b pb) :
    wpAnyH Try.prog .any (regOps (codeHead (bodyTail Try.f6 2))) Q (Bo w #[.slice A a.length c, .slice B pa.length d] #[.slice A' b.length c', .slice B' pb.length d']) 4 #[true, true, true, true, false, false, false, false] ⟨#[u0, u1, u2, .pointer (some ⟨w.heap.size, 0, none⟩), .pointer (some ⟨(w.heap.size + 1), 0, none⟩), u5, u6, u7, u8, u9, u10, u11, u12, u13, u14, u15, u16, u17, u18, .agg #[.slice A a.length c, .slice B pa.length d], .agg #[.slice (some ⟨p1, 0, none⟩) a.length c1, .slice (some ⟨p2, 0, none⟩) pa.length c2], .agg #[.slice A' b.length c', .slice B' pb.length d'], .agg #[.slice (some ⟨q1, 0, none⟩) b.length d1, .slice (some ⟨q2, 0, none⟩) pb.length d2], u23, u24, u25, u26, u27, u28, u29, u30, u31, u32, u33, u34, u35, u36, u37, u38, u39, u40, u41, u42, u43, u44, u45, u46, u47, u48, u49, u50, u51, u52, u53, u54, u55], []⟩ W := by
  conv => arg 3; whnf
  have HQ := Lib.hid hQ
  clear hQ
  refine wpAnyH_ready (rs := [4, 5]) (by kernel_rfl) (by simp) ?_
  refine AllReadyH.cons rfl (fun K hK => ?_) ?_
  · obtain ⟨g4, hgg⟩ : ∃ g, W.heap.size = g := ⟨_, rfl⟩
    have hg4 : w.heap.size + 1 < g4 := by rw [← hgg]; exact hB.2.2.lt
    have hk4 := Blk.new W 41 #[.slice none 0 0, .slice none 0 0]
    rw [hgg] at hk4
    have hbm := below_box W (.cells #[.slice none 0 0, .slice none 0 0] 41)
    have hB := hB.below hbm
    have hl1 := hl1.below hbm
    have hl3 := hl3.below hbm
    clear hbm
    go_wp2_with fail
    clear hgg
    refine hK.out _ _ ?_ (fun hH => ?_)
    · exact hB
    clear hK K
    try simp only [Act.put, List.setIfInBounds_toArray, List.set_cons_zero, List.set_cons_succ]
    exact al_01234 A B A' B' c d c' d' a b pa pb w _ HSS HQ.out hB hl1 hl3 hk4 hg4
  refine AllReadyH.cons rfl (fun K hK => ?_) ?_
  · obtain ⟨g5, hgg⟩ : ∃ g, W.heap.size = g := ⟨_, rfl⟩
    have hg5 : w.heap.size + 1 < g5 := by rw [← hgg]; exact hB.2.2.lt
    have hk5 := Blk.new W 41 #[.slice none 0 0, .slice none 0 0]
    rw [hgg] at hk5
    have hbm := below_box W (.cells #[.slice none 0 0, .slice none 0 0] 41)
    have hB := hB.below hbm
    have hl1 := hl1.below hbm
    have hl3 := hl3.below hbm
    clear hbm
    go_wp2_with fail
    clear hgg
    refine hK.out _ _ ?_ (fun hH => ?_)
    · exact hB
    clear hK K
    try simp only [Act.put, List.setIfInBounds_toArray, List.set_cons_zero, List.set_cons_succ]
    exact al_01235 A B A' B' c d c' d' a b pa pb w _ HSS HQ.out hB hl1 hl3 hk5 hg5
  exact AllReadyH.nil

set_option maxHeartbeats 3200000 in
set_option maxRecDepth 100000 in
theorem al_0124 (A B A' B' : Option Addr) (c d c' d' : Nat) (a b : List Ent) (pa pb : List Int) {u0 u1 u2 u5 u6 u8 u9 u10 u11 u12 u13 u14 u15 u16 u17 u18 u22 u23 u24 u25 u26 u27 u28 u29 u30 u31 u32 u33 u34 u35 u36 u37 u38 u39 u40 u41 u42 u43 u44 u45 u46 u47 u48 u49 u50 u51 u52 u53 u54 u55 : Value} (w W : World) {Q : Exit → Act → World → Prop} (HSS : Hid (ScrIn w A B a pa ∧ ScrIn w A' B' b pb)) {p1 c1 p2 c2 : Nat} {g4 : Nat} (hQ : ∀ s7 s8 s19 s20 s21 s22 W', TwoIn w a b pa pb #[.slice A a.length c, .slice B pa.length d] #[.slice A' b.length c', .slice B' pb.length d'] s7 s8 W' → Q .normal ⟨#[u0, u1, u2, .pointer (some ⟨w.heap.size, 0, none⟩), .pointer (some ⟨(w.heap.size + 1), 0, none⟩), u5, u6, s7, s8, u9, u10, u11, u12, u13, u14, u15, u16, u17, u18, s19, s20, s21, s22, u23, u24, u25, u26, u27, u28, u29, u30, u31, u32, u33, u34, u35, u36, u37, u38, u39, u40, u41, u42, u43, u44, u45, u46, u47, u48, u49, u50, u51, u52, u53, u54, u55], []⟩ W')
    (hB : Bo w #[.slice A a.length c, .slice B pa.length d] #[.slice A' b.length c', .slice B' pb.length d'] W) (hl1 : LO w.heap.size W p1 c1 p2 c2 a pa) (hk4 : Blk W g4 41 #[.slice none 0 0, .slice none 0 0]) (hg4 : w.heap.size + 1 < g4) :
    wpAnyH Try.prog .any (regOps (codeHead (bodyTail Try.f6 2))) Q (Bo w #[.slice A a.length c, .slice B pa.length d] #[.slice A' b.length c', .slice B' pb.length d']) 4 #[true, true, true, false, true, false, false, false] ⟨#[u0, u1, u2, .pointer (some ⟨w.heap.size, 0, none⟩), .pointer (some ⟨(w.heap.size + 1), 0, none⟩), u5, u6, .pointer (some ⟨g4, 0, none⟩), u8, u9, u10, u11, u12, u13, u14, u15, u16, u17, u18, .agg #[.slice A a.length c, .slice B pa.length d], .agg #[.slice (some ⟨p1, 0, none⟩) a.length c1, .slice (some ⟨p2, 0, none⟩) pa.length c2], .agg #[.slice A' b.length c', .slice B' pb.length d'], u22, u23, u24, u25, u26, u27, u28, u29, u30, u31, u32, u33, u34, u35, u36, u37, u38, u39, u40, u41, u42, u43, u44, u45, u46, u47, u48, u49, u50, u51, u52, u53, u54, u55], []⟩ W := by
  conv => arg 3; whnf
  have HQ := Lib.hid hQ
  clear hQ
  refine wpAnyH_ready (rs := [3, 5]) (by kernel_rfl) (by simp) ?_
  refine AllReadyH.cons rfl (fun K hK => ?_) ?_
  · go_simp
    go_at_call 18
    refine (lent_script A' B' c' d' b pb _ (HSS.out.2.below hB.1)).mono ?_
    rintro e W2 ⟨q1, d1, q2, d2, rfl, hc1, hm1, hc2, hm2, ho1, ho2, hbm⟩
    have hl3 : LO w.heap.size W2 q1 d1 q2 d2 b pb := ⟨hc1, hm1, hc2, hm2, ownsRow_more ho1 hB.1.size, ownsRow_more ho2 hB.1.size⟩
    have hB := hB.below hbm
    have hl1 := hl1.below hbm
    have hk4 := hk4.below hbm hk4.lt
    clear ho1 ho2 hbm
    go_wp2_with fail
    refine hK.out _ _ ?_ (fun hH => ?_)
    · exact hB
    clear hK K
    try simp only [Act.put, List.setIfInBounds_toArray, List.set_cons_zero, List.set_cons_succ]
    exact al_01234 A B A' B' c d c' d' a b pa pb w _ HSS HQ.out hB hl1 hl3 hk4 hg4
  refine AllReadyH.cons rfl (fun K hK => ?_) ?_
  · obtain ⟨g5, hgg⟩ : ∃ g, W.heap.size = g := ⟨_, rfl⟩
    have hg5 : w.heap.size + 1 < g5 := by rw [← hgg]; exact hB.2.2.lt
    have hk5 := Blk.new W 41 #[.slice none 0 0, .slice none 0 0]
    rw [hgg] at hk5
    have hne : g4 ≠ g5 := by have := hk4.lt; omega
    have hbm := below_box W (.cells #[.slice none 0 0, .slice none 0 0] 41)
    have hB := hB.below hbm
    have hl1 := hl1.below hbm
    have hk4 := hk4.alloc (.cells #[.slice none 0 0, .slice none 0 0] 41)
    clear hbm
    go_wp2_with fail
    clear hgg
    refine hK.out _ _ ?_ (fun hH => ?_)
    · exact hB
    clear hK K
    try simp only [Act.put, List.setIfInBounds_toArray, List.set_cons_zero, List.set_cons_succ]
    exact al_01245 A B A' B' c d c' d' a b pa pb w _ HSS HQ.out hB hl1 hk4 hg4 hk5 hg5 hne
  exact AllReadyH.nil

set_option maxHeartbeats 3200000 in
set_option maxRecDepth 100000 in
theorem al_0125 (A B A' B' : Option Addr) (c d c' d' : Nat) (a b : List Ent) (pa pb : List Int) {u0 u1 u2 u5 u6 u7 u9 u10 u11 u12 u13 u14 u15 u16 u17 u18 u22 u23 u24 u25 u26 u27 u28 u29 u30 u31 u32 u33 u34 u35 u36 u37 u38 u39 u40 u41 u42 u43 u44 u45 u46 u47 u48 u49 u50 u51 u52 u53 u54 u55 : Value} (w W : World) {Q : Exit → Act → World → Prop} (HSS : Hid (ScrIn w A B a pa ∧ ScrIn w A' B' b pb)) {p1 c1 p2 c2 : Nat} {g5 : Nat} (hQ : ∀ s7 s8 s19 s20 s21 s22 W', TwoIn w a b pa pb #[.slice A a.length c, .slice B pa.length d] #[.slice A' b.length c', .slice B' pb.length d'] s7 s8 W' → Q .normal ⟨#[u0, u1, u2, .pointer (some ⟨w.heap.size, 0, none⟩), .pointer (some ⟨(w.heap.size + 1), 0, none⟩), u5, u6, s7, s8, u9, u10, u11, u12, u13, u14, u15, u16, u17, u18, s19, s20, s21, s22, u23, u24, u25, u26, u27, u28, u29, u30, u31, u32, u33, u34, u35, u36, u37, u38, u39, u40, u41, u42, u43, u44, u45, u46, u47, u48, u49, u50, u51, u52, u53, u54, u55], []⟩ W')
    (hB : Bo w #[.slice A a.length c, .slice B pa.length d] #[.slice A' b.length c', .slice B' pb.length d'] W) (hl1 : LO w.heap.size W p1 c1 p2 c2 a pa) (hk5 : Blk W g5 41 #[.slice none 0 0, .slice none 0 0]) (hg5 : w.heap.size + 1 < g5) :
    wpAnyH Try.prog .any (regOps (codeHead (bodyTail Try.f6 2))) Q (Bo w #[.slice A a.length c, .slice B pa.length d] #[.slice A' b.length c', .slice B' pb.length d']) 4 #[true, true, true, false, false, true, false, false] ⟨#[u0, u1, u2, .pointer (some ⟨w.heap.size, 0, none⟩), .pointer (some ⟨(w.heap.size + 1), 0, none⟩), u5, u6, u7, .pointer (some ⟨g5, 0, none⟩), u9, u10, u11, u12, u13, u14, u15, u16, u17, u18, .agg #[.slice A a.length c, .slice B pa.length d], .agg #[.slice (some ⟨p1, 0, none⟩) a.length c1, .slice (some ⟨p2, 0, none⟩) pa.length c2], .agg #[.slice A' b.length c', .slice B' pb.length d'], u22, u23, u24, u25, u26, u27, u28, u29, u30, u31, u32, u33, u34, u35, u36, u37, u38, u39, u40, u41, u42, u43, u44, u45, u46, u47, u48, u49, u50, u51, u52, u53, u54, u55], []⟩ W := by
  conv => arg 3; whnf
  have HQ := Lib.hid hQ
  clear hQ
  refine wpAnyH_ready (rs := [3, 4]) (by kernel_rfl) (by simp) ?_
  refine AllReadyH.cons rfl (fun K hK => ?_) ?_
  · go_simp
    go_at_call 18
    refine (lent_script A' B' c' d' b pb _ (HSS.out.2.below hB.1)).mono ?_
    rintro e W2 ⟨q1, d1, q2, d2, rfl, hc1, hm1, hc2, hm2, ho1, ho2, hbm⟩
    have hl3 : LO w.heap.size W2 q1 d1 q2 d2 b pb := ⟨hc1, hm1, hc2, hm2, ownsRow_more ho1 hB.1.size, ownsRow_more ho2 hB.1.size⟩
    have hB := hB.below hbm
    have hl1 := hl1.below hbm
    have hk5 := hk5.below hbm hk5.lt
    clear ho1 ho2 hbm
    go_wp2_with fail
    refine hK.out _ _ ?_ (fun hH => ?_)
    · exact hB
    clear hK K
    try simp only [Act.put, List.setIfInBounds_toArray, List.set_cons_zero, List.set_cons_succ]
    exact al_01235 A B A' B' c d c' d' a b pa pb w _ HSS HQ.out hB hl1 hl3 hk5 hg5
  refine AllReadyH.cons rfl (fun K hK => ?_) ?_
  · obtain ⟨g4, hgg⟩ : ∃ g, W.heap.size = g := ⟨_, rfl⟩
    have hg4 : w.heap.size + 1 < g4 := by rw [← hgg]; exact hB.2.2.lt
    have hk4 := Blk.new W 41 #[.slice none 0 0, .slice none 0 0]
    rw [hgg] at hk4
    have hne : g4 ≠ g5 := by have := hk5.lt; omega
    have hbm := below_box W (.cells #[.slice none 0 0, .slice none 0 0] 41)
    have hB := hB.below hbm
    have hl1 := hl1.below hbm
    have hk5 := hk5.alloc (.cells #[.slice none 0 0, .slice none 0 0] 41)
    clear hbm
    go_wp2_with fail
    clear hgg
    refine hK.out _ _ ?_ (fun hH => ?_)
    · exact hB
    clear hK K
    try simp only [Act.put, List.setIfInBounds_toArray, List.set_cons_zero, List.set_cons_succ]
    exact al_01245 A B A' B' c d c' d' a b pa pb w _ HSS HQ.out hB hl1 hk4 hg4 hk5 hg5 hne
  exact AllReadyH.nil

set_option maxHeartbeats 3200000 in
set_option maxRecDepth 100000 in
theorem al_0245 (A B A' B' : Option Addr) (c d c' d' : Nat) (a b : List Ent) (pa pb : List Int) {u0 u1 u2 u5 u6 u9 u10 u11 u12 u13 u14 u15 u16 u17 u18 u20 u22 u23 u24 u25 u26 u27 u28 u29 u30 u31 u32 u33 u34 u35 u36 u37 u38 u39 u40 u41 u42 u43 u44 u45 u46 u47 u48 u49 u50 u51 u52 u53 u54 u55 : Value} (w W : World) {Q : Exit → Act → World → Prop} (HSS : Hid (ScrIn w A B a pa ∧ ScrIn w A' B' b pb)) {g4 : Nat} {g5 : Nat} (hQ : ∀ s7 s8 s19 s20 s21 s22 W', TwoIn w a b pa pb #[.slice A a.length c, .slice B pa.length d] #[.slice A' b.length c', .slice B' pb.length d'] s7 s8 W' → Q .normal ⟨#[u0, u1, u2, .pointer (some ⟨w.heap.size, 0, none⟩), .pointer (some ⟨(w.heap.size + 1), 0, none⟩), u5, u6, s7, s8, u9, u10, u11, u12, u13, u14, u15, u16, u17, u18, s19, s20, s21, s22, u23, u24, u25, u26, u27, u28, u29, u30, u31, u32, u33, u34, u35, u36, u37, u38, u39, u40, u41, u42, u43, u44, u45, u46, u47, u48, u49, u50, u51, u52, u53, u54, u55], []⟩ W')
    (hB : Bo w #[.slice A a.length c, .slice B pa.length d] #[.slice A' b.length c', .slice B' pb.length d'] W) (hk4 : Blk W g4 41 #[.slice none 0 0, .slice none 0 0]) (hg4 : w.heap.size + 1 < g4) (hk5 : Blk W g5 41 #[.slice none 0 0, .slice none 0 0]) (hg5 : w.heap.size + 1 < g5) (hne : g4 ≠ g5) :
    wpAnyH Try.prog .any (regOps (codeHead (bodyTail Try.f6 2))) Q (Bo w #[.slice A a.length c, .slice B pa.length d] #[.slice A' b.length c', .slice B' pb.length d']) 4 #[true, false, true, false, true, true, false, false] ⟨#[u0, u1, u2, .pointer (some ⟨w.heap.size, 0, none⟩), .pointer (some ⟨(w.heap.size + 1), 0, none⟩), u5, u6, .pointer (some ⟨g4, 0, none⟩), .pointer (some ⟨g5, 0, none⟩), u9, u10, u11, u12, u13, u14, u15, u16, u17, u18, .agg #[.slice A a.length c, .slice B pa.length d], u20, .agg #[.slice A' b.length c', .slice B' pb.length d'], u22, u23, u24, u25, u26, u27, u28, u29, u30, u31, u32, u33, u34, u35, u36, u37, u38, u39, u40, u41, u42, u43, u44, u45, u46, u47, u48, u49, u50, u51, u52, u53, u54, u55], []⟩ W := by
  conv => arg 3; whnf
  have HQ := Lib.hid hQ
  clear hQ
  refine wpAnyH_ready (rs := [1]) (by kernel_rfl) (by simp) ?_
  refine AllReadyH.cons rfl (fun K hK => ?_) ?_
  · go_simp
    go_at_call 18
    refine (lent_script A B c d a pa _ (HSS.out.1.below hB.1)).mono ?_
    rintro e W2 ⟨p1, c1, p2, c2, rfl, hc1, hm1, hc2, hm2, ho1, ho2, hbm⟩
    have hl1 : LO w.heap.size W2 p1 c1 p2 c2 a pa := ⟨hc1, hm1, hc2, hm2, ownsRow_more ho1 hB.1.size, ownsRow_more ho2 hB.1.size⟩
    have hB := hB.below hbm
    have hk4 := hk4.below hbm hk4.lt
    have hk5 := hk5.below hbm hk5.lt
    clear ho1 ho2 hbm
    go_wp2_with fail
    refine hK.out _ _ ?_ (fun hH => ?_)
    · exact hB
    clear hK K
    try simp only [Act.put, List.setIfInBounds_toArray, List.set_cons_zero, List.set_cons_succ]
    exact al_01245 A B A' B' c d c' d' a b pa pb w _ HSS HQ.out hB hl1 hk4 hg4 hk5 hg5 hne
  exact AllReadyH.nil

set_option maxHeartbeats 3200000 in
set_option maxRecDepth 100000 in
theorem al_012 (A B A' B' : Option Addr) (c d c' d' : Nat) (a b : List Ent) (pa pb : List Int) {u0 u1 u2 u5 u6 u7 u8 u9 u10 u11 u12 u13 u14 u15 u16 u17 u18 u22 u23 u24 u25 u26 u27 u28 u29 u30 u31 u32 u33 u34 u35 u36 u37 u38 u39 u40 u41 u42 u43 u44 u45 u46 u47 u48 u49 u50 u51 u52 u53 u54 u55 : Value} (w W : World) {Q : Exit → Act → World → Prop} (HSS : Hid (ScrIn w A B a pa ∧ ScrIn w A' B' b pb)) {p1 c1 p2 c2 : Nat} (hQ : ∀ s7 s8 s19 s20 s21 s22 W', TwoIn w a b pa pb #[.slice A a.length c, .slice B pa.length d] #[.slice A' b.length c', .slice B' pb.length d'] s7 s8 W' → Q .normal ⟨#[u0, u1, u2, .pointer (some ⟨w.heap.size, 0, none⟩), .pointer (some ⟨(w.heap.size + 1), 0, none⟩), u5, u6, s7, s8, u9, u10, u11, u12, u13, u14, u15, u16, u17, u18, s19, s20, s21, s22, u23, u24, u25, u26, u27, u28, u29, u30, u31, u32, u33, u34, u35, u36, u37, u38, u39, u40, u41, u42, u43, u44, u45, u46, u47, u48, u49, u50, u51, u52, u53, u54, u55], []⟩ W')
    (hB : Bo w #[.slice A a.length c, .slice B pa.length d] #[.slice A' b.length c', .slice B' pb.length d'] W) (hl1 : LO w.heap.size W p1 c1 p2 c2 a pa) :
    wpAnyH Try.prog .any (regOps (codeHead (bodyTail Try.f6 2))) Q (Bo w #[.slice A a.length c, .slice B pa.length d] #[.slice A' b.length c', .slice B' pb.length d']) 5 #[true, true, true, false, false, false, false, false] ⟨#[u0, u1, u2, .pointer (some ⟨w.heap.size, 0, none⟩), .pointer (some ⟨(w.heap.size + 1), 0, none⟩), u5, u6, u7, u8, u9, u10, u11, u12, u13, u14, u15, u16, u17, u18, .agg #[.slice A a.length c, .slice B pa.length d], .agg #[.slice (some ⟨p1, 0, none⟩) a.length c1, .slice (some ⟨p2, 0, none⟩) pa.length c2], .agg #[.slice A' b.length c', .slice B' pb.length d'], u22, u23, u24, u25, u26, u27, u28, u29, u30, u31, u32, u33, u34, u35, u36, u37, u38, u39, u40, u41, u42, u43, u44, u45, u46, u47, u48, u49, u50, u51, u52, u53, u54, u55], []⟩ W := by
  conv => arg 3; whnf
  have HQ := Lib.hid hQ
  clear hQ
  refine wpAnyH_ready (rs := [3, 4, 5]) (by kernel_rfl) (by simp) ?_
  refine AllReadyH.cons rfl (fun K hK => ?_) ?_
  · go_simp
    go_at_call 18
    refine (lent_script A' B' c' d' b pb _ (HSS.out.2.below hB.1)).mono ?_
    rintro e W2 ⟨q1, d1, q2, d2, rfl, hc1, hm1, hc2, hm2, ho1, ho2, hbm⟩
    have hl3 : LO w.heap.size W2 q1 d1 q2 d2 b pb := ⟨hc1, hm1, hc2, hm2, ownsRow_more ho1 hB.1.size, ownsRow_more ho2 hB.1.size⟩
    have hB := hB.below hbm
    have hl1 := hl1.below hbm
    clear ho1 ho2 hbm
    go_wp2_with fail
    refine hK.out _ _ ?_ (fun hH => ?_)
    · exact hB
    clear hK K
    try simp only [Act.put, List.setIfInBounds_toArray, List.set_cons_zero, List.set_cons_succ]
    exact al_0123 A B A' B' c d c' d' a b pa pb w _ HSS HQ.out hB hl1 hl3
  refine AllReadyH.cons rfl (fun K hK => ?_) ?_
  · obtain ⟨g4, hgg⟩ : ∃ g, W.heap.size = g := ⟨_, rfl⟩
    have hg4 : w.heap.size + 1 < g4 := by rw [← hgg]; exact hB.2.2.lt
    have hk4 := Blk.new W 41 #[.slice none 0 0, .slice none 0 0]
    rw [hgg] at hk4
    have hbm := below_box W (.cells #[.slice none 0 0, .slice none 0 0] 41)
    have hB := hB.below hbm
    have hl1 := hl1.below hbm
    clear hbm
    go_wp2_with fail
    clear hgg
    refine hK.out _ _ ?_ (fun hH => ?_)
    · exact hB
    clear hK K
    try simp only [Act.put, List.setIfInBounds_toArray, List.set_cons_zero, List.set_cons_succ]
    exact al_0124 A B A' B' c d c' d' a b pa pb w _ HSS HQ.out hB hl1 hk4 hg4
  refine AllReadyH.cons rfl (fun K hK => ?_) ?_
  · obtain ⟨g5, hgg⟩ : ∃ g, W.heap.size = g := ⟨_, rfl⟩
    have hg5 : w.heap.size + 1 < g5 := by rw [← hgg]; exact hB.2.2.lt
    have hk5 := Blk.new W 41 #[.slice none 0 0, .slice none 0 0]
    rw [hgg] at hk5
    have hbm := below_box W (.cells #[.slice none 0 0, .slice none 0 0] 41)
    have hB := hB.below hbm
    have hl1 := hl1.below hbm
    clear hbm
    go_wp2_with fail
    clear hgg
    refine hK.out _ _ ?_ (fun hH => ?_)
    · exact hB
    clear hK K
    try simp only [Act.put, List.setIfInBounds_toArray, List.set_cons_zero, List.set_cons_succ]
    exact al_0125 A B A' B' c d c' d' a b pa pb w _ HSS HQ.out hB hl1 hk5 hg5
  exact AllReadyH.nil

set_option maxHeartbeats 3200000 in
set_option maxRecDepth 100000 in
theorem al_024 (A B A' B' : Option Addr) (c d c' d' : Nat) (a b : List Ent) (pa pb : List Int) {u0 u1 u2 u5 u6 u8 u9 u10 u11 u12 u13 u14 u15 u16 u17 u18 u20 u22 u23 u24 u25 u26 u27 u28 u29 u30 u31 u32 u33 u34 u35 u36 u37 u38 u39 u40 u41 u42 u43 u44 u45 u46 u47 u48 u49 u50 u51 u52 u53 u54 u55 : Value} (w W : World) {Q : Exit → Act → World → Prop} (HSS : Hid (ScrIn w A B a pa ∧ ScrIn w A' B' b pb)) {g4 : Nat} (hQ : ∀ s7 s8 s19 s20 s21 s22 W', TwoIn w a b pa pb #[.slice A a.length c, .slice B pa.length d] #[.slice A' b.length c', .slice B' pb.length d'] s7 s8 W' → Q .normal ⟨#[u0, u1, u2, .pointer (some ⟨w.heap.size, 0, none⟩), .pointer (some ⟨(w.heap.size + 1), 0, none⟩), u5, u6, s7, s8, u9, u10, u11, u12, u13, u14, u15, u16, u17, u18, s19, s20, s21, s22, u23, u24, u25, u26, u27, u28, u29, u30, u31, u32, u33, u34, u35, u36, u37, u38, u39, u40, u41, u42, u43, u44, u45, u46, u47, u48, u49, u50, u51, u52, u53, u54, u55], []⟩ W')
    (hB : Bo w #[.slice A a.length c, .slice B pa.length d] #[.slice A' b.length c', .slice B' pb.length d'] W) (hk4 : Blk W g4 41 #[.slice none 0 0, .slice none 0 0]) (hg4 : w.heap.size + 1 < g4) :
    wpAnyH Try.prog .any (regOps (codeHead (bodyTail Try.f6 2))) Q (Bo w #[.slice A a.length c, .slice B pa.length d] #[.slice A' b.length c', .slice B' pb.length d']) 5 #[true, false, true, false, true, false, false, false] ⟨#[u0, u1, u2, .pointer (some ⟨w.heap.size, 0, none⟩), .pointer (some ⟨(w.heap.size + 1), 0, none⟩), u5, u6, .pointer (some ⟨g4, 0, none⟩), u8, u9, u10, u11, u12, u13, u14, u15, u16, u17, u18, .agg #[.slice A a.length c, .slice B pa.length d], u20, .agg #[.slice A' b.length c', .slice B' pb.length d'], u22, u23, u24, u25, u26, u27, u28, u29, u30, u31, u32, u33, u34, u35, u36, u37, u38, u39, u40, u41, u42, u43, u44, u45, u46, u47, u48, u49, u50, u51, u52, u53, u54, u55], []⟩ W := by
  conv => arg 3; whnf
  have HQ := Lib.hid hQ
  clear hQ
  refine wpAnyH_ready (rs := [1, 5]) (by kernel_rfl) (by simp) ?_
  refine AllReadyH.cons rfl (fun K hK => ?_) ?_
  · go_simp
    go_at_call 18
    refine (lent_script A B c d a pa _ (HSS.out.1.below hB.1)).mono ?_
    rintro e W2 ⟨p1, c1, p2, c2, rfl, hc1, hm1, hc2, hm2, ho1, ho2, hbm⟩
    have hl1 : LO w.heap.size W2 p1 c1 p2 c2 a pa := ⟨hc1, hm1, hc2, hm2, ownsRow_more ho1 hB.1.size, ownsRow_more ho2 hB.1.size⟩
    have hB := hB.below hbm
    have hk4 := hk4.below hbm hk4.lt
    clear ho1 ho2 hbm
    go_wp2_with fail
    refine hK.out _ _ ?_ (fun hH => ?_)
    · exact hB
    clear hK K
    try simp only [Act.put, List.setIfInBounds_toArray, List.set_cons_zero, List.set_cons_succ]
    exact al_0124 A B A' B' c d c' d' a b pa pb w _ HSS HQ.out hB hl1 hk4 hg4
  refine AllReadyH.cons rfl (fun K hK => ?_) ?_
  · obtain ⟨g5, hgg⟩ : ∃ g, W.heap.size = g := ⟨_, rfl⟩
    have hg5 : w.heap.size + 1 < g5 := by rw [← hgg]; exact hB.2.2.lt
    have hk5 := Blk.new W 41 #[.slice none 0 0, .slice none 0 0]
    rw [hgg] at hk5
    have hne : g4 ≠ g5 := by have := hk4.lt; omega
    have hbm := below_box W (.cells #[.slice none 0 0, .slice none 0 0] 41)
    have hB := hB.below hbm
    have hk4 := hk4.alloc (.cells #[.slice none 0 0, .slice none 0 0] 41)
    clear hbm
    go_wp2_with fail
    clear hgg
    refine hK.out _ _ ?_ (fun hH => ?_)
    · exact hB
    clear hK K
    try simp only [Act.put, List.setIfInBounds_toArray, List.set_cons_zero, List.set_cons_succ]
    exact al_0245 A B A' B' c d c' d' a b pa pb w _ HSS HQ.out hB hk4 hg4 hk5 hg5 hne
  exact AllReadyH.nil

set_option maxHeartbeats 3200000 in
set_option maxRecDepth 100000 in
theorem al_025 (A B A' B' : Option Addr) (c d c' d' : Nat) (a b : List Ent) (pa pb : List Int) {u0 u1 u2 u5 u6 u7 u9 u10 u11 u12 u13 u14 u15 u16 u17 u18 u20 u22 u23 u24 u25 u26 u27 u28 u29 u30 u31 u32 u33 u34 u35 u36 u37 u38 u39 u40 u41 u42 u43 u44 u45 u46 u47 u48 u49 u50 u51 u52 u53 u54 u55 : Value} (w W : World) {Q : Exit → Act → World → Prop} (HSS : Hid (ScrIn w A B a pa ∧ ScrIn w A' B' b pb)) {g5 : Nat} (hQ : ∀ s7 s8 s19 s20 s21 s22 W', TwoIn w a b pa pb #[.slice A a.length c, .slice B pa.length d] #[.slice A' b.length c', .slice B' pb.length d'] s7 s8 W' → Q .normal ⟨#[u0, u1, u2, .pointer (some ⟨w.heap.size, 0, none⟩), .pointer (some ⟨(w.heap.size + 1), 0, none⟩), u5, u6, s7, s8, u9, u10, u11, u12, u13, u14, u15, u16, u17, u18, s19, s20, s21, s22, u23, u24, u25, u26, u27, u28, u29, u30, u31, u32, u33, u34, u35, u36, u37, u38, u39, u40, u41, u42, u43, u44, u45, u46, u47, u48, u49, u50, u51, u52, u53, u54, u55], []⟩ W')
    (hB : Bo w #[.slice A a.length c, .slice B pa.length d] #[.slice A' b.length c', .slice B' pb.length d'] W) (hk5 : Blk W g5 41 #[.slice none 0 0, .slice none 0 0]) (hg5 : w.heap.size + 1 < g5) :
    wpAnyH Try.prog .any (regOps (codeHead (bodyTail Try.f6 2))) Q (Bo w #[.slice A a.length c, .slice B pa.length d] #[.slice A' b.length c', .slice B' pb.length d']) 5 #[true, false, true, false, false, true, false, false] ⟨#[u0, u1, u2, .pointer (some ⟨w.heap.size, 0, none⟩), .pointer (some ⟨(w.heap.size + 1), 0, none⟩), u5, u6, u7, .pointer (some ⟨g5, 0, none⟩), u9, u10, u11, u12, u13, u14, u15, u16, u17, u18, .agg #[.slice A a.length c, .slice B pa.length d], u20, .agg #[.slice A' b.length c', .slice B' pb.length d'], u22, u23, u24, u25, u26, u27, u28, u29, u30, u31, u32, u33, u34, u35, u36, u37, u38, u39, u40, u41, u42, u43, u44, u45, u46, u47, u48, u49, u50, u51, u52, u53, u54, u55], []⟩ W := by
  conv => arg 3; whnf
  have HQ := Lib.hid hQ
  clear hQ
  refine wpAnyH_ready (rs := [1, 4]) (by kernel_rfl) (by simp) ?_
  refine AllReadyH.cons rfl (fun K hK => ?_) ?_
  · go_simp
    go_at_call 18
    refine (lent_script A B c d a pa _ (HSS.out.1.below hB.1)).mono ?_
    rintro e W2 ⟨p1, c1, p2, c2, rfl, hc1, hm1, hc2, hm2, ho1, ho2, hbm⟩
    have hl1 : LO w.heap.size W2 p1 c1 p2 c2 a pa := ⟨hc1, hm1, hc2, hm2, ownsRow_more ho1 hB.1.size, ownsRow_more ho2 hB.1.size⟩
    have hB := hB.below hbm
    have hk5 := hk5.below hbm hk5.lt
    clear ho1 ho2 hbm
    go_wp2_with fail
    refine hK.out _ _ ?_ (fun hH => ?_)
    · exact hB
    clear hK K
    try simp only [Act.put, List.setIfInBounds_toArray, List.set_cons_zero, List.set_cons_succ]
    exact al_0125 A B A' B' c d c' d' a b pa pb w _ HSS HQ.out hB hl1 hk5 hg5
  refine AllReadyH.cons rfl (fun K hK => ?_) ?_
  · obtain ⟨g4, hgg⟩ : ∃ g, W.heap.size = g := ⟨_, rfl⟩
    have hg4 : w.heap.size + 1 < g4 := by rw [← hgg]; exact hB.2.2.lt
    have hk4 := Blk.new W 41 #[.slice none 0 0, .slice none 0 0]
    rw [hgg] at hk4
    have hne : g4 ≠ g5 := by have := hk5.lt; omega
    have hbm := below_box W (.cells #[.slice none 0 0, .slice none 0 0] 41)
    have hB := hB.below hbm
    have hk5 := hk5.alloc (.cells #[.slice none 0 0, .slice none 0 0] 41)
    clear hbm
    go_wp2_with fail
    clear hgg
    refine hK.out _ _ ?_ (fun hH => ?_)
    · exact hB
    clear hK K
    try simp only [Act.put, List.setIfInBounds_toArray, List.set_cons_zero, List.set_cons_succ]
    exact al_0245 A B A' B' c d c' d' a b pa pb w _ HSS HQ.out hB hk4 hg4 hk5 hg5 hne
  exact AllReadyH.nil

set_option maxHeartbeats 3200000 in
set_option maxRecDepth 100000 in
theorem al_02 (A B A' B' : Option Addr) (c d c' d' : Nat) (a b : List Ent) (pa pb : List Int) {u0 u1 u2 u5 u6 u7 u8 u9 u10 u11 u12 u13 u14 u15 u16 u17 u18 u20 u22 u23 u24 u25 u26 u27 u28 u29 u30 u31 u32 u33 u34 u35 u36 u37 u38 u39 u40 u41 u42 u43 u44 u45 u46 u47 u48 u49 u50 u51 u52 u53 u54 u55 : Value} (w W : World) {Q : Exit → Act → World → Prop} (HSS : Hid (ScrIn w A B a pa ∧ ScrIn w A' B' b pb)) (hQ : ∀ s7 s8 s19 s20 s21 s22 W', TwoIn w a b pa pb #[.slice A a.length c, .slice B pa.length d] #[.slice A' b.length c', .slice B' pb.length d'] s7 s8 W' → Q .normal ⟨#[u0, u1, u2, .pointer (some ⟨w.heap.size, 0, none⟩), .pointer (some ⟨(w.heap.size + 1), 0, none⟩), u5, u6, s7, s8, u9, u10, u11, u12, u13, u14, u15, u16, u17, u18, s19, s20, s21, s22, u23, u24, u25, u26, u27, u28, u29, u30, u31, u32, u33, u34, u35, u36, u37, u38, u39, u40, u41, u42, u43, u44, u45, u46, u47, u48, u49, u50, u51, u52, u53, u54, u55], []⟩ W')
    (hB : Bo w #[.slice A a.length c, .slice B pa.length d] #[.slice A' b.length c', .slice B' pb.length d'] W) :
    wpAnyH Try.prog .any (regOps (codeHead (bodyTail Try.f6 2))) Q (Bo w #[.slice A a.length c, .slice B pa.length d] #[.slice A' b.length c', .slice B' pb.length d']) 6 #[true, false, true, false, false, false, false, false] ⟨#[u0, u1, u2, .pointer (some ⟨w.heap.size, 0, none⟩), .pointer (some ⟨(w.heap.size + 1), 0, none⟩), u5, u6, u7, u8, u9, u10, u11, u12, u13, u14, u15, u16, u17, u18, .agg #[.slice A a.length c, .slice B pa.length d], u20, .agg #[.slice A' b.length c', .slice B' pb.length d'], u22, u23, u24, u25, u26, u27, u28, u29, u30, u31, u32, u33, u34, u35, u36, u37, u38, u39, u40, u41, u42, u43, u44, u45, u46, u47, u48, u49, u50, u51, u52, u53, u54, u55], []⟩ W := by
  conv => arg 3; whnf
  have HQ := Lib.hid hQ
  clear hQ
  refine wpAnyH_ready (rs := [1, 4, 5]) (by kernel_rfl) (by simp) ?_
  refine AllReadyH.cons rfl (fun K hK => ?_) ?_
  · go_simp
    go_at_call 18
    refine (lent_script A B c d a pa _ (HSS.out.1.below hB.1)).mono ?_
    rintro e W2 ⟨p1, c1, p2, c2, rfl, hc1, hm1, hc2, hm2, ho1, ho2, hbm⟩
    have hl1 : LO w.heap.size W2 p1 c1 p2 c2 a pa := ⟨hc1, hm1, hc2, hm2, ownsRow_more ho1 hB.1.size, ownsRow_more ho2 hB.1.size⟩
    have hB := hB.below hbm
    clear ho1 ho2 hbm
    go_wp2_with fail
    refine hK.out _ _ ?_ (fun hH => ?_)
    · exact hB
    clear hK K
    try simp only [Act.put, List.setIfInBounds_toArray, List.set_cons_zero, List.set_cons_succ]
    exact al_012 A B A' B' c d c' d' a b pa pb w _ HSS HQ.out hB hl1
  refine AllReadyH.cons rfl (fun K hK => ?_) ?_
  · obtain ⟨g4, hgg⟩ : ∃ g, W.heap.size = g := ⟨_, rfl⟩
    have hg4 : w.heap.size + 1 < g4 := by rw [← hgg]; exact hB.2.2.lt
    have hk4 := Blk.new W 41 #[.slice none 0 0, .slice none 0 0]
    rw [hgg] at hk4
    have hbm := below_box W (.cells #[.slice none 0 0, .slice none 0 0] 41)
    have hB := hB.below hbm
    clear hbm
    go_wp2_with fail
    clear hgg
    refine hK.out _ _ ?_ (fun hH => ?_)
    · exact hB
    clear hK K
    try simp only [Act.put, List.setIfInBounds_toArray, List.set_cons_zero, List.set_cons_succ]
    exact al_024 A B A' B' c d c' d' a b pa pb w _ HSS HQ.out hB hk4 hg4
  refine AllReadyH.cons rfl (fun K hK => ?_) ?_
  · obtain ⟨g5, hgg⟩ : ∃ g, W.heap.size = g := ⟨_, rfl⟩
    have hg5 : w.heap.size + 1 < g5 := by rw [← hgg]; exact hB.2.2.lt
    have hk5 := Blk.new W 41 #[.slice none 0 0, .slice none 0 0]
    rw [hgg] at hk5
    have hbm := below_box W (.cells #[.slice none 0 0, .slice none 0 0] 41)
    have hB := hB.below hbm
    clear hbm
    go_wp2_with fail
    clear hgg
    refine hK.out _ _ ?_ (fun hH => ?_)
    · exact hB
    clear hK K
    try simp only [Act.put, List.setIfInBounds_toArray, List.set_cons_zero, List.set_cons_succ]
    exact al_025 A B A' B' c d c' d' a b pa pb w _ HSS HQ.out hB hk5 hg5
  exact AllReadyH.nil

set_option maxHeartbeats 3200000 in
set_option maxRecDepth 100000 in
theorem al_region (A B A' B' : Option Addr) (c d c' d' : Nat) (a b : List Ent) (pa pb : List Int) {u0 u1 u2 u5 u6 u7 u8 u9 u10 u11 u12 u13 u14 u15 u16 u17 u18 u19 u20 u21 u22 u23 u24 u25 u26 u27 u28 u29 u30 u31 u32 u33 u34 u35 u36 u37 u38 u39 u40 u41 u42 u43 u44 u45 u46 u47 u48 u49 u50 u51 u52 u53 u54 u55 : Value} (w W : World) {Q : Exit → Act → World → Prop} (HSS : Hid (ScrIn w A B a pa ∧ ScrIn w A' B' b pb)) (hQ : ∀ s7 s8 s19 s20 s21 s22 W', TwoIn w a b pa pb #[.slice A a.length c, .slice B pa.length d] #[.slice A' b.length c', .slice B' pb.length d'] s7 s8 W' → Q .normal ⟨#[u0, u1, u2, .pointer (some ⟨w.heap.size, 0, none⟩), .pointer (some ⟨(w.heap.size + 1), 0, none⟩), u5, u6, s7, s8, u9, u10, u11, u12, u13, u14, u15, u16, u17, u18, s19, s20, s21, s22, u23, u24, u25, u26, u27, u28, u29, u30, u31, u32, u33, u34, u35, u36, u37, u38, u39, u40, u41, u42, u43, u44, u45, u46, u47, u48, u49, u50, u51, u52, u53, u54, u55], []⟩ W')
    (hQp : ∀ d v c a w, Q (.panic c) (Act.put a d v) w → Q (.panic c) a w) (hB : Bo w #[.slice A a.length c, .slice B pa.length d] #[.slice A' b.length c', .slice B' pb.length d'] W) :
    Code.wp Try.prog (codeHead (bodyTail Try.f6 2)) Q ⟨#[u0, u1, u2, .pointer (some ⟨w.heap.size, 0, none⟩), .pointer (some ⟨(w.heap.size + 1), 0, none⟩), u5, u6, u7, u8, u9, u10, u11, u12, u13, u14, u15, u16, u17, u18, u19, u20, u21, u22, u23, u24, u25, u26, u27, u28, u29, u30, u31, u32, u33, u34, u35, u36, u37, u38, u39, u40, u41, u42, u43, u44, u45, u46, u47, u48, u49, u50, u51, u52, u53, u54, u55], []⟩ W := by
  conv => arg 2; whnf
  have HQ := Lib.hid hQ
  clear hQ
  refine wp_region_held_drew (S := Bo w #[.slice A a.length c, .slice B pa.length d] #[.slice A' b.length c', .slice B' pb.length d']) (by kernel_rfl) ?_ (fun hHeld0 => ?_)
  · exact ⟨hB.1.drew, hB.2.1.drew, hB.2.2.drew⟩
  refine wpAnyH_take (i := 0) (v := ?_) rfl (by kernel_rfl) (by kernel_rfl) (by kernel_rfl) (hQp _ _) (Or.inl ⟨by kernel_rfl, ?_⟩) hHeld0 ?_
  rotate_left
  · intro V hSw
    have x0 := hSw.2.1.cell 0
    have x1 := hSw.2.1.cell 1
    simp at x0 x1
    clear hSw
    go_simp <;> with_reducible rfl
  try simp only [Act.put, List.setIfInBounds_toArray, List.set_cons_zero, List.set_cons_succ]
  refine wpAnyH_take (i := 2) (v := ?_) rfl (by kernel_rfl) (by kernel_rfl) (by kernel_rfl) (hQp _ _) (Or.inl ⟨by kernel_rfl, ?_⟩) hHeld0 ?_
  rotate_left
  · intro V hSw
    have x0 := hSw.2.2.cell 0
    have x1 := hSw.2.2.cell 1
    simp at x0 x1
    clear hSw
    go_simp <;> with_reducible rfl
  try simp only [Act.put, List.setIfInBounds_toArray, List.set_cons_zero, List.set_cons_succ]
  exact al_02 A B A' B' c d c' d' a b pa pb w _ HSS HQ.out hHeld0
end Go.Proofs.Ytlmehmmdbdembaa
