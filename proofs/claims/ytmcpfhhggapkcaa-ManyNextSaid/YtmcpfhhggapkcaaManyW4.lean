/-
  Layer 8: Take, Find, Room.
-/
import Derived.Test.YtmcpfhhggapkcaaManyW3
namespace Go.Proofs.Ytmcpfhhggapkcaa
open Go.RowKit Go.Shelf
set_option linter.unusedVariables false
set_option linter.unusedSimpArgs false

set_option maxHeartbeats 1600000 in
set_option maxRecDepth 100000 in
theorem Take_m (g gr gu room : Nat) (f : Kids) (b : Nat) (w : World) (h : ManyAt w g gr gu room f) (hb : b < 256) :
    Calls Try.prog 23 #[.pointer (some ⟨g, 0, none⟩), .int .u8 (b : Int)] w (ManyEnd (.tuple #[refV (takeK f b).1.1, .int .i64 (takeK f b).1.2]) g gr gu room (takeK f b).2 w) := by
  have hlt := h.lt
  have h1 := h.alloc (.cells #[.int .i64 0, .int .u32 0] 31)
  have hr := Blk.new w 31 #[.int .i64 0, .int .u32 0]
  have HR := Lib.hid hr
  have HT := Lib.hid (there_m h1)
  have HH := Lib.hid (has_m h1 hb)
  have H1 := Lib.hid h1
  have i1 : (0 : Int) ≤ (b : Int) := by omega
  have i2 : (b : Int) ≤ 255 := by omega
  have sw : IntKind.i64.wrap (b : Int) = (b : Int) := IntWalk.i64_in _ (by omega)
  have m1 : w.heap.size ≠ g := by omega
  have m2 : w.heap.size ≠ gr := by omega
  have m3 : w.heap.size ≠ gu := by omega
  clear h h1 hr
  unfold takeK
  cases hf : f b with
  | none =>
    dsimp only
    rw [hf] at HH
    simp only [Option.isSome_none] at HH
    clear hf
    go_enter Try.func23, Try.ntmps23
    go_wp2_with fail
    refine HT.out.mono ?_
    rintro e w1 ⟨rfl, rfl⟩
    go_wp2_with fail
    refine HH.out.mono ?_
    rintro e w2 ⟨rfl, rfl⟩
    go_wp2_with fail
    refine bodyPost_ret (v := .tuple #[refV (0, 0), .int .i64 5]) (by simp [results, Try.results23, go_sem, *]) rfl ⟨rfl, ?_, ?_⟩
    · first | exact H1.out | exact H1.out.alloc _
    · first | exact (Three.refl g gr gu w).alloc _ | exact ((Three.refl g gr gu w).alloc _).alloc _
  | some q =>
    dsimp only
    have HL := Lib.hid (lift_m H1.out hb hf)
    rw [hf] at HH
    simp only [Option.isSome_some] at HH
    clear hf
    go_enter Try.func23, Try.ntmps23
    go_wp2_with fail
    refine HT.out.mono ?_
    rintro e w1 ⟨rfl, rfl⟩
    go_wp2_with fail
    refine HH.out.mono ?_
    rintro e w2 ⟨rfl, rfl⟩
    go_wp2_with fail
    refine HL.out.mono ?_
    rintro e w3 ⟨rfl, k1, k2⟩
    have hr3 := Blk.three HR.out k2 m1 m2 m3
    have e0 := hr3.cell 0
    have e1 := hr3.cell 1
    have f0 := hr3.frozen 0
    have f1 := hr3.frozen 1
    have l0 := hr3.lt
    simp at e0 e1
    have hrn := (hr3.set_ 0 (.int .i64 q.1)).set_ 1 (.int .u32 q.2)
    have q0 := hrn.cell 0
    have q1 := hrn.cell 1
    simp at q0 q1
    obtain ⟨o, o1, o2, o3⟩ := k1
    have kf : ManyAt ((w3.setCell ⟨w.heap.size, 0, none⟩ (.int .i64 q.1)).setCell ⟨w.heap.size, 1, none⟩ (.int .u32 q.2)) g gr gu room (setK (fun x => f x) b none) :=
      ⟨o, o1, ⟨(o2.1.far (p := ⟨w.heap.size, 0, none⟩) (Ne.symm m1) _).far (p := ⟨w.heap.size, 1, none⟩) (Ne.symm m1) _, (o2.2.1.far (p := ⟨w.heap.size, 0, none⟩) (Ne.symm m2) _).far (p := ⟨w.heap.size, 1, none⟩) (Ne.symm m2) _, (o2.2.2.far (p := ⟨w.heap.size, 0, none⟩) (Ne.symm m3) _).far (p := ⟨w.heap.size, 1, none⟩) (Ne.symm m3) _⟩, o3⟩
    have kt := ((((Three.refl g gr gu w).alloc (.cells #[.int .i64 0, .int .u32 0] 31)).trans k2).setCell ⟨w.heap.size, 0, none⟩ (.int .i64 q.1) (.inr (.inr (.inr (Nat.le_refl _))))).setCell ⟨w.heap.size, 1, none⟩ (.int .u32 q.2) (.inr (.inr (.inr (Nat.le_refl _))))
    have HK := Lib.hid (And.intro kf kt)
    clear k2 hr3 hrn kf kt o1 o2 o3 HR H1 HT HH HL
    go_wp2_with fail
    refine bodyPost_ret (v := .tuple #[refV q, .int .i64 0]) (by simp [results, Try.results23, go_sem, *]) rfl ⟨rfl, HK.out.1, HK.out.2⟩
set_option maxHeartbeats 1600000 in
set_option maxRecDepth 100000 in
theorem Find_m (g gr gu room : Nat) (f : Kids) (b : Nat) (w : World) (h : ManyAt w g gr gu room f) (hb : b < 256) :
    Calls Try.prog 21 #[.pointer (some ⟨g, 0, none⟩), .int .u8 (b : Int)] w (TwoEnd (optV (f b)) (.bool (f b).isSome) w) := by
  have hlt := h.lt
  have h1 := h.alloc (.cells #[.int .i64 0, .int .u32 0] 31)
  have hr := Blk.new w 31 #[.int .i64 0, .int .u32 0]
  have HR := Lib.hid hr
  have HT := Lib.hid (there_m h1)
  have HH := Lib.hid (has_m h1 hb)
  have H1 := Lib.hid h1
  have i1 : (0 : Int) ≤ (b : Int) := by omega
  have i2 : (b : Int) ≤ 255 := by omega
  have sw : IntKind.i64.wrap (b : Int) = (b : Int) := IntWalk.i64_in _ (by omega)
  clear h h1 hr
  unfold optV
  cases hf : f b with
  | none =>
    rw [hf] at HH
    simp only [Option.isSome_none, Option.getD_none] at HH ⊢
    clear hf
    go_enter Try.func21, Try.ntmps21
    go_wp2_with fail
    refine HT.out.mono ?_
    rintro e w1 ⟨rfl, rfl⟩
    go_wp2_with fail
    refine HH.out.mono ?_
    rintro e w2 ⟨rfl, rfl⟩
    go_wp2_with fail
    refine bodyPost_ret (v := .tuple #[refV (0, 0), .bool false]) (by simp [results, Try.results21, go_sem, *]) rfl ⟨rfl, below_box w _⟩
  | some q =>
    have HL := Lib.hid (ref_m H1.out hb hf)
    rw [hf] at HH
    simp only [Option.isSome_some, Option.getD_some] at HH ⊢
    clear hf
    go_enter Try.func21, Try.ntmps21
    go_wp2_with fail
    refine HT.out.mono ?_
    rintro e w1 ⟨rfl, rfl⟩
    go_wp2_with fail
    refine HH.out.mono ?_
    rintro e w2 ⟨rfl, rfl⟩
    go_wp2_with fail
    refine HL.out.mono ?_
    rintro e w3 ⟨p, rfl, c1, c2, k, rfl⟩
    have c1' : ((w.alloc (.cells #[.int .i64 0, .int .u32 0] 31)).drewN k).cell? ⟨gr, p * 2, none⟩ = some (.int .i64 q.1) := c1
    have c2' : ((w.alloc (.cells #[.int .i64 0, .int .u32 0] 31)).drewN k).cell? ⟨gr, p * 2 + 1, none⟩ = some (.int .u32 q.2) := c2
    have hbel := below_drewN (below_box w (.cells #[.int .i64 0, .int .u32 0] 31)) k
    have hr3 := HR.out.drewN k
    generalize (w.alloc (.cells #[.int .i64 0, .int .u32 0] 31)).drewN k = w4 at c1' c2' hbel hr3 ⊢
    have e0 := hr3.cell 0
    have e1 := hr3.cell 1
    have f0 := hr3.frozen 0
    have f1 := hr3.frozen 1
    have l0 := hr3.lt
    simp at e0 e1
    have hrn := (hr3.set_ 0 (.int .i64 q.1)).set_ 1 (.int .u32 q.2)
    have q0 := hrn.cell 0
    have q1 := hrn.cell 1
    simp at q0 q1
    have HB := Lib.hid ((hbel.setCell (p := ⟨w.heap.size, 0, none⟩) (Nat.le_refl _) (.int .i64 q.1)).setCell (p := ⟨w.heap.size, 1, none⟩) (Nat.le_refl _) (.int .u32 q.2))
    clear hrn hr3 hbel c1 c2 HR H1 HT HH HL
    go_wp2_with fail
    refine bodyPost_ret (v := .tuple #[refV q, .bool true]) (by simp [results, Try.results21, go_sem, *]) rfl ⟨rfl, HB.out⟩
theorem Room_m (g gr gu room : Nat) (f : Kids) (w : World) (h : ManyAt w g gr gu room f) : Calls Try.prog 40 #[.pointer (some ⟨g, 0, none⟩)] w (StayEnd (.int .i64 (room : Int)) w) := by
  have HT := Lib.hid (there_m h)
  obtain ⟨o, h1, h2, h3⟩ := h
  obtain ⟨c1, c2⟩ := h2.sl
  clear h2
  go_enter Try.func40, Try.ntmps40
  go_wp2_with fail
  refine HT.out.mono ?_
  rintro e w1 ⟨rfl, rfl⟩
  go_wp2
  go_ret
  exact ⟨rfl, rfl⟩
end Go.Proofs.Ytmcpfhhggapkcaa
