/-
  Layer 8: Put, Take, Find, Room.
-/
import Derived.Test.YtmcpfhhggapkcaaManyK
namespace Go.Proofs.Ytmcpfhhggapkcaa
open Go.RowKit Go.Shelf
set_option linter.unusedVariables false
set_option linter.unusedSimpArgs false

theorem ManyAt.alloc {W : World} {g gr gu room : Nat} {f : Kids} (h : ManyAt W g gr gu room f) (x : Obj) : ManyAt (W.alloc x) g gr gu room f := h.below (below_box W x)
/-- A block that is none of the three. -/
theorem Blk.three {W W' : World} {a b c x : Nat} {t : TypeId} {cs : Array Value} (h : Blk W x t cs) (ht : Three a b c W W') (h1 : x ≠ a) (h2 : x ≠ b) (h3 : x ≠ c) : Blk W' x t cs := (ht.block x h.lt h1 h2 h3).trans h
set_option maxHeartbeats 1600000 in
set_option maxRecDepth 100000 in
theorem Put_m (g gr gu room : Nat) (f : Kids) (b : Nat) (r : Int × Int) (w : World) (h : ManyAt w g gr gu room f) (hb : b < 256) :
    Calls Try.prog 39 #[.pointer (some ⟨g, 0, none⟩), .int .u8 (b : Int), refV r] w (ManyEnd (.int .i64 (putK (room : Int) f b r).1) g gr gu room (putK (room : Int) f b r).2 w) := by
  have hlt := h.lt
  have h1 := h.alloc (.cells #[.int .i64 r.1, .int .u32 r.2] 31)
  have hr := Blk.new w 31 #[.int .i64 r.1, .int .u32 r.2]
  have HR := Lib.hid hr
  have e0 : (w.alloc (.cells #[.int .i64 r.1, .int .u32 r.2] 31)).cell? ⟨w.heap.size, 0, none⟩ = some (.int .i64 r.1) := hr.cell 0
  have e1 : (w.alloc (.cells #[.int .i64 r.1, .int .u32 r.2] 31)).cell? ⟨w.heap.size, 1, none⟩ = some (.int .u32 r.2) := hr.cell 1
  have HT := Lib.hid (there_m h1)
  have HH := Lib.hid (has_m h1 hb)
  have H1 := Lib.hid h1
  have i1 : (0 : Int) ≤ (b : Int) := by omega
  have i2 : (b : Int) ≤ 255 := by omega
  have sw : IntKind.i64.wrap (b : Int) = (b : Int) := IntWalk.i64_in _ (by omega)
  clear h h1 hr
  unfold putK
  cases hf : f b with
  | some q =>
    rw [hf] at HH
    simp only [Option.isSome_some] at HH ⊢
    clear hf
    rw [if_pos trivial]
    go_enter Try.func39, Try.ntmps39
    go_wp2_with fail
    refine HT.out.mono ?_
    rintro e w1 ⟨rfl, rfl⟩
    go_wp2_with fail
    refine HH.out.mono ?_
    rintro e w2 ⟨rfl, rfl⟩
    go_wp2
    go_ret
    exact ⟨rfl, H1.out, (Three.refl g gr gu w).alloc _⟩
  | none =>
    rw [hf] at HH
    simp only [Option.isSome_none] at HH ⊢
    have HL := Lib.hid (lay_m H1.out.drew r hb hf)
    rw [if_neg (by simp)]
    clear hf
    have m1 : w.heap.size ≠ g := by omega
    have m2 : w.heap.size ≠ gr := by omega
    have m3 : w.heap.size ≠ gu := by omega
    by_cases hc : cntK f = room
    · have hci : (cntK f : Int) = (room : Int) := by omega
      rw [if_pos hci]
      have HC := Lib.hid hc
      clear hc hci
      go_enter Try.func39, Try.ntmps39
      go_wp2_with fail
      refine HT.out.mono ?_
      rintro e w1 ⟨rfl, rfl⟩
      go_wp2_with fail
      refine HH.out.mono ?_
      rintro e w2 ⟨rfl, rfl⟩
      go_wp2_with fail
      go_region_held3 (fun V => V.cell? ⟨w.heap.size, 0, none⟩ = some (.int .i64 r.1) ∧ V.cell? ⟨w.heap.size, 1, none⟩ = some (.int .u32 r.2)) (first | exact ⟨e0, e1⟩ | exact hx)
        (first | (go_at_call 56; (with_reducible refine HL.out.mono ?_); rintro e w3 ⟨ok, hok, rfl, k1, k2⟩; rw [decide_eq_true HC.out] at hok; subst hok; have hx : w3.cell? ⟨w.heap.size, 0, none⟩ = some (.int .i64 r.1) ∧ w3.cell? ⟨w.heap.size, 1, none⟩ = some (.int .u32 r.2) := ⟨(Blk.three HR.out.drew k2 m1 m2 m3).cell 0, (Blk.three HR.out.drew k2 m1 m2 m3).cell 1⟩))
      all_goals
        go_wp2
        go_ret
        exact ⟨rfl, by rw [if_pos HC.out] at k1; exact k1, (((Three.refl g gr gu w).alloc _).drew).trans k2⟩
    · have hci : ¬ (cntK f : Int) = (room : Int) := by omega
      rw [if_neg hci]
      have HC := Lib.hid hc
      clear hc hci
      go_enter Try.func39, Try.ntmps39
      go_wp2_with fail
      refine HT.out.mono ?_
      rintro e w1 ⟨rfl, rfl⟩
      go_wp2_with fail
      refine HH.out.mono ?_
      rintro e w2 ⟨rfl, rfl⟩
      go_wp2_with fail
      go_region_held3 (fun V => V.cell? ⟨w.heap.size, 0, none⟩ = some (.int .i64 r.1) ∧ V.cell? ⟨w.heap.size, 1, none⟩ = some (.int .u32 r.2)) (first | exact ⟨e0, e1⟩ | exact hx)
        (first | (go_at_call 56; (with_reducible refine HL.out.mono ?_); rintro e w3 ⟨ok, hok, rfl, k1, k2⟩; rw [decide_eq_false HC.out] at hok; subst hok; have hx : w3.cell? ⟨w.heap.size, 0, none⟩ = some (.int .i64 r.1) ∧ w3.cell? ⟨w.heap.size, 1, none⟩ = some (.int .u32 r.2) := ⟨(Blk.three HR.out.drew k2 m1 m2 m3).cell 0, (Blk.three HR.out.drew k2 m1 m2 m3).cell 1⟩))
      all_goals
        go_wp2
        go_ret
        exact ⟨rfl, by rw [if_neg HC.out] at k1; exact k1, (((Three.refl g gr gu w).alloc _).drew).trans k2⟩
end Go.Proofs.Ytmcpfhhggapkcaa
