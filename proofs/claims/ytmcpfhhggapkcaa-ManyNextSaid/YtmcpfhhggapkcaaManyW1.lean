/-
  Layer 8: walks of the inner methods.
-/
import Derived.Test.YtmcpfhhggapkcaaManyM
namespace Go.Proofs.Ytmcpfhhggapkcaa
open Go.RowKit Go.Shelf
set_option linter.unusedVariables false
set_option linter.unusedSimpArgs false

/-- The row in its three blocks. -/
def MBlk (W : World) (g gr gu room : Nat) (o : ManyO) : Prop := Blk W g 90 (mcells o gr gu room).toArray ∧ Blk W gr 31 (rcells o room).toArray ∧ Blk W gu 4 (ucells o room).toArray
theorem MBlk.below {W W' : World} {g gr gu room : Nat} {o : ManyO} (h : MBlk W g gr gu room o) (hb : Below W.heap.size W W') : MBlk W' g gr gu room o := ⟨h.1.below hb h.1.lt, h.2.1.below hb h.2.1.lt, h.2.2.below hb h.2.2.lt⟩
theorem MBlk.drew {W : World} {g gr gu room : Nat} {o : ManyO} (h : MBlk W g gr gu room o) : MBlk W.drew g gr gu room o := ⟨h.1.drew, h.2.1.drew, h.2.2.drew⟩
theorem MBlk.drewN {W : World} {g gr gu room : Nat} {o : ManyO} (h : MBlk W g gr gu room o) (k : Nat) : MBlk (W.drewN k) g gr gu room o := ⟨h.1.drewN k, h.2.1.drewN k, h.2.2.drewN k⟩
theorem MBlk.alloc {W : World} {g gr gu room : Nat} {o : ManyO} (h : MBlk W g gr gu room o) (x : Obj) : MBlk (W.alloc x) g gr gu room o := ⟨h.1.alloc x, h.2.1.alloc x, h.2.2.alloc x⟩
theorem MBlk.at_ {W : World} {g gr gu room : Nat} {o : ManyO} (h : MBlk W g gr gu room o) {b : Nat} (hb : b < 256) : W.cell? ⟨g, b, none⟩ = some (.int .u16 (o.at_ b : Int)) := (h.1.cell b).trans (by rw [List.getElem?_toArray]; exact mcells_at o gr gu room hb)
theorem MBlk.sl {W : World} {g gr gu room : Nat} {o : ManyO} (h : MBlk W g gr gu room o) : W.cell? ⟨g, 256, none⟩ = some (.slice (some ⟨gr, 0, none⟩) room room) ∧ W.cell? ⟨g, 257, none⟩ = some (.slice (some ⟨gu, 0, none⟩) room room) :=
  ⟨(h.1.cell 256).trans (by rw [List.getElem?_toArray]; exact (mcells_sl o gr gu room).1), (h.1.cell 257).trans (by rw [List.getElem?_toArray]; exact (mcells_sl o gr gu room).2)⟩
theorem MBlk.ref {W : World} {g gr gu room : Nat} {o : ManyO} (h : MBlk W g gr gu room o) {p : Nat} (hp : p < room) : W.cell? ⟨gr, p * 2, none⟩ = some (.int .i64 (o.refs p).1) ∧ W.cell? ⟨gr, p * 2 + 1, none⟩ = some (.int .u32 (o.refs p).2) :=
  ⟨(h.2.1.cell _).trans (by rw [List.getElem?_toArray]; exact (rcells_at o room hp).1), (h.2.1.cell _).trans (by rw [List.getElem?_toArray]; exact (rcells_at o room hp).2)⟩
theorem MBlk.us {W : World} {g gr gu room : Nat} {o : ManyO} (h : MBlk W g gr gu room o) {p : Nat} (hp : p < room) : W.cell? ⟨gu, p, none⟩ = some (.bool (o.used p)) := (h.2.2.cell _).trans (by rw [List.getElem?_toArray]; exact ucells_at o room hp)

theorem mthere (g gr gu room : Nat) (o : ManyO) (w : World) (h : MBlk w g gr gu room o) (hr : 0 < room) : Calls Try.prog 46 #[.pointer (some ⟨g, 0, none⟩)] w (StayEnd (.bool true) w) := by
  obtain ⟨c1, c2⟩ := h.sl
  have i1 : (0 : Int) < (room : Int) := by omega
  go_enter Try.func46, Try.ntmps46
  go_wp2
  go_ret
  exact ⟨rfl, rfl⟩
theorem mhas (g gr gu room : Nat) (o : ManyO) (b : Nat) (w : World) (h : MBlk w g gr gu room o) (hb : b < 256) : Calls Try.prog 44 #[.pointer (some ⟨g, 0, none⟩), .int .i64 (b : Int)] w (StayEnd (.bool (decide (0 < o.at_ b))) w) := by
  have c1 := h.at_ hb
  have i1 : (0 : Int) ≤ (b : Int) := by omega
  have i2 : (b : Int) < 256 := by omega
  generalize o.at_ b = n at c1
  clear h
  by_cases hn : 0 < n
  · have i3 : (0 : Int) < (n : Int) := by omega
    go_enter Try.func44, Try.ntmps44
    go_wp2
    go_ret
    exact ⟨by simp [hn], rfl⟩
  · have i3 : ¬ ((0 : Int) < (n : Int)) := by omega
    go_enter Try.func44, Try.ntmps44
    go_wp2
    go_ret
    exact ⟨by simp [hn], rfl⟩
theorem mref (g gr gu room : Nat) (o : ManyO) (b p : Nat) (w : World) (h : MBlk w g gr gu room o) (hb : b < 256) (hp : p < room) (hroom : room ≤ 256) (hat : o.at_ b = p + 1) : Calls Try.prog 45 #[.pointer (some ⟨g, 0, none⟩), .int .i64 (b : Int)] w (fun e w' => e = .returned (.pointer (some ⟨gr, p * 2, none⟩)) ∧ ∃ k, w' = w.drewN k) := by
  have c1 := h.at_ hb
  rw [hat] at c1
  have c1' : w.cell? ⟨g, b, none⟩ = some (.int .u16 ((p : Int) + 1)) := by rw [c1]; simp
  obtain ⟨c2, c3⟩ := h.sl
  have i1 : (0 : Int) ≤ (b : Int) := by omega
  have i2 : (b : Int) < 256 := by omega
  have i3 : (0 : Int) ≤ (p : Int) := by omega
  have i4 : (p : Int) < (room : Int) := by omega
  have i5 : (p : Int) + 1 - 1 = (p : Int) := by omega
  have sw : IntKind.u16.wrap ((p : Int) + 1 - 1) = (p : Int) := by rw [i5]; exact IntWalk.u16_in _ (by omega)
  have sw2 : IntKind.u16.wrap (p : Int) = (p : Int) := IntWalk.u16_in _ (by omega)
  clear h c1 hat c3
  go_enter Try.func45, Try.ntmps45
  go_wp2_with fail
  go_quiet (fail)
  go_wp2
  go_ret
  exact ⟨rfl, _, rfl⟩
/-- slices.Index's number. -/
def ManyO.ix (o : ManyO) (room : Nat) : Int := if o.free room < room then (o.free room : Int) else -1
set_option maxRecDepth 100000 in
theorem sindex (gu room : Nat) (o : ManyO) (w : World) (h : ∀ p, p < room → w.cell? ⟨gu, p, none⟩ = some (.bool (o.used p))) (hroom : room ≤ 256) : Calls Try.prog 60 #[.slice (some ⟨gu, 0, none⟩) room room, .bool false] w (StayEnd (.int .i64 (o.ix room)) w) := by
  have H := Lib.hid h
  have HS := Lib.hid (fun (k : Nat) (hk : k ≤ o.free room) (hlt : k < room) => idx_step (p := fun p => !(o.used p)) (l := List.range room) (k := k) (x := k) hk (by simp [hlt]))
  have HL := Lib.hid (o.free_le room)
  clear h
  go_enter Try.func60, Try.ntmps60
  go_wp2_with fail
  go_loop [8] (fun i => ∃ k : Nat, k ≤ room ∧ i = .int .i64 k ∧ k ≤ o.free room) (fun i => room - (intOf i).toNat)
  case atStart => exact ⟨0, by omega, rfl, by omega⟩
  case round =>
    obtain ⟨k, hk, rfl, hkf⟩ := hrel
    by_cases hlt : k < room
    · have c1 := H.out k hlt
      obtain ⟨s1, s2⟩ := HS.out k hkf hlt
      have i1 : (0 : Int) ≤ (k : Int) := by omega
      have i2 : (k : Int) < (room : Int) := by omega
      cases hu : o.used k with
      | false =>
        rw [hu] at c1
        have hfr : o.free room = k := s1 (by rw [hu]; rfl)
        have HE := Lib.hid (show o.ix room = (k : Int) by unfold ManyO.ix; rw [hfr, if_pos hlt])
        clear s1 s2 hfr
        go_wp2_with fail
        go_ret
        exact ⟨ret_int HE.out.symm, rfl⟩
      | true =>
        rw [hu] at c1
        have hn := s2 (by rw [hu]; rfl)
        clear s1 s2
        go_wp2_with fail
        go_round
        case rel => exact ⟨k + 1, by omega, by go_num, hn⟩
        case measure => simp [intOf]; omega
    · obtain rfl : k = room := by omega
      have i2 : ¬ ((k : Int) < (k : Int)) := by omega
      have HE := Lib.hid (show o.ix k = -1 by unfold ManyO.ix; rw [if_neg (by omega)])
      go_wp2_with fail
      go_ret
      exact ⟨ret_int HE.out.symm, rfl⟩
end Go.Proofs.Ytmcpfhhggapkcaa
