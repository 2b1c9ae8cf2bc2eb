/-
  Walks, layer 7: there, slices.IndexFunc at the two closures, of, at, Len, Room.
-/
import Derived.Test.YtmcpfhhggapkcaaFewM
namespace Go.Proofs.Ytmcpfhhggapkcaa
open Go.RowKit
set_option linter.unusedVariables false
set_option linter.unusedSimpArgs false

def BoolEnd (b : Bool) (w : World) (e : Ending) (w' : World) : Prop := e = .returned (.bool b) ∧ Below w.heap.size w w'
def IntEnd (n : Int) (w : World) (e : Ending) (w' : World) : Prop := e = .returned (.int .i64 n) ∧ Below w.heap.size w w'
/-- The world stays as it is. -/
def StayEnd (v : Value) (w : World) (e : Ending) (w' : World) : Prop := e = .returned v ∧ w' = w
theorem below_alloc {W w1 : World} (h : Below W.heap.size W w1) (o : Obj) : Below W.heap.size W (w1.alloc o) := h.alloc h.size o
theorem below_box (w : World) (o : Obj) : Below w.heap.size w (w.alloc o) := (Below.refl _ _).alloc (Nat.le_refl _) _

theorem there_nil (w : World) : Calls Try.prog 31 #[.pointer none] w (StayEnd (.bool false) w) := by
  go_enter Try.func31, Try.ntmps31
  go_wp2
  go_ret
  exact ⟨rfl, rfl⟩
theorem there_some (g : Nat) (room : Int) (w : World) (h : w.cell? ⟨g, 49, none⟩ = some (.int .i64 room)) : Calls Try.prog 31 #[.pointer (some ⟨g, 0, none⟩)] w (StayEnd (.bool (decide (0 < room))) w) := by
  by_cases h0 : 0 < room
  all_goals
    go_enter Try.func31, Try.ntmps31
    go_wp2
    go_ret
    exact ⟨by simp [h0], rfl⟩

/-! ### The first byte with a property -/
theorem idx_le {α : Type} (p : α → Bool) (l : List α) : l.findIdx p ≤ l.length := List.findIdx_le_length
theorem idx_step {α : Type} {p : α → Bool} {l : List α} {k : Nat} {x : α} (hk : k ≤ l.findIdx p) (hx : l[k]? = some x) : (p x = true → l.findIdx p = k) ∧ (p x = false → k + 1 ≤ l.findIdx p) := by
  obtain ⟨hlt, rfl⟩ := List.getElem?_eq_some_iff.1 hx
  constructor
  · intro h
    rcases Nat.lt_or_ge k (l.findIdx p) with h1 | h1
    · have := List.not_of_lt_findIdx h1
      rw [h] at this; simp at this
    · omega
  · intro h
    rcases Nat.lt_or_ge k (l.findIdx p) with h1 | h1
    · exact h1
    · have he : l.findIdx p = k := by omega
      have := List.findIdx_getElem (p := p) (xs := l) (w := by omega)
      simp only [he] at this
      rw [h] at this; simp at this
/-- slices.IndexFunc's number. -/
def idxM (b : Int) (l : List Int) : Int := if l.findIdx (fun x => decide (b ≤ x)) < l.length then (l.findIdx (fun x => decide (b ≤ x)) : Nat) else -1
def FewO.idx (o : FewO) (b : Int) : Nat := (o.bs.take o.n).findIdx (fun x => decide (b ≤ x))
theorem FewO.takeLen {o : FewO} (h : o.ok) : (o.bs.take o.n).length = o.n := by rw [List.length_take, h.lb, Nat.min_eq_left h.ln]
theorem FewO.idx_le {o : FewO} (h : o.ok) (b : Int) : o.idx b ≤ o.n := by
  have := Go.Proofs.Ytmcpfhhggapkcaa.idx_le (fun x => decide (b ≤ x)) (o.bs.take o.n)
  rw [FewO.takeLen h] at this
  exact this
def FewO.has (o : FewO) (b : Int) : Bool := decide (o.idx b < o.n) && (o.bs.getD (o.idx b) 0 == b)

theorem clos_at (x b : Int) (gb : Nat) (w : World) (hx : 0 ≤ x ∧ x ≤ 255) (h : w.cell? ⟨gb, 0, none⟩ = some (.int .u8 b)) : Calls Try.prog 54 #[.int .u8 x, .pointer (some ⟨gb, 0, none⟩)] w (StayEnd (.bool (decide (b ≤ x))) w) := by
  obtain ⟨hx0, hx1⟩ := hx
  go_enter Try.func54, Try.ntmps54
  go_wp2
  go_ret
  exact ⟨rfl, rfl⟩
set_option maxHeartbeats 800000 in
theorem index_at (o : FewO) (b : Int) (g gb : Nat) (w : World) (ho : o.ok) (hg : Blk w g 66 o.cells.toArray) (h : w.cell? ⟨gb, 0, none⟩ = some (.int .u8 b)) :
    Calls Try.prog 55 #[.slice (some ⟨g, 0, none⟩) o.n 16, .func (.func 54) #[] #[.pointer (some ⟨gb, 0, none⟩)]] w (StayEnd (.int .i64 (idxM b (o.bs.take o.n))) w) := by
  have HG := Lib.hid (And.intro hg h)
  have hln := ho.ln
  have HO := Lib.hid ho
  clear hg h ho
  go_enter Try.func55, Try.ntmps55
  go_wp2_with fail
  go_loop [8] (fun i => ∃ k : Nat, k ≤ o.n ∧ i = .int .i64 k ∧ Hid (k ≤ (o.bs.take o.n).findIdx (fun x => decide (b ≤ x)))) (fun i => o.n - (intOf i).toNat)
  case atStart => exact ⟨0, Nat.zero_le _, rfl, Lib.hid (Nat.zero_le _)⟩
  case round =>
    obtain ⟨k, hk, rfl, hid⟩ := hrel
    by_cases hlt : k < o.n
    · have hkl : k < o.bs.length := by rw [HO.out.lb]; omega
      have hx : o.bs[k]? = some o.bs[k] := List.getElem?_eq_getElem hkl
      have hb := HO.out.bb _ (List.getElem_mem hkl)
      generalize o.bs[k] = x at hx hb
      have hc : w.cell? ⟨g, k, none⟩ = some (.int .u8 x) := (HG.out.1.cell k).trans (by rw [List.getElem?_toArray]; exact FewO.atB HO.out hx)
      have hx2 : (o.bs.take o.n)[k]? = some x := by rw [List.getElem?_take, if_pos hlt]; exact hx
      have hst := Lib.hid (idx_step hid.out hx2)
      have HX := Lib.hid hb
      have HX2 := Lib.hid hx2
      have i1 : (0 : Int) ≤ (k : Int) := by omega
      have i2 : (k : Int) < (o.n : Int) := by omega
      clear hx hb hx2
      have hcall := fun W h => clos_at x b gb W HX.out h
      have HC := Lib.hid hcall
      clear hcall
      obtain ⟨d, hd⟩ : ∃ d, decide (b ≤ x) = d := ⟨_, rfl⟩
      rw [hd] at HC hst
      clear hd
      cases d with
      | true =>
        have hfin : idxM b (o.bs.take o.n) = (k : Int) := by
          have h1 := hst.out.1 rfl
          unfold idxM
          rw [h1, if_pos (by rw [FewO.takeLen HO.out]; exact hlt)]
        have HF := Lib.hid hfin
        clear hfin
        go_wp2_with (go_at_call 54; refine (HC.out _ HG.out.2).mono ?_; rintro e w' ⟨rfl, rfl⟩)
        go_ret
        exact ⟨ret_int HF.out.symm, rfl⟩
      | false =>
        have HS := Lib.hid (hst.out.2 rfl)
        clear hst
        go_wp2_with (go_at_call 54; refine (HC.out _ HG.out.2).mono ?_; rintro e w' ⟨rfl, rfl⟩)
        go_round
        case rel => exact ⟨k + 1, by omega, by go_num, HS⟩
        case measure => simp [intOf]; omega
    · have hfin : idxM b (o.bs.take o.n) = -1 := by
        have h1 := hid.out
        unfold idxM
        rw [if_neg (by rw [FewO.takeLen HO.out]; omega)]
      have HF := Lib.hid hfin
      clear hfin
      go_wp2
      go_ret
      exact ⟨ret_int HF.out.symm, rfl⟩
set_option maxHeartbeats 800000 in
set_option maxRecDepth 100000 in
theorem of_at (o : FewO) (b : Int) (g gb : Nat) (w : World) (ho : o.ok) (hg : Blk w g 66 o.cells.toArray) (h : w.cell? ⟨gb, 0, none⟩ = some (.int .u8 b)) :
    Calls Try.prog 36 #[.pointer (some ⟨g, 0, none⟩), .func (.func 54) #[] #[.pointer (some ⟨gb, 0, none⟩)]] w (IntEnd (o.idx b) w) := by
  have hln := ho.ln
  have hc48 : w.cell? ⟨g, 48, none⟩ = some (.int .i64 o.n) := (hg.cell 48).trans (by rw [List.getElem?_toArray]; exact FewO.atN ho)
  have hidx := fun W h1 h2 => index_at o b g gb W ho h1 h2
  have HI := Lib.hid hidx
  have hil := FewO.idx_le ho b
  have hM : idxM b (o.bs.take o.n) = if o.idx b < o.n then (o.idx b : Int) else -1 := by
    unfold idxM FewO.idx
    rw [FewO.takeLen ho]
  rw [hM] at HI
  have HG := Lib.hid (And.intro hg h)
  have i1 : (0 : Int) ≤ (o.n : Int) := by omega
  have i2 : (o.n : Int) ≤ 16 := by omega
  clear hg h hidx hM ho
  by_cases hlt : o.idx b < o.n
  · rw [if_pos hlt] at HI
    go_enter Try.func36, Try.ntmps36
    go_wp2_with fail
    go_region_held3 (fun w' => Blk w' g 66 o.cells.toArray ∧ Below w.heap.size w w' ∧ w'.cell? ⟨gb, 0, none⟩ = some (.int .u8 b) ∧ w'.cell? ⟨g, 48, none⟩ = some (.int .i64 o.n))
      ((refine ⟨?_, ?_, ?_, ?_⟩ <;> first | assumption | exact HG.out.1 | exact HG.out.2 | (exact (Below.refl _ _).drew) | (refine Below.drew ?_; assumption) | go_keep))
      ((go_at_call 55; have hH := ‹Blk _ g _ _ ∧ Below _ _ _ ∧ _›; refine (HI.out _ hH.1 hH.2.2.1).mono ?_; rintro e wn ⟨rfl, rfl⟩; have hkN := hH.1; have hBN := hH.2.1; have q0 := hH.2.2.1; have q1 := hH.2.2.2))
    go_wp2
    go_ret
    exact ⟨rfl, hBN⟩
  · have he : o.idx b = o.n := by omega
    rw [if_neg hlt] at HI
    have HE := Lib.hid he
    clear he
    go_enter Try.func36, Try.ntmps36
    go_wp2_with fail
    go_region_held3 (fun w' => Blk w' g 66 o.cells.toArray ∧ Below w.heap.size w w' ∧ w'.cell? ⟨gb, 0, none⟩ = some (.int .u8 b) ∧ w'.cell? ⟨g, 48, none⟩ = some (.int .i64 o.n))
      ((refine ⟨?_, ?_, ?_, ?_⟩ <;> first | assumption | exact HG.out.1 | exact HG.out.2 | (exact (Below.refl _ _).drew) | (refine Below.drew ?_; assumption) | go_keep))
      ((go_at_call 55; have hH := ‹Blk _ g _ _ ∧ Below _ _ _ ∧ _›; refine (HI.out _ hH.1 hH.2.2.1).mono ?_; rintro e wn ⟨rfl, rfl⟩; have hkN := hH.1; have hBN := hH.2.1; have q0 := hH.2.2.1; have q1 := hH.2.2.2))
    go_wp2
    go_ret
    exact ⟨ret_int (by rw [HE.out]), hBN⟩

theorem clos_nx (x b : Int) (gb : Nat) (w : World) (hx : 0 ≤ x ∧ x ≤ 255) (h : w.cell? ⟨gb, 0, none⟩ = some (.int .i64 b)) : Calls Try.prog 37 #[.int .u8 x, .pointer (some ⟨gb, 0, none⟩)] w (StayEnd (.bool (decide (b ≤ x))) w) := by
  obtain ⟨hx0, hx1⟩ := hx
  go_enter Try.func37, Try.ntmps37
  go_wp2
  go_ret
  exact ⟨rfl, rfl⟩
set_option maxHeartbeats 800000 in
theorem index_nx (o : FewO) (b : Int) (g gb : Nat) (w : World) (ho : o.ok) (hg : Blk w g 66 o.cells.toArray) (h : w.cell? ⟨gb, 0, none⟩ = some (.int .i64 b)) :
    Calls Try.prog 55 #[.slice (some ⟨g, 0, none⟩) o.n 16, .func (.func 37) #[] #[.pointer (some ⟨gb, 0, none⟩)]] w (StayEnd (.int .i64 (idxM b (o.bs.take o.n))) w) := by
  have HG := Lib.hid (And.intro hg h)
  have hln := ho.ln
  have HO := Lib.hid ho
  clear hg h ho
  go_enter Try.func55, Try.ntmps55
  go_wp2_with fail
  go_loop [8] (fun i => ∃ k : Nat, k ≤ o.n ∧ i = .int .i64 k ∧ Hid (k ≤ (o.bs.take o.n).findIdx (fun x => decide (b ≤ x)))) (fun i => o.n - (intOf i).toNat)
  case atStart => exact ⟨0, Nat.zero_le _, rfl, Lib.hid (Nat.zero_le _)⟩
  case round =>
    obtain ⟨k, hk, rfl, hid⟩ := hrel
    by_cases hlt : k < o.n
    · have hkl : k < o.bs.length := by rw [HO.out.lb]; omega
      have hx : o.bs[k]? = some o.bs[k] := List.getElem?_eq_getElem hkl
      have hb := HO.out.bb _ (List.getElem_mem hkl)
      generalize o.bs[k] = x at hx hb
      have hc : w.cell? ⟨g, k, none⟩ = some (.int .u8 x) := (HG.out.1.cell k).trans (by rw [List.getElem?_toArray]; exact FewO.atB HO.out hx)
      have hx2 : (o.bs.take o.n)[k]? = some x := by rw [List.getElem?_take, if_pos hlt]; exact hx
      have hst := Lib.hid (idx_step hid.out hx2)
      have HX := Lib.hid hb
      have HX2 := Lib.hid hx2
      have i1 : (0 : Int) ≤ (k : Int) := by omega
      have i2 : (k : Int) < (o.n : Int) := by omega
      clear hx hb hx2
      have hcall := fun W h => clos_nx x b gb W HX.out h
      have HC := Lib.hid hcall
      clear hcall
      obtain ⟨d, hd⟩ : ∃ d, decide (b ≤ x) = d := ⟨_, rfl⟩
      rw [hd] at HC hst
      clear hd
      cases d with
      | true =>
        have hfin : idxM b (o.bs.take o.n) = (k : Int) := by
          have h1 := hst.out.1 rfl
          unfold idxM
          rw [h1, if_pos (by rw [FewO.takeLen HO.out]; exact hlt)]
        have HF := Lib.hid hfin
        clear hfin
        go_wp2_with (go_at_call 37; refine (HC.out _ HG.out.2).mono ?_; rintro e w' ⟨rfl, rfl⟩)
        go_ret
        exact ⟨ret_int HF.out.symm, rfl⟩
      | false =>
        have HS := Lib.hid (hst.out.2 rfl)
        clear hst
        go_wp2_with (go_at_call 37; refine (HC.out _ HG.out.2).mono ?_; rintro e w' ⟨rfl, rfl⟩)
        go_round
        case rel => exact ⟨k + 1, by omega, by go_num, HS⟩
        case measure => simp [intOf]; omega
    · have hfin : idxM b (o.bs.take o.n) = -1 := by
        have h1 := hid.out
        unfold idxM
        rw [if_neg (by rw [FewO.takeLen HO.out]; omega)]
      have HF := Lib.hid hfin
      clear hfin
      go_wp2
      go_ret
      exact ⟨ret_int HF.out.symm, rfl⟩
set_option maxHeartbeats 800000 in
set_option maxRecDepth 100000 in
theorem of_nx (o : FewO) (b : Int) (g gb : Nat) (w : World) (ho : o.ok) (hg : Blk w g 66 o.cells.toArray) (h : w.cell? ⟨gb, 0, none⟩ = some (.int .i64 b)) :
    Calls Try.prog 36 #[.pointer (some ⟨g, 0, none⟩), .func (.func 37) #[] #[.pointer (some ⟨gb, 0, none⟩)]] w (IntEnd (o.idx b) w) := by
  have hln := ho.ln
  have hc48 : w.cell? ⟨g, 48, none⟩ = some (.int .i64 o.n) := (hg.cell 48).trans (by rw [List.getElem?_toArray]; exact FewO.atN ho)
  have hidx := fun W h1 h2 => index_nx o b g gb W ho h1 h2
  have HI := Lib.hid hidx
  have hil := FewO.idx_le ho b
  have hM : idxM b (o.bs.take o.n) = if o.idx b < o.n then (o.idx b : Int) else -1 := by
    unfold idxM FewO.idx
    rw [FewO.takeLen ho]
  rw [hM] at HI
  have HG := Lib.hid (And.intro hg h)
  have i1 : (0 : Int) ≤ (o.n : Int) := by omega
  have i2 : (o.n : Int) ≤ 16 := by omega
  clear hg h hidx hM ho
  by_cases hlt : o.idx b < o.n
  · rw [if_pos hlt] at HI
    go_enter Try.func36, Try.ntmps36
    go_wp2_with fail
    go_region_held3 (fun w' => Blk w' g 66 o.cells.toArray ∧ Below w.heap.size w w' ∧ w'.cell? ⟨gb, 0, none⟩ = some (.int .i64 b) ∧ w'.cell? ⟨g, 48, none⟩ = some (.int .i64 o.n))
      ((refine ⟨?_, ?_, ?_, ?_⟩ <;> first | assumption | exact HG.out.1 | exact HG.out.2 | (exact (Below.refl _ _).drew) | (refine Below.drew ?_; assumption) | go_keep))
      ((go_at_call 55; have hH := ‹Blk _ g _ _ ∧ Below _ _ _ ∧ _›; refine (HI.out _ hH.1 hH.2.2.1).mono ?_; rintro e wn ⟨rfl, rfl⟩; have hkN := hH.1; have hBN := hH.2.1; have q0 := hH.2.2.1; have q1 := hH.2.2.2))
    go_wp2
    go_ret
    exact ⟨rfl, hBN⟩
  · have he : o.idx b = o.n := by omega
    rw [if_neg hlt] at HI
    have HE := Lib.hid he
    clear he
    go_enter Try.func36, Try.ntmps36
    go_wp2_with fail
    go_region_held3 (fun w' => Blk w' g 66 o.cells.toArray ∧ Below w.heap.size w w' ∧ w'.cell? ⟨gb, 0, none⟩ = some (.int .i64 b) ∧ w'.cell? ⟨g, 48, none⟩ = some (.int .i64 o.n))
      ((refine ⟨?_, ?_, ?_, ?_⟩ <;> first | assumption | exact HG.out.1 | exact HG.out.2 | (exact (Below.refl _ _).drew) | (refine Below.drew ?_; assumption) | go_keep))
      ((go_at_call 55; have hH := ‹Blk _ g _ _ ∧ Below _ _ _ ∧ _›; refine (HI.out _ hH.1 hH.2.2.1).mono ?_; rintro e wn ⟨rfl, rfl⟩; have hkN := hH.1; have hBN := hH.2.1; have q0 := hH.2.2.1; have q1 := hH.2.2.2))
    go_wp2
    go_ret
    exact ⟨ret_int (by rw [HE.out]), hBN⟩
end Go.Proofs.Ytmcpfhhggapkcaa
