/-
  slices.Equal at Span; hide.Owner and the reference's Owner.
-/
import Derived.Test.YtlmehmmdbdembaaTimesP
import Derived.Laws.StructEq
namespace Go.Proofs.Ytlmehmmdbdembaa
open Go.RowKit
set_option linter.unusedVariables false

/-- The cells of row k of a slice of rows. -/
theorem row_cells {α : Type} {f : α → List Value} {m : Nat} (hf : ∀ x, (f x).length = m) {w : World} {B n k : Nat} {A : Option Addr} {l : List α} (h : Reads w B m A n (l.flatMap f)) (hn : n = l.length) (hk : k < l.length) :
    ∃ ad, A = some ad ∧ ad.block < B ∧ ∀ j u, (f l[k])[j]? = some u → w.cell? ((ad.add (k * m)).add j) = some u := by
  subst hn
  obtain ⟨ad, rfl, hb, hc⟩ := h.2 (by omega)
  refine ⟨ad, rfl, hb, fun j u hu => ?_⟩
  rw [add_of_add]
  refine hc _ u ?_
  have h1 := flat_drop hf l k hk
  rw [← List.getElem?_drop, h1, List.getElem?_append_left (List.getElem?_eq_some_iff.1 hu).1]
  exact hu
/-- A slice at the head of a block that is known whole. -/
theorem reads_of_blk {w : World} {g n size : Nat} {t : TypeId} {cs : Array Value} {xs : List Value} (h : Blk w g t cs) (hx : cs.toList = xs) (hl : xs.length = n * size) : Reads w (g + 1) size (some ⟨g, 0, none⟩) n xs := by
  refine ⟨hl, fun _ => ⟨_, rfl, Nat.lt_succ_self g, fun j u hu => ?_⟩⟩
  have e : (Addr.add ⟨g, 0, none⟩ j) = ⟨g, j, none⟩ := by unfold Addr.add; split <;> simp_all
  rw [e, h.cell j, ← hu, ← hx, Array.getElem?_toList]

theorem spn_row_len (s : Spn) : s.row.length = 3 := rfl

/-- Two lists, told one by one. -/
theorem list_split {α : Type} [DecidableEq α] {ss ts : List α} {k : Nat} (hl : ss.length = ts.length) (hk : k < ss.length) (he : ss.take k = ts.take k) :
    (ss[k] = ts[k]'(by omega) → ss.take (k + 1) = ts.take (k + 1)) ∧ (ss[k] ≠ ts[k]'(by omega) → ss ≠ ts) := by
  refine ⟨fun h => ?_, fun h e => ?_⟩
  · rw [List.take_succ_eq_append_getElem hk, List.take_succ_eq_append_getElem (by omega), he, h]
  · subst e; exact h rfl

theorem neqSpan (x y : Spn) (W : World) : (binOp .neq 54 (.agg #[.int .i64 x.entry, .int .i64 x.start, .int .i64 x.stop]) (.agg #[.int .i64 y.entry, .int .i64 y.start, .int .i64 y.stop])).run Try.prog W = .ok (.bool (decide (x ≠ y))) W := by
  have u3 := Try.underlying3
  have a3 := Try.isAgg3
  have z3 := Try.sizeOf3
  have hS : Try.prog.underlying 54 = some (.struct (Try.prog.fieldsOf 54)) := by kernel_rfl
  have hp : Try.prog.stoodInHeld 54 = false := by kernel_rfl
  rw [run_neq_struct, show (10000 : Nat) = 9999 + 1 from rfl, run_equalIn_agg W 9999 54 _ _ hS hp]
  simp only [Program.fieldsOf, Try.underlying54]
  go_simp
  obtain ⟨a, b, c⟩ := x
  obtain ⟨d, e, f⟩ := y
  by_cases h1 : a = d <;> by_cases h2 : b = e <;> by_cases h3 : c = f <;> simp [h1, h2, h3]
theorem guardSpan : Try.prog.eqGuardType Try.prog.depth 54 = false := by kernel_rfl

def BoolEnd (b : Bool) (w : World) (e : Ending) (w' : World) : Prop := e = .returned (.bool b) ∧ Below w.heap.size w w'
def SameEnd (b : Bool) (w : World) (e : Ending) (w' : World) : Prop := e = .returned (.bool b) ∧ ∃ n, w' = w.drewN n

set_option maxHeartbeats 1600000 in
theorem spans_eq (A B : Option Addr) (ca cb : Nat) (ss ts : List Spn) (W1 W2 : Nat) (w : World) (hs : ss.length ≤ 65536) (ht : ts.length ≤ 65536) (hA : Reads w W1 3 A ss.length (ss.flatMap Spn.row)) (hB : Reads w W2 3 B ts.length (ts.flatMap Spn.row)) :
    Calls Try.prog 15 #[.slice A ss.length ca, .slice B ts.length cb] w (SameEnd (decide (ss = ts)) w) := by
  have HA := Lib.hid hA
  have HB := Lib.hid hB
  clear hA hB
  by_cases hl : ss.length = ts.length
  · have hlb : ((ss.length : Int) != (ts.length : Int)) = false := by simp [hl]
    have HL := Lib.hid hl
    have hle : ss.length ≤ ts.length := by omega
    clear hl
    go_enter Try.func15, Try.ntmps15
    go_wp2_with fail
    clear hlb
    go_loopw [13] (fun i wr => ∃ (k : Nat) (n : Nat), k ≤ ss.length ∧ i = .int .i64 k ∧ Hid (wr = w.drewN n) ∧ Hid (ss.take k = ts.take k)) (fun i _ => ss.length - (intOf i).toNat)
    case atStart => exact ⟨0, 0, by omega, rfl, Lib.hid rfl, Lib.hid rfl⟩
    case round =>
      obtain ⟨k, n, hk, rfl, hw, he⟩ := hrel
      by_cases hlt : k < ss.length
      · obtain ⟨ad, rfl, hab, hc⟩ := row_cells spn_row_len HA.out rfl hlt
        obtain ⟨bd, rfl, hbb, hd⟩ := row_cells spn_row_len HB.out rfl (show k < ts.length by omega)
        have hsplit := list_split HL.out hlt he.out
        have hcc : ∀ j u, (ss[k].row)[j]? = some u → wr.cell? ((ad.add (k * 3)).add j) = some u := by rw [hw.out]; exact hc
        have hdd : ∀ j u, ((ts[k]'(by omega)).row)[j]? = some u → wr.cell? ((bd.add (k * 3)).add j) = some u := by rw [hw.out]; exact hd
        clear hc hd
        generalize ss[k] = x at hcc hsplit
        generalize ts[k]'(by omega) = y at hdd hsplit
        have q0 : wr.cell? (ad.add (k * 3)) = _ := hcc 0 _ rfl
        have q1 : wr.cell? ⟨(ad.add (k * 3)).block, (ad.add (k * 3)).off + 1, none⟩ = _ := hcc 1 _ rfl
        have q2 : wr.cell? ⟨(ad.add (k * 3)).block, (ad.add (k * 3)).off + 2, none⟩ = _ := hcc 2 _ rfl
        have p0 : wr.cell? (bd.add (k * 3)) = _ := hdd 0 _ rfl
        have p1 : wr.cell? ⟨(bd.add (k * 3)).block, (bd.add (k * 3)).off + 1, none⟩ = _ := hdd 1 _ rfl
        have p2 : wr.cell? ⟨(bd.add (k * 3)).block, (bd.add (k * 3)).off + 2, none⟩ = _ := hdd 2 _ rfl
        have i1 : (0 : Int) ≤ (k : Int) := by omega
        have i2 : (k : Int) < (ss.length : Int) := by omega
        have i3 : (k : Int) < (ts.length : Int) := by omega
        have HSp := Lib.hid hsplit
        clear hsplit hcc hdd
        have hm := guardSpan
        by_cases hxy : x = y
        · have hnq : ∀ W, (binOp .neq 54 (.agg #[.int .i64 x.entry, .int .i64 x.start, .int .i64 x.stop]) (.agg #[.int .i64 y.entry, .int .i64 y.start, .int .i64 y.stop])).run Try.prog W = .ok (.bool false) W := fun W => by rw [neqSpan, decide_eq_false (by simp [hxy])]
          have hT := HSp.out.1 hxy
          have HT := Lib.hid hT
          clear hT hxy HSp
          go_wp2_with fail
          go_quiet (fail)
          go_wp2
          go_roundw
          case rel => exact ⟨k + 1, _, by omega, by go_num, Lib.hid (by rw [hw.out, World.drewN_drewN]), Lib.hid HT.out⟩
          case measure => simp [intOf]; omega
        · have hnq : ∀ W, (binOp .neq 54 (.agg #[.int .i64 x.entry, .int .i64 x.start, .int .i64 x.stop]) (.agg #[.int .i64 y.entry, .int .i64 y.start, .int .i64 y.stop])).run Try.prog W = .ok (.bool true) W := fun W => by rw [neqSpan, decide_eq_true hxy]
          have hT := HSp.out.2 hxy
          have HT := Lib.hid hT
          clear hT hxy HSp
          go_wp2_with fail
          go_quiet (fail)
          go_wp2
          go_ret
          exact ⟨ret_bool (by rw [decide_eq_false HT.out]), _, by rw [hw.out, World.drewN_drewN]⟩
      · obtain rfl : k = ss.length := by omega
        have hT : ss = ts := by
          have h1 := he.out
          rw [List.take_length, HL.out, List.take_length] at h1
          exact h1
        have HT := Lib.hid hT
        clear hT
        go_wp2
        go_ret
        exact ⟨ret_bool (by rw [decide_eq_true HT.out]), n, hw.out⟩
  · have hlb : ((ss.length : Int) != (ts.length : Int)) = true := by simp; omega
    have hT : ss ≠ ts := fun e => hl (by rw [e])
    have HT := Lib.hid hT
    clear hl hT
    go_enter Try.func15, Try.ntmps15
    go_wp2
    go_ret
    exact ⟨ret_bool (by rw [decide_eq_false HT.out]), 0, rfl⟩
end Go.Proofs.Ytlmehmmdbdembaa
