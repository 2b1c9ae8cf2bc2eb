/-
  hide.Owner, the reference's Owner; awake (layer 28).
-/
import Derived.Test.YtlmehmmdbdembaaSpansW
namespace Go.Proofs.Ytlmehmmdbdembaa
open Go.RowKit
set_option linter.unusedVariables false

/-- The owner of a request. -/
def ownerOf (r : Req) : Int := if 1 ≤ r.deed ∧ r.deed ≤ 6 then r.ten else if 7 ≤ r.deed ∧ r.deed ≤ 10 then r.tenant else 0
def IntEnd (n : Int) (w : World) (e : Ending) (w' : World) : Prop := e = .returned (.int .i64 n) ∧ Below w.heap.size w w'

set_option maxHeartbeats 800000 in
theorem owner_any (r : Req) (w : World) : Calls Try.prog 8 #[r.v] w (IntEnd (ownerOf r) w) := by
  by_cases hop : 1 ≤ r.deed ∧ r.deed ≤ 5
  · obtain ⟨d1, d2⟩ := hop
    go_enter Try.func8, Try.ntmps8
    go_wp2_with (go_at_call 27; refine (operation_yes _ _ d1 d2).mono ?_; rintro e w' ⟨rfl, rfl⟩)
    go_ret
    exact ⟨ret_int (by unfold ownerOf; rw [if_pos (by omega)]), below_box w _⟩
  · by_cases h6 : r.deed = 6
    · have h6b : (r.deed == 6) = true := by simp [h6]
      have H6 := Lib.hid h6
      clear h6
      go_enter Try.func8, Try.ntmps8
      go_wp2_with (go_at_call 27; refine (operation_no _ _ hop).mono ?_; rintro e w' ⟨rfl, rfl⟩)
      go_ret
      exact ⟨ret_int (by unfold ownerOf; rw [if_pos (by have := H6.out; omega)]), below_box w _⟩
    · have h6b : (r.deed == 6) = false := by simp [h6]
      by_cases h7 : 7 ≤ r.deed
      · go_enter Try.func8, Try.ntmps8
        go_wp2_with (go_at_call 27; refine (operation_no _ _ hop).mono ?_; rintro e w' ⟨rfl, rfl⟩)
        all_goals go_ret
        all_goals refine ⟨ret_int ?_, below_box w _⟩
        all_goals (unfold ownerOf; rw [if_neg (by omega)]; first | rw [if_pos (by omega)] | rw [if_neg (by omega)])
      · go_enter Try.func8, Try.ntmps8
        go_wp2_with (go_at_call 27; refine (operation_no _ _ hop).mono ?_; rintro e w' ⟨rfl, rfl⟩)
        all_goals go_ret
        all_goals refine ⟨ret_int ?_, below_box w _⟩
        all_goals (unfold ownerOf; rw [if_neg (by omega)]; first | rw [if_pos (by omega)] | rw [if_neg (by omega)])

set_option maxHeartbeats 800000 in
theorem rowner_any (r : Req) (w : World) : Calls Try.prog 9 #[r.v] w (IntEnd (ownerOf r) w) := by
  go_enter Try.func9, Try.ntmps9
  go_wp2
  all_goals go_ret
  all_goals refine ⟨ret_int ?_, below_box w _⟩
  all_goals (unfold ownerOf; first | (rw [if_pos (by omega)]) | (rw [if_neg (by omega), if_pos (by omega)]) | (rw [if_neg (by omega), if_neg (by omega)]))

def reqD (d t : Int) : Req := ⟨d, 0, 0, 0, ⟨#[]⟩, ⟨#[]⟩, ⟨#[]⟩, 0, t, 0, 0, 0⟩
def exEnts : List Ent := [⟨0, reqD 7 0⟩, ⟨0, reqD 1 0⟩, ⟨1, reqD 2 0⟩]
def exPicks : List Int := [0, 0, 1, 0, 1, 1, 0]
def exSpans : List Spn := [⟨0, 0, 0⟩, ⟨2, 2, 5⟩, ⟨1, 1, 6⟩]
theorem ex_times : timesM 2 3 exEnts exPicks = (exSpans, 0) := by decide
theorem reqD_ok {d t : Int} (hd : I64 d) (ht : I64 t) : (reqD d t).ok :=
  ⟨hd, by simp [reqD, I64], by simp [reqD], by simp [reqD], Nat.zero_le _, Nat.zero_le _, Nat.zero_le _, by simp [reqD, I64], ht, by simp [reqD], by simp [reqD], by simp [reqD]⟩
theorem ex_call (W : World) (g g' : Nat) (he : Blk W g 46 (exEnts.flatMap Ent.row).toArray) (hp : Blk W g' 3 (exPicks.map (Value.int .i64)).toArray) :
    Calls Try.prog 13 #[.int .i64 2, .int .i64 3, .agg #[.slice (some ⟨g, 0, none⟩) 3 3, .slice (some ⟨g', 0, none⟩) 7 7]] W (TimesEnd (exSpans, 0) W) := by
  have h := times_any 2 3 exEnts exPicks (some ⟨g, 0, none⟩) (some ⟨g', 0, none⟩) 3 7 W (by
    intro e he
    simp only [exEnts, List.mem_cons, List.not_mem_nil, or_false] at he
    rcases he with rfl | rfl | rfl
    all_goals exact ⟨by simp [I64], reqD_ok (by simp [I64]) (by simp [I64])⟩) (by
    intro p hp
    simp only [exPicks, List.mem_cons, List.not_mem_nil, or_false] at hp
    unfold I64
    omega) ((reads_of_blk he (by simp) rfl).more he.lt) ((reads_of_blk hp (by simp) rfl).more hp.lt)
  rw [ex_times] at h
  exact h

theorem spans_ex (W : World) (B g : Nat) (A : Option Addr) (c : Nat) (hA : Reads W B 3 A exSpans.length (exSpans.flatMap Spn.row)) (hg : Blk W g 54 (exSpans.flatMap Spn.row).toArray) :
    Calls Try.prog 15 #[.slice A exSpans.length c, .slice (some ⟨g, 0, none⟩) 3 3] W (SameEnd true W) := by
  have h := spans_eq A (some ⟨g, 0, none⟩) c 3 exSpans exSpans B (g + 1) W (by decide) (by decide) hA (reads_of_blk hg (by simp) rfl)
  rw [show decide (exSpans = exSpans) = true from by simp] at h
  exact h
theorem owner_ex1 (w : World) : Calls Try.prog 8 #[.agg #[.int .i64 1, .int .i64 2, .int .u32 0, .int .u8 0, .string ⟨#[]⟩, .string ⟨#[]⟩, .string ⟨#[]⟩, .int .i64 0, .int .i64 5, .int .u64 0, .int .u64 0, .int .u8 0]] w (IntEnd 2 w) := owner_any ⟨1, 2, 0, 0, ⟨#[]⟩, ⟨#[]⟩, ⟨#[]⟩, 0, 5, 0, 0, 0⟩ w
theorem owner_ex2 (w : World) : Calls Try.prog 8 #[.agg #[.int .i64 7, .int .i64 2, .int .u32 0, .int .u8 0, .string ⟨#[]⟩, .string ⟨#[]⟩, .string ⟨#[]⟩, .int .i64 0, .int .i64 3, .int .u64 0, .int .u64 0, .int .u8 0]] w (IntEnd 3 w) := owner_any ⟨7, 2, 0, 0, ⟨#[]⟩, ⟨#[]⟩, ⟨#[]⟩, 0, 3, 0, 0, 0⟩ w
theorem owner_ex3 (w : World) : Calls Try.prog 8 #[.agg #[.int .i64 0, .int .i64 0, .int .u32 0, .int .u8 0, .string ⟨#[]⟩, .string ⟨#[]⟩, .string ⟨#[]⟩, .int .i64 0, .int .i64 3, .int .u64 0, .int .u64 0, .int .u8 0]] w (IntEnd 0 w) := owner_any ⟨0, 0, 0, 0, ⟨#[]⟩, ⟨#[]⟩, ⟨#[]⟩, 0, 3, 0, 0, 0⟩ w

set_option maxHeartbeats 1600000 in
set_option maxRecDepth 100000 in
theorem awake_any (w : World) : Calls Try.prog 10 #[] w fun e w' => e = .returned (.bool true) ∧ Below w.heap.size w w' := by
  go_enter Try.func10, Try.ntmps10
  go_wp2_with fail
  refine (ex_call _ w.heap.size (w.heap.size + 1) ?_ ?_).mono ?_
  · exact ((Blk.new _ _ _).alloc _).alloc _
  · exact (blk_newAt (by simp)).alloc _
  rintro e w' ⟨v, rfl, hown, hb⟩
  obtain ⟨A, c, rfl, -, -, -⟩ := own_form hown
  have hbel : Below w.heap.size w w' := ((((Below.refl _ _).alloc (by simp) _).alloc (by simp) _).alloc (by simp; omega) _).trans (hb.mono (by simp; omega))
  have hr := Reads.of_own hown
  clear hb hown
  go_wp2_with fail
  refine (spans_ex _ _ w'.heap.size A c (hr.alloc (Nat.le_refl _) _) (Blk.new _ _ _)).mono ?_
  rintro e w2 ⟨rfl, n, hw2⟩
  have hbel := (hbel.alloc hbel.size (.cells #[.int .i64 0, .int .i64 0, .int .i64 0, .int .i64 2, .int .i64 2, .int .i64 5, .int .i64 1, .int .i64 1, .int .i64 6] 54))
  have hbel : Below w.heap.size w w2 := by rw [hw2]; exact below_drewN hbel n
  clear hw2 hr
  go_wp2_with fail
  ((with_reducible refine (owner_ex1 _).mono ?_); rintro e w3 ⟨rfl, hb1⟩)
  go_wp2_with fail
  ((with_reducible refine (owner_ex2 _).mono ?_); rintro e w4 ⟨rfl, hb2⟩)
  go_wp2_with fail
  ((with_reducible refine (owner_ex3 _).mono ?_); rintro e w5 ⟨rfl, hb3⟩)
  go_wp2_with fail
  go_ret
  exact ⟨rfl, below_trans (below_trans (below_trans hbel hb1) hb2) hb3⟩
end Go.Proofs.Ytlmehmmdbdembaa
