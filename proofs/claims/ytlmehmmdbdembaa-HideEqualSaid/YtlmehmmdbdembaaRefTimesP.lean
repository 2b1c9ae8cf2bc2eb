/-
  The reference's Times, whatever its arguments: its contract.
-/
import Derived.Test.YtlmehmmdbdembaaRefTimesW
import Derived.Deep.OwnRows
namespace Go.Proofs.Ytlmehmmdbdembaa
open Go.RowKit
set_option linter.unusedVariables false

theorem made_ints {w : World} {g n : Nat} {t : TypeId} (h : Blk w g t (madeCells #[.int .i64 0] n)) : Blk w g t ((List.replicate n (0 : Int)).map (Value.int .i64)).toArray := by
  have e : ((List.replicate n (0 : Int)).map (Value.int .i64)).toArray = madeCells #[.int .i64 0] n := by
    rw [List.map_replicate, ← toList_madeCells_one]
  rw [e]; exact h
theorem rtimes_end0 (n : Int) (w w' : World) (hb : Below w.heap.size w w') : RefTimesEnd ([], n) w (.returned (.tuple #[.slice none 0 0, .int .i64 n])) w' :=
  ⟨_, rfl, ⟨rfl, Or.inl ⟨rfl, rfl⟩⟩, hb⟩

set_option maxHeartbeats 3200000 in
set_option maxRecDepth 100000 in
theorem rtimes_good (n : Nat) (b : Int) (es : List Ent) (ps : List Int) (A B : Option Addr) (ce cp : Nat) (w : World)
    (hle : es.length ≤ 4096) (hlp : ps.length ≤ 65536) (hn : 1 ≤ n ∧ n ≤ 64) (hb : 2 ≤ b ∧ b ≤ 4096) (hps : ∀ p ∈ ps, I64 p) (hE : Reads w w.heap.size 13 A es.length (es.flatMap Ent.row)) (hP : Reads w w.heap.size 1 B ps.length (ps.map (Value.int .i64))) :
    Calls Try.prog 33 #[.int .i64 (n : Int), .int .i64 b, .agg #[.slice A es.length ce, .slice B ps.length cp]] w (RefTimesEnd (refTimesM n b es ps) w) := by
  have hT : refTimesM n b es ps = if es.all (fun e => decide (0 ≤ e.ses ∧ e.ses < (n : Int))) then (refRun b es n 0 (List.replicate es.length 0) (List.replicate es.length 0) ps [], 0) else ([], 6) := by
    unfold refTimesM
    rw [if_neg (by omega), if_neg (by omega), Int.toNat_natCast]
  have HT := Lib.hid hT
  clear hT
  have HN := Lib.hid (And.intro hn hb)
  obtain ⟨hn1, hn2⟩ := hn
  obtain ⟨hb1, hb2⟩ := hb
  have HE := Lib.hid hE
  have HP := Lib.hid hP
  have HI := Lib.hid hps
  have hli : (es.length : Int) ≤ 4096 := by omega
  clear hE hP hps
  have hmk := fun W => run_make_row' (P := Try.prog) 39 3 (.int .i64 0) 8 Try.underlying39 infoInts rfl .i64 .i64 es.length (by omega) (by omega) W
  go_enter Try.func33, Try.ntmps33
  refine wp_seq_k fun K0 hK => ?_
  have HK0 := Lib.hid hK
  clear hK
  go_wp2_with fail
  refine HK0.out _ _ ?_
  clear HK0 K0
  refine wp_seq_k fun K0 hK => ?_
  have HK0 := Lib.hid hK
  clear hK
  go_wp2_with fail
  refine HK0.out _ _ ?_
  clear HK0 K0
  refine wp_seq_k fun K0 hK => ?_
  have HK0 := Lib.hid hK
  clear hK
  go_wp2_with fail
  refine HK0.out _ _ ?_
  clear HK0 K0
  refine wp_seq_k fun K0 hK => ?_
  have HK0 := Lib.hid hK
  clear hK
  go_wp2_with fail
  refine HK0.out _ _ ?_
  clear HK0 K0
  refine wp_seq_k fun K0 hK => ?_
  have HK0 := Lib.hid hK
  clear hK
  go_wp2_with fail
  refine HK0.out _ _ ?_
  clear HK0 K0
  clear hmk
  have h5 := ((Blk.new w 41 #[.slice A es.length ce, .slice B ps.length cp]).alloc (.cells (madeCells #[.int .i64 0] es.length) 3)).alloc (.cells (madeCells #[.int .i64 0] es.length) 3)
  have hh := made_ints ((blk_newAt (w := w.alloc (.cells #[.slice A es.length ce, .slice B ps.length cp] 41)) (g := w.heap.size + 1) (t := 3) (cs := madeCells #[.int .i64 0] es.length) (by simp)).alloc (.cells (madeCells #[.int .i64 0] es.length) 3))
  have hf := made_ints (blk_newAt (w := (w.alloc (.cells #[.slice A es.length ce, .slice B ps.length cp] 41)).alloc (.cells (madeCells #[.int .i64 0] es.length) 3)) (g := w.heap.size + 1 + 1) (t := 3) (cs := madeCells #[.int .i64 0] es.length) (by simp))
  have hbel : Below w.heap.size w (((w.alloc (.cells #[.slice A es.length ce, .slice B ps.length cp] 41)).alloc (.cells (madeCells #[.int .i64 0] es.length) 3)).alloc (.cells (madeCells #[.int .i64 0] es.length) 3)) := below_alloc (below_alloc (below_box w _) _) _
  generalize ((w.alloc (.cells #[.slice A es.length ce, .slice B ps.length cp] 41)).alloc (.cells (madeCells #[.int .i64 0] es.length) 3)).alloc (.cells (madeCells #[.int .i64 0] es.length) 3) = W0 at h5 hh hf hbel ⊢
  have x0 := h5.cell 0
  simp at x0
  have HQ := Lib.hid (And.intro h5 (And.intro hh (And.intro hf hbel)))
  clear h5 hh hf hbel
  refine wp_seq_k fun K0 hK => ?_
  have HK0 := Lib.hid hK
  clear hK
  go_wp2_with fail
  go_loop [10] (fun i => ∃ k : Nat, k ≤ es.length ∧ i = .int .i64 k ∧ Hid (∀ e ∈ es.take k, 0 ≤ e.ses ∧ e.ses < (n : Int))) (fun i => es.length - (intOf i).toNat)
  case atStart => exact ⟨0, by omega, rfl, Lib.hid (by simp)⟩
  case round =>
    obtain ⟨k, hk, rfl, hid⟩ := hrel
    by_cases hlt : k < es.length
    · obtain ⟨ed, rfl, heb, hec⟩ := row_cells ent_row_len HE.out rfl hlt
      have hmem : es[k] ∈ es := List.getElem_mem hlt
      have htake : es.take (k + 1) = es.take k ++ [es[k]] := List.take_succ_eq_append_getElem hlt
      generalize es[k] = e at hec hmem htake
      have q0 : W0.cell? (ed.add (k * 13)) = some (.int .i64 e.ses) := (HQ.out.2.2.2.cell (by rw [block_of_add]; exact heb)).trans (hec 0 _ rfl)
      have HTake := Lib.hid htake
      have HMem := Lib.hid hmem
      have i1 : (0 : Int) ≤ (k : Int) := by omega
      have i2 : (k : Int) < (es.length : Int) := by omega
      clear htake hmem hec
      by_cases hin : 0 ≤ e.ses ∧ e.ses < (n : Int)
      · obtain ⟨s1, s2⟩ := hin
        go_wp2
        go_round
        case rel =>
          refine ⟨k + 1, by omega, by go_num, Lib.hid ?_⟩
          intro x hx
          rw [HTake.out] at hx
          rcases List.mem_append.1 hx with hx | hx
          · exact hid.out x hx
          · rw [List.mem_singleton.1 hx]; exact ⟨s1, s2⟩
        case measure => simp [intOf]; omega
      · have hall : es.all (fun e => decide (0 ≤ e.ses ∧ e.ses < (n : Int))) = false := by
          rw [List.all_eq_false]
          exact ⟨_, HMem.out, by simpa using hin⟩
        rw [hall] at HT
        have hT2 := HT.out
        rw [if_neg (by simp)] at hT2
        have HT2 := Lib.hid hT2
        clear HT hall hT2
        by_cases hneg : e.ses < 0
        · go_wp2
          go_ret2
          rw [HT2.out]; exact rtimes_end0 6 w _ HQ.out.2.2.2
        · have hge : (n : Int) ≤ e.ses := by omega
          have hnn : 0 ≤ e.ses := by omega
          go_wp2
          go_ret2
          rw [HT2.out]; exact rtimes_end0 6 w _ HQ.out.2.2.2
    · obtain rfl : k = es.length := by omega
      have hte : es.take es.length = es := List.take_length
      rw [hte] at hid
      have hall : es.all (fun e => decide (0 ≤ e.ses ∧ e.ses < (n : Int))) = true := by
        rw [List.all_eq_true]
        intro x hx
        simpa using hid.out x hx
      rw [hall] at HT
      have hT2 := HT.out
      rw [if_pos rfl] at hT2
      have HT3 := Lib.hid hT2
      clear hT2 HT hall hte
      go_wp2_with fail
      refine HK0.out _ _ ?_
      rw [HT3.out]
      refine wp_seq_k fun K1 hK => ?_
      have HK1 := Lib.hid hK
      clear hK
      go_wp2_with fail
      exact HK1.out _ _ (rtimes7 w.heap.size (w.heap.size + 1) (w.heap.size + 1 + 1) n b es ps A B ce cp w W0 HN.out.1 HN.out.2 hle hlp HI.out HE.out HP.out HQ.out.1 HQ.out.2.1 HQ.out.2.2.1 HQ.out.2.2.2 (Nat.le_refl _) (by omega) (by omega) (by omega) (by omega) (by omega))

set_option maxHeartbeats 1600000 in
set_option maxRecDepth 100000 in
theorem rtimes_long (n b : Int) (nE nP : Nat) (Ae Ap : Option Addr) (ce cp : Nat) (w : World) (h : 4096 < nE ∨ 65536 < nP) :
    Calls Try.prog 33 #[.int .i64 n, .int .i64 b, .agg #[.slice Ae nE ce, .slice Ap nP cp]] w (RefTimesEnd ([], 3) w) := by
  by_cases h1 : 4096 < nE
  · clear h
    have h1' : (4096 : Int) < (nE : Int) := by omega
    go_enter Try.func33, Try.ntmps33
    go_wp2
    go_ret2
    exact rtimes_end0 3 w _ (below_box w _)
  · have h2 : 65536 < nP := by omega
    have h1' : ¬ (4096 : Int) < (nE : Int) := by omega
    have h2' : (65536 : Int) < (nP : Int) := by omega
    clear h
    go_enter Try.func33, Try.ntmps33
    go_wp2
    go_ret2
    exact rtimes_end0 3 w _ (below_box w _)

set_option maxHeartbeats 1600000 in
set_option maxRecDepth 100000 in
theorem rtimes_bad (n b : Int) (nE nP : Nat) (Ae Ap : Option Addr) (ce cp : Nat) (w : World) (h1 : nE ≤ 4096) (h2 : nP ≤ 65536) (h : n < 1 ∨ 64 < n ∨ b < 2 ∨ 4096 < b) :
    Calls Try.prog 33 #[.int .i64 n, .int .i64 b, .agg #[.slice Ae nE ce, .slice Ap nP cp]] w (RefTimesEnd ([], 2) w) := by
  have h1' : ¬ (4096 : Int) < (nE : Int) := by omega
  have h2' : ¬ (65536 : Int) < (nP : Int) := by omega
  by_cases a1 : n < 1
  · clear h
    go_enter Try.func33, Try.ntmps33
    go_wp2
    go_ret2
    exact rtimes_end0 2 w _ (below_box w _)
  · by_cases a2 : 64 < n
    · clear h
      go_enter Try.func33, Try.ntmps33
      go_wp2
      go_ret2
      exact rtimes_end0 2 w _ (below_box w _)
    · by_cases a3 : b < 2
      · clear h
        go_enter Try.func33, Try.ntmps33
        go_wp2
        go_ret2
        exact rtimes_end0 2 w _ (below_box w _)
      · have a4 : 4096 < b := by omega
        clear h
        go_enter Try.func33, Try.ntmps33
        go_wp2
        go_ret2
        exact rtimes_end0 2 w _ (below_box w _)

/-- The reference's Times. -/
theorem rtimes_any (n b : Int) (es : List Ent) (ps : List Int) (Ae Ap : Option Addr) (ce cp : Nat) (w : World)
    (hps : ∀ p ∈ ps, I64 p) (hE : Reads w w.heap.size 13 Ae es.length (es.flatMap Ent.row)) (hP : Reads w w.heap.size 1 Ap ps.length (ps.map (Value.int .i64))) :
    Calls Try.prog 33 #[.int .i64 n, .int .i64 b, .agg #[.slice Ae es.length ce, .slice Ap ps.length cp]] w (RefTimesEnd (refTimesM n b es ps) w) := by
  by_cases h1 : 4096 < es.length ∨ 65536 < ps.length
  · have e : refTimesM n b es ps = ([], 3) := by unfold refTimesM; rw [if_pos h1]
    rw [e]
    exact rtimes_long n b _ _ Ae Ap ce cp w h1
  · by_cases h2 : n < 1 ∨ 64 < n ∨ b < 2 ∨ 4096 < b
    · have e : refTimesM n b es ps = ([], 2) := by unfold refTimesM; rw [if_neg h1, if_pos h2]
      rw [e]
      exact rtimes_bad n b _ _ Ae Ap ce cp w (by omega) (by omega) h2
    · obtain ⟨m, rfl⟩ : ∃ m : Nat, n = m := ⟨n.toNat, by omega⟩
      exact rtimes_good m b es ps Ae Ap ce cp w (by omega) (by omega) (by omega) (by omega) hps hE hP
end Go.Proofs.Ytlmehmmdbdembaa
