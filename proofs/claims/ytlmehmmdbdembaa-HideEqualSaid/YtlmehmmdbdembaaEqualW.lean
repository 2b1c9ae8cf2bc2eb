/-
  Walks: the reference's secret and equal.
-/
import Derived.Test.YtlmehmmdbdembaaBareW
namespace Go.Proofs.Ytlmehmmdbdembaa
open Go.RowKit
set_option linter.unusedVariables false

set_option maxHeartbeats 800000 in
theorem secret_any (r : Req) (t : Int) (w : World) : Calls Try.prog 46 #[r.v, .int .i64 t] w (BoolEnd (secB r t) w) := by
  by_cases h1 : 1 ≤ r.deed
  · by_cases h2 : r.deed ≤ 5
    · by_cases h3 : r.ten = t
      · have hb : (r.ten != t) = false := by simp [h3]
        have e : secB r t = false := by unfold secB; simp [h3]
        rw [e]
        clear e h3
        go_enter Try.func46, Try.ntmps46
        go_wp2
        go_ret
        exact ⟨rfl, below_box w _⟩
      · have hb : (r.ten != t) = true := by simp [h3]
        have e : secB r t = true := by unfold secB; simp [h1, h2, h3]
        rw [e]
        clear e h3
        go_enter Try.func46, Try.ntmps46
        go_wp2
        go_ret
        exact ⟨rfl, below_box w _⟩
    · have e : secB r t = false := by unfold secB; simp [h2]
      rw [e]
      clear e
      go_enter Try.func46, Try.ntmps46
      go_wp2
      go_ret
      first | exact ⟨rfl, below_box w _⟩ | exact ⟨ret_bool (decide_eq_false (by omega)), below_box w _⟩ | exact ⟨ret_bool (by simp; omega), below_box w _⟩
  · have e : secB r t = false := by unfold secB; simp; omega
    rw [e]
    clear e
    go_enter Try.func46, Try.ntmps46
    go_wp2
    go_ret
    first | exact ⟨rfl, below_box w _⟩ | exact ⟨ret_bool (decide_eq_false (by omega)), below_box w _⟩ | exact ⟨ret_bool (by simp; omega), below_box w _⟩

theorem neqHandle (x y : Req) (W : World) : (binOp .neq 26 (.agg #[.int .i64 x.ten, .int .u32 x.gen, .int .u8 x.rig]) (.agg #[.int .i64 y.ten, .int .u32 y.gen, .int .u8 y.rig])).run Try.prog W = .ok (.bool (!decide (x.ten = y.ten ∧ x.gen = y.gen ∧ x.rig = y.rig))) W := by
  have u0 := Try.underlying3
  have a0 := Try.isAgg3
  have z0 := Try.sizeOf3
  have u1 := Try.underlying23
  have a1 := Try.isAgg23
  have z1 := Try.sizeOf23
  have u2 := Try.underlying24
  have a2 := Try.isAgg24
  have z2 := Try.sizeOf24
  have hS : Try.prog.underlying 26 = some (.struct (Try.prog.fieldsOf 26)) := by kernel_rfl
  have hp : Try.prog.stoodInHeld 26 = false := by kernel_rfl
  rw [run_neq_struct, show (10000 : Nat) = 9999 + 1 from rfl, run_equalIn_agg W 9999 26 _ _ hS hp]
  clear hS
  simp only [Program.fieldsOf, Try.underlying26]
  go_simp
  by_cases h0 : x.ten = y.ten <;> by_cases h1 : x.gen = y.gen <;> by_cases h2 : x.rig = y.rig <;> simp [h0, h1, h2]

theorem neqLimits (x y : Req) (W : World) : (binOp .neq 29 (.agg #[.int .u64 x.qk, .int .u64 x.qb]) (.agg #[.int .u64 y.qk, .int .u64 y.qb])).run Try.prog W = .ok (.bool (!decide (x.qk = y.qk ∧ x.qb = y.qb))) W := by
  have u0 := Try.underlying27
  have a0 := Try.isAgg27
  have z0 := Try.sizeOf27
  have hS : Try.prog.underlying 29 = some (.struct (Try.prog.fieldsOf 29)) := by kernel_rfl
  have hp : Try.prog.stoodInHeld 29 = false := by kernel_rfl
  rw [run_neq_struct, show (10000 : Nat) = 9999 + 1 from rfl, run_equalIn_agg W 9999 29 _ _ hS hp]
  clear hS
  simp only [Program.fieldsOf, Try.underlying29]
  go_simp
  by_cases h0 : x.qk = y.qk <;> by_cases h1 : x.qb = y.qb <;> simp [h0, h1]
theorem guardHandle : Try.prog.eqGuardType Try.prog.depth 26 = false := by kernel_rfl
theorem guardLimits : Try.prog.eqGuardType Try.prog.depth 29 = false := by kernel_rfl

theorem beqBytes (a b : ByteArray) : (a.toList == b.toList) = decide (a = b) := by
  by_cases h : a = b
  · subst h; simp
  · rw [decide_eq_false h]
    exact beq_false_of_ne (fun e => h (bytes_ext e))
/-- What the reference's equal says. -/
theorem bare_ne {a b : Req} {t : Int} (h : a.deed ≠ b.deed ∨ ¬ (a.ten = b.ten ∧ a.gen = b.gen ∧ a.rig = b.rig) ∨ a.lim ≠ b.lim ∨ a.tenant ≠ b.tenant ∨ ¬ (a.qk = b.qk ∧ a.qb = b.qb) ∨ a.rights ≠ b.rights) : bareR a t ≠ bareR b t := by
  intro e
  have ha : ∀ r : Req, (bareR r t).deed = r.deed ∧ (bareR r t).ten = r.ten ∧ (bareR r t).gen = r.gen ∧ (bareR r t).rig = r.rig ∧ (bareR r t).lim = r.lim ∧ (bareR r t).tenant = r.tenant ∧ (bareR r t).qk = r.qk ∧ (bareR r t).qb = r.qb ∧ (bareR r t).rights = r.rights := by
    intro r
    unfold bareR
    split <;> simp
  obtain ⟨a1, a2, a3, a4, a5, a6, a7, a8, a9⟩ := ha a
  obtain ⟨b1, b2, b3, b4, b5, b6, b7, b8, b9⟩ := ha b
  rw [e] at a1 a2 a3 a4 a5 a6 a7 a8 a9
  rcases h with h | h | h | h | h | h
  · exact h (a1.symm.trans b1)
  · exact h ⟨a2.symm.trans b2, a3.symm.trans b3, a4.symm.trans b4⟩
  · exact h (a5.symm.trans b5)
  · exact h (a6.symm.trans b6)
  · exact h ⟨a7.symm.trans b7, a8.symm.trans b8⟩
  · exact h (a9.symm.trans b9)
theorem bare_eq_iff {a b : Req} {t : Int} (h1 : a.deed = b.deed) (h2 : a.ten = b.ten ∧ a.gen = b.gen ∧ a.rig = b.rig) (h3 : a.lim = b.lim) (h4 : a.tenant = b.tenant) (h5 : a.qk = b.qk ∧ a.qb = b.qb) (h6 : a.rights = b.rights) :
    bareR a t = bareR b t ↔ (secB a t = true ∨ (a.key = b.key ∧ a.val = b.val ∧ a.old = b.old)) := by
  obtain ⟨d, te, ge, ri, ke, va, ol, li, tn, qk, qb, rg⟩ := a
  obtain ⟨d', te', ge', ri', ke', va', ol', li', tn', qk', qb', rg'⟩ := b
  simp only at h1 h2 h3 h4 h5 h6
  obtain ⟨rfl, rfl, rfl⟩ := h2
  obtain ⟨rfl, rfl⟩ := h5
  subst h1 h3 h4 h6
  unfold bareR
  have e : secB ⟨d, te, ge, ri, ke', va', ol', li, tn, qk, qb, rg⟩ t = secB ⟨d, te, ge, ri, ke, va, ol, li, tn, qk, qb, rg⟩ t := rfl
  rw [e]
  by_cases hs : secB ⟨d, te, ge, ri, ke, va, ol, li, tn, qk, qb, rg⟩ t = true
  · simp [hs]
  · simp [hs]

set_option maxHeartbeats 1600000 in
theorem equal_no1 (a b : Req) (t : Int) (w : World) (h1 : ¬ a.deed = b.deed) : Calls Try.prog 44 #[a.v, b.v, .int .i64 t] w (BoolEnd false w) := by
  have m1 : (a.deed != b.deed) = true := by simp [h1]
  clear h1
  have g1 := guardHandle
  have g2 := guardLimits
  go_enter Try.func44, Try.ntmps44
  go_wp2
  go_ret
  exact ⟨rfl, below_alloc (below_box w _) _⟩
set_option maxHeartbeats 1600000 in
theorem equal_no2 (a b : Req) (t : Int) (w : World) (h1 : a.deed = b.deed) (h2 : ¬ (a.ten = b.ten ∧ a.gen = b.gen ∧ a.rig = b.rig)) : Calls Try.prog 44 #[a.v, b.v, .int .i64 t] w (BoolEnd false w) := by
  have m1 : (a.deed != b.deed) = false := by simp [h1]
  have n1 : ∀ W, (binOp .neq 26 (.agg #[.int .i64 a.ten, .int .u32 a.gen, .int .u8 a.rig]) (.agg #[.int .i64 b.ten, .int .u32 b.gen, .int .u8 b.rig])).run Try.prog W = .ok (.bool true) W := fun W => by rw [neqHandle, decide_eq_false h2]; rfl
  clear h1 h2
  have g1 := guardHandle
  have g2 := guardLimits
  go_enter Try.func44, Try.ntmps44
  go_wp2
  go_ret
  exact ⟨rfl, below_alloc (below_box w _) _⟩
set_option maxHeartbeats 1600000 in
theorem equal_no3 (a b : Req) (t : Int) (w : World) (h1 : a.deed = b.deed) (h2 : a.ten = b.ten ∧ a.gen = b.gen ∧ a.rig = b.rig) (h3 : ¬ a.lim = b.lim) : Calls Try.prog 44 #[a.v, b.v, .int .i64 t] w (BoolEnd false w) := by
  have m1 : (a.deed != b.deed) = false := by simp [h1]
  have n1 : ∀ W, (binOp .neq 26 (.agg #[.int .i64 a.ten, .int .u32 a.gen, .int .u8 a.rig]) (.agg #[.int .i64 b.ten, .int .u32 b.gen, .int .u8 b.rig])).run Try.prog W = .ok (.bool false) W := fun W => by rw [neqHandle, decide_eq_true h2]; rfl
  have m3 : (a.lim != b.lim) = true := by simp [h3]
  clear h1 h2 h3
  have g1 := guardHandle
  have g2 := guardLimits
  go_enter Try.func44, Try.ntmps44
  go_wp2
  go_ret
  exact ⟨rfl, below_alloc (below_box w _) _⟩
set_option maxHeartbeats 1600000 in
theorem equal_no4 (a b : Req) (t : Int) (w : World) (h1 : a.deed = b.deed) (h2 : a.ten = b.ten ∧ a.gen = b.gen ∧ a.rig = b.rig) (h3 : a.lim = b.lim) (h4 : ¬ a.tenant = b.tenant) : Calls Try.prog 44 #[a.v, b.v, .int .i64 t] w (BoolEnd false w) := by
  have m1 : (a.deed != b.deed) = false := by simp [h1]
  have n1 : ∀ W, (binOp .neq 26 (.agg #[.int .i64 a.ten, .int .u32 a.gen, .int .u8 a.rig]) (.agg #[.int .i64 b.ten, .int .u32 b.gen, .int .u8 b.rig])).run Try.prog W = .ok (.bool false) W := fun W => by rw [neqHandle, decide_eq_true h2]; rfl
  have m3 : (a.lim != b.lim) = false := by simp [h3]
  have m4 : (a.tenant != b.tenant) = true := by simp [h4]
  clear h1 h2 h3 h4
  have g1 := guardHandle
  have g2 := guardLimits
  go_enter Try.func44, Try.ntmps44
  go_wp2
  go_ret
  exact ⟨rfl, below_alloc (below_box w _) _⟩
set_option maxHeartbeats 1600000 in
theorem equal_no5 (a b : Req) (t : Int) (w : World) (h1 : a.deed = b.deed) (h2 : a.ten = b.ten ∧ a.gen = b.gen ∧ a.rig = b.rig) (h3 : a.lim = b.lim) (h4 : a.tenant = b.tenant) (h5 : ¬ (a.qk = b.qk ∧ a.qb = b.qb)) : Calls Try.prog 44 #[a.v, b.v, .int .i64 t] w (BoolEnd false w) := by
  have m1 : (a.deed != b.deed) = false := by simp [h1]
  have n1 : ∀ W, (binOp .neq 26 (.agg #[.int .i64 a.ten, .int .u32 a.gen, .int .u8 a.rig]) (.agg #[.int .i64 b.ten, .int .u32 b.gen, .int .u8 b.rig])).run Try.prog W = .ok (.bool false) W := fun W => by rw [neqHandle, decide_eq_true h2]; rfl
  have m3 : (a.lim != b.lim) = false := by simp [h3]
  have m4 : (a.tenant != b.tenant) = false := by simp [h4]
  have n2 : ∀ W, (binOp .neq 29 (.agg #[.int .u64 a.qk, .int .u64 a.qb]) (.agg #[.int .u64 b.qk, .int .u64 b.qb])).run Try.prog W = .ok (.bool true) W := fun W => by rw [neqLimits, decide_eq_false h5]; rfl
  clear h1 h2 h3 h4 h5
  have g1 := guardHandle
  have g2 := guardLimits
  go_enter Try.func44, Try.ntmps44
  go_wp2
  go_ret
  exact ⟨rfl, below_alloc (below_box w _) _⟩
set_option maxHeartbeats 1600000 in
theorem equal_no6 (a b : Req) (t : Int) (w : World) (h1 : a.deed = b.deed) (h2 : a.ten = b.ten ∧ a.gen = b.gen ∧ a.rig = b.rig) (h3 : a.lim = b.lim) (h4 : a.tenant = b.tenant) (h5 : a.qk = b.qk ∧ a.qb = b.qb) (h6 : ¬ a.rights = b.rights) : Calls Try.prog 44 #[a.v, b.v, .int .i64 t] w (BoolEnd false w) := by
  have m1 : (a.deed != b.deed) = false := by simp [h1]
  have n1 : ∀ W, (binOp .neq 26 (.agg #[.int .i64 a.ten, .int .u32 a.gen, .int .u8 a.rig]) (.agg #[.int .i64 b.ten, .int .u32 b.gen, .int .u8 b.rig])).run Try.prog W = .ok (.bool false) W := fun W => by rw [neqHandle, decide_eq_true h2]; rfl
  have m3 : (a.lim != b.lim) = false := by simp [h3]
  have m4 : (a.tenant != b.tenant) = false := by simp [h4]
  have n2 : ∀ W, (binOp .neq 29 (.agg #[.int .u64 a.qk, .int .u64 a.qb]) (.agg #[.int .u64 b.qk, .int .u64 b.qb])).run Try.prog W = .ok (.bool false) W := fun W => by rw [neqLimits, decide_eq_true h5]; rfl
  have m6 : (a.rights != b.rights) = true := by simp [h6]
  clear h1 h2 h3 h4 h5 h6
  have g1 := guardHandle
  have g2 := guardLimits
  go_enter Try.func44, Try.ntmps44
  go_wp2
  go_ret
  exact ⟨rfl, below_alloc (below_box w _) _⟩
set_option maxHeartbeats 1600000 in
theorem equal_same (a b : Req) (t : Int) (w : World) (h1 : a.deed = b.deed) (h2 : a.ten = b.ten ∧ a.gen = b.gen ∧ a.rig = b.rig) (h3 : a.lim = b.lim) (h4 : a.tenant = b.tenant) (h5 : a.qk = b.qk ∧ a.qb = b.qb) (h6 : a.rights = b.rights) : Calls Try.prog 44 #[a.v, b.v, .int .i64 t] w (BoolEnd (secB a t || (decide (a.key = b.key) && (decide (a.val = b.val) && decide (a.old = b.old)))) w) := by
  have m1 : (a.deed != b.deed) = false := by simp [h1]
  have n1 : ∀ W, (binOp .neq 26 (.agg #[.int .i64 a.ten, .int .u32 a.gen, .int .u8 a.rig]) (.agg #[.int .i64 b.ten, .int .u32 b.gen, .int .u8 b.rig])).run Try.prog W = .ok (.bool false) W := fun W => by rw [neqHandle, decide_eq_true h2]; rfl
  have m3 : (a.lim != b.lim) = false := by simp [h3]
  have m4 : (a.tenant != b.tenant) = false := by simp [h4]
  have n2 : ∀ W, (binOp .neq 29 (.agg #[.int .u64 a.qk, .int .u64 a.qb]) (.agg #[.int .u64 b.qk, .int .u64 b.qb])).run Try.prog W = .ok (.bool false) W := fun W => by rw [neqLimits, decide_eq_true h5]; rfl
  have m6 : (a.rights != b.rights) = false := by simp [h6]
  clear h1 h2 h3 h4 h5 h6
  have g1 := guardHandle
  have g2 := guardLimits
  go_enter Try.func44, Try.ntmps44
  refine wp_seq_k fun K0 hK => ?_
  have HK0 := Lib.hid hK
  clear hK
  go_wp2_with fail
  refine HK0.out _ _ ?_
  clear HK0 K0
  refine wp_seq_k fun K0 hK => ?_
  have HK0 := Lib.hid hK
  clear hK
  go_wp2_with fail
  refine HK0.out _ _ ?_
  clear HK0 K0 n1 n2 m1 m3 m4 m6
  go_wp2_with fail
  have b0 := (req_box a w 31).alloc (.cells #[.int .i64 b.deed, .int .i64 b.ten, .int .u32 b.gen, .int .u8 b.rig, .string b.key, .string b.val, .string b.old, .int .i64 b.lim, .int .i64 b.tenant, .int .u64 b.qk, .int .u64 b.qb, .int .u8 b.rights] 31)
  have b1 := blk_newAt (w := w.alloc (.cells #[.int .i64 a.deed, .int .i64 a.ten, .int .u32 a.gen, .int .u8 a.rig, .string a.key, .string a.val, .string a.old, .int .i64 a.lim, .int .i64 a.tenant, .int .u64 a.qk, .int .u64 a.qb, .int .u8 a.rights] 31)) (g := w.heap.size + 1) (t := 31) (cs := b.row.toArray) (by simp)
  have hbel : Below w.heap.size w ((w.alloc (.cells #[.int .i64 a.deed, .int .i64 a.ten, .int .u32 a.gen, .int .u8 a.rig, .string a.key, .string a.val, .string a.old, .int .i64 a.lim, .int .i64 a.tenant, .int .u64 a.qk, .int .u64 a.qb, .int .u8 a.rights] 31)).alloc (.cells #[.int .i64 b.deed, .int .i64 b.ten, .int .u32 b.gen, .int .u8 b.rig, .string b.key, .string b.val, .string b.old, .int .i64 b.lim, .int .i64 b.tenant, .int .u64 b.qk, .int .u64 b.qb, .int .u8 b.rights] 31)) := below_alloc (below_box w _) _
  have b1 : Blk ((w.alloc (.cells #[.int .i64 a.deed, .int .i64 a.ten, .int .u32 a.gen, .int .u8 a.rig, .string a.key, .string a.val, .string a.old, .int .i64 a.lim, .int .i64 a.tenant, .int .u64 a.qk, .int .u64 a.qb, .int .u8 a.rights] 31)).alloc (.cells #[.int .i64 b.deed, .int .i64 b.ten, .int .u32 b.gen, .int .u8 b.rig, .string b.key, .string b.val, .string b.old, .int .i64 b.lim, .int .i64 b.tenant, .int .u64 b.qk, .int .u64 b.qb, .int .u8 b.rights] 31)) (w.heap.size + 1) 31 b.row.toArray := b1
  generalize (w.alloc (.cells #[.int .i64 a.deed, .int .i64 a.ten, .int .u32 a.gen, .int .u8 a.rig, .string a.key, .string a.val, .string a.old, .int .i64 a.lim, .int .i64 a.tenant, .int .u64 a.qk, .int .u64 a.qb, .int .u8 a.rights] 31)).alloc (.cells #[.int .i64 b.deed, .int .i64 b.ten, .int .u32 b.gen, .int .u8 b.rig, .string b.key, .string b.val, .string b.old, .int .i64 b.lim, .int .i64 b.tenant, .int .u64 b.qk, .int .u64 b.qb, .int .u8 b.rights] 31) = W0 at b0 b1 hbel ⊢
  refine (secret_any a t _).mono ?_
  rintro e w1 ⟨rfl, hb1⟩
  have b0 := b0.below hb1 b0.lt
  have b1 := b1.below hb1 b1.lt
  have hbel := below_trans hbel hb1
  obtain ⟨h0, h1, h2, h3, h4, h5, h6, h7, h8, h9, h10, h11⟩ := req_cells b0
  obtain ⟨q0, q1, q2, q3, q4, q5, q6, q7, q8, q9, q10, q11⟩ := req_cells b1
  have HB := Lib.hid hbel
  clear hb1 b0 b1 hbel g1 g2
  obtain ⟨sb, hsb⟩ : ∃ sb, secB a t = sb := ⟨_, rfl⟩
  rw [hsb]
  have HSB := Lib.hid hsb
  clear hsb
  cases sb with
  | true =>
    go_wp2
    go_ret
    exact ⟨ret_bool (by rw [HSB.out]; rfl), HB.out⟩
  | false =>
    go_wp2
    all_goals go_ret
    all_goals refine ⟨ret_bool ?_, HB.out⟩
    all_goals rw [HSB.out, Bool.false_or]
    · rw [decide_eq_true (bytes_ext (show a.key.toList = b.key.toList by assumption)), decide_eq_true (bytes_ext (show a.val.toList = b.val.toList by assumption)), ← beqBytes]; rfl
    · rw [decide_eq_false (p := a.val = b.val) (fun e => absurd (congrArg ByteArray.toList e) (by assumption))]; simp
    · rw [decide_eq_false (p := a.key = b.key) (fun e => absurd (congrArg ByteArray.toList e) (by assumption))]; rfl
/-- The reference's equal: whether the requests are the same without their secrets. -/
theorem equal_any (a b : Req) (t : Int) (w : World) : Calls Try.prog 44 #[a.v, b.v, .int .i64 t] w (BoolEnd (decide (bareR a t = bareR b t)) w) := by
  by_cases h1 : a.deed = b.deed
  case neg => rw [decide_eq_false (bare_ne (.inl h1))]; exact equal_no1 a b t w h1
  by_cases h2 : a.ten = b.ten ∧ a.gen = b.gen ∧ a.rig = b.rig
  case neg => rw [decide_eq_false (bare_ne (.inr (.inl h2)))]; exact equal_no2 a b t w h1 h2
  by_cases h3 : a.lim = b.lim
  case neg => rw [decide_eq_false (bare_ne (.inr (.inr (.inl h3))))]; exact equal_no3 a b t w h1 h2 h3
  by_cases h4 : a.tenant = b.tenant
  case neg => rw [decide_eq_false (bare_ne (.inr (.inr (.inr (.inl h4)))))]; exact equal_no4 a b t w h1 h2 h3 h4
  by_cases h5 : a.qk = b.qk ∧ a.qb = b.qb
  case neg => rw [decide_eq_false (bare_ne (.inr (.inr (.inr (.inr (.inl h5))))))]; exact equal_no5 a b t w h1 h2 h3 h4 h5
  by_cases h6 : a.rights = b.rights
  case neg => rw [decide_eq_false (bare_ne (.inr (.inr (.inr (.inr (.inr h6))))))]; exact equal_no6 a b t w h1 h2 h3 h4 h5 h6
  have h := equal_same a b t w h1 h2 h3 h4 h5 h6
  have e : (secB a t || (decide (a.key = b.key) && (decide (a.val = b.val) && decide (a.old = b.old)))) = decide (bareR a t = bareR b t) := by
    rw [Bool.eq_iff_iff]
    simp [bare_eq_iff h1 h2 h3 h4 h5 h6]
  rw [e] at h
  exact h
end Go.Proofs.Ytlmehmmdbdembaa
