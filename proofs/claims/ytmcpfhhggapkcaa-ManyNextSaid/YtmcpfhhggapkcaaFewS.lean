/-
  Layer 7: the kid at hand is the next one behind those that were seen; '!=' of two Refs.
-/
import Derived.Test.YtmcpfhhggapkcaaFewAll
namespace Go.Proofs.Ytmcpfhhggapkcaa
open Go.RowKit Go.Shelf
set_option linter.unusedVariables false
set_option linter.unusedSimpArgs false

/-- Behind the last of these kids. -/
def fromOf (pre : List Kid) : Nat := match pre.getLast? with
  | some x => x.1.val + 1
  | none => 0
theorem fromOf_snoc (pre : List Kid) (x : Kid) : fromOf (pre ++ [x]) = x.1.val + 1 := by unfold fromOf; rw [List.getLast?_concat]
theorem kids_sorted (f : Kids) : (kidsOf f).Pairwise (fun a b => a.1 < b.1) := by
  unfold kidsOf kidsIn
  refine List.Pairwise.filterMap _ ?_ List.pairwise_lt_range
  intro a a' h b hb b' hb'
  simp only [Option.mem_def, Option.map_eq_some_iff] at hb hb'
  obtain ⟨r, _, rfl⟩ := hb
  obtain ⟨r', _, rfl⟩ := hb'
  exact h
theorem kidsF_sorted (f : Kids) : (kidsF f).Pairwise (fun a b => a.1.val < b.1.val) := by
  have h := kids_sorted f
  rw [← kidsF_map f, List.pairwise_map] at h
  exact h
theorem fromOf_le (pre : List Kid) : fromOf pre ≤ 256 := by
  rcases List.eq_nil_or_concat pre with rfl | ⟨p, y, rfl⟩
  · decide
  · rw [List.concat_eq_append, fromOf_snoc]; have := y.1.isLt; omega
theorem fromOf_gt {pre : List Kid} (h : pre.Pairwise (fun a b => a.1.val < b.1.val)) {y : Kid} (hy : y ∈ pre) : y.1.val < fromOf pre := by
  rcases List.eq_nil_or_concat pre with rfl | ⟨p, z, rfl⟩
  · cases hy
  · rw [List.concat_eq_append] at h hy ⊢
    rw [fromOf_snoc]
    rcases List.mem_append.1 hy with hp | hz
    · have := (List.pairwise_append.1 h).2.2 y hp z (by simp)
      omega
    · have : y = z := by simpa using hz
      subst this; omega
theorem low_lt {f : Kids} {b : Nat} {a : Nat × (Int × Int)} (h : a ∈ lowK f b) : a.1 < b := List.mem_range.1 (mem_kidsIn.1 h).1
theorem high_ge {f : Kids} {b : Nat} {a : Nat × (Int × Int)} (h : a ∈ highK f b) : b ≤ a.1 := by
  obtain ⟨i, hi⟩ := List.mem_iff_getElem?.1 (mem_kidsIn.1 h).1
  rw [List.getElem?_drop] at hi
  obtain ⟨hlt, he⟩ := List.getElem?_eq_some_iff.1 hi
  rw [List.getElem_range] at he
  omega
theorem split_same {α : Type} {p : α → Bool} {a b c d : List α} (h : a ++ b = c ++ d) (ha : ∀ x ∈ a, p x = false) (hb : ∀ x ∈ b, p x = true) (hc : ∀ x ∈ c, p x = false) (hd : ∀ x ∈ d, p x = true) : b = d := by
  have h2 := congrArg (List.filter p) h
  have e1 : a.filter p = [] := List.filter_eq_nil_iff.2 (fun x hx => by rw [ha x hx]; decide)
  have e2 : c.filter p = [] := List.filter_eq_nil_iff.2 (fun x hx => by rw [hc x hx]; decide)
  rw [List.filter_append, List.filter_append, e1, e2, List.filter_eq_self.2 hb, List.filter_eq_self.2 hd] at h2
  simpa using h2
/-- The kids at and beyond the mark are those that were not seen. -/
theorem high_rest {f : Kids} {pre rest : List Kid} (h : kidsF f = pre ++ rest) : highK f (fromOf pre) = rest.map (fun x => (x.1.val, x.2)) := by
  have hs := kidsF_sorted f
  rw [h] at hs
  obtain ⟨hs1, hs2, hs3⟩ := List.pairwise_append.1 hs
  have hk := kids_split f (fromOf pre) (fromOf_le pre)
  rw [← kidsF_map f, h, List.map_append] at hk
  refine split_same (p := fun a => decide (fromOf pre ≤ a.1)) hk.symm ?_ ?_ ?_ ?_
  · intro a ha; exact decide_eq_false (by have := low_lt ha; omega)
  · intro a ha; exact decide_eq_true (high_ge ha)
  · intro a ha
    obtain ⟨y, hy, rfl⟩ := List.mem_map.1 ha
    exact decide_eq_false (by have := fromOf_gt hs1 hy; simp only; omega)
  · intro a ha
    obtain ⟨y, hy, rfl⟩ := List.mem_map.1 ha
    refine decide_eq_true ?_
    rcases List.eq_nil_or_concat pre with rfl | ⟨p, z, rfl⟩
    · exact Nat.zero_le _
    · rw [List.concat_eq_append] at hs3 ⊢
      rw [fromOf_snoc]
      exact hs3 z (by simp) y hy
theorem next_at {f : Kids} {pre : List Kid} {x : Kid} (hp : (pre ++ [x]) <+: kidsF f) : nextK f (fromOf pre : Int) = ((x.1.val : Int), (x.2, true)) ∧ fromOf pre ≤ x.1.val := by
  obtain ⟨t, ht⟩ := hp
  have h := high_rest (f := f) (pre := pre) (rest := x :: t) (by rw [← ht]; simp)
  refine ⟨?_, ?_⟩
  · unfold nextK
    rw [clampK_nat (fromOf_le pre), h]
    rfl
  · exact high_ge (f := f) (a := (x.1.val, x.2)) (by rw [h]; simp)
/-- Behind the last kid there is none. -/
theorem next_end (f : Kids) : nextK f (fromOf (kidsF f) : Int) = (0, ((0, 0), false)) := by
  have h := high_rest (f := f) (pre := kidsF f) (rest := []) (by simp)
  unfold nextK
  rw [clampK_nat (fromOf_le _), h]
  rfl
theorem neqRef (x y : Int × Int) (W : World) : (binOp .neq 31 (.agg #[.int .i64 x.1, .int .u32 x.2]) (.agg #[.int .i64 y.1, .int .u32 y.2])).run Try.prog W = .ok (.bool (!(decide (x = y)))) W := by
  have u0 := Try.underlying3
  have a0 := Try.isAgg3
  have z0 := Try.sizeOf3
  have u1 := Try.underlying29
  have a1 := Try.isAgg29
  have z1 := Try.sizeOf29
  have hS : Try.prog.underlying 31 = some (.struct (Try.prog.fieldsOf 31)) := by kernel_rfl
  have hp : Try.prog.stoodInHeld 31 = false := by kernel_rfl
  rw [run_neq_struct, show (10000 : Nat) = 9999 + 1 from rfl, run_equalIn_agg W 9999 31 _ _ hS hp]
  clear hS
  simp only [Program.fieldsOf, Try.underlying31]
  go_simp
  obtain ⟨a, b⟩ := x
  obtain ⟨c, d⟩ := y
  by_cases h0 : a = c <;> by_cases h1 : b = d <;> simp [h0, h1]
theorem eqlRef (x y : Int × Int) (W : World) : (binOp .eql 31 (.agg #[.int .i64 x.1, .int .u32 x.2]) (.agg #[.int .i64 y.1, .int .u32 y.2])).run Try.prog W = .ok (.bool (decide (x = y))) W := by
  have u0 := Try.underlying3
  have a0 := Try.isAgg3
  have z0 := Try.sizeOf3
  have u1 := Try.underlying29
  have a1 := Try.isAgg29
  have z1 := Try.sizeOf29
  have hS : Try.prog.underlying 31 = some (.struct (Try.prog.fieldsOf 31)) := by kernel_rfl
  have hp : Try.prog.stoodInHeld 31 = false := by kernel_rfl
  rw [run_eql_struct, show (10000 : Nat) = 9999 + 1 from rfl, run_equalIn_agg W 9999 31 _ _ hS hp]
  clear hS
  simp only [Program.fieldsOf, Try.underlying31]
  go_simp
  obtain ⟨a, b⟩ := x
  obtain ⟨c, d⟩ := y
  by_cases h0 : a = c <;> by_cases h1 : b = d <;> simp [h0, h1]

end Go.Proofs.Ytmcpfhhggapkcaa
