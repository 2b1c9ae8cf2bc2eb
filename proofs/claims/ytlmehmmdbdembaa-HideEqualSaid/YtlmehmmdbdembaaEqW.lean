/-
  What '==' and '!=' say of two entries, of two requests.
-/
import Derived.Test.YtlmehmmdbdembaaAppW
namespace Go.Proofs.Ytlmehmmdbdembaa
open Go.RowKit
set_option linter.unusedVariables false

deriving instance DecidableEq for Req
deriving instance DecidableEq for Ent

theorem bytes_ext {a b : ByteArray} (h : a.toList = b.toList) : a = b := by
  rw [ByteArray.toList_eq, ByteArray.toList_eq] at h
  obtain ⟨⟨x⟩⟩ := a
  obtain ⟨⟨y⟩⟩ := b
  simp only at h
  rw [h]

set_option maxHeartbeats 1600000 in
theorem neqEnt (x y : Ent) (W : World) : (binOp .neq 46 (.agg #[.int .i64 x.ses, .int .i64 x.r.deed, .int .i64 x.r.ten, .int .u32 x.r.gen, .int .u8 x.r.rig, .string x.r.key, .string x.r.val, .string x.r.old, .int .i64 x.r.lim, .int .i64 x.r.tenant, .int .u64 x.r.qk, .int .u64 x.r.qb, .int .u8 x.r.rights]) (.agg #[.int .i64 y.ses, .int .i64 y.r.deed, .int .i64 y.r.ten, .int .u32 y.r.gen, .int .u8 y.r.rig, .string y.r.key, .string y.r.val, .string y.r.old, .int .i64 y.r.lim, .int .i64 y.r.tenant, .int .u64 y.r.qk, .int .u64 y.r.qb, .int .u8 y.r.rights])).run Try.prog W = .ok (.bool (!decide (x = y))) W := by
  have u0 := Try.underlying3
  have a0 := Try.isAgg3
  have z0 := Try.sizeOf3
  have u1 := Try.underlying22
  have a1 := Try.isAgg22
  have z1 := Try.sizeOf22
  have u2 := Try.underlying26
  have a2 := Try.isAgg26
  have z2 := Try.sizeOf26
  have u3 := Try.underlying23
  have a3 := Try.isAgg23
  have z3 := Try.sizeOf23
  have u4 := Try.underlying24
  have a4 := Try.isAgg24
  have z4 := Try.sizeOf24
  have u5 := Try.underlying9
  have a5 := Try.isAgg9
  have z5 := Try.sizeOf9
  have u6 := Try.underlying29
  have a6 := Try.isAgg29
  have z6 := Try.sizeOf29
  have u7 := Try.underlying27
  have a7 := Try.isAgg27
  have z7 := Try.sizeOf27
  have u8 := Try.underlying31
  have a8 := Try.isAgg31
  have z8 := Try.sizeOf31
  have hS : Try.prog.underlying 46 = some (.struct (Try.prog.fieldsOf 46)) := by kernel_rfl
  have hp0 : Try.prog.stoodInHeld 46 = false := by kernel_rfl
  have hp1 : Try.prog.stoodInHeld 31 = false := by kernel_rfl
  have hp2 : Try.prog.stoodInHeld 26 = false := by kernel_rfl
  have hp3 : Try.prog.stoodInHeld 29 = false := by kernel_rfl
  rw [run_neq_struct, show (10000 : Nat) = 9999 + 1 from rfl, run_equalIn_agg W 9999 46 _ _ hS hp0]
  clear hS
  simp only [Program.fieldsOf, Try.underlying46]
  go_simp
  by_cases h0 : x.ses = y.ses
  case neg => rw [if_neg h0, decide_eq_false (fun e => h0 (by rw [e]))]; rfl
  rw [if_pos h0]
  by_cases h1 : x.r.deed = y.r.deed
  case neg => rw [if_neg h1, decide_eq_false (fun e => h1 (by rw [e]))]; rfl
  rw [if_pos h1]
  by_cases h2 : x.r.ten = y.r.ten
  case neg => rw [if_neg h2, decide_eq_false (fun e => h2 (by rw [e]))]; rfl
  rw [if_pos h2]
  by_cases h3 : x.r.gen = y.r.gen
  case neg => rw [if_neg h3, decide_eq_false (fun e => h3 (by rw [e]))]; rfl
  rw [if_pos h3]
  by_cases h4 : x.r.rig = y.r.rig
  case neg => rw [if_neg h4, decide_eq_false (fun e => h4 (by rw [e]))]; rfl
  rw [if_pos h4]
  by_cases h5 : x.r.key.toList = y.r.key.toList
  case neg => rw [if_neg h5, decide_eq_false (fun e => h5 (by rw [e]))]; rfl
  rw [if_pos h5]
  by_cases h6 : x.r.val.toList = y.r.val.toList
  case neg => rw [if_neg h6, decide_eq_false (fun e => h6 (by rw [e]))]; rfl
  rw [if_pos h6]
  by_cases h7 : x.r.old.toList = y.r.old.toList
  case neg => rw [if_neg h7, decide_eq_false (fun e => h7 (by rw [e]))]; rfl
  rw [if_pos h7]
  by_cases h8 : x.r.lim = y.r.lim
  case neg => rw [if_neg h8, decide_eq_false (fun e => h8 (by rw [e]))]; rfl
  rw [if_pos h8]
  by_cases h9 : x.r.tenant = y.r.tenant
  case neg => rw [if_neg h9, decide_eq_false (fun e => h9 (by rw [e]))]; rfl
  rw [if_pos h9]
  by_cases h10 : x.r.qk = y.r.qk
  case neg => rw [if_neg h10, decide_eq_false (fun e => h10 (by rw [e]))]; rfl
  rw [if_pos h10]
  by_cases h11 : x.r.qb = y.r.qb
  case neg => rw [if_neg h11, decide_eq_false (fun e => h11 (by rw [e]))]; rfl
  rw [if_pos h11]
  by_cases h12 : x.r.rights = y.r.rights
  case neg => rw [if_neg h12, decide_eq_false (fun e => h12 (by rw [e]))]; rfl
  rw [if_pos h12]
  have e : x = y := by
    obtain ⟨a0, a1⟩ := x
    obtain ⟨b0, b1⟩ := y
    simp only at h0 h1 h2 h3 h4 h5 h6 h7 h8 h9 h10 h11 h12
    obtain ⟨c0, c1, c2, c3, c4, c5, c6, c7, c8, c9, c10, c11⟩ := a1
    obtain ⟨d0, d1, d2, d3, d4, d5, d6, d7, d8, d9, d10, d11⟩ := b1
    simp only at h1 h2 h3 h4 h5 h6 h7 h8 h9 h10 h11 h12
    have h5 := bytes_ext h5
    have h6 := bytes_ext h6
    have h7 := bytes_ext h7
    subst h0 h1 h2 h3 h4 h5 h6 h7 h8 h9 h10 h11 h12
    rfl
  rw [decide_eq_true e]
  rfl

set_option maxHeartbeats 1600000 in
theorem eqlEnt (x y : Ent) (W : World) : (binOp .eql 46 (.agg #[.int .i64 x.ses, .int .i64 x.r.deed, .int .i64 x.r.ten, .int .u32 x.r.gen, .int .u8 x.r.rig, .string x.r.key, .string x.r.val, .string x.r.old, .int .i64 x.r.lim, .int .i64 x.r.tenant, .int .u64 x.r.qk, .int .u64 x.r.qb, .int .u8 x.r.rights]) (.agg #[.int .i64 y.ses, .int .i64 y.r.deed, .int .i64 y.r.ten, .int .u32 y.r.gen, .int .u8 y.r.rig, .string y.r.key, .string y.r.val, .string y.r.old, .int .i64 y.r.lim, .int .i64 y.r.tenant, .int .u64 y.r.qk, .int .u64 y.r.qb, .int .u8 y.r.rights])).run Try.prog W = .ok (.bool (decide (x = y))) W := by
  have u0 := Try.underlying3
  have a0 := Try.isAgg3
  have z0 := Try.sizeOf3
  have u1 := Try.underlying22
  have a1 := Try.isAgg22
  have z1 := Try.sizeOf22
  have u2 := Try.underlying26
  have a2 := Try.isAgg26
  have z2 := Try.sizeOf26
  have u3 := Try.underlying23
  have a3 := Try.isAgg23
  have z3 := Try.sizeOf23
  have u4 := Try.underlying24
  have a4 := Try.isAgg24
  have z4 := Try.sizeOf24
  have u5 := Try.underlying9
  have a5 := Try.isAgg9
  have z5 := Try.sizeOf9
  have u6 := Try.underlying29
  have a6 := Try.isAgg29
  have z6 := Try.sizeOf29
  have u7 := Try.underlying27
  have a7 := Try.isAgg27
  have z7 := Try.sizeOf27
  have u8 := Try.underlying31
  have a8 := Try.isAgg31
  have z8 := Try.sizeOf31
  have hS : Try.prog.underlying 46 = some (.struct (Try.prog.fieldsOf 46)) := by kernel_rfl
  have hp0 : Try.prog.stoodInHeld 46 = false := by kernel_rfl
  have hp1 : Try.prog.stoodInHeld 31 = false := by kernel_rfl
  have hp2 : Try.prog.stoodInHeld 26 = false := by kernel_rfl
  have hp3 : Try.prog.stoodInHeld 29 = false := by kernel_rfl
  rw [run_eql_struct, show (10000 : Nat) = 9999 + 1 from rfl, run_equalIn_agg W 9999 46 _ _ hS hp0]
  clear hS
  simp only [Program.fieldsOf, Try.underlying46]
  go_simp
  by_cases h0 : x.ses = y.ses
  case neg => rw [if_neg h0, decide_eq_false (fun e => h0 (by rw [e]))]
  rw [if_pos h0]
  by_cases h1 : x.r.deed = y.r.deed
  case neg => rw [if_neg h1, decide_eq_false (fun e => h1 (by rw [e]))]
  rw [if_pos h1]
  by_cases h2 : x.r.ten = y.r.ten
  case neg => rw [if_neg h2, decide_eq_false (fun e => h2 (by rw [e]))]
  rw [if_pos h2]
  by_cases h3 : x.r.gen = y.r.gen
  case neg => rw [if_neg h3, decide_eq_false (fun e => h3 (by rw [e]))]
  rw [if_pos h3]
  by_cases h4 : x.r.rig = y.r.rig
  case neg => rw [if_neg h4, decide_eq_false (fun e => h4 (by rw [e]))]
  rw [if_pos h4]
  by_cases h5 : x.r.key.toList = y.r.key.toList
  case neg => rw [if_neg h5, decide_eq_false (fun e => h5 (by rw [e]))]
  rw [if_pos h5]
  by_cases h6 : x.r.val.toList = y.r.val.toList
  case neg => rw [if_neg h6, decide_eq_false (fun e => h6 (by rw [e]))]
  rw [if_pos h6]
  by_cases h7 : x.r.old.toList = y.r.old.toList
  case neg => rw [if_neg h7, decide_eq_false (fun e => h7 (by rw [e]))]
  rw [if_pos h7]
  by_cases h8 : x.r.lim = y.r.lim
  case neg => rw [if_neg h8, decide_eq_false (fun e => h8 (by rw [e]))]
  rw [if_pos h8]
  by_cases h9 : x.r.tenant = y.r.tenant
  case neg => rw [if_neg h9, decide_eq_false (fun e => h9 (by rw [e]))]
  rw [if_pos h9]
  by_cases h10 : x.r.qk = y.r.qk
  case neg => rw [if_neg h10, decide_eq_false (fun e => h10 (by rw [e]))]
  rw [if_pos h10]
  by_cases h11 : x.r.qb = y.r.qb
  case neg => rw [if_neg h11, decide_eq_false (fun e => h11 (by rw [e]))]
  rw [if_pos h11]
  by_cases h12 : x.r.rights = y.r.rights
  case neg => rw [if_neg h12, decide_eq_false (fun e => h12 (by rw [e]))]
  rw [if_pos h12]
  have e : x = y := by
    obtain ⟨a0, a1⟩ := x
    obtain ⟨b0, b1⟩ := y
    simp only at h0 h1 h2 h3 h4 h5 h6 h7 h8 h9 h10 h11 h12
    obtain ⟨c0, c1, c2, c3, c4, c5, c6, c7, c8, c9, c10, c11⟩ := a1
    obtain ⟨d0, d1, d2, d3, d4, d5, d6, d7, d8, d9, d10, d11⟩ := b1
    simp only at h1 h2 h3 h4 h5 h6 h7 h8 h9 h10 h11 h12
    have h5 := bytes_ext h5
    have h6 := bytes_ext h6
    have h7 := bytes_ext h7
    subst h0 h1 h2 h3 h4 h5 h6 h7 h8 h9 h10 h11 h12
    rfl
  rw [decide_eq_true e]

set_option maxHeartbeats 1600000 in
theorem neqReq (x y : Req) (W : World) : (binOp .neq 31 (.agg #[.int .i64 x.deed, .int .i64 x.ten, .int .u32 x.gen, .int .u8 x.rig, .string x.key, .string x.val, .string x.old, .int .i64 x.lim, .int .i64 x.tenant, .int .u64 x.qk, .int .u64 x.qb, .int .u8 x.rights]) (.agg #[.int .i64 y.deed, .int .i64 y.ten, .int .u32 y.gen, .int .u8 y.rig, .string y.key, .string y.val, .string y.old, .int .i64 y.lim, .int .i64 y.tenant, .int .u64 y.qk, .int .u64 y.qb, .int .u8 y.rights])).run Try.prog W = .ok (.bool (!decide (x = y))) W := by
  have u0 := Try.underlying3
  have a0 := Try.isAgg3
  have z0 := Try.sizeOf3
  have u1 := Try.underlying22
  have a1 := Try.isAgg22
  have z1 := Try.sizeOf22
  have u2 := Try.underlying26
  have a2 := Try.isAgg26
  have z2 := Try.sizeOf26
  have u3 := Try.underlying23
  have a3 := Try.isAgg23
  have z3 := Try.sizeOf23
  have u4 := Try.underlying24
  have a4 := Try.isAgg24
  have z4 := Try.sizeOf24
  have u5 := Try.underlying9
  have a5 := Try.isAgg9
  have z5 := Try.sizeOf9
  have u6 := Try.underlying29
  have a6 := Try.isAgg29
  have z6 := Try.sizeOf29
  have u7 := Try.underlying27
  have a7 := Try.isAgg27
  have z7 := Try.sizeOf27
  have hS : Try.prog.underlying 31 = some (.struct (Try.prog.fieldsOf 31)) := by kernel_rfl
  have hp0 : Try.prog.stoodInHeld 46 = false := by kernel_rfl
  have hp1 : Try.prog.stoodInHeld 31 = false := by kernel_rfl
  have hp2 : Try.prog.stoodInHeld 26 = false := by kernel_rfl
  have hp3 : Try.prog.stoodInHeld 29 = false := by kernel_rfl
  rw [run_neq_struct, show (10000 : Nat) = 9999 + 1 from rfl, run_equalIn_agg W 9999 31 _ _ hS hp1]
  clear hS
  simp only [Program.fieldsOf, Try.underlying31]
  go_simp
  by_cases h0 : x.deed = y.deed
  case neg => rw [if_neg h0, decide_eq_false (fun e => h0 (by rw [e]))]; rfl
  rw [if_pos h0]
  by_cases h1 : x.ten = y.ten
  case neg => rw [if_neg h1, decide_eq_false (fun e => h1 (by rw [e]))]; rfl
  rw [if_pos h1]
  by_cases h2 : x.gen = y.gen
  case neg => rw [if_neg h2, decide_eq_false (fun e => h2 (by rw [e]))]; rfl
  rw [if_pos h2]
  by_cases h3 : x.rig = y.rig
  case neg => rw [if_neg h3, decide_eq_false (fun e => h3 (by rw [e]))]; rfl
  rw [if_pos h3]
  by_cases h4 : x.key.toList = y.key.toList
  case neg => rw [if_neg h4, decide_eq_false (fun e => h4 (by rw [e]))]; rfl
  rw [if_pos h4]
  by_cases h5 : x.val.toList = y.val.toList
  case neg => rw [if_neg h5, decide_eq_false (fun e => h5 (by rw [e]))]; rfl
  rw [if_pos h5]
  by_cases h6 : x.old.toList = y.old.toList
  case neg => rw [if_neg h6, decide_eq_false (fun e => h6 (by rw [e]))]; rfl
  rw [if_pos h6]
  by_cases h7 : x.lim = y.lim
  case neg => rw [if_neg h7, decide_eq_false (fun e => h7 (by rw [e]))]; rfl
  rw [if_pos h7]
  by_cases h8 : x.tenant = y.tenant
  case neg => rw [if_neg h8, decide_eq_false (fun e => h8 (by rw [e]))]; rfl
  rw [if_pos h8]
  by_cases h9 : x.qk = y.qk
  case neg => rw [if_neg h9, decide_eq_false (fun e => h9 (by rw [e]))]; rfl
  rw [if_pos h9]
  by_cases h10 : x.qb = y.qb
  case neg => rw [if_neg h10, decide_eq_false (fun e => h10 (by rw [e]))]; rfl
  rw [if_pos h10]
  by_cases h11 : x.rights = y.rights
  case neg => rw [if_neg h11, decide_eq_false (fun e => h11 (by rw [e]))]; rfl
  rw [if_pos h11]
  have e : x = y := by
    obtain ⟨a0, a1, a2, a3, a4, a5, a6, a7, a8, a9, a10, a11⟩ := x
    obtain ⟨b0, b1, b2, b3, b4, b5, b6, b7, b8, b9, b10, b11⟩ := y
    simp only at h0 h1 h2 h3 h4 h5 h6 h7 h8 h9 h10 h11
    have h4 := bytes_ext h4
    have h5 := bytes_ext h5
    have h6 := bytes_ext h6
    subst h0 h1 h2 h3 h4 h5 h6 h7 h8 h9 h10 h11
    rfl
  rw [decide_eq_true e]
  rfl
theorem eqlSelf (x : Ent) (W : World) : (binOp .eql 46 (.agg #[.int .i64 x.ses, .int .i64 x.r.deed, .int .i64 x.r.ten, .int .u32 x.r.gen, .int .u8 x.r.rig, .string x.r.key, .string x.r.val, .string x.r.old, .int .i64 x.r.lim, .int .i64 x.r.tenant, .int .u64 x.r.qk, .int .u64 x.r.qb, .int .u8 x.r.rights]) (.agg #[.int .i64 x.ses, .int .i64 x.r.deed, .int .i64 x.r.ten, .int .u32 x.r.gen, .int .u8 x.r.rig, .string x.r.key, .string x.r.val, .string x.r.old, .int .i64 x.r.lim, .int .i64 x.r.tenant, .int .u64 x.r.qk, .int .u64 x.r.qb, .int .u8 x.r.rights])).run Try.prog W = .ok (.bool true) W := by rw [eqlEnt]; simp
theorem guardEnt : Try.prog.eqGuardType Try.prog.depth 46 = false := by kernel_rfl
theorem guardReq : Try.prog.eqGuardType Try.prog.depth 31 = false := by kernel_rfl
end Go.Proofs.Ytlmehmmdbdembaa
