/-
  Plain models: requests, codes of keys, what an operation is, its way and its bound (layer 29), how many picks it takes (layer 22).
-/
import Derived.Test.YtlmehmmdbdembaaBase
namespace Go.Proofs.Ytlmehmmdbdembaa
open Go.RowKit
set_option linter.unusedVariables false

/-- A request. -/
structure Req where
  deed : Int
  ten : Int
  gen : Int
  rig : Int
  key : ByteArray
  val : ByteArray
  old : ByteArray
  lim : Int
  tenant : Int
  qk : Int
  qb : Int
  rights : Int

def Req.row (r : Req) : List Value := [.int .i64 r.deed, .int .i64 r.ten, .int .u32 r.gen, .int .u8 r.rig, .string r.key, .string r.val, .string r.old, .int .i64 r.lim, .int .i64 r.tenant, .int .u64 r.qk, .int .u64 r.qb, .int .u8 r.rights]
abbrev Req.v (r : Req) : Value := .agg #[.int .i64 r.deed, .int .i64 r.ten, .int .u32 r.gen, .int .u8 r.rig, .string r.key, .string r.val, .string r.old, .int .i64 r.lim, .int .i64 r.tenant, .int .u64 r.qk, .int .u64 r.qb, .int .u8 r.rights]

def reqLeaves : List L0 := [.int .i64, .int .i64, .int .u32, .int .u8, .str, .str, .str, .int .i64, .int .i64, .int .u64, .int .u64, .int .u8]

def I64 (n : Int) : Prop := -9223372036854775808 ≤ n ∧ n ≤ 9223372036854775807
theorem wf_i64 {n : Int} (h : (Lit.int .i64 n).wf = true) : I64 n := by
  simpa [Lit.wf, IntKind.min, IntKind.max, IntKind.signed, IntKind.bits, I64] using h
theorem wf_u32 {n : Int} (h : (Lit.int .u32 n).wf = true) : 0 ≤ n ∧ n ≤ 4294967295 := by
  simpa [Lit.wf, IntKind.min, IntKind.max, IntKind.signed, IntKind.bits] using h
theorem wf_u8 {n : Int} (h : (Lit.int .u8 n).wf = true) : 0 ≤ n ∧ n ≤ 255 := by
  simpa [Lit.wf, IntKind.min, IntKind.max, IntKind.signed, IntKind.bits] using h
theorem wf_u64 {n : Int} (h : (Lit.int .u64 n).wf = true) : 0 ≤ n ∧ n ≤ 18446744073709551615 := by
  simpa [Lit.wf, IntKind.min, IntKind.max, IntKind.signed, IntKind.bits] using h

/-- The numbers of a request fit their kinds, its texts fit memory. -/
structure Req.ok (r : Req) : Prop where
  deed : I64 r.deed
  ten : I64 r.ten
  gen : 0 ≤ r.gen ∧ r.gen ≤ 4294967295
  rig : 0 ≤ r.rig ∧ r.rig ≤ 255
  key : r.key.size ≤ 9223372036854775807
  val : r.val.size ≤ 9223372036854775807
  old : r.old.size ≤ 9223372036854775807
  lim : I64 r.lim
  tenant : I64 r.tenant
  qk : 0 ≤ r.qk ∧ r.qk ≤ 18446744073709551615
  qb : 0 ≤ r.qb ∧ r.qb ≤ 18446744073709551615
  rights : 0 ≤ r.rights ∧ r.rights ≤ 255

theorem req_of_flat {cs : List Value} (h : Flat reqLeaves cs) : ∃ r : Req, r.ok ∧ cs = r.row := by
  obtain ⟨v1, c1, rfl, ⟨n1, rfl, k1⟩, h1⟩ := Flat.cons_inv h
  obtain ⟨v2, c2, rfl, ⟨n2, rfl, k2⟩, h2⟩ := h1.cons_inv
  obtain ⟨v3, c3, rfl, ⟨n3, rfl, k3⟩, h3⟩ := h2.cons_inv
  obtain ⟨v4, c4, rfl, ⟨n4, rfl, k4⟩, h4⟩ := h3.cons_inv
  obtain ⟨v5, c5, rfl, ⟨n5, rfl, k5⟩, h5⟩ := h4.cons_inv
  obtain ⟨v6, c6, rfl, ⟨n6, rfl, k6⟩, h6⟩ := h5.cons_inv
  obtain ⟨v7, c7, rfl, ⟨n7, rfl, k7⟩, h7⟩ := h6.cons_inv
  obtain ⟨v8, c8, rfl, ⟨n8, rfl, k8⟩, h8⟩ := h7.cons_inv
  obtain ⟨v9, c9, rfl, ⟨n9, rfl, k9⟩, h9⟩ := h8.cons_inv
  obtain ⟨v10, c10, rfl, ⟨n10, rfl, k10⟩, h10⟩ := h9.cons_inv
  obtain ⟨v11, c11, rfl, ⟨n11, rfl, k11⟩, h11⟩ := h10.cons_inv
  obtain ⟨v12, c12, rfl, ⟨n12, rfl, k12⟩, h12⟩ := h11.cons_inv
  obtain rfl := h12.nil_inv
  exact ⟨⟨n1, n2, n3, n4, n5, n6, n7, n8, n9, n10, n11, n12⟩, ⟨wf_i64 k1, wf_i64 k2, wf_u32 k3, wf_u8 k4, k5, k6, k7, wf_i64 k8, wf_i64 k9, wf_u64 k10, wf_u64 k11, wf_u8 k12⟩, rfl⟩

def enc1 (b : UInt8) : List UInt8 := if b = 0 then [0, 1] else [b]
/-- The code of a key. -/
def encode (l : List UInt8) : List UInt8 := l.flatMap enc1 ++ [0, 0]
theorem enc_take (s : ByteArray) (k : Nat) (h : k < s.size) : (s.data.toList.take (k + 1)).flatMap enc1 = (s.data.toList.take k).flatMap enc1 ++ enc1 s[k] := by
  rw [List.take_succ_eq_append_getElem (by simpa using h), List.flatMap_append]
  simp
  rfl
theorem enc_len (l : List UInt8) : (l.flatMap enc1).length ≤ 2 * l.length := by
  induction l with
  | nil => simp
  | cons b l ih =>
    simp only [List.flatMap_cons, List.length_append, List.length_cons]
    have : (enc1 b).length ≤ 2 := by unfold enc1; split <;> simp
    omega
theorem encode_len (s : ByteArray) (h : s.size ≤ 16) : 2 ≤ (encode s.data.toList).length ∧ (encode s.data.toList).length ≤ 34 := by
  have := enc_len s.data.toList
  have e : s.data.toList.length = s.size := by simp
  unfold encode
  rw [List.length_append]
  simp only [List.length_cons, List.length_nil]
  omega

/-- What an operation is. -/
def isB (r : Req) : Bool :=
  decide (1 ≤ r.deed) && (decide (r.deed ≤ 5) && (decide (r.key.size ≤ 16) && (decide (r.val.size ≤ 32) && (decide (r.old.size ≤ 32) && (!(r.deed == 5) || (decide (0 ≤ r.lim) && decide (r.lim ≤ 4096)))))))

def addOf (d : Int) : Int := if d = 2 then 3 else if d = 3 then 6 else if d = 4 then 3 else 0
def wayOf (r : Req) : Int :=
  if isB r = true then (if r.deed = 5 then 139 else 4 * ((encode r.key.data.toList).length : Int) + 3 + addOf r.deed) else 0
def smallB (n : Int) : Bool := decide (0 ≤ n) && decide (n ≤ 1099511627776)
def boundOf (r : Req) (tries : Int) : Int :=
  if isB r = true ∧ smallB tries = true then (if r.deed = 5 then (36 * r.lim + tries) * wayOf r + 2 else (tries + 1) * wayOf r + 1) else 0
def fairB (r : Req) (p t k m : Int) : Bool :=
  isB r && (smallB p && (smallB t && (smallB k && (smallB m && (decide (t ≤ k + 1) && decide (p ≤ boundOf r t + m))))))
def picksOf (r : Req) (b : Int) : Int :=
  if r.deed < 1 ∨ 5 < r.deed ∨ b < 2 ∨ 4096 < b then 0
  else if r.deed = 5 ∧ 0 ≤ r.lim ∧ r.lim ≤ 4096 then b * (r.lim + 1) else b
/-- The least budget from b on, if there is one among so many. -/
def leastFrom (r : Req) (need : Int) : Nat → Int → Int
  | 0, _ => 0
  | n + 1, b => if need < picksOf r b then b else leastFrom r need n (b + 1)
def enoughOf (r : Req) (t m : Int) : Int :=
  if isB r = true ∧ smallB t = true ∧ smallB m = true then leastFrom r (boundOf r t + m) 4095 2 else 0

theorem way_pos {r : Req} (h : isB r = true) : 1 ≤ wayOf r ∧ wayOf r ≤ 145 := by
  unfold wayOf
  rw [if_pos h]
  split
  · omega
  · have := encode_len r.key (by simp [isB] at h; omega)
    unfold addOf
    split <;> (try split) <;> (try split) <;> omega

theorem req_cells {r : Req} {W : World} {g : Nat} {t : TypeId} (h : Blk W g t r.row.toArray) :
    W.cell? ⟨g, 0, none⟩ = some (.int .i64 r.deed) ∧ W.cell? ⟨g, 1, none⟩ = some (.int .i64 r.ten) ∧ W.cell? ⟨g, 2, none⟩ = some (.int .u32 r.gen) ∧ W.cell? ⟨g, 3, none⟩ = some (.int .u8 r.rig) ∧
    W.cell? ⟨g, 4, none⟩ = some (.string r.key) ∧ W.cell? ⟨g, 5, none⟩ = some (.string r.val) ∧ W.cell? ⟨g, 6, none⟩ = some (.string r.old) ∧ W.cell? ⟨g, 7, none⟩ = some (.int .i64 r.lim) ∧
    W.cell? ⟨g, 8, none⟩ = some (.int .i64 r.tenant) ∧ W.cell? ⟨g, 9, none⟩ = some (.int .u64 r.qk) ∧ W.cell? ⟨g, 10, none⟩ = some (.int .u64 r.qb) ∧ W.cell? ⟨g, 11, none⟩ = some (.int .u8 r.rights) :=
  ⟨h.cell 0, h.cell 1, h.cell 2, h.cell 3, h.cell 4, h.cell 5, h.cell 6, h.cell 7, h.cell 8, h.cell 9, h.cell 10, h.cell 11⟩
/-- A request as it lies in a box. -/
theorem req_box (r : Req) (w : World) (t : TypeId) : Blk (w.alloc (.cells #[.int .i64 r.deed, .int .i64 r.ten, .int .u32 r.gen, .int .u8 r.rig, .string r.key, .string r.val, .string r.old, .int .i64 r.lim, .int .i64 r.tenant, .int .u64 r.qk, .int .u64 r.qb, .int .u8 r.rights] t)) w.heap.size t r.row.toArray := Blk.new _ _ _
theorem below_alloc {W w1 : World} (h : Below W.heap.size W w1) (o : Obj) : Below W.heap.size W (w1.alloc o) := h.alloc h.size o
theorem below_box (w : World) (o : Obj) : Below w.heap.size w (w.alloc o) := (Below.refl _ _).alloc (Nat.le_refl _) _

end Go.Proofs.Ytlmehmmdbdembaa
