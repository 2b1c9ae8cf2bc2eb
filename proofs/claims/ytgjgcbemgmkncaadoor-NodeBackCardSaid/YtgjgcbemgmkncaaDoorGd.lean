/-
  Layer 9: nodes as plain data, and what package node computes of them (no program in sight but the types' numbers).
  Layer 9: walks of the small functions.
  Layer 9: walks of the conditions on the parts of a node.
  Layer 9: rising, refs, all.
  Layer 9: refs, all.
  Layer 9: the kinds of nodes.
  Layer 9: may, Anchor, Right.
  Layer 9: a row of kids behind an interface; row.
  Layer 9: laid.
  Layer 7: the iterator that All returns, for callers that own more (RangeO).
  A held walk of a region that draws its order, where what is held must hold only until one operation has come up (a store that ends it). Over any program.
  An append to a row of one's own: the row that comes back lies in the old block or in a new one. Over any program.
-/
import Derived.Test.YtgjgcbemgmkncaaDoorGc
namespace Go.Proofs.YtgjgcbemgmkncaaDoor
open Go.RowKit Go.Shelf
set_option linter.unusedVariables false
set_option linter.unusedSimpArgs false

/-- A node. -/
structure Nd where
  kind : Int
  code : ByteArray
  value : ByteArray
  path : ByteArray
  bytes : List Nat
  kids : List (Int × Int)
def Nd.v (x : Nd) (Ab : Option Addr) (cb : Nat) (Ak : Option Addr) (ck : Nat) : Value := .agg #[.int .i64 x.kind, .string x.code, .string x.value, .string x.path, .slice Ab x.bytes.length cb, .slice Ak x.kids.length ck]
/-- Its numbers are those of their kinds. -/
structure Nd.wf (x : Nd) : Prop where
  kind : -9223372036854775808 ≤ x.kind ∧ x.kind ≤ 9223372036854775807
  bytes : ∀ b ∈ x.bytes, b < 256
  refs : ∀ r ∈ x.kids, (-9223372036854775808 ≤ r.1 ∧ r.1 ≤ 9223372036854775807) ∧ 0 ≤ r.2 ∧ r.2 ≤ 4294967295
  lb : x.bytes.length ≤ 9223372036854775807
  lk : x.kids.length ≤ 9223372036854775807
  lc : x.code.size ≤ 9223372036854775807
  lv : x.value.size ≤ 9223372036854775807
  lp : x.path.size ≤ 9223372036854775807
/-- V is the node x in the world W. -/
def NdAt (W : World) (x : Nd) (V : Value) : Prop := x.wf ∧ ∃ Ab cb Ak ck, V = x.v Ab cb Ak ck ∧ Reads W W.heap.size 1 Ab x.bytes.length (x.bytes.flatMap nrow) ∧ Reads W W.heap.size 2 Ak x.kids.length (x.kids.flatMap rrow)
theorem NdAt.below {W W' : World} {x : Nd} {V : Value} (h : NdAt W x V) (hb : Below W.heap.size W W') : NdAt W' x V := by
  obtain ⟨h0, Ab, cb, Ak, ck, h1, h2, h3⟩ := h
  exact ⟨h0, Ab, cb, Ak, ck, h1, (h2.below hb).more hb.size, (h3.below hb).more hb.size⟩
/-- The table of rooms. -/
def RoomsAt (W : World) : Prop := W.cell? ⟨0, 0, none⟩ = some (.int .i64 0) ∧ W.cell? ⟨0, 1, none⟩ = some (.int .i64 0) ∧ W.cell? ⟨0, 2, none⟩ = some (.int .i64 4) ∧ W.cell? ⟨0, 3, none⟩ = some (.int .i64 16) ∧ W.cell? ⟨0, 4, none⟩ = some (.int .i64 48) ∧ W.cell? ⟨0, 5, none⟩ = some (.int .i64 256)
theorem RoomsAt.lt {W : World} (h : RoomsAt W) : 0 < W.heap.size := World.block_lt_of_cell? W _ h.1
theorem RoomsAt.below {n : Nat} {W W' : World} (h : RoomsAt W) (hb : Below n W W') (hn : 0 < n) : RoomsAt W' := by
  obtain ⟨h0, h1, h2, h3, h4, h5⟩ := h
  exact ⟨(hb.cell hn).trans h0, (hb.cell hn).trans h1, (hb.cell hn).trans h2, (hb.cell hn).trans h3, (hb.cell hn).trans h4, (hb.cell hn).trans h5⟩
theorem RoomsAt.on {W W' : World} (h : RoomsAt W) (hb : Below W.heap.size W W') : RoomsAt W' := h.below hb h.lt

def roomN (k : Int) : Int := if k = 2 then 4 else if k = 3 then 16 else if k = 4 then 48 else if k = 5 then 256 else 0
def ofN (n : Int) : Int × Bool := if n < 0 then (0, false) else if n ≤ 4 then (2, true) else if n ≤ 16 then (3, true) else if n ≤ 48 then (4, true) else if n ≤ 256 then (5, true) else (0, false)
def kidN (r : Int × Int) : Bool := decide (0 ≤ r.1) && decide (r.1 < 4096) && decide (1 ≤ r.2)
def risingN : List Nat → Bool
  | a :: b :: l => decide (a < b) && risingN (b :: l)
  | _ => true
def Nd.leafN (x : Nd) : Bool := decide (x.kind = 1)
def Nd.innerN (x : Nd) : Bool := decide (0 < roomN x.kind)
def Nd.bareN (x : Nd) : Bool := x.code.toList.isEmpty && x.value.toList.isEmpty && decide ((x.path.size : Int) ≤ 34)
def Nd.pairedN (x : Nd) : Bool := decide (x.bytes.length = x.kids.length) && decide (x.kids.length ≤ 256)
def Nd.risingN (x : Nd) : Bool := YtgjgcbemgmkncaaDoor.risingN x.bytes
def Nd.refsN (x : Nd) : Bool := x.kids.all kidN
def Nd.manyN (x : Nd) : Bool := decide (1 < x.kids.length)
def Nd.fitsN (x : Nd) : Bool := decide ((ofN x.kids.length).1 = x.kind)
def Nd.topN (x : Nd) : Bool := decide (x.kind = 5) && x.path.toList.isEmpty
def Nd.emptyN (x : Nd) : Bool := x.path.toList.isEmpty && decide (x.bytes.length = 0) && decide (x.kids.length = 0)
def Nd.isInner (x : Nd) : Bool := x.innerN && x.bareN && x.pairedN && x.risingN && x.refsN
def Nd.isRight (x : Nd) : Bool := x.isInner && x.manyN && x.fitsN
def Nd.isAnchor (x : Nd) : Bool := x.isInner && x.topN
def Nd.may (x : Nd) : Bool := x.isRight || x.isAnchor
end Go.Proofs.YtgjgcbemgmkncaaDoor
namespace Go.Proofs.YtgjgcbemgmkncaaDoor
open Go.RowKit Go.Shelf
set_option linter.unusedVariables false
set_option linter.unusedSimpArgs false

theorem room_n (k : Int) (w : World) (h : RoomsAt w) : Calls Tryd.prog 17 #[.int .i64 k] w (StayEnd (.int .i64 (roomN k)) w) := by
  by_cases h0 : k < 0
  · have e : roomN k = 0 := by unfold roomN; repeat (rw [if_neg (by omega)])
    rw [e]
    clear h e
    go_enter Tryd.func17, Tryd.ntmps17
    go_wp2
    go_ret
    exact ⟨rfl, rfl⟩
  · by_cases h6 : 6 ≤ k
    · have e : roomN k = 0 := by unfold roomN; repeat (rw [if_neg (by omega)])
      have h6b : k ≥ 6 := h6
      rw [e]
      clear h e
      go_enter Tryd.func17, Tryd.ntmps17
      go_wp2
      go_ret
      exact ⟨rfl, rfl⟩
    · have hk : k = 0 ∨ k = 1 ∨ k = 2 ∨ k = 3 ∨ k = 4 ∨ k = 5 := by omega
      obtain ⟨c0, c1, c2, c3, c4, c5⟩ := h
      clear h0 h6
      rcases hk with rfl | rfl | rfl | rfl | rfl | rfl <;>
      · go_enter Tryd.func17, Tryd.ntmps17
        go_wp2
        go_ret
        exact ⟨rfl, rfl⟩
theorem kid_n (r : Int × Int) (w : World) : Calls Tryd.prog 20 #[refV r] w (BoolEnd (kidN r) w) := by
  obtain ⟨s, g⟩ := r
  unfold refV
  dsimp only
  by_cases h0 : 0 ≤ s
  · by_cases h1 : s < 4096
    · by_cases h2 : 1 ≤ g
      · have e : kidN (s, g) = true := by simp [kidN, h0, h1, h2]
        rw [e]; clear e
        go_enter Tryd.func20, Tryd.ntmps20
        go_wp2
        go_ret
        exact ⟨rfl, (Below.refl _ _).alloc (Nat.le_refl _) _⟩
      · have e : kidN (s, g) = false := by simp [kidN, h0, h1, h2]
        rw [e]; clear e
        go_enter Tryd.func20, Tryd.ntmps20
        go_wp2
        go_ret
        exact ⟨rfl, (Below.refl _ _).alloc (Nat.le_refl _) _⟩
    · have e : kidN (s, g) = false := by simp [kidN, h0, h1]
      rw [e]; clear e
      go_enter Tryd.func20, Tryd.ntmps20
      go_wp2
      go_ret
      exact ⟨rfl, (Below.refl _ _).alloc (Nat.le_refl _) _⟩
  · have e : kidN (s, g) = false := by simp [kidN, h0]
    rw [e]; clear e
    go_enter Tryd.func20, Tryd.ntmps20
    go_wp2
    go_ret
    exact ⟨rfl, (Below.refl _ _).alloc (Nat.le_refl _) _⟩
def OfEnd (p : Int × Bool) (w : World) (e : Ending) (w' : World) : Prop := e = .returned (.tuple #[.int .i64 p.1, .bool p.2]) ∧ w' = w
theorem of_n (n : Int) (w : World) (h : RoomsAt w) : Calls Tryd.prog 9 #[.int .i64 n] w (OfEnd (ofN n) w) := by
  have H := Lib.hid h
  clear h
  by_cases h0 : 0 ≤ n
  · have h0' : n ≥ 0 := h0
    go_enter Tryd.func9, Tryd.ntmps9
    go_wp2_with fail
    go_loop [4] (fun k => ∃ j : Nat, 2 ≤ j ∧ j ≤ 6 ∧ k = .int .i64 j ∧ (j = 2 ∨ roomN ((j : Int) - 1) < n)) (fun k => 6 - (intOf k).toNat)
    case atStart => exact ⟨2, by omega, by omega, rfl, .inl rfl⟩
    case round =>
      obtain ⟨j, hj2, hj6, rfl, hlo⟩ := hrel
      by_cases hlt : j ≤ 5
      · have hjc : (j : Int) ≤ 5 := by omega
        have HR := Lib.hid (room_n (j : Int) w H.out)
        obtain ⟨q, hq⟩ : ∃ q, roomN (j : Int) = q := ⟨_, rfl⟩
        rw [hq] at HR
        have HQ := Lib.hid hq
        have HLO := Lib.hid hlo
        clear hq hlo
        by_cases hle : n ≤ q
        · have E : Hid (ofN n = ((j : Int), true)) := Lib.hid (by
            have hq := HQ.out
            have hlo := HLO.out
            have hj : j = 2 ∨ j = 3 ∨ j = 4 ∨ j = 5 := by omega
            unfold roomN at hq hlo
            unfold ofN
            rcases hj with rfl | rfl | rfl | rfl <;> simp at hq hlo <;> subst hq <;> (repeat' split) <;> first | rfl | omega)
          go_wp2_with fail
          refine HR.out.mono ?_
          rintro e w1 ⟨rfl, rfl⟩
          go_wp2
          go_ret2
          rw [E.out]
          exact ⟨rfl, rfl⟩
        · have hgt : q < n := by omega
          have HG : Hid (roomN (((j + 1 : Nat) : Int) - 1) < n) := Lib.hid (by rw [show ((j + 1 : Nat) : Int) - 1 = (j : Int) by omega, HQ.out]; exact hgt)
          go_wp2_with fail
          refine HR.out.mono ?_
          rintro e w1 ⟨rfl, rfl⟩
          go_wp2
          go_round
          case rel => exact ⟨j + 1, by omega, by omega, by go_num, .inr HG.out⟩
          case measure => simp [intOf]; omega
      · obtain rfl : j = 6 := by omega
        have E : Hid (ofN n = (0, false)) := Lib.hid (by
          rcases hlo with h | h
          · omega
          · have : roomN (((6 : Nat) : Int) - 1) = 256 := rfl
            rw [this] at h
            unfold ofN
            rw [if_neg (by omega), if_neg (by omega), if_neg (by omega), if_neg (by omega), if_neg (by omega)])
        have hn : ¬ (((6 : Nat) : Int) ≤ 5) := by omega
        clear hlo
        go_wp2
        go_ret2
        rw [E.out]
        exact ⟨rfl, rfl⟩
  · have h0' : ¬ n ≥ 0 := h0
    have E : Hid (ofN n = (0, false)) := Lib.hid (by unfold ofN; rw [if_pos (by omega)])
    go_enter Tryd.func9, Tryd.ntmps9
    go_wp2_with fail
    go_loop [4] (fun k => k = .int .i64 2) (fun k => 6 - (intOf k).toNat)
    case atStart => rfl
    case round =>
      obtain rfl := hrel
      go_wp2
      go_ret2
      rw [E.out]
      exact ⟨rfl, rfl⟩
end Go.Proofs.YtgjgcbemgmkncaaDoor
namespace Go.Proofs.YtgjgcbemgmkncaaDoor
open Go.RowKit Go.Shelf
set_option linter.unusedVariables false
set_option linter.unusedSimpArgs false

theorem leaf_n (x : Nd) (V : Value) (w : World) (h : NdAt w x V) : Calls Tryd.prog 33 #[V] w (BoolEnd x.leafN w) := by
  obtain ⟨_, Ab, cb, Ak, ck, rfl, _, _⟩ := h
  unfold Nd.v
  go_enter Tryd.func33, Tryd.ntmps33
  go_wp2
  go_ret
  exact ⟨ret_bool (by rw [Bool.eq_iff_iff]; simp [Nd.leafN]; try omega), (Below.refl _ _).alloc (Nat.le_refl _) _⟩
theorem many_n (x : Nd) (V : Value) (w : World) (h : NdAt w x V) : Calls Tryd.prog 36 #[V] w (BoolEnd x.manyN w) := by
  obtain ⟨_, Ab, cb, Ak, ck, rfl, _, _⟩ := h
  unfold Nd.v
  go_enter Tryd.func36, Tryd.ntmps36
  go_wp2
  go_ret
  exact ⟨ret_bool (by rw [Bool.eq_iff_iff]; simp [Nd.manyN]; try omega), (Below.refl _ _).alloc (Nat.le_refl _) _⟩
theorem top_n (x : Nd) (V : Value) (w : World) (h : NdAt w x V) : Calls Tryd.prog 32 #[V] w (BoolEnd x.topN w) := by
  obtain ⟨_, Ab, cb, Ak, ck, rfl, _, _⟩ := h
  unfold Nd.v
  by_cases h1 : x.kind = 5
  · go_enter Tryd.func32, Tryd.ntmps32
    go_wp2
    go_ret
    exact ⟨ret_bool (by rw [Bool.eq_iff_iff]; simp [Nd.topN, h1]; try omega), (Below.refl _ _).alloc (Nat.le_refl _) _⟩
  · go_enter Tryd.func32, Tryd.ntmps32
    go_wp2
    go_ret
    exact ⟨ret_bool (by rw [Bool.eq_iff_iff]; simp [Nd.topN, h1]; try omega), (Below.refl _ _).alloc (Nat.le_refl _) _⟩
theorem bare_n (x : Nd) (V : Value) (w : World) (h : NdAt w x V) : Calls Tryd.prog 43 #[V] w (BoolEnd x.bareN w) := by
  obtain ⟨_, Ab, cb, Ak, ck, rfl, _, _⟩ := h
  unfold Nd.v
  cases hc : x.code.toList.isEmpty with
  | false =>
    go_enter Tryd.func43, Tryd.ntmps43
    go_wp2
    go_ret
    exact ⟨ret_bool (by rw [Bool.eq_iff_iff]; simp [Nd.bareN, hc]; try omega), (Below.refl _ _).alloc (Nat.le_refl _) _⟩
  | true =>
    cases hv : x.value.toList.isEmpty with
    | false =>
      go_enter Tryd.func43, Tryd.ntmps43
      go_wp2
      go_ret
      exact ⟨ret_bool (by rw [Bool.eq_iff_iff]; simp [Nd.bareN, hc, hv]; try omega), (Below.refl _ _).alloc (Nat.le_refl _) _⟩
    | true =>
      go_enter Tryd.func43, Tryd.ntmps43
      go_wp2
      go_ret
      exact ⟨ret_bool (by rw [Bool.eq_iff_iff]; simp [Nd.bareN, hc, hv]; try omega), (Below.refl _ _).alloc (Nat.le_refl _) _⟩
theorem paired_n (x : Nd) (V : Value) (w : World) (h : NdAt w x V) : Calls Tryd.prog 44 #[V] w (BoolEnd x.pairedN w) := by
  obtain ⟨_, Ab, cb, Ak, ck, rfl, _, _⟩ := h
  unfold Nd.v
  by_cases hl : x.bytes.length = x.kids.length
  · have hb : ((x.bytes.length : Int) == (x.kids.length : Int)) = true := by simp [hl]
    have HL := Lib.hid hl
    clear hl
    go_enter Tryd.func44, Tryd.ntmps44
    go_wp2
    go_ret
    exact ⟨ret_bool (by rw [Bool.eq_iff_iff]; simp [Nd.pairedN, HL.out]; try omega), (Below.refl _ _).alloc (Nat.le_refl _) _⟩
  · have hb : ((x.bytes.length : Int) == (x.kids.length : Int)) = false := by simp; omega
    go_enter Tryd.func44, Tryd.ntmps44
    go_wp2
    go_ret
    exact ⟨ret_bool (by rw [Bool.eq_iff_iff]; simp [Nd.pairedN, hl]; try omega), (Below.refl _ _).alloc (Nat.le_refl _) _⟩
theorem empty_n (x : Nd) (V : Value) (w : World) (h : NdAt w x V) : Calls Tryd.prog 35 #[V] w (BoolEnd x.emptyN w) := by
  obtain ⟨_, Ab, cb, Ak, ck, rfl, _, _⟩ := h
  unfold Nd.v
  cases hc : x.path.toList.isEmpty with
  | false =>
    go_enter Tryd.func35, Tryd.ntmps35
    go_wp2
    go_ret
    exact ⟨ret_bool (by rw [Bool.eq_iff_iff]; simp [Nd.emptyN, hc]; try omega), (Below.refl _ _).alloc (Nat.le_refl _) _⟩
  | true =>
    by_cases hl : x.bytes.length = 0
    · have hb : ((x.bytes.length : Int) == 0) = true := by simp [hl]
      have HL := Lib.hid hl
      clear hl
      go_enter Tryd.func35, Tryd.ntmps35
      go_wp2
      go_ret
      exact ⟨ret_bool (by rw [Bool.eq_iff_iff]; simp [Nd.emptyN, hc, HL.out]; try omega), (Below.refl _ _).alloc (Nat.le_refl _) _⟩
    · have hb : ((x.bytes.length : Int) == 0) = false := by rw [beq_eq_false_iff_ne]; omega
      go_enter Tryd.func35, Tryd.ntmps35
      go_wp2
      go_ret
      exact ⟨ret_bool (by rw [Bool.eq_iff_iff]; simp [Nd.emptyN, hc, hl]; try omega), (Below.refl _ _).alloc (Nat.le_refl _) _⟩
theorem inner_n (x : Nd) (V : Value) (w : World) (h : NdAt w x V) (hr : RoomsAt w) : Calls Tryd.prog 42 #[V] w (BoolEnd x.innerN w) := by
  obtain ⟨_, Ab, cb, Ak, ck, rfl, _, _⟩ := h
  unfold Nd.v
  have HR := Lib.hid (room_n x.kind (w.alloc (.cells #[.int .i64 x.kind, .string x.code, .string x.value, .string x.path, .slice Ab x.bytes.length cb, .slice Ak x.kids.length ck] 49)) (hr.on (below_box w _)))
  go_enter Tryd.func42, Tryd.ntmps42
  go_wp2_with fail
  refine HR.out.mono ?_
  rintro e w1 ⟨rfl, rfl⟩
  go_wp2
  go_ret
  exact ⟨ret_bool (by rw [Bool.eq_iff_iff]; simp [Nd.innerN]; try omega), (Below.refl _ _).alloc (Nat.le_refl _) _⟩
theorem fits_n (x : Nd) (V : Value) (w : World) (h : NdAt w x V) (hr : RoomsAt w) : Calls Tryd.prog 37 #[V] w (BoolEnd x.fitsN w) := by
  obtain ⟨_, Ab, cb, Ak, ck, rfl, _, _⟩ := h
  unfold Nd.v
  have HR := Lib.hid (of_n x.kids.length (w.alloc (.cells #[.int .i64 x.kind, .string x.code, .string x.value, .string x.path, .slice Ab x.bytes.length cb, .slice Ak x.kids.length ck] 49)) (hr.on (below_box w _)))
  obtain ⟨p, hp⟩ : ∃ p, ofN x.kids.length = p := ⟨_, rfl⟩
  rw [hp] at HR
  have HP := Lib.hid hp
  clear hp
  go_enter Tryd.func37, Tryd.ntmps37
  go_wp2_with fail
  refine HR.out.mono ?_
  rintro e w1 ⟨rfl, rfl⟩
  go_wp2
  go_ret
  exact ⟨ret_bool (by rw [Nd.fitsN, HP.out, Bool.eq_iff_iff]; simp), (Below.refl _ _).alloc (Nat.le_refl _) _⟩
end Go.Proofs.YtgjgcbemgmkncaaDoor
namespace Go.Proofs.YtgjgcbemgmkncaaDoor
open Go.RowKit Go.Shelf
set_option linter.unusedVariables false
set_option linter.unusedSimpArgs false

theorem rising_iff : ∀ l : List Nat, risingN l = true ↔ ∀ m, (h : m + 1 < l.length) → l[m] < l[m + 1]
  | [] => by simp [risingN]
  | [a] => by simp [risingN]
  | a :: b :: l => by
    have ih := rising_iff (b :: l)
    unfold risingN
    rw [Bool.and_eq_true, ih]
    constructor
    · rintro ⟨h1, h2⟩ m hm
      cases m with
      | zero => simpa using h1
      | succ m => exact h2 m (by simpa using hm)
    · intro h
      exact ⟨by simpa using h 0 (by simp), fun m hm => h (m + 1) (by simpa using hm)⟩
theorem rising_no {l : List Nat} {m : Nat} (h : m + 1 < l.length) (hle : l[m + 1] ≤ l[m]) : risingN l = false := by
  cases hr : risingN l with
  | false => rfl
  | true => have := (rising_iff l).1 hr m h; omega
set_option maxHeartbeats 1600000 in
theorem rising_n (x : Nd) (V : Value) (w : World) (h : NdAt w x V) : Calls Tryd.prog 45 #[V] w (BoolEnd x.risingN w) := by
  obtain ⟨hwf, Ab, cb, Ak, ck, rfl, hb, _⟩ := h
  have hlen := hwf.lb
  have HB := Lib.hid (And.intro hb hwf.bytes)
  obtain ⟨l, hl⟩ : ∃ l, l = x.bytes := ⟨_, rfl⟩
  unfold Nd.v Nd.risingN
  rw [← hl] at HB hlen ⊢
  clear hwf hb hl
  go_enter Tryd.func45, Tryd.ntmps45
  go_wp2_with fail
  have HW0 := Lib.hid (below_box w (.cells #[.int .i64 x.kind, .string x.code, .string x.value, .string x.path, .slice Ab l.length cb, .slice Ak x.kids.length ck] 49))
  have q0 := Blk.new w 49 #[.int .i64 x.kind, .string x.code, .string x.value, .string x.path, .slice Ab l.length cb, .slice Ak x.kids.length ck]
  generalize w.alloc (.cells #[.int .i64 x.kind, .string x.code, .string x.value, .string x.path, .slice Ab l.length cb, .slice Ak x.kids.length ck] 49) = w1 at HW0 q0 ⊢
  have e4 := q0.cell 4
  simp at e4
  clear q0
  go_loopw [3] (fun i wr => ∃ m : Nat, i = .int .i64 ((m : Int) + 1) ∧ (m = 0 ∨ m + 1 ≤ l.length) ∧ (∀ j, j < m → (h : j + 1 < l.length) → l[j] < l[j + 1]) ∧ ∃ n, wr = w1.drewN n) (fun i _ => l.length + 1 - (intOf i).toNat)
  case atStart => exact ⟨0, rfl, .inl rfl, fun j h => by omega, 0, rfl⟩
  case round =>
    obtain ⟨m, rfl, hm, hlo, n, rfl⟩ := hrel
    have HLO := Lib.hid hlo
    clear hlo
    by_cases hlt : m + 1 < l.length
    · obtain ⟨ad, rfl, hab, c1⟩ := byte_at HB.out.1 (k := m + 1) hlt
      obtain ⟨ad', e', _, c0⟩ := byte_at HB.out.1 (k := m) (by omega)
      obtain rfl := Option.some.inj e'
      have d1 : w1.cell? (ad.add (m + 1)) = some (.int .u8 (l[m + 1] : Int)) := (HW0.out.cell (p := ad.add (m + 1)) (by rw [block_of_add]; exact hab)).trans c1
      have d0 : w1.cell? (ad.add m) = some (.int .u8 (l[m] : Int)) := (HW0.out.cell (p := ad.add m) (by rw [block_of_add]; exact hab)).trans c0
      rw [show ad.add (m + 1) = ⟨ad.block, ad.off + (m + 1), none⟩ by simp [Addr.add]] at d1
      have HN := Lib.hid (fun h : l[m + 1] ≤ l[m] => rising_no hlt h)
      have HY : Hid (l[m] < l[m + 1] → ∀ j, j < m + 1 → (h : j + 1 < l.length) → l[j] < l[j + 1]) := Lib.hid (fun hh j hj h => by
        by_cases e : j = m
        · subst e; exact hh
        · exact HLO.out j (by omega) h)
      generalize l[m + 1] = b1 at d1 HN HY
      generalize l[m] = b0 at d0 HN HY
      have i1 : (0 : Int) ≤ (m : Int) + 1 := by omega
      have i2 : ((m : Int) + 1).toNat = m + 1 := by omega
      have i3 : (m : Int) + 1 < (l.length : Int) := by omega
      have i4 : (m : Int) < (l.length : Int) := by omega
      have i5 : (0 : Int) ≤ (m : Int) := by omega
      have sw : IntKind.i64.wrap ((m : Int) + 1 - 1) = (m : Int) := by rw [show (m : Int) + 1 - 1 = (m : Int) by omega]; exact IntWalk.i64_in _ (by omega)
      have sw2 : IntKind.i64.wrap (m : Int) = (m : Int) := IntWalk.i64_in _ (by omega)
      clear c1 c0 e' HLO
      by_cases hle : b1 ≤ b0
      · have hlb : (b1 : Int) ≤ (b0 : Int) := by omega
        have E := Lib.hid (HN.out hle)
        clear HN HY hle
        go_wp2_with fail
        go_quiet (fail)
        go_wp2
        go_ret
        exact ⟨ret_bool E.out.symm, below_drewN (below_drewN HW0.out _) _⟩
      · have hlb : ¬ ((b1 : Int) ≤ (b0 : Int)) := by omega
        have E := Lib.hid (HY.out (by omega))
        clear HN HY hle
        go_wp2_with fail
        go_quiet (fail)
        go_wp2
        go_roundw
        case rel => exact ⟨m + 1, by go_num, .inr (by omega), E.out, _, rfl⟩
        case measure => simp [intOf]; omega
    · have i3 : ¬ ((m : Int) + 1 < (l.length : Int)) := by omega
      have E : Hid (risingN l = true) := Lib.hid ((rising_iff l).2 (fun j hj => HLO.out j (by omega) hj))
      clear HLO
      go_wp2
      go_ret
      exact ⟨ret_bool E.out.symm, below_drewN HW0.out _⟩
end Go.Proofs.YtgjgcbemgmkncaaDoor
namespace Go.Proofs.YtgjgcbemgmkncaaDoor
open Go.RowKit Go.Shelf
set_option linter.unusedVariables false
set_option linter.unusedSimpArgs false

theorem ref_at {w : World} {B k : Nat} {A : Option Addr} {l : List (Int × Int)} (h : Reads w B 2 A l.length (l.flatMap rrow)) (hk : k < l.length) : ∃ ad, A = some ad ∧ ad.block < B ∧ w.cell? (ad.add (k * 2)) = some (.int .i64 (l[k]).1) ∧ w.cell? (ad.add (k * 2 + 1)) = some (.int .u32 (l[k]).2) := by
  obtain ⟨ad, e, hb, hc⟩ := h.2 (by omega)
  obtain ⟨h1, h2⟩ := flatR_at l k l[k] (by simp [hk])
  exact ⟨ad, e, hb, hc _ _ h1, hc _ _ h2⟩
theorem refs1_n (r : Int × Int) (w : World) : Calls Tryd.prog 50 #[refV r] w (BoolEnd (!(kidN r)) w) := by
  have HK := Lib.hid (kid_n r (w.alloc (.cells #[.int .i64 r.1, .int .u32 r.2] 35)))
  unfold refV at HK ⊢
  go_enter Tryd.func50, Tryd.ntmps50
  go_wp2_with fail
  refine HK.out.mono ?_
  rintro e w1 ⟨rfl, hb⟩
  have HB := Lib.hid ((below_box w (.cells #[.int .i64 r.1, .int .u32 r.2] 35)).trans (hb.mono (by simp)))
  clear hb HK
  go_wp2
  go_ret
  exact ⟨rfl, HB.out⟩
def IxEnd (found : Bool) (w : World) (e : Ending) (w' : World) : Prop := ∃ i : Int, e = .returned (.int .i64 i) ∧ (decide (0 ≤ i) = found) ∧ Below w.heap.size w w'
set_option maxHeartbeats 1600000 in
theorem ixrefs_n (l : List (Int × Int)) (A : Option Addr) (c : Nat) (w : World) (hA : Reads w w.heap.size 2 A l.length (l.flatMap rrow)) (hl : l.length ≤ 9223372036854775807) : Calls Tryd.prog 52 #[.slice A l.length c, .func (.func 50) #[] #[]] w (IxEnd (!(l.all kidN)) w) := by
  have HA := Lib.hid hA
  clear hA
  go_enter Tryd.func52, Tryd.ntmps52
  go_wp2_with fail
  go_loopw [8] (fun i wr => ∃ k : Nat, k ≤ l.length ∧ i = .int .i64 k ∧ Hid ((∀ j, j < k → (h : j < l.length) → kidN l[j] = true) ∧ Below w.heap.size w wr)) (fun i _ => l.length - (intOf i).toNat)
  case atStart => exact ⟨0, Nat.zero_le _, rfl, Lib.hid ⟨fun j h => by omega, Below.refl _ _⟩⟩
  case round =>
    obtain ⟨k, hk, rfl, HW⟩ := hrel
    by_cases hlt : k < l.length
    · obtain ⟨ad, rfl, hab, c0, c1⟩ := ref_at HA.out hlt
      have d0 : wr.cell? (ad.add (k * 2)) = some (.int .i64 (l[k]).1) := (HW.out.2.cell (p := ad.add (k * 2)) (by rw [block_of_add]; exact hab)).trans c0
      have d1 : wr.cell? (ad.add (k * 2 + 1)) = some (.int .u32 (l[k]).2) := (HW.out.2.cell (p := ad.add (k * 2 + 1)) (by rw [block_of_add]; exact hab)).trans c1
      have d1a : wr.cell? ⟨(ad.add (k * 2)).block, (ad.add (k * 2)).off + 1, none⟩ = some (.int .u32 (l[k]).2) := by
        rw [← d1, block_of_add]; congr 1; simp [Addr.add]; split <;> simp_all <;> omega
      have d1b : wr.cell? ⟨ad.block, (ad.add (k * 2)).off + 1, none⟩ = some (.int .u32 (l[k]).2) := by rw [block_of_add] at d1a; exact d1a
      have HR := Lib.hid (refs1_n l[k] wr)
      have HN : Hid (kidN l[k] = false → l.all kidN = false) := Lib.hid (fun h => by
        rw [List.all_eq_false]; exact ⟨l[k], List.getElem_mem hlt, by simp [h]⟩)
      have HY : Hid (kidN l[k] = true → ∀ j, j < k + 1 → (h : j < l.length) → kidN l[j] = true) := Lib.hid (fun hh j hj h => by
        by_cases e : j = k
        · subst e; exact hh
        · exact HW.out.1 j (by omega) h)
      generalize l[k] = r at d0 d1 d1a d1b HR HN HY
      have i1 : (0 : Int) ≤ (k : Int) := by omega
      have i2 : (k : Int) < (l.length : Int) := by omega
      have i3 : k < l.length := hlt
      clear c0 c1
      unfold refV at HR
      cases hkd : kidN r with
      | false =>
        rw [hkd] at HR
        have E := Lib.hid (HN.out hkd)
        clear HN HY hkd
        go_wp2_with fail
        refine HR.out.mono ?_
        rintro e w1 ⟨rfl, hb⟩
        have HB := Lib.hid (HW.out.2.trans (hb.mono HW.out.2.size))
        clear hb HR
        go_wp2
        go_ret
        exact ⟨_, rfl, by rw [E.out]; simp, HB.out⟩
      | true =>
        rw [hkd] at HR
        have E := Lib.hid (HY.out hkd)
        clear HN HY hkd
        go_wp2_with fail
        refine HR.out.mono ?_
        rintro e w1 ⟨rfl, hb⟩
        have HB := Lib.hid (And.intro E.out (HW.out.2.trans (hb.mono HW.out.2.size)))
        clear hb HR
        go_wp2
        go_roundw
        case rel => exact ⟨k + 1, by omega, by go_num, HB⟩
        case measure => simp [intOf]; omega
    · have i2 : ¬ ((k : Int) < (l.length : Int)) := by omega
      have E : Hid (l.all kidN = true) := Lib.hid (by
        rw [List.all_eq_true]
        intro r hr
        obtain ⟨j, hj, rfl⟩ := List.getElem_of_mem hr
        exact HW.out.1 j (by omega) hj)
      go_wp2
      go_ret
      exact ⟨_, rfl, by rw [E.out]; rfl, HW.out.2⟩
theorem crefs_n (l : List (Int × Int)) (A : Option Addr) (c : Nat) (w : World) (hA : Reads w w.heap.size 2 A l.length (l.flatMap rrow)) (hl : l.length ≤ 9223372036854775807) : Calls Tryd.prog 49 #[.slice A l.length c, .func (.func 50) #[] #[]] w (BoolEnd (!(l.all kidN)) w) := by
  have HI := Lib.hid (ixrefs_n l A c w hA hl)
  clear hA
  generalize (!(l.all kidN)) = b at HI ⊢
  go_enter Tryd.func49, Tryd.ntmps49
  go_wp2_with fail
  refine HI.out.mono ?_
  rintro e w1 ⟨i, rfl, hi, hb⟩
  have H := Lib.hid (And.intro hi hb)
  clear hi hb HI
  go_wp2
  go_ret
  exact ⟨ret_bool (by rw [← H.out.1]), H.out.2⟩
theorem refs_n (x : Nd) (V : Value) (w : World) (h : NdAt w x V) : Calls Tryd.prog 46 #[V] w (BoolEnd x.refsN w) := by
  obtain ⟨hwf, Ab, cb, Ak, ck, rfl, _, hk⟩ := h
  unfold Nd.v
  have HC := Lib.hid (crefs_n x.kids Ak ck (w.alloc (.cells #[.int .i64 x.kind, .string x.code, .string x.value, .string x.path, .slice Ab x.bytes.length cb, .slice Ak x.kids.length ck] 49)) ((hk.below (below_box w _)).more (by simp)) hwf.lk)
  clear hwf hk
  obtain ⟨b, hb⟩ : ∃ b, x.kids.all kidN = b := ⟨_, rfl⟩
  have E : Hid (x.refsN = b) := Lib.hid hb
  rw [hb] at HC
  clear hb
  go_enter Tryd.func46, Tryd.ntmps46
  go_wp2_with fail
  refine HC.out.mono ?_
  rintro e w1 ⟨rfl, hb⟩
  have HB := Lib.hid ((below_box w (.cells #[.int .i64 x.kind, .string x.code, .string x.value, .string x.path, .slice Ab x.bytes.length cb, .slice Ak x.kids.length ck] 49)).trans (hb.mono (by simp)))
  clear hb HC
  go_wp2
  go_ret
  exact ⟨ret_bool (by rw [E.out]; first | done | simp), HB.out⟩

/-! ### all -/
/-- The conditions fs, asked of one value, answer bs (each is asked only where those ahead of it answered yes). -/
def Asks (fs : List Nat) (bs : List Bool) (pv : Value) (P : World → Prop) : Prop :=
  fs.length = bs.length ∧ (∀ f ∈ fs, ∀ args w, (callFunc f args).run Tryd.prog w = .ok (.enter f args) w) ∧ (∀ W W', P W → Below W.heap.size W W' → P W') ∧ ∀ (i f : Nat) (b : Bool), fs[i]? = some f → bs[i]? = some b → (∀ j : Nat, j < i → bs[j]? = some true) → ∀ W, P W → Calls Tryd.prog f #[pv] W (BoolEnd b W)
def closV (pv : Value) (f : Nat) : Value := .func (.func f) #[pv] #[]
theorem notc_n (f : Nat) (pv : Value) (b : Bool) (w : World) (h : Calls Tryd.prog f #[pv] w (BoolEnd b w)) (hf : ∀ args w, (callFunc f args).run Tryd.prog w = .ok (.enter f args) w) : Calls Tryd.prog 41 #[closV pv f] w (BoolEnd (!b) w) := by
  have H := Lib.hid h
  clear h
  unfold closV
  go_enter Tryd.func41, Tryd.ntmps41
  go_wp2_with fail
  refine H.out.mono ?_
  rintro e w1 ⟨rfl, hb⟩
  have HB := Lib.hid hb
  clear hb H hf
  go_wp2
  go_ret
  exact ⟨rfl, HB.out⟩
theorem all_true {bs : List Bool} : bs.all id = true ↔ ∀ j : Nat, j < bs.length → bs[j]? = some true := by
  rw [List.all_eq_true]
  constructor
  · intro h j hj
    have := h bs[j] (List.getElem_mem hj)
    simp at this
    rw [List.getElem?_eq_getElem hj, this]
  · intro h b hb
    obtain ⟨j, hj, rfl⟩ := List.getElem_of_mem hb
    have := h j hj
    rw [List.getElem?_eq_getElem hj] at this
    simpa using this
set_option maxHeartbeats 1600000 in
theorem ixall_n (fs : List Nat) (bs : List Bool) (pv : Value) (P : World → Prop) (hA : Asks fs bs pv P) (s c : Nat) (w : World) (hw : P w) (hs : Blk w s 23 (fs.map (closV pv)).toArray) (hl : fs.length ≤ 9223372036854775807) : Calls Tryd.prog 48 #[.slice (some ⟨s, 0, none⟩) fs.length c, .func (.func 41) #[] #[]] w (IxEnd (!(bs.all id)) w) := by
  have H := Lib.hid (And.intro hA (And.intro hw hs))
  clear hA hw hs
  go_enter Tryd.func48, Tryd.ntmps48
  go_wp2_with fail
  go_loopw [8] (fun i wr => ∃ k : Nat, k ≤ fs.length ∧ i = .int .i64 k ∧ Hid ((∀ j : Nat, j < k → bs[j]? = some true) ∧ P wr ∧ Below w.heap.size w wr)) (fun i _ => fs.length - (intOf i).toNat)
  case atStart => exact ⟨0, Nat.zero_le _, rfl, Lib.hid ⟨fun j h => by omega, H.out.2.1, Below.refl _ _⟩⟩
  case round =>
    obtain ⟨k, hk, rfl, HW⟩ := hrel
    by_cases hlt : k < fs.length
    · obtain ⟨hlen, hent, hst, hask⟩ := H.out.1
      have hbk : bs[k]? = some (bs[k]'(by omega)) := List.getElem?_eq_getElem (by omega)
      have d0 : wr.cell? ⟨s, k, none⟩ = some (closV pv fs[k]) := by
        rw [(H.out.2.2.below HW.out.2.2 H.out.2.2.lt).cell k, List.getElem?_toArray, List.getElem?_map, List.getElem?_eq_getElem hlt]
        rfl
      have HR := Lib.hid (notc_n fs[k] pv _ wr (hask k fs[k] _ (List.getElem?_eq_getElem hlt) hbk HW.out.1 wr HW.out.2.1) (hent fs[k] (List.getElem_mem hlt)))
      have HST := Lib.hid hst
      have HLEN := Lib.hid hlen
      generalize bs[k]'(by omega) = b at hbk HR
      generalize fs[k] = f at d0 HR
      have HBK := Lib.hid hbk
      have i1 : (0 : Int) ≤ (k : Int) := by omega
      have i2 : (k : Int) < (fs.length : Int) := by omega
      have i3 : k < fs.length := hlt
      clear hask hent hst hlen hbk
      unfold closV at d0 HR
      cases b with
      | false =>
        have E : Hid (bs.all id = false) := Lib.hid (by
          rw [← Bool.not_eq_true]
          intro h
          have := (all_true.1 h) k (by have := HLEN.out; omega)
          rw [HBK.out] at this
          simp at this)
        go_wp2_with fail
        refine HR.out.mono ?_
        rintro e w1 ⟨rfl, hb⟩
        have HB := Lib.hid (HW.out.2.2.trans (hb.mono HW.out.2.2.size))
        clear hb HR
        go_wp2
        go_ret
        exact ⟨_, rfl, by rw [E.out]; simp, HB.out⟩
      | true =>
        have E : Hid (∀ j : Nat, j < k + 1 → bs[j]? = some true) := Lib.hid (fun j hj => by
          by_cases e : j = k
          · subst e; exact HBK.out
          · exact HW.out.1 j (by omega))
        go_wp2_with fail
        refine HR.out.mono ?_
        rintro e w1 ⟨rfl, hb⟩
        have HB := Lib.hid (And.intro E.out (And.intro (HST.out _ _ HW.out.2.1 hb) (HW.out.2.2.trans (hb.mono HW.out.2.2.size))))
        clear hb HR
        go_wp2
        go_roundw
        case rel => exact ⟨k + 1, by omega, by go_num, HB⟩
        case measure => simp [intOf]; omega
    · have i2 : ¬ ((k : Int) < (fs.length : Int)) := by omega
      have E : Hid (bs.all id = true) := Lib.hid (all_true.2 fun j hj => HW.out.1 j (by have := H.out.1.1; omega))
      go_wp2
      go_ret
      exact ⟨_, rfl, by rw [E.out]; rfl, HW.out.2.2⟩
theorem all_n (fs : List Nat) (bs : List Bool) (pv : Value) (P : World → Prop) (hA : Asks fs bs pv P) (s c : Nat) (w : World) (hw : P w) (hs : Blk w s 23 (fs.map (closV pv)).toArray) (hl : fs.length ≤ 9223372036854775807) : Calls Tryd.prog 30 #[.slice (some ⟨s, 0, none⟩) fs.length c] w (BoolEnd (bs.all id) w) := by
  have HI := Lib.hid (ixall_n fs bs pv P hA s c w hw hs hl)
  clear hA hw hs
  generalize bs.all id = b at HI ⊢
  have HC : Hid (Calls Tryd.prog 40 #[.slice (some ⟨s, 0, none⟩) fs.length c, .func (.func 41) #[] #[]] w (BoolEnd (!b) w)) := Lib.hid (by
    go_enter Tryd.func40, Tryd.ntmps40
    go_wp2_with fail
    refine HI.out.mono ?_
    rintro e w1 ⟨i, rfl, hi, hb⟩
    have H := Lib.hid (And.intro hi hb)
    clear hi hb HI
    go_wp2
    go_ret
    exact ⟨ret_bool (by rw [← H.out.1]), H.out.2⟩)
  clear HI
  go_enter Tryd.func30, Tryd.ntmps30
  go_wp2_with fail
  refine HC.out.mono ?_
  rintro e w1 ⟨rfl, hb⟩
  have HB := Lib.hid hb
  clear hb HC
  go_wp2
  go_ret
  exact ⟨ret_bool (by simp), HB.out⟩
end Go.Proofs.YtgjgcbemgmkncaaDoor
namespace Go.Proofs.YtgjgcbemgmkncaaDoor
open Go.RowKit Go.Shelf
set_option linter.unusedVariables false
set_option linter.unusedSimpArgs false

def NdP (x : Nd) (V : Value) (W : World) : Prop := NdAt W x V ∧ RoomsAt W
theorem ndP_on (x : Nd) (V : Value) (W W' : World) (h : NdP x V W) (hb : Below W.heap.size W W') : NdP x V W' := ⟨h.1.below hb, h.2.on hb⟩
theorem isInner_asks (x : Nd) (V : Value) : Asks [42, 43, 44, 45, 46] [x.innerN, x.bareN, x.pairedN, x.risingN, x.refsN] V (NdP x V) := by
  refine ⟨rfl, ?_, ndP_on x V, ?_⟩
  · intro f hf
    simp only [List.mem_cons, List.not_mem_nil, or_false] at hf
    rcases hf with rfl | rfl | rfl | rfl | rfl <;> first | exact enters_of Tryd.func42 (by kernel_rfl) rfl | exact enters_of Tryd.func43 (by kernel_rfl) rfl | exact enters_of Tryd.func44 (by kernel_rfl) rfl | exact enters_of Tryd.func45 (by kernel_rfl) rfl | exact enters_of Tryd.func46 (by kernel_rfl) rfl
  · intro i f b hf hb hj W hW
    rcases i with _ | _ | _ | _ | _ | i
    · obtain rfl := Option.some.inj hf; obtain rfl := Option.some.inj hb; exact inner_n x V W hW.1 hW.2
    · obtain rfl := Option.some.inj hf; obtain rfl := Option.some.inj hb; exact bare_n x V W hW.1
    · obtain rfl := Option.some.inj hf; obtain rfl := Option.some.inj hb; exact paired_n x V W hW.1
    · obtain rfl := Option.some.inj hf; obtain rfl := Option.some.inj hb; exact rising_n x V W hW.1
    · obtain rfl := Option.some.inj hf; obtain rfl := Option.some.inj hb; exact refs_n x V W hW.1
    · cases hf
set_option maxHeartbeats 1600000 in
theorem isInner_n (x : Nd) (V : Value) (w : World) (h : NdAt w x V) (hr : RoomsAt w) : Calls Tryd.prog 31 #[V] w (BoolEnd x.isInner w) := by
  have h' := h
  obtain ⟨hwf, Ab, cb, Ak, ck, rfl, _, _⟩ := h'
  have b1 := below_box w (.cells #[.int .i64 x.kind, .string x.code, .string x.value, .string x.path, .slice Ab x.bytes.length cb, .slice Ak x.kids.length ck] 49)
  have b2 := b1.alloc b1.size (.cells #[.func (.func 42) #[.agg #[.int .i64 x.kind, .string x.code, .string x.value, .string x.path, .slice Ab x.bytes.length cb, .slice Ak x.kids.length ck]] #[], .func (.func 43) #[.agg #[.int .i64 x.kind, .string x.code, .string x.value, .string x.path, .slice Ab x.bytes.length cb, .slice Ak x.kids.length ck]] #[], .func (.func 44) #[.agg #[.int .i64 x.kind, .string x.code, .string x.value, .string x.path, .slice Ab x.bytes.length cb, .slice Ak x.kids.length ck]] #[], .func (.func 45) #[.agg #[.int .i64 x.kind, .string x.code, .string x.value, .string x.path, .slice Ab x.bytes.length cb, .slice Ak x.kids.length ck]] #[], .func (.func 46) #[.agg #[.int .i64 x.kind, .string x.code, .string x.value, .string x.path, .slice Ab x.bytes.length cb, .slice Ak x.kids.length ck]] #[]] 23)
  have HA := Lib.hid (all_n _ _ _ _ (isInner_asks x (x.v Ab cb Ak ck)) (w.heap.size + 1) 5 _ (ndP_on x _ w _ ⟨h, hr⟩ b2) (by have k := Blk.new (w.alloc (.cells #[.int .i64 x.kind, .string x.code, .string x.value, .string x.path, .slice Ab x.bytes.length cb, .slice Ak x.kids.length ck] 49)) 23 #[.func (.func 42) #[.agg #[.int .i64 x.kind, .string x.code, .string x.value, .string x.path, .slice Ab x.bytes.length cb, .slice Ak x.kids.length ck]] #[], .func (.func 43) #[.agg #[.int .i64 x.kind, .string x.code, .string x.value, .string x.path, .slice Ab x.bytes.length cb, .slice Ak x.kids.length ck]] #[], .func (.func 44) #[.agg #[.int .i64 x.kind, .string x.code, .string x.value, .string x.path, .slice Ab x.bytes.length cb, .slice Ak x.kids.length ck]] #[], .func (.func 45) #[.agg #[.int .i64 x.kind, .string x.code, .string x.value, .string x.path, .slice Ab x.bytes.length cb, .slice Ak x.kids.length ck]] #[], .func (.func 46) #[.agg #[.int .i64 x.kind, .string x.code, .string x.value, .string x.path, .slice Ab x.bytes.length cb, .slice Ak x.kids.length ck]] #[]]; rw [World.size_alloc] at k; exact k) (by simp))
  have HB := Lib.hid b2
  clear b1 b2 h hr hwf
  unfold Nd.v at HA ⊢
  simp only [List.length_cons, List.length_nil, Nat.zero_add, Nat.reduceAdd] at HA
  go_enter Tryd.func31, Tryd.ntmps31
  go_wp2_with fail
  refine HA.out.mono ?_
  rintro e w1 ⟨rfl, hb⟩
  have HE := Lib.hid (HB.out.trans (hb.mono HB.out.size))
  clear hb HA HB
  go_wp2
  go_ret
  exact ⟨ret_bool (by simp [Nd.isInner, Bool.and_assoc]), HE.out⟩
theorem isRight_asks (x : Nd) (V : Value) : Asks [31, 36, 37] [x.isInner, x.manyN, x.fitsN] V (NdP x V) := by
  refine ⟨rfl, ?_, ndP_on x V, ?_⟩
  · intro f hf
    simp only [List.mem_cons, List.not_mem_nil, or_false] at hf
    rcases hf with rfl | rfl | rfl <;> first | exact enters_of Tryd.func31 (by kernel_rfl) rfl | exact enters_of Tryd.func36 (by kernel_rfl) rfl | exact enters_of Tryd.func37 (by kernel_rfl) rfl
  · intro i f b hf hb hj W hW
    rcases i with _ | _ | _ | i
    · obtain rfl := Option.some.inj hf; obtain rfl := Option.some.inj hb; exact isInner_n x V W hW.1 hW.2
    · obtain rfl := Option.some.inj hf; obtain rfl := Option.some.inj hb; exact many_n x V W hW.1
    · obtain rfl := Option.some.inj hf; obtain rfl := Option.some.inj hb; exact fits_n x V W hW.1 hW.2
    · cases hf
set_option maxHeartbeats 1600000 in
theorem isRight_n (x : Nd) (V : Value) (w : World) (h : NdAt w x V) (hr : RoomsAt w) : Calls Tryd.prog 26 #[V] w (BoolEnd x.isRight w) := by
  have h' := h
  obtain ⟨hwf, Ab, cb, Ak, ck, rfl, _, _⟩ := h'
  have b1 := below_box w (.cells #[.int .i64 x.kind, .string x.code, .string x.value, .string x.path, .slice Ab x.bytes.length cb, .slice Ak x.kids.length ck] 49)
  have b2 := b1.alloc b1.size (.cells #[.func (.func 31) #[.agg #[.int .i64 x.kind, .string x.code, .string x.value, .string x.path, .slice Ab x.bytes.length cb, .slice Ak x.kids.length ck]] #[], .func (.func 36) #[.agg #[.int .i64 x.kind, .string x.code, .string x.value, .string x.path, .slice Ab x.bytes.length cb, .slice Ak x.kids.length ck]] #[], .func (.func 37) #[.agg #[.int .i64 x.kind, .string x.code, .string x.value, .string x.path, .slice Ab x.bytes.length cb, .slice Ak x.kids.length ck]] #[]] 23)
  have HA := Lib.hid (all_n _ _ _ _ (isRight_asks x (x.v Ab cb Ak ck)) (w.heap.size + 1) 3 _ (ndP_on x _ w _ ⟨h, hr⟩ b2) (by have k := Blk.new (w.alloc (.cells #[.int .i64 x.kind, .string x.code, .string x.value, .string x.path, .slice Ab x.bytes.length cb, .slice Ak x.kids.length ck] 49)) 23 #[.func (.func 31) #[.agg #[.int .i64 x.kind, .string x.code, .string x.value, .string x.path, .slice Ab x.bytes.length cb, .slice Ak x.kids.length ck]] #[], .func (.func 36) #[.agg #[.int .i64 x.kind, .string x.code, .string x.value, .string x.path, .slice Ab x.bytes.length cb, .slice Ak x.kids.length ck]] #[], .func (.func 37) #[.agg #[.int .i64 x.kind, .string x.code, .string x.value, .string x.path, .slice Ab x.bytes.length cb, .slice Ak x.kids.length ck]] #[]]; rw [World.size_alloc] at k; exact k) (by simp))
  have HB := Lib.hid b2
  clear b1 b2 h hr hwf
  unfold Nd.v at HA ⊢
  simp only [List.length_cons, List.length_nil, Nat.zero_add, Nat.reduceAdd] at HA
  go_enter Tryd.func26, Tryd.ntmps26
  go_wp2_with fail
  refine HA.out.mono ?_
  rintro e w1 ⟨rfl, hb⟩
  have HE := Lib.hid (HB.out.trans (hb.mono HB.out.size))
  clear hb HA HB
  go_wp2
  go_ret
  exact ⟨ret_bool (by simp [Nd.isRight, Bool.and_assoc]), HE.out⟩
theorem isAnchor_asks (x : Nd) (V : Value) : Asks [31, 32] [x.isInner, x.topN] V (NdP x V) := by
  refine ⟨rfl, ?_, ndP_on x V, ?_⟩
  · intro f hf
    simp only [List.mem_cons, List.not_mem_nil, or_false] at hf
    rcases hf with rfl | rfl <;> first | exact enters_of Tryd.func31 (by kernel_rfl) rfl | exact enters_of Tryd.func32 (by kernel_rfl) rfl
  · intro i f b hf hb hj W hW
    rcases i with _ | _ | i
    · obtain rfl := Option.some.inj hf; obtain rfl := Option.some.inj hb; exact isInner_n x V W hW.1 hW.2
    · obtain rfl := Option.some.inj hf; obtain rfl := Option.some.inj hb; exact top_n x V W hW.1
    · cases hf
set_option maxHeartbeats 1600000 in
theorem isAnchor_n (x : Nd) (V : Value) (w : World) (h : NdAt w x V) (hr : RoomsAt w) : Calls Tryd.prog 24 #[V] w (BoolEnd x.isAnchor w) := by
  have h' := h
  obtain ⟨hwf, Ab, cb, Ak, ck, rfl, _, _⟩ := h'
  have b1 := below_box w (.cells #[.int .i64 x.kind, .string x.code, .string x.value, .string x.path, .slice Ab x.bytes.length cb, .slice Ak x.kids.length ck] 49)
  have b2 := b1.alloc b1.size (.cells #[.func (.func 31) #[.agg #[.int .i64 x.kind, .string x.code, .string x.value, .string x.path, .slice Ab x.bytes.length cb, .slice Ak x.kids.length ck]] #[], .func (.func 32) #[.agg #[.int .i64 x.kind, .string x.code, .string x.value, .string x.path, .slice Ab x.bytes.length cb, .slice Ak x.kids.length ck]] #[]] 23)
  have HA := Lib.hid (all_n _ _ _ _ (isAnchor_asks x (x.v Ab cb Ak ck)) (w.heap.size + 1) 2 _ (ndP_on x _ w _ ⟨h, hr⟩ b2) (by have k := Blk.new (w.alloc (.cells #[.int .i64 x.kind, .string x.code, .string x.value, .string x.path, .slice Ab x.bytes.length cb, .slice Ak x.kids.length ck] 49)) 23 #[.func (.func 31) #[.agg #[.int .i64 x.kind, .string x.code, .string x.value, .string x.path, .slice Ab x.bytes.length cb, .slice Ak x.kids.length ck]] #[], .func (.func 32) #[.agg #[.int .i64 x.kind, .string x.code, .string x.value, .string x.path, .slice Ab x.bytes.length cb, .slice Ak x.kids.length ck]] #[]]; rw [World.size_alloc] at k; exact k) (by simp))
  have HB := Lib.hid b2
  clear b1 b2 h hr hwf
  unfold Nd.v at HA ⊢
  simp only [List.length_cons, List.length_nil, Nat.zero_add, Nat.reduceAdd] at HA
  go_enter Tryd.func24, Tryd.ntmps24
  go_wp2_with fail
  refine HA.out.mono ?_
  rintro e w1 ⟨rfl, hb⟩
  have HE := Lib.hid (HB.out.trans (hb.mono HB.out.size))
  clear hb HA HB
  go_wp2
  go_ret
  exact ⟨ret_bool (by simp [Nd.isAnchor, Bool.and_assoc]), HE.out⟩
end Go.Proofs.YtgjgcbemgmkncaaDoor
namespace Go.Proofs.YtgjgcbemgmkncaaDoor
open Go.RowKit Go.Shelf
set_option linter.unusedVariables false
set_option linter.unusedSimpArgs false

theorem cells6 {W : World} {g : Nat} {t : TypeId} {v0 v1 v2 v3 v4 v5 : Value} (h : Blk W g t #[v0, v1, v2, v3, v4, v5]) : W.cell? ⟨g, 0, none⟩ = some v0 ∧ W.cell? ⟨g, 1, none⟩ = some v1 ∧ W.cell? ⟨g, 2, none⟩ = some v2 ∧ W.cell? ⟨g, 3, none⟩ = some v3 ∧ W.cell? ⟨g, 4, none⟩ = some v4 ∧ W.cell? ⟨g, 5, none⟩ = some v5 :=
  ⟨h.cell 0, h.cell 1, h.cell 2, h.cell 3, h.cell 4, h.cell 5⟩
set_option maxHeartbeats 1600000 in
theorem may_n (x : Nd) (V : Value) (w : World) (h : NdAt w x V) (hr : RoomsAt w) : Calls Tryd.prog 19 #[V] w (BoolEnd x.may w) := by
  have h' := h
  obtain ⟨hwf, Ab, cb, Ak, ck, rfl, _, _⟩ := h'
  have b1 := below_box w (.cells #[.int .i64 x.kind, .string x.code, .string x.value, .string x.path, .slice Ab x.bytes.length cb, .slice Ak x.kids.length ck] 49)
  have q1 := Blk.new w 49 #[.int .i64 x.kind, .string x.code, .string x.value, .string x.path, .slice Ab x.bytes.length cb, .slice Ak x.kids.length ck]
  have HR := Lib.hid (isRight_n x _ _ (h.below b1) (hr.on b1))
  have HB := Lib.hid (And.intro b1 (And.intro q1 (And.intro h hr)))
  clear b1 q1 h hr hwf
  cases hx : x.isRight with
  | true =>
    rw [hx] at HR
    have E : Hid (x.may = true) := Lib.hid (by unfold Nd.may; rw [hx]; rfl)
    clear hx
    unfold Nd.v at HR HB ⊢
    go_enter Tryd.func19, Tryd.ntmps19
    go_wp2_with fail
    refine HR.out.mono ?_
    rintro e w1 ⟨rfl, hb⟩
    have HE := Lib.hid (HB.out.1.trans (hb.mono HB.out.1.size))
    clear hb HR HB
    go_wp2
    go_ret
    exact ⟨ret_bool (by rw [E.out]), HE.out⟩
  | false =>
    rw [hx] at HR
    have E : Hid (x.may = x.isAnchor) := Lib.hid (by unfold Nd.may; rw [hx]; rfl)
    clear hx
    unfold Nd.v at HR HB ⊢
    go_enter Tryd.func19, Tryd.ntmps19
    go_wp2_with fail
    refine HR.out.mono ?_
    rintro e w1 ⟨rfl, hb⟩
    have hbw := HB.out.1.trans (hb.mono HB.out.1.size)
    have HA := Lib.hid (isAnchor_n x _ w1 (HB.out.2.2.1.below hbw) (HB.out.2.2.2.on hbw))
    unfold Nd.v at HA
    obtain ⟨c0, c1, c2, c3, c4, c5⟩ := cells6 (HB.out.2.1.below hb (by simp))
    have HE := Lib.hid hbw
    clear hb HR HB hbw
    go_wp2_with fail
    refine HA.out.mono ?_
    rintro e w2 ⟨rfl, hb⟩
    have HF := Lib.hid (HE.out.trans (hb.mono HE.out.size))
    clear hb HA HE
    go_wp2
    go_ret
    exact ⟨ret_bool (by rw [E.out]), HF.out⟩
theorem Anchor_n (x : Nd) (V : Value) (w : World) (h : NdAt w x V) (hr : RoomsAt w) : Calls Tryd.prog 10 #[V] w (BoolEnd x.isAnchor w) := by
  have h' := h
  obtain ⟨hwf, Ab, cb, Ak, ck, rfl, _, _⟩ := h'
  have b1 := below_box w (.cells #[.int .i64 x.kind, .string x.code, .string x.value, .string x.path, .slice Ab x.bytes.length cb, .slice Ak x.kids.length ck] 27)
  have HR := Lib.hid (isAnchor_n x _ _ (h.below b1) (hr.on b1))
  have HB := Lib.hid b1
  clear b1 h hr hwf
  unfold Nd.v at HR ⊢
  go_enter Tryd.func10, Tryd.ntmps10
  go_wp2_with fail
  refine HR.out.mono ?_
  rintro e w1 ⟨rfl, hb⟩
  have HE := Lib.hid (HB.out.trans (hb.mono HB.out.size))
  clear hb HR HB
  go_wp2
  go_ret
  exact ⟨rfl, HE.out⟩
theorem isLeaf_asks (x : Nd) (V : Value) (hk : x.kind ≠ 1) : Asks [33, 34, 35] [false, false, false] V (NdP x V) := by
  refine ⟨rfl, ?_, ndP_on x V, ?_⟩
  · intro f hf
    simp only [List.mem_cons, List.not_mem_nil, or_false] at hf
    rcases hf with rfl | rfl | rfl <;> first | exact enters_of Tryd.func33 (by kernel_rfl) rfl | exact enters_of Tryd.func34 (by kernel_rfl) rfl | exact enters_of Tryd.func35 (by kernel_rfl) rfl
  · intro i f b hf hb hj W hW
    rcases i with _ | i
    · obtain rfl := Option.some.inj hf
      obtain rfl := Option.some.inj hb
      have k := leaf_n x V W hW.1
      rw [show x.leafN = false by simp [Nd.leafN, hk]] at k
      exact k
    · have := hj 0 (by omega)
      simp at this
set_option maxHeartbeats 1600000 in
theorem isLeaf_no (x : Nd) (V : Value) (w : World) (h : NdAt w x V) (hr : RoomsAt w) (hk : x.kind ≠ 1) : Calls Tryd.prog 25 #[V] w (BoolEnd false w) := by
  have h' := h
  obtain ⟨hwf, Ab, cb, Ak, ck, rfl, _, _⟩ := h'
  have b1 := below_box w (.cells #[.int .i64 x.kind, .string x.code, .string x.value, .string x.path, .slice Ab x.bytes.length cb, .slice Ak x.kids.length ck] 49)
  have b2 := b1.alloc b1.size (.cells #[.func (.func 33) #[.agg #[.int .i64 x.kind, .string x.code, .string x.value, .string x.path, .slice Ab x.bytes.length cb, .slice Ak x.kids.length ck]] #[], .func (.func 34) #[.agg #[.int .i64 x.kind, .string x.code, .string x.value, .string x.path, .slice Ab x.bytes.length cb, .slice Ak x.kids.length ck]] #[], .func (.func 35) #[.agg #[.int .i64 x.kind, .string x.code, .string x.value, .string x.path, .slice Ab x.bytes.length cb, .slice Ak x.kids.length ck]] #[]] 23)
  have HA := Lib.hid (all_n _ _ _ _ (isLeaf_asks x (x.v Ab cb Ak ck) hk) (w.heap.size + 1) 3 _ (ndP_on x _ w _ ⟨h, hr⟩ b2) (by have k := Blk.new (w.alloc (.cells #[.int .i64 x.kind, .string x.code, .string x.value, .string x.path, .slice Ab x.bytes.length cb, .slice Ak x.kids.length ck] 49)) 23 #[.func (.func 33) #[.agg #[.int .i64 x.kind, .string x.code, .string x.value, .string x.path, .slice Ab x.bytes.length cb, .slice Ak x.kids.length ck]] #[], .func (.func 34) #[.agg #[.int .i64 x.kind, .string x.code, .string x.value, .string x.path, .slice Ab x.bytes.length cb, .slice Ak x.kids.length ck]] #[], .func (.func 35) #[.agg #[.int .i64 x.kind, .string x.code, .string x.value, .string x.path, .slice Ab x.bytes.length cb, .slice Ak x.kids.length ck]] #[]]; rw [World.size_alloc] at k; exact k) (by simp))
  have HB := Lib.hid b2
  clear b1 b2 h hr hwf hk
  unfold Nd.v at HA ⊢
  simp only [List.length_cons, List.length_nil, Nat.zero_add, Nat.reduceAdd] at HA
  go_enter Tryd.func25, Tryd.ntmps25
  go_wp2_with fail
  refine HA.out.mono ?_
  rintro e w1 ⟨rfl, hb⟩
  have HE := Lib.hid (HB.out.trans (hb.mono HB.out.size))
  clear hb HA HB
  go_wp2
  go_ret
  exact ⟨ret_bool (by simp), HE.out⟩
set_option maxHeartbeats 1600000 in
theorem Right_no (x : Nd) (V : Value) (w : World) (h : NdAt w x V) (hr : RoomsAt w) (hk : x.kind ≠ 1) : Calls Tryd.prog 11 #[V] w (BoolEnd x.isRight w) := by
  have h' := h
  obtain ⟨hwf, Ab, cb, Ak, ck, rfl, _, _⟩ := h'
  have b1 := below_box w (.cells #[.int .i64 x.kind, .string x.code, .string x.value, .string x.path, .slice Ab x.bytes.length cb, .slice Ak x.kids.length ck] 27)
  have b2 := b1.alloc b1.size (.cells #[.int .i64 x.kind, .string x.code, .string x.value, .string x.path, .slice Ab x.bytes.length cb, .slice Ak x.kids.length ck] 49)
  have q2 := Blk.new (w.alloc (.cells #[.int .i64 x.kind, .string x.code, .string x.value, .string x.path, .slice Ab x.bytes.length cb, .slice Ak x.kids.length ck] 27)) 49 #[.int .i64 x.kind, .string x.code, .string x.value, .string x.path, .slice Ab x.bytes.length cb, .slice Ak x.kids.length ck]
  have HL := Lib.hid (isLeaf_no x _ _ (h.below b2) (hr.on b2) hk)
  have HB := Lib.hid (And.intro b2 (And.intro q2 (And.intro h hr)))
  clear b1 b2 q2 h hr hwf hk
  unfold Nd.v at HL HB ⊢
  go_enter Tryd.func11, Tryd.ntmps11
  go_wp2_with fail
  refine HL.out.mono ?_
  rintro e w1 ⟨rfl, hb⟩
  have hbw := HB.out.1.trans (hb.mono HB.out.1.size)
  have HA := Lib.hid (isRight_n x _ w1 (HB.out.2.2.1.below hbw) (HB.out.2.2.2.on hbw))
  unfold Nd.v at HA
  obtain ⟨c0, c1, c2, c3, c4, c5⟩ := cells6 (HB.out.2.1.below hb (by simp))
  rw [World.size_alloc] at c0 c1 c2 c3 c4 c5
  have HE := Lib.hid hbw
  clear hb HL HB hbw
  go_wp2_with fail
  refine HA.out.mono ?_
  rintro e w2 ⟨rfl, hb⟩
  have HF := Lib.hid (HE.out.trans (hb.mono HE.out.size))
  clear hb HA HE
  go_wp2
  go_ret
  exact ⟨rfl, HF.out⟩
end Go.Proofs.YtgjgcbemgmkncaaDoor
namespace Go.Proofs.YtgjgcbemgmkncaaDoor
open Go.RowKit Go.Shelf
set_option linter.unusedVariables false
set_option linter.unusedSimpArgs false

/-- The row iv, in the blocks bl: room for so many, and the kids f. -/
def RowAt (W : World) (iv : Value) (room : Int) (f : Kids) (bl : List Nat) : Prop :=
  (∃ g, iv = .iface 67 (.pointer (some ⟨g, 0, none⟩)) ∧ bl = [g] ∧ FewAt W g room f) ∨
  (∃ g gr gu n, iv = .iface 70 (.pointer (some ⟨g, 0, none⟩)) ∧ bl = [g, gr, gu] ∧ room = ((n : Nat) : Int) ∧ ManyAt W g gr gu n f)
/-- Whatever lay in other blocks is as it was. -/
structure Kept (bl : List Nat) (W W' : World) : Prop where
  os : W'.os = W.os
  tape : W'.tape = W.tape
  output : W'.output = W.output
  size : W.heap.size ≤ W'.heap.size
  block : ∀ k, k < W.heap.size → k ∉ bl → W'.heap[k]? = W.heap[k]?
theorem Kept.blk {bl : List Nat} {W W' : World} (h : Kept bl W W') {g : Nat} {t : TypeId} {cs : Array Value} (hb : Blk W g t cs) (hg : g ∉ bl) : Blk W' g t cs := (h.block g hb.lt hg).trans hb
theorem below_kept {n : Nat} {bl : List Nat} {w W W' : World} (hb : Below n w W) (h : Kept bl W W') (hn : n ≤ W.heap.size) (hbl : ∀ b ∈ bl, n ≤ b) : Below n w W' :=
  ⟨h.os.trans hb.os, h.tape.trans hb.tape, h.output.trans hb.output, Nat.le_trans hb.size h.size, fun k hk => (h.block k (Nat.lt_of_lt_of_le hk hn) (fun hm => by have := hbl k hm; omega)).trans (hb.block k hk)⟩
theorem kept_grown {W W' : World} {g : Nat} (h : W.grownBy W' (some g)) : Kept [g] W W' := ⟨h.os, h.tape, h.output, h.size, fun k hk hm => h.block k hk (fun e => by injection e with e; exact hm (by simp [e]))⟩
theorem kept_three {W W' : World} {g gr gu : Nat} (h : Three g gr gu W W') : Kept [g, gr, gu] W W' := ⟨h.os, h.tape, h.output, h.size, fun k hk hm => by simp at hm; exact h.block k hk hm.1 hm.2.1 hm.2.2⟩
theorem RowAt.below {W W' : World} {iv : Value} {room : Int} {f : Kids} {bl : List Nat} (h : RowAt W iv room f bl) (hb : Below W.heap.size W W') : RowAt W' iv room f bl := by
  rcases h with ⟨g, h1, h2, h3⟩ | ⟨g, gr, gu, n, h1, h2, h3, h4⟩
  · exact .inl ⟨g, h1, h2, h3.below hb⟩
  · exact .inr ⟨g, gr, gu, n, h1, h2, h3, h4.below hb⟩
theorem RowAt.lt {W : World} {iv : Value} {room : Int} {f : Kids} {bl : List Nat} (h : RowAt W iv room f bl) : ∀ b ∈ bl, b < W.heap.size := by
  rcases h with ⟨g, h1, rfl, h3⟩ | ⟨g, gr, gu, n, h1, rfl, h3, h4⟩
  · intro b hb; simp at hb; subst hb; exact h3.lt
  · obtain ⟨l1, l2, l3⟩ := h4.lt
    intro b hb; simp at hb; rcases hb with rfl | rfl | rfl <;> assumption
def RowNew (room : Int) (w : World) (e : Ending) (w' : World) : Prop := ∃ iv bl, e = .returned iv ∧ RowAt w' iv room noKids bl ∧ (∀ b ∈ bl, w.heap.size ≤ b) ∧ Below w.heap.size w w'
theorem row_4 (w : World) : Calls Tryd.prog 29 #[.int .i64 4] w (RowNew 4 w) := by
  go_enter Tryd.func29, Tryd.ntmps29
  go_wp2_with fail
  refine (new_4 w).mono ?_
  rintro e w1 ⟨g, rfl, hf, hg, hb⟩
  have H := Lib.hid (And.intro hf (And.intro hg hb))
  clear hf hg hb
  go_wp2
  go_ret
  exact ⟨_, [g], rfl, .inl ⟨g, rfl, rfl, H.out.1⟩, by simpa using H.out.2.1, H.out.2.2⟩
theorem row_16 (w : World) : Calls Tryd.prog 29 #[.int .i64 16] w (RowNew 16 w) := by
  go_enter Tryd.func29, Tryd.ntmps29
  go_wp2_with fail
  refine (new_16 w).mono ?_
  rintro e w1 ⟨g, rfl, hf, hg, hb⟩
  have H := Lib.hid (And.intro hf (And.intro hg hb))
  clear hf hg hb
  go_wp2
  go_ret
  exact ⟨_, [g], rfl, .inl ⟨g, rfl, rfl, H.out.1⟩, by simpa using H.out.2.1, H.out.2.2⟩
theorem row_48 (w : World) : Calls Tryd.prog 29 #[.int .i64 48] w (RowNew 48 w) := by
  go_enter Tryd.func29, Tryd.ntmps29
  go_wp2_with fail
  refine (new_no 48 w (by decide) (by decide)).mono ?_
  rintro e w1 ⟨rfl, rfl⟩
  go_wp2_with fail
  refine (New_m 48 w1 (.inl rfl)).mono ?_
  rintro e w2 ⟨g, gr, gu, rfl, hf, hg, hg2, hg3, hb⟩
  have H := Lib.hid (And.intro hf (And.intro hg (And.intro hg2 (And.intro hg3 hb))))
  clear hf hg hg2 hg3 hb
  go_wp2
  go_ret
  exact ⟨_, [g, gr, gu], rfl, .inr ⟨g, gr, gu, 48, rfl, rfl, rfl, H.out.1⟩, by intro b hb; simp at hb; rcases hb with rfl | rfl | rfl <;> simp [H.out.2.1, H.out.2.2.1, H.out.2.2.2.1], H.out.2.2.2.2⟩
theorem row_256 (w : World) : Calls Tryd.prog 29 #[.int .i64 256] w (RowNew 256 w) := by
  go_enter Tryd.func29, Tryd.ntmps29
  go_wp2_with fail
  refine (new_no 256 w (by decide) (by decide)).mono ?_
  rintro e w1 ⟨rfl, rfl⟩
  go_wp2_with fail
  refine (New_m 256 w1 (.inr rfl)).mono ?_
  rintro e w2 ⟨g, gr, gu, rfl, hf, hg, hg2, hg3, hb⟩
  have H := Lib.hid (And.intro hf (And.intro hg (And.intro hg2 (And.intro hg3 hb))))
  clear hf hg hg2 hg3 hb
  go_wp2
  go_ret
  exact ⟨_, [g, gr, gu], rfl, .inr ⟨g, gr, gu, 256, rfl, rfl, rfl, H.out.1⟩, by intro b hb; simp at hb; rcases hb with rfl | rfl | rfl <;> simp [H.out.2.1, H.out.2.2.1, H.out.2.2.2.1], H.out.2.2.2.2⟩
def roomOk (room : Int) : Prop := room = 4 ∨ room = 16 ∨ room = 48 ∨ room = 256
theorem row_n (room : Int) (h : roomOk room) (w : World) : Calls Tryd.prog 29 #[.int .i64 room] w (RowNew room w) := by
  rcases h with rfl | rfl | rfl | rfl
  · exact row_4 w
  · exact row_16 w
  · exact row_48 w
  · exact row_256 w
/-! ### The interface's methods -/
theorem few_Put_na (g : Nat) (W : World) : (nilAhead 244 67 (.pointer (some ⟨g, 0, none⟩)) "Put").run Tryd.prog W = .ok (some false) W := by kernel_rfl
theorem few_Put_me (g : Nat) (W : World) : (method 244 67 (.pointer (some ⟨g, 0, none⟩)) "Put").run Tryd.prog W = .ok (76, .pointer (some ⟨g, 0, none⟩)) W := by kernel_rfl
theorem few_Turn_na (g : Nat) (W : World) : (nilAhead 244 67 (.pointer (some ⟨g, 0, none⟩)) "Turn").run Tryd.prog W = .ok (some false) W := by kernel_rfl
theorem few_Turn_me (g : Nat) (W : World) : (method 244 67 (.pointer (some ⟨g, 0, none⟩)) "Turn").run Tryd.prog W = .ok (78, .pointer (some ⟨g, 0, none⟩)) W := by kernel_rfl
theorem few_Take_na (g : Nat) (W : World) : (nilAhead 244 67 (.pointer (some ⟨g, 0, none⟩)) "Take").run Tryd.prog W = .ok (some false) W := by kernel_rfl
theorem few_Take_me (g : Nat) (W : World) : (method 244 67 (.pointer (some ⟨g, 0, none⟩)) "Take").run Tryd.prog W = .ok (77, .pointer (some ⟨g, 0, none⟩)) W := by kernel_rfl
theorem few_Find_na (g : Nat) (W : World) : (nilAhead 244 67 (.pointer (some ⟨g, 0, none⟩)) "Find").run Tryd.prog W = .ok (some false) W := by kernel_rfl
theorem few_Find_me (g : Nat) (W : World) : (method 244 67 (.pointer (some ⟨g, 0, none⟩)) "Find").run Tryd.prog W = .ok (73, .pointer (some ⟨g, 0, none⟩)) W := by kernel_rfl
theorem few_All_na (g : Nat) (W : World) : (nilAhead 244 67 (.pointer (some ⟨g, 0, none⟩)) "All").run Tryd.prog W = .ok (some false) W := by kernel_rfl
theorem few_All_me (g : Nat) (W : World) : (method 244 67 (.pointer (some ⟨g, 0, none⟩)) "All").run Tryd.prog W = .ok (72, .pointer (some ⟨g, 0, none⟩)) W := by kernel_rfl
theorem few_Next_na (g : Nat) (W : World) : (nilAhead 244 67 (.pointer (some ⟨g, 0, none⟩)) "Next").run Tryd.prog W = .ok (some false) W := by kernel_rfl
theorem many_Put_na (g : Nat) (W : World) : (nilAhead 244 70 (.pointer (some ⟨g, 0, none⟩)) "Put").run Tryd.prog W = .ok (some false) W := by kernel_rfl
theorem many_Put_me (g : Nat) (W : World) : (method 244 70 (.pointer (some ⟨g, 0, none⟩)) "Put").run Tryd.prog W = .ok (91, .pointer (some ⟨g, 0, none⟩)) W := by kernel_rfl
theorem many_Turn_na (g : Nat) (W : World) : (nilAhead 244 70 (.pointer (some ⟨g, 0, none⟩)) "Turn").run Tryd.prog W = .ok (some false) W := by kernel_rfl
theorem many_Turn_me (g : Nat) (W : World) : (method 244 70 (.pointer (some ⟨g, 0, none⟩)) "Turn").run Tryd.prog W = .ok (93, .pointer (some ⟨g, 0, none⟩)) W := by kernel_rfl
theorem many_Take_na (g : Nat) (W : World) : (nilAhead 244 70 (.pointer (some ⟨g, 0, none⟩)) "Take").run Tryd.prog W = .ok (some false) W := by kernel_rfl
theorem many_Take_me (g : Nat) (W : World) : (method 244 70 (.pointer (some ⟨g, 0, none⟩)) "Take").run Tryd.prog W = .ok (92, .pointer (some ⟨g, 0, none⟩)) W := by kernel_rfl
theorem many_Find_na (g : Nat) (W : World) : (nilAhead 244 70 (.pointer (some ⟨g, 0, none⟩)) "Find").run Tryd.prog W = .ok (some false) W := by kernel_rfl
theorem many_Find_me (g : Nat) (W : World) : (method 244 70 (.pointer (some ⟨g, 0, none⟩)) "Find").run Tryd.prog W = .ok (88, .pointer (some ⟨g, 0, none⟩)) W := by kernel_rfl
theorem many_All_na (g : Nat) (W : World) : (nilAhead 244 70 (.pointer (some ⟨g, 0, none⟩)) "All").run Tryd.prog W = .ok (some false) W := by kernel_rfl
theorem many_All_me (g : Nat) (W : World) : (method 244 70 (.pointer (some ⟨g, 0, none⟩)) "All").run Tryd.prog W = .ok (87, .pointer (some ⟨g, 0, none⟩)) W := by kernel_rfl
theorem many_Next_na (g : Nat) (W : World) : (nilAhead 244 70 (.pointer (some ⟨g, 0, none⟩)) "Next").run Tryd.prog W = .ok (some false) W := by kernel_rfl
/-- A call by the interface leads to a function, which does this. -/
def RowEndI (v : Value) (iv : Value) (room : Int) (f : Kids) (bl : List Nat) (w : World) (e : Ending) (w' : World) : Prop := e = .returned v ∧ RowAt w' iv room f bl ∧ Kept bl w w'
end Go.Proofs.YtgjgcbemgmkncaaDoor
namespace Go.Proofs.YtgjgcbemgmkncaaDoor
open Go.RowKit Go.Shelf
set_option linter.unusedVariables false
set_option linter.unusedSimpArgs false

/-- The kids laid one after the other. -/
def layStep (room : Int) (f : Kids) (p : Nat × (Int × Int)) : Kids := (putK room f p.1 p.2).2
def layK (room : Int) (l : List (Nat × (Int × Int))) : Kids := l.foldl (layStep room) noKids
theorem layK_snoc (room : Int) (l : List (Nat × (Int × Int))) (p : Nat × (Int × Int)) : layK room (l ++ [p]) = layStep room (layK room l) p := by unfold layK; rw [List.foldl_append]; rfl
theorem Kept.trans {bl : List Nat} {W W1 W2 : World} (h : Kept bl W W1) (k : Kept bl W1 W2) : Kept bl W W2 := ⟨k.os.trans h.os, k.tape.trans h.tape, k.output.trans h.output, Nat.le_trans h.size k.size, fun i hi hm => (k.block i (Nat.lt_of_lt_of_le hi h.size) hm).trans (h.block i hi hm)⟩
theorem kept_drew {bl : List Nat} {W W' : World} (h : Kept bl W.drew W') : Kept bl W W' := ⟨h.os, h.tape, h.output, h.size, h.block⟩
def LaidEnd (room : Int) (f : Kids) (w : World) (e : Ending) (w' : World) : Prop := ∃ iv bl, e = .returned iv ∧ RowAt w' iv room f bl ∧ (∀ b ∈ bl, w.heap.size ≤ b) ∧ Below w.heap.size w w'
set_option maxHeartbeats 3200000 in
set_option maxRecDepth 100000 in
theorem laid_n (x : Nd) (V : Value) (room : Int) (w : World) (h : NdAt w x V) (hroom : roomOk room) (hlen : x.bytes.length ≤ x.kids.length) : Calls Tryd.prog 22 #[V, .int .i64 room] w (LaidEnd room (layK room (x.bytes.zip x.kids)) w) := by
  obtain ⟨hwf, Ab, cb, Ak, ck, rfl, hb, hk⟩ := h
  have b1 := below_box w (.cells #[.int .i64 x.kind, .string x.code, .string x.value, .string x.path, .slice Ab x.bytes.length cb, .slice Ak x.kids.length ck] 49)
  have q1 := Blk.new w 49 #[.int .i64 x.kind, .string x.code, .string x.value, .string x.path, .slice Ab x.bytes.length cb, .slice Ak x.kids.length ck]
  have HR := Lib.hid (row_n room hroom (w.alloc (.cells #[.int .i64 x.kind, .string x.code, .string x.value, .string x.path, .slice Ab x.bytes.length cb, .slice Ak x.kids.length ck] 49)))
  have HB := Lib.hid (And.intro b1 (And.intro q1 (And.intro hb (And.intro hk hwf))))
  obtain ⟨lb, hlb⟩ : ∃ lb, lb = x.bytes := ⟨_, rfl⟩
  obtain ⟨lk, hlk⟩ : ∃ lk, lk = x.kids := ⟨_, rfl⟩
  clear b1 q1 hb hk hwf hroom
  unfold Nd.v at HB ⊢
  have HWF := Lib.hid HB.out.2.2.2.2
  go_enter Tryd.func22, Tryd.ntmps22
  go_wp2_with fail
  refine HR.out.mono ?_
  rintro e w1 ⟨iv, bl, rfl, hrow, hbl, hb1⟩
  have hbw := HB.out.1.trans (hb1.mono HB.out.1.size)
  have q1 := HB.out.2.1.below hb1 (by simp)
  have H1 := Lib.hid (And.intro hrow (And.intro hbl (And.intro hbw q1)))
  have e4 := q1.cell 4
  simp at e4
  clear hrow hbl hb1 hbw q1 HR
  go_wp2_with fail
  go_loopw [14] (fun i wr => ∃ k : Nat, k ≤ x.bytes.length ∧ i = .int .i64 k ∧ Hid (RowAt wr iv room (layK room ((x.bytes.zip x.kids).take k)) bl ∧ Below w.heap.size w wr ∧ Kept bl w1 wr)) (fun i _ => x.bytes.length - (intOf i).toNat)
  case atStart => exact ⟨0, Nat.zero_le _, rfl, Lib.hid ⟨H1.out.1, H1.out.2.2.1, ⟨rfl, rfl, rfl, Nat.le_refl _, fun _ _ _ => rfl⟩⟩⟩
  case round =>
    obtain ⟨k, hk, rfl, HW⟩ := hrel
    by_cases hlt : k < x.bytes.length
    · obtain ⟨ad, rfl, hab, c0⟩ := byte_at HB.out.2.2.1 hlt
      obtain ⟨ae, rfl, hae, c1, c2⟩ := ref_at HB.out.2.2.2.1 (k := k) (by omega)
      have d0 : wr.cell? (ad.add k) = some (.int .u8 (x.bytes[k] : Int)) := (HW.out.2.1.cell (p := ad.add k) (by rw [block_of_add]; exact hab)).trans c0
      have d1 : wr.cell? (ae.add (k * 2)) = some (.int .i64 (x.kids[k]).1) := (HW.out.2.1.cell (p := ae.add (k * 2)) (by rw [block_of_add]; exact hae)).trans c1
      have d2 : wr.cell? (ae.add (k * 2 + 1)) = some (.int .u32 (x.kids[k]).2) := (HW.out.2.1.cell (p := ae.add (k * 2 + 1)) (by rw [block_of_add]; exact hae)).trans c2
      have d2a : wr.cell? ⟨(ae.add (k * 2)).block, (ae.add (k * 2)).off + 1, none⟩ = some (.int .u32 (x.kids[k]).2) := by
        rw [← d2, block_of_add]; congr 1; simp [Addr.add]; split <;> simp_all <;> omega
      have d2b : wr.cell? ⟨ae.block, (ae.add (k * 2)).off + 1, none⟩ = some (.int .u32 (x.kids[k]).2) := by rw [block_of_add] at d2a; exact d2a
      have q1 : Blk wr w.heap.size 49 #[.int .i64 x.kind, .string x.code, .string x.value, .string x.path, .slice (some ad) x.bytes.length cb, .slice (some ae) x.kids.length ck] := HW.out.2.2.blk H1.out.2.2.2 (fun hm => by have h1 := H1.out.2.1 _ hm; simp at h1; omega)
      have e5 := q1.cell 5
      simp at e5
      have hmax := HWF.out.lb
      have hb256 := HWF.out.bytes _ (List.getElem_mem hlt)
      have HS : Hid ((x.bytes.zip x.kids).take (k + 1) = (x.bytes.zip x.kids).take k ++ [(x.bytes[k], x.kids[k])]) := Lib.hid (by rw [List.take_succ_eq_append_getElem (by simp; omega)]; simp)
      generalize x.bytes[k] = b at d0 hb256 HS
      generalize x.kids[k] = r at d1 d2 d2a d2b HS
      have i1 : (0 : Int) ≤ (k : Int) := by omega
      have i2 : (k : Int) < (x.bytes.length : Int) := by omega
      have i3 : (k : Int) < (x.kids.length : Int) := by omega
      have i4 : k < x.bytes.length := hlt
      have i5 : k < x.kids.length := by omega
      clear c0 c1 c2 q1 d2
      rcases HW.out.1 with ⟨g, rfl, rfl, hf⟩ | ⟨g, gr, gu, n, rfl, rfl, rfl, hf⟩
      · have HP := Lib.hid (Put_k g room _ b r wr.drew hf.drew hb256)
        have hna := few_Put_na g
        have hme := few_Put_me g
        clear hf
        unfold refV at HP
        go_wp2_with fail
        go_region_with ((refine HP.out.mono ?_; rintro e wn ⟨rfl, hfn, hgn⟩))
        all_goals
          have hkn : Kept [g] wr wn := kept_drew (kept_grown hgn)
          have HN := Lib.hid (And.intro (show RowAt wn _ room _ [g] from .inl ⟨g, rfl, rfl, hfn⟩) (And.intro (below_kept HW.out.2.1 hkn HW.out.2.1.size (fun b hb => by have := H1.out.2.1 b hb; simp at this; omega)) (HW.out.2.2.trans hkn)))
          clear hfn hgn hkn
          go_wp2
          go_roundw
          case rel => exact ⟨k + 1, by omega, by go_num, Lib.hid ⟨by rw [HS.out, layK_snoc]; exact HN.out.1, HN.out.2⟩⟩
          case measure => simp [intOf]; omega
      · have HP := Lib.hid (Put_m g gr gu n _ b r wr.drew hf.drew hb256)
        have hna := many_Put_na g
        have hme := many_Put_me g
        clear hf
        unfold refV at HP
        go_wp2_with fail
        go_region_with ((refine HP.out.mono ?_; rintro e wn ⟨rfl, hfn, hgn⟩))
        all_goals
          have hkn : Kept [g, gr, gu] wr wn := kept_drew (kept_three hgn)
          have HN := Lib.hid (And.intro (show RowAt wn _ (n : Int) _ [g, gr, gu] from .inr ⟨g, gr, gu, n, rfl, rfl, rfl, hfn⟩) (And.intro (below_kept HW.out.2.1 hkn HW.out.2.1.size (fun b hb => by have := H1.out.2.1 b hb; simp at this; omega)) (HW.out.2.2.trans hkn)))
          clear hfn hgn hkn
          go_wp2
          go_roundw
          case rel => exact ⟨k + 1, by omega, by go_num, Lib.hid ⟨by rw [HS.out, layK_snoc]; exact HN.out.1, HN.out.2⟩⟩
          case measure => simp [intOf]; omega
    · obtain rfl : k = x.bytes.length := by omega
      have i2 : ¬ ((x.bytes.length : Int) < (x.bytes.length : Int)) := by omega
      have hfin := HW.out.1
      rw [List.take_of_length_le (by simp; omega)] at hfin
      have HF := Lib.hid hfin
      clear hfin
      go_wp2
      go_ret
      exact ⟨iv, bl, rfl, HF.out, fun b hb => by have := H1.out.2.1 b hb; simp at this; omega, HW.out.2.1⟩
end Go.Proofs.YtgjgcbemgmkncaaDoor
namespace Go.Proofs.YtgjgcbemgmkncaaDoor
open Go.RowKit Go.Shelf
set_option linter.unusedVariables false
set_option linter.unusedSimpArgs false
attribute [local go_sem] Oper.semAt_some

set_option maxHeartbeats 3200000 in
set_option maxRecDepth 100000 in
theorem all_k_stops (Bs g n B0 : Nat) (own : World → Nat → Prop) (room : Int) (f : Kids) (w : World) (hO : Owns w.heap.size own) (hlo : ∀ k, own w k → k < w.heap.size) (hn : 2 ≤ n) (hc : w.cell? ⟨Bs, 0, none⟩ = some (.pointer (some ⟨g, 0, none⟩))) (hf : FewAt w g room f) :
    SeqStopsO Fence.wide n Tryd.prog 79 #[.pointer (some ⟨Bs, 0, none⟩)] encK (KeepsO own) (fun ys => ys = kidsF f) (fun pre => pre <+: kidsF f) 16 w B0 := fun l J Jx W hW hsz hJ hJx hY h0 => by
  have hBs : Bs < w.heap.size := World.block_lt_of_cell? w _ hc
  have hc1 := (hW.cell (p := ⟨Bs, 0, none⟩) hBs).trans hc
  have hf1 := hf.below hW
  obtain ⟨o, ho, hr, rfl, hg⟩ := hf1
  obtain ⟨n0, n1⟩ := few_cells ho.1 hg
  have ht := there_some g o.room W n1
  rw [decide_eq_true ho.2.1] at ht
  have HT := Lib.hid ht
  have HJ := Lib.hid (And.intro hJ (And.intro hJx (And.intro hY h0)))
  have HO := Lib.hid (And.intro ho (And.intro hr hg))
  clear ht hJ hJx hY h0 hg ho hr hf hc n0 n1
  refine callsIn_of_wp Tryd.func79 rfl trivial ?_ rfl
  simp only [Tryd.ntmps79, List.size_toArray, List.length_cons, List.length_nil, Nat.reduceAdd, Nat.reduceSub, Array.replicate_succ, Array.replicate_zero, List.push_toArray, List.append_toArray, List.nil_append, List.cons_append]
  refine wpIn_wide.2 ?_
  go_wp2_with fail
  refine HT.out.mono ?_
  rintro e w1 ⟨rfl, rfl⟩
  clear HT
  have hgl := HO.out.2.2.lt
  have hzb : Blk (w1.alloc (.cells zero49.toArray 80)) w1.heap.size 80 zero49.toArray := Blk.new _ _ _
  have HZ := Lib.hid (show Blk (w1.alloc (.cells #[.int .u8 0, .int .u8 0, .int .u8 0, .int .u8 0, .int .u8 0, .int .u8 0, .int .u8 0, .int .u8 0, .int .u8 0, .int .u8 0, .int .u8 0, .int .u8 0, .int .u8 0, .int .u8 0, .int .u8 0, .int .u8 0, .int .i64 0, .int .u32 0, .int .i64 0, .int .u32 0, .int .i64 0, .int .u32 0, .int .i64 0, .int .u32 0, .int .i64 0, .int .u32 0, .int .i64 0, .int .u32 0, .int .i64 0, .int .u32 0, .int .i64 0, .int .u32 0, .int .i64 0, .int .u32 0, .int .i64 0, .int .u32 0, .int .i64 0, .int .u32 0, .int .i64 0, .int .u32 0, .int .i64 0, .int .u32 0, .int .i64 0, .int .u32 0, .int .i64 0, .int .u32 0, .int .i64 0, .int .u32 0, .int .i64 0] 80)) w1.heap.size 80 zero49.toArray from hzb)
  clear hzb
  go_wp2_with (first
    | (refine wpList_load_mid rfl 80 (.tmp 10) rfl g 0 rfl o.row _ (row_range HO.out.1.1 HO.out.2.2) Tryd.underlying80 rfl (by rw [FewO.row_len HO.out.1.1]; exact infoRow) ?_)
    | (refine wpList_store_row rfl 80 (.tmp 3) (.tmp 11) rfl w1.heap.size o.row zero49 80 rfl rfl HZ.out (by rw [FewO.row_len HO.out.1.1]; rfl) (by rw [FewO.row_len HO.out.1.1]; exact infoRow) (row_one o) ?_
       intro w2 h2
       have c48 : w2.cell? ⟨w1.heap.size, 48, none⟩ = some (.int .i64 o.n) := (h2.out.1.cell 48).trans (by rw [List.getElem?_toArray, FewO.row_at (by decide)]; exact FewO.atN HO.out.1.1)
       have hbW : Below w1.heap.size w1 w2 := (below_box w1 _).grown h2.out.2 (by simp) (fun k e => by cases e; exact Nat.le_refl _)
       have hno : ¬ own w2 w1.heap.size := fun e => by have e1 := hO.back w w2 none _ (Nat.le_refl _) (World.grownBy_of_below (hW.trans (hbW.mono hW.size))) (fun r e => by cases e) e; have := hlo _ e1; have := hW.size; omega
       have HB2 := Lib.hid (And.intro h2.out.1 hno)
       have hJ0 := HJ.out.1 _ _ _ none HJ.out.2.2.2 (World.grownBy_of_below hbW) (fun r e => by cases e)
       clear h2 hbW hno))
  clear c48
  have hBw : w.heap.size ≤ w1.heap.size := hW.size
  refine (wpIn_wide (n := n)).1 ?_
  gi_loopw [14] (fun i wr => ∃ k : Nat, k ≤ o.n ∧ i = .int .i64 k ∧ Hid (J ((kidsF f).take k) wr ∧ Blk wr w1.heap.size 80 o.row.toArray ∧ ¬ own wr w1.heap.size)) (fun i _ => o.n - (intOf i).toNat)
  case atStart => exact ⟨0, Nat.zero_le _, rfl, Lib.hid ⟨hJ0, HB2.out.1, HB2.out.2⟩⟩
  case round =>
    obtain ⟨k, hk, rfl, HW⟩ := hrel
    by_cases hlt : k < o.n
    · have hkl : k < (kidsF f).length := by rw [kidsF_len, ← HO.out.2.1.n]; exact hlt
      obtain ⟨x, hx⟩ : ∃ x, (kidsF f)[k]? = some x := ⟨_, List.getElem?_eq_getElem hkl⟩
      obtain ⟨hxb, hxr⟩ := kid_at HO.out.2.1 hlt hx
      have hln := HO.out.1.1.ln
      have d0 : wr.cell? ⟨w1.heap.size, k, none⟩ = some (.int .u8 (x.1.val : Int)) := (HW.out.2.1.cell k).trans (by rw [List.getElem?_toArray, FewO.row_at (by omega)]; exact FewO.atB HO.out.1.1 hxb)
      have d1 : wr.cell? ⟨w1.heap.size, 16 + k * 2, none⟩ = some (.int .i64 x.2.1) := (HW.out.2.1.cell _).trans (by rw [List.getElem?_toArray, FewO.row_at (by omega)]; exact (FewO.atR HO.out.1.1 hxr).1)
      have d2 : wr.cell? ⟨w1.heap.size, 16 + k * 2 + 1, none⟩ = some (.int .u32 x.2.2) := (HW.out.2.1.cell _).trans (by rw [List.getElem?_toArray, FewO.row_at (by omega)]; exact (FewO.atR HO.out.1.1 hxr).2)
      have i1 : (0 : Int) ≤ (k : Int) := by omega
      have i2 : (k : Int) < (o.n : Int) := by omega
      have i3 : (k : Int) < 16 := by omega
      have hJd : J ((kidsF f).take k) wr.drew := HJ.out.1 _ _ _ none HW.out.1 ⟨rfl, rfl, rfl, Nat.le_refl _, fun _ _ _ => rfl⟩ (fun r e => by cases e)
      have hYd : YieldAt Fence.wide (n - 1) Tryd.prog l (encK x) wr.drew (fun e W' => ∃ b : Bool, e = .returned (.bool b) ∧ Hid ((b = true → J ((kidsF f).take k ++ [x]) W' ∧ KeepsO own wr.drew W') ∧ (b = false → Jx ((kidsF f).take k ++ [x]) W'))) :=
        (HJ.out.2.2.1 _ x wr.drew hJd (by rw [List.length_take]; omega)).mono (fun e W' h => by
          rcases h.2 with ⟨rfl, h1, h2⟩ | ⟨rfl, h1⟩
          · exact ⟨true, rfl, Lib.hid ⟨fun _ => ⟨h1, h2⟩, fun e => by cases e⟩⟩
          · exact ⟨false, rfl, Lib.hid ⟨fun e => by (cases e), fun _ => h1⟩⟩)
      obtain ⟨fn, tmps, assign, body, hy, hR⟩ := hYd
      dsimp only [encK] at hy
      clear hJd
      have hmix : Tryd.prog.follows .mixedOrders = true := by kernel_rfl
      gi_wp2_with (fail)
      have hn1 : 1 ≤ n := by omega
      have HX := Lib.hid hx
      clear hx hxb hxr hln
      gi_region_with_o ((refine hR.mono ?_; rintro e W3 ⟨b, rfl, hP⟩))
      all_goals
        cases b with
        | true =>
          obtain ⟨hJ3, hk3⟩ := hP.out.1 rfl
          have hlb := HW.out.2.1.lt
          have hnd : ¬ own wr.drew w1.heap.size := fun e => HW.out.2.2 (hO.back wr wr.drew none _ (by omega) ⟨rfl, rfl, rfl, Nat.le_refl _, fun _ _ _ => rfl⟩ (fun r e => by cases e) e)
          have HN := Lib.hid (And.intro hJ3 (And.intro (hk3.blk (g := w1.heap.size) (cs := o.row.toArray) HW.out.2.1.drew hnd) (fun e => hnd (hk3.mine _ (by simpa using hlb) e))))
          clear hJ3 hk3 hP hR hy hlb hnd
          gi_wp2
          go_roundw
          case rel =>
            refine ⟨k + 1, by omega, by go_num, Lib.hid ⟨?_, HN.out.2⟩⟩
            have ht : (kidsF f).take (k + 1) = (kidsF f).take k ++ [x] := by rw [List.take_add_one, HX.out]; rfl
            rw [ht]
            exact HN.out.1
          case measure => simp [intOf]; omega
        | false =>
          have hx3 := hP.out.2 rfl
          have HN := Lib.hid hx3
          clear hx3 hP hR hy
          gi_wp2
          refine bodyPost_ret (results_none rfl _ _ _) rfl ?_
          refine ⟨⟨_, rfl⟩, .inr ⟨(kidsF f).take k ++ [x], ?_, HN.out⟩⟩
          have ht : (kidsF f).take (k + 1) = (kidsF f).take k ++ [x] := by rw [List.take_add_one, HX.out]; rfl
          rw [← ht]
          exact List.take_prefix _ _
    · obtain rfl : k = o.n := by omega
      have hfin := HW.out.1
      rw [List.take_of_length_le (by rw [kidsF_len, ← HO.out.2.1.n]; exact Nat.le_refl _)] at hfin
      have HF := Lib.hid hfin
      clear hfin
      gi_wp2
      go_end0
      exact ⟨⟨_, rfl⟩, .inl ⟨_, rfl, HF.out⟩⟩
end Go.Proofs.YtgjgcbemgmkncaaDoor
namespace Go.Proofs.YtgjgcbemgmkncaaDoor
open Go.RowKit Go.Shelf
set_option linter.unusedVariables false

section
variable {P : Program} {md : Region.Mode} {ops : Array Oper} {Q : Exit → Act → World → Prop} {k0 : Nat} {S : World → Prop}
/-- Whatever order is picked: behind every operation S holds as long as number k0 has not come up. -/
def wpAnyL (P : Program) (md : Region.Mode) (ops : Array Oper) (Q : Exit → Act → World → Prop) (k0 : Nat) (S : World → Prop) : Nat → Array Bool → Act → World → Prop
  | 0, listed, a, w => Region.ready md ops listed = [] ∧ Q .normal a w
  | fuel + 1, listed, a, w => (Region.ready md ops listed = [] → Q .normal a w) ∧
    ∀ i ∈ Region.ready md ops listed, wpOp P ops Q i (fun a' w' => ((listed.setIfInBounds i true).getD k0 false = false → S w') ∧ wpAnyL P md ops Q k0 S fuel (listed.setIfInBounds i true) a' w') a w
theorem wpAny_of_L : ∀ (fuel : Nat) (listed : Array Bool) (a : Act) (w : World), wpAnyL P md ops Q k0 S fuel listed a w → wpAny P md ops Q fuel listed a w
  | 0, _, _, _, h => h
  | fuel + 1, _, _, _, h => ⟨h.1, fun i hi => wpOp_mono (fun a' w' k => wpAny_of_L fuel _ a' w' k.2) (h.2 i hi)⟩
/-- Number k waits for number i, over at most so many others. -/
def waitsT (md : Region.Mode) (ops : Array Oper) : Nat → Nat → Nat → Bool
  | 0, _, _ => false
  | n + 1, k, i => match ops[k]? with
    | some o => o.after.any fun e => Region.binds md e && (e.on == i || waitsT md ops n e.on i)
    | none => false
/-- With whatever has come up all has come up that it waits for. -/
def Closed (md : Region.Mode) (ops : Array Oper) (listed : Array Bool) : Prop := ∀ (j : Nat) (o : Oper), ops[j]? = some o → listed.getD j false = true → ∀ e ∈ o.after, Region.binds md e = true → listed.getD e.on false = true
def closedB (md : Region.Mode) (ops : Array Oper) (listed : Array Bool) : Bool := (List.range ops.size).all fun j => match ops[j]? with
  | some o => !(listed.getD j false) || o.after.all fun e => !(Region.binds md e) || listed.getD e.on false
  | none => true
theorem closed_of {listed : Array Bool} (h : closedB md ops listed = true) : Closed md ops listed := by
  intro j o ho hj e he hb
  unfold closedB at h
  have hlt : j < ops.size := (Array.getElem?_eq_some_iff.1 ho).1
  have h1 := List.all_eq_true.1 h j (List.mem_range.2 hlt)
  rw [ho] at h1
  simp only [hj, Bool.not_true, Bool.false_or] at h1
  rw [Array.all_eq_true] at h1
  obtain ⟨m, hm, rfl⟩ := Array.getElem_of_mem he
  have h2 := h1 m hm
  simpa [hb] using h2
theorem waits_listed {listed : Array Bool} (hc : Closed md ops listed) : ∀ (n k i : Nat), waitsT md ops n k i = true → listed.getD k false = true → listed.getD i false = true
  | 0, _, _, h, _ => by cases h
  | n + 1, k, i, h, hk => by
    unfold waitsT at h
    cases ho : ops[k]? with
    | none => rw [ho] at h; cases h
    | some o =>
      rw [ho] at h
      obtain ⟨m, hm, he⟩ := Array.any_eq_true.1 h
      rw [Bool.and_eq_true, Bool.or_eq_true, beq_iff_eq] at he
      have h1 := hc k o ho hk _ (Array.getElem_mem hm) he.1
      rcases he.2 with e | e
      · rw [← e]; exact h1
      · exact waits_listed hc n _ i e h1
theorem waits_ready {listed : Array Bool} (hc : Closed md ops listed) {n k i : Nat} (h : waitsT md ops n k i = true) (hk : k ∈ Region.ready md ops listed) : listed.getD i false = true := by
  cases n with
  | zero => cases h
  | succ n =>
    obtain ⟨_, o, ho, hall⟩ := mem_ready.1 hk
    unfold waitsT at h
    rw [ho] at h
    obtain ⟨m, hm, he⟩ := Array.any_eq_true.1 h
    rw [Bool.and_eq_true, Bool.or_eq_true, beq_iff_eq] at he
    have h1 := hall _ (Array.getElem_mem hm) he.1
    rcases he.2 with e | e
    · rw [← e]; exact h1
    · exact waits_listed hc n _ i e h1
theorem closed_set {listed : Array Bool} (hc : Closed md ops listed) {j : Nat} (hj : j ∈ Region.ready md ops listed) : Closed md ops (listed.setIfInBounds j true) := by
  intro k o ho hk e he hb
  by_cases e1 : j = k
  · subst e1
    obtain ⟨_, o', ho', hall⟩ := mem_ready.1 hj
    rw [ho] at ho'
    injection ho' with ho'
    subst ho'
    exact getD_set_true (hall e he hb)
  · rw [getD_set_ne false e1] at hk
    exact getD_set_true (hc k o ho hk e he hb)
theorem ready_un {listed : Array Bool} {i : Nat} (h : i ∈ Region.ready md ops listed) : listed.getD i false = false := by
  have h0 := (mem_ready.1 h).1
  rcases Nat.lt_or_ge i listed.size with h' | h'
  · simp [h'] at h0 ⊢; exact h0
  · simp [h'] at h0 ⊢
theorem wpAnyL_first {i : Nat} {oi : Oper} {v : Value} (hi : ops[i]? = some oi) (hsel : ∀ (j : Nat) (o : Oper) cs b, ops[j]? = some o → o.op ≠ .select cs b)
    (hQ : ∀ c a w, Q (.panic c) (a.put oi.dst v) w → Q (.panic c) a w) {nw : Nat} (hw0 : waitsT md ops nw k0 i = true) (hne : i ≠ k0) :
    ∀ (fuel : Nat) (listed : Array Bool) (a : Act) (w : World),
      (∀ j oj, ops[j]? = some oj → j ≠ i → listed.getD j true = false → (∀ e ∈ oj.after, Region.binds md e = true → e.on ≠ i) → oi.apart ops oj = true) →
      i ∈ Region.ready md ops listed → YieldsIf P ops S oi v a → S w → Closed md ops listed →
      wpAnyL P md ops Q k0 S fuel (listed.setIfInBounds i true) (a.put oi.dst v) w → wpAnyL P md ops Q k0 S (fuel + 1) listed a w := by
  intro fuel
  induction fuel with
  | zero =>
    intro listed a w _ hr hy hS hcl H
    refine ⟨fun h => (by rw [h] at hr; cases hr), fun j hj => ?_⟩
    by_cases hji : j = i
    · subst hji; exact hy.wpOp hi hS ⟨fun _ => hS, H⟩
    · have := ready_mono hj hji
      rw [H.1] at this
      cases this
  | succ fuel ih =>
    intro listed a w hfree hr hy hS hcl H
    refine ⟨fun h => (by rw [h] at hr; cases hr), fun j hj => ?_⟩
    by_cases hji : j = i
    · subst hji; exact hy.wpOp hi hS ⟨fun _ => hS, H⟩
    · have hun := ready_un hr
      have hjk : j ≠ k0 := fun e => by have := waits_ready hcl hw0 (e ▸ hj); rw [hun] at this; cases this
      have hk : listed.getD k0 false = false := by
        cases hh : listed.getD k0 false with
        | false => rfl
        | true => have := waits_listed hcl nw k0 i hw0 hh; rw [hun] at this; cases this
      have h1 := H.2 j (ready_mono hj hji)
      obtain ⟨hjun, oj, hoj, hall⟩ := mem_ready.1 hj
      have hnot : ∀ e ∈ oj.after, Region.binds md e = true → e.on ≠ i := fun e he hb heq => by
        have h1 := hall e he hb
        have h0 := (mem_ready.1 hr).1
        rw [heq] at h1
        rcases Nat.lt_or_ge i listed.size with h' | h'
        · simp [h'] at h0 h1; rw [h0] at h1; cases h1
        · simp [Array.getElem?_eq_none h'] at h1
      have hkj : ∀ (l : Array Bool) (m : Nat), m ≠ k0 → l.getD k0 false = false → (l.setIfInBounds m true).getD k0 false = false := fun l m hm hl => by
        rw [getD_set_ne false hm]; exact hl
      have h2 := wpOp_putIf hoj (hfree j oj hoj hji hjun hnot) (fun cs b => hsel i oi cs b hi) (fun cs b => hsel j oj cs b hoj) hQ hy h1
      have hfree' : ∀ k ok, ops[k]? = some ok → k ≠ i → (listed.setIfInBounds j true).getD k true = false →
          (∀ e ∈ ok.after, Region.binds md e = true → e.on ≠ i) → oi.apart ops ok = true := fun k ok hk hki hun hno => by
        refine hfree k ok hk hki ?_ hno
        by_cases hjk : j = k
        · subst hjk; exact hjun
        · rw [getD_set_ne true hjk] at hun; exact hun
      refine wpOp_mono (fun a' w' h3 => ?_) h2
      have hS' := h3.2.1 (hkj _ _ hjk (hkj _ _ hne hk))
      refine ⟨fun _ => hS', ih (listed.setIfInBounds j true) a' w' hfree' (ready_mono hr (Ne.symm hji)) h3.1 hS' (closed_set hcl hj) ?_⟩
      rw [Array.setIfInBounds_comm _ _ hji]
      exact h3.2.2
theorem wpAnyL_take {i : Nat} {oi : Oper} {v : Value} {fuel : Nat} {listed : Array Bool} {a : Act} {w : World} (hi : ops[i]? = some oi)
    (hs : Region.noSelect ops = true) (hf : Region.free md ops listed i = true) (hr : (Region.ready md ops listed).contains i = true) (hw0 : (waitsT md ops 6 k0 i && (i != k0) && closedB md ops listed) = true)
    (hQ : ∀ c a w, Q (.panic c) (a.put oi.dst v) w → Q (.panic c) a w) (hy : YieldsIf P ops S oi v a) (hS : S w)
    (h : wpAnyL P md ops Q k0 S fuel (listed.setIfInBounds i true) (a.put oi.dst v) w) : wpAnyL P md ops Q k0 S (fuel + 1) listed a w := by
  simp only [Bool.and_eq_true, bne_iff_ne] at hw0
  exact wpAnyL_first hi (Region.noSelect_spec hs) hQ hw0.1.1 hw0.1.2 fuel listed a w (Region.free_spec hi hf) (by simpa using hr) hy hS (closed_of hw0.2) h
theorem wpAnyL_done {listed : Array Bool} {a : Act} {w : World} (hr : Region.ready md ops listed = []) (h : Q .normal a w) : ∀ fuel, wpAnyL P md ops Q k0 S fuel listed a w
  | 0 => ⟨hr, h⟩
  | _ + 1 => ⟨fun _ => h, by rw [hr]; simp⟩
def AllL (P : Program) (md : Region.Mode) (ops : Array Oper) (Q : Exit → Act → World → Prop) (k0 : Nat) (S : World → Prop) (fuel : Nat) (listed : Array Bool) (a : Act) (w : World) (rs : List Nat) : Prop :=
  ∀ i ∈ rs, wpOp P ops Q i (fun a' w' => ((listed.setIfInBounds i true).getD k0 false = false → S w') ∧ wpAnyL P md ops Q k0 S fuel (listed.setIfInBounds i true) a' w') a w
theorem AllL.nil {fuel : Nat} {listed : Array Bool} {a : Act} {w : World} : AllL P md ops Q k0 S fuel listed a w [] := fun _ h => by cases h
theorem AllL.cons {fuel : Nat} {listed : Array Bool} {a : Act} {w : World} {i : Nat} {o : Oper} {rs : List Nat} (ho : ops[i]? = some o)
    (h : ∀ K' : Act → World → Prop, Shut (∀ a w, ((listed.setIfInBounds i true).getD k0 false = false → S w) → wpAnyL P md ops Q k0 S fuel (listed.setIfInBounds i true) a w → K' a w) → if Region.wanted o (yielded ops a.tmps) = true then Oper.wp P o a w K' Q else K' (a.put o.dst undef) w)
    (hs : AllL P md ops Q k0 S fuel listed a w rs) : AllL P md ops Q k0 S fuel listed a w (i :: rs) := fun j hj => by
  rcases List.mem_cons.1 hj with rfl | hj
  · exact wpOp_step ho (fun K' hK => h K' (fun a w hS hW => hK a w ⟨hS, hW⟩))
  · exact hs j hj
theorem wpAnyL_ready {rs : List Nat} {fuel : Nat} {listed : Array Bool} {a : Act} {w : World} (hr : Region.ready md ops listed = rs) (hne : rs ≠ [])
    (h : AllL P md ops Q k0 S fuel listed a w rs) : wpAnyL P md ops Q k0 S (fuel + 1) listed a w := ⟨fun h0 => absurd (hr ▸ h0) hne, hr ▸ h⟩
/-- The beginning, in a round. -/
theorem wpIn_region_L_round {id m : Nat} {a : Act} {w : World} {ops : List Oper} (l k0 : Nat) (S : World → Prop) (hout : ¬ LetsOut Q) (hm : P.follows .mixedOrders = true) (hd : ops.all (fun o => match o.op with | .defer _ => false | _ => true) = true)
    (h : wpAnyL P .any ops.toArray Q k0 S ops.toArray.size (Array.replicate ops.toArray.size false) a w.drew) : (Code.region id ops.toArray true).wpIn (Fence.wide.inRound l) m P Q a w :=
  wpIn_region_any hm (wpAny_round l m hout (noDefer hd) _ _ _ _ (wpAny_of_L _ _ _ _ h))
/-- .. and outside of one. -/
theorem wp_region_L {id : Nat} {a : Act} {w : World} (k0 : Nat) (S : World → Prop) (hm : P.follows .mixedOrders = true)
    (h : wpAnyL P .any ops Q k0 S ops.size (Array.replicate ops.size false) a w.drew) : (Code.region id ops true).wp P Q a w :=
  wp_region_any hm (wpAny_of_L _ _ _ _ h)
end
end Go.Proofs.YtgjgcbemgmkncaaDoor
namespace Go.Proofs.YtgjgcbemgmkncaaDoor
open Go.RowKit Go.Shelf
set_option linter.unusedVariables false

section
variable {P : Program} (w : World)
theorem append_block (base : Nat) (t ty e : TypeId) (i : TypeInfo) (z : Value) (ht : P.underlying t = some (.slice e)) (hi : P.info? e = some i) (hz : i.zero = some z)
    (hzs : z.cells.size = i.size) (hsz : 0 < i.size)
    (v : Value) (n : Nat) (xs : List Value) (hown : w.ownsRow base e i.size v n xs)
    (a : Addr) (m c : Nat) (news : List Value) (hl : news.length = m * i.size) (hnews : ∀ j u, news[j]? = some u → w.cell? (a.add j) = some u) (h1 : ∀ u ∈ news, u.oneCell' = true) (hm : 0 < m)
    (h63 : n + m ≤ maxLen) (hbytes : (n + m) * i.bytes ≤ 140737488355328) {v' : Value} {w' : World}
    (hr : (Builtin.append_ #[t, t] ty #[v, .slice (some a) m c]).run P w = .ok v' w') : v'.ownBlock = v.ownBlock ∨ v'.ownBlock = some w.heap.size := by
  have hsmall : n + m ≤ 9223372036854775807 := by simp only [maxLen] at h63; omega
  rcases hown.2 with ⟨rfl, rfl⟩ | ⟨g, cap, cur, rfl, hbg, hg, hnc, hcm, hcs, htake⟩
  · have hr2 := run_append_nil (P := P) w t ty e i z ht hi hz a m c news hl hnews (by omega) (by omega) (by have hb := hbytes; simp only [Nat.zero_add] at hb; omega)
    rw [hr] at hr2
    injection hr2 with e1 e2
    subst e1
    exact .inr rfl
  · by_cases hroom : n + m ≤ cap
    · have hfit : n * i.size + news.length ≤ cur.size := by rw [hl, hcs, ← Nat.add_mul]; exact Nat.mul_le_mul_right _ hroom
      have hr2 := run_append_room (P := P) w t ty e i ht hi g n cap cur hg a m c news hl hnews h1 hroom hfit
      rw [hr] at hr2
      injection hr2 with e1 e2
      subst e1
      exact .inl rfl
    · have holds : ∀ j u, xs[j]? = some u → w.cell? ((⟨g, 0, none⟩ : Addr).add j) = some u := hown.cells (g := g) rfl
      have hr2 := run_append_grow (P := P) w t ty e i z ht hi hz ⟨g, 0, none⟩ n cap xs hown.1 holds a m c news hl hnews (by omega) (by omega) (growslice_fits (by omega) hbytes)
      rw [hr] at hr2
      injection hr2 with e1 e2
      subst e1
      exact .inr rfl
/-- The step of a region: what is appended is one element. -/
theorem wp_append_fresh {o : Oper} {a : Act} {K : Act → World → Prop} {Q : Exit → Act → World → Prop} (s x : Operand) (t : TypeId)
    (ho : o.op = .call { callee := .builtin .append, args := #[s, x], argTypes := #[t, t] })
    (base : Nat) (e : TypeId) (i : TypeInfo) (z : Value) (size bytes : Nat) (ht : P.underlying t = some (.slice e)) (hi : P.info? e = some i) (hz : i.zero = some z)
    (hsize : i.size = size) (hby : i.bytes = bytes) (hzs : z.cells.size = size) (hsz : 0 < size)
    (v : Value) (n : Nat) (xs : List Value) (hs : a.eval s = v) (hown : w.ownsRow base e size v n xs)
    (ad : Addr) (m c : Nat) (news : List Value) (hx : a.eval x = .slice (some ad) m c) (hl : news.length = m * size) (hnews : ∀ j u, news[j]? = some u → w.cell? (ad.add j) = some u) (h1 : ∀ u ∈ news, u.oneCell' = true) (hm : 0 < m)
    (h63 : n + m ≤ maxLen) (hbytes : (n + m) * bytes ≤ 140737488355328) (hbase : base ≤ w.heap.size)
    (h : ∀ v' w', w'.ownsRow base e size v' (n + m) (xs ++ news) → w.grownBy w' v.ownBlock → (v'.ownBlock = v.ownBlock ∨ v'.ownBlock = some w.heap.size) → K (a.put o.dst v') w') : o.wp P a w K Q := by
  subst hsize
  subst hby
  obtain ⟨v', w', hr, h2, h3, h4⟩ := run_append_own (P := P) w base t o.type e i z i.size i.bytes ht hi hz rfl rfl hzs hsz v n xs hown ad m c news hl hnews h1 h63 hbytes hbase
  have hb := append_block w base t o.type e i z ht hi hz hzs hsz v n xs hown ad m c news hl hnews h1 hm h63 hbytes hr
  unfold Oper.wp execOp
  simp only [ho, resolve, invoke, builtin, Sem.run_bind, Sem.run_pure, Result.andThen_ok, List.map_toArray, List.map_cons, List.map_nil, hs, hx, hr]
  exact h v' w' h2 h3 hb
end
end Go.Proofs.YtgjgcbemgmkncaaDoor
