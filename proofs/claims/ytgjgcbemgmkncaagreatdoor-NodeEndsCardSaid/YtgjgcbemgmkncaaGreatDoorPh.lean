/-
  The reference of layer 9: the world in which a node is made (no walk).
  The reference of layer 4: Encode.
  The reference of layer 4: Decode, walked.
  What is a code: the program's reader and the reference agree (no walk).
  The reference of layer 9: leaf, Right.
  Layer 8: Len.
  Layer 8: Next.
  Layer 8: Next.
  Layer 9: Next.
  Package node: Rest.
  The law of layer 9: tells is true of every node.
  The law of layer 9: tells is true of every node.
  burgagekit on nodes: LentNode.
  burgagekit on nodes: KeptNode, OverNode.
-/
import Derived.Test.YtgjgcbemgmkncaaGreatDoorPg
import Derived.Test.YtgjgcbemgmkncaaGreatDoorPf
import Derived.Test.YtgjgcbemgmkncaaGreatDoorPb
import Derived.Test.YtgjgcbemgmkncaaGreatDoorPe
namespace Go.Proofs.YtgjgcbemgmkncaaGreatDoor
open Go.RowKit Go.Shelf
set_option linter.unusedVariables false
set_option linter.unusedSimpArgs false

/-- Boxes of a function that makes a node; all lie below lo. -/
structure MkW (w : World) (lo : Nat) (bs : List (Nat × TypeId × Array Value)) (W : World) : Prop where
  below : Below w.heap.size w W
  size : lo ≤ W.heap.size
  wlo : w.heap.size ≤ lo
  blk : ∀ p ∈ bs, p.1 < lo ∧ Blk W p.1 p.2.1 p.2.2
section
variable {w W W' : World} {lo : Nat} {bs : List (Nat × TypeId × Array Value)} {v4 v5 : Value} {l4 : List Nat} {l5 : List (Int × Int)}
theorem MkW.start (w : World) : MkW w w.heap.size [] w := ⟨Below.refl _ _, Nat.le_refl _, Nat.le_refl _, fun p hp => by cases hp⟩
theorem MkW.on (h : MkW w lo bs W) (hb : Below W.heap.size W W') : MkW w lo bs W' :=
  ⟨h.below.trans (hb.mono h.below.size), Nat.le_trans h.size hb.size, h.wlo, fun p hp => ⟨(h.blk p hp).1, (h.blk p hp).2.below hb (h.blk p hp).2.lt⟩⟩
theorem MkW.alloc (h : MkW w lo bs W) (o : Obj) : MkW w lo bs (W.alloc o) := h.on (below_box W o)
theorem MkW.grown (h : MkW w lo bs W) {row : Option Nat} (hg : W.grownBy W' row) (hr : ∀ g, row = some g → lo ≤ g) : MkW w lo bs W' :=
  ⟨h.below.grown hg h.below.size (fun g e => Nat.le_trans h.wlo (hr g e)), Nat.le_trans h.size hg.size, h.wlo, fun p hp => ⟨(h.blk p hp).1, (h.blk p hp).2.grown hg (fun e => by have := hr _ e.symm; have := (h.blk p hp).1; omega)⟩⟩
theorem MkW.push {n : Nat} (h : MkW w n bs W) (hn : W.heap.size = n) (t : TypeId) (cs : Array Value) : MkW w (n + 1) ((n, t, cs) :: bs) (W.alloc (.cells cs t)) := by
  have hb := below_box W (.cells cs t)
  refine ⟨h.below.trans (hb.mono h.below.size), by simp; omega, by have := h.wlo; omega, fun p hp => ?_⟩
  rcases List.mem_cons.1 hp with rfl | hp
  · exact ⟨by dsimp only; omega, blk_newAt hn⟩
  · exact ⟨by have := (h.blk p hp).1; omega, (h.blk p hp).2.alloc _⟩
/-- .. and its two rows. -/
structure MkR (w : World) (lo : Nat) (bs : List (Nat × TypeId × Array Value)) (v4 v5 : Value) (l4 : List Nat) (l5 : List (Int × Int)) (W : World) : Prop where
  base : MkW w lo bs W
  row4 : W.ownsRow lo 5 1 v4 l4.length (l4.flatMap nrow)
  row5 : W.ownsRow lo 29 2 v5 l5.length (l5.flatMap rrow)
theorem MkR.start (h : MkW w lo bs W) : MkR w lo bs (.slice none 0 0) (.slice none 0 0) [] [] W := ⟨h, ⟨rfl, .inl ⟨rfl, rfl⟩⟩, ⟨rfl, .inl ⟨rfl, rfl⟩⟩⟩
theorem MkR.on (h : MkR w lo bs v4 v5 l4 l5 W) (hb : Below W.heap.size W W') : MkR w lo bs v4 v5 l4 l5 W' :=
  ⟨h.base.on hb, ownsRow_below h.row4 hb (Nat.le_refl _), ownsRow_below h.row5 hb (Nat.le_refl _)⟩
theorem MkR.alloc (h : MkR w lo bs v4 v5 l4 l5 W) (o : Obj) : MkR w lo bs v4 v5 l4 l5 (W.alloc o) := h.on (below_box W o)
theorem MkR.drew (h : MkR w lo bs v4 v5 l4 l5 W) : MkR w lo bs v4 v5 l4 l5 W.drew := h.on (Below.refl _ _).drew
theorem MkR.app4 (h : MkR w lo bs v4 v5 l4 l5 W) {v4' : Value} {b : Nat} (ho : W'.ownsRow lo 5 1 v4' (l4.length + 1) (l4.flatMap nrow ++ nrow b)) (hg : W.grownBy W' v4.ownBlock) : MkR w lo bs v4' v5 (l4 ++ [b]) l5 W' :=
  ⟨h.base.grown hg (fun g e => (h.row4.lt g e).1), by
    rw [List.length_append, List.flatMap_append, List.flatMap_singleton]; exact ho, h.row5.kept hg (own_two h.row5 h.row4 (by decide))⟩
theorem MkR.app5 (h : MkR w lo bs v4 v5 l4 l5 W) {v5' : Value} {r : Int × Int} (ho : W'.ownsRow lo 29 2 v5' (l5.length + 1) (l5.flatMap rrow ++ rrow r)) (hg : W.grownBy W' v5.ownBlock) : MkR w lo bs v4 v5' l4 (l5 ++ [r]) W' :=
  ⟨h.base.grown hg (fun g e => (h.row5.lt g e).1), h.row4.kept hg (own_two h.row4 h.row5 (by decide)), by
    rw [List.length_append, List.flatMap_append, List.flatMap_singleton]; exact ho⟩
theorem own_addr {base size n c : Nat} {e : TypeId} {A : Option Addr} {xs : List Value} (h : W.ownsRow base e size (.slice A n c) n xs) : ∀ ad, A = some ad → base ≤ ad.block ∧ ad.block < W.heap.size := by
  intro ad ha
  subst ha
  rcases h.2 with ⟨h0, _⟩ | ⟨g, cap, cur, h0, h1, hg, _⟩
  · cases h0
  · injection h0 with h0
    injection h0 with h0
    subst h0
    exact ⟨h1, (Array.getElem?_eq_some_iff.1 hg).1⟩
theorem MkR.form (h : MkR w lo bs v4 v5 l4 l5 W) : ∃ A1 c1 A2 c2, v4 = .slice A1 l4.length c1 ∧ v5 = .slice A2 l5.length c2 ∧ (∀ ad, A1 = some ad → lo ≤ ad.block) ∧ (∀ ad, A2 = some ad → lo ≤ ad.block) ∧
    Reads W W.heap.size 1 A1 l4.length (l4.flatMap nrow) ∧ Reads W W.heap.size 2 A2 l5.length (l5.flatMap rrow) ∧ l4.length ≤ 9223372036854775807 ∧ l5.length ≤ 9223372036854775807 := by
  obtain ⟨A1, c1, e1, _, n1, m1⟩ := own_form h.row4
  obtain ⟨A2, c2, e2, _, n2, m2⟩ := own_form h.row5
  have r4 := h.row4
  have r5 := h.row5
  rw [e1] at r4
  rw [e2] at r5
  unfold maxLen at m1 m2
  exact ⟨A1, c1, A2, c2, e1, e2, fun ad e => (own_addr r4 ad e).1, fun ad e => (own_addr r5 ad e).1, reads_own r4, reads_own r5, by omega, by omega⟩
end
theorem madeN_wf {x : Nd} (hx : x.wf) {l4 : List Nat} {l5 : List (Int × Int)} (keep : Bool) (hb : ∀ b ∈ l4, b < 256) (hr : ∀ r ∈ l5, refOk r) (h4 : l4.length ≤ 9223372036854775807) (h5 : l5.length ≤ 9223372036854775807) : (madeN x l4 l5 keep).wf := by
  refine ⟨?_, hb, hr, h4, h5, ?_, ?_, hx.lp⟩
  · unfold madeN
    have := ofN_kind (l5.length : Int)
    have := hx.kind
    dsimp only
    split <;> omega
  · show ByteArray.size { data := #[] } ≤ _; simp [ByteArray.size]
  · show ByteArray.size { data := #[] } ≤ _; simp [ByteArray.size]
/-- What is made comes out: the value lies in the result's box. -/
theorem made_out {w W W' : World} {go : Nat} {x : Nd} (hx : x.wf) {l4 : List Nat} {l5 : List (Int × Int)} {A1 A2 : Option Addr} {c1 c2 : Nat} (keep : Bool) (hb : ∀ b ∈ l4, b < 256) (hr : ∀ r ∈ l5, refOk r) (h4 : l4.length ≤ 9223372036854775807) (h5 : l5.length ≤ 9223372036854775807)
    (r1 : Reads W W.heap.size 1 A1 l4.length (l4.flatMap nrow)) (r2 : Reads W W.heap.size 2 A2 l5.length (l5.flatMap rrow)) (a1 : ∀ ad, A1 = some ad → go < ad.block) (a2 : ∀ ad, A2 = some ad → go < ad.block)
    (hg : W.grownBy W' (some go)) (hgo : w.heap.size ≤ go) (hbel : Below w.heap.size w W) :
    NdPair (madeN x l4 l5 keep) 0 w (.returned (.tuple #[(madeN x l4 l5 keep).v A1 c1 A2 c2, .int .i64 0])) W' := by
  refine ⟨_, rfl, ⟨madeN_wf hx keep hb hr h4 h5, A1, c1, A2, c2, rfl, ?_, ?_⟩, hbel.grown hg hbel.size (fun k e => by injection e with e; omega), ?_⟩
  · exact reads_off r1 hg (fun ad e => by have := a1 ad e; omega)
  · exact reads_off r2 hg (fun ad e => by have := a2 ad e; omega)
  · exact rowsOf_v (fun ad e => by have := a1 ad e; omega) (fun ad e => by have := a2 ad e; omega)
end Go.Proofs.YtgjgcbemgmkncaaGreatDoor
namespace Go.Proofs.YtgjgcbemgmkncaaGreatDoor
open Go.RowKit Go.Shelf
set_option linter.unusedVariables false
set_option linter.unusedSimpArgs false

/-- The bytes of an encoded text, its end apart. -/
def encU (l : List UInt8) : List UInt8 := l.flatMap fun b => if b = 0 then [0, 1] else [b]
theorem encU_snoc (l : List UInt8) (b : UInt8) : encU (l ++ [b]) = encU l ++ (if b = 0 then [0, 1] else [b]) := by unfold encU; simp
theorem encU_len : ∀ l : List UInt8, (encU l).length ≤ 2 * l.length
  | [] => Nat.zero_le _
  | b :: l => by
    have ih := encU_len l
    have e : encU (b :: l) = (if b = 0 then [0, 1] else [b]) ++ encU l := List.flatMap_cons ..
    rw [e, List.length_append, List.length_cons]
    split
    · show 2 + _ ≤ _; omega
    · show 1 + _ ≤ _; omega
def bA (l : List UInt8) : ByteArray := ⟨l.toArray⟩
theorem bA_append (a b : List UInt8) : bA a ++ bA b = bA (a ++ b) := by
  apply ByteArray.ext
  rw [ByteArray.data_append]
  simp [bA]
theorem bA_size (a : List UInt8) : (bA a).size = a.length := by simp [bA, ByteArray.size]
theorem one_byte {s : ByteArray} {k : Nat} (h : k < s.size) : s.extract k (k + 1) = bA [s[k]] := by
  apply ByteArray.ext
  rw [ByteArray.data_extract]
  apply Array.toList_inj.1
  have h2 : k < s.data.toList.length := by rw [Array.length_toList]; exact h
  rw [Array.toList_extract, List.extract_eq_take_drop, show k + 1 - k = 1 by omega, List.drop_eq_getElem_cons h2]
  rfl
theorem byte_list {s : ByteArray} {k : Nat} (h : k < s.size) : s.data.toList.take (k + 1) = s.data.toList.take k ++ [s[k]] := by
  have h2 : k < s.data.toList.length := by rw [Array.length_toList]; exact h
  rw [List.take_succ_eq_append_getElem h2]
  rfl
theorem enc_step {s : ByteArray} {k : Nat} (h : k < s.size) : bA (encU (s.data.toList.take (k + 1))) = bA (encU (s.data.toList.take k)) ++ s.extract k (k + 1) ++ bA (if s[k] = 0 then [1] else []) := by
  rw [byte_list h, encU_snoc, one_byte h, bA_append, bA_append]
  split
  · rename_i e; rw [e]; simp
  · simp
theorem u8_zero (b : UInt8) : ((b.toNat : Int) == 0) = decide (b = 0) := by
  by_cases h : b = 0
  · subst h; rfl
  · rw [decide_eq_false h]
    have : b.toNat ≠ 0 := fun e => h (UInt8.toNat_inj.1 e)
    simp [this]
set_option maxHeartbeats 1600000 in
theorem Encode_r (s : ByteArray) (w : World) (hs : s.size ≤ 9223372036854775807) : Calls Tryz.prog 82 #[.string s] w (fun e w' => e = .returned (if 16 < s.size then .tuple #[.string ⟨#[]⟩, .int .i64 3] else .tuple #[.string (bA (encU s.data.toList ++ [0, 0])), .int .i64 0]) ∧ Below w.heap.size w w') := by
  by_cases hl : 16 < s.size
  · rw [if_pos hl]
    have i0 : (s.size : Int) > 16 := by omega
    go_enter Tryz.func82, Tryz.ntmps82
    go_wp2
    go_ret2
    exact ⟨rfl, Below.refl _ _⟩
  · rw [if_neg hl]
    have i0 : ¬ ((s.size : Int) > 16) := by omega
    go_enter Tryz.func82, Tryz.ntmps82
    go_wp2_with fail
    go_loopw [4, 5] (fun v i wr => ∃ k : Nat, k ≤ s.size ∧ i = .int .i64 k ∧ v = .string (bA (encU (s.data.toList.take k))) ∧ Hid (Below w.heap.size w wr)) (fun _ i _ => s.size - (intOf i).toNat)
    case atStart => exact ⟨0, Nat.zero_le _, rfl, rfl, Lib.hid (Below.refl _ _)⟩
    case round =>
      obtain ⟨k, hk, rfl, rfl, HW⟩ := hrel
      by_cases hlt : k < s.size
      · have i1 : (k : Int) < (s.size : Int) := by omega
        have i2 : (0 : Int) ≤ (k : Int) := by omega
        have sw : IntKind.i64.wrap ((k : Int) + 1) = (k : Int) + 1 := IntWalk.i64_in _ (by omega)
        have hst := enc_step hlt
        have hz := u8_zero s[k]
        have hsz : (bA (encU (s.data.toList.take k))).size ≤ 32 := by
          rw [bA_size]
          have := encU_len (s.data.toList.take k)
          have : (s.data.toList.take k).length ≤ k := List.length_take_le ..
          omega
        generalize bA (encU (s.data.toList.take k)) = A at hsz hst ⊢
        have m1 : ¬ (9223372036854775807 < A.size + (min (k + 1) s.size - k)) := by omega
        have m2 : ¬ (9223372036854775807 < A.size + (min (k + 1) s.size - k) + 1) := by omega
        by_cases h0 : s[k] = 0
        · rw [decide_eq_true h0] at hz
          rw [if_pos h0] at hst
          have HST := Lib.hid hst
          clear hst h0 hsz
          go_wp2
          go_roundw
          case rel => exact ⟨k + 1, by omega, by go_num, by rw [HST.out]; rfl, HW⟩
          case measure => simp [intOf]; omega
        · rw [decide_eq_false h0] at hz
          rw [if_neg h0] at hst
          have HST := Lib.hid (hst.trans (ByteArray.append_empty))
          clear hst h0 hsz
          go_wp2
          go_roundw
          case rel => exact ⟨k + 1, by omega, by go_num, by rw [HST.out], HW⟩
          case measure => simp [intOf]; omega
      · obtain rfl : k = s.size := by omega
        have i1 : ¬ ((s.size : Int) < (s.size : Int)) := by omega
        have hall : s.data.toList.take s.size = s.data.toList := List.take_of_length_le (by rw [Array.length_toList]; exact Nat.le_refl _)
        rw [hall]
        have hsz : (bA (encU s.data.toList)).size ≤ 32 := by
          rw [bA_size]
          have := encU_len s.data.toList
          have : s.data.toList.length = s.size := Array.length_toList
          omega
        have HE : Hid (bA (encU s.data.toList) ++ bA [0, 0] = bA (encU s.data.toList ++ [0, 0])) := Lib.hid (bA_append _ _)
        generalize bA (encU s.data.toList) = A at hsz HE ⊢
        have m1 : ¬ (9223372036854775807 < A.size + 2) := by omega
        clear hall
        go_wp2
        go_ret2
        exact ⟨by rw [← HE.out]; rfl, HW.out⟩
end Go.Proofs.YtgjgcbemgmkncaaGreatDoor
namespace Go.Proofs.YtgjgcbemgmkncaaGreatDoor
open Go.RowKit Go.Shelf
set_option linter.unusedVariables false
set_option linter.unusedSimpArgs false

/-- The first bytes without those that were put in. -/
def stripL (L : List UInt8) : Nat → List UInt8
  | 0 => []
  | k + 1 => stripL L k ++ (if 0 < k ∧ L.getD k 0 = 1 ∧ L.getD (k - 1) 0 = 0 then [] else [L.getD k 0])
theorem stripL_len (L : List UInt8) : ∀ k, (stripL L k).length ≤ k
  | 0 => Nat.le_refl _
  | k + 1 => by
    have := stripL_len L k
    unfold stripL
    rw [List.length_append]
    split
    · simp; omega
    · simp; omega
def keyL (s : ByteArray) : List UInt8 := stripL s.data.toList (min s.size 100)
def dec4 (s : ByteArray) : Bool := decide (2 ≤ (keyL s).length) && decide ((keyL s).length - 2 ≤ 16) && decide (encU ((keyL s).take ((keyL s).length - 2)) ++ [0, 0] = s.data.toList)
theorem getD_byte {s : ByteArray} {k : Nat} (h : k < s.size) : s.data.toList.getD k 0 = s[k] := by
  have h2 : k < s.data.toList.length := by rw [Array.length_toList]; exact h
  rw [List.getD_eq_getElem?_getD, List.getElem?_eq_getElem h2]
  rfl
theorem strip_keep {s : ByteArray} {k : Nat} (h : k < s.size) (hn : ¬ (0 < k ∧ s.data.toList.getD k 0 = 1 ∧ s.data.toList.getD (k - 1) 0 = 0)) : bA (stripL s.data.toList k) ++ s.extract k (k + 1) = bA (stripL s.data.toList (k + 1)) := by
  rw [one_byte h, bA_append]
  show _ = bA (stripL s.data.toList k ++ _)
  rw [if_neg hn, getD_byte h]
theorem strip_skip {s : ByteArray} {k : Nat} (hy : 0 < k ∧ s.data.toList.getD k 0 = 1 ∧ s.data.toList.getD (k - 1) 0 = 0) : stripL s.data.toList (k + 1) = stripL s.data.toList k := by
  show stripL s.data.toList k ++ _ = _
  rw [if_pos hy, List.append_nil]
theorem byte_one (b : UInt8) : ((b.toNat : Int) == 1) = decide (b = 1) := by
  by_cases h : b = 1
  · subst h; rfl
  · rw [decide_eq_false h]
    have : b.toNat ≠ 1 := fun e => h (UInt8.toNat_inj.1 e)
    simp [this]
    omega
theorem bA_list (s : ByteArray) : bA s.data.toList = s := rfl
theorem bA_take (a : List UInt8) (n : Nat) : (bA a).extract 0 n = bA (a.take n) := by
  apply ByteArray.ext
  rw [ByteArray.data_extract]
  apply Array.toList_inj.1
  rw [Array.toList_extract, List.extract_eq_take_drop]
  rfl
set_option maxHeartbeats 3200000 in
set_option maxRecDepth 100000 in
theorem Decode_r (s : ByteArray) (w : World) (hs : s.size ≤ 9223372036854775807) : Calls Tryz.prog 69 #[.string s] w (fun e w' => (∃ t c, e = .returned (.tuple #[.string t, .int .i64 c]) ∧ (c = 0 ∧ dec4 s = true ∨ c = 4 ∧ dec4 s = false)) ∧ Below w.heap.size w w') := by
  go_enter Tryz.func69, Tryz.ntmps69
  refine wp_seq_k fun K0 hK => ?_
  have HK0 := Lib.hid hK
  clear hK
  go_wp2_with fail
  refine HK0.out _ _ ?_
  clear HK0
  refine wp_seq_k fun K0 hK => ?_
  have HK0 := Lib.hid hK
  clear hK
  go_wp2_with fail
  refine HK0.out _ _ ?_
  clear HK0
  refine wp_seq_k fun K1 hK => ?_
  have HK1 := Lib.hid hK
  clear hK
  go_wp2_with fail
  go_loopw [4, 5] (fun v i wr => ∃ k : Nat, k ≤ s.size ∧ k ≤ 100 ∧ i = .int .i64 k ∧ v = .string (bA (stripL s.data.toList k)) ∧ Hid (Below w.heap.size w wr)) (fun _ i _ => s.size - (intOf i).toNat)
  case atStart => exact ⟨0, Nat.zero_le _, Nat.zero_le _, rfl, rfl, Lib.hid (Below.refl _ _)⟩
  case round =>
    obtain ⟨k, hk, hk100, rfl, rfl, HW⟩ := hrel
    by_cases hlt : k < s.size ∧ k < 100
    · obtain ⟨hl1, hl2⟩ := hlt
      have i1 : (k : Int) < (s.size : Int) := by omega
      have i2 : (0 : Int) ≤ (k : Int) := by omega
      have i3 : (k : Int) < 100 := by omega
      have i4 : k < 100 := hl2
      have sw : IntKind.i64.wrap ((k : Int) + 1) = (k : Int) + 1 := IntWalk.i64_in _ (by omega)
      have hsz : (bA (stripL s.data.toList k)).size ≤ 100 := by rw [bA_size]; have := stripL_len s.data.toList k; omega
      by_cases hy : 0 < k ∧ s.data.toList.getD k 0 = 1 ∧ s.data.toList.getD (k - 1) 0 = 0
      · have hsk := congrArg bA (strip_skip hy)
        obtain ⟨m, hm⟩ : ∃ m, k = m + 1 := ⟨k - 1, by omega⟩
        have hm2 : k - 1 = m := by omega
        have hmlt : m < s.size := by omega
        have g1 := hy.1
        have g2 := hy.2.1
        have g3 := hy.2.2
        rw [getD_byte hl1] at g2
        rw [hm2, getD_byte hmlt] at g3
        have b1 := byte_one s[k]
        rw [decide_eq_true g2] at b1
        have b2 := u8_zero s[m]
        rw [decide_eq_true g3] at b2
        have sw2 : IntKind.i64.wrap ((k : Int) - 1) = (m : Int) := by rw [IntWalk.i64_in _ (by omega)]; omega
        have j1 : (m : Int) < (s.size : Int) := by omega
        have j2 : (0 : Int) ≤ (m : Int) := by omega
        have j3 : (k : Int) > 0 := by omega
        generalize hA : bA (stripL s.data.toList k) = A at hsz ⊢
        have HST := Lib.hid (hsk.trans hA)
        clear hy g2 g3 hm2 hm hsk hA
        go_wp2
        go_roundw
        case rel => exact ⟨k + 1, by omega, by omega, by go_num, by rw [HST.out], HW⟩
        case measure => simp [intOf]; omega
      · have HST := Lib.hid (strip_keep hl1 hy)
        have b1 := byte_one s[k]
        have hy2 : 0 < k → s[k] = 1 → s.data.toList.getD (k - 1) 0 ≠ 0 := fun h1 h2 h3 => hy ⟨h1, by rw [getD_byte hl1]; exact h2, h3⟩
        generalize bA (stripL s.data.toList k) = A at hsz HST ⊢
        have m1 : ¬ (9223372036854775807 < A.size + (min (k + 1) s.size - k)) := by omega
        by_cases hk0 : k = 0
        · have j3 : ¬ ((k : Int) > 0) := by omega
          have j4 : ¬ (0 < k) := by omega
          clear hy hy2 hk0 hsz b1
          go_wp2
          go_roundw
          case rel => exact ⟨k + 1, by omega, by omega, by go_num, by rw [HST.out], HW⟩
          case measure => simp [intOf]; omega
        · have j3 : (k : Int) > 0 := by omega
          have j4 : 0 < k := by omega
          by_cases hb : s[k] = 1
          · rw [decide_eq_true hb] at b1
            obtain ⟨m, hm⟩ : ∃ m, k = m + 1 := ⟨k - 1, by omega⟩
            have hmlt : m < s.size := by omega
            have g3 := hy2 j4 hb
            rw [show k - 1 = m by omega, getD_byte hmlt] at g3
            have b2 := u8_zero s[m]
            rw [decide_eq_false g3] at b2
            have sw2 : IntKind.i64.wrap ((k : Int) - 1) = (m : Int) := by rw [IntWalk.i64_in _ (by omega)]; omega
            have j1 : (m : Int) < (s.size : Int) := by omega
            have j2 : (0 : Int) ≤ (m : Int) := by omega
            clear hy hy2 hk0 hsz hb g3 hm
            go_wp2
            go_roundw
            case rel => exact ⟨k + 1, by omega, by omega, by go_num, by rw [HST.out], HW⟩
            case measure => simp [intOf]; omega
          · rw [decide_eq_false hb] at b1
            clear hy hy2 hk0 hsz hb
            go_wp2
            go_roundw
            case rel => exact ⟨k + 1, by omega, by omega, by go_num, by rw [HST.out], HW⟩
            case measure => simp [intOf]; omega
    · have hkey : stripL s.data.toList k = keyL s := by unfold keyL; congr 1; omega
      rw [hkey]
      have hn : (keyL s).length ≤ 100 := by have := stripL_len s.data.toList k; rw [hkey] at this; omega
      have hD : Hid (dec4 s = (decide (2 ≤ (keyL s).length) && decide ((keyL s).length - 2 ≤ 16) && decide (encU ((keyL s).take ((keyL s).length - 2)) ++ [0, 0] = s.data.toList))) := Lib.hid rfl
      have hAs : (bA (keyL s)).size = (keyL s).length := bA_size _
      have HKY := Lib.hid hkey
      clear hkey
      generalize keyL s = L at hn hD hAs ⊢
      have hcond : (¬ ((k : Int) < (s.size : Int))) ∨ ((k : Int) < (s.size : Int) ∧ ¬ ((k : Int) < 100)) := by omega
      have HKY2 := HKY
      rcases hcond with i1 | ⟨i1, i3⟩
      · go_wp2_with fail
        refine HK1.out _ _ ?_
        clear HK1 i1
        by_cases h2 : L.length < 2
        · have E : Hid (dec4 s = false) := Lib.hid (by rw [hD.out, decide_eq_false (show ¬ 2 ≤ L.length by omega)]; rfl)
          have s2 : ((bA L).size : Int) < 2 := by omega
          have s3 : (bA L).size < 2 := by omega
          go_wp2
          go_ret2
          exact ⟨⟨_, 4, rfl, .inr ⟨rfl, E.out⟩⟩, HW.out⟩
        · have s2 : ¬ (((bA L).size : Int) < 2) := by omega
          have s3 : ¬ ((bA L).size < 2) := by omega
          have sw2 : IntKind.i64.wrap (((bA L).size : Int) - 2) = ((L.length - 2 : Nat) : Int) := by rw [IntWalk.i64_in _ (by omega)]; omega
          have j1 : (0 : Int) ≤ ((L.length - 2 : Nat) : Int) := by omega
          have j2 : ((L.length - 2 : Nat) : Int) ≤ ((bA L).size : Int) := by omega
          have HTK := Lib.hid (bA_take L (L.length - 2))
          generalize hq : L.length - 2 = q at sw2 j1 j2 HTK
          have j3 : q ≤ (bA L).size := by omega
          have HEN := Lib.hid (fun W => Encode_r (bA (L.take q)) W (by rw [bA_size]; have : (L.take q).length ≤ q := List.length_take_le ..; omega))
          have hql : (bA (L.take q)).size = q := by rw [bA_size, List.length_take]; omega
          have HQ := Lib.hid (And.intro hq hql)
          generalize bA L = A at s2 s3 sw2 j2 j3 HTK ⊢
          clear hq hql hAs
          go_wp2_with fail
          rw [HTK.out]
          refine (HEN.out _).mono ?_
          rintro e w1 ⟨rfl, hb⟩
          have HB := Lib.hid (HW.out.trans (hb.mono HW.out.size))
          clear hb HEN
          rw [HQ.out.2]
          by_cases h16 : 16 < q
          · rw [if_pos h16]
            have E : Hid (dec4 s = false) := Lib.hid (by rw [hD.out, HQ.out.1, decide_eq_false (show ¬ q ≤ 16 by omega), Bool.and_false]; rfl)
            go_wp2
            go_ret2
            exact ⟨⟨_, 4, rfl, .inr ⟨rfl, E.out⟩⟩, HB.out⟩
          · rw [if_neg h16]
            have hbl : (bA (L.take q)).data.toList = L.take q := rfl
            rw [hbl]
            by_cases hce : bA (encU (L.take q) ++ [0, 0]) = s
            · have E : Hid (dec4 s = true) := Lib.hid (by
                have e2 : encU (L.take q) ++ [0, 0] = s.data.toList := by
                  have := congrArg (fun x : ByteArray => x.data.toList) hce
                  exact this
                rw [hD.out, HQ.out.1, decide_eq_true (show 2 ≤ L.length by omega), decide_eq_true (show q ≤ 16 by omega), decide_eq_true e2]; rfl)
              rw [hce]
              clear hce
              go_wp2
              go_ret2
              exact ⟨⟨_, 0, rfl, .inl ⟨rfl, E.out⟩⟩, HB.out⟩
            · have E : Hid (dec4 s = false) := Lib.hid (by
                rw [hD.out, HQ.out.1, decide_eq_false (p := encU (L.take q) ++ [0, 0] = s.data.toList), Bool.and_false]
                intro e
                exact hce (by rw [e, bA_list]))
              have hne0 : ¬ ((bA (encU (L.take q) ++ [0, 0])).toList = s.toList) := fun e => hce (by
                rw [ByteArray.toList_eq, ByteArray.toList_eq] at e
                exact ByteArray.ext (Array.toList_inj.1 e))
              have hne : ((bA (encU (L.take q) ++ [0, 0])).toList == s.toList) = false := by simpa using hne0
              have hne2 : ((bA (encU (L.take q) ++ [0, 0])).toList != s.toList) = true := by simpa using hne0
              generalize bA (encU (L.take q) ++ [0, 0]) = B at hne hne2 ⊢
              clear hce hne0
              go_wp2
              go_ret2
              exact ⟨⟨_, 4, rfl, .inr ⟨rfl, E.out⟩⟩, HB.out⟩
      · have i4 : ¬ (k < 100) := by omega
        go_wp2_with fail
        refine HK1.out _ _ ?_
        clear HK1 i1 i3 i4
        by_cases h2 : L.length < 2
        · have E : Hid (dec4 s = false) := Lib.hid (by rw [hD.out, decide_eq_false (show ¬ 2 ≤ L.length by omega)]; rfl)
          have s2 : ((bA L).size : Int) < 2 := by omega
          have s3 : (bA L).size < 2 := by omega
          go_wp2
          go_ret2
          exact ⟨⟨_, 4, rfl, .inr ⟨rfl, E.out⟩⟩, HW.out⟩
        · have s2 : ¬ (((bA L).size : Int) < 2) := by omega
          have s3 : ¬ ((bA L).size < 2) := by omega
          have sw2 : IntKind.i64.wrap (((bA L).size : Int) - 2) = ((L.length - 2 : Nat) : Int) := by rw [IntWalk.i64_in _ (by omega)]; omega
          have j1 : (0 : Int) ≤ ((L.length - 2 : Nat) : Int) := by omega
          have j2 : ((L.length - 2 : Nat) : Int) ≤ ((bA L).size : Int) := by omega
          have HTK := Lib.hid (bA_take L (L.length - 2))
          generalize hq : L.length - 2 = q at sw2 j1 j2 HTK
          have j3 : q ≤ (bA L).size := by omega
          have HEN := Lib.hid (fun W => Encode_r (bA (L.take q)) W (by rw [bA_size]; have : (L.take q).length ≤ q := List.length_take_le ..; omega))
          have hql : (bA (L.take q)).size = q := by rw [bA_size, List.length_take]; omega
          have HQ := Lib.hid (And.intro hq hql)
          generalize bA L = A at s2 s3 sw2 j2 j3 HTK ⊢
          clear hq hql hAs
          go_wp2_with fail
          rw [HTK.out]
          refine (HEN.out _).mono ?_
          rintro e w1 ⟨rfl, hb⟩
          have HB := Lib.hid (HW.out.trans (hb.mono HW.out.size))
          clear hb HEN
          rw [HQ.out.2]
          by_cases h16 : 16 < q
          · rw [if_pos h16]
            have E : Hid (dec4 s = false) := Lib.hid (by rw [hD.out, HQ.out.1, decide_eq_false (show ¬ q ≤ 16 by omega), Bool.and_false]; rfl)
            go_wp2
            go_ret2
            exact ⟨⟨_, 4, rfl, .inr ⟨rfl, E.out⟩⟩, HB.out⟩
          · rw [if_neg h16]
            have hbl : (bA (L.take q)).data.toList = L.take q := rfl
            rw [hbl]
            by_cases hce : bA (encU (L.take q) ++ [0, 0]) = s
            · have E : Hid (dec4 s = true) := Lib.hid (by
                have e2 : encU (L.take q) ++ [0, 0] = s.data.toList := by
                  have := congrArg (fun x : ByteArray => x.data.toList) hce
                  exact this
                rw [hD.out, HQ.out.1, decide_eq_true (show 2 ≤ L.length by omega), decide_eq_true (show q ≤ 16 by omega), decide_eq_true e2]; rfl)
              rw [hce]
              clear hce
              go_wp2
              go_ret2
              exact ⟨⟨_, 0, rfl, .inl ⟨rfl, E.out⟩⟩, HB.out⟩
            · have E : Hid (dec4 s = false) := Lib.hid (by
                rw [hD.out, HQ.out.1, decide_eq_false (p := encU (L.take q) ++ [0, 0] = s.data.toList), Bool.and_false]
                intro e
                exact hce (by rw [e, bA_list]))
              have hne0 : ¬ ((bA (encU (L.take q) ++ [0, 0])).toList = s.toList) := fun e => hce (by
                rw [ByteArray.toList_eq, ByteArray.toList_eq] at e
                exact ByteArray.ext (Array.toList_inj.1 e))
              have hne : ((bA (encU (L.take q) ++ [0, 0])).toList == s.toList) = false := by simpa using hne0
              have hne2 : ((bA (encU (L.take q) ++ [0, 0])).toList != s.toList) = true := by simpa using hne0
              generalize bA (encU (L.take q) ++ [0, 0]) = B at hne hne2 ⊢
              clear hce hne0
              go_wp2
              go_ret2
              exact ⟨⟨_, 4, rfl, .inr ⟨rfl, E.out⟩⟩, HB.out⟩
end Go.Proofs.YtgjgcbemgmkncaaGreatDoor
namespace Go.Proofs.YtgjgcbemgmkncaaGreatDoor
open Go.RowKit Go.Shelf
set_option linter.unusedVariables false
set_option linter.unusedSimpArgs false

theorem drop_head {L t : List UInt8} {a : UInt8} {k : Nat} (h : L.drop k = a :: t) : L.getD k 0 = a ∧ L.drop (k + 1) = t ∧ k < L.length := by
  have hk : k < L.length := by
    rcases Nat.lt_or_ge k L.length with h1 | h1
    · exact h1
    · rw [List.drop_eq_nil_of_le h1] at h; cases h
  rw [List.drop_eq_getElem_cons hk] at h
  injection h with h1 h2
  exact ⟨by rw [List.getD_eq_getElem?_getD, List.getElem?_eq_getElem hk, h1]; rfl, h2, hk⟩
theorem encU_cons (b : UInt8) (bs : List UInt8) : encU (b :: bs) = (if b = 0 then [0, 1] else [b]) ++ encU bs := List.flatMap_cons ..
theorem stripL_succ (L : List UInt8) (k : Nat) : stripL L (k + 1) = stripL L k ++ (if 0 < k ∧ L.getD k 0 = 1 ∧ L.getD (k - 1) 0 = 0 then [] else [L.getD k 0]) := rfl
theorem strip_enc {L rest : List UInt8} : ∀ (bs : List UInt8) (k : Nat), L.drop k = encU bs ++ rest → (0 < k → L.getD (k - 1) 0 ≠ 0) → stripL L (k + (encU bs).length) = stripL L k ++ bs
  | [], k, h, _ => by simp [encU]
  | b :: bs, k, h, hp => by
    rw [encU_cons] at h ⊢
    by_cases hb : b = 0
    · subst hb
      rw [if_pos rfl] at h ⊢
      obtain ⟨g1, h1, _⟩ := drop_head (k := k) (by simpa using h)
      obtain ⟨g2, h2, _⟩ := drop_head (k := k + 1) h1
      have ih := strip_enc bs (k + 1 + 1) h2 (fun _ => by
        show L.getD (k + 1 + 1 - 1) 0 ≠ 0
        rw [show k + 1 + 1 - 1 = k + 1 by omega, g2]; decide)
      rw [List.length_append, show k + (([0, 1] : List UInt8).length + (encU bs).length) = k + 1 + 1 + (encU bs).length by simp; omega, ih, stripL_succ, stripL_succ, g1, g2]
      rw [if_neg (fun h => by have := h.2.1; revert this; decide), if_pos ⟨by omega, rfl, by rw [show k + 1 - 1 = k by omega]; exact g1⟩]
      simp
    · rw [if_neg hb] at h ⊢
      obtain ⟨g1, h1, _⟩ := drop_head (k := k) (by simpa using h)
      have ih := strip_enc bs (k + 1) h1 (fun _ => by rw [show k + 1 - 1 = k by omega, g1]; exact hb)
      rw [List.length_append, show k + ([b].length + (encU bs).length) = k + 1 + (encU bs).length by simp; omega, ih, stripL_succ, g1]
      rw [if_neg (fun h => hp h.1 h.2.2)]
      simp
theorem dec4_of_enc {s : ByteArray} {bs : List UInt8} (hl : bs.length ≤ 16) (h : s.data.toList = encU bs ++ [0, 0]) : dec4 s = true := by
  have hs : s.size = (encU bs).length + 2 := by
    have := congrArg List.length h
    rw [Array.length_toList, List.length_append] at this
    exact this
  have hle := encU_len bs
  have hk : keyL s = bs ++ [0, 0] := by
    unfold keyL
    rw [show min s.size 100 = (encU bs).length + 1 + 1 by omega]
    have h0 := strip_enc (L := s.data.toList) (rest := [0, 0]) bs 0 (by rw [List.drop_zero]; exact h) (fun h => by omega)
    rw [Nat.zero_add] at h0
    have hd : s.data.toList.drop (encU bs).length = [0, 0] := by rw [h, List.drop_left]
    obtain ⟨g1, h1, _⟩ := drop_head hd
    obtain ⟨g2, _, _⟩ := drop_head h1
    rw [stripL_succ, stripL_succ, h0, g1, g2, if_neg (fun h => by have := h.2.1; revert this; decide), if_neg (fun h => by have := h.2.1; revert this; decide)]
    simp [stripL]
  unfold dec4
  rw [hk]
  have e1 : (bs ++ [0, 0]).length = bs.length + 2 := by simp
  rw [e1, show bs.length + 2 - 2 = bs.length by omega, List.take_left, decide_eq_true (show 2 ≤ bs.length + 2 by omega), decide_eq_true hl, decide_eq_true h.symm]
  rfl
theorem enc_of_dec4 {s : ByteArray} (h : dec4 s = true) : ∃ bs : List UInt8, bs.length ≤ 16 ∧ s.data.toList = encU bs ++ [0, 0] := by
  unfold dec4 at h
  rw [Bool.and_eq_true, Bool.and_eq_true, decide_eq_true_eq, decide_eq_true_eq, decide_eq_true_eq] at h
  exact ⟨_, by rw [List.length_take]; omega, h.2.symm⟩
theorem byte_drop {s : ByteArray} {p : Nat} (h : p < s.size) : s.data.toList.drop p = s[p] :: s.data.toList.drop (p + 1) := by
  have h2 : p < s.data.toList.length := by rw [Array.length_toList]; exact h
  rw [List.drop_eq_getElem_cons h2]
  rfl
theorem byte_head {s : ByteArray} {p : Nat} {a : UInt8} {t : List UInt8} (h : s.data.toList.drop p = a :: t) : ∃ hp : p < s.size, s[p] = a ∧ s.data.toList.drop (p + 1) = t := by
  obtain ⟨g, h1, h2⟩ := drop_head h
  rw [Array.length_toList] at h2
  have h3 : p < s.size := h2
  exact ⟨h3, by rw [← getD_byte h3]; exact g, h1⟩
theorem from_of_enc {s : ByteArray} {rest : List UInt8} : ∀ (bs : List UInt8) (p : Nat), s.data.toList.drop p = encU bs ++ (0 :: 0 :: rest) → ∃ l, rdFrom s p = some (l, p + (encU bs).length + 2) ∧ l.length = bs.length
  | [], p, h => by
    obtain ⟨hp, e1, h1⟩ := byte_head (a := 0) (by simpa [encU] using h)
    obtain ⟨hp2, e2, _⟩ := byte_head h1
    refine ⟨[], rdFrom_stop ?_, rfl⟩
    unfold rdStep
    rw [dif_pos hp, if_pos (by rw [e1]; rfl), dif_pos hp2, if_pos (by rw [e2]; rfl)]
    simp [encU]
  | b :: bs, p, h => by
    rw [encU_cons] at h ⊢
    by_cases hb : b = 0
    · subst hb
      rw [if_pos rfl] at h ⊢
      obtain ⟨hp, e1, h1⟩ := byte_head (a := 0) (by simpa using h)
      obtain ⟨hp2, e2, h2⟩ := byte_head h1
      obtain ⟨l, hl, hln⟩ := from_of_enc bs (p + 1 + 1) h2
      refine ⟨0 :: l, ?_, by simp [hln]⟩
      have hst : rdStep s p = .give 0 (p + 2) := by
        unfold rdStep
        rw [dif_pos hp, if_pos (by rw [e1]; rfl), dif_pos hp2, if_neg (by rw [e2]; decide), if_pos (by rw [e2]; rfl)]
      rw [rdFrom_give hst, show p + 2 = p + 1 + 1 from rfl, hl]
      simp
      omega
    · rw [if_neg hb] at h ⊢
      obtain ⟨hp, e1, h1⟩ := byte_head (a := b) (by simpa using h)
      obtain ⟨l, hl, hln⟩ := from_of_enc bs (p + 1) h1
      have hst : ∃ c, rdStep s p = .give c (p + 1) := by
        refine ⟨⟨s[p].toNat, u8_lt _⟩, ?_⟩
        unfold rdStep
        rw [dif_pos hp, if_neg (by rw [e1]; exact fun e => hb (UInt8.toNat_inj.1 e))]
      obtain ⟨c, hst⟩ := hst
      refine ⟨c :: l, ?_, by simp [hln]⟩
      rw [rdFrom_give hst, hl]
      simp
      omega
theorem enc_of_from {s : ByteArray} : ∀ (l : List (Fin 256)) (p k : Nat), rdFrom s p = some (l, k) → ∃ bs : List UInt8, bs.length = l.length ∧ s.data.toList.drop p = encU bs ++ (0 :: 0 :: s.data.toList.drop k)
  | l, p, k, h => by
    cases hst : rdStep s p with
    | panic => rw [rdFrom_panic hst] at h; cases h
    | stop q =>
      rw [rdFrom_stop hst] at h
      injection h with h
      injection h with h1 h2
      subst h1 h2
      unfold rdStep at hst
      split at hst
      · rename_i hp
        split at hst
        · rename_i e1
          split at hst
          · rename_i hp2
            split at hst
            · rename_i e2
              injection hst with hst
              subst hst
              refine ⟨[], rfl, ?_⟩
              rw [byte_drop hp, byte_drop hp2, show s[p] = 0 from UInt8.toNat_inj.1 e1, show s[p + 1] = 0 from UInt8.toNat_inj.1 e2]
              rfl
            · split at hst <;> cases hst
          · cases hst
        · cases hst
      · cases hst
    | give b q =>
      rw [rdFrom_give hst] at h
      cases hq : rdFrom s q with
      | none => rw [hq] at h; cases h
      | some y =>
        obtain ⟨l', k'⟩ := y
        rw [hq] at h
        simp only [Option.map_some] at h
        injection h with h
        injection h with h1 h2
        subst h1 h2
        obtain ⟨bs, hbl, hbs⟩ := enc_of_from l' q k' hq
        unfold rdStep at hst
        split at hst
        · rename_i hp
          split at hst
          · rename_i e1
            split at hst
            · rename_i hp2
              split at hst
              · cases hst
              · split at hst
                · rename_i e2
                  injection hst with _ hst
                  subst hst
                  refine ⟨0 :: bs, by simp [hbl], ?_⟩
                  rw [encU_cons, if_pos rfl, byte_drop hp, byte_drop hp2, show s[p] = 0 from UInt8.toNat_inj.1 e1, show s[p + 1] = 1 from UInt8.toNat_inj.1 e2, show p + 1 + 1 = p + 2 from rfl, hbs]
                  rfl
                · cases hst
            · cases hst
          · rename_i e1
            injection hst with _ hst
            subst hst
            refine ⟨s[p] :: bs, by simp [hbl], ?_⟩
            rw [encU_cons, if_neg (fun e => e1 (by rw [e]; rfl)), byte_drop hp, hbs]
            rfl
        · cases hst
termination_by l => l.length
theorem dec4_code (s : ByteArray) : dec4 s = isCode s := by
  rw [Bool.eq_iff_iff]
  constructor
  · intro h
    obtain ⟨bs, hl, he⟩ := enc_of_dec4 h
    obtain ⟨l, hf, hll⟩ := from_of_enc (s := s) (rest := []) bs 0 (by rw [List.drop_zero, he])
    have hs : s.size = (encU bs).length + 2 := by
      have := congrArg List.length he
      rw [Array.length_toList, List.length_append] at this
      exact this
    unfold isCode decodeN
    rw [hf]
    dsimp only
    rw [if_pos ⟨by omega, by omega⟩]
    rfl
  · intro h
    unfold isCode decodeN at h
    cases hf : rdFrom s 0 with
    | none => rw [hf] at h; simp at h
    | some y =>
      obtain ⟨l, k⟩ := y
      rw [hf] at h
      dsimp only at h
      split at h
      · rename_i hc
        obtain ⟨bs, hbl, hbs⟩ := enc_of_from l 0 k hf
        rw [List.drop_zero, hc.2, List.drop_eq_nil_of_le (by rw [Array.length_toList]; exact Nat.le_refl _)] at hbs
        exact dec4_of_enc (by omega) hbs
      · simp at h
end Go.Proofs.YtgjgcbemgmkncaaGreatDoor
namespace Go.Proofs.YtgjgcbemgmkncaaGreatDoor
open Go.RowKit Go.Shelf
set_option linter.unusedVariables false
set_option linter.unusedSimpArgs false

theorem leaf_parts (x : Nd) : x.isLeafN = (decide (x.kind = 1) && (dec4 x.code && decide ((x.value.size : Int) ≤ 32)) && (x.path.toList.isEmpty && decide (x.bytes.length = 0) && decide (x.kids.length = 0))) := by
  unfold Nd.isLeafN Nd.leafN Nd.codedN Nd.emptyN
  rw [dec4_code]
set_option maxHeartbeats 3200000 in
theorem leaf_r (x : Nd) (V : Value) (w : World) (h : NdAt w x V) : Calls Tryz.prog 46 #[V] w (BoolEnd x.isLeafN w) := by
  obtain ⟨hwf, Ab, cb, Ak, ck, rfl, hb0, hk0⟩ := h
  have H0 := Lib.hid (RfW.start (w := w) (x := x) (Ab := Ab) (cb := cb) (Ak := Ak) (ck := ck) ⟨hwf, Ab, cb, Ak, ck, rfl, hb0, hk0⟩)
  have hlc := hwf.lc
  clear hwf hb0 hk0
  unfold Nd.v
  go_enter Tryz.func46, Tryz.ntmps46
  have hL := Lib.hid (leaf_parts x)
  go_wp2_with fail
  refine (Decode_r x.code _ hlc).mono ?_
  rintro e w1 ⟨⟨t, c, rfl, hc⟩, hb⟩
  have H1 := Lib.hid (H0.out.on hb)
  clear hb H0
  obtain ⟨e0, e1, e2, e3, e4, e5⟩ := cells6 H1.out.box
  by_cases hk : x.kind = 1
  · have hkb : (x.kind == 1) = true := by simp [hk]
    rcases hc with ⟨rfl, hd⟩ | ⟨rfl, hd⟩
    · by_cases hv : (x.value.size : Int) ≤ 32
      · cases hp : x.path.toList.isEmpty with
        | false =>
          have E : Hid (x.isLeafN = false) := Lib.hid (by rw [hL.out, hp]; simp)
          clear hk
          go_wp2
          go_ret
          exact ⟨ret_bool (by rw [E.out]), H1.out.below⟩
        | true =>
          by_cases hbl : x.bytes.length = 0
          · have hbb : ((x.bytes.length : Int) == 0) = true := by simp; exact List.length_eq_zero_iff.1 hbl
            by_cases hkl : x.kids.length = 0
            · have hkk : ((x.kids.length : Int) == 0) = true := by simp; exact List.length_eq_zero_iff.1 hkl
              have E : Hid (x.isLeafN = true) := Lib.hid (by rw [hL.out, hp, hd, decide_eq_true hk, decide_eq_true hv, decide_eq_true hbl, decide_eq_true hkl]; rfl)
              rw [hbl] at e4
              rw [hkl] at e5
              clear hk hbl hkl hbb hkk
              go_wp2
              go_ret
              exact ⟨ret_bool (by rw [E.out]), H1.out.below⟩
            · have hkk : ((x.kids.length : Int) == 0) = false := by simp; exact fun e => hkl (by rw [e]; rfl)
              have E : Hid (x.isLeafN = false) := Lib.hid (by rw [hL.out, decide_eq_false hkl]; simp)
              rw [hbl] at e4
              clear hk hbl hbb
              go_wp2
              go_ret
              exact ⟨ret_bool (by rw [E.out]), H1.out.below⟩
          · have hbb : ((x.bytes.length : Int) == 0) = false := by simp; exact fun e => hbl (by rw [e]; rfl)
            have E : Hid (x.isLeafN = false) := Lib.hid (by rw [hL.out, decide_eq_false hbl]; simp)
            clear hk
            go_wp2
            go_ret
            exact ⟨ret_bool (by rw [E.out]), H1.out.below⟩
      · have E : Hid (x.isLeafN = false) := Lib.hid (by rw [hL.out, decide_eq_false hv]; simp)
        clear hk
        go_wp2
        go_ret
        exact ⟨ret_bool (by rw [E.out]), H1.out.below⟩
    · have E : Hid (x.isLeafN = false) := Lib.hid (by rw [hL.out, hd]; simp)
      clear hk
      go_wp2
      go_ret
      exact ⟨ret_bool (by rw [E.out]), H1.out.below⟩
  · have hkb : (x.kind == 1) = false := by simp [hk]
    have E : Hid (x.isLeafN = false) := Lib.hid (by rw [hL.out, decide_eq_false hk]; simp)
    clear hc
    go_wp2
    go_ret
    exact ⟨ret_bool (by rw [E.out]), H1.out.below⟩
set_option maxHeartbeats 3200000 in
theorem Right_r (x : Nd) (V : Value) (w : World) (h : NdAt w x V) : Calls Tryz.prog 21 #[V] w (BoolEnd x.rightN w) := by
  obtain ⟨hwf, Ab, cb, Ak, ck, rfl, hb0, hk0⟩ := h
  have H0 := Lib.hid (RfW.start (w := w) (x := x) (Ab := Ab) (cb := cb) (Ak := Ak) (ck := ck) ⟨hwf, Ab, cb, Ak, ck, rfl, hb0, hk0⟩)
  clear hwf hb0 hk0
  unfold Nd.v
  go_enter Tryz.func21, Tryz.ntmps21
  obtain ⟨e0, e1, e2, e3, e4, e5⟩ := cells6 H0.out.box
  have HI := Lib.hid (leaf_r x _ _ H0.out.node)
  cases hi : x.isLeafN with
  | true =>
    rw [hi] at HI
    have E : Hid (x.rightN = true) := Lib.hid (by unfold Nd.rightN; rw [hi]; rfl)
    clear hi
    go_wp2_with fail
    refine (HI.out).mono ?_
    rintro e w1 ⟨rfl, hb⟩
    have H1 := Lib.hid (H0.out.on hb)
    clear hb
    go_wp2
    go_ret
    exact ⟨ret_bool (by rw [E.out]), H1.out.below⟩
  | false =>
    rw [hi] at HI
    have E : Hid (x.rightN = x.isRight) := Lib.hid (by unfold Nd.rightN; rw [hi, Bool.false_or])
    clear hi
    go_wp2_with fail
    refine (HI.out).mono ?_
    rintro e w1 ⟨rfl, hb⟩
    have H1 := Lib.hid (H0.out.on hb)
    clear hb
    clear e0 e1 e2 e3 e4 e5
    obtain ⟨e0, e1, e2, e3, e4, e5⟩ := cells6 H1.out.box
    have HJ := Lib.hid (full_r x _ w1 H1.out.node)
    go_wp2_with fail
    refine (HJ.out).mono ?_
    rintro e w2 ⟨rfl, hb⟩
    have H2 := Lib.hid (H1.out.on hb)
    clear hb
    go_wp2
    go_ret
    exact ⟨ret_bool (by rw [E.out]), H2.out.below⟩
end Go.Proofs.YtgjgcbemgmkncaaGreatDoor
namespace Go.Proofs.YtgjgcbemgmkncaaGreatDoor
open Go.RowKit Go.Shelf
set_option linter.unusedVariables false
set_option linter.unusedSimpArgs false
attribute [local go_sem] Oper.semAt_some

def LenI (w : World) (lo r : Nat) (n : Nat) (W : World) : Prop := Blk W r 3 #[.int .i64 (n : Int)] ∧ Below w.heap.size w W ∧ lo ≤ W.heap.size
end Go.Proofs.YtgjgcbemgmkncaaGreatDoor
namespace Go.Proofs.YtgjgcbemgmkncaaGreatDoor
open Go.RowKit Go.Shelf
set_option linter.unusedVariables false
set_option linter.unusedSimpArgs false
attribute [local go_sem] Oper.semAt_some

/-- Next's world ahead of its result. -/
def NxI (w : World) (lo g2 g4 g5 g6 g gr gu room : Nat) (f : Kids) (W : World) : Prop := Blk W g2 91 #[.pointer (some ⟨g, 0, none⟩)] ∧ Blk W g4 5 #[.int .u8 0] ∧ Blk W g5 29 #[.int .i64 0, .int .u32 0] ∧ Blk W g6 4 #[.bool false] ∧ ManyAt W g gr gu room f ∧ Below w.heap.size w W ∧ lo ≤ W.heap.size
theorem nxBlk_drewN {w W : World} {lo g2 g4 g5 g6 g gr gu room : Nat} {f : Kids} (h : NxI w lo g2 g4 g5 g6 g gr gu room f W) (k : Nat) : NxI w lo g2 g4 g5 g6 g gr gu room f (W.drewN k) := by
  obtain ⟨h1, h2, h3, h4, h5, h6, h7⟩ := h
  exact ⟨h1.drewN k, h2.drewN k, h3.drewN k, h4.drewN k, h5.drewN k, below_drewN h6 k, h7⟩
theorem ManyAt.own_ {W W' : World} {row : Option Nat} {g gr gu room : Nat} {f : Kids} (h : ManyAt W g gr gu room f) (hg : W.grownBy W' row) (hr : ∀ r, row = some r → ∃ o : Obj, W.heap[r]? = some o ∧ o.isCells = false) : ManyAt W' g gr gu room f := by
  obtain ⟨o, h1, h2, h3⟩ := h
  exact ⟨o, h1, ⟨h2.1.own_ hg hr, h2.2.1.own_ hg hr, h2.2.2.own_ hg hr⟩, h3⟩
theorem nxI_own {w wx W W' : World} {lo g2 g4 g5 g6 g gr gu room : Nat} {f : Kids} {row : Option Nat} (hw : w.heap.size ≤ wx.heap.size) (h : NxI w lo g2 g4 g5 g6 g gr gu room f W) (hg : W.grownBy W' row) (hr : ∀ k, row = some k → wx.heap.size ≤ k ∧ ∃ o : Obj, W.heap[k]? = some o ∧ o.isCells = false) : NxI w lo g2 g4 g5 g6 g gr gu room f W' := by
  obtain ⟨h1, h2, h3, h4, h5, h6, h7⟩ := h
  have hr' := fun r e => (hr r e).2
  exact ⟨h1.own_ hg hr', h2.own_ hg hr', h3.own_ hg hr', h4.own_ hg hr', h5.own_ hg hr', ownFrom_below (β := Unit) (Nat.le_refl _) hw () W W' row h6 hg hr, Nat.le_trans h7 hg.size⟩
theorem cell3_far {V : World} {g2 gr p : Nat} {x1 x2 x3 : Option Value} (h : V.cell? ⟨g2, 0, none⟩ = x1 ∧ V.cell? ⟨gr, p * 2, none⟩ = x2 ∧ V.cell? ⟨gr, p * 2 + 1, none⟩ = x3) (k i : Nat) (u : Value) (h2 : k ≠ g2) (h3 : k ≠ gr) : (V.setCell ⟨k, i, none⟩ u).cell? ⟨g2, 0, none⟩ = x1 ∧ (V.setCell ⟨k, i, none⟩ u).cell? ⟨gr, p * 2, none⟩ = x2 ∧ (V.setCell ⟨k, i, none⟩ u).cell? ⟨gr, p * 2 + 1, none⟩ = x3 :=
  ⟨(World.cell?_setCell_far _ ⟨k, i, none⟩ ⟨g2, 0, none⟩ _ h2).trans h.1, (World.cell?_setCell_far _ ⟨k, i, none⟩ ⟨gr, p * 2, none⟩ _ h3).trans h.2.1, (World.cell?_setCell_far _ ⟨k, i, none⟩ ⟨gr, p * 2 + 1, none⟩ _ h3).trans h.2.2⟩
theorem nxNe {w : World} {lo g2 g4 g5 g6 g gr gu room : Nat} {f : Kids} {W : World} (h : NxI w lo g2 g4 g5 g6 g gr gu room f W) (hne : g4 ≠ gr ∧ g5 ≠ gr ∧ g6 ≠ gr) : g4 ≠ g2 ∧ g4 ≠ gr ∧ g5 ≠ g2 ∧ g5 ≠ gr ∧ g6 ≠ g2 ∧ g6 ≠ gr ∧ g4 ≠ g5 ∧ g4 ≠ g6 ∧ g5 ≠ g6 := by
  obtain ⟨h1, h2, h3, h4, _⟩ := h
  exact ⟨blk_neF h2 h1 (by decide), hne.1, blk_neF h3 h1 (by decide), hne.2.1, blk_neF h4 h1 (by decide), hne.2.2, blk_neF h2 h3 (by decide), blk_neF h2 h4 (by decide), blk_neF h3 h4 (by decide)⟩
theorem nxK_drewN {B : Nat} {W0 W : World} (h : KeepsFrom B W0 W ∧ KeepsC (fun _ => True) W0 W) (k : Nat) : KeepsFrom B W0 (W.drewN k) ∧ KeepsC (fun _ => True) W0 (W.drewN k) := ⟨⟨h.1.1, h.1.2⟩, ⟨h.2.size, h.2.same⟩⟩
/-- .. behind it. -/
def NxX (w : World) (g4 g5 g6 : Nat) (f : Kids) (pre : List (KidB f)) (W : World) : Prop := ∃ (x : KidB f) (r : Int × Int), pre = [x] ∧ f x.1.val = some r ∧ Blk W g4 5 #[.int .u8 (x.1.val : Int)] ∧ Blk W g5 29 #[.int .i64 r.1, .int .u32 r.2] ∧ Blk W g6 4 #[.bool true] ∧ Below w.heap.size w W
theorem nxX_own {w wx W W' : World} {g4 g5 g6 : Nat} {f : Kids} {pre : List (KidB f)} {row : Option Nat} (hw : w.heap.size ≤ wx.heap.size) (h : NxX w g4 g5 g6 f pre W) (hg : W.grownBy W' row) (hr : ∀ k, row = some k → wx.heap.size ≤ k ∧ ∃ o : Obj, W.heap[k]? = some o ∧ o.isCells = false) : NxX w g4 g5 g6 f pre W' := by
  obtain ⟨x, r, h1, h2, h3, h4, h5, h6⟩ := h
  have hr' := fun r e => (hr r e).2
  exact ⟨x, r, h1, h2, h3.own_ hg hr', h4.own_ hg hr', h5.own_ hg hr', ownFrom_below (β := Unit) (Nat.le_refl _) hw () W W' row h6 hg hr⟩

theorem nxFrom (B : Nat) (W : World) (a b c : Nat) (v1 v2 v3 v4 : Value) : KeepsFrom B W ((((W.setCell ⟨a, 0, none⟩ v1).setCell ⟨b, 0, none⟩ v2).setCell ⟨b, 1, none⟩ v3).setCell ⟨c, 0, none⟩ v4) :=
  ((((KeepsOthers.setCell _ _ _).trans (KeepsOthers.setCell _ _ _)).trans (KeepsOthers.setCell _ _ _)).trans (KeepsOthers.setCell _ _ _)).from B
theorem nxX_stores {w : World} {lo g2 g4 g5 g6 g gr gu room : Nat} {f : Kids} {W : World} (h : NxI w lo g2 g4 g5 g6 g gr gu room f W) (hge : w.heap.size ≤ g4 ∧ w.heap.size ≤ g5 ∧ w.heap.size ≤ g6) (ne : g4 ≠ g2 ∧ g4 ≠ gr ∧ g5 ≠ g2 ∧ g5 ≠ gr ∧ g6 ≠ g2 ∧ g6 ≠ gr ∧ g4 ≠ g5 ∧ g4 ≠ g6 ∧ g5 ≠ g6) {x : KidB f} {r : Int × Int} (hr : f x.1.val = some r) :
    NxX w g4 g5 g6 f [x] ((((W.setCell ⟨g4, 0, none⟩ (.int .u8 (x.1.val : Int))).setCell ⟨g5, 0, none⟩ (.int .i64 r.1)).setCell ⟨g5, 1, none⟩ (.int .u32 r.2)).setCell ⟨g6, 0, none⟩ (.bool true)) := by
  obtain ⟨h1, h2, h3, h4, h5, h6, h7⟩ := h
  obtain ⟨n1, n2, n3, n4, n5, n6, n7, n8, n9⟩ := ne
  refine ⟨x, r, rfl, hr, ?_, ?_, ?_, ?_⟩
  · have k := (((h2.set_ 0 (.int .u8 (x.1.val : Int))).far (p := ⟨g5, 0, none⟩) n7 (.int .i64 r.1)).far (p := ⟨g5, 1, none⟩) n7 (.int .u32 r.2)).far (p := ⟨g6, 0, none⟩) n8 (.bool true)
    simpa using k
  · have k := (((h3.far (p := ⟨g4, 0, none⟩) (Ne.symm n7) (.int .u8 (x.1.val : Int))).set_ 0 (.int .i64 r.1)).set_ 1 (.int .u32 r.2)).far (p := ⟨g6, 0, none⟩) n9 (.bool true)
    simpa using k
  · have k := (((h4.far (p := ⟨g4, 0, none⟩) (Ne.symm n8) (.int .u8 (x.1.val : Int))).far (p := ⟨g5, 0, none⟩) (Ne.symm n9) (.int .i64 r.1)).far (p := ⟨g5, 1, none⟩) (Ne.symm n9) (.int .u32 r.2)).set_ 0 (.bool true)
    simpa using k
  · exact (((h6.setCell (p := ⟨g4, 0, none⟩) hge.1 _).setCell (p := ⟨g5, 0, none⟩) hge.2.1 _).setCell (p := ⟨g5, 1, none⟩) hge.2.1 _).setCell (p := ⟨g6, 0, none⟩) hge.2.2 _

set_option maxHeartbeats 3200000 in
set_option maxRecDepth 100000 in
theorem nx_loop (g2 g4 g5 g6 g gr gu room Bf Bi : Nat) (from_ : Int) (f : Kids) {u0 u1 u3 u7 u8 u9 u10 u11 u12 u13 u14 u15 u16 u18 u19 u20 u21 u22 u23 u24 u25 u26 u27 u28 : Value} (w wx : World) {Q : Exit → Act → World → Prop} (hf : Blk wx Bf 3 #[.int .i64 from_]) (hi : Blk wx Bi 155 #[.func (.func 134) #[.pointer (some ⟨g, 0, none⟩)] #[]]) (hw : w.heap.size ≤ wx.heap.size) (hI : NxI w wx.heap.size g2 g4 g5 g6 g gr gu room f wx) (hge : w.heap.size ≤ g4 ∧ w.heap.size ≤ g5 ∧ w.heap.size ≤ g6) (hne : g4 ≠ gr ∧ g5 ≠ gr ∧ g6 ≠ gr)
    (hQ : ∀ (D : Nat) (W : World), wx.heap.size ≤ D → bytesF f (max from_ 0).toNat = [] → NxI w wx.heap.size g2 g4 g5 g6 g gr gu room f W → W.heap[D]? = some (.deferred (some [])) → Q .normal ⟨#[u0, u1, .pointer (some ⟨g2, 0, none⟩), u3, .pointer (some ⟨g4, 0, none⟩), .pointer (some ⟨g5, 0, none⟩), .pointer (some ⟨g6, 0, none⟩), u7, u8, u9, u10, u11, u12, u13, u14, u15, u16, .func (.func 141) #[] #[.pointer (some ⟨Bf, 0, none⟩), .pointer (some ⟨Bi, 0, none⟩)], u18, u19, u20, u21, u22, u23, u24, u25, u26, u27, u28], [{ target := .collected D, args := #[] }]⟩ W)
    (hR : ∀ (D : Nat) (pre : List (KidB f)) (W : World), wx.heap.size ≤ D → pre <+: bytesF f (max from_ 0).toNat → NxX w g4 g5 g6 f pre W → W.heap[D]? = some (.deferred (some [])) → Q .ret ⟨#[u0, u1, .pointer (some ⟨g2, 0, none⟩), u3, .pointer (some ⟨g4, 0, none⟩), .pointer (some ⟨g5, 0, none⟩), .pointer (some ⟨g6, 0, none⟩), u7, u8, u9, u10, u11, u12, u13, u14, u15, u16, .func (.func 141) #[] #[.pointer (some ⟨Bf, 0, none⟩), .pointer (some ⟨Bi, 0, none⟩)], u18, u19, u20, u21, u22, u23, u24, u25, u26, u27, u28], [{ target := .collected D, args := #[] }]⟩ W) :
    Code.wp Tryz.prog (part Tryz.f127 [1, 1, 0, 1]) Q ⟨#[u0, u1, .pointer (some ⟨g2, 0, none⟩), u3, .pointer (some ⟨g4, 0, none⟩), .pointer (some ⟨g5, 0, none⟩), .pointer (some ⟨g6, 0, none⟩), u7, u8, u9, u10, u11, u12, u13, u14, u15, u16, .func (.func 141) #[] #[.pointer (some ⟨Bf, 0, none⟩), .pointer (some ⟨Bi, 0, none⟩)], u18, u19, u20, u21, u22, u23, u24, u25, u26, u27, u28], []⟩ wx := by
  conv => arg 2; whnf
  have HQ := Lib.hid (And.intro hQ hR)
  clear hQ hR
  refine wp_block ?_
  refine (wpIn_wide (n := 10)).1 ?_
  refine wpIn_rangeFunc_ownH rfl (by decide) (gf := 141) (lb := #[.pointer (some ⟨Bf, 0, none⟩), .pointer (some ⟨Bi, 0, none⟩)]) rfl trivial (enters_of Tryz.func141 (by kernel_rfl) rfl)
    (bytes_stops Bf Bi g gr room 9 (fun _ => True) from_ f wx ⟨trivial, trivial, trivial, trivial⟩ (by decide) hf hi hI.2.2.2.2.1.read) (fun h k => h.trans k) (fun W l o o' hl h1 h2 h3 => KeepsC.book W l o o' h1 h2) (Below.refl _ _) (fun _ => rfl)
    (fun pre W => pre = [] ∧ NxI w wx.heap.size g2 g4 g5 g6 g gr gu room f W) (fun c pre W => c = .ret ∧ NxX w g4 g5 g6 f pre W) (fun s W W' row hs hg hr => ⟨hs.1, nxI_own hw hs.2 hg hr⟩) (fun c s W W' row hs hg hr => ⟨hs.1, nxX_own hw hs.2 hg hr⟩) ⟨rfl, hI⟩
    (fun x a' W => a' = ⟨#[u0, u1, .pointer (some ⟨g2, 0, none⟩), u3, .pointer (some ⟨g4, 0, none⟩), .pointer (some ⟨g5, 0, none⟩), .pointer (some ⟨g6, 0, none⟩), .int .i64 (x.1.val : Int), u8, u9, u10, u11, u12, u13, u14, u15, u16, .func (.func 141) #[] #[.pointer (some ⟨Bf, 0, none⟩), .pointer (some ⟨Bi, 0, none⟩)], .int .i64 (x.1.val : Int), u19, u20, u21, u22, u23, u24, u25, u26, u27, u28], []⟩) (fun x a' s W W' row hs hg hr => hs) ?assign ?body ?done ?stop
  case assign =>
    rintro l pre x W K hi2 hK
    have hfin : K ⟨#[u0, u1, .pointer (some ⟨g2, 0, none⟩), u3, .pointer (some ⟨g4, 0, none⟩), .pointer (some ⟨g5, 0, none⟩), .pointer (some ⟨g6, 0, none⟩), .int .i64 (x.1.val : Int), u8, u9, u10, u11, u12, u13, u14, u15, u16, .func (.func 141) #[] #[.pointer (some ⟨Bf, 0, none⟩), .pointer (some ⟨Bi, 0, none⟩)], .int .i64 (x.1.val : Int), u19, u20, u21, u22, u23, u24, u25, u26, u27, u28], []⟩ W := hK _ _ (KeepsFrom.refl _ _) (KeepsC.refl _ _) hi2 rfl
    have HF := Lib.hid hfin
    clear hfin hK
    gi_wp2
    exact HF.out
  case body =>
    rintro l pre x a' W hl ⟨rec, hrec⟩ ⟨rfl, hi2⟩ rfl hlen
    obtain ⟨r, hr⟩ := Option.isSome_iff_exists.1 x.2
    obtain ⟨o, o1, o2, o3, o4⟩ := hi2.2.2.2.2.1
    obtain ⟨p, p1, p2, p3, p4⟩ := o1.some_ x.1.val r x.1.isLt hr
    obtain ⟨c1, c2⟩ := o2.ref p1
    rw [p4] at c1 c2
    have HREF := Lib.hid (mref g gr gu room o x.1.val p W.drew o2.drew x.1.isLt p1 o4 p2)
    have HS := Lib.hid hi2
    have HRX := Lib.hid hr
    have HKF : Hid (KeepsFrom wx.heap.size W (W.drewN 1) ∧ KeepsC (fun _ => True) W (W.drewN 1)) := Lib.hid (nxK_drewN (W0 := W) (W := W) ⟨KeepsFrom.refl _ _, KeepsC.refl _ _⟩ 1)
    have e2 : W.cell? ⟨g2, 0, none⟩ = some (.pointer (some ⟨g, 0, none⟩)) := hi2.1.cell 0
    have hx0 : (0 : Int) ≤ (x.1.val : Int) := by omega
    have hx1 : (x.1.val : Int) ≤ 255 := by have := x.1.isLt; omega
    have sw : IntKind.u8.wrap (x.1.val : Int) = (x.1.val : Int) := IntWalk.u8_in _ (by omega)
    clear o1 o2 o3 o4 p1 p2 p3 p4 hr hi2
    gi_wp2_with (fail)
    refine wpIn_region_held_round (S := (fun V => V.cell? ⟨g2, 0, none⟩ = some (.pointer (some ⟨g, 0, none⟩)) ∧ V.cell? ⟨gr, p * 2, none⟩ = some (.int .i64 r.1) ∧ V.cell? ⟨gr, p * 2 + 1, none⟩ = some (.int .u32 r.2))) l (fun hh => by obtain ⟨_, _, h⟩ := hh; exact h) (by kernel_rfl) (by kernel_rfl) ?_ (fun hHeld0 => ?_)
    · exact ⟨e2, c1, c2⟩
    refine wpAnyH_take (i := 0) (v := ?_) rfl (by kernel_rfl) (by kernel_rfl) (by kernel_rfl) (fun _ _ _ h => h) (Or.inl ⟨by rfl, ?_⟩) hHeld0 ?_
    rotate_left
    · (intro w hSw; (try dsimp only at hSw); go_simp <;> with_reducible rfl)
    try simp only [Act.put, List.setIfInBounds_toArray, List.set_cons_zero, List.set_cons_succ]
    refine wpAnyH_take (i := 1) (v := ?_) rfl (by kernel_rfl) (by kernel_rfl) (by kernel_rfl) (fun _ _ _ h => h) (Or.inl ⟨by rfl, ?_⟩) hHeld0 ?_
    rotate_left
    · (intro w hSw; (try dsimp only at hSw); go_simp <;> with_reducible rfl)
    try simp only [Act.put, List.setIfInBounds_toArray, List.set_cons_zero, List.set_cons_succ]
    refine wpAnyH_take (i := 2) (v := ?_) rfl (by kernel_rfl) (by kernel_rfl) (by kernel_rfl) (fun _ _ _ h => h) (Or.inl ⟨by rfl, ?_⟩) hHeld0 ?_
    rotate_left
    · (intro w hSw; (try dsimp only at hSw); go_simp <;> with_reducible rfl)
    try simp only [Act.put, List.setIfInBounds_toArray, List.set_cons_zero, List.set_cons_succ]
    refine wpAnyH_take (i := 3) (v := ?_) rfl (by kernel_rfl) (by kernel_rfl) (by kernel_rfl) (fun _ _ _ h => h) (Or.inl ⟨by rfl, ?_⟩) hHeld0 ?_
    rotate_left
    · (intro w hSw; (try dsimp only at hSw); go_simp <;> with_reducible rfl)
    try simp only [Act.put, List.setIfInBounds_toArray, List.set_cons_zero, List.set_cons_succ]
    refine wpAnyH_take (i := 4) (v := ?_) rfl (by kernel_rfl) (by kernel_rfl) (by kernel_rfl) (fun _ _ _ h => h) (Or.inl ⟨by rfl, ?_⟩) hHeld0 ?_
    rotate_left
    · (intro w hSw; (try dsimp only at hSw); go_simp <;> with_reducible rfl)
    try simp only [Act.put, List.setIfInBounds_toArray, List.set_cons_zero, List.set_cons_succ]
    refine wpAnyH_take (i := 5) (v := ?_) rfl (by kernel_rfl) (by kernel_rfl) (by kernel_rfl) (fun _ _ _ h => h) (Or.inl ⟨by rfl, ?_⟩) hHeld0 ?_
    rotate_left
    · (intro w hSw; (try dsimp only at hSw); go_simp <;> with_reducible rfl)
    try simp only [Act.put, List.setIfInBounds_toArray, List.set_cons_zero, List.set_cons_succ]
    refine wpAnyH_ready (rs := [6]) (by kernel_rfl) (by simp) ?_
    refine AllReadyH.cons rfl (fun K hK => ?_) ?_
    · go_simp
      go_at_call 135
      refine HREF.out.mono ?_
      rintro e w3 ⟨rfl, k, hk3⟩
      have hv : NxI w wx.heap.size g2 g4 g5 g6 g gr gu room f w3 := by rw [hk3]; exact nxBlk_drewN (nxBlk_drewN HS.out 1) k
      have hc : w3.cell? ⟨g2, 0, none⟩ = some (.pointer (some ⟨g, 0, none⟩)) ∧ w3.cell? ⟨gr, p * 2, none⟩ = some (.int .i64 r.1) ∧ w3.cell? ⟨gr, p * 2 + 1, none⟩ = some (.int .u32 r.2) := by rw [hk3]; exact ⟨e2, c1, c2⟩
      have hbk := nxK_drewN HKF.out k
      rw [show (W.drewN 1).drewN k = w3 from hk3.symm] at hbk
      have HV := Lib.hid (And.intro hv (And.intro hc hbk))
      have e4 := hv.2.1.cell 0
      have f4 := hv.2.1.frozen 0
      have l4 := hv.2.1.lt
      have e50 := hv.2.2.1.cell 0
      have e51 := hv.2.2.1.cell 1
      have f50 := hv.2.2.1.frozen 0
      have f51 := hv.2.2.1.frozen 1
      have l5 := hv.2.2.1.lt
      have e6 := hv.2.2.2.1.cell 0
      have f6 := hv.2.2.2.1.frozen 0
      have l6 := hv.2.2.2.1.lt
      simp at e4 e50 e51 e6
      have NE := Lib.hid (nxNe hv hne)
      clear hv hc hk3 hbk c1 c2
      refine hK.out _ _ ?_ (fun hHeld1 => ?_)
      · exact HV.out.2.1
      clear hK K hHeld0
      try simp only [Act.put, List.setIfInBounds_toArray, List.set_cons_zero, List.set_cons_succ]
      refine wpAnyH_take (i := 7) (v := ?_) rfl (by kernel_rfl) (by kernel_rfl) (by kernel_rfl) (fun _ _ _ h => h) (Or.inl ⟨by rfl, ?_⟩) hHeld1 ?_
      rotate_left
      · (intro w hSw; (try dsimp only at hSw); go_simp <;> with_reducible rfl)
      try simp only [Act.put, List.setIfInBounds_toArray, List.set_cons_zero, List.set_cons_succ]
      refine wpAnyH_take (i := 8) (v := ?_) rfl (by kernel_rfl) (by kernel_rfl) (by kernel_rfl) (fun _ _ _ h => h) (Or.inl ⟨by rfl, ?_⟩) hHeld1 ?_
      rotate_left
      · (intro w hSw; (try dsimp only at hSw); go_simp <;> with_reducible rfl)
      try simp only [Act.put, List.setIfInBounds_toArray, List.set_cons_zero, List.set_cons_succ]
      refine wpAnyH_ready (rs := [9]) (by kernel_rfl) (by simp) ?_
      refine AllReadyH.cons rfl (fun K hK => ?_) ?_
      · go_simp
        refine hK.out _ _ ?_ (fun hHeld2 => ?_)
        · exact cell3_far hHeld1 g4 0 _ NE.out.1 NE.out.2.1
        clear hK K hHeld1
        try simp only [Act.put, List.setIfInBounds_toArray, List.set_cons_zero, List.set_cons_succ]
        refine wpAnyH_ready (rs := [10]) (by kernel_rfl) (by simp) ?_
        refine AllReadyH.cons rfl (fun K hK => ?_) ?_
        · have v5 := HV.out.1.2.2.1.far (p := ⟨g4, 0, none⟩) (Ne.symm NE.out.2.2.2.2.2.2.1) (.int .u8 (x.1.val : Int))
          have e50 := v5.cell 0
          have f50 := v5.frozen 0
          have l5 := v5.lt
          simp at e50
          have v5b := v5.set_ 0 (.int .i64 r.1)
          have e51 := v5b.cell 1
          have f51 := v5b.frozen 1
          have l5b := v5b.lt
          simp at e51
          clear v5 v5b
          go_simp
          refine hK.out _ _ ?_ (fun hHeld3 => ?_)
          · exact cell3_far (cell3_far hHeld2 g5 0 _ NE.out.2.2.1 NE.out.2.2.2.1) g5 1 _ NE.out.2.2.1 NE.out.2.2.2.1
          clear hK K hHeld2
          try simp only [Act.put, List.setIfInBounds_toArray, List.set_cons_zero, List.set_cons_succ]
          refine wpAnyH_ready (rs := [11]) (by kernel_rfl) (by simp) ?_
          refine AllReadyH.cons rfl (fun K hK => ?_) ?_
          · have v6 := ((HV.out.1.2.2.2.1.far (p := ⟨g4, 0, none⟩) (Ne.symm NE.out.2.2.2.2.2.2.2.1) (.int .u8 (x.1.val : Int))).far (p := ⟨g5, 0, none⟩) (Ne.symm NE.out.2.2.2.2.2.2.2.2) (.int .i64 r.1)).far (p := ⟨g5, 1, none⟩) (Ne.symm NE.out.2.2.2.2.2.2.2.2) (.int .u32 r.2)
            have e6 := v6.cell 0
            have f6 := v6.frozen 0
            have l6 := v6.lt
            simp at e6
            clear v6
            go_simp
            refine hK.out _ _ ?_ (fun hHeld4 => ?_)
            · exact cell3_far hHeld3 g6 0 _ NE.out.2.2.2.2.1 NE.out.2.2.2.2.2.1
            clear hK K hHeld3
            try simp only [Act.put, List.setIfInBounds_toArray, List.set_cons_zero, List.set_cons_succ]
            refine wpAnyH_done (by kernel_rfl) ?_ _
            have HV3 := HV.out
            refine (‹∀ (a : Act) (w : World), Code.wpIn (Fence.wide.inRound l) _ _ Code.ret _ a w → _› _ _ ?_)
            refine wpIn_ret ?_
            exact ⟨HV3.2.2.1.trans (nxFrom _ w3 g4 g5 g6 _ _ _ _), rfl, nxX_stores HV3.1 hge NE.out HRX.out⟩
          exact AllReadyH.nil
        exact AllReadyH.nil
      exact AllReadyH.nil
    exact AllReadyH.nil
  case done =>
    rintro D xs W hD hxs ⟨h1, hi2⟩ hk
    exact HQ.out.1 D W hD (hxs.symm.trans h1) hi2 hk
  case stop =>
    rintro D c pre W hD hsp ⟨rfl, hx⟩ hk
    have HF := Lib.hid (HQ.out.2 D pre W hD hsp hx hk)
    gi_wp2
    exact HF.out
end Go.Proofs.YtgjgcbemgmkncaaGreatDoor
namespace Go.Proofs.YtgjgcbemgmkncaaGreatDoor
open Go.RowKit Go.Shelf
set_option linter.unusedVariables false
set_option linter.unusedSimpArgs false
attribute [local go_sem] Oper.semAt_some

theorem nxI_below {w W W' : World} {lo g2 g4 g5 g6 g gr gu room : Nat} {f : Kids} (h : NxI w lo g2 g4 g5 g6 g gr gu room f W) (hb : Below W.heap.size W W') : NxI w W'.heap.size g2 g4 g5 g6 g gr gu room f W' := by
  obtain ⟨h1, h2, h3, h4, h5, h6, h7⟩ := h
  exact ⟨h1.below hb h1.lt, h2.below hb h2.lt, h3.below hb h3.lt, h4.below hb h4.lt, h5.below hb, h6.trans (hb.mono h6.size), Nat.le_refl _⟩
theorem defer_ne {W : World} {D g4 g5 g6 : Nat} {t4 t5 t6 : TypeId} {c4 c5 c6 : Array Value} (h4 : Blk W g4 t4 c4) (h5 : Blk W g5 t5 c5) (h6 : Blk W g6 t6 c6) (h : W.heap[D]? = some (.deferred (some []))) : D ≠ g4 ∧ D ≠ g5 ∧ D ≠ g6 := by
  unfold Blk at h4 h5 h6
  refine ⟨fun e => ?_, fun e => ?_, fun e => ?_⟩ <;> subst e <;> (first | (rw [h] at h4; cases h4) | (rw [h] at h5; cases h5) | (rw [h] at h6; cases h6))
theorem nx_start (g gr gu room : Nat) (f : Kids) (w : World) (h : ManyAt w g gr gu room f) : NxI w w.heap.size w.heap.size (w.heap.size + 1) (w.heap.size + 2) (w.heap.size + 3) g gr gu room f ((((w.alloc (.cells #[.pointer (some ⟨g, 0, none⟩)] 91)).alloc (.cells #[.int .u8 0] 5)).alloc (.cells #[.int .i64 0, .int .u32 0] 29)).alloc (.cells #[.bool false] 4)) ∧ ((((w.alloc (.cells #[.pointer (some ⟨g, 0, none⟩)] 91)).alloc (.cells #[.int .u8 0] 5)).alloc (.cells #[.int .i64 0, .int .u32 0] 29)).alloc (.cells #[.bool false] 4)).heap.size = w.heap.size + 4 := by
  have b0 := below_box w (.cells #[.pointer (some ⟨g, 0, none⟩)] 91)
  have b1 := b0.alloc b0.size (.cells #[.int .u8 0] 5)
  have b2 := b1.alloc b1.size (.cells #[.int .i64 0, .int .u32 0] 29)
  have b3 := b2.alloc b2.size (.cells #[.bool false] 4)
  have k0 := Blk.new w 91 #[.pointer (some ⟨g, 0, none⟩)]
  have k1 := Blk.new (w.alloc (.cells #[.pointer (some ⟨g, 0, none⟩)] 91)) 5 #[.int .u8 0]
  have k2 := Blk.new ((w.alloc (.cells #[.pointer (some ⟨g, 0, none⟩)] 91)).alloc (.cells #[.int .u8 0] 5)) 29 #[.int .i64 0, .int .u32 0]
  have k3 := Blk.new (((w.alloc (.cells #[.pointer (some ⟨g, 0, none⟩)] 91)).alloc (.cells #[.int .u8 0] 5)).alloc (.cells #[.int .i64 0, .int .u32 0] 29)) 4 #[.bool false]
  simp only [World.size_alloc] at k1 k2 k3
  exact ⟨⟨((k0.alloc _).alloc _).alloc _, (k1.alloc _).alloc _, k2.alloc _, k3, h.below b3, b3, b3.size⟩, by simp⟩

theorem nx_end {w V : World} {D : Nat} {b : Int} {r : Int × Int} {t : Bool} {u0 u1 u2 u3 u7 u8 u9 u10 u11 u12 u13 u14 u15 u16 u17 u18 u19 u20 u21 u22 u23 u24 u25 u26 u27 u28 : Value} (q4 : Blk V (w.heap.size + 1) 5 #[.int .u8 b]) (q5 : Blk V (w.heap.size + 2) 29 #[.int .i64 r.1, .int .u32 r.2]) (q6 : Blk V (w.heap.size + 3) 4 #[.bool t]) (hd : V.heap[D]? = some (.deferred (some []))) (hb : Below w.heap.size w V) (hD : w.heap.size ≤ D) :
    bodyPostM Fence.wide 10 Tryz.prog Tryz.f127 (ThreeEnd (.int .u8 b) (refV r) (.bool t) w) .ret ⟨#[u0, u1, u2, u3, .pointer (some ⟨w.heap.size + 1, 0, none⟩), .pointer (some ⟨w.heap.size + 2, 0, none⟩), .pointer (some ⟨w.heap.size + 3, 0, none⟩), u7, u8, u9, u10, u11, u12, u13, u14, u15, u16, u17, u18, u19, u20, u21, u22, u23, u24, u25, u26, u27, u28], [{ target := .collected D, args := #[] }]⟩ V := by
  have hne := defer_ne q4 q5 q6 hd
  have c4 : (V.putObj D (.deferred none)).cell? ⟨w.heap.size + 1, 0, none⟩ = some (.int .u8 b) := (World.cell?_of_block (World.putObj_heap_other (Ne.symm hne.1))).trans (q4.cell 0)
  have c50 : (V.putObj D (.deferred none)).cell? ⟨w.heap.size + 2, 0, none⟩ = some (.int .i64 r.1) := (World.cell?_of_block (World.putObj_heap_other (Ne.symm hne.2.1))).trans (q5.cell 0)
  have c51 : (V.putObj D (.deferred none)).cell? ⟨w.heap.size + 2, 1, none⟩ = some (.int .u32 r.2) := (World.cell?_of_block (World.putObj_heap_other (Ne.symm hne.2.1))).trans (q5.cell 1)
  have c6 : (V.putObj D (.deferred none)).cell? ⟨w.heap.size + 3, 0, none⟩ = some (.bool t) := (World.cell?_of_block (World.putObj_heap_other (Ne.symm hne.2.2))).trans (q6.cell 0)
  refine ⟨by simp, .inl ⟨_, _, rfl, run_takeDeferred hd, ?_⟩⟩
  refine ⟨.tuple #[.int .u8 b, refV r, .bool t], by simp [results, Tryz.results127, go_sem, c4, c50, c51, c6, refV], rfl, hb.trans ⟨rfl, rfl, rfl, by simp [World.putObj], fun k hk => World.putObj_heap_other (by omega)⟩⟩
set_option maxHeartbeats 3200000 in
set_option maxRecDepth 100000 in
theorem Next_m (g gr gu room : Nat) (f : Kids) (k : Int) (w : World) (h : ManyAt w g gr gu room f) : Calls Tryz.prog 127 #[.pointer (some ⟨g, 0, none⟩), .int .i64 k] w (ThreeEnd (.int .u8 (nextK f k).1) (refV (nextK f k).2.1) (.bool (nextK f k).2.2) w) := by
  have hlt := h.lt
  obtain ⟨h1, hs1⟩ := nx_start g gr gu room f w h
  have HT := Lib.hid (there_m h1.2.2.2.2.1)
  have H1 := Lib.hid h1
  have HS1 := Lib.hid hs1
  clear h h1 hs1
  refine (callsIn_wide (n := 10)).1 (callsIn_of_wp_marks Tryz.func127 rfl trivial (wpIn_wide.2 ?_) rfl)
  simp only [Tryz.ntmps127, List.size_toArray, List.length_cons, List.length_nil, Nat.reduceAdd, Nat.reduceSub, Array.replicate_succ, Array.replicate_zero, List.push_toArray, List.append_toArray, List.nil_append, List.cons_append]
  refine wp_seq_k fun K0 hK => ?_
  have HK0 := Lib.hid hK
  clear hK
  go_wp2_with fail
  refine HK0.out _ _ ?_
  clear HK0
  refine wp_seq_k fun K1 hK => ?_
  have HK1 := Lib.hid hK
  clear hK
  go_wp2_with fail
  refine HT.out.mono ?_
  rintro e w1 ⟨rfl, rfl⟩
  go_wp2_with fail
  refine HK1.out _ _ ?_
  clear HK1 HT
  obtain ⟨W1, hW1⟩ : ∃ W1, W1 = (((w.alloc (.cells #[.pointer (some ⟨g, 0, none⟩)] 91)).alloc (.cells #[.int .u8 0] 5)).alloc (.cells #[.int .i64 0, .int .u32 0] 29)).alloc (.cells #[.bool false] 4) := ⟨_, rfl⟩
  rw [← hW1] at H1 HS1 ⊢
  clear hW1
  have e0 : W1.cell? ⟨w.heap.size, 0, none⟩ = some (.pointer (some ⟨g, 0, none⟩)) := H1.out.1.cell 0
  refine wp_seq_k fun K2 hK => ?_
  have HK2 := Lib.hid hK
  clear hK
  refine wp_seq_k fun K3 hK => ?_
  have HK3 := Lib.hid hK
  clear hK
  go_wp2_with fail
  refine (bytes_any k (.func (.func 134) #[.pointer (some ⟨g, 0, none⟩)] #[]) ⟨_, _, _, rfl⟩ W1).mono ?_
  rintro e w2 ⟨rfl, rfl⟩
  go_wp2_with fail
  refine HK3.out _ _ ?_
  clear HK3 e0
  have b1 := below_box W1 (.cells #[.int .i64 k] 3)
  have b2 := b1.alloc b1.size (.cells #[.func (.func 134) #[.pointer (some ⟨g, 0, none⟩)] #[]] 155)
  have k1 := (Blk.new W1 3 #[.int .i64 k]).alloc (.cells #[.func (.func 134) #[.pointer (some ⟨g, 0, none⟩)] #[]] 155)
  have k2 := Blk.new (W1.alloc (.cells #[.int .i64 k] 3)) 155 #[.func (.func 134) #[.pointer (some ⟨g, 0, none⟩)] #[]]
  rw [show (W1.alloc (.cells #[.int .i64 k] 3)).heap.size = W1.heap.size + 1 by simp] at k2
  have k3 : NxI w _ w.heap.size (w.heap.size + 1) (w.heap.size + 2) (w.heap.size + 3) g gr gu room f _ := nxI_below H1.out b2
  have hs2 : ((W1.alloc (.cells #[.int .i64 k] 3)).alloc (.cells #[.func (.func 134) #[.pointer (some ⟨g, 0, none⟩)] #[]] 155)).heap.size = W1.heap.size + 2 := by simp
  generalize (W1.alloc (.cells #[.int .i64 k] 3)).alloc (.cells #[.func (.func 134) #[.pointer (some ⟨g, 0, none⟩)] #[]] 155) = W2 at k1 k2 k3 hs2 b2 ⊢
  have hs1 := HS1.out
  refine nx_loop w.heap.size (w.heap.size + 1) (w.heap.size + 2) (w.heap.size + 3) g gr gu room W1.heap.size (W1.heap.size + 1) k f w W2 k1 k2 (by omega) k3 ⟨by omega, by omega, by omega⟩ ⟨by omega, by omega, by omega⟩ ?_ ?_
  · intro D W hD hnil hI hdef
    have hne := defer_ne hI.2.1 hI.2.2.1 hI.2.2.2.1 hdef
    have HI := Lib.hid (And.intro hI hdef)
    have HNX := Lib.hid (nx_none hnil)
    have hDw : w.heap.size ≤ D := by omega
    have e4 := hI.2.1.cell 0
    have f4 := hI.2.1.frozen 0
    have l4 := hI.2.1.lt
    simp at e4
    clear b1 b2 k1 k2 k3 hI hdef hnil hs1 hs2 H1 HS1
    try dsimp only
    refine HK2.out _ _ ?_
    clear HK2
    have v5 := HI.out.1.2.2.1.far (p := ⟨w.heap.size + 1, 0, none⟩) (by simp) (.int .u8 0)
    have e50 := v5.cell 0
    have f50 := v5.frozen 0
    have l5 := v5.lt
    simp at e50
    have v5b := v5.set_ 0 (.int .i64 0)
    have e51 := v5b.cell 1
    have f51 := v5b.frozen 1
    have l5b := v5b.lt
    simp at e51
    have v6 := ((HI.out.1.2.2.2.1.far (p := ⟨w.heap.size + 1, 0, none⟩) (by simp) (.int .u8 0)).far (p := ⟨w.heap.size + 2, 0, none⟩) (by simp) (.int .i64 0)).far (p := ⟨w.heap.size + 2, 1, none⟩) (by simp) (.int .u32 0)
    have e6 := v6.cell 0
    have f6 := v6.frozen 0
    have l6 := v6.lt
    simp at e6
    clear v5 v5b v6
    go_wp2_with fail
    have q4 := ((((HI.out.1.2.1.set_ 0 (.int .u8 0)).far (p := ⟨w.heap.size + 2, 0, none⟩) (by simp) (.int .i64 0)).far (p := ⟨w.heap.size + 2, 1, none⟩) (by simp) (.int .u32 0)).far (p := ⟨w.heap.size + 3, 0, none⟩) (by simp) (.bool false))
    have q5 := ((((HI.out.1.2.2.1.far (p := ⟨w.heap.size + 1, 0, none⟩) (by simp) (.int .u8 0)).set_ 0 (.int .i64 0)).set_ 1 (.int .u32 0)).far (p := ⟨w.heap.size + 3, 0, none⟩) (by simp) (.bool false))
    have q6 := ((((HI.out.1.2.2.2.1.far (p := ⟨w.heap.size + 1, 0, none⟩) (by simp) (.int .u8 0)).far (p := ⟨w.heap.size + 2, 0, none⟩) (by simp) (.int .i64 0)).far (p := ⟨w.heap.size + 2, 1, none⟩) (by simp) (.int .u32 0)).set_ 0 (.bool false))
    have hbv : Below w.heap.size w _ := ((((HI.out.1.2.2.2.2.2.1.setCell (p := ⟨w.heap.size + 1, 0, none⟩) (by simp) (.int .u8 0)).setCell (p := ⟨w.heap.size + 2, 0, none⟩) (by simp) (.int .i64 0)).setCell (p := ⟨w.heap.size + 2, 1, none⟩) (by simp) (.int .u32 0)).setCell (p := ⟨w.heap.size + 3, 0, none⟩) (by simp) (.bool false))
    have hdv : ((((W.setCell ⟨w.heap.size + 1, 0, none⟩ (.int .u8 0)).setCell ⟨w.heap.size + 2, 0, none⟩ (.int .i64 0)).setCell ⟨w.heap.size + 2, 1, none⟩ (.int .u32 0)).setCell ⟨w.heap.size + 3, 0, none⟩ (.bool false)).heap[D]? = some (.deferred (some [])) :=
      (((Below.heap_setCell _ _ _ _ hne.2.2).trans (Below.heap_setCell _ _ _ _ hne.2.1)).trans (Below.heap_setCell _ _ _ _ hne.2.1)).trans ((Below.heap_setCell _ _ _ _ hne.1).trans HI.out.2)
    generalize (((W.setCell ⟨w.heap.size + 1, 0, none⟩ (.int .u8 0)).setCell ⟨w.heap.size + 2, 0, none⟩ (.int .i64 0)).setCell ⟨w.heap.size + 2, 1, none⟩ (.int .u32 0)).setCell ⟨w.heap.size + 3, 0, none⟩ (.bool false) = V at q4 q5 q6 hbv hdv ⊢
    rw [HNX.out]
    exact nx_end q4 q5 q6 hdv hbv hDw
  · intro D pre W hD hpre hX hdef
    obtain ⟨x, r, rfl, hr, q4, q5, q6, hb⟩ := hX
    have hne := defer_ne q4 q5 q6 hdef
    have hnx := nx_some hpre hr
    rw [hnx]
    exact nx_end q4 q5 q6 hdef hb (by omega)
end Go.Proofs.YtgjgcbemgmkncaaGreatDoor
namespace Go.Proofs.YtgjgcbemgmkncaaGreatDoor
open Go.RowKit Go.Shelf
set_option linter.unusedVariables false
set_option linter.unusedSimpArgs false

theorem next_iface {W : World} {iv : Value} {room : Int} {f : Kids} {bl : List Nat} (c : Int) (h : RowAt W iv room f bl) : ∃ (T : TypeId) (g fid : Nat), iv = .iface T (.pointer (some ⟨g, 0, none⟩)) ∧ (∀ V : World, (method 263 T (.pointer (some ⟨g, 0, none⟩)) "Next").run Tryz.prog V = .ok (fid, .pointer (some ⟨g, 0, none⟩)) V) ∧ (∀ args V, (callFunc fid args).run Tryz.prog V = .ok (.enter fid args) V) ∧
    Calls Tryz.prog fid #[.pointer (some ⟨g, 0, none⟩), .int .i64 c] W (ThreeEnd (.int .u8 (nextK f c).1) (refV (nextK f c).2.1) (.bool (nextK f c).2.2) W) := by
  rcases h with ⟨g, rfl, rfl, hf⟩ | ⟨g, gr, gu, n, rfl, rfl, rfl, hf⟩
  · exact ⟨_, g, _, rfl, few_Next_me g, enters_of Tryz.func111 (by kernel_rfl) rfl, Next_k g room f c W hf⟩
  · exact ⟨_, g, _, rfl, many_Next_me g, enters_of Tryz.func127 (by kernel_rfl) rfl, Next_m g gr gu n f c W hf⟩
set_option maxHeartbeats 1600000 in
set_option maxRecDepth 100000 in
theorem Next_n (x : Nd) (V : Value) (c : Int) (w : World) (h : NdAt w x V) (hr : RoomsAt w) : Calls Tryz.prog 26 #[V, .int .i64 c] w (ThreeEnd (.int .u8 (nextN x c).1) (refV (nextN x c).2.1) (.bool (nextN x c).2.2) w) := by
  have h' := h
  obtain ⟨hwf, Ab, cb, Ak, ck, rfl, _, _⟩ := h'
  have h4 := find_start w x #[.int .i64 x.kind, .string x.code, .string x.value, .string x.path, .slice Ab x.bytes.length cb, .slice Ak x.kids.length ck] h hr
  have HM := Lib.hid (may_n x _ _ h4.node h4.rooms)
  have H4 := Lib.hid h4
  cases hm : x.may with
  | false =>
    rw [hm] at HM
    have E : nextN x c = (0, ((0, 0), false)) := by unfold nextN; rw [if_neg (by rw [hm]; simp)]
    rw [E]
    clear E hwf h hr h4 hm
    unfold Nd.v at *
    go_enter Tryz.func26, Tryz.ntmps26
    go_wp2_with fail
    refine HM.out.mono ?_
    rintro e w1 ⟨rfl, hb⟩
    have H7B := Lib.hid (H4.out.on hb)
    clear hb HM H4
    have d0 := H7B.out.out.cell 0
    have d1 := H7B.out.out.cell 1
    have fz0 := H7B.out.out.frozen 0
    have fz1 := H7B.out.out.frozen 1
    have l6 := H7B.out.out.lt
    simp at d0 d1
    obtain ⟨VV, hV, hg, q6⟩ := two_stores (.int .i64 0) (.int .u32 0) H7B.out.out
    go_wp2
    rw [← hV]
    clear hV d0 d1 fz0 fz1
    have c0 := q6.cell 0
    have c1 := q6.cell 1
    simp at c0 c1
    exact bodyPost_ret (v := .tuple #[.int .u8 0, .agg #[.int .i64 0, .int .u32 0], .bool false]) (by simp [results, Tryz.results26, go_sem, c0, c1]) rfl ⟨rfl, H7B.out.below.grown hg H7B.out.below.size (fun k e => by injection e with e; omega)⟩
  | true =>
    rw [hm] at HM
    have hin := inner_parts (may_inner hm)
    have hroom := roomOk_of (room_kind hin.1)
    have E : nextN x c = nextK (x.row (roomN x.kind)) c := by unfold nextN; rw [if_pos hm]
    rw [E]
    obtain ⟨room, hrm⟩ : ∃ room, roomN x.kind = room := ⟨_, rfl⟩
    rw [hrm] at hroom ⊢
    obtain ⟨o, ho⟩ : ∃ o, nextK (x.row room) c = o := ⟨_, rfl⟩
    rw [ho]
    unfold Nd.row at ho
    have HP := Lib.hid (And.intro hroom (And.intro hin (And.intro hrm ho)))
    clear E hwf h hr h4 hm hroom hin hrm ho
    unfold Nd.v at *
    go_enter Tryz.func26, Tryz.ntmps26
    go_wp2_with fail
    refine HM.out.mono ?_
    rintro e w3 ⟨rfl, hb⟩
    have H3 := Lib.hid (H4.out.on hb)
    clear hb HM H4
    have HRO := Lib.hid (room_n x.kind w3.drew H3.out.drew.rooms)
    rw [HP.out.2.2.1] at HRO
    have HLA := Lib.hid (laid_n x _ room w3.drew H3.out.drew.node HP.out.1 (by have := HP.out.2.1.2.2.2.2.1; omega))
    go_wp2_with fail
    refine wp_region_held_drew (S := (fun V : World => (V.cell? ⟨w.heap.size + 1 + 1, 0, none⟩ = some (.int .i64 x.kind) ∧ V.cell? ⟨w.heap.size + 1 + 1, 1, none⟩ = some (.string x.code) ∧ V.cell? ⟨w.heap.size + 1 + 1, 2, none⟩ = some (.string x.value) ∧ V.cell? ⟨w.heap.size + 1 + 1, 3, none⟩ = some (.string x.path) ∧ V.cell? ⟨w.heap.size + 1 + 1, 4, none⟩ = some (.slice Ab x.bytes.length cb) ∧ V.cell? ⟨w.heap.size + 1 + 1, 5, none⟩ = some (.slice Ak x.kids.length ck)) ∧ V.cell? ⟨w.heap.size, 0, none⟩ = some (.int .i64 x.kind))) (by kernel_rfl) ?_ (fun hHeld0 => ?_)
    · exact findS H3.out.drew
    refine wpAnyH_take (i := 0) (v := ?_) rfl (by kernel_rfl) (by kernel_rfl) (by kernel_rfl) (fun _ _ _ h => h) (Or.inl ⟨by rfl, ?_⟩) hHeld0 ?_
    rotate_left
    · (intro w hSw; (try dsimp only at hSw); go_simp <;> with_reducible rfl)
    try simp only [Act.put, List.setIfInBounds_toArray, List.set_cons_zero, List.set_cons_succ]
    refine wpAnyH_take (i := 1) (v := ?_) rfl (by kernel_rfl) (by kernel_rfl) (by kernel_rfl) (fun _ _ _ h => h) (Or.inl ⟨by rfl, ?_⟩) hHeld0 ?_
    rotate_left
    · (intro w hSw; (try dsimp only at hSw); go_simp <;> with_reducible rfl)
    try simp only [Act.put, List.setIfInBounds_toArray, List.set_cons_zero, List.set_cons_succ]
    refine wpAnyH_take (i := 2) (v := ?_) rfl (by kernel_rfl) (by kernel_rfl) (by kernel_rfl) (fun _ _ _ h => h) (Or.inl ⟨by rfl, ?_⟩) hHeld0 ?_
    rotate_left
    · (intro w hSw; (try dsimp only at hSw); go_simp <;> with_reducible rfl)
    try simp only [Act.put, List.setIfInBounds_toArray, List.set_cons_zero, List.set_cons_succ]
    refine wpAnyH_take (i := 5) (v := ?_) rfl (by kernel_rfl) (by kernel_rfl) (by kernel_rfl) (fun _ _ _ h => h) (Or.inl ⟨by rfl, ?_⟩) hHeld0 ?_
    rotate_left
    · (intro w hSw; (try dsimp only at hSw); go_simp <;> with_reducible rfl)
    try simp only [Act.put, List.setIfInBounds_toArray, List.set_cons_zero, List.set_cons_succ]
    refine wpAnyH_ready (rs := [3]) (by kernel_rfl) (by simp) ?_
    refine AllReadyH.cons rfl (fun K hK => ?_) ?_
    · go_simp
      with_reducible refine HRO.out.mono ?_
      rintro e w4 ⟨rfl, rfl⟩
      refine hK.out _ _ ?_ (fun hHeld1 => ?_)
      · exact findS H3.out.drew
      clear hK K hHeld0
      try simp only [Act.put, List.setIfInBounds_toArray, List.set_cons_zero, List.set_cons_succ]
      refine wpAnyH_ready (rs := [4]) (by kernel_rfl) (by simp) ?_
      refine AllReadyH.cons rfl (fun K hK => ?_) ?_
      · go_simp
        refine HLA.out.mono ?_
        rintro e w5 ⟨iv, bl, rfl, hrow, hbl, hb5⟩
        have H5 := Lib.hid (H3.out.drew.on hb5)
        obtain ⟨TT, g, fid, rfl, hme, hen, hput⟩ := next_iface c hrow
        rw [HP.out.2.2.2] at hput
        unfold refV at hput
        have HPU := Lib.hid hput
        clear hput hrow hbl hb5
        refine hK.out _ _ ?_ (fun hHeld2 => ?_)
        · exact findS H5.out
        clear hK K hHeld1
        try simp only [Act.put, List.setIfInBounds_toArray, List.set_cons_zero, List.set_cons_succ]
        refine wpAnyH_ready (rs := [6]) (by kernel_rfl) (by simp) ?_
        refine AllReadyH.cons rfl (fun K hK => ?_) ?_
        · go_simp
          refine HPU.out.mono ?_
          rintro e w6 ⟨rfl, hb6⟩
          have H7B := Lib.hid (H5.out.on hb6)
          clear hb6 hme hen
          refine hK.out _ _ ?_ (fun hHeld3 => ?_)
          · exact findS H7B.out
          clear hK K hHeld2
          try simp only [Act.put, List.setIfInBounds_toArray, List.set_cons_zero, List.set_cons_succ]
          refine wpAnyH_take (i := 7) (v := ?_) rfl (by kernel_rfl) (by kernel_rfl) (by kernel_rfl) (fun _ _ _ h => h) (Or.inl ⟨by rfl, ?_⟩) hHeld3 ?_
          rotate_left
          · (intro w hSw; (try dsimp only at hSw); go_simp <;> with_reducible rfl)
          try simp only [Act.put, List.setIfInBounds_toArray, List.set_cons_zero, List.set_cons_succ]
          refine wpAnyH_take (i := 8) (v := ?_) rfl (by kernel_rfl) (by kernel_rfl) (by kernel_rfl) (fun _ _ _ h => h) (Or.inl ⟨by rfl, ?_⟩) hHeld3 ?_
          rotate_left
          · (intro w hSw; (try dsimp only at hSw); go_simp <;> with_reducible rfl)
          try simp only [Act.put, List.setIfInBounds_toArray, List.set_cons_zero, List.set_cons_succ]
          refine wpAnyH_take (i := 9) (v := ?_) rfl (by kernel_rfl) (by kernel_rfl) (by kernel_rfl) (fun _ _ _ h => h) (Or.inl ⟨by rfl, ?_⟩) hHeld3 ?_
          rotate_left
          · (intro w hSw; (try dsimp only at hSw); go_simp <;> with_reducible rfl)
          try simp only [Act.put, List.setIfInBounds_toArray, List.set_cons_zero, List.set_cons_succ]
          refine wpAnyH_take (i := 10) (v := ?_) rfl (by kernel_rfl) (by kernel_rfl) (by kernel_rfl) (fun _ _ _ h => h) (Or.inl ⟨by rfl, ?_⟩) hHeld3 ?_
          rotate_left
          · (intro w hSw; (try dsimp only at hSw); go_simp <;> with_reducible rfl)
          try simp only [Act.put, List.setIfInBounds_toArray, List.set_cons_zero, List.set_cons_succ]
          try simp only [Act.put, List.getElem_toArray, List.getElem_cons_succ, List.getElem_cons_zero, List.setIfInBounds_toArray, List.set_cons_zero, List.set_cons_succ]
          refine wpAnyH_ready (rs := [11]) (by kernel_rfl) (by simp) ?_
          refine AllReadyH.cons rfl (fun K hK => ?_) ?_
          · have d0 := H7B.out.out.cell 0
            have d1 := H7B.out.out.cell 1
            have fz0 := H7B.out.out.frozen 0
            have fz1 := H7B.out.out.frozen 1
            have l6 := H7B.out.out.lt
            simp at d0 d1
            obtain ⟨VV, hV, hg, q6⟩ := two_stores (.int .i64 o.2.1.1) (.int .u32 o.2.1.2) H7B.out.out
            go_simp
            rw [← hV]
            clear hV d0 d1 fz0 fz1
            refine hK.out _ _ ?_ (fun hHeld4 => ?_)
            · exact findS_off H7B.out hg
            clear hK K hHeld3
            try simp only [Act.put, List.setIfInBounds_toArray, List.set_cons_zero, List.set_cons_succ]
            refine wpAnyH_take (i := 12) (v := ?_) rfl (by kernel_rfl) (by kernel_rfl) (by kernel_rfl) (fun _ _ _ h => h) (Or.inl ⟨by rfl, ?_⟩) hHeld4 ?_
            rotate_left
            · (intro w hSw; (try dsimp only at hSw); go_simp <;> with_reducible rfl)
            try simp only [Act.put, List.setIfInBounds_toArray, List.set_cons_zero, List.set_cons_succ]
            try simp only [Act.put, List.getElem_toArray, List.getElem_cons_succ, List.getElem_cons_zero, List.setIfInBounds_toArray, List.set_cons_zero, List.set_cons_succ]
            refine wpAnyH_done (by kernel_rfl) ?_ _
            refine (‹∀ (a : Act) (w : World), Code.wp Tryz.prog _ _ a w → _› _ _ ?_)
            have c0 := q6.cell 0
            have c1 := q6.cell 1
            simp at c0 c1
            go_wp2
            exact bodyPost_ret (v := .tuple #[.int .u8 o.1, .agg #[.int .i64 o.2.1.1, .int .u32 o.2.1.2], .bool o.2.2]) (by simp [results, Tryz.results26, go_sem, c0, c1]) rfl ⟨rfl, H7B.out.below.grown hg H7B.out.below.size (fun k e => by injection e with e; omega)⟩
          exact AllReadyH.nil
        exact AllReadyH.nil
      exact AllReadyH.nil
    exact AllReadyH.nil
end Go.Proofs.YtgjgcbemgmkncaaGreatDoor
namespace Go.Proofs.YtgjgcbemgmkncaaGreatDoor
open Go.RowKit Go.Shelf
set_option linter.unusedVariables false
set_option linter.unusedSimpArgs false

set_option maxHeartbeats 6400000 in
set_option maxRecDepth 100000 in
theorem Rest_n (x : Nd) (V : Value) (b : Nat) (w : World) (h : NdAt w x V) (hr : RoomsAt w) (hb256 : b < 256) : Calls Tryz.prog 28 #[V, .int .u8 (b : Int)] w (ThreeEnd (.int .u8 (restN x b).1) (refV (restN x b).2.1) (.bool (restN x b).2.2) w) := by
  obtain ⟨hwf, Ab, cb, Ak, ck, rfl, hb0, hk0⟩ := h
  have H0 := Lib.hid (FiW.start (w := w) (x := x) (Ab := Ab) (cb := cb) (Ak := Ak) (ck := ck) ⟨hwf, Ab, cb, Ak, ck, rfl, hb0, hk0⟩)
  have HR := Lib.hid (And.intro hb0 (And.intro hk0 hwf))
  clear hwf hb0 hk0
  unfold Nd.v
  obtain ⟨o, ho⟩ : ∃ o, o = restN x b := ⟨_, rfl⟩
  rw [← ho]
  have HO := Lib.hid ho
  clear ho
  have hf := Find_n x _ b _ H0.out.node (hr.on H0.out.below) hb256
  have HFI : Hid (findN x b = findN x b) := Lib.hid rfl
  obtain ⟨q, hq⟩ : ∃ q, q = findN x b := ⟨_, rfl⟩
  rw [← hq] at hf
  have HQ := Lib.hid hq
  clear hq HFI
  unfold optV refV at hf
  have HF0 := Lib.hid hf
  clear hf
  go_enter Tryz.func28, Tryz.ntmps28
  refine wp_seq_k fun K0 hK => ?_
  have HK0 := Lib.hid hK
  clear hK
  go_wp2_with fail
  refine HK0.out _ _ ?_
  clear HK0
  refine wp_seq_k fun K2 hK => ?_
  have HK2 := Lib.hid hK
  clear hK
  refine wp_seq_k fun K1 hK => ?_
  have HK1 := Lib.hid hK
  clear hK
  obtain ⟨e0, e1, e2, e3, e4, e5⟩ := cells6 H0.out.box
  go_wp2_with fail
  refine HF0.out.mono ?_
  rintro e w0 ⟨rfl, hb⟩
  have S1 := Lib.hid ((H0.out.on hb).on (below_box w0 (.cells #[.int .i64 (q.getD (0, 0)).1, .int .u32 (q.getD (0, 0)).2] 29)))
  clear hb H0 HF0 e0 e1 e2 e3 e4 e5
  go_wp2_with fail
  refine HK1.out _ _ ?_
  clear HK1
  generalize w0.alloc _ = w1 at S1 ⊢
  obtain ⟨e0, e1, e2, e3, e4, e5⟩ := cells6 S1.out.box
  cases q with
  | none =>
    have E : Hid (o = (0, ((0, 0), false))) := Lib.hid (by rw [HO.out]; unfold restN; rw [if_neg (by rw [← HQ.out]; simp)])
    simp only [Option.getD_none, Option.isSome_none]
    obtain ⟨d0, d1⟩ : w1.cell? ⟨w.heap.size + 1, 0, none⟩ = some (.int .i64 0) ∧ w1.cell? ⟨w.heap.size + 1, 1, none⟩ = some (.int .u32 0) := ⟨S1.out.out.cell 0, S1.out.out.cell 1⟩
    have fz0 := S1.out.out.frozen 0
    have fz1 := S1.out.out.frozen 1
    have l6 := S1.out.out.lt
    obtain ⟨VV, hV, hg, q6⟩ := two_stores (.int .i64 0) (.int .u32 0) S1.out.out
    have HF := Lib.hid (S1.out.below.grown hg S1.out.below.size (fun k e => by injection e with e; omega))
    go_wp2
    rw [← hV]
    clear hV d0 d1 fz0 fz1 l6
    have c0 := q6.cell 0
    have c1 := q6.cell 1
    simp at c0 c1
    exact bodyPost_ret (v := .tuple #[.int .u8 0, .agg #[.int .i64 0, .int .u32 0], .bool false]) (by simp [results, Tryz.results28, go_sem, c0, c1]) rfl ⟨by rw [E.out], HF.out⟩
  | some r0 =>
    simp only [Option.getD_some, Option.isSome_some]
    by_cases hl : x.kids.length = 2
    · have hmay := find_may (x := x) (b := b) (by rw [← HQ.out]; rfl)
      have hlb : x.bytes.length = x.kids.length := (inner_parts (may_inner hmay)).2.2.2.2.1
      have hl2 : ((x.kids.length : Int) != 2) = false := by simp; omega
      have hl3 : (x.kids.length : Int) = 2 := by omega
      obtain ⟨ad, rfl, hab, by0⟩ := byte_at HR.out.1 (k := 0) (by omega)
      obtain ⟨ad2, he, _, by1⟩ := byte_at HR.out.1 (k := 1) (by omega)
      obtain rfl : ad = ad2 := by injection he
      obtain ⟨kd, rfl, hkb, c0, c0a, c0b, c0c, c0d⟩ := ref_at2 HR.out.2.1 (k := 0) (by omega)
      obtain ⟨kd2, he2, _, c1, c1a, c1b, c1c, c1d⟩ := ref_at2 HR.out.2.1 (k := 1) (by omega)
      obtain rfl : kd = kd2 := by injection he2
      clear he he2
      have hp01 : x.bytes[0]'(by omega) < x.bytes[1]'(by omega) := (rising_iff _).1 (inner_parts (may_inner hmay)).2.2.2.2.2.2.1 0 (by omega)
      have i0 : (0 : Int) < (x.bytes.length : Int) := by omega
      have i1 : (1 : Int) < (x.bytes.length : Int) := by omega
      have i2 : (0 : Int) < (x.kids.length : Int) := by omega
      have i3 : (1 : Int) < (x.kids.length : Int) := by omega
      have E0 : Hid (o = if x.bytes[0]'(by omega) = b then ((x.bytes[1]'(by omega) : Int), (x.kids[1]'(by omega), true)) else ((x.bytes[0]'(by omega) : Int), (x.kids[0]'(by omega), true))) := Lib.hid (by
        rw [HO.out]; unfold restN
        rw [if_pos ⟨by rw [← HQ.out]; rfl, hl⟩]
        simp only [List.getD_eq_getElem?_getD, List.getElem?_eq_getElem (show 0 < x.bytes.length by omega), List.getElem?_eq_getElem (show 1 < x.bytes.length by omega), List.getElem?_eq_getElem (show 0 < x.kids.length by omega), List.getElem?_eq_getElem (show 1 < x.kids.length by omega), Option.getD_some])
      generalize x.bytes[0]'(by omega) = p0 at by0 E0 hp01
      generalize x.bytes[1]'(by omega) = p1 at by1 E0 hp01
      generalize x.kids[0]'(by omega) = k0 at c0 c0a c0b c0c c0d E0
      generalize x.kids[1]'(by omega) = k1 at c1 c1a c1b c1c c1d E0
      obtain ⟨k01, k02⟩ := k0
      obtain ⟨k11, k12⟩ := k1
      dsimp only at c0 c0d c1 c1d
      clear c0a c0b c0c c1a c1b c1c hlb hmay
      have HLB : Hid (ad.block < w.heap.size ∧ kd.block < w.heap.size) := Lib.hid ⟨hab, hkb⟩
      have b0' : w1.cell? (ad.add 0) = some (.int .u8 (p0 : Int)) := (S1.out.below.cell (p := ad.add 0) (by rw [block_of_add]; exact hab)).trans by0
      have b0'' : w1.cell? ad = some (.int .u8 (p0 : Int)) := b0'
      have b1' : w1.cell? ⟨ad.block, ad.off + 1, none⟩ = some (.int .u8 (p1 : Int)) := (S1.out.below.cell (p := ⟨ad.block, ad.off + 1, none⟩) hab).trans by1
      have k0' : w1.cell? kd = some (.int .i64 k01) := (S1.out.below.cell (p := kd) hkb).trans c0
      have k0'' : w1.cell? ⟨kd.block, kd.off + 1, none⟩ = some (.int .u32 k02) := (S1.out.below.cell (p := ⟨kd.block, kd.off + 1, none⟩) hkb).trans c0d
      have k1' : w1.cell? ⟨kd.block, kd.off + 2, none⟩ = some (.int .i64 k11) := (S1.out.below.cell (p := ⟨kd.block, kd.off + 2, none⟩) hkb).trans c1
      have k1'' : w1.cell? ⟨kd.block, kd.off + 2 + 1, none⟩ = some (.int .u32 k12) := (S1.out.below.cell (p := ⟨kd.block, kd.off + 2 + 1, none⟩) hkb).trans c1d
      have n0 : 0 < x.bytes.length := by omega
      have n1 : 1 < x.bytes.length := by omega
      have n2 : 0 < x.kids.length := by omega
      have n3 : 1 < x.kids.length := by omega
      clear c0 c0d c1 c1d by0 by1
      have hlen := hl
      go_wp2_with fail
      refine HK2.out _ _ ?_
      clear HK2
      refine wp_seq_k fun K3 hK => ?_
      have HK3 := Lib.hid hK
      clear hK
      clear hl hlen
      have HE0 := E0
      go_wp2_with fail
      go_loopw [29] (fun i wr => ∃ k : Nat, k ≤ 1 ∧ i = .int .i64 k ∧ Hid (wr = w1 ∧ (k = 1 → p0 = b))) (fun i _ => 2 - (intOf i).toNat)
      case atStart => exact ⟨0, by omega, rfl, Lib.hid ⟨rfl, fun h => by omega⟩⟩
      case round =>
        obtain ⟨k, hk, rfl, HW⟩ := hrel
        obtain rfl := HW.out.1
        by_cases hk0 : k = 0
        · subst hk0
          by_cases hpb : p0 = b
          · have hne : ((p0 : Int) != (b : Int)) = false := by simp [hpb]
            have HN : Hid (wr = wr ∧ (1 = 1 → p0 = b)) := Lib.hid ⟨rfl, fun _ => hpb⟩
            clear hpb HW
            go_wp2
            go_roundw
            case rel => exact ⟨1, by omega, by go_num, Lib.hid ⟨trivial, HN.out.2⟩⟩
            case measure => simp [intOf]
          · have E : Hid (o = ((p0 : Int), ((k01, k02), true))) := Lib.hid (by rw [E0.out, if_neg hpb])
            have hne : ((p0 : Int) != (b : Int)) = true := by simp; omega
            clear hpb HW
            go_wp2_with fail
            obtain ⟨d0, d1⟩ : wr.cell? ⟨w.heap.size + 1, 0, none⟩ = some (.int .i64 0) ∧ wr.cell? ⟨w.heap.size + 1, 1, none⟩ = some (.int .u32 0) := ⟨S1.out.out.cell 0, S1.out.out.cell 1⟩
            have fz0 := S1.out.out.frozen 0
            have fz1 := S1.out.out.frozen 1
            have l6 := S1.out.out.lt
            obtain ⟨VV, hV, hg, q6⟩ := two_stores (.int .i64 k01) (.int .u32 k02) S1.out.out
            have HF := Lib.hid (S1.out.below.grown hg S1.out.below.size (fun k e => by injection e with e; omega))
            refine wp_region_held_drew (S := (fun V : World => V.cell? ⟨w.heap.size, 5, none⟩ = some (.slice (some kd) x.kids.length ck) ∧ V.cell? (kd) = some (.int .i64 k01) ∧ V.cell? ⟨kd.block, kd.off + 1, none⟩ = some (.int .u32 k02))) (by kernel_rfl) ?_ (fun hHeld0 => ?_)
            · exact ⟨e5, k0', k0''⟩
            refine wpAnyH_take (i := 0) (v := ?_) rfl (by kernel_rfl) (by kernel_rfl) (by kernel_rfl) (fun _ _ _ h => h) (Or.inl ⟨by rfl, ?_⟩) hHeld0 ?_
            rotate_left
            · (intro w hSw; (try dsimp only at hSw); go_simp <;> with_reducible rfl)
            try simp only [Act.put, List.setIfInBounds_toArray, List.set_cons_zero, List.set_cons_succ]
            refine wpAnyH_take (i := 1) (v := ?_) rfl (by kernel_rfl) (by kernel_rfl) (by kernel_rfl) (fun _ _ _ h => h) (Or.inl ⟨by rfl, ?_⟩) hHeld0 ?_
            rotate_left
            · (intro w hSw; (try dsimp only at hSw); go_simp <;> with_reducible rfl)
            try simp only [Act.put, List.setIfInBounds_toArray, List.set_cons_zero, List.set_cons_succ]
            refine wpAnyH_take (i := 2) (v := ?_) rfl (by kernel_rfl) (by kernel_rfl) (by kernel_rfl) (fun _ _ _ h => h) (Or.inl ⟨by rfl, ?_⟩) hHeld0 ?_
            rotate_left
            · (intro w hSw; (try dsimp only at hSw); go_simp <;> with_reducible rfl)
            try simp only [Act.put, List.setIfInBounds_toArray, List.set_cons_zero, List.set_cons_succ]
            refine wpAnyH_take (i := 3) (v := ?_) rfl (by kernel_rfl) (by kernel_rfl) (by kernel_rfl) (fun _ _ _ h => h) (Or.inl ⟨by rfl, ?_⟩) hHeld0 ?_
            rotate_left
            · (intro w hSw; (try dsimp only at hSw); go_simp <;> with_reducible rfl)
            try simp only [Act.put, List.setIfInBounds_toArray, List.set_cons_zero, List.set_cons_succ]
            refine wpAnyH_take (i := 4) (v := ?_) rfl (by kernel_rfl) (by kernel_rfl) (by kernel_rfl) (fun _ _ _ h => h) (Or.inl ⟨by rfl, ?_⟩) hHeld0 ?_
            rotate_left
            · (intro w hSw; (try dsimp only at hSw); go_simp <;> with_reducible rfl)
            try simp only [Act.put, List.setIfInBounds_toArray, List.set_cons_zero, List.set_cons_succ]
            refine wpAnyH_take (i := 5) (v := ?_) rfl (by kernel_rfl) (by kernel_rfl) (by kernel_rfl) (fun _ _ _ h => h) (Or.inl ⟨by rfl, ?_⟩) hHeld0 ?_
            rotate_left
            · (intro w hSw; (try dsimp only at hSw); go_simp <;> with_reducible rfl)
            try simp only [Act.put, List.setIfInBounds_toArray, List.set_cons_zero, List.set_cons_succ]
            refine wpAnyH_take (i := 6) (v := ?_) rfl (by kernel_rfl) (by kernel_rfl) (by kernel_rfl) (fun _ _ _ h => h) (Or.inl ⟨by rfl, ?_⟩) hHeld0 ?_
            rotate_left
            · (intro w hSw; (try dsimp only at hSw); go_simp <;> with_reducible rfl)
            try simp only [Act.put, List.setIfInBounds_toArray, List.set_cons_zero, List.set_cons_succ]
            try simp only [Act.put, List.getElem_toArray, List.getElem_cons_succ, List.getElem_cons_zero, List.setIfInBounds_toArray, List.set_cons_zero, List.set_cons_succ]
            refine wpAnyH_ready (rs := [7]) (by kernel_rfl) (by simp) ?_
            refine AllReadyH.cons rfl (fun K hK => ?_) ?_
            · go_simp
              rw [← hV]
              clear hV d0 d1 fz0 fz1 l6
              refine hK.out _ _ ?_ (fun hHeld1 => ?_)
              · exact ⟨(World.cell?_of_block (hg.block _ (Nat.lt_trans (Nat.lt_succ_self _) S1.out.out.lt) (fun e => by injection e with e; exact absurd e (Nat.ne_of_lt (Nat.lt_succ_self w.heap.size))))).trans e5, (World.cell?_of_block (hg.block _ (by show kd.block < _; have := S1.out.out.lt; have := HLB.out; omega) (fun e => by injection e with e; have e : kd.block = w.heap.size + 1 := e; have := HLB.out; omega))).trans k0', (World.cell?_of_block (hg.block _ (by show kd.block < _; have := S1.out.out.lt; have := HLB.out; omega) (fun e => by injection e with e; have e : kd.block = w.heap.size + 1 := e; have := HLB.out; omega))).trans k0''⟩
              clear hK K hHeld0
              try simp only [Act.put, List.setIfInBounds_toArray, List.set_cons_zero, List.set_cons_succ]
              refine wpAnyH_take (i := 8) (v := ?_) rfl (by kernel_rfl) (by kernel_rfl) (by kernel_rfl) (fun _ _ _ h => h) (Or.inl ⟨by rfl, ?_⟩) hHeld1 ?_
              rotate_left
              · (intro w hSw; (try dsimp only at hSw); go_simp <;> with_reducible rfl)
              try simp only [Act.put, List.setIfInBounds_toArray, List.set_cons_zero, List.set_cons_succ]
              try simp only [Act.put, List.getElem_toArray, List.getElem_cons_succ, List.getElem_cons_zero, List.setIfInBounds_toArray, List.set_cons_zero, List.set_cons_succ]
              refine wpAnyH_done (by kernel_rfl) ?_ _
              refine (‹∀ (a : Act) (w : World), Code.wp Tryz.prog _ _ a w → _› _ _ ?_)
              go_wp2
              have c0 := q6.cell 0
              have c1 := q6.cell 1
              simp at c0 c1
              exact bodyPost_ret (v := .tuple #[.int .u8 (p0 : Int), .agg #[.int .i64 k01, .int .u32 k02], .bool true]) (by simp [results, Tryz.results28, go_sem, c0, c1]) rfl ⟨by rw [E.out], HF.out.drew⟩
            exact AllReadyH.nil
        · obtain rfl : k = 1 := by omega
          have hpb := HW.out.2 rfl
          have E : Hid (o = ((p1 : Int), ((k11, k12), true))) := Lib.hid (by rw [E0.out, if_pos hpb])
          have hne : ((p1 : Int) != (b : Int)) = true := by have := hp01; simp; omega
          clear hpb HW hp01
          go_wp2_with fail
          obtain ⟨d0, d1⟩ : wr.cell? ⟨w.heap.size + 1, 0, none⟩ = some (.int .i64 0) ∧ wr.cell? ⟨w.heap.size + 1, 1, none⟩ = some (.int .u32 0) := ⟨S1.out.out.cell 0, S1.out.out.cell 1⟩
          have fz0 := S1.out.out.frozen 0
          have fz1 := S1.out.out.frozen 1
          have l6 := S1.out.out.lt
          obtain ⟨VV, hV, hg, q6⟩ := two_stores (.int .i64 k11) (.int .u32 k12) S1.out.out
          have HF := Lib.hid (S1.out.below.grown hg S1.out.below.size (fun k e => by injection e with e; omega))
          refine wp_region_held_drew (S := (fun V : World => V.cell? ⟨w.heap.size, 5, none⟩ = some (.slice (some kd) x.kids.length ck) ∧ V.cell? (⟨kd.block, kd.off + 2, none⟩) = some (.int .i64 k11) ∧ V.cell? ⟨kd.block, kd.off + 2 + 1, none⟩ = some (.int .u32 k12))) (by kernel_rfl) ?_ (fun hHeld0 => ?_)
          · exact ⟨e5, k1', k1''⟩
          refine wpAnyH_take (i := 0) (v := ?_) rfl (by kernel_rfl) (by kernel_rfl) (by kernel_rfl) (fun _ _ _ h => h) (Or.inl ⟨by rfl, ?_⟩) hHeld0 ?_
          rotate_left
          · (intro w hSw; (try dsimp only at hSw); go_simp <;> with_reducible rfl)
          try simp only [Act.put, List.setIfInBounds_toArray, List.set_cons_zero, List.set_cons_succ]
          refine wpAnyH_take (i := 1) (v := ?_) rfl (by kernel_rfl) (by kernel_rfl) (by kernel_rfl) (fun _ _ _ h => h) (Or.inl ⟨by rfl, ?_⟩) hHeld0 ?_
          rotate_left
          · (intro w hSw; (try dsimp only at hSw); go_simp <;> with_reducible rfl)
          try simp only [Act.put, List.setIfInBounds_toArray, List.set_cons_zero, List.set_cons_succ]
          refine wpAnyH_take (i := 2) (v := ?_) rfl (by kernel_rfl) (by kernel_rfl) (by kernel_rfl) (fun _ _ _ h => h) (Or.inl ⟨by rfl, ?_⟩) hHeld0 ?_
          rotate_left
          · (intro w hSw; (try dsimp only at hSw); go_simp <;> with_reducible rfl)
          try simp only [Act.put, List.setIfInBounds_toArray, List.set_cons_zero, List.set_cons_succ]
          refine wpAnyH_take (i := 3) (v := ?_) rfl (by kernel_rfl) (by kernel_rfl) (by kernel_rfl) (fun _ _ _ h => h) (Or.inl ⟨by rfl, ?_⟩) hHeld0 ?_
          rotate_left
          · (intro w hSw; (try dsimp only at hSw); go_simp <;> with_reducible rfl)
          try simp only [Act.put, List.setIfInBounds_toArray, List.set_cons_zero, List.set_cons_succ]
          refine wpAnyH_take (i := 4) (v := ?_) rfl (by kernel_rfl) (by kernel_rfl) (by kernel_rfl) (fun _ _ _ h => h) (Or.inl ⟨by rfl, ?_⟩) hHeld0 ?_
          rotate_left
          · (intro w hSw; (try dsimp only at hSw); go_simp <;> with_reducible rfl)
          try simp only [Act.put, List.setIfInBounds_toArray, List.set_cons_zero, List.set_cons_succ]
          refine wpAnyH_take (i := 5) (v := ?_) rfl (by kernel_rfl) (by kernel_rfl) (by kernel_rfl) (fun _ _ _ h => h) (Or.inl ⟨by rfl, ?_⟩) hHeld0 ?_
          rotate_left
          · (intro w hSw; (try dsimp only at hSw); go_simp <;> with_reducible rfl)
          try simp only [Act.put, List.setIfInBounds_toArray, List.set_cons_zero, List.set_cons_succ]
          refine wpAnyH_take (i := 6) (v := ?_) rfl (by kernel_rfl) (by kernel_rfl) (by kernel_rfl) (fun _ _ _ h => h) (Or.inl ⟨by rfl, ?_⟩) hHeld0 ?_
          rotate_left
          · (intro w hSw; (try dsimp only at hSw); go_simp <;> with_reducible rfl)
          try simp only [Act.put, List.setIfInBounds_toArray, List.set_cons_zero, List.set_cons_succ]
          try simp only [Act.put, List.getElem_toArray, List.getElem_cons_succ, List.getElem_cons_zero, List.setIfInBounds_toArray, List.set_cons_zero, List.set_cons_succ]
          refine wpAnyH_ready (rs := [7]) (by kernel_rfl) (by simp) ?_
          refine AllReadyH.cons rfl (fun K hK => ?_) ?_
          · go_simp
            rw [← hV]
            clear hV d0 d1 fz0 fz1 l6
            refine hK.out _ _ ?_ (fun hHeld1 => ?_)
            · exact ⟨(World.cell?_of_block (hg.block _ (Nat.lt_trans (Nat.lt_succ_self _) S1.out.out.lt) (fun e => by injection e with e; exact absurd e (Nat.ne_of_lt (Nat.lt_succ_self w.heap.size))))).trans e5, (World.cell?_of_block (hg.block _ (by show kd.block < _; have := S1.out.out.lt; have := HLB.out; omega) (fun e => by injection e with e; have e : kd.block = w.heap.size + 1 := e; have := HLB.out; omega))).trans k1', (World.cell?_of_block (hg.block _ (by show kd.block < _; have := S1.out.out.lt; have := HLB.out; omega) (fun e => by injection e with e; have e : kd.block = w.heap.size + 1 := e; have := HLB.out; omega))).trans k1''⟩
            clear hK K hHeld0
            try simp only [Act.put, List.setIfInBounds_toArray, List.set_cons_zero, List.set_cons_succ]
            refine wpAnyH_take (i := 8) (v := ?_) rfl (by kernel_rfl) (by kernel_rfl) (by kernel_rfl) (fun _ _ _ h => h) (Or.inl ⟨by rfl, ?_⟩) hHeld1 ?_
            rotate_left
            · (intro w hSw; (try dsimp only at hSw); go_simp <;> with_reducible rfl)
            try simp only [Act.put, List.setIfInBounds_toArray, List.set_cons_zero, List.set_cons_succ]
            try simp only [Act.put, List.getElem_toArray, List.getElem_cons_succ, List.getElem_cons_zero, List.setIfInBounds_toArray, List.set_cons_zero, List.set_cons_succ]
            refine wpAnyH_done (by kernel_rfl) ?_ _
            refine (‹∀ (a : Act) (w : World), Code.wp Tryz.prog _ _ a w → _› _ _ ?_)
            go_wp2
            have c0 := q6.cell 0
            have c1 := q6.cell 1
            simp at c0 c1
            exact bodyPost_ret (v := .tuple #[.int .u8 (p1 : Int), .agg #[.int .i64 k11, .int .u32 k12], .bool true]) (by simp [results, Tryz.results28, go_sem, c0, c1]) rfl ⟨by rw [E.out], HF.out.drew⟩
          exact AllReadyH.nil
    · have E : Hid (o = (0, ((0, 0), false))) := Lib.hid (by rw [HO.out]; unfold restN; rw [if_neg (fun h => hl h.2)])
      have hl2 : ((x.kids.length : Int) != 2) = true := by simp; omega
      obtain ⟨d0, d1⟩ : w1.cell? ⟨w.heap.size + 1, 0, none⟩ = some (.int .i64 0) ∧ w1.cell? ⟨w.heap.size + 1, 1, none⟩ = some (.int .u32 0) := ⟨S1.out.out.cell 0, S1.out.out.cell 1⟩
      have fz0 := S1.out.out.frozen 0
      have fz1 := S1.out.out.frozen 1
      have l6 := S1.out.out.lt
      obtain ⟨VV, hV, hg, q6⟩ := two_stores (.int .i64 0) (.int .u32 0) S1.out.out
      have HF := Lib.hid (S1.out.below.grown hg S1.out.below.size (fun k e => by injection e with e; omega))
      go_wp2
      rw [← hV]
      clear hV d0 d1 fz0 fz1 l6
      have c0 := q6.cell 0
      have c1 := q6.cell 1
      simp at c0 c1
      exact bodyPost_ret (v := .tuple #[.int .u8 0, .agg #[.int .i64 0, .int .u32 0], .bool false]) (by simp [results, Tryz.results28, go_sem, c0, c1]) rfl ⟨by rw [E.out], HF.out⟩
end Go.Proofs.YtgjgcbemgmkncaaGreatDoor
namespace Go.Proofs.YtgjgcbemgmkncaaGreatDoor
open Go.RowKit Go.Shelf
set_option linter.unusedVariables false
set_option linter.unusedSimpArgs false

theorem MkW.add {w W : World} {lo : Nat} {bs : List (Nat × TypeId × Array Value)} (h : MkW w lo bs W) (t : TypeId) (cs : Array Value) : MkW w (W.heap.size + 1) ((W.heap.size, t, cs) :: bs) (W.alloc (.cells cs t)) := by
  have hb := below_box W (.cells cs t)
  refine ⟨h.below.trans (hb.mono h.below.size), by simp, by have := h.wlo; have := h.size; omega, fun p hp => ?_⟩
  rcases List.mem_cons.1 hp with rfl | hp
  · exact ⟨by dsimp only; omega, Blk.new _ _ _⟩
  · exact ⟨by have := (h.blk p hp).1; have := h.size; omega, (h.blk p hp).2.alloc _⟩
theorem MkW.get {w W : World} {lo : Nat} {bs : List (Nat × TypeId × Array Value)} (h : MkW w lo bs W) {g : Nat} {t : TypeId} {cs : Array Value} (hm : (g, t, cs) ∈ bs) : Blk W g t cs := (h.blk _ hm).2

set_option maxHeartbeats 6400000 in
set_option maxRecDepth 100000 in
theorem tells2 {u0 u4 u5 u6 u7 u8 u9 u10 u11 u12 u13 u14 u15 u16 u17 u18 u19 u20 u21 u22 u23 u24 u25 u26 u27 u28 u29 u30 u31 u32 u33 u34 u35 u36 u37 u38 u39 u40 u41 u42 u43 u44 u45 u46 u47 u48 u49 u50 u51 u52 u53 u54 u55 u56 u57 u58 u59 u60 u61 u62 u63 u64 u65 u66 u67 u68 u69 u70 u71 u72 u73 u74 u75 u76 u77 u78 u79 u80 u81 u82 u83 u84 u85 u86 u87 u88 u89 u90 u91 u92 u93 u94 u95 u96 u97 u98 u99 u100 u101 u102 u103 u104 u105 u106 u107 u108 u109 u110 u111 u112 u113 u114 u115 u116 u117 u118 u119 : Value} (x : Nd) (b : Nat) (c : Int) (w W : World) (g0 lo : Nat) (Ab : Option Addr) (cb : Nat) (Ak : Option Addr) (ck : Nat) (h : MkW w lo [(g0, 26, #[.int .i64 x.kind, .string x.code, .string x.value, .string x.path, .slice Ab x.bytes.length cb, .slice Ak x.kids.length ck])] W) (hn : ∀ W, Below w.heap.size w W → NdAt W x (.agg #[.int .i64 x.kind, .string x.code, .string x.value, .string x.path, .slice Ab x.bytes.length cb, .slice Ak x.kids.length ck]) ∧ RoomsAt W) (hb256 : b < 256) :
    Code.wp Tryz.prog (bodyTail Tryz.f9 2) (bodyPost Tryz.prog Tryz.f9 (BoolEnd true w)) ⟨#[u0, .int .u8 (b : Int), .int .i64 c, .pointer (some ⟨g0, 0, none⟩), u4, u5, u6, u7, u8, u9, u10, u11, u12, u13, u14, u15, u16, u17, u18, u19, u20, u21, u22, u23, u24, u25, u26, u27, u28, u29, u30, u31, u32, u33, u34, u35, u36, u37, u38, u39, u40, u41, u42, u43, u44, u45, u46, u47, u48, u49, u50, u51, u52, u53, u54, u55, u56, u57, u58, u59, u60, u61, u62, u63, u64, u65, u66, u67, u68, u69, u70, u71, u72, u73, u74, u75, u76, u77, u78, u79, u80, u81, u82, u83, u84, u85, u86, u87, u88, u89, u90, u91, u92, u93, u94, u95, u96, u97, u98, u99, u100, u101, u102, u103, u104, u105, u106, u107, u108, u109, u110, u111, u112, u113, u114, u115, u116, u117, u118, u119], []⟩ W := by
  conv => arg 2; whnf
  have HC : Hid (∀ V, Below w.heap.size w V → (Calls Tryz.prog 24 #[.agg #[.int .i64 x.kind, .string x.code, .string x.value, .string x.path, .slice Ab x.bytes.length cb, .slice Ak x.kids.length ck], .int .u8 (b : Int)] V (TwoEnd (optV (findN x b)) (.bool (findN x b).isSome) V)) ∧ (Calls Tryz.prog 25 #[.agg #[.int .i64 x.kind, .string x.code, .string x.value, .string x.path, .slice Ab x.bytes.length cb, .slice Ak x.kids.length ck], .int .u8 (b : Int)] V (TwoEnd (optV (findN x b)) (.bool (findN x b).isSome) V)) ∧ (Calls Tryz.prog 26 #[.agg #[.int .i64 x.kind, .string x.code, .string x.value, .string x.path, .slice Ab x.bytes.length cb, .slice Ak x.kids.length ck], .int .i64 c] V (ThreeEnd (.int .u8 (nextN x c).1) (refV (nextN x c).2.1) (.bool (nextN x c).2.2) V)) ∧ (Calls Tryz.prog 27 #[.agg #[.int .i64 x.kind, .string x.code, .string x.value, .string x.path, .slice Ab x.bytes.length cb, .slice Ak x.kids.length ck], .int .i64 c] V (ThreeEnd (.int .u8 (nextN x c).1) (refV (nextN x c).2.1) (.bool (nextN x c).2.2) V)) ∧ (Calls Tryz.prog 28 #[.agg #[.int .i64 x.kind, .string x.code, .string x.value, .string x.path, .slice Ab x.bytes.length cb, .slice Ak x.kids.length ck], .int .u8 (b : Int)] V (ThreeEnd (.int .u8 (restN x b).1) (refV (restN x b).2.1) (.bool (restN x b).2.2) V)) ∧ (Calls Tryz.prog 29 #[.agg #[.int .i64 x.kind, .string x.code, .string x.value, .string x.path, .slice Ab x.bytes.length cb, .slice Ak x.kids.length ck], .int .u8 (b : Int)] V (ThreeEnd (.int .u8 (restN x b).1) (refV (restN x b).2.1) (.bool (restN x b).2.2) V))) := Lib.hid (fun V hb => by
    have h := hn V hb
    exact ⟨Find_n x _ b V h.1 h.2 hb256, Find_r x _ b V h.1 hb256, Next_n x _ c V h.1 h.2, Next_r x _ c V h.1, Rest_n x _ b V h.1 h.2 hb256, Rest_r x _ b V h.1 hb256⟩)
  clear hn
  unfold optV refV at HC
  generalize (findN x b).isSome = fb at HC
  generalize (findN x b).getD (0, 0) = fq at HC
  generalize (nextN x c).2.2 = nb at HC
  generalize (nextN x c).2.1 = nq at HC
  generalize (nextN x c).1 = nc at HC
  generalize (restN x b).2.2 = rb at HC
  generalize (restN x b).2.1 = rq at HC
  generalize (restN x b).1 = rc at HC
  obtain ⟨fq1, fq2⟩ := fq
  obtain ⟨nq1, nq2⟩ := nq
  obtain ⟨rq1, rq2⟩ := rq
  dsimp only at HC
  have H0 := Lib.hid h
  clear h
  refine wp_seq_k fun K0 hK => ?_
  have HK0 := Lib.hid hK
  clear hK
  obtain ⟨e0, e1, e2, e3, e4, e5⟩ := cells6 (H0.out.get (g := g0) (t := 26) (cs := #[.int .i64 x.kind, .string x.code, .string x.value, .string x.path, .slice Ab x.bytes.length cb, .slice Ak x.kids.length ck]) (by simp))
  have hc := (HC.out W H0.out.below).1
  have HX := Lib.hid hc
  clear hc
  go_wp2_with fail
  refine HX.out.mono ?_
  rintro e v1 ⟨rfl, hb⟩
  have H1 := Lib.hid ((H0.out.on hb).add 29 #[.int .i64 fq1, .int .u32 fq2])
  clear hb HX H0 e0 e1 e2 e3 e4 e5
  go_wp2_with fail
  refine HK0.out _ _ ?_
  clear HK0
  generalize v1.alloc _ = W1 at H1 ⊢
  generalize v1.heap.size = g1 at H1 ⊢
  refine wp_seq_k fun K1 hK => ?_
  have HK1 := Lib.hid hK
  clear hK
  obtain ⟨e0, e1, e2, e3, e4, e5⟩ := cells6 (H1.out.get (g := g0) (t := 26) (cs := #[.int .i64 x.kind, .string x.code, .string x.value, .string x.path, .slice Ab x.bytes.length cb, .slice Ak x.kids.length ck]) (by simp))
  have hc := (HC.out W1 H1.out.below).2.1
  have HX := Lib.hid hc
  clear hc
  go_wp2_with fail
  refine HX.out.mono ?_
  rintro e v2 ⟨rfl, hb⟩
  have H2 := Lib.hid ((H1.out.on hb).add 29 #[.int .i64 fq1, .int .u32 fq2])
  clear hb HX H1 e0 e1 e2 e3 e4 e5
  go_wp2_with fail
  refine HK1.out _ _ ?_
  clear HK1
  generalize v2.alloc _ = W2 at H2 ⊢
  generalize v2.heap.size = g2 at H2 ⊢
  refine wp_seq_k fun K2 hK => ?_
  have HK2 := Lib.hid hK
  clear hK
  obtain ⟨e0, e1, e2, e3, e4, e5⟩ := cells6 (H2.out.get (g := g0) (t := 26) (cs := #[.int .i64 x.kind, .string x.code, .string x.value, .string x.path, .slice Ab x.bytes.length cb, .slice Ak x.kids.length ck]) (by simp))
  have hc := (HC.out W2 H2.out.below).2.2.1
  have HX := Lib.hid hc
  clear hc
  go_wp2_with fail
  refine HX.out.mono ?_
  rintro e v3 ⟨rfl, hb⟩
  have H3 := Lib.hid ((H2.out.on hb).add 29 #[.int .i64 nq1, .int .u32 nq2])
  clear hb HX H2 e0 e1 e2 e3 e4 e5
  go_wp2_with fail
  refine HK2.out _ _ ?_
  clear HK2
  generalize v3.alloc _ = W3 at H3 ⊢
  generalize v3.heap.size = g3 at H3 ⊢
  refine wp_seq_k fun K3 hK => ?_
  have HK3 := Lib.hid hK
  clear hK
  obtain ⟨e0, e1, e2, e3, e4, e5⟩ := cells6 (H3.out.get (g := g0) (t := 26) (cs := #[.int .i64 x.kind, .string x.code, .string x.value, .string x.path, .slice Ab x.bytes.length cb, .slice Ak x.kids.length ck]) (by simp))
  have hc := (HC.out W3 H3.out.below).2.2.2.1
  have HX := Lib.hid hc
  clear hc
  go_wp2_with fail
  refine HX.out.mono ?_
  rintro e v4 ⟨rfl, hb⟩
  have H4 := Lib.hid ((H3.out.on hb).add 29 #[.int .i64 nq1, .int .u32 nq2])
  clear hb HX H3 e0 e1 e2 e3 e4 e5
  go_wp2_with fail
  refine HK3.out _ _ ?_
  clear HK3
  generalize v4.alloc _ = W4 at H4 ⊢
  generalize v4.heap.size = g4 at H4 ⊢
  refine wp_seq_k fun K4 hK => ?_
  have HK4 := Lib.hid hK
  clear hK
  obtain ⟨e0, e1, e2, e3, e4, e5⟩ := cells6 (H4.out.get (g := g0) (t := 26) (cs := #[.int .i64 x.kind, .string x.code, .string x.value, .string x.path, .slice Ab x.bytes.length cb, .slice Ak x.kids.length ck]) (by simp))
  have hc := (HC.out W4 H4.out.below).2.2.2.2.1
  have HX := Lib.hid hc
  clear hc
  go_wp2_with fail
  refine HX.out.mono ?_
  rintro e v5 ⟨rfl, hb⟩
  have H5 := Lib.hid ((H4.out.on hb).add 29 #[.int .i64 rq1, .int .u32 rq2])
  clear hb HX H4 e0 e1 e2 e3 e4 e5
  go_wp2_with fail
  refine HK4.out _ _ ?_
  clear HK4
  generalize v5.alloc _ = W5 at H5 ⊢
  generalize v5.heap.size = g5 at H5 ⊢
  refine wp_seq_k fun K5 hK => ?_
  have HK5 := Lib.hid hK
  clear hK
  obtain ⟨e0, e1, e2, e3, e4, e5⟩ := cells6 (H5.out.get (g := g0) (t := 26) (cs := #[.int .i64 x.kind, .string x.code, .string x.value, .string x.path, .slice Ab x.bytes.length cb, .slice Ak x.kids.length ck]) (by simp))
  have hc := (HC.out W5 H5.out.below).2.2.2.2.2
  have HX := Lib.hid hc
  clear hc
  go_wp2_with fail
  refine HX.out.mono ?_
  rintro e v6 ⟨rfl, hb⟩
  have H6 := Lib.hid ((H5.out.on hb).add 29 #[.int .i64 rq1, .int .u32 rq2])
  clear hb HX H5 e0 e1 e2 e3 e4 e5
  go_wp2_with fail
  refine HK5.out _ _ ?_
  clear HK5
  generalize v6.alloc _ = W6 at H6 ⊢
  generalize v6.heap.size = g6 at H6 ⊢
  have c0 := (H6.out.get (g := g1) (t := 29) (cs := #[.int .i64 fq1, .int .u32 fq2]) (by simp)).cell 0
  have d0 := (H6.out.get (g := g1) (t := 29) (cs := #[.int .i64 fq1, .int .u32 fq2]) (by simp)).cell 1
  have c1 := (H6.out.get (g := g2) (t := 29) (cs := #[.int .i64 fq1, .int .u32 fq2]) (by simp)).cell 0
  have d1 := (H6.out.get (g := g2) (t := 29) (cs := #[.int .i64 fq1, .int .u32 fq2]) (by simp)).cell 1
  have c2 := (H6.out.get (g := g3) (t := 29) (cs := #[.int .i64 nq1, .int .u32 nq2]) (by simp)).cell 0
  have d2 := (H6.out.get (g := g3) (t := 29) (cs := #[.int .i64 nq1, .int .u32 nq2]) (by simp)).cell 1
  have c3 := (H6.out.get (g := g4) (t := 29) (cs := #[.int .i64 nq1, .int .u32 nq2]) (by simp)).cell 0
  have d3 := (H6.out.get (g := g4) (t := 29) (cs := #[.int .i64 nq1, .int .u32 nq2]) (by simp)).cell 1
  have c4 := (H6.out.get (g := g5) (t := 29) (cs := #[.int .i64 rq1, .int .u32 rq2]) (by simp)).cell 0
  have d4 := (H6.out.get (g := g5) (t := 29) (cs := #[.int .i64 rq1, .int .u32 rq2]) (by simp)).cell 1
  have c5 := (H6.out.get (g := g6) (t := 29) (cs := #[.int .i64 rq1, .int .u32 rq2]) (by simp)).cell 0
  have d5 := (H6.out.get (g := g6) (t := 29) (cs := #[.int .i64 rq1, .int .u32 rq2]) (by simp)).cell 1
  simp only [List.getElem?_toArray, List.getElem?_cons_zero, List.getElem?_cons_succ] at c0 c1 c2 c3 c4 c5 d0 d1 d2 d3 d4 d5
  go_wp2
  go_ret
  exact ⟨by simp, H6.out.below⟩
end Go.Proofs.YtgjgcbemgmkncaaGreatDoor
namespace Go.Proofs.YtgjgcbemgmkncaaGreatDoor
open Go.RowKit Go.Shelf
set_option linter.unusedVariables false
set_option linter.unusedSimpArgs false

set_option maxHeartbeats 6400000 in
set_option maxRecDepth 100000 in
/-- The three questions: the program's answers are the reference's. -/
theorem tells_n (x : Nd) (V : Value) (b : Nat) (c : Int) (w : World) (h : NdAt w x V) (hr : RoomsAt w) (hb256 : b < 256) : Calls Tryz.prog 9 #[V, .int .u8 (b : Int), .int .i64 c] w (BoolEnd true w) := by
  obtain ⟨hwf, Ab, cb, Ak, ck, rfl, hb0, hk0⟩ := h
  have hnd : NdAt w x (x.v Ab cb Ak ck) := ⟨hwf, Ab, cb, Ak, ck, rfl, hb0, hk0⟩
  have hlc := hwf.lc
  have H0 := Lib.hid ((MkW.start w).add 26 #[.int .i64 x.kind, .string x.code, .string x.value, .string x.path, .slice Ab x.bytes.length cb, .slice Ak x.kids.length ck])
  unfold Nd.v at hnd ⊢
  have HN : Hid (∀ W, Below w.heap.size w W → NdAt W x (.agg #[.int .i64 x.kind, .string x.code, .string x.value, .string x.path, .slice Ab x.bytes.length cb, .slice Ak x.kids.length ck]) ∧ RoomsAt W) := Lib.hid (fun W hb => ⟨hnd.below hb, hr.on hb⟩)
  have HLC := Lib.hid hlc
  clear hwf hb0 hk0 hnd hlc hr
  generalize hG : w.heap.size = g0 at H0
  go_enter Tryz.func9, Tryz.ntmps9
  refine wp_seq_k fun K0 hK => ?_
  have HK0 := Lib.hid hK
  clear hK
  go_wp2_with fail
  refine HK0.out _ _ ?_
  clear HK0
  clear hG
  generalize w.alloc _ = w0 at H0 ⊢
  refine wp_seq_k fun KA hK => ?_
  have HKA := Lib.hid hK
  clear hK
  refine wp_seq_k fun K1 hK => ?_
  have HK1 := Lib.hid hK
  clear hK
  have HS : Hid (∀ W : World, Below w0.heap.size w0 W → (fun V : World => V.cell? ⟨g0, 0, none⟩ = some (.int .i64 x.kind) ∧ V.cell? ⟨g0, 1, none⟩ = some (.string x.code) ∧ V.cell? ⟨g0, 2, none⟩ = some (.string x.value) ∧ V.cell? ⟨g0, 3, none⟩ = some (.string x.path) ∧ V.cell? ⟨g0, 4, none⟩ = some (.slice Ab x.bytes.length cb) ∧ V.cell? ⟨g0, 5, none⟩ = some (.slice Ak x.kids.length ck)) W) := Lib.hid (fun W hb => cells6 ((H0.out.on hb).get (g := g0) (t := 26) (cs := #[.int .i64 x.kind, .string x.code, .string x.value, .string x.path, .slice Ab x.bytes.length cb, .slice Ak x.kids.length ck]) (by simp)))
  have HB0 : Hid (Below w0.heap.size w0 w0.drew) := Lib.hid (Below.refl _ _).drew
  have HC : Hid (∀ W, Below w0.heap.size w0 W → (Calls Tryz.prog 19 #[.agg #[.int .i64 x.kind, .string x.code, .string x.value, .string x.path, .slice Ab x.bytes.length cb, .slice Ak x.kids.length ck]] W (BoolEnd x.rightN W)) ∧ (Calls Tryz.prog 21 #[.agg #[.int .i64 x.kind, .string x.code, .string x.value, .string x.path, .slice Ab x.bytes.length cb, .slice Ak x.kids.length ck]] W (BoolEnd x.rightN W)) ∧ (Calls Tryz.prog 20 #[.agg #[.int .i64 x.kind, .string x.code, .string x.value, .string x.path, .slice Ab x.bytes.length cb, .slice Ak x.kids.length ck]] W (BoolEnd x.isAnchor W)) ∧ (Calls Tryz.prog 22 #[.agg #[.int .i64 x.kind, .string x.code, .string x.value, .string x.path, .slice Ab x.bytes.length cb, .slice Ak x.kids.length ck]] W (BoolEnd x.isAnchor W)) ∧ (Calls Tryz.prog 18 #[.agg #[.int .i64 x.kind, .string x.code, .string x.value, .string x.path, .slice Ab x.bytes.length cb, .slice Ak x.kids.length ck]] W (BoolEnd x.full W)) ∧ (Calls Tryz.prog 23 #[.agg #[.int .i64 x.kind, .string x.code, .string x.value, .string x.path, .slice Ab x.bytes.length cb, .slice Ak x.kids.length ck]] W (BoolEnd x.full W))) := Lib.hid (fun W hb => by
    have hn := (HN.out W (H0.out.on hb).below)
    exact ⟨Right_n x _ W hn.1 hn.2 HLC.out, Right_r x _ W hn.1, Anchor_n x _ W hn.1 hn.2, anchor_r x _ W hn.1, Full_n x _ W hn.1 hn.2, Full_r x _ W hn.1⟩)
  generalize x.rightN = p1 at HC
  generalize x.isAnchor = p2 at HC
  generalize x.full = p3 at HC
  have n1 : (p1 != p1) = false := by simp
  have n2 : (p2 != p2) = false := by simp
  have n3 : (p3 != p3) = false := by simp
  refine wp_region_noPanic ?_
  refine wp_region_held_drew (S := (fun V : World => V.cell? ⟨g0, 0, none⟩ = some (.int .i64 x.kind) ∧ V.cell? ⟨g0, 1, none⟩ = some (.string x.code) ∧ V.cell? ⟨g0, 2, none⟩ = some (.string x.value) ∧ V.cell? ⟨g0, 3, none⟩ = some (.string x.path) ∧ V.cell? ⟨g0, 4, none⟩ = some (.slice Ab x.bytes.length cb) ∧ V.cell? ⟨g0, 5, none⟩ = some (.slice Ak x.kids.length ck))) (by kernel_rfl) ?_ (fun hHeld0 => ?_)
  · exact HS.out _ HB0.out
  refine wpAnyH_take (i := 0) (v := ?_) rfl (by kernel_rfl) (by kernel_rfl) (by kernel_rfl) (fun _ _ _ h => h) (Or.inl ⟨by rfl, ?_⟩) hHeld0 ?_
  rotate_left
  · (intro w hSw; (try dsimp only at hSw); go_simp <;> with_reducible rfl)
  try simp only [Act.put, List.setIfInBounds_toArray, List.set_cons_zero, List.set_cons_succ]
  refine wpAnyH_take (i := 2) (v := ?_) rfl (by kernel_rfl) (by kernel_rfl) (by kernel_rfl) (fun _ _ _ h => h) (Or.inl ⟨by rfl, ?_⟩) hHeld0 ?_
  rotate_left
  · (intro w hSw; (try dsimp only at hSw); go_simp <;> with_reducible rfl)
  try simp only [Act.put, List.setIfInBounds_toArray, List.set_cons_zero, List.set_cons_succ]
  refine wpAnyH_ready (rs := [1]) (by kernel_rfl) (by simp) ?_
  refine AllReadyH.cons rfl (fun K hK => ?_) ?_
  · go_simp
    refine (HC.out _ HB0.out).1.mono ?_
    rintro e w1 ⟨rfl, hb⟩
    have HB1 := Lib.hid (HB0.out.trans (hb.mono HB0.out.size))
    clear hb
    refine hK.out _ _ ?_ (fun hHeld1 => ?_)
    · exact HS.out _ HB1.out
    clear hK K hHeld0
    try simp only [Act.put, List.setIfInBounds_toArray, List.set_cons_zero, List.set_cons_succ]
    refine wpAnyH_ready (rs := [3]) (by kernel_rfl) (by simp) ?_
    refine AllReadyH.cons rfl (fun K hK => ?_) ?_
    · go_simp
      refine (HC.out _ HB1.out).2.1.mono ?_
      rintro e w2 ⟨rfl, hb⟩
      have HB2 := Lib.hid (HB1.out.trans (hb.mono HB1.out.size))
      clear hb
      refine hK.out _ _ ?_ (fun hHeld2 => ?_)
      · exact HS.out _ HB2.out
      clear hK K hHeld1
      try simp only [Act.put, List.setIfInBounds_toArray, List.set_cons_zero, List.set_cons_succ]
      refine wpAnyH_take (i := 4) (v := ?_) rfl (by kernel_rfl) (by kernel_rfl) (by kernel_rfl) (fun _ _ _ h => h) (Or.inl ⟨by rfl, ?_⟩) hHeld2 ?_
      rotate_left
      · (intro w hSw; (try dsimp only at hSw); go_simp <;> with_reducible rfl)
      try simp only [Act.put, List.setIfInBounds_toArray, List.set_cons_zero, List.set_cons_succ]
      refine wpAnyH_take (i := 5) (v := ?_) rfl (by kernel_rfl) (by kernel_rfl) (by kernel_rfl) (fun _ _ _ h => h) (Or.inl ⟨by rfl, ?_⟩) hHeld2 ?_
      rotate_left
      · (intro w hSw; (try dsimp only at hSw); go_simp <;> with_reducible rfl)
      try simp only [Act.put, List.setIfInBounds_toArray, List.set_cons_zero, List.set_cons_succ]
      refine wpAnyH_take (i := 6) (v := ?_) rfl (by kernel_rfl) (by kernel_rfl) (by kernel_rfl) (fun _ _ _ h => h) (Or.inl ⟨by kernel_rfl, ?_⟩) hHeld2 ?_
      rotate_left
      · (intro w hSw; (try dsimp only at hSw); go_simp <;> with_reducible rfl)
      try simp only [Act.put, List.setIfInBounds_toArray, List.set_cons_zero, List.set_cons_succ]
      refine wpAnyH_take (i := 8) (v := ?_) rfl (by kernel_rfl) (by kernel_rfl) (by kernel_rfl) (fun _ _ _ h => h) (Or.inl ⟨by kernel_rfl, ?_⟩) hHeld2 ?_
      rotate_left
      · (intro w hSw; (try dsimp only at hSw); go_simp <;> with_reducible rfl)
      try simp only [Act.put, List.setIfInBounds_toArray, List.set_cons_zero, List.set_cons_succ]
      refine wpAnyH_ready (rs := [7]) (by kernel_rfl) (by simp) ?_
      refine AllReadyH.cons rfl (fun K hK => ?_) ?_
      · go_simp
        refine (HC.out _ HB2.out).2.2.1.mono ?_
        rintro e w3 ⟨rfl, hb⟩
        have HB3 := Lib.hid (HB2.out.trans (hb.mono HB2.out.size))
        clear hb
        refine hK.out _ _ ?_ (fun hHeld3 => ?_)
        · exact HS.out _ HB3.out
        clear hK K hHeld2
        try simp only [Act.put, List.setIfInBounds_toArray, List.set_cons_zero, List.set_cons_succ]
        refine wpAnyH_ready (rs := [9]) (by kernel_rfl) (by simp) ?_
        refine AllReadyH.cons rfl (fun K hK => ?_) ?_
        · go_simp
          refine (HC.out _ HB3.out).2.2.2.1.mono ?_
          rintro e w4 ⟨rfl, hb⟩
          have HB4 := Lib.hid (HB3.out.trans (hb.mono HB3.out.size))
          clear hb
          refine hK.out _ _ ?_ (fun hHeld4 => ?_)
          · exact HS.out _ HB4.out
          clear hK K hHeld3
          try simp only [Act.put, List.setIfInBounds_toArray, List.set_cons_zero, List.set_cons_succ]
          refine wpAnyH_take (i := 10) (v := ?_) rfl (by kernel_rfl) (by kernel_rfl) (by kernel_rfl) (fun _ _ _ h => h) (Or.inl ⟨by kernel_rfl, ?_⟩) hHeld4 ?_
          rotate_left
          · (intro w hSw; (try dsimp only at hSw); go_simp <;> with_reducible rfl)
          try simp only [Act.put, List.setIfInBounds_toArray, List.set_cons_zero, List.set_cons_succ]
          refine wpAnyH_take (i := 11) (v := ?_) rfl (by kernel_rfl) (by kernel_rfl) (by kernel_rfl) (fun _ _ _ h => h) (Or.inl ⟨by kernel_rfl, ?_⟩) hHeld4 ?_
          rotate_left
          · (intro w hSw; (try dsimp only at hSw); go_simp <;> with_reducible rfl)
          try simp only [Act.put, List.setIfInBounds_toArray, List.set_cons_zero, List.set_cons_succ]
          refine wpAnyH_take (i := 12) (v := ?_) rfl (by kernel_rfl) (by kernel_rfl) (by kernel_rfl) (fun _ _ _ h => h) (Or.inl ⟨by rfl, ?_⟩) hHeld4 ?_
          rotate_left
          · (intro w hSw; (try dsimp only at hSw); go_simp <;> with_reducible rfl)
          try simp only [Act.put, List.setIfInBounds_toArray, List.set_cons_zero, List.set_cons_succ]
          refine wpAnyH_take (i := 13) (v := ?_) rfl (by kernel_rfl) (by kernel_rfl) (by kernel_rfl) (fun _ _ _ h => h) (Or.inl ⟨by kernel_rfl, ?_⟩) hHeld4 ?_
          rotate_left
          · (intro w hSw; (try dsimp only at hSw); go_simp <;> with_reducible rfl)
          try simp only [Act.put, List.setIfInBounds_toArray, List.set_cons_zero, List.set_cons_succ]
          refine wpAnyH_take (i := 15) (v := ?_) rfl (by kernel_rfl) (by kernel_rfl) (by kernel_rfl) (fun _ _ _ h => h) (Or.inl ⟨by kernel_rfl, ?_⟩) hHeld4 ?_
          rotate_left
          · (intro w hSw; (try dsimp only at hSw); go_simp <;> with_reducible rfl)
          try simp only [Act.put, List.setIfInBounds_toArray, List.set_cons_zero, List.set_cons_succ]
          refine wpAnyH_ready (rs := [14]) (by kernel_rfl) (by simp) ?_
          refine AllReadyH.cons rfl (fun K hK => ?_) ?_
          · go_simp
            refine (HC.out _ HB4.out).2.2.2.2.1.mono ?_
            rintro e w5 ⟨rfl, hb⟩
            have HB5 := Lib.hid (HB4.out.trans (hb.mono HB4.out.size))
            clear hb
            refine hK.out _ _ ?_ (fun hHeld5 => ?_)
            · exact HS.out _ HB5.out
            clear hK K hHeld4
            try simp only [Act.put, List.setIfInBounds_toArray, List.set_cons_zero, List.set_cons_succ]
            refine wpAnyH_ready (rs := [16]) (by kernel_rfl) (by simp) ?_
            refine AllReadyH.cons rfl (fun K hK => ?_) ?_
            · go_simp
              refine (HC.out _ HB5.out).2.2.2.2.2.mono ?_
              rintro e w6 ⟨rfl, hb⟩
              have HB6 := Lib.hid (HB5.out.trans (hb.mono HB5.out.size))
              clear hb
              refine hK.out _ _ ?_ (fun hHeld6 => ?_)
              · exact HS.out _ HB6.out
              clear hK K hHeld5
              try simp only [Act.put, List.setIfInBounds_toArray, List.set_cons_zero, List.set_cons_succ]
              refine wpAnyH_take (i := 17) (v := ?_) rfl (by kernel_rfl) (by kernel_rfl) (by kernel_rfl) (fun _ _ _ h => h) (Or.inl ⟨by kernel_rfl, ?_⟩) hHeld6 ?_
              rotate_left
              · (intro w hSw; (try dsimp only at hSw); go_simp <;> with_reducible rfl)
              try simp only [Act.put, List.setIfInBounds_toArray, List.set_cons_zero, List.set_cons_succ]
              refine wpAnyH_take (i := 18) (v := ?_) rfl (by kernel_rfl) (by kernel_rfl) (by kernel_rfl) (fun _ _ _ h => h) (Or.inl ⟨by kernel_rfl, ?_⟩) hHeld6 ?_
              rotate_left
              · (intro w hSw; (try dsimp only at hSw); go_simp <;> with_reducible rfl)
              try simp only [Act.put, List.setIfInBounds_toArray, List.set_cons_zero, List.set_cons_succ]
              try simp only [Act.put, List.getElem_toArray, List.getElem_cons_succ, List.getElem_cons_zero, List.setIfInBounds_toArray, List.set_cons_zero, List.set_cons_succ]
              refine wpAnyH_done (by kernel_rfl) ?_ _
              refine NoPanic.normal ?_
              refine HK1.out _ _ ?_
              clear HK1
              have S0 := Lib.hid (H0.out.on HB6.out)
              clear H0 HC HS HB0 HB1 HB2 HB3 HB4 HB5 HB6 n1 n2 n3
              go_wp2_with fail
              refine HKA.out _ _ ?_
              clear HKA
              exact tells2 x b c w w6 g0 _ Ab cb Ak ck S0.out (fun W hb => (HN.out W hb)) hb256
            exact AllReadyH.nil
          exact AllReadyH.nil
        exact AllReadyH.nil
      exact AllReadyH.nil
    exact AllReadyH.nil
  exact AllReadyH.nil
end Go.Proofs.YtgjgcbemgmkncaaGreatDoor
namespace Go.Proofs.YtgjgcbemgmkncaaGreatDoor
open Go.RowKit Go.Shelf
set_option linter.unusedVariables false
set_option linter.unusedSimpArgs false

theorem ownsRow_more {w : World} {B base size n : Nat} {e : TypeId} {v : Value} {xs : List Value} (h : w.ownsRow base e size v n xs) (hB : B ≤ base) : w.ownsRow B e size v n xs := by
  refine ⟨h.1, ?_⟩
  rcases h.2 with hn | ⟨g, cap, cur, hv, hb, rest⟩
  · exact Or.inl hn
  · exact Or.inr ⟨g, cap, cur, hv, by omega, rest⟩
/-- A node that is lent: its two rows, with marks behind their ends. -/
structure LentNd (B : Nat) (W : World) (x : Nd) (g1 c1 g2 c2 : Nat) : Prop where
  own1 : W.ownsRow B 5 1 (.slice (some ⟨g1, 0, none⟩) (x.bytes.length + 12) c1) (x.bytes.length + 12) ((x.bytes ++ marksB 12).flatMap nrow)
  own2 : ∃ B2, B ≤ B2 ∧ W.ownsRow B2 29 2 (.slice (some ⟨g2, 0, none⟩) (x.kids.length + 12) c2) (x.kids.length + 12) ((x.kids ++ marksR 12).flatMap rrow)
  le1 : x.bytes.length + 12 ≤ c1
  le2 : x.kids.length + 12 ≤ c2
  m1 : c1 ≤ maxLen
  m2 : c2 ≤ maxLen
  ne : g1 ≠ g2
def LentNodeEnd (x : Nd) (w : World) (e : Ending) (w' : World) : Prop := ∃ g1 c1 g2 c2, e = .returned (x.v (some ⟨g1, 0, none⟩) c1 (some ⟨g2, 0, none⟩) c2) ∧ LentNd w.heap.size w' x g1 c1 g2 c2 ∧ Below w.heap.size w w'
set_option maxHeartbeats 3200000 in
set_option maxRecDepth 100000 in
theorem LentNode_n (x : Nd) (V : Value) (w : World) (h : NdAt w x V) (hl1 : x.bytes.length ≤ 65536) (hl2 : x.kids.length ≤ 65536) : Calls Tryz.prog 30 #[V] w (LentNodeEnd x w) := by
  obtain ⟨hwf, Ab, cb, Ak, ck, rfl, hb0, hk0⟩ := h
  have b1 := below_box w (.cells (x.c Ab cb Ak ck) 26)
  have b2 := b1.alloc b1.size (.cells #[.int .i64 0, .string { data := #[] }, .string { data := #[] }, .string { data := #[] }, .slice none 0 0, .slice none 0 0] 26)
  have q1 := (Blk.new w 26 (x.c Ab cb Ak ck)).alloc (.cells #[.int .i64 0, .string { data := #[] }, .string { data := #[] }, .string { data := #[] }, .slice none 0 0, .slice none 0 0] 26)
  have q2 := Blk.new (w.alloc (.cells (x.c Ab cb Ak ck) 26)) 26 #[.int .i64 0, .string { data := #[] }, .string { data := #[] }, .string { data := #[] }, .slice none 0 0, .slice none 0 0]
  rw [World.size_alloc] at q2
  have H0 := Lib.hid (And.intro b2 (And.intro q1 q2))
  have HR := Lib.hid (And.intro hb0 hk0)
  clear b1 b2 q1 q2 hb0 hk0 hwf
  unfold Nd.c at H0
  unfold Nd.v
  go_enter Tryz.func30, Tryz.ntmps30
  refine wp_seq_k fun K0 hK => ?_
  have HK0 := Lib.hid hK
  clear hK
  go_wp2_with fail
  refine HK0.out _ _ ?_
  clear HK0
  generalize (w.alloc _).alloc _ = w0 at H0 ⊢
  refine wp_seq_k fun K1 hK => ?_
  have HK1 := Lib.hid hK
  clear hK
  obtain ⟨e0, e1, e2, e3, e4, e5⟩ := cells6 H0.out.2.1
  go_wp2_with fail
  refine (lent_bytes x.bytes Ab cb _ hl1 ((HR.out.1.below H0.out.1).more H0.out.1.size)).mono ?_
  rintro e w1 ⟨g1, c1, rfl, hc1, hm1, ho1, hb⟩
  have hg1 : w0.heap.size ≤ g1 := by
    obtain ⟨g, cap, hv, hgb, _⟩ := ho1.form (by omega)
    injection hv with e1 _ _
    injection e1 with e1
    injection e1 with e1 _ _
    omega
  have hg1w : w.heap.size + 2 ≤ g1 := by have := H0.out.2.2.lt; omega
  have hw1 : w1.grownBy (w1.setCell ⟨w.heap.size, 4, none⟩ (.slice (some ⟨g1, 0, none⟩) x.bytes.length c1)) (some w.heap.size) := grown_setCell ⟨rfl, rfl, rfl, Nat.le_refl _, fun _ _ _ => rfl⟩ _ _
  have p1 := H0.out.2.1.below hb H0.out.2.1.lt
  have p2 := H0.out.2.2.below hb H0.out.2.2.lt
  have pb : Below w.heap.size w w1 := H0.out.1.trans (hb.mono H0.out.1.size)
  have f4 := p1.frozen 4
  have l4 := p1.lt
  have d4 : w1.cell? ⟨w.heap.size, 4, none⟩ = some (.slice Ab x.bytes.length cb) := p1.cell 4
  have o1 := ownsRow_more ho1 H0.out.1.size
  have o1' := o1.kept hw1 (.inr (fun e => by injection e with e; have e : g1 = w.heap.size := e; omega))
  have p1' := p1.set_ 4 (.slice (some ⟨g1, 0, none⟩) x.bytes.length c1)
  have p2' := p2.grown hw1 (fun e => by injection e with e; omega)
  have pb' := pb.grown hw1 pb.size (fun k e => by injection e with e; omega)
  have hsz1 : g1 < w1.heap.size := by
    obtain ⟨g, cap, hv, _, hlt⟩ := ho1.form (by omega)
    injection hv with e1 _ _
    injection e1 with e1
    injection e1 with e1 _ _
    omega
  have hsz1' : g1 < (w1.setCell ⟨w.heap.size, 4, none⟩ (.slice (some ⟨g1, 0, none⟩) x.bytes.length c1)).heap.size := Nat.lt_of_lt_of_le hsz1 hw1.size
  have H1 : Hid (Below w.heap.size w (w1.setCell ⟨w.heap.size, 4, none⟩ (.slice (some ⟨g1, 0, none⟩) x.bytes.length c1)) ∧ Blk (w1.setCell ⟨w.heap.size, 4, none⟩ (.slice (some ⟨g1, 0, none⟩) x.bytes.length c1)) w.heap.size 26 (#[.int .i64 x.kind, .string x.code, .string x.value, .string x.path, .slice (some ⟨g1, 0, none⟩) x.bytes.length c1, .slice Ak x.kids.length ck]) ∧ Blk (w1.setCell ⟨w.heap.size, 4, none⟩ (.slice (some ⟨g1, 0, none⟩) x.bytes.length c1)) (w.heap.size + 1) 26 #[.int .i64 0, .string { data := #[] }, .string { data := #[] }, .string { data := #[] }, .slice none 0 0, .slice none 0 0] ∧ (w1.setCell ⟨w.heap.size, 4, none⟩ (.slice (some ⟨g1, 0, none⟩) x.bytes.length c1)).ownsRow w.heap.size 5 1 (.slice (some ⟨g1, 0, none⟩) (x.bytes.length + 12) c1) (x.bytes.length + 12) ((x.bytes ++ marksB 12).flatMap nrow)) := Lib.hid ⟨pb', by simpa using p1', p2', o1'⟩
  have HG := Lib.hid (And.intro hg1w (And.intro hc1 (And.intro hm1 hsz1')))
  clear hw1 p1 p2 pb o1 o1' p1' p2' pb' hb ho1 H0 e0 e1 e2 e3 e4 e5 hg1 hc1 hm1 hg1w hsz1 hsz1'
  go_wp2_with fail
  refine HK1.out _ _ ?_
  clear HK1 f4 l4 d4
  generalize w1.setCell _ _ = w2 at H1 HG ⊢
  refine wp_seq_k fun K2 hK => ?_
  have HK2 := Lib.hid hK
  clear hK
  obtain ⟨e0, e1, e2, e3, e4, e5⟩ := cells6 H1.out.2.1
  go_wp2_with fail
  refine (lent_refs x.kids Ak ck _ hl2 ((HR.out.2.below H1.out.1).more H1.out.1.size)).mono ?_
  rintro e w3 ⟨g2, c2, rfl, hc2, hm2, ho2, hb⟩
  have hg2 : w2.heap.size ≤ g2 := by
    obtain ⟨g, cap, hv, hgb, _⟩ := ho2.form (by omega)
    injection hv with e1 _ _
    injection e1 with e1
    injection e1 with e1 _ _
    omega
  have hlt1 := H1.out.2.2.1.lt
  have hw1 : w3.grownBy (w3.setCell ⟨w.heap.size, 5, none⟩ (.slice (some ⟨g2, 0, none⟩) x.kids.length c2)) (some w.heap.size) := grown_setCell ⟨rfl, rfl, rfl, Nat.le_refl _, fun _ _ _ => rfl⟩ _ _
  have p1 := H1.out.2.1.below hb H1.out.2.1.lt
  have p2 := H1.out.2.2.1.below hb H1.out.2.2.1.lt
  have pb : Below w.heap.size w w3 := H1.out.1.trans (hb.mono H1.out.1.size)
  have o1 := ownsRow_below H1.out.2.2.2 hb (Nat.le_refl _)
  have o1' := o1.kept hw1 (.inr (fun e => by injection e with e; have e : g1 = w.heap.size := e; have := HG.out.1; omega))
  have o2' := ho2.kept hw1 (.inr (fun e => by injection e with e; have e : g2 = w.heap.size := e; omega))
  have f5 := p1.frozen 5
  have l5 := p1.lt
  have d5 : w3.cell? ⟨w.heap.size, 5, none⟩ = some (.slice Ak x.kids.length ck) := p1.cell 5
  have p1' := p1.set_ 5 (.slice (some ⟨g2, 0, none⟩) x.kids.length c2)
  have p2' := p2.grown hw1 (fun e => by injection e with e; omega)
  have pb' := pb.grown hw1 pb.size (fun k e => by injection e with e; omega)
  have hne : g1 ≠ g2 := by have := HG.out.2.2.2; omega
  have hb2 : ∃ B2, w.heap.size ≤ B2 ∧ w.heap.size + 2 ≤ B2 ∧ (w3.setCell ⟨w.heap.size, 5, none⟩ (.slice (some ⟨g2, 0, none⟩) x.kids.length c2)).ownsRow B2 29 2 (.slice (some ⟨g2, 0, none⟩) (x.kids.length + 12) c2) (x.kids.length + 12) ((x.kids ++ marksR 12).flatMap rrow) := ⟨w2.heap.size, by omega, by omega, o2'⟩
  have hge2 : w.heap.size + 2 ≤ g2 := by omega
  have H2 : Hid (Below w.heap.size w (w3.setCell ⟨w.heap.size, 5, none⟩ (.slice (some ⟨g2, 0, none⟩) x.kids.length c2)) ∧ Blk (w3.setCell ⟨w.heap.size, 5, none⟩ (.slice (some ⟨g2, 0, none⟩) x.kids.length c2)) w.heap.size 26 (#[.int .i64 x.kind, .string x.code, .string x.value, .string x.path, .slice (some ⟨g1, 0, none⟩) x.bytes.length c1, .slice (some ⟨g2, 0, none⟩) x.kids.length c2]) ∧ Blk (w3.setCell ⟨w.heap.size, 5, none⟩ (.slice (some ⟨g2, 0, none⟩) x.kids.length c2)) (w.heap.size + 1) 26 #[.int .i64 0, .string { data := #[] }, .string { data := #[] }, .string { data := #[] }, .slice none 0 0, .slice none 0 0] ∧ (w3.setCell ⟨w.heap.size, 5, none⟩ (.slice (some ⟨g2, 0, none⟩) x.kids.length c2)).ownsRow w.heap.size 5 1 (.slice (some ⟨g1, 0, none⟩) (x.bytes.length + 12) c1) (x.bytes.length + 12) ((x.bytes ++ marksB 12).flatMap nrow) ∧ (∃ B2, w.heap.size ≤ B2 ∧ w.heap.size + 2 ≤ B2 ∧ (w3.setCell ⟨w.heap.size, 5, none⟩ (.slice (some ⟨g2, 0, none⟩) x.kids.length c2)).ownsRow B2 29 2 (.slice (some ⟨g2, 0, none⟩) (x.kids.length + 12) c2) (x.kids.length + 12) ((x.kids ++ marksR 12).flatMap rrow)) ∧ g1 ≠ g2 ∧ w.heap.size + 2 ≤ g2) := Lib.hid ⟨pb', by simpa using p1', p2', o1', hb2, hne, hge2⟩
  have HG2 := Lib.hid (And.intro hc2 hm2)
  clear hw1 p1 p2 pb o1 o1' o2' p1' p2' pb' hb ho2 H1 e0 e1 e2 e3 e4 e5 hg2 hc2 hm2 hne hb2 hge2 hlt1
  go_wp2_with fail
  refine HK2.out _ _ ?_
  clear HK2 f5 l5 d5
  generalize w3.setCell _ _ = w4 at H2 ⊢
  obtain ⟨e0, e1, e2, e3, e4, e5⟩ := cells6 H2.out.2.1
  obtain ⟨d0, d1, d2, d3, d4, d5⟩ := cells6 H2.out.2.2.1
  have fz0 := H2.out.2.2.1.frozen 0
  have fz1 := H2.out.2.2.1.frozen 1
  have fz2 := H2.out.2.2.1.frozen 2
  have fz3 := H2.out.2.2.1.frozen 3
  have fz4 := H2.out.2.2.1.frozen 4
  have fz5 := H2.out.2.2.1.frozen 5
  have l6 := H2.out.2.2.1.lt
  obtain ⟨VV, hV, hg, q6⟩ := six_stores (.int .i64 x.kind) (.string x.code) (.string x.value) (.string x.path) (.slice (some ⟨g1, 0, none⟩) x.bytes.length c1) (.slice (some ⟨g2, 0, none⟩) x.kids.length c2) H2.out.2.2.1
  obtain ⟨hbw, _, _, o1, ⟨B2, hB2, hB3, o2⟩, hne, hge2⟩ := H2.out
  have o1' := o1.kept hg (.inr (fun e => by injection e with e; have e : g1 = w.heap.size + 1 := e; have := HG.out.1; omega))
  have o2' := o2.kept hg (.inr (fun e => by injection e with e; have e : g2 = w.heap.size + 1 := e; omega))
  have HF : Hid (LentNd w.heap.size VV x g1 c1 g2 c2 ∧ Below w.heap.size w VV) := Lib.hid ⟨⟨o1', ⟨B2, hB2, o2'⟩, HG.out.2.1, HG2.out.1, HG.out.2.2.1, HG2.out.2, hne⟩, hbw.grown hg hbw.size (fun k e => by injection e with e; omega)⟩
  clear hbw o1 o2 o1' o2' hne hge2 hB2 hB3 hg H2
  go_wp2
  rw [← hV]
  clear hV d0 d1 d2 d3 d4 d5 e0 e1 e2 e3 e4 e5 fz0 fz1 fz2 fz3 fz4 fz5
  obtain ⟨c0, c1', c2', c3, c4, c5⟩ := cells6 q6
  exact bodyPost_ret (v := .agg (#[.int .i64 x.kind, .string x.code, .string x.value, .string x.path, .slice (some ⟨g1, 0, none⟩) x.bytes.length c1, .slice (some ⟨g2, 0, none⟩) x.kids.length c2])) (by simp [results, Tryz.results30, go_sem, c0, c1', c2', c3, c4, c5]) rfl ⟨g1, c1, g2, c2, rfl, HF.out.1, HF.out.2⟩
end Go.Proofs.YtgjgcbemgmkncaaGreatDoor
namespace Go.Proofs.YtgjgcbemgmkncaaGreatDoor
open Go.RowKit Go.Shelf
set_option linter.unusedVariables false
set_option linter.unusedSimpArgs false

theorem Reads.take_ {w : World} {B size n m : Nat} {A : Option Addr} {xs ys : List Value} (h : Reads w B size A (n + m) (xs ++ ys)) (hx : xs.length = n * size) : Reads w B size A n xs := by
  refine ⟨hx, fun hn => ?_⟩
  obtain ⟨ad, e, hb, hc⟩ := h.2 (by omega)
  exact ⟨ad, e, hb, fun j u hu => hc j u (by rw [List.getElem?_append_left (List.getElem?_eq_some_iff.1 hu).1]; exact hu)⟩
theorem flat_len {α : Type} {f : α → List Value} {m : Nat} (hf : ∀ x, (f x).length = m) : ∀ l : List α, (l.flatMap f).length = l.length * m
  | [] => by simp
  | x :: l => by rw [List.flatMap_cons, List.length_append, hf, flat_len hf l, List.length_cons, Nat.add_mul]; omega
section
variable {B : Nat} {W W' : World} {x : Nd} {g1 c1 g2 c2 : Nat}
theorem LentNd.below (h : LentNd B W x g1 c1 g2 c2) (hb : Below W.heap.size W W') : LentNd B W' x g1 c1 g2 c2 := by
  obtain ⟨B2, hB, h2⟩ := h.own2
  exact ⟨ownsRow_below h.own1 hb (Nat.le_refl _), ⟨B2, hB, ownsRow_below h2 hb (Nat.le_refl _)⟩, h.le1, h.le2, h.m1, h.m2, h.ne⟩
theorem LentNd.r1 (h : LentNd B W x g1 c1 g2 c2) : Reads W W.heap.size 1 (some ⟨g1, 0, none⟩) (x.bytes.length + 12) ((x.bytes ++ marksB 12).flatMap nrow) := Reads.of_own h.own1
theorem LentNd.r2 (h : LentNd B W x g1 c1 g2 c2) : Reads W W.heap.size 2 (some ⟨g2, 0, none⟩) (x.kids.length + 12) ((x.kids ++ marksR 12).flatMap rrow) := by
  obtain ⟨B2, _, h2⟩ := h.own2
  exact Reads.of_own h2
theorem LentNd.lt1 (h : LentNd B W x g1 c1 g2 c2) : g1 < W.heap.size := by
  obtain ⟨ad, e, hb, _⟩ := h.r1.2 (by omega)
  injection e with e
  rw [← e] at hb
  exact hb
theorem LentNd.lt2 (h : LentNd B W x g1 c1 g2 c2) : g2 < W.heap.size := by
  obtain ⟨ad, e, hb, _⟩ := h.r2.2 (by omega)
  injection e with e
  rw [← e] at hb
  exact hb
theorem LentNd.node (h : LentNd B W x g1 c1 g2 c2) (hx : x.wf) : NdAt W x (x.v (some ⟨g1, 0, none⟩) c1 (some ⟨g2, 0, none⟩) c2) := by
  refine ⟨hx, _, _, _, _, rfl, ?_, ?_⟩
  · exact Reads.take_ (by have := h.r1; rw [List.flatMap_append] at this; exact this) (flat_len nrow_len x.bytes)
  · exact Reads.take_ (by have := h.r2; rw [List.flatMap_append] at this; exact this) (flat_len rrow_len x.kids)
end
set_option maxHeartbeats 3200000 in
set_option maxRecDepth 100000 in
theorem KeptNode_n (x : Nd) (B g1 c1 g2 c2 : Nat) (V : Value) (w : World) (hL : LentNd B w x g1 c1 g2 c2) (h : NdAt w x V) (hl1 : x.bytes.length ≤ 65536) (hl2 : x.kids.length ≤ 65536) : Calls Tryz.prog 35 #[x.v (some ⟨g1, 0, none⟩) c1 (some ⟨g2, 0, none⟩) c2, V] w (KeptEnd w) := by
  obtain ⟨hwf, Ab, cb, Ak, ck, rfl, hb0, hk0⟩ := h
  have b1 := below_box w (.cells #[.int .i64 x.kind, .string x.code, .string x.value, .string x.path, .slice (some ⟨g1, 0, none⟩) x.bytes.length c1, .slice (some ⟨g2, 0, none⟩) x.kids.length c2] 26)
  have b2 := b1.alloc b1.size (.cells #[.int .i64 x.kind, .string x.code, .string x.value, .string x.path, .slice Ab x.bytes.length cb, .slice Ak x.kids.length ck] 26)
  have q1 := (Blk.new w 26 #[.int .i64 x.kind, .string x.code, .string x.value, .string x.path, .slice (some ⟨g1, 0, none⟩) x.bytes.length c1, .slice (some ⟨g2, 0, none⟩) x.kids.length c2]).alloc (.cells #[.int .i64 x.kind, .string x.code, .string x.value, .string x.path, .slice Ab x.bytes.length cb, .slice Ak x.kids.length ck] 26)
  have q2 := Blk.new (w.alloc (.cells #[.int .i64 x.kind, .string x.code, .string x.value, .string x.path, .slice (some ⟨g1, 0, none⟩) x.bytes.length c1, .slice (some ⟨g2, 0, none⟩) x.kids.length c2] 26)) 26 #[.int .i64 x.kind, .string x.code, .string x.value, .string x.path, .slice Ab x.bytes.length cb, .slice Ak x.kids.length ck]
  rw [World.size_alloc] at q2
  have H0 := Lib.hid (And.intro b2 (And.intro q1 q2))
  have HR := Lib.hid (And.intro hL (And.intro hwf (And.intro hb0 hk0)))
  clear b1 b2 q1 q2 hb0 hk0 hL
  unfold Nd.v
  go_enter Tryz.func35, Tryz.ntmps35
  refine wp_seq_k fun K0 hK => ?_
  have HK0 := Lib.hid hK
  clear hK
  go_wp2_with fail
  refine HK0.out _ _ ?_
  clear HK0
  generalize (w.alloc _).alloc _ = w0 at H0 ⊢
  have HS := Lib.hid (SameNode_n x x _ _ w0 ((HR.out.1.below H0.out.1).node HR.out.2.1) (NdAt.below ⟨HR.out.2.1, Ab, cb, Ak, ck, rfl, HR.out.2.2.1, HR.out.2.2.2⟩ H0.out.1))
  unfold Nd.v at HS
  obtain ⟨e0, e1, e2, e3, e4, e5⟩ := cells6 H0.out.2.1
  obtain ⟨d0, d1, d2, d3, d4, d5⟩ := cells6 H0.out.2.2
  go_wp2_with fail
  refine HS.out.mono ?_
  rintro e w1 ⟨rfl, hb⟩
  rw [sameN_refl]
  have H1 : Hid (Below w.heap.size w w1 ∧ Blk w1 w.heap.size 26 #[.int .i64 x.kind, .string x.code, .string x.value, .string x.path, .slice (some ⟨g1, 0, none⟩) x.bytes.length c1, .slice (some ⟨g2, 0, none⟩) x.kids.length c2] ∧ Blk w1 (w.heap.size + 1) 26 #[.int .i64 x.kind, .string x.code, .string x.value, .string x.path, .slice Ab x.bytes.length cb, .slice Ak x.kids.length ck]) := Lib.hid ⟨H0.out.1.trans (hb.mono H0.out.1.size), H0.out.2.1.below hb H0.out.2.1.lt, H0.out.2.2.below hb H0.out.2.2.lt⟩
  clear hb H0 HS e0 e1 e2 e3 e4 e5 d0 d1 d2 d3 d4 d5
  have HL1 := Lib.hid (HR.out.1.below H1.out.1)
  have HKB := Lib.hid (kept_bytes x.bytes Ab cb g1 c1 w1 hl1 ((HR.out.2.2.1.below H1.out.1).more H1.out.1.size) HL1.out.r1 HL1.out.lt1 HL1.out.le1 HL1.out.m1)
  obtain ⟨e0, e1, e2, e3, e4, e5⟩ := cells6 H1.out.2.1
  obtain ⟨d0, d1, d2, d3, d4, d5⟩ := cells6 H1.out.2.2
  go_wp2_with fail
  refine HKB.out.mono ?_
  rintro e w2 ⟨rfl, hb⟩
  have H2 : Hid (Below w.heap.size w w2 ∧ Blk w2 w.heap.size 26 #[.int .i64 x.kind, .string x.code, .string x.value, .string x.path, .slice (some ⟨g1, 0, none⟩) x.bytes.length c1, .slice (some ⟨g2, 0, none⟩) x.kids.length c2] ∧ Blk w2 (w.heap.size + 1) 26 #[.int .i64 x.kind, .string x.code, .string x.value, .string x.path, .slice Ab x.bytes.length cb, .slice Ak x.kids.length ck]) := Lib.hid ⟨H1.out.1.trans (hb.mono H1.out.1.size), H1.out.2.1.below hb H1.out.2.1.lt, H1.out.2.2.below hb H1.out.2.2.lt⟩
  clear hb H1 HKB HL1 e0 e1 e2 e3 e4 e5 d0 d1 d2 d3 d4 d5
  have HL2 := Lib.hid (HR.out.1.below H2.out.1)
  have HKR := Lib.hid (kept_refs x.kids Ak ck g2 c2 w2 hl2 ((HR.out.2.2.2.below H2.out.1).more H2.out.1.size) HL2.out.r2 HL2.out.lt2 HL2.out.le2 HL2.out.m2)
  obtain ⟨e0, e1, e2, e3, e4, e5⟩ := cells6 H2.out.2.1
  obtain ⟨d0, d1, d2, d3, d4, d5⟩ := cells6 H2.out.2.2
  go_wp2_with fail
  refine HKR.out.mono ?_
  rintro e w3 ⟨rfl, hb⟩
  have HF := Lib.hid (H2.out.1.trans (hb.mono H2.out.1.size))
  clear hb H2 HKR HL2 e0 e1 e2 e3 e4 e5 d0 d1 d2 d3 d4 d5
  go_wp2
  go_ret
  exact ⟨rfl, HF.out⟩
end Go.Proofs.YtgjgcbemgmkncaaGreatDoor
