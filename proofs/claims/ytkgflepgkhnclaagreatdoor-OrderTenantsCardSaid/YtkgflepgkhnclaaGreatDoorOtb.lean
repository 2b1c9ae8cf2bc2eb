/-
  Layer 27: the sorted row of a book's keys: find, add, drop.
  Layer 27: the sorted row of a book's keys: slices.Delete; add, drop.
  Layer 27: book: there, Get, Keys, Bytes.
  Layer 27: book: New, Delete.
  Layer 27: book: Put.
  Layer 27: book: Swap, Copy.
  Layer 27: book: Copy.
  Plain models: requests, codes of keys, what an operation is, its way and its bound (layer 29), how many picks it takes (layer 22).
  A function's code behind its first parts: so that a long walk can be cut into declarations. Over any program.
  append where the source reads as a list, told for a row of the call's own; make with a length and a capacity (layer 27's copy).
-/
import Derived.Test.YtkgflepgkhnclaaGreatDoorOta
import Derived.Maps.OwnOps
import Derived.Maps.OwnSet
import Derived.Maps.AppendAt
import Derived.Laws.MakeOwn
import Derived.RegionTactic
import Derived.OwnWalk
namespace Go.Proofs.YtkgflepgkhnclaaGreatDoor
open Go.RowKit Go.Shelf
set_option linter.unusedVariables false
set_option linter.unusedSimpArgs false

theorem row_cell {cs : Array Value} {ks : List ByteArray} (h : cs.toList.take ks.length = ks.map Value.string) (j : Nat) (hj : j < ks.length) : cs[j]? = some (.string ks[j]) := by
  have h1 : (cs.toList.take ks.length)[j]? = (ks.map Value.string)[j]? := by rw [h]
  rw [List.getElem?_take_of_lt hj, Array.getElem?_toList, List.getElem?_map, List.getElem?_eq_getElem hj] at h1
  exact h1
/-- The k-th key, or x behind them. -/
def keyAt (ks : List ByteArray) (x : ByteArray) (t : Nat) : ByteArray := (ks[t]?).getD x
theorem keyAt_in {ks : List ByteArray} {x : ByteArray} {t : Nat} (h : t < ks.length) : keyAt ks x t = ks[t] := by simp [keyAt, h]
theorem keyAt_out {ks : List ByteArray} {x : ByteArray} {t : Nat} (h : ks.length ≤ t) : keyAt ks x t = x := by simp [keyAt, h]
theorem bs_pos {ks : List ByteArray} {x : ByteArray} (hs : ks.Pairwise ltS) : Lib.bsGo (fun t => Op.bytesLess (keyAt ks x t).toList x.toList) ks.length 0 ks.length = posK x ks := by
  refine Lib.bsGo_spec _ (posK x ks) (fun t ht => ?_) (fun t ht => ?_) _ _ _ (by omega) (by omega) pos_le
  · have hl : t < ks.length := Nat.lt_of_lt_of_le ht pos_le
    rw [keyAt_in hl]
    exact pos_lt hl ht
  · rcases Nat.lt_or_ge t ks.length with hl | hl
    · rw [keyAt_in hl]
      exact Bool.eq_false_iff.2 (pos_ge hs hl ht)
    · rw [keyAt_out hl]
      exact bl_irrefl _
theorem found_pos {ks : List ByteArray} {x : ByteArray} (hs : ks.Pairwise ltS) : (posK x ks < ks.length ∧ keyAt ks x (posK x ks) = x) ↔ x ∈ ks := by
  rw [pos_mem hs]
  constructor
  · rintro ⟨h1, h2⟩
    rw [keyAt_in h1] at h2
    rw [List.getElem?_eq_getElem h1, h2]
  · intro h
    obtain ⟨h1, h2⟩ := List.getElem?_eq_some_iff.1 h
    exact ⟨h1, by rw [keyAt_in h1, h2]⟩

theorem search_b {w : World} {ok : Option Nat} {A : Option Addr} {c : Nat} {ks : List ByteArray} (h : KeysAt w ok A c ks) (hs : ks.Pairwise ltS) (hl : ks.length ≤ 1000000) (x : ByteArray) (f : Bool) (hf : f = true ↔ x ∈ ks) :
    Calls Tryz.prog 213 #[.slice A ks.length c, .string x] w fun e w' => e = .returned (.tuple #[.int .i64 (posK x ks : Nat), .bool f]) ∧ Below w.heap.size w w' := by
  rcases h with ⟨-, rfl, rfl, rfl⟩ | ⟨kb, cs, -, rfl, hb, h1, h2, h3, h4⟩
  · have hf' : f = false := Bool.eq_false_iff.2 (fun e => by have := hf.1 e; simp at this)
    subst hf'
    have hc := Any2.slices_BinarySearch_string_empty laysSearch none 0 x w
    refine Calls.mono hc ?_
    rintro e w' ⟨rfl, rfl⟩
    exact ⟨rfl, Below.refl _ _⟩
  · have hc := Any2.slices_BinarySearch_string laysSearch kb 0 ks.length c (keyAt ks x) x w (by omega) (fun j hj => by
      rw [Nat.zero_add, hb.cell, keyAt_in hj]; exact h4 j hj)
    rw [bs_pos hs] at hc
    refine Calls.mono hc ?_
    rintro e w' ⟨rfl, q, rfl⟩
    refine ⟨?_, below_drewN (Below.refl _ _) q⟩
    have : decide (posK x ks < ks.length ∧ keyAt ks x (posK x ks) = x) = f := by
      rw [Bool.eq_iff_iff, decide_eq_true_iff, found_pos hs, hf]
    rw [this]

theorem find_b {w : World} {b : Nat} {ok : Option Nat} {A : Option Addr} {c : Nat} {ks : List ByteArray} {v1 v2 v3 v4 : Value} (h0 : Blk w b 134 #[.slice A ks.length c, v1, v2, v3, v4]) (h : KeysAt w ok A c ks) (hs : ks.Pairwise ltS) (hl : ks.length ≤ 1000000)
    (x : ByteArray) (f : Bool) (hf : f = true ↔ x ∈ ks) :
    Calls Tryz.prog 176 #[.pointer (some ⟨b, 0, none⟩), .string x] w fun e w' => e = .returned (.tuple #[.int .i64 (posK x ks : Nat), .bool f]) ∧ Below w.heap.size w w' := by
  have c0 : w.cell? ⟨b, 0, none⟩ = some (.slice A ks.length c) := h0.cell 0
  have HS := Lib.hid (search_b h hs hl x f hf)
  clear h0 h hs hl hf
  go_enter Tryz.func176, Tryz.ntmps176
  go_wp2_with (go_at_call 213; refine HS.out.mono ?_; rintro e w1 ⟨rfl, hb⟩; have HB := Lib.hid hb; clear hb)
  go_ret2
  exact ⟨rfl, HB.out⟩

/-! ### Rows that are written -/
theorem Blk.sets {w : World} {b : Nat} {t : TypeId} {cs : Array Value} (h : Blk w b t cs) (vs : List Value) (o : Nat) : ∃ cs', Blk (w.setCells b o vs) b t cs' ∧ cs'.size = cs.size := by
  induction vs generalizing w cs o with
  | nil => exact ⟨cs, h, rfl⟩
  | cons v r ih =>
    obtain ⟨cs', h1, h2⟩ := ih (h.set_ o v) (o + 1)
    exact ⟨cs', h1, by rw [h2, Array.size_setIfInBounds]⟩
theorem sets_same (b : Nat) : ∀ (vs : List Value) (o : Nat) (w : World), (w.setCells b o vs).os = w.os ∧ (w.setCells b o vs).tape = w.tape ∧ (w.setCells b o vs).output = w.output ∧ (w.setCells b o vs).heap.size = w.heap.size ∧ ∀ i, i ≠ b → (w.setCells b o vs).heap[i]? = w.heap[i]?
  | [], _, _ => ⟨rfl, rfl, rfl, rfl, fun _ _ => rfl⟩
  | v :: r, o, w => by
    obtain ⟨h1, h2, h3, h4, h5⟩ := sets_same b r (o + 1) (w.setCell ⟨b, o, none⟩ v)
    exact ⟨h1, h2, h3, by rw [World.setCells, h4]; simp, fun i hi => by rw [World.setCells, h5 i hi]; exact Below.heap_setCell w _ v i hi⟩
theorem KeepC.sets {C : Nat → Prop} {w w' : World} {b : Nat} {t : TypeId} {cs : Array Value} (h : KeepC C w w') (hb : Blk w' b t cs) (ht : t ≠ 5) (hC : b < w.heap.size → C b) (o : Nat) (vs : List Value) : KeepC C w (w'.setCells b o vs) := by
  obtain ⟨h1, h2, h3, h4, h5⟩ := sets_same b vs o w'
  exact h.trans (D := (· = b)) (.one ⟨h1, h2, h3, by omega⟩ (fun i _ hi => h5 i hi) (fun _ => rfl) (not_U8 hb ht)) (fun i hi e => by subst e; exact hC hi)
theorem cell_some {w : World} {b : Nat} {t : TypeId} {cs : Array Value} (h : Blk w b t cs) {j : Nat} (hj : j < cs.size) : (w.cell? ⟨b, j, none⟩).isSome = true := by
  rw [h.cell, Array.getElem?_eq_getElem hj]; rfl

/-- Keys with x at place i. -/
def insK (i : Nat) (x : ByteArray) (ks : List ByteArray) : List ByteArray := ks.take i ++ x :: ks.drop i
theorem insK_len {i : Nat} {x : ByteArray} {ks : List ByteArray} (h : i ≤ ks.length) : (insK i x ks).length = ks.length + 1 := by
  simp [insK]; omega
theorem insK_lo {i j : Nat} {x : ByteArray} {ks : List ByteArray} (hi : i ≤ ks.length) (h : j < i) : (insK i x ks)[j]? = ks[j]? := by
  rw [insK, List.getElem?_append_left (by simp; omega), List.getElem?_take_of_lt h]
theorem insK_at {i : Nat} {x : ByteArray} {ks : List ByteArray} (hi : i ≤ ks.length) : (insK i x ks)[i]? = some x := by
  rw [insK, List.getElem?_append_right (by simp; omega)]
  simp [Nat.min_eq_left hi]
theorem insK_hi {i j : Nat} {x : ByteArray} {ks : List ByteArray} (hi : i ≤ ks.length) (h : i ≤ j) : (insK i x ks)[j + 1]? = ks[j]? := by
  rw [insK, List.getElem?_append_right (by simp; omega)]
  simp only [List.length_take, Nat.min_eq_left hi]
  rw [show j + 1 - i = (j - i) + 1 by omega, List.getElem?_cons_succ, List.getElem?_drop, show i + (j - i) = j by omega]

/-- What Insert leaves. -/
def InsEnd (ok : Option Nat) (ks' : List ByteArray) (w : World) (e : Ending) (w' : World) : Prop :=
  ∃ A' c' ok', e = .returned (.slice A' ks'.length c') ∧ KeysAt w' ok' A' c' ks' ∧ (ok' = ok ∨ ∃ g, ok' = some g ∧ w.heap.size ≤ g) ∧ KeepC (fun j => ok = some j) w w'
theorem insEnd_of {w w' : World} {ok : Option Nat} {ks : List ByteArray} {i : Nat} {x : ByteArray} {kb c' : Nat} {cs : Array Value} (hi : i ≤ ks.length) (hb : Blk w' kb 9 cs) (hs : cs.size = c') (hl : ks.length + 1 ≤ c') (hc : c' ≤ 9223372036854775807)
    (h1 : ∀ j, j < i → ∀ v, ks[j]? = some v → w'.cell? ⟨kb, j, none⟩ = some (.string v)) (h2 : w'.cell? ⟨kb, i, none⟩ = some (.string x)) (h3 : ∀ j, i ≤ j → ∀ v, ks[j]? = some v → w'.cell? ⟨kb, j + 1, none⟩ = some (.string v))
    (ho : some kb = ok ∨ w.heap.size ≤ kb) (hk : KeepC (fun j => ok = some j) w w') : InsEnd ok (insK i x ks) w (.returned (.slice (some ⟨kb, 0, none⟩) (ks.length + 1) c')) w' := by
  refine ⟨some ⟨kb, 0, none⟩, c', some kb, by rw [insK_len hi], .inr ⟨kb, cs, rfl, rfl, hb, hs, by rw [insK_len hi]; exact hl, hc, fun j hj => ?_⟩, ho.imp id (fun h => ⟨kb, rfl, h⟩), hk⟩
  rw [← hb.cell]
  have hg : (insK i x ks)[j]? = some (insK i x ks)[j] := List.getElem?_eq_getElem hj
  rcases Nat.lt_trichotomy j i with h | h | h
  · rw [insK_lo hi h] at hg
    exact h1 j h _ hg
  · subst h
    rw [insK_at hi, Option.some.injEq] at hg
    rw [h2, ← hg]
  · obtain ⟨j', rfl⟩ : ∃ j', j = j' + 1 := ⟨j - 1, by omega⟩
    rw [insK_hi hi (by omega)] at hg
    exact h3 j' (by omega) _ hg
theorem size_zc (k : Nat) : (Builtin.zeroCells (Value.string ⟨#[]⟩).cells k).size = k := by
  first | simp [Builtin.zeroCells, Value.cells] | (induction k <;> simp_all [Builtin.zeroCells, Value.cells])
theorem keys_at {ks : List ByteArray} {cs : Array Value} {w : World} {kb : Nat} (hb : Blk w kb 9 cs) (h4 : ∀ j, (hj : j < ks.length) → cs[j]? = some (.string ks[j])) (j : Nat) (v : Value) (h : (ks.map Value.string)[j]? = some v) : w.cell? ⟨kb, 0 + j, none⟩ = some v := by
  rw [List.getElem?_map, Option.map_eq_some_iff] at h
  obtain ⟨k, h1, rfl⟩ := h
  obtain ⟨h2, h3⟩ := List.getElem?_eq_some_iff.1 h1
  rw [Nat.zero_add, hb.cell, h4 j h2, h3]
theorem one_cell_map {l : List ByteArray} : ∀ v ∈ l.map Value.string, v.oneCell' = true := by
  intro v hv
  obtain ⟨k, _, rfl⟩ := List.mem_map.1 hv
  rfl
set_option maxHeartbeats 1600000 in
theorem insert_b {w : World} {ok : Option Nat} {A : Option Addr} {c : Nat} {ks : List ByteArray} (h : KeysAt w ok A c ks) (hl : ks.length ≤ 1000000) (i : Nat) (hi : i ≤ ks.length) (x : ByteArray) (vb : Nat) (hv : Blk w vb 9 #[.string x]) (hne : ok ≠ some vb) :
    Calls Tryz.prog 211 #[.slice A ks.length c, .int .i64 (i : Nat), .slice (some ⟨vb, 0, none⟩) 1 1] w (InsEnd ok (insK i x ks) w) := by
  have hvs : ∀ j v, ([Value.string x] : List Value)[j]? = some v → w.cell? ⟨vb, 0 + j, none⟩ = some v := fun j v hj => by
    cases j with
    | zero => simp only [List.getElem?_cons_zero, Option.some.injEq] at hj; rw [← hj]; exact hv.cell 0
    | succ j => simp at hj
  have h1v : ∀ v ∈ ([Value.string x] : List Value), v.oneCell' = true := fun v hv => by rw [List.mem_singleton] at hv; rw [hv]; rfl
  rcases h with ⟨rfl, rfl, rfl, rfl⟩ | ⟨kb, cs, rfl, rfl, hb, h1, h2, h3, h4⟩
  · obtain rfl : i = 0 := by simpa using hi
    have hc := Any2.slices_Insert_string_end_grow laysInsert none 0 0 vb 0 1 1 [] [.string x] w (by omega) (by omega) (by omega) (by omega) rfl rfl (fun _ => rfl) (fun a h => by cases h) hvs h1v
    refine Calls.mono hc ?_
    rintro e w' ⟨rfl, rfl⟩
    have hg := grownCap_ge w (0 + 1) 0 (laysInsert_ren.t 9)
    have hm := grownCap_le_maxLen w (0 + 1) 0 (laysInsert_ren.t 9) (by unfold maxLen; omega)
    generalize grownCap w (0 + 1) 0 (laysInsert_ren.t 9) = C at hg hm ⊢
    have hb := Blk.new w.drew (laysInsert_ren.t 9) ((([] ++ [.string x] : List Value)).toArray ++ Builtin.zeroCells (Value.string ⟨#[]⟩).cells (C - (0 + 1)))
    refine insEnd_of (i := 0) (ks := []) (Nat.zero_le _) hb (by rw [Array.size_append, size_zc]; simp; omega) (by simpa using hg) (by unfold maxLen at hm; omega) (fun j hj => by omega) ?_ (fun j _ v hv => by simp at hv) (.inr (Nat.le_refl _)) (KeepC.of_below (((Below.refl _ _).drew).alloc (Nat.le_refl _) _))
    refine (hb.cell 0).trans ?_
    rw [Array.getElem?_append_left (by simp)]
    rfl
  · have hcell := keys_at hb h4
    have hsome : ∀ j, j < c → (w.cell? ⟨kb, j, none⟩).isSome = true := fun j hj => cell_some hb (by omega)
    have hfz : ∀ j, w.frozen? ⟨kb, j, none⟩ = false := fun j => hb.frozen j
    by_cases hin : i = ks.length
    · subst hin
      by_cases hroom : ks.length + 1 ≤ c
      · have hc := Any2.slices_Insert_string_end_room laysInsert kb 0 ks.length c vb 0 1 1 [.string x] w (by omega) hroom h3 rfl (fun j hj => by rw [Nat.zero_add]; exact hsome _ (by omega)) (fun j _ => by rw [Nat.zero_add]; exact hfz _) hvs h1v
        refine Calls.mono hc ?_
        rintro e w' ⟨rfl, rfl⟩
        rw [Nat.zero_add]
        obtain ⟨cs', hb', hs'⟩ := hb.sets [.string x] ks.length
        refine insEnd_of (Nat.le_refl _) hb' (hs'.trans h1) hroom h3 (fun j hj v hv => ?_) ?_ (fun j hj v hv => ?_) (.inl rfl) ((KeepC.refl (fun j => some kb = some j) w).sets hb (by decide) (fun _ => rfl) _ _)
        · rw [World.cell?_setCells_out kb _ _ _ _ (fun _ _ => .inl hj)]
          have := hcell j (.string v) (by rw [List.getElem?_map, hv]; rfl)
          rwa [Nat.zero_add] at this
        · have := World.cell?_setCells_in kb [.string x] ks.length w (fun j hj => hsome _ (by simp at hj; omega)) 0 (by simp)
          simpa using this
        · obtain ⟨h, _⟩ := List.getElem?_eq_some_iff.1 hv; omega
      · have hc := Any2.slices_Insert_string_end_grow laysInsert (some ⟨kb, 0, none⟩) ks.length c vb 0 1 1 (ks.map Value.string) [.string x] w (by omega) h2 (by omega) (by omega) (by simp) rfl (fun h => by cases h) (fun a ha j v hj => by
            injection ha with ha
            subst ha
            rw [Addr.add_lit]
            exact hcell j v hj) hvs h1v
        refine Calls.mono hc ?_
        rintro e w' ⟨rfl, rfl⟩
        have hg := grownCap_ge w (ks.length + 1) c (laysInsert_ren.t 9)
        have hm := grownCap_le_maxLen w (ks.length + 1) c (laysInsert_ren.t 9) (by unfold maxLen; omega)
        generalize grownCap w (ks.length + 1) c (laysInsert_ren.t 9) = C at hg hm ⊢
        have hb' := Blk.new w.drew (laysInsert_ren.t 9) ((ks.map Value.string ++ [Value.string x]).toArray ++ Builtin.zeroCells (Value.string ⟨#[]⟩).cells (C - (ks.length + 1)))
        refine insEnd_of (Nat.le_refl _) hb' (by rw [Array.size_append, size_zc]; simp; omega) hg (by unfold maxLen at hm; omega) (fun j hj v hv => ?_) ?_ (fun j hj v hv => ?_) (.inr (Nat.le_refl _)) (KeepC.of_below (((Below.refl _ _).drew).alloc (Nat.le_refl _) _))
        · refine (hb'.cell j).trans ?_
          have hj' : j < (ks.map Value.string ++ [Value.string x]).toArray.size := by simp; omega
          rw [Array.getElem?_append_left hj']
          obtain ⟨h5, h6⟩ := List.getElem?_eq_some_iff.1 hv
          simp [List.getElem?_append_left, h5, h6]
        · refine (hb'.cell _).trans ?_
          have hj' : ks.length < (ks.map Value.string ++ [Value.string x]).toArray.size := by simp
          rw [Array.getElem?_append_left hj']
          simp
        · obtain ⟨h, _⟩ := List.getElem?_eq_some_iff.1 hv; omega
    · have hlt : i < ks.length := by omega
      by_cases hroom : ks.length + 1 ≤ c
      · have hc := Any2.slices_Insert_string_shift laysInsert kb 0 ks.length c i vb 0 1 1 (ks.map Value.string) [.string x] w hlt (by omega) hroom h3 (fun e => hne (by rw [e])) (by simp) rfl hcell (fun j hj => by rw [Nat.zero_add]; exact hsome _ (by omega)) (fun j _ => by rw [Nat.zero_add]; exact hfz _) hvs one_cell_map h1v
          9 9 1 c (by unfold Blk at hv; simp [World.shape?, hv]) (by unfold Blk at hb; simp [World.shape?, hb, h1]) (by omega) (hv.frozen 0) (hv.frozen 1)
        refine Calls.mono hc ?_
        rintro e w' ⟨rfl, rfl⟩
        rw [Nat.zero_add, Nat.zero_add, List.map_drop.symm]
        obtain ⟨cs1, hb1, hs1⟩ := hb.drew.sets ((ks.drop i).map Value.string) (i + 1)
        obtain ⟨cs2, hb2, hs2⟩ := hb1.sets [.string x] i
        have hsome1 : ∀ j, j < c → ((w.drew.setCells kb (i + 1) ((ks.drop i).map Value.string)).cell? ⟨kb, j, none⟩).isSome = true := fun j hj => cell_some hb1 (by omega)
        refine insEnd_of hi hb2 (by omega) hroom h3 (fun j hj v hv => ?_) ?_ (fun j hj v hv => ?_) (.inl rfl) (((KeepC.refl (fun j => some kb = some j) w).drew.sets hb.drew (by decide) (fun _ => rfl) _ _).sets hb1 (by decide) (fun _ => rfl) _ _)
        · rw [World.cell?_setCells_out kb _ _ _ _ (fun _ _ => .inl hj), World.cell?_setCells_out kb _ _ _ _ (fun _ _ => .inl (by show j < i + 1; omega))]
          have := hcell j (.string v) (by rw [List.getElem?_map, hv]; rfl)
          rwa [Nat.zero_add] at this
        · have := World.cell?_setCells_in kb [.string x] i (w.drew.setCells kb (i + 1) ((ks.drop i).map Value.string)) (fun j hj => hsome1 _ (by simp at hj; omega)) 0 (by simp)
          simpa using this
        · obtain ⟨h5, h6⟩ := List.getElem?_eq_some_iff.1 hv
          rw [World.cell?_setCells_out kb _ _ _ _ (fun _ _ => .inr (by show i + 1 ≤ j + 1; omega))]
          have := World.cell?_setCells_in kb ((ks.drop i).map Value.string) (i + 1) w.drew (fun j hj => by
            simp only [List.length_map, List.length_drop] at hj
            exact hsome _ (by omega)) (j - i) (by simp; omega)
          rw [show i + 1 + (j - i) = j + 1 by omega] at this
          rw [this]
          simp only [List.getElem_map, List.getElem_drop]
          congr 2
          rw [← h6]
          congr 1
          omega
      · have hc := Any2.slices_Insert_string_grow laysInsert kb 0 ks.length c i vb 0 1 1 (ks.map Value.string) [.string x] w hlt (by omega) h2 (by omega) (by omega) (by simp) rfl hcell hvs one_cell_map h1v
        refine Calls.mono hc ?_
        rintro e w' ⟨rfl, rfl⟩
        have hg := grownCap_ge w (ks.length + 1) c (laysInsert_ren.t 9)
        have hm := grownCap_le_maxLen w (ks.length + 1) c (laysInsert_ren.t 9) (by unfold maxLen; omega)
        generalize grownCap w (ks.length + 1) c (laysInsert_ren.t 9) = C at hg hm ⊢
        rw [← List.map_take, ← List.map_drop]
        have hb0 := Blk.new w (laysInsert_ren.t 9) (((ks.take i).map Value.string).toArray ++ Builtin.zeroCells (Value.string ⟨#[]⟩).cells (ks.length + 1 - i) ++ Builtin.zeroCells (Value.string ⟨#[]⟩).cells (C - (ks.length + 1)))
        have hs0 : (((ks.take i).map Value.string).toArray ++ Builtin.zeroCells (Value.string ⟨#[]⟩).cells (ks.length + 1 - i) ++ Builtin.zeroCells (Value.string ⟨#[]⟩).cells (C - (ks.length + 1))).size = C := by
          rw [Array.size_append, Array.size_append, size_zc, size_zc]; simp; omega
        have hlo : ∀ j v, j < i → ks[j]? = some v → (((ks.take i).map Value.string).toArray ++ Builtin.zeroCells (Value.string ⟨#[]⟩).cells (ks.length + 1 - i) ++ Builtin.zeroCells (Value.string ⟨#[]⟩).cells (C - (ks.length + 1)))[j]? = some (.string v) := fun j v hj hv => by
          rw [Array.append_assoc, Array.getElem?_append_left (by simp; omega)]
          simp only [List.getElem?_toArray, List.getElem?_map, List.getElem?_take_of_lt hj, hv, Option.map_some]
        generalize (((ks.take i).map Value.string).toArray ++ Builtin.zeroCells (Value.string ⟨#[]⟩).cells (ks.length + 1 - i) ++ Builtin.zeroCells (Value.string ⟨#[]⟩).cells (C - (ks.length + 1))) = Z at hb0 hs0 hlo ⊢
        obtain ⟨cs1, hb1, hs1⟩ := hb0.drew.sets [.string x] i
        obtain ⟨cs2, hb2, hs2⟩ := hb1.drew.sets ((ks.drop i).map Value.string) (i + 1)
        have hsome0 : ∀ j, j < C → ((w.alloc (.cells Z (laysInsert_ren.t 9))).drew.cell? ⟨w.heap.size, j, none⟩).isSome = true := fun j hj => cell_some hb0.drew (by omega)
        have hsome1 : ∀ j, j < C → (((w.alloc (.cells Z (laysInsert_ren.t 9))).drew.setCells w.heap.size i [.string x]).drew.cell? ⟨w.heap.size, j, none⟩).isSome = true := fun j hj => cell_some hb1.drew (by omega)
        refine insEnd_of hi hb2 (by omega) hg (by unfold maxLen at hm; omega) (fun j hj v hv => ?_) ?_ (fun j hj v hv => ?_) (.inr (Nat.le_refl _)) ?_
        · rw [World.cell?_setCells_out _ _ _ _ _ (fun _ _ => .inl (by show j < i + 1; omega))]
          show (World.setCells _ _ _ _).cell? _ = _
          rw [World.cell?_setCells_out _ _ _ _ _ (fun _ _ => .inl hj), hb0.drew.cell]
          exact hlo j v hj hv
        · rw [World.cell?_setCells_out _ _ _ _ _ (fun _ _ => .inl (by show i < i + 1; omega))]
          have := World.cell?_setCells_in w.heap.size [.string x] i _ (fun j hj => hsome0 _ (by simp at hj; omega)) 0 (by simp)
          simpa using this
        · obtain ⟨h5, h6⟩ := List.getElem?_eq_some_iff.1 hv
          have := World.cell?_setCells_in w.heap.size ((ks.drop i).map Value.string) (i + 1) _ (fun j hj => by
            simp only [List.length_map, List.length_drop] at hj
            exact hsome1 _ (by omega)) (j - i) (by simp; omega)
          rw [show i + 1 + (j - i) = j + 1 by omega] at this
          rw [this]
          simp only [List.getElem_map, List.getElem_drop]
          congr 2
          rw [← h6]
          congr 1
          omega
        · exact ((((KeepC.refl _ w).alloc _).drew.sets hb0.drew (by decide) (fun h => absurd h (Nat.lt_irrefl _)) _ _).drew.sets hb1.drew (by decide) (fun h => absurd h (Nat.lt_irrefl _)) _ _)
end Go.Proofs.YtkgflepgkhnclaaGreatDoor
namespace Go.Proofs.YtkgflepgkhnclaaGreatDoor
open Go.RowKit Go.Shelf
set_option linter.unusedVariables false
set_option linter.unusedSimpArgs false

theorem KeysAt.keep {C : Nat → Prop} {w w' : World} {ok : Option Nat} {A : Option Addr} {c : Nat} {ks : List ByteArray} (h : KeysAt w ok A c ks) (k : KeepC C w w') (hC : ∀ g, ok = some g → ¬ C g) : KeysAt w' ok A c ks := by
  rcases h with h | ⟨kb, cs, h1, h2, h3, h4⟩
  · exact .inl h
  · exact .inr ⟨kb, cs, h1, h2, k.blk h3 (hC kb h1), h4⟩
theorem KeysAt.below {w w' : World} {ok : Option Nat} {A : Option Addr} {c : Nat} {ks : List ByteArray} (h : KeysAt w ok A c ks) (hb : Below w.heap.size w w') : KeysAt w' ok A c ks := h.keep (C := fun _ => False) (.of_below hb) (fun _ _ h => h)
theorem KeysAt.lt {w : World} {ok : Option Nat} {A : Option Addr} {c : Nat} {ks : List ByteArray} (h : KeysAt w ok A c ks) {g : Nat} (hg : ok = some g) : g < w.heap.size := by
  rcases h with ⟨h1, _⟩ | ⟨kb, cs, h1, _, h3, _⟩
  · rw [h1] at hg; cases hg
  · rw [h1] at hg; injection hg with hg; subst hg; exact h3.lt
theorem KeysAt.ne {w : World} {ok : Option Nat} {A : Option Addr} {c : Nat} {ks : List ByteArray} {b : Nat} {t : TypeId} {cs : Array Value} (h : KeysAt w ok A c ks) (hb : Blk w b t cs) (ht : t ≠ 9) : ok ≠ some b := by
  rintro rfl
  rcases h with ⟨h1, _⟩ | ⟨kb, cs', h1, _, h3, _⟩
  · cases h1
  · injection h1 with h1
    subst h1
    unfold Blk at hb h3
    rw [hb] at h3
    injection h3 with h3
    injection h3 with _ h3 _
    exact ht h3

def delK (i : Nat) (ks : List ByteArray) : List ByteArray := ks.take i ++ ks.drop (i + 1)
theorem strs_keys (ks : List ByteArray) (x : ByteArray) : Lib.strsOf (keyAt ks x) ks.length = ks.map (·.data.toList) := by
  apply List.ext_getElem
  · simp [Lib.strsOf]
  · intro i h1 h2
    have hi : i < ks.length := by simpa using h2
    simp [Lib.strsOf, keyAt_in hi]
theorem enc_map (l : List ByteArray) : (l.map (·.data.toList)).map encStr = l.map Value.string := by
  rw [List.map_map]
  apply List.map_congr_left
  intro a _
  simp [encStr]
theorem delete_b {w : World} {ok : Option Nat} {A : Option Addr} {c : Nat} {ks : List ByteArray} (h : KeysAt w ok A c ks) (i : Nat) (hi : i < ks.length) :
    Calls Tryz.prog 212 #[.slice A ks.length c, .int .i64 (i : Nat), .int .i64 ((i + 1 : Nat) : Int)] w fun e w' => e = .returned (.slice A (delK i ks).length c) ∧ KeysAt w' ok A c (delK i ks) ∧ KeepC (fun j => ok = some j) w w' := by
  rcases h with ⟨rfl, rfl, rfl, rfl⟩ | ⟨kb, cs, rfl, rfl, hb, h1, h2, h3, h4⟩
  · simp at hi
  · have hc := Any.slices_Delete_string_cells laysDelete kb 0 ks.length c i (i + 1) (keyAt ks ByteArray.empty) w h2 h3 (by omega) (by omega) (fun j hj => by rw [Nat.zero_add, hb.cell, keyAt_in hj]; exact h4 j hj) (fun j _ => by rw [Nat.zero_add]; exact hb.frozen j)
    refine Calls.mono hc ?_
    rintro e w' ⟨rfl, q, rfl⟩
    have hlen : (delK i ks).length = ks.length - (i + 1 - i) := by simp [delK]; omega
    have hvs : (((Lib.strsOf (keyAt ks ByteArray.empty) ks.length).take i ++ (Lib.strsOf (keyAt ks ByteArray.empty) ks.length).drop (i + 1) ++ List.replicate (i + 1 - i) []).map encStr) = (delK i ks ++ [ByteArray.empty]).map Value.string := by
      rw [strs_keys, ← enc_map, delK]
      rw [show i + 1 - i = 1 by omega]
      simp [List.map_take, List.map_drop]
    rw [hvs]
    generalize hL : (delK i ks ++ [ByteArray.empty]).map Value.string = vs
    have hvl : vs.length = ks.length := by rw [← hL]; simp; omega
    obtain ⟨cs', hb', hs'⟩ := (hb.drewN q).sets vs 0
    refine ⟨by rw [hlen], .inr ⟨kb, cs', rfl, rfl, hb', hs'.trans h1, by omega, h3, fun j hj => ?_⟩, ((KeepC.refl (fun j => some kb = some j) w).drewN q).sets (hb.drewN q) (by decide) (fun _ => rfl) _ _⟩
    have := World.cell?_setCells_in kb vs 0 (w.drewN q) (fun j hj => by rw [Nat.zero_add]; exact cell_some (hb.drewN q) (by omega)) j (by omega)
    rw [Nat.zero_add, hb'.cell] at this
    rw [this]
    subst hL
    simp [hj]

/-- A book's row after its keys have changed. -/
def KeysEnd (b : Nat) (ok : Option Nat) (ks' : List ByteArray) (v1 v2 v3 v4 : Value) (w : World) (e : Ending) (w' : World) : Prop :=
  e = .returned (.tuple #[]) ∧ ∃ A' c' ok', Blk w' b 134 #[.slice A' ks'.length c', v1, v2, v3, v4] ∧ KeysAt w' ok' A' c' ks' ∧ (ok' = ok ∨ ∃ g, ok' = some g ∧ w.heap.size ≤ g) ∧ KeepC (fun j => j = b ∨ ok = some j) w w'
set_option maxHeartbeats 1600000 in
theorem add_b {w : World} {b : Nat} {ok : Option Nat} {A : Option Addr} {c : Nat} {ks : List ByteArray} {v1 v2 v3 v4 : Value} (h0 : Blk w b 134 #[.slice A ks.length c, v1, v2, v3, v4]) (h : KeysAt w ok A c ks) (hs : ks.Pairwise ltS) (hl : ks.length ≤ 1000000) (x : ByteArray) (hx : x ∉ ks) :
    Calls Tryz.prog 174 #[.pointer (some ⟨b, 0, none⟩), .string x] w (KeysEnd b ok (insK (posK x ks) x ks) v1 v2 v3 v4 w) := by
  have HF := Lib.hid (find_b h0 h hs hl x false ⟨fun h => (by cases h), fun h => absurd h hx⟩)
  have H0 := Lib.hid h0
  have H := Lib.hid h
  have hp : posK x ks ≤ ks.length := pos_le
  generalize posK x ks = i at HF hp ⊢
  clear h0 h hs hx
  go_enter Tryz.func174, Tryz.ntmps174
  go_wp2_with (go_at_call 176; refine HF.out.mono ?_; rintro e w1 ⟨rfl, hb⟩; have HB := Lib.hid hb; have c0 : w1.cell? ⟨b, 0, none⟩ = some (.slice A ks.length c) := (H0.out.below hb H0.out.lt).cell 0; have f0 : w1.frozen? ⟨b, 0, none⟩ = false := (H0.out.below hb H0.out.lt).frozen 0; clear hb)
  have B1 := H0.out.below HB.out H0.out.lt
  have B2 := B1.alloc (.cells #[.string x] 9)
  have K2 := (H.out.below HB.out).below ((Below.refl _ _).alloc (Nat.le_refl _) (.cells #[.string x] 9))
  have hne : ok ≠ some w1.heap.size := fun e => by have := (H.out.below HB.out).lt e; omega
  refine (insert_b K2 hl i hp x w1.heap.size (Blk.new _ _ _) hne).mono ?_
  rintro e w2 ⟨A', c', ok', rfl, k1, k2, k3⟩
  have B3 : Blk w2 b 134 #[.slice A ks.length c, v1, v2, v3, v4] := k3.blk B2 (H.out.ne H0.out (by decide))
  have c1 : w2.cell? ⟨b, 0, none⟩ = some (.slice A ks.length c) := B3.cell 0
  have f1 : w2.frozen? ⟨b, 0, none⟩ = false := B3.frozen 0
  have HK := Lib.hid (And.intro k1 (And.intro k2 (And.intro k3 B3)))
  have HS := Lib.hid ((KeepC.refl (fun j => j = b ∨ ok = some j) w).below HB.out |>.alloc (.cells #[.string x] 9) |>.trans k3 (fun i _ h => .inr h))
  have HZ := Lib.hid HB.out.size
  clear k1 k2 k3 B1 B2 B3 K2 hne
  go_wp2
  refine bodyPost_ret (results_none rfl _ _ _) rfl ?_
  obtain ⟨k1, k2, k3, B3⟩ := HK.out
  refine ⟨rfl, A', c', ok', B3.set_ 0 _, k1.keep (C := fun j => j = b) (.one ⟨rfl, rfl, rfl, by simp⟩ (fun i _ hi => Below.heap_setCell _ _ _ i hi) (fun _ => rfl) (not_U8 B3 (by decide))) (fun g hg e => k1.ne B3 (by decide) (by rw [hg, e])), ?_, HS.out.setCell B3 (by decide) (fun _ => .inl rfl) _ _⟩
  rcases k2 with k2 | ⟨g, k2, k4⟩
  · exact .inl k2
  · have := HZ.out
    simp at k4
    exact .inr ⟨g, k2, by omega⟩
set_option maxHeartbeats 1600000 in
theorem drop_b {w : World} {b : Nat} {ok : Option Nat} {A : Option Addr} {c : Nat} {ks : List ByteArray} {v1 v2 v3 v4 : Value} (h0 : Blk w b 134 #[.slice A ks.length c, v1, v2, v3, v4]) (h : KeysAt w ok A c ks) (hs : ks.Pairwise ltS) (hl : ks.length ≤ 1000000) (x : ByteArray) (hx : x ∈ ks) :
    Calls Tryz.prog 175 #[.pointer (some ⟨b, 0, none⟩), .string x] w (KeysEnd b ok (delK (posK x ks) ks) v1 v2 v3 v4 w) := by
  have HF := Lib.hid (find_b h0 h hs hl x true ⟨fun _ => hx, fun _ => rfl⟩)
  have H0 := Lib.hid h0
  have H := Lib.hid h
  have hp : posK x ks < ks.length := ((found_pos hs).2 hx).1
  generalize posK x ks = i at HF hp ⊢
  clear h0 h hs hx
  have hw : IntKind.i64.wrap ((i : Int) + 1) = ((i + 1 : Nat) : Int) := by rw [IntWalk.i64_in _ (by omega)]; omega
  go_enter Tryz.func175, Tryz.ntmps175
  go_wp2_with (go_at_call 176; refine HF.out.mono ?_; rintro e w1 ⟨rfl, hb⟩; have HB := Lib.hid hb; have c0 : w1.cell? ⟨b, 0, none⟩ = some (.slice A ks.length c) := (H0.out.below hb H0.out.lt).cell 0; have f0 : w1.frozen? ⟨b, 0, none⟩ = false := (H0.out.below hb H0.out.lt).frozen 0; clear hb)
  have B1 := H0.out.below HB.out H0.out.lt
  have K2 := H.out.below HB.out
  have hd := delete_b K2 i hp
  have e1 : ((i + 1 : Nat) : Int) = (i : Int) + 1 := by omega
  rw [e1] at hd
  refine hd.mono ?_
  rintro e w2 ⟨rfl, k1, k3⟩
  have B3 : Blk w2 b 134 #[.slice A ks.length c, v1, v2, v3, v4] := k3.blk B1 (H.out.ne H0.out (by decide))
  have c1 : w2.cell? ⟨b, 0, none⟩ = some (.slice A ks.length c) := B3.cell 0
  have f1 : w2.frozen? ⟨b, 0, none⟩ = false := B3.frozen 0
  have HK := Lib.hid (And.intro k1 (And.intro k3 B3))
  have HS := Lib.hid ((KeepC.refl (fun j => j = b ∨ ok = some j) w).below HB.out |>.trans k3 (fun i _ h => .inr h))
  clear k1 k3 B1 B3 K2 hd
  go_wp2
  refine bodyPost_ret (results_none rfl _ _ _) rfl ?_
  obtain ⟨k1, k3, B3⟩ := HK.out
  exact ⟨rfl, A, c, ok, B3.set_ 0 _, k1.keep (C := fun j => j = b) (.one ⟨rfl, rfl, rfl, by simp⟩ (fun i _ hi => Below.heap_setCell _ _ _ i hi) (fun _ => rfl) (not_U8 B3 (by decide))) (fun g hg e => k1.ne B3 (by decide) (by rw [hg, e])), .inl rfl, HS.out.setCell B3 (by decide) (fun _ => .inl rfl) _ _⟩
end Go.Proofs.YtkgflepgkhnclaaGreatDoor
namespace Go.Proofs.YtkgflepgkhnclaaGreatDoor
open Go.RowKit Go.Shelf
set_option linter.unusedVariables false
set_option linter.unusedSimpArgs false

theorem run_conv_bytes {w : World} {v : Value} {x : ByteArray} (h : BytesAt w v x) : (convert 135 9 v).run Tryz.prog w = .ok (.string x) w := by
  obtain ⟨A, c, rfl, h2, h3⟩ := h
  have hx : (⟨x.data.toList.toArray⟩ : ByteArray) = x := by rw [Array.toArray_toList]
  have hlen : x.data.toList.length = x.size := by rw [Array.length_toList]; rfl
  have hr := run_string_of_reads (P := Tryz.prog) (w := w) (B := w.heap.size) (n := x.size) (cap := c) (A := A) (l := x.data.toList) 135 9 5 Tryz.underlying135 Tryz.underlying5 Tryz.underlying9 h2
    ⟨by simp [u8s, hlen], fun hp => ?_⟩
  · rw [hx] at hr
    exact hr
  · obtain ⟨vb, off, rfl, h5, h6⟩ := h3 hp
    refine ⟨⟨vb, off, none⟩, rfl, h5.lt, fun j u hj => ?_⟩
    simp only [u8s, List.getElem?_map, Option.map_eq_some_iff] at hj
    obtain ⟨b, h7, rfl⟩ := hj
    obtain ⟨h8, h9⟩ := List.getElem?_eq_some_iff.1 h7
    have h10 : j < x.size := by omega
    rw [Addr.add_lit, h6 j h10]
    rw [← h9]
    rfl

/-- What there comes to. -/
def thereN (l : List (ByteArray × ByteArray)) (key : ByteArray) (vs : List ByteArray) : ByteArray × Int := if mayN key vs = 2 then (⟨#[]⟩, 2) else match getL key l with | none => (⟨#[]⟩, 5) | some v => (v, 0)
def StrErr (r : ByteArray × Int) (w : World) (e : Ending) (w' : World) : Prop := e = .returned (.tuple #[.string r.1, .int .i64 r.2]) ∧ Below w.heap.size w w'
theorem mayN_or (key : ByteArray) (vs : List ByteArray) : mayN key vs = 2 ∨ mayN key vs = 0 := by
  unfold mayN
  split
  · exact .inl rfl
  · exact .inr rfl
theorem ValsAt.keep {C : Nat → Prop} {w w' : World} {m : Nat} {l : List (ByteArray × ByteArray)} (h : ValsAt w m l) (k : KeepC C w w') (hC : ¬ C m) : ValsAt w' m l := by
  obtain ⟨kvs, h1, h2⟩ := h
  refine ⟨kvs, h1.on (k.block m h1.lt (.inl hC)), fun x => ⟨(h2 x).1, fun y hy => ?_⟩⟩
  obtain ⟨v, h4, h5⟩ := (h2 x).2 y hy
  exact ⟨v, h4, h5.keep k⟩
theorem ValsAt.below {w w' : World} {m : Nat} {l : List (ByteArray × ByteArray)} (h : ValsAt w m l) (hb : Below w.heap.size w w') : ValsAt w' m l := h.keep (C := fun _ => False) (.of_below hb) (fun h => h)
theorem BkAt.below {w w' : World} {o : Ow} {B : Bk} (h : BkAt w o B) (hb : Below w.heap.size w w') : BkAt w' o B := by
  obtain ⟨A, c, h1, h2⟩ := h.row
  exact ⟨h.wf, ⟨A, c, h1.below hb h1.lt, h2.below hb⟩, h.vals.below hb⟩
/-- What is looked up. -/
theorem ValsAt.look {w : World} {m : Nat} {l : List (ByteArray × ByteArray)} (h : ValsAt w m l) (key : ByteArray) :
    ∃ kvs, StrMap w m kvs ∧ (getL key l = none → getS key kvs = none) ∧ ∀ x, getL key l = some x → ∃ v, getS key kvs = some v ∧ BytesAt w v x := by
  obtain ⟨kvs, h1, h2⟩ := h
  exact ⟨kvs, h1, h2 key⟩

set_option maxHeartbeats 1600000 in
theorem there_b {w : World} {o : Ow} {B : Bk} (h : BkAt w o B) (key : ByteArray) (vs : List ByteArray) (A : Option Addr) (c : Nat) (hA : StrsAt w A vs) (hl : vs.length ≤ 1000) :
    Calls Tryz.prog 171 #[.pointer (some ⟨o.b, 0, none⟩), .string key, .slice A vs.length c] w (StrErr (thereN B.l key vs) w) := by
  have HM := Lib.hid (may_b h key vs A c hA hl)
  rcases mayN_or key vs with hm | hm
  · have hE : thereN B.l key vs = (⟨#[]⟩, 2) := by unfold thereN; rw [if_pos hm]
    rw [hE]
    rw [hm] at HM
    clear h hA hm hE
    go_enter Tryz.func171, Tryz.ntmps171
    go_wp2_with (go_at_call 172; refine HM.out.mono ?_; rintro e w1 ⟨rfl, hb⟩; have HB := Lib.hid hb; clear hb)
    go_ret2
    exact ⟨rfl, HB.out⟩
  · have hE : thereN B.l key vs = match getL key B.l with | none => (⟨#[]⟩, 5) | some v => (v, 0) := by unfold thereN; rw [if_neg (by rw [hm]; decide)]
    rw [hE]
    rw [hm] at HM
    have HH := Lib.hid h
    clear hA hm hE
    cases hg : getL key B.l with
    | none =>
      have HG := Lib.hid hg
      clear hg h
      go_enter Tryz.func171, Tryz.ntmps171
      go_wp2_with fail
      refine HM.out.mono ?_
      rintro e w1 ⟨rfl, hb⟩
      obtain ⟨A1, c1, h1, h2⟩ := (HH.out.below hb).row
      have d1 : w1.cell? ⟨o.b, 1, none⟩ = some (.map (some o.m)) := h1.cell 1
      obtain ⟨kvs, k1, k2, k3⟩ := (HH.out.below hb).vals.look key
      have k4 := k2 HG.out
      have HK := Lib.hid k1
      have HB := Lib.hid hb
      have HV := Lib.hid (show (getS key kvs).getD (.slice none 0 0) = .slice none 0 0 by rw [k4]; rfl)
      have HO := Lib.hid (show (getS key kvs).isSome = false by rw [k4]; rfl)
      clear h1 h2 k1 k2 k3 k4 hb
      go_wp2_with (at_lookup; refine wpList_lookup_str_ok rfl _ _ 132 rfl 9 135 Tryz.underlying132 Tryz.underlying9 (.slice none 0 0) (Tryz.zeroValue135 _) o.m kvs rfl HK.out key rfl _ _ HV.out HO.out ?_)
      go_ret2
      exact ⟨rfl, HB.out⟩
    | some x =>
      have HG := Lib.hid hg
      clear hg h
      go_enter Tryz.func171, Tryz.ntmps171
      go_wp2_with fail
      refine HM.out.mono ?_
      rintro e w1 ⟨rfl, hb⟩
      obtain ⟨A1, c1, h1, h2⟩ := (HH.out.below hb).row
      have d1 : w1.cell? ⟨o.b, 1, none⟩ = some (.map (some o.m)) := h1.cell 1
      obtain ⟨kvs, k1, k2, k3⟩ := (HH.out.below hb).vals.look key
      obtain ⟨v, k4, k5⟩ := k3 x HG.out
      have hc := run_conv_bytes k5
      have HK := Lib.hid k1
      have HB := Lib.hid hb
      have HV := Lib.hid (show (getS key kvs).getD (.slice none 0 0) = v by rw [k4]; rfl)
      have HO := Lib.hid (show (getS key kvs).isSome = true by rw [k4]; rfl)
      clear h1 h2 k1 k2 k3 k4 k5 hb
      go_wp2_with (at_lookup; refine wpList_lookup_str_ok rfl _ _ 132 rfl 9 135 Tryz.underlying132 Tryz.underlying9 (.slice none 0 0) (Tryz.zeroValue135 _) o.m kvs rfl HK.out key rfl _ _ HV.out HO.out ?_)
      go_ret2
      exact ⟨rfl, HB.out⟩
theorem get_b {w : World} {o : Ow} {B : Bk} (h : BkAt w o B) (key : ByteArray) :
    Calls Tryz.prog 127 #[.pointer (some ⟨o.b, 0, none⟩), .string key] w (StrErr (thereN B.l key []) w) := by
  have HT := Lib.hid (there_b h key [] none 0 .nil (by simp))
  generalize thereN B.l key [] = r at HT ⊢
  clear h
  go_enter Tryz.func127, Tryz.ntmps127
  go_wp2_with (go_at_call 171; refine HT.out.mono ?_; rintro e w1 ⟨rfl, hb⟩; have HB := Lib.hid hb; clear hb)
  go_ret2
  exact ⟨rfl, HB.out⟩
theorem keys_b {w : World} {o : Ow} {B : Bk} (h : BkAt w o B) (hl : B.l.length ≤ 1000000) : Calls Tryz.prog 133 #[.pointer (some ⟨o.b, 0, none⟩)] w (StayV (.int .u64 (B.l.length : Nat)) w) := by
  have HN := Lib.hid (none_b h)
  obtain ⟨A1, c1, h1, h2⟩ := h.row
  have d1 : w.cell? ⟨o.b, 0, none⟩ = some (.slice A1 B.l.length c1) := h1.cell 0
  have hw : IntKind.u64.wrap (B.l.length : Int) = (B.l.length : Int) := by rw [IntKind.wrap_u64]; omega
  clear h h1 h2
  go_enter Tryz.func133, Tryz.ntmps133
  go_wp2_with (go_at_call 67; refine HN.out.mono ?_; rintro e w1 ⟨rfl, rfl⟩)
  go_ret
  exact ⟨rfl, rfl⟩
theorem bytes_b {w : World} {o : Ow} {B : Bk} (h : BkAt w o B) : Calls Tryz.prog 134 #[.pointer (some ⟨o.b, 0, none⟩)] w (StayV (.int .u64 (sizeL B.l : Nat)) w) := by
  have HN := Lib.hid (none_b h)
  obtain ⟨A1, c1, h1, h2⟩ := h.row
  have d1 : w.cell? ⟨o.b, 4, none⟩ = some (.int .u64 (sizeL B.l : Nat)) := h1.cell 4
  clear h h1 h2
  go_enter Tryz.func134, Tryz.ntmps134
  go_wp2_with (go_at_call 67; refine HN.out.mono ?_; rintro e w1 ⟨rfl, rfl⟩)
  go_ret
  exact ⟨rfl, rfl⟩
end Go.Proofs.YtkgflepgkhnclaaGreatDoor
namespace Go.Proofs.YtkgflepgkhnclaaGreatDoor
open Go.RowKit Go.Shelf
set_option linter.unusedVariables false
set_option linter.unusedSimpArgs false

theorem blk_at {w : World} {g : Nat} {t : TypeId} {cs : Array Value} (h : g = w.heap.size) : Blk (w.alloc (.cells cs t)) g t cs := by subst h; exact Blk.new _ _ _
theorem strMap_at {w : World} {g : Nat} (h : g = w.heap.size) : StrMap (w.alloc (.map #[] 0)) g [] := by subst h; exact StrMap.made _
theorem StrMap.alloc {w : World} {g : Nat} {kvs : Kvs} (h : StrMap w g kvs) (o : Obj) : StrMap (w.alloc o) g kvs := h.on (Below.heap_alloc w o g h.lt)
/-- What New comes to. -/
def NewB (qk qb : Int) (w : World) (e : Ending) (w' : World) : Prop :=
  ∃ o : Ow, e = .returned (.pointer (some ⟨o.b, 0, none⟩)) ∧ BkAt w' o ⟨[], qk, qb⟩ ∧ (∀ i, o.has i → w.heap.size ≤ i) ∧ Below w.heap.size w w'
theorem new_b (qk qb : Int) (w : World) (h1 : 0 ≤ qk ∧ qk ≤ 18446744073709551615) (h2 : 0 ≤ qb ∧ qb ≤ 18446744073709551615) : Calls Tryz.prog 136 #[.agg #[.int .u64 qk, .int .u64 qb]] w (NewB qk qb w) := by
  have HH := Lib.hid (And.intro h1 h2)
  clear h1 h2
  have hmm := @run_makeMap Tryz.prog
  go_enter Tryz.func136, Tryz.ntmps136
  go_wp2
  go_ret
  obtain ⟨h1, h2⟩ := HH.out
  refine ⟨⟨_, _, none⟩, rfl, ⟨⟨h1, h2, by simp, by simp, by simpa using h1.1, by simpa [sizeL] using h2.1⟩, ⟨none, 0, blk_at (by simp), .inl ⟨rfl, rfl, rfl, rfl⟩⟩, ⟨[], (strMap_at (by simp)).alloc _, fun k => ⟨fun _ => rfl, fun x hx => by cases hx⟩⟩⟩, ?_, ?_⟩
  · rintro i (rfl | rfl | h)
    · show _ ≤ w.heap.size + 1 + 1; omega
    · show _ ≤ w.heap.size + 1; omega
    · cases h
  · exact (((Below.refl _ _).alloc (Nat.le_refl _) _).alloc (by simp) _).alloc (by simp; omega) _

/-- What a call that changes a book comes to: a number, and the book as it is then. -/
def BookEnd (r : Int) (o : Ow) (B' : Bk) (w : World) (e : Ending) (w' : World) : Prop :=
  e = .returned (.int .i64 r) ∧ ∃ ok, BkAt w' ⟨o.b, o.m, ok⟩ B' ∧ (ok = o.k ∨ ∃ g, ok = some g ∧ w.heap.size ≤ g) ∧ KeepC o.has w w'
/-- Delete on a book. -/
def delB (B : Bk) (key : ByteArray) : Int × Bk := if (thereN B.l key []).2 = 0 then (0, { B with l := delL key B.l }) else ((thereN B.l key []).2, B)
theorem thereN_none {l : List (ByteArray × ByteArray)} {key : ByteArray} {vs : List ByteArray} (h : mayN key vs = 0) (hg : getL key l = none) : thereN l key vs = (⟨#[]⟩, 5) := by
  unfold thereN
  rw [if_neg (by rw [h]; decide), hg]
theorem thereN_some {l : List (ByteArray × ByteArray)} {key x : ByteArray} {vs : List ByteArray} (h : mayN key vs = 0) (hg : getL key l = some x) : thereN l key vs = (x, 0) := by
  unfold thereN
  rw [if_neg (by rw [h]; decide), hg]
theorem thereN_bad {l : List (ByteArray × ByteArray)} {key : ByteArray} {vs : List ByteArray} (h : mayN key vs = 2) : thereN l key vs = (⟨#[]⟩, 2) := by
  unfold thereN
  rw [if_pos h]
theorem ow_self (o : Ow) : (⟨o.b, o.m, o.k⟩ : Ow) = o := by cases o; rfl
section
variable {w : World} {o : Ow} {B : Bk}
theorem BkAt.blk (h : BkAt w o B) : ∃ cs, Blk w o.b 134 cs := by
  obtain ⟨A, c, h1, _⟩ := h.row
  exact ⟨_, h1⟩
theorem BkAt.map (h : BkAt w o B) : ∃ kvs, StrMap w o.m kvs := by
  obtain ⟨kvs, h1, _⟩ := h.vals
  exact ⟨kvs, h1⟩
theorem strMap_ne {m b : Nat} {kvs : Kvs} {t : TypeId} {cs : Array Value} (h : StrMap w m kvs) (k : Blk w b t cs) : m ≠ b := by
  rintro rfl
  obtain ⟨es, ck, h1, _⟩ := h
  unfold Blk at k
  rw [h1] at k
  injection k with k
  cases k
theorem BkAt.mb (h : BkAt w o B) : o.m ≠ o.b := by
  obtain ⟨cs, h1⟩ := h.blk
  obtain ⟨kvs, h2⟩ := h.map
  exact strMap_ne h2 h1
theorem BkAt.km (h : BkAt w o B) : o.k ≠ some o.m := by
  intro e
  obtain ⟨A, c, h1, h2⟩ := h.row
  obtain ⟨kvs, h3⟩ := h.map
  rcases h2 with ⟨h4, _⟩ | ⟨kb, cs, h4, _, h5, _⟩
  · rw [h4] at e; cases e
  · rw [h4] at e; injection e with e; subst e; exact strMap_ne h3 h5 rfl
theorem BkAt.lt (h : BkAt w o B) {i : Nat} (hi : o.has i) : i < w.heap.size := by
  rcases hi with rfl | rfl | hi
  · obtain ⟨cs, h1⟩ := h.blk; exact h1.lt
  · obtain ⟨kvs, h2⟩ := h.map; exact h2.lt
  · obtain ⟨A, c, h1, h2⟩ := h.row; exact h2.lt hi
theorem BkAt.keep {C : Nat → Prop} {w' : World} (h : BkAt w o B) (k : KeepC C w w') (hC : ∀ i, o.has i → ¬ C i) : BkAt w' o B := by
  obtain ⟨A, c, h1, h2⟩ := h.row
  exact ⟨h.wf, ⟨A, c, k.blk h1 (hC _ (.inl rfl)), h2.keep k (fun g hg => hC g (.inr (.inr hg)))⟩, h.vals.keep k (hC _ (.inr (.inl rfl)))⟩
end
set_option maxHeartbeats 3200000 in
theorem del_b {w : World} {o : Ow} {B : Bk} (h : BkAt w o B) (key : ByteArray) (hl : B.l.length ≤ 1000000) :
    Calls Tryz.prog 129 #[.pointer (some ⟨o.b, 0, none⟩), .string key] w (BookEnd (delB B key).1 o (delB B key).2 w) := by
  have HT := Lib.hid (there_b h key [] none 0 .nil (by simp))
  have HH := Lib.hid h
  by_cases h0 : (thereN B.l key []).2 = 0
  · have hE : delB B key = (0, { B with l := delL key B.l }) := by unfold delB; rw [if_pos h0]
    rw [hE]
    have hm : mayN key [] = 0 := by
      rcases mayN_or key [] with h1 | h1
      · rw [thereN_bad h1] at h0; cases h0
      · exact h1
    obtain ⟨x, hg⟩ : ∃ x, getL key B.l = some x := by
      cases hg : getL key B.l with
      | none => rw [thereN_none hm hg] at h0; cases h0
      | some x => exact ⟨x, rfl⟩
    rw [thereN_some hm hg] at HT
    have HG := Lib.hid hg
    clear h h0 hE hm hg
    go_enter Tryz.func129, Tryz.ntmps129
    go_wp2_with fail
    refine HT.out.mono ?_
    rintro e w1 ⟨rfl, hb⟩
    have H1 := HH.out.below hb
    have HB := Lib.hid hb
    clear hb
    obtain ⟨A1, c1, b1, k1⟩ := H1.row
    have hmem : key ∈ keysL B.l := List.mem_map_of_mem (f := (·.1)) (getL_mem HG.out)
    have hlen : (keysL B.l).length = B.l.length := by simp
    rw [← hlen] at b1
    have HD := Lib.hid (drop_b b1 k1 H1.wf.keys (by omega) key hmem)
    have H1' := Lib.hid H1
    have BK := Lib.hid (And.intro b1 k1)
    clear H1 b1 k1 hmem hlen
    go_wp2_with fail
    refine HD.out.mono ?_
    rintro e w2 ⟨rfl, A2, c2, ok2, b2, k2, g2, q2⟩
    have hkl : keysL (delL key B.l) = delK (posK key (keysL B.l)) (keysL B.l) := keys_delL HH.out.wf.keys (List.mem_map_of_mem (f := (·.1)) (getL_mem HG.out))
    rw [← hkl] at b2 k2
    rw [List.length_map] at b2
    clear hkl
    obtain ⟨kvs, n1, n2⟩ := H1'.out.vals
    have n3 : StrMap w2 o.m kvs := n1.on (q2.block o.m n1.lt (.inl (fun hc => hc.elim H1'.out.mb H1'.out.km)))
    have d1 : w2.cell? ⟨o.b, 1, none⟩ = some (.map (some o.m)) := b2.cell 1
    have B2 := Lib.hid b2
    have N3 := Lib.hid n3
    have hne := H1'.out.mb
    have HS : Hid (IntKind.u64.wrap ((sizeL B.l : Int) - ((key.size + x.size : Nat) : Int)) = (sizeL (delL key B.l) : Int)) := Lib.hid (by
      have h1 := size_delL HG.out
      have h2 := HH.out.wf.nb
      have h3 := HH.out.wf.qb
      rw [IntKind.wrap_u64]; omega)
    have HX := Lib.hid (HH.out.wf.short _ (getL_mem HG.out))
    have Q2 := Lib.hid q2
    have K2 := Lib.hid k2
    have N2 := Lib.hid n2
    have G2 := Lib.hid g2
    clear b2 n1 n2 n3 q2 k2 g2
    go_wp2_with (at_delete; refine wpList_delete_str rfl _ _ 132 9 rfl 9 135 Tryz.underlying132 Tryz.underlying9 o.m kvs rfl N3.out key rfl ?_; intro w3 m3 g3; have b3 := Blk.grown B2.out g3 (fun e => hne (by injection e with e; exact e.symm)); have d4 : w3.cell? ⟨o.b, 4, none⟩ = some (.int .u64 (sizeL B.l : Int)) := b3.cell 4; have f4 : w3.frozen? ⟨o.b, 4, none⟩ = false := b3.frozen 4)
    have B3 := Lib.hid b3
    have M3 := Lib.hid m3
    have G3 := Lib.hid g3
    clear b3 m3 g3
    have HZ := Lib.hid (size_b key x w3.drew (by have := HX.out; omega) (by have := HX.out; omega))
    have hs := HS.out
    have HEND : Hid (BookEnd 0 o { B with l := delL key B.l } w (.returned (.int .i64 0)) ((w3.setCell ⟨o.b, 4, none⟩ (.int .u64 (sizeL (delL key B.l) : Int))).drew)) := Lib.hid (by
      have hwf : ({ B with l := delL key B.l } : Bk).wf := by
        have h1 := size_delL HG.out
        have h2 : (delL key B.l).length ≤ B.l.length := delL_sub.length_le
        obtain ⟨p1, p2, p3, p4, p5, p6⟩ := HH.out.wf
        exact ⟨p1, p2, sorted_delL p3, fun p hp => p4 p (delL_sub.mem hp), by show ((delL key B.l).length : Int) ≤ B.qk; omega, by show (sizeL (delL key B.l) : Int) ≤ B.qb; omega⟩
      have hq3 : KeepC (fun i => i = o.b ∨ i = o.m) w2 (w3.setCell ⟨o.b, 4, none⟩ (.int .u64 (sizeL (delL key B.l) : Int))) :=
        ((KeepC.refl (fun i => i = o.b ∨ i = o.m) w2).grown G3.out (fun b hb => by injection hb with hb; subst hb; exact ⟨fun _ => .inr rfl, N3.out.notU8⟩)).setCell B3.out (by decide) (fun _ => .inl rfl) _ _
      have hq : KeepC o.has w (w3.setCell ⟨o.b, 4, none⟩ (.int .u64 (sizeL (delL key B.l) : Int))) :=
        ((KeepC.refl o.has w).below HB.out |>.trans Q2.out (fun i _ h => h.elim .inl (fun h => .inr (.inr h)))).trans hq3 (fun i _ h => h.elim .inl (fun h => .inr (.inl h)))
      refine ⟨rfl, ok2, ⟨hwf, ⟨A2, c2, (B3.out.set_ 4 _).drew, ?_⟩, ⟨delS key kvs, M3.out.on (Below.heap_setCell _ _ _ _ hne), fun k => ⟨fun hk => ?_, fun y hy => ?_⟩⟩⟩, ?_, hq.drew⟩
      · refine (KeysAt.keep K2.out hq3 (fun g hg hc => ?_) : KeysAt _ ok2 A2 c2 (keysL (delL key B.l)))
        rcases hc with rfl | rfl
        · exact K2.out.ne B2.out (by decide) hg
        · rcases K2.out with ⟨h4, _⟩ | ⟨kb, cs, h4, _, h5, _⟩
          · rw [h4] at hg; cases hg
          · rw [h4] at hg; injection hg with hg; subst hg; exact strMap_ne N3.out h5 rfl
      · have hnd : (kvs.map (·.1)).Nodup := by
          obtain ⟨es, ck, _, _, _, _, h⟩ := N3.out; exact h
        rw [getL_delL HH.out.wf.keys] at hk
        rw [getS_delS hnd]
        split
        · rfl
        · rename_i hne2; rw [if_neg hne2] at hk; exact (N2.out k).1 hk
      · have hnd : (kvs.map (·.1)).Nodup := by
          obtain ⟨es, ck, _, _, _, _, h⟩ := N3.out; exact h
        rw [getL_delL HH.out.wf.keys] at hy
        split at hy
        · cases hy
        · rename_i hne2
          obtain ⟨v, h1, h2⟩ := (N2.out k).2 y hy
          rw [getS_delS hnd, if_neg hne2]
          exact ⟨v, h1, ((h2.keep Q2.out).keep hq3.drew)⟩
      · rcases G2.out with h | ⟨g, h1, h2⟩
        · exact .inl h
        · exact .inr ⟨g, h1, Nat.le_trans HB.out.size h2⟩)
    clear hl hne
    generalize ((key.size + x.size : Nat) : Int) = sz at hs HZ
    go_region_with (go_at_call 173; refine HZ.out.mono ?_; rintro e w4 ⟨rfl, rfl⟩)
    all_goals
      go_wp2
      go_ret
      exact HEND.out
  · have hE : delB B key = ((thereN B.l key []).2, B) := by unfold delB; rw [if_neg h0]
    rw [hE]
    generalize thereN B.l key [] = r at HT h0 ⊢
    obtain ⟨s, n⟩ := r
    dsimp only at h0 ⊢
    clear h hE
    go_enter Tryz.func129, Tryz.ntmps129
    go_wp2_with (go_at_call 171; refine HT.out.mono ?_; rintro e w1 ⟨rfl, hb⟩; have HB := Lib.hid hb; clear hb)
    go_ret
    exact ⟨rfl, o.k, by rw [ow_self]; exact HH.out.below HB.out, .inl rfl, .of_below HB.out⟩
end Go.Proofs.YtkgflepgkhnclaaGreatDoor
namespace Go.Proofs.YtkgflepgkhnclaaGreatDoor
open Go.RowKit Go.Shelf
set_option linter.unusedVariables false
set_option linter.unusedSimpArgs false

theorem u8_at {w : World} {x : ByteArray} {C : Nat} {z : Nat × Nat} {g : Nat} (h : g = w.heap.size) : BytesAt (w.alloc (.cells (bytesRow x C) 5 z)) (.slice (some ⟨g, 0, none⟩) x.size C) x := by
  subst h
  have hb : (w.alloc (.cells (bytesRow x C) 5 z)).heap[w.heap.size]? = some (.cells (bytesRow x C) 5 z) := heap_alloc_new w _
  refine ⟨_, _, rfl, (fun h => by cases h), fun _ => ⟨_, 0, rfl, ⟨_, _, hb⟩, fun j hj => ?_⟩⟩
  rw [Nat.zero_add, cell_of_row _ _ j _ _ _ hb]
  exact bytesRow_at x C j hj
theorem conv_new (x : ByteArray) (w : World) : ∃ C z, (convert 9 135 (.string x)).run Tryz.prog w = .ok (.slice (some ⟨w.heap.size, 0, none⟩) x.size C) (w.drew.alloc (.cells (bytesRow x C) 5 z)) :=
  ⟨_, _, run_bytes_of_string w 9 135 5 x Tryz.underlying9 Tryz.underlying135 Tryz.underlying5⟩
theorem StrOpen.notU8 {w : World} {b : Nat} {kvs : Kvs} {k : ByteArray} {st : Nat} (h : StrOpen w b kvs k st) : ¬ U8 w b := by
  obtain ⟨es, ck, i, hb, _⟩ := h
  exact not_U8_map hb
/-- The keys of a book into which a pair was put. -/
def addK (x : ByteArray) (l : List (ByteArray × ByteArray)) : List ByteArray := if (getL x l).isSome then keysL l else insK (posK x (keysL l)) x (keysL l)
set_option maxHeartbeats 1600000 in
theorem add_old {w : World} {b : Nat} {ok : Option Nat} {A : Option Addr} {c : Nat} {ks : List ByteArray} {v1 v2 v3 v4 : Value} (h0 : Blk w b 134 #[.slice A ks.length c, v1, v2, v3, v4]) (h : KeysAt w ok A c ks) (hs : ks.Pairwise ltS) (hl : ks.length ≤ 1000000) (x : ByteArray) (hx : x ∈ ks) :
    Calls Tryz.prog 174 #[.pointer (some ⟨b, 0, none⟩), .string x] w (KeysEnd b ok ks v1 v2 v3 v4 w) := by
  have HF := Lib.hid (find_b h0 h hs hl x true ⟨fun _ => hx, fun _ => rfl⟩)
  have H0 := Lib.hid h0
  have H := Lib.hid h
  clear h0 h hs hx
  go_enter Tryz.func174, Tryz.ntmps174
  go_wp2_with (go_at_call 176; refine HF.out.mono ?_; rintro e w1 ⟨rfl, hb⟩; have HB := Lib.hid hb; clear hb)
  refine bodyPost_ret (results_none rfl _ _ _) rfl ?_
  exact ⟨rfl, A, c, ok, H0.out.below HB.out H0.out.lt, H.out.below HB.out, .inl rfl, .of_below HB.out⟩
theorem add_any {w : World} {b : Nat} {ok : Option Nat} {A : Option Addr} {c : Nat} {l : List (ByteArray × ByteArray)} {v1 v2 v3 v4 : Value} (h0 : Blk w b 134 #[.slice A l.length c, v1, v2, v3, v4]) (h : KeysAt w ok A c (keysL l)) (hs : (keysL l).Pairwise ltS) (hl : l.length ≤ 1000000) (x y : ByteArray) :
    Calls Tryz.prog 174 #[.pointer (some ⟨b, 0, none⟩), .string x] w (KeysEnd b ok (keysL (putL x y l)) v1 v2 v3 v4 w) := by
  have hlen : (keysL l).length = l.length := by simp
  rw [← hlen] at h0 hl
  rw [keys_putL hs]
  cases hg : getL x l with
  | none =>
    simp only [Option.isSome_none, Bool.false_eq_true, if_false]
    exact add_b h0 h hs hl x (getL_none.1 hg)
  | some v =>
    simp only [Option.isSome_some, if_true]
    exact add_old h0 h hs hl x (List.mem_map_of_mem (f := (·.1)) (getL_mem hg))

/-- Put on a book. -/
def putB (B : Bk) (key value : ByteArray) : Int × Bk :=
  if mayN key [value] = 2 then (2, B) else if B.qk < ((putL key value B.l).length : Int) ∨ B.qb < (sizeL (putL key value B.l) : Int) then (10, B) else (0, { B with l := putL key value B.l })
theorem putB_wf {B : Bk} {key value : ByteArray} (h : B.wf) (hm : mayN key [value] = 0) (h1 : ¬ B.qk < ((putL key value B.l).length : Int)) (h2 : ¬ B.qb < (sizeL (putL key value B.l) : Int)) : ({ B with l := putL key value B.l } : Bk).wf := by
  obtain ⟨p1, p2, p3, p4, p5, p6⟩ := h
  refine ⟨p1, p2, sorted_putL p3, fun p hp => ?_, by show ((putL key value B.l).length : Int) ≤ B.qk; omega, by show (sizeL (putL key value B.l) : Int) ≤ B.qb; omega⟩
  rcases mem_putL hp with rfl | hp
  · unfold mayN at hm
    split at hm
    · cases hm
    · rename_i hn
      simp [longS] at hn
      exact ⟨by show key.size ≤ 16; omega, by show value.size ≤ 32; omega⟩
  · exact p4 p hp
theorem mayN_short {key : ByteArray} {vs : List ByteArray} (hm : mayN key vs = 0) : key.size ≤ 16 ∧ ∀ v ∈ vs, v.size ≤ 32 := by
  unfold mayN at hm
  split at hm
  · cases hm
  · rename_i hn
    simp [longS] at hn
    exact ⟨by omega, fun v hv => by have := hn.2 v hv; omega⟩
theorem sizeL_le {l : List (ByteArray × ByteArray)} (h : ∀ p ∈ l, p.1.size ≤ 16 ∧ p.2.size ≤ 32) : sizeL l ≤ 48 * l.length := by
  induction l with
  | nil => simp [sizeL]
  | cons p r ih =>
    have h1 := h p (by simp)
    have h2 := ih (fun q hq => h q (by simp [hq]))
    simp only [sizeL, List.map_cons, List.sum_cons, sizeP, List.length_cons] at h2 ⊢
    omega
/-- What is so behind the checks of Put: the book's world, with what was looked up. -/
def PutEnd (B : Bk) (o : Ow) (key value : ByteArray) (w : World) (e : Ending) (w' : World) : Prop := BookEnd (putB B key value).1 o (putB B key value).2 w e w'
theorem putEnd_no {B : Bk} {o : Ow} {key value : ByteArray} {w w' : World} {n : Int} (h : BkAt w o B) (hb : Below w.heap.size w w') (hE : putB B key value = (n, B)) : PutEnd B o key value w (.returned (.int .i64 n)) w' := by
  unfold PutEnd
  rw [hE]
  exact ⟨rfl, o.k, by rw [ow_self]; exact h.below hb, .inl rfl, .of_below hb⟩
theorem putEnd_yes {B : Bk} {o : Ow} {key value : ByteArray} {w w1 w2 w5 : World} {A2 : Option Addr} {c2 : Nat} {ok2 : Option Nat} {kvs : Kvs} {val : Value} (h : BkAt w o B) (hb : Below w.heap.size w w1) (hE : putB B key value = (0, { B with l := putL key value B.l }))
    (hwf : ({ B with l := putL key value B.l } : Bk).wf) (hv : ∀ k, (getL k B.l = none → getS k kvs = none) ∧ ∀ x, getL k B.l = some x → ∃ v, getS k kvs = some v ∧ BytesAt w1 v x)
    (k2 : KeysAt w2 ok2 A2 c2 (keysL (putL key value B.l))) (hne2 : ok2 ≠ some o.b ∧ ok2 ≠ some o.m) (g2 : ok2 = o.k ∨ ∃ g, ok2 = some g ∧ w1.heap.size ≤ g) (q2 : KeepC (fun j => j = o.b ∨ o.k = some j) w1 w2)
    (q5 : KeepC (fun j => j = o.b ∨ j = o.m) w2 w5) (b5 : Blk w5 o.b 134 #[.slice A2 (putL key value B.l).length c2, .map (some o.m), .int .u64 B.qk, .int .u64 B.qb, .int .u64 (sizeL (putL key value B.l) : Int)])
    (m5 : StrMap w5 o.m (putS key val kvs)) (hval : BytesAt w5 val value) : PutEnd B o key value w (.returned (.int .i64 0)) w5 := by
  unfold PutEnd
  rw [hE]
  refine ⟨rfl, ok2, ⟨hwf, ⟨A2, c2, b5, k2.keep q5 (fun g hg hc => hc.elim (fun e => hne2.1 (by rw [hg, e])) (fun e => hne2.2 (by rw [hg, e])))⟩, ⟨putS key val kvs, m5, fun k => ⟨fun hk => ?_, fun x hx => ?_⟩⟩⟩, ?_, ?_⟩
  · rw [getL_putL] at hk
    rw [getS_putS]
    split
    · rename_i he; rw [if_pos he] at hk; cases hk
    · rename_i he; rw [if_neg he] at hk; exact (hv k).1 hk
  · rw [getL_putL] at hx
    rw [getS_putS]
    split
    · rename_i he
      rw [if_pos he] at hx
      injection hx with hx
      subst hx
      exact ⟨val, rfl, hval⟩
    · rename_i he
      rw [if_neg he] at hx
      obtain ⟨v, h1, h2⟩ := (hv k).2 x hx
      exact ⟨v, h1, (h2.keep q2).keep q5⟩
  · rcases g2 with h1 | ⟨g, h1, h2⟩
    · exact .inl h1
    · exact .inr ⟨g, h1, Nat.le_trans hb.size h2⟩
  · exact (((KeepC.refl o.has w).below hb).trans q2 (fun i _ h => h.elim .inl (fun h => .inr (.inr h)))).trans q5 (fun i _ h => h.elim .inl (fun h => .inr (.inl h)))

set_option maxHeartbeats 6400000 in
set_option maxRecDepth 100000 in
theorem put_b {w : World} {o : Ow} {B : Bk} (h : BkAt w o B) (key value : ByteArray) (hl : B.l.length ≤ 1000000) :
    Calls Tryz.prog 128 #[.pointer (some ⟨o.b, 0, none⟩), .string key, .string value] w (PutEnd B o key value w) := by
  have hvs : StrsAt (w.alloc (.cells #[.string value] 9)) (some ⟨w.heap.size, 0, none⟩) [value] := fun _ => ⟨w.heap.size, rfl, fun i hi => by
    obtain rfl : i = 0 := by simpa using hi
    exact (Blk.new w 9 #[.string value]).cell 0⟩
  have hb0 := (Below.refl w.heap.size w).alloc (Nat.le_refl _) (.cells #[.string value] 9)
  have HM := Lib.hid (may_b (h.below hb0) key [value] (some ⟨w.heap.size, 0, none⟩) 1 hvs (by simp))
  have HB0 := Lib.hid hb0
  have HH := Lib.hid h
  clear hvs hb0 h
  rcases mayN_or key [value] with hm | hm
  · have HE := Lib.hid (show putB B key value = (2, B) by unfold putB; rw [if_pos hm])
    rw [hm] at HM
    clear hm
    go_enter Tryz.func128, Tryz.ntmps128
    go_wp2_with (go_at_call 172; refine HM.out.mono ?_; rintro e w1 ⟨rfl, hb⟩; have HB := Lib.hid (HB0.out.trans (hb.mono HB0.out.size)); clear hb)
    go_ret
    exact putEnd_no HH.out HB.out HE.out
  · rw [hm] at HM
    have HMZ := Lib.hid hm
    have hsh := mayN_short hm
    have HSH := Lib.hid (show key.size ≤ 16 ∧ value.size ≤ 32 from ⟨hsh.1, hsh.2 value (by simp)⟩)
    clear hm hsh
    have hsz := sizeL_le HH.out.wf.short
    have hszp := size_putL (k := key) (v := value) HH.out.wf.keys
    have hlp := len_putL (k := key) (v := value) HH.out.wf.keys
    have HZ := Lib.hid (And.intro hsz (And.intro hszp hlp))
    clear hsz hszp hlp
    cases hg : getL key B.l with
    | none =>
      have HG := Lib.hid hg
      have hlen : Hid (((B.l.length : Int) + 1) = ((putL key value B.l).length : Int)) := Lib.hid (by have := HZ.out.2.2; rw [hg, if_pos rfl] at this; omega)
      have hu1 : IntKind.u64.wrap (B.l.length : Int) = (B.l.length : Int) := by rw [IntKind.wrap_u64]; omega
      have hu2 : IntKind.u64.wrap ((B.l.length : Int) + 1) = (((putL key value B.l).length : Nat) : Int) := by have := hlen.out; rw [IntKind.wrap_u64]; omega
      have hs2 : IntKind.u64.wrap ((sizeL B.l : Int) + ((key.size + value.size : Nat) : Int)) = (sizeL (putL key value B.l) : Int) := by
        have h1 := HZ.out.2.1
        have h2 := HZ.out.1
        have h3 := HSH.out
        unfold oldS at h1
        rw [hg] at h1
        simp only [Option.map_none, Option.getD_none] at h1
        rw [IntKind.wrap_u64]; omega
      clear hg
      go_enter Tryz.func128, Tryz.ntmps128
      go_wp2_with fail
      refine HM.out.mono ?_
      rintro e w1 ⟨rfl, hb⟩
      have HB := Lib.hid (HB0.out.trans (hb.mono HB0.out.size))
      clear hb
      have H1 := HH.out.below HB.out
      obtain ⟨A1, c1, b1, k1⟩ := H1.row
      obtain ⟨kvs, n1, n2⟩ := H1.vals
      have d0 : w1.cell? ⟨o.b, 0, none⟩ = some (.slice A1 B.l.length c1) := b1.cell 0
      have d1 : w1.cell? ⟨o.b, 1, none⟩ = some (.map (some o.m)) := b1.cell 1
      have d2 : w1.cell? ⟨o.b, 2, none⟩ = some (.int .u64 B.qk) := b1.cell 2
      have d3 : w1.cell? ⟨o.b, 3, none⟩ = some (.int .u64 B.qb) := b1.cell 3
      have d4 : w1.cell? ⟨o.b, 4, none⟩ = some (.int .u64 (sizeL B.l : Int)) := b1.cell 4
      have N1 := Lib.hid n1
      have N2 := Lib.hid n2
      have BK := Lib.hid (And.intro b1 k1)
      have H1' := Lib.hid H1
      have k4 := (n2 key).1 HG.out
      have HV := Lib.hid (show (getS key kvs).getD (.slice none 0 0) = .slice none 0 0 by rw [k4]; rfl)
      have HO := Lib.hid (show (getS key kvs).isSome = false by rw [k4]; rfl)
      clear b1 k1 n1 n2 H1 k4
      have HS2 := Lib.hid (size_b key value w1.drew (by have := HSH.out; omega) (by have := HSH.out; omega))
      generalize ((key.size + value.size : Nat) : Int) = sz2 at hs2 HS2
      go_wp2_with fail
      go_region
      all_goals
        go_wp2_with (first | (at_lookup; refine wpList_lookup_str_ok rfl _ _ 132 rfl 9 135 Tryz.underlying132 Tryz.underlying9 (.slice none 0 0) (Tryz.zeroValue135 _) o.m kvs rfl (N1.out.on rfl) key rfl _ _ HV.out HO.out ?_) | fail)
        refine HS2.out.mono ?_
        rintro e w2 ⟨rfl, rfl⟩
        have HN : Hid (∃ N, ((putL key value B.l).length : Int) = N) := Lib.hid ⟨_, rfl⟩
        by_cases ha : B.qk < ((putL key value B.l).length : Int)
        · have HE := Lib.hid (show putB B key value = (10, B) by unfold putB; rw [if_neg (by rw [HMZ.out]; decide), if_pos (.inl ha)])
          go_wp2
          go_ret
          exact putEnd_no HH.out HB.out.drew HE.out
        · by_cases hbq : B.qb < (sizeL (putL key value B.l) : Int)
          · have HE := Lib.hid (show putB B key value = (10, B) by unfold putB; rw [if_neg (by rw [HMZ.out]; decide), if_pos (.inr hbq)])
            go_wp2
            go_ret
            exact putEnd_no HH.out HB.out.drew HE.out
          · have HE := Lib.hid (show putB B key value = (0, { B with l := putL key value B.l }) by unfold putB; rw [if_neg (by rw [HMZ.out]; decide), if_neg (fun h => h.elim ha hbq)])
            have HWF := Lib.hid (putB_wf HH.out.wf HMZ.out ha hbq)
            have HADD := Lib.hid (add_any BK.out.1.drew (KeysAt.below BK.out.2 ((Below.refl _ _).drew)) HH.out.wf.keys hl key value)
            go_wp2_with fail
            refine HADD.out.mono ?_
            rintro e w3 ⟨rfl, A2, c2, ok2, b2, k2, g2, q2⟩
            have hmb := H1'.out.mb
            have hkm := H1'.out.km
            have n3 : StrMap w3 o.m kvs := N1.out.on (q2.block o.m N1.out.lt (.inl (fun hc => hc.elim hmb hkm)))
            have e1 : w3.cell? ⟨o.b, 1, none⟩ = some (.map (some o.m)) := b2.cell 1
            have hne2 : ok2 ≠ some o.b ∧ ok2 ≠ some o.m := ⟨k2.ne b2 (by decide), fun e => by
              rcases k2 with ⟨h4, _⟩ | ⟨kb, cs, h4, _, h5, _⟩
              · rw [h4] at e; cases e
              · rw [h4] at e; injection e with e; subst e; exact strMap_ne n3 h5 rfl⟩
            have K3 := Lib.hid (And.intro b2 (And.intro k2 (And.intro g2 (And.intro q2 (And.intro n3 hne2)))))
            obtain ⟨C, z, hcv⟩ := conv_new value w3
            have HMB := Lib.hid hmb
            clear b2 k2 g2 q2 n3 hne2 hkm ha hbq hmb HADD
            go_wp2_with (first
              | (refine wpList_mapEntry_str rfl _ _ 132 rfl 9 135 Tryz.underlying132 Tryz.underlying9 (.slice none 0 0) (Tryz.zeroValue135 _) o.m kvs rfl ((K3.out.2.2.2.2.1.alloc (.cells (bytesRow value C) 5 z)).on rfl) key rfl ?_
                 intro v0 st w4 s4 g4
                 have S4 := Lib.hid s4
                 have G4 := Lib.hid g4
                 clear s4 g4)
              | (refine wpList_entryStore_str rfl _ _ _ 132 rfl o.m kvs key st rfl S4.out rfl _ rfl ?_
                 intro w5 m5 g5
                 have b5 : Blk w5 o.b 134 #[.slice A2 (keysL (putL key value B.l)).length c2, .map (some o.m), .int .u64 B.qk, .int .u64 B.qb, .int .u64 (sizeL B.l : Int)] := Blk.grown (Blk.grown (K3.out.1.alloc (.cells (bytesRow value C) 5 z)).drew G4.out (fun e => HMB.out (by injection e with e; exact e.symm))) g5 (fun e => HMB.out (by injection e with e; exact e.symm))
                 have e4 : w5.cell? ⟨o.b, 4, none⟩ = some (.int .u64 (sizeL B.l : Int)) := b5.cell 4
                 have f4 : w5.frozen? ⟨o.b, 4, none⟩ = false := b5.frozen 4
                 have M5 := Lib.hid (And.intro m5 (And.intro g5 b5))
                 clear m5 g5 b5))
            go_ret
            obtain ⟨b2, k2, g2, q2, n3, hne2⟩ := K3.out
            obtain ⟨m5, g5, b5⟩ := M5.out
            have q35 : KeepC (fun j => j = o.b ∨ j = o.m) ((w3.alloc (.cells (bytesRow value C) 5 z)).drew) (w5.setCell ⟨o.b, 4, none⟩ (.int .u64 (sizeL (putL key value B.l) : Int))) :=
              (((KeepC.refl _ _).grown G4.out (fun b hb => by injection hb with hb; subst hb; exact ⟨fun _ => .inr rfl, (n3.alloc _).notU8⟩)).grown g5 (fun b hb => by injection hb with hb; subst hb; exact ⟨fun _ => .inr rfl, S4.out.notU8⟩)).setCell b5 (by decide) (fun _ => .inl rfl) _ _
            have b6 := b5.set_ 4 (.int .u64 (sizeL (putL key value B.l) : Int))
            rw [List.length_map] at b6
            have hv0 : BytesAt ((w3.alloc (.cells (bytesRow value C) 5 z)).drew) (.slice (some ⟨w3.heap.size, 0, none⟩) value.size C) value := u8_at (w := w3) rfl
            exact putEnd_yes HH.out HB.out.drew HE.out HWF.out (fun k => ⟨(N2.out k).1, fun x hx => by
              obtain ⟨v, h1, h2⟩ := (N2.out k).2 x hx
              exact ⟨v, h1, h2.keep (C := fun _ => False) (.of_below ((Below.refl _ _).drew))⟩⟩) k2 hne2 g2 q2
              ((((KeepC.refl _ w3).alloc _).drew).trans q35 (fun i _ h => h)) b6 (m5.on (Below.heap_setCell _ _ _ _ HMB.out)) (hv0.keep q35)
    | some x =>
      have HG := Lib.hid hg
      have hlen : Hid ((B.l.length : Int) = ((putL key value B.l).length : Int)) := Lib.hid (by have := HZ.out.2.2; rw [hg, if_neg (by simp)] at this; omega)
      have hx := HH.out.wf.short _ (getL_mem hg)
      have HX := Lib.hid hx
      have hsl : Hid (key.size + x.size ≤ sizeL B.l) := Lib.hid (by have := size_delL hg; omega)
      have hu1 : IntKind.u64.wrap (B.l.length : Int) = (((putL key value B.l).length : Nat) : Int) := by rw [← hlen.out, IntKind.wrap_u64]; omega
      have hs1 : IntKind.u64.wrap ((sizeL B.l : Int) - ((key.size + x.size : Nat) : Int)) = ((sizeL B.l - (key.size + x.size) : Nat) : Int) := by
        have h1 := hsl.out
        have h2 := HZ.out.1
        rw [IntKind.wrap_u64]; omega
      have hs2 : IntKind.u64.wrap (((sizeL B.l - (key.size + x.size) : Nat) : Int) + ((key.size + value.size : Nat) : Int)) = (sizeL (putL key value B.l) : Int) := by
        have h1 := HZ.out.2.1
        have h2 := HZ.out.1
        have h3 := HSH.out
        have h4 := hsl.out
        unfold oldS at h1
        rw [hg] at h1
        simp only [Option.map_some, Option.getD_some] at h1
        rw [IntKind.wrap_u64]; omega
      clear hx
      clear hg
      go_enter Tryz.func128, Tryz.ntmps128
      go_wp2_with fail
      refine HM.out.mono ?_
      rintro e w1 ⟨rfl, hb⟩
      have HB := Lib.hid (HB0.out.trans (hb.mono HB0.out.size))
      clear hb
      have H1 := HH.out.below HB.out
      obtain ⟨A1, c1, b1, k1⟩ := H1.row
      obtain ⟨kvs, n1, n2⟩ := H1.vals
      have d0 : w1.cell? ⟨o.b, 0, none⟩ = some (.slice A1 B.l.length c1) := b1.cell 0
      have d1 : w1.cell? ⟨o.b, 1, none⟩ = some (.map (some o.m)) := b1.cell 1
      have d2 : w1.cell? ⟨o.b, 2, none⟩ = some (.int .u64 B.qk) := b1.cell 2
      have d3 : w1.cell? ⟨o.b, 3, none⟩ = some (.int .u64 B.qb) := b1.cell 3
      have d4 : w1.cell? ⟨o.b, 4, none⟩ = some (.int .u64 (sizeL B.l : Int)) := b1.cell 4
      have N1 := Lib.hid n1
      have N2 := Lib.hid n2
      have BK := Lib.hid (And.intro b1 k1)
      have H1' := Lib.hid H1
      obtain ⟨vx, k4, k5⟩ := (n2 key).2 x HG.out
      have hcx := fun n => run_conv_bytes (k5.keep (C := fun _ => False) (.of_below (below_drewN (Below.refl _ _) n)))
      have hcx1 := run_conv_bytes (k5.keep (C := fun _ => False) (.of_below ((Below.refl _ _).drew)))
      have HV := Lib.hid (show (getS key kvs).getD (.slice none 0 0) = vx by rw [k4]; rfl)
      have HO := Lib.hid (show (getS key kvs).isSome = true by rw [k4]; rfl)
      clear b1 k1 n1 n2 H1 k4 k5
      have HS2 := Lib.hid (size_b key value w1.drew (by have := HSH.out; omega) (by have := HSH.out; omega))
      have HS1 := Lib.hid (size_b key x w1.drew (by have := HX.out; omega) (by have := HX.out; omega))
      generalize ((key.size + x.size : Nat) : Int) = sz1 at hs1 HS1
      generalize ((sizeL B.l - (key.size + x.size) : Nat) : Int) = sd at hs1 hs2
      generalize ((key.size + value.size : Nat) : Int) = sz2 at hs2 HS2
      go_wp2_with fail
      go_region
      all_goals
        go_wp2_with (first | (at_lookup; refine wpList_lookup_str_ok rfl _ _ 132 rfl 9 135 Tryz.underlying132 Tryz.underlying9 (.slice none 0 0) (Tryz.zeroValue135 _) o.m kvs rfl (N1.out.on rfl) key rfl _ _ HV.out HO.out ?_) | fail)
        refine HS1.out.mono ?_
        rintro e w2 ⟨rfl, rfl⟩
        go_wp2_with fail
        refine HS2.out.mono ?_
        rintro e w2 ⟨rfl, rfl⟩
        have HN : Hid (∃ N, ((putL key value B.l).length : Int) = N) := Lib.hid ⟨_, rfl⟩
        by_cases ha : B.qk < ((putL key value B.l).length : Int)
        · have HE := Lib.hid (show putB B key value = (10, B) by unfold putB; rw [if_neg (by rw [HMZ.out]; decide), if_pos (.inl ha)])
          go_wp2
          go_ret
          exact putEnd_no HH.out HB.out.drew HE.out
        · by_cases hbq : B.qb < (sizeL (putL key value B.l) : Int)
          · have HE := Lib.hid (show putB B key value = (10, B) by unfold putB; rw [if_neg (by rw [HMZ.out]; decide), if_pos (.inr hbq)])
            go_wp2
            go_ret
            exact putEnd_no HH.out HB.out.drew HE.out
          · have HE := Lib.hid (show putB B key value = (0, { B with l := putL key value B.l }) by unfold putB; rw [if_neg (by rw [HMZ.out]; decide), if_neg (fun h => h.elim ha hbq)])
            have HWF := Lib.hid (putB_wf HH.out.wf HMZ.out ha hbq)
            have HADD := Lib.hid (add_any BK.out.1.drew (KeysAt.below BK.out.2 ((Below.refl _ _).drew)) HH.out.wf.keys hl key value)
            go_wp2_with fail
            refine HADD.out.mono ?_
            rintro e w3 ⟨rfl, A2, c2, ok2, b2, k2, g2, q2⟩
            have hmb := H1'.out.mb
            have hkm := H1'.out.km
            have n3 : StrMap w3 o.m kvs := N1.out.on (q2.block o.m N1.out.lt (.inl (fun hc => hc.elim hmb hkm)))
            have e1 : w3.cell? ⟨o.b, 1, none⟩ = some (.map (some o.m)) := b2.cell 1
            have hne2 : ok2 ≠ some o.b ∧ ok2 ≠ some o.m := ⟨k2.ne b2 (by decide), fun e => by
              rcases k2 with ⟨h4, _⟩ | ⟨kb, cs, h4, _, h5, _⟩
              · rw [h4] at e; cases e
              · rw [h4] at e; injection e with e; subst e; exact strMap_ne n3 h5 rfl⟩
            have K3 := Lib.hid (And.intro b2 (And.intro k2 (And.intro g2 (And.intro q2 (And.intro n3 hne2)))))
            obtain ⟨C, z, hcv⟩ := conv_new value w3
            have HMB := Lib.hid hmb
            clear b2 k2 g2 q2 n3 hne2 hkm ha hbq hmb HADD
            go_wp2_with (first
              | (refine wpList_mapEntry_str rfl _ _ 132 rfl 9 135 Tryz.underlying132 Tryz.underlying9 (.slice none 0 0) (Tryz.zeroValue135 _) o.m kvs rfl ((K3.out.2.2.2.2.1.alloc (.cells (bytesRow value C) 5 z)).on rfl) key rfl ?_
                 intro v0 st w4 s4 g4
                 have S4 := Lib.hid s4
                 have G4 := Lib.hid g4
                 clear s4 g4)
              | (refine wpList_entryStore_str rfl _ _ _ 132 rfl o.m kvs key st rfl S4.out rfl _ rfl ?_
                 intro w5 m5 g5
                 have b5 : Blk w5 o.b 134 #[.slice A2 (keysL (putL key value B.l)).length c2, .map (some o.m), .int .u64 B.qk, .int .u64 B.qb, .int .u64 (sizeL B.l : Int)] := Blk.grown (Blk.grown (K3.out.1.alloc (.cells (bytesRow value C) 5 z)).drew G4.out (fun e => HMB.out (by injection e with e; exact e.symm))) g5 (fun e => HMB.out (by injection e with e; exact e.symm))
                 have e4 : w5.cell? ⟨o.b, 4, none⟩ = some (.int .u64 (sizeL B.l : Int)) := b5.cell 4
                 have f4 : w5.frozen? ⟨o.b, 4, none⟩ = false := b5.frozen 4
                 have M5 := Lib.hid (And.intro m5 (And.intro g5 b5))
                 clear m5 g5 b5))
            go_ret
            obtain ⟨b2, k2, g2, q2, n3, hne2⟩ := K3.out
            obtain ⟨m5, g5, b5⟩ := M5.out
            have q35 : KeepC (fun j => j = o.b ∨ j = o.m) ((w3.alloc (.cells (bytesRow value C) 5 z)).drew) (w5.setCell ⟨o.b, 4, none⟩ (.int .u64 (sizeL (putL key value B.l) : Int))) :=
              (((KeepC.refl _ _).grown G4.out (fun b hb => by injection hb with hb; subst hb; exact ⟨fun _ => .inr rfl, (n3.alloc _).notU8⟩)).grown g5 (fun b hb => by injection hb with hb; subst hb; exact ⟨fun _ => .inr rfl, S4.out.notU8⟩)).setCell b5 (by decide) (fun _ => .inl rfl) _ _
            have b6 := b5.set_ 4 (.int .u64 (sizeL (putL key value B.l) : Int))
            rw [List.length_map] at b6
            have hv0 : BytesAt ((w3.alloc (.cells (bytesRow value C) 5 z)).drew) (.slice (some ⟨w3.heap.size, 0, none⟩) value.size C) value := u8_at (w := w3) rfl
            exact putEnd_yes HH.out HB.out.drew HE.out HWF.out (fun k => ⟨(N2.out k).1, fun x hx => by
              obtain ⟨v, h1, h2⟩ := (N2.out k).2 x hx
              exact ⟨v, h1, h2.keep (C := fun _ => False) (.of_below ((Below.refl _ _).drew))⟩⟩) k2 hne2 g2 q2
              ((((KeepC.refl _ w3).alloc _).drew).trans q35 (fun i _ h => h)) b6 (m5.on (Below.heap_setCell _ _ _ _ HMB.out)) (hv0.keep q35)
end Go.Proofs.YtkgflepgkhnclaaGreatDoor
namespace Go.Proofs.YtkgflepgkhnclaaGreatDoor
open Go.RowKit Go.Shelf
set_option linter.unusedVariables false
set_option linter.unusedSimpArgs false

/-- Swap on a book. -/
def swapB (B : Bk) (key old value : ByteArray) : Int × Bk :=
  if (thereN B.l key [old, value]).2 = 0 then (if (thereN B.l key [old, value]).1 = old then putB B key value else (9, B)) else ((thereN B.l key [old, value]).2, B)
theorem bookEnd_same {r : Int} {o : Ow} {B : Bk} {w w' : World} (h : BkAt w o B) (hb : Below w.heap.size w w') : BookEnd r o B w (.returned (.int .i64 r)) w' :=
  ⟨rfl, o.k, by rw [ow_self]; exact h.below hb, .inl rfl, .of_below hb⟩
theorem bookEnd_from {r : Int} {o : Ow} {B' : Bk} {w w1 w' : World} {e : Ending} (hb : Below w.heap.size w w1) (h : BookEnd r o B' w1 e w') : BookEnd r o B' w e w' := by
  obtain ⟨h1, ok, h2, h3, h4⟩ := h
  refine ⟨h1, ok, h2, h3.imp id (fun ⟨g, a, b⟩ => ⟨g, a, Nat.le_trans hb.size b⟩), ((KeepC.refl o.has w).below hb).trans h4 (fun _ _ h => h)⟩
set_option maxHeartbeats 3200000 in
theorem swap_b {w : World} {o : Ow} {B : Bk} (h : BkAt w o B) (key old value : ByteArray) (hl : B.l.length ≤ 1000000) :
    Calls Tryz.prog 130 #[.pointer (some ⟨o.b, 0, none⟩), .string key, .string old, .string value] w (BookEnd (swapB B key old value).1 o (swapB B key old value).2 w) := by
  have hvs : StrsAt (w.alloc (.cells #[.string old, .string value] 9)) (some ⟨w.heap.size, 0, none⟩) [old, value] := fun _ => ⟨w.heap.size, rfl, fun i hi => by
    have hi' : i < 2 := by simpa using hi
    obtain rfl | rfl : i = 0 ∨ i = 1 := by omega
    · exact (Blk.new w 9 #[.string old, .string value]).cell 0
    · exact (Blk.new w 9 #[.string old, .string value]).cell 1⟩
  have hb0 := (Below.refl w.heap.size w).alloc (Nat.le_refl _) (.cells #[.string old, .string value] 9)
  have HT := Lib.hid (there_b (h.below hb0) key [old, value] (some ⟨w.heap.size, 0, none⟩) 2 hvs (by simp))
  have HB0 := Lib.hid hb0
  have HH := Lib.hid h
  clear hvs hb0 h
  by_cases h0 : (thereN B.l key [old, value]).2 = 0
  · by_cases h1 : (thereN B.l key [old, value]).1 = old
    · have HE := Lib.hid (show swapB B key old value = putB B key value by unfold swapB; rw [if_pos h0, if_pos h1])
      rw [show thereN B.l key [old, value] = (old, 0) from Prod.ext h1 h0] at HT
      clear h0 h1
      go_enter Tryz.func130, Tryz.ntmps130
      go_wp2_with fail
      refine HT.out.mono ?_
      rintro e w1 ⟨rfl, hb⟩
      have HB := Lib.hid (HB0.out.trans (hb.mono HB0.out.size))
      clear hb
      have HP := Lib.hid (put_b (HH.out.below HB.out) key value hl)
      go_wp2_with fail
      refine HP.out.mono ?_
      rintro e w2 he
      have hq := bookEnd_from HB.out he
      obtain ⟨rfl, hrest⟩ := hq
      have HQ := Lib.hid hrest
      clear hrest he
      go_wp2
      go_ret
      rw [HE.out]
      exact ⟨rfl, HQ.out⟩
    · have HE := Lib.hid (show swapB B key old value = (9, B) by unfold swapB; rw [if_pos h0, if_neg h1])
      obtain ⟨x, hx⟩ : ∃ x, (thereN B.l key [old, value]).1 = x := ⟨_, rfl⟩
      rw [show thereN B.l key [old, value] = (x, 0) from Prod.ext hx h0] at HT
      rw [hx] at h1
      clear h0 hx
      go_enter Tryz.func130, Tryz.ntmps130
      go_wp2_with fail
      refine HT.out.mono ?_
      rintro e w1 ⟨rfl, hb⟩
      have HB := Lib.hid (HB0.out.trans (hb.mono HB0.out.size))
      clear hb
      have hxo : (x.toList == old.toList) = false := (Lib.bytes_beq_false_iff _ _).2 h1
      go_wp2
      go_ret
      rw [HE.out]
      exact bookEnd_same HH.out HB.out
  · have HE := Lib.hid (show swapB B key old value = ((thereN B.l key [old, value]).2, B) by unfold swapB; rw [if_neg h0])
    generalize thereN B.l key [old, value] = r at HT h0 HE
    obtain ⟨s, n⟩ := r
    dsimp only at h0
    go_enter Tryz.func130, Tryz.ntmps130
    go_wp2_with (go_at_call 171; refine HT.out.mono ?_; rintro e w1 ⟨rfl, hb⟩; have HB := Lib.hid (HB0.out.trans (hb.mono HB0.out.size)); clear hb)
    go_ret
    rw [HE.out]
    exact bookEnd_same HH.out HB.out
end Go.Proofs.YtkgflepgkhnclaaGreatDoor
namespace Go.Proofs.YtkgflepgkhnclaaGreatDoor
open Go.RowKit Go.Shelf
set_option linter.unusedVariables false
set_option linter.unusedSimpArgs false

/-- What Clone of a row of keys comes to. -/
def CloneEnd (ks : List ByteArray) (w : World) (e : Ending) (w' : World) : Prop :=
  ∃ A c ok, e = .returned (.slice A ks.length c) ∧ KeysAt w' ok A c ks ∧ (∀ g, ok = some g → w.heap.size ≤ g) ∧ Below w.heap.size w w'
theorem clone_keys {w : World} {ok : Option Nat} {A : Option Addr} {c : Nat} {ks : List ByteArray} (h : KeysAt w ok A c ks) (hl : ks.length ≤ 1000000) :
    Calls Tryz.prog 83 #[.slice A ks.length c] w (CloneEnd ks w) := by
  rcases h with ⟨rfl, rfl, rfl, rfl⟩ | ⟨kb, cs, rfl, rfl, hb, h1, h2, h3, h4⟩
  · refine Calls.mono (Any.slices_Clone_string_nil laysClone 0 0 w) ?_
    rintro e w' ⟨rfl, rfl⟩
    exact ⟨none, 0, none, rfl, .inl ⟨rfl, rfl, rfl, rfl⟩, (fun g h => by cases h), Below.refl _ _⟩
  · refine Calls.mono (Any.slices_Clone_string laysClone kb 0 ks.length c ks w (Nat.le_refl _) (by omega) (fun j hj => by
      rw [Nat.zero_add, hb.cell, h4 j hj]
      simp [List.getD, hj])) ?_
    rintro e w' ⟨v', rfl, hown, hne, hbel⟩
    rcases hown.2 with ⟨h5, h6⟩ | ⟨g, cap, cs', h5, h6, h7, h8, h9, h10, h11⟩
    · exact absurd h5 hne
    · subst h5
      refine ⟨_, cap, some g, rfl, .inr ⟨g, cs', rfl, rfl, h7, by omega, h8, h9, fun j hj => ?_⟩, (fun g' h => by injection h with h; omega), hbel⟩
      rw [Nat.mul_one, List.take_length] at h11
      have := row_cell (cs := cs') (ks := ks) h11 j hj
      exact this
theorem mclone_b {w : World} {m : Nat} {kvs : Kvs} (h : StrMap w m kvs) :
    Calls Tryz.prog 84 #[.map (some m)] w fun e w' => e = .returned (.map (some w.heap.size)) ∧ StrMap w' w.heap.size kvs ∧ Below w.heap.size w w' := by
  obtain ⟨es, ck, h1, h2⟩ := h
  refine Calls.mono (AnyW.maps_Clone laysMaps m es ck w h1) ?_
  rintro e w' ⟨rfl, rfl⟩
  exact ⟨rfl, ⟨es, ck, heap_alloc_new w _, h2⟩, (Below.refl _ _).alloc (Nat.le_refl _) _⟩
/-- What Copy comes to: a book of its own in new blocks. -/
def CopyEnd (B : Bk) (w : World) (e : Ending) (w' : World) : Prop :=
  ∃ o : Ow, e = .returned (.pointer (some ⟨o.b, 0, none⟩)) ∧ BkAt w' o B ∧ (∀ i, o.has i → w.heap.size ≤ i) ∧ Below w.heap.size w w'
set_option maxHeartbeats 3200000 in
set_option maxRecDepth 100000 in
theorem copy_b {w : World} {o : Ow} {B : Bk} (h : BkAt w o B) (hl : B.l.length ≤ 1000000) : Calls Tryz.prog 38 #[.pointer (some ⟨o.b, 0, none⟩)] w (CopyEnd B w) := by
  have HN := Lib.hid (none_b h)
  obtain ⟨A1, c1, b1, k1⟩ := h.row
  obtain ⟨kvs, n1, n2⟩ := h.vals
  have HW := Lib.hid h.wf
  have B1 := Lib.hid b1
  have K1 := Lib.hid k1
  have N1 := Lib.hid n1
  have N2 := Lib.hid n2
  have e0 : w.cell? ⟨o.b, 0, none⟩ = some (.slice A1 B.l.length c1) := b1.cell 0
  have e1 : w.cell? ⟨o.b, 1, none⟩ = some (.map (some o.m)) := b1.cell 1
  have e2 : w.cell? ⟨o.b, 2, none⟩ = some (.int .u64 B.qk) := b1.cell 2
  have e3 : w.cell? ⟨o.b, 3, none⟩ = some (.int .u64 B.qb) := b1.cell 3
  have e4 : w.cell? ⟨o.b, 4, none⟩ = some (.int .u64 (sizeL B.l : Int)) := b1.cell 4
  have HC := Lib.hid (And.intro e0 (And.intro e1 (And.intro e2 (And.intro e3 e4))))
  have hlt := b1.lt
  have hkl : (keysL B.l).length = B.l.length := by simp
  have HKL := Lib.hid hkl
  clear h b1 k1 n1 n2 e0 e1 e2 e3 e4 hkl
  go_enter Tryz.func38, Tryz.ntmps38
  go_wp2_with (go_at_call 67; refine HN.out.mono ?_; rintro e w1 ⟨rfl, rfl⟩)
  go_region_held3 (fun V => Below w1.heap.size w1 V ∧ V.cell? ⟨o.b, 0, none⟩ = some (.slice A1 B.l.length c1) ∧ V.cell? ⟨o.b, 1, none⟩ = some (.map (some o.m)) ∧ V.cell? ⟨o.b, 2, none⟩ = some (.int .u64 B.qk) ∧ V.cell? ⟨o.b, 3, none⟩ = some (.int .u64 B.qb) ∧ V.cell? ⟨o.b, 4, none⟩ = some (.int .u64 (sizeL B.l : Int)))
    (first
      | exact ⟨(Below.refl _ _).drew, HC.out⟩
      | exact hSN
      | exact ⟨hSN.1.alloc hsz _, (World.cell?_alloc_lt _ _ _ hlt2).trans hSN.2.1, (World.cell?_alloc_lt _ _ _ hlt2).trans hSN.2.2.1, (World.cell?_alloc_lt _ _ _ hlt2).trans hSN.2.2.2.1, (World.cell?_alloc_lt _ _ _ hlt2).trans hSN.2.2.2.2.1, (World.cell?_alloc_lt _ _ _ hlt2).trans hSN.2.2.2.2.2⟩)
    (first
      | (go_at_call 83
         have hH := ‹Below w1.heap.size w1 _ ∧ _›
         have hcl := clone_keys (K1.out.below hH.1) (by rw [HKL.out]; exact hl)
         rw [HKL.out] at hcl
         refine hcl.mono ?_
         rintro e wn ⟨A2, c2, ok2, rfl, k2, g2, hb2⟩
         rw [HKL.out] at ⊢
         have hSN : Below w1.heap.size w1 wn ∧ wn.cell? ⟨o.b, 0, none⟩ = some (.slice A1 B.l.length c1) ∧ wn.cell? ⟨o.b, 1, none⟩ = some (.map (some o.m)) ∧ wn.cell? ⟨o.b, 2, none⟩ = some (.int .u64 B.qk) ∧ wn.cell? ⟨o.b, 3, none⟩ = some (.int .u64 B.qb) ∧ wn.cell? ⟨o.b, 4, none⟩ = some (.int .u64 (sizeL B.l : Int)) :=
           ⟨below_trans hH.1 hb2, (hb2.cell (Nat.lt_of_lt_of_le hlt hH.1.size)).trans hH.2.1, (hb2.cell (Nat.lt_of_lt_of_le hlt hH.1.size)).trans hH.2.2.1, (hb2.cell (Nat.lt_of_lt_of_le hlt hH.1.size)).trans hH.2.2.2.1, (hb2.cell (Nat.lt_of_lt_of_le hlt hH.1.size)).trans hH.2.2.2.2.1, (hb2.cell (Nat.lt_of_lt_of_le hlt hH.1.size)).trans hH.2.2.2.2.2⟩
         have K2 := Lib.hid (And.intro k2 (And.intro g2 hH.1.size))
         clear k2 g2 hcl)
      | (go_at_call 84
         have hH := ‹Below w1.heap.size w1 _ ∧ _›
         refine (mclone_b (N1.out.on (hH.1.block o.m N1.out.lt))).mono ?_
         rintro e wm ⟨rfl, n3, hb3⟩
         have hSN : Below w1.heap.size w1 wm ∧ wm.cell? ⟨o.b, 0, none⟩ = some (.slice A1 B.l.length c1) ∧ wm.cell? ⟨o.b, 1, none⟩ = some (.map (some o.m)) ∧ wm.cell? ⟨o.b, 2, none⟩ = some (.int .u64 B.qk) ∧ wm.cell? ⟨o.b, 3, none⟩ = some (.int .u64 B.qb) ∧ wm.cell? ⟨o.b, 4, none⟩ = some (.int .u64 (sizeL B.l : Int)) :=
           ⟨below_trans hH.1 hb3, (hb3.cell (Nat.lt_of_lt_of_le hlt hH.1.size)).trans hH.2.1, (hb3.cell (Nat.lt_of_lt_of_le hlt hH.1.size)).trans hH.2.2.1, (hb3.cell (Nat.lt_of_lt_of_le hlt hH.1.size)).trans hH.2.2.2.1, (hb3.cell (Nat.lt_of_lt_of_le hlt hH.1.size)).trans hH.2.2.2.2.1, (hb3.cell (Nat.lt_of_lt_of_le hlt hH.1.size)).trans hH.2.2.2.2.2⟩
         have hsz := hSN.1.size
         have hlt2 : o.b < wm.heap.size := by omega
         have N3 := Lib.hid (And.intro n3 hH.1.size)
         have HB3 := Lib.hid hb3
         clear n3))
  go_wp2
  go_ret
  obtain ⟨k2, g2, s2⟩ := K2.out
  obtain ⟨n3, s3⟩ := N3.out
  have hb3 := HB3.out
  have hbw := hSN.1
  have ha := (Below.refl wm.heap.size wm).alloc (Nat.le_refl _) (.cells #[.slice A2 B.l.length c2, .map (some wn.heap.size), .int .u64 B.qk, .int .u64 B.qb, .int .u64 (sizeL B.l : Int)] 134)
  refine ⟨⟨wm.heap.size, wn.heap.size, ok2⟩, rfl, ⟨HW.out, ⟨A2, c2, blk_at rfl, (k2.below hb3).below ha⟩, ⟨kvs, n3.alloc _, fun k => ⟨(N2.out k).1, fun x hx => ?_⟩⟩⟩, ?_, below_trans hbw ha⟩
  · obtain ⟨v, h1, h2⟩ := (N2.out k).2 x hx
    exact ⟨v, h1, h2.keep (C := fun _ => False) (.of_below (below_trans hbw ha))⟩
  · rintro i (rfl | rfl | hi)
    · exact hbw.size
    · exact s3
    · exact Nat.le_trans s2 (g2 i hi)
end Go.Proofs.YtkgflepgkhnclaaGreatDoor
namespace Go.Proofs.YtkgflepgkhnclaaGreatDoor
open Go.RowKit
set_option linter.unusedVariables false

/-- A request. -/
structure Req where
  deed : Int
  ten : Int
  gen : Int
  rig : Int
  key : ByteArray
  val : ByteArray
  old : ByteArray
  lim : Int
  tenant : Int
  qk : Int
  qb : Int
  rights : Int

def Req.row (r : Req) : List Value := [.int .i64 r.deed, .int .i64 r.ten, .int .u32 r.gen, .int .u8 r.rig, .string r.key, .string r.val, .string r.old, .int .i64 r.lim, .int .i64 r.tenant, .int .u64 r.qk, .int .u64 r.qb, .int .u8 r.rights]
abbrev Req.v (r : Req) : Value := .agg #[.int .i64 r.deed, .int .i64 r.ten, .int .u32 r.gen, .int .u8 r.rig, .string r.key, .string r.val, .string r.old, .int .i64 r.lim, .int .i64 r.tenant, .int .u64 r.qk, .int .u64 r.qb, .int .u8 r.rights]

def reqLeaves : List L0 := [.int .i64, .int .i64, .int .u32, .int .u8, .str, .str, .str, .int .i64, .int .i64, .int .u64, .int .u64, .int .u8]

def I64 (n : Int) : Prop := -9223372036854775808 ≤ n ∧ n ≤ 9223372036854775807
theorem wf_u8 {n : Int} (h : (Lit.int .u8 n).wf = true) : 0 ≤ n ∧ n ≤ 255 := by
  simpa [Lit.wf, IntKind.min, IntKind.max, IntKind.signed, IntKind.bits] using h
/-- The numbers of a request fit their kinds, its texts fit memory. -/
structure Req.ok (r : Req) : Prop where
  deed : I64 r.deed
  ten : I64 r.ten
  gen : 0 ≤ r.gen ∧ r.gen ≤ 4294967295
  rig : 0 ≤ r.rig ∧ r.rig ≤ 255
  key : r.key.size ≤ 9223372036854775807
  val : r.val.size ≤ 9223372036854775807
  old : r.old.size ≤ 9223372036854775807
  lim : I64 r.lim
  tenant : I64 r.tenant
  qk : 0 ≤ r.qk ∧ r.qk ≤ 18446744073709551615
  qb : 0 ≤ r.qb ∧ r.qb ≤ 18446744073709551615
  rights : 0 ≤ r.rights ∧ r.rights ≤ 255

def enc1 (b : UInt8) : List UInt8 := if b = 0 then [0, 1] else [b]
/-- The code of a key. -/
def encode (l : List UInt8) : List UInt8 := l.flatMap enc1 ++ [0, 0]
/-- What an operation is. -/
def isB (r : Req) : Bool :=
  decide (1 ≤ r.deed) && (decide (r.deed ≤ 5) && (decide (r.key.size ≤ 16) && (decide (r.val.size ≤ 32) && (decide (r.old.size ≤ 32) && (!(r.deed == 5) || (decide (0 ≤ r.lim) && decide (r.lim ≤ 4096)))))))

def addOf (d : Int) : Int := if d = 2 then 3 else if d = 3 then 6 else if d = 4 then 3 else 0
def wayOf (r : Req) : Int :=
  if isB r = true then (if r.deed = 5 then 139 else 4 * ((encode r.key.data.toList).length : Int) + 3 + addOf r.deed) else 0
def smallB (n : Int) : Bool := decide (0 ≤ n) && decide (n ≤ 1099511627776)
def boundOf (r : Req) (tries : Int) : Int :=
  if isB r = true ∧ smallB tries = true then (if r.deed = 5 then (36 * r.lim + tries) * wayOf r + 2 else (tries + 1) * wayOf r + 1) else 0
def fairB (r : Req) (p t k m : Int) : Bool :=
  isB r && (smallB p && (smallB t && (smallB k && (smallB m && (decide (t ≤ k + 1) && decide (p ≤ boundOf r t + m))))))
def picksOf (r : Req) (b : Int) : Int :=
  if r.deed < 1 ∨ 5 < r.deed ∨ b < 2 ∨ 4096 < b then 0
  else if r.deed = 5 ∧ 0 ≤ r.lim ∧ r.lim ≤ 4096 then b * (r.lim + 1) else b
/-- The least budget from b on, if there is one among so many. -/
def leastFrom (r : Req) (need : Int) : Nat → Int → Int
  | 0, _ => 0
  | n + 1, b => if need < picksOf r b then b else leastFrom r need n (b + 1)
def enoughOf (r : Req) (t m : Int) : Int :=
  if isB r = true ∧ smallB t = true ∧ smallB m = true then leastFrom r (boundOf r t + m) 4095 2 else 0

theorem req_cells {r : Req} {W : World} {g : Nat} {t : TypeId} (h : Blk W g t r.row.toArray) :
    W.cell? ⟨g, 0, none⟩ = some (.int .i64 r.deed) ∧ W.cell? ⟨g, 1, none⟩ = some (.int .i64 r.ten) ∧ W.cell? ⟨g, 2, none⟩ = some (.int .u32 r.gen) ∧ W.cell? ⟨g, 3, none⟩ = some (.int .u8 r.rig) ∧
    W.cell? ⟨g, 4, none⟩ = some (.string r.key) ∧ W.cell? ⟨g, 5, none⟩ = some (.string r.val) ∧ W.cell? ⟨g, 6, none⟩ = some (.string r.old) ∧ W.cell? ⟨g, 7, none⟩ = some (.int .i64 r.lim) ∧
    W.cell? ⟨g, 8, none⟩ = some (.int .i64 r.tenant) ∧ W.cell? ⟨g, 9, none⟩ = some (.int .u64 r.qk) ∧ W.cell? ⟨g, 10, none⟩ = some (.int .u64 r.qb) ∧ W.cell? ⟨g, 11, none⟩ = some (.int .u8 r.rights) :=
  ⟨h.cell 0, h.cell 1, h.cell 2, h.cell 3, h.cell 4, h.cell 5, h.cell 6, h.cell 7, h.cell 8, h.cell 9, h.cell 10, h.cell 11⟩
theorem below_alloc {W w1 : World} (h : Below W.heap.size W w1) (o : Obj) : Below W.heap.size W (w1.alloc o) := h.alloc h.size o
theorem below_box (w : World) (o : Obj) : Below w.heap.size w (w.alloc o) := (Below.refl _ _).alloc (Nat.le_refl _) _

end Go.Proofs.YtkgflepgkhnclaaGreatDoor
namespace Go.Proofs.YtkgflepgkhnclaaGreatDoor

/-- A function's code behind its first n parts. -/
def codeTail : Nat → Code → Code
  | 0, c => c
  | n + 1, .seq _ b => codeTail n b
  | _ + 1, c => c
noncomputable def bodyTail (f : Func) (n : Nat) : Code := codeTail n (f.body.getD .skip)

/-- The first and the second part of a code. -/
def codeHead : Code → Code
  | .seq a _ => a
  | c => c
def codeRest : Code → Code
  | .seq _ b => b
  | c => c

end Go.Proofs.YtkgflepgkhnclaaGreatDoor
namespace Go.Proofs.YtkgflepgkhnclaaGreatDoor
open Go.RowKit
set_option linter.unusedVariables false
set_option linter.unusedSimpArgs false

theorem flat_drop {α : Type} {f : α → List Value} {m : Nat} (hf : ∀ x, (f x).length = m) : ∀ (l : List α) (k : Nat) (hk : k < l.length), (l.flatMap f).drop (k * m) = f l[k] ++ (l.drop (k + 1)).flatMap f
  | x :: l, 0, _ => by simp
  | x :: l, k + 1, hk => by
    have h := flat_drop hf l k (by simpa using hk)
    rw [List.flatMap_cons, List.drop_append, List.drop_eq_nil_of_le (by rw [hf, Nat.add_mul]; omega), List.nil_append, hf, show (k + 1) * m - m = k * m by rw [Nat.add_mul]; omega, h]
    rfl
theorem row_cells {α : Type} {f : α → List Value} {m : Nat} (hf : ∀ x, (f x).length = m) {w : World} {B n k : Nat} {A : Option Addr} {l : List α} (h : Reads w B m A n (l.flatMap f)) (hn : n = l.length) (hk : k < l.length) :
    ∃ ad, A = some ad ∧ ad.block < B ∧ ∀ j u, (f l[k])[j]? = some u → w.cell? ((ad.add (k * m)).add j) = some u := by
  subst hn
  obtain ⟨ad, rfl, hb, hc⟩ := h.2 (by omega)
  refine ⟨ad, rfl, hb, fun j u hu => ?_⟩
  rw [add_of_add]
  refine hc _ u ?_
  have h1 := flat_drop hf l k hk
  rw [← List.getElem?_drop, h1, List.getElem?_append_left (List.getElem?_eq_some_iff.1 hu).1]
  exact hu
/-- A slice at the head of a block that is known whole. -/
theorem reads_of_blk {w : World} {g n size : Nat} {t : TypeId} {cs : Array Value} {xs : List Value} (h : Blk w g t cs) (hx : cs.toList = xs) (hl : xs.length = n * size) : Reads w (g + 1) size (some ⟨g, 0, none⟩) n xs := by
  refine ⟨hl, fun _ => ⟨_, rfl, Nat.lt_succ_self g, fun j u hu => ?_⟩⟩
  have e : (Addr.add ⟨g, 0, none⟩ j) = ⟨g, j, none⟩ := by unfold Addr.add; split <;> simp_all
  rw [e, h.cell j, ← hu, ← hx, Array.getElem?_toList]
theorem list_split {α : Type} [DecidableEq α] {ss ts : List α} {k : Nat} (hl : ss.length = ts.length) (hk : k < ss.length) (he : ss.take k = ts.take k) :
    (ss[k] = ts[k]'(by omega) → ss.take (k + 1) = ts.take (k + 1)) ∧ (ss[k] ≠ ts[k]'(by omega) → ss ≠ ts) := by
  refine ⟨fun h => ?_, fun h e => ?_⟩
  · rw [List.take_succ_eq_append_getElem hk, List.take_succ_eq_append_getElem (by omega), he, h]
  · subst e; exact h rfl
theorem blk_newAt {w : World} {g : Nat} {t : TypeId} {cs : Array Value} (h : w.heap.size = g) : Blk (w.alloc (.cells cs t)) g t cs := by subst h; exact Blk.new _ _ _
theorem ownsRow_below {W W' : World} {B base size n : Nat} {e : TypeId} {v : Value} {xs : List Value} (h : W.ownsRow base e size v n xs) (hb : Below B W W') (hB : W.heap.size ≤ B) : W'.ownsRow base e size v n xs :=
  h.kept (row := none) ⟨hb.os, hb.tape, hb.output, hb.size, fun k hk _ => hb.block k (by omega)⟩ (by cases hv : v.ownBlock <;> simp)
section
variable {P : Program} (w : World)

theorem run_append_of_nil (base : Nat) (t ty e : TypeId) (i : TypeInfo) (size : Nat) (ht : P.underlying t = some (.slice e)) (hi : P.info? e = some i)
    (v : Value) (n : Nat) (xs : List Value) (hown : w.ownsRow base e size v n xs) (c : Nat) : (Builtin.append_ #[t, t] ty #[v, .slice none 0 c]).run P w = .ok v w := by
  rcases hown.2 with ⟨rfl, rfl⟩ | ⟨g, cap, cur, rfl, _, _, hnc, _⟩
  · simp [Builtin.append_, run_underlying ht, sizeOf, typeInfo, hi, Builtin.lenOf, Builtin.firstCells]
  · simp [Builtin.append_, run_underlying ht, sizeOf, typeInfo, hi, Builtin.lenOf, Builtin.firstCells, hnc, storeCells]

theorem run_append_any (base : Nat) (t ty e : TypeId) (i : TypeInfo) (z : Value) (size bytes : Nat) (ht : P.underlying t = some (.slice e)) (hi : P.info? e = some i) (hz : i.zero = some z)
    (hsize : i.size = size) (hby : i.bytes = bytes) (hzs : z.cells.size = size) (hsz : 0 < size)
    (v : Value) (n : Nat) (xs : List Value) (hown : w.ownsRow base e size v n xs)
    (B : Nat) (A : Option Addr) (m c : Nat) (news : List Value) (hr : Reads w B size A m news) (h1 : ∀ u ∈ news, u.oneCell' = true)
    (h63 : n + m ≤ maxLen) (hbytes : (n + m) * bytes ≤ 140737488355328) (hbase : base ≤ w.heap.size) :
    ∃ v' w', (Builtin.append_ #[t, t] ty #[v, .slice A m c]).run P w = .ok v' w' ∧ w'.ownsRow base e size v' (n + m) (xs ++ news) ∧ w.grownBy w' v.ownBlock ∧
      (v'.ownBlock = v.ownBlock ∨ v'.ownBlock = some w.heap.size) := by
  have hzero : m = 0 → news = [] := fun h => List.eq_nil_of_length_eq_zero (by rw [hr.1, h, Nat.zero_mul])
  cases A with
  | none =>
    have hm : m = 0 := by
      rcases Nat.eq_zero_or_pos m with h0 | h0
      · exact h0
      · obtain ⟨ad, h, _⟩ := hr.2 h0
        cases h
    have hn := hzero hm
    subst hm hn
    exact ⟨v, w, run_append_of_nil w base t ty e i size ht hi v n xs hown c, by simpa using hown, World.grownBy.refl w _, .inl rfl⟩
  | some ad =>
    have hcells : ∀ j u, news[j]? = some u → w.cell? (ad.add j) = some u := by
      intro j u hu
      rcases Nat.eq_zero_or_pos m with h0 | h0
      · rw [hzero h0] at hu; simp at hu
      · obtain ⟨ad', h, _, hc⟩ := hr.2 h0
        injection h with h
        subst h
        exact hc j u hu
    obtain ⟨v', w', hrun, h2, h3, _, h5⟩ := run_append_own_at (P := P) w base t ty e i z size bytes ht hi hz hsize hby hzs hsz v n xs hown ad m c news hr.1 hcells h1 h63 hbytes hbase
    exact ⟨v', w', hrun, h2, h3, h5⟩

theorem wp_append_any {o : Oper} {a : Act} {K : Act → World → Prop} {Q : Exit → Act → World → Prop} (s x : Operand) (t : TypeId)
    (ho : o.op = .call { callee := .builtin .append, args := #[s, x], argTypes := #[t, t] })
    (base : Nat) (e : TypeId) (i : TypeInfo) (z : Value) (size bytes : Nat) (ht : P.underlying t = some (.slice e)) (hi : P.info? e = some i) (hz : i.zero = some z)
    (hsize : i.size = size) (hby : i.bytes = bytes) (hzs : z.cells.size = size) (hsz : 0 < size)
    (v : Value) (n : Nat) (xs : List Value) (hs : a.eval s = v) (hown : w.ownsRow base e size v n xs)
    (B : Nat) (A : Option Addr) (m c : Nat) (news : List Value) (hx : a.eval x = .slice A m c) (hr : Reads w B size A m news) (h1 : ∀ u ∈ news, u.oneCell' = true)
    (h63 : n + m ≤ maxLen) (hbytes : (n + m) * bytes ≤ 140737488355328) (hbase : base ≤ w.heap.size)
    (h : ∀ v' w', w'.ownsRow base e size v' (n + m) (xs ++ news) → w.grownBy w' v.ownBlock → (v'.ownBlock = v.ownBlock ∨ v'.ownBlock = some w.heap.size) → K (a.put o.dst v') w') : o.wp P a w K Q := by
  obtain ⟨v', w', hrun, h2, h3, h4⟩ := run_append_any (P := P) w base t o.type e i z size bytes ht hi hz hsize hby hzs hsz v n xs hown B A m c news hr h1 h63 hbytes hbase
  unfold Oper.wp execOp
  simp only [ho, resolve, invoke, builtin, Sem.run_bind, Sem.run_pure, Result.andThen_ok, List.map_toArray, List.map_cons, List.map_nil, hs, hx, hrun]
  exact h v' w' h2 h3 h4

theorem wpList_append_any {ops : Array Oper} {rest : List Oper} {o : Oper} {a : Act} {Q : Exit → Act → World → Prop} (hgd : o.guard = none) (s x : Operand) (t : TypeId)
    (ho : o.op = .call { callee := .builtin .append, args := #[s, x], argTypes := #[t, t] })
    (base : Nat) (e : TypeId) (i : TypeInfo) (z : Value) (size bytes : Nat) (ht : P.underlying t = some (.slice e)) (hi : P.info? e = some i) (hz : i.zero = some z)
    (hsize : i.size = size) (hby : i.bytes = bytes) (hzs : z.cells.size = size) (hsz : 0 < size)
    (v : Value) (n : Nat) (xs : List Value) (hs : a.eval s = v) (hown : w.ownsRow base e size v n xs)
    (B : Nat) (A : Option Addr) (m c : Nat) (news : List Value) (hx : a.eval x = .slice A m c) (hr : Reads w B size A m news) (h1 : ∀ u ∈ news, u.oneCell' = true)
    (h63 : n + m ≤ maxLen) (hbytes : (n + m) * bytes ≤ 140737488355328) (hbase : base ≤ w.heap.size)
    (h : ∀ v' w', w'.ownsRow base e size v' (n + m) (xs ++ news) → w.grownBy w' v.ownBlock → (v'.ownBlock = v.ownBlock ∨ v'.ownBlock = some w.heap.size) → wpList P ops Q rest (a.put o.dst v') w') : wpList P ops Q (o :: rest) a w :=
  wpList_plain hgd fun _ hK => wp_append_any w s x t ho base e i z size bytes ht hi hz hsize hby hzs hsz v n xs hs hown B A m c news hx hr h1 h63 hbytes hbase fun v' w' h2 h3 h4 => hK _ _ (h v' w' h2 h3 h4)
end

/-- An append leaves what lies below base as it was. -/
theorem below_app {w w' : World} {B base size n : Nat} {e : TypeId} {v : Value} {xs : List Value} {W : World} (hb : Below B W w) (h : w.ownsRow base e size v n xs) (hg : w.grownBy w' v.ownBlock) (hB : B ≤ base) (hs : B ≤ w.heap.size) : Below B W w' :=
  hb.grown hg hs (fun k hk => by have := (h.lt k hk).1; omega)

/-- The marks behind a list that is handed in. -/
def markN (k i : Int) : Int := 1000003 * (k + 7) + i
def irow (n : Int) : List Value := [.int .i64 n]
theorem flat_one {α : Type} {f : α → List Value} (hf : ∀ x, ∀ u ∈ f x, u.oneCell' = true) (l : List α) : ∀ u ∈ l.flatMap f, u.oneCell' = true := by
  intro u hu
  obtain ⟨x, _, hx⟩ := List.mem_flatMap.1 hu
  exact hf x u hx
end Go.Proofs.YtkgflepgkhnclaaGreatDoor
