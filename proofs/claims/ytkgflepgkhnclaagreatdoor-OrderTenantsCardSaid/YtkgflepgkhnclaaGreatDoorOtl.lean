/-
  Layer 27: strings.Builder at this program: copyCheck, WriteString; strconv.FormatUint of small numbers.
  Layer 27: strconv.FormatUint of small numbers.
  Layer 27: order: text: the state of the text that is being built.
  Layer 27: order: what a search comes to; the search's inner test.
  Layer 27: order: a search's world.
  Layer 27: order: a search's closure: the inner loop, a step, the call of itself.
  Layer 27: order: text: the regions that write.
  Layer 27: order: text.
-/
import Derived.Test.YtkgflepgkhnclaaGreatDoorOtk
import Derived.Test.YtkgflepgkhnclaaGreatDoorOte
import Derived.Lib.OwnKind
import Derived.Test.YtkgflepgkhnclaaGreatDoorOtf
import Derived.Test.YtkgflepgkhnclaaGreatDoorOth
import Derived.Shelf.Strconv.Quoted
import Derived.Deep.QuietTactic
import Derived.BigQuiet
namespace Go.Proofs.YtkgflepgkhnclaaGreatDoor
open Go.RowKit Go.Shelf
set_option linter.unusedVariables false
set_option linter.unusedSimpArgs false

/-- All blocks are as they were but b and those of bytes. -/
structure KeepT (b : Nat) (w w' : World) : Prop where
  os : w'.os = w.os
  tape : w'.tape = w.tape
  output : w'.output = w.output
  size : w.heap.size ≤ w'.heap.size
  block : ∀ i, i < w.heap.size → i ≠ b → ¬ U8 w i → w'.heap[i]? = w.heap[i]?
theorem KeepT.refl (b : Nat) (w : World) : KeepT b w w := ⟨rfl, rfl, rfl, Nat.le_refl _, fun _ _ _ _ => rfl⟩
theorem KeepT.of_below {b : Nat} {w w' : World} (h : Below w.heap.size w w') : KeepT b w w' := ⟨h.os, h.tape, h.output, h.size, fun i hi _ _ => h.block i hi⟩
theorem KeepT.trans {b : Nat} {w w' w'' : World} (h : KeepT b w w') (k : KeepT b w' w'') : KeepT b w w'' :=
  ⟨k.os.trans h.os, k.tape.trans h.tape, k.output.trans h.output, Nat.le_trans h.size k.size, fun i hi hb hu => by
    have h1 := h.block i hi hb hu
    rw [k.block i (Nat.lt_of_lt_of_le hi h.size) hb (fun a => hu (a.on h1.symm)), h1]⟩
theorem KeepT.blk {b g : Nat} {t : TypeId} {cs : Array Value} {w w' : World} (k : KeepT b w w') (h : Blk w g t cs) (hg : g ≠ b) (ht : t ≠ 5) : Blk w' g t cs := (k.block g h.lt hg (not_U8 h ht)).trans h
theorem KeepT.set {b : Nat} (w : World) (j : Nat) (v : Value) : KeepT b w (w.setCell ⟨b, j, none⟩ v) := ⟨rfl, rfl, rfl, by simp, fun i _ hi _ => Below.heap_setCell w _ v i hi⟩
theorem KeepT.grown {b : Nat} {w w' : World} {row : Option Nat} (hg : w.grownBy w' row) (hr : ∀ g, row = some g → U8 w g) : KeepT b w w' :=
  ⟨hg.os, hg.tape, hg.output, hg.size, fun i hi _ hu => hg.block i hi (fun e => hu (hr i e.symm))⟩
set_option maxHeartbeats 1000000 in
set_option maxRecDepth 100000 in
theorem copyCheck_used (b : Nat) (w : World) (h0 : w.cell? ⟨b, 0, none⟩ = some (.pointer (some ⟨b, 0, none⟩))) :
    Calls Tryz.prog 180 #[.pointer (some ⟨b, 0, none⟩)] w fun e w' => e = .returned (.tuple #[]) ∧ w' = w := by
  obtain ⟨j, hj, _⟩ := Option.map_eq_some_iff.1 builderExtra.sizeBuilder
  have hne : ∀ W : World, (binOp .neq 207 (.pointer (some ⟨b, 0, none⟩)) (.pointer (some ⟨b, 0, none⟩))).run Tryz.prog W = .ok (.bool false) W := fun W => Lib.run_neq_ptr_same W _ Tryz.underlying207 hj
  go_enter Tryz.func180, Tryz.ntmps180
  go_wp2
  go_end0
  exact ⟨rfl, rfl⟩
set_option maxHeartbeats 1000000 in
set_option maxRecDepth 100000 in
theorem copyCheck_fresh (b : Nat) (w : World) (h0 : w.cell? ⟨b, 0, none⟩ = some (.pointer none)) (hsh : w.shape? b = some (209, 2)) (hf : w.frozen? ⟨b, 0, none⟩ = false) :
    Calls Tryz.prog 180 #[.pointer (some ⟨b, 0, none⟩)] w fun e w' => e = .returned (.tuple #[]) ∧ w' = w.setCell ⟨b, 0, none⟩ (.pointer (some ⟨b, 0, none⟩)) := by
  obtain ⟨j, hj, hjs⟩ := Option.map_eq_some_iff.1 builderExtra.sizeBuilder
  go_enter Tryz.func180, Tryz.ntmps180
  go_wp2
  rw [Lib.run_to_unsafe w ⟨b, 0, none⟩ Tryz.underlying207 Tryz.underlying288 hj (by rw [hjs]; decide) hsh (Nat.zero_lt_succ 1)]
  simp only [Result.andThen]
  rw [Oper.upon_value]
  go_wp2
  rw [run_callFunc_extern Tryz.func219 (by kernel_rfl) (by kernel_rfl) (by kernel_rfl) (e := Extern.AbiNoEscape.same) (by kernel_rfl)]
  rw [Lib.run_noEscape]
  simp only [Result.andThen]
  rw [Oper.upon_value]
  go_wp2
  rw [Lib.run_from_unsafe w ⟨b, 0, none⟩ Tryz.underlying288 Tryz.underlying207 hj hsh builderExtra.liesBuilder]
  simp only [Result.andThen]
  rw [Oper.upon_value]
  go_wp2
  go_end0
  exact ⟨rfl, rfl⟩
theorem copyCheck_b (B b : Nat) (bs : List Value) (w : World) (h : Lib.IsBuilder 209 5 B b bs w) :
    Calls Tryz.prog 180 #[.pointer (some ⟨b, 0, none⟩)] w fun e w' => e = .returned (.tuple #[]) ∧ Lib.BuilderAt 209 5 B b (.pointer (some ⟨b, 0, none⟩)) bs w' ∧ Below B w w' ∧ KeepT b w w' := by
  rcases h with h | h
  · refine (copyCheck_fresh b w h.cell0 h.shape h.frozen0).mono ?_
    rintro e w' ⟨rfl, rfl⟩
    exact ⟨rfl, h.used _, (Below.refl B w).setCell (p := ⟨b, 0, none⟩) h.1 _, KeepT.set w 0 _⟩
  · refine (copyCheck_used b w h.cell0).mono ?_
    rintro e w' ⟨rfl, rfl⟩
    exact ⟨rfl, h, Below.refl B _, KeepT.refl b _⟩
set_option maxHeartbeats 2000000 in
set_option maxRecDepth 100000 in
theorem writeString_b (B b : Nat) (bs : List Value) (s : ByteArray) (w : World) (h : Lib.IsBuilder 209 5 B b bs w) (hlen : bs.length + s.size ≤ 140737488355328) (hBw : B ≤ w.heap.size) :
    Calls Tryz.prog 141 #[.pointer (some ⟨b, 0, none⟩), .string s] w fun e w' => e = .returned (.tuple #[.int .i64 s.size, .nilIface]) ∧ Lib.IsBuilder 209 5 B b (bs ++ Lib.strCells s) w' ∧ Below B w w' ∧ KeepT b w w' := by
  obtain ⟨i0, hi, hz0, hz1, hz2⟩ := info_parts builderExtra.infoByte
  go_enter Tryz.func141, Tryz.ntmps141
  go_wp2_with fail
  refine (copyCheck_b B b bs _ h).mono ?_
  rintro e w1 ⟨rfl, h1, hb1, hk1⟩
  obtain ⟨hB, v, hbk, hown, hne⟩ := h1
  have c0 : w1.cell? ⟨b, 0, none⟩ = some (.pointer (some ⟨b, 0, none⟩)) := by rw [Lib.cell_of_heap hbk]; rfl
  have c1 : w1.cell? ⟨b, 1, none⟩ = some v := by rw [Lib.cell_of_heap hbk]; rfl
  go_wp2_with (at_builtin; refine Lib.wpList_append_own_string _ rfl _ _ 135 9 rfl B 5 i0 Tryz.underlying135 Tryz.underlying9 hi hz0 hz1 hz2 _ _ _ rfl hown s rfl ?c3 ?c4 ?c5 ?_)
  case c3 => unfold maxLen; omega
  case c4 => omega
  case c5 => have := hb1.size; omega
  intro v' w2 hown' hgrow _
  have hlt : b < w1.heap.size := by
    rcases Nat.lt_or_ge b w1.heap.size with h' | h'
    · exact h'
    · simp [Array.getElem?_eq_none h'] at hbk
  have hb2 : w2.heap[b]? = some (.cells #[.pointer (some ⟨b, 0, none⟩), v] 209 (0, 0)) := by
    rw [hgrow.block b hlt (fun e => hne e.symm)]
    exact hbk
  have d0 : w2.cell? ⟨b, 0, none⟩ = some (.pointer (some ⟨b, 0, none⟩)) := by rw [Lib.cell_of_heap hb2]; rfl
  have d1 : w2.cell? ⟨b, 1, none⟩ = some v := by rw [Lib.cell_of_heap hb2]; rfl
  have f1 : w2.frozen? ⟨b, 1, none⟩ = false := Lib.frozen_of_heap hb2 1
  obtain ⟨ao, n', cap, rfl⟩ : ∃ ao n' cap, v' = .slice ao n' cap := by
    rcases hown'.2 with ⟨hv, _⟩ | ⟨g, cap, cur, hv, _⟩
    · exact ⟨_, _, _, hv⟩
    · exact ⟨_, _, _, hv⟩
  go_wp2
  go_ret2
  refine ⟨rfl, .inr ?_, ?_, ?_⟩
  · exact Lib.BuilderAt.put (T := 209) (e := 5) hB hb2 (bs' := bs ++ Lib.strCells s) (by simpa [Lib.strCells_length] using hown') builderExtra.neB5
  · exact (hb1.grown hgrow (by have := hb1.size; omega) (fun k hk => (hown.lt k hk).1)).setCell (p := ⟨b, 1, none⟩) hB _
  · exact (hk1.trans (.grown hgrow (fun g hg => Lib.ownsRow_kind hown g hg))).trans (KeepT.set _ 1 _)
end Go.Proofs.YtkgflepgkhnclaaGreatDoor
namespace Go.Proofs.YtkgflepgkhnclaaGreatDoor
open Go.RowKit Go.Shelf
set_option linter.unusedVariables false
set_option linter.unusedSimpArgs false

theorem formatUint_i (i : Nat) (hi : i < 100) (w : World) : Calls Tryz.prog 181 #[.int .u64 i, .int .i64 10] w fun e w' => e = .returned (.string ⟨(Lib.decDigits i).toArray⟩) ∧ w' = w := by
  have hs := Lib.hid (lib_small i hi w)
  have h1 : (i : Int) < 100 := by omega
  have hw : IntKind.i64.wrap (i : Int) = (i : Int) := IntWalk.i64_in _ (by omega)
  go_enter Tryz.func181, Tryz.ntmps181
  go_wp2_with fail
  refine hs.out.mono ?_
  rintro e w' ⟨rfl, rfl⟩
  go_wp2_with fail
  go_ret
  exact ⟨rfl, rfl⟩
theorem formatUint_s (i : Nat) (hi : i < 100) (w : World) : Calls Tryz.prog 142 #[.int .u64 i, .int .i64 10] w fun e w' => e = .returned (.string ⟨(Lib.decDigits i).toArray⟩) ∧ w' = w := by
  have hs := Lib.hid (formatUint_i i hi w)
  go_enter Tryz.func142, Tryz.ntmps142
  go_wp2_with fail
  refine hs.out.mono ?_
  rintro e w' ⟨rfl, rfl⟩
  go_wp2_with fail
  go_ret
  exact ⟨rfl, rfl⟩
theorem digits_le (i : Nat) (hi : i < 100) : (Lib.decDigits i).length ≤ 2 := by
  have : ∀ k : Fin 100, (Lib.decDigits k.val).length ≤ 2 := by decide +kernel
  exact this ⟨i, hi⟩
end Go.Proofs.YtkgflepgkhnclaaGreatDoor
namespace Go.Proofs.YtkgflepgkhnclaaGreatDoor
open Go.RowKit Go.Shelf
set_option linter.unusedVariables false
set_option linter.unusedSimpArgs false

/-- The tables of strconv and utf8 that Quote reads. -/
def Tabs (T : Lib.PrintTabs) (w : World) : Prop := Lib.PrintTabsAt 5 6 7 8 T w ∧ Lib.Utf8Tabs 3 4 w
theorem Tabs.below {T : Lib.PrintTabs} {w w' : World} (h : Tabs T w) (hb : Below w.heap.size w w') : Tabs T w' := ⟨printTabs_below h.1 hb, Utf8Tabs_below h.2 hb⟩
/-- The text l is being built, in the first block behind w. -/
def TxAt (w : World) (l : List UInt8) (W : World) : Prop := Below w.heap.size w W ∧ Lib.IsBuilder 209 5 w.heap.size w.heap.size (Lib.byteCells l) W
theorem builder_blk {B b : Nat} {bs : List Value} {W : World} (h : Lib.IsBuilder 209 5 B b bs W) : ∃ p v, Blk W b 209 #[p, v] := by
  rcases h with ⟨_, v, h, _⟩ | ⟨_, v, h, _⟩
  · exact ⟨_, v, h⟩
  · exact ⟨_, v, h⟩
theorem builder_below {B b : Nat} {bs : List Value} {W W' : World} (h : Lib.IsBuilder 209 5 B b bs W) (hb : Below W.heap.size W W') : Lib.IsBuilder 209 5 B b bs W' := by
  obtain ⟨p, v, h0⟩ := builder_blk h
  have go : ∀ q, Lib.BuilderAt 209 5 B b q bs W → Lib.BuilderAt 209 5 B b q bs W' := by
    rintro q ⟨h1, v, h2, h3, h4⟩
    exact ⟨h1, v, (hb.block b h0.lt).trans h2, own_same h3 (fun g hg => hb.block g (own_at h3 hg).2.1), h4⟩
  exact h.imp (go _) (go _)
theorem TxAt.below {w W W' : World} {l : List UInt8} (h : TxAt w l W) (hb : Below W.heap.size W W') : TxAt w l W' :=
  ⟨below_trans h.1 hb, builder_below h.2 hb⟩
theorem TxAt.lt {w W : World} {l : List UInt8} (h : TxAt w l W) : w.heap.size < W.heap.size := by
  obtain ⟨p, v, h0⟩ := builder_blk h.2
  exact h0.lt
theorem tx_new (w : World) : TxAt w [] (w.alloc (.cells #[.pointer none, .slice none 0 0] 209)) :=
  ⟨below_box _ _, Lib.fresh_isBuilder _ _ w⟩
/-- WriteString at a text that is being built. -/
theorem tx_write {w W : World} {l : List UInt8} (h : TxAt w l W) (s : ByteArray) (hn : l.length + s.size ≤ 140737488355328) : Calls Tryz.prog 141 #[.pointer (some ⟨w.heap.size, 0, none⟩), .string s] W (fun e w' => e = .returned (.tuple #[.int .i64 s.size, .nilIface]) ∧ TxAt w (l ++ s.data.toList) w' ∧ KeepT w.heap.size W w') := by
  obtain ⟨h1, h3⟩ := h
  refine (writeString_b _ _ _ s W h3 (by rw [Lib.byteCells_length]; exact hn) h1.size).mono ?_
  rintro e w' ⟨rfl, h4, h5, h6⟩
  refine ⟨rfl, ⟨⟨h5.os.trans h1.os, h5.tape.trans h1.tape, h5.output.trans h1.output, Nat.le_trans h1.size h5.size, fun i hi => by rw [h5.block i hi, h1.block i hi]⟩, ?_⟩, h6⟩
  rw [Lib.byteCells_append, ← Lib.strCells_eq]; exact h4
theorem KeepT.own {b base size n : Nat} {W W' : World} {e : TypeId} {v : Value} {xs : List Value} {cs : Array Value} {t : TypeId} (k : KeepT b W W') (h : W.ownsRow base e size v n xs) (hb : Blk W b t cs) (ht : e ≠ t) (he : e ≠ 5) : W'.ownsRow base e size v n xs :=
  own_same h fun g hg => by
    obtain ⟨_, h1, cs', h2⟩ := own_at h hg
    exact k.block g h1 (fun e2 => own_blk_ne h hb ht (e2 ▸ hg)) (not_U8 h2 he)
/-! ### The text as plain data -/
def pairX (T : Lib.PrintTabs) (p : Kv) : List UInt8 := (strOfNums (Lib.quoteZ T p.1)).data.toList ++ (strOfNums (Lib.quoteZ T p.2)).data.toList
def quoX (M : Mdl) (t : Nat) : List UInt8 := Lib.decDigits (M t).qk.toNat ++ [44] ++ (Lib.decDigits (M t).qb.toNat ++ [44])
def tenX (T : Lib.PrintTabs) (M : Mdl) (t : Nat) : List UInt8 := (Lib.decDigits (M t).gen.toNat ++ [59]) ++ (if (M t).bk.isSome then quoX M t ++ (pairsN M t).flatMap (pairX T) else [])
/-- What text returns. -/
def textN (T : Lib.PrintTabs) (M : Mdl) : List UInt8 := (List.range 17).flatMap (tenX T M)
/-- A model whose text is short. -/
structure TxSmall (M : Mdl) : Prop where
  gen : ∀ t, 0 ≤ (M t).gen ∧ (M t).gen < 100
  qk : ∀ t, 0 ≤ (M t).qk ∧ (M t).qk < 100
  qb : ∀ t, 0 ≤ (M t).qb ∧ (M t).qb < 100
  bk : ∀ t B, (M t).bk = some B → B.l.length ≤ 50 ∧ ∀ p ∈ B.l, p.1.size ≤ 16 ∧ p.2.size ≤ 32
theorem TxSmall.small {M : Mdl} (h : TxSmall M) : Small M := fun t B hB => by have := (h.bk t B hB).1; omega
theorem TxSmall.pairs {M : Mdl} (h : TxSmall M) (t : Int) : (pairsN M t).length ≤ 50 ∧ ∀ p ∈ pairsN M t, p.1.size ≤ 16 ∧ p.2.size ≤ 32 := by
  unfold pairsN
  split
  · cases hB : (M t.toNat).bk with
    | none => simp
    | some B => exact h.bk _ B hB
  · simp
theorem quote_size (T : Lib.PrintTabs) (s : ByteArray) : (strOfNums (Lib.quoteZ T s)).size ≤ 10 * s.size + 2 := by
  rw [strOfNums_size]; exact Lib.quoteZ_length_le T s
theorem toList_len (s : ByteArray) : s.data.toList.length = s.size := Array.length_toList
theorem pairX_len {T : Lib.PrintTabs} {p : Kv} (h : p.1.size ≤ 16 ∧ p.2.size ≤ 32) : (pairX T p).length ≤ 484 := by
  have h1 := quote_size T p.1
  have h2 := quote_size T p.2
  unfold pairX
  rw [List.length_append, toList_len, toList_len]
  omega
theorem flat_len {α β : Type} {f : α → List β} {m : Nat} : ∀ {l : List α}, (∀ x ∈ l, (f x).length ≤ m) → (l.flatMap f).length ≤ l.length * m
  | [], _ => by simp
  | x :: l, h => by
    have h1 := h x (by simp)
    have h2 := flat_len (l := l) (fun y hy => h y (by simp [hy]))
    rw [List.flatMap_cons, List.length_append, List.length_cons, Nat.succ_mul]
    omega
theorem pairs_take_len {T : Lib.PrintTabs} {M : Mdl} (h : TxSmall M) (t : Int) (i : Nat) : (((pairsN M t).take i).flatMap (pairX T)).length ≤ 24200 := by
  obtain ⟨h1, h2⟩ := h.pairs t
  have := flat_len (f := pairX T) (m := 484) (l := (pairsN M t).take i) (fun p hp => pairX_len (h2 p (List.mem_of_mem_take hp)))
  have : ((pairsN M t).take i).length ≤ 50 := by rw [List.length_take]; omega
  omega
theorem quoX_len {M : Mdl} (h : TxSmall M) (t : Nat) : (quoX M t).length ≤ 6 := by
  have h1 := digits_le (M t).qk.toNat (by have := h.qk t; omega)
  have h2 := digits_le (M t).qb.toNat (by have := h.qb t; omega)
  unfold quoX
  simp only [List.length_append, List.length_cons, List.length_nil]
  omega
theorem tenX_len {T : Lib.PrintTabs} {M : Mdl} (h : TxSmall M) (t : Nat) : (tenX T M t).length ≤ 25000 := by
  have h1 := digits_le (M t).gen.toNat (by have := h.gen t; omega)
  have h2 := quoX_len h t
  have h3 := pairs_take_len (T := T) h t (pairsN M t).length
  rw [List.take_length] at h3
  unfold tenX
  split
  · simp only [List.length_append, List.length_cons, List.length_nil]
    omega
  · simp only [List.length_append, List.length_cons, List.length_nil]
    omega
theorem texts_len {T : Lib.PrintTabs} {M : Mdl} (h : TxSmall M) (k : Nat) (hk : k ≤ 17) : ((List.range k).flatMap (tenX T M)).length ≤ 425000 := by
  have := flat_len (f := tenX T M) (m := 25000) (l := List.range k) (fun t _ => tenX_len h t)
  rw [List.length_range] at this
  omega
def TextEnd (T : Lib.PrintTabs) (M : Mdl) (w : World) (e : Ending) (w' : World) : Prop := e = .returned (.string ⟨(textN T M).toArray⟩) ∧ Below w.heap.size w w'
end Go.Proofs.YtkgflepgkhnclaaGreatDoor
namespace Go.Proofs.YtkgflepgkhnclaaGreatDoor
open Go.RowKit Go.Shelf
set_option linter.unusedVariables false
set_option linter.unusedSimpArgs false

/-- What a search works on: entries, Dones (with their pairs), the Dones in question, the tables. -/
structure Sx where
  es : List Ent
  ds : List Dn
  P : Nat → List Kv
  all : List Nat
  T : Lib.PrintTabs
namespace Sx
def at_ (X : Sx) (k : Nat) : Nat := X.all.getD k 0
def from_ (X : Sx) (i : Nat) : Int := ((X.ds[i]?).map (·.f)).getD 0
def to_ (X : Sx) (i : Nat) : Int := ((X.ds[i]?).map (·.t)).getD 0
def first (X : Sx) (left j i : Nat) : Bool := !left.testBit j || decide (X.from_ i ≤ X.to_ (X.at_ j))
def okTo (X : Sx) (left k n : Nat) : Bool := left.testBit k && (List.range n).all fun j => X.first left j (X.at_ k)
def ok (X : Sx) (left k : Nat) : Bool := X.okTo left k X.all.length
def step (X : Sx) (M : Mdl) (i : Nat) : Option Mdl :=
  match X.ds[i]? with
  | none => none
  | some x => match X.es[x.e.toNat]? with
    | none => none
    | some en => if rpB M en.r x (X.P i) then some (doN M en.r).1 else none
def key (X : Sx) (M : Mdl) (left : Nat) : ByteArray := ⟨(Lib.decDigits left).toArray⟩ ++ ⟨#[32]⟩ ++ ⟨(textN X.T M).toArray⟩
def loop (X : Sx) (go : Mdl → Nat → List Nat → Kvs → Option (List Nat) × Kvs) (M : Mdl) (left : Nat) (ord : List Nat) : List Nat → Kvs → Option (List Nat) × Kvs
  | [], dead => (none, putS (X.key M left) (.bool true) dead)
  | k :: ks, dead =>
    match (if X.ok left k then X.step M (X.at_ k) else none) with
    | none => X.loop go M left ord ks dead
    | some M' => match (go M' (left - 2 ^ k) (ord ++ [X.at_ k]) dead).1 with
      | some o => (some o, (go M' (left - 2 ^ k) (ord ++ [X.at_ k]) dead).2)
      | none => X.loop go M left ord ks (go M' (left - 2 ^ k) (ord ++ [X.at_ k]) dead).2
/-- What the search's closure returns: the order, if there is one; the dead states. -/
def walk (X : Sx) : Nat → Mdl → Nat → List Nat → Kvs → Option (List Nat) × Kvs
  | 0, _, _, _, dead => (none, dead)
  | f + 1, M, left, ord, dead => if left = 0 then (some ord, dead) else if (getS (X.key M left) dead).isSome then (none, dead) else X.loop (X.walk f) M left ord (List.range X.all.length) dead
end Sx
theorem okTo_succ (X : Sx) (left k n : Nat) : X.okTo left k (n + 1) = (X.okTo left k n && X.first left n (X.at_ k)) := by
  unfold Sx.okTo
  rw [List.range_succ, List.all_append]
  simp [Bool.and_assoc]
theorem okTo_zero (X : Sx) (left k : Nat) : X.okTo left k 0 = left.testBit k := by
  unfold Sx.okTo
  simp
theorem bit_none (left j : Nat) (hl : left < 64) (hj : j < 6) : (bits BinOp.and IntKind.i64 ((left : Int) / 2 ^ j) 1 == 0) = !left.testBit j := by
  have : ∀ (l : Fin 64) (i : Fin 6), (bits BinOp.and IntKind.i64 ((l.val : Int) / 2 ^ i.val) 1 == 0) = !l.val.testBit i.val := by decide +kernel
  exact this ⟨left, hl⟩ ⟨j, hj⟩
theorem bit_eq (left j : Nat) (hl : left < 64) (hj : j < 6) : (bits BinOp.and IntKind.i64 ((left : Int) / 2 ^ j) 1 == 1) = left.testBit j := by
  have : ∀ (l : Fin 64) (i : Fin 6), (bits BinOp.and IntKind.i64 ((l.val : Int) / 2 ^ i.val) 1 == 1) = l.val.testBit i.val := by decide +kernel
  exact this ⟨left, hl⟩ ⟨j, hj⟩
set_option maxHeartbeats 1600000 in
set_option maxRecDepth 100000 in
theorem first_any {W : World} {lb dx al ib gd od nd cd ga na ca : Nat} {left i j aj : Nat} {tt fr : Int} (h1 : W.cell? ⟨lb, 0, none⟩ = some (.int .i64 (left : Nat))) (h2 : W.cell? ⟨dx, 0, none⟩ = some (.slice (some ⟨gd, od, none⟩) nd cd)) (h3 : W.cell? ⟨al, 0, none⟩ = some (.slice (some ⟨ga, 0, none⟩) na ca)) (h4 : W.cell? ⟨ib, 0, none⟩ = some (.int .i64 (i : Nat)))
    (h5 : W.cell? ⟨ga, j, none⟩ = some (.int .i64 (aj : Nat))) (h6 : W.cell? ⟨gd, od + aj * 21 + 3, none⟩ = some (.int .i64 tt)) (h7 : W.cell? ⟨gd, od + i * 21 + 1, none⟩ = some (.int .i64 fr)) (hj : j < na) (haj : aj < nd) (hi : i < nd) (hl : left < 64) (hj6 : j < 6) :
    Calls Tryz.prog 82 #[.int .i64 (j : Nat), .pointer (some ⟨lb, 0, none⟩), .pointer (some ⟨dx, 0, none⟩), .pointer (some ⟨al, 0, none⟩), .pointer (some ⟨ib, 0, none⟩)] W (fun e w' => e = .returned (.bool (!left.testBit j || decide (fr ≤ tt))) ∧ ∃ n, w' = W.drewN n) := by
  have j1 : (0 : Int) ≤ (j : Int) := by omega
  have j2 : (j : Int) < (na : Int) := by omega
  have a1 : (0 : Int) ≤ (aj : Int) := by omega
  have a2 : (aj : Int) < (nd : Int) := by omega
  have i1 : (0 : Int) ≤ (i : Int) := by omega
  have i2 : (i : Int) < (nd : Int) := by omega
  have hbt := bit_none left j hl hj6
  cases hb : left.testBit j with
  | false =>
    rw [hb] at hbt
    clear hb
    go_enter Tryz.func82, Tryz.ntmps82
    go_wp2_with fail
    go_quiet (fail)
    go_wp2
    go_ret
    exact ⟨rfl, _, rfl⟩
  | true =>
    rw [hb] at hbt
    clear hb
    go_enter Tryz.func82, Tryz.ntmps82
    go_wp2_with fail
    go_quiet (fail)
    go_wp2
    go_ret
    exact ⟨rfl, _, rfl⟩
end Go.Proofs.YtkgflepgkhnclaaGreatDoor
namespace Go.Proofs.YtkgflepgkhnclaaGreatDoor
open Go.RowKit Go.Shelf
set_option linter.unusedVariables false
set_option linter.unusedSimpArgs false

/-- The boxes that a search's closure holds: the dead states, the Dones in question, the Dones, the entries, the order, the closure; the map of the dead states. -/
structure WB where
  dd : Nat
  al : Nat
  dx : Nat
  lx : Nat
  od : Nat
  wk : Nat
  dm : Nat
def WB.caps (b : WB) : Array Value := #[.pointer (some ⟨b.dd, 0, none⟩), .pointer (some ⟨b.al, 0, none⟩), .pointer (some ⟨b.dx, 0, none⟩), .pointer (some ⟨b.lx, 0, none⟩), .pointer (some ⟨b.od, 0, none⟩), .pointer (some ⟨b.wk, 0, none⟩)]
/-- What is given to a search, in memory. -/
structure SxAt (w : World) (X : Sx) (ge oe gd od W1 : Nat) : Prop where
  es : ge < w.heap.size ∧ w.rangeAt ge oe (X.es.flatMap Ent.row)
  ds : gd < w.heap.size ∧ w.rangeAt gd od (X.ds.flatMap Dn.row)
  ok : RpOk w X.es X.ds X.P W1
  all : ∀ k, k < X.all.length → X.at_ k < X.ds.length
  few : X.all.length ≤ 6
  tabs : Tabs X.T w
structure WkAt (w : World) (X : Sx) (b : WB) (vl vd va vo : Value) (ord : List Nat) (dead : Kvs) (W : World) : Prop where
  dd : Blk W b.dd 140 #[.map (some b.dm)]
  dm : StrMap W b.dm dead
  al : Blk W b.al 82 #[va]
  dx : Blk W b.dx 85 #[vd]
  lx : Blk W b.lx 31 #[vl]
  od : Blk W b.od 82 #[vo]
  wk : Blk W b.wk 141 #[.func (.func 79) #[] b.caps]
  arow : W.ownsRow w.heap.size 3 1 va X.all.length (X.all.map intV)
  orow : W.ownsRow w.heap.size 3 1 vo ord.length (ord.map intV)
  apart : ∀ g, vo.ownBlock = some g → va.ownBlock ≠ some g
  ne : b.al ≠ b.od
  ge : w.heap.size ≤ b.od ∧ w.heap.size ≤ b.dm
  bel : Below w.heap.size w W
  vals : ∀ k v, getS k dead = some v → v = .bool true
/-- What a search writes. -/
def WkC (b : WB) (vo : Value) (i : Nat) : Prop := i = b.od ∨ i = b.dm ∨ vo.ownBlock = some i
def OwnNew (W : World) (vo vo' : Value) : Prop := vo'.ownBlock = vo.ownBlock ∨ ∃ g, vo'.ownBlock = some g ∧ W.heap.size ≤ g
theorem OwnNew.refl (W : World) (vo : Value) : OwnNew W vo vo := .inl rfl
theorem OwnNew.trans {W W' : World} {v v' v'' : Value} (h : OwnNew W v v') (k : OwnNew W' v' v'') (hs : W.heap.size ≤ W'.heap.size) : OwnNew W v v'' := by
  rcases k with k | ⟨g, k1, k2⟩
  · rcases h with h | ⟨g, h1, h2⟩
    · exact .inl (k.trans h)
    · exact .inr ⟨g, k.trans h1, h2⟩
  · exact .inr ⟨g, k1, Nat.le_trans hs k2⟩
theorem OwnNew.old {W : World} {v v' : Value} (h : OwnNew W v v') {i : Nat} (hi : i < W.heap.size) (e : v'.ownBlock = some i) : v.ownBlock = some i := by
  rcases h with h | ⟨g, h1, h2⟩
  · rw [← h]; exact e
  · rw [h1] at e; injection e with e; omega
theorem WkC.trans {b : WB} {v v' : Value} {W W' W'' : World} (h : KeepC (WkC b v) W W') (ho : OwnNew W v v') (k : KeepC (WkC b v') W' W'') : KeepC (WkC b v) W W'' :=
  h.trans k (fun i hi hc => hc.imp id (fun h => h.imp id (fun e => ho.old hi e)))
theorem map_no_blk {w : World} {i : Nat} {t : TypeId} {cs : Array Value} {kvs : Kvs} (h : Blk w i t cs) (k : StrMap w i kvs) : False := by
  obtain ⟨es, ck, h1, _⟩ := k
  unfold Blk at h
  rw [h] at h1
  injection h1 with h1
  cases h1
section
variable {w W W' : World} {X : Sx} {b : WB} {vl vd va vo vo' : Value} {ord ord' : List Nat} {dead dead' : Kvs}
theorem WkAt.noC (h : WkAt w X b vl vd va vo ord dead W) {i : Nat} {t : TypeId} {cs : Array Value} (hb : Blk W i t cs) (h1 : t ≠ 82) (h2 : t ≠ 3) : ¬ WkC b vo i := by
  rintro (rfl | rfl | e)
  · exact blk_ne hb h.od h1 rfl
  · exact map_no_blk hb h.dm
  · obtain ⟨_, _, cs', h3⟩ := own_at h.orow e
    exact blk_ne hb h3 h2 rfl
theorem WkAt.alC (h : WkAt w X b vl vd va vo ord dead W) : ¬ WkC b vo b.al := by
  rintro (e | e | e)
  · exact h.ne e
  · exact map_no_blk h.al (e ▸ h.dm)
  · obtain ⟨_, _, cs', h3⟩ := own_at h.orow e
    exact blk_ne h.al h3 (by decide) rfl
theorem WkAt.rowC (h : WkAt w X b vl vd va vo ord dead W) {g : Nat} (hg : va.ownBlock = some g) : ¬ WkC b vo g := by
  obtain ⟨_, _, cs', h3⟩ := own_at h.arow hg
  rintro (e | e | e)
  · subst e; exact blk_ne h3 h.od (by decide) rfl
  · subst e; exact map_no_blk h3 h.dm
  · exact h.apart g e hg
theorem WkAt.geC (h : WkAt w X b vl vd va vo ord dead W) {i : Nat} (hi : WkC b vo i) : w.heap.size ≤ i := by
  rcases hi with rfl | rfl | e
  · exact h.ge.1
  · exact h.ge.2
  · exact (own_at h.orow e).1
theorem WkAt.turn (h : WkAt w X b vl vd va vo ord dead W) (k : KeepC (WkC b vo) W W') (hod : Blk W' b.od 82 #[vo']) (hrow : W'.ownsRow w.heap.size 3 1 vo' ord'.length (ord'.map intV)) (hn : OwnNew W vo vo') (hdm : StrMap W' b.dm dead') (hv : ∀ k v, getS k dead' = some v → v = .bool true) : WkAt w X b vl vd va vo' ord' dead' W' where
  dd := k.blk h.dd (h.noC h.dd (by decide) (by decide))
  dm := hdm
  al := k.blk h.al h.alC
  dx := k.blk h.dx (h.noC h.dx (by decide) (by decide))
  lx := k.blk h.lx (h.noC h.lx (by decide) (by decide))
  od := hod
  wk := k.blk h.wk (h.noC h.wk (by decide) (by decide))
  arow := own_same h.arow fun g hg => k.block g (own_at h.arow hg).2.1 (.inl (h.rowC hg))
  orow := hrow
  apart := fun g e e2 => by
    have h2 := own_at h.arow e2
    exact h.apart g (hn.old h2.2.1 e) e2
  ne := h.ne
  ge := h.ge
  bel := ⟨k.os.trans h.bel.os, k.tape.trans h.bel.tape, k.output.trans h.bel.output, Nat.le_trans h.bel.size k.size, fun i hi => by
    rw [k.block i (Nat.lt_of_lt_of_le hi h.bel.size) (.inl (fun hc => by have := h.geC hc; omega)), h.bel.block i hi]⟩
  vals := hv
theorem WkAt.below (h : WkAt w X b vl vd va vo ord dead W) (hb : Below W.heap.size W W') : WkAt w X b vl vd va vo ord dead W' :=
  h.turn (.of_below hb) (h.od.below hb h.od.lt) (own_same h.orow fun g hg => hb.block g (own_at h.orow hg).2.1) (.refl _ _) (h.dm.on (hb.block _ h.dm.lt)) h.vals
/-- A model is kept by a search. -/
theorem WkAt.model (h : WkAt w X b vl vd va vo ord dead W) {p : Nat} {M : Mdl} {O : Ows} (hm : ModelAt W p M O) (hd : ¬ mown p M O b.dm) (k : KeepC (WkC b vo) W W') : ModelAt W' p M O :=
  hm.keep k (fun i hi hc => by
    rcases hc with rfl | rfl | e
    · exact hm.other hi h.od (by decide) (by decide) (by decide)
    · exact hd hi
    · obtain ⟨_, _, cs', h3⟩ := own_at h.orow e
      exact hm.other hi h3 (by decide) (by decide) (by decide))
theorem WkAt.set_od (h : WkAt w X b vl vd va vo ord dead W) (v : Value) : Blk (W.setCell ⟨b.od, 0, none⟩ v) b.od 82 #[v] := h.od.set_ 0 v
/-- A Done is appended to the order. -/
theorem WkAt.app (h : WkAt w X b vl vd va vo ord dead W) {tmp : Obj} {W2 : World} {v2 : Value} {i : Nat} (hown : W2.ownsRow w.heap.size 3 1 v2 (ord.length + 1) (ord.map intV ++ [intV i])) (hg : (W.alloc tmp).grownBy W2 vo.ownBlock)
    (hat : v2.ownBlock = vo.ownBlock ∨ v2.ownBlock = some (W.alloc tmp).heap.size) : Blk W2 b.od 82 #[vo] ∧ WkAt w X b vl vd va v2 (ord ++ [i]) dead (W2.setCell ⟨b.od, 0, none⟩ v2) ∧ KeepC (WkC b vo) W (W2.setCell ⟨b.od, 0, none⟩ v2) ∧ OwnNew W vo v2 := by
  have hb := below_box W tmp
  have ha := h.below hb
  have hod : Blk W2 b.od 82 #[vo] := ha.od.grown hg (fun e => own_blk_ne ha.orow ha.od (by decide) e.symm)
  have hn : OwnNew W vo v2 := hat.imp id (fun e => ⟨_, e, by simp⟩)
  have k : KeepC (WkC b vo) W (W2.setCell ⟨b.od, 0, none⟩ v2) :=
    (((KeepC.of_below (C := WkC b vo) hb).trans ((KeepC.refl (WkC b vo) _).grown hg (fun g e => ⟨fun _ => .inr (.inr e), by
      obtain ⟨_, _, cs', h3⟩ := own_at ha.orow e
      exact not_U8 h3 (by decide)⟩)) (fun _ _ h => h))).setCell hod (by decide) (fun _ => .inl rfl) 0 v2
  refine ⟨hod, h.turn k (hod.set_ 0 v2) ?_ hn ?_ h.vals, k, hn⟩
  · rw [List.length_append, List.map_append]
    refine own_same hown (fun g e => Below.heap_setCell W2 _ v2 g (fun e2 => ?_))
    obtain ⟨_, _, cs', h3⟩ := own_at hown e
    subst e2
    exact blk_ne h3 hod (by decide) rfl
  · have hne : b.dm ≠ b.od := fun e => map_no_blk h.od (e ▸ h.dm)
    refine ha.dm.on ((Below.heap_setCell W2 _ v2 b.dm hne).trans (hg.block b.dm ha.dm.lt (fun e => ?_)))
    obtain ⟨_, _, cs', h3⟩ := own_at ha.orow e.symm
    exact map_no_blk h3 ha.dm
theorem own_cut {W : World} {base n : Nat} {e : TypeId} {v x : Value} {xs : List Value} (h : W.ownsRow base e 1 v (n + 1) (xs ++ [x])) : ∃ g cap, v = .slice (some ⟨g, 0, none⟩) (n + 1) cap ∧ n + 1 ≤ cap ∧ cap ≤ maxLen ∧ W.ownsRow base e 1 (.slice (some ⟨g, 0, none⟩) n cap) n xs := by
  obtain ⟨h0, h | ⟨g, cap, cur, rfl, hb, hh, h1, h2, h3, h4⟩⟩ := h
  · exact absurd h.2 (by simp)
  · have hl : xs.length = n := by simp at h0; exact h0
    refine ⟨g, cap, rfl, h1, h2, ⟨by rw [hl]; omega, .inr ⟨g, cap, cur, rfl, hb, hh, by omega, h2, h3, ?_⟩⟩⟩
    have h5 := congrArg (List.take n) h4
    rw [List.take_take, List.take_left' hl] at h5
    rw [← h5]
    congr 1
    omega
/-- The order's last Done is taken away. -/
theorem WkAt.cut {i : Nat} {g cap : Nat} (h : WkAt w X b vl vd va (.slice (some ⟨g, 0, none⟩) (ord.length + 1) cap) (ord ++ [i]) dead W) (hc : W.ownsRow w.heap.size 3 1 (.slice (some ⟨g, 0, none⟩) ord.length cap) ord.length (ord.map intV)) :
    WkAt w X b vl vd va (.slice (some ⟨g, 0, none⟩) ord.length cap) ord dead (W.setCell ⟨b.od, 0, none⟩ (.slice (some ⟨g, 0, none⟩) ord.length cap)) ∧ KeepC (WkC b (.slice (some ⟨g, 0, none⟩) (ord.length + 1) cap)) W (W.setCell ⟨b.od, 0, none⟩ (.slice (some ⟨g, 0, none⟩) ord.length cap)) := by
  have k : KeepC (WkC b (.slice (some ⟨g, 0, none⟩) (ord.length + 1) cap)) W (W.setCell ⟨b.od, 0, none⟩ (.slice (some ⟨g, 0, none⟩) ord.length cap)) := (KeepC.refl _ W).setCell h.od (by decide) (fun _ => .inl rfl) 0 _
  refine ⟨h.turn k (h.set_od _) ?_ (.inl rfl) ?_ h.vals, k⟩
  · refine own_same hc (fun g' e => Below.heap_setCell W _ _ g' (fun e2 => ?_))
    obtain ⟨_, _, cs', h3⟩ := own_at hc e
    subst e2
    exact blk_ne h3 h.od (by decide) rfl
  · exact h.dm.on (Below.heap_setCell W _ _ b.dm (fun e => map_no_blk h.od (e ▸ h.dm)))
theorem getS_putS_true {dead : Kvs} (h : ∀ k v, getS k dead = some v → v = .bool true) (x : ByteArray) : ∀ k v, getS k (putS x (.bool true) dead) = some v → v = .bool true := by
  intro k v hv
  rw [getS_putS] at hv
  split at hv
  · injection hv with hv; exact hv.symm
  · exact h k v hv
/-- A state is dead. -/
theorem WkAt.put (h : WkAt w X b vl vd va vo ord dead W) {x : ByteArray} (hdm : StrMap W' b.dm (putS x (.bool true) dead)) (hg : W.grownBy W' (some b.dm)) : WkAt w X b vl vd va vo ord (putS x (.bool true) dead) W' ∧ KeepC (WkC b vo) W W' := by
  have k : KeepC (WkC b vo) W W' := (KeepC.refl (WkC b vo) W).grown hg (fun g e => by
    injection e with e
    subst e
    exact ⟨fun _ => .inr (.inl rfl), h.dm.notU8⟩)
  have ho : b.od ≠ b.dm := fun e => map_no_blk h.od (e ▸ h.dm)
  refine ⟨h.turn k (h.od.grown hg (fun e => ho (by injection e))) (own_same h.orow fun g e => hg.block g (own_at h.orow e).2.1 (fun e2 => ?_)) (.refl _ _) hdm (getS_putS_true h.vals x), k⟩
  injection e2 with e2
  obtain ⟨_, _, cs', h3⟩ := own_at h.orow e
  subst e2
  exact map_no_blk h3 h.dm
end
end Go.Proofs.YtkgflepgkhnclaaGreatDoor
namespace Go.Proofs.YtkgflepgkhnclaaGreatDoor
open Go.RowKit Go.Shelf
set_option linter.unusedVariables false
set_option linter.unusedSimpArgs false
attribute [local go_sem] run_store_complex

theorem clr_bit (left k : Nat) (hl : left < 64) (hk : k < 6) (hb : left.testBit k = true) : bits BinOp.andNot IntKind.i64 (left : Int) (IntKind.i64.wrap (2 ^ k)) = ((left - 2 ^ k : Nat) : Int) := by
  have : ∀ (l : Fin 64) (i : Fin 6), l.val.testBit i.val = true → bits BinOp.andNot IntKind.i64 (l.val : Int) (IntKind.i64.wrap (2 ^ i.val)) = ((l.val - 2 ^ i.val : Nat) : Int) := by decide +kernel
  exact this ⟨left, hl⟩ ⟨k, hk⟩ hb
set_option maxHeartbeats 3200000 in
set_option maxRecDepth 100000 in
theorem sr_ok {V : World} {X : Sx} {left k al lb dx ib ca : Nat} {A : Option Addr} {u0 u1 u2 u4 u5 u6 u7 u8 u9 u10 u11 u12 u13 u16 u17 u18 u19 u20 u21 u22 u23 u24 u25 u26 u27 u28 u29 u30 u31 u32 u33 u34 u35 u36 u37 u38 u39 u40 u41 u42 u43 u44 u45 u46 u47 u48 u49 u50 u51 u52 u53 u54 u55 u56 u57 u58 u59 u60 u61 u62 u63 u64 u65 u66 u67 u68 u69 u70 u71 u72 u73 u74 u75 u76 u77 u78 u79 u80 u81 u82 u83 u84 u85 u86 u87 u88 u89 u90 u91 u92 u93 : Value} {Q : Exit → Act → World → Prop} (hal : V.cell? ⟨al, 0, none⟩ = some (.slice A X.all.length ca)) (hlt : al < V.heap.size) (hfew : X.all.length ≤ 6)
    (hf : ∀ j, j < X.all.length → ∀ W, Below V.heap.size V W → Calls Tryz.prog 82 #[.int .i64 (j : Nat), .pointer (some ⟨lb, 0, none⟩), .pointer (some ⟨dx, 0, none⟩), .pointer (some ⟨al, 0, none⟩), .pointer (some ⟨ib, 0, none⟩)] W (fun e w' => e = .returned (.bool (X.first left j (X.at_ k))) ∧ ∃ n, w' = W.drewN n))
    (hQ : ∀ (s16 s42 s43 s44 s45 s46 s47 s48 s49 s50 s51 s52 s53 : Value) (V' : World), Below V.heap.size V V' → Q .normal ⟨#[u0, u1, u2, .pointer (some ⟨al, 0, none⟩), u4, u5, u6, u7, u8, u9, u10, u11, u12, u13, .func (.func 82) #[] #[.pointer (some ⟨lb, 0, none⟩), .pointer (some ⟨dx, 0, none⟩), .pointer (some ⟨al, 0, none⟩), .pointer (some ⟨ib, 0, none⟩)], .bool (X.ok left k), s16, u17, u18, u19, u20, u21, u22, u23, u24, u25, u26, u27, u28, u29, u30, u31, u32, u33, u34, u35, u36, u37, u38, u39, u40, u41, s42, s43, s44, s45, s46, s47, s48, s49, s50, s51, s52, s53, u54, u55, u56, u57, u58, u59, u60, u61, u62, u63, u64, u65, u66, u67, u68, u69, u70, u71, u72, u73, u74, u75, u76, u77, u78, u79, u80, u81, u82, u83, u84, u85, u86, u87, u88, u89, u90, u91, u92, u93], []⟩ V') :
    Code.wp Tryz.prog (part Tryz.f79 [1, 1, 1, 1, 0, 1, 2, 2, 1, 1, 0, 2, 1, 1, 1, 0]) Q ⟨#[u0, u1, u2, .pointer (some ⟨al, 0, none⟩), u4, u5, u6, u7, u8, u9, u10, u11, u12, u13, .func (.func 82) #[] #[.pointer (some ⟨lb, 0, none⟩), .pointer (some ⟨dx, 0, none⟩), .pointer (some ⟨al, 0, none⟩), .pointer (some ⟨ib, 0, none⟩)], .bool (left.testBit k), u16, u17, u18, u19, u20, u21, u22, u23, u24, u25, u26, u27, u28, u29, u30, u31, u32, u33, u34, u35, u36, u37, u38, u39, u40, u41, u42, u43, u44, u45, u46, u47, u48, u49, u50, u51, u52, u53, u54, u55, u56, u57, u58, u59, u60, u61, u62, u63, u64, u65, u66, u67, u68, u69, u70, u71, u72, u73, u74, u75, u76, u77, u78, u79, u80, u81, u82, u83, u84, u85, u86, u87, u88, u89, u90, u91, u92, u93], []⟩ V := by
  conv => arg 2; whnf
  have HQ := Lib.hid hQ
  have HF := Lib.hid hf
  have hli : (X.all.length : Int) ≤ 6 := by omega
  have HA := Lib.hid (And.intro hal hlt)
  clear hQ hf hal hlt
  have hal := HA.out.1
  go_wp2_with fail
  clear hal
  have H15 : left.testBit k = X.okTo left k 0 := (okTo_zero X left k).symm
  rw [H15]
  clear H15
  go_loopw [15, 44] (fun v i wr => ∃ j : Nat, j ≤ X.all.length ∧ i = .int .i64 (j : Nat) ∧ v = .bool (X.okTo left k j) ∧ Hid (Below V.heap.size V wr)) (fun _ i _ => X.all.length - (intOf i).toNat)
  case atStart => exact ⟨0, Nat.zero_le _, rfl, rfl, Lib.hid (Below.refl _ _)⟩
  case round =>
    obtain ⟨j, hj, rfl, rfl, HW⟩ := hrel
    by_cases hjl : j < X.all.length
    · have i1 : (0 : Int) ≤ (j : Int) := by omega
      have i2 : (j : Int) < (X.all.length : Int) := by omega
      have hs := okTo_succ X left k j
      cases hb : X.okTo left k j with
      | false =>
        rw [hb] at hs
        have HS := Lib.hid hs
        clear hs hb
        go_wp2_with fail
        go_roundw
        case rel => exact ⟨j + 1, by omega, by go_num, by rw [HS.out]; rfl, HW⟩
        case measure => simp [intOf]; omega
      | true =>
        rw [hb] at hs
        have HS := Lib.hid hs
        clear hs hb
        go_wp2_with fail
        refine (HF.out j hjl _ HW.out).mono ?_
        rintro e w' ⟨rfl, n, rfl⟩
        have HW2 := Lib.hid (drewB HW.out n)
        generalize X.first left j (X.at_ k) = bb at HS ⊢
        go_wp2_with fail
        go_roundw
        case rel => exact ⟨j + 1, by omega, by go_num, by rw [HS.out]; simp, HW2⟩
        case measure => simp [intOf]; omega
    · obtain rfl : j = X.all.length := by omega
      go_wp2_with fail
      exact HQ.out _ _ _ _ _ _ _ _ _ _ _ _ _ _ HW.out
def StFA (V : World) (lx dx ib ge oe ne ce gd od nd cd i j : Nat) (x : Dn) (r : Req) : Prop := V.cell? ⟨lx, 0, none⟩ = some (.slice (some ⟨ge, oe, none⟩) ne ce) ∧ V.cell? ⟨dx, 0, none⟩ = some (.slice (some ⟨gd, od, none⟩) nd cd) ∧ V.cell? ⟨ib, 0, none⟩ = some (.int .i64 (i : Nat)) ∧ V.cell? ⟨gd, od + i * 21, none⟩ = some (.int .i64 (j : Nat)) ∧ V.cell? ⟨gd, od + i * 21 + 4, none⟩ = some (.int .i64 x.err) ∧ V.cell? ⟨gd, od + i * 21 + 5, none⟩ = some (.string x.val) ∧ V.cell? ⟨gd, od + i * 21 + 6, none⟩ = some (.slice x.pA x.pn x.pc) ∧ V.cell? ⟨gd, od + i * 21 + 7, none⟩ = some (.int .i64 x.h.t) ∧ V.cell? ⟨gd, od + i * 21 + 8, none⟩ = some (.int .u32 x.h.g) ∧ V.cell? ⟨gd, od + i * 21 + 9, none⟩ = some (.int .u8 x.h.r) ∧ V.cell? ⟨gd, od + i * 21 + 10, none⟩ = some (.int .u64 x.s0) ∧ V.cell? ⟨gd, od + i * 21 + 11, none⟩ = some (.int .u64 x.s1) ∧ V.cell? ⟨gd, od + i * 21 + 12, none⟩ = some (.int .u64 x.s2) ∧ V.cell? ⟨gd, od + i * 21 + 13, none⟩ = some (.int .u64 x.s3) ∧ V.cell? ⟨gd, od + i * 21 + 14, none⟩ = some (.int .u64 x.s4) ∧ V.cell? ⟨gd, od + i * 21 + 15, none⟩ = some (.int .u64 x.s5) ∧ V.cell? ⟨gd, od + i * 21 + 16, none⟩ = some (.int .u64 x.s6) ∧ V.cell? ⟨gd, od + i * 21 + 17, none⟩ = some (.int .u64 x.s7) ∧ V.cell? ⟨gd, od + i * 21 + 18, none⟩ = some (.int .u64 x.s8) ∧ V.cell? ⟨gd, od + i * 21 + 19, none⟩ = some (.int .u64 x.s9) ∧ V.cell? ⟨gd, od + i * 21 + 20, none⟩ = some (.complex .f64 x.la x.lb) ∧ V.cell? ⟨ge, oe + j * 13 + 1, none⟩ = some (.int .i64 r.deed) ∧ V.cell? ⟨ge, oe + j * 13 + 2, none⟩ = some (.int .i64 r.ten) ∧ V.cell? ⟨ge, oe + j * 13 + 3, none⟩ = some (.int .u32 r.gen) ∧ V.cell? ⟨ge, oe + j * 13 + 4, none⟩ = some (.int .u8 r.rig) ∧ V.cell? ⟨ge, oe + j * 13 + 5, none⟩ = some (.string r.key) ∧ V.cell? ⟨ge, oe + j * 13 + 6, none⟩ = some (.string r.val) ∧ V.cell? ⟨ge, oe + j * 13 + 7, none⟩ = some (.string r.old) ∧ V.cell? ⟨ge, oe + j * 13 + 8, none⟩ = some (.int .i64 r.lim) ∧ V.cell? ⟨ge, oe + j * 13 + 9, none⟩ = some (.int .i64 r.tenant) ∧ V.cell? ⟨ge, oe + j * 13 + 10, none⟩ = some (.int .u64 r.qk) ∧ V.cell? ⟨ge, oe + j * 13 + 11, none⟩ = some (.int .u64 r.qb) ∧ V.cell? ⟨ge, oe + j * 13 + 12, none⟩ = some (.int .u8 r.rights)
set_option maxHeartbeats 6400000 in
set_option maxRecDepth 100000 in
theorem sr_step {W : World} {lx dx ib ge oe ne ce gd od nd cd i j q : Nat} {x : Dn} {r : Req} {u0 u1 u2 u3 u6 u7 u8 u9 u10 u11 u12 u14 u15 u16 u18 u19 u20 u21 u22 u23 u24 u25 u26 u27 u28 u29 u30 u31 u32 u33 u34 u35 u36 u37 u38 u39 u40 u41 u42 u43 u44 u45 u46 u47 u48 u49 u50 u51 u52 u53 u54 u55 u56 u57 u58 u59 u60 u61 u62 u63 u64 u65 u66 u67 u68 u69 u70 u71 u72 u73 u74 u75 u76 u77 u78 u79 u80 u81 u82 u83 u84 u85 u86 u87 u88 u89 u90 u91 u92 u93 : Value} {Q : Exit → Act → World → Prop} {bb : Bool} {R : World → Prop} (h0 : StFA W.drew lx dx ib ge oe ne ce gd od nd cd i j x r) (hi : i < nd) (hj : j < ne)
    (hc : Calls Tryz.prog 49 #[.pointer (some ⟨q, 0, none⟩), .agg #[.int .i64 r.deed, .int .i64 r.ten, .int .u32 r.gen, .int .u8 r.rig, .string r.key, .string r.val, .string r.old, .int .i64 r.lim, .int .i64 r.tenant, .int .u64 r.qk, .int .u64 r.qb, .int .u8 r.rights], .agg #[.int .i64 x.err, .string x.val, .slice x.pA x.pn x.pc, .int .i64 x.h.t, .int .u32 x.h.g, .int .u8 x.h.r, .int .u64 x.s0, .int .u64 x.s1, .int .u64 x.s2, .int .u64 x.s3, .int .u64 x.s4, .int .u64 x.s5, .int .u64 x.s6, .int .u64 x.s7, .int .u64 x.s8, .int .u64 x.s9, .complex .f64 x.la x.lb], .bool false] W.drew (fun e w' => e = .returned (.bool bb) ∧ R w')) (hk : ∀ w', R w' → StFA w' lx dx ib ge oe ne ce gd od nd cd i j x r)
    (hQ : ∀ (s58 s59 s60 s61 s62 s63 s64 s65 s66 s67 s68 s69 s70 s71 s72 : Value) (W' : World), R W' → Q .normal ⟨#[u0, u1, u2, u3, .pointer (some ⟨dx, 0, none⟩), .pointer (some ⟨lx, 0, none⟩), u6, u7, u8, u9, u10, u11, u12, .pointer (some ⟨ib, 0, none⟩), u14, u15, u16, .pointer (some ⟨q, 0, none⟩), u18, u19, u20, u21, u22, u23, u24, u25, u26, u27, u28, u29, u30, u31, u32, u33, u34, u35, u36, u37, u38, u39, u40, u41, u42, u43, u44, u45, u46, u47, u48, u49, u50, u51, u52, u53, u54, u55, u56, u57, s58, s59, s60, s61, s62, s63, s64, s65, s66, s67, s68, s69, s70, s71, s72, .bool bb, .bool (!bb), u75, u76, u77, u78, u79, u80, u81, u82, u83, u84, u85, u86, u87, u88, u89, u90, u91, u92, u93], []⟩ W') :
    Code.wp Tryz.prog (part Tryz.f79 [1, 1, 1, 1, 0, 1, 2, 2, 1, 1, 0, 2, 1, 1, 1, 1, 1, 1, 0, 0]) Q ⟨#[u0, u1, u2, u3, .pointer (some ⟨dx, 0, none⟩), .pointer (some ⟨lx, 0, none⟩), u6, u7, u8, u9, u10, u11, u12, .pointer (some ⟨ib, 0, none⟩), u14, u15, u16, .pointer (some ⟨q, 0, none⟩), u18, u19, u20, u21, u22, u23, u24, u25, u26, u27, u28, u29, u30, u31, u32, u33, u34, u35, u36, u37, u38, u39, u40, u41, u42, u43, u44, u45, u46, u47, u48, u49, u50, u51, u52, u53, u54, u55, u56, u57, u58, u59, u60, u61, u62, u63, u64, u65, u66, u67, u68, u69, u70, u71, u72, u73, u74, u75, u76, u77, u78, u79, u80, u81, u82, u83, u84, u85, u86, u87, u88, u89, u90, u91, u92, u93], []⟩ W := by
  conv => arg 2; whnf
  have HQ := Lib.hid hQ
  have HC := Lib.hid hc
  have HK := Lib.hid hk
  have i1 : (0 : Int) ≤ (i : Int) := by omega
  have i2 : (i : Int) < (nd : Int) := by omega
  have j1 : (0 : Int) ≤ (j : Int) := by omega
  have j2 : (j : Int) < (ne : Int) := by omega
  unfold StFA at h0 HK
  clear hQ hc hk
  refine wp_region_noPanic ?_
  refine wp_region_held_drew (S := (fun V : World => V.cell? ⟨lx, 0, none⟩ = some (.slice (some ⟨ge, oe, none⟩) ne ce) ∧ V.cell? ⟨dx, 0, none⟩ = some (.slice (some ⟨gd, od, none⟩) nd cd) ∧ V.cell? ⟨ib, 0, none⟩ = some (.int .i64 (i : Nat)) ∧ V.cell? ⟨gd, od + i * 21, none⟩ = some (.int .i64 (j : Nat)) ∧ V.cell? ⟨gd, od + i * 21 + 4, none⟩ = some (.int .i64 x.err) ∧ V.cell? ⟨gd, od + i * 21 + 5, none⟩ = some (.string x.val) ∧ V.cell? ⟨gd, od + i * 21 + 6, none⟩ = some (.slice x.pA x.pn x.pc) ∧ V.cell? ⟨gd, od + i * 21 + 7, none⟩ = some (.int .i64 x.h.t) ∧ V.cell? ⟨gd, od + i * 21 + 8, none⟩ = some (.int .u32 x.h.g) ∧ V.cell? ⟨gd, od + i * 21 + 9, none⟩ = some (.int .u8 x.h.r) ∧ V.cell? ⟨gd, od + i * 21 + 10, none⟩ = some (.int .u64 x.s0) ∧ V.cell? ⟨gd, od + i * 21 + 11, none⟩ = some (.int .u64 x.s1) ∧ V.cell? ⟨gd, od + i * 21 + 12, none⟩ = some (.int .u64 x.s2) ∧ V.cell? ⟨gd, od + i * 21 + 13, none⟩ = some (.int .u64 x.s3) ∧ V.cell? ⟨gd, od + i * 21 + 14, none⟩ = some (.int .u64 x.s4) ∧ V.cell? ⟨gd, od + i * 21 + 15, none⟩ = some (.int .u64 x.s5) ∧ V.cell? ⟨gd, od + i * 21 + 16, none⟩ = some (.int .u64 x.s6) ∧ V.cell? ⟨gd, od + i * 21 + 17, none⟩ = some (.int .u64 x.s7) ∧ V.cell? ⟨gd, od + i * 21 + 18, none⟩ = some (.int .u64 x.s8) ∧ V.cell? ⟨gd, od + i * 21 + 19, none⟩ = some (.int .u64 x.s9) ∧ V.cell? ⟨gd, od + i * 21 + 20, none⟩ = some (.complex .f64 x.la x.lb) ∧ V.cell? ⟨ge, oe + j * 13 + 1, none⟩ = some (.int .i64 r.deed) ∧ V.cell? ⟨ge, oe + j * 13 + 2, none⟩ = some (.int .i64 r.ten) ∧ V.cell? ⟨ge, oe + j * 13 + 3, none⟩ = some (.int .u32 r.gen) ∧ V.cell? ⟨ge, oe + j * 13 + 4, none⟩ = some (.int .u8 r.rig) ∧ V.cell? ⟨ge, oe + j * 13 + 5, none⟩ = some (.string r.key) ∧ V.cell? ⟨ge, oe + j * 13 + 6, none⟩ = some (.string r.val) ∧ V.cell? ⟨ge, oe + j * 13 + 7, none⟩ = some (.string r.old) ∧ V.cell? ⟨ge, oe + j * 13 + 8, none⟩ = some (.int .i64 r.lim) ∧ V.cell? ⟨ge, oe + j * 13 + 9, none⟩ = some (.int .i64 r.tenant) ∧ V.cell? ⟨ge, oe + j * 13 + 10, none⟩ = some (.int .u64 r.qk) ∧ V.cell? ⟨ge, oe + j * 13 + 11, none⟩ = some (.int .u64 r.qb) ∧ V.cell? ⟨ge, oe + j * 13 + 12, none⟩ = some (.int .u8 r.rights))) (by kernel_rfl) ?_ (fun hHeld0 => ?_)
  · exact h0
  refine wpAnyH_take (i := 0) (v := ?_) rfl (by kernel_rfl) (by kernel_rfl) (by kernel_rfl) (fun _ _ _ h => h) (Or.inl ⟨by rfl, ?_⟩) hHeld0 ?_
  rotate_left
  · (intro w hSw; (try dsimp only at hSw); go_simp <;> with_reducible rfl)
  try simp only [Act.put, List.setIfInBounds_toArray, List.set_cons_zero, List.set_cons_succ]
  refine wpAnyH_take (i := 1) (v := ?_) rfl (by kernel_rfl) (by kernel_rfl) (by kernel_rfl) (fun _ _ _ h => h) (Or.inl ⟨by rfl, ?_⟩) hHeld0 ?_
  rotate_left
  · (intro w hSw; (try dsimp only at hSw); go_simp <;> with_reducible rfl)
  try simp only [Act.put, List.setIfInBounds_toArray, List.set_cons_zero, List.set_cons_succ]
  refine wpAnyH_take (i := 2) (v := ?_) rfl (by kernel_rfl) (by kernel_rfl) (by kernel_rfl) (fun _ _ _ h => h) (Or.inl ⟨by rfl, ?_⟩) hHeld0 ?_
  rotate_left
  · (intro w hSw; (try dsimp only at hSw); go_simp <;> with_reducible rfl)
  try simp only [Act.put, List.setIfInBounds_toArray, List.set_cons_zero, List.set_cons_succ]
  refine wpAnyH_take (i := 3) (v := ?_) rfl (by kernel_rfl) (by kernel_rfl) (by kernel_rfl) (fun _ _ _ h => h) (Or.inl ⟨by rfl, ?_⟩) hHeld0 ?_
  rotate_left
  · (intro w hSw; (try dsimp only at hSw); go_simp <;> with_reducible rfl)
  try simp only [Act.put, List.setIfInBounds_toArray, List.set_cons_zero, List.set_cons_succ]
  refine wpAnyH_take (i := 4) (v := ?_) rfl (by kernel_rfl) (by kernel_rfl) (by kernel_rfl) (fun _ _ _ h => h) (Or.inl ⟨by rfl, ?_⟩) hHeld0 ?_
  rotate_left
  · (intro w hSw; (try dsimp only at hSw); go_simp <;> with_reducible rfl)
  try simp only [Act.put, List.setIfInBounds_toArray, List.set_cons_zero, List.set_cons_succ]
  refine wpAnyH_take (i := 5) (v := ?_) rfl (by kernel_rfl) (by kernel_rfl) (by kernel_rfl) (fun _ _ _ h => h) (Or.inl ⟨by rfl, ?_⟩) hHeld0 ?_
  rotate_left
  · (intro w hSw; (try dsimp only at hSw); go_simp <;> with_reducible rfl)
  try simp only [Act.put, List.setIfInBounds_toArray, List.set_cons_zero, List.set_cons_succ]
  refine wpAnyH_take (i := 6) (v := ?_) rfl (by kernel_rfl) (by kernel_rfl) (by kernel_rfl) (fun _ _ _ h => h) (Or.inl ⟨by rfl, ?_⟩) hHeld0 ?_
  rotate_left
  · (intro w hSw; (try dsimp only at hSw); go_simp <;> with_reducible rfl)
  try simp only [Act.put, List.setIfInBounds_toArray, List.set_cons_zero, List.set_cons_succ]
  refine wpAnyH_take (i := 7) (v := ?_) rfl (by kernel_rfl) (by kernel_rfl) (by kernel_rfl) (fun _ _ _ h => h) (Or.inl ⟨by rfl, ?_⟩) hHeld0 ?_
  rotate_left
  · (intro w hSw; (try dsimp only at hSw); go_simp <;> with_reducible rfl)
  try simp only [Act.put, List.setIfInBounds_toArray, List.set_cons_zero, List.set_cons_succ]
  refine wpAnyH_take (i := 8) (v := ?_) rfl (by kernel_rfl) (by kernel_rfl) (by kernel_rfl) (fun _ _ _ h => h) (Or.inl ⟨by rfl, ?_⟩) hHeld0 ?_
  rotate_left
  · (intro w hSw; (try dsimp only at hSw); go_simp <;> with_reducible rfl)
  try simp only [Act.put, List.setIfInBounds_toArray, List.set_cons_zero, List.set_cons_succ]
  refine wpAnyH_take (i := 9) (v := ?_) rfl (by kernel_rfl) (by kernel_rfl) (by kernel_rfl) (fun _ _ _ h => h) (Or.inl ⟨by rfl, ?_⟩) hHeld0 ?_
  rotate_left
  · (intro w hSw; (try dsimp only at hSw); go_simp <;> with_reducible rfl)
  try simp only [Act.put, List.setIfInBounds_toArray, List.set_cons_zero, List.set_cons_succ]
  refine wpAnyH_take (i := 10) (v := ?_) rfl (by kernel_rfl) (by kernel_rfl) (by kernel_rfl) (fun _ _ _ h => h) (Or.inl ⟨by rfl, ?_⟩) hHeld0 ?_
  rotate_left
  · (intro w hSw; (try dsimp only at hSw); go_simp <;> with_reducible rfl)
  try simp only [Act.put, List.setIfInBounds_toArray, List.set_cons_zero, List.set_cons_succ]
  refine wpAnyH_take (i := 11) (v := ?_) rfl (by kernel_rfl) (by kernel_rfl) (by kernel_rfl) (fun _ _ _ h => h) (Or.inl ⟨by rfl, ?_⟩) hHeld0 ?_
  rotate_left
  · (intro w hSw; (try dsimp only at hSw); go_simp <;> with_reducible rfl)
  try simp only [Act.put, List.setIfInBounds_toArray, List.set_cons_zero, List.set_cons_succ]
  refine wpAnyH_take (i := 12) (v := ?_) rfl (by kernel_rfl) (by kernel_rfl) (by kernel_rfl) (fun _ _ _ h => h) (Or.inl ⟨by rfl, ?_⟩) hHeld0 ?_
  rotate_left
  · (intro w hSw; (try dsimp only at hSw); go_simp <;> with_reducible rfl)
  try simp only [Act.put, List.setIfInBounds_toArray, List.set_cons_zero, List.set_cons_succ]
  refine wpAnyH_take (i := 13) (v := ?_) rfl (by kernel_rfl) (by kernel_rfl) (by kernel_rfl) (fun _ _ _ h => h) (Or.inl ⟨by rfl, ?_⟩) hHeld0 ?_
  rotate_left
  · (intro w hSw; (try dsimp only at hSw); go_simp <;> with_reducible rfl)
  try simp only [Act.put, List.setIfInBounds_toArray, List.set_cons_zero, List.set_cons_succ]
  refine wpAnyH_take (i := 14) (v := ?_) rfl (by kernel_rfl) (by kernel_rfl) (by kernel_rfl) (fun _ _ _ h => h) (Or.inl ⟨by rfl, ?_⟩) hHeld0 ?_
  rotate_left
  · (intro w hSw; (try dsimp only at hSw); go_simp <;> with_reducible rfl)
  try simp only [Act.put, List.setIfInBounds_toArray, List.set_cons_zero, List.set_cons_succ]
  try simp only [Act.put, List.getElem_toArray, List.getElem_cons_succ, List.getElem_cons_zero, List.setIfInBounds_toArray, List.set_cons_zero, List.set_cons_succ]
  refine wpAnyH_ready (rs := [15]) (by kernel_rfl) (by simp) ?_
  refine AllReadyH.cons rfl (fun K hK => ?_) AllReadyH.nil
  go_simp
  try rw [hcl]
  with_reducible refine HC.out.mono ?_
  rintro e w9 ⟨rfl, h9⟩
  refine hK.out _ _ ?_ (fun hHeld1 => ?_)
  · exact HK.out _ h9
  clear hK K hHeld0
  try simp only [Act.put, List.setIfInBounds_toArray, List.set_cons_zero, List.set_cons_succ]
  try simp only [Act.put, List.getElem_toArray, List.getElem_cons_succ, List.getElem_cons_zero, List.setIfInBounds_toArray, List.set_cons_zero, List.set_cons_succ]
  refine wpAnyH_take (i := 16) (v := ?_) rfl (by kernel_rfl) (by kernel_rfl) (by kernel_rfl) (fun _ _ _ h => h) (Or.inl ⟨by rfl, ?_⟩) hHeld1 ?_
  rotate_left
  · (intro w hSw; (try dsimp only at hSw); go_simp <;> with_reducible rfl)
  try simp only [Act.put, List.setIfInBounds_toArray, List.set_cons_zero, List.set_cons_succ]
  try simp only [Act.put, List.getElem_toArray, List.getElem_cons_succ, List.getElem_cons_zero, List.setIfInBounds_toArray, List.set_cons_zero, List.set_cons_succ]
  refine wpAnyH_done (by kernel_rfl) ?_ _
  exact NoPanic.normal (HQ.out _ _ _ _ _ _ _ _ _ _ _ _ _ _ _ w9 h9)
set_option maxHeartbeats 6400000 in
set_option maxRecDepth 100000 in
theorem sr_rec {W : World} {wk lb q left k : Nat} {b : WB} {u0 u1 u2 u3 u4 u5 u6 u8 u10 u11 u13 u14 u15 u16 u18 u19 u20 u21 u22 u23 u24 u25 u26 u27 u28 u29 u30 u31 u32 u33 u34 u35 u36 u37 u38 u39 u40 u41 u42 u43 u44 u45 u46 u47 u48 u49 u50 u51 u52 u53 u54 u55 u56 u57 u58 u59 u60 u61 u62 u63 u64 u65 u66 u67 u68 u69 u70 u71 u72 u73 u74 u75 u76 u77 u78 u79 u80 u81 u82 u83 u84 u85 u86 u87 u88 u89 u90 u91 u92 u93 : Value} {Q : Exit → Act → World → Prop} {bb : Bool} {R : World → Prop} (h0 : W.drew.cell? ⟨wk, 0, none⟩ = some (.func (.func 79) #[] b.caps) ∧ W.drew.cell? ⟨lb, 0, none⟩ = some (.int .i64 (left : Nat))) (hl : left < 64) (hk6 : k < 6) (hbit : left.testBit k = true)
    (hc : Calls Tryz.prog 79 #[.pointer (some ⟨q, 0, none⟩), .int .i64 (left - 2 ^ k : Nat), .pointer (some ⟨b.dd, 0, none⟩), .pointer (some ⟨b.al, 0, none⟩), .pointer (some ⟨b.dx, 0, none⟩), .pointer (some ⟨b.lx, 0, none⟩), .pointer (some ⟨b.od, 0, none⟩), .pointer (some ⟨b.wk, 0, none⟩)] W.drew (fun e w' => e = .returned (.bool bb) ∧ R w')) (hk : ∀ w', R w' → w'.cell? ⟨wk, 0, none⟩ = some (.func (.func 79) #[] b.caps) ∧ w'.cell? ⟨lb, 0, none⟩ = some (.int .i64 (left : Nat)))
    (hQ : ∀ (s79 s80 s81 s82 s83 s84 : Value) (W' : World), R W' → Q .normal ⟨#[u0, u1, u2, u3, u4, u5, u6, .pointer (some ⟨wk, 0, none⟩), u8, .pointer (some ⟨lb, 0, none⟩), u10, u11, .int .i64 (k : Nat), u13, u14, u15, u16, .pointer (some ⟨q, 0, none⟩), u18, u19, u20, u21, u22, u23, u24, u25, u26, u27, u28, u29, u30, u31, u32, u33, u34, u35, u36, u37, u38, u39, u40, u41, u42, u43, u44, u45, u46, u47, u48, u49, u50, u51, u52, u53, u54, u55, u56, u57, u58, u59, u60, u61, u62, u63, u64, u65, u66, u67, u68, u69, u70, u71, u72, u73, u74, u75, u76, u77, u78, s79, s80, s81, s82, s83, s84, .bool bb, u86, u87, u88, u89, u90, u91, u92, u93], []⟩ W') :
    Code.wp Tryz.prog (part Tryz.f79 [1, 1, 1, 1, 0, 1, 2, 2, 1, 1, 0, 2, 1, 1, 1, 1, 1, 1, 1, 1, 0, 0]) Q ⟨#[u0, u1, u2, u3, u4, u5, u6, .pointer (some ⟨wk, 0, none⟩), u8, .pointer (some ⟨lb, 0, none⟩), u10, u11, .int .i64 (k : Nat), u13, u14, u15, u16, .pointer (some ⟨q, 0, none⟩), u18, u19, u20, u21, u22, u23, u24, u25, u26, u27, u28, u29, u30, u31, u32, u33, u34, u35, u36, u37, u38, u39, u40, u41, u42, u43, u44, u45, u46, u47, u48, u49, u50, u51, u52, u53, u54, u55, u56, u57, u58, u59, u60, u61, u62, u63, u64, u65, u66, u67, u68, u69, u70, u71, u72, u73, u74, u75, u76, u77, u78, u79, u80, u81, u82, u83, u84, u85, u86, u87, u88, u89, u90, u91, u92, u93], []⟩ W := by
  conv => arg 2; whnf
  have HQ := Lib.hid hQ
  have HC := Lib.hid hc
  have HK := Lib.hid hk
  have k1 : (0 : Int) ≤ (k : Int) := by omega
  have k2 : (k : Int) < 6 := by omega
  have hcl := clr_bit left k hl hk6 hbit
  unfold WB.caps at h0 HK
  clear hQ hc hk
  refine wp_region_noPanic ?_
  refine wp_region_held_drew (S := (fun V : World => V.cell? ⟨wk, 0, none⟩ = some (.func (.func 79) #[] #[.pointer (some ⟨b.dd, 0, none⟩), .pointer (some ⟨b.al, 0, none⟩), .pointer (some ⟨b.dx, 0, none⟩), .pointer (some ⟨b.lx, 0, none⟩), .pointer (some ⟨b.od, 0, none⟩), .pointer (some ⟨b.wk, 0, none⟩)]) ∧ V.cell? ⟨lb, 0, none⟩ = some (.int .i64 (left : Nat)))) (by kernel_rfl) ?_ (fun hHeld0 => ?_)
  · exact h0
  refine wpAnyH_take (i := 0) (v := ?_) rfl (by kernel_rfl) (by kernel_rfl) (by kernel_rfl) (fun _ _ _ h => h) (Or.inl ⟨by rfl, ?_⟩) hHeld0 ?_
  rotate_left
  · (intro w hSw; (try dsimp only at hSw); go_simp <;> with_reducible rfl)
  try simp only [Act.put, List.setIfInBounds_toArray, List.set_cons_zero, List.set_cons_succ]
  refine wpAnyH_take (i := 1) (v := ?_) rfl (by kernel_rfl) (by kernel_rfl) (by kernel_rfl) (fun _ _ _ h => h) (Or.inl ⟨by rfl, ?_⟩) hHeld0 ?_
  rotate_left
  · (intro w hSw; (try dsimp only at hSw); go_simp <;> with_reducible rfl)
  try simp only [Act.put, List.setIfInBounds_toArray, List.set_cons_zero, List.set_cons_succ]
  refine wpAnyH_take (i := 2) (v := ?_) rfl (by kernel_rfl) (by kernel_rfl) (by kernel_rfl) (fun _ _ _ h => h) (Or.inl ⟨by rfl, ?_⟩) hHeld0 ?_
  rotate_left
  · (intro w hSw; (try dsimp only at hSw); go_simp <;> with_reducible rfl)
  try simp only [Act.put, List.setIfInBounds_toArray, List.set_cons_zero, List.set_cons_succ]
  refine wpAnyH_take (i := 3) (v := ?_) rfl (by kernel_rfl) (by kernel_rfl) (by kernel_rfl) (fun _ _ _ h => h) (Or.inl ⟨by rfl, ?_⟩) hHeld0 ?_
  rotate_left
  · (intro w hSw; (try dsimp only at hSw); go_simp <;> with_reducible rfl)
  try simp only [Act.put, List.setIfInBounds_toArray, List.set_cons_zero, List.set_cons_succ]
  refine wpAnyH_take (i := 4) (v := ?_) rfl (by kernel_rfl) (by kernel_rfl) (by kernel_rfl) (fun _ _ _ h => h) (Or.inl ⟨by rfl, ?_⟩) hHeld0 ?_
  rotate_left
  · (intro w hSw; (try dsimp only at hSw); go_simp <;> with_reducible rfl)
  try simp only [Act.put, List.setIfInBounds_toArray, List.set_cons_zero, List.set_cons_succ]
  refine wpAnyH_take (i := 5) (v := ?_) rfl (by kernel_rfl) (by kernel_rfl) (by kernel_rfl) (fun _ _ _ h => h) (Or.inl ⟨by rfl, ?_⟩) hHeld0 ?_
  rotate_left
  · (intro w hSw; (try dsimp only at hSw); go_simp <;> with_reducible rfl)
  try simp only [Act.put, List.setIfInBounds_toArray, List.set_cons_zero, List.set_cons_succ]
  try simp only [Act.put, List.getElem_toArray, List.getElem_cons_succ, List.getElem_cons_zero, List.setIfInBounds_toArray, List.set_cons_zero, List.set_cons_succ]
  refine wpAnyH_ready (rs := [6]) (by kernel_rfl) (by simp) ?_
  refine AllReadyH.cons rfl (fun K hK => ?_) AllReadyH.nil
  go_simp
  try rw [hcl]
  with_reducible refine HC.out.mono ?_
  rintro e w9 ⟨rfl, h9⟩
  refine hK.out _ _ ?_ (fun hHeld1 => ?_)
  · exact HK.out _ h9
  clear hK K hHeld0
  try simp only [Act.put, List.setIfInBounds_toArray, List.set_cons_zero, List.set_cons_succ]
  try simp only [Act.put, List.getElem_toArray, List.getElem_cons_succ, List.getElem_cons_zero, List.setIfInBounds_toArray, List.set_cons_zero, List.set_cons_succ]
  refine wpAnyH_done (by kernel_rfl) ?_ _
  exact NoPanic.normal (HQ.out _ _ _ _ _ _ w9 h9)
end Go.Proofs.YtkgflepgkhnclaaGreatDoor
namespace Go.Proofs.YtkgflepgkhnclaaGreatDoor
open Go.RowKit Go.Shelf
set_option linter.unusedVariables false
set_option linter.unusedSimpArgs false

theorem tabs_p {T : Lib.PrintTabs} {w : World} (h : Tabs T w) : Lib.PrintTabsAt 5 6 7 8 T w := And.left h
theorem tabs_u {T : Lib.PrintTabs} {w : World} (h : Tabs T w) : Lib.Utf8Tabs 3 4 w := And.right h
theorem bytes_app (a b : ByteArray) : (a ++ b).data.toList = a.data.toList ++ b.data.toList := by simp
set_option maxHeartbeats 3200000 in
set_option maxRecDepth 100000 in
theorem tx_quota {w W : World} {l : List UInt8} {g5 kq bq : Nat} {u0 u1 u2 u4 u6 u7 u8 u9 u10 u11 u12 u13 u14 u15 u16 u17 u18 u19 u20 u21 u22 u23 u24 u25 u26 u27 u28 u29 u30 u31 u32 u33 u34 u35 u36 u37 u38 u39 u40 u41 u42 u43 u44 u45 u46 u47 u48 u49 u50 u51 u52 u53 u54 u55 : Value} {Q : Exit → Act → World → Prop} (h : TxAt w l W) (hk : kq < 100) (hb : bq < 100) (hl : l.length ≤ 1000000) {cs : Array Value} (hbl : Blk W g5 75 cs) (hne : g5 ≠ w.heap.size) (c1 : cs[1]? = some (.int .u64 (kq : Nat))) (c2 : cs[2]? = some (.int .u64 (bq : Nat)))
    (hQ : ∀ (s25 s26 s27 s28 s29 s30 s31 s32 s33 s34 s35 s36 : Value) (W' : World), TxAt w (l ++ (Lib.decDigits kq ++ [44] ++ (Lib.decDigits bq ++ [44]))) W' → KeepT w.heap.size W W' → Q .normal ⟨#[u0, u1, u2, .pointer (some ⟨w.heap.size, 0, none⟩), u4, .pointer (some ⟨g5, 0, none⟩), u6, u7, u8, u9, u10, u11, u12, u13, u14, u15, u16, u17, u18, u19, u20, u21, u22, u23, u24, s25, s26, s27, s28, s29, s30, s31, s32, s33, s34, s35, s36, u37, u38, u39, u40, u41, u42, u43, u44, u45, u46, u47, u48, u49, u50, u51, u52, u53, u54, u55], []⟩ W') :
    Code.wp Tryz.prog (part Tryz.f81 [1, 1, 0, 1, 2, 2, 1, 1, 0, 2, 1, 1, 1, 0]) Q ⟨#[u0, u1, u2, .pointer (some ⟨w.heap.size, 0, none⟩), u4, .pointer (some ⟨g5, 0, none⟩), u6, u7, u8, u9, u10, u11, u12, u13, u14, u15, u16, u17, u18, u19, u20, u21, u22, u23, u24, u25, u26, u27, u28, u29, u30, u31, u32, u33, u34, u35, u36, u37, u38, u39, u40, u41, u42, u43, u44, u45, u46, u47, u48, u49, u50, u51, u52, u53, u54, u55], []⟩ W := by
  conv => arg 2; whnf
  have HQ := Lib.hid hQ
  have HK := Lib.hid hk
  have HB := Lib.hid hb
  have HL := Lib.hid hl
  have hdr : Below W.heap.size W W.drew := (Below.refl _ _).drew
  have HT := Lib.hid (h.below hdr)
  have HD := Lib.hid hdr
  have HC : Hid (∀ V : World, Blk V g5 75 cs → V.cell? ⟨g5, 1, none⟩ = some (.int .u64 (kq : Nat)) ∧ V.cell? ⟨g5, 2, none⟩ = some (.int .u64 (bq : Nat))) := Lib.hid (fun V hV => ⟨(hV.cell 1).trans c1, (hV.cell 2).trans c2⟩)
  have H0 : W.drew.cell? ⟨g5, 1, none⟩ = some (.int .u64 (kq : Nat)) ∧ W.drew.cell? ⟨g5, 2, none⟩ = some (.int .u64 (bq : Nat)) := HC.out _ (hbl.below hdr hbl.lt)
  have HBL := Lib.hid (And.intro (hbl.below hdr hbl.lt) hne)
  have d1 := digits_le kq hk
  have d2 := digits_le bq hb
  have hc1 : ¬ 9223372036854775807 < (Lib.decDigits kq).length + 1 := by omega
  have hc2 : ¬ 9223372036854775807 < (Lib.decDigits kq).length + 1 + (Lib.decDigits bq).length := by omega
  have hc3 : ¬ 9223372036854775807 < (Lib.decDigits kq).length + 1 + (Lib.decDigits bq).length + 1 := by omega
  clear hQ hk hb hl h hdr hbl hne c1 c2 d1 d2
  refine wp_region_noPanic ?_
  refine wp_region_held_drew (S := (fun V : World => V.cell? ⟨g5, 1, none⟩ = some (.int .u64 (kq : Nat)) ∧ V.cell? ⟨g5, 2, none⟩ = some (.int .u64 (bq : Nat)))) (by kernel_rfl) ?_ (fun hHeld0 => ?_)
  · exact H0
  refine wpAnyH_take (i := 0) (v := ?_) rfl (by kernel_rfl) (by kernel_rfl) (by kernel_rfl) (fun _ _ _ h => h) (Or.inl ⟨by rfl, ?_⟩) hHeld0 ?_
  rotate_left
  · (intro w hSw; (try dsimp only at hSw); go_simp <;> with_reducible rfl)
  try simp only [Act.put, List.setIfInBounds_toArray, List.set_cons_zero, List.set_cons_succ]
  refine wpAnyH_take (i := 1) (v := ?_) rfl (by kernel_rfl) (by kernel_rfl) (by kernel_rfl) (fun _ _ _ h => h) (Or.inl ⟨by rfl, ?_⟩) hHeld0 ?_
  rotate_left
  · (intro w hSw; (try dsimp only at hSw); go_simp <;> with_reducible rfl)
  try simp only [Act.put, List.setIfInBounds_toArray, List.set_cons_zero, List.set_cons_succ]
  refine wpAnyH_take (i := 2) (v := ?_) rfl (by kernel_rfl) (by kernel_rfl) (by kernel_rfl) (fun _ _ _ h => h) (Or.inl ⟨by rfl, ?_⟩) hHeld0 ?_
  rotate_left
  · (intro w hSw; (try dsimp only at hSw); go_simp <;> with_reducible rfl)
  try simp only [Act.put, List.setIfInBounds_toArray, List.set_cons_zero, List.set_cons_succ]
  refine wpAnyH_take (i := 5) (v := ?_) rfl (by kernel_rfl) (by kernel_rfl) (by kernel_rfl) (fun _ _ _ h => h) (Or.inl ⟨by rfl, ?_⟩) hHeld0 ?_
  rotate_left
  · (intro w hSw; (try dsimp only at hSw); go_simp <;> with_reducible rfl)
  try simp only [Act.put, List.setIfInBounds_toArray, List.set_cons_zero, List.set_cons_succ]
  refine wpAnyH_take (i := 6) (v := ?_) rfl (by kernel_rfl) (by kernel_rfl) (by kernel_rfl) (fun _ _ _ h => h) (Or.inl ⟨by rfl, ?_⟩) hHeld0 ?_
  rotate_left
  · (intro w hSw; (try dsimp only at hSw); go_simp <;> with_reducible rfl)
  try simp only [Act.put, List.setIfInBounds_toArray, List.set_cons_zero, List.set_cons_succ]
  refine wpAnyH_take (i := 7) (v := ?_) rfl (by kernel_rfl) (by kernel_rfl) (by kernel_rfl) (fun _ _ _ h => h) (Or.inl ⟨by rfl, ?_⟩) hHeld0 ?_
  rotate_left
  · (intro w hSw; (try dsimp only at hSw); go_simp <;> with_reducible rfl)
  try simp only [Act.put, List.setIfInBounds_toArray, List.set_cons_zero, List.set_cons_succ]
  try simp only [Act.put, List.getElem_toArray, List.getElem_cons_succ, List.getElem_cons_zero, List.setIfInBounds_toArray, List.set_cons_zero, List.set_cons_succ]
  refine wpAnyH_ready (rs := [3]) (by kernel_rfl) (by simp) ?_
  refine AllReadyH.cons rfl (fun K hK => ?_) AllReadyH.nil
  go_simp
  with_reducible refine (formatUint_s kq HK.out _).mono ?_
  rintro e wkq ⟨rfl, rfl⟩
  refine hK.out _ _ ?_ (fun hHeld1 => ?_)
  · exact H0
  clear hK K hHeld0
  try simp only [Act.put, List.setIfInBounds_toArray, List.set_cons_zero, List.set_cons_succ]
  refine wpAnyH_take (i := 4) (v := ?_) rfl (by kernel_rfl) (by kernel_rfl) (by kernel_rfl) (fun _ _ _ h => h) (Or.inl ⟨by rfl, ?_⟩) hHeld1 ?_
  rotate_left
  · (intro w hSw; (try dsimp only at hSw); go_simp <;> with_reducible rfl)
  try simp only [Act.put, List.setIfInBounds_toArray, List.set_cons_zero, List.set_cons_succ]
  try simp only [Act.put, List.getElem_toArray, List.getElem_cons_succ, List.getElem_cons_zero, List.setIfInBounds_toArray, List.set_cons_zero, List.set_cons_succ]
  refine wpAnyH_ready (rs := [8]) (by kernel_rfl) (by simp) ?_
  refine AllReadyH.cons rfl (fun K hK => ?_) AllReadyH.nil
  go_simp
  with_reducible refine (formatUint_s bq HB.out _).mono ?_
  rintro e wbq ⟨rfl, rfl⟩
  refine hK.out _ _ ?_ (fun hHeld2 => ?_)
  · exact H0
  clear hK K hHeld1
  try simp only [Act.put, List.setIfInBounds_toArray, List.set_cons_zero, List.set_cons_succ]
  refine wpAnyH_take (i := 9) (v := ?_) rfl (by kernel_rfl) (by kernel_rfl) (by kernel_rfl) (fun _ _ _ h => h) (Or.inl ⟨by rfl, ?_⟩) hHeld2 ?_
  rotate_left
  · (intro w hSw; (try dsimp only at hSw); go_simp <;> with_reducible rfl)
  try simp only [Act.put, List.setIfInBounds_toArray, List.set_cons_zero, List.set_cons_succ]
  refine wpAnyH_take (i := 10) (v := ?_) rfl (by kernel_rfl) (by kernel_rfl) (by kernel_rfl) (fun _ _ _ h => h) (Or.inl ⟨by rfl, ?_⟩) hHeld2 ?_
  rotate_left
  · (intro w hSw; (try dsimp only at hSw); go_simp <;> with_reducible rfl)
  try simp only [Act.put, List.setIfInBounds_toArray, List.set_cons_zero, List.set_cons_succ]
  try simp only [Act.put, List.getElem_toArray, List.getElem_cons_succ, List.getElem_cons_zero, List.setIfInBounds_toArray, List.set_cons_zero, List.set_cons_succ]
  refine wpAnyH_ready (rs := [11]) (by kernel_rfl) (by simp) ?_
  refine AllReadyH.cons rfl (fun K hK => ?_) AllReadyH.nil
  go_simp
  with_reducible refine (tx_write HT.out _ ?_).mono ?_
  · simp only [ByteArray.size_append]
    have d1 := digits_le kq HK.out
    have d2 := digits_le bq HB.out
    have e1 : (⟨(Lib.decDigits kq).toArray⟩ : ByteArray).size = (Lib.decDigits kq).length := rfl
    have e2 : (⟨(Lib.decDigits bq).toArray⟩ : ByteArray).size = (Lib.decDigits bq).length := rfl
    have e3 : (⟨#[44]⟩ : ByteArray).size = 1 := rfl
    have := HL.out
    omega
  rintro e w9 ⟨rfl, h9, k9⟩
  refine hK.out _ _ ?_ (fun hHeld3 => ?_)
  · exact HC.out _ (k9.blk HBL.out.1 HBL.out.2 (by decide))
  clear hK K hHeld2
  try simp only [Act.put, List.setIfInBounds_toArray, List.set_cons_zero, List.set_cons_succ]
  try simp only [Act.put, List.getElem_toArray, List.getElem_cons_succ, List.getElem_cons_zero, List.setIfInBounds_toArray, List.set_cons_zero, List.set_cons_succ]
  refine wpAnyH_done (by kernel_rfl) ?_ _
  have e4 : (⟨(Lib.decDigits kq).toArray⟩ ++ ⟨#[44]⟩ ++ ⟨(Lib.decDigits bq).toArray⟩ ++ ⟨#[44]⟩ : ByteArray).data.toList = Lib.decDigits kq ++ [44] ++ (Lib.decDigits bq ++ [44]) := by simp [bytes_app]
  rw [e4] at h9
  exact NoPanic.normal (HQ.out _ _ _ _ _ _ _ _ _ _ _ _ w9 h9 ((KeepT.of_below HD.out).trans k9))
set_option maxHeartbeats 3200000 in
set_option maxRecDepth 100000 in
theorem tx_pair {w W : World} {l : List UInt8} {g7 : Nat} {p : Kv} {T : Lib.PrintTabs} {u0 u1 u2 u4 u5 u6 u8 u9 u10 u11 u12 u13 u14 u15 u16 u17 u18 u19 u20 u21 u22 u23 u24 u25 u26 u27 u28 u29 u30 u31 u32 u33 u34 u35 u36 u37 u38 u39 u40 u41 u42 u43 u44 u45 u46 u47 u48 u49 u50 u51 u52 u53 u54 u55 : Value} {Q : Exit → Act → World → Prop} (h : TxAt w l W) (ht : Tabs T W) (hs : p.1.size ≤ 16 ∧ p.2.size ≤ 32) (hl : l.length ≤ 1000000) (hbl : Blk W g7 57 #[.string p.1, .string p.2]) (hne : g7 ≠ w.heap.size)
    (hQ : ∀ (s45 s46 s47 s48 s49 s50 s51 s52 : Value) (W' : World), TxAt w (l ++ pairX T p) W' → KeepT w.heap.size W W' → Q .normal ⟨#[u0, u1, u2, .pointer (some ⟨w.heap.size, 0, none⟩), u4, u5, u6, .pointer (some ⟨g7, 0, none⟩), u8, u9, u10, u11, u12, u13, u14, u15, u16, u17, u18, u19, u20, u21, u22, u23, u24, u25, u26, u27, u28, u29, u30, u31, u32, u33, u34, u35, u36, u37, u38, u39, u40, u41, u42, u43, u44, s45, s46, s47, s48, s49, s50, s51, s52, u53, u54, u55], []⟩ W') :
    Code.wp Tryz.prog (part Tryz.f81 [1, 1, 0, 1, 2, 2, 1, 1, 0, 2, 1, 1, 1, 1, 1, 2, 2, 1, 1, 0, 2, 1]) Q ⟨#[u0, u1, u2, .pointer (some ⟨w.heap.size, 0, none⟩), u4, u5, u6, .pointer (some ⟨g7, 0, none⟩), u8, u9, u10, u11, u12, u13, u14, u15, u16, u17, u18, u19, u20, u21, u22, u23, u24, u25, u26, u27, u28, u29, u30, u31, u32, u33, u34, u35, u36, u37, u38, u39, u40, u41, u42, u43, u44, u45, u46, u47, u48, u49, u50, u51, u52, u53, u54, u55], []⟩ W := by
  conv => arg 2; whnf
  have HQ := Lib.hid hQ
  have HS := Lib.hid hs
  have HL := Lib.hid hl
  have HT := Lib.hid h
  have HTB := Lib.hid ht
  have HD := Lib.hid ((Below.refl W.heap.size W).drew)
  have HC : Hid (∀ V : World, Blk V g7 57 #[.string p.1, .string p.2] → V.cell? ⟨g7, 0, none⟩ = some (.string p.1) ∧ V.cell? ⟨g7, 1, none⟩ = some (.string p.2)) := Lib.hid (fun V hV => ⟨hV.cell 0, hV.cell 1⟩)
  have H0 : W.drew.cell? ⟨g7, 0, none⟩ = some (.string p.1) ∧ W.drew.cell? ⟨g7, 1, none⟩ = some (.string p.2) := HC.out _ (hbl.below HD.out hbl.lt)
  have HBL := Lib.hid (And.intro hbl hne)
  have d1 := quote_size T p.1
  have d2 := quote_size T p.2
  have hc1 : ¬ 9223372036854775807 < (strOfNums (Lib.quoteZ T p.fst)).size + (strOfNums (Lib.quoteZ T p.snd)).size := by omega
  clear hQ hs hl h ht hbl hne d1 d2
  refine wp_region_noPanic ?_
  refine wp_region_held_drew (S := (fun V : World => V.cell? ⟨g7, 0, none⟩ = some (.string p.1) ∧ V.cell? ⟨g7, 1, none⟩ = some (.string p.2))) (by kernel_rfl) ?_ (fun hHeld0 => ?_)
  · exact H0
  refine wpAnyH_take (i := 0) (v := ?_) rfl (by kernel_rfl) (by kernel_rfl) (by kernel_rfl) (fun _ _ _ h => h) (Or.inl ⟨by rfl, ?_⟩) hHeld0 ?_
  rotate_left
  · (intro w hSw; (try dsimp only at hSw); go_simp <;> with_reducible rfl)
  try simp only [Act.put, List.setIfInBounds_toArray, List.set_cons_zero, List.set_cons_succ]
  refine wpAnyH_take (i := 1) (v := ?_) rfl (by kernel_rfl) (by kernel_rfl) (by kernel_rfl) (fun _ _ _ h => h) (Or.inl ⟨by rfl, ?_⟩) hHeld0 ?_
  rotate_left
  · (intro w hSw; (try dsimp only at hSw); go_simp <;> with_reducible rfl)
  try simp only [Act.put, List.setIfInBounds_toArray, List.set_cons_zero, List.set_cons_succ]
  refine wpAnyH_take (i := 3) (v := ?_) rfl (by kernel_rfl) (by kernel_rfl) (by kernel_rfl) (fun _ _ _ h => h) (Or.inl ⟨by rfl, ?_⟩) hHeld0 ?_
  rotate_left
  · (intro w hSw; (try dsimp only at hSw); go_simp <;> with_reducible rfl)
  try simp only [Act.put, List.setIfInBounds_toArray, List.set_cons_zero, List.set_cons_succ]
  refine wpAnyH_take (i := 4) (v := ?_) rfl (by kernel_rfl) (by kernel_rfl) (by kernel_rfl) (fun _ _ _ h => h) (Or.inl ⟨by rfl, ?_⟩) hHeld0 ?_
  rotate_left
  · (intro w hSw; (try dsimp only at hSw); go_simp <;> with_reducible rfl)
  try simp only [Act.put, List.setIfInBounds_toArray, List.set_cons_zero, List.set_cons_succ]
  try simp only [Act.put, List.getElem_toArray, List.getElem_cons_succ, List.getElem_cons_zero, List.setIfInBounds_toArray, List.set_cons_zero, List.set_cons_succ]
  refine wpAnyH_ready (rs := [2]) (by kernel_rfl) (by simp) ?_
  refine AllReadyH.cons rfl (fun K hK => ?_) AllReadyH.nil
  go_simp
  with_reducible refine (lib_Quote T p.1 _ (by have := HS.out; omega) (tabs_p (HTB.out.below HD.out)) (tabs_u (HTB.out.below HD.out))).mono ?_
  rintro e w1 ⟨rfl, b1⟩
  have hb1 := below_trans HD.out b1
  refine hK.out _ _ ?_ (fun hHeld1 => ?_)
  · exact HC.out _ (HBL.out.1.below hb1 HBL.out.1.lt)
  clear hK K hHeld0
  try simp only [Act.put, List.setIfInBounds_toArray, List.set_cons_zero, List.set_cons_succ]
  try simp only [Act.put, List.getElem_toArray, List.getElem_cons_succ, List.getElem_cons_zero, List.setIfInBounds_toArray, List.set_cons_zero, List.set_cons_succ]
  refine wpAnyH_ready (rs := [5]) (by kernel_rfl) (by simp) ?_
  refine AllReadyH.cons rfl (fun K hK => ?_) AllReadyH.nil
  go_simp
  with_reducible refine (lib_Quote T p.2 _ (by have := HS.out; omega) (tabs_p (HTB.out.below hb1)) (tabs_u (HTB.out.below hb1))).mono ?_
  rintro e w2 ⟨rfl, b2⟩
  have hb2 := below_trans hb1 b2
  refine hK.out _ _ ?_ (fun hHeld2 => ?_)
  · exact HC.out _ (HBL.out.1.below hb2 HBL.out.1.lt)
  clear hK K hHeld1
  try simp only [Act.put, List.setIfInBounds_toArray, List.set_cons_zero, List.set_cons_succ]
  refine wpAnyH_take (i := 6) (v := ?_) rfl (by kernel_rfl) (by kernel_rfl) (by kernel_rfl) (fun _ _ _ h => h) (Or.inl ⟨by rfl, ?_⟩) hHeld2 ?_
  rotate_left
  · (intro w hSw; (try dsimp only at hSw); go_simp <;> with_reducible rfl)
  try simp only [Act.put, List.setIfInBounds_toArray, List.set_cons_zero, List.set_cons_succ]
  try simp only [Act.put, List.getElem_toArray, List.getElem_cons_succ, List.getElem_cons_zero, List.setIfInBounds_toArray, List.set_cons_zero, List.set_cons_succ]
  refine wpAnyH_ready (rs := [7]) (by kernel_rfl) (by simp) ?_
  refine AllReadyH.cons rfl (fun K hK => ?_) AllReadyH.nil
  go_simp
  with_reducible refine (tx_write (HT.out.below hb2) _ ?_).mono ?_
  · simp only [ByteArray.size_append]
    have d1 := quote_size T p.1
    have d2 := quote_size T p.2
    have := HS.out
    have := HL.out
    omega
  rintro e w9 ⟨rfl, h9, k9⟩
  refine hK.out _ _ ?_ (fun hHeld3 => ?_)
  · exact HC.out _ (k9.blk (HBL.out.1.below hb2 HBL.out.1.lt) HBL.out.2 (by decide))
  clear hK K hHeld2
  try simp only [Act.put, List.setIfInBounds_toArray, List.set_cons_zero, List.set_cons_succ]
  try simp only [Act.put, List.getElem_toArray, List.getElem_cons_succ, List.getElem_cons_zero, List.setIfInBounds_toArray, List.set_cons_zero, List.set_cons_succ]
  refine wpAnyH_done (by kernel_rfl) ?_ _
  have e4 : l ++ pairX T p = l ++ (strOfNums (Lib.quoteZ T p.1) ++ strOfNums (Lib.quoteZ T p.2)).data.toList := by unfold pairX; rw [bytes_app]
  rw [← e4] at h9
  exact NoPanic.normal (HQ.out _ _ _ _ _ _ _ _ w9 h9 ((KeepT.of_below hb2).trans k9))
end Go.Proofs.YtkgflepgkhnclaaGreatDoor
namespace Go.Proofs.YtkgflepgkhnclaaGreatDoor
open Go.RowKit Go.Shelf
set_option linter.unusedVariables false
set_option linter.unusedSimpArgs false
attribute [local go_sem] run_store_complex

theorem tenX_none {T : Lib.PrintTabs} {M : Mdl} {k : Nat} (h : (M k).bk = none) : (List.range (k + 1)).flatMap (tenX T M) = (List.range k).flatMap (tenX T M) ++ (Lib.decDigits (M k).gen.toNat ++ [59]) := by
  rw [List.range_succ, List.flatMap_append, List.flatMap_singleton]
  congr 1
  unfold tenX
  rw [h]
  simp
theorem tenX_some {T : Lib.PrintTabs} {M : Mdl} {k : Nat} {B : Bk} (h : (M k).bk = some B) : (List.range (k + 1)).flatMap (tenX T M) = (List.range k).flatMap (tenX T M) ++ (Lib.decDigits (M k).gen.toNat ++ [59]) ++ (quoX M k) ++ ((pairsN M k).take (pairsN M k).length).flatMap (pairX T) := by
  rw [List.range_succ, List.flatMap_append, List.flatMap_singleton, List.take_length]
  simp only [List.append_assoc]
  congr 1
  unfold tenX
  rw [h]
  simp
theorem take_flat {α β : Type} {f : α → List β} {l : List α} {k : Nat} (hk : k < l.length) : (l.take (k + 1)).flatMap f = (l.take k).flatMap f ++ f l[k] := by
  rw [List.take_succ_eq_append_getElem hk, List.flatMap_append, List.flatMap_singleton]
set_option maxHeartbeats 12800000 in
set_option maxRecDepth 100000 in
theorem text_m {w : World} {p : Nat} {M : Mdl} {O : Ows} {T : Lib.PrintTabs} (hm : ModelAt w p M O) (hs : TxSmall M) (ht : Tabs T w) : Calls Tryz.prog 81 #[.pointer (some ⟨p, 0, none⟩)] w (TextEnd T M w) := by
  have HM := Lib.hid hm
  have HS := Lib.hid hs
  have HTB := Lib.hid ht
  have hokk := hm.ok
  have HOK := Lib.hid hokk
  have HR : Hid (∀ W : World, Below w.heap.size w W → W.rangeAt p 1 (mrow M O)) := Lib.hid (fun W hb j v hj => by
    rw [(hm.below hb).blk.cell, List.getElem?_toArray, show 1 + j = j + 1 by omega]
    unfold mcells
    rw [List.getElem?_cons_succ]
    exact hj)
  clear hm hs ht
  go_enter Tryz.func81, Tryz.ntmps81
  refine wp_seq_k fun K0 hK => ?_
  have HK0 := Lib.hid hK
  clear hK
  go_wp2_with fail
  refine HK0.out _ _ ?_
  clear HK0
  refine wp_seq_k fun K0 hK => ?_
  have HK0 := Lib.hid hK
  clear hK
  go_wp2_with fail
  refine HK0.out _ _ ?_
  clear HK0
  have H1 := Lib.hid (tx_new w)
  try simp only [Act.put]
  try dsimp only at H1 ⊢
  generalize w.alloc (.cells #[.pointer none, .slice none 0 0] 209) = w1 at H1 ⊢
  refine wp_seq_k fun K0 hK => ?_
  have HK0 := Lib.hid hK
  clear hK
  refine wp_seq_k fun K1 hK => ?_
  have HK1 := Lib.hid hK
  clear hK
  go_wp2_with (refine wpList_load_mid rfl 76 (.tmp 10) rfl p 1 rfl _ _ (HR.out _ H1.out.1) Tryz.underlying76 rfl (by rw [mrow_len HOK.out]; exact infoAll) ?_)
  refine HK1.out _ _ ?_
  clear HK1
  go_wp2_with fail
  go_loopw [12] (fun i wr => ∃ (k : Nat), k ≤ 17 ∧ i = .int .i64 (k : Nat) ∧ Hid (TxAt w ((List.range k).flatMap (tenX T M)) wr)) (fun i _ => 17 - (intOf i).toNat)
  case atStart => exact ⟨0, by omega, rfl, H1⟩
  case round =>
    obtain ⟨k, hk, rfl, hw⟩ := hrel
    by_cases hlt : k < 17
    · have i1 : (0 : Int) ≤ (k : Int) := by omega
      have i2 : (k : Int) < 17 := by omega
      refine wp_seq_k fun K2 hK => ?_
      have HK2 := Lib.hid hK
      clear hK
      go_wp2_with fail
      refine HK2.out _ _ ?_
      clear HK2
      refine wp_seq_k fun K2 hK => ?_
      have HK2 := Lib.hid hK
      clear hK
      go_wp2_with fail
      refine HK2.out _ _ ?_
      clear HK2
      refine wp_seq_k fun K2 hK => ?_
      have HK2 := Lib.hid hK
      clear hK
      refine wp_block ?_
      refine wp_seq_k fun K3 hK => ?_
      have HK3 := Lib.hid hK
      clear hK
      go_wp2_with (first
        | (refine wpList_index_agg rfl 76 (.tmp 11) (.tmp 12) rfl 75 17 (mrow M O).toArray k 15 rfl rfl Tryz.underlying76 hlt Tryz.isAgg75 Tryz.sizeOf75 ?_; rw [mrow_at hokk hlt])
        | (refine wpList_store_mid rfl 75 (.tmp 5) (.tmp 15) rfl wr.heap.size 0 ((M k).cells (O k)).toArray rfl rfl (there_blk (Blk.new wr 75 _) (by rw [List.size_toArray, Ten.cells_len (hokk k)]; exact Nat.le_refl 15)) (by rw [List.size_toArray, Ten.cells_len (hokk k)]; exact infoTen) (by rw [List.all_toArray, List.all_eq_true]; exact Ten.cells_one (hokk k)) ?_))
      have hst := stored_new (w := wr) (t := 75) (lit := #[.int .u32 0, .int .u64 0, .int .u64 0, .pointer none, .int .u64 0, .int .u64 0, .int .u64 0, .int .u64 0, .int .u64 0, .int .u64 0, .int .u64 0, .int .u64 0, .int .u64 0, .int .u64 0, .complex .f64 0 0]) (cells := ((M k).cells (O k)).toArray) (by rw [show ((M k).cells (O k)).toArray.size = 15 by simp [Ten.cells_len (hokk k)]]; rfl)
      have hw2 := hw.out.below hst.2
      have hbe := hst.1
      have hne : wr.heap.size ≠ w.heap.size := by have := hw.out.lt; omega
      clear hst
      try dsimp only at hbe hw2 ⊢
      refine HK3.out _ _ ?_
      clear HK3
      try simp only [Act.put]
      generalize (wr.alloc (.cells #[.int .u32 0, .int .u64 0, .int .u64 0, .pointer none, .int .u64 0, .int .u64 0, .int .u64 0, .int .u64 0, .int .u64 0, .int .u64 0, .int .u64 0, .int .u64 0, .int .u64 0, .int .u64 0, .complex .f64 0 0] 75)).setCells wr.heap.size 0 ((M k).cells (O k)) = W2 at hw2 hbe ⊢
      generalize wr.heap.size = g5 at hbe hne ⊢
      have HW2 := Lib.hid hw2
      have HB := Lib.hid hbe
      have HNE := Lib.hid hne
      obtain ⟨gn, hgn⟩ : ∃ gn : Nat, (M k).gen = (gn : Int) := ⟨(M k).gen.toNat, by have := HS.out.gen k; omega⟩
      have hgl : gn < 100 := by have := HS.out.gen k; omega
      have htn : (M k).gen.toNat = gn := by omega
      have c5 := hbe.cell 0
      rw [List.getElem?_toArray, show ((M k).cells (O k))[0]? = some (.int .u32 (M k).gen) from rfl, hgn] at c5
      have hwr : IntKind.i64.wrap (gn : Int) = (gn : Int) := IntWalk.i64_in _ (by omega)
      have HGL := Lib.hid (And.intro hgl htn)
      have hcat : ¬ 9223372036854775807 < (Lib.decDigits gn).length + 1 := by have := digits_le gn hgl; omega
      clear hw2 hbe hne hgn hgl htn
      refine wp_seq_k fun K3 hK => ?_
      have HK3 := Lib.hid hK
      clear hK
      go_wp2_with fail
      refine (lib_Itoa_small gn HGL.out.1 _).mono ?_
      rintro e w4 ⟨rfl, rfl⟩
      go_wp2_with fail
      refine (tx_write HW2.out _ ?_).mono ?_
      · have d1 := digits_le gn HGL.out.1
        have d2 := texts_len (T := T) HS.out k hk
        have e1 : (⟨(Lib.decDigits gn).toArray⟩ : ByteArray).size = (Lib.decDigits gn).length := rfl
        have e3 : (⟨#[59]⟩ : ByteArray).size = 1 := rfl
        rw [ByteArray.size_append]
        omega
      rintro e w5 ⟨rfl, h5, k5⟩
      have e4 : (⟨(Lib.decDigits gn).toArray⟩ ++ ⟨#[59]⟩ : ByteArray).data.toList = Lib.decDigits (M k).gen.toNat ++ [59] := by rw [HGL.out.2, bytes_app]
      rw [e4] at h5
      go_wp2_with fail
      refine HK3.out _ _ ?_
      clear HK3 c5 hwr e4
      try simp only [Act.put]
      have hb5 := k5.blk HB.out HNE.out (by decide)
      have c5 := hb5.cell 3
      rw [List.getElem?_toArray, show ((M k).cells (O k))[3]? = some ((M k).ptr (O k)) from rfl] at c5
      unfold Ten.ptr at c5
      have H5 := Lib.hid h5
      have HB5 := Lib.hid hb5
      clear h5 k5 hb5 HW2 HB HGL
      cases hB : (M k).bk with
      | none =>
        rw [hB] at c5
        simp only [Option.map_none] at c5
        have hx := tenX_none (T := T) hB
        have HX := Lib.hid hx
        clear hx
        go_wp2_with fail
        refine HK2.out _ _ ?_
        clear HK2
        go_wp2_with fail
        go_roundw
        case rel => exact ⟨k + 1, by omega, by go_num, Lib.hid (by rw [HX.out]; exact H5.out)⟩
        case measure => simp [intOf]; omega
      | some B =>
        rw [hB] at c5
        simp only [Option.map_some] at c5
        have hx := tenX_some (T := T) hB
        have HX := Lib.hid hx
        clear hx
        refine wp_seq_k fun K3 hK => ?_
        have HK3 := Lib.hid hK
        clear hK
        go_wp2_with fail
        refine HK3.out _ _ ?_
        clear HK3 c5
        refine wp_seq_k fun K3 hK => ?_
        have HK3 := Lib.hid hK
        clear hK
        have d2 := texts_len (T := T) HS.out k hk
        have hql := quoX_len HS.out k
        have hgq := digits_le (M k).gen.toNat (by have := HS.out.gen k; omega)
        refine tx_quota (kq := (M k).qk.toNat) (bq := (M k).qb.toNat) H5.out (by have := HS.out.qk k; omega) (by have := HS.out.qb k; omega) (by simp only [List.length_append, List.length_cons, List.length_nil]; omega) HB5.out HNE.out ?_ ?_ ?_
        · rw [List.getElem?_toArray, show ((M k).cells (O k))[1]? = some (.int .u64 (M k).qk) from rfl, Int.toNat_of_nonneg (HS.out.qk k).1]
        · rw [List.getElem?_toArray, show ((M k).cells (O k))[2]? = some (.int .u64 (M k).qb) from rfl, Int.toNat_of_nonneg (HS.out.qb k).1]
        intro s25 s26 s27 s28 s29 s30 s31 s32 s33 s34 s35 s36 w6 h6 k6
        have H6 : Hid (TxAt w ((List.range k).flatMap (tenX T M) ++ (Lib.decDigits (M k).gen.toNat ++ [59]) ++ quoX M k) w6) := Lib.hid h6
        clear h6 k6 H5 HB5
        try dsimp only [Exit.inBlock, Exit.then]
        refine HK3.out _ _ ?_
        clear HK3
        refine wp_seq_k fun K3 hK => ?_
        have HK3 := Lib.hid hK
        clear hK
        go_wp2_with fail
        refine (Pairs_m (HM.out.below H6.out.1) (k : Int) HS.out.small).mono ?_
        rintro e w7 ⟨A, c, rfl, hown, hb7⟩
        have H7 := Lib.hid (And.intro (H6.out.below hb7) hown)
        have hL := (HS.out.pairs k).1
        have hln : ((List.range k).flatMap (tenX T M) ++ (Lib.decDigits (M k).gen.toNat ++ [59]) ++ quoX M k).length ≤ 500000 := by
          simp only [List.length_append, List.length_cons, List.length_nil]; omega
        clear hown hb7 H6
        go_wp2_with fail
        refine HK3.out _ _ ?_
        clear HK3
        generalize w6.heap.size = bs at H7
        have HLN := Lib.hid hln
        clear hln d2 hql hgq
        go_wp2_with fail
        go_loopw [41] (fun i wx => ∃ (j : Nat), j ≤ (pairsN M k).length ∧ i = .int .i64 (j : Nat) ∧ Hid (TxAt w ((List.range k).flatMap (tenX T M) ++ (Lib.decDigits (M k).gen.toNat ++ [59]) ++ quoX M k ++ ((pairsN M k).take j).flatMap (pairX T)) wx ∧ wx.ownsRow bs 57 2 (.slice A (pairsN M k).length c) (pairsN M k).length ((pairsN M k).flatMap pairR))) (fun i _ => (pairsN M k).length - (intOf i).toNat)
        case atStart => exact ⟨0, by omega, rfl, Lib.hid ⟨by simpa using H7.out.1, H7.out.2⟩⟩
        case round =>
          obtain ⟨j, hj, rfl, hwx⟩ := hrel
          by_cases hjl : j < (pairsN M k).length
          · obtain ⟨ad, rfl, hab, hc⟩ := row_cells pairR_one (Reads.of_own hwx.out.2) rfl hjl
            have htk := take_flat (f := pairX T) hjl
            have hsz := (HS.out.pairs k).2 _ (List.getElem_mem hjl)
            generalize (pairsN M k)[j] = x at hc htk hsz
            have q0 : wr.cell? (ad.add (j * 2)) = some (.string x.1) := by have := hc 0 _ rfl; rwa [add_of_add] at this
            have q1 : wr.cell? ⟨(ad.add (j * 2)).block, (ad.add (j * 2)).off + 1, none⟩ = some (.string x.2) := hc 1 _ rfl
            have j1 : (0 : Int) ≤ (j : Int) := by omega
            have j2 : (j : Int) < ((pairsN M k).length : Int) := by omega
            have hlj := pairs_take_len (T := T) HS.out k j
            have HTK := Lib.hid htk
            have HSZ := Lib.hid (And.intro hsz hlj)
            have hne7 : wr.heap.size ≠ w.heap.size := by have := hwx.out.1.lt; omega
            have HN7 := Lib.hid hne7
            clear hc htk hsz hlj hne7
            refine wp_seq_k fun K4 hK => ?_
            have HK4 := Lib.hid hK
            clear hK
            go_wp2_with fail
            refine HK4.out _ _ ?_
            clear HK4
            refine wp_seq_k fun K4 hK => ?_
            have HK4 := Lib.hid hK
            clear hK
            go_wp2_with fail
            refine HK4.out _ _ ?_
            clear HK4
            refine wp_seq_k fun K4 hK => ?_
            have HK4 := Lib.hid hK
            clear hK
            refine wp_block ?_
            refine wp_seq_k fun K5 hK => ?_
            have HK5 := Lib.hid hK
            clear hK
            go_wp2_with fail
            refine HK5.out _ _ ?_
            clear HK5
            try simp only [Act.put]
            have hb8 := below_box wr (.cells #[.string x.1, .string x.2] 57)
            obtain ⟨pp, vv, hbb⟩ := builder_blk (hwx.out.1.below hb8).2
            refine tx_pair (p := x) (T := T) (hwx.out.1.below hb8) (HTB.out.below (hwx.out.1.below hb8).1) HSZ.out.1 (by rw [List.length_append]; have := HLN.out; have := HSZ.out.2; omega) (Blk.new wr _ _) HN7.out ?_
            intro s45 s46 s47 s48 s49 s50 s51 s52 w9 h9 k9
            have h10 := k9.own (own_same hwx.out.2 (fun g hg => hb8.block g (own_at hwx.out.2 hg).2.1)) hbb (by decide) (by decide)
            rw [List.append_assoc, ← HTK.out] at h9
            have H9 := Lib.hid (And.intro h9 h10)
            clear h9 k9 h10 hb8 hbb
            try dsimp only [Exit.inBlock, Exit.then]
            refine HK4.out _ _ ?_
            clear HK4
            go_wp2_with fail
            go_roundw
            case rel => exact ⟨j + 1, by omega, by go_num, H9⟩
            case measure => simp [intOf]; omega
          · obtain rfl : j = (pairsN M k).length := by omega
            have H8 := Lib.hid hwx.out.1
            clear hwx
            go_wp2_with fail
            refine HK2.out _ _ ?_
            clear HK2
            go_wp2_with fail
            go_roundw
            case rel => exact ⟨k + 1, by omega, by go_num, Lib.hid (by rw [HX.out]; exact H8.out)⟩
            case measure => simp [intOf]; omega
    · obtain rfl : k = 17 := by omega
      have hw0 : TxAt w (textN T M) wr := hw.out
      have HW := Lib.hid hw0
      clear hw hw0
      obtain ⟨tx, htx⟩ : ∃ tx, textN T M = tx := ⟨_, rfl⟩
      rw [htx] at HW
      have HTX := Lib.hid htx
      clear htx
      go_wp2_with fail
      refine HK0.out _ _ ?_
      go_wp2_with fail
      refine (lib_String _ _ _ _ HW.out.2 HW.out.1.size).mono ?_
      rintro e w3 ⟨rfl, hb3⟩
      have H3 := Lib.hid (show Below w.heap.size w w3 from ⟨hb3.os.trans HW.out.1.os, hb3.tape.trans HW.out.1.tape, hb3.output.trans HW.out.1.output, Nat.le_trans HW.out.1.size hb3.size, fun i hi => by rw [hb3.block i hi, HW.out.1.block i hi]⟩)
      clear hb3
      go_wp2_with fail
      go_ret
      refine ⟨?_, H3.out⟩
      rw [HTX.out]
      rfl
end Go.Proofs.YtkgflepgkhnclaaGreatDoor
