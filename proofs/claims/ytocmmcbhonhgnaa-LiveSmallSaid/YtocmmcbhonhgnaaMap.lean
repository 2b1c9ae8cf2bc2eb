/-
  Maps with integer keys that the code makes and asks: inserts of new keys, lookups. Over any program.
-/
import Derived.Test.YtocmmcbhonhgnaaBase
import Derived.Carry
import Derived.MapKept
import Derived.ChangeMaps5
namespace Go.Proofs.Ytocmmcbhonhgnaa
open Go.RowKit Go.MapKept Go.ChangeMaps
set_option linter.unusedVariables false

/-- Block b is a map with these keys and values, in the order in which they came. -/
def IntMap (kd : IntKind) (w : World) (b : Nat) (kvs : List (Int × Value)) : Prop :=
  ∃ es clock, w.heap[b]? = some (.map es clock) ∧ es.toList.map (fun e => (e.key, e.val)) = kvs.map (fun p => (Value.int kd p.1, p.2))

/-- What a map holds for a key; z if there is nothing. -/
def look (z : Value) (n : Int) : List (Int × Value) → Value
  | [] => z
  | p :: r => if p.1 = n then p.2 else look z n r
def hasKey (n : Int) (kvs : List (Int × Value)) : Bool := kvs.any (fun p => p.1 == n)

theorem findNow_int {kd q : IntKind} {n : Int} : ∀ (l : List MapEntry) (kvs : List (Int × Value)) (i : Nat), l.map (fun e => (e.key, e.val)) = kvs.map (fun p => (Value.int kd p.1, p.2)) →
    ∃ r, Instr.findNow (.int q) (.int kd n) l i = some r ∧ (hasKey n kvs = false → r = none) ∧ (hasKey n kvs = true → ∃ j, ∀ z, r = some (j, look z n kvs))
  | [], [], i, _ => ⟨none, rfl, fun _ => rfl, fun h => by cases h⟩
  | [], _ :: _, _, h => by simp at h
  | _ :: _, [], _, h => by simp at h
  | e :: l, p :: kvs, i, h => by
    simp only [List.map_cons, List.cons.injEq, Prod.mk.injEq] at h
    obtain ⟨⟨hk, hv⟩, hr⟩ := h
    obtain ⟨r, h1, h2, h3⟩ := findNow_int (q := q) (n := n) l kvs (i + 1) hr
    by_cases hp : p.1 = n
    · refine ⟨some (i, e.val), ?_, fun h => ?_, fun _ => ⟨i, fun z => ?_⟩⟩
      · simp [Instr.findNow, hk, Instr.sameNow, hp]
      · simp [hasKey, hp] at h
      · rw [look, if_pos hp, hv]
    · refine ⟨r, ?_, fun h => h2 ?_, fun h => ?_⟩
      · have : (n == p.1) = false := by simp; exact fun h => hp h.symm
        simp [Instr.findNow, hk, Instr.sameNow, this, h1]
      · simp only [hasKey, List.any_cons, Bool.or_eq_false_iff] at h
        exact h.2
      · obtain ⟨j, hj⟩ := h3 (by simpa [hasKey, hp] using h)
        exact ⟨j, fun z => by rw [look, if_neg hp]; exact hj z⟩

section
variable {P : Program} {w : World}

theorem run_lookup_intmap {kd q : IntKind} {b : Nat} {kvs : List (Int × Value)} {t k e : TypeId} {z : Value} {n : Int} (h : IntMap kd w b kvs) (ht : P.underlying t = some (.map k e)) (hk : P.underlying k = some (.int q)) (hq : q = kd)
    (hz : (zeroValue e).run P w = .ok z w) (ok : Bool) :
    (Instr.lookup t (.map (some b)) (.int kd n) ok).run P w = .ok (if ok then .tuple #[look z n kvs, .bool (hasKey n kvs)] else look z n kvs) w := by
  obtain ⟨es, clock, hb, he⟩ := h
  subst hq
  obtain ⟨r, h1, h2, h3⟩ := findNow_int (q := q) (n := n) es.toList kvs 0 he
  have hl : ∀ z, hasKey n kvs = false → look z n kvs = z := by
    intro z hn
    clear h2 h3 h1 he
    induction kvs with
    | nil => rfl
    | cons p r ih =>
      simp only [hasKey, List.any_cons, Bool.or_eq_false_iff, beq_eq_false_iff_ne] at hn
      rw [look, if_neg hn.1]
      exact ih hn.2
  have hkey : IsKey (.int q) (.int q n) := by simp [IsKey]
  have hfk := run_findKey (P := P) (w := w) hk h1
  have hck := run_checkKey (P := P) (w := w) hk hkey es.isEmpty 9999
  unfold Instr.lookup
  simp only [Sem.run_bind, run_underlying ht, Result.andThen, Go.MapKept.run_getObj_map hb, Sem.run_pure, hck, hfk]
  cases hn : hasKey n kvs with
  | false =>
    rw [h2 hn]
    simp only [Sem.run_bind, hz, Result.andThen, Sem.run_pure, hl z hn]
    first | done | (cases ok <;> rfl)
  | true =>
    obtain ⟨j, hj⟩ := h3 hn
    rw [hj z]
    cases ok <;> rfl

/-- An insert of a new key. -/
theorem insert_intmap {kd q : IntKind} {b : Nat} {kvs : List (Int × Value)} {t k e : TypeId} {n : Int} {v : Value} (h : IntMap kd w b kvs) (ht : P.underlying t = some (.map k e)) (hk : P.underlying k = some (.int q)) (hq : q = kd)
    (hn : hasKey n kvs = false) : ∃ w', (Instr.mapUpdate t (.map (some b)) (.int kd n) v).run P w = .ok () w' ∧ IntMap kd w' b (kvs ++ [(n, v)]) ∧ w.grownBy w' (some b) := by
  obtain ⟨es, clock, hb, he⟩ := h
  subst hq
  obtain ⟨r, h1, h2, _⟩ := findNow_int (q := q) (n := n) es.toList kvs 0 he
  obtain rfl := h2 hn
  have hkey : IsKey (.int q) (.int q n) := by simp [IsKey]
  have hfk := run_findKey (P := P) (w := w) hk h1
  have hck := run_checkKey (P := P) (w := w) hk hkey false 9999
  refine ⟨setBlock w b (.map (es.push { key := .int q n, val := v, born := clock }) (clock + 1)), ?_, ⟨_, _, heap_setBlock_same hb _, ?_⟩,
    ⟨rfl, rfl, rfl, by simp [setBlock], fun i _ hi => heap_setBlock_other hb _ (fun e => hi (by rw [e]))⟩⟩
  · unfold Instr.mapUpdate
    simp only [Sem.run_bind, run_underlying ht, Result.andThen, Go.MapKept.run_getObj_map hb, hck, hfk, Go.MapKept.run_setObj_map _ hb]
    rfl
  · simp [he]

theorem wpList_insert_intmap {ops : Array Oper} {rest : List Oper} {o : Oper} {a : Act} {Q : Exit → Act → World → Prop} (hg : o.guard = none) (m x v : Operand) (t : TypeId) (hop : o.op = Op.insert t m x v)
    (k e : TypeId) (kd q : IntKind) (ht : P.underlying t = some (.map k e)) (hk : P.underlying k = some (.int q)) (hq : q = kd) (b : Nat) (kvs : List (Int × Value)) (hm : a.eval m = .map (some b)) (h : IntMap kd w b kvs)
    (n : Int) (hx : a.eval x = .int kd n) (hn : hasKey n kvs = false) (val : Value) (hv : a.eval v = val)
    (hK : ∀ w', IntMap kd w' b (kvs ++ [(n, val)]) → w.grownBy w' (some b) → wpList P ops Q rest (a.put o.dst undef) w') : wpList P ops Q (o :: rest) a w := by
  refine wpList_plain hg fun K' hK' => ?_
  obtain ⟨w', hrun, r1, r2⟩ := insert_intmap (P := P) (v := val) h ht hk hq hn
  unfold Oper.wp
  simp [execOp, hop, hm, hx, hv, hrun, Result.andThen]
  exact hK' _ _ (hK w' r1 r2)

/-- The same, as an arm for all inserts of a map's literal. -/
theorem wpList_insert_lit {ops : Array Oper} {rest : List Oper} {o : Oper} {a : Act} {Q : Exit → Act → World → Prop} (W0 : World) (B : Nat) (hg : o.guard = none) (m x v : Operand) (t : TypeId) (hop : o.op = Op.insert t m x v)
    (k e : TypeId) (kd q : IntKind) (ht : P.underlying t = some (.map k e)) (hk : P.underlying k = some (.int q)) (hq : q = kd) (b : Nat) (kvs : List (Int × Value)) (hm : a.eval m = .map (some b)) (h : IntMap kd w b kvs) (hbel : Below B W0 w) (hB : B ≤ b)
    (n : Int) (hx : a.eval x = .int kd n) (hn : hasKey n kvs = false) (val : Value) (hv : a.eval v = val)
    (hK : ∀ w', IntMap kd w' b (kvs ++ [(n, val)]) → Below B W0 w' → wpList P ops Q rest (a.put o.dst undef) w') : wpList P ops Q (o :: rest) a w :=
  wpList_insert_intmap hg m x v t hop k e kd q ht hk hq b kvs hm h n hx hn val hv fun w' h1 h2 => hK w' h1 (hbel.trans ⟨h2.os, h2.tape, h2.output, h2.size, fun i hi => by
    rcases Nat.lt_or_ge i w.heap.size with h3 | h3
    · exact h2.block i h3 (fun e => by injection e with e; omega)
    · obtain ⟨_, _, hb, _⟩ := h
      have := (Array.getElem?_eq_some_iff.1 hb).1
      omega⟩)

theorem IntMap.made (kd : IntKind) (w : World) : IntMap kd (w.alloc (.map #[] 0)) w.heap.size [] := ⟨#[], 0, heap_alloc_new w _, rfl⟩
theorem IntMap.lt {kd : IntKind} {b : Nat} {kvs : List (Int × Value)} (h : IntMap kd w b kvs) : b < w.heap.size := by
  obtain ⟨es, clock, hb, _⟩ := h
  exact (Array.getElem?_eq_some_iff.1 hb).1
theorem IntMap.drewN {kd : IntKind} {b : Nat} {kvs : List (Int × Value)} (h : IntMap kd w b kvs) (n : Nat) : IntMap kd (w.drewN n) b kvs := h
theorem IntMap.drew {kd : IntKind} {b : Nat} {kvs : List (Int × Value)} (h : IntMap kd w b kvs) : IntMap kd w.drew b kvs := h
theorem IntMap.below {kd : IntKind} {b B : Nat} {kvs : List (Int × Value)} {w' : World} (h : IntMap kd w b kvs) (hb : Below B w w') (hB : b < B) : IntMap kd w' b kvs := by
  obtain ⟨es, clock, h1, h2⟩ := h
  exact ⟨es, clock, by rw [hb.block b hB]; exact h1, h2⟩
end

end Go.Proofs.Ytocmmcbhonhgnaa
