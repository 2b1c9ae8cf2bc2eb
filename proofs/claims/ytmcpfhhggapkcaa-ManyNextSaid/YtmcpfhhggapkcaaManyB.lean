/-
  Layer 8: the iterator over the bytes that have a kid, as a contract of the kit's form.
-/
import Derived.Test.YtmcpfhhggapkcaaManyR
import Derived.Test.YtmcpfhhggapkcaaFewC1
namespace Go.Proofs.Ytmcpfhhggapkcaa
open Go.RowKit Go.Shelf
set_option linter.unusedVariables false
set_option linter.unusedSimpArgs false
attribute [local go_sem] Oper.semAt_some

/-- A round keeps whatever cells lay in the blocks that B says. -/
structure KeepsC (B : Nat → Prop) (W W' : World) : Prop where
  size : W.heap.size ≤ W'.heap.size
  same : ∀ (k : Nat) (o : Obj), B k → W.heap[k]? = some o → o.isCells = true → W'.heap[k]? = some o
theorem KeepsC.refl (B : Nat → Prop) (W : World) : KeepsC B W W := ⟨Nat.le_refl _, fun _ _ _ h _ => h⟩
theorem KeepsC.trans {B : Nat → Prop} {W1 W2 W3 : World} (h : KeepsC B W1 W2) (k : KeepsC B W2 W3) : KeepsC B W1 W3 := ⟨Nat.le_trans h.size k.size, fun i o hi h1 h2 => k.same i o hi (h.same i o hi h1 h2) h2⟩
theorem KeepsC.book {B : Nat → Prop} (W : World) (l : Nat) (o o' : Obj) (h : W.heap[l]? = some o) (hc : o.isCells = false) : KeepsC B W (W.putObj l o') :=
  ⟨by simp, fun k o2 hk h2 hc2 => by
    by_cases e : k = l
    · subst e; rw [h] at h2; injection h2 with h2; subst h2; rw [hc] at hc2; cases hc2
    · exact (World.putObj_heap_other e).trans h2⟩
theorem KeepsC.blk {B : Nat → Prop} {W W' : World} (h : KeepsC B W W') {g : Nat} {t : TypeId} {cs : Array Value} (hb : Blk W g t cs) (hg : B g) : Blk W' g t cs := h.same g _ hg hb rfl
theorem KeepsC.of_below {B : Nat → Prop} {W W' : World} (h : Below W.heap.size W W') : KeepsC B W W' := ⟨h.size, fun k o _ h1 _ => (h.block k (Array.getElem?_eq_some_iff.1 h1).1).trans h1⟩
theorem KeepsC.setCell {B : Nat → Prop} (W : World) (a : Addr) (v : Value) (h : ¬ B a.block) : KeepsC B W (W.setCell a v) := ⟨by simp [World.setCell], fun k o hk h1 _ => (Below.heap_setCell W a v k (fun e => h (e ▸ hk))).trans h1⟩
theorem KeepsC.many {B : Nat → Prop} {W W' : World} (h : KeepsC B W W') {g gr room : Nat} {f : Kids} (hm : ReadAt W g gr room f) (h1 : B g) (h2 : B gr) : ReadAt W' g gr room f :=
  hm.keep fun k t cs hk hb => h.blk hb (by rcases hk with rfl | rfl <;> assumption)

/-- A byte that has a kid. -/
abbrev KidB (f : Kids) := { b : Fin 256 // (f b.val).isSome = true }
abbrev encB {f : Kids} (x : KidB f) : Array Value := #[.int .i64 (x.1.val : Int)]
/-- Those from m on, below k. -/
def bytesLo (f : Kids) (m : Nat) : Nat → List (KidB f)
  | 0 => []
  | k + 1 => bytesLo f m k ++ (if h : k < 256 ∧ m ≤ k ∧ (f k).isSome = true then [⟨⟨k, h.1⟩, h.2.2⟩] else [])
def bytesF (f : Kids) (m : Nat) : List (KidB f) := bytesLo f m 256
theorem bytesLo_start (f : Kids) (m : Nat) : ∀ k, k ≤ m → bytesLo f m k = []
  | 0, _ => rfl
  | k + 1, h => by
    unfold bytesLo
    rw [bytesLo_start f m k (by omega), dif_neg (by omega)]
    rfl
theorem bytesLo_yes (f : Kids) (m : Nat) {k : Nat} (hm : m ≤ k) (hk : k < 256) (h : (f k).isSome = true) : bytesLo f m (k + 1) = bytesLo f m k ++ [⟨⟨k, hk⟩, h⟩] := by
  conv => lhs; unfold bytesLo
  rw [dif_pos ⟨hk, hm, h⟩]
theorem bytesLo_no (f : Kids) (m : Nat) {k : Nat} (h : (f k).isSome = false) : bytesLo f m (k + 1) = bytesLo f m k := by
  conv => lhs; unfold bytesLo
  rw [dif_neg (by rw [h]; simp), List.append_nil]
theorem bytesLo_prefix_n (f : Kids) (m k : Nat) : ∀ d, bytesLo f m k <+: bytesLo f m (k + d)
  | 0 => List.prefix_refl _
  | d + 1 => by
    have h1 := bytesLo_prefix_n f m k d
    show _ <+: bytesLo f m ((k + d) + 1)
    conv => rhs; unfold bytesLo
    exact h1.trans (List.prefix_append _ _)
theorem bytesLo_prefix (f : Kids) (m : Nat) {k : Nat} (hk : k ≤ 256) : bytesLo f m k <+: bytesF f m := by
  have := bytesLo_prefix_n f m k (256 - k)
  rwa [show k + (256 - k) = 256 by omega] at this
theorem bytesLo_len (f : Kids) (m : Nat) : ∀ k, (bytesLo f m k).length ≤ k
  | 0 => Nat.le_refl _
  | k + 1 => by
    unfold bytesLo
    rw [List.length_append]
    have := bytesLo_len f m k
    split <;> simp <;> omega
theorem bytesF_len (f : Kids) : (bytesF f 0).length = cntK f := by
  have h : ∀ k, k ≤ 256 → (bytesLo f 0 k).length = (lowK f k).length := by
    intro k
    induction k with
    | zero => intro _; rfl
    | succ k ih =>
      intro hk
      rw [low_succ, ← ih (by omega)]
      cases hs : (f k).isSome with
      | true => rw [bytesLo_yes f 0 (by omega) (by omega) hs]; simp
      | false => rw [bytesLo_no f 0 hs]; simp
  exact (h 256 (Nat.le_refl _)).trans (low_all f)

set_option maxHeartbeats 3200000 in
set_option maxRecDepth 100000 in
theorem bytes_stops (Bf Bi g gr room n : Nat) (B : Nat → Prop) (from_ : Int) (f : Kids) (w : World) (hB : B Bf ∧ B Bi ∧ B g ∧ B gr) (hn : 2 ≤ n) (hf : Blk w Bf 3 #[.int .i64 from_]) (hi : Blk w Bi 82 #[.func (.func 44) #[.pointer (some ⟨g, 0, none⟩)] #[]]) (hm : ReadAt w g gr room f) :
    SeqStopsK Fence.wide n Try.prog 59 #[.pointer (some ⟨Bf, 0, none⟩), .pointer (some ⟨Bi, 0, none⟩)] encB (KeepsC B) (fun ys => ys = bytesF f (max from_ 0).toNat) (fun pre => pre <+: bytesF f (max from_ 0).toNat) 256 w := fun l J Jx W hW hJ hJx hY h0 => by
  have H0 := Lib.hid (And.intro (hf.below hW hf.lt) (And.intro (hi.below hW hi.lt) (hm.below hW)))
  have HJ := Lib.hid (And.intro hJ (And.intro hJx (And.intro hY h0)))
  have e0 := (hf.below hW hf.lt).cell 0
  simp at e0
  clear hJ hJx hY h0 hf hi hm
  obtain ⟨m, hm⟩ : ∃ m : Nat, (m : Int) = max from_ 0 := ⟨(max from_ 0).toNat, by omega⟩
  have hmt : (max from_ 0).toNat = m := by omega
  rw [hmt]
  refine callsIn_of_wp Try.func59 rfl trivial ?_ rfl
  simp only [Try.ntmps59, List.size_toArray, List.length_cons, List.length_nil, Nat.reduceAdd, Nat.reduceSub, Array.replicate_succ, Array.replicate_zero, List.push_toArray, List.append_toArray, List.nil_append, List.cons_append]
  refine wpIn_wide.2 ?_
  have hcase : (from_ < 0 ∧ m = 0) ∨ (0 ≤ from_ ∧ from_ = (m : Int)) := by omega
  clear hm hmt
  rcases hcase with ⟨hneg, hm0⟩ | ⟨hpos, hfm⟩
  · have HM0 := Lib.hid hm0
    clear hm0
    go_wp2_with fail
    refine (wpIn_wide (n := n)).1 ?_
    gi_loopw [4] (fun i wr => ∃ k : Nat, m ≤ k ∧ i = .int .i64 k ∧ Hid (J (bytesLo f m (min k 256)) wr ∧ KeepsC B W wr)) (fun i _ => 256 - (intOf i).toNat)
    case atStart => exact ⟨0, by (have := HM0.out; omega), rfl, Lib.hid ⟨by rw [show 0 = m by (have := HM0.out; omega)]; rw [bytesLo_start f m _ (by omega)]; exact HJ.out.2.2.2, KeepsC.refl _ _⟩⟩
    case round =>
      obtain ⟨k, hmk, rfl, HW⟩ := hrel
      by_cases hlt : k < 256
      · have hmin : min k 256 = k := by omega
        rw [hmin] at HW
        have e1 : wr.cell? ⟨Bi, 0, none⟩ = some (.func (.func 44) #[.pointer (some ⟨g, 0, none⟩)] #[]) := (HW.out.2.blk H0.out.2.1 hB.2.1).cell 0
        have hmw := HW.out.2.many H0.out.2.2 hB.2.2.1 hB.2.2.2
        have i1 : (0 : Int) ≤ (k : Int) := by omega
        have i2 : (k : Int) < 256 := by omega
        have hn1 : 1 ≤ n := by omega
        have hHS := (callsIn_wide (n := n - 1)).2 (has_r hmw hlt)
        cases hs : (f k).isSome with
        | false =>
          rw [hs] at hHS
          have HN := Lib.hid (show J (bytesLo f m (min (k + 1) 256)) wr by rw [show min (k + 1) 256 = k + 1 by omega, bytesLo_no f m hs]; exact HW.out.1)
          have HHS := Lib.hid hHS
          clear hHS hs hmw
          gi_wp2_with (fail)
          refine ⟨trivial, ?_⟩
          refine HHS.out.mono ?_
          rintro e w2 ⟨rfl, rfl⟩
          gi_wp2
          refine ⟨fun _ hf => by (cases hf), ?_⟩
          gi_wp2
          go_roundw
          case rel => exact ⟨k + 1, by omega, by go_num, Lib.hid ⟨HN.out, HW.out.2⟩⟩
          case measure => simp [intOf]; omega
        | true =>
          have hlen : (bytesLo f m k).length < 256 := Nat.lt_of_le_of_lt (bytesLo_len f m k) hlt
          have hsucc := bytesLo_yes f m hmk hlt hs
          rw [hs] at hHS
          have hpre := bytesLo_prefix f m (k := k + 1) (by omega)
          rw [hsucc] at hpre
          have HPRE := Lib.hid hpre
          have HSUC : Hid (bytesLo f m (min (k + 1) 256) = bytesLo f m k ++ [⟨⟨k, hlt⟩, hs⟩]) := Lib.hid (by rw [show min (k + 1) 256 = k + 1 by omega, hsucc])
          have HHS := Lib.hid hHS
          have hYd : YieldAt Fence.wide (n - 1) Try.prog l (encB ⟨⟨k, hlt⟩, hs⟩) wr (fun e W' => ∃ b : Bool, e = .returned (.bool b) ∧ Hid ((b = true → J (bytesLo f m k ++ [⟨⟨k, hlt⟩, hs⟩]) W' ∧ KeepsC B wr W') ∧ (b = false → Jx (bytesLo f m k ++ [⟨⟨k, hlt⟩, hs⟩]) W'))) :=
            (HJ.out.2.2.1 _ ⟨⟨k, hlt⟩, hs⟩ wr HW.out.1 hlen).mono (fun e W' h => by
              rcases h with ⟨rfl, h1, h2⟩ | ⟨rfl, h1⟩
              · exact ⟨true, rfl, Lib.hid ⟨fun _ => ⟨h1, h2⟩, fun e => by cases e⟩⟩
              · exact ⟨false, rfl, Lib.hid ⟨fun e => by (cases e), fun _ => h1⟩⟩)
          obtain ⟨fn, tmps, assign, body, hy, hR⟩ := hYd
          dsimp only [encB] at hy
          clear hHS hsucc hmw hpre hlen
          gi_wp2_with (fail)
          refine ⟨trivial, ?_⟩
          refine HHS.out.mono ?_
          rintro e w2 ⟨rfl, rfl⟩
          gi_wp2_with (fail)
          refine hR.mono ?_
          rintro e W3 ⟨bb, rfl, hP⟩
          cases bb with
          | true =>
            obtain ⟨hJ3, hk3⟩ := hP.out.1 rfl
            have HN := Lib.hid (And.intro (show J (bytesLo f m (min (k + 1) 256)) W3 by rw [HSUC.out]; exact hJ3) (HW.out.2.trans hk3))
            clear hJ3 hk3 hP hR hy
            gi_wp2
            go_roundw
            case rel => exact ⟨k + 1, by omega, by go_num, HN⟩
            case measure => simp [intOf]; omega
          | false =>
            have hx3 := hP.out.2 rfl
            have HN := Lib.hid hx3
            clear hx3 hP hR hy
            gi_wp2
            refine bodyPost_ret (results_none rfl _ _ _) rfl ?_
            exact ⟨⟨_, rfl⟩, .inr ⟨_, HPRE.out, HN.out⟩⟩
      · have hfin := HW.out.1
        rw [Nat.min_eq_right (by omega)] at hfin
        change J (bytesF f m) wr at hfin
        have HF := Lib.hid hfin
        have i2 : ¬ ((k : Int) < 256) := by omega
        clear hfin
        gi_wp2
        go_end0
        exact ⟨⟨_, rfl⟩, .inl HF.out⟩
  · subst hfm
    go_wp2_with fail
    refine (wpIn_wide (n := n)).1 ?_
    gi_loopw [4] (fun i wr => ∃ k : Nat, m ≤ k ∧ i = .int .i64 k ∧ Hid (J (bytesLo f m (min k 256)) wr ∧ KeepsC B W wr)) (fun i _ => 256 - (intOf i).toNat)
    case atStart => exact ⟨m, by omega, rfl, Lib.hid ⟨by rw [show m = m by omega]; rw [bytesLo_start f m _ (by omega)]; exact HJ.out.2.2.2, KeepsC.refl _ _⟩⟩
    case round =>
      obtain ⟨k, hmk, rfl, HW⟩ := hrel
      by_cases hlt : k < 256
      · have hmin : min k 256 = k := by omega
        rw [hmin] at HW
        have e1 : wr.cell? ⟨Bi, 0, none⟩ = some (.func (.func 44) #[.pointer (some ⟨g, 0, none⟩)] #[]) := (HW.out.2.blk H0.out.2.1 hB.2.1).cell 0
        have hmw := HW.out.2.many H0.out.2.2 hB.2.2.1 hB.2.2.2
        have i1 : (0 : Int) ≤ (k : Int) := by omega
        have i2 : (k : Int) < 256 := by omega
        have hn1 : 1 ≤ n := by omega
        have hHS := (callsIn_wide (n := n - 1)).2 (has_r hmw hlt)
        cases hs : (f k).isSome with
        | false =>
          rw [hs] at hHS
          have HN := Lib.hid (show J (bytesLo f m (min (k + 1) 256)) wr by rw [show min (k + 1) 256 = k + 1 by omega, bytesLo_no f m hs]; exact HW.out.1)
          have HHS := Lib.hid hHS
          clear hHS hs hmw
          gi_wp2_with (fail)
          refine ⟨trivial, ?_⟩
          refine HHS.out.mono ?_
          rintro e w2 ⟨rfl, rfl⟩
          gi_wp2
          refine ⟨fun _ hf => by (cases hf), ?_⟩
          gi_wp2
          go_roundw
          case rel => exact ⟨k + 1, by omega, by go_num, Lib.hid ⟨HN.out, HW.out.2⟩⟩
          case measure => simp [intOf]; omega
        | true =>
          have hlen : (bytesLo f m k).length < 256 := Nat.lt_of_le_of_lt (bytesLo_len f m k) hlt
          have hsucc := bytesLo_yes f m hmk hlt hs
          rw [hs] at hHS
          have hpre := bytesLo_prefix f m (k := k + 1) (by omega)
          rw [hsucc] at hpre
          have HPRE := Lib.hid hpre
          have HSUC : Hid (bytesLo f m (min (k + 1) 256) = bytesLo f m k ++ [⟨⟨k, hlt⟩, hs⟩]) := Lib.hid (by rw [show min (k + 1) 256 = k + 1 by omega, hsucc])
          have HHS := Lib.hid hHS
          have hYd : YieldAt Fence.wide (n - 1) Try.prog l (encB ⟨⟨k, hlt⟩, hs⟩) wr (fun e W' => ∃ b : Bool, e = .returned (.bool b) ∧ Hid ((b = true → J (bytesLo f m k ++ [⟨⟨k, hlt⟩, hs⟩]) W' ∧ KeepsC B wr W') ∧ (b = false → Jx (bytesLo f m k ++ [⟨⟨k, hlt⟩, hs⟩]) W'))) :=
            (HJ.out.2.2.1 _ ⟨⟨k, hlt⟩, hs⟩ wr HW.out.1 hlen).mono (fun e W' h => by
              rcases h with ⟨rfl, h1, h2⟩ | ⟨rfl, h1⟩
              · exact ⟨true, rfl, Lib.hid ⟨fun _ => ⟨h1, h2⟩, fun e => by cases e⟩⟩
              · exact ⟨false, rfl, Lib.hid ⟨fun e => by (cases e), fun _ => h1⟩⟩)
          obtain ⟨fn, tmps, assign, body, hy, hR⟩ := hYd
          dsimp only [encB] at hy
          clear hHS hsucc hmw hpre hlen
          gi_wp2_with (fail)
          refine ⟨trivial, ?_⟩
          refine HHS.out.mono ?_
          rintro e w2 ⟨rfl, rfl⟩
          gi_wp2_with (fail)
          refine hR.mono ?_
          rintro e W3 ⟨bb, rfl, hP⟩
          cases bb with
          | true =>
            obtain ⟨hJ3, hk3⟩ := hP.out.1 rfl
            have HN := Lib.hid (And.intro (show J (bytesLo f m (min (k + 1) 256)) W3 by rw [HSUC.out]; exact hJ3) (HW.out.2.trans hk3))
            clear hJ3 hk3 hP hR hy
            gi_wp2
            go_roundw
            case rel => exact ⟨k + 1, by omega, by go_num, HN⟩
            case measure => simp [intOf]; omega
          | false =>
            have hx3 := hP.out.2 rfl
            have HN := Lib.hid hx3
            clear hx3 hP hR hy
            gi_wp2
            refine bodyPost_ret (results_none rfl _ _ _) rfl ?_
            exact ⟨⟨_, rfl⟩, .inr ⟨_, HPRE.out, HN.out⟩⟩
      · have hfin := HW.out.1
        rw [Nat.min_eq_right (by omega)] at hfin
        change J (bytesF f m) wr at hfin
        have HF := Lib.hid hfin
        have i2 : ¬ ((k : Int) < 256) := by omega
        clear hfin
        gi_wp2
        go_end0
        exact ⟨⟨_, rfl⟩, .inl HF.out⟩
/-- bytes's value: a closure over two boxes. -/
theorem bytes_any (from_ : Int) (fv : Value) (hfv : ∃ a b c, fv = .func a b c) (w : World) : Calls Try.prog 43 #[.int .i64 from_, fv] w fun e w' => e = .returned (.func (.func 59) #[] #[.pointer (some ⟨w.heap.size, 0, none⟩), .pointer (some ⟨w.heap.size + 1, 0, none⟩)]) ∧ w' = (w.alloc (.cells #[.int .i64 from_] 3)).alloc (.cells #[fv] 82) := by
  obtain ⟨a, b, c, rfl⟩ := hfv
  go_enter Try.func43, Try.ntmps43
  go_wp2
  go_ret
  exact ⟨rfl, rfl⟩
end Go.Proofs.Ytmcpfhhggapkcaa
