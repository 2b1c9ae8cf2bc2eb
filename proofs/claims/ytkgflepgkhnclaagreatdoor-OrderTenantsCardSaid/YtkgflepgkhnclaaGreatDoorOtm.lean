/-
  Layer 27: order: a search's closure.
  Layer 27: awake: the example's entries and Dones; models whose text is short.
  Layer 27: order: Search.
  Layer 27: slices.Equal at equal rows of ints.
  Layer 27: awake: the chapter's example.
  Layer 27: awake.
  Layer 27: awake, whole.
  Layer 27: the ten tables of the library, as the card lays them.
  Layer 27: a slice of codes that came in.
  OrderTenants: for every input the call returns true, and what was there stays as it was. The card ties what the package variable holds to the program's text. No other condition.
-/
import Derived.Test.YtkgflepgkhnclaaGreatDoorOtl
import Derived.Test.YtkgflepgkhnclaaGreatDoorOtk
import Derived.Test.YtkgflepgkhnclaaGreatDoorOte
import Derived.Lib.PrintData
import Derived.Lib.LaidIn
import Derived.Lib.LaidSlice
import Derived.Lib.LaidPrint
import Derived.LaidMore
import Derived.ProofKit
import Derived.OpenShut
import Derived.Stop.Joined
import Derived.Test.YtkgflepgkhnclaaGreatDoorOth
import Derived.Test.YtkgflepgkhnclaaGreatDoorCards
import Derived.Test.YtkgflepgkhnclaaGreatDoorTie
import Derived.SevenTiedAt
namespace Go.Proofs.YtkgflepgkhnclaaGreatDoor
open Go.RowKit Go.Shelf
set_option linter.unusedVariables false
set_option linter.unusedSimpArgs false
attribute [local go_sem] run_store_complex

/-- What the closure comes to. -/
def WalkEnd (w : World) (X : Sx) (b : WB) (vl vd va vo : Value) (ord : List Nat) (r : Option (List Nat) × Kvs) (W : World) (e : Ending) (W' : World) : Prop :=
  e = .returned (.bool r.1.isSome) ∧ ∃ vo', WkAt w X b vl vd va vo' (r.1.getD ord) r.2 W' ∧ KeepC (WkC b vo) W W' ∧ OwnNew W vo vo'
/-- What holds between two rounds. -/
structure LpAt (w : World) (X : Sx) (b : WB) (vl vd va : Value) (W : World) (vo0 : Value) (p : Nat) (M : Mdl) (O : Ows) (left lb : Nat) (vo : Value) (ord : List Nat) (dead : Kvs) (wr : World) : Prop where
  wk : WkAt w X b vl vd va vo ord dead wr
  mdl : ModelAt wr p M O
  dm : ¬ mown p M O b.dm
  lbk : Blk wr lb 3 #[.int .i64 (left : Nat)]
  vlb : vo.ownBlock ≠ some lb
  glb : W.heap.size ≤ lb
  keep : KeepC (WkC b vo0) W wr
  new : OwnNew W vo0 vo
section
variable {w W wr wr' : World} {X : Sx} {b : WB} {vl vd va vo0 vo vo' : Value} {p left lb : Nat} {M : Mdl} {O : Ows} {ord ord' : List Nat} {dead dead' : Kvs}
theorem LpAt.turn (h : LpAt w X b vl vd va W vo0 p M O left lb vo ord dead wr) (hw : WkAt w X b vl vd va vo' ord' dead' wr') (k : KeepC (WkC b vo) wr wr') (hn : OwnNew wr vo vo') : LpAt w X b vl vd va W vo0 p M O left lb vo' ord' dead' wr' where
  wk := hw
  mdl := h.wk.model h.mdl h.dm k
  dm := h.dm
  lbk := k.blk h.lbk (by
    rintro (e | e | e)
    · exact blk_ne h.lbk h.wk.od (by decide) e
    · exact map_no_blk h.lbk (e ▸ h.wk.dm)
    · exact h.vlb e)
  vlb := fun e => h.vlb (hn.old h.lbk.lt e)
  glb := h.glb
  keep := WkC.trans h.keep h.new k
  new := h.new.trans hn h.keep.size
theorem LpAt.below (h : LpAt w X b vl vd va W vo0 p M O left lb vo ord dead wr) (hb : Below wr.heap.size wr wr') : LpAt w X b vl vd va W vo0 p M O left lb vo ord dead wr' :=
  h.turn (h.wk.below hb) (.of_below hb) (.refl _ _)
theorem LpAt.done (h : LpAt w X b vl vd va W vo0 p M O left lb vo ord dead wr) {r : Option (List Nat) × Kvs} {ord0 : List Nat} (h1 : r.1.getD ord0 = ord) (h2 : r.2 = dead) : WalkEnd w X b vl vd va vo0 ord0 r W (.returned (.bool r.1.isSome)) wr :=
  ⟨rfl, vo, by rw [h1, h2]; exact h.wk, h.keep, h.new⟩
end
theorem loop_step {X : Sx} {go : Mdl → Nat → List Nat → Kvs → Option (List Nat) × Kvs} {M : Mdl} {left n k : Nat} {ord : List Nat} {dead : Kvs} (hk : k < n) : X.loop go M left ord ((List.range n).drop k) dead =
    match (if X.ok left k then X.step M (X.at_ k) else none) with
    | none => X.loop go M left ord ((List.range n).drop (k + 1)) dead
    | some M' => match (go M' (left - 2 ^ k) (ord ++ [X.at_ k]) dead).1 with
      | some o => (some o, (go M' (left - 2 ^ k) (ord ++ [X.at_ k]) dead).2)
      | none => X.loop go M left ord ((List.range n).drop (k + 1)) (go M' (left - 2 ^ k) (ord ++ [X.at_ k]) dead).2 := by
  rw [List.drop_eq_getElem_cons (by simpa using hk), List.getElem_range]
  rfl
theorem own_slice {W : World} {base n : Nat} {e : TypeId} {v : Value} {xs : List Value} (h : W.ownsRow base e 1 v n xs) (hn : 0 < n) : ∃ g c, v = .slice (some ⟨g, 0, none⟩) n c ∧ g < W.heap.size ∧ ∀ j u, xs[j]? = some u → W.cell? ⟨g, j, none⟩ = some u := by
  obtain ⟨A, c, rfl, _⟩ := own_form h
  obtain ⟨ad, rfl, h1, h2⟩ := (Reads.of_own h).2 hn
  obtain ⟨g, cap, hv, _, hlt⟩ := h.form hn
  injection hv with hv
  injection hv with hv
  subst hv
  refine ⟨g, c, rfl, hlt, fun j u hu => ?_⟩
  have := h2 j u hu
  rwa [show (⟨g, 0, none⟩ : Addr).add j = ⟨g, j, none⟩ by
    unfold Addr.add
    by_cases hj : j = 0
    · simp [hj]
    · simp [hj]] at this
theorem row_at {α : Type} {f : α → List Value} {m : Nat} (hf : ∀ x, (f x).length = m) {w : World} {g o : Nat} {l : List α} (h : w.rangeAt g o (l.flatMap f)) {k j : Nat} {u : Value} (hk : k < l.length) (hj : (f l[k])[j]? = some u) : w.cell? ⟨g, o + k * m + j, none⟩ = some u := by
  have hjm : j < m := by
    have := (List.getElem?_eq_some_iff.1 hj).1
    rwa [hf] at this
  rw [Nat.add_assoc]
  exact h _ _ (by rw [flat_at hf l k j hk hjm]; exact hj)
def StepR (bb : Bool) (q : Nat) (M' : Mdl) (W W' : World) : Prop := (bb = false → Below W.heap.size W W') ∧ (bb = true → ∃ T', ModelAt W' q M' T' ∧ (∀ i, mown q M' T' i → i = q ∨ W.heap.size ≤ i) ∧ KeepC (fun i => i = q) W W')
theorem sx_step {w W : World} {X : Sx} {ge oe gd od W1 : Nat} (hX : SxAt w X ge oe gd od W1) (hb : Below w.heap.size w W) {q : Nat} {M : Mdl} {O : Ows} (hm : ModelAt W q M O) (hsm : Small M) {i j : Nat} (hi : i < X.ds.length) (hj : j < X.es.length) :
    Calls Tryz.prog 49 #[.pointer (some ⟨q, 0, none⟩), X.es[j].r.v, .agg X.ds[i].ans.toArray, .bool false] W (fun e w' => e = .returned (.bool (rpB M X.es[j].r X.ds[i] (X.P i))) ∧ StepR (rpB M X.es[j].r X.ds[i] (X.P i)) q (doN M X.es[j].r).1 W w') := by
  obtain ⟨-, hd, hA⟩ := hX.ok.done i hi
  obtain ⟨hr, hq, h6⟩ := hX.ok.ent j hj
  have hA2 := hA.keep fun p hp => hb.cell (Nat.lt_of_lt_of_le hp hX.ok.W1)
  have hW1 := Nat.le_trans hX.ok.W1 hb.size
  generalize X.es[j].r = r at hr hq h6 ⊢
  generalize X.ds[i] = d at hd hA2 ⊢
  clear hA
  have hst : (doN M r).2.st = st0 := do_st0 M r h6
  have hpl : (doN M r).2.prs.length ≤ 1000000 := prs_len hsm r
  have hans : d.ans.toArray = #[.int .i64 d.err, .string d.val, .slice d.pA (X.P i).length d.pc, .int .i64 d.h.t, .int .u32 d.h.g, .int .u8 d.h.r, .int .u64 0, .int .u64 0, .int .u64 0, .int .u64 0, .int .u64 0, .int .u64 0, .int .u64 0, .int .u64 0, .int .u64 0, .int .u64 0, .complex .f64 0 0] := by
    obtain ⟨s0, s1, s2, s3, s4, s5, s6, s7, s8, s9, sa, sb⟩ := hd.s
    unfold Dn.ans
    rw [hd.pn, s0, s1, s2, s3, s4, s5, s6, s7, s8, s9, sa, sb]
  rw [hans]
  unfold rpB
  generalize hR : doN M r = R at hst hpl ⊢
  obtain ⟨M2, a⟩ := R
  obtain ⟨ae, av, ap, ah, ast⟩ := a
  try dsimp only at hst hpl ⊢
  subst hst
  have hl := hd.len
  refine (step_any hm hsm r hr d.err ae d.val av (X.P i) ap d.h ah d.pA d.pc W1 hl hpl hA2 hW1 hR hd.err false).mono ?_
  rintro e w' ⟨h1, h2, h3⟩
  exact ⟨h1, h2, h3⟩
theorem stepR_below {wB W W' : World} {q : Nat} {M' : Mdl} {bb : Bool} (hb : Below wB.heap.size wB W) (hq : wB.heap.size ≤ q) (h : StepR bb q M' W W') : Below wB.heap.size wB W' := by
  cases bb with
  | false => exact below_trans hb (h.1 rfl)
  | true =>
    obtain ⟨T', _, _, k⟩ := h.2 rfl
    exact ⟨k.os.trans hb.os, k.tape.trans hb.tape, k.output.trans hb.output, Nat.le_trans hb.size k.size, fun i hi => by rw [k.block i (Nat.lt_of_lt_of_le hi hb.size) (.inl (by omega)), hb.block i hi]⟩
theorem key_eq (X : Sx) (M : Mdl) (left : Nat) : (⟨(Lib.decDigits left).toArray⟩ ++ ⟨#[32]⟩ ++ ⟨(textN X.T M).toArray⟩ : ByteArray) = X.key M left := rfl
set_option maxHeartbeats 25600000 in
set_option maxRecDepth 100000 in
theorem walk_any {w : World} {X : Sx} {ge oe gd od W1 c c2 : Nat} (hX : SxAt w X ge oe gd od W1) (Pm : Nat → Mdl → Prop) (hPm : ∀ f M i M', Pm (f + 1) M → X.step M i = some M' → Pm f M') (hTx : ∀ f M, Pm f M → ∀ W p O, ModelAt W p M O → TxSmall M) (b : WB) (va : Value) :
    ∀ (f : Nat) (M : Mdl) (left : Nat) (ord : List Nat) (dead : Kvs) (vo : Value) (p : Nat) (O : Ows) (W : World), left < f → left < 64 → Pm f M → ord.length + f ≤ 1000 → WkAt w X b (.slice (some ⟨ge, oe, none⟩) X.es.length c) (.slice (some ⟨gd, od, none⟩) X.ds.length c2) va vo ord dead W → ModelAt W p M O → ¬ mown p M O b.dm →
    Calls Tryz.prog 79 #[.pointer (some ⟨p, 0, none⟩), .int .i64 (left : Nat), .pointer (some ⟨b.dd, 0, none⟩), .pointer (some ⟨b.al, 0, none⟩), .pointer (some ⟨b.dx, 0, none⟩), .pointer (some ⟨b.lx, 0, none⟩), .pointer (some ⟨b.od, 0, none⟩), .pointer (some ⟨b.wk, 0, none⟩)] W (WalkEnd w X b (.slice (some ⟨ge, oe, none⟩) X.es.length c) (.slice (some ⟨gd, od, none⟩) X.ds.length c2) va vo ord (X.walk f M left ord dead) W) := by
  have HX := Lib.hid hX
  have HPm := Lib.hid hPm
  have HTx := Lib.hid hTx
  have hfew := hX.few
  clear hX hPm hTx
  intro f
  induction f with
  | zero => intro M left ord dead vo p O W hlf; omega
  | succ f ih =>
    intro M left ord dead vo p O W hlf hl6 hP hol hw hm hd
    have IH := Lib.hid ih
    clear ih
    obtain ⟨vl, hvl⟩ : ∃ v : Value, Value.slice (some ⟨ge, oe, none⟩) X.es.length c = v := ⟨_, rfl⟩
    obtain ⟨vd, hvd⟩ : ∃ v : Value, Value.slice (some ⟨gd, od, none⟩) X.ds.length c2 = v := ⟨_, rfl⟩
    rw [hvl, hvd] at hw ⊢
    rw [hvl, hvd] at IH
    have HVL := Lib.hid hvl
    have HVD := Lib.hid hvd
    have hb0 := below_box W (.cells #[.int .i64 (left : Nat)] 3)
    have hlp : LpAt w X b vl vd va W vo p M O left W.heap.size vo ord dead (W.alloc (.cells #[.int .i64 (left : Nat)] 3)) :=
      ⟨hw.below hb0, hm.below hb0, hd, Blk.new W _ _, fun e => by have := (own_at hw.orow e).2.1; omega, Nat.le_refl _, .of_below hb0, .refl _ _⟩
    have HL := Lib.hid hlp
    have HP := Lib.hid hP
    clear hw hm hd hlp hb0 hP hvl hvd
    go_enter Tryz.func79, Tryz.ntmps79
    refine wp_seq_k fun K0 hK => ?_
    have HK0 := Lib.hid hK
    clear hK
    go_wp2_with fail
    refine HK0.out _ _ ?_
    clear HK0
    try dsimp only at HL ⊢
    try simp only [Act.put]
    generalize hlb : W.heap.size = lb at HL ⊢
    clear hlb
    generalize W.alloc (.cells #[.int .i64 (left : Nat)] 3) = wa at HL ⊢
    have clb := HL.out.lbk.cell 0
    rw [show (#[.int .i64 (left : Nat)] : Array Value)[0]? = some (.int .i64 (left : Nat)) from rfl] at clb
    by_cases h0 : left = 0
    · subst h0
      have hz : ((0 : Nat) : Int) = 0 := rfl
      rw [hz] at clb
      go_wp2_with fail
      go_ret
      have e : X.walk (f + 1) M 0 ord dead = (some ord, dead) := by rw [Sx.walk, if_pos rfl]
      rw [e]
      exact HL.out.done rfl rfl
    · have h0b : (((left : Nat) : Int) == 0) = false := by simp [h0]
      have H0 := Lib.hid h0
      clear h0
      refine wp_seq_k fun K0 hK => ?_
      have HK0 := Lib.hid hK
      clear hK
      go_wp2_with fail
      refine HK0.out _ _ ?_
      clear HK0
      refine wp_seq_k fun K0 hK => ?_
      have HK0 := Lib.hid hK
      clear hK
      clear h0b
      have hdl := digits_le left (by omega)
      have htl : (textN X.T M).length ≤ 425000 := texts_len (HTx.out _ _ HP.out _ _ _ HL.out.mdl) 17 (Nat.le_refl _)
      have hcat1 : ¬ 9223372036854775807 < (Lib.decDigits left).length + 1 := by omega
      have hcat2 : ¬ 9223372036854775807 < (Lib.decDigits left).length + 1 + (textN X.T M).length := by omega
      clear hdl htl
      go_wp2_with fail
      refine (lib_Itoa_small left (by omega) _).mono ?_
      rintro e w4 ⟨rfl, rfl⟩
      go_wp2_with fail
      refine (text_m HL.out.mdl (HTx.out _ _ HP.out _ _ _ HL.out.mdl) (HX.out.tabs.below HL.out.wk.bel)).mono ?_
      rintro e w5 ⟨rfl, hb5⟩
      have H5 := Lib.hid (HL.out.below hb5)
      clear HL hb5 clb hcat1
      go_wp2_with fail
      refine HK0.out _ _ ?_
      clear HK0
      clear hcat2
      try simp only [Act.put]
      rw [key_eq]
      have cdd := H5.out.wk.dd.cell 0
      rw [show (#[.map (some b.dm)] : Array Value)[0]? = some (.map (some b.dm)) from rfl] at cdd
      have HV := Lib.hid H5.out.wk.vals
      have hwk0 : X.walk (f + 1) M left ord dead = if (getS (X.key M left) dead).isSome then (none, dead) else X.loop (X.walk f) M left ord ((List.range X.all.length).drop 0) dead := by rw [Sx.walk, if_neg H0.out, List.drop_zero]
      generalize hky : X.key M left = ky at hwk0 ⊢
      have HKY := Lib.hid hky
      clear hky
      cases hg : getS ky dead with
      | some v =>
        obtain rfl := HV.out _ _ hg
        rw [hg] at hwk0
        have HW0 := Lib.hid hwk0
        have HG := Lib.hid hg
        clear hwk0 hg HV
        go_wp2_with (refine wpList_lookup_str rfl (.tmp 26) (.tmp 27) 140 rfl 9 4 Tryz.underlying140 Tryz.underlying9 (.bool false) (Tryz.zeroValue4 _) b.dm dead rfl H5.out.wk.dm ky rfl ?_; rw [HG.out])
        go_ret
        rw [HW0.out]
        exact H5.out.done rfl rfl
      | none =>
        rw [hg] at hwk0
        have HW0 := Lib.hid hwk0
        have HG := Lib.hid hg
        clear hwk0 hg HV
        refine wp_seq_k fun K0 hK => ?_
        have HK0 := Lib.hid hK
        clear hK
        go_wp2_with (refine wpList_lookup_str rfl (.tmp 26) (.tmp 27) 140 rfl 9 4 Tryz.underlying140 Tryz.underlying9 (.bool false) (Tryz.zeroValue4 _) b.dm dead rfl H5.out.wk.dm ky rfl ?_; rw [HG.out])
        refine HK0.out _ _ ?_
        clear HK0
        clear cdd HG
        refine wp_seq_k fun KE hK => ?_
        have HKE := Lib.hid hK
        clear hK
        obtain ⟨A0, ca, hva, hA0⟩ : ∃ A0 ca, va = .slice A0 X.all.length ca ∧ True := by
          obtain ⟨A, c', h1, _⟩ := own_form H5.out.wk.arow
          exact ⟨A, c', h1, trivial⟩
        clear hA0
        have cal := H5.out.wk.al.cell 0
        rw [show (#[va] : Array Value)[0]? = some va from rfl, hva] at cal
        have HVA := Lib.hid hva
        clear hva
        refine wp_seq_k fun K1 hK => ?_
        have HK1 := Lib.hid hK
        clear hK
        go_wp2_with fail
        refine HK1.out _ _ ?_
        clear HK1 cal
        go_wp2_with fail
        go_loopw [31] (fun i wr => ∃ (k : Nat) (vo' : Value) (dead' : Kvs), k ≤ X.all.length ∧ i = .int .i64 (k : Nat) ∧ Hid (X.walk (f + 1) M left ord dead = X.loop (X.walk f) M left ord ((List.range X.all.length).drop k) dead') ∧ Hid (LpAt w X b vl vd va W vo p M O left lb vo' ord dead' wr)) (fun i _ => X.all.length - (intOf i).toNat)
        case atStart => exact ⟨0, vo, dead, Nat.zero_le _, rfl, HW0, H5⟩
        case round =>
          obtain ⟨k, vo', dead', hk, rfl, HR, HQ⟩ := hrel
          by_cases hkl : k < X.all.length
          · have hst := loop_step (X := X) (go := X.walk f) (M := M) (left := left) (ord := ord) (dead := dead') hkl
            rw [← HR.out] at hst
            have HST := Lib.hid hst
            clear hst
            have i1 : (0 : Int) ≤ (k : Int) := by omega
            have i2 : (k : Int) < (X.all.length : Int) := by omega
            have hk6 : k < 6 := by omega
            obtain ⟨ga, ca2, hva2, hgal, hac⟩ := own_slice HQ.out.wk.arow (by omega)
            rw [HVA.out] at hva2
            injection hva2 with hA0 hz hca
            subst hA0 hca
            have HAC := Lib.hid hac
            have cak : wr.cell? ⟨ga, k, none⟩ = some (.int .i64 (X.at_ k : Nat)) := hac k _ (by rw [List.getElem?_map, List.getElem?_eq_getElem hkl]; unfold Sx.at_; rw [List.getD_eq_getElem?_getD, List.getElem?_eq_getElem hkl]; rfl)
            clear hac hz
            refine wp_seq_k fun K2 hK => ?_
            have HK2 := Lib.hid hK
            clear hK
            go_wp2_with fail
            refine HK2.out _ _ ?_
            clear HK2
            refine wp_seq_k fun K2 hK => ?_
            have HK2 := Lib.hid hK
            clear hK
            go_wp2_with fail
            refine HK2.out _ _ ?_
            clear HK2
            refine wp_seq_k fun K2 hK => ?_
            have HK2 := Lib.hid hK
            clear hK
            refine wp_block ?_
            refine wp_seq_k fun K3 hK => ?_
            have HK3 := Lib.hid hK
            clear hK
            go_wp2_with fail
            refine HK3.out _ _ ?_
            clear HK3
            try simp only [Act.put]
            clear cak
            have hai := HX.out.all k hkl
            have hbA := below_box wr (.cells #[.int .i64 (X.at_ k : Nat)] 3)
            have hbI := Blk.new wr 3 #[.int .i64 (X.at_ k : Nat)]
            have hnI : vo'.ownBlock ≠ some wr.heap.size := fun e => by have := (own_at HQ.out.wk.orow e).2.1; omega
            have hLA := HQ.out.below hbA
            generalize hib : wr.heap.size = ib at hbI hnI ⊢
            generalize hwA : wr.alloc (.cells #[.int .i64 (X.at_ k : Nat)] 3) = wA at hbA hbI hLA ⊢
            have HACA : Hid (∀ j u, (X.all.map intV)[j]? = some u → wA.cell? ⟨ga, j, none⟩ = some u) := Lib.hid (fun j u hu => (hbA.cell (p := ⟨ga, j, none⟩) hgal).trans (HAC.out j u hu))
            have HIB := Lib.hid (And.intro hbI hnI)
            have HLA := Lib.hid hLA
            have clb := hLA.lbk.cell 0
            rw [show (#[.int .i64 (left : Nat)] : Array Value)[0]? = some (.int .i64 (left : Nat)) from rfl] at clb
            clear hbA hbI hLA hwA hib hnI HQ HAC hgal
            refine wp_seq_k fun K3 hK => ?_
            have HK3 := Lib.hid hK
            clear hK
            go_wp2_with fail
            refine HK3.out _ _ ?_
            clear HK3
            refine wp_seq_k fun K3 hK => ?_
            have HK3 := Lib.hid hK
            clear hK
            have hbt := bit_eq left k hl6 hk6
            go_wp2_with fail
            refine HK3.out _ _ ?_
            clear HK3 hbt clb
            try simp only [Act.put]
            refine wp_seq_k fun K3 hK => ?_
            have HK3 := Lib.hid hK
            clear hK
            refine sr_ok (X := X) (left := left) (k := k) (by have := HLA.out.wk.al.cell 0; rw [HVA.out] at this; exact this) HLA.out.wk.al.lt hfew (fun j hj V hV => ?_) ?_
            · have hLV := HLA.out.below hV
              have hbV := HIB.out.1.below hV HIB.out.1.lt
              have haj := HX.out.all j hj
              have hbel := hLV.wk.bel
              have cx := hLV.wk.dx.cell 0
              have ca' := hLV.wk.al.cell 0
              rw [← HVD.out] at cx
              rw [HVA.out] at ca'
              have hdr := HX.out.ds
              have cell := fun (i : Nat) (hi : i < X.ds.length) (q : Nat) (u : Value) (hu : (X.ds[i].row)[q]? = some u) => (hbel.cell (p := ⟨gd, od + i * 21 + q, none⟩) hdr.1).trans (row_at Dn.row_len hdr.2 hi hu)
              have e1 : X.first left j (X.at_ k) = (!left.testBit j || decide (X.ds[X.at_ k].f ≤ X.ds[X.at_ j].t)) := by
                unfold Sx.first Sx.from_ Sx.to_
                rw [List.getElem?_eq_getElem hai, List.getElem?_eq_getElem haj]
                rfl
              rw [e1]
              exact first_any (gd := gd) (od := od) (ga := ga) (hLV.lbk.cell 0) cx ca' (hbV.cell 0) ((hV.cell (p := ⟨ga, j, none⟩) (World.block_lt_of_cell? _ _ (HACA.out j _ (by rw [List.getElem?_map, List.getElem?_eq_getElem hj]; rfl)))).trans (HACA.out j _ (by rw [List.getElem?_map, List.getElem?_eq_getElem hj]; unfold Sx.at_; rw [List.getD_eq_getElem?_getD, List.getElem?_eq_getElem hj]; rfl))) (cell _ haj 3 _ rfl) (cell _ hai 1 _ rfl) hj haj hai hl6 (by omega)
            intro s16 s42 s43 s44 s45 s46 s47 s48 s49 s50 s51 s52 s53 wB hbB
            have hLB := HLA.out.below hbB
            have hIB := And.intro (HIB.out.1.below hbB HIB.out.1.lt) HIB.out.2
            have HLB := Lib.hid hLB
            have HIBB := Lib.hid hIB
            clear hLB hIB hbB HLA HIB HACA
            try dsimp only [Exit.inBlock, Exit.then]
            refine HK3.out _ _ ?_
            clear HK3
            cases hok : X.ok left k with
            | false =>
              have hs2 := HST.out
              rw [hok] at hs2
              have HS2 := Lib.hid hs2
              clear hs2 hok HST
              go_wp2_with fail
              refine HK2.out _ _ ?_
              clear HK2
              go_wp2_with fail
              go_roundw
              case rel => exact ⟨k + 1, vo', dead', by omega, by go_num, Lib.hid HS2.out, HLB⟩
              case measure => simp [intOf]; omega
            | true =>
              have hs2 := HST.out
              rw [hok, if_pos rfl] at hs2
              have HS2 := Lib.hid hs2
              have hbit : left.testBit k = true := by unfold Sx.ok Sx.okTo at hok; rw [Bool.and_eq_true] at hok; exact hok.1
              have HBIT := Lib.hid hbit
              clear hs2 hok HST hbit
              refine wp_seq_k fun K3 hK => ?_
              have HK3 := Lib.hid hK
              clear hK
              go_wp2_with fail
              refine HK3.out _ _ ?_
              clear HK3
              refine wp_seq_k fun K3 hK => ?_
              have HK3 := Lib.hid hK
              clear hK
              go_wp2_with fail
              refine (Copy_m HLB.out.mdl (HTx.out _ _ HP.out _ _ _ HLB.out.mdl).small).mono ?_
              rintro e wC ⟨q, O2, rfl, hmq, hoq, hbC⟩
              go_wp2_with fail
              refine HK3.out _ _ ?_
              clear HK3
              try simp only [Act.put]
              have hbC' := hbC.drew
              obtain ⟨j, hje, hjl⟩ := (HX.out.ok.done _ hai).1
              have hLC := HLB.out.below hbC'
              have hstp : X.step M (X.at_ k) = if rpB M X.es[j].r X.ds[X.at_ k] (X.P (X.at_ k)) then some (doN M X.es[j].r).1 else none := by
                unfold Sx.step
                rw [List.getElem?_eq_getElem hai]
                simp only
                rw [hje, Int.toNat_natCast, List.getElem?_eq_getElem hjl]
              have hcall := sx_step HX.out hLC.wk.bel (hmq.below ((Below.refl _ _).drew)) (HTx.out _ _ HP.out _ _ _ HLB.out.mdl).small hai hjl
              have HQO := Lib.hid (fun i hi => hoq i hi)
              have HBC := Lib.hid hbC'
              have hqlt : q < wC.drew.heap.size := hmq.blk.lt
              have hcell : ∀ V, Below wB.heap.size wB V → StFA V b.lx b.dx ib ge oe X.es.length c gd od X.ds.length c2 (X.at_ k) j X.ds[X.at_ k] X.es[j].r := fun V hV => by
                have hLV := HLB.out.below hV
                have hbel := hLV.wk.bel
                have hbV := HIBB.out.1.below hV HIBB.out.1.lt
                have cx := hLV.wk.dx.cell 0
                have cl := hLV.wk.lx.cell 0
                rw [← HVD.out] at cx
                rw [← HVL.out] at cl
                have hdr := HX.out.ds
                have her := HX.out.es
                have cd := fun (q : Nat) (u : Value) (hu : (X.ds[X.at_ k].row)[q]? = some u) => (hbel.cell (p := ⟨gd, od + X.at_ k * 21 + q, none⟩) hdr.1).trans (row_at Dn.row_len hdr.2 hai hu)
                have ce := fun (q : Nat) (u : Value) (hu : (X.es[j].row)[q]? = some u) => (hbel.cell (p := ⟨ge, oe + j * 13 + q, none⟩) her.1).trans (row_at Ent.row_len her.2 hjl hu)
                have c0 := cd 0 _ rfl
                rw [hje] at c0
                exact ⟨cl, cx, hbV.cell 0, c0, cd 4 _ rfl, cd 5 _ rfl, cd 6 _ rfl, cd 7 _ rfl, cd 8 _ rfl, cd 9 _ rfl, cd 10 _ rfl, cd 11 _ rfl, cd 12 _ rfl, cd 13 _ rfl, cd 14 _ rfl, cd 15 _ rfl, cd 16 _ rfl, cd 17 _ rfl, cd 18 _ rfl, cd 19 _ rfl, cd 20 _ rfl, ce 1 _ rfl, ce 2 _ rfl, ce 3 _ rfl, ce 4 _ rfl, ce 5 _ rfl, ce 6 _ rfl, ce 7 _ rfl, ce 8 _ rfl, ce 9 _ rfl, ce 10 _ rfl, ce 11 _ rfl, ce 12 _ rfl⟩
              have HCELL := Lib.hid hcell
              clear hcell hLC
              generalize X.es[j].r = r at hcall hstp HCELL ⊢
              generalize X.ds[X.at_ k] = x at hcall hstp hje HCELL ⊢
              generalize rpB M r x (X.P (X.at_ k)) = bb at hcall hstp
              unfold Dn.ans at hcall
              have HSTP := Lib.hid hstp
              have HCALL := Lib.hid hcall
              clear hcall hstp hje hmq hoq hbC hbC'
              refine wp_seq_k fun K3 hK => ?_
              have HK3 := Lib.hid hK
              clear hK
              refine wp_seq_k fun K4 hK => ?_
              have HK4 := Lib.hid hK
              clear hK
              refine sr_step (bb := bb) (R := StepR bb q (doN M r).1 wC.drew) (HCELL.out _ HBC.out) hai hjl HCALL.out (fun w' hw' => HCELL.out _ (stepR_below HBC.out (HQO.out q (.inl rfl)) hw')) ?_
              intro s58 s59 s60 s61 s62 s63 s64 s65 s66 s67 s68 s69 s70 s71 s72 wD hD
              try dsimp only [Exit.inBlock, Exit.then]
              refine HK4.out _ _ ?_
              clear HK4
              have hbD := stepR_below HBC.out (HQO.out q (.inl rfl)) hD
              have HLD := Lib.hid (HLB.out.below hbD)
              have HIBD := Lib.hid (And.intro (HIBB.out.1.below hbD HIBB.out.1.lt) HIBB.out.2)
              cases bb with
              | false =>
                have hs2 := HS2.out
                rw [HSTP.out] at hs2
                have HS3 := Lib.hid hs2
                clear hs2 HS2 hD hbD HCALL HCELL HSTP HLB HIBB
                go_wp2_with fail
                refine HK2.out _ _ ?_
                clear HK2 HK3
                go_wp2_with fail
                go_roundw
                case rel => exact ⟨k + 1, vo', dead', by omega, by go_num, Lib.hid HS3.out, HLD⟩
                case measure => simp [intOf]; omega
              | true =>
                have hs2 := HS2.out
                rw [HSTP.out, if_pos rfl] at hs2
                have HS3 := Lib.hid hs2
                obtain ⟨T', hmD, hoD, -⟩ := hD.2 rfl
                have hPf : Pm f (doN M r).1 := HPm.out _ _ _ _ HP.out (by rw [HSTP.out, if_pos rfl])
                generalize (doN M r).1 = M' at HS3 hmD hoD hPf
                have hdD : ¬ mown q M' T' b.dm := fun hc => by
                  have h1 := HLB.out.wk.dm.lt
                  have h2 := HBC.out.size
                  have h3 := HQO.out q (.inl rfl)
                  rcases hoD _ hc with e | e
                  · omega
                  · omega
                have HMD := Lib.hid (And.intro hmD (And.intro hdD hPf))
                clear hs2 HS2 hD hbD HCALL HCELL HSTP HLB HIBB hmD hoD hPf hdD HQO HBC
                go_wp2_with fail
                refine HK3.out _ _ ?_
                clear HK3
                try simp only [Act.put]
                have cod := HLD.out.wk.od.cell 0
                rw [show (#[vo'] : Array Value)[0]? = some vo' from rfl] at cod
                have cib := HIBD.out.1.cell 0
                rw [show (#[.int .i64 (X.at_ k : Nat)] : Array Value)[0]? = some (.int .i64 (X.at_ k : Nat)) from rfl] at cib
                obtain ⟨i0, hi0, iz0, iz1, iz2⟩ := info_parts infoInt
                refine wp_seq_k fun K3 hK => ?_
                have HK3 := Lib.hid hK
                clear hK
                go_wp2_with (first
                  | (at_builtin
                     refine wpList_append_any _ rfl (.tmp 75) (.tmp 77) _ rfl w.heap.size 3 i0 _ 1 8 Tryz.underlying82 hi0 iz0 iz1 iz2 rfl (by omega) vo' ord.length (ord.map intV) rfl
                       (HLD.out.wk.orow.alloc _) _ (some ⟨wD.heap.size, 0, none⟩) 1 1 [.int .i64 (X.at_ k : Nat)] rfl (reads_of_blk (Blk.new wD _ _) rfl rfl) (by simp [Value.oneCell']) (by unfold maxLen; omega) (by omega) (by have := HLD.out.wk.bel.size; simp; omega) ?_
                     intro v2 w2 hown2 hg2 hat2
                     obtain ⟨A2, c3, rfl, -⟩ := own_form hown2
                     obtain ⟨hod2, hwk2, hkp2, hnw2⟩ := HLD.out.wk.app hown2 hg2 hat2
                     have cod2 := hod2.frozen 0
                     have cod3 : w2.cell? ⟨b.od, 0, none⟩ = some vo' := hod2.cell 0))
                refine HK3.out _ _ ?_
                clear HK3 cod cib cod2 cod3 hod2 hown2 hg2 hat2
                try simp only [Act.put]
                have hmE := HLD.out.wk.model HMD.out.1 HMD.out.2.1 hkp2
                have hLE := HLD.out.turn hwk2 hkp2 hnw2
                generalize w2.setCell ⟨b.od, 0, none⟩ (.slice A2 (ord.length + 1) c3) = wE at hwk2 hkp2 hmE hLE ⊢
                have HME := Lib.hid (And.intro hmE (And.intro HMD.out.2.1 HMD.out.2.2))
                have HLE := Lib.hid hLE
                clear hmE hLE hwk2 hkp2 hnw2 HLD HMD HIBD
                have hlt2 : left - 2 ^ k < left := by have := Nat.two_pow_pos k; have := H0.out; omega
                have hdrE : Below wE.heap.size wE wE.drew := (Below.refl _ _).drew
                have hcall := IH.out M' (left - 2 ^ k) (ord ++ [X.at_ k]) dead' (.slice A2 (ord.length + 1) c3) q T' wE.drew (by omega) (by omega) HME.out.2.2 (by rw [List.length_append, List.length_singleton]; omega) (HLE.out.wk.below hdrE) (HME.out.1.below hdrE) HME.out.2.1
                generalize hrr : X.walk f M' (left - 2 ^ k) (ord ++ [X.at_ k]) dead' = rr at hcall HS3
                have HCALL := Lib.hid hcall
                clear hcall hrr
                refine wp_seq_k fun K3 hK => ?_
                have HK3 := Lib.hid hK
                clear hK
                refine wp_seq_k fun K4 hK => ?_
                have HK4 := Lib.hid hK
                clear hK
                refine sr_rec (b := b) (bb := rr.1.isSome) (R := fun w' => ∃ v3, WkAt w X b vl vd va v3 (rr.1.getD (ord ++ [X.at_ k])) rr.2 w' ∧ KeepC (WkC b (.slice A2 (ord.length + 1) c3)) wE.drew w' ∧ OwnNew wE.drew (.slice A2 (ord.length + 1) c3) v3) ⟨(HLE.out.wk.below hdrE).wk.cell 0, (HLE.out.below hdrE).lbk.cell 0⟩ hl6 hk6 HBIT.out HCALL.out (fun w' ⟨v3, h1, h2, h3⟩ => ⟨h1.wk.cell 0, ((HLE.out.below hdrE).turn h1 h2 h3).lbk.cell 0⟩) ?_
                intro s79 s80 s81 s82 s83 s84 wF hF
                obtain ⟨v3, h1, h2, h3⟩ := hF
                have HLF := Lib.hid ((HLE.out.below hdrE).turn h1 h2 h3)
                clear h1 h2 h3 HCALL HLE HME
                try dsimp only [Exit.inBlock, Exit.then]
                refine HK4.out _ _ ?_
                clear HK4
                obtain ⟨ro, rd⟩ := rr
                cases ro with
                | some o =>
                  have hs3 := HS3.out
                  try dsimp only at hs3 HLF ⊢
                  have HS4 := Lib.hid hs3
                  clear hs3 HS3
                  go_wp2_with fail
                  go_ret
                  rw [HS4.out]
                  exact HLF.out.done rfl rfl
                | none =>
                  have hs3 := HS3.out
                  try dsimp only at hs3 HLF ⊢
                  have HS4 := Lib.hid hs3
                  clear hs3 HS3
                  go_wp2_with fail
                  refine HK3.out _ _ ?_
                  clear HK3
                  try simp only [Act.put]
                  have hro := HLF.out.wk.orow
                  rw [Option.getD_none, List.length_append, List.map_append] at hro
                  obtain ⟨go_, cap, rfl, hc1, hc2, hcut⟩ := own_cut hro
                  have HF2 := HLF.out
                  rw [Option.getD_none] at HF2
                  obtain ⟨hw4, hk4⟩ := HF2.wk.cut hcut
                  have hL4 := HF2.turn hw4 hk4 (.inl rfl)
                  have cod := HF2.wk.od.cell 0
                  rw [show (#[.slice (some ⟨go_, 0, none⟩) (ord.length + 1) cap] : Array Value)[0]? = some (.slice (some ⟨go_, 0, none⟩) (ord.length + 1) cap) from rfl] at cod
                  have cof := HF2.wk.od.frozen 0
                  have HL4 := Lib.hid hL4
                  clear hw4 hk4 hL4 HF2 hro hcut HLF
                  have hs1 : IntKind.i64.wrap (((ord.length + 1 : Nat) : Int) - 1) = (ord.length : Int) := by rw [IntWalk.i64_in _ (by omega)]; omega
                  have hs2 : (ord.length : Int) ≤ (cap : Int) := by omega
                  go_wp2_with fail
                  refine HK2.out _ _ ?_
                  clear HK2
                  go_wp2_with fail
                  go_roundw
                  case rel => exact ⟨k + 1, _, _, by omega, by go_num, Lib.hid HS4.out, HL4⟩
                  case measure => simp [intOf]; omega
          · obtain rfl : k = X.all.length := by omega
            have hfin := HR.out
            rw [List.drop_eq_nil_of_le (by simp), Sx.loop, HKY.out] at hfin
            have HFIN := Lib.hid hfin
            clear hfin
            have cdd := HQ.out.wk.dd.cell 0
            rw [show (#[.map (some b.dm)] : Array Value)[0]? = some (.map (some b.dm)) from rfl] at cdd
            go_wp2_with fail
            refine HKE.out _ _ ?_
            clear HKE
            go_wp2_with (refine wpList_update_strmap rfl (.tmp 92) (.tmp 93) (.const (.bool true)) 140 rfl 9 4 Tryz.underlying140 Tryz.underlying9 b.dm dead' rfl HQ.out.wk.dm ky rfl (.bool true) rfl ?_; intro w6 hm6 hg6)
            obtain ⟨hw6, hk6⟩ := HQ.out.wk.put hm6 hg6
            have hL6 := HQ.out.turn hw6 hk6 (.refl _ _)
            go_ret
            rw [HFIN.out]
            exact hL6.done rfl rfl
end Go.Proofs.YtkgflepgkhnclaaGreatDoor
namespace Go.Proofs.YtkgflepgkhnclaaGreatDoor
open Go.RowKit Go.Shelf
set_option linter.unusedVariables false
set_option linter.unusedSimpArgs false

/-- Generations and quotas are small, and there are no tenants beyond 16. -/
structure QuM (f : Nat) (M : Mdl) : Prop where
  le : f ≤ 20
  gen : ∀ t, 0 ≤ (M t).gen ∧ (M t).gen ≤ 20 - f
  qk : ∀ t, 0 ≤ (M t).qk ∧ (M t).qk ≤ 50
  qb : ∀ t, 0 ≤ (M t).qb ∧ (M t).qb ≤ 50
  bk : ∀ t B, (M t).bk = some B → B.qk ≤ 50
  few : ∀ t, 17 ≤ t → (M t).bk = none
theorem QuM.upd {f : Nat} {M : Mdl} (h : QuM (f + 1) M) {n : Nat} (hn : n ≤ 16) {t : Ten} (hg : 0 ≤ t.gen ∧ t.gen ≤ 20 - f) (hk : 0 ≤ t.qk ∧ t.qk ≤ 50) (hb : 0 ≤ t.qb ∧ t.qb ≤ 50) (hB : ∀ B, t.bk = some B → B.qk ≤ 50) : QuM f (updM M n t) := by
  have hf := h.le
  refine ⟨by omega, fun i => ?_, fun i => ?_, fun i => ?_, fun i B => ?_, fun i hi => ?_⟩
  · by_cases e : i = n
    · subst e; rw [updM_self]; exact hg
    · rw [updM_ne e]; have := h.gen i; omega
  · by_cases e : i = n
    · subst e; rw [updM_self]; exact hk
    · rw [updM_ne e]; exact h.qk i
  · by_cases e : i = n
    · subst e; rw [updM_self]; exact hb
    · rw [updM_ne e]; exact h.qb i
  · by_cases e : i = n
    · subst e; rw [updM_self]; exact hB B
    · rw [updM_ne e]; exact h.bk i B
  · rw [updM_ne (by omega)]; exact h.few i hi
theorem QuM.less {f : Nat} {M : Mdl} (h : QuM (f + 1) M) : QuM f M :=
  ⟨by have := h.le; omega, fun t => by have := h.gen t; omega, h.qk, h.qb, h.bk, h.few⟩
theorem quM_do {f : Nat} {M : Mdl} (h : QuM (f + 1) M) (r : Req) (hk : 0 ≤ r.qk ∧ r.qk ≤ 50) (hb : 0 ≤ r.qb ∧ r.qb ≤ 50) : QuM f (doN M r).1 := by
  have hw : ∀ n, 0 ≤ IntKind.u32.wrap ((M n).gen + 1) ∧ IntKind.u32.wrap ((M n).gen + 1) ≤ 20 - f := fun n => by
    have h1 := h.gen n
    have h2 := h.le
    have e : IntKind.u32.wrap ((M n).gen + 1) = (M n).gen + 1 := IntWalk.u32_in _ (by omega)
    rw [e]
    omega
  rcases doN_fx M r with ⟨e, _⟩ | ⟨n, h1, h2, _, _, _, _, e⟩ | ⟨n, h1, h2, _, _, _, e⟩ | ⟨n, h1, h2, _, _, _, e⟩ | ⟨n, B, B', _, _, h1, h2, hbk, hq, _, _, e⟩
  · rw [e]; exact h.less
  · rw [e]; exact h.upd h2 (hw n) hk hb (fun B hB => by injection hB with hB; rw [← hB]; exact hk.2)
  · rw [e]; exact h.upd h2 (h.less.gen n) (show (0 : Int) ≤ 0 ∧ (0 : Int) ≤ 50 by omega) (show (0 : Int) ≤ 0 ∧ (0 : Int) ≤ 50 by omega) (fun B hB => by cases hB)
  · rw [e]; exact h.upd h2 (hw n) (h.qk n) (h.qb n) (fun B hB => h.bk n B hB)
  · rw [e]; exact h.upd h2 (h.less.gen n) (h.qk n) (h.qb n) (fun C hC => by injection hC with hC; rw [← hC, hq]; exact h.bk n B hbk)
theorem quM0 {f : Nat} (hf : f ≤ 20) : QuM f mdl0 :=
  ⟨hf, fun t => show (0 : Int) ≤ 0 ∧ (0 : Int) ≤ 20 - f by omega, fun t => show (0 : Int) ≤ 0 ∧ (0 : Int) ≤ 50 by omega, fun t => show (0 : Int) ≤ 0 ∧ (0 : Int) ≤ 50 by omega, fun t B h => (by cases h), fun t _ => rfl⟩
theorem QuM.tx {f : Nat} {M : Mdl} (h : QuM f M) {W : World} {p : Nat} {O : Ows} (hm : ModelAt W p M O) : TxSmall M where
  gen := fun t => by have := h.gen t; omega
  qk := fun t => by have := h.qk t; omega
  qb := fun t => by have := h.qb t; omega
  bk := fun t B hB => by
    have h17 : t < 17 := by
      rcases Nat.lt_or_ge t 17 with h1 | h1
      · exact h1
      · rw [h.few t h1] at hB; cases hB
    have hw := (hm.bk t B h17 hB).wf
    have h3 := hw.nk
    have h5 := h.bk t B hB
    exact ⟨by omega, hw.short⟩
theorem quM_step {X : Sx} (hq : ∀ j (hj : j < X.es.length), (0 ≤ X.es[j].r.qk ∧ X.es[j].r.qk ≤ 50) ∧ (0 ≤ X.es[j].r.qb ∧ X.es[j].r.qb ≤ 50)) : ∀ f M i M', QuM (f + 1) M → X.step M i = some M' → QuM f M' := by
  intro f M i M' h hs
  unfold Sx.step at hs
  split at hs
  · cases hs
  · split at hs
    · cases hs
    · rename_i x _ en he
      split at hs
      · injection hs with hs
        subst hs
        obtain ⟨h1, h2⟩ := List.getElem?_eq_some_iff.1 he
        have := hq _ h1
        rw [h2] at this
        exact quM_do h _ this.1 this.2
      · cases hs
end Go.Proofs.YtkgflepgkhnclaaGreatDoor
namespace Go.Proofs.YtkgflepgkhnclaaGreatDoor
open Go.RowKit Go.Shelf
set_option linter.unusedVariables false
set_option linter.unusedSimpArgs false
attribute [local go_sem] run_store_complex

theorem run_store_fn {P : Program} {w : World} (a : Addr) (m : Mode) (f : Fn) (ts cs : Array Value) : (store a (.func f ts cs) m).run P w = stored P w a (.func f ts cs) m := run_store P w a _ m rfl
attribute [local go_sem] run_store_fn
theorem all_bits {n : Nat} (hn : n ≤ 6) : IntKind.i64.wrap (IntKind.i64.wrap (2 ^ n) - 1) = ((2 ^ n - 1 : Nat) : Int) := by
  have : ∀ k : Fin 7, IntKind.i64.wrap (IntKind.i64.wrap (2 ^ k.val) - 1) = ((2 ^ k.val - 1 : Nat) : Int) := by decide +kernel
  exact this ⟨n, by omega⟩
set_option maxHeartbeats 6400000 in
set_option maxRecDepth 100000 in
theorem se_run {W : World} {wk al n ca : Nat} {A : Option Addr} {b : WB} {u0 u1 u2 u3 u4 u5 u6 u7 u9 u10 u12 u13 u14 u15 u16 u17 u18 u19 u20 u21 u22 u23 u24 u25 u26 u27 u28 u29 u30 u31 u32 u33 u34 u35 u36 u37 : Value} {Q : Exit → Act → World → Prop} {bb : Bool} {R : World → Prop} (h0 : W.cell? ⟨wk, 0, none⟩ = some (.func (.func 79) #[] #[.pointer (some ⟨b.dd, 0, none⟩), .pointer (some ⟨b.al, 0, none⟩), .pointer (some ⟨b.dx, 0, none⟩), .pointer (some ⟨b.lx, 0, none⟩), .pointer (some ⟨b.od, 0, none⟩), .pointer (some ⟨b.wk, 0, none⟩)]) ∧ W.cell? ⟨al, 0, none⟩ = some (.slice A n ca)) (h1 : wk < W.heap.size) (h2 : al < W.heap.size) (hn : n ≤ 6)
    (hc : ∀ (q : Nat) (V : World), Below W.heap.size W V → ModelAt V q mdl0 ows0 → W.heap.size ≤ q → Calls Tryz.prog 79 #[.pointer (some ⟨q, 0, none⟩), .int .i64 (2 ^ n - 1 : Nat), .pointer (some ⟨b.dd, 0, none⟩), .pointer (some ⟨b.al, 0, none⟩), .pointer (some ⟨b.dx, 0, none⟩), .pointer (some ⟨b.lx, 0, none⟩), .pointer (some ⟨b.od, 0, none⟩), .pointer (some ⟨b.wk, 0, none⟩)] V (fun e w' => e = .returned (.bool bb) ∧ R w')) (hk : ∀ w', R w' → w'.cell? ⟨wk, 0, none⟩ = some (.func (.func 79) #[] #[.pointer (some ⟨b.dd, 0, none⟩), .pointer (some ⟨b.al, 0, none⟩), .pointer (some ⟨b.dx, 0, none⟩), .pointer (some ⟨b.lx, 0, none⟩), .pointer (some ⟨b.od, 0, none⟩), .pointer (some ⟨b.wk, 0, none⟩)]) ∧ w'.cell? ⟨al, 0, none⟩ = some (.slice A n ca))
    (hQ : ∀ (s29 s30 s31 s32 s33 s34 s35 : Value) (W' : World), R W' → Q .normal ⟨#[u0, u1, u2, u3, u4, u5, u6, u7, .pointer (some ⟨al, 0, none⟩), u9, u10, .pointer (some ⟨wk, 0, none⟩), u12, u13, u14, u15, u16, u17, u18, u19, u20, u21, u22, u23, u24, u25, u26, u27, u28, s29, s30, s31, s32, s33, s34, s35, .bool (!bb), u37], []⟩ W') :
    Code.wp Tryz.prog (part Tryz.f36 [1, 1, 1, 1, 1, 1, 1, 1, 0, 0]) Q ⟨#[u0, u1, u2, u3, u4, u5, u6, u7, .pointer (some ⟨al, 0, none⟩), u9, u10, .pointer (some ⟨wk, 0, none⟩), u12, u13, u14, u15, u16, u17, u18, u19, u20, u21, u22, u23, u24, u25, u26, u27, u28, u29, u30, u31, u32, u33, u34, u35, u36, u37], []⟩ W := by
  conv => arg 2; whnf
  have HQ := Lib.hid hQ
  have HC := Lib.hid hc
  have HK := Lib.hid hk
  have HF : Hid (∀ V : World, Below W.heap.size W V → V.cell? ⟨wk, 0, none⟩ = some (.func (.func 79) #[] #[.pointer (some ⟨b.dd, 0, none⟩), .pointer (some ⟨b.al, 0, none⟩), .pointer (some ⟨b.dx, 0, none⟩), .pointer (some ⟨b.lx, 0, none⟩), .pointer (some ⟨b.od, 0, none⟩), .pointer (some ⟨b.wk, 0, none⟩)]) ∧ V.cell? ⟨al, 0, none⟩ = some (.slice A n ca)) := Lib.hid (fun V hb => ⟨(hb.cell (p := ⟨wk, 0, none⟩) h1).trans h0.1, (hb.cell (p := ⟨al, 0, none⟩) h2).trans h0.2⟩)
  have HD := Lib.hid ((Below.refl W.heap.size W).drew)
  have h0 := HF.out _ HD.out
  have n1 : (0 : Int) ≤ (n : Int) := by omega
  have n2 : (n : Int) ≤ 6 := by omega
  have hab := all_bits hn
  clear hQ hc hk
  refine wp_region_noPanic ?_
  refine wp_region_held_drew (S := (fun V : World => V.cell? ⟨wk, 0, none⟩ = some (.func (.func 79) #[] #[.pointer (some ⟨b.dd, 0, none⟩), .pointer (some ⟨b.al, 0, none⟩), .pointer (some ⟨b.dx, 0, none⟩), .pointer (some ⟨b.lx, 0, none⟩), .pointer (some ⟨b.od, 0, none⟩), .pointer (some ⟨b.wk, 0, none⟩)]) ∧ V.cell? ⟨al, 0, none⟩ = some (.slice A n ca))) (by kernel_rfl) ?_ (fun hHeld0 => ?_)
  · exact h0
  refine wpAnyH_take (i := 0) (v := ?_) rfl (by kernel_rfl) (by kernel_rfl) (by kernel_rfl) (fun _ _ _ h => h) (Or.inl ⟨by rfl, ?_⟩) hHeld0 ?_
  rotate_left
  · (intro w hSw; (try dsimp only at hSw); go_simp <;> with_reducible rfl)
  try simp only [Act.put, List.setIfInBounds_toArray, List.set_cons_zero, List.set_cons_succ]
  refine wpAnyH_take (i := 2) (v := ?_) rfl (by kernel_rfl) (by kernel_rfl) (by kernel_rfl) (fun _ _ _ h => h) (Or.inl ⟨by rfl, ?_⟩) hHeld0 ?_
  rotate_left
  · (intro w hSw; (try dsimp only at hSw); go_simp <;> with_reducible rfl)
  try simp only [Act.put, List.setIfInBounds_toArray, List.set_cons_zero, List.set_cons_succ]
  refine wpAnyH_take (i := 3) (v := ?_) rfl (by kernel_rfl) (by kernel_rfl) (by kernel_rfl) (fun _ _ _ h => h) (Or.inl ⟨by rfl, ?_⟩) hHeld0 ?_
  rotate_left
  · (intro w hSw; (try dsimp only at hSw); go_simp <;> with_reducible rfl)
  try simp only [Act.put, List.setIfInBounds_toArray, List.set_cons_zero, List.set_cons_succ]
  refine wpAnyH_take (i := 4) (v := ?_) rfl (by kernel_rfl) (by kernel_rfl) (by kernel_rfl) (fun _ _ _ h => h) (Or.inl ⟨by rfl, ?_⟩) hHeld0 ?_
  rotate_left
  · (intro w hSw; (try dsimp only at hSw); go_simp <;> with_reducible rfl)
  try simp only [Act.put, List.setIfInBounds_toArray, List.set_cons_zero, List.set_cons_succ]
  refine wpAnyH_take (i := 5) (v := ?_) rfl (by kernel_rfl) (by kernel_rfl) (by kernel_rfl) (fun _ _ _ h => h) (Or.inl ⟨by rfl, ?_⟩) hHeld0 ?_
  rotate_left
  · (intro w hSw; (try dsimp only at hSw); go_simp <;> with_reducible rfl)
  try simp only [Act.put, List.setIfInBounds_toArray, List.set_cons_zero, List.set_cons_succ]
  try simp only [Act.put, List.getElem_toArray, List.getElem_cons_succ, List.getElem_cons_zero, List.setIfInBounds_toArray, List.set_cons_zero, List.set_cons_succ]
  refine wpAnyH_ready (rs := [1]) (by kernel_rfl) (by simp) ?_
  refine AllReadyH.cons rfl (fun K hK => ?_) AllReadyH.nil
  go_simp
  with_reducible refine (new_m _).mono ?_
  rintro e w8 ⟨rfl, hm8, hb8⟩
  have hb8' := below_trans HD.out hb8
  have hm9 : ModelAt w8 W.heap.size mdl0 ows0 := hm8
  refine hK.out _ _ ?_ (fun hHeld1 => ?_)
  · exact HF.out _ hb8'
  clear hK K hHeld0
  try simp only [Act.put, List.setIfInBounds_toArray, List.set_cons_zero, List.set_cons_succ]
  try simp only [Act.put, List.getElem_toArray, List.getElem_cons_succ, List.getElem_cons_zero, List.setIfInBounds_toArray, List.set_cons_zero, List.set_cons_succ]
  refine wpAnyH_ready (rs := [6]) (by kernel_rfl) (by simp) ?_
  refine AllReadyH.cons rfl (fun K hK => ?_) AllReadyH.nil
  go_simp
  try rw [hab]
  with_reducible refine (HC.out W.heap.size _ hb8' hm9 (Nat.le_refl _)).mono ?_
  rintro e w9 ⟨rfl, h9⟩
  refine hK.out _ _ ?_ (fun hHeld2 => ?_)
  · exact HK.out _ h9
  clear hK K hHeld1
  try simp only [Act.put, List.setIfInBounds_toArray, List.set_cons_zero, List.set_cons_succ]
  try simp only [Act.put, List.getElem_toArray, List.getElem_cons_succ, List.getElem_cons_zero, List.setIfInBounds_toArray, List.set_cons_zero, List.set_cons_succ]
  refine wpAnyH_take (i := 7) (v := ?_) rfl (by kernel_rfl) (by kernel_rfl) (by kernel_rfl) (fun _ _ _ h => h) (Or.inl ⟨by rfl, ?_⟩) hHeld2 ?_
  rotate_left
  · (intro w hSw; (try dsimp only at hSw); go_simp <;> with_reducible rfl)
  try simp only [Act.put, List.setIfInBounds_toArray, List.set_cons_zero, List.set_cons_succ]
  try simp only [Act.put, List.getElem_toArray, List.getElem_cons_succ, List.getElem_cons_zero, List.setIfInBounds_toArray, List.set_cons_zero, List.set_cons_succ]
  refine wpAnyH_done (by kernel_rfl) ?_ _
  exact NoPanic.normal (HQ.out _ _ _ _ _ _ _ w9 h9)
theorem wk_new {w w4 : World} {X : Sx} {vl vd va : Value} {lx : Nat} (hb : Below w.heap.size w w4) (q2 : Blk w4 lx 31 #[vl]) (q3 : Blk w4 (lx + 1) 85 #[vd]) (ho : w4.ownsRow w.heap.size 3 1 va X.all.length (X.all.map intV)) :
    WkAt w X ⟨w4.heap.size + 1 + 1, w4.heap.size, lx + 1, lx, w4.heap.size + 1 + 1 + 1, w4.heap.size + 1 + 1 + 1 + 1, w4.heap.size + 1⟩ vl vd va (.slice none 0 0) [] [] (((((w4.alloc (.cells #[va] 82)).alloc (.map #[] 0)).alloc (.cells #[.map (some (w4.heap.size + 1))] 140)).alloc (.cells #[.slice none 0 0] 82)).alloc (.cells #[.func (.func 79) #[] #[.pointer (some ⟨w4.heap.size + 1 + 1, 0, none⟩), .pointer (some ⟨w4.heap.size, 0, none⟩), .pointer (some ⟨lx + 1, 0, none⟩), .pointer (some ⟨lx, 0, none⟩), .pointer (some ⟨w4.heap.size + 1 + 1 + 1, 0, none⟩), .pointer (some ⟨w4.heap.size + 1 + 1 + 1 + 1, 0, none⟩)]] 141)) where
  dd := by
    have h : Blk (((w4.alloc (.cells #[va] 82)).alloc (.map #[] 0)).alloc (.cells #[.map (some (w4.heap.size + 1))] 140)) (w4.heap.size + 1 + 1) 140 #[.map (some (w4.heap.size + 1))] := blk_at (by simp)
    exact (h.alloc _).alloc _
  dm := by
    have h1 := StrMap.made (w4.alloc (.cells #[va] 82))
    have h2 := ((h1.alloc (.cells #[.map (some (w4.heap.size + 1))] 140)).alloc (.cells #[.slice none 0 0] 82)).alloc (.cells #[.func (.func 79) #[] #[.pointer (some ⟨w4.heap.size + 1 + 1, 0, none⟩), .pointer (some ⟨w4.heap.size, 0, none⟩), .pointer (some ⟨lx + 1, 0, none⟩), .pointer (some ⟨lx, 0, none⟩), .pointer (some ⟨w4.heap.size + 1 + 1 + 1, 0, none⟩), .pointer (some ⟨w4.heap.size + 1 + 1 + 1 + 1, 0, none⟩)]] 141)
    rw [show (w4.alloc (.cells #[va] 82)).heap.size = w4.heap.size + 1 by simp] at h2
    exact h2
  al := (((((Blk.new w4 82 #[va]).alloc _).alloc _).alloc _).alloc _)
  dx := (((((q3.alloc _).alloc _).alloc _).alloc _).alloc _)
  lx := (((((q2.alloc _).alloc _).alloc _).alloc _).alloc _)
  od := by
    have h : Blk ((((w4.alloc (.cells #[va] 82)).alloc (.map #[] 0)).alloc (.cells #[.map (some (w4.heap.size + 1))] 140)).alloc (.cells #[.slice none 0 0] 82)) (w4.heap.size + 1 + 1 + 1) 82 #[.slice none 0 0] := blk_at (by simp)
    exact h.alloc _
  wk := by
    show Blk _ (w4.heap.size + 1 + 1 + 1 + 1) _ _
    unfold WB.caps
    exact blk_at (by simp)
  arow := (((((ho.alloc _).alloc _).alloc _).alloc _).alloc _)
  orow := ⟨by simp, .inl ⟨rfl, by simp⟩⟩
  apart := fun g e => by cases e
  ne := by show w4.heap.size ≠ w4.heap.size + 1 + 1 + 1; omega
  ge := ⟨by show w.heap.size ≤ w4.heap.size + 1 + 1 + 1; have := hb.size; omega, by show w.heap.size ≤ w4.heap.size + 1; have := hb.size; omega⟩
  bel := below_alloc (below_alloc (below_alloc (below_alloc (below_alloc hb _) _) _) _) _
  vals := fun k v h => by cases h
def SearchEnd (o : Option (List Nat)) (w : World) (e : Ending) (w' : World) : Prop :=
  Below w.heap.size w w' ∧ (o = none → e = .returned (.tuple #[.slice none 0 0, .int .i64 5])) ∧ ∀ l, o = some l → ∃ v, e = .returned (.tuple #[v, .int .i64 0]) ∧ w'.ownsRow w.heap.size 3 1 v l.length (l.map intV)
set_option maxHeartbeats 400000 in
set_option maxRecDepth 100000 in
theorem search_any {w : World} {X : Sx} {ge oe gd od W1 c c2 : Nat} (hX : SxAt w X ge oe gd od W1) (Pm : Nat → Mdl → Prop) (hPm : ∀ f M i M', Pm (f + 1) M → X.step M i = some M' → Pm f M') (hTx : ∀ f M, Pm f M → ∀ W p O, ModelAt W p M O → TxSmall M) (hall : X.all = deedsN X.es X.ds X.ds.length) (hch : (checkN X.es X.ds).2 = 0)
    (f : Nat) (hf : 2 ^ X.all.length - 1 < f) (hf2 : f ≤ 1000) (hP : Pm f mdl0) :
    Calls Tryz.prog 36 #[.slice (some ⟨ge, oe, none⟩) X.es.length c, .slice (some ⟨gd, od, none⟩) X.ds.length c2] w (SearchEnd (X.walk f mdl0 (2 ^ X.all.length - 1) [] []).1 w) := by
  have HX := Lib.hid hX
  have hE : EsAt w (some ⟨ge, oe, none⟩) X.es := fun _ => ⟨ge, oe, rfl, hX.es.1, hX.es.2⟩
  have hD : DsAt w (some ⟨gd, od, none⟩) X.ds := fun _ => ⟨gd, od, rfl, hX.ds.1, hX.ds.2⟩
  have hfew := hX.few
  have hl1 := hX.ok.few2
  have hl2 := hX.ok.few
  have HE := Lib.hid hE
  have HD := Lib.hid hD
  obtain ⟨ci, hci⟩ : ∃ i, (checkN X.es X.ds).1 = i := ⟨_, rfl⟩
  have hcc : checkN X.es X.ds = (ci, 0) := by rw [← hci, ← hch]
  have HCC := Lib.hid hcc
  have HWK := Lib.hid (fun (b : WB) (va : Value) => walk_any (c := c) (c2 := c2) hX Pm hPm hTx b va f mdl0)
  have HALL := Lib.hid hall
  have HF := Lib.hid (And.intro hf (And.intro hf2 hP))
  have h64 : 2 ^ X.all.length - 1 < 64 := by
    have : 2 ^ X.all.length ≤ 2 ^ 6 := Nat.pow_le_pow_right (by omega) hfew
    omega
  have H64 := Lib.hid h64
  obtain ⟨rr, hrr⟩ : ∃ rr, X.walk f mdl0 (2 ^ X.all.length - 1) [] [] = rr := ⟨_, rfl⟩
  rw [hrr]
  have HRR := Lib.hid hrr
  clear hX hE hD hci hcc hch hPm hTx hall hf hf2 hP hrr h64
  go_enter Tryz.func36, Tryz.ntmps36
  refine wp_seq_k fun K0 hK => ?_
  have HK0 := Lib.hid hK
  clear hK
  go_wp2_with fail
  refine HK0.out _ _ ?_
  clear HK0
  try simp only [Act.put]
  have hb1 := below_alloc (below_box w (.cells #[.slice (some ⟨ge, oe, none⟩) X.es.length c] 31)) (.cells #[.slice (some ⟨gd, od, none⟩) X.ds.length c2] 85)
  have q2 : Blk ((w.alloc (.cells #[.slice (some ⟨ge, oe, none⟩) X.es.length c] 31)).alloc (.cells #[.slice (some ⟨gd, od, none⟩) X.ds.length c2] 85)) w.heap.size 31 #[.slice (some ⟨ge, oe, none⟩) X.es.length c] := (Blk.new w _ _).alloc _
  have q3 : Blk ((w.alloc (.cells #[.slice (some ⟨ge, oe, none⟩) X.es.length c] 31)).alloc (.cells #[.slice (some ⟨gd, od, none⟩) X.ds.length c2] 85)) (w.heap.size + 1) 85 #[.slice (some ⟨gd, od, none⟩) X.ds.length c2] := blk_at (by simp)
  obtain ⟨lx, hlx⟩ : ∃ n, w.heap.size = n := ⟨_, rfl⟩
  generalize hwa : (w.alloc (.cells #[.slice (some ⟨ge, oe, none⟩) X.es.length c] 31)).alloc (.cells #[.slice (some ⟨gd, od, none⟩) X.ds.length c2] 85) = wa at hb1 q2 q3 ⊢
  rw [hlx] at q2 q3 ⊢
  have HLX := Lib.hid hlx
  clear hwa hlx
  have HB1 := Lib.hid (And.intro hb1 (And.intro q2 q3))
  have c2' := q2.cell 0
  rw [show (#[.slice (some ⟨ge, oe, none⟩) X.es.length c] : Array Value)[0]? = some (.slice (some ⟨ge, oe, none⟩) X.es.length c) from rfl] at c2'
  have c3' := q3.cell 0
  rw [show (#[.slice (some ⟨gd, od, none⟩) X.ds.length c2] : Array Value)[0]? = some (.slice (some ⟨gd, od, none⟩) X.ds.length c2) from rfl] at c3'
  clear hb1 q2 q3
  refine wp_seq_k fun K0 hK => ?_
  have HK0 := Lib.hid hK
  clear hK
  have hck := Check_any (c := c) (c2 := c2) (HE.out.below HB1.out.1).reads (HD.out.below HB1.out.1) (by omega) (by omega)
  rw [HCC.out] at hck
  have HCK := Lib.hid hck
  clear hck
  go_wp2_with fail
  refine HCK.out.mono ?_
  rintro e w3 ⟨rfl, hb3⟩
  have HB3 := Lib.hid (below_trans HB1.out.1 hb3)
  have HQ3 := Lib.hid (And.intro (HB1.out.2.1.below hb3 HB1.out.2.1.lt) (HB1.out.2.2.below hb3 HB1.out.2.2.lt))
  clear HB1 c2' c3' hb3
  have c2' := HQ3.out.1.cell 0
  rw [show (#[.slice (some ⟨ge, oe, none⟩) X.es.length c] : Array Value)[0]? = some (.slice (some ⟨ge, oe, none⟩) X.es.length c) from rfl] at c2'
  have c3' := HQ3.out.2.cell 0
  rw [show (#[.slice (some ⟨gd, od, none⟩) X.ds.length c2] : Array Value)[0]? = some (.slice (some ⟨gd, od, none⟩) X.ds.length c2) from rfl] at c3'
  go_wp2_with fail
  refine HK0.out _ _ ?_
  clear HK0
  try simp only [Act.put]
  refine wp_seq_k fun K0 hK => ?_
  have HK0 := Lib.hid hK
  clear hK
  go_wp2_with fail
  refine (deedsOf_any (HE.out.below HB3.out) (HD.out.below HB3.out) (by omega) hl1 (fun i hi => (HX.out.ok.done i hi).1)).mono ?_
  rintro e w4 ⟨va, rfl, hown, hb4⟩
  rw [← HALL.out] at hown
  obtain ⟨A4, ca, rfl, -⟩ := own_form hown
  have hown2 := own_base hown (HB3.out.size)
  have HB4 := Lib.hid (below_trans HB3.out hb4)
  have HQ4 := Lib.hid (And.intro (HQ3.out.1.below hb4 HQ3.out.1.lt) (HQ3.out.2.below hb4 HQ3.out.2.lt))
  clear HB3 HQ3 c2' c3' hb4 hown
  have HO4 := Lib.hid hown2
  clear hown2
  go_wp2_with fail
  refine HK0.out _ _ ?_
  clear HK0
  try simp only [Act.put]
  have c8 := (Blk.new w4 82 #[.slice A4 X.all.length ca]).cell 0
  rw [show (#[.slice A4 X.all.length ca] : Array Value)[0]? = some (.slice A4 X.all.length ca) from rfl] at c8
  have hn6 : (X.all.length : Int) ≤ 6 := by omega
  have hmm := @run_makeMap Tryz.prog
  refine wp_seq_k fun K0 hK => ?_
  have HK0 := Lib.hid hK
  clear hK
  go_wp2_with fail
  refine HK0.out _ _ ?_
  clear HK0
  try simp only [Act.put]
  refine wp_seq_k fun K0 hK => ?_
  have HK0 := Lib.hid hK
  clear hK
  go_wp2_with fail
  refine HK0.out _ _ ?_
  clear HK0
  try simp only [Act.put]
  refine wp_seq_k fun K0 hK => ?_
  have HK0 := Lib.hid hK
  clear hK
  go_wp2_with fail
  refine HK0.out _ _ ?_
  clear HK0
  try simp only [Act.put]
  refine wp_seq_k fun K0 hK => ?_
  have HK0 := Lib.hid hK
  clear hK
  go_wp2_with fail
  refine HK0.out _ _ ?_
  clear HK0
  try simp only [Act.put]
  refine wp_seq_k fun K0 hK => ?_
  have HK0 := Lib.hid hK
  clear hK
  go_wp2_with fail
  refine HK0.out _ _ ?_
  clear HK0
  try simp only [Act.put]
  have hwk := wk_new (X := X) HB4.out HQ4.out.1 HQ4.out.2 HO4.out
  have HW := Lib.hid hwk
  clear hwk c8 hmm
  refine wp_seq_k fun K0 hK => ?_
  have HK0 := Lib.hid hK
  clear hK
  refine wp_seq_k fun K1 hK => ?_
  have HK1 := Lib.hid hK
  clear hK
  have hwl := HW.out.wk.lt
  have hal := HW.out.al.lt
  refine se_run (n := X.all.length) (bb := rr.1.isSome) (b := (⟨w4.heap.size + 1 + 1, w4.heap.size, lx + 1, lx, w4.heap.size + 1 + 1 + 1, w4.heap.size + 1 + 1 + 1 + 1, w4.heap.size + 1⟩ : WB)) (R := fun w' => ∃ vo', WkAt w X (⟨w4.heap.size + 1 + 1, w4.heap.size, lx + 1, lx, w4.heap.size + 1 + 1 + 1, w4.heap.size + 1 + 1 + 1 + 1, w4.heap.size + 1⟩ : WB) (.slice (some ⟨ge, oe, none⟩) X.es.length c) (.slice (some ⟨gd, od, none⟩) X.ds.length c2) (.slice A4 X.all.length ca) vo' (rr.1.getD []) rr.2 w') ⟨HW.out.wk.cell 0, HW.out.al.cell 0⟩ hwl hal hfew (fun q V hV hm hq => ?_) (fun w' ⟨v, h⟩ => ⟨h.wk.cell 0, h.al.cell 0⟩) ?_
  · have hc := HWK.out _ _ (2 ^ X.all.length - 1) [] [] (.slice none 0 0) q ows0 V HF.out.1 H64.out HF.out.2.2 (by simp; exact HF.out.2.1) (HW.out.below hV) hm (fun hc => ?_)
    · rw [HRR.out] at hc
      refine hc.mono ?_
      rintro e w' ⟨h1, v, h2, _⟩
      exact ⟨h1, v, h2⟩
    · rcases hc with e | ⟨t, _, hs, _⟩
      · have h1 : w4.heap.size + 1 = q := e
        have h2 : (((((w4.alloc (.cells #[.slice A4 X.all.length ca] 82)).alloc (.map #[] 0)).alloc (.cells #[.map (some (w4.heap.size + 1))] 140)).alloc (.cells #[.slice none 0 0] 82)).alloc (.cells #[.func (.func 79) #[] #[.pointer (some ⟨w4.heap.size + 1 + 1, 0, none⟩), .pointer (some ⟨w4.heap.size, 0, none⟩), .pointer (some ⟨lx + 1, 0, none⟩), .pointer (some ⟨lx, 0, none⟩), .pointer (some ⟨w4.heap.size + 1 + 1 + 1, 0, none⟩), .pointer (some ⟨w4.heap.size + 1 + 1 + 1 + 1, 0, none⟩)]] 141)).heap.size = w4.heap.size + 1 + 1 + 1 + 1 + 1 := by simp
        rw [h2] at hq
        omega
      · simp [mdl0, ten0] at hs
  intro s29 s30 s31 s32 s33 s34 s35 wF hF
  obtain ⟨vo, hF⟩ := hF
  have HFF := Lib.hid hF
  clear hF
  try dsimp only [Exit.inBlock, Exit.then]
  refine HK1.out _ _ ?_
  clear HK1
  obtain ⟨ro, rd⟩ := rr
  cases ro with
  | none =>
    go_wp2_with fail
    go_ret2
    exact ⟨HFF.out.bel, fun _ => rfl, fun l h => (by cases h)⟩
  | some o =>
    go_wp2_with fail
    refine HK0.out _ _ ?_
    clear HK0
    have cod := HFF.out.od.cell 0
    rw [show (#[vo] : Array Value)[0]? = some vo from rfl] at cod
    go_wp2_with fail
    go_ret2
    refine ⟨HFF.out.bel, fun h => (by cases h), fun l h => ?_⟩
    injection h with h
    subst h
    exact ⟨vo, rfl, HFF.out.orow⟩
end Go.Proofs.YtkgflepgkhnclaaGreatDoor
namespace Go.Proofs.YtkgflepgkhnclaaGreatDoor
open Go.RowKit Go.Shelf
set_option linter.unusedVariables false
set_option linter.unusedSimpArgs false

set_option maxHeartbeats 1600000 in
theorem ints_same (l : List Nat) (A B : Option Addr) (ca cb W1 W2 : Nat) (w : World) (hl : l.length ≤ 1000000) (hA : Reads w W1 1 A l.length (l.map intV)) (hB : Reads w W2 1 B l.length (l.map intV)) :
    Calls Tryz.prog 37 #[.slice A l.length ca, .slice B l.length cb] w (SameEnd true w) := by
  have HA := Lib.hid hA
  have HB := Lib.hid hB
  clear hA hB
  have hlb : ((l.length : Int) != (l.length : Int)) = false := by simp
  go_enter Tryz.func37, Tryz.ntmps37
  go_wp2_with fail
  clear hlb
  go_loopw [13] (fun i wr => ∃ (k : Nat) (n : Nat), k ≤ l.length ∧ i = .int .i64 k ∧ Hid (wr = w.drewN n)) (fun i _ => l.length - (intOf i).toNat)
  case atStart => exact ⟨0, 0, by omega, rfl, Lib.hid rfl⟩
  case round =>
    obtain ⟨k, n, hk, rfl, hw⟩ := hrel
    by_cases hlt : k < l.length
    · obtain ⟨ad, rfl, hab, hc⟩ := HA.out.2 (by omega)
      obtain ⟨bd, rfl, hbb, hd⟩ := HB.out.2 (by omega)
      have q0 : wr.cell? (ad.add k) = some (.int .i64 (l[k] : Nat)) := by rw [hw.out]; exact hc k _ (by simp [hlt, intV])
      have p0 : wr.cell? (bd.add k) = some (.int .i64 (l[k] : Nat)) := by rw [hw.out]; exact hd k _ (by simp [hlt, intV])
      have i1 : (0 : Int) ≤ (k : Int) := by omega
      have i2 : (k : Int) < (l.length : Int) := by omega
      generalize l[k] = x at q0 p0
      have hxx : ((x : Int) != (x : Int)) = false := by simp
      clear hc hd
      go_wp2_with fail
      go_quiet (fail)
      go_wp2
      go_roundw
      case rel => exact ⟨k + 1, _, by omega, by go_num, Lib.hid (by rw [hw.out, World.drewN_drewN])⟩
      case measure => simp [intOf]; omega
    · obtain rfl : k = l.length := by omega
      go_wp2
      go_ret
      exact ⟨rfl, n, hw.out⟩
end Go.Proofs.YtkgflepgkhnclaaGreatDoor
namespace Go.Proofs.YtkgflepgkhnclaaGreatDoor
open Go.RowKit Go.Shelf
set_option linter.unusedVariables false
set_option linter.unusedSimpArgs false
attribute [local go_sem] run_store_complex

def sA : ByteArray := ⟨#[97]⟩
def sX : ByteArray := ⟨#[120]⟩
def s0 : ByteArray := ⟨#[]⟩
/-- The example's entries. -/
def exE : List Ent := [⟨0, ⟨7, 0, 0, 0, s0, s0, s0, 0, 1, 1, 9, 0⟩⟩, ⟨0, ⟨2, 1, 1, 7, sA, sX, s0, 0, 0, 0, 0, 0⟩⟩, ⟨1, ⟨1, 1, 1, 7, sA, s0, s0, 0, 0, 0, 0, 0⟩⟩]
def exDn (e f a t : Int) (v : ByteArray) : Dn := ⟨e, f, a, t, 0, v, none, 0, 0, ⟨0, 0, 0⟩, 0, 0, 0, 0, 0, 0, 0, 0, 0, 0, 0, 0⟩
/-- The example's Dones. -/
def exD (f1 a1 t1 f2 a2 t2 : Int) : List Dn := [exDn 0 0 0 0 s0, exDn 1 f1 a1 t1 s0, exDn 2 f2 a2 t2 sX]
abbrev noP : Nat → List Kv := fun _ => []
def exX (f1 a1 t1 f2 a2 t2 : Int) : Sx := ⟨exE, exD f1 a1 t1 f2 a2 t2, noP, [0, 1, 2], Lib.goPrintTabs⟩
theorem ex_i64 {n : Int} (h1 : -100 ≤ n) (h2 : n ≤ 100) : I64 n := ⟨by omega, by omega⟩
theorem ex_req {r : Req} (h : r ∈ exE.map (·.r)) : r.ok ∧ r.qk ≤ 50 ∧ r.qb ≤ 50 ∧ r.deed ≠ 6 := by
  have hs : s0.size = 0 ∧ sA.size = 1 ∧ sX.size = 1 := ⟨rfl, rfl, rfl⟩
  simp only [exE, List.map_cons, List.map_nil, List.mem_cons, List.mem_nil_iff, or_false] at h
  rcases h with rfl | rfl | rfl
  all_goals
    refine ⟨⟨ex_i64 (by decide) (by decide), ex_i64 (by decide) (by decide), by decide, by decide, ?_, ?_, ?_, ex_i64 (by decide) (by decide), ex_i64 (by decide) (by decide), by decide, by decide, by decide⟩, by decide, by decide, by decide⟩
  all_goals dsimp only
  all_goals first
    | (rw [hs.1]; omega)
    | (rw [hs.2.1]; omega)
    | (rw [hs.2.2]; omega)
theorem ex_ent (j : Nat) (hj : j < exE.length) : exE[j].r.ok ∧ exE[j].r.qk ≤ 50 ∧ exE[j].r.qb ≤ 50 ∧ exE[j].r.deed ≠ 6 := ex_req (List.mem_map_of_mem (List.getElem_mem hj))
theorem ex_rp {w : World} (f1 a1 t1 f2 a2 t2 : Int) : RpOk w exE (exD f1 a1 t1 f2 a2 t2) noP 0 where
  pos := by simp [exD]
  few := by simp [exD]
  few2 := by simp [exE]
  done := fun i hi => by
    have rd : ∀ A : Option Addr, Reads w 0 2 A 0 [] := fun A => ⟨rfl, fun h => absurd h (by omega)⟩
    have dk : ∀ e f a t v, DnOk (exDn e f a t v) [] := fun e f a t v => ⟨⟨by simp [exDn], by simp [exDn]⟩, by simp [exDn], rfl, by simp⟩
    match i, hi with
    | 0, _ => exact ⟨⟨0, rfl, by simp [exE]⟩, dk _ _ _ _ _, rd _⟩
    | 1, _ => exact ⟨⟨1, rfl, by simp [exE]⟩, dk _ _ _ _ _, rd _⟩
    | 2, _ => exact ⟨⟨2, rfl, by simp [exE]⟩, dk _ _ _ _ _, rd _⟩
  W1 := Nat.zero_le _
  ent := fun j hj => by
    obtain ⟨h1, h2, _, h4⟩ := ex_ent j hj
    exact ⟨h1, by omega, h4⟩
theorem exX_all (f1 a1 t1 f2 a2 t2 : Int) : (exX f1 a1 t1 f2 a2 t2).all = deedsN exE (exD f1 a1 t1 f2 a2 t2) (exD f1 a1 t1 f2 a2 t2).length := by
  show [0, 1, 2] = deedsN exE (exD f1 a1 t1 f2 a2 t2) 3
  unfold deedsN
  simp [List.range_succ, deedD, exD, exE, exDn]
theorem exX_at {w : World} {f1 a1 t1 f2 a2 t2 : Int} {gE gD : Nat} (ht : Tabs Lib.goPrintTabs w) (hE : Blk w gE 41 (exE.flatMap Ent.row).toArray) (hD : Blk w gD 90 ((exD f1 a1 t1 f2 a2 t2).flatMap Dn.row).toArray) : SxAt w (exX f1 a1 t1 f2 a2 t2) gE 0 gD 0 0 where
  es := ⟨hE.lt, range_blk hE⟩
  ds := ⟨hD.lt, range_blk hD⟩
  ok := ex_rp f1 a1 t1 f2 a2 t2
  all := fun k hk => by
    match k, hk with
    | 0, _ => show 0 < 3; omega
    | 1, _ => show 1 < 3; omega
    | 2, _ => show 2 < 3; omega
  few := by show 3 ≤ 6; omega
  tabs := ht
end Go.Proofs.YtkgflepgkhnclaaGreatDoor
namespace Go.Proofs.YtkgflepgkhnclaaGreatDoor
open Go.RowKit Go.Shelf
set_option linter.unusedVariables false
set_option linter.unusedSimpArgs false
attribute [local go_sem] run_store_complex

theorem ev_w1 : witN exE (exD 1 6 12 2 7 13) noP = (3, 0) := by decide +kernel
theorem ev_w2 : witN exE (exD 1 6 12 2 4 13) noP = (2, 9) := by decide +kernel
theorem ev_r1 : (readyN exE (exD 1 6 12 2 7 13)).2 = 0 := by decide +kernel
theorem ev_r2 : (readyN exE (exD 1 6 12 2 4 13)).2 = 0 := by decide +kernel
theorem ev_c1 : (checkN exE (exD 1 6 12 2 7 13)).2 = 0 := by decide +kernel
theorem ev_c2 : (checkN exE (exD 4 9 15 1 2 3)).2 = 0 := by decide +kernel
theorem ev_s1 : ((exX 1 6 12 2 7 13).walk 8 mdl0 7 [] []).1 = some [0, 1, 2] := by kernel_rfl
theorem ev_s2 : ((exX 4 9 15 1 2 3).walk 8 mdl0 7 [] []).1 = none := by kernel_rfl
def ExEnd (w : World) (e : Ending) (w' : World) : Prop :=
  ∃ gE gD, e = .returned (.tuple #[.slice (some ⟨gE, 0, none⟩) 3 3, .slice (some ⟨gD, 0, none⟩) 3 3]) ∧ Blk w' gE 41 (exE.flatMap Ent.row).toArray ∧ Blk w' gD 90 ((exD 1 6 12 2 7 13).flatMap Dn.row).toArray ∧ Below w.heap.size w w' ∧ w.heap.size ≤ gD ∧ gE ≠ gD
set_option maxHeartbeats 3200000 in
set_option maxRecDepth 100000 in
theorem example_any (w : World) : Calls Tryz.prog 24 #[] w (ExEnd w) := by
  go_enter Tryz.func24, Tryz.ntmps24
  go_wp2_with fail
  go_ret2
  refine ⟨w.heap.size + 1, w.heap.size + 1 + 1, rfl, ?_, ?_, below_alloc (below_alloc (below_box _ _) _) _, by omega, by omega⟩
  · refine Blk.alloc ?_ _
    exact blk_at (by simp)
  · exact blk_at (by simp)
/-- The world of awake, at Dones d. -/
structure AwAt (w : World) (gE gD : Nat) (d : List Dn) (W : World) : Prop where
  e : Blk W gE 41 (exE.flatMap Ent.row).toArray
  d : Blk W gD 90 (d.flatMap Dn.row).toArray
  tabs : Tabs Lib.goPrintTabs w
  bel : Below w.heap.size w W
  ge : w.heap.size ≤ gD
  ne : gE ≠ gD
theorem AwAt.below {w W W' : World} {gE gD : Nat} {d : List Dn} (h : AwAt w gE gD d W) (hb : Below W.heap.size W W') : AwAt w gE gD d W' :=
  ⟨h.e.below hb h.e.lt, h.d.below hb h.d.lt, h.tabs, below_trans h.bel hb, h.ge, h.ne⟩
theorem AwAt.es {w W : World} {gE gD : Nat} {d : List Dn} (h : AwAt w gE gD d W) : EsAt W (some ⟨gE, 0, none⟩) exE := fun _ => ⟨gE, 0, rfl, h.e.lt, range_blk h.e⟩
theorem AwAt.ds {w W : World} {gE gD : Nat} {d : List Dn} (h : AwAt w gE gD d W) : DsAt W (some ⟨gD, 0, none⟩) d := fun _ => ⟨gD, 0, rfl, h.d.lt, range_blk h.d⟩
theorem aw_wit {w W : World} {gE gD c c2 : Nat} {f1 a1 t1 f2 a2 t2 : Int} {r : Nat × Int} (h : AwAt w gE gD (exD f1 a1 t1 f2 a2 t2) W) (h1 : (readyN exE (exD f1 a1 t1 f2 a2 t2)).2 = 0) (h2 : witN exE (exD f1 a1 t1 f2 a2 t2) noP = r) :
    Calls Tryz.prog 35 #[.slice (some ⟨gE, 0, none⟩) 3 c, .slice (some ⟨gD, 0, none⟩) 3 c2] W (ChkEnd r W) := by
  have := witness_any (c := c) (c2 := c2) h.es h.ds (ex_rp f1 a1 t1 f2 a2 t2) h1
  rw [h2] at this
  exact this
theorem aw_sea {w W : World} {gE gD c c2 : Nat} {f1 a1 t1 f2 a2 t2 : Int} {o : Option (List Nat)} (h : AwAt w gE gD (exD f1 a1 t1 f2 a2 t2) W) (h1 : (checkN exE (exD f1 a1 t1 f2 a2 t2)).2 = 0) (h2 : ((exX f1 a1 t1 f2 a2 t2).walk 8 mdl0 7 [] []).1 = o) :
    Calls Tryz.prog 36 #[.slice (some ⟨gE, 0, none⟩) 3 c, .slice (some ⟨gD, 0, none⟩) 3 c2] W (SearchEnd o W) := by
  have := search_any (c := c) (c2 := c2) (exX_at (h.tabs.below h.bel) h.e h.d) QuM (quM_step (fun j hj => by
    obtain ⟨a, b, c, _⟩ := ex_ent j hj
    exact ⟨⟨a.qk.1, b⟩, ⟨a.qb.1, c⟩⟩)) (fun f M h W p O hm => h.tx hm) (exX_all f1 a1 t1 f2 a2 t2) h1 8 (by show 2 ^ 3 - 1 < 8; omega) (by omega) (quM0 (by omega))
  rw [show 2 ^ (exX f1 a1 t1 f2 a2 t2).all.length - 1 = 7 from rfl, h2] at this
  exact this
end Go.Proofs.YtkgflepgkhnclaaGreatDoor
namespace Go.Proofs.YtkgflepgkhnclaaGreatDoor
open Go.RowKit Go.Shelf
set_option linter.unusedVariables false
set_option linter.unusedSimpArgs false
attribute [local go_sem] run_store_complex

theorem AwAt.set {w W : World} {gE gD : Nat} {d d' : List Dn} (h : AwAt w gE gD d W) (j : Nat) (v : Value) (hd : (d.flatMap Dn.row).toArray.setIfInBounds j v = (d'.flatMap Dn.row).toArray) : AwAt w gE gD d' (W.setCell ⟨gD, j, none⟩ v) :=
  ⟨(Below.heap_setCell W _ v gE h.ne).trans h.e, by rw [← hd]; exact h.d.set_ j v, h.tabs, h.bel.setCell (p := ⟨gD, j, none⟩) h.ge v, h.ge, h.ne⟩
theorem st_1 : ((exD 1 6 12 2 7 13).flatMap Dn.row).toArray.setIfInBounds 44 (.int .i64 4) = ((exD 1 6 12 2 4 13).flatMap Dn.row).toArray := rfl
theorem st_2 : (((((((exD 1 6 12 2 4 13).flatMap Dn.row).toArray.setIfInBounds 43 (.int .i64 1)))))) = ((exD 1 6 12 1 4 13).flatMap Dn.row).toArray := rfl
theorem st_3 : ((exD 1 6 12 1 4 13).flatMap Dn.row).toArray.setIfInBounds 44 (.int .i64 2) = ((exD 1 6 12 1 2 13).flatMap Dn.row).toArray := rfl
theorem st_4 : ((exD 1 6 12 1 2 13).flatMap Dn.row).toArray.setIfInBounds 45 (.int .i64 3) = ((exD 1 6 12 1 2 3).flatMap Dn.row).toArray := rfl
theorem st_5 : ((exD 1 6 12 1 2 3).flatMap Dn.row).toArray.setIfInBounds 22 (.int .i64 4) = ((exD 4 6 12 1 2 3).flatMap Dn.row).toArray := rfl
theorem st_6 : ((exD 4 6 12 1 2 3).flatMap Dn.row).toArray.setIfInBounds 23 (.int .i64 9) = ((exD 4 9 12 1 2 3).flatMap Dn.row).toArray := rfl
theorem st_7 : ((exD 4 9 12 1 2 3).flatMap Dn.row).toArray.setIfInBounds 24 (.int .i64 15) = ((exD 4 9 15 1 2 3).flatMap Dn.row).toArray := rfl
/-- As AwAt; and the order that was found. -/
structure LvAt (w : World) (gE gD : Nat) (d : List Dn) (B : Nat) (A : Option Addr) (ca : Nat) (W : World) : Prop where
  aw : AwAt w gE gD d W
  own : W.ownsRow B 3 1 (.slice A 3 ca) 3 ([0, 1, 2].map intV)
  ne : ∀ g, (Value.slice A 3 ca).ownBlock = some g → g ≠ gD
section
variable {w W W' : World} {gE gD B ca : Nat} {d d' : List Dn} {A : Option Addr}
theorem LvAt.below (h : LvAt w gE gD d B A ca W) (hb : Below W.heap.size W W') : LvAt w gE gD d B A ca W' :=
  ⟨h.aw.below hb, own_same h.own fun g e => hb.block g (own_at h.own e).2.1, h.ne⟩
theorem LvAt.set (h : LvAt w gE gD d B A ca W) (j : Nat) (v : Value) (hd : (d.flatMap Dn.row).toArray.setIfInBounds j v = (d'.flatMap Dn.row).toArray) : LvAt w gE gD d' B A ca (W.setCell ⟨gD, j, none⟩ v) :=
  ⟨h.aw.set j v hd, own_same h.own fun g e => Below.heap_setCell W _ v g (h.ne g e), h.ne⟩
end
set_option maxHeartbeats 1600000 in
set_option maxRecDepth 100000 in
theorem awake_any (w : World) (ht : Tabs Lib.goPrintTabs w) : Calls Tryz.prog 14 #[] w (BoolB true w) := by
  have HT := Lib.hid ht
  clear ht
  go_enter Tryz.func14, Tryz.ntmps14
  refine wp_seq_k fun K0 hK => ?_
  have HK0 := Lib.hid hK
  clear hK
  go_wp2_with fail
  refine HK0.out _ _ ?_
  clear HK0
  refine wp_seq_k fun K0 hK => ?_
  have HK0 := Lib.hid hK
  clear hK
  go_wp2_with fail
  refine (example_any _).mono ?_
  rintro e w1 ⟨gE, gD, rfl, hE, hD, hb1, hg, hne⟩
  have H1 : Hid (AwAt w gE gD (exD 1 6 12 2 7 13) w1) := Lib.hid ⟨hE, hD, HT.out, hb1, hg, hne⟩
  clear hE hD hb1 hg hne
  go_wp2_with fail
  refine HK0.out _ _ ?_
  clear HK0
  try simp only [Act.put]
  refine wp_seq_k fun K0 hK => ?_
  have HK0 := Lib.hid hK
  clear hK
  go_wp2_with fail
  refine (aw_wit H1.out ev_r1 ev_w1).mono ?_
  rintro e w2 ⟨rfl, hb2⟩
  have H2 := Lib.hid (H1.out.below hb2)
  clear hb2 H1
  go_wp2_with fail
  refine HK0.out _ _ ?_
  clear HK0
  try simp only [Act.put]
  refine wp_seq_k fun K0 hK => ?_
  have HK0 := Lib.hid hK
  clear hK
  go_wp2_with fail
  refine (aw_sea H2.out ev_c1 ev_s1).mono ?_
  rintro e w3 ⟨hb3, -, hs⟩
  obtain ⟨v, rfl, hv⟩ := hs _ rfl
  obtain ⟨A, ca, rfl, -⟩ := own_form hv
  have hlt := H2.out.d.lt
  have hgv : ∀ g, (Value.slice A 3 ca).ownBlock = some g → g ≠ gD := fun g e => by have := (own_at hv e).1; omega
  have H3 : Hid (LvAt w gE gD (exD 1 6 12 2 7 13) w2.heap.size A ca w3) := Lib.hid ⟨H2.out.below hb3, hv, hgv⟩
  clear hb3 hs hv H2 hlt hgv
  go_wp2_with fail
  refine HK0.out _ _ ?_
  clear HK0
  try simp only [Act.put]
  have c44 : _ = some (Value.int .i64 7) := H3.out.aw.d.cell 44
  have f44 := H3.out.aw.d.frozen 44
  refine wp_seq_k fun K0 hK => ?_
  have HK0 := Lib.hid hK
  clear hK
  go_wp2_with fail
  refine HK0.out _ _ ?_
  clear HK0
  try simp only [Act.put]
  have H4 : Hid (LvAt w gE gD (exD 1 6 12 2 4 13) w2.heap.size A ca (w3.setCell ⟨gD, 44, none⟩ (.int .i64 4))) := Lib.hid (H3.out.set 44 _ st_1)
  clear c44 f44 H3
  generalize w3.setCell ⟨gD, 44, none⟩ (.int .i64 4) = w4 at H4 ⊢
  refine wp_seq_k fun K0 hK => ?_
  have HK0 := Lib.hid hK
  clear hK
  go_wp2_with fail
  refine (aw_wit H4.out.aw ev_r2 ev_w2).mono ?_
  rintro e w5 ⟨rfl, hb5⟩
  have H5 := Lib.hid (H4.out.below hb5)
  clear hb5 H4
  go_wp2_with fail
  refine HK0.out _ _ ?_
  clear HK0
  try simp only [Act.put]
  have c43 : _ = some (Value.int .i64 2) := H5.out.aw.d.cell 43
  have f43 := H5.out.aw.d.frozen 43
  have c44 : _ = some (Value.int .i64 4) := H5.out.aw.d.cell 44
  have f44 := H5.out.aw.d.frozen 44
  have c45 : _ = some (Value.int .i64 13) := H5.out.aw.d.cell 45
  have f45 := H5.out.aw.d.frozen 45
  refine wp_seq_k fun K0 hK => ?_
  have HK0 := Lib.hid hK
  clear hK
  go_wp2_with fail
  refine HK0.out _ _ ?_
  clear HK0
  try simp only [Act.put]
  have H6 : Hid (LvAt w gE gD (exD 1 6 12 1 2 3) w2.heap.size A ca (((w5.setCell ⟨gD, 43, none⟩ (.int .i64 1)).setCell ⟨gD, 44, none⟩ (.int .i64 2)).setCell ⟨gD, 45, none⟩ (.int .i64 3))) := Lib.hid (((H5.out.set 43 _ st_2).set 44 _ st_3).set 45 _ st_4)
  clear c43 f43 c44 f44 c45 f45 H5
  generalize ((w5.setCell ⟨gD, 43, none⟩ (.int .i64 1)).setCell ⟨gD, 44, none⟩ (.int .i64 2)).setCell ⟨gD, 45, none⟩ (.int .i64 3) = w6 at H6 ⊢
  have c22 : _ = some (Value.int .i64 1) := H6.out.aw.d.cell 22
  have f22 := H6.out.aw.d.frozen 22
  have c23 : _ = some (Value.int .i64 6) := H6.out.aw.d.cell 23
  have f23 := H6.out.aw.d.frozen 23
  have c24 : _ = some (Value.int .i64 12) := H6.out.aw.d.cell 24
  have f24 := H6.out.aw.d.frozen 24
  refine wp_seq_k fun K0 hK => ?_
  have HK0 := Lib.hid hK
  clear hK
  go_wp2_with fail
  refine HK0.out _ _ ?_
  clear HK0
  try simp only [Act.put]
  have H7 : Hid (LvAt w gE gD (exD 4 9 15 1 2 3) w2.heap.size A ca (((w6.setCell ⟨gD, 22, none⟩ (.int .i64 4)).setCell ⟨gD, 23, none⟩ (.int .i64 9)).setCell ⟨gD, 24, none⟩ (.int .i64 15))) := Lib.hid (((H6.out.set 22 _ st_5).set 23 _ st_6).set 24 _ st_7)
  clear c22 f22 c23 f23 c24 f24 H6
  generalize ((w6.setCell ⟨gD, 22, none⟩ (.int .i64 4)).setCell ⟨gD, 23, none⟩ (.int .i64 9)).setCell ⟨gD, 24, none⟩ (.int .i64 15) = w7 at H7 ⊢
  refine wp_seq_k fun K0 hK => ?_
  have HK0 := Lib.hid hK
  clear hK
  go_wp2_with fail
  refine (aw_sea H7.out.aw ev_c2 ev_s2).mono ?_
  rintro e w8 ⟨hb8, hs, -⟩
  obtain rfl := hs rfl
  have H8 := Lib.hid (H7.out.below hb8)
  clear hb8 H7 hs
  go_wp2_with fail
  refine HK0.out _ _ ?_
  clear HK0
  try simp only [Act.put]
  refine wp_seq_k fun K0 hK => ?_
  have HK0 := Lib.hid hK
  clear hK
  go_wp2_with fail
  have H9 := Lib.hid (H8.out.below (below_box w8 (.cells #[.int .i64 0, .int .i64 1, .int .i64 2] 3)))
  refine (ints_same [0, 1, 2] A (some ⟨w8.heap.size, 0, none⟩) ca 3 _ _ _ (by simp) (Reads.of_own H9.out.own) (reads_of_blk (Blk.new w8 _ _) rfl rfl)).mono ?_
  rintro e w10 ⟨rfl, n, rfl⟩
  have H10 := Lib.hid (drewB H9.out.aw.bel n)
  go_wp2_with fail
  refine HK0.out _ _ ?_
  clear HK0
  try simp only [Act.put]
  go_wp2_with fail
  go_ret
  exact ⟨rfl, H10.out⟩
end Go.Proofs.YtkgflepgkhnclaaGreatDoor
namespace Go.Proofs.YtkgflepgkhnclaaGreatDoor
open Go.ChangeShapes Go.WideShapes Go.ChangeAt Go.RowKit Go.Lib Go.Shelf
set_option linter.unusedVariables false
set_option maxRecDepth 100000
set_option linter.unusedSimpArgs false

/-- The tables, in the card's order. -/
abbrev tenLaid : List (String × DataW Unit) := [("math/bits.deBruijn32tab", Rows.laid_math_bits_deBruijn32tab), ("math/bits.deBruijn64tab", Rows.laid_math_bits_deBruijn64tab), ("internal/strconv.uint64pow10", Rows.laid_internal_strconv_uint64pow10), ("unicode/utf8.acceptRanges", Rows.laid_unicode_utf8_acceptRanges), ("strconv.isGraphic", Rows.laid_strconv_isGraphic), ("strconv.isNotPrint16", Rows.laid_strconv_isNotPrint16), ("strconv.isNotPrint32", Rows.laid_strconv_isNotPrint32), ("strconv.isPrint16", Rows.laid_strconv_isPrint16), ("strconv.isPrint32", Rows.laid_strconv_isPrint32), ("unicode/utf8.first", Rows.laid_unicode_utf8_first)]
theorem e_p16 : Rows.laid_strconv_isPrint16 = Lib.sliceData .u16 Lib.goPrintTabs.p16 := by kernel_rfl
theorem e_n16 : Rows.laid_strconv_isNotPrint16 = Lib.sliceData .u16 Lib.goPrintTabs.n16 := by kernel_rfl
theorem e_p32 : Rows.laid_strconv_isPrint32 = Lib.sliceData .u32 Lib.goPrintTabs.p32 := by kernel_rfl
theorem e_n32 : Rows.laid_strconv_isNotPrint32 = Lib.sliceData .u16 Lib.goPrintTabs.n32 := by kernel_rfl
theorem e_first : Rows.laid_unicode_utf8_first = Lib.firstData := by kernel_rfl
theorem e_acc : (Rows.laid_unicode_utf8_acceptRanges : DataW Unit) = Lib.acceptData := by kernel_rfl
theorem tabs_of_laid {W : World} (h : laidMetH Tryz.prog tenLaid W) : Tabs Lib.goPrintTabs W := by
  rw [MakeChecks.laidMetH_plain _ _ _ (by kernel_rfl)] at h
  have r : ∀ n d, (n, d) ∈ tenLaid → Lib.VarReads Tryz.prog W n d := fun n d hm => Lib.laidMet.reads h hm
  refine ⟨?_, ?_⟩
  · refine printTabs_of_reads (ρ := lays177_ren) { lays177 with } ⟨by kernel_rfl, by kernel_rfl, by kernel_rfl, by kernel_rfl, by kernel_rfl, by kernel_rfl, by kernel_rfl, by kernel_rfl, by kernel_rfl, by kernel_rfl⟩ ?_ ?_ ?_ ?_
    · rw [← e_p16]; exact r _ _ (by simp)
    · rw [← e_n16]; exact r _ _ (by simp)
    · rw [← e_p32]; exact r _ _ (by simp)
    · rw [← e_n32]; exact r _ _ (by simp)
  · refine utf8Tabs_of_reads (ρ := lays177_ren) { lays177 with } ⟨by kernel_rfl, by kernel_rfl, by kernel_rfl, by kernel_rfl, by kernel_rfl, by kernel_rfl, by kernel_rfl⟩ ?_ ?_
    · rw [← e_first]; exact r _ _ (by simp)
    · rw [← e_acc]; exact r _ _ (by simp)
/-! ### A world in which the tables lie -/
def litV : DataW Unit → Value
  | .lit (.int k n) => .int k n
  | _ => .bool false
def aggV : DataW Unit → List Value
  | .agg l => l.flatMap fun d => match d with
    | .agg l2 => l2.map litV
    | d => [litV d]
  | _ => []
def litN : DataW Unit → Nat
  | .lit (.int _ n) => n.toNat
  | _ => 0
def sliceN : DataW Unit → List Nat
  | .slice l _ => l.map litN
  | _ => []
def graphN : List Nat := sliceN Rows.laid_strconv_isGraphic
theorem e_gr : Rows.laid_strconv_isGraphic = Lib.sliceData .u16 graphN := by kernel_rfl
noncomputable def laidWorld (os : Os) : World :=
  let N := (World.settled Tryz.prog os).heap.size
  let T := Lib.goPrintTabs
  let w0 := World.holding Tryz.prog os ⟨#[.cells (intCellsOf .u16 graphN) 333, .cells (intCellsOf .u16 T.n16) 333, .cells (intCellsOf .u16 T.n32) 333, .cells (intCellsOf .u16 T.p16) 333, .cells (intCellsOf .u32 T.p32) 34], #[], []⟩
  let put (h : Array Obj) (g : Nat) (cs : Array Value) : Array Obj := h.modify g fun
    | .cells _ t frozen => .cells cs t frozen
    | o => o
  let h0 := put w0.heap 1 (aggV Rows.laid_math_bits_deBruijn32tab).toArray
  let h1 := put h0 2 (aggV Rows.laid_math_bits_deBruijn64tab).toArray
  let h2 := put h1 0 (aggV Rows.laid_internal_strconv_uint64pow10).toArray
  let h3 := put h2 4 (aggV Rows.laid_unicode_utf8_acceptRanges).toArray
  let h4 := put h3 9 #[.slice (some ⟨N, 0, none⟩) graphN.length graphN.length]
  let h5 := put h4 6 #[.slice (some ⟨N + 1, 0, none⟩) T.n16.length T.n16.length]
  let h6 := put h5 8 #[.slice (some ⟨N + 2, 0, none⟩) T.n32.length T.n32.length]
  let h7 := put h6 5 #[.slice (some ⟨N + 3, 0, none⟩) T.p16.length T.p16.length]
  let h8 := put h7 7 #[.slice (some ⟨N + 4, 0, none⟩) T.p32.length T.p32.length]
  let h9 := put h8 3 (aggV Rows.laid_unicode_utf8_first).toArray
  { w0 with heap := h9 }
noncomputable abbrev N0 : Nat := (World.settled Tryz.prog default).heap.size
noncomputable abbrev laidW (os : Os) (args : Array Value) : World := ((laidWorld os).forCall (fun _ _ => 0) ⟨#[], args, []⟩).memory
theorem piece0 (os : Os) (args : Array Value) : LaidIn Tryz.prog (laidW os args) (tenLaid.take 4) [1, 2, 0, 4] :=
  LaidIn.of_run _ 8 (by kernel_rfl) (by kernel_rfl) (by kernel_rfl) (by kernel_rfl)
theorem piece1 (os : Os) (args : Array Value) : LaidIn Tryz.prog (laidW os args) [("strconv.isGraphic", Lib.sliceData .u16 graphN)] [9, N0] :=
  laidIn_slice (t := 334) (e := 333) (te := 333) graphN N0 (by kernel_rfl) (by kernel_rfl) (by kernel_rfl) (by kernel_rfl) (by kernel_rfl) (by kernel_rfl) (by kernel_rfl) (by kernel_rfl) (of_decide_eq_true (by kernel_rfl)) (of_decide_eq_true (by kernel_rfl))
theorem piece2 (os : Os) (args : Array Value) : LaidIn Tryz.prog (laidW os args) [("strconv.isNotPrint16", Lib.sliceData .u16 Lib.goPrintTabs.n16)] [6, N0 + 1] :=
  laidIn_slice (t := 334) (e := 333) (te := 333) Lib.goPrintTabs.n16 (N0 + 1) (by kernel_rfl) (by kernel_rfl) (by kernel_rfl) (by kernel_rfl) (by kernel_rfl) (by kernel_rfl) (by kernel_rfl) (by kernel_rfl) (of_decide_eq_true (by kernel_rfl)) (of_decide_eq_true (by kernel_rfl))
theorem piece3 (os : Os) (args : Array Value) : LaidIn Tryz.prog (laidW os args) [("strconv.isNotPrint32", Lib.sliceData .u16 Lib.goPrintTabs.n32)] [8, N0 + 2] :=
  laidIn_slice (t := 334) (e := 333) (te := 333) Lib.goPrintTabs.n32 (N0 + 2) (by kernel_rfl) (by kernel_rfl) (by kernel_rfl) (by kernel_rfl) (by kernel_rfl) (by kernel_rfl) (by kernel_rfl) (by kernel_rfl) (of_decide_eq_true (by kernel_rfl)) (of_decide_eq_true (by kernel_rfl))
theorem piece4 (os : Os) (args : Array Value) : LaidIn Tryz.prog (laidW os args) [("strconv.isPrint16", Lib.sliceData .u16 Lib.goPrintTabs.p16)] [5, N0 + 3] :=
  laidIn_slice (t := 334) (e := 333) (te := 333) Lib.goPrintTabs.p16 (N0 + 3) (by kernel_rfl) (by kernel_rfl) (by kernel_rfl) (by kernel_rfl) (by kernel_rfl) (by kernel_rfl) (by kernel_rfl) (by kernel_rfl) (of_decide_eq_true (by kernel_rfl)) (of_decide_eq_true (by kernel_rfl))
theorem piece5 (os : Os) (args : Array Value) : LaidIn Tryz.prog (laidW os args) [("strconv.isPrint32", Lib.sliceData .u32 Lib.goPrintTabs.p32)] [7, N0 + 4] :=
  laidIn_slice (t := 336) (e := 34) (te := 34) Lib.goPrintTabs.p32 (N0 + 4) (by kernel_rfl) (by kernel_rfl) (by kernel_rfl) (by kernel_rfl) (by kernel_rfl) (by kernel_rfl) (by kernel_rfl) (by kernel_rfl) (of_decide_eq_true (by kernel_rfl)) (of_decide_eq_true (by kernel_rfl))
theorem piece6 (os : Os) (args : Array Value) : LaidIn Tryz.prog (laidW os args) [("unicode/utf8.first", Rows.laid_unicode_utf8_first)] [3] :=
  LaidIn.of_run _ 8 (by kernel_rfl) (by kernel_rfl) (by kernel_rfl) (by kernel_rfl)
theorem laid_met (os : Os) (args : Array Value) : laidMetH Tryz.prog tenLaid (laidW os args) := by
  rw [MakeChecks.laidMetH_plain _ _ _ (by kernel_rfl)]
  have h := (((((((piece0 os args).append (piece1 os args) (by kernel_rfl)).append (piece2 os args) (by kernel_rfl)).append (piece3 os args) (by kernel_rfl)).append (piece4 os args) (by kernel_rfl)).append (piece5 os args) (by kernel_rfl)).append (piece6 os args) (by kernel_rfl)).met
  rw [← e_gr, ← e_n16, ← e_n32, ← e_p16, ← e_p32] at h
  exact h
end Go.Proofs.YtkgflepgkhnclaaGreatDoor
namespace Go.Proofs.YtkgflepgkhnclaaGreatDoor
open Go.ChangeShapes Go.WideShapes Go.ChangeAt Go.RowKit
set_option linter.unusedVariables false

theorem flatten_at {sz : Nat} : ∀ (rows : List (List Value)) (j : Nat) (u : Value), (∀ r ∈ rows, r.length = sz) → rows.flatten[j]? = some u → ∃ i cs r, rows[i]? = some cs ∧ cs[r]? = some u ∧ j = i * sz + r
  | [], j, u, _, h => by simp at h
  | r :: rows, j, u, hl, h => by
    have hr := hl r (by simp)
    rw [List.flatten_cons, List.getElem?_append] at h
    split at h
    · exact ⟨0, r, j, by simp, h, by omega⟩
    · rename_i hj
      obtain ⟨i, cs, k, h1, h2, h3⟩ := flatten_at rows (j - r.length) u (fun x hx => hl x (by simp [hx])) h
      exact ⟨i + 1, cs, k, by simpa using h1, h2, by rw [Nat.add_mul]; omega⟩
theorem flatten_len {sz : Nat} : ∀ (rows : List (List Value)), (∀ r ∈ rows, r.length = sz) → rows.flatten.length = rows.length * sz
  | [], _ => by simp
  | r :: rows, hl => by
    rw [List.flatten_cons, List.length_append, hl r (by simp), flatten_len rows (fun x hx => hl x (by simp [hx])), List.length_cons, Nat.add_mul]; omega
theorem SliceRows.reads {w : World} {A : Option Addr} {n cap sz : Nat} {rows : List (List Value)} (h : SliceRows w A n cap sz rows) : Reads w w.heap.size sz A n rows.flatten := by
  obtain ⟨h1, h2, h3, h4, h5, h6⟩ := h
  refine ⟨by rw [flatten_len rows h4, h1], fun hn => ?_⟩
  obtain ⟨a, ha, hb, hc⟩ := h6 0 rows[0] (List.getElem?_eq_getElem (by omega))
  refine ⟨a, ha, hb, fun j u hu => ?_⟩
  obtain ⟨i, cs, r, e1, e2, e3⟩ := flatten_at rows j u h4 hu
  obtain ⟨a', ha', _, hc'⟩ := h6 i cs e1
  rw [ha] at ha'
  simp only [Option.some.injEq] at ha'
  subst ha'
  rw [e3]
  exact hc' r u e2

section
variable {H : Type} {enc : TypeId × Value → H} {P : Program} {w : World} {base : Nat} {spare : Nat → Bool} {held : Bool}
theorem open_rows {r : Reach} {b0 : Nat} {t e : TypeId} {ls : List L0} {v : Value} {d : DataW H} {p : List MemPlace} (ht : P.underlying t = some (.slice e)) (hls : leaves P 9 e = some ls) (hC : P.cellsOf e = ls.length) (hpos : 0 < ls.length)
    (hv : Value.okWide P w r b0 t v) (h : DataW.Trod enc P w base spare held t v d p) :
    ∃ (A : Option Addr) (n cap : Nat) (rows : List (List Value)), v = .slice A n cap ∧ rows.length = n ∧ Reads w w.heap.size ls.length A n rows.flatten ∧ (∀ r ∈ rows, Flat ls r) ∧ n ≤ cap ∧ cap ≤ 9223372036854775807 := by
  obtain ⟨a, len, cap, rfl⟩ := okWide_slice ht hv
  obtain ⟨fuel, hf⟩ := h
  obtain ⟨A, n, cap', rows, hc, hs, hfl, _⟩ := open_flat_slice ht hls hC hpos hf
  simp only [Value.cells, List.cons.injEq, Value.slice.injEq, and_true] at hc
  obtain ⟨rfl, rfl, rfl⟩ := hc
  have h2 := hs.2.2.1
  unfold maxLen at h2
  exact ⟨_, _, _, rows, rfl, hs.1, hs.reads, hfl, hs.2.1, by omega⟩
end

theorem cod_of_flat {r : List Value} (h : Flat [.int .u8, .int .u8, .int .u8, .int .u8, .int .u8, .int .u8] r) : ∃ c : Cod, c.ok ∧ r = c.row := by
  obtain ⟨v1, c1, rfl, ⟨n1, rfl, k1⟩, g1⟩ := Flat.cons_inv h
  obtain ⟨v2, c2, rfl, ⟨n2, rfl, k2⟩, g2⟩ := Flat.cons_inv g1
  obtain ⟨v3, c3, rfl, ⟨n3, rfl, k3⟩, g3⟩ := Flat.cons_inv g2
  obtain ⟨v4, c4, rfl, ⟨n4, rfl, k4⟩, g4⟩ := Flat.cons_inv g3
  obtain ⟨v5, c5, rfl, ⟨n5, rfl, k5⟩, g5⟩ := Flat.cons_inv g4
  obtain ⟨v6, c6, rfl, ⟨n6, rfl, k6⟩, g6⟩ := Flat.cons_inv g5
  obtain rfl := g6.nil_inv
  exact ⟨⟨n1, n2, n3, n4, n5, n6⟩, ⟨wf_u8 k1, wf_u8 k2, wf_u8 k3, wf_u8 k4, wf_u8 k5, wf_u8 k6⟩, rfl⟩
theorem cods_of_rows : ∀ (rows : List (List Value)), (∀ r ∈ rows, Flat [.int .u8, .int .u8, .int .u8, .int .u8, .int .u8, .int .u8] r) → ∃ ps : List Cod, (∀ p ∈ ps, p.ok) ∧ ps.length = rows.length ∧ rows.flatten = ps.flatMap Cod.row
  | [], _ => ⟨[], by simp, rfl, rfl⟩
  | r :: rows, h => by
    obtain ⟨c, hc, rfl⟩ := cod_of_flat (h r (by simp))
    obtain ⟨ps, h1, h2, h3⟩ := cods_of_rows rows (fun x hx => h x (by simp [hx]))
    refine ⟨c :: ps, ?_, by simp [h2], by simp [h3]⟩
    intro x hx
    rcases List.mem_cons.1 hx with rfl | hx
    · exact hc
    · exact h1 x hx
section
variable {H : Type} {enc : TypeId × Value → H} {w : World} {base : Nat} {spare : Nat → Bool} {held : Bool}
set_option maxRecDepth 100000 in
theorem open_cods {r : Reach} {b0 : Nat} {v : Value} {d : DataW H} {p : List MemPlace} (hv : Value.okWide Tryz.prog w r b0 22 v) (h : DataW.Trod enc Tryz.prog w base spare held 22 v d p) :
    ∃ (A : Option Addr) (cap : Nat) (cs : List Cod), v = .slice A cs.length cap ∧ Reads w w.heap.size 6 A cs.length (cs.flatMap Cod.row) ∧ (∀ c ∈ cs, c.ok) ∧ cs.length ≤ cap ∧ cap ≤ 9223372036854775807 := by
  obtain ⟨A, n, cap, rows, rfl, hn, hr, hf, h1, h2⟩ := open_rows (ls := [.int .u8, .int .u8, .int .u8, .int .u8, .int .u8, .int .u8]) Tryz.underlying22 (by kernel_rfl) (by kernel_rfl) (by decide) hv h
  obtain ⟨cs, g1, g2, g3⟩ := cods_of_rows rows hf
  rw [g3] at hr
  obtain rfl : cs.length = n := by omega
  exact ⟨A, cap, cs, rfl, hr, g1, h1, h2⟩
end
end Go.Proofs.YtkgflepgkhnclaaGreatDoor
namespace Go.Proofs.YtkgflepgkhnclaaGreatDoor.orderTenantsLaw
open Go.ChangeShapes Go.WideShapes Go.ChangeAt Go.RowKit
set_option linter.unusedVariables false

theorem own : ownKnob Tryz.prog.godebug = none := by kernel_rfl
theorem laid : laidOutB Tryz.prog = true := by kernel_rfl

set_option maxRecDepth 100000 in
theorem lifted (os : Os) (started : os.Started) (H : Type) (enc : TypeId × Value → H) :
    ReturnsInHanded {} Tryz.checked os 3 .any (fun w args => (Rows.orderTenantsSpec.pre enc Tryz.prog Tryz.f3 [] false w args ∧ laidMetH Tryz.prog tenLaid w) ∧ sizedMet enc Tryz.prog Tryz.f3 (OpenSpec.ofChange Rows.orderTenantsSpec) false w args)
      (Rows.orderTenantsSpec.post enc Tryz.prog Tryz.f3 false true false false) := by
  refine returnsInHanded_of_change_and (C := Tryz.checked) (X := fun w _ => laidMetH Tryz.prog tenLaid w) (fun _ _ _ hh h => h.of_heap hh) own started (by kernel_rfl) Tryz.func3
    (ChangeSpec.witness_shaped (enc := enc) (C := Tryz.checked) (os := os) (X := fun w _ => laidMetH Tryz.prog tenLaid w) false (laidWorld os) #[.slice none 0 0] 8 rfl (World.shaped_of_RefB (by kernel_rfl) (by kernel_rfl)) (by kernel_rfl) (by kernel_rfl) (by kernel_rfl) (laid_met os _)) ?_
  intro W base args ds gs before hval0 hW _ _ hL _
  refine law_post (fn := Tryz.f3) (s := Rows.orderTenantsSpec) (n := 3) (tb := 4) laid rfl rfl Tryz.underlying4 (by kernel_rfl) (fun h => ?_) hW ?_
  · match ds, h with
    | [d0], _ => rfl
  · have hval : ∀ (j : Nat) t v, Tryz.f3.params[j]? = some t → args[j]? = some v → Value.okWide Tryz.prog W .any base t v := hval0
    obtain ⟨p, q, hA0, hV, rfl, hfz, hnd⟩ := hW
    have hA : DataW.TrodAll enc Tryz.prog W 0 (fun _ => true) true Tryz.f3.params.toList args.toList ds p := hA0
    rw [Tryz.params3] at hA hval
    obtain ⟨v0, vs0, d0, ds0, p0, q0, hargs, rfl, rfl, h0, r0⟩ := trodAll_cons hA
    obtain ⟨rfl, rfl, rfl⟩ := trodAll_nil r0
    obtain rfl : args = #[v0] := by cases args; simp_all
    clear hA0 hval0
    obtain ⟨A0, k0, cs0, rfl, hr0, ho0, hl0, hc0⟩ := open_cods (hval 0 22 v0 rfl rfl) h0
    exact tenants_of cs0 A0 k0 W (fun W2 hb => awake_any W2 ((tabs_of_laid hL).below hb)) hr0 ho0 hl0 (by omega)

theorem over : Rows.orderTenantsRow.holds Tryz.pinned (OpenSpec.ofChange Rows.orderTenantsSpec) :=
  OpenClaim.holds_of_wide 3 Tryz.f3 rfl rfl rfl rfl rfl rfl rfl ⟨rfl, rfl, rfl, rfl, rfl⟩ rfl rfl rfl rfl rfl (by kernel_rfl) Tryz.func3 (by kernel_rfl)
    (of_decide_eq_true (by kernel_rfl)) (by unfold Func.isWrapper; first | (rw [if_pos (by decide +kernel)]; kernel_rfl) | (rw [if_neg (by decide +kernel)]; exact ⟨rfl, rfl⟩))
    (fun os started H enc _ => lifted os started H enc)

theorem proved : Rows.OrderTenantsCardSaid :=
  Claim7.holds_tied_plain_at .later [] [.data, .data, .data, .data, .pinned, .pinned, .pinned, .pinned, .pinned, .pinned] true (true, "3203c62b31f7452b18a8b4b2e724ae355659998d6ce7e64de5debc33216c8404") true
    over (fun _ h => by cases h) (by kernel_rfl) (fun _ h => by cases h) orderTenants_row_tie rfl ⟨rfl, rfl⟩ (by kernel_rfl) rfl
    (fun f fn hf hfn => by
      obtain rfl : f = 3 := Option.some.inj ((show Tryz.prog.funcNamed "burgage/burgagelaw27.OrderTenants" = some 3 by kernel_rfl).symm.trans hf) |>.symm
      obtain rfl : fn = Tryz.f3 := (Option.some.inj (Tryz.func3.symm.trans hfn)).symm
      refine ⟨by kernel_rfl, fun j t ht => ?_⟩
      rw [Tryz.params3] at ht
      have h3 : t = 22 := by
        match j, ht with
        | 0, ht => have e := Option.some.inj ht; subst e; simp
        | j + 1, ht => simp at ht
      subst h3
      exact (show Tryz.prog.wantsStandIn 22 = false by kernel_rfl))
    (by kernel_rfl)
#print axioms proved
end Go.Proofs.YtkgflepgkhnclaaGreatDoor.orderTenantsLaw
