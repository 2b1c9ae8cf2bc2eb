/-
  Layer 8: a row that is only read (a copy, whose blocks may be longer); Copy.
  Layer 7: the kids that a range has seen, and those it has not (no program in sight).
  Layer 8: the iterator over the bytes that have a kid, as a contract of the kit's form.
  Layer 7: FewNext's range over the kids.
  Layer 7: FewOrder's ranges over the kids of two rows.
  A region that draws its order and only reads, walked once, in the round of a range over a function. Over any program.
  Layer 7: the reference row: Next, New.
  Layer 8: the first byte that has a kid, and Next (no program in sight).
  Layer 8: the iterator that All returns: it ranges over the iterator over the bytes of a copy.
  Layer 9: nodes as plain data, and what package node computes of them (no program in sight but the types' numbers).
  Layer 9: walks of the small functions.
  Layer 9: walks of the conditions on the parts of a node.
  Layer 9: rising, refs, all.
  Layer 9: refs, all.
-/
import Derived.Test.YtgjgcbemgmkncaaGreatDoorNb
import Derived.Sort.BigQuietIn
import Derived.Deep.RegionHeld3
namespace Go.Proofs.YtgjgcbemgmkncaaGreatDoor
open Go.RowKit Go.Shelf
set_option linter.unusedVariables false
set_option linter.unusedSimpArgs false

/-- What is read of a row: the positions of the bytes and the Refs. -/
def RBlk (W : World) (g gr room : Nat) (o : ManyO) : Prop := ∃ (mc rc : List Value) (cap : Nat), Blk W g 113 mc.toArray ∧ Blk W gr 29 rc.toArray ∧ (∀ b, b < 256 → mc[b]? = some (.int .u16 (o.at_ b : Int))) ∧ mc[256]? = some (.slice (some ⟨gr, 0, none⟩) room cap) ∧ ∀ p, p < room → rc[p * 2]? = some (.int .i64 (o.refs p).1) ∧ rc[p * 2 + 1]? = some (.int .u32 (o.refs p).2)
theorem MBlk.read {W : World} {g gr gu room : Nat} {o : ManyO} (h : MBlk W g gr gu room o) : RBlk W g gr room o :=
  ⟨_, _, _, h.1, h.2.1, fun b hb => mcells_at o gr gu room hb, (mcells_sl o gr gu room).1, fun p hp => rcells_at o room hp⟩
def ReadAt (W : World) (g gr room : Nat) (f : Kids) : Prop := ∃ o : ManyO, o.rep room f ∧ RBlk W g gr room o ∧ 0 < room ∧ room ≤ 256
theorem ManyAt.read {W : World} {g gr gu room : Nat} {f : Kids} (h : ManyAt W g gr gu room f) : ReadAt W g gr room f := by
  obtain ⟨o, h1, h2, h3⟩ := h
  exact ⟨o, h1, h2.read, h3⟩
theorem ReadAt.keep {W W' : World} {g gr room : Nat} {f : Kids} (h : ReadAt W g gr room f) (hk : ∀ k t cs, k = g ∨ k = gr → Blk W k t cs → Blk W' k t cs) : ReadAt W' g gr room f := by
  obtain ⟨o, h1, ⟨mc, rc, cap, h2, h3, h4⟩, h5⟩ := h
  exact ⟨o, h1, ⟨mc, rc, cap, hk _ _ _ (.inl rfl) h2, hk _ _ _ (.inr rfl) h3, h4⟩, h5⟩
theorem ReadAt.below {W W' : World} {g gr room : Nat} {f : Kids} (h : ReadAt W g gr room f) (hb : Below W.heap.size W W') : ReadAt W' g gr room f := h.keep fun k t cs _ hk => hk.below hb hk.lt
theorem ReadAt.drewN {W : World} {g gr room : Nat} {f : Kids} (h : ReadAt W g gr room f) (n : Nat) : ReadAt (W.drewN n) g gr room f := h.keep fun k t cs _ hk => hk.drewN n
theorem ReadAt.lt {W : World} {g gr room : Nat} {f : Kids} (h : ReadAt W g gr room f) : g < W.heap.size ∧ gr < W.heap.size := by
  obtain ⟨o, h1, ⟨mc, rc, cap, h2, h3, h4⟩, h5⟩ := h
  exact ⟨h2.lt, h3.lt⟩
theorem RBlk.at_ {W : World} {g gr room : Nat} {o : ManyO} (h : RBlk W g gr room o) {b : Nat} (hb : b < 256) : W.cell? ⟨g, b, none⟩ = some (.int .u16 (o.at_ b : Int)) := by
  obtain ⟨mc, rc, cap, h2, h3, h4, h5, h6⟩ := h
  exact (h2.cell b).trans (by rw [List.getElem?_toArray]; exact h4 b hb)
theorem RBlk.sl {W : World} {g gr room : Nat} {o : ManyO} (h : RBlk W g gr room o) : ∃ cap, W.cell? ⟨g, 256, none⟩ = some (.slice (some ⟨gr, 0, none⟩) room cap) := by
  obtain ⟨mc, rc, cap, h2, h3, h4, h5, h6⟩ := h
  exact ⟨cap, (h2.cell 256).trans (by rw [List.getElem?_toArray]; exact h5)⟩
theorem RBlk.ref {W : World} {g gr room : Nat} {o : ManyO} (h : RBlk W g gr room o) {p : Nat} (hp : p < room) : W.cell? ⟨gr, p * 2, none⟩ = some (.int .i64 (o.refs p).1) ∧ W.cell? ⟨gr, p * 2 + 1, none⟩ = some (.int .u32 (o.refs p).2) := by
  obtain ⟨mc, rc, cap, h2, h3, h4, h5, h6⟩ := h
  exact ⟨(h3.cell _).trans (by rw [List.getElem?_toArray]; exact (h6 p hp).1), (h3.cell _).trans (by rw [List.getElem?_toArray]; exact (h6 p hp).2)⟩
theorem rhas (g gr room : Nat) (o : ManyO) (b : Nat) (w : World) (h : RBlk w g gr room o) (hb : b < 256) : Calls Tryz.prog 134 #[.pointer (some ⟨g, 0, none⟩), .int .i64 (b : Int)] w (StayEnd (.bool (decide (0 < o.at_ b))) w) := by
  have c1 := h.at_ hb
  have i1 : (0 : Int) ≤ (b : Int) := by omega
  have i2 : (b : Int) < 256 := by omega
  generalize o.at_ b = n at c1
  clear h
  by_cases hn : 0 < n
  · have i3 : (0 : Int) < (n : Int) := by omega
    go_enter Tryz.func134, Tryz.ntmps134
    go_wp2
    go_ret
    exact ⟨by simp [hn], rfl⟩
  · have i3 : ¬ ((0 : Int) < (n : Int)) := by omega
    go_enter Tryz.func134, Tryz.ntmps134
    go_wp2
    go_ret
    exact ⟨by simp [hn], rfl⟩
theorem rref (g gr room : Nat) (o : ManyO) (b p : Nat) (w : World) (h : RBlk w g gr room o) (hb : b < 256) (hp : p < room) (hroom : room ≤ 256) (hat : o.at_ b = p + 1) : Calls Tryz.prog 135 #[.pointer (some ⟨g, 0, none⟩), .int .i64 (b : Int)] w (fun e w' => e = .returned (.pointer (some ⟨gr, p * 2, none⟩)) ∧ ∃ k, w' = w.drewN k) := by
  have c1 := h.at_ hb
  rw [hat] at c1
  have c1' : w.cell? ⟨g, b, none⟩ = some (.int .u16 ((p : Int) + 1)) := by rw [c1]; simp
  obtain ⟨cap, c2⟩ := h.sl
  have i1 : (0 : Int) ≤ (b : Int) := by omega
  have i2 : (b : Int) < 256 := by omega
  have i3 : (0 : Int) ≤ (p : Int) := by omega
  have i4 : (p : Int) < (room : Int) := by omega
  have i5 : (p : Int) + 1 - 1 = (p : Int) := by omega
  have sw : IntKind.u16.wrap ((p : Int) + 1 - 1) = (p : Int) := by rw [i5]; exact IntWalk.u16_in _ (by omega)
  have sw2 : IntKind.u16.wrap (p : Int) = (p : Int) := IntWalk.u16_in _ (by omega)
  clear h c1 hat
  go_enter Tryz.func135, Tryz.ntmps135
  go_wp2_with fail
  go_quiet (fail)
  go_wp2
  go_ret
  exact ⟨rfl, _, rfl⟩
theorem has_r {g gr room : Nat} {f : Kids} {w : World} (h : ReadAt w g gr room f) {b : Nat} (hb : b < 256) : Calls Tryz.prog 134 #[.pointer (some ⟨g, 0, none⟩), .int .i64 (b : Int)] w (StayEnd (.bool (f b).isSome) w) := by
  obtain ⟨o, h1, h2, h3, h4⟩ := h
  have := rhas g gr room o b w h2 hb
  rw [h1.has hb] at this
  exact this

/-! ### Copy -/
theorem rcells_one (o : ManyO) (room : Nat) : ∀ v ∈ rcells o room, v.oneCell' = true := ref_one _
theorem ucells_one (o : ManyO) (room : Nat) : ∀ v ∈ ucells o room, v.oneCell' = true := by
  intro v hv
  obtain ⟨p, _, rfl⟩ := List.mem_map.1 hv
  rfl
theorem rcells_len (o : ManyO) (room : Nat) : (rcells o room).length = room * 2 := by
  unfold rcells
  have h : ∀ l : List (Int × Int), (l.flatMap rrow).length = l.length * 2 := by
    intro l
    induction l with
    | nil => rfl
    | cons x l ih => rw [List.flatMap_cons, List.length_append, ih]; simp [rrow]; omega
  rw [h]
  simp
theorem ucells_len (o : ManyO) (room : Nat) : (ucells o room).length = room := by simp [ucells]
def CloneEnd (T : TypeId) (size n : Nat) (xs : List Value) (w : World) (e : Ending) (w' : World) : Prop := ∃ g cap cur, e = .returned (.slice (some ⟨g, 0, none⟩) n cap) ∧ w.heap.size ≤ g ∧ Blk w' g T cur ∧ cur.toList.take (n * size) = xs ∧ Below w.heap.size w w'
theorem own_clone {T : TypeId} {size n : Nat} {xs : List Value} {w w' : World} {v : Value} (h : w'.ownsRow w.heap.size T size v n xs) (hn : 0 < n) (hb : Below w.heap.size w w') : CloneEnd T size n xs w (.returned v) w' := by
  rcases h.2 with ⟨_, h0⟩ | ⟨g, cap, cur, rfl, hg, hblk, _, _, _, ht⟩
  · omega
  · exact ⟨g, cap, cur, rfl, hg, hblk, ht, hb⟩
set_option maxHeartbeats 2000000 in
set_option maxRecDepth 100000 in
theorem clone_refs (gr room cap : Nat) (o : ManyO) (w : World) (h : Blk w gr 29 (rcells o room).toArray) (h0 : 0 < room) (hroom : room ≤ 256) : Calls Tryz.prog 139 #[.slice (some ⟨gr, 0, none⟩) room cap] w (CloneEnd 29 2 room (rcells o room) w) := by
  obtain ⟨i0, hi, hz0, hz1, hz2⟩ := info_parts infoRef2
  have q : ∀ (w : World) (a : Option Addr) (n c n' c' : Nat), (binOp .eql 24 (.slice a n c) (.slice none n' c')).run Tryz.prog w = .ok (.bool a.isNone) w := fun w a n c n' c' => Lib.run_eql_slice_nil w _ _ a n c n' c' Tryz.underlying24
  have A : Aside (Blk w gr 29 (rcells o room).toArray ∧ 0 < room) := ⟨h, h0⟩
  have hl := rcells_len o room
  clear h h0
  go_enter Tryz.func139, Tryz.ntmps139
  go_wp2_with (at_builtin; refine wpList_append_own _ rfl _ _ 24 rfl w.heap.size 29 i0 (.agg #[.int .i64 0, .int .u32 0]) 2 16 Tryz.underlying24 hi hz0 hz1 hz2 rfl (by decide) _ _ _ rfl (World.ownsRow_made w #[] 0 (Nat.le_refl _) (Nat.zero_le _) rfl) ⟨gr, 0, none⟩ room cap (rcells o room) rfl ?qc1 ?qc2 ?qc3 ?qc4 ?qc5 ?qc6 ?_)
  case qc1 => exact hl
  case qc2 =>
    intro j u hj
    rw [Addr.add_lit]
    refine Lib.cell?_alloc_some _ ?_
    rw [Nat.zero_add]
    exact (A.out.1.cell j).trans (by rw [List.getElem?_toArray]; exact hj)
  case qc3 => exact rcells_one o room
  case qc4 => unfold maxLen; omega
  case qc5 => omega
  case qc6 => simp
  intro v' w1 hown hgrow hnil
  go_wp2
  go_ret
  refine own_clone (by simpa using hown) A.out.2 ?_
  exact ((Below.refl _ w).alloc (Nat.le_refl _) _).grown hgrow (by simp) (by intro k hk; simp [Value.ownBlock] at hk; omega)
set_option maxHeartbeats 2000000 in
set_option maxRecDepth 100000 in
theorem clone_bools (gu room cap : Nat) (o : ManyO) (w : World) (h : Blk w gu 4 (ucells o room).toArray) (h0 : 0 < room) (hroom : room ≤ 256) : Calls Tryz.prog 140 #[.slice (some ⟨gu, 0, none⟩) room cap] w (CloneEnd 4 1 room (ucells o room) w) := by
  obtain ⟨i0, hi, hz0, hz1, hz2⟩ := info_parts infoBool1
  have q : ∀ (w : World) (a : Option Addr) (n c n' c' : Nat), (binOp .eql 107 (.slice a n c) (.slice none n' c')).run Tryz.prog w = .ok (.bool a.isNone) w := fun w a n c n' c' => Lib.run_eql_slice_nil w _ _ a n c n' c' Tryz.underlying107
  have A : Aside (Blk w gu 4 (ucells o room).toArray ∧ 0 < room) := ⟨h, h0⟩
  have hl := ucells_len o room
  clear h h0
  go_enter Tryz.func140, Tryz.ntmps140
  go_wp2_with (at_builtin; refine wpList_append_own _ rfl _ _ 107 rfl w.heap.size 4 i0 (.bool false) 1 1 Tryz.underlying107 hi hz0 hz1 hz2 rfl (by decide) _ _ _ rfl (World.ownsRow_made w #[] 0 (Nat.le_refl _) (Nat.zero_le _) rfl) ⟨gu, 0, none⟩ room cap (ucells o room) rfl ?qc1 ?qc2 ?qc3 ?qc4 ?qc5 ?qc6 ?_)
  case qc1 => simp [hl]
  case qc2 =>
    intro j u hj
    rw [Addr.add_lit]
    refine Lib.cell?_alloc_some _ ?_
    rw [Nat.zero_add]
    exact (A.out.1.cell j).trans (by rw [List.getElem?_toArray]; exact hj)
  case qc3 => exact ucells_one o room
  case qc4 => unfold maxLen; omega
  case qc5 => omega
  case qc6 => simp
  intro v' w1 hown hgrow hnil
  go_wp2
  go_ret
  refine own_clone (by simpa using hown) A.out.2 ?_
  exact ((Below.refl _ w).alloc (Nat.le_refl _) _).grown hgrow (by simp) (by intro k hk; simp [Value.ownBlock] at hk; omega)

theorem fold_pre (L : List Value) : ∀ (A Z R : List Value), L.length = Z.length → (L.zipIdx A.length).foldl (fun (cs : Array Value) x => cs.setIfInBounds x.2 x.1) (A ++ (Z ++ R)).toArray = (A ++ (L ++ R)).toArray := by
  induction L with
  | nil =>
    intro A Z R h
    rw [List.eq_nil_of_length_eq_zero h.symm]
    rfl
  | cons x L ih =>
    intro A Z R h
    cases Z with
    | nil => cases h
    | cons z Z =>
      rw [List.zipIdx_cons, List.foldl_cons]
      have h1 : (A ++ (z :: Z ++ R)).toArray.setIfInBounds A.length x = ((A ++ [x]) ++ (Z ++ R)).toArray := by
        rw [List.setIfInBounds_toArray, List.set_append_right _ _ (Nat.le_refl _), Nat.sub_self, List.cons_append, List.set_cons_zero]
        simp
      have h2 := ih (A ++ [x]) Z R (by simpa using h)
      simp only [List.length_append, List.length_cons, List.length_nil, Nat.zero_add] at h2
      dsimp only
      rw [h1, h2]
      simp
/-- The positions alone. -/
def idxs (o : ManyO) : List Value := (List.range 256).map (fun b => .int .u16 (o.at_ b : Int))
theorem idxs_len (o : ManyO) : (idxs o).length = 256 := by simp [idxs]
theorem idxs_range {W : World} {g : Nat} {o : ManyO} {gr gu room : Nat} {t : TypeId} (h : Blk W g t (mcells o gr gu room).toArray) : W.rangeAt g 0 (idxs o) := by
  intro j v hv
  have hj : j < 256 := by have := (List.getElem?_eq_some_iff.1 hv).1; rwa [idxs_len] at this
  rw [Nat.zero_add]
  refine (h.cell j).trans ?_
  rw [List.getElem?_toArray]
  unfold mcells
  rw [List.getElem?_append_left (by simpa using hj)]
  exact hv
theorem idx_fold (o : ManyO) (v1 v2 : Value) : (((idxs o).zipIdx.foldl (fun (cs : Array Value) x => cs.setIfInBounds x.2 x.1) zeroIdx.toArray).setIfInBounds 256 v1).setIfInBounds 257 v2 = (idxs o ++ [v1, v2]).toArray := by
  have h := fold_pre (idxs o) [] ((List.range 256).map (fun _ => .int .u16 0)) [.slice none 0 0, .slice none 0 0] (by simp [idxs])
  simp only [List.nil_append, List.length_nil] at h
  have e : zeroIdx = (List.range 256).map (fun _ => .int .u16 0) ++ [.slice none 0 0, .slice none 0 0] := rfl
  rw [e, h, List.setIfInBounds_toArray, List.setIfInBounds_toArray, List.set_append_right _ _ (by rw [idxs_len]; omega), List.set_append_right _ _ (by rw [idxs_len]; omega), idxs_len]
  rfl
def CopyMEnd (room : Nat) (f : Kids) (w : World) (e : Ending) (w' : World) : Prop := ∃ g gr, e = .returned (.pointer (some ⟨g, 0, none⟩)) ∧ ReadAt w' g gr room f ∧ w.heap.size ≤ g ∧ w.heap.size ≤ gr ∧ Below w.heap.size w w'
theorem copied {o : ManyO} {room : Nat} {f : Kids} {W : World} {g gr cap : Nat} {cur : Array Value} {v2 : Value} (ho : o.rep room f) (h0 : 0 < room ∧ room ≤ 256) (h1 : Blk W g 113 (idxs o ++ [.slice (some ⟨gr, 0, none⟩) room cap, v2]).toArray) (h2 : Blk W gr 29 cur) (h3 : cur.toList.take (room * 2) = rcells o room) : ReadAt W g gr room f := by
  refine ⟨o, ho, ⟨_, cur.toList, cap, h1, by simpa using h2, fun b hb => ?_, ?_, fun p hp => ?_⟩, h0⟩
  · rw [List.getElem?_append_left (by rw [idxs_len]; exact hb)]
    simp [idxs, hb]
  · rw [List.getElem?_append_right (by rw [idxs_len]; omega), idxs_len]
    rfl
  · obtain ⟨k1, k2⟩ := rcells_at o room hp
    rw [← h3, List.getElem?_take, if_pos (by omega)] at k1 k2
    exact ⟨k1, k2⟩
theorem sCopy {V : World} {g gr gu room : Nat} {o : ManyO} (h : MBlk V g gr gu room o) : V.cell? ⟨g, 256, none⟩ = some (.slice (some ⟨gr, 0, none⟩) room room) ∧ V.cell? ⟨g, 257, none⟩ = some (.slice (some ⟨gu, 0, none⟩) room room) ∧ MBlk V g gr gu room o := ⟨h.sl.1, h.sl.2, h⟩
set_option maxHeartbeats 3200000 in
set_option maxRecDepth 100000 in
theorem Copy_m (g gr gu room : Nat) (f : Kids) (w : World) (h : ManyAt w g gr gu room f) : Calls Tryz.prog 132 #[.pointer (some ⟨g, 0, none⟩)] w (CopyMEnd room f w) := by
  have HT := Lib.hid (there_m h)
  obtain ⟨o, h1, h2, h3, h4⟩ := h
  have hz1 := zero_of infoIdx
  have hz2 := zero_of infoMany
  obtain ⟨Z, hZ⟩ : ∃ Z : List Value, Z = zeroIdx := ⟨_, rfl⟩
  have hne : (Z.toArray = #[]) = False := by rw [hZ]; simp [zeroIdx]
  have hlen : Z.length = 258 := by rw [hZ]; exact idx_len
  rw [← hZ] at hz1 hz2
  obtain ⟨X, hX⟩ : ∃ X : List Value, X = idxs o := ⟨_, rfl⟩
  have hXl : X.length = 256 := by rw [hX]; exact idxs_len o
  obtain ⟨Y, hY⟩ : ∃ Y : List Value, List.foldl (fun (cs : Array Value) x => cs.setIfInBounds x.snd x.fst) Z.toArray X.zipIdx = Y.toArray := ⟨(List.foldl (fun (cs : Array Value) x => cs.setIfInBounds x.snd x.fst) Z.toArray X.zipIdx).toList, by simp⟩
  have hYl : Y.length = 258 ∧ ∀ v1 v2, ((Y.set 256 v1).set 257 v2) = idxs o ++ [v1, v2] := by
    rw [hX, hZ] at hY
    have e : ∀ v1 v2, ((Y.set 256 v1).set 257 v2) = idxs o ++ [v1, v2] := fun v1 v2 => by
      have := idx_fold o v1 v2
      rw [hY, List.setIfInBounds_toArray, List.setIfInBounds_toArray] at this
      simpa using this
    refine ⟨?_, e⟩
    have := congrArg List.length (e undef undef)
    simpa [idxs_len] using this
  have hF2 : ∀ U : List Value, U.length = 258 → List.foldl (fun (cs : Array Value) x => cs.setIfInBounds x.snd x.fst) Z.toArray U.zipIdx = U.toArray := fun U hU => fold_all U Z (by rw [hU, hlen])
  have HY := Lib.hid hYl.2
  replace hYl := hYl.1
  have HZ := Lib.hid (And.intro hZ hX)
  have HO := Lib.hid (And.intro h1 (And.intro h2 (And.intro h3 h4)))
  clear h1 h2 h3 h4 hZ hX
  go_enter Tryz.func132, Tryz.ntmps132
  go_wp2_with fail
  refine HT.out.mono ?_
  rintro e w1 ⟨rfl, rfl⟩
  clear HT
  go_wp2_with fail
  refine wp_region_held_drew (S := (fun V : World => V.cell? ⟨g, 256, none⟩ = some (.slice (some ⟨gr, 0, none⟩) room room) ∧ V.cell? ⟨g, 257, none⟩ = some (.slice (some ⟨gu, 0, none⟩) room room) ∧ MBlk V g gr gu room o)) (by kernel_rfl) ?_ (fun hHeld0 => ?_)
  · exact sCopy HO.out.2.1.drew
  refine wpAnyH_take (i := 0) (v := ?_) rfl (by kernel_rfl) (by kernel_rfl) (by kernel_rfl) (fun _ _ _ h => h) (Or.inl ⟨by rfl, ?_⟩) hHeld0 ?_
  rotate_left
  · (intro w hSw; (try dsimp only at hSw); go_simp <;> with_reducible rfl)
  try simp only [Act.put, List.setIfInBounds_toArray, List.set_cons_zero, List.set_cons_succ]
  refine wpAnyH_take (i := 1) (v := ?_) rfl (by kernel_rfl) (by kernel_rfl) (by kernel_rfl) (fun _ _ _ h => h) (Or.inl ⟨by rfl, ?_⟩) hHeld0 ?_
  rotate_left
  · (intro w hSw; (try dsimp only at hSw); go_simp <;> with_reducible rfl)
  try simp only [Act.put, List.setIfInBounds_toArray, List.set_cons_zero, List.set_cons_succ]
  refine wpAnyH_take (i := 2) (v := ?_) rfl (by kernel_rfl) (by kernel_rfl) (by kernel_rfl) (fun _ _ _ h => h) (Or.inl ⟨by rfl, ?_⟩) hHeld0 ?_
  rotate_left
  · (intro w hSw; (try dsimp only at hSw); go_simp <;> with_reducible rfl)
  try simp only [Act.put, List.setIfInBounds_toArray, List.set_cons_zero, List.set_cons_succ]
  refine wpAnyH_take (i := 3) (v := ?_) rfl (by kernel_rfl) (by kernel_rfl) (by kernel_rfl) (fun _ _ _ h => h) (Or.inl ⟨by rfl, ?_⟩) hHeld0 ?_
  rotate_left
  · (intro w hSw; (try dsimp only at hSw); go_simp <;> with_reducible rfl)
  try simp only [Act.put, List.setIfInBounds_toArray, List.set_cons_zero, List.set_cons_succ]
  refine wpAnyH_take (i := 4) (v := .agg X.toArray) rfl (by kernel_rfl) (by kernel_rfl) (by kernel_rfl) (fun _ _ _ h => h) ?_ hHeld0 ?_
  · exact yieldsIf_load_mid (by kernel_rfl) 109 (.tmp 9) rfl g 0 rfl X _ (fun V hV => by have hV2 : (fun V : World => V.cell? ⟨g, 256, none⟩ = some (.slice (some ⟨gr, 0, none⟩) room room) ∧ V.cell? ⟨g, 257, none⟩ = some (.slice (some ⟨gu, 0, none⟩) room room) ∧ MBlk V g gr gu room o) V := hV; rw [HZ.out.2]; exact idxs_range hV2.2.2.1) Tryz.underlying109 rfl (by rw [HZ.out.2, idxs_len]; kernel_rfl)
  try simp only [Act.put, List.setIfInBounds_toArray, List.set_cons_zero, List.set_cons_succ]
  refine wpAnyH_take (i := 5) (v := ?_) rfl (by kernel_rfl) (by kernel_rfl) (by kernel_rfl) (fun _ _ _ h => h) (Or.inl ⟨by rfl, ?_⟩) hHeld0 ?_
  rotate_left
  · (intro w hSw; (try dsimp only at hSw); go_simp <;> with_reducible rfl)
  try simp only [Act.put, List.setIfInBounds_toArray, List.set_cons_zero, List.set_cons_succ]
  refine wpAnyH_take (i := 6) (v := ?_) rfl (by kernel_rfl) (by kernel_rfl) (by kernel_rfl) (fun _ _ _ h => h) (Or.inl ⟨by rfl, ?_⟩) hHeld0 ?_
  rotate_left
  · (intro w hSw; (try dsimp only at hSw); go_simp <;> with_reducible rfl)
  try simp only [Act.put, List.setIfInBounds_toArray, List.set_cons_zero, List.set_cons_succ]
  refine wpAnyH_take (i := 7) (v := ?_) rfl (by kernel_rfl) (by kernel_rfl) (by kernel_rfl) (fun _ _ _ h => h) (Or.inl ⟨by rfl, ?_⟩) hHeld0 ?_
  rotate_left
  · (intro w hSw; (try dsimp only at hSw); go_simp <;> with_reducible rfl)
  try simp only [Act.put, List.setIfInBounds_toArray, List.set_cons_zero, List.set_cons_succ]
  refine wpAnyH_take (i := 8) (v := ?_) rfl (by kernel_rfl) (by kernel_rfl) (by kernel_rfl) (fun _ _ _ h => h) (Or.inl ⟨by rfl, ?_⟩) hHeld0 ?_
  rotate_left
  · (intro w hSw; (try dsimp only at hSw); go_simp <;> with_reducible rfl)
  try simp only [Act.put, List.setIfInBounds_toArray, List.set_cons_zero, List.set_cons_succ]
  refine wpAnyH_take (i := 9) (v := ?_) rfl (by kernel_rfl) (by kernel_rfl) (by kernel_rfl) (fun _ _ _ h => h) (Or.inl ⟨by rfl, ?_⟩) hHeld0 ?_
  rotate_left
  · (intro w hSw; (try dsimp only at hSw); go_simp <;> with_reducible rfl)
  try simp only [Act.put, List.setIfInBounds_toArray, List.set_cons_zero, List.set_cons_succ]
  refine wpAnyH_take (i := 11) (v := ?_) rfl (by kernel_rfl) (by kernel_rfl) (by kernel_rfl) (fun _ _ _ h => h) (Or.inl ⟨by rfl, ?_⟩) hHeld0 ?_
  rotate_left
  · (intro w hSw; (try dsimp only at hSw); go_simp <;> with_reducible rfl)
  try simp only [Act.put, List.setIfInBounds_toArray, List.set_cons_zero, List.set_cons_succ]
  refine wpAnyH_take (i := 12) (v := ?_) rfl (by kernel_rfl) (by kernel_rfl) (by kernel_rfl) (fun _ _ _ h => h) (Or.inl ⟨by rfl, ?_⟩) hHeld0 ?_
  rotate_left
  · (intro w hSw; (try dsimp only at hSw); go_simp <;> with_reducible rfl)
  try simp only [Act.put, List.setIfInBounds_toArray, List.set_cons_zero, List.set_cons_succ]
  refine wpAnyH_take (i := 13) (v := ?_) rfl (by kernel_rfl) (by kernel_rfl) (by kernel_rfl) (fun _ _ _ h => h) (Or.inl ⟨by rfl, ?_⟩) hHeld0 ?_
  rotate_left
  · (intro w hSw; (try dsimp only at hSw); go_simp <;> with_reducible rfl)
  try simp only [Act.put, List.setIfInBounds_toArray, List.set_cons_zero, List.set_cons_succ]
  refine wpAnyH_take (i := 14) (v := ?_) rfl (by kernel_rfl) (by kernel_rfl) (by kernel_rfl) (fun _ _ _ h => h) (Or.inl ⟨by rfl, ?_⟩) hHeld0 ?_
  rotate_left
  · (intro w hSw; (try dsimp only at hSw); go_simp <;> with_reducible rfl)
  try simp only [Act.put, List.setIfInBounds_toArray, List.set_cons_zero, List.set_cons_succ]
  refine wpAnyH_take (i := 15) (v := ?_) rfl (by kernel_rfl) (by kernel_rfl) (by kernel_rfl) (fun _ _ _ h => h) (Or.inl ⟨by rfl, ?_⟩) hHeld0 ?_
  rotate_left
  · (intro w hSw; (try dsimp only at hSw); go_simp <;> with_reducible rfl)
  try simp only [Act.put, List.setIfInBounds_toArray, List.set_cons_zero, List.set_cons_succ]
  refine wpAnyH_ready (rs := [10]) (by kernel_rfl) (by simp) ?_
  refine AllReadyH.cons rfl (fun K hK => ?_) ?_
  · go_simp
    go_at_call 139
    refine (clone_refs gr room room o _ hHeld0.2.2.2.1 HO.out.2.2.1 HO.out.2.2.2).mono ?_
    rintro e w2 ⟨gr', cap1, cur1, rfl, k1, k2, k3, k4⟩
    refine hK.out _ _ ?_ (fun hHeld1 => ?_)
    · exact sCopy (hHeld0.2.2.below k4)
    clear hK K hHeld0
    try simp only [Act.put, List.setIfInBounds_toArray, List.set_cons_zero, List.set_cons_succ]
    refine wpAnyH_ready (rs := [16]) (by kernel_rfl) (by simp) ?_
    refine AllReadyH.cons rfl (fun K hK => ?_) ?_
    · go_simp
      go_at_call 140
      refine (clone_bools gu room room o _ hHeld1.2.2.2.2 HO.out.2.2.1 HO.out.2.2.2).mono ?_
      rintro e w3 ⟨gu', cap2, cur2, rfl, m1, m2, m3, m4⟩
      refine hK.out _ _ ?_ (fun hHeld2 => ?_)
      · exact sCopy (hHeld1.2.2.below m4)
      clear hK K hHeld1
      try simp only [Act.put, List.setIfInBounds_toArray, List.set_cons_zero, List.set_cons_succ]
      refine wpAnyH_take (i := 17) (v := ?_) rfl (by kernel_rfl) (by kernel_rfl) (by kernel_rfl) (fun _ _ _ h => h) (Or.inl ⟨by rfl, ?_⟩) hHeld2 ?_
      rotate_left
      · (intro w hSw; (try dsimp only at hSw); go_simp <;> with_reducible rfl)
      try simp only [Act.put, List.setIfInBounds_toArray, List.set_cons_zero, List.set_cons_succ]
      refine wpAnyH_take (i := 18) (v := ?_) rfl (by kernel_rfl) (by kernel_rfl) (by kernel_rfl) (fun _ _ _ h => h) (Or.inl ⟨by rfl, ?_⟩) hHeld2 ?_
      rotate_left
      · (intro w hSw; (try dsimp only at hSw); go_simp <;> with_reducible rfl)
      try simp only [Act.put, List.setIfInBounds_toArray, List.set_cons_zero, List.set_cons_succ]
      refine wpAnyH_ready (rs := [19]) (by kernel_rfl) (by simp) ?_
      refine AllReadyH.cons rfl (fun K hK => ?_) ?_
      · go_simp
        refine hK.out _ _ ?_ (fun hHeld3 => ?_)
        · exact sCopy (hHeld2.2.2.alloc _)
        clear hK K hHeld2
        try simp only [Act.put, List.setIfInBounds_toArray, List.set_cons_zero, List.set_cons_succ]
        refine wpAnyH_take (i := 20) (v := ?_) rfl (by kernel_rfl) (by kernel_rfl) (by kernel_rfl) (fun _ _ _ h => h) (Or.inl ⟨by rfl, ?_⟩) hHeld3 ?_
        rotate_left
        · (intro w hSw; (try dsimp only at hSw); go_simp <;> with_reducible rfl)
        try simp only [Act.put, List.setIfInBounds_toArray, List.set_cons_zero, List.set_cons_succ]
        refine wpAnyH_done (by kernel_rfl) ?_ _
        refine (‹∀ (a : Act) (w : World), Code.wp Tryz.prog Code.ret _ a w → _› _ _ ?_)
        go_simp
        refine wp_ret ?_
        go_ret
        rw [HY.out]
        have n1 : Below w1.heap.size w1 w2 := (Below.refl _ w1).drew.trans k4
        have n2 := n1.trans (m4.mono n1.size)
        have n3 : w1.heap.size ≤ gr' := k1
        exact ⟨w3.heap.size, gr', rfl, copied HO.out.1 HO.out.2.2 (Blk.new _ _ _) ((k2.below m4 k2.lt).alloc _) k3, n2.size, n3, n2.alloc n2.size _⟩
      exact AllReadyH.nil
    exact AllReadyH.nil
  exact AllReadyH.nil
end Go.Proofs.YtgjgcbemgmkncaaGreatDoor
namespace Go.Proofs.YtgjgcbemgmkncaaGreatDoor
open Go.RowKit Go.Shelf
set_option linter.unusedVariables false
set_option linter.unusedSimpArgs false

theorem mem_high_of {f : Kids} {b j : Nat} {r : Int × Int} (h1 : b ≤ j) (h2 : j < 256) (hf : f j = some r) : (j, r) ∈ highK f b := by
  refine mem_kidsIn.2 ⟨?_, hf⟩
  refine List.mem_iff_getElem?.2 ⟨j - b, ?_⟩
  rw [List.getElem?_drop, show b + (j - b) = j by omega, List.getElem?_range h2]
theorem high_sorted (f : Kids) {b : Nat} (hb : b ≤ 256) : (highK f b).Pairwise (fun a c => a.1 < c.1) := by
  have h := kids_sorted f
  rw [kids_split f b hb] at h
  exact (List.pairwise_append.1 h).2.1
/-- The kid at hand is the first behind those that were seen. -/
theorem at_next {f : Kids} {pre : List Kid} {x : Kid} (hp : (pre ++ [x]) <+: kidsF f) : f x.1.val = some x.2 ∧ fromOf pre ≤ x.1.val ∧ ∀ j, fromOf pre ≤ j → j < x.1.val → f j = none := by
  have h0 : f x.1.val = some x.2 := kidsF_mem (hp.subset (by simp))
  refine ⟨h0, (next_at hp).2, fun j h1 h2 => ?_⟩
  obtain ⟨t, ht⟩ := hp
  have h := high_rest (f := f) (pre := pre) (rest := x :: t) (by rw [← ht]; simp)
  have hs := high_sorted f (fromOf_le pre)
  rw [h, List.map_cons, List.pairwise_cons] at hs
  cases hj : f j with
  | none => rfl
  | some r =>
    have hm := mem_high_of h1 (by have := x.1.isLt; omega) hj
    rw [h, List.map_cons, List.mem_cons] at hm
    rcases hm with hm | hm
    · injection hm with hm _; omega
    · have := hs.1 _ hm; dsimp only at this; omega
/-- Behind the last kid there is none. -/
theorem at_end {f : Kids} {j : Nat} (h1 : fromOf (kidsF f) ≤ j) (h2 : j < 256) : f j = none := by
  have h := high_rest (f := f) (pre := kidsF f) (rest := []) (by simp)
  cases hj : f j with
  | none => rfl
  | some r =>
    have hm := mem_high_of h1 h2 hj
    rw [h] at hm
    cases hm
end Go.Proofs.YtgjgcbemgmkncaaGreatDoor
namespace Go.Proofs.YtgjgcbemgmkncaaGreatDoor
open Go.RowKit Go.Shelf
set_option linter.unusedVariables false
set_option linter.unusedSimpArgs false
attribute [local go_sem] Oper.semAt_some

/-- A round keeps whatever cells lay in the blocks that B says. -/
structure KeepsC (B : Nat → Prop) (W W' : World) : Prop where
  size : W.heap.size ≤ W'.heap.size
  same : ∀ (k : Nat) (o : Obj), B k → W.heap[k]? = some o → o.isCells = true → W'.heap[k]? = some o
theorem KeepsC.refl (B : Nat → Prop) (W : World) : KeepsC B W W := ⟨Nat.le_refl _, fun _ _ _ h _ => h⟩
theorem KeepsC.trans {B : Nat → Prop} {W1 W2 W3 : World} (h : KeepsC B W1 W2) (k : KeepsC B W2 W3) : KeepsC B W1 W3 := ⟨Nat.le_trans h.size k.size, fun i o hi h1 h2 => k.same i o hi (h.same i o hi h1 h2) h2⟩
theorem KeepsC.book {B : Nat → Prop} (W : World) (l : Nat) (o o' : Obj) (h : W.heap[l]? = some o) (hc : o.isCells = false) : KeepsC B W (W.putObj l o') :=
  ⟨by simp, fun k o2 hk h2 hc2 => by
    by_cases e : k = l
    · subst e; rw [h] at h2; injection h2 with h2; subst h2; rw [hc] at hc2; cases hc2
    · exact (World.putObj_heap_other e).trans h2⟩
theorem KeepsC.blk {B : Nat → Prop} {W W' : World} (h : KeepsC B W W') {g : Nat} {t : TypeId} {cs : Array Value} (hb : Blk W g t cs) (hg : B g) : Blk W' g t cs := h.same g _ hg hb rfl
theorem KeepsC.of_below {B : Nat → Prop} {W W' : World} (h : Below W.heap.size W W') : KeepsC B W W' := ⟨h.size, fun k o _ h1 _ => (h.block k (Array.getElem?_eq_some_iff.1 h1).1).trans h1⟩
theorem KeepsC.setCell {B : Nat → Prop} (W : World) (a : Addr) (v : Value) (h : ¬ B a.block) : KeepsC B W (W.setCell a v) := ⟨by simp [World.setCell], fun k o hk h1 _ => (Below.heap_setCell W a v k (fun e => h (e ▸ hk))).trans h1⟩
theorem KeepsC.many {B : Nat → Prop} {W W' : World} (h : KeepsC B W W') {g gr room : Nat} {f : Kids} (hm : ReadAt W g gr room f) (h1 : B g) (h2 : B gr) : ReadAt W' g gr room f :=
  hm.keep fun k t cs hk hb => h.blk hb (by rcases hk with rfl | rfl <;> assumption)

/-- A byte that has a kid. -/
abbrev KidB (f : Kids) := { b : Fin 256 // (f b.val).isSome = true }
abbrev encB {f : Kids} (x : KidB f) : Array Value := #[.int .i64 (x.1.val : Int)]
/-- Those from m on, below k. -/
def bytesLo (f : Kids) (m : Nat) : Nat → List (KidB f)
  | 0 => []
  | k + 1 => bytesLo f m k ++ (if h : k < 256 ∧ m ≤ k ∧ (f k).isSome = true then [⟨⟨k, h.1⟩, h.2.2⟩] else [])
def bytesF (f : Kids) (m : Nat) : List (KidB f) := bytesLo f m 256
theorem bytesLo_start (f : Kids) (m : Nat) : ∀ k, k ≤ m → bytesLo f m k = []
  | 0, _ => rfl
  | k + 1, h => by
    unfold bytesLo
    rw [bytesLo_start f m k (by omega), dif_neg (by omega)]
    rfl
theorem bytesLo_yes (f : Kids) (m : Nat) {k : Nat} (hm : m ≤ k) (hk : k < 256) (h : (f k).isSome = true) : bytesLo f m (k + 1) = bytesLo f m k ++ [⟨⟨k, hk⟩, h⟩] := by
  conv => lhs; unfold bytesLo
  rw [dif_pos ⟨hk, hm, h⟩]
theorem bytesLo_no (f : Kids) (m : Nat) {k : Nat} (h : (f k).isSome = false) : bytesLo f m (k + 1) = bytesLo f m k := by
  conv => lhs; unfold bytesLo
  rw [dif_neg (by rw [h]; simp), List.append_nil]
theorem bytesLo_prefix_n (f : Kids) (m k : Nat) : ∀ d, bytesLo f m k <+: bytesLo f m (k + d)
  | 0 => List.prefix_refl _
  | d + 1 => by
    have h1 := bytesLo_prefix_n f m k d
    show _ <+: bytesLo f m ((k + d) + 1)
    conv => rhs; unfold bytesLo
    exact h1.trans (List.prefix_append _ _)
theorem bytesLo_prefix (f : Kids) (m : Nat) {k : Nat} (hk : k ≤ 256) : bytesLo f m k <+: bytesF f m := by
  have := bytesLo_prefix_n f m k (256 - k)
  rwa [show k + (256 - k) = 256 by omega] at this
theorem bytesLo_len (f : Kids) (m : Nat) : ∀ k, (bytesLo f m k).length ≤ k
  | 0 => Nat.le_refl _
  | k + 1 => by
    unfold bytesLo
    rw [List.length_append]
    have := bytesLo_len f m k
    split <;> simp <;> omega
theorem bytesF_len (f : Kids) : (bytesF f 0).length = cntK f := by
  have h : ∀ k, k ≤ 256 → (bytesLo f 0 k).length = (lowK f k).length := by
    intro k
    induction k with
    | zero => intro _; rfl
    | succ k ih =>
      intro hk
      rw [low_succ, ← ih (by omega)]
      cases hs : (f k).isSome with
      | true => rw [bytesLo_yes f 0 (by omega) (by omega) hs]; simp
      | false => rw [bytesLo_no f 0 hs]; simp
  exact (h 256 (Nat.le_refl _)).trans (low_all f)

set_option maxHeartbeats 3200000 in
set_option maxRecDepth 100000 in
theorem bytes_stops (Bf Bi g gr room n : Nat) (B : Nat → Prop) (from_ : Int) (f : Kids) (w : World) (hB : B Bf ∧ B Bi ∧ B g ∧ B gr) (hn : 2 ≤ n) (hf : Blk w Bf 3 #[.int .i64 from_]) (hi : Blk w Bi 155 #[.func (.func 134) #[.pointer (some ⟨g, 0, none⟩)] #[]]) (hm : ReadAt w g gr room f) :
    SeqStopsK Fence.wide n Tryz.prog 141 #[.pointer (some ⟨Bf, 0, none⟩), .pointer (some ⟨Bi, 0, none⟩)] encB (KeepsC B) (fun ys => ys = bytesF f (max from_ 0).toNat) (fun pre => pre <+: bytesF f (max from_ 0).toNat) 256 w := fun l J Jx W hW hJ hJx hY h0 => by
  have H0 := Lib.hid (And.intro (hf.below hW hf.lt) (And.intro (hi.below hW hi.lt) (hm.below hW)))
  have HJ := Lib.hid (And.intro hJ (And.intro hJx (And.intro hY h0)))
  have e0 := (hf.below hW hf.lt).cell 0
  simp at e0
  clear hJ hJx hY h0 hf hi hm
  obtain ⟨m, hm⟩ : ∃ m : Nat, (m : Int) = max from_ 0 := ⟨(max from_ 0).toNat, by omega⟩
  have hmt : (max from_ 0).toNat = m := by omega
  rw [hmt]
  refine callsIn_of_wp Tryz.func141 rfl trivial ?_ rfl
  simp only [Tryz.ntmps141, List.size_toArray, List.length_cons, List.length_nil, Nat.reduceAdd, Nat.reduceSub, Array.replicate_succ, Array.replicate_zero, List.push_toArray, List.append_toArray, List.nil_append, List.cons_append]
  refine wpIn_wide.2 ?_
  have hcase : (from_ < 0 ∧ m = 0) ∨ (0 ≤ from_ ∧ from_ = (m : Int)) := by omega
  clear hm hmt
  rcases hcase with ⟨hneg, hm0⟩ | ⟨hpos, hfm⟩
  · have HM0 := Lib.hid hm0
    clear hm0
    go_wp2_with fail
    refine (wpIn_wide (n := n)).1 ?_
    gi_loopw [4] (fun i wr => ∃ k : Nat, m ≤ k ∧ i = .int .i64 k ∧ Hid (J (bytesLo f m (min k 256)) wr ∧ KeepsC B W wr)) (fun i _ => 256 - (intOf i).toNat)
    case atStart => exact ⟨0, by (have := HM0.out; omega), rfl, Lib.hid ⟨by rw [show 0 = m by (have := HM0.out; omega)]; rw [bytesLo_start f m _ (by omega)]; exact HJ.out.2.2.2, KeepsC.refl _ _⟩⟩
    case round =>
      obtain ⟨k, hmk, rfl, HW⟩ := hrel
      by_cases hlt : k < 256
      · have hmin : min k 256 = k := by omega
        rw [hmin] at HW
        have e1 : wr.cell? ⟨Bi, 0, none⟩ = some (.func (.func 134) #[.pointer (some ⟨g, 0, none⟩)] #[]) := (HW.out.2.blk H0.out.2.1 hB.2.1).cell 0
        have hmw := HW.out.2.many H0.out.2.2 hB.2.2.1 hB.2.2.2
        have i1 : (0 : Int) ≤ (k : Int) := by omega
        have i2 : (k : Int) < 256 := by omega
        have hn1 : 1 ≤ n := by omega
        have hHS := (callsIn_wide (n := n - 1)).2 (has_r hmw hlt)
        cases hs : (f k).isSome with
        | false =>
          rw [hs] at hHS
          have HN := Lib.hid (show J (bytesLo f m (min (k + 1) 256)) wr by rw [show min (k + 1) 256 = k + 1 by omega, bytesLo_no f m hs]; exact HW.out.1)
          have HHS := Lib.hid hHS
          clear hHS hs hmw
          gi_wp2_with (fail)
          refine ⟨trivial, ?_⟩
          refine HHS.out.mono ?_
          rintro e w2 ⟨rfl, rfl⟩
          gi_wp2
          refine ⟨fun _ hf => by (cases hf), ?_⟩
          gi_wp2
          go_roundw
          case rel => exact ⟨k + 1, by omega, by go_num, Lib.hid ⟨HN.out, HW.out.2⟩⟩
          case measure => simp [intOf]; omega
        | true =>
          have hlen : (bytesLo f m k).length < 256 := Nat.lt_of_le_of_lt (bytesLo_len f m k) hlt
          have hsucc := bytesLo_yes f m hmk hlt hs
          rw [hs] at hHS
          have hpre := bytesLo_prefix f m (k := k + 1) (by omega)
          rw [hsucc] at hpre
          have HPRE := Lib.hid hpre
          have HSUC : Hid (bytesLo f m (min (k + 1) 256) = bytesLo f m k ++ [⟨⟨k, hlt⟩, hs⟩]) := Lib.hid (by rw [show min (k + 1) 256 = k + 1 by omega, hsucc])
          have HHS := Lib.hid hHS
          have hYd : YieldAt Fence.wide (n - 1) Tryz.prog l (encB ⟨⟨k, hlt⟩, hs⟩) wr (fun e W' => ∃ b : Bool, e = .returned (.bool b) ∧ Hid ((b = true → J (bytesLo f m k ++ [⟨⟨k, hlt⟩, hs⟩]) W' ∧ KeepsC B wr W') ∧ (b = false → Jx (bytesLo f m k ++ [⟨⟨k, hlt⟩, hs⟩]) W'))) :=
            (HJ.out.2.2.1 _ ⟨⟨k, hlt⟩, hs⟩ wr HW.out.1 hlen).mono (fun e W' h => by
              rcases h with ⟨rfl, h1, h2⟩ | ⟨rfl, h1⟩
              · exact ⟨true, rfl, Lib.hid ⟨fun _ => ⟨h1, h2⟩, fun e => by cases e⟩⟩
              · exact ⟨false, rfl, Lib.hid ⟨fun e => by (cases e), fun _ => h1⟩⟩)
          obtain ⟨fn, tmps, assign, body, hy, hR⟩ := hYd
          dsimp only [encB] at hy
          clear hHS hsucc hmw hpre hlen
          gi_wp2_with (fail)
          refine ⟨trivial, ?_⟩
          refine HHS.out.mono ?_
          rintro e w2 ⟨rfl, rfl⟩
          gi_wp2_with (fail)
          refine hR.mono ?_
          rintro e W3 ⟨bb, rfl, hP⟩
          cases bb with
          | true =>
            obtain ⟨hJ3, hk3⟩ := hP.out.1 rfl
            have HN := Lib.hid (And.intro (show J (bytesLo f m (min (k + 1) 256)) W3 by rw [HSUC.out]; exact hJ3) (HW.out.2.trans hk3))
            clear hJ3 hk3 hP hR hy
            gi_wp2
            go_roundw
            case rel => exact ⟨k + 1, by omega, by go_num, HN⟩
            case measure => simp [intOf]; omega
          | false =>
            have hx3 := hP.out.2 rfl
            have HN := Lib.hid hx3
            clear hx3 hP hR hy
            gi_wp2
            refine bodyPost_ret (results_none rfl _ _ _) rfl ?_
            exact ⟨⟨_, rfl⟩, .inr ⟨_, HPRE.out, HN.out⟩⟩
      · have hfin := HW.out.1
        rw [Nat.min_eq_right (by omega)] at hfin
        change J (bytesF f m) wr at hfin
        have HF := Lib.hid hfin
        have i2 : ¬ ((k : Int) < 256) := by omega
        clear hfin
        gi_wp2
        go_end0
        exact ⟨⟨_, rfl⟩, .inl HF.out⟩
  · subst hfm
    go_wp2_with fail
    refine (wpIn_wide (n := n)).1 ?_
    gi_loopw [4] (fun i wr => ∃ k : Nat, m ≤ k ∧ i = .int .i64 k ∧ Hid (J (bytesLo f m (min k 256)) wr ∧ KeepsC B W wr)) (fun i _ => 256 - (intOf i).toNat)
    case atStart => exact ⟨m, by omega, rfl, Lib.hid ⟨by rw [show m = m by omega]; rw [bytesLo_start f m _ (by omega)]; exact HJ.out.2.2.2, KeepsC.refl _ _⟩⟩
    case round =>
      obtain ⟨k, hmk, rfl, HW⟩ := hrel
      by_cases hlt : k < 256
      · have hmin : min k 256 = k := by omega
        rw [hmin] at HW
        have e1 : wr.cell? ⟨Bi, 0, none⟩ = some (.func (.func 134) #[.pointer (some ⟨g, 0, none⟩)] #[]) := (HW.out.2.blk H0.out.2.1 hB.2.1).cell 0
        have hmw := HW.out.2.many H0.out.2.2 hB.2.2.1 hB.2.2.2
        have i1 : (0 : Int) ≤ (k : Int) := by omega
        have i2 : (k : Int) < 256 := by omega
        have hn1 : 1 ≤ n := by omega
        have hHS := (callsIn_wide (n := n - 1)).2 (has_r hmw hlt)
        cases hs : (f k).isSome with
        | false =>
          rw [hs] at hHS
          have HN := Lib.hid (show J (bytesLo f m (min (k + 1) 256)) wr by rw [show min (k + 1) 256 = k + 1 by omega, bytesLo_no f m hs]; exact HW.out.1)
          have HHS := Lib.hid hHS
          clear hHS hs hmw
          gi_wp2_with (fail)
          refine ⟨trivial, ?_⟩
          refine HHS.out.mono ?_
          rintro e w2 ⟨rfl, rfl⟩
          gi_wp2
          refine ⟨fun _ hf => by (cases hf), ?_⟩
          gi_wp2
          go_roundw
          case rel => exact ⟨k + 1, by omega, by go_num, Lib.hid ⟨HN.out, HW.out.2⟩⟩
          case measure => simp [intOf]; omega
        | true =>
          have hlen : (bytesLo f m k).length < 256 := Nat.lt_of_le_of_lt (bytesLo_len f m k) hlt
          have hsucc := bytesLo_yes f m hmk hlt hs
          rw [hs] at hHS
          have hpre := bytesLo_prefix f m (k := k + 1) (by omega)
          rw [hsucc] at hpre
          have HPRE := Lib.hid hpre
          have HSUC : Hid (bytesLo f m (min (k + 1) 256) = bytesLo f m k ++ [⟨⟨k, hlt⟩, hs⟩]) := Lib.hid (by rw [show min (k + 1) 256 = k + 1 by omega, hsucc])
          have HHS := Lib.hid hHS
          have hYd : YieldAt Fence.wide (n - 1) Tryz.prog l (encB ⟨⟨k, hlt⟩, hs⟩) wr (fun e W' => ∃ b : Bool, e = .returned (.bool b) ∧ Hid ((b = true → J (bytesLo f m k ++ [⟨⟨k, hlt⟩, hs⟩]) W' ∧ KeepsC B wr W') ∧ (b = false → Jx (bytesLo f m k ++ [⟨⟨k, hlt⟩, hs⟩]) W'))) :=
            (HJ.out.2.2.1 _ ⟨⟨k, hlt⟩, hs⟩ wr HW.out.1 hlen).mono (fun e W' h => by
              rcases h with ⟨rfl, h1, h2⟩ | ⟨rfl, h1⟩
              · exact ⟨true, rfl, Lib.hid ⟨fun _ => ⟨h1, h2⟩, fun e => by cases e⟩⟩
              · exact ⟨false, rfl, Lib.hid ⟨fun e => by (cases e), fun _ => h1⟩⟩)
          obtain ⟨fn, tmps, assign, body, hy, hR⟩ := hYd
          dsimp only [encB] at hy
          clear hHS hsucc hmw hpre hlen
          gi_wp2_with (fail)
          refine ⟨trivial, ?_⟩
          refine HHS.out.mono ?_
          rintro e w2 ⟨rfl, rfl⟩
          gi_wp2_with (fail)
          refine hR.mono ?_
          rintro e W3 ⟨bb, rfl, hP⟩
          cases bb with
          | true =>
            obtain ⟨hJ3, hk3⟩ := hP.out.1 rfl
            have HN := Lib.hid (And.intro (show J (bytesLo f m (min (k + 1) 256)) W3 by rw [HSUC.out]; exact hJ3) (HW.out.2.trans hk3))
            clear hJ3 hk3 hP hR hy
            gi_wp2
            go_roundw
            case rel => exact ⟨k + 1, by omega, by go_num, HN⟩
            case measure => simp [intOf]; omega
          | false =>
            have hx3 := hP.out.2 rfl
            have HN := Lib.hid hx3
            clear hx3 hP hR hy
            gi_wp2
            refine bodyPost_ret (results_none rfl _ _ _) rfl ?_
            exact ⟨⟨_, rfl⟩, .inr ⟨_, HPRE.out, HN.out⟩⟩
      · have hfin := HW.out.1
        rw [Nat.min_eq_right (by omega)] at hfin
        change J (bytesF f m) wr at hfin
        have HF := Lib.hid hfin
        have i2 : ¬ ((k : Int) < 256) := by omega
        clear hfin
        gi_wp2
        go_end0
        exact ⟨⟨_, rfl⟩, .inl HF.out⟩
/-- bytes's value: a closure over two boxes. -/
theorem bytes_any (from_ : Int) (fv : Value) (hfv : ∃ a b c, fv = .func a b c) (w : World) : Calls Tryz.prog 133 #[.int .i64 from_, fv] w fun e w' => e = .returned (.func (.func 141) #[] #[.pointer (some ⟨w.heap.size, 0, none⟩), .pointer (some ⟨w.heap.size + 1, 0, none⟩)]) ∧ w' = (w.alloc (.cells #[.int .i64 from_] 3)).alloc (.cells #[fv] 155) := by
  obtain ⟨a, b, c, rfl⟩ := hfv
  go_enter Tryz.func133, Tryz.ntmps133
  go_wp2
  go_ret
  exact ⟨rfl, rfl⟩
end Go.Proofs.YtgjgcbemgmkncaaGreatDoor
namespace Go.Proofs.YtgjgcbemgmkncaaGreatDoor
open Go.RowKit Go.Shelf
set_option linter.unusedVariables false
set_option linter.unusedSimpArgs false
attribute [local go_sem] Oper.semAt_some

/-- What holds between two rounds. -/
def NextI (w : World) (lo g g4 g5 g7 : Nat) (f : Kids) (pre : List Kid) (W : World) : Prop :=
  (∃ m : Nat, Blk W g7 3 #[.int .i64 (m : Int)] ∧ m ≤ 256 ∧ (pre <+: kidsF f → m = fromOf pre)) ∧ Blk W g4 4 #[.bool false] ∧ Blk W g5 88 #[.pointer (some ⟨g, 0, none⟩)] ∧ FewAt W g 16 f ∧ (Below w.heap.size w W ∧ lo ≤ W.heap.size)
theorem Blk.own_ {W W' : World} {row : Option Nat} {g : Nat} {t : TypeId} {cs : Array Value} (h : Blk W g t cs) (hg : W.grownBy W' row) (hr : ∀ r, row = some r → ∃ o : Obj, W.heap[r]? = some o ∧ o.isCells = false) : Blk W' g t cs :=
  (grownBy_keeps_cells hg hr h rfl).trans h
theorem FewAt.own_ {W W' : World} {row : Option Nat} {g : Nat} {room : Int} {f : Kids} (h : FewAt W g room f) (hg : W.grownBy W' row) (hr : ∀ r, row = some r → ∃ o : Obj, W.heap[r]? = some o ∧ o.isCells = false) : FewAt W' g room f := by
  obtain ⟨o, h1, h2, h3, h4⟩ := h
  exact ⟨o, h1, h2, h3, h4.own_ hg hr⟩
theorem nextI_own {w wx : World} {g g4 g5 g7 : Nat} {f : Kids} {lo : Nat} (hw : w.heap.size ≤ wx.heap.size) : OwnFrom wx.heap.size (NextI w lo g g4 g5 g7 f) := by
  intro s W W' row hs hg hr
  obtain ⟨⟨m, h1, h2, h3⟩, h4, h5, h6, h7⟩ := hs
  have hr' := fun r e => (hr r e).2
  exact ⟨⟨m, h1.own_ hg hr', h2, h3⟩, h4.own_ hg hr', h5.own_ hg hr', h6.own_ hg hr', ownFrom_below (β := Unit) (Nat.le_refl _) hw () W W' row h7.1 hg hr, Nat.le_trans h7.2 hg.size⟩
theorem nextI_alloc {w : World} {lo g g4 g5 g7 : Nat} {f : Kids} {pre : List Kid} {W : World} (h : NextI w lo g g4 g5 g7 f pre W) (o : Obj) : NextI w lo g g4 g5 g7 f pre (W.alloc o) := by
  obtain ⟨⟨m, h1, h2, h3⟩, h4, h5, h6, h7⟩ := h
  exact ⟨⟨m, h1.alloc o, h2, h3⟩, h4.alloc o, h5.alloc o, h6.alloc o, below_alloc h7.1 o, Nat.le_trans h7.2 (by simp)⟩
theorem FewAt.setOther {W : World} {g : Nat} {room : Int} {f : Kids} {t : TypeId} {cs : Array Value} {p : Addr} (h : FewAt W g room f) (hb : Blk W p.block t cs) (hne : 106 ≠ t) (u : Value) : FewAt (W.setCell p u) g room f := by
  obtain ⟨o, h1, h2, h3, h4⟩ := h
  exact ⟨o, h1, h2, h3, h4.far (p := p) (blk_neF h4 hb hne) u⟩
/-- What the body is told of its variables. -/
def NextA (x : Kid) (lo : Nat) (mk : Nat → Act) (a' : Act) (W : World) : Prop := ∃ B9, lo ≤ B9 ∧ a' = mk B9 ∧ Blk W B9 29 #[.int .i64 x.2.1, .int .u32 x.2.2]

theorem keepsFrom_below {B : Nat} {W W' : World} (h : Below W.heap.size W W') : KeepsFrom B W W' := ⟨h.size, fun k o _ h1 _ => (h.block k (Array.getElem?_eq_some_iff.1 h1).1).trans h1⟩
theorem guardRef : Tryz.prog.eqGuardType Tryz.prog.depth 29 = false := by kernel_rfl
end Go.Proofs.YtgjgcbemgmkncaaGreatDoor
namespace Go.Proofs.YtgjgcbemgmkncaaGreatDoor
open Go.RowKit Go.Shelf
set_option linter.unusedVariables false
set_option linter.unusedSimpArgs false
attribute [local go_sem] Oper.semAt_some

theorem infoU8o : (Tryz.prog.info? 5).map (fun i => (i.zero, i.size, i.bytes)) = some (some (.int .u8 0), 1, 1) := by kernel_rfl
/-- The bytes of kids. -/
def rowB (l : List Kid) : List Value := l.map fun x => .int .u8 (x.1.val : Int)
theorem rowB_snoc (l : List Kid) (x : Kid) : rowB (l ++ [x]) = rowB l ++ [.int .u8 (x.1.val : Int)] := by simp [rowB]
/-- What holds between two rounds: the list of bytes, and the rest of the world. -/
def OrdI (lo gx : Nat) (R : World → Prop) (pre : List Kid) (W : World) : Prop :=
  (∃ v, Blk W gx 23 #[v] ∧ W.ownsRow lo 5 1 v pre.length (rowB pre)) ∧ R W ∧ lo ≤ W.heap.size
/-- What abides whatever is written beyond, or in the block gx. -/
def Stays (lo gx : Nat) (R : World → Prop) : Prop := ∀ W W' row, R W → W.grownBy W' row → (∀ r, row = some r → lo ≤ r ∨ r = gx) → R W'
theorem Stays.alloc {lo gx : Nat} {R : World → Prop} (h : Stays lo gx R) {W : World} (hR : R W) (o : Obj) : R (W.alloc o) := h W _ none hR (World.grownBy_alloc W o none) (fun r e => by cases e)
theorem ownsRow_own {W W' : World} {base : Nat} {e : TypeId} {size n : Nat} {v : Value} {xs : List Value} {row : Option Nat} (h : W.ownsRow base e size v n xs) (hg : W.grownBy W' row) (hr : ∀ r, row = some r → ∃ o : Obj, W.heap[r]? = some o ∧ o.isCells = false) : W'.ownsRow base e size v n xs := by
  refine h.kept hg ?_
  rcases h.2 with ⟨rfl, _⟩ | ⟨g, cap, cur, rfl, _, hgb, _⟩
  · exact .inl rfl
  · refine .inr fun e' => ?_
    obtain ⟨o, ho, hc⟩ := hr g (by simpa [Value.ownBlock] using e'.symm)
    rw [hgb] at ho; cases ho; cases hc
theorem ordI_own {lo gx : Nat} {R : World → Prop} (hR : Stays lo gx R) : OwnFrom lo (OrdI lo gx R) := by
  intro s W W' row hs hg hr
  obtain ⟨⟨v, h1, h2⟩, h3, h4⟩ := hs
  have hr' := fun r e => (hr r e).2
  exact ⟨⟨v, h1.own_ hg hr', ownsRow_own h2 hg hr'⟩, hR W W' row h3 hg (fun r e => .inl (hr r e).1), Nat.le_trans h4 hg.size⟩
theorem ordI_alloc {lo gx : Nat} {R : World → Prop} (hR : Stays lo gx R) {pre : List Kid} {W : World} (h : OrdI lo gx R pre W) (o : Obj) : OrdI lo gx R pre (W.alloc o) := by
  obtain ⟨⟨v, h1, h2⟩, h3, h4⟩ := h
  exact ⟨⟨v, h1.alloc o, h2.alloc o⟩, hR.alloc h3 o, Nat.le_trans h4 (by simp)⟩
/-- Behind the append and the store. -/
theorem appended {W w1 : World} {lo gx : Nat} {R : World → Prop} (hR : Stays lo gx R) {v v' : Value} {n : Nat} {xs ys : List Value} {tmp : Obj}
    (hv : Blk W gx 23 #[v]) (hrow : W.ownsRow lo 5 1 v n xs) (hRW : R W) (hlo : lo ≤ W.heap.size) (hgx : gx < lo) (hown' : w1.ownsRow lo 5 1 v' (n + 1) ys) (hgrow : (W.alloc tmp).grownBy w1 v.ownBlock) :
    Blk w1 gx 23 #[v] ∧ Blk (w1.setCell ⟨gx, 0, none⟩ v') gx 23 #[v'] ∧ (w1.setCell ⟨gx, 0, none⟩ v').ownsRow lo 5 1 v' (n + 1) ys ∧ KeepsFrom lo W (w1.setCell ⟨gx, 0, none⟩ v') ∧ KeepsB lo W (w1.setCell ⟨gx, 0, none⟩ v') ∧ R (w1.setCell ⟨gx, 0, none⟩ v') ∧ lo ≤ (w1.setCell ⟨gx, 0, none⟩ v').heap.size := by
  have hlt := hrow.lt
  have hn : some gx ≠ v.ownBlock := fun e => by have := (hlt gx e.symm).1; omega
  have hv1 : Blk w1 gx 23 #[v] := (hv.alloc tmp).grown hgrow hn
  have hown : ∀ g, v.ownBlock = some g → ∃ cs, Blk (W.alloc tmp) g 5 cs := by
    intro g hg
    rcases (hrow.alloc tmp).2 with ⟨rfl, _⟩ | ⟨g', cap, cur, rfl, _, hgb, _⟩
    · simp [Value.ownBlock] at hg
    · obtain rfl : g' = g := by simpa [Value.ownBlock] using hg
      exact ⟨cur, hgb⟩
  refine ⟨hv1, by simpa using hv1.set_ 0 v', hown'.kept (grownBy_setCell' w1 gx v') ?_, ?_, ?_, ?_, ?_⟩
  · cases hv' : v'.ownBlock with
    | none => exact .inl rfl
    | some g => exact .inr (fun e => by injection e with e; subst e; have := (hown'.lt g hv').1; omega)
  · refine (((KeepsOthers.alloc W tmp).trans (KeepsOthers.of_grownBy hgrow fun j o ej hj => ?_)).trans (KeepsOthers.setCell _ _ _)).from _
    obtain ⟨cs, hcs⟩ := hown j ej
    unfold Blk at hcs
    rw [hcs] at hj
    cases hj; rfl
  · exact ((KeepsB.of_below (below_box W tmp)).trans (KeepsB.of_other hgrow (fun g hg => by obtain ⟨cs, hcs⟩ := hown g hg; exact ⟨_, cs, hcs, by decide⟩))).trans (KeepsB.setCell _ _ _ hgx)
  · exact hR _ _ (some gx) (hR _ _ _ (hR.alloc hRW tmp) hgrow (fun r e => .inl (hlt r e).1)) (grownBy_setCell' w1 gx v') (fun r e => by injection e with e; exact .inr e.symm)
  · have h1 := hgrow.size
    simp at h1
    simp [World.setCell]
    omega

end Go.Proofs.YtgjgcbemgmkncaaGreatDoor
namespace Go.Proofs.YtgjgcbemgmkncaaGreatDoor
open Go.RowKit Go.Shelf
set_option linter.unusedVariables false

section
variable {F : Fence} {n : Nat} {P : Program} {ops : Array Oper} {Q : Exit → Act → World → Prop} {md : Region.Mode}
theorem oper_inRound {o : Oper} {a : Act} {w : World} {K : Act → World → Prop} (l : Nat) (h : ∀ c, o.op ≠ .defer c) (hh : o.wpIn F n P a w K Q) : o.wpIn (F.inRound l) n P a w K Q := by
  unfold Oper.wpIn at *
  rw [Oper.semAt_plain F _ _ h] at hh
  rw [Oper.semAt_plain (F.inRound l) _ _ h]
  exact hh
theorem wpOp_inRound {i : Nat} {a : Act} {w : World} {K : Act → World → Prop} (l : Nat) (h : ∀ o, ops[i]? = some o → ∀ c, o.op ≠ .defer c) (hh : wpOpIn F n P ops Q i K a w) : wpOpIn (F.inRound l) n P ops Q i K a w := by
  unfold wpOpIn at *
  cases ho : ops[i]? with
  | none => simpa [ho] using hh
  | some o =>
    simp only [ho] at hh ⊢
    split
    · rename_i hw; simp only [hw, if_true] at hh; exact oper_inRound l (h o ho) hh
    · rename_i hw; simp only [hw] at hh; exact hh
theorem wpAny_inRound (l : Nat) (h : ∀ (i : Nat) (o : Oper), ops[i]? = some o → ∀ c, o.op ≠ .defer c) : ∀ (fuel : Nat) (listed : Array Bool) (a : Act) (w : World), wpAnyIn F n P md ops Q fuel listed a w → wpAnyIn (F.inRound l) n P md ops Q fuel listed a w
  | 0, _, _, _, hh => hh
  | fuel + 1, _, _, _, hh => ⟨hh.1, fun i hi => wpOpIn_mono (fun a w hK => wpAny_inRound l h fuel _ a w hK) (wpOp_inRound l (h i) (hh.2 i hi))⟩
theorem wpIn_region_quiet_round {id : Nat} {a : Act} {w : World} {ops : List Oper} (l : Nat) (hro : F.round = none) (hm : P.follows .mixedOrders = true) (hB : Region.lexB .any ops.toArray = true) (hd : ops.all (fun o => match o.op with | .defer _ => false | _ => true) = true)
    (h : wpQuietIn F n P ops.toArray (fun w' => ∃ n, w' = w.drewN n) (fun a' => ∀ w', (∃ n, w' = w.drewN n) → Q .normal a' w') ops a) : (Code.region id ops.toArray true).wpIn (F.inRound l) n P Q a w := by
  have hd2 : ∀ (i : Nat) (o : Oper), ops.toArray[i]? = some o → ∀ c, o.op ≠ .defer c := by
    intro i o ho c hc
    have hm := List.mem_of_getElem? (show ops[i]? = some o by simpa using ho)
    have := List.all_eq_true.1 hd o hm
    rw [hc] at this
    cases this
  have hB' := hB
  simp only [Region.lexB, Bool.and_eq_true] at hB'
  refine wpIn_region_any hm (wpAny_inRound l hd2 _ _ _ _ ?_)
  refine wpAnyIn_of_quiet (C := fun w' => ∃ n, w' = w.drewN n) (Q := fun a' => ∀ w', (∃ n, w' = w.drewN n) → Q .normal a' w') hro (fun _ w' hw' h => h w' hw') _ _ _ _ ⟨1, rfl⟩ ?_
  have := wpAnyQIn_lex (F := F) (n := n) (C := fun w' => ∃ n, w' = w.drewN n) (md := .any) hB'.1 ops 0 (Array.replicate ops.toArray.size false) a (by simp) (by simpa using hB'.2) h
  simpa using this
theorem rows_wide {row : String} {args : Array Value} {w : World} {m : Nat} {R : Value → World → Prop} (h : Rows P row args w R) : RowsIn Fence.wide m P row args w R :=
  fun c cs _ => let ⟨v, w', r, s⟩ := h c cs; ⟨v, w', r, stepsIn_wide.2 s⟩
/-- A plain operation's walk serves in a round. -/
theorem oper_round {o : Oper} {a : Act} {w : World} {K : Act → World → Prop} (l m : Nat) (h : ∀ c, o.op ≠ .defer c) (hh : o.wp P a w K Q) : o.wpIn (Fence.wide.inRound l) m P a w K Q := by
  refine ⟨fun f _ => trivial, ?_⟩
  rw [Oper.semAt_plain (Fence.wide.inRound l) _ _ h]
  unfold Oper.wp at hh
  generalize (execOp a.eval o).run P w = r at hh
  cases r with
  | ok x w' =>
    cases x <;> simp only [Oper.upon, Oper.uponIn] at hh ⊢ <;>
      first
        | exact hh
        | exact ⟨fun e => (by cases e), callsIn_wide.2 hh⟩
        | exact ⟨fun e => (by cases e), rows_wide hh⟩
  | halt x w' => cases x <;> simp only [Oper.upon, Oper.uponIn] at hh ⊢ <;> exact hh
theorem wpOp_round {i : Nat} {a : Act} {w : World} {K : Act → World → Prop} (l m : Nat) (hout : ¬ LetsOut Q) (h : ∀ o, ops[i]? = some o → ∀ c, o.op ≠ .defer c) (hh : wpOp P ops Q i K a w) : wpOpIn (Fence.wide.inRound l) m P ops Q i K a w := by
  unfold wpOp at hh
  unfold wpOpIn
  cases ho : ops[i]? with
  | none => simpa [ho] using hh
  | some o =>
    simp only [ho] at hh ⊢
    split
    · rename_i hw; simp only [hw, if_true] at hh; exact oper_round l m (h o ho) (hh.resolve_right (fun e => hout e.2))
    · rename_i hw; simp only [hw] at hh; exact ⟨fun _ _ => trivial, hh⟩
theorem wpAny_round (l m : Nat) (hout : ¬ LetsOut Q) (h : ∀ (i : Nat) (o : Oper), ops[i]? = some o → ∀ c, o.op ≠ .defer c) : ∀ (fuel : Nat) (listed : Array Bool) (a : Act) (w : World), wpAny P md ops Q fuel listed a w → wpAnyIn (Fence.wide.inRound l) m P md ops Q fuel listed a w
  | 0, _, _, _, hh => hh
  | fuel + 1, _, _, _, hh => ⟨hh.1, fun i hi => wpOpIn_mono (fun a w hK => wpAny_round l m hout h fuel _ a w hK) (wpOp_round l m hout (h i) (hh.2 i hi))⟩
/-- A held walk (wpAnyH) of a region in a round. -/
theorem wpIn_region_held_round {id m : Nat} {a : Act} {w : World} {ops : List Oper} {S : World → Prop} (l : Nat) (hout : ¬ LetsOut Q) (hm : P.follows .mixedOrders = true) (hd : ops.all (fun o => match o.op with | .defer _ => false | _ => true) = true) (hS : S w.drew)
    (h : S w.drew → wpAnyH P .any ops.toArray Q S ops.toArray.size (Array.replicate ops.toArray.size false) a w.drew) : (Code.region id ops.toArray true).wpIn (Fence.wide.inRound l) m P Q a w := by
  have hd2 : ∀ (i : Nat) (o : Oper), ops.toArray[i]? = some o → ∀ c, o.op ≠ .defer c := by
    intro i o ho c hc
    have hm := List.mem_of_getElem? (show ops[i]? = some o by simpa using ho)
    have := List.all_eq_true.1 hd o hm
    rw [hc] at this
    cases this
  exact wpIn_region_any hm (wpAny_round l m hout hd2 _ _ _ _ (wpAny_of_held _ _ _ _ (h hS)))
end
end Go.Proofs.YtgjgcbemgmkncaaGreatDoor
namespace Go.Proofs.YtgjgcbemgmkncaaGreatDoor
open Go.RowKit Go.Shelf
set_option linter.unusedVariables false
set_option linter.unusedSimpArgs false

theorem next_high {f : Kids} {from_ : Int} {k : Nat} (h : highK f (clampK from_) = highK f k) {r : Int × Int} (hk : k < 256) (hf : f k = some r) : nextK f from_ = ((k : Int), (r, true)) := by
  unfold nextK
  rw [h, high_succ f k hk, hf]
  rfl
theorem next_none {f : Kids} {from_ : Int} (h : highK f (clampK from_) = highK f 256) : nextK f from_ = (0, ((0, 0), false)) := by
  unfold nextK
  rw [h]
  rfl
end Go.Proofs.YtgjgcbemgmkncaaGreatDoor
namespace Go.Proofs.YtgjgcbemgmkncaaGreatDoor
open Go.RowKit Go.Shelf
set_option linter.unusedVariables false
set_option linter.unusedSimpArgs false

theorem bytesLo_lt (f : Kids) (m : Nat) : ∀ k (x : KidB f), x ∈ bytesLo f m k → m ≤ x.1.val ∧ x.1.val < k
  | 0, x, h => by cases h
  | k + 1, x, h => by
    unfold bytesLo at h
    rcases List.mem_append.1 h with h | h
    · have := bytesLo_lt f m k x h; omega
    · split at h
      · rename_i hc
        simp at h
        subst h
        exact ⟨hc.2.1, by simp⟩
      · cases h
theorem bytesLo_nil (f : Kids) (m : Nat) : ∀ k, k ≤ 256 → bytesLo f m k = [] → ∀ j, m ≤ j → j < k → f j = none
  | 0, _, _, j, _, h => by omega
  | k + 1, hk, h, j, h1, h2 => by
    cases hs : (f k).isSome with
    | true =>
      by_cases hm : m ≤ k
      · rw [bytesLo_yes f m hm (by omega) hs] at h
        simp at h
      · omega
    | false =>
      rw [bytesLo_no f m hs] at h
      by_cases hj : j = k
      · subst hj; simpa using hs
      · exact bytesLo_nil f m k (by omega) h j h1 (by omega)
theorem high_skip (f : Kids) (c : Nat) : ∀ d, c + d ≤ 256 → (∀ j, c ≤ j → j < c + d → f j = none) → highK f c = highK f (c + d)
  | 0, _, _ => rfl
  | d + 1, h, hn => by
    rw [high_skip f c d (by omega) (fun j h1 h2 => hn j h1 (by omega)), high_succ f (c + d) (by omega), hn (c + d) (by omega) (by omega)]
    rfl
/-- The first that is seen is Next's. -/
theorem nx_some {f : Kids} {from_ : Int} {x : KidB f} {r : Int × Int} (h : [x] <+: bytesF f (max from_ 0).toNat) (hf : f x.1.val = some r) : nextK f from_ = ((x.1.val : Int), (r, true)) := by
  obtain ⟨m, hm⟩ : ∃ m : Nat, m = (max from_ 0).toNat := ⟨_, rfl⟩
  rw [← hm] at h
  have hx := x.1.isLt
  have hmem : x ∈ bytesLo f m 256 := h.subset (by simp)
  obtain ⟨h1, _⟩ := bytesLo_lt f m 256 x hmem
  have hp : bytesLo f m (x.1.val + 1) <+: bytesF f m := bytesLo_prefix f m (by omega)
  rw [bytesLo_yes f m h1 hx x.2] at hp
  have hnil : bytesLo f m x.1.val = [] := by
    cases hl : bytesLo f m x.1.val with
    | nil => rfl
    | cons y l =>
      have hy := bytesLo_lt f m x.1.val y (by rw [hl]; simp)
      rw [hl] at hp
      obtain ⟨t1, e1⟩ := h
      obtain ⟨t2, e2⟩ := hp
      rw [← e1] at e2
      simp at e2
      have := e2.1
      subst this
      omega
  have hno := bytesLo_nil f m x.1.val (by omega) hnil
  have hc : clampK from_ ≤ x.1.val ∧ ∀ j, clampK from_ ≤ j → j < x.1.val → f j = none := by
    have : clampK from_ = m ∨ 256 ≤ m := by unfold clampK; split <;> (try split) <;> omega
    rcases this with e | e
    · rw [e]; exact ⟨h1, hno⟩
    · omega
  obtain ⟨d, hd⟩ : ∃ d, x.1.val = clampK from_ + d := ⟨x.1.val - clampK from_, by omega⟩
  refine next_high ?_ hx hf
  rw [hd]
  exact high_skip f _ d (by omega) (fun j h1 h2 => hc.2 j h1 (by omega))
theorem nx_none {f : Kids} {from_ : Int} (h : bytesF f (max from_ 0).toNat = []) : nextK f from_ = (0, ((0, 0), false)) := by
  obtain ⟨m, hm⟩ : ∃ m : Nat, m = (max from_ 0).toNat := ⟨_, rfl⟩
  rw [← hm] at h
  have hno := bytesLo_nil f m 256 (Nat.le_refl _) h
  refine next_none ?_
  have hle := clampK_le from_
  obtain ⟨d, hd⟩ : ∃ d, 256 = clampK from_ + d := ⟨256 - clampK from_, by omega⟩
  rw [high_skip f (clampK from_) d (by omega) (fun j h1 h2 => hno j (by
    have : clampK from_ = m ∨ 256 ≤ m := by unfold clampK; split <;> (try split) <;> omega
    unfold clampK at h1 hd
    split at h1 <;> (try split at h1) <;> (try split at hd) <;> (try split at hd) <;> omega) (by omega)), ← hd]
end Go.Proofs.YtgjgcbemgmkncaaGreatDoor
namespace Go.Proofs.YtgjgcbemgmkncaaGreatDoor
open Go.RowKit Go.Shelf
set_option linter.unusedVariables false
set_option linter.unusedSimpArgs false
attribute [local go_sem] Oper.semAt_some

/-- What the caller of an iterator calls its own: its boxes, and whatever rows these lead to. -/
structure Owns (B : Nat) (own : World → Nat → Prop) : Prop where
  back : ∀ (W W' : World) (row : Option Nat) (k : Nat), B ≤ W.heap.size → W.grownBy W' row → (∀ r, row = some r → B ≤ r) → own W' k → own W k
/-- A round keeps whatever cells are not the caller's own. -/
structure KeepsO (own : World → Nat → Prop) (W W' : World) : Prop where
  size : W.heap.size ≤ W'.heap.size
  same : ∀ (k : Nat) (o : Obj), ¬ own W k → W.heap[k]? = some o → o.isCells = true → W'.heap[k]? = some o
  mine : ∀ k, k < W.heap.size → own W' k → own W k
theorem KeepsO.refl (own : World → Nat → Prop) (W : World) : KeepsO own W W := ⟨Nat.le_refl _, fun _ _ _ h _ => h, fun _ _ h => h⟩
theorem KeepsO.trans {own : World → Nat → Prop} {W1 W2 W3 : World} (h : KeepsO own W1 W2) (k : KeepsO own W2 W3) : KeepsO own W1 W3 :=
  ⟨Nat.le_trans h.size k.size, fun i o hi h1 h2 => k.same i o (fun e => hi (h.mine i (Array.getElem?_eq_some_iff.1 h1).1 e)) (h.same i o hi h1 h2) h2, fun i hi e => h.mine i hi (k.mine i (Nat.lt_of_lt_of_le hi h.size) e)⟩
theorem KeepsO.blk {own : World → Nat → Prop} {W W' : World} (h : KeepsO own W W') {g : Nat} {t : TypeId} {cs : Array Value} (hb : Blk W g t cs) (hg : ¬ own W g) : Blk W' g t cs := h.same g _ hg hb rfl
theorem KeepsO.grown {B : Nat} {own : World → Nat → Prop} (hO : Owns B own) {W W' : World} {row : Option Nat} (hB : B ≤ W.heap.size) (hg : W.grownBy W' row) (hr : ∀ r, row = some r → B ≤ r ∧ ∃ o : Obj, W.heap[r]? = some o ∧ o.isCells = false) : KeepsO own W W' :=
  ⟨hg.size, fun k o hk h1 h2 => (hg.block k (Array.getElem?_eq_some_iff.1 h1).1 (fun e => by obtain ⟨_, o2, h3, h4⟩ := hr k e.symm; rw [h1] at h3; injection h3 with h3; subst h3; rw [h2] at h4; cases h4)).trans h1, fun k hk e => hO.back W W' row k hB hg (fun r e => (hr r e).1) e⟩
theorem KeepsO.read {own : World → Nat → Prop} {W W' : World} (h : KeepsO own W W') {g gr room : Nat} {f : Kids} (hm : ReadAt W g gr room f) (h1 : ¬ own W g) (h2 : ¬ own W gr) : ReadAt W' g gr room f :=
  hm.keep fun k t cs hk hb => h.blk hb (by rcases hk with rfl | rfl <;> assumption)
theorem noDefer {ops : List Oper} (hd : ops.all (fun o => match o.op with | .defer _ => false | _ => true) = true) : ∀ (i : Nat) (o : Oper), ops.toArray[i]? = some o → ∀ c, o.op ≠ .defer c := by
  intro i o ho c hc
  have hm := List.mem_of_getElem? (show ops[i]? = some o by simpa using ho)
  have := List.all_eq_true.1 hd o hm
  rw [hc] at this
  cases this
theorem roundIn_wide {P : Program} {m m' l fn : Nat} {tmps : Array Value} {assign body : Code} {W : World} {R : Ending → World → Prop} (h : RoundIn Fence.wide m P l fn tmps assign body W R) : RoundIn Fence.wide m' P l fn tmps assign body W R :=
  ⟨trivial, fun c cs _ => h.2 c cs (room_wide _)⟩
theorem yieldAt_wide {P : Program} {m m' l : Nat} {args : Array Value} {W : World} {R : Ending → World → Prop} (h : YieldAt Fence.wide m P l args W R) : YieldAt Fence.wide m' P l args W R := by
  obtain ⟨fn, tmps, assign, body, hy, hR⟩ := h
  exact ⟨fn, tmps, assign, body, hy, roundIn_wide hR⟩
def kidB {f : Kids} (x : KidB f) : Kid := (x.1, (f x.1.val).getD (0, 0))
theorem kidB_eq {f : Kids} (x : KidB f) {r : Int × Int} (hr : f x.1.val = some r) : kidB x = (x.1, r) := by unfold kidB; rw [hr]; rfl
theorem bytesLo_kids (f : Kids) : ∀ k, k ≤ 256 → (bytesLo f 0 k).map kidB = ((List.finRange 256).take k).filterMap fun b => (f b.val).map fun r => (b, r)
  | 0, _ => rfl
  | k + 1, hk => by
    have ih := bytesLo_kids f k (by omega)
    rw [List.take_succ_eq_append_getElem (by simp; omega), List.filterMap_append, ← ih]
    have hg : (List.finRange 256)[k]'(by simp; omega) = (⟨k, by omega⟩ : Fin 256) := by simp
    rw [hg]
    cases hs : f k with
    | none => rw [bytesLo_no f 0 (by rw [hs]; rfl)]; simp [hs]
    | some r =>
      rw [bytesLo_yes f 0 (Nat.zero_le _) (by omega) (by rw [hs]; rfl)]
      simp [hs, kidB]
theorem bytesF_kids (f : Kids) : (bytesF f 0).map kidB = kidsF f := by
  have h := bytesLo_kids f 256 (Nat.le_refl _)
  rw [List.take_of_length_le (by simp)] at h
  exact h

set_option maxHeartbeats 3200000 in
set_option maxRecDepth 100000 in
theorem am_loop (b2 b3 g gr room Bf Bi B B0 l n : Nat) (own : World → Nat → Prop) (J Jx : List Kid → World → Prop) (f : Kids) {u0 u1 u4 u5 u6 u7 u8 u9 u10 u11 u12 u14 u15 u16 u17 u18 u19 u20 u21 u22 u23 u24 u25 u26 : Value} (V : World) {Q : Exit → Act → World → Prop}
    (hO : Owns B own) (hB : B ≤ V.heap.size) (hnot : ∀ k, B ≤ k → ¬ own V k) (hJ : OwnFrom V.heap.size J) (hJx : OwnFrom V.heap.size Jx) (hge : B ≤ b2 ∧ B ≤ b3 ∧ B ≤ g ∧ B ≤ gr ∧ B ≤ Bf ∧ B ≤ Bi)
    (hb2 : Blk V b2 144 #[.func (.yield l) #[] #[]]) (hb3 : Blk V b3 91 #[.pointer (some ⟨g, 0, none⟩)]) (hf : Blk V Bf 3 #[.int .i64 0]) (hi : Blk V Bi 155 #[.func (.func 134) #[.pointer (some ⟨g, 0, none⟩)] #[]]) (hR : ReadAt V g gr room f) (hB0 : B0 ≤ V.heap.size)
    (hY : ∀ pre x W1, J pre W1 → pre.length < 256 → YieldAt Fence.wide n Tryz.prog l (encK x) W1 fun e W' => KeepsFrom B0 W1 W' ∧ ((e = .returned (.bool true) ∧ J (pre ++ [x]) W' ∧ KeepsO own W1 W') ∨ (e = .returned (.bool false) ∧ Jx (pre ++ [x]) W'))) (h0 : J [] V)
    (hQ : ∀ (D : Nat) (W : World), V.heap.size ≤ D → J (kidsF f) W → W.heap[D]? = some (.deferred (some [])) → Q .normal ⟨#[u0, u1, .pointer (some ⟨b2, 0, none⟩), .pointer (some ⟨b3, 0, none⟩), u4, u5, u6, u7, u8, u9, u10, u11, u12, .func (.func 141) #[] #[.pointer (some ⟨Bf, 0, none⟩), .pointer (some ⟨Bi, 0, none⟩)], u14, u15, u16, u17, u18, u19, u20, u21, u22, u23, u24, u25, u26], [{ target := .collected D, args := #[] }]⟩ W)
    (hRt : ∀ (D : Nat) (pre : List Kid) (W : World), V.heap.size ≤ D → pre <+: kidsF f → Jx pre W → W.heap[D]? = some (.deferred (some [])) → Q .ret ⟨#[u0, u1, .pointer (some ⟨b2, 0, none⟩), .pointer (some ⟨b3, 0, none⟩), u4, u5, u6, u7, u8, u9, u10, u11, u12, .func (.func 141) #[] #[.pointer (some ⟨Bf, 0, none⟩), .pointer (some ⟨Bi, 0, none⟩)], u14, u15, u16, u17, u18, u19, u20, u21, u22, u23, u24, u25, u26], [{ target := .collected D, args := #[] }]⟩ W) :
    Code.wp Tryz.prog (part Tryz.f131 [1, 1, 1, 1]) Q ⟨#[u0, u1, .pointer (some ⟨b2, 0, none⟩), .pointer (some ⟨b3, 0, none⟩), u4, u5, u6, u7, u8, u9, u10, u11, u12, .func (.func 141) #[] #[.pointer (some ⟨Bf, 0, none⟩), .pointer (some ⟨Bi, 0, none⟩)], u14, u15, u16, u17, u18, u19, u20, u21, u22, u23, u24, u25, u26], []⟩ V := by
  conv => arg 2; whnf
  have HQ := Lib.hid (And.intro hQ hRt)
  have HY := Lib.hid hY
  have HOI := Lib.hid (And.intro hJ hJx)
  have HV := Lib.hid (And.intro hb2 (And.intro hb3 (And.intro hf (And.intro hi hR))))
  clear hQ hRt hY hJ hJx
  refine wp_block ?_
  refine (wpIn_wide (n := 10)).1 ?_
  refine wpIn_range_O rfl (by decide) (gf := 141) (lb := #[.pointer (some ⟨Bf, 0, none⟩), .pointer (some ⟨Bi, 0, none⟩)]) rfl trivial (enters_of Tryz.func141 (by kernel_rfl) rfl)
    (seqStopsK_O _ (bytes_stops Bf Bi g gr room 9 (fun k => B ≤ k ∧ k < V.heap.size) 0 f V ⟨⟨hge.2.2.2.2.1, hf.lt⟩, ⟨hge.2.2.2.2.2, hi.lt⟩, ⟨hge.2.2.1, hR.lt.1⟩, ⟨hge.2.2.2.1, hR.lt.2⟩⟩ (by decide) hf hi hR)) (fun h k => h.trans k) (fun W o o' h1 h2 h3 => KeepsC.book W _ o o' h1 h2) (Below.refl _ _) (fun _ => rfl)
    (fun pre W => J (pre.map kidB) W ∧ KeepsO own V W) (fun c pre W => c = .ret ∧ Jx (pre.map kidB) W)
    (fun s W W' row hs hg hr => ⟨HOI.out.1 _ W W' row hs.1 hg hr, hs.2.trans (KeepsO.grown hO (Nat.le_trans hB hs.2.size) hg (fun r e => ⟨Nat.le_trans hB (hr r e).1, (hr r e).2⟩))⟩) (fun c s W W' row hs hg hr => ⟨hs.1, HOI.out.2 _ W W' row hs.2 hg hr⟩) ⟨h0, KeepsO.refl _ _⟩
    (fun x a' W => a' = ⟨#[u0, u1, .pointer (some ⟨b2, 0, none⟩), .pointer (some ⟨b3, 0, none⟩), .int .i64 (x.1.val : Int), u5, u6, u7, u8, u9, u10, u11, u12, .func (.func 141) #[] #[.pointer (some ⟨Bf, 0, none⟩), .pointer (some ⟨Bi, 0, none⟩)], .int .i64 (x.1.val : Int), u15, u16, u17, u18, u19, u20, u21, u22, u23, u24, u25, u26], []⟩) (fun x a' s W W' row hs hg hr => hs) ?assign ?body ?done ?stop
  case assign =>
    rintro lr pre x W K hi2 hK
    have hfin : K ⟨#[u0, u1, .pointer (some ⟨b2, 0, none⟩), .pointer (some ⟨b3, 0, none⟩), .int .i64 (x.1.val : Int), u5, u6, u7, u8, u9, u10, u11, u12, .func (.func 141) #[] #[.pointer (some ⟨Bf, 0, none⟩), .pointer (some ⟨Bi, 0, none⟩)], .int .i64 (x.1.val : Int), u15, u16, u17, u18, u19, u20, u21, u22, u23, u24, u25, u26], []⟩ W := hK _ _ (KeepsFrom.refl _ _) (KeepsC.refl _ _) hi2 rfl
    have HF := Lib.hid hfin
    clear hfin hK
    gi_wp2
    exact HF.out
  case body =>
    rintro lr pre x a' W hl ⟨rec, hrec⟩ ⟨hj, hkO⟩ rfl hlen
    obtain ⟨r, hr⟩ := Option.isSome_iff_exists.1 x.2
    have q2 := hkO.blk HV.out.1 (hnot _ hge.1)
    have q3 := hkO.blk HV.out.2.1 (hnot _ hge.2.1)
    obtain ⟨o, o1, o2, o3, o4⟩ := hkO.read HV.out.2.2.2.2 (hnot _ hge.2.2.1) (hnot _ hge.2.2.2.1)
    obtain ⟨p, p1, p2, p3, p4⟩ := o1.some_ x.1.val r x.1.isLt hr
    obtain ⟨c1, c2⟩ := o2.ref p1
    rw [p4] at c1 c2
    have o2d : RBlk W.drew g gr room o := by obtain ⟨mc, rc, cap, z1, z2, z3⟩ := o2; exact ⟨mc, rc, cap, z1.drew, z2.drew, z3⟩
    have HREF := Lib.hid (rref g gr room o x.1.val p W.drew o2d x.1.isLt p1 o4 p2)
    have e2 : W.cell? ⟨b2, 0, none⟩ = some (.func (.yield l) #[] #[]) := q2.cell 0
    have e3 : W.cell? ⟨b3, 0, none⟩ = some (.pointer (some ⟨g, 0, none⟩)) := q3.cell 0
    have hx0 : (0 : Int) ≤ (x.1.val : Int) := by omega
    have hx1 : (x.1.val : Int) ≤ 255 := by have := x.1.isLt; omega
    have sw : IntKind.u8.wrap (x.1.val : Int) = (x.1.val : Int) := IntWalk.u8_in _ (by omega)
    have hYk : ∀ k, YieldAt Fence.wide 7 Tryz.prog l #[.int .u8 (x.1.val : Int), .agg #[.int .i64 r.1, .int .u32 r.2]] (W.drewN (1 + k)) (fun e W' => ∃ bb : Bool, e = .returned (.bool bb) ∧ Hid (KeepsFrom V.heap.size W W' ∧ (bb = true → KeepsC (fun k => B ≤ k ∧ k < V.heap.size) W W' ∧ J ((pre ++ [x]).map kidB) W' ∧ KeepsO own V W') ∧ (bb = false → Jx ((pre ++ [x]).map kidB) W'))) := fun k => by
      have hjd : J (pre.map kidB) (W.drewN (1 + k)) := HOI.out.1 _ W _ none hj ⟨rfl, rfl, rfl, Nat.le_refl _, fun _ _ _ => rfl⟩ (fun r e => by cases e)
      have hy := yieldAt_wide (m' := 7) (HY.out (pre.map kidB) (kidB x) _ hjd (by rw [List.length_map]; exact hlen))
      rw [show encK (kidB x) = #[.int .u8 (x.1.val : Int), .agg #[.int .i64 r.1, .int .u32 r.2]] by rw [kidB_eq x hr]] at hy
      have hkd : KeepsO own W (W.drewN (1 + k)) := KeepsO.grown hO (Nat.le_trans hB hkO.size) (row := none) ⟨rfl, rfl, rfl, Nat.le_refl _, fun _ _ _ => rfl⟩ (fun r e => by cases e)
      have hfd : KeepsFrom V.heap.size W (W.drewN (1 + k)) := ⟨Nat.le_refl _, fun _ _ _ h _ => h⟩
      refine hy.mono fun e W' h => ?_
      obtain ⟨hk1, h⟩ := h
      have hkf := hfd.trans (keepsFrom_le hk1 hB0)
      rcases h with ⟨rfl, h1, h2⟩ | ⟨rfl, h1⟩
      · refine ⟨true, rfl, Lib.hid ⟨hkf, fun _ => ⟨⟨(hkd.trans h2).size, fun k o hk h3 h4 => (hkd.trans h2).same k o (fun e => hnot k hk.1 (hkO.mine k hk.2 e)) h3 h4⟩, by rw [List.map_append]; exact h1, hkO.trans (hkd.trans h2)⟩, fun e => by cases e⟩⟩
      · exact ⟨false, rfl, Lib.hid ⟨hkf, fun e => by (cases e), fun _ => by rw [List.map_append]; exact h1⟩⟩
    have HYk := Lib.hid hYk
    have HX := Lib.hid (And.intro hj hkO)
    have hmix : Tryz.prog.follows .mixedOrders = true := by kernel_rfl
    have n1 : 1 ≤ 8 := by decide
    clear o1 o2 o3 o4 o2d p1 p2 p3 p4 hr hj hkO q2 q3 hYk
    gi_wp2_with (fail)
    refine wpIn_region_any hmix (wpAny_inRound lr ?hd _ _ _ _ ?_)
    case hd => exact noDefer (by kernel_rfl)
    refine wpAnyIn_take (i := 1) (v := ?_) rfl rfl (by kernel_rfl) (by kernel_rfl) (by kernel_rfl) (fun _ _ _ h => h) ⟨Or.inl ⟨by rfl, ?_⟩, fun _ => rfl⟩ ?_
    rotate_left
    · (intro w; go_simp <;> with_reducible rfl)
    try simp only [Act.put, List.setIfInBounds_toArray, List.set_cons_zero, List.set_cons_succ]
    refine wpAnyIn_take (i := 2) (v := ?_) rfl rfl (by kernel_rfl) (by kernel_rfl) (by kernel_rfl) (fun _ _ _ h => h) ⟨Or.inl ⟨by rfl, ?_⟩, fun _ => rfl⟩ ?_
    rotate_left
    · (intro w; go_simp <;> with_reducible rfl)
    try simp only [Act.put, List.setIfInBounds_toArray, List.set_cons_zero, List.set_cons_succ]
    refine wpAnyIn_take (i := 6) (v := ?_) rfl rfl (by kernel_rfl) (by kernel_rfl) (by kernel_rfl) (fun _ _ _ h => h) ⟨Or.inl ⟨by rfl, ?_⟩, fun _ => rfl⟩ ?_
    rotate_left
    · (intro w; go_simp <;> with_reducible rfl)
    try simp only [Act.put, List.setIfInBounds_toArray, List.set_cons_zero, List.set_cons_succ]
    refine wpAnyIn_ready (rs := [0, 3]) (by kernel_rfl) (by simp) ?_
    refine AllReadyIn.cons rfl (fun K hK => ?_) ?_
    · go_simp
      refine hK _ _ ?_
      clear hK K
      try simp only [Act.put, List.setIfInBounds_toArray, List.set_cons_zero, List.set_cons_succ]
      refine wpAnyIn_ready (rs := [3]) (by kernel_rfl) (by simp) ?_
      refine AllReadyIn.cons rfl (fun K hK => ?_) ?_
      · go_simp
        refine hK _ _ ?_
        clear hK K
        try simp only [Act.put, List.setIfInBounds_toArray, List.set_cons_zero, List.set_cons_succ]
        refine wpAnyIn_take (i := 4) (v := ?_) rfl rfl (by kernel_rfl) (by kernel_rfl) (by kernel_rfl) (fun _ _ _ h => h) ⟨Or.inl ⟨by rfl, ?_⟩, fun _ => rfl⟩ ?_
        rotate_left
        · (intro w; go_simp <;> with_reducible rfl)
        try simp only [Act.put, List.setIfInBounds_toArray, List.set_cons_zero, List.set_cons_succ]
        refine wpAnyIn_take (i := 5) (v := ?_) rfl rfl (by kernel_rfl) (by kernel_rfl) (by kernel_rfl) (fun _ _ _ h => h) ⟨Or.inl ⟨by rfl, ?_⟩, fun _ => rfl⟩ ?_
        rotate_left
        · (intro w; go_simp <;> with_reducible rfl)
        try simp only [Act.put, List.setIfInBounds_toArray, List.set_cons_zero, List.set_cons_succ]
        refine wpAnyIn_ready (rs := [7]) (by kernel_rfl) (by simp) ?_
        refine AllReadyIn.cons rfl (fun K hK => ?_) ?_
        · go_simp
          refine ⟨trivial, ?_⟩
          refine (callsIn_wide.2 HREF.out).mono ?_
          rintro e w3 ⟨rfl, k, rfl⟩
          obtain ⟨fn, tmps, assign, body, hy, hR⟩ := HYk.out k
          refine hK _ _ ?_
          clear hK K
          try simp only [Act.put, List.setIfInBounds_toArray, List.set_cons_zero, List.set_cons_succ]
          refine wpAnyIn_take (i := 8) (v := ?_) rfl rfl (by kernel_rfl) (by kernel_rfl) (by kernel_rfl) (fun _ _ _ h => h) ⟨Or.inl ⟨by rfl, ?_⟩, fun _ => rfl⟩ ?_
          rotate_left
          · (intro w; go_simp <;> with_reducible rfl)
          try simp only [Act.put, List.setIfInBounds_toArray, List.set_cons_zero, List.set_cons_succ]
          refine wpAnyIn_ready (rs := [9]) (by kernel_rfl) (by simp) ?_
          refine AllReadyIn.cons rfl (fun K hK => ?_) ?_
          · go_simp
            refine hK _ _ ?_
            clear hK K
            try simp only [Act.put, List.setIfInBounds_toArray, List.set_cons_zero, List.set_cons_succ]
            refine wpAnyIn_ready (rs := [10]) (by kernel_rfl) (by simp) ?_
            refine AllReadyIn.cons rfl (fun K hK => ?_) ?_
            · go_simp
              refine hR.mono ?_
              rintro e W3 ⟨bb, rfl, hP⟩
              clear hy hR
              refine hK _ _ ?_
              clear hK K
              try simp only [Act.put, List.setIfInBounds_toArray, List.set_cons_zero, List.set_cons_succ]
              refine wpAnyIn_take (i := 11) (v := ?_) rfl rfl (by kernel_rfl) (by kernel_rfl) (by kernel_rfl) (fun _ _ _ h => h) ⟨Or.inl ⟨by rfl, ?_⟩, fun _ => rfl⟩ ?_
              rotate_left
              · (intro w; go_simp <;> with_reducible rfl)
              try simp only [Act.put, List.setIfInBounds_toArray, List.set_cons_zero, List.set_cons_succ]
              refine wpAnyIn_done (by kernel_rfl) ?_ _
              refine (‹∀ (a : Act) (w : World), Code.wpIn _ _ _ (Code.cond _ _ _) _ a w → _› _ _ ?_)
              cases bb with
              | true =>
                have HP := Lib.hid (And.intro hP.out.1 (hP.out.2.1 rfl))
                clear hP
                gi_wp2
                exact ⟨HP.out.1, HP.out.2.1, HP.out.2.2⟩
              | false =>
                have HP := Lib.hid (And.intro hP.out.1 (hP.out.2.2 rfl))
                clear hP
                gi_wp2
                exact ⟨HP.out.1, rfl, HP.out.2⟩
            exact AllReadyIn.nil
          exact AllReadyIn.nil
        exact AllReadyIn.nil
      exact AllReadyIn.nil
    refine AllReadyIn.cons rfl (fun K hK => ?_) ?_
    · go_simp
      refine hK _ _ ?_
      clear hK K
      try simp only [Act.put, List.setIfInBounds_toArray, List.set_cons_zero, List.set_cons_succ]
      refine wpAnyIn_take (i := 4) (v := ?_) rfl rfl (by kernel_rfl) (by kernel_rfl) (by kernel_rfl) (fun _ _ _ h => h) ⟨Or.inl ⟨by rfl, ?_⟩, fun _ => rfl⟩ ?_
      rotate_left
      · (intro w; go_simp <;> with_reducible rfl)
      try simp only [Act.put, List.setIfInBounds_toArray, List.set_cons_zero, List.set_cons_succ]
      refine wpAnyIn_take (i := 5) (v := ?_) rfl rfl (by kernel_rfl) (by kernel_rfl) (by kernel_rfl) (fun _ _ _ h => h) ⟨Or.inl ⟨by rfl, ?_⟩, fun _ => rfl⟩ ?_
      rotate_left
      · (intro w; go_simp <;> with_reducible rfl)
      try simp only [Act.put, List.setIfInBounds_toArray, List.set_cons_zero, List.set_cons_succ]
      refine wpAnyIn_ready (rs := [0, 7]) (by kernel_rfl) (by simp) ?_
      refine AllReadyIn.cons rfl (fun K hK => ?_) ?_
      · go_simp
        refine hK _ _ ?_
        clear hK K
        try simp only [Act.put, List.setIfInBounds_toArray, List.set_cons_zero, List.set_cons_succ]
        refine wpAnyIn_ready (rs := [7]) (by kernel_rfl) (by simp) ?_
        refine AllReadyIn.cons rfl (fun K hK => ?_) ?_
        · go_simp
          refine ⟨trivial, ?_⟩
          refine (callsIn_wide.2 HREF.out).mono ?_
          rintro e w3 ⟨rfl, k, rfl⟩
          obtain ⟨fn, tmps, assign, body, hy, hR⟩ := HYk.out k
          refine hK _ _ ?_
          clear hK K
          try simp only [Act.put, List.setIfInBounds_toArray, List.set_cons_zero, List.set_cons_succ]
          refine wpAnyIn_take (i := 8) (v := ?_) rfl rfl (by kernel_rfl) (by kernel_rfl) (by kernel_rfl) (fun _ _ _ h => h) ⟨Or.inl ⟨by rfl, ?_⟩, fun _ => rfl⟩ ?_
          rotate_left
          · (intro w; go_simp <;> with_reducible rfl)
          try simp only [Act.put, List.setIfInBounds_toArray, List.set_cons_zero, List.set_cons_succ]
          refine wpAnyIn_ready (rs := [9]) (by kernel_rfl) (by simp) ?_
          refine AllReadyIn.cons rfl (fun K hK => ?_) ?_
          · go_simp
            refine hK _ _ ?_
            clear hK K
            try simp only [Act.put, List.setIfInBounds_toArray, List.set_cons_zero, List.set_cons_succ]
            refine wpAnyIn_ready (rs := [10]) (by kernel_rfl) (by simp) ?_
            refine AllReadyIn.cons rfl (fun K hK => ?_) ?_
            · go_simp
              refine hR.mono ?_
              rintro e W3 ⟨bb, rfl, hP⟩
              clear hy hR
              refine hK _ _ ?_
              clear hK K
              try simp only [Act.put, List.setIfInBounds_toArray, List.set_cons_zero, List.set_cons_succ]
              refine wpAnyIn_take (i := 11) (v := ?_) rfl rfl (by kernel_rfl) (by kernel_rfl) (by kernel_rfl) (fun _ _ _ h => h) ⟨Or.inl ⟨by rfl, ?_⟩, fun _ => rfl⟩ ?_
              rotate_left
              · (intro w; go_simp <;> with_reducible rfl)
              try simp only [Act.put, List.setIfInBounds_toArray, List.set_cons_zero, List.set_cons_succ]
              refine wpAnyIn_done (by kernel_rfl) ?_ _
              refine (‹∀ (a : Act) (w : World), Code.wpIn _ _ _ (Code.cond _ _ _) _ a w → _› _ _ ?_)
              cases bb with
              | true =>
                have HP := Lib.hid (And.intro hP.out.1 (hP.out.2.1 rfl))
                clear hP
                gi_wp2
                exact ⟨HP.out.1, HP.out.2.1, HP.out.2.2⟩
              | false =>
                have HP := Lib.hid (And.intro hP.out.1 (hP.out.2.2 rfl))
                clear hP
                gi_wp2
                exact ⟨HP.out.1, rfl, HP.out.2⟩
            exact AllReadyIn.nil
          exact AllReadyIn.nil
        exact AllReadyIn.nil
      refine AllReadyIn.cons rfl (fun K hK => ?_) ?_
      · go_simp
        refine ⟨trivial, ?_⟩
        refine (callsIn_wide.2 HREF.out).mono ?_
        rintro e w3 ⟨rfl, k, rfl⟩
        obtain ⟨fn, tmps, assign, body, hy, hR⟩ := HYk.out k
        refine hK _ _ ?_
        clear hK K
        try simp only [Act.put, List.setIfInBounds_toArray, List.set_cons_zero, List.set_cons_succ]
        refine wpAnyIn_take (i := 8) (v := ?_) rfl rfl (by kernel_rfl) (by kernel_rfl) (by kernel_rfl) (fun _ _ _ h => h) ⟨Or.inl ⟨by rfl, ?_⟩, fun _ => rfl⟩ ?_
        rotate_left
        · (intro w; go_simp <;> with_reducible rfl)
        try simp only [Act.put, List.setIfInBounds_toArray, List.set_cons_zero, List.set_cons_succ]
        refine wpAnyIn_ready (rs := [0, 9]) (by kernel_rfl) (by simp) ?_
        refine AllReadyIn.cons rfl (fun K hK => ?_) ?_
        · go_simp
          refine hK _ _ ?_
          clear hK K
          try simp only [Act.put, List.setIfInBounds_toArray, List.set_cons_zero, List.set_cons_succ]
          refine wpAnyIn_ready (rs := [9]) (by kernel_rfl) (by simp) ?_
          refine AllReadyIn.cons rfl (fun K hK => ?_) ?_
          · go_simp
            refine hK _ _ ?_
            clear hK K
            try simp only [Act.put, List.setIfInBounds_toArray, List.set_cons_zero, List.set_cons_succ]
            refine wpAnyIn_ready (rs := [10]) (by kernel_rfl) (by simp) ?_
            refine AllReadyIn.cons rfl (fun K hK => ?_) ?_
            · go_simp
              refine hR.mono ?_
              rintro e W3 ⟨bb, rfl, hP⟩
              clear hy hR
              refine hK _ _ ?_
              clear hK K
              try simp only [Act.put, List.setIfInBounds_toArray, List.set_cons_zero, List.set_cons_succ]
              refine wpAnyIn_take (i := 11) (v := ?_) rfl rfl (by kernel_rfl) (by kernel_rfl) (by kernel_rfl) (fun _ _ _ h => h) ⟨Or.inl ⟨by rfl, ?_⟩, fun _ => rfl⟩ ?_
              rotate_left
              · (intro w; go_simp <;> with_reducible rfl)
              try simp only [Act.put, List.setIfInBounds_toArray, List.set_cons_zero, List.set_cons_succ]
              refine wpAnyIn_done (by kernel_rfl) ?_ _
              refine (‹∀ (a : Act) (w : World), Code.wpIn _ _ _ (Code.cond _ _ _) _ a w → _› _ _ ?_)
              cases bb with
              | true =>
                have HP := Lib.hid (And.intro hP.out.1 (hP.out.2.1 rfl))
                clear hP
                gi_wp2
                exact ⟨HP.out.1, HP.out.2.1, HP.out.2.2⟩
              | false =>
                have HP := Lib.hid (And.intro hP.out.1 (hP.out.2.2 rfl))
                clear hP
                gi_wp2
                exact ⟨HP.out.1, rfl, HP.out.2⟩
            exact AllReadyIn.nil
          exact AllReadyIn.nil
        refine AllReadyIn.cons rfl (fun K hK => ?_) ?_
        · go_simp
          refine hK _ _ ?_
          clear hK K
          try simp only [Act.put, List.setIfInBounds_toArray, List.set_cons_zero, List.set_cons_succ]
          refine wpAnyIn_ready (rs := [0]) (by kernel_rfl) (by simp) ?_
          refine AllReadyIn.cons rfl (fun K hK => ?_) ?_
          · go_simp
            refine hK _ _ ?_
            clear hK K
            try simp only [Act.put, List.setIfInBounds_toArray, List.set_cons_zero, List.set_cons_succ]
            refine wpAnyIn_ready (rs := [10]) (by kernel_rfl) (by simp) ?_
            refine AllReadyIn.cons rfl (fun K hK => ?_) ?_
            · go_simp
              refine hR.mono ?_
              rintro e W3 ⟨bb, rfl, hP⟩
              clear hy hR
              refine hK _ _ ?_
              clear hK K
              try simp only [Act.put, List.setIfInBounds_toArray, List.set_cons_zero, List.set_cons_succ]
              refine wpAnyIn_take (i := 11) (v := ?_) rfl rfl (by kernel_rfl) (by kernel_rfl) (by kernel_rfl) (fun _ _ _ h => h) ⟨Or.inl ⟨by rfl, ?_⟩, fun _ => rfl⟩ ?_
              rotate_left
              · (intro w; go_simp <;> with_reducible rfl)
              try simp only [Act.put, List.setIfInBounds_toArray, List.set_cons_zero, List.set_cons_succ]
              refine wpAnyIn_done (by kernel_rfl) ?_ _
              refine (‹∀ (a : Act) (w : World), Code.wpIn _ _ _ (Code.cond _ _ _) _ a w → _› _ _ ?_)
              cases bb with
              | true =>
                have HP := Lib.hid (And.intro hP.out.1 (hP.out.2.1 rfl))
                clear hP
                gi_wp2
                exact ⟨HP.out.1, HP.out.2.1, HP.out.2.2⟩
              | false =>
                have HP := Lib.hid (And.intro hP.out.1 (hP.out.2.2 rfl))
                clear hP
                gi_wp2
                exact ⟨HP.out.1, rfl, HP.out.2⟩
            exact AllReadyIn.nil
          exact AllReadyIn.nil
        exact AllReadyIn.nil
      exact AllReadyIn.nil
    exact AllReadyIn.nil
  case done =>
    rintro D xs W hD hxs ⟨h1, h2⟩ hk
    rw [hxs, show (max (0 : Int) 0).toNat = 0 from rfl, bytesF_kids] at h1
    exact HQ.out.1 D W hD h1 hk
  case stop =>
    rintro D c pre W hD hsp ⟨rfl, hx⟩ hk
    rw [show (max (0 : Int) 0).toNat = 0 from rfl] at hsp
    have hp : pre.map kidB <+: kidsF f := by rw [← bytesF_kids]; exact hsp.map _
    have HF := Lib.hid (HQ.out.2 D (pre.map kidB) W hD hp hx hk)
    gi_wp2
    exact HF.out
/-- All's value: a closure over a box. -/
theorem All_m (p : Option Addr) (w : World) : Calls Tryz.prog 124 #[.pointer p] w fun e w' => e = .returned (.func (.func 131) #[] #[.pointer (some ⟨w.heap.size, 0, none⟩)]) ∧ w' = w.alloc (.cells #[.pointer p] 91) := by
  go_enter Tryz.func124, Tryz.ntmps124
  go_wp2
  go_ret
  exact ⟨rfl, rfl⟩
theorem am_end {W V : World} {J : List Kid → World → Prop} {xs : List Kid} {D : Nat} (hJ : OwnFrom W.heap.size J) (hj : J xs V) (hD : W.heap.size ≤ D) (hd : V.heap[D]? = some (.deferred (some []))) : J xs (V.putObj D (.deferred none)) := hJ.putObj (.deferred none) hj hD hd rfl
set_option maxHeartbeats 3200000 in
set_option maxRecDepth 100000 in
theorem all_m_stops (Bs g gr gu room n B0 : Nat) (own : World → Nat → Prop) (f : Kids) (w : World) (hO : Owns w.heap.size own) (hlt : ∀ k, own w k → k < w.heap.size) (hc : w.cell? ⟨Bs, 0, none⟩ = some (.pointer (some ⟨g, 0, none⟩))) (hf : ManyAt w g gr gu room f) :
    SeqStopsO Fence.wide n Tryz.prog 131 #[.pointer (some ⟨Bs, 0, none⟩)] encK (KeepsO own) (fun ys => ys = kidsF f) (fun pre => pre <+: kidsF f) 256 w B0 := fun l J Jx W hW hsz hJ hJx hY h0 => by
  have hBs : Bs < w.heap.size := World.block_lt_of_cell? w _ hc
  have hc1 := (hW.cell (p := ⟨Bs, 0, none⟩) hBs).trans hc
  have hc2 : (W.alloc (.cells #[.func (.yield l) #[] #[]] 144)).cell? ⟨Bs, 0, none⟩ = some (.pointer (some ⟨g, 0, none⟩)) := (((Below.refl _ W).alloc (Nat.le_refl _) _).cell (p := ⟨Bs, 0, none⟩) (Nat.lt_of_lt_of_le hBs hW.size)).trans hc1
  have HC := Lib.hid (Copy_m g gr gu room f (W.alloc (.cells #[.func (.yield l) #[] #[]] 144)) ((hf.below hW).below (below_box W _)))
  have HJ := Lib.hid (And.intro hJ (And.intro hJx (And.intro hY h0)))
  have HW := Lib.hid (And.intro hW (And.intro hsz (And.intro hO hlt)))
  clear hJ hJx hY h0 hf hc hc1 hlt hO hsz hW
  refine (callsIn_wide (n := n)).2 ((callsIn_wide (n := 10)).1 (callsIn_of_wp_marks Tryz.func131 rfl trivial (wpIn_wide.2 ?_) rfl))
  simp only [Tryz.ntmps131, List.size_toArray, List.length_cons, List.length_nil, Nat.reduceAdd, Nat.reduceSub, Array.replicate_succ, Array.replicate_zero, List.push_toArray, List.append_toArray, List.nil_append, List.cons_append]
  refine wp_seq_k fun K0 hK => ?_
  have HK0 := Lib.hid hK
  clear hK
  go_wp2_with fail
  refine HK0.out _ _ ?_
  clear HK0
  refine wp_seq_k fun K1 hK => ?_
  have HK1 := Lib.hid hK
  clear hK
  go_wp2_with fail
  refine HC.out.mono ?_
  rintro e w2 ⟨g', gr', rfl, hR, hg1, hg2, hb⟩
  have HB := Lib.hid (And.intro hR (And.intro hg1 (And.intro hg2 hb)))
  clear hR hg1 hg2 hb HC hc2
  go_wp2_with fail
  refine HK1.out _ _ ?_
  clear HK1
  have k3 := Blk.new w2 91 #[.pointer (some ⟨g', 0, none⟩)]
  have e3 := k3.cell 0
  simp at e3
  refine wp_seq_k fun K2 hK => ?_
  have HK2 := Lib.hid hK
  clear hK
  go_wp2_with fail
  refine HK2.out _ _ ?_
  clear HK2
  refine wp_seq_k fun K3 hK => ?_
  have HK3 := Lib.hid hK
  clear hK
  go_wp2_with fail
  refine (bytes_any 0 (.func (.func 134) #[.pointer (some ⟨g', 0, none⟩)] #[]) ⟨_, _, _, rfl⟩ (w2.alloc (.cells #[.pointer (some ⟨g', 0, none⟩)] 91))).mono ?_
  rintro e w3 ⟨rfl, rfl⟩
  go_wp2_with fail
  refine HK3.out _ _ ?_
  clear HK3 e3
  obtain ⟨hR, hg1, hg2, hb⟩ := HB.out
  obtain ⟨hW, hsz, hO, hlt⟩ := HW.out
  obtain ⟨hJ, hJx, hY, h0⟩ := HJ.out
  have hwW : w.heap.size ≤ W.heap.size := hW.size
  have b1 : Below W.heap.size W w2 := (below_box W _).trans (hb.mono (by simp))
  have b2 := b1.alloc b1.size (.cells #[.pointer (some ⟨g', 0, none⟩)] 91)
  have b3 := b2.alloc b2.size (.cells #[.int .i64 0] 3)
  have b4 := b3.alloc b3.size (.cells #[.func (.func 134) #[.pointer (some ⟨g', 0, none⟩)] #[]] 155)
  have z1 := b1.size
  have q2 := ((((Blk.new W 144 #[.func (.yield l) #[] #[]]).below hb (by simp)).alloc (.cells #[.pointer (some ⟨g', 0, none⟩)] 91)).alloc (.cells #[.int .i64 0] 3)).alloc (.cells #[.func (.func 134) #[.pointer (some ⟨g', 0, none⟩)] #[]] 155)
  have q3 := (k3.alloc (.cells #[.int .i64 0] 3)).alloc (.cells #[.func (.func 134) #[.pointer (some ⟨g', 0, none⟩)] #[]] 155)
  have q4 := (Blk.new (w2.alloc (.cells #[.pointer (some ⟨g', 0, none⟩)] 91)) 3 #[.int .i64 0]).alloc (.cells #[.func (.func 134) #[.pointer (some ⟨g', 0, none⟩)] #[]] 155)
  have q5 := Blk.new ((w2.alloc (.cells #[.pointer (some ⟨g', 0, none⟩)] 91)).alloc (.cells #[.int .i64 0] 3)) 155 #[.func (.func 134) #[.pointer (some ⟨g', 0, none⟩)] #[]]
  rw [show (w2.alloc (.cells #[.pointer (some ⟨g', 0, none⟩)] 91)).heap.size = w2.heap.size + 1 by simp] at q4
  rw [show ((w2.alloc (.cells #[.pointer (some ⟨g', 0, none⟩)] 91)).alloc (.cells #[.int .i64 0] 3)).heap.size = w2.heap.size + 2 by simp] at q5
  have r1 : Below w2.heap.size w2 _ := (((Below.refl _ w2).alloc (Nat.le_refl _) (.cells #[.pointer (some ⟨g', 0, none⟩)] 91)).alloc (by simp) (.cells #[.int .i64 0] 3)).alloc (by simp; omega) (.cells #[.func (.func 134) #[.pointer (some ⟨g', 0, none⟩)] #[]] 155)
  have hRV := hR.below r1
  simp only [World.size_alloc] at hg1 hg2
  have hj4 := hJ [] W _ none h0 (World.grownBy_of_below b4) (fun r e => by cases e)
  have hown : ∀ k, w.heap.size ≤ k → ¬ own (((w2.alloc (.cells #[.pointer (some ⟨g', 0, none⟩)] 91)).alloc (.cells #[.int .i64 0] 3)).alloc (.cells #[.func (.func 134) #[.pointer (some ⟨g', 0, none⟩)] #[]] 155)) k := by
    intro k hk e
    have e1 := hO.back W _ none k hwW (World.grownBy_of_below b4) (fun r e => by cases e) e
    have e2 := hO.back w W none k (Nat.le_refl _) (World.grownBy_of_below hW) (fun r e => by cases e) e1
    have := hlt k e2
    omega
  have hlo : W.heap.size ≤ (((w2.alloc (.cells #[.pointer (some ⟨g', 0, none⟩)] 91)).alloc (.cells #[.int .i64 0] 3)).alloc (.cells #[.func (.func 134) #[.pointer (some ⟨g', 0, none⟩)] #[]] 155)).heap.size := b4.size
  clear b1 b2 b3 b4 r1 k3
  generalize ((w2.alloc (.cells #[.pointer (some ⟨g', 0, none⟩)] 91)).alloc (.cells #[.int .i64 0] 3)).alloc (.cells #[.func (.func 134) #[.pointer (some ⟨g', 0, none⟩)] #[]] 155) = V at q2 q3 q4 q5 hRV hj4 hown hlo ⊢
  have mono : ∀ {J' : List Kid → World → Prop}, OwnFrom W.heap.size J' → OwnFrom V.heap.size J' := fun hJ' s A B row hs hg hr => hJ' s A B row hs hg (fun r e => ⟨Nat.le_trans hlo (hr r e).1, (hr r e).2⟩)
  refine am_loop W.heap.size w2.heap.size g' gr' room (w2.heap.size + 1) (w2.heap.size + 2) w.heap.size B0 l (n - 1) own J Jx f V hO (Nat.le_trans hwW hlo) hown (mono hJ) (mono hJx) ⟨hwW, by omega, by omega, by omega, by omega, by omega⟩ q2 q3 q4 q5 hRV (Nat.le_trans hsz hlo) hY hj4 ?_ ?_
  · intro D X hD hj hd
    refine ⟨by simp, .inl ⟨_, _, rfl, run_takeDeferred hd, ?_⟩⟩
    exact ⟨_, results_none rfl _ _ _, ⟨_, rfl⟩, .inl ⟨_, rfl, am_end hJ hj (Nat.le_trans hlo hD) hd⟩⟩
  · intro D pre X hD hp hj hd
    refine ⟨by simp, .inl ⟨_, _, rfl, run_takeDeferred hd, ?_⟩⟩
    exact ⟨_, results_none rfl _ _ _, ⟨_, rfl⟩, .inr ⟨_, hp, am_end hJx hj (Nat.le_trans hlo hD) hd⟩⟩
end Go.Proofs.YtgjgcbemgmkncaaGreatDoor
namespace Go.Proofs.YtgjgcbemgmkncaaGreatDoor
open Go.RowKit Go.Shelf
set_option linter.unusedVariables false
set_option linter.unusedSimpArgs false

/-- A node. -/
structure Nd where
  kind : Int
  code : ByteArray
  value : ByteArray
  path : ByteArray
  bytes : List Nat
  kids : List (Int × Int)
def Nd.v (x : Nd) (Ab : Option Addr) (cb : Nat) (Ak : Option Addr) (ck : Nat) : Value := .agg #[.int .i64 x.kind, .string x.code, .string x.value, .string x.path, .slice Ab x.bytes.length cb, .slice Ak x.kids.length ck]
/-- Its numbers are those of their kinds. -/
structure Nd.wf (x : Nd) : Prop where
  kind : -9223372036854775808 ≤ x.kind ∧ x.kind ≤ 9223372036854775807
  bytes : ∀ b ∈ x.bytes, b < 256
  refs : ∀ r ∈ x.kids, (-9223372036854775808 ≤ r.1 ∧ r.1 ≤ 9223372036854775807) ∧ 0 ≤ r.2 ∧ r.2 ≤ 4294967295
  lb : x.bytes.length ≤ 9223372036854775807
  lk : x.kids.length ≤ 9223372036854775807
  lc : x.code.size ≤ 9223372036854775807
  lv : x.value.size ≤ 9223372036854775807
  lp : x.path.size ≤ 9223372036854775807
/-- V is the node x in the world W. -/
def NdAt (W : World) (x : Nd) (V : Value) : Prop := x.wf ∧ ∃ Ab cb Ak ck, V = x.v Ab cb Ak ck ∧ Reads W W.heap.size 1 Ab x.bytes.length (x.bytes.flatMap nrow) ∧ Reads W W.heap.size 2 Ak x.kids.length (x.kids.flatMap rrow)
theorem NdAt.below {W W' : World} {x : Nd} {V : Value} (h : NdAt W x V) (hb : Below W.heap.size W W') : NdAt W' x V := by
  obtain ⟨h0, Ab, cb, Ak, ck, h1, h2, h3⟩ := h
  exact ⟨h0, Ab, cb, Ak, ck, h1, (h2.below hb).more hb.size, (h3.below hb).more hb.size⟩
/-- The table of rooms. -/
def RoomsAt (W : World) : Prop := W.cell? ⟨0, 0, none⟩ = some (.int .i64 0) ∧ W.cell? ⟨0, 1, none⟩ = some (.int .i64 0) ∧ W.cell? ⟨0, 2, none⟩ = some (.int .i64 4) ∧ W.cell? ⟨0, 3, none⟩ = some (.int .i64 16) ∧ W.cell? ⟨0, 4, none⟩ = some (.int .i64 48) ∧ W.cell? ⟨0, 5, none⟩ = some (.int .i64 256)
theorem RoomsAt.lt {W : World} (h : RoomsAt W) : 0 < W.heap.size := World.block_lt_of_cell? W _ h.1
theorem RoomsAt.below {n : Nat} {W W' : World} (h : RoomsAt W) (hb : Below n W W') (hn : 0 < n) : RoomsAt W' := by
  obtain ⟨h0, h1, h2, h3, h4, h5⟩ := h
  exact ⟨(hb.cell hn).trans h0, (hb.cell hn).trans h1, (hb.cell hn).trans h2, (hb.cell hn).trans h3, (hb.cell hn).trans h4, (hb.cell hn).trans h5⟩
theorem RoomsAt.on {W W' : World} (h : RoomsAt W) (hb : Below W.heap.size W W') : RoomsAt W' := h.below hb h.lt

def roomN (k : Int) : Int := if k = 2 then 4 else if k = 3 then 16 else if k = 4 then 48 else if k = 5 then 256 else 0
def ofN (n : Int) : Int × Bool := if n < 0 then (0, false) else if n ≤ 4 then (2, true) else if n ≤ 16 then (3, true) else if n ≤ 48 then (4, true) else if n ≤ 256 then (5, true) else (0, false)
def kidN (r : Int × Int) : Bool := decide (0 ≤ r.1) && decide (r.1 < 4096) && decide (1 ≤ r.2)
def risingN : List Nat → Bool
  | a :: b :: l => decide (a < b) && risingN (b :: l)
  | _ => true
def Nd.leafN (x : Nd) : Bool := decide (x.kind = 1)
def Nd.innerN (x : Nd) : Bool := decide (0 < roomN x.kind)
def Nd.bareN (x : Nd) : Bool := x.code.toList.isEmpty && x.value.toList.isEmpty && decide ((x.path.size : Int) ≤ 34)
def Nd.pairedN (x : Nd) : Bool := decide (x.bytes.length = x.kids.length) && decide (x.kids.length ≤ 256)
def Nd.risingN (x : Nd) : Bool := YtgjgcbemgmkncaaGreatDoor.risingN x.bytes
def Nd.refsN (x : Nd) : Bool := x.kids.all kidN
def Nd.manyN (x : Nd) : Bool := decide (1 < x.kids.length)
def Nd.fitsN (x : Nd) : Bool := decide ((ofN x.kids.length).1 = x.kind)
def Nd.topN (x : Nd) : Bool := decide (x.kind = 5) && x.path.toList.isEmpty
def Nd.emptyN (x : Nd) : Bool := x.path.toList.isEmpty && decide (x.bytes.length = 0) && decide (x.kids.length = 0)
def Nd.isInner (x : Nd) : Bool := x.innerN && x.bareN && x.pairedN && x.risingN && x.refsN
def Nd.isRight (x : Nd) : Bool := x.isInner && x.manyN && x.fitsN
def Nd.isAnchor (x : Nd) : Bool := x.isInner && x.topN
def Nd.may (x : Nd) : Bool := x.isRight || x.isAnchor
end Go.Proofs.YtgjgcbemgmkncaaGreatDoor
namespace Go.Proofs.YtgjgcbemgmkncaaGreatDoor
open Go.RowKit Go.Shelf
set_option linter.unusedVariables false
set_option linter.unusedSimpArgs false

theorem room_n (k : Int) (w : World) (h : RoomsAt w) : Calls Tryz.prog 11 #[.int .i64 k] w (StayEnd (.int .i64 (roomN k)) w) := by
  by_cases h0 : k < 0
  · have e : roomN k = 0 := by unfold roomN; repeat (rw [if_neg (by omega)])
    rw [e]
    clear h e
    go_enter Tryz.func11, Tryz.ntmps11
    go_wp2
    go_ret
    exact ⟨rfl, rfl⟩
  · by_cases h6 : 6 ≤ k
    · have e : roomN k = 0 := by unfold roomN; repeat (rw [if_neg (by omega)])
      have h6b : k ≥ 6 := h6
      rw [e]
      clear h e
      go_enter Tryz.func11, Tryz.ntmps11
      go_wp2
      go_ret
      exact ⟨rfl, rfl⟩
    · have hk : k = 0 ∨ k = 1 ∨ k = 2 ∨ k = 3 ∨ k = 4 ∨ k = 5 := by omega
      obtain ⟨c0, c1, c2, c3, c4, c5⟩ := h
      clear h0 h6
      rcases hk with rfl | rfl | rfl | rfl | rfl | rfl <;>
      · go_enter Tryz.func11, Tryz.ntmps11
        go_wp2
        go_ret
        exact ⟨rfl, rfl⟩
theorem kid_n (r : Int × Int) (w : World) : Calls Tryz.prog 39 #[refV r] w (BoolEnd (kidN r) w) := by
  obtain ⟨s, g⟩ := r
  unfold refV
  dsimp only
  by_cases h0 : 0 ≤ s
  · by_cases h1 : s < 4096
    · by_cases h2 : 1 ≤ g
      · have e : kidN (s, g) = true := by simp [kidN, h0, h1, h2]
        rw [e]; clear e
        go_enter Tryz.func39, Tryz.ntmps39
        go_wp2
        go_ret
        exact ⟨rfl, (Below.refl _ _).alloc (Nat.le_refl _) _⟩
      · have e : kidN (s, g) = false := by simp [kidN, h0, h1, h2]
        rw [e]; clear e
        go_enter Tryz.func39, Tryz.ntmps39
        go_wp2
        go_ret
        exact ⟨rfl, (Below.refl _ _).alloc (Nat.le_refl _) _⟩
    · have e : kidN (s, g) = false := by simp [kidN, h0, h1]
      rw [e]; clear e
      go_enter Tryz.func39, Tryz.ntmps39
      go_wp2
      go_ret
      exact ⟨rfl, (Below.refl _ _).alloc (Nat.le_refl _) _⟩
  · have e : kidN (s, g) = false := by simp [kidN, h0]
    rw [e]; clear e
    go_enter Tryz.func39, Tryz.ntmps39
    go_wp2
    go_ret
    exact ⟨rfl, (Below.refl _ _).alloc (Nat.le_refl _) _⟩
def OfEnd (p : Int × Bool) (w : World) (e : Ending) (w' : World) : Prop := e = .returned (.tuple #[.int .i64 p.1, .bool p.2]) ∧ w' = w
theorem of_n (n : Int) (w : World) (h : RoomsAt w) : Calls Tryz.prog 7 #[.int .i64 n] w (OfEnd (ofN n) w) := by
  have H := Lib.hid h
  clear h
  by_cases h0 : 0 ≤ n
  · have h0' : n ≥ 0 := h0
    go_enter Tryz.func7, Tryz.ntmps7
    go_wp2_with fail
    go_loop [4] (fun k => ∃ j : Nat, 2 ≤ j ∧ j ≤ 6 ∧ k = .int .i64 j ∧ (j = 2 ∨ roomN ((j : Int) - 1) < n)) (fun k => 6 - (intOf k).toNat)
    case atStart => exact ⟨2, by omega, by omega, rfl, .inl rfl⟩
    case round =>
      obtain ⟨j, hj2, hj6, rfl, hlo⟩ := hrel
      by_cases hlt : j ≤ 5
      · have hjc : (j : Int) ≤ 5 := by omega
        have HR := Lib.hid (room_n (j : Int) w H.out)
        obtain ⟨q, hq⟩ : ∃ q, roomN (j : Int) = q := ⟨_, rfl⟩
        rw [hq] at HR
        have HQ := Lib.hid hq
        have HLO := Lib.hid hlo
        clear hq hlo
        by_cases hle : n ≤ q
        · have E : Hid (ofN n = ((j : Int), true)) := Lib.hid (by
            have hq := HQ.out
            have hlo := HLO.out
            have hj : j = 2 ∨ j = 3 ∨ j = 4 ∨ j = 5 := by omega
            unfold roomN at hq hlo
            unfold ofN
            rcases hj with rfl | rfl | rfl | rfl <;> simp at hq hlo <;> subst hq <;> (repeat' split) <;> first | rfl | omega)
          go_wp2_with fail
          refine HR.out.mono ?_
          rintro e w1 ⟨rfl, rfl⟩
          go_wp2
          go_ret2
          rw [E.out]
          exact ⟨rfl, rfl⟩
        · have hgt : q < n := by omega
          have HG : Hid (roomN (((j + 1 : Nat) : Int) - 1) < n) := Lib.hid (by rw [show ((j + 1 : Nat) : Int) - 1 = (j : Int) by omega, HQ.out]; exact hgt)
          go_wp2_with fail
          refine HR.out.mono ?_
          rintro e w1 ⟨rfl, rfl⟩
          go_wp2
          go_round
          case rel => exact ⟨j + 1, by omega, by omega, by go_num, .inr HG.out⟩
          case measure => simp [intOf]; omega
      · obtain rfl : j = 6 := by omega
        have E : Hid (ofN n = (0, false)) := Lib.hid (by
          rcases hlo with h | h
          · omega
          · have : roomN (((6 : Nat) : Int) - 1) = 256 := rfl
            rw [this] at h
            unfold ofN
            rw [if_neg (by omega), if_neg (by omega), if_neg (by omega), if_neg (by omega), if_neg (by omega)])
        have hn : ¬ (((6 : Nat) : Int) ≤ 5) := by omega
        clear hlo
        go_wp2
        go_ret2
        rw [E.out]
        exact ⟨rfl, rfl⟩
  · have h0' : ¬ n ≥ 0 := h0
    have E : Hid (ofN n = (0, false)) := Lib.hid (by unfold ofN; rw [if_pos (by omega)])
    go_enter Tryz.func7, Tryz.ntmps7
    go_wp2_with fail
    go_loop [4] (fun k => k = .int .i64 2) (fun k => 6 - (intOf k).toNat)
    case atStart => rfl
    case round =>
      obtain rfl := hrel
      go_wp2
      go_ret2
      rw [E.out]
      exact ⟨rfl, rfl⟩
end Go.Proofs.YtgjgcbemgmkncaaGreatDoor
namespace Go.Proofs.YtgjgcbemgmkncaaGreatDoor
open Go.RowKit Go.Shelf
set_option linter.unusedVariables false
set_option linter.unusedSimpArgs false

theorem leaf_n (x : Nd) (V : Value) (w : World) (h : NdAt w x V) : Calls Tryz.prog 62 #[V] w (BoolEnd x.leafN w) := by
  obtain ⟨_, Ab, cb, Ak, ck, rfl, _, _⟩ := h
  unfold Nd.v
  go_enter Tryz.func62, Tryz.ntmps62
  go_wp2
  go_ret
  exact ⟨ret_bool (by rw [Bool.eq_iff_iff]; simp [Nd.leafN]; try omega), (Below.refl _ _).alloc (Nat.le_refl _) _⟩
theorem many_n (x : Nd) (V : Value) (w : World) (h : NdAt w x V) : Calls Tryz.prog 66 #[V] w (BoolEnd x.manyN w) := by
  obtain ⟨_, Ab, cb, Ak, ck, rfl, _, _⟩ := h
  unfold Nd.v
  go_enter Tryz.func66, Tryz.ntmps66
  go_wp2
  go_ret
  exact ⟨ret_bool (by rw [Bool.eq_iff_iff]; simp [Nd.manyN]; try omega), (Below.refl _ _).alloc (Nat.le_refl _) _⟩
theorem top_n (x : Nd) (V : Value) (w : World) (h : NdAt w x V) : Calls Tryz.prog 68 #[V] w (BoolEnd x.topN w) := by
  obtain ⟨_, Ab, cb, Ak, ck, rfl, _, _⟩ := h
  unfold Nd.v
  by_cases h1 : x.kind = 5
  · go_enter Tryz.func68, Tryz.ntmps68
    go_wp2
    go_ret
    exact ⟨ret_bool (by rw [Bool.eq_iff_iff]; simp [Nd.topN, h1]; try omega), (Below.refl _ _).alloc (Nat.le_refl _) _⟩
  · go_enter Tryz.func68, Tryz.ntmps68
    go_wp2
    go_ret
    exact ⟨ret_bool (by rw [Bool.eq_iff_iff]; simp [Nd.topN, h1]; try omega), (Below.refl _ _).alloc (Nat.le_refl _) _⟩
theorem bare_n (x : Nd) (V : Value) (w : World) (h : NdAt w x V) : Calls Tryz.prog 78 #[V] w (BoolEnd x.bareN w) := by
  obtain ⟨_, Ab, cb, Ak, ck, rfl, _, _⟩ := h
  unfold Nd.v
  cases hc : x.code.toList.isEmpty with
  | false =>
    go_enter Tryz.func78, Tryz.ntmps78
    go_wp2
    go_ret
    exact ⟨ret_bool (by rw [Bool.eq_iff_iff]; simp [Nd.bareN, hc]; try omega), (Below.refl _ _).alloc (Nat.le_refl _) _⟩
  | true =>
    cases hv : x.value.toList.isEmpty with
    | false =>
      go_enter Tryz.func78, Tryz.ntmps78
      go_wp2
      go_ret
      exact ⟨ret_bool (by rw [Bool.eq_iff_iff]; simp [Nd.bareN, hc, hv]; try omega), (Below.refl _ _).alloc (Nat.le_refl _) _⟩
    | true =>
      go_enter Tryz.func78, Tryz.ntmps78
      go_wp2
      go_ret
      exact ⟨ret_bool (by rw [Bool.eq_iff_iff]; simp [Nd.bareN, hc, hv]; try omega), (Below.refl _ _).alloc (Nat.le_refl _) _⟩
theorem paired_n (x : Nd) (V : Value) (w : World) (h : NdAt w x V) : Calls Tryz.prog 79 #[V] w (BoolEnd x.pairedN w) := by
  obtain ⟨_, Ab, cb, Ak, ck, rfl, _, _⟩ := h
  unfold Nd.v
  by_cases hl : x.bytes.length = x.kids.length
  · have hb : ((x.bytes.length : Int) == (x.kids.length : Int)) = true := by simp [hl]
    have HL := Lib.hid hl
    clear hl
    go_enter Tryz.func79, Tryz.ntmps79
    go_wp2
    go_ret
    exact ⟨ret_bool (by rw [Bool.eq_iff_iff]; simp [Nd.pairedN, HL.out]; try omega), (Below.refl _ _).alloc (Nat.le_refl _) _⟩
  · have hb : ((x.bytes.length : Int) == (x.kids.length : Int)) = false := by simp; omega
    go_enter Tryz.func79, Tryz.ntmps79
    go_wp2
    go_ret
    exact ⟨ret_bool (by rw [Bool.eq_iff_iff]; simp [Nd.pairedN, hl]; try omega), (Below.refl _ _).alloc (Nat.le_refl _) _⟩
theorem empty_n (x : Nd) (V : Value) (w : World) (h : NdAt w x V) : Calls Tryz.prog 64 #[V] w (BoolEnd x.emptyN w) := by
  obtain ⟨_, Ab, cb, Ak, ck, rfl, _, _⟩ := h
  unfold Nd.v
  cases hc : x.path.toList.isEmpty with
  | false =>
    go_enter Tryz.func64, Tryz.ntmps64
    go_wp2
    go_ret
    exact ⟨ret_bool (by rw [Bool.eq_iff_iff]; simp [Nd.emptyN, hc]; try omega), (Below.refl _ _).alloc (Nat.le_refl _) _⟩
  | true =>
    by_cases hl : x.bytes.length = 0
    · have hb : ((x.bytes.length : Int) == 0) = true := by simp [hl]
      have HL := Lib.hid hl
      clear hl
      go_enter Tryz.func64, Tryz.ntmps64
      go_wp2
      go_ret
      exact ⟨ret_bool (by rw [Bool.eq_iff_iff]; simp [Nd.emptyN, hc, HL.out]; try omega), (Below.refl _ _).alloc (Nat.le_refl _) _⟩
    · have hb : ((x.bytes.length : Int) == 0) = false := by rw [beq_eq_false_iff_ne]; omega
      go_enter Tryz.func64, Tryz.ntmps64
      go_wp2
      go_ret
      exact ⟨ret_bool (by rw [Bool.eq_iff_iff]; simp [Nd.emptyN, hc, hl]; try omega), (Below.refl _ _).alloc (Nat.le_refl _) _⟩
theorem inner_n (x : Nd) (V : Value) (w : World) (h : NdAt w x V) (hr : RoomsAt w) : Calls Tryz.prog 77 #[V] w (BoolEnd x.innerN w) := by
  obtain ⟨_, Ab, cb, Ak, ck, rfl, _, _⟩ := h
  unfold Nd.v
  have HR := Lib.hid (room_n x.kind (w.alloc (.cells #[.int .i64 x.kind, .string x.code, .string x.value, .string x.path, .slice Ab x.bytes.length cb, .slice Ak x.kids.length ck] 61)) (hr.on (below_box w _)))
  go_enter Tryz.func77, Tryz.ntmps77
  go_wp2_with fail
  refine HR.out.mono ?_
  rintro e w1 ⟨rfl, rfl⟩
  go_wp2
  go_ret
  exact ⟨ret_bool (by rw [Bool.eq_iff_iff]; simp [Nd.innerN]; try omega), (Below.refl _ _).alloc (Nat.le_refl _) _⟩
theorem fits_n (x : Nd) (V : Value) (w : World) (h : NdAt w x V) (hr : RoomsAt w) : Calls Tryz.prog 67 #[V] w (BoolEnd x.fitsN w) := by
  obtain ⟨_, Ab, cb, Ak, ck, rfl, _, _⟩ := h
  unfold Nd.v
  have HR := Lib.hid (of_n x.kids.length (w.alloc (.cells #[.int .i64 x.kind, .string x.code, .string x.value, .string x.path, .slice Ab x.bytes.length cb, .slice Ak x.kids.length ck] 61)) (hr.on (below_box w _)))
  obtain ⟨p, hp⟩ : ∃ p, ofN x.kids.length = p := ⟨_, rfl⟩
  rw [hp] at HR
  have HP := Lib.hid hp
  clear hp
  go_enter Tryz.func67, Tryz.ntmps67
  go_wp2_with fail
  refine HR.out.mono ?_
  rintro e w1 ⟨rfl, rfl⟩
  go_wp2
  go_ret
  exact ⟨ret_bool (by rw [Nd.fitsN, HP.out, Bool.eq_iff_iff]; simp), (Below.refl _ _).alloc (Nat.le_refl _) _⟩
end Go.Proofs.YtgjgcbemgmkncaaGreatDoor
namespace Go.Proofs.YtgjgcbemgmkncaaGreatDoor
open Go.RowKit Go.Shelf
set_option linter.unusedVariables false
set_option linter.unusedSimpArgs false

theorem rising_iff : ∀ l : List Nat, risingN l = true ↔ ∀ m, (h : m + 1 < l.length) → l[m] < l[m + 1]
  | [] => by simp [risingN]
  | [a] => by simp [risingN]
  | a :: b :: l => by
    have ih := rising_iff (b :: l)
    unfold risingN
    rw [Bool.and_eq_true, ih]
    constructor
    · rintro ⟨h1, h2⟩ m hm
      cases m with
      | zero => simpa using h1
      | succ m => exact h2 m (by simpa using hm)
    · intro h
      exact ⟨by simpa using h 0 (by simp), fun m hm => h (m + 1) (by simpa using hm)⟩
theorem rising_no {l : List Nat} {m : Nat} (h : m + 1 < l.length) (hle : l[m + 1] ≤ l[m]) : risingN l = false := by
  cases hr : risingN l with
  | false => rfl
  | true => have := (rising_iff l).1 hr m h; omega
set_option maxHeartbeats 1600000 in
theorem rising_n (x : Nd) (V : Value) (w : World) (h : NdAt w x V) : Calls Tryz.prog 80 #[V] w (BoolEnd x.risingN w) := by
  obtain ⟨hwf, Ab, cb, Ak, ck, rfl, hb, _⟩ := h
  have hlen := hwf.lb
  have HB := Lib.hid (And.intro hb hwf.bytes)
  obtain ⟨l, hl⟩ : ∃ l, l = x.bytes := ⟨_, rfl⟩
  unfold Nd.v Nd.risingN
  rw [← hl] at HB hlen ⊢
  clear hwf hb hl
  go_enter Tryz.func80, Tryz.ntmps80
  go_wp2_with fail
  have HW0 := Lib.hid (below_box w (.cells #[.int .i64 x.kind, .string x.code, .string x.value, .string x.path, .slice Ab l.length cb, .slice Ak x.kids.length ck] 61))
  have q0 := Blk.new w 61 #[.int .i64 x.kind, .string x.code, .string x.value, .string x.path, .slice Ab l.length cb, .slice Ak x.kids.length ck]
  generalize w.alloc (.cells #[.int .i64 x.kind, .string x.code, .string x.value, .string x.path, .slice Ab l.length cb, .slice Ak x.kids.length ck] 61) = w1 at HW0 q0 ⊢
  have e4 := q0.cell 4
  simp at e4
  clear q0
  go_loopw [3] (fun i wr => ∃ m : Nat, i = .int .i64 ((m : Int) + 1) ∧ (m = 0 ∨ m + 1 ≤ l.length) ∧ (∀ j, j < m → (h : j + 1 < l.length) → l[j] < l[j + 1]) ∧ ∃ n, wr = w1.drewN n) (fun i _ => l.length + 1 - (intOf i).toNat)
  case atStart => exact ⟨0, rfl, .inl rfl, fun j h => by omega, 0, rfl⟩
  case round =>
    obtain ⟨m, rfl, hm, hlo, n, rfl⟩ := hrel
    have HLO := Lib.hid hlo
    clear hlo
    by_cases hlt : m + 1 < l.length
    · obtain ⟨ad, rfl, hab, c1⟩ := byte_at HB.out.1 (k := m + 1) hlt
      obtain ⟨ad', e', _, c0⟩ := byte_at HB.out.1 (k := m) (by omega)
      obtain rfl := Option.some.inj e'
      have d1 : w1.cell? (ad.add (m + 1)) = some (.int .u8 (l[m + 1] : Int)) := (HW0.out.cell (p := ad.add (m + 1)) (by rw [block_of_add]; exact hab)).trans c1
      have d0 : w1.cell? (ad.add m) = some (.int .u8 (l[m] : Int)) := (HW0.out.cell (p := ad.add m) (by rw [block_of_add]; exact hab)).trans c0
      rw [show ad.add (m + 1) = ⟨ad.block, ad.off + (m + 1), none⟩ by simp [Addr.add]] at d1
      have HN := Lib.hid (fun h : l[m + 1] ≤ l[m] => rising_no hlt h)
      have HY : Hid (l[m] < l[m + 1] → ∀ j, j < m + 1 → (h : j + 1 < l.length) → l[j] < l[j + 1]) := Lib.hid (fun hh j hj h => by
        by_cases e : j = m
        · subst e; exact hh
        · exact HLO.out j (by omega) h)
      generalize l[m + 1] = b1 at d1 HN HY
      generalize l[m] = b0 at d0 HN HY
      have i1 : (0 : Int) ≤ (m : Int) + 1 := by omega
      have i2 : ((m : Int) + 1).toNat = m + 1 := by omega
      have i3 : (m : Int) + 1 < (l.length : Int) := by omega
      have i4 : (m : Int) < (l.length : Int) := by omega
      have i5 : (0 : Int) ≤ (m : Int) := by omega
      have sw : IntKind.i64.wrap ((m : Int) + 1 - 1) = (m : Int) := by rw [show (m : Int) + 1 - 1 = (m : Int) by omega]; exact IntWalk.i64_in _ (by omega)
      have sw2 : IntKind.i64.wrap (m : Int) = (m : Int) := IntWalk.i64_in _ (by omega)
      clear c1 c0 e' HLO
      by_cases hle : b1 ≤ b0
      · have hlb : (b1 : Int) ≤ (b0 : Int) := by omega
        have E := Lib.hid (HN.out hle)
        clear HN HY hle
        go_wp2_with fail
        go_quiet (fail)
        go_wp2
        go_ret
        exact ⟨ret_bool E.out.symm, below_drewN (below_drewN HW0.out _) _⟩
      · have hlb : ¬ ((b1 : Int) ≤ (b0 : Int)) := by omega
        have E := Lib.hid (HY.out (by omega))
        clear HN HY hle
        go_wp2_with fail
        go_quiet (fail)
        go_wp2
        go_roundw
        case rel => exact ⟨m + 1, by go_num, .inr (by omega), E.out, _, rfl⟩
        case measure => simp [intOf]; omega
    · have i3 : ¬ ((m : Int) + 1 < (l.length : Int)) := by omega
      have E : Hid (risingN l = true) := Lib.hid ((rising_iff l).2 (fun j hj => HLO.out j (by omega) hj))
      clear HLO
      go_wp2
      go_ret
      exact ⟨ret_bool E.out.symm, below_drewN HW0.out _⟩
end Go.Proofs.YtgjgcbemgmkncaaGreatDoor
namespace Go.Proofs.YtgjgcbemgmkncaaGreatDoor
open Go.RowKit Go.Shelf
set_option linter.unusedVariables false
set_option linter.unusedSimpArgs false

theorem ref_at {w : World} {B k : Nat} {A : Option Addr} {l : List (Int × Int)} (h : Reads w B 2 A l.length (l.flatMap rrow)) (hk : k < l.length) : ∃ ad, A = some ad ∧ ad.block < B ∧ w.cell? (ad.add (k * 2)) = some (.int .i64 (l[k]).1) ∧ w.cell? (ad.add (k * 2 + 1)) = some (.int .u32 (l[k]).2) := by
  obtain ⟨ad, e, hb, hc⟩ := h.2 (by omega)
  obtain ⟨h1, h2⟩ := flatR_at l k l[k] (by simp [hk])
  exact ⟨ad, e, hb, hc _ _ h1, hc _ _ h2⟩
theorem refs1_n (r : Int × Int) (w : World) : Calls Tryz.prog 87 #[refV r] w (BoolEnd (!(kidN r)) w) := by
  have HK := Lib.hid (kid_n r (w.alloc (.cells #[.int .i64 r.1, .int .u32 r.2] 29)))
  unfold refV at HK ⊢
  go_enter Tryz.func87, Tryz.ntmps87
  go_wp2_with fail
  refine HK.out.mono ?_
  rintro e w1 ⟨rfl, hb⟩
  have HB := Lib.hid ((below_box w (.cells #[.int .i64 r.1, .int .u32 r.2] 29)).trans (hb.mono (by simp)))
  clear hb HK
  go_wp2
  go_ret
  exact ⟨rfl, HB.out⟩
def IxEnd (found : Bool) (w : World) (e : Ending) (w' : World) : Prop := ∃ i : Int, e = .returned (.int .i64 i) ∧ (decide (0 ≤ i) = found) ∧ Below w.heap.size w w'
set_option maxHeartbeats 1600000 in
theorem ixrefs_n (l : List (Int × Int)) (A : Option Addr) (c : Nat) (w : World) (hA : Reads w w.heap.size 2 A l.length (l.flatMap rrow)) (hl : l.length ≤ 9223372036854775807) : Calls Tryz.prog 90 #[.slice A l.length c, .func (.func 87) #[] #[]] w (IxEnd (!(l.all kidN)) w) := by
  have HA := Lib.hid hA
  clear hA
  go_enter Tryz.func90, Tryz.ntmps90
  go_wp2_with fail
  go_loopw [8] (fun i wr => ∃ k : Nat, k ≤ l.length ∧ i = .int .i64 k ∧ Hid ((∀ j, j < k → (h : j < l.length) → kidN l[j] = true) ∧ Below w.heap.size w wr)) (fun i _ => l.length - (intOf i).toNat)
  case atStart => exact ⟨0, Nat.zero_le _, rfl, Lib.hid ⟨fun j h => by omega, Below.refl _ _⟩⟩
  case round =>
    obtain ⟨k, hk, rfl, HW⟩ := hrel
    by_cases hlt : k < l.length
    · obtain ⟨ad, rfl, hab, c0, c1⟩ := ref_at HA.out hlt
      have d0 : wr.cell? (ad.add (k * 2)) = some (.int .i64 (l[k]).1) := (HW.out.2.cell (p := ad.add (k * 2)) (by rw [block_of_add]; exact hab)).trans c0
      have d1 : wr.cell? (ad.add (k * 2 + 1)) = some (.int .u32 (l[k]).2) := (HW.out.2.cell (p := ad.add (k * 2 + 1)) (by rw [block_of_add]; exact hab)).trans c1
      have d1a : wr.cell? ⟨(ad.add (k * 2)).block, (ad.add (k * 2)).off + 1, none⟩ = some (.int .u32 (l[k]).2) := by
        rw [← d1, block_of_add]; congr 1; simp [Addr.add]; split <;> simp_all <;> omega
      have d1b : wr.cell? ⟨ad.block, (ad.add (k * 2)).off + 1, none⟩ = some (.int .u32 (l[k]).2) := by rw [block_of_add] at d1a; exact d1a
      have HR := Lib.hid (refs1_n l[k] wr)
      have HN : Hid (kidN l[k] = false → l.all kidN = false) := Lib.hid (fun h => by
        rw [List.all_eq_false]; exact ⟨l[k], List.getElem_mem hlt, by simp [h]⟩)
      have HY : Hid (kidN l[k] = true → ∀ j, j < k + 1 → (h : j < l.length) → kidN l[j] = true) := Lib.hid (fun hh j hj h => by
        by_cases e : j = k
        · subst e; exact hh
        · exact HW.out.1 j (by omega) h)
      generalize l[k] = r at d0 d1 d1a d1b HR HN HY
      have i1 : (0 : Int) ≤ (k : Int) := by omega
      have i2 : (k : Int) < (l.length : Int) := by omega
      have i3 : k < l.length := hlt
      clear c0 c1
      unfold refV at HR
      cases hkd : kidN r with
      | false =>
        rw [hkd] at HR
        have E := Lib.hid (HN.out hkd)
        clear HN HY hkd
        go_wp2_with fail
        refine HR.out.mono ?_
        rintro e w1 ⟨rfl, hb⟩
        have HB := Lib.hid (HW.out.2.trans (hb.mono HW.out.2.size))
        clear hb HR
        go_wp2
        go_ret
        exact ⟨_, rfl, by rw [E.out]; simp, HB.out⟩
      | true =>
        rw [hkd] at HR
        have E := Lib.hid (HY.out hkd)
        clear HN HY hkd
        go_wp2_with fail
        refine HR.out.mono ?_
        rintro e w1 ⟨rfl, hb⟩
        have HB := Lib.hid (And.intro E.out (HW.out.2.trans (hb.mono HW.out.2.size)))
        clear hb HR
        go_wp2
        go_roundw
        case rel => exact ⟨k + 1, by omega, by go_num, HB⟩
        case measure => simp [intOf]; omega
    · have i2 : ¬ ((k : Int) < (l.length : Int)) := by omega
      have E : Hid (l.all kidN = true) := Lib.hid (by
        rw [List.all_eq_true]
        intro r hr
        obtain ⟨j, hj, rfl⟩ := List.getElem_of_mem hr
        exact HW.out.1 j (by omega) hj)
      go_wp2
      go_ret
      exact ⟨_, rfl, by rw [E.out]; rfl, HW.out.2⟩
theorem crefs_n (l : List (Int × Int)) (A : Option Addr) (c : Nat) (w : World) (hA : Reads w w.heap.size 2 A l.length (l.flatMap rrow)) (hl : l.length ≤ 9223372036854775807) : Calls Tryz.prog 86 #[.slice A l.length c, .func (.func 87) #[] #[]] w (BoolEnd (!(l.all kidN)) w) := by
  have HI := Lib.hid (ixrefs_n l A c w hA hl)
  clear hA
  generalize (!(l.all kidN)) = b at HI ⊢
  go_enter Tryz.func86, Tryz.ntmps86
  go_wp2_with fail
  refine HI.out.mono ?_
  rintro e w1 ⟨i, rfl, hi, hb⟩
  have H := Lib.hid (And.intro hi hb)
  clear hi hb HI
  go_wp2
  go_ret
  exact ⟨ret_bool (by rw [← H.out.1]), H.out.2⟩
theorem refs_n (x : Nd) (V : Value) (w : World) (h : NdAt w x V) : Calls Tryz.prog 81 #[V] w (BoolEnd x.refsN w) := by
  obtain ⟨hwf, Ab, cb, Ak, ck, rfl, _, hk⟩ := h
  unfold Nd.v
  have HC := Lib.hid (crefs_n x.kids Ak ck (w.alloc (.cells #[.int .i64 x.kind, .string x.code, .string x.value, .string x.path, .slice Ab x.bytes.length cb, .slice Ak x.kids.length ck] 61)) ((hk.below (below_box w _)).more (by simp)) hwf.lk)
  clear hwf hk
  obtain ⟨b, hb⟩ : ∃ b, x.kids.all kidN = b := ⟨_, rfl⟩
  have E : Hid (x.refsN = b) := Lib.hid hb
  rw [hb] at HC
  clear hb
  go_enter Tryz.func81, Tryz.ntmps81
  go_wp2_with fail
  refine HC.out.mono ?_
  rintro e w1 ⟨rfl, hb⟩
  have HB := Lib.hid ((below_box w (.cells #[.int .i64 x.kind, .string x.code, .string x.value, .string x.path, .slice Ab x.bytes.length cb, .slice Ak x.kids.length ck] 61)).trans (hb.mono (by simp)))
  clear hb HC
  go_wp2
  go_ret
  exact ⟨ret_bool (by rw [E.out]; first | done | simp), HB.out⟩

/-! ### all -/
/-- The conditions fs, asked of one value, answer bs (each is asked only where those ahead of it answered yes). -/
def Asks (fs : List Nat) (bs : List Bool) (pv : Value) (P : World → Prop) : Prop :=
  fs.length = bs.length ∧ (∀ f ∈ fs, ∀ args w, (callFunc f args).run Tryz.prog w = .ok (.enter f args) w) ∧ (∀ W W', P W → Below W.heap.size W W' → P W') ∧ ∀ (i f : Nat) (b : Bool), fs[i]? = some f → bs[i]? = some b → (∀ j : Nat, j < i → bs[j]? = some true) → ∀ W, P W → Calls Tryz.prog f #[pv] W (BoolEnd b W)
def closV (pv : Value) (f : Nat) : Value := .func (.func f) #[pv] #[]
theorem notc_n (f : Nat) (pv : Value) (b : Bool) (w : World) (h : Calls Tryz.prog f #[pv] w (BoolEnd b w)) (hf : ∀ args w, (callFunc f args).run Tryz.prog w = .ok (.enter f args) w) : Calls Tryz.prog 75 #[closV pv f] w (BoolEnd (!b) w) := by
  have H := Lib.hid h
  clear h
  unfold closV
  go_enter Tryz.func75, Tryz.ntmps75
  go_wp2_with fail
  refine H.out.mono ?_
  rintro e w1 ⟨rfl, hb⟩
  have HB := Lib.hid hb
  clear hb H hf
  go_wp2
  go_ret
  exact ⟨rfl, HB.out⟩
theorem all_true {bs : List Bool} : bs.all id = true ↔ ∀ j : Nat, j < bs.length → bs[j]? = some true := by
  rw [List.all_eq_true]
  constructor
  · intro h j hj
    have := h bs[j] (List.getElem_mem hj)
    simp at this
    rw [List.getElem?_eq_getElem hj, this]
  · intro h b hb
    obtain ⟨j, hj, rfl⟩ := List.getElem_of_mem hb
    have := h j hj
    rw [List.getElem?_eq_getElem hj] at this
    simpa using this
set_option maxHeartbeats 1600000 in
theorem ixall_n (fs : List Nat) (bs : List Bool) (pv : Value) (P : World → Prop) (hA : Asks fs bs pv P) (s c : Nat) (w : World) (hw : P w) (hs : Blk w s 31 (fs.map (closV pv)).toArray) (hl : fs.length ≤ 9223372036854775807) : Calls Tryz.prog 84 #[.slice (some ⟨s, 0, none⟩) fs.length c, .func (.func 75) #[] #[]] w (IxEnd (!(bs.all id)) w) := by
  have H := Lib.hid (And.intro hA (And.intro hw hs))
  clear hA hw hs
  go_enter Tryz.func84, Tryz.ntmps84
  go_wp2_with fail
  go_loopw [8] (fun i wr => ∃ k : Nat, k ≤ fs.length ∧ i = .int .i64 k ∧ Hid ((∀ j : Nat, j < k → bs[j]? = some true) ∧ P wr ∧ Below w.heap.size w wr)) (fun i _ => fs.length - (intOf i).toNat)
  case atStart => exact ⟨0, Nat.zero_le _, rfl, Lib.hid ⟨fun j h => by omega, H.out.2.1, Below.refl _ _⟩⟩
  case round =>
    obtain ⟨k, hk, rfl, HW⟩ := hrel
    by_cases hlt : k < fs.length
    · obtain ⟨hlen, hent, hst, hask⟩ := H.out.1
      have hbk : bs[k]? = some (bs[k]'(by omega)) := List.getElem?_eq_getElem (by omega)
      have d0 : wr.cell? ⟨s, k, none⟩ = some (closV pv fs[k]) := by
        rw [(H.out.2.2.below HW.out.2.2 H.out.2.2.lt).cell k, List.getElem?_toArray, List.getElem?_map, List.getElem?_eq_getElem hlt]
        rfl
      have HR := Lib.hid (notc_n fs[k] pv _ wr (hask k fs[k] _ (List.getElem?_eq_getElem hlt) hbk HW.out.1 wr HW.out.2.1) (hent fs[k] (List.getElem_mem hlt)))
      have HST := Lib.hid hst
      have HLEN := Lib.hid hlen
      generalize bs[k]'(by omega) = b at hbk HR
      generalize fs[k] = f at d0 HR
      have HBK := Lib.hid hbk
      have i1 : (0 : Int) ≤ (k : Int) := by omega
      have i2 : (k : Int) < (fs.length : Int) := by omega
      have i3 : k < fs.length := hlt
      clear hask hent hst hlen hbk
      unfold closV at d0 HR
      cases b with
      | false =>
        have E : Hid (bs.all id = false) := Lib.hid (by
          rw [← Bool.not_eq_true]
          intro h
          have := (all_true.1 h) k (by have := HLEN.out; omega)
          rw [HBK.out] at this
          simp at this)
        go_wp2_with fail
        refine HR.out.mono ?_
        rintro e w1 ⟨rfl, hb⟩
        have HB := Lib.hid (HW.out.2.2.trans (hb.mono HW.out.2.2.size))
        clear hb HR
        go_wp2
        go_ret
        exact ⟨_, rfl, by rw [E.out]; simp, HB.out⟩
      | true =>
        have E : Hid (∀ j : Nat, j < k + 1 → bs[j]? = some true) := Lib.hid (fun j hj => by
          by_cases e : j = k
          · subst e; exact HBK.out
          · exact HW.out.1 j (by omega))
        go_wp2_with fail
        refine HR.out.mono ?_
        rintro e w1 ⟨rfl, hb⟩
        have HB := Lib.hid (And.intro E.out (And.intro (HST.out _ _ HW.out.2.1 hb) (HW.out.2.2.trans (hb.mono HW.out.2.2.size))))
        clear hb HR
        go_wp2
        go_roundw
        case rel => exact ⟨k + 1, by omega, by go_num, HB⟩
        case measure => simp [intOf]; omega
    · have i2 : ¬ ((k : Int) < (fs.length : Int)) := by omega
      have E : Hid (bs.all id = true) := Lib.hid (all_true.2 fun j hj => HW.out.1 j (by have := H.out.1.1; omega))
      go_wp2
      go_ret
      exact ⟨_, rfl, by rw [E.out]; rfl, HW.out.2.2⟩
theorem all_n (fs : List Nat) (bs : List Bool) (pv : Value) (P : World → Prop) (hA : Asks fs bs pv P) (s c : Nat) (w : World) (hw : P w) (hs : Blk w s 31 (fs.map (closV pv)).toArray) (hl : fs.length ≤ 9223372036854775807) : Calls Tryz.prog 61 #[.slice (some ⟨s, 0, none⟩) fs.length c] w (BoolEnd (bs.all id) w) := by
  have HI := Lib.hid (ixall_n fs bs pv P hA s c w hw hs hl)
  clear hA hw hs
  generalize bs.all id = b at HI ⊢
  have HC : Hid (Calls Tryz.prog 74 #[.slice (some ⟨s, 0, none⟩) fs.length c, .func (.func 75) #[] #[]] w (BoolEnd (!b) w)) := Lib.hid (by
    go_enter Tryz.func74, Tryz.ntmps74
    go_wp2_with fail
    refine HI.out.mono ?_
    rintro e w1 ⟨i, rfl, hi, hb⟩
    have H := Lib.hid (And.intro hi hb)
    clear hi hb HI
    go_wp2
    go_ret
    exact ⟨ret_bool (by rw [← H.out.1]), H.out.2⟩)
  clear HI
  go_enter Tryz.func61, Tryz.ntmps61
  go_wp2_with fail
  refine HC.out.mono ?_
  rintro e w1 ⟨rfl, hb⟩
  have HB := Lib.hid hb
  clear hb HC
  go_wp2
  go_ret
  exact ⟨ret_bool (by simp), HB.out⟩
end Go.Proofs.YtgjgcbemgmkncaaGreatDoor
