/-
  Layer 8: a row that is only read (a copy, whose blocks may be longer); Copy.
-/
import Derived.Test.YtmcpfhhggapkcaaManyW5
import Derived.Test.YtmcpfhhggapkcaaRangeO
namespace Go.Proofs.Ytmcpfhhggapkcaa
open Go.RowKit Go.Shelf
set_option linter.unusedVariables false
set_option linter.unusedSimpArgs false

/-- What is read of a row: the positions of the bytes and the Refs. -/
def RBlk (W : World) (g gr room : Nat) (o : ManyO) : Prop := ∃ (mc rc : List Value) (cap : Nat), Blk W g 90 mc.toArray ∧ Blk W gr 31 rc.toArray ∧ (∀ b, b < 256 → mc[b]? = some (.int .u16 (o.at_ b : Int))) ∧ mc[256]? = some (.slice (some ⟨gr, 0, none⟩) room cap) ∧ ∀ p, p < room → rc[p * 2]? = some (.int .i64 (o.refs p).1) ∧ rc[p * 2 + 1]? = some (.int .u32 (o.refs p).2)
theorem MBlk.read {W : World} {g gr gu room : Nat} {o : ManyO} (h : MBlk W g gr gu room o) : RBlk W g gr room o :=
  ⟨_, _, _, h.1, h.2.1, fun b hb => mcells_at o gr gu room hb, (mcells_sl o gr gu room).1, fun p hp => rcells_at o room hp⟩
def ReadAt (W : World) (g gr room : Nat) (f : Kids) : Prop := ∃ o : ManyO, o.rep room f ∧ RBlk W g gr room o ∧ 0 < room ∧ room ≤ 256
theorem ManyAt.read {W : World} {g gr gu room : Nat} {f : Kids} (h : ManyAt W g gr gu room f) : ReadAt W g gr room f := by
  obtain ⟨o, h1, h2, h3⟩ := h
  exact ⟨o, h1, h2.read, h3⟩
theorem ReadAt.keep {W W' : World} {g gr room : Nat} {f : Kids} (h : ReadAt W g gr room f) (hk : ∀ k t cs, k = g ∨ k = gr → Blk W k t cs → Blk W' k t cs) : ReadAt W' g gr room f := by
  obtain ⟨o, h1, ⟨mc, rc, cap, h2, h3, h4⟩, h5⟩ := h
  exact ⟨o, h1, ⟨mc, rc, cap, hk _ _ _ (.inl rfl) h2, hk _ _ _ (.inr rfl) h3, h4⟩, h5⟩
theorem ReadAt.below {W W' : World} {g gr room : Nat} {f : Kids} (h : ReadAt W g gr room f) (hb : Below W.heap.size W W') : ReadAt W' g gr room f := h.keep fun k t cs _ hk => hk.below hb hk.lt
theorem ReadAt.drewN {W : World} {g gr room : Nat} {f : Kids} (h : ReadAt W g gr room f) (n : Nat) : ReadAt (W.drewN n) g gr room f := h.keep fun k t cs _ hk => hk.drewN n
theorem ReadAt.lt {W : World} {g gr room : Nat} {f : Kids} (h : ReadAt W g gr room f) : g < W.heap.size ∧ gr < W.heap.size := by
  obtain ⟨o, h1, ⟨mc, rc, cap, h2, h3, h4⟩, h5⟩ := h
  exact ⟨h2.lt, h3.lt⟩
theorem RBlk.at_ {W : World} {g gr room : Nat} {o : ManyO} (h : RBlk W g gr room o) {b : Nat} (hb : b < 256) : W.cell? ⟨g, b, none⟩ = some (.int .u16 (o.at_ b : Int)) := by
  obtain ⟨mc, rc, cap, h2, h3, h4, h5, h6⟩ := h
  exact (h2.cell b).trans (by rw [List.getElem?_toArray]; exact h4 b hb)
theorem RBlk.sl {W : World} {g gr room : Nat} {o : ManyO} (h : RBlk W g gr room o) : ∃ cap, W.cell? ⟨g, 256, none⟩ = some (.slice (some ⟨gr, 0, none⟩) room cap) := by
  obtain ⟨mc, rc, cap, h2, h3, h4, h5, h6⟩ := h
  exact ⟨cap, (h2.cell 256).trans (by rw [List.getElem?_toArray]; exact h5)⟩
theorem RBlk.ref {W : World} {g gr room : Nat} {o : ManyO} (h : RBlk W g gr room o) {p : Nat} (hp : p < room) : W.cell? ⟨gr, p * 2, none⟩ = some (.int .i64 (o.refs p).1) ∧ W.cell? ⟨gr, p * 2 + 1, none⟩ = some (.int .u32 (o.refs p).2) := by
  obtain ⟨mc, rc, cap, h2, h3, h4, h5, h6⟩ := h
  exact ⟨(h3.cell _).trans (by rw [List.getElem?_toArray]; exact (h6 p hp).1), (h3.cell _).trans (by rw [List.getElem?_toArray]; exact (h6 p hp).2)⟩
theorem rhas (g gr room : Nat) (o : ManyO) (b : Nat) (w : World) (h : RBlk w g gr room o) (hb : b < 256) : Calls Try.prog 44 #[.pointer (some ⟨g, 0, none⟩), .int .i64 (b : Int)] w (StayEnd (.bool (decide (0 < o.at_ b))) w) := by
  have c1 := h.at_ hb
  have i1 : (0 : Int) ≤ (b : Int) := by omega
  have i2 : (b : Int) < 256 := by omega
  generalize o.at_ b = n at c1
  clear h
  by_cases hn : 0 < n
  · have i3 : (0 : Int) < (n : Int) := by omega
    go_enter Try.func44, Try.ntmps44
    go_wp2
    go_ret
    exact ⟨by simp [hn], rfl⟩
  · have i3 : ¬ ((0 : Int) < (n : Int)) := by omega
    go_enter Try.func44, Try.ntmps44
    go_wp2
    go_ret
    exact ⟨by simp [hn], rfl⟩
theorem rref (g gr room : Nat) (o : ManyO) (b p : Nat) (w : World) (h : RBlk w g gr room o) (hb : b < 256) (hp : p < room) (hroom : room ≤ 256) (hat : o.at_ b = p + 1) : Calls Try.prog 45 #[.pointer (some ⟨g, 0, none⟩), .int .i64 (b : Int)] w (fun e w' => e = .returned (.pointer (some ⟨gr, p * 2, none⟩)) ∧ ∃ k, w' = w.drewN k) := by
  have c1 := h.at_ hb
  rw [hat] at c1
  have c1' : w.cell? ⟨g, b, none⟩ = some (.int .u16 ((p : Int) + 1)) := by rw [c1]; simp
  obtain ⟨cap, c2⟩ := h.sl
  have i1 : (0 : Int) ≤ (b : Int) := by omega
  have i2 : (b : Int) < 256 := by omega
  have i3 : (0 : Int) ≤ (p : Int) := by omega
  have i4 : (p : Int) < (room : Int) := by omega
  have i5 : (p : Int) + 1 - 1 = (p : Int) := by omega
  have sw : IntKind.u16.wrap ((p : Int) + 1 - 1) = (p : Int) := by rw [i5]; exact IntWalk.u16_in _ (by omega)
  have sw2 : IntKind.u16.wrap (p : Int) = (p : Int) := IntWalk.u16_in _ (by omega)
  clear h c1 hat
  go_enter Try.func45, Try.ntmps45
  go_wp2_with fail
  go_quiet (fail)
  go_wp2
  go_ret
  exact ⟨rfl, _, rfl⟩
theorem has_r {g gr room : Nat} {f : Kids} {w : World} (h : ReadAt w g gr room f) {b : Nat} (hb : b < 256) : Calls Try.prog 44 #[.pointer (some ⟨g, 0, none⟩), .int .i64 (b : Int)] w (StayEnd (.bool (f b).isSome) w) := by
  obtain ⟨o, h1, h2, h3, h4⟩ := h
  have := rhas g gr room o b w h2 hb
  rw [h1.has hb] at this
  exact this

/-! ### Copy -/
theorem rcells_one (o : ManyO) (room : Nat) : ∀ v ∈ rcells o room, v.oneCell' = true := ref_one _
theorem ucells_one (o : ManyO) (room : Nat) : ∀ v ∈ ucells o room, v.oneCell' = true := by
  intro v hv
  obtain ⟨p, _, rfl⟩ := List.mem_map.1 hv
  rfl
theorem rcells_len (o : ManyO) (room : Nat) : (rcells o room).length = room * 2 := by
  unfold rcells
  have h : ∀ l : List (Int × Int), (l.flatMap rrow).length = l.length * 2 := by
    intro l
    induction l with
    | nil => rfl
    | cons x l ih => rw [List.flatMap_cons, List.length_append, ih]; simp [rrow]; omega
  rw [h]
  simp
theorem ucells_len (o : ManyO) (room : Nat) : (ucells o room).length = room := by simp [ucells]
def CloneEnd (T : TypeId) (size n : Nat) (xs : List Value) (w : World) (e : Ending) (w' : World) : Prop := ∃ g cap cur, e = .returned (.slice (some ⟨g, 0, none⟩) n cap) ∧ w.heap.size ≤ g ∧ Blk w' g T cur ∧ cur.toList.take (n * size) = xs ∧ Below w.heap.size w w'
theorem own_clone {T : TypeId} {size n : Nat} {xs : List Value} {w w' : World} {v : Value} (h : w'.ownsRow w.heap.size T size v n xs) (hn : 0 < n) (hb : Below w.heap.size w w') : CloneEnd T size n xs w (.returned v) w' := by
  rcases h.2 with ⟨_, h0⟩ | ⟨g, cap, cur, rfl, hg, hblk, _, _, _, ht⟩
  · omega
  · exact ⟨g, cap, cur, rfl, hg, hblk, ht, hb⟩
set_option maxHeartbeats 2000000 in
set_option maxRecDepth 100000 in
theorem clone_refs (gr room cap : Nat) (o : ManyO) (w : World) (h : Blk w gr 31 (rcells o room).toArray) (h0 : 0 < room) (hroom : room ≤ 256) : Calls Try.prog 57 #[.slice (some ⟨gr, 0, none⟩) room cap] w (CloneEnd 31 2 room (rcells o room) w) := by
  obtain ⟨i0, hi, hz0, hz1, hz2⟩ := info_parts infoRef2
  have q : ∀ (w : World) (a : Option Addr) (n c n' c' : Nat), (binOp .eql 85 (.slice a n c) (.slice none n' c')).run Try.prog w = .ok (.bool a.isNone) w := fun w a n c n' c' => Lib.run_eql_slice_nil w _ _ a n c n' c' Try.underlying85
  have A : Aside (Blk w gr 31 (rcells o room).toArray ∧ 0 < room) := ⟨h, h0⟩
  have hl := rcells_len o room
  clear h h0
  go_enter Try.func57, Try.ntmps57
  go_wp2_with (at_builtin; refine wpList_append_own _ rfl _ _ 85 rfl w.heap.size 31 i0 (.agg #[.int .i64 0, .int .u32 0]) 2 16 Try.underlying85 hi hz0 hz1 hz2 rfl (by decide) _ _ _ rfl (World.ownsRow_made w #[] 0 (Nat.le_refl _) (Nat.zero_le _) rfl) ⟨gr, 0, none⟩ room cap (rcells o room) rfl ?qc1 ?qc2 ?qc3 ?qc4 ?qc5 ?qc6 ?_)
  case qc1 => exact hl
  case qc2 =>
    intro j u hj
    rw [Addr.add_lit]
    refine Lib.cell?_alloc_some _ ?_
    rw [Nat.zero_add]
    exact (A.out.1.cell j).trans (by rw [List.getElem?_toArray]; exact hj)
  case qc3 => exact rcells_one o room
  case qc4 => unfold maxLen; omega
  case qc5 => omega
  case qc6 => simp
  intro v' w1 hown hgrow hnil
  go_wp2
  go_ret
  refine own_clone (by simpa using hown) A.out.2 ?_
  exact ((Below.refl _ w).alloc (Nat.le_refl _) _).grown hgrow (by simp) (by intro k hk; simp [Value.ownBlock] at hk; omega)
set_option maxHeartbeats 2000000 in
set_option maxRecDepth 100000 in
theorem clone_bools (gu room cap : Nat) (o : ManyO) (w : World) (h : Blk w gu 4 (ucells o room).toArray) (h0 : 0 < room) (hroom : room ≤ 256) : Calls Try.prog 58 #[.slice (some ⟨gu, 0, none⟩) room cap] w (CloneEnd 4 1 room (ucells o room) w) := by
  obtain ⟨i0, hi, hz0, hz1, hz2⟩ := info_parts infoBool1
  have q : ∀ (w : World) (a : Option Addr) (n c n' c' : Nat), (binOp .eql 86 (.slice a n c) (.slice none n' c')).run Try.prog w = .ok (.bool a.isNone) w := fun w a n c n' c' => Lib.run_eql_slice_nil w _ _ a n c n' c' Try.underlying86
  have A : Aside (Blk w gu 4 (ucells o room).toArray ∧ 0 < room) := ⟨h, h0⟩
  have hl := ucells_len o room
  clear h h0
  go_enter Try.func58, Try.ntmps58
  go_wp2_with (at_builtin; refine wpList_append_own _ rfl _ _ 86 rfl w.heap.size 4 i0 (.bool false) 1 1 Try.underlying86 hi hz0 hz1 hz2 rfl (by decide) _ _ _ rfl (World.ownsRow_made w #[] 0 (Nat.le_refl _) (Nat.zero_le _) rfl) ⟨gu, 0, none⟩ room cap (ucells o room) rfl ?qc1 ?qc2 ?qc3 ?qc4 ?qc5 ?qc6 ?_)
  case qc1 => simp [hl]
  case qc2 =>
    intro j u hj
    rw [Addr.add_lit]
    refine Lib.cell?_alloc_some _ ?_
    rw [Nat.zero_add]
    exact (A.out.1.cell j).trans (by rw [List.getElem?_toArray]; exact hj)
  case qc3 => exact ucells_one o room
  case qc4 => unfold maxLen; omega
  case qc5 => omega
  case qc6 => simp
  intro v' w1 hown hgrow hnil
  go_wp2
  go_ret
  refine own_clone (by simpa using hown) A.out.2 ?_
  exact ((Below.refl _ w).alloc (Nat.le_refl _) _).grown hgrow (by simp) (by intro k hk; simp [Value.ownBlock] at hk; omega)

theorem fold_pre (L : List Value) : ∀ (A Z R : List Value), L.length = Z.length → (L.zipIdx A.length).foldl (fun (cs : Array Value) x => cs.setIfInBounds x.2 x.1) (A ++ (Z ++ R)).toArray = (A ++ (L ++ R)).toArray := by
  induction L with
  | nil =>
    intro A Z R h
    rw [List.eq_nil_of_length_eq_zero h.symm]
    rfl
  | cons x L ih =>
    intro A Z R h
    cases Z with
    | nil => cases h
    | cons z Z =>
      rw [List.zipIdx_cons, List.foldl_cons]
      have h1 : (A ++ (z :: Z ++ R)).toArray.setIfInBounds A.length x = ((A ++ [x]) ++ (Z ++ R)).toArray := by
        rw [List.setIfInBounds_toArray, List.set_append_right _ _ (Nat.le_refl _), Nat.sub_self, List.cons_append, List.set_cons_zero]
        simp
      have h2 := ih (A ++ [x]) Z R (by simpa using h)
      simp only [List.length_append, List.length_cons, List.length_nil, Nat.zero_add] at h2
      dsimp only
      rw [h1, h2]
      simp
/-- The positions alone. -/
def idxs (o : ManyO) : List Value := (List.range 256).map (fun b => .int .u16 (o.at_ b : Int))
theorem idxs_len (o : ManyO) : (idxs o).length = 256 := by simp [idxs]
theorem idxs_range {W : World} {g : Nat} {o : ManyO} {gr gu room : Nat} {t : TypeId} (h : Blk W g t (mcells o gr gu room).toArray) : W.rangeAt g 0 (idxs o) := by
  intro j v hv
  have hj : j < 256 := by have := (List.getElem?_eq_some_iff.1 hv).1; rwa [idxs_len] at this
  rw [Nat.zero_add]
  refine (h.cell j).trans ?_
  rw [List.getElem?_toArray]
  unfold mcells
  rw [List.getElem?_append_left (by simpa using hj)]
  exact hv
theorem idx_fold (o : ManyO) (v1 v2 : Value) : (((idxs o).zipIdx.foldl (fun (cs : Array Value) x => cs.setIfInBounds x.2 x.1) zeroIdx.toArray).setIfInBounds 256 v1).setIfInBounds 257 v2 = (idxs o ++ [v1, v2]).toArray := by
  have h := fold_pre (idxs o) [] ((List.range 256).map (fun _ => .int .u16 0)) [.slice none 0 0, .slice none 0 0] (by simp [idxs])
  simp only [List.nil_append, List.length_nil] at h
  have e : zeroIdx = (List.range 256).map (fun _ => .int .u16 0) ++ [.slice none 0 0, .slice none 0 0] := rfl
  rw [e, h, List.setIfInBounds_toArray, List.setIfInBounds_toArray, List.set_append_right _ _ (by rw [idxs_len]; omega), List.set_append_right _ _ (by rw [idxs_len]; omega), idxs_len]
  rfl
def CopyMEnd (room : Nat) (f : Kids) (w : World) (e : Ending) (w' : World) : Prop := ∃ g gr, e = .returned (.pointer (some ⟨g, 0, none⟩)) ∧ ReadAt w' g gr room f ∧ w.heap.size ≤ g ∧ w.heap.size ≤ gr ∧ Below w.heap.size w w'
theorem copied {o : ManyO} {room : Nat} {f : Kids} {W : World} {g gr cap : Nat} {cur : Array Value} {v2 : Value} (ho : o.rep room f) (h0 : 0 < room ∧ room ≤ 256) (h1 : Blk W g 90 (idxs o ++ [.slice (some ⟨gr, 0, none⟩) room cap, v2]).toArray) (h2 : Blk W gr 31 cur) (h3 : cur.toList.take (room * 2) = rcells o room) : ReadAt W g gr room f := by
  refine ⟨o, ho, ⟨_, cur.toList, cap, h1, by simpa using h2, fun b hb => ?_, ?_, fun p hp => ?_⟩, h0⟩
  · rw [List.getElem?_append_left (by rw [idxs_len]; exact hb)]
    simp [idxs, hb]
  · rw [List.getElem?_append_right (by rw [idxs_len]; omega), idxs_len]
    rfl
  · obtain ⟨k1, k2⟩ := rcells_at o room hp
    rw [← h3, List.getElem?_take, if_pos (by omega)] at k1 k2
    exact ⟨k1, k2⟩
theorem sCopy {V : World} {g gr gu room : Nat} {o : ManyO} (h : MBlk V g gr gu room o) : V.cell? ⟨g, 256, none⟩ = some (.slice (some ⟨gr, 0, none⟩) room room) ∧ V.cell? ⟨g, 257, none⟩ = some (.slice (some ⟨gu, 0, none⟩) room room) ∧ MBlk V g gr gu room o := ⟨h.sl.1, h.sl.2, h⟩
set_option maxHeartbeats 3200000 in
set_option maxRecDepth 100000 in
theorem Copy_m (g gr gu room : Nat) (f : Kids) (w : World) (h : ManyAt w g gr gu room f) : Calls Try.prog 42 #[.pointer (some ⟨g, 0, none⟩)] w (CopyMEnd room f w) := by
  have HT := Lib.hid (there_m h)
  obtain ⟨o, h1, h2, h3, h4⟩ := h
  have hz1 := zero_of infoIdx
  have hz2 := zero_of infoMany
  obtain ⟨Z, hZ⟩ : ∃ Z : List Value, Z = zeroIdx := ⟨_, rfl⟩
  have hne : (Z.toArray = #[]) = False := by rw [hZ]; simp [zeroIdx]
  have hlen : Z.length = 258 := by rw [hZ]; exact idx_len
  rw [← hZ] at hz1 hz2
  obtain ⟨X, hX⟩ : ∃ X : List Value, X = idxs o := ⟨_, rfl⟩
  have hXl : X.length = 256 := by rw [hX]; exact idxs_len o
  obtain ⟨Y, hY⟩ : ∃ Y : List Value, List.foldl (fun (cs : Array Value) x => cs.setIfInBounds x.snd x.fst) Z.toArray X.zipIdx = Y.toArray := ⟨(List.foldl (fun (cs : Array Value) x => cs.setIfInBounds x.snd x.fst) Z.toArray X.zipIdx).toList, by simp⟩
  have hYl : Y.length = 258 ∧ ∀ v1 v2, ((Y.set 256 v1).set 257 v2) = idxs o ++ [v1, v2] := by
    rw [hX, hZ] at hY
    have e : ∀ v1 v2, ((Y.set 256 v1).set 257 v2) = idxs o ++ [v1, v2] := fun v1 v2 => by
      have := idx_fold o v1 v2
      rw [hY, List.setIfInBounds_toArray, List.setIfInBounds_toArray] at this
      simpa using this
    refine ⟨?_, e⟩
    have := congrArg List.length (e undef undef)
    simpa [idxs_len] using this
  have hF2 : ∀ U : List Value, U.length = 258 → List.foldl (fun (cs : Array Value) x => cs.setIfInBounds x.snd x.fst) Z.toArray U.zipIdx = U.toArray := fun U hU => fold_all U Z (by rw [hU, hlen])
  have HY := Lib.hid hYl.2
  replace hYl := hYl.1
  have HZ := Lib.hid (And.intro hZ hX)
  have HO := Lib.hid (And.intro h1 (And.intro h2 (And.intro h3 h4)))
  clear h1 h2 h3 h4 hZ hX
  go_enter Try.func42, Try.ntmps42
  go_wp2_with fail
  refine HT.out.mono ?_
  rintro e w1 ⟨rfl, rfl⟩
  clear HT
  go_wp2_with fail
  refine wp_region_held_drew (S := (fun V : World => V.cell? ⟨g, 256, none⟩ = some (.slice (some ⟨gr, 0, none⟩) room room) ∧ V.cell? ⟨g, 257, none⟩ = some (.slice (some ⟨gu, 0, none⟩) room room) ∧ MBlk V g gr gu room o)) (by kernel_rfl) ?_ (fun hHeld0 => ?_)
  · exact sCopy HO.out.2.1.drew
  refine wpAnyH_take (i := 0) (v := ?_) rfl (by kernel_rfl) (by kernel_rfl) (by kernel_rfl) (fun _ _ _ h => h) (Or.inl ⟨by rfl, ?_⟩) hHeld0 ?_
  rotate_left
  · (intro w hSw; (try dsimp only at hSw); go_simp <;> with_reducible rfl)
  try simp only [Act.put, List.setIfInBounds_toArray, List.set_cons_zero, List.set_cons_succ]
  refine wpAnyH_take (i := 1) (v := ?_) rfl (by kernel_rfl) (by kernel_rfl) (by kernel_rfl) (fun _ _ _ h => h) (Or.inl ⟨by rfl, ?_⟩) hHeld0 ?_
  rotate_left
  · (intro w hSw; (try dsimp only at hSw); go_simp <;> with_reducible rfl)
  try simp only [Act.put, List.setIfInBounds_toArray, List.set_cons_zero, List.set_cons_succ]
  refine wpAnyH_take (i := 2) (v := ?_) rfl (by kernel_rfl) (by kernel_rfl) (by kernel_rfl) (fun _ _ _ h => h) (Or.inl ⟨by rfl, ?_⟩) hHeld0 ?_
  rotate_left
  · (intro w hSw; (try dsimp only at hSw); go_simp <;> with_reducible rfl)
  try simp only [Act.put, List.setIfInBounds_toArray, List.set_cons_zero, List.set_cons_succ]
  refine wpAnyH_take (i := 3) (v := ?_) rfl (by kernel_rfl) (by kernel_rfl) (by kernel_rfl) (fun _ _ _ h => h) (Or.inl ⟨by rfl, ?_⟩) hHeld0 ?_
  rotate_left
  · (intro w hSw; (try dsimp only at hSw); go_simp <;> with_reducible rfl)
  try simp only [Act.put, List.setIfInBounds_toArray, List.set_cons_zero, List.set_cons_succ]
  refine wpAnyH_take (i := 4) (v := .agg X.toArray) rfl (by kernel_rfl) (by kernel_rfl) (by kernel_rfl) (fun _ _ _ h => h) ?_ hHeld0 ?_
  · exact yieldsIf_load_mid (by kernel_rfl) 84 (.tmp 9) rfl g 0 rfl X _ (fun V hV => by have hV2 : (fun V : World => V.cell? ⟨g, 256, none⟩ = some (.slice (some ⟨gr, 0, none⟩) room room) ∧ V.cell? ⟨g, 257, none⟩ = some (.slice (some ⟨gu, 0, none⟩) room room) ∧ MBlk V g gr gu room o) V := hV; rw [HZ.out.2]; exact idxs_range hV2.2.2.1) Try.underlying84 rfl (by rw [HZ.out.2, idxs_len]; kernel_rfl)
  try simp only [Act.put, List.setIfInBounds_toArray, List.set_cons_zero, List.set_cons_succ]
  refine wpAnyH_take (i := 5) (v := ?_) rfl (by kernel_rfl) (by kernel_rfl) (by kernel_rfl) (fun _ _ _ h => h) (Or.inl ⟨by rfl, ?_⟩) hHeld0 ?_
  rotate_left
  · (intro w hSw; (try dsimp only at hSw); go_simp <;> with_reducible rfl)
  try simp only [Act.put, List.setIfInBounds_toArray, List.set_cons_zero, List.set_cons_succ]
  refine wpAnyH_take (i := 6) (v := ?_) rfl (by kernel_rfl) (by kernel_rfl) (by kernel_rfl) (fun _ _ _ h => h) (Or.inl ⟨by rfl, ?_⟩) hHeld0 ?_
  rotate_left
  · (intro w hSw; (try dsimp only at hSw); go_simp <;> with_reducible rfl)
  try simp only [Act.put, List.setIfInBounds_toArray, List.set_cons_zero, List.set_cons_succ]
  refine wpAnyH_take (i := 7) (v := ?_) rfl (by kernel_rfl) (by kernel_rfl) (by kernel_rfl) (fun _ _ _ h => h) (Or.inl ⟨by rfl, ?_⟩) hHeld0 ?_
  rotate_left
  · (intro w hSw; (try dsimp only at hSw); go_simp <;> with_reducible rfl)
  try simp only [Act.put, List.setIfInBounds_toArray, List.set_cons_zero, List.set_cons_succ]
  refine wpAnyH_take (i := 8) (v := ?_) rfl (by kernel_rfl) (by kernel_rfl) (by kernel_rfl) (fun _ _ _ h => h) (Or.inl ⟨by rfl, ?_⟩) hHeld0 ?_
  rotate_left
  · (intro w hSw; (try dsimp only at hSw); go_simp <;> with_reducible rfl)
  try simp only [Act.put, List.setIfInBounds_toArray, List.set_cons_zero, List.set_cons_succ]
  refine wpAnyH_take (i := 9) (v := ?_) rfl (by kernel_rfl) (by kernel_rfl) (by kernel_rfl) (fun _ _ _ h => h) (Or.inl ⟨by rfl, ?_⟩) hHeld0 ?_
  rotate_left
  · (intro w hSw; (try dsimp only at hSw); go_simp <;> with_reducible rfl)
  try simp only [Act.put, List.setIfInBounds_toArray, List.set_cons_zero, List.set_cons_succ]
  refine wpAnyH_take (i := 11) (v := ?_) rfl (by kernel_rfl) (by kernel_rfl) (by kernel_rfl) (fun _ _ _ h => h) (Or.inl ⟨by rfl, ?_⟩) hHeld0 ?_
  rotate_left
  · (intro w hSw; (try dsimp only at hSw); go_simp <;> with_reducible rfl)
  try simp only [Act.put, List.setIfInBounds_toArray, List.set_cons_zero, List.set_cons_succ]
  refine wpAnyH_take (i := 12) (v := ?_) rfl (by kernel_rfl) (by kernel_rfl) (by kernel_rfl) (fun _ _ _ h => h) (Or.inl ⟨by rfl, ?_⟩) hHeld0 ?_
  rotate_left
  · (intro w hSw; (try dsimp only at hSw); go_simp <;> with_reducible rfl)
  try simp only [Act.put, List.setIfInBounds_toArray, List.set_cons_zero, List.set_cons_succ]
  refine wpAnyH_take (i := 13) (v := ?_) rfl (by kernel_rfl) (by kernel_rfl) (by kernel_rfl) (fun _ _ _ h => h) (Or.inl ⟨by rfl, ?_⟩) hHeld0 ?_
  rotate_left
  · (intro w hSw; (try dsimp only at hSw); go_simp <;> with_reducible rfl)
  try simp only [Act.put, List.setIfInBounds_toArray, List.set_cons_zero, List.set_cons_succ]
  refine wpAnyH_take (i := 14) (v := ?_) rfl (by kernel_rfl) (by kernel_rfl) (by kernel_rfl) (fun _ _ _ h => h) (Or.inl ⟨by rfl, ?_⟩) hHeld0 ?_
  rotate_left
  · (intro w hSw; (try dsimp only at hSw); go_simp <;> with_reducible rfl)
  try simp only [Act.put, List.setIfInBounds_toArray, List.set_cons_zero, List.set_cons_succ]
  refine wpAnyH_take (i := 15) (v := ?_) rfl (by kernel_rfl) (by kernel_rfl) (by kernel_rfl) (fun _ _ _ h => h) (Or.inl ⟨by rfl, ?_⟩) hHeld0 ?_
  rotate_left
  · (intro w hSw; (try dsimp only at hSw); go_simp <;> with_reducible rfl)
  try simp only [Act.put, List.setIfInBounds_toArray, List.set_cons_zero, List.set_cons_succ]
  refine wpAnyH_ready (rs := [10]) (by kernel_rfl) (by simp) ?_
  refine AllReadyH.cons rfl (fun K hK => ?_) ?_
  · go_simp
    go_at_call 57
    refine (clone_refs gr room room o _ hHeld0.2.2.2.1 HO.out.2.2.1 HO.out.2.2.2).mono ?_
    rintro e w2 ⟨gr', cap1, cur1, rfl, k1, k2, k3, k4⟩
    refine hK.out _ _ ?_ (fun hHeld1 => ?_)
    · exact sCopy (hHeld0.2.2.below k4)
    clear hK K hHeld0
    try simp only [Act.put, List.setIfInBounds_toArray, List.set_cons_zero, List.set_cons_succ]
    refine wpAnyH_ready (rs := [16]) (by kernel_rfl) (by simp) ?_
    refine AllReadyH.cons rfl (fun K hK => ?_) ?_
    · go_simp
      go_at_call 58
      refine (clone_bools gu room room o _ hHeld1.2.2.2.2 HO.out.2.2.1 HO.out.2.2.2).mono ?_
      rintro e w3 ⟨gu', cap2, cur2, rfl, m1, m2, m3, m4⟩
      refine hK.out _ _ ?_ (fun hHeld2 => ?_)
      · exact sCopy (hHeld1.2.2.below m4)
      clear hK K hHeld1
      try simp only [Act.put, List.setIfInBounds_toArray, List.set_cons_zero, List.set_cons_succ]
      refine wpAnyH_take (i := 17) (v := ?_) rfl (by kernel_rfl) (by kernel_rfl) (by kernel_rfl) (fun _ _ _ h => h) (Or.inl ⟨by rfl, ?_⟩) hHeld2 ?_
      rotate_left
      · (intro w hSw; (try dsimp only at hSw); go_simp <;> with_reducible rfl)
      try simp only [Act.put, List.setIfInBounds_toArray, List.set_cons_zero, List.set_cons_succ]
      refine wpAnyH_take (i := 18) (v := ?_) rfl (by kernel_rfl) (by kernel_rfl) (by kernel_rfl) (fun _ _ _ h => h) (Or.inl ⟨by rfl, ?_⟩) hHeld2 ?_
      rotate_left
      · (intro w hSw; (try dsimp only at hSw); go_simp <;> with_reducible rfl)
      try simp only [Act.put, List.setIfInBounds_toArray, List.set_cons_zero, List.set_cons_succ]
      refine wpAnyH_ready (rs := [19]) (by kernel_rfl) (by simp) ?_
      refine AllReadyH.cons rfl (fun K hK => ?_) ?_
      · go_simp
        refine hK.out _ _ ?_ (fun hHeld3 => ?_)
        · exact sCopy (hHeld2.2.2.alloc _)
        clear hK K hHeld2
        try simp only [Act.put, List.setIfInBounds_toArray, List.set_cons_zero, List.set_cons_succ]
        refine wpAnyH_take (i := 20) (v := ?_) rfl (by kernel_rfl) (by kernel_rfl) (by kernel_rfl) (fun _ _ _ h => h) (Or.inl ⟨by rfl, ?_⟩) hHeld3 ?_
        rotate_left
        · (intro w hSw; (try dsimp only at hSw); go_simp <;> with_reducible rfl)
        try simp only [Act.put, List.setIfInBounds_toArray, List.set_cons_zero, List.set_cons_succ]
        refine wpAnyH_done (by kernel_rfl) ?_ _
        refine (‹∀ (a : Act) (w : World), Code.wp Try.prog Code.ret _ a w → _› _ _ ?_)
        go_simp
        refine wp_ret ?_
        go_ret
        rw [HY.out]
        have n1 : Below w1.heap.size w1 w2 := (Below.refl _ w1).drew.trans k4
        have n2 := n1.trans (m4.mono n1.size)
        have n3 : w1.heap.size ≤ gr' := k1
        exact ⟨w3.heap.size, gr', rfl, copied HO.out.1 HO.out.2.2 (Blk.new _ _ _) ((k2.below m4 k2.lt).alloc _) k3, n2.size, n3, n2.alloc n2.size _⟩
      exact AllReadyH.nil
    exact AllReadyH.nil
  exact AllReadyH.nil
end Go.Proofs.Ytmcpfhhggapkcaa
