/-
  Walks, layer 7: put and take of a row.
-/
import Derived.Test.YtmcpfhhggapkcaaFewM2
namespace Go.Proofs.Ytmcpfhhggapkcaa
open Go.RowKit
set_option linter.unusedVariables false
set_option linter.unusedSimpArgs false

/-- The row's block has turned, and new blocks have come. -/
def ModEnd (v : Value) (g : Nat) (o : FewO) (w : World) (e : Ending) (w' : World) : Prop := e = .returned v ∧ Blk w' g 66 o.cells.toArray ∧ w.grownBy w' (some g)
theorem size_u8 : (Try.prog.info? 5).map (·.size) = some 1 := by kernel_rfl
theorem size_ref : (Try.prog.info? 31).map (·.size) = some 2 := by kernel_rfl
theorem u8_one (l : List Int) : ∀ u ∈ l.map (Value.int .u8), u.oneCell' = true := by
  intro u hu
  obtain ⟨x, _, rfl⟩ := List.mem_map.1 hu
  rfl
theorem ref_one (l : List (Int × Int)) : ∀ u ∈ l.flatMap rrow, u.oneCell' = true := by
  intro u hu
  obtain ⟨x, _, hx⟩ := List.mem_flatMap.1 hu
  simp [rrow] at hx
  rcases hx with rfl | rfl <;> rfl
theorem add_at (g i j : Nat) : Addr.add ⟨g, i, none⟩ j = ⟨g, i + j, none⟩ := by unfold Addr.add; split <;> simp_all
theorem src_bytes {o : FewO} {W : World} {g : Nat} {t : TypeId} (ho : o.ok) (h : Blk W g t o.cells.toArray) (i : Nat) : ∀ j v, (((o.bs.take o.n).drop i).map (Value.int .u8))[j]? = some v → W.cell? (Addr.add ⟨g, i, none⟩ j) = some v := by
  intro j v hv
  rw [List.getElem?_map, List.getElem?_drop, List.getElem?_take] at hv
  split at hv
  · cases hb : o.bs[i + j]? with
    | none => rw [hb] at hv; cases hv
    | some b =>
      rw [hb] at hv
      simp only [Option.map_some, Option.some.injEq] at hv
      subst hv
      rw [add_at]
      exact (h.cell _).trans (by rw [List.getElem?_toArray]; exact FewO.atB ho hb)
  · cases hv
theorem flatR_inv : ∀ (l : List (Int × Int)) (j : Nat) (v : Value), (l.flatMap rrow)[j]? = some v → ∃ (k : Nat) (r : Int × Int), l[k]? = some r ∧ ((j = k * 2 ∧ v = .int .i64 r.1) ∨ (j = k * 2 + 1 ∧ v = .int .u32 r.2))
  | [], j, v, h => by simp at h
  | x :: l, 0, v, h => by simp [rrow] at h; exact ⟨0, x, rfl, .inl ⟨rfl, h.symm⟩⟩
  | x :: l, 1, v, h => by simp [rrow] at h; exact ⟨0, x, rfl, .inr ⟨rfl, h.symm⟩⟩
  | x :: l, j + 2, v, h => by
    rw [List.flatMap_cons, List.getElem?_append_right (by simp [rrow])] at h
    obtain ⟨k, r, hk, h1⟩ := flatR_inv l j v (by simpa [rrow] using h)
    refine ⟨k + 1, r, by simpa using hk, ?_⟩
    rcases h1 with ⟨rfl, h2⟩ | ⟨rfl, h2⟩
    · exact .inl ⟨by omega, h2⟩
    · exact .inr ⟨by omega, h2⟩
theorem src_refs {o : FewO} {W : World} {g : Nat} {t : TypeId} (ho : o.ok) (h : Blk W g t o.cells.toArray) (i : Nat) : ∀ j v, (((o.rs.take o.n).drop i).flatMap rrow)[j]? = some v → W.cell? (Addr.add ⟨g, 16 + i * 2, none⟩ j) = some v := by
  intro j v hv
  obtain ⟨k, r, hk, h1⟩ := flatR_inv _ _ _ hv
  rw [List.getElem?_drop, List.getElem?_take] at hk
  split at hk
  · have hr := FewO.atR ho hk
    rw [add_at]
    rcases h1 with ⟨rfl, rfl⟩ | ⟨rfl, rfl⟩
    · exact (h.cell _).trans (by rw [List.getElem?_toArray, show 16 + i * 2 + k * 2 = 16 + (i + k) * 2 by omega]; exact hr.1)
    · exact (h.cell _).trans (by rw [List.getElem?_toArray, show 16 + i * 2 + (k * 2 + 1) = 16 + (i + k) * 2 + 1 by omega]; exact hr.2)
  · cases hk
theorem blk_neF {w : World} {g g' : Nat} {t t' : TypeId} {cs cs' : Array Value} (h : Blk w g t cs) (h' : Blk w g' t' cs') (hne : t ≠ t') : g ≠ g' := by
  rintro rfl
  unfold Blk at h h'
  rw [h] at h'
  simp only [Option.some.injEq, Obj.cells.injEq] at h'
  exact hne h'.2.1
theorem few_slot {o : FewO} {W : World} {g k : Nat} {t : TypeId} (ho : o.ok) (h : Blk W g t o.cells.toArray) (hk : k < 16) :
    ∃ (x : Int) (r : Int × Int), W.cell? ⟨g, k, none⟩ = some (.int .u8 x) ∧ W.cell? ⟨g, 16 + k * 2, none⟩ = some (.int .i64 r.1) ∧ W.cell? ⟨g, 16 + k * 2 + 1, none⟩ = some (.int .u32 r.2) := by
  have hx : o.bs[k]? = some (o.bs[k]'(by rw [ho.lb]; omega)) := List.getElem?_eq_getElem _
  have hr : o.rs[k]? = some (o.rs[k]'(by rw [ho.lr]; omega)) := List.getElem?_eq_getElem _
  exact ⟨_, _, (h.cell k).trans (by rw [List.getElem?_toArray]; exact FewO.atB ho hx), (h.cell _).trans (by rw [List.getElem?_toArray]; exact (FewO.atR ho hr).1), (h.cell _).trans (by rw [List.getElem?_toArray]; exact (FewO.atR ho hr).2)⟩
theorem u8s_len (l : List Int) (i n : Nat) (h : n ≤ l.length) : (((l.take n).drop i).map (Value.int .u8)).length = n - i := by simp; omega
theorem refs_len (l : List (Int × Int)) (i n : Nat) (h : n ≤ l.length) : (((l.take n).drop i).flatMap rrow).length = (n - i) * 2 := by rw [flatR_len]; simp; omega

set_option maxHeartbeats 1600000 in
set_option maxRecDepth 100000 in
theorem put_tail (o : FewO) (i : Nat) (b : Int) (r : Int × Int) (g gr : Nat) {u3 u4 u5 u6 u8 u9 u10 u11 u12 u13 u14 u15 u16 u17 u18 u19 u20 u21 u22 u23 u24 u25 u26 u27 u28 u29 u30 u31 u32 u33 u34 u35 u36 u37 u38 u39 u40 u41 u42 u43 u44 u45 u46 u47 u48 u49 u50 u51 u52 u53 u54 u55 u56 u57 u58 : Value} (w wx : World) (ho : o.ok) (hi : i ≤ o.n) (hn : o.n < 16) (hb : 0 ≤ b ∧ b ≤ 255)
    (hg : Blk wx g 66 (FewO.cells ⟨splice o.bs (i + 1) ((o.bs.take o.n).drop i), splice o.rs (i + 1) ((o.rs.take o.n).drop i), o.n, o.room⟩).toArray) (hgr : Blk wx gr 31 #[.int .i64 r.1, .int .u32 r.2]) (hgw : w.grownBy wx (some g)) :
    Code.wp Try.prog (part Try.f33 [1, 1, 1]) (bodyPost Try.prog Try.f33 (ModEnd (.tuple #[]) g (o.put i b r) w)) ⟨#[.pointer (some ⟨g, 0, none⟩), .int .i64 i, .int .u8 b, u3, u4, u5, u6, .pointer (some ⟨gr, 0, none⟩), u8, u9, u10, u11, u12, u13, u14, u15, u16, u17, u18, u19, u20, u21, u22, u23, u24, u25, u26, u27, u28, u29, u30, u31, u32, u33, u34, u35, u36, u37, u38, u39, u40, u41, u42, u43, u44, u45, u46, u47, u48, u49, u50, u51, u52, u53, u54, u55, u56, u57, u58], []⟩ wx := by
  conv => arg 2; whnf
  obtain ⟨o1, ho1⟩ : ∃ o1 : FewO, o1 = ⟨splice o.bs (i + 1) ((o.bs.take o.n).drop i), splice o.rs (i + 1) ((o.rs.take o.n).drop i), o.n, o.room⟩ := ⟨_, rfl⟩
  have hlb : ((o.bs.take o.n).drop i).length = o.n - i := by simp; rw [ho.lb]; omega
  have hlr : ((o.rs.take o.n).drop i).length = o.n - i := by simp; rw [ho.lr]; omega
  have ok1 : o1.ok := by
    rw [ho1]
    refine ⟨by dsimp only; rw [length_splice _ _ _ (by rw [hlb, ho.lb]; omega)]; exact ho.lb, by dsimp only; rw [length_splice _ _ _ (by rw [hlr, ho.lr]; omega)]; exact ho.lr, by dsimp only; omega, ?_⟩
    intro x hx
    simp only [splice, List.mem_append] at hx
    rcases hx with hx | hx | hx
    · exact ho.bb x (List.mem_of_mem_take hx)
    · exact ho.bb x (List.mem_of_mem_take (List.mem_of_mem_drop hx))
    · exact ho.bb x (List.mem_of_mem_drop hx)
  rw [← ho1] at hg
  have e1 : o.put i b r = ⟨o1.bs.set i b, o1.rs.set i r, o.n + 1, o.room⟩ := by
    rw [ho1]; unfold FewO.put
    rw [ins_splice b hi (by rw [ho.lb]; omega), ins_splice r hi (by rw [ho.lr]; omega)]
  have e2 : ((((o1.cells.set i (.int .u8 b)).set (16 + i * 2) (.int .i64 r.1)).set (16 + i * 2 + 1) (.int .u32 r.2)).set 48 (.int .i64 (o.n + 1 : Nat))) = (o.put i b r).cells := by
    have k1 := cells_setB ok1 b (show i < 16 by omega)
    have ok2 : (FewO.mk (o1.bs.set i b) o1.rs o1.n o1.room).ok := ⟨by dsimp only; rw [List.length_set]; exact ok1.lb, ok1.lr, ok1.ln, fun x hx => by
      rcases List.mem_or_eq_of_mem_set hx with hx | rfl
      · exact ok1.bb x hx
      · exact hb⟩
    rw [k1, cells_setR ok2 r (by omega)]
    have ok3 : (FewO.mk (o1.bs.set i b) (o1.rs.set i r) o1.n o1.room).ok := ⟨ok2.lb, by dsimp only; rw [List.length_set]; exact ok1.lr, ok1.ln, ok2.bb⟩
    rw [cells_setN ok3, e1, ho1]
  have n0 : wx.cell? ⟨g, 48, none⟩ = some (.int .i64 o.n) := by
    have := (few_cells ok1 hg).1
    rw [ho1] at this
    exact this
  have hx := few_slot ok1 hg (show i < 16 by omega)
  obtain ⟨x, q, hx0, hx1, hx2⟩ := hx
  have y0 := hg.frozen i
  have y1 := hg.frozen (16 + i * 2)
  have y2 := hg.frozen (16 + i * 2 + 1)
  have y3 := hg.frozen 48
  have r0 := hgr.cell 0
  have r1 := hgr.cell 1
  simp at r0 r1
  have hne : g ≠ gr := blk_neF hg hgr (by decide)
  have hne2 : gr ≠ g := fun e => hne e.symm
  have i1 : (0 : Int) ≤ (i : Int) := by omega
  have i2 : (i : Int) < 16 := by omega
  have i3 : (o.n : Int) ≤ 16 := by omega
  have i4 : (0 : Int) ≤ (o.n : Int) := by omega
  have hi16 : i < 16 := by omega
  have hN := ((((hg.set_ i (.int .u8 b)).set_ (16 + i * 2) (.int .i64 r.1)).set_ (16 + i * 2 + 1) (.int .u32 r.2)).set_ 48 (.int .i64 (o.n + 1 : Nat)))
  simp only [List.setIfInBounds_toArray] at hN
  rw [e2] at hN
  have hR := grown_setCell (grown_setCell (grown_setCell (grown_setCell hgw i (.int .u8 b)) (16 + i * 2) (.int .i64 r.1)) (16 + i * 2 + 1) (.int .u32 r.2)) 48 (.int .i64 (o.n + 1 : Nat))
  have HN := Lib.hid (And.intro hN hR)
  have e3 : ((((o1.cells.set (16 + i * 2) (.int .i64 r.1)).set (16 + i * 2 + 1) (.int .u32 r.2)).set i (.int .u8 b)).set 48 (.int .i64 (o.n + 1 : Nat))) = (o.put i b r).cells := by
    rw [← e2, List.set_comm (Value.int .u32 r.2) (Value.int .u8 b) (show 16 + i * 2 + 1 ≠ i by omega), List.set_comm (Value.int .i64 r.1) (Value.int .u8 b) (show 16 + i * 2 ≠ i by omega)]
  have hN2 := ((((hg.set_ (16 + i * 2) (.int .i64 r.1)).set_ (16 + i * 2 + 1) (.int .u32 r.2)).set_ i (.int .u8 b)).set_ 48 (.int .i64 (o.n + 1 : Nat)))
  simp only [List.setIfInBounds_toArray] at hN2
  rw [e3] at hN2
  have hR2 := grown_setCell (grown_setCell (grown_setCell (grown_setCell hgw (16 + i * 2) (.int .i64 r.1)) (16 + i * 2 + 1) (.int .u32 r.2)) i (.int .u8 b)) 48 (.int .i64 (o.n + 1 : Nat))
  have HN2 := Lib.hid (And.intro hN2 hR2)
  clear hN hR hN2 hR2 e1 e2 e3 hg hgr hgw ho ok1 hlb hlr ho1
  refine wp_seq_k fun K0 hK => ?_
  have HK0 := Lib.hid hK
  clear hK
  go_region
  all_goals
    refine HK0.out _ _ ?_
    go_wp2
    go_end0
    first
      | exact ⟨rfl, HN.out.1, grown_drew HN.out.2⟩
      | exact ⟨rfl, HN2.out.1, grown_drew HN2.out.2⟩

set_option maxHeartbeats 1600000 in
set_option maxRecDepth 100000 in
theorem put_any (o : FewO) (i : Nat) (b : Int) (r : Int × Int) (g : Nat) (w : World) (ho : o.ok) (hg : Blk w g 66 o.cells.toArray) (hi : i ≤ o.n) (hn : o.n < 16) (hb : 0 ≤ b ∧ b ≤ 255) :
    Calls Try.prog 33 #[.pointer (some ⟨g, 0, none⟩), .int .i64 i, .int .u8 b, refV r] w (ModEnd (.tuple #[]) g (o.put i b r) w) := by
  have hg1 := hg.alloc (.cells #[.int .i64 r.1, .int .u32 r.2] 31)
  have hgr := Blk.new w 31 #[.int .i64 r.1, .int .u32 r.2]
  have hgw := grown_alloc w g (.cells #[.int .i64 r.1, .int .u32 r.2] 31)
  have hlg := hg.lt
  generalize hW : w.alloc (.cells #[.int .i64 r.1, .int .u32 r.2] 31) = W at hg1 hgr hgw
  have HW := Lib.hid hW
  obtain ⟨n0, n1⟩ := few_cells ho hg1
  have HO := Lib.hid ho
  have HG := Lib.hid (And.intro hg1 (And.intro hgr hgw))
  have hlb : ((o.bs.take o.n).drop i).length = o.n - i := by simp; rw [ho.lb]; omega
  have hlr : ((o.rs.take o.n).drop i).length = o.n - i := by simp; rw [ho.lr]; omega
  have ok1 : (FewO.mk (splice o.bs (i + 1) ((o.bs.take o.n).drop i)) o.rs o.n o.room).ok := by
    refine ⟨by dsimp only; rw [length_splice _ _ _ (by rw [hlb, ho.lb]; omega)]; exact ho.lb, ho.lr, by dsimp only; omega, ?_⟩
    intro x hx
    simp only [splice, List.mem_append] at hx
    rcases hx with hx | hx | hx
    · exact ho.bb x (List.mem_of_mem_take hx)
    · exact ho.bb x (List.mem_of_mem_take (List.mem_of_mem_drop hx))
    · exact ho.bb x (List.mem_of_mem_drop hx)
  have HO1 := Lib.hid (And.intro ok1 (And.intro hlb (And.intro hlr hb)))
  have i1 : (0 : Int) ≤ (i : Int) := by omega
  have i2 : (i : Int) ≤ (o.n : Int) := by omega
  have i3 : (o.n : Int) ≤ 15 := by omega
  have hn0 : (0 : Int) ≤ (o.n : Int) := by omega
  have i7 : (o.n : Int) ≤ 16 := by omega
  have i8 : (i : Int) ≤ 15 := by omega
  clear ho hg hg1 hgr hgw hW n1 ok1 hlb hlr hb
  rcases Nat.lt_or_ge i 15 with h15 | h15
  · have i4 : (i : Int) + 1 < 16 := by omega
    have i5 : (0 : Int) ≤ (i : Int) + 1 := by omega
    have i6 : (i : Int) + 1 ≤ 16 := by omega
    have t1 : ((i : Int) + 1).toNat = i + 1 := by omega
    have s1 : IntKind.i64.wrap ((i : Int) + 1) = (i : Int) + 1 := IntWalk.i64_in _ (by omega)
    go_enter Try.func33, Try.ntmps33
    refine wp_seq_k fun K0 hK => ?_
    have HK0 := Lib.hid hK
    clear hK
    go_wp2_with fail
    refine HK0.out _ _ ?_
    clear HK0 K0
    rw [HW.out]
    refine wp_seq_k fun K0 hK => ?_
    have HK0 := Lib.hid hK
    clear hK
    go_region_law ((refine step_copy_any rfl (.tmp 13) (.tmp 22) _ _ rfl 5 1 (by decide) Try.underlying22 size_u8 _ _ _ _ _ _ rfl rfl g (i + 1) o.cells 66 HG.out.1 (((o.bs.take o.n).drop i).map (Value.int .u8)) (by rw [u8s_len _ _ _ (by rw [HO.out.lb]; omega), Nat.mul_one]; exact (Nat.min_eq_left (by omega)).symm) (fun _ => ⟨by rw [if_neg (by omega)], ⟨g, i, none⟩, by rw [if_neg (by omega)], src_bytes HO.out HG.out.1 i⟩) (by rw [u8s_len _ _ _ (by rw [HO.out.lb]; omega), FewO.len HO.out]; omega) (u8_one _) ?_; intro w2 h2))
    refine HK0.out _ _ ?_
    clear HK0 K0
    obtain ⟨hg2, hw2⟩ := h2.out
    rw [cells_spliceB HO.out (by rw [HO1.out.2.1]; omega)] at hg2
    have hgr2 := HG.out.2.1.drew.grown hw2 (by
      intro e
      injection e with e
      exact blk_neF HG.out.1 HG.out.2.1 (by decide) e.symm)
    have HG2 := Lib.hid (And.intro hg2 (And.intro hgr2 (grown_trans (grown_drew HG.out.2.2) hw2)))
    have n0 : w2.cell? ⟨g, 48, none⟩ = some (.int .i64 o.n) := (few_cells HO1.out.1 hg2).1
    clear h2 hg2 hw2 hgr2
    refine wp_seq_k fun K0 hK => ?_
    have HK0 := Lib.hid hK
    clear hK
    go_region_law ((refine step_copy_any rfl (.tmp 29) (.tmp 38) _ _ rfl 31 2 (by decide) Try.underlying85 size_ref _ _ _ _ _ _ rfl rfl g (16 + (i + 1) * 2) _ 66 HG2.out.1 (((o.rs.take o.n).drop i).flatMap rrow) (by rw [refs_len _ _ _ (by rw [HO.out.lr]; omega)]; congr 1; exact (Nat.min_eq_left (by omega)).symm) (fun _ => ⟨by rw [if_neg (by omega)], ⟨g, 16 + i * 2, none⟩, by rw [if_neg (by omega)], src_refs (o := ⟨splice o.bs (i + 1) ((o.bs.take o.n).drop i), o.rs, o.n, o.room⟩) HO1.out.1 HG2.out.1 i⟩) (by rw [refs_len _ _ _ (by rw [HO.out.lr]; omega), FewO.len HO1.out.1]; omega) (ref_one _) ?_; intro w3 h3))
    refine HK0.out _ _ ?_
    clear HK0 K0
    obtain ⟨hg3, hw3⟩ := h3.out
    have e3 := cells_spliceR (k := i + 1) (m := (o.rs.take o.n).drop i) HO1.out.1 (by rw [HO1.out.2.2.1]; omega)
    rw [e3] at hg3
    have hgr3 := HG2.out.2.1.drew.grown hw3 (by
      intro e
      injection e with e
      exact blk_neF HG2.out.1 HG2.out.2.1 (by decide) e.symm)
    exact put_tail o i b r g w.heap.size w w3 HO.out hi hn HO1.out.2.2.2 hg3 hgr3 (grown_trans (grown_drew HG2.out.2.2) hw3)
  · obtain rfl : i = 15 := by omega
    have s2 : IntKind.i64.wrap 16 = 16 := by decide
    have s3 : IntKind.i64.wrap (15 + 1) = 16 := by decide
    have i6 : (15 : Int) ≤ (o.n : Int) := by omega
    go_enter Try.func33, Try.ntmps33
    refine wp_seq_k fun K0 hK => ?_
    have HK0 := Lib.hid hK
    clear hK
    go_wp2_with fail
    refine HK0.out _ _ ?_
    clear HK0 K0
    rw [HW.out]
    refine wp_seq_k fun K0 hK => ?_
    have HK0 := Lib.hid hK
    clear hK
    go_region_law ((refine step_copy_any rfl (.tmp 13) (.tmp 22) _ _ rfl 5 1 (by decide) Try.underlying22 size_u8 _ _ _ _ _ _ rfl rfl g 16 o.cells 66 HG.out.1 (((o.bs.take o.n).drop 15).map (Value.int .u8)) (by rw [u8s_len _ _ _ (by rw [HO.out.lb]; omega), Nat.mul_one]; exact (Nat.min_eq_left (by omega)).symm) (fun h => absurd h (by rw [u8s_len _ _ _ (by rw [HO.out.lb]; omega)]; omega)) (by rw [u8s_len _ _ _ (by rw [HO.out.lb]; omega), FewO.len HO.out]; omega) (u8_one _) ?_; intro w2 h2))
    refine HK0.out _ _ ?_
    clear HK0 K0
    obtain ⟨hg2, hw2⟩ := h2.out
    rw [cells_spliceB HO.out (by rw [HO1.out.2.1]; omega)] at hg2
    have hgr2 := HG.out.2.1.drew.grown hw2 (by
      intro e
      injection e with e
      exact blk_neF HG.out.1 HG.out.2.1 (by decide) e.symm)
    have HG2 := Lib.hid (And.intro hg2 (And.intro hgr2 (grown_trans (grown_drew HG.out.2.2) hw2)))
    have n0 : w2.cell? ⟨g, 48, none⟩ = some (.int .i64 o.n) := (few_cells HO1.out.1 hg2).1
    clear h2 hg2 hw2 hgr2
    refine wp_seq_k fun K0 hK => ?_
    have HK0 := Lib.hid hK
    clear hK
    go_region_law ((refine step_copy_any rfl (.tmp 29) (.tmp 38) _ _ rfl 31 2 (by decide) Try.underlying85 size_ref _ _ _ _ _ _ rfl rfl g (16 + (15 + 1) * 2) _ 66 HG2.out.1 (((o.rs.take o.n).drop 15).flatMap rrow) (by rw [refs_len _ _ _ (by rw [HO.out.lr]; omega)]; congr 1; exact (Nat.min_eq_left (by omega)).symm) (fun h => absurd h (by rw [refs_len _ _ _ (by rw [HO.out.lr]; omega)]; omega)) (by rw [refs_len _ _ _ (by rw [HO.out.lr]; omega), FewO.len HO1.out.1]; omega) (ref_one _) ?_; intro w3 h3))
    refine HK0.out _ _ ?_
    clear HK0 K0
    obtain ⟨hg3, hw3⟩ := h3.out
    have e3 := cells_spliceR (k := 15 + 1) (m := (o.rs.take o.n).drop 15) HO1.out.1 (by rw [HO1.out.2.2.1]; omega)
    rw [e3] at hg3
    have hgr3 := HG2.out.2.1.drew.grown hw3 (by
      intro e
      injection e with e
      exact blk_neF HG2.out.1 HG2.out.2.1 (by decide) e.symm)
    exact put_tail o 15 b r g w.heap.size w w3 HO.out hi hn HO1.out.2.2.2 hg3 hgr3 (grown_trans (grown_drew HG2.out.2.2) hw3)

set_option maxHeartbeats 1600000 in
set_option maxRecDepth 100000 in
theorem take_any (o : FewO) (i : Nat) (g : Nat) (w : World) (ho : o.ok) (hg : Blk w g 66 o.cells.toArray) (hi : i < o.n) :
    Calls Try.prog 34 #[.pointer (some ⟨g, 0, none⟩), .int .i64 i] w (ModEnd (.tuple #[]) g (o.take i) w) := by
  obtain ⟨n0, n1⟩ := few_cells ho hg
  have hln := ho.ln
  have HO := Lib.hid ho
  have HG := Lib.hid hg
  have hlb : ((o.bs.take o.n).drop (i + 1)).length = o.n - (i + 1) := by simp; rw [ho.lb]; omega
  have hlr : ((o.rs.take o.n).drop (i + 1)).length = o.n - (i + 1) := by simp; rw [ho.lr]; omega
  have ok1 : (FewO.mk (splice o.bs i ((o.bs.take o.n).drop (i + 1))) o.rs o.n o.room).ok := by
    refine ⟨by dsimp only; rw [length_splice _ _ _ (by rw [hlb, ho.lb]; omega)]; exact ho.lb, ho.lr, by dsimp only; omega, ?_⟩
    intro x hx
    simp only [splice, List.mem_append] at hx
    rcases hx with hx | hx | hx
    · exact ho.bb x (List.mem_of_mem_take hx)
    · exact ho.bb x (List.mem_of_mem_take (List.mem_of_mem_drop hx))
    · exact ho.bb x (List.mem_of_mem_drop hx)
  have HO1 := Lib.hid (And.intro ok1 (And.intro hlb hlr))
  have i1 : (0 : Int) ≤ (i : Int) := by omega
  have i2 : (i : Int) < (o.n : Int) := by omega
  have i3 : (o.n : Int) ≤ 16 := by omega
  have i7 : (i : Int) ≤ 15 := by omega
  have i8 : (i : Int) < 16 := by omega
  have i10 : (i : Int) ≤ 16 := by omega
  have hn0 : (0 : Int) ≤ (o.n : Int) := by omega
  clear ho hg n1 ok1 hlb hlr
  rcases Nat.lt_or_ge i 15 with h15 | h15
  · have i4 : (i : Int) + 1 < 16 := by omega
    have i5 : (0 : Int) ≤ (i : Int) + 1 := by omega
    have i6 : (i : Int) + 1 ≤ 16 := by omega
    have i9 : (i : Int) + 1 ≤ (o.n : Int) := by omega
    have t1 : ((i : Int) + 1).toNat = i + 1 := by omega
    have s1 : IntKind.i64.wrap ((i : Int) + 1) = (i : Int) + 1 := IntWalk.i64_in _ (by omega)
    go_enter Try.func34, Try.ntmps34
    refine wp_seq_k fun K0 hK => ?_
    have HK0 := Lib.hid hK
    clear hK
    go_region_law ((refine step_copy_any rfl (.tmp 8) (.tmp 18) _ _ rfl 5 1 (by decide) Try.underlying22 size_u8 _ _ _ _ _ _ rfl rfl g i o.cells 66 HG.out (((o.bs.take o.n).drop (i + 1)).map (Value.int .u8)) (by rw [u8s_len _ _ _ (by rw [HO.out.lb]; omega), Nat.mul_one]; exact (Nat.min_eq_left (by omega)).symm) (fun _ => ⟨by rw [if_neg (by omega)], ⟨g, i + 1, none⟩, by rw [if_neg (by omega)], src_bytes HO.out HG.out (i + 1)⟩) (by rw [u8s_len _ _ _ (by rw [HO.out.lb]; omega), FewO.len HO.out]; omega) (u8_one _) ?_; intro w2 h2))
    refine HK0.out _ _ ?_
    clear HK0 K0
    obtain ⟨hg2, hw2⟩ := h2.out
    rw [cells_spliceB HO.out (by rw [HO1.out.2.1]; omega)] at hg2
    have HG2 := Lib.hid (And.intro hg2 (grown_trans (grown_drew (World.grownBy.refl w (some g))) hw2))
    have n0 : w2.cell? ⟨g, 48, none⟩ = some (.int .i64 o.n) := (few_cells HO1.out.1 hg2).1
    clear h2 hg2 hw2
    refine wp_seq_k fun K0 hK => ?_
    have HK0 := Lib.hid hK
    clear hK
    go_region_law ((refine step_copy_any rfl (.tmp 24) (.tmp 34) _ _ rfl 31 2 (by decide) Try.underlying85 size_ref _ _ _ _ _ _ rfl rfl g (16 + i * 2) _ 66 HG2.out.1 (((o.rs.take o.n).drop (i + 1)).flatMap rrow) (by rw [refs_len _ _ _ (by rw [HO.out.lr]; omega)]; congr 1; exact (Nat.min_eq_left (by omega)).symm) (fun _ => ⟨by rw [if_neg (by omega)], ⟨g, 16 + (i + 1) * 2, none⟩, by rw [if_neg (by omega)], src_refs (o := ⟨splice o.bs i ((o.bs.take o.n).drop (i + 1)), o.rs, o.n, o.room⟩) HO1.out.1 HG2.out.1 (i + 1)⟩) (by rw [refs_len _ _ _ (by rw [HO.out.lr]; omega), FewO.len HO1.out.1]; omega) (ref_one _) ?_; intro w3 h3))
    refine HK0.out _ _ ?_
    clear HK0 K0
    obtain ⟨hg3, hw3⟩ := h3.out
    have e3 := cells_spliceR (k := i) (m := (o.rs.take o.n).drop (i + 1)) HO1.out.1 (by rw [HO1.out.2.2]; omega)
    rw [e3] at hg3
    have ok2 : (FewO.mk (splice o.bs i ((o.bs.take o.n).drop (i + 1))) (splice o.rs i ((o.rs.take o.n).drop (i + 1))) o.n o.room).ok := ⟨HO1.out.1.lb, by dsimp only; rw [length_splice _ _ _ (by rw [HO1.out.2.2, HO.out.lr]; omega)]; exact HO.out.lr, HO1.out.1.ln, HO1.out.1.bb⟩
    have n0 : w3.cell? ⟨g, 48, none⟩ = some (.int .i64 o.n) := (few_cells ok2 hg3).1
    have f0 := hg3.frozen 48
    have hN := hg3.set_ 48 (.int .i64 (o.n - 1 : Nat))
    simp only [List.setIfInBounds_toArray] at hN
    rw [cells_setN ok2, del_splice (by omega) (by rw [HO.out.lb]; omega), del_splice (by omega) (by rw [HO.out.lr]; omega)] at hN
    have hz : ((o.n - 1 : Nat) : Int) = (o.n : Int) - 1 := by omega
    rw [hz] at hN
    have HN := Lib.hid (And.intro hN (grown_setCell (grown_trans (grown_drew HG2.out.2) hw3) 48 (.int .i64 ((o.n : Int) - 1))))
    clear hN hg3 hw3 h3 e3 ok2 hz
    go_wp2
    go_end0
    exact ⟨rfl, HN.out.1, HN.out.2⟩
  · obtain rfl : i = 15 := by omega
    have s2 : IntKind.i64.wrap 16 = 16 := by decide
    have s3 : IntKind.i64.wrap (15 + 1) = 16 := by decide
    have i6 : (16 : Int) ≤ (o.n : Int) := by omega
    go_enter Try.func34, Try.ntmps34
    refine wp_seq_k fun K0 hK => ?_
    have HK0 := Lib.hid hK
    clear hK
    go_region_law ((refine step_copy_any rfl (.tmp 8) (.tmp 18) _ _ rfl 5 1 (by decide) Try.underlying22 size_u8 _ _ _ _ _ _ rfl rfl g 15 o.cells 66 HG.out (((o.bs.take o.n).drop (15 + 1)).map (Value.int .u8)) (by rw [u8s_len _ _ _ (by rw [HO.out.lb]; omega), Nat.mul_one]; show o.n - (15 + 1) = 0; omega) (fun h => absurd h (by rw [u8s_len _ _ _ (by rw [HO.out.lb]; omega)]; omega)) (by rw [u8s_len _ _ _ (by rw [HO.out.lb]; omega), FewO.len HO.out]; omega) (u8_one _) ?_; intro w2 h2))
    refine HK0.out _ _ ?_
    clear HK0 K0
    obtain ⟨hg2, hw2⟩ := h2.out
    rw [cells_spliceB HO.out (by rw [HO1.out.2.1]; omega)] at hg2
    have HG2 := Lib.hid (And.intro hg2 (grown_trans (grown_drew (World.grownBy.refl w (some g))) hw2))
    have n0 : w2.cell? ⟨g, 48, none⟩ = some (.int .i64 o.n) := (few_cells HO1.out.1 hg2).1
    clear h2 hg2 hw2
    refine wp_seq_k fun K0 hK => ?_
    have HK0 := Lib.hid hK
    clear hK
    go_region_law ((refine step_copy_any rfl (.tmp 24) (.tmp 34) _ _ rfl 31 2 (by decide) Try.underlying85 size_ref _ _ _ _ _ _ rfl rfl g (16 + 15 * 2) _ 66 HG2.out.1 (((o.rs.take o.n).drop (15 + 1)).flatMap rrow) (by rw [refs_len _ _ _ (by rw [HO.out.lr]; omega)]; congr 1; show o.n - (15 + 1) = 0; omega) (fun h => absurd h (by rw [refs_len _ _ _ (by rw [HO.out.lr]; omega)]; omega)) (by rw [refs_len _ _ _ (by rw [HO.out.lr]; omega), FewO.len HO1.out.1]; omega) (ref_one _) ?_; intro w3 h3))
    refine HK0.out _ _ ?_
    clear HK0 K0
    obtain ⟨hg3, hw3⟩ := h3.out
    have e3 := cells_spliceR (k := 15) (m := (o.rs.take o.n).drop (15 + 1)) HO1.out.1 (by rw [HO1.out.2.2]; omega)
    rw [e3] at hg3
    have ok2 : (FewO.mk (splice o.bs 15 ((o.bs.take o.n).drop (15 + 1))) (splice o.rs 15 ((o.rs.take o.n).drop (15 + 1))) o.n o.room).ok := ⟨HO1.out.1.lb, by dsimp only; rw [length_splice _ _ _ (by rw [HO1.out.2.2, HO.out.lr]; omega)]; exact HO.out.lr, HO1.out.1.ln, HO1.out.1.bb⟩
    have n0 : w3.cell? ⟨g, 48, none⟩ = some (.int .i64 o.n) := (few_cells ok2 hg3).1
    have f0 := hg3.frozen 48
    have hN := hg3.set_ 48 (.int .i64 (o.n - 1 : Nat))
    simp only [List.setIfInBounds_toArray] at hN
    rw [cells_setN ok2, del_splice (by omega) (by rw [HO.out.lb]; omega), del_splice (by omega) (by rw [HO.out.lr]; omega)] at hN
    have hz : ((o.n - 1 : Nat) : Int) = (o.n : Int) - 1 := by omega
    rw [hz] at hN
    have HN := Lib.hid (And.intro hN (grown_setCell (grown_trans (grown_drew HG2.out.2) hw3) 48 (.int .i64 ((o.n : Int) - 1))))
    clear hN hg3 hw3 h3 e3 ok2 hz
    go_wp2
    go_end0
    exact ⟨rfl, HN.out.1, HN.out.2⟩
end Go.Proofs.Ytmcpfhhggapkcaa
