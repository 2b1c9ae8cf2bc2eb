/-
  Layer 27: order: create.
  Layer 27: stat's With; a model after one book has changed.
  Layer 27: order: tell.
  Layer 27: order: operate.
  Layer 27: order: operate.
  Layer 27: order: operate.
  Layer 27: order: operate.
  Layer 27: order: operate.
-/
import Derived.Test.YtkgflepgkhnclaaGreatDoorOtc
namespace Go.Proofs.YtkgflepgkhnclaaGreatDoor
open Go.RowKit Go.Shelf
set_option linter.unusedVariables false
set_option linter.unusedSimpArgs false
attribute [local go_sem] run_store_complex

/-- A tenant that has just been created. -/
def newT (g : Int) (r : Req) : Ten := ⟨IntKind.u32.wrap (g + 1), r.qk, r.qb, some ⟨[], r.qk, r.qb⟩, st0⟩
def createN (M : Mdl) (r : Req) : Mdl × Ans :=
  if ¬ (1 ≤ r.tenant ∧ r.tenant ≤ 16) then (M, errA 2) else if (M r.tenant.toNat).bk.isSome then (M, errA 8) else (updM M r.tenant.toNat (newT (M r.tenant.toNat).gen r), errA 0)
abbrev newC (g qk qb : Int) (b : Nat) : Array Value := #[.int .u32 g, .int .u64 qk, .int .u64 qb, .pointer (some ⟨b, 0, none⟩), .int .u64 0, .int .u64 0, .int .u64 0, .int .u64 0, .int .u64 0, .int .u64 0, .int .u64 0, .int .u64 0, .int .u64 0, .int .u64 0, .complex .f64 0 0]
theorem newC_one (g qk qb : Int) (b : Nat) : (newC g qk qb b).all (·.oneCell') = true := by simp [newC, Value.oneCell']
set_option maxHeartbeats 3200000 in
set_option maxRecDepth 100000 in
theorem create_m {w : World} {p : Nat} {M : Mdl} {T : Ows} (hm : ModelAt w p M T) (r : Req) (hr : r.ok) : Calls Tryz.prog 71 #[.pointer (some ⟨p, 0, none⟩), r.v] w (DoEnd p M T (createN M r) w) := by
  have hb0 : Below w.heap.size w (w.alloc (.cells r.row.toArray 39)) := below_box _ _
  have hq0 := Blk.new w 39 r.row.toArray
  have hb1 := below_alloc hb0 (.cells zeroA 52)
  have hbq := hq0.alloc (.cells zeroA 52)
  have hbx : Blk ((w.alloc (.cells r.row.toArray 39)).alloc (.cells zeroA 52)) (w.heap.size + 1) 52 zeroA := blk_at (by simp)
  have HT := Lib.hid (at_m p ((w.alloc (.cells r.row.toArray 39)).alloc (.cells zeroA 52)) r)
  have HM := Lib.hid hm
  have HB := Lib.hid (And.intro hb1 (And.intro hbx hbq))
  unfold Req.row at HT HB
  clear hb0 hb1 hbx hm hq0 hbq
  by_cases ht : 1 ≤ r.tenant ∧ r.tenant ≤ 16
  · obtain ⟨n, hn⟩ : ∃ n : Nat, r.tenant = n := ⟨r.tenant.toNat, by omega⟩
    have hn17 : n < 17 := by omega
    have ha : atN p r.tenant = some ⟨p, 1 + n * 15, none⟩ := by unfold atN; rw [if_pos ht, hn]; rfl
    rw [ha] at HT
    clear ha
    cases hbk : (M n).bk with
    | some B0 =>
      have HE : Hid (createN M r = (M, errA 8)) := Lib.hid (by unfold createN; rw [if_neg (fun h => h ht), hn, Int.toNat_natCast, if_pos (by rw [hbk]; rfl)])
      have HBK := Lib.hid hbk
      clear ht hn hbk
      go_enter Tryz.func71, Tryz.ntmps71
      go_wp2_with fail
      refine HT.out.mono ?_
      rintro e w1 ⟨rfl, hb⟩
      have M1 := (HM.out.below HB.out.1).below hb
      have BX := Lib.hid (HB.out.2.1.below hb HB.out.2.1.lt)
      have BQ : Hid (Blk w1 w.heap.size 39 r.row.toArray) := Lib.hid (HB.out.2.2.below hb HB.out.2.2.lt)
      have HB1 := Lib.hid (HB.out.1.trans (hb.mono HB.out.1.size))
      have HM1 := Lib.hid M1
      have x3 := M1.ptr hn17
      unfold Ten.ptr at x3
      rw [HBK.out] at x3
      simp only [Option.map_some] at x3
      clear M1 hb
      go_wp2_with (refine wpList_store_mid rfl 52 (.tmp 4) (.tmp 19) rfl (w.heap.size + 1) 0 (errC 8) rfl rfl (there_blk BX.out (Nat.le_refl 17)) infoAns (errC_one _) ?_)
      refine bodyPost_ret (v := (errA 8).v none 0) ?_ rfl ?_
      · exact results_cell Tryz.results71 rfl (blk_setAll BX.out rfl) Tryz.underlying52 rfl infoAns
      rw [HE.out]
      exact doEnd_store (HM.out.below HB1.out) (.of_below HB1.out) (fun i hi => .inl hi) (Nat.le_succ _) BX.out rfl
    | none =>
      have HE : Hid (createN M r = (updM M n (newT (M n).gen r), errA 0)) := Lib.hid (by unfold createN; rw [if_neg (fun h => h ht), hn, Int.toNat_natCast, if_neg (by rw [hbk]; decide)])
      have HBK := Lib.hid hbk
      clear ht hn hbk
      go_enter Tryz.func71, Tryz.ntmps71
      go_wp2_with fail
      refine HT.out.mono ?_
      rintro e w1 ⟨rfl, hb⟩
      have M1 := (HM.out.below HB.out.1).below hb
      have BX := Lib.hid (HB.out.2.1.below hb HB.out.2.1.lt)
      have BQ : Hid (Blk w1 w.heap.size 39 r.row.toArray) := Lib.hid (HB.out.2.2.below hb HB.out.2.2.lt)
      have HB1 := Lib.hid (HB.out.1.trans (hb.mono HB.out.1.size))
      have HM1 := Lib.hid M1
      have x3 := M1.ptr hn17
      unfold Ten.ptr at x3
      rw [HBK.out] at x3
      simp only [Option.map_none] at x3
      have x0 := M1.gen hn17
      obtain ⟨-, -, -, -, -, -, -, -, -, c9, c10, -⟩ := req_cells BQ.out
      have hmix : Tryz.prog.follows .mixedOrders = true := by kernel_rfl
      have hgp : w.heap.size + 1 ≠ p := by have := HM.out.blk.lt; omega
      have hpl := M1.blk.lt
      have hgl := BQ.out.lt
      have HNEW := Lib.hid (fun W => new_b r.qk r.qb W hr.qk hr.qb)
      have HR := Lib.hid hr
      clear M1 hb
      go_wp2_with fail
      have HS : w1.drew.cell? ⟨w.heap.size, 9, none⟩ = some (.int .u64 r.qk) ∧ w1.drew.cell? ⟨w.heap.size, 10, none⟩ = some (.int .u64 r.qb) ∧ w1.drew.cell? ⟨p, 1 + n * 15, none⟩ = some (.int .u32 (M n).gen) := ⟨c9, c10, x0⟩
      clear c9 c10 x0 x3
      refine wp_region_L 13 (fun V : World => V.cell? ⟨w.heap.size, 9, none⟩ = some (.int .u64 r.qk) ∧ V.cell? ⟨w.heap.size, 10, none⟩ = some (.int .u64 r.qb) ∧ V.cell? ⟨p, 1 + n * 15, none⟩ = some (.int .u32 (M n).gen)) hmix ?_
      refine wpAnyL_take (i := 0) (v := ?_) rfl (by kernel_rfl) (by kernel_rfl) (by kernel_rfl) (by kernel_rfl) (fun _ _ _ h => h) (Or.inl ⟨by rfl, ?_⟩) HS ?_
      rotate_left
      · (intro w hSw; (try dsimp only at hSw); go_simp <;> with_reducible rfl)
      try simp only [Act.put, List.getElem_toArray, List.getElem_cons_succ, List.getElem_cons_zero, List.setIfInBounds_toArray, List.set_cons_zero, List.set_cons_succ]
      refine wpAnyL_take (i := 1) (v := ?_) rfl (by kernel_rfl) (by kernel_rfl) (by kernel_rfl) (by kernel_rfl) (fun _ _ _ h => h) (Or.inl ⟨by rfl, ?_⟩) HS ?_
      rotate_left
      · (intro w hSw; (try dsimp only at hSw); go_simp <;> with_reducible rfl)
      try simp only [Act.put, List.getElem_toArray, List.getElem_cons_succ, List.getElem_cons_zero, List.setIfInBounds_toArray, List.set_cons_zero, List.set_cons_succ]
      refine wpAnyL_take (i := 2) (v := ?_) rfl (by kernel_rfl) (by kernel_rfl) (by kernel_rfl) (by kernel_rfl) (fun _ _ _ h => h) (Or.inl ⟨by rfl, ?_⟩) HS ?_
      rotate_left
      · (intro w hSw; (try dsimp only at hSw); go_simp <;> with_reducible rfl)
      try simp only [Act.put, List.getElem_toArray, List.getElem_cons_succ, List.getElem_cons_zero, List.setIfInBounds_toArray, List.set_cons_zero, List.set_cons_succ]
      refine wpAnyL_take (i := 3) (v := ?_) rfl (by kernel_rfl) (by kernel_rfl) (by kernel_rfl) (by kernel_rfl) (fun _ _ _ h => h) (Or.inl ⟨by rfl, ?_⟩) HS ?_
      rotate_left
      · (intro w hSw; (try dsimp only at hSw); go_simp <;> with_reducible rfl)
      try simp only [Act.put, List.getElem_toArray, List.getElem_cons_succ, List.getElem_cons_zero, List.setIfInBounds_toArray, List.set_cons_zero, List.set_cons_succ]
      refine wpAnyL_take (i := 4) (v := ?_) rfl (by kernel_rfl) (by kernel_rfl) (by kernel_rfl) (by kernel_rfl) (fun _ _ _ h => h) (Or.inl ⟨by rfl, ?_⟩) HS ?_
      rotate_left
      · (intro w hSw; (try dsimp only at hSw); go_simp <;> with_reducible rfl)
      try simp only [Act.put, List.getElem_toArray, List.getElem_cons_succ, List.getElem_cons_zero, List.setIfInBounds_toArray, List.set_cons_zero, List.set_cons_succ]
      refine wpAnyL_take (i := 5) (v := ?_) rfl (by kernel_rfl) (by kernel_rfl) (by kernel_rfl) (by kernel_rfl) (fun _ _ _ h => h) (Or.inl ⟨by rfl, ?_⟩) HS ?_
      rotate_left
      · (intro w hSw; (try dsimp only at hSw); go_simp <;> with_reducible rfl)
      try simp only [Act.put, List.getElem_toArray, List.getElem_cons_succ, List.getElem_cons_zero, List.setIfInBounds_toArray, List.set_cons_zero, List.set_cons_succ]
      refine wpAnyL_take (i := 6) (v := ?_) rfl (by kernel_rfl) (by kernel_rfl) (by kernel_rfl) (by kernel_rfl) (fun _ _ _ h => h) (Or.inl ⟨by rfl, ?_⟩) HS ?_
      rotate_left
      · (intro w hSw; (try dsimp only at hSw); go_simp <;> with_reducible rfl)
      try simp only [Act.put, List.getElem_toArray, List.getElem_cons_succ, List.getElem_cons_zero, List.setIfInBounds_toArray, List.set_cons_zero, List.set_cons_succ]
      refine wpAnyL_take (i := 7) (v := ?_) rfl (by kernel_rfl) (by kernel_rfl) (by kernel_rfl) (by kernel_rfl) (fun _ _ _ h => h) (Or.inl ⟨by rfl, ?_⟩) HS ?_
      rotate_left
      · (intro w hSw; (try dsimp only at hSw); go_simp <;> with_reducible rfl)
      try simp only [Act.put, List.getElem_toArray, List.getElem_cons_succ, List.getElem_cons_zero, List.setIfInBounds_toArray, List.set_cons_zero, List.set_cons_succ]
      refine wpAnyL_take (i := 8) (v := ?_) rfl (by kernel_rfl) (by kernel_rfl) (by kernel_rfl) (by kernel_rfl) (fun _ _ _ h => h) (Or.inl ⟨by rfl, ?_⟩) HS ?_
      rotate_left
      · (intro w hSw; (try dsimp only at hSw); go_simp <;> with_reducible rfl)
      try simp only [Act.put, List.getElem_toArray, List.getElem_cons_succ, List.getElem_cons_zero, List.setIfInBounds_toArray, List.set_cons_zero, List.set_cons_succ]
      refine wpAnyL_take (i := 9) (v := ?_) rfl (by kernel_rfl) (by kernel_rfl) (by kernel_rfl) (by kernel_rfl) (fun _ _ _ h => h) (Or.inl ⟨by rfl, ?_⟩) HS ?_
      rotate_left
      · (intro w hSw; (try dsimp only at hSw); go_simp <;> with_reducible rfl)
      try simp only [Act.put, List.getElem_toArray, List.getElem_cons_succ, List.getElem_cons_zero, List.setIfInBounds_toArray, List.set_cons_zero, List.set_cons_succ]
      refine wpAnyL_ready (rs := [10]) (by kernel_rfl) (by simp) ?_
      refine AllL.cons rfl (fun K hK => ?_) AllL.nil
      go_simp
      refine (HNEW.out w1.drew).mono ?_
      rintro e w2 ⟨o2, rfl, hbk2, hge2, hb2⟩
      have HS2 : w2.cell? ⟨w.heap.size, 9, none⟩ = some (.int .u64 r.qk) ∧ w2.cell? ⟨w.heap.size, 10, none⟩ = some (.int .u64 r.qb) ∧ w2.cell? ⟨p, 1 + n * 15, none⟩ = some (.int .u32 (M n).gen) := ⟨(hb2.cell hgl).trans HS.1, (hb2.cell hgl).trans HS.2.1, (hb2.cell hpl).trans HS.2.2⟩
      have HK2 := Lib.hid (And.intro hbk2 (And.intro hge2 hb2))
      clear hbk2 hge2 hb2 HS
      refine hK.out _ _ (fun _ => HS2) ?_
      clear hK K
      try simp only [Act.put, List.getElem_toArray, List.getElem_cons_succ, List.getElem_cons_zero, List.setIfInBounds_toArray, List.set_cons_zero, List.set_cons_succ]
      refine wpAnyL_take (i := 11) (v := ?_) rfl (by kernel_rfl) (by kernel_rfl) (by kernel_rfl) (by kernel_rfl) (fun _ _ _ h => h) (Or.inl ⟨by rfl, ?_⟩) HS2 ?_
      rotate_left
      · (intro w hSw; (try dsimp only at hSw); go_simp <;> with_reducible rfl)
      try simp only [Act.put, List.getElem_toArray, List.getElem_cons_succ, List.getElem_cons_zero, List.setIfInBounds_toArray, List.set_cons_zero, List.set_cons_succ]
      refine wpAnyL_take (i := 12) (v := ?_) rfl (by kernel_rfl) (by kernel_rfl) (by kernel_rfl) (by kernel_rfl) (fun _ _ _ h => h) (Or.inl ⟨by rfl, ?_⟩) HS2 ?_
      rotate_left
      · (intro w hSw; (try dsimp only at hSw); go_simp <;> with_reducible rfl)
      try simp only [Act.put, List.getElem_toArray, List.getElem_cons_succ, List.getElem_cons_zero, List.setIfInBounds_toArray, List.set_cons_zero, List.set_cons_succ]
      refine wpAnyL_ready (rs := [13]) (by kernel_rfl) (by simp) ?_
      refine AllL.cons rfl (fun K hK => ?_) AllL.nil
      rw [if_pos (by kernel_rfl)]
      have m2 : ModelAt w2 p M T := (HM1.out.below ((Below.refl w1.heap.size w1).drew)).below HK2.out.2.2
      have hth := there_mdl (n := 1 + n * 15) (k := 0) (m := 15) m2 (by omega)
      have hwr : IntKind.u32.wrap ((M n).gen + 1) = ((M n).gen + 1) % 4294967296 := by simp [IntKind.wrap, IntKind.bits, IntKind.signed]
      have hok := HM.out.ok n
      obtain ⟨m3, k3⟩ := m2.wrote (n := n) (t := newT (M n).gen r) (o := o2) (off := 0) (vs := (newC (((M n).gen + 1) % 4294967296) r.qk r.qb o2.b).toList) hn17 ⟨wrap_u32_ok _, HR.out.qk, HR.out.qb, st0_ok⟩ rfl (by simp)
        (fun j v hv => ⟨fun h => by
          have := (List.getElem?_eq_some_iff.1 hv).1
          have hl : ((newT (M n).gen r).cells o2).length = 15 := rfl
          rw [hl] at this
          simp at h
          omega, fun _ h => by
          have hcc : (newT (M n).gen r).cells o2 = (newC (((M n).gen + 1) % 4294967296) r.qk r.qb o2.b).toList := by unfold newT Ten.cells Ten.ptr; rw [hwr]; rfl
          rw [hcc] at hv
          exact hv⟩) (fun B hB => by injection hB with hB; subst hB; exact HK2.out.1)
        (fun _ s i hs1 hne hss hi hT => by
          have h1 := HK2.out.2.1 i hi
          have h2 := HM1.out.own_lt (i := i) (.inr ⟨s, hs1, hss, hT⟩)
          simp at h1
          omega)
        (fun _ i hi e => by
          have h1 := HK2.out.2.1 i hi
          subst e
          simp at h1
          omega)
      obtain ⟨w3, hw3⟩ : ∃ w3, w2.setCells p (1 + n * 15) (newC (((M n).gen + 1) % 4294967296) r.qk r.qb o2.b).toList = w3 := ⟨_, rfl⟩
      rw [Nat.add_zero, hw3] at m3 k3
      have HW3 := Lib.hid hw3
      clear hw3 hok
      refine wp_store_mid 75 (.tmp 32) (.tmp 31) rfl p (1 + n * 15) (newC (((M n).gen + 1) % 4294967296) r.qk r.qb o2.b) rfl rfl hth infoTen (newC_one _ _ _ _) ?_
      rw [HW3.out]
      refine hK.out _ _ (fun h => Bool.noConfusion (show true = false from h)) ?_
      clear hK K hth m2
      refine wpAnyL_done (by kernel_rfl) ?_ _
      have hb3 : Blk w3 (w.heap.size + 1) 52 zeroA := k3.blk (BX.out.drew.below HK2.out.2.2 BX.out.lt) hgp
      have HM3 := Lib.hid (And.intro m3 k3)
      clear m3 k3 HS2
      go_wp2_with (refine wpList_store_mid rfl 52 (.tmp 4) (.tmp 33) rfl (w.heap.size + 1) 0 (errC 0) rfl rfl (there_blk hb3 (Nat.le_refl 17)) infoAns (errC_one _) ?_)
      refine bodyPost_ret (v := (errA 0).v none 0) ?_ rfl ?_
      · exact results_cell Tryz.results71 rfl (blk_setAll hb3 rfl) Tryz.underlying52 rfl infoAns
      rw [HE.out]
      refine doEnd_store HM3.out.1 ((((KeepC.refl (mown p M T) w).below HB1.out).drew.below HK2.out.2.2).trans HM3.out.2 (fun i _ h => .inl h)) ?_ (Nat.le_succ _) hb3 rfl
      rintro i (rfl | ⟨k, hk, hks, hki⟩)
      · exact .inl (.inl rfl)
      · by_cases e : k = n
        · subst e
          rw [updO_self] at hki
          have h1 := HK2.out.2.1 i hki
          have h2 := HB1.out.size
          simp at h1
          exact .inr (by omega)
        · rw [updM_ne e] at hks
          rw [updO_ne e] at hki
          exact .inl (.inr ⟨k, hk, hks, hki⟩)
  · have HE : Hid (createN M r = (M, errA 2)) := Lib.hid (by unfold createN; rw [if_pos ht])
    have ha : atN p r.tenant = none := by unfold atN; rw [if_neg ht]
    rw [ha] at HT
    clear ha ht
    go_enter Tryz.func71, Tryz.ntmps71
    go_wp2_with fail
    refine HT.out.mono ?_
    rintro e w1 ⟨rfl, hb⟩
    have M1 := (HM.out.below HB.out.1).below hb
    have BX := Lib.hid (HB.out.2.1.below hb HB.out.2.1.lt)
    have BQ : Hid (Blk w1 w.heap.size 39 r.row.toArray) := Lib.hid (HB.out.2.2.below hb HB.out.2.2.lt)
    have HB1 := Lib.hid (HB.out.1.trans (hb.mono HB.out.1.size))
    have HM1 := Lib.hid M1
    clear M1 hb
    go_wp2_with (refine wpList_store_mid rfl 52 (.tmp 4) (.tmp 12) rfl (w.heap.size + 1) 0 (errC 2) rfl rfl (there_blk BX.out (Nat.le_refl 17)) infoAns (errC_one _) ?_)
    refine bodyPost_ret (v := (errA 2).v none 0) ?_ rfl ?_
    · exact results_cell Tryz.results71 rfl (blk_setAll BX.out rfl) Tryz.underlying52 rfl infoAns
    rw [HE.out]
    exact doEnd_store (HM.out.below HB1.out) (.of_below HB1.out) (fun i hi => .inl hi) (Nat.le_succ _) BX.out rfl
end Go.Proofs.YtkgflepgkhnclaaGreatDoor
namespace Go.Proofs.YtkgflepgkhnclaaGreatDoor
open Go.RowKit Go.Shelf
set_option linter.unusedVariables false
set_option linter.unusedSimpArgs false
attribute [local go_sem] run_store_complex

/-- The numbers of a Stat one by one. -/
theorem stOk_list {l : List Value} (h : StOk l) : ∃ n0 n1 n2 n3 n4 n5 n6 n7 n8 n9 : Int, ∃ a b : Nat, l = [.int .u64 n0, .int .u64 n1, .int .u64 n2, .int .u64 n3, .int .u64 n4, .int .u64 n5, .int .u64 n6, .int .u64 n7, .int .u64 n8, .int .u64 n9, .complex .f64 a b] := by
  obtain ⟨ns, a, b, h1, rfl, _⟩ := h
  obtain ⟨n0, n1, n2, n3, n4, n5, n6, n7, n8, n9, rfl⟩ := list10 h1
  exact ⟨n0, n1, n2, n3, n4, n5, n6, n7, n8, n9, a, b, rfl⟩
theorem infoStat : (Tryz.prog.info? 50).map (·.size) = some 11 := by kernel_rfl
def withN (st : List Value) (k b : Int) : List Value := .int .u64 k :: .int .u64 b :: st.drop 2
set_option maxHeartbeats 3200000 in
set_option maxRecDepth 100000 in
theorem With_s (st : List Value) (h : StOk st) (k b : Int) (w : World) : Calls Tryz.prog 132 #[.agg st.toArray, .agg #[.int .u64 k, .int .u64 b]] w fun e w' => e = .returned (.agg (withN st k b).toArray) ∧ Below w.heap.size w w' := by
  obtain ⟨n0, n1, n2, n3, n4, n5, n6, n7, n8, n9, fa, fb, rfl⟩ := stOk_list h
  have hb1 := below_box w (.cells #[.int .u64 n0, .int .u64 n1, .int .u64 n2, .int .u64 n3, .int .u64 n4, .int .u64 n5, .int .u64 n6, .int .u64 n7, .int .u64 n8, .int .u64 n9, .complex .f64 fa fb] 50)
  have hb2 := below_alloc hb1 (.cells #[.int .u64 k, .int .u64 b] 29)
  have hb3 := below_alloc hb2 (.cells #[.int .u64 0, .int .u64 0, .int .u64 0, .int .u64 0, .int .u64 0, .int .u64 0, .int .u64 0, .int .u64 0, .int .u64 0, .int .u64 0, .complex .f64 0 0] 50)
  clear h
  go_enter Tryz.func132, Tryz.ntmps132
  go_wp2_with fail
  go_region
  all_goals
    go_wp2
    refine bodyPost_ret (v := .agg #[.int .u64 k, .int .u64 b, .int .u64 n2, .int .u64 n3, .int .u64 n4, .int .u64 n5, .int .u64 n6, .int .u64 n7, .int .u64 n8, .int .u64 n9, .complex .f64 fa fb]) ?_ rfl ?_
    · exact results_cell Tryz.results132 rfl (Blk.drew (blk_at (by simp))) Tryz.underlying50 rfl infoStat
    · exact ⟨rfl, (below_alloc (below_alloc (below_box w _) _) _).drew⟩
theorem withN_ok {st : List Value} (h : StOk st) {k b : Int} (hk : 0 ≤ k ∧ k ≤ 18446744073709551615) (hb : 0 ≤ b ∧ b ≤ 18446744073709551615) : StOk (withN st k b) := by
  obtain ⟨ns, fa, fb, h1, rfl, h2⟩ := h
  obtain ⟨n0, n1, n2, n3, n4, n5, n6, n7, n8, n9, rfl⟩ := list10 h1
  refine ⟨[k, b, n2, n3, n4, n5, n6, n7, n8, n9], fa, fb, rfl, rfl, fun n hn => ?_⟩
  simp only [List.mem_cons, List.mem_nil_iff, or_false] at hn
  rcases hn with rfl | rfl | hn
  · exact hk
  · exact hb
  · exact h2 n (by simp only [List.mem_cons, List.mem_nil_iff, or_false]; exact .inr (.inr hn))

/-- A book has changed, its blocks are those that it had, or new ones. -/
theorem ModelAt.book {w w' : World} {p n : Nat} {M : Mdl} {T : Ows} {B B' : Bk} {ok : Option Nat} (h : ModelAt w p M T) (hn : n < 17) (hB : (M n).bk = some B) (hb : BkAt w' ⟨(T n).b, (T n).m, ok⟩ B') (hok : ok = (T n).k ∨ ∃ g, ok = some g ∧ w.heap.size ≤ g)
    (k : KeepC (T n).has w w') : ModelAt w' p (updM M n { M n with bk := some B' }) (updO T n ⟨(T n).b, (T n).m, ok⟩) ∧
      (∀ i, mown p (updM M n { M n with bk := some B' }) (updO T n ⟨(T n).b, (T n).m, ok⟩) i → mown p M T i ∨ w.heap.size ≤ i) ∧ KeepC (mown p M T) w w' := by
  have hs : (M n).bk.isSome := by rw [hB]; rfl
  have hcell : ∀ t, (updM M n { M n with bk := some B' } t).cells (updO T n ⟨(T n).b, (T n).m, ok⟩ t) = (M t).cells (T t) := fun t => by
    by_cases e : t = n
    · subst e
      rw [updM_self, updO_self]
      unfold Ten.cells Ten.ptr
      rw [hB]
      rfl
    · rw [updM_ne e, updO_ne e]
  have hmc : mcells (updM M n { M n with bk := some B' }) (updO T n ⟨(T n).b, (T n).m, ok⟩) = mcells M T := by
    unfold mcells
    congr 1
    exact congrArg (fun f => (List.range 17).flatMap f) (funext hcell)
  have hhas : ∀ i, (⟨(T n).b, (T n).m, ok⟩ : Ow).has i → (T n).has i ∨ w.heap.size ≤ i := fun i hi => by
    rcases hi with rfl | rfl | hi
    · exact .inl (.inl rfl)
    · exact .inl (.inr (.inl rfl))
    · dsimp only at hi
      rcases hok with e | ⟨g, e, hg⟩
      · exact .inl (.inr (.inr (by rw [← e]; exact hi)))
      · rw [e] at hi
        injection hi with hi
        exact .inr (by omega)
  have hown : ∀ i, mown p (updM M n { M n with bk := some B' }) (updO T n ⟨(T n).b, (T n).m, ok⟩) i → mown p M T i ∨ w.heap.size ≤ i := fun i hi => by
    rcases hi with rfl | ⟨t, ht, hst, hi⟩
    · exact .inl (.inl rfl)
    · by_cases e : t = n
      · subst e
        rw [updO_self] at hi
        exact (hhas i hi).imp (fun h => .inr ⟨t, ht, hs, h⟩) id
      · rw [updM_ne e] at hst
        rw [updO_ne e] at hi
        exact .inl (.inr ⟨t, ht, hst, hi⟩)
  refine ⟨⟨?_, fun t => ?_, fun t C ht hC => ?_, fun t s i ht hs1 hts h1 h2 h3 h4 => ?_⟩, hown, k.mono (fun i _ hi => .inr ⟨n, hn, hs, hi⟩)⟩
  · rw [hmc]
    exact k.blk h.blk (fun hp => h.ne hn hs hp rfl)
  · by_cases e : t = n
    · subst e; rw [updM_self]; exact ⟨(h.ok t).gen, (h.ok t).qk, (h.ok t).qb, (h.ok t).st⟩
    · rw [updM_ne e]; exact h.ok t
  · by_cases e : t = n
    · subst e
      rw [updM_self] at hC
      rw [updO_self]
      injection hC with hC
      subst hC
      exact hb
    · rw [updM_ne e] at hC
      rw [updO_ne e]
      exact (h.bk t C ht hC).keep k (fun i hi hi2 => h.apart t n i ht hn e (by rw [hC]; rfl) hs hi hi2)
  · by_cases et : t = n
    · subst et
      have es : s ≠ t := fun e => hts e.symm
      rw [updM_ne es] at h2
      rw [updO_self] at h3
      rw [updO_ne es] at h4
      rcases hhas i h3 with h5 | h5
      · exact h.apart t s i ht hs1 hts hs h2 h5 h4
      · have := h.own_lt (i := i) (.inr ⟨s, hs1, h2, h4⟩); omega
    · rw [updM_ne et] at h1
      rw [updO_ne et] at h3
      by_cases es : s = n
      · subst es
        rw [updO_self] at h4
        rcases hhas i h4 with h5 | h5
        · exact h.apart t s i ht hs1 hts h1 hs h3 h5
        · have := h.own_lt (i := i) (.inr ⟨t, ht, h1, h3⟩); omega
      · rw [updM_ne es] at h2
        rw [updO_ne es] at h4
        exact h.apart t s i ht hs1 hts h1 h2 h3 h4
end Go.Proofs.YtkgflepgkhnclaaGreatDoor
namespace Go.Proofs.YtkgflepgkhnclaaGreatDoor
open Go.RowKit Go.Shelf
set_option linter.unusedVariables false
set_option linter.unusedSimpArgs false
attribute [local go_sem] run_store_complex

theorem may_good {M : Mdl} {r : Req} (h : mayM M r = 0) : ∃ (n : Nat) (B : Bk), r.ten = n ∧ 1 ≤ n ∧ n ≤ 16 ∧ (M n).bk = some B := by
  unfold mayM at h
  split at h
  · cases h
  · rename_i h1
    rw [Bool.not_eq_false] at h1
    unfold goodN Hd.right Hd.tN at h1
    simp only [Req.h, Bool.and_eq_true, decide_eq_true_eq] at h1
    obtain ⟨⟨⟨⟨h2, h3⟩, -⟩, -⟩, h4, -⟩ := h1
    have h2 := of_decide_eq_true h2
    have h3 := of_decide_eq_true h3
    obtain ⟨B, hB⟩ := Option.isSome_iff_exists.1 h4
    exact ⟨r.ten.toNat, B, by omega, by omega, by omega, hB⟩
/-- Tell on a model. -/
def tellN (M : Mdl) (r : Req) : Mdl × Ans :=
  if mayM M r = 0 then (match (M r.ten.toNat).bk with
    | some B => (M, { errA 0 with st := withN (M r.ten.toNat).st (B.l.length : Nat) (sizeL B.l : Nat) })
    | none => (M, errA 0)) else (M, errA (mayM M r))
/-- The books of a model are small. -/
def Small (M : Mdl) : Prop := ∀ t B, (M t).bk = some B → B.l.length ≤ 1000000
set_option maxHeartbeats 3200000 in
set_option maxRecDepth 100000 in
theorem tell_m {w : World} {p : Nat} {M : Mdl} {T : Ows} (hm : ModelAt w p M T) (r : Req) (hsm : Small M) : Calls Tryz.prog 70 #[.pointer (some ⟨p, 0, none⟩), r.v] w (DoEnd p M T (tellN M r) w) := by
  have hb0 : Below w.heap.size w (w.alloc (.cells r.row.toArray 39)) := below_box _ _
  have hq0 := Blk.new w 39 r.row.toArray
  have hb1 := below_alloc hb0 (.cells zeroA 52)
  have hbq := hq0.alloc (.cells zeroA 52)
  have hbx : Blk ((w.alloc (.cells r.row.toArray 39)).alloc (.cells zeroA 52)) (w.heap.size + 1) 52 zeroA := blk_at (by simp)
  have HT := Lib.hid (may_m (hm.below hb1) r)
  have HM := Lib.hid hm
  have HB := Lib.hid (And.intro hb1 (And.intro hbx hbq))
  unfold Req.row at HT HB
  clear hb0 hb1 hbx hm hq0 hbq
  by_cases h0 : mayM M r = 0
  · obtain ⟨n, B, hn, hn1, hn2, hbk⟩ := may_good h0
    have hn17 : n < 17 := by omega
    have HE : Hid (tellN M r = (M, { errA 0 with st := withN (M n).st (B.l.length : Nat) (sizeL B.l : Nat) })) := Lib.hid (by unfold tellN; rw [if_pos h0, hn, Int.toNat_natCast, hbk])
    rw [h0] at HT
    have HBK := Lib.hid hbk
    have hlB := hsm n B hbk
    have HTEN := Lib.hid hn
    clear h0 hbk hsm hn
    go_enter Tryz.func70, Tryz.ntmps70
    go_wp2_with fail
    refine HT.out.mono ?_
    rintro e w1 ⟨rfl, hb⟩
    have M1 := (HM.out.below HB.out.1).below hb
    have BX := Lib.hid (HB.out.2.1.below hb HB.out.2.1.lt)
    have hbq1 : Blk w1 w.heap.size 39 r.row.toArray := HB.out.2.2.below hb HB.out.2.2.lt
    have HB1 := Lib.hid (HB.out.1.trans (hb.mono HB.out.1.size))
    have HM1 := Lib.hid M1
    obtain ⟨-, c1, -⟩ := req_cells hbq1
    rw [HTEN.out] at c1
    have hgl := hbq1.lt
    have hpl := M1.blk.lt
    obtain ⟨n0, n1, n2, n3, n4, n5, n6, n7, n8, n9, fa, fb, hst⟩ := stOk_list (M1.ok n).st
    have hr15 := M1.range hn17
    unfold Ten.cells Ten.ptr at hr15
    rw [hst, HBK.out] at hr15
    simp only [Option.map_some] at hr15
    have hx15 := range15 hr15
    have HST := Lib.hid hst
    have hq1 : (0 : Int) ≤ (n : Int) := by omega
    have hq2 : (n : Int) < 17 := by omega
    have hmix : Tryz.prog.follows .mixedOrders = true := by kernel_rfl
    clear M1 hb hbq1 hr15 hst
    go_wp2_with fail
    have HS : w1.drew.cell? ⟨w.heap.size, 1, none⟩ = some (.int .i64 (n : Int)) ∧ w1.drew.cell? ⟨p, 1 + n * 15, none⟩ = some (.int .u32 (M n).gen) ∧ w1.drew.cell? ⟨p, 1 + n * 15 + 1, none⟩ = some (.int .u64 (M n).qk) ∧ w1.drew.cell? ⟨p, 1 + n * 15 + 2, none⟩ = some (.int .u64 (M n).qb) ∧ w1.drew.cell? ⟨p, 1 + n * 15 + 3, none⟩ = some (.pointer (some ⟨(T n).b, 0, none⟩)) ∧ w1.drew.cell? ⟨p, 1 + n * 15 + 4, none⟩ = some (.int .u64 n0) ∧ w1.drew.cell? ⟨p, 1 + n * 15 + 5, none⟩ = some (.int .u64 n1) ∧ w1.drew.cell? ⟨p, 1 + n * 15 + 6, none⟩ = some (.int .u64 n2) ∧ w1.drew.cell? ⟨p, 1 + n * 15 + 7, none⟩ = some (.int .u64 n3) ∧ w1.drew.cell? ⟨p, 1 + n * 15 + 8, none⟩ = some (.int .u64 n4) ∧ w1.drew.cell? ⟨p, 1 + n * 15 + 9, none⟩ = some (.int .u64 n5) ∧ w1.drew.cell? ⟨p, 1 + n * 15 + 10, none⟩ = some (.int .u64 n6) ∧ w1.drew.cell? ⟨p, 1 + n * 15 + 11, none⟩ = some (.int .u64 n7) ∧ w1.drew.cell? ⟨p, 1 + n * 15 + 12, none⟩ = some (.int .u64 n8) ∧ w1.drew.cell? ⟨p, 1 + n * 15 + 13, none⟩ = some (.int .u64 n9) ∧ w1.drew.cell? ⟨p, 1 + n * 15 + 14, none⟩ = some (.complex .f64 fa fb) := ⟨c1, hx15⟩
    clear c1 hx15
    refine wp_region_L 9 (fun V : World => V.cell? ⟨w.heap.size, 1, none⟩ = some (.int .i64 (n : Int)) ∧ V.cell? ⟨p, 1 + n * 15, none⟩ = some (.int .u32 (M n).gen) ∧ V.cell? ⟨p, 1 + n * 15 + 1, none⟩ = some (.int .u64 (M n).qk) ∧ V.cell? ⟨p, 1 + n * 15 + 2, none⟩ = some (.int .u64 (M n).qb) ∧ V.cell? ⟨p, 1 + n * 15 + 3, none⟩ = some (.pointer (some ⟨(T n).b, 0, none⟩)) ∧ V.cell? ⟨p, 1 + n * 15 + 4, none⟩ = some (.int .u64 n0) ∧ V.cell? ⟨p, 1 + n * 15 + 5, none⟩ = some (.int .u64 n1) ∧ V.cell? ⟨p, 1 + n * 15 + 6, none⟩ = some (.int .u64 n2) ∧ V.cell? ⟨p, 1 + n * 15 + 7, none⟩ = some (.int .u64 n3) ∧ V.cell? ⟨p, 1 + n * 15 + 8, none⟩ = some (.int .u64 n4) ∧ V.cell? ⟨p, 1 + n * 15 + 9, none⟩ = some (.int .u64 n5) ∧ V.cell? ⟨p, 1 + n * 15 + 10, none⟩ = some (.int .u64 n6) ∧ V.cell? ⟨p, 1 + n * 15 + 11, none⟩ = some (.int .u64 n7) ∧ V.cell? ⟨p, 1 + n * 15 + 12, none⟩ = some (.int .u64 n8) ∧ V.cell? ⟨p, 1 + n * 15 + 13, none⟩ = some (.int .u64 n9) ∧ V.cell? ⟨p, 1 + n * 15 + 14, none⟩ = some (.complex .f64 fa fb)) hmix ?_
    refine wpAnyL_take (i := 0) (v := ?_) rfl (by kernel_rfl) (by kernel_rfl) (by kernel_rfl) (by kernel_rfl) (fun _ _ _ h => h) (Or.inl ⟨by rfl, ?_⟩) HS ?_
    rotate_left
    · (intro w hSw; (try dsimp only at hSw); go_simp <;> with_reducible rfl)
    try simp only [Act.put, List.getElem_toArray, List.getElem_cons_succ, List.getElem_cons_zero, List.setIfInBounds_toArray, List.set_cons_zero, List.set_cons_succ]
    refine wpAnyL_take (i := 1) (v := ?_) rfl (by kernel_rfl) (by kernel_rfl) (by kernel_rfl) (by kernel_rfl) (fun _ _ _ h => h) (Or.inl ⟨by rfl, ?_⟩) HS ?_
    rotate_left
    · (intro w hSw; (try dsimp only at hSw); go_simp <;> with_reducible rfl)
    try simp only [Act.put, List.getElem_toArray, List.getElem_cons_succ, List.getElem_cons_zero, List.setIfInBounds_toArray, List.set_cons_zero, List.set_cons_succ]
    refine wpAnyL_take (i := 2) (v := ?_) rfl (by kernel_rfl) (by kernel_rfl) (by kernel_rfl) (by kernel_rfl) (fun _ _ _ h => h) (Or.inl ⟨by rfl, ?_⟩) HS ?_
    rotate_left
    · (intro w hSw; (try dsimp only at hSw); go_simp <;> with_reducible rfl)
    try simp only [Act.put, List.getElem_toArray, List.getElem_cons_succ, List.getElem_cons_zero, List.setIfInBounds_toArray, List.set_cons_zero, List.set_cons_succ]
    refine wpAnyL_take (i := 3) (v := ?_) rfl (by kernel_rfl) (by kernel_rfl) (by kernel_rfl) (by kernel_rfl) (fun _ _ _ h => h) (Or.inl ⟨by rfl, ?_⟩) HS ?_
    rotate_left
    · (intro w hSw; (try dsimp only at hSw); go_simp <;> with_reducible rfl)
    try simp only [Act.put, List.getElem_toArray, List.getElem_cons_succ, List.getElem_cons_zero, List.setIfInBounds_toArray, List.set_cons_zero, List.set_cons_succ]
    refine wpAnyL_take (i := 4) (v := ?_) rfl (by kernel_rfl) (by kernel_rfl) (by kernel_rfl) (by kernel_rfl) (fun _ _ _ h => h) (Or.inl ⟨by rfl, ?_⟩) HS ?_
    rotate_left
    · (intro w hSw; (try dsimp only at hSw); go_simp <;> with_reducible rfl)
    try simp only [Act.put, List.getElem_toArray, List.getElem_cons_succ, List.getElem_cons_zero, List.setIfInBounds_toArray, List.set_cons_zero, List.set_cons_succ]
    refine wpAnyL_take (i := 5) (v := ?_) rfl (by kernel_rfl) (by kernel_rfl) (by kernel_rfl) (by kernel_rfl) (fun _ _ _ h => h) (Or.inl ⟨by rfl, ?_⟩) HS ?_
    rotate_left
    · (intro w hSw; (try dsimp only at hSw); go_simp <;> with_reducible rfl)
    try simp only [Act.put, List.getElem_toArray, List.getElem_cons_succ, List.getElem_cons_zero, List.setIfInBounds_toArray, List.set_cons_zero, List.set_cons_succ]
    refine wpAnyL_take (i := 6) (v := ?_) rfl (by kernel_rfl) (by kernel_rfl) (by kernel_rfl) (by kernel_rfl) (fun _ _ _ h => h) (Or.inl ⟨by rfl, ?_⟩) HS ?_
    rotate_left
    · (intro w hSw; (try dsimp only at hSw); go_simp <;> with_reducible rfl)
    try simp only [Act.put, List.getElem_toArray, List.getElem_cons_succ, List.getElem_cons_zero, List.setIfInBounds_toArray, List.set_cons_zero, List.set_cons_succ]
    refine wpAnyL_take (i := 7) (v := ?_) rfl (by kernel_rfl) (by kernel_rfl) (by kernel_rfl) (by kernel_rfl) (fun _ _ _ h => h) (Or.inl ⟨by rfl, ?_⟩) HS ?_
    rotate_left
    · (intro w hSw; (try dsimp only at hSw); go_simp <;> with_reducible rfl)
    try simp only [Act.put, List.getElem_toArray, List.getElem_cons_succ, List.getElem_cons_zero, List.setIfInBounds_toArray, List.set_cons_zero, List.set_cons_succ]
    refine wpAnyL_ready (rs := [8]) (by kernel_rfl) (by simp) ?_
    refine AllL.cons rfl (fun K hK => ?_) AllL.nil
    go_simp
    have up : ∀ (x : Addr) (v : Value) (o : Obj), x.block < w1.heap.size → w1.drew.cell? x = some v → (w1.alloc o).drew.cell? x = some v := fun x v o hx h => (World.cell?_alloc_lt w1 o x hx).trans h
    refine hK.out _ _ (fun _ => ⟨up _ _ _ hgl HS.1, up _ _ _ hpl HS.2.1, up _ _ _ hpl HS.2.2.1, up _ _ _ hpl HS.2.2.2.1, up _ _ _ hpl HS.2.2.2.2.1, up _ _ _ hpl HS.2.2.2.2.2.1, up _ _ _ hpl HS.2.2.2.2.2.2.1, up _ _ _ hpl HS.2.2.2.2.2.2.2.1, up _ _ _ hpl HS.2.2.2.2.2.2.2.2.1, up _ _ _ hpl HS.2.2.2.2.2.2.2.2.2.1, up _ _ _ hpl HS.2.2.2.2.2.2.2.2.2.2.1, up _ _ _ hpl HS.2.2.2.2.2.2.2.2.2.2.2.1, up _ _ _ hpl HS.2.2.2.2.2.2.2.2.2.2.2.2.1, up _ _ _ hpl HS.2.2.2.2.2.2.2.2.2.2.2.2.2.1, up _ _ _ hpl HS.2.2.2.2.2.2.2.2.2.2.2.2.2.2.1, up _ _ _ hpl HS.2.2.2.2.2.2.2.2.2.2.2.2.2.2.2⟩) ?_
    clear hK K up
    try simp only [Act.put, List.getElem_toArray, List.getElem_cons_succ, List.getElem_cons_zero, List.setIfInBounds_toArray, List.set_cons_zero, List.set_cons_succ]
    refine wpAnyL_ready (rs := [9]) (by kernel_rfl) (by simp) ?_
    refine AllL.cons rfl (fun K hK => ?_) AllL.nil
    go_simp
    refine hK.out _ _ (fun h => Bool.noConfusion (show true = false from h)) ?_
    clear hK K HS
    refine wpAnyL_done (by kernel_rfl) ?_ _
    have hbt : Blk ((w1.alloc (.cells #[.int .u32 (M n).gen, .int .u64 (M n).qk, .int .u64 (M n).qb, .pointer (some ⟨(T n).b, 0, none⟩), .int .u64 n0, .int .u64 n1, .int .u64 n2, .int .u64 n3, .int .u64 n4, .int .u64 n5, .int .u64 n6, .int .u64 n7, .int .u64 n8, .int .u64 n9, .complex .f64 fa fb] 75)).drew) w1.heap.size 75 #[.int .u32 (M n).gen, .int .u64 (M n).qk, .int .u64 (M n).qb, .pointer (some ⟨(T n).b, 0, none⟩), .int .u64 n0, .int .u64 n1, .int .u64 n2, .int .u64 n3, .int .u64 n4, .int .u64 n5, .int .u64 n6, .int .u64 n7, .int .u64 n8, .int .u64 n9, .complex .f64 fa fb] := Blk.drew (blk_at rfl)
    have hbw : Below w1.heap.size w1 ((w1.alloc (.cells #[.int .u32 (M n).gen, .int .u64 (M n).qk, .int .u64 (M n).qb, .pointer (some ⟨(T n).b, 0, none⟩), .int .u64 n0, .int .u64 n1, .int .u64 n2, .int .u64 n3, .int .u64 n4, .int .u64 n5, .int .u64 n6, .int .u64 n7, .int .u64 n8, .int .u64 n9, .complex .f64 fa fb] 75)).drew) := (below_box w1 _).drew
    generalize (w1.alloc (.cells #[.int .u32 (M n).gen, .int .u64 (M n).qk, .int .u64 (M n).qb, .pointer (some ⟨(T n).b, 0, none⟩), .int .u64 n0, .int .u64 n1, .int .u64 n2, .int .u64 n3, .int .u64 n4, .int .u64 n5, .int .u64 n6, .int .u64 n7, .int .u64 n8, .int .u64 n9, .complex .f64 fa fb] 75)).drew = w2 at hbt hbw ⊢
    have hbk2 := (HM1.out.bk n B hn17 HBK.out).below hbw
    have BX2 := Lib.hid (BX.out.below hbw BX.out.lt)
    have HB2 := Lib.hid (below_trans HB1.out hbw)
    have HKY := Lib.hid (keys_b (w := w2.drew) (hbk2.below ((Below.refl _ _).drew)) hlB)
    have HBY := Lib.hid (bytes_b (w := w2.drew) (hbk2.below ((Below.refl _ _).drew)))
    have hwi : Calls Tryz.prog 132 #[.agg #[.int .u64 n0, .int .u64 n1, .int .u64 n2, .int .u64 n3, .int .u64 n4, .int .u64 n5, .int .u64 n6, .int .u64 n7, .int .u64 n8, .int .u64 n9, .complex .f64 fa fb], .agg #[.int .u64 (B.l.length : Nat), .int .u64 (sizeL B.l : Nat)]] w2.drew fun e w' => e = .returned (.agg #[.int .u64 (B.l.length : Nat), .int .u64 (sizeL B.l : Nat), .int .u64 n2, .int .u64 n3, .int .u64 n4, .int .u64 n5, .int .u64 n6, .int .u64 n7, .int .u64 n8, .int .u64 n9, .complex .f64 fa fb]) ∧ Below w2.drew.heap.size w2.drew w' :=
      With_s [.int .u64 n0, .int .u64 n1, .int .u64 n2, .int .u64 n3, .int .u64 n4, .int .u64 n5, .int .u64 n6, .int .u64 n7, .int .u64 n8, .int .u64 n9, .complex .f64 fa fb] (by rw [← HST.out]; exact (HM.out.ok n).st) (B.l.length : Nat) (sizeL B.l : Nat) w2.drew
    have HWI := Lib.hid hwi
    clear hwi
    have hgt := hbt.lt
    have HS : w2.drew.cell? ⟨w1.heap.size, 3, none⟩ = some (.pointer (some ⟨(T n).b, 0, none⟩)) ∧ w2.drew.cell? ⟨w1.heap.size, 4, none⟩ = some (.int .u64 n0) ∧ w2.drew.cell? ⟨w1.heap.size, 5, none⟩ = some (.int .u64 n1) ∧ w2.drew.cell? ⟨w1.heap.size, 6, none⟩ = some (.int .u64 n2) ∧ w2.drew.cell? ⟨w1.heap.size, 7, none⟩ = some (.int .u64 n3) ∧ w2.drew.cell? ⟨w1.heap.size, 8, none⟩ = some (.int .u64 n4) ∧ w2.drew.cell? ⟨w1.heap.size, 9, none⟩ = some (.int .u64 n5) ∧ w2.drew.cell? ⟨w1.heap.size, 10, none⟩ = some (.int .u64 n6) ∧ w2.drew.cell? ⟨w1.heap.size, 11, none⟩ = some (.int .u64 n7) ∧ w2.drew.cell? ⟨w1.heap.size, 12, none⟩ = some (.int .u64 n8) ∧ w2.drew.cell? ⟨w1.heap.size, 13, none⟩ = some (.int .u64 n9) ∧ w2.drew.cell? ⟨w1.heap.size, 14, none⟩ = some (.complex .f64 fa fb) := ⟨hbt.cell 3, hbt.cell 4, hbt.cell 5, hbt.cell 6, hbt.cell 7, hbt.cell 8, hbt.cell 9, hbt.cell 10, hbt.cell 11, hbt.cell 12, hbt.cell 13, hbt.cell 14⟩
    clear hbt hbw hbk2
    go_wp2_with fail
    refine wp_region_L 11 (fun V : World => V.cell? ⟨w1.heap.size, 3, none⟩ = some (.pointer (some ⟨(T n).b, 0, none⟩)) ∧ V.cell? ⟨w1.heap.size, 4, none⟩ = some (.int .u64 n0) ∧ V.cell? ⟨w1.heap.size, 5, none⟩ = some (.int .u64 n1) ∧ V.cell? ⟨w1.heap.size, 6, none⟩ = some (.int .u64 n2) ∧ V.cell? ⟨w1.heap.size, 7, none⟩ = some (.int .u64 n3) ∧ V.cell? ⟨w1.heap.size, 8, none⟩ = some (.int .u64 n4) ∧ V.cell? ⟨w1.heap.size, 9, none⟩ = some (.int .u64 n5) ∧ V.cell? ⟨w1.heap.size, 10, none⟩ = some (.int .u64 n6) ∧ V.cell? ⟨w1.heap.size, 11, none⟩ = some (.int .u64 n7) ∧ V.cell? ⟨w1.heap.size, 12, none⟩ = some (.int .u64 n8) ∧ V.cell? ⟨w1.heap.size, 13, none⟩ = some (.int .u64 n9) ∧ V.cell? ⟨w1.heap.size, 14, none⟩ = some (.complex .f64 fa fb)) hmix ?_
    refine wpAnyL_take (i := 0) (v := ?_) rfl (by kernel_rfl) (by kernel_rfl) (by kernel_rfl) (by kernel_rfl) (fun _ _ _ h => h) (Or.inl ⟨by rfl, ?_⟩) HS ?_
    rotate_left
    · (intro w hSw; (try dsimp only at hSw); go_simp <;> with_reducible rfl)
    try simp only [Act.put, List.getElem_toArray, List.getElem_cons_succ, List.getElem_cons_zero, List.setIfInBounds_toArray, List.set_cons_zero, List.set_cons_succ]
    refine wpAnyL_take (i := 1) (v := ?_) rfl (by kernel_rfl) (by kernel_rfl) (by kernel_rfl) (by kernel_rfl) (fun _ _ _ h => h) (Or.inl ⟨by rfl, ?_⟩) HS ?_
    rotate_left
    · (intro w hSw; (try dsimp only at hSw); go_simp <;> with_reducible rfl)
    try simp only [Act.put, List.getElem_toArray, List.getElem_cons_succ, List.getElem_cons_zero, List.setIfInBounds_toArray, List.set_cons_zero, List.set_cons_succ]
    refine wpAnyL_take (i := 2) (v := ?_) rfl (by kernel_rfl) (by kernel_rfl) (by kernel_rfl) (by kernel_rfl) (fun _ _ _ h => h) (Or.inl ⟨by rfl, ?_⟩) HS ?_
    rotate_left
    · (intro w hSw; (try dsimp only at hSw); go_simp <;> with_reducible rfl)
    try simp only [Act.put, List.getElem_toArray, List.getElem_cons_succ, List.getElem_cons_zero, List.setIfInBounds_toArray, List.set_cons_zero, List.set_cons_succ]
    refine wpAnyL_take (i := 3) (v := ?_) rfl (by kernel_rfl) (by kernel_rfl) (by kernel_rfl) (by kernel_rfl) (fun _ _ _ h => h) (Or.inl ⟨by rfl, ?_⟩) HS ?_
    rotate_left
    · (intro w hSw; (try dsimp only at hSw); go_simp <;> with_reducible rfl)
    try simp only [Act.put, List.getElem_toArray, List.getElem_cons_succ, List.getElem_cons_zero, List.setIfInBounds_toArray, List.set_cons_zero, List.set_cons_succ]
    refine wpAnyL_take (i := 5) (v := ?_) rfl (by kernel_rfl) (by kernel_rfl) (by kernel_rfl) (by kernel_rfl) (fun _ _ _ h => h) (Or.inl ⟨by rfl, ?_⟩) HS ?_
    rotate_left
    · (intro w hSw; (try dsimp only at hSw); go_simp <;> with_reducible rfl)
    try simp only [Act.put, List.getElem_toArray, List.getElem_cons_succ, List.getElem_cons_zero, List.setIfInBounds_toArray, List.set_cons_zero, List.set_cons_succ]
    refine wpAnyL_take (i := 6) (v := ?_) rfl (by kernel_rfl) (by kernel_rfl) (by kernel_rfl) (by kernel_rfl) (fun _ _ _ h => h) (Or.inl ⟨by rfl, ?_⟩) HS ?_
    rotate_left
    · (intro w hSw; (try dsimp only at hSw); go_simp <;> with_reducible rfl)
    try simp only [Act.put, List.getElem_toArray, List.getElem_cons_succ, List.getElem_cons_zero, List.setIfInBounds_toArray, List.set_cons_zero, List.set_cons_succ]
    refine wpAnyL_ready (rs := [4]) (by kernel_rfl) (by simp) ?_
    refine AllL.cons rfl (fun K hK => ?_) AllL.nil
    go_simp
    refine HKY.out.mono ?_
    rintro e w3 ⟨rfl, rfl⟩
    refine hK.out _ _ (fun _ => HS) ?_
    clear hK K
    try simp only [Act.put, List.getElem_toArray, List.getElem_cons_succ, List.getElem_cons_zero, List.setIfInBounds_toArray, List.set_cons_zero, List.set_cons_succ]
    refine wpAnyL_ready (rs := [7]) (by kernel_rfl) (by simp) ?_
    refine AllL.cons rfl (fun K hK => ?_) AllL.nil
    go_simp
    refine HBY.out.mono ?_
    rintro e w3 ⟨rfl, rfl⟩
    refine hK.out _ _ (fun _ => HS) ?_
    clear hK K
    try simp only [Act.put, List.getElem_toArray, List.getElem_cons_succ, List.getElem_cons_zero, List.setIfInBounds_toArray, List.set_cons_zero, List.set_cons_succ]
    refine wpAnyL_take (i := 8) (v := ?_) rfl (by kernel_rfl) (by kernel_rfl) (by kernel_rfl) (by kernel_rfl) (fun _ _ _ h => h) (Or.inl ⟨by rfl, ?_⟩) HS ?_
    rotate_left
    · (intro w hSw; (try dsimp only at hSw); go_simp <;> with_reducible rfl)
    try simp only [Act.put, List.getElem_toArray, List.getElem_cons_succ, List.getElem_cons_zero, List.setIfInBounds_toArray, List.set_cons_zero, List.set_cons_succ]
    refine wpAnyL_ready (rs := [9]) (by kernel_rfl) (by simp) ?_
    refine AllL.cons rfl (fun K hK => ?_) AllL.nil
    go_simp
    refine HWI.out.mono ?_
    rintro e w3 ⟨rfl, hb3⟩
    have up : ∀ (x : Addr) (v : Value), x.block < w2.drew.heap.size → w2.drew.cell? x = some v → w3.cell? x = some v := fun x v hx h => (hb3.cell hx).trans h
    have HB3 := Lib.hid hb3
    have HS3 : w3.cell? ⟨w1.heap.size, 3, none⟩ = some (.pointer (some ⟨(T n).b, 0, none⟩)) ∧ w3.cell? ⟨w1.heap.size, 4, none⟩ = some (.int .u64 n0) ∧ w3.cell? ⟨w1.heap.size, 5, none⟩ = some (.int .u64 n1) ∧ w3.cell? ⟨w1.heap.size, 6, none⟩ = some (.int .u64 n2) ∧ w3.cell? ⟨w1.heap.size, 7, none⟩ = some (.int .u64 n3) ∧ w3.cell? ⟨w1.heap.size, 8, none⟩ = some (.int .u64 n4) ∧ w3.cell? ⟨w1.heap.size, 9, none⟩ = some (.int .u64 n5) ∧ w3.cell? ⟨w1.heap.size, 10, none⟩ = some (.int .u64 n6) ∧ w3.cell? ⟨w1.heap.size, 11, none⟩ = some (.int .u64 n7) ∧ w3.cell? ⟨w1.heap.size, 12, none⟩ = some (.int .u64 n8) ∧ w3.cell? ⟨w1.heap.size, 13, none⟩ = some (.int .u64 n9) ∧ w3.cell? ⟨w1.heap.size, 14, none⟩ = some (.complex .f64 fa fb) := ⟨up _ _ hgt HS.1, up _ _ hgt HS.2.1, up _ _ hgt HS.2.2.1, up _ _ hgt HS.2.2.2.1, up _ _ hgt HS.2.2.2.2.1, up _ _ hgt HS.2.2.2.2.2.1, up _ _ hgt HS.2.2.2.2.2.2.1, up _ _ hgt HS.2.2.2.2.2.2.2.1, up _ _ hgt HS.2.2.2.2.2.2.2.2.1, up _ _ hgt HS.2.2.2.2.2.2.2.2.2.1, up _ _ hgt HS.2.2.2.2.2.2.2.2.2.2.1, up _ _ hgt HS.2.2.2.2.2.2.2.2.2.2.2⟩
    refine hK.out _ _ (fun _ => HS3) ?_
    clear hK K up hb3 HS
    try simp only [Act.put, List.getElem_toArray, List.getElem_cons_succ, List.getElem_cons_zero, List.setIfInBounds_toArray, List.set_cons_zero, List.set_cons_succ]
    refine wpAnyL_take (i := 10) (v := ?_) rfl (by kernel_rfl) (by kernel_rfl) (by kernel_rfl) (by kernel_rfl) (fun _ _ _ h => h) (Or.inl ⟨by rfl, ?_⟩) HS3 ?_
    rotate_left
    · (intro w hSw; (try dsimp only at hSw); go_simp <;> with_reducible rfl)
    try simp only [Act.put, List.getElem_toArray, List.getElem_cons_succ, List.getElem_cons_zero, List.setIfInBounds_toArray, List.set_cons_zero, List.set_cons_succ]
    refine wpAnyL_ready (rs := [11]) (by kernel_rfl) (by simp) ?_
    refine AllL.cons rfl (fun K hK => ?_) AllL.nil
    rw [if_pos (by kernel_rfl)]
    have hbx3 : Blk w3 (w.heap.size + 1) 52 zeroA := BX2.out.drew.below HB3.out BX2.out.lt
    refine wp_store_mid 52 (.tmp 4) (.tmp 32) rfl (w.heap.size + 1) 0 (({ errA 0 with st := withN [.int .u64 n0, .int .u64 n1, .int .u64 n2, .int .u64 n3, .int .u64 n4, .int .u64 n5, .int .u64 n6, .int .u64 n7, .int .u64 n8, .int .u64 n9, .complex .f64 fa fb] (B.l.length : Nat) (sizeL B.l : Nat) } : Ans).cells none 0).toArray rfl rfl (there_blk hbx3 (Nat.le_refl 17)) infoAns (by simp [Ans.cells, errA, withN, Value.oneCell']) ?_
    refine hK.out _ _ (fun h => Bool.noConfusion (show true = false from h)) ?_
    clear hK K HS3
    refine wpAnyL_done (by kernel_rfl) ?_ _
    go_wp2
    refine bodyPost_ret (v := ({ errA 0 with st := withN [.int .u64 n0, .int .u64 n1, .int .u64 n2, .int .u64 n3, .int .u64 n4, .int .u64 n5, .int .u64 n6, .int .u64 n7, .int .u64 n8, .int .u64 n9, .complex .f64 fa fb] (B.l.length : Nat) (sizeL B.l : Nat) } : Ans).v none 0) ?_ rfl ?_
    · exact results_cell Tryz.results70 rfl (blk_setAll hbx3 rfl) Tryz.underlying52 rfl infoAns
    have hE := HE.out
    rw [HST.out] at hE
    rw [hE]
    have hbw3 : Below w.heap.size w w3 := below_trans HB2.out.drew HB3.out
    exact doEnd_store (HM.out.below hbw3) (.of_below hbw3) (fun i hi => .inl hi) (Nat.le_succ _) hbx3 rfl
  · have HE : Hid (tellN M r = (M, errA (mayM M r))) := Lib.hid (by unfold tellN; rw [if_neg h0])
    generalize mayM M r = q2 at HT h0 HE
    go_enter Tryz.func70, Tryz.ntmps70
    go_wp2_with fail
    refine HT.out.mono ?_
    rintro e w1 ⟨rfl, hb⟩
    have BX := Lib.hid (HB.out.2.1.below hb HB.out.2.1.lt)
    have HB1 := Lib.hid (HB.out.1.trans (hb.mono HB.out.1.size))
    clear hb
    go_wp2_with (refine wpList_store_mid rfl 52 (.tmp 4) (.tmp 13) rfl (w.heap.size + 1) 0 (errC q2) rfl rfl (there_blk BX.out (Nat.le_refl 17)) infoAns (errC_one _) ?_)
    refine bodyPost_ret (v := (errA q2).v none 0) ?_ rfl ?_
    · exact results_cell Tryz.results70 rfl (blk_setAll BX.out rfl) Tryz.underlying52 rfl infoAns
    rw [HE.out]
    exact doEnd_store (HM.out.below HB1.out) (.of_below HB1.out) (fun i hi => .inl hi) (Nat.le_succ _) BX.out rfl
end Go.Proofs.YtkgflepgkhnclaaGreatDoor
namespace Go.Proofs.YtkgflepgkhnclaaGreatDoor
open Go.RowKit Go.Shelf
set_option linter.unusedVariables false
set_option linter.unusedSimpArgs false
attribute [local go_sem] run_store_complex

/-- The world in which an answer's box is filled. -/
structure AnsW (w : World) (p : Nat) (M : Mdl) (T : Ows) (M' : Mdl) (T' : Ows) (g : Nat) (arr : Array Value) (v : Value) (n : Nat) (xs : List Value) (W : World) : Prop where
  ge : w.heap.size ≤ g
  mdl : ModelAt W p M' T'
  box : Blk W g 52 arr
  keep : KeepC (mown p M T) w W
  own : ∀ i, mown p M' T' i → mown p M T i ∨ w.heap.size ≤ i
  row : W.ownsRow w.heap.size 57 2 v n xs
section
variable {w W : World} {p g n : Nat} {M M' : Mdl} {T T' : Ows} {arr : Array Value} {v : Value} {xs : List Value}
theorem row_apart (h : W.ownsRow w.heap.size 57 2 v n xs) (hb : Blk W g 52 arr) : v.ownBlock = none ∨ v.ownBlock ≠ some g := by
  rcases h.2 with ⟨rfl, _⟩ | ⟨g', cap, cs, rfl, _, h1, _⟩
  · exact .inl rfl
  · refine .inr (fun e => ?_)
    have e' : g' = g := by simpa [Value.ownBlock] using e
    subst e'
    unfold Blk at hb
    rw [h1] at hb
    injection hb with hb
    injection hb with _ hb _
    exact absurd hb (by decide)
theorem grown_sets (b o : Nat) (vs : List Value) (w : World) : w.grownBy (w.setCells b o vs) (some b) := by
  obtain ⟨h1, h2, h3, h4, h5⟩ := sets_same b vs o w
  exact ⟨h1, h2, h3, by omega, fun i _ hi => h5 i (fun e => hi (by rw [e]))⟩
theorem AnsW.set (h : AnsW w p M T M' T' g arr v n xs W) (i : Nat) (u : Value) : AnsW w p M T M' T' g (arr.setIfInBounds i u) v n xs (W.setCell ⟨g, i, none⟩ u) :=
  ⟨h.ge, h.mdl.keep (C := fun j => j = g) ((KeepC.refl (fun j => j = g) W).setCell h.box (by decide) (fun _ => rfl) _ _) (fun j hj e => by subst e; exact h.mdl.other hj h.box (by decide) (by decide) (by decide)),
    h.box.set_ i u, h.keep.setCell h.box (by decide) (fun hg => by have := h.ge; omega) _ _, h.own, h.row.kept (grownBy_setCell' W g u |> fun k => ⟨k.os, k.tape, k.output, by simp, fun j hj hn => Below.heap_setCell W _ u j (fun e => hn (by rw [e]))⟩) (row_apart h.row h.box)⟩
theorem AnsW.below {W' : World} (h : AnsW w p M T M' T' g arr v n xs W) (hb : Below W.heap.size W W') : AnsW w p M T M' T' g arr v n xs W' :=
  ⟨h.ge, h.mdl.below hb, h.box.below hb h.box.lt, h.keep.below hb, h.own, ownsRow_below h.row hb (Nat.le_refl _)⟩
theorem AnsW.rows {v' : Value} {n' : Nat} {xs' : List Value} (h : AnsW w p M T M' T' g arr v n xs W) (hr : W.ownsRow w.heap.size 57 2 v' n' xs') : AnsW w p M T M' T' g arr v' n' xs' W :=
  ⟨h.ge, h.mdl, h.box, h.keep, h.own, hr⟩
theorem AnsW.op {W' : World} {M2 : Mdl} {T2 : Ows} (h : AnsW w p M T M T g arr (.slice none 0 0) 0 [] W) (m : ModelAt W' p M2 T2) (ho : ∀ i, mown p M2 T2 i → mown p M T i ∨ W.drew.heap.size ≤ i) (k : KeepC (mown p M T) W.drew W') : AnsW w p M T M2 T2 g arr (.slice none 0 0) 0 [] W' :=
  ⟨h.ge, m, (h.keep.drew.trans k (fun _ _ h => h) |> fun _ => k.blk h.box.drew (fun hc => h.mdl.other hc h.box (by decide) (by decide) (by decide))), h.keep.drew.trans k (fun _ _ h => h), fun i hi => (ho i hi).imp id (fun e => Nat.le_trans h.keep.size e), own_nil _ _⟩
theorem AnsW.done {a : Ans} {A : Option Addr} {c : Nat} (h : AnsW w p M T M' T' g (a.cells A c).toArray (.slice A a.prs.length c) a.prs.length (a.prs.flatMap pairR) W) : DoEnd p M T (M', a) w (.returned (a.v A c)) (W.setCells g 0 (a.cells A c)) := by
  have hq : KeepC (fun i => i = g) W (W.setCells g 0 (a.cells A c)) := (KeepC.refl (fun i => i = g) W).sets h.box (by decide) (fun _ => rfl) _ _
  refine ⟨A, c, T', rfl, h.mdl.keep hq (fun i hi e => ?_), h.row.kept (grown_sets g 0 _ W) (row_apart h.row h.box), h.own, h.keep.sets h.box (by decide) (fun hg => by have := h.ge; omega) _ _⟩
  subst e
  exact h.mdl.other hi h.box (by decide) (by decide) (by decide)
end
/-- An answer with a value, an error and pairs. -/
abbrev ansC (e : Int) (x : ByteArray) (A : Option Addr) (n c : Nat) : Array Value := #[.int .i64 e, .string x, .slice A n c, .int .i64 0, .int .u32 0, .int .u8 0, .int .u64 0, .int .u64 0, .int .u64 0, .int .u64 0, .int .u64 0, .int .u64 0, .int .u64 0, .int .u64 0, .int .u64 0, .int .u64 0, .complex .f64 0 0]
theorem ansC_one (e : Int) (x : ByteArray) (A : Option Addr) (n c : Nat) : (ansC e x A n c).all (·.oneCell') = true := by simp [ansC, Value.oneCell']
theorem range_blk {w : World} {g : Nat} {t : TypeId} {cs : Array Value} (h : Blk w g t cs) : w.rangeAt g 0 cs.toList := fun j v hj => by rw [Nat.zero_add, h.cell]; simpa using hj
/-- An operation on a model. -/
def operateN (M : Mdl) (r : Req) : Mdl × Ans :=
  if formedN r = false then (M, errA 2) else if mayM M r = 0 then (match (M r.ten.toNat).bk with
    | none => (M, errA 0)
    | some B => if r.deed = 1 then (M, { errA (thereN B.l r.key []).2 with val := (thereN B.l r.key []).1 })
      else if r.deed = 2 then (updM M r.ten.toNat { M r.ten.toNat with bk := some (putB B r.key r.val).2 }, errA (putB B r.key r.val).1)
      else if r.deed = 3 then (updM M r.ten.toNat { M r.ten.toNat with bk := some (delB B r.key).2 }, errA (delB B r.key).1)
      else if r.deed = 4 then (updM M r.ten.toNat { M r.ten.toNat with bk := some (swapB B r.key r.old r.val).2 }, errA (swapB B r.key r.old r.val).1)
      else (M, { errA (scanN B.l r.key r.lim).2 with prs := (scanN B.l r.key r.lim).1 })) else (M, errA (mayM M r))
set_option maxHeartbeats 6400000 in
set_option maxRecDepth 100000 in
theorem operate1_m {w : World} {p : Nat} {M : Mdl} {T : Ows} (hm : ModelAt w p M T) (r : Req) (hr : r.ok) (hd : r.deed = 1) (hsm : Small M) : Calls Tryz.prog 69 #[.pointer (some ⟨p, 0, none⟩), r.v] w (DoEnd p M T (operateN M r) w) := by
  obtain ⟨deed, ten, gen, rig, key, val, old, lim, tenant, qk, qb, rights⟩ := r
  dsimp only at hd
  subst hd
  have hb0 : Below w.heap.size w (w.alloc (.cells (Req.row ⟨1, ten, gen, rig, key, val, old, lim, tenant, qk, qb, rights⟩).toArray 39)) := below_box _ _
  have hq0 := Blk.new w 39 (Req.row ⟨1, ten, gen, rig, key, val, old, lim, tenant, qk, qb, rights⟩).toArray
  have hb1 := below_alloc hb0 (.cells zeroA 52)
  have hbq := hq0.alloc (.cells zeroA 52)
  have hbx : Blk ((w.alloc (.cells (Req.row ⟨1, ten, gen, rig, key, val, old, lim, tenant, qk, qb, rights⟩).toArray 39)).alloc (.cells zeroA 52)) (w.heap.size + 1) 52 zeroA := blk_at (by simp)
  have HF := Lib.hid (formed_r ⟨1, ten, gen, rig, key, val, old, lim, tenant, qk, qb, rights⟩ ((w.alloc (.cells (Req.row ⟨1, ten, gen, rig, key, val, old, lim, tenant, qk, qb, rights⟩).toArray 39)).alloc (.cells zeroA 52)))
  have HM := Lib.hid hm
  have HB := Lib.hid (And.intro hb1 (And.intro hbx hbq))
  unfold Req.row at HF HB
  dsimp only [Req.v] at HF ⊢
  clear hb0 hb1 hbx hm hq0 hbq
  by_cases hf : formedN ⟨1, ten, gen, rig, key, val, old, lim, tenant, qk, qb, rights⟩ = false
  · have HE : Hid (operateN M ⟨1, ten, gen, rig, key, val, old, lim, tenant, qk, qb, rights⟩ = (M, errA 2)) := Lib.hid (by unfold operateN; rw [if_pos hf])
    rw [hf] at HF
    clear hf
    go_enter Tryz.func69, Tryz.ntmps69
    go_wp2_with fail
    refine HF.out.mono ?_
    rintro e w1 ⟨rfl, hb⟩
    have BX := Lib.hid (HB.out.2.1.below hb HB.out.2.1.lt)
    have HB1 := Lib.hid (HB.out.1.trans (hb.mono HB.out.1.size))
    clear hb
    go_wp2_with (refine wpList_store_mid rfl 52 (.tmp 4) (.tmp 9) rfl (w.heap.size + 1) 0 (errC 2) rfl rfl (there_blk BX.out (Nat.le_refl 17)) infoAns (errC_one _) ?_)
    refine bodyPost_ret (v := (errA 2).v none 0) ?_ rfl ?_
    · exact results_cell Tryz.results69 rfl (blk_setAll BX.out rfl) Tryz.underlying52 rfl infoAns
    rw [HE.out]
    exact doEnd_store (HM.out.below HB1.out) (.of_below HB1.out) (fun i hi => .inl hi) (Nat.le_succ _) BX.out rfl
  · rw [Bool.not_eq_false] at hf
    rw [hf] at HF
    have HFE := Lib.hid hf
    clear hf
    by_cases h0 : mayM M ⟨1, ten, gen, rig, key, val, old, lim, tenant, qk, qb, rights⟩ = 0
    · obtain ⟨n, B, hn, hn1, hn2, hbk⟩ := may_good h0
      dsimp only at hn
      subst hn
      have hn17 : n < 17 := by omega
      have HE : Hid (operateN M ⟨1, (n : Int), gen, rig, key, val, old, lim, tenant, qk, qb, rights⟩ = (M, { errA (thereN B.l key []).2 with val := (thereN B.l key []).1 })) := Lib.hid (by unfold operateN; rw [if_neg (by rw [HFE.out]; decide), if_pos h0]; dsimp only; rw [Int.toNat_natCast, hbk]; rfl)
      have HBK := Lib.hid hbk
      have hlB := hsm n B hbk
      have HY := Lib.hid (fun (W : World) (h : ModelAt W p M T) => may_m h ⟨1, (n : Int), gen, rig, key, val, old, lim, tenant, qk, qb, rights⟩)
      rw [h0] at HY
      dsimp only [Req.v] at HY
      have HR := Lib.hid hr
      clear h0 hbk hsm hr
      have hq1 : (0 : Int) ≤ (n : Int) := by omega
      have hq2 : (n : Int) < 17 := by omega
      go_enter Tryz.func69, Tryz.ntmps69
      go_wp2_with fail
      refine HF.out.mono ?_
      rintro e w1 ⟨rfl, hb⟩
      have BX1 := Lib.hid (HB.out.2.1.below hb HB.out.2.1.lt)
      have BQ1 := Lib.hid (HB.out.2.2.below hb HB.out.2.2.lt)
      have HB1 := Lib.hid (HB.out.1.trans (hb.mono HB.out.1.size))
      clear hb
      obtain ⟨c0, c1, c2, c3, c4, c5, c6, c7, c8, c9, c10, c11⟩ := req_cells (r := ⟨1, (n : Int), gen, rig, key, val, old, lim, tenant, qk, qb, rights⟩) BQ1.out
      go_wp2_with fail
      refine (HY.out w1 (HM.out.below HB1.out)).mono ?_
      rintro e w2 ⟨rfl, hb⟩
      have BX2 := Lib.hid (Blk.below BX1.out hb BX1.out.lt)
      have BQ2 := Lib.hid (Blk.below BQ1.out hb BQ1.out.lt)
      have HB2 := Lib.hid (below_trans HB1.out hb)
      clear hb c0 c1 c2 c3 c4 c5 c6 c7 c8 c9 c10 c11
      have m2 := HM.out.below HB2.out
      have A0 : AnsW w p M T M T (w.heap.size + 1) zeroA (.slice none 0 0) 0 [] w2 := ⟨Nat.le_succ _, m2, BX2.out, .of_below HB2.out, fun i hi => .inl hi, own_nil _ _⟩
      have A1 := A0.set 0 (.int .i64 0)
      have e0 : w2.cell? ⟨w.heap.size + 1, 0, none⟩ = some (.int .i64 0) := BX2.out.cell 0
      have f0 := BX2.out.frozen 0
      have hne : w.heap.size + 1 ≠ w.heap.size := by omega
      obtain ⟨w3, hw3⟩ : ∃ w3, w2.setCell ⟨w.heap.size + 1, 0, none⟩ (.int .i64 0) = w3 := ⟨_, rfl⟩
      rw [hw3] at A1
      have BQ3 : Blk w3 w.heap.size 39 (Req.row ⟨1, (n : Int), gen, rig, key, val, old, lim, tenant, qk, qb, rights⟩).toArray := by rw [← hw3]; exact BQ2.out.far (p := ⟨w.heap.size + 1, 0, none⟩) (by simp) _
      obtain ⟨c0, c1, c2, c3, c4, c5, c6, c7, c8, c9, c10, c11⟩ := req_cells BQ3
      have x3 := A1.mdl.ptr hn17
      unfold Ten.ptr at x3
      rw [HBK.out] at x3
      simp only [Option.map_some] at x3
      have g0 := A1.box.cell 0
      simp at g0
      have HA1 := Lib.hid A1
      have HBQ3 := Lib.hid BQ3
      have HW3 := Lib.hid hw3
      clear A0 A1 m2 BQ3 hw3
      go_wp2_with fail
      rw [HW3.out]
      go_region
      go_wp2_with fail
      have hb3 := (HA1.out.mdl.bk n B hn17 HBK.out).below ((Below.refl _ _).drew : Below w3.heap.size w3 w3.drew)
      have HG := Lib.hid (get_b hb3 key)
      generalize thereN B.l key [] = q at HG HE
      obtain ⟨q1, q2⟩ := q
      refine HG.out.mono ?_
      rintro e w4 ⟨rfl, hb4⟩
      have A2 := HA1.out.below ((Below.refl _ _).drew.trans hb4)
      have A3 := (A2.set 1 (.string q1)).set 0 (.int .i64 q2)
      have y1 := A2.box.cell 1
      have z1 := A2.box.frozen 1
      simp at y1
      have y0 := A2.box.cell 0
      have z0 := A2.box.frozen 0
      simp at y0
      have hA3 := A3.box
      simp only [zeroA, List.setIfInBounds_toArray, List.set_cons_zero, List.set_cons_succ] at A3 hA3
      have HA3 := Lib.hid A3
      have hr3 := range_blk hA3
      have ht3 := there_blk hA3 (Nat.le_refl 17)
      clear A2 A3 c0 c1 c2 c3 c4 c5 c6 c7 c8 c9 c10 c11 x3 g0 e0 f0
      go_wp2_with (first
        | (refine wpList_load_mid rfl 52 (.tmp 4) rfl (w.heap.size + 1) 0 rfl _ _ hr3 Tryz.underlying52 rfl infoAns ?_)
        | (refine wpList_store_mid rfl 52 (.tmp 4) (.tmp 80) rfl (w.heap.size + 1) 0 (ansC q2 q1 none 0 0) rfl rfl ht3 infoAns (ansC_one _ _ _ _ _) ?_))
      refine bodyPost_ret (v := ({ errA q2 with val := q1 } : Ans).v none 0) ?_ rfl ?_
      · exact results_cell Tryz.results69 rfl (blk_setAll hA3 rfl) Tryz.underlying52 rfl infoAns
      rw [HE.out]
      exact AnsW.done HA3.out
    · have HE : Hid (operateN M ⟨1, ten, gen, rig, key, val, old, lim, tenant, qk, qb, rights⟩ = (M, errA (mayM M ⟨1, ten, gen, rig, key, val, old, lim, tenant, qk, qb, rights⟩))) := Lib.hid (by unfold operateN; rw [if_neg (by rw [HFE.out]; decide), if_neg h0])
      have HY := Lib.hid (fun (W : World) (h : ModelAt W p M T) => may_m h ⟨1, ten, gen, rig, key, val, old, lim, tenant, qk, qb, rights⟩)
      generalize mayM M ⟨1, ten, gen, rig, key, val, old, lim, tenant, qk, qb, rights⟩ = q2 at HY h0 HE
      dsimp only [Req.v] at HY
      go_enter Tryz.func69, Tryz.ntmps69
      go_wp2_with fail
      refine HF.out.mono ?_
      rintro e w1 ⟨rfl, hb⟩
      have BX1 := Lib.hid (HB.out.2.1.below hb HB.out.2.1.lt)
      have BQ1 := Lib.hid (HB.out.2.2.below hb HB.out.2.2.lt)
      have HB1 := Lib.hid (HB.out.1.trans (hb.mono HB.out.1.size))
      clear hb
      obtain ⟨c0, c1, c2, c3, c4, c5, c6, c7, c8, c9, c10, c11⟩ := req_cells (r := ⟨1, ten, gen, rig, key, val, old, lim, tenant, qk, qb, rights⟩) BQ1.out
      go_wp2_with fail
      refine (HY.out w1 (HM.out.below HB1.out)).mono ?_
      rintro e w2 ⟨rfl, hb⟩
      have BX2 := Lib.hid (Blk.below BX1.out hb BX1.out.lt)
      have HB2 := Lib.hid (below_trans HB1.out hb)
      clear hb c0 c1 c2 c3 c4 c5 c6 c7 c8 c9 c10 c11
      have m2 := HM.out.below HB2.out
      have A0 : AnsW w p M T M T (w.heap.size + 1) zeroA (.slice none 0 0) 0 [] w2 := ⟨Nat.le_succ _, m2, BX2.out, .of_below HB2.out, fun i hi => .inl hi, own_nil _ _⟩
      have A1 := A0.set 0 (.int .i64 q2)
      have e0 : w2.cell? ⟨w.heap.size + 1, 0, none⟩ = some (.int .i64 0) := BX2.out.cell 0
      have f0 := BX2.out.frozen 0
      have hA3 := A1.box
      simp only [zeroA, List.setIfInBounds_toArray, List.set_cons_zero, List.set_cons_succ] at A1 hA3
      have HA3 := Lib.hid A1
      have hr3 := range_blk hA3
      have ht3 := there_blk hA3 (Nat.le_refl 17)
      clear A0 A1 m2
      go_wp2_with (first
        | (refine wpList_load_mid rfl 52 (.tmp 4) rfl (w.heap.size + 1) 0 rfl _ _ hr3 Tryz.underlying52 rfl infoAns ?_)
        | (refine wpList_store_mid rfl 52 (.tmp 4) (.tmp 17) rfl (w.heap.size + 1) 0 (ansC q2 ⟨#[]⟩ none 0 0) rfl rfl ht3 infoAns (ansC_one _ _ _ _ _) ?_))
      refine bodyPost_ret (v := (errA q2).v none 0) ?_ rfl ?_
      · exact results_cell Tryz.results69 rfl (blk_setAll hA3 rfl) Tryz.underlying52 rfl infoAns
      rw [HE.out]
      exact AnsW.done HA3.out
end Go.Proofs.YtkgflepgkhnclaaGreatDoor
namespace Go.Proofs.YtkgflepgkhnclaaGreatDoor
open Go.RowKit Go.Shelf
set_option linter.unusedVariables false
set_option linter.unusedSimpArgs false
attribute [local go_sem] run_store_complex
set_option maxHeartbeats 6400000 in
set_option maxRecDepth 100000 in
theorem operate2_m {w : World} {p : Nat} {M : Mdl} {T : Ows} (hm : ModelAt w p M T) (r : Req) (hr : r.ok) (hd : r.deed = 2) (hsm : Small M) : Calls Tryz.prog 69 #[.pointer (some ⟨p, 0, none⟩), r.v] w (DoEnd p M T (operateN M r) w) := by
  obtain ⟨deed, ten, gen, rig, key, val, old, lim, tenant, qk, qb, rights⟩ := r
  dsimp only at hd
  subst hd
  have hb0 : Below w.heap.size w (w.alloc (.cells (Req.row ⟨2, ten, gen, rig, key, val, old, lim, tenant, qk, qb, rights⟩).toArray 39)) := below_box _ _
  have hq0 := Blk.new w 39 (Req.row ⟨2, ten, gen, rig, key, val, old, lim, tenant, qk, qb, rights⟩).toArray
  have hb1 := below_alloc hb0 (.cells zeroA 52)
  have hbq := hq0.alloc (.cells zeroA 52)
  have hbx : Blk ((w.alloc (.cells (Req.row ⟨2, ten, gen, rig, key, val, old, lim, tenant, qk, qb, rights⟩).toArray 39)).alloc (.cells zeroA 52)) (w.heap.size + 1) 52 zeroA := blk_at (by simp)
  have HF := Lib.hid (formed_r ⟨2, ten, gen, rig, key, val, old, lim, tenant, qk, qb, rights⟩ ((w.alloc (.cells (Req.row ⟨2, ten, gen, rig, key, val, old, lim, tenant, qk, qb, rights⟩).toArray 39)).alloc (.cells zeroA 52)))
  have HM := Lib.hid hm
  have HB := Lib.hid (And.intro hb1 (And.intro hbx hbq))
  unfold Req.row at HF HB
  dsimp only [Req.v] at HF ⊢
  clear hb0 hb1 hbx hm hq0 hbq
  by_cases hf : formedN ⟨2, ten, gen, rig, key, val, old, lim, tenant, qk, qb, rights⟩ = false
  · have HE : Hid (operateN M ⟨2, ten, gen, rig, key, val, old, lim, tenant, qk, qb, rights⟩ = (M, errA 2)) := Lib.hid (by unfold operateN; rw [if_pos hf])
    rw [hf] at HF
    clear hf
    go_enter Tryz.func69, Tryz.ntmps69
    go_wp2_with fail
    refine HF.out.mono ?_
    rintro e w1 ⟨rfl, hb⟩
    have BX := Lib.hid (HB.out.2.1.below hb HB.out.2.1.lt)
    have HB1 := Lib.hid (HB.out.1.trans (hb.mono HB.out.1.size))
    clear hb
    go_wp2_with (refine wpList_store_mid rfl 52 (.tmp 4) (.tmp 9) rfl (w.heap.size + 1) 0 (errC 2) rfl rfl (there_blk BX.out (Nat.le_refl 17)) infoAns (errC_one _) ?_)
    refine bodyPost_ret (v := (errA 2).v none 0) ?_ rfl ?_
    · exact results_cell Tryz.results69 rfl (blk_setAll BX.out rfl) Tryz.underlying52 rfl infoAns
    rw [HE.out]
    exact doEnd_store (HM.out.below HB1.out) (.of_below HB1.out) (fun i hi => .inl hi) (Nat.le_succ _) BX.out rfl
  · rw [Bool.not_eq_false] at hf
    rw [hf] at HF
    have HFE := Lib.hid hf
    clear hf
    by_cases h0 : mayM M ⟨2, ten, gen, rig, key, val, old, lim, tenant, qk, qb, rights⟩ = 0
    · obtain ⟨n, B, hn, hn1, hn2, hbk⟩ := may_good h0
      dsimp only at hn
      subst hn
      have hn17 : n < 17 := by omega
      have HE : Hid (operateN M ⟨2, (n : Int), gen, rig, key, val, old, lim, tenant, qk, qb, rights⟩ = (updM M n { M n with bk := some (putB B key val).2 }, errA (putB B key val).1)) := Lib.hid (by unfold operateN; rw [if_neg (by rw [HFE.out]; decide), if_pos h0]; dsimp only; rw [Int.toNat_natCast, hbk]; rfl)
      have HBK := Lib.hid hbk
      have hlB := hsm n B hbk
      have HY := Lib.hid (fun (W : World) (h : ModelAt W p M T) => may_m h ⟨2, (n : Int), gen, rig, key, val, old, lim, tenant, qk, qb, rights⟩)
      rw [h0] at HY
      dsimp only [Req.v] at HY
      have HR := Lib.hid hr
      clear h0 hbk hsm hr
      have hq1 : (0 : Int) ≤ (n : Int) := by omega
      have hq2 : (n : Int) < 17 := by omega
      go_enter Tryz.func69, Tryz.ntmps69
      go_wp2_with fail
      refine HF.out.mono ?_
      rintro e w1 ⟨rfl, hb⟩
      have BX1 := Lib.hid (HB.out.2.1.below hb HB.out.2.1.lt)
      have BQ1 := Lib.hid (HB.out.2.2.below hb HB.out.2.2.lt)
      have HB1 := Lib.hid (HB.out.1.trans (hb.mono HB.out.1.size))
      clear hb
      obtain ⟨c0, c1, c2, c3, c4, c5, c6, c7, c8, c9, c10, c11⟩ := req_cells (r := ⟨2, (n : Int), gen, rig, key, val, old, lim, tenant, qk, qb, rights⟩) BQ1.out
      go_wp2_with fail
      refine (HY.out w1 (HM.out.below HB1.out)).mono ?_
      rintro e w2 ⟨rfl, hb⟩
      have BX2 := Lib.hid (Blk.below BX1.out hb BX1.out.lt)
      have BQ2 := Lib.hid (Blk.below BQ1.out hb BQ1.out.lt)
      have HB2 := Lib.hid (below_trans HB1.out hb)
      clear hb c0 c1 c2 c3 c4 c5 c6 c7 c8 c9 c10 c11
      have m2 := HM.out.below HB2.out
      have A0 : AnsW w p M T M T (w.heap.size + 1) zeroA (.slice none 0 0) 0 [] w2 := ⟨Nat.le_succ _, m2, BX2.out, .of_below HB2.out, fun i hi => .inl hi, own_nil _ _⟩
      have A1 := A0.set 0 (.int .i64 0)
      have e0 : w2.cell? ⟨w.heap.size + 1, 0, none⟩ = some (.int .i64 0) := BX2.out.cell 0
      have f0 := BX2.out.frozen 0
      have hne : w.heap.size + 1 ≠ w.heap.size := by omega
      obtain ⟨w3, hw3⟩ : ∃ w3, w2.setCell ⟨w.heap.size + 1, 0, none⟩ (.int .i64 0) = w3 := ⟨_, rfl⟩
      rw [hw3] at A1
      have BQ3 : Blk w3 w.heap.size 39 (Req.row ⟨2, (n : Int), gen, rig, key, val, old, lim, tenant, qk, qb, rights⟩).toArray := by rw [← hw3]; exact BQ2.out.far (p := ⟨w.heap.size + 1, 0, none⟩) (by simp) _
      obtain ⟨c0, c1, c2, c3, c4, c5, c6, c7, c8, c9, c10, c11⟩ := req_cells BQ3
      have x3 := A1.mdl.ptr hn17
      unfold Ten.ptr at x3
      rw [HBK.out] at x3
      simp only [Option.map_some] at x3
      have g0 := A1.box.cell 0
      simp at g0
      have HA1 := Lib.hid A1
      have HBQ3 := Lib.hid BQ3
      have HW3 := Lib.hid hw3
      clear A0 A1 m2 BQ3 hw3
      go_wp2_with fail
      rw [HW3.out]
      go_region
      go_wp2_with fail
      have hb3 := (HA1.out.mdl.bk n B hn17 HBK.out).below ((Below.refl _ _).drew : Below w3.heap.size w3 w3.drew)
      have HG := Lib.hid (put_b hb3 key val hlB)
      unfold PutEnd at HG
      generalize putB B key val = q at HG HE
      obtain ⟨q2, B2⟩ := q
      refine HG.out.mono ?_
      rintro e w4 ⟨rfl, ok, hb4, hok4, hk4⟩
      obtain ⟨m4, ho4, k4⟩ := (HA1.out.mdl.below ((Below.refl _ _).drew : Below w3.heap.size w3 w3.drew)).book hn17 HBK.out hb4 hok4 hk4
      have A2 := HA1.out.op m4 ho4 k4
      have A3 := A2.set 0 (.int .i64 q2)
      have y0 := A2.box.cell 0
      have z0 := A2.box.frozen 0
      simp at y0
      have hA3 := A3.box
      simp only [zeroA, List.setIfInBounds_toArray, List.set_cons_zero, List.set_cons_succ] at A3 hA3
      have HA3 := Lib.hid A3
      have hr3 := range_blk hA3
      have ht3 := there_blk hA3 (Nat.le_refl 17)
      clear A2 A3 c0 c1 c2 c3 c4 c5 c6 c7 c8 c9 c10 c11 x3 g0 e0 f0
      go_wp2_with (first
        | (refine wpList_load_mid rfl 52 (.tmp 4) rfl (w.heap.size + 1) 0 rfl _ _ hr3 Tryz.underlying52 rfl infoAns ?_)
        | (refine wpList_store_mid rfl 52 (.tmp 4) (.tmp 80) rfl (w.heap.size + 1) 0 (ansC q2 ⟨#[]⟩ none 0 0) rfl rfl ht3 infoAns (ansC_one _ _ _ _ _) ?_))
      refine bodyPost_ret (v := (errA q2 : Ans).v none 0) ?_ rfl ?_
      · exact results_cell Tryz.results69 rfl (blk_setAll hA3 rfl) Tryz.underlying52 rfl infoAns
      rw [HE.out]
      exact AnsW.done HA3.out
    · have HE : Hid (operateN M ⟨2, ten, gen, rig, key, val, old, lim, tenant, qk, qb, rights⟩ = (M, errA (mayM M ⟨2, ten, gen, rig, key, val, old, lim, tenant, qk, qb, rights⟩))) := Lib.hid (by unfold operateN; rw [if_neg (by rw [HFE.out]; decide), if_neg h0])
      have HY := Lib.hid (fun (W : World) (h : ModelAt W p M T) => may_m h ⟨2, ten, gen, rig, key, val, old, lim, tenant, qk, qb, rights⟩)
      generalize mayM M ⟨2, ten, gen, rig, key, val, old, lim, tenant, qk, qb, rights⟩ = q2 at HY h0 HE
      dsimp only [Req.v] at HY
      go_enter Tryz.func69, Tryz.ntmps69
      go_wp2_with fail
      refine HF.out.mono ?_
      rintro e w1 ⟨rfl, hb⟩
      have BX1 := Lib.hid (HB.out.2.1.below hb HB.out.2.1.lt)
      have BQ1 := Lib.hid (HB.out.2.2.below hb HB.out.2.2.lt)
      have HB1 := Lib.hid (HB.out.1.trans (hb.mono HB.out.1.size))
      clear hb
      obtain ⟨c0, c1, c2, c3, c4, c5, c6, c7, c8, c9, c10, c11⟩ := req_cells (r := ⟨2, ten, gen, rig, key, val, old, lim, tenant, qk, qb, rights⟩) BQ1.out
      go_wp2_with fail
      refine (HY.out w1 (HM.out.below HB1.out)).mono ?_
      rintro e w2 ⟨rfl, hb⟩
      have BX2 := Lib.hid (Blk.below BX1.out hb BX1.out.lt)
      have HB2 := Lib.hid (below_trans HB1.out hb)
      clear hb c0 c1 c2 c3 c4 c5 c6 c7 c8 c9 c10 c11
      have m2 := HM.out.below HB2.out
      have A0 : AnsW w p M T M T (w.heap.size + 1) zeroA (.slice none 0 0) 0 [] w2 := ⟨Nat.le_succ _, m2, BX2.out, .of_below HB2.out, fun i hi => .inl hi, own_nil _ _⟩
      have A1 := A0.set 0 (.int .i64 q2)
      have e0 : w2.cell? ⟨w.heap.size + 1, 0, none⟩ = some (.int .i64 0) := BX2.out.cell 0
      have f0 := BX2.out.frozen 0
      have hA3 := A1.box
      simp only [zeroA, List.setIfInBounds_toArray, List.set_cons_zero, List.set_cons_succ] at A1 hA3
      have HA3 := Lib.hid A1
      have hr3 := range_blk hA3
      have ht3 := there_blk hA3 (Nat.le_refl 17)
      clear A0 A1 m2
      go_wp2_with (first
        | (refine wpList_load_mid rfl 52 (.tmp 4) rfl (w.heap.size + 1) 0 rfl _ _ hr3 Tryz.underlying52 rfl infoAns ?_)
        | (refine wpList_store_mid rfl 52 (.tmp 4) (.tmp 17) rfl (w.heap.size + 1) 0 (ansC q2 ⟨#[]⟩ none 0 0) rfl rfl ht3 infoAns (ansC_one _ _ _ _ _) ?_))
      refine bodyPost_ret (v := (errA q2).v none 0) ?_ rfl ?_
      · exact results_cell Tryz.results69 rfl (blk_setAll hA3 rfl) Tryz.underlying52 rfl infoAns
      rw [HE.out]
      exact AnsW.done HA3.out
end Go.Proofs.YtkgflepgkhnclaaGreatDoor
namespace Go.Proofs.YtkgflepgkhnclaaGreatDoor
open Go.RowKit Go.Shelf
set_option linter.unusedVariables false
set_option linter.unusedSimpArgs false
attribute [local go_sem] run_store_complex
set_option maxHeartbeats 6400000 in
set_option maxRecDepth 100000 in
theorem operate3_m {w : World} {p : Nat} {M : Mdl} {T : Ows} (hm : ModelAt w p M T) (r : Req) (hr : r.ok) (hd : r.deed = 3) (hsm : Small M) : Calls Tryz.prog 69 #[.pointer (some ⟨p, 0, none⟩), r.v] w (DoEnd p M T (operateN M r) w) := by
  obtain ⟨deed, ten, gen, rig, key, val, old, lim, tenant, qk, qb, rights⟩ := r
  dsimp only at hd
  subst hd
  have hb0 : Below w.heap.size w (w.alloc (.cells (Req.row ⟨3, ten, gen, rig, key, val, old, lim, tenant, qk, qb, rights⟩).toArray 39)) := below_box _ _
  have hq0 := Blk.new w 39 (Req.row ⟨3, ten, gen, rig, key, val, old, lim, tenant, qk, qb, rights⟩).toArray
  have hb1 := below_alloc hb0 (.cells zeroA 52)
  have hbq := hq0.alloc (.cells zeroA 52)
  have hbx : Blk ((w.alloc (.cells (Req.row ⟨3, ten, gen, rig, key, val, old, lim, tenant, qk, qb, rights⟩).toArray 39)).alloc (.cells zeroA 52)) (w.heap.size + 1) 52 zeroA := blk_at (by simp)
  have HF := Lib.hid (formed_r ⟨3, ten, gen, rig, key, val, old, lim, tenant, qk, qb, rights⟩ ((w.alloc (.cells (Req.row ⟨3, ten, gen, rig, key, val, old, lim, tenant, qk, qb, rights⟩).toArray 39)).alloc (.cells zeroA 52)))
  have HM := Lib.hid hm
  have HB := Lib.hid (And.intro hb1 (And.intro hbx hbq))
  unfold Req.row at HF HB
  dsimp only [Req.v] at HF ⊢
  clear hb0 hb1 hbx hm hq0 hbq
  by_cases hf : formedN ⟨3, ten, gen, rig, key, val, old, lim, tenant, qk, qb, rights⟩ = false
  · have HE : Hid (operateN M ⟨3, ten, gen, rig, key, val, old, lim, tenant, qk, qb, rights⟩ = (M, errA 2)) := Lib.hid (by unfold operateN; rw [if_pos hf])
    rw [hf] at HF
    clear hf
    go_enter Tryz.func69, Tryz.ntmps69
    go_wp2_with fail
    refine HF.out.mono ?_
    rintro e w1 ⟨rfl, hb⟩
    have BX := Lib.hid (HB.out.2.1.below hb HB.out.2.1.lt)
    have HB1 := Lib.hid (HB.out.1.trans (hb.mono HB.out.1.size))
    clear hb
    go_wp2_with (refine wpList_store_mid rfl 52 (.tmp 4) (.tmp 9) rfl (w.heap.size + 1) 0 (errC 2) rfl rfl (there_blk BX.out (Nat.le_refl 17)) infoAns (errC_one _) ?_)
    refine bodyPost_ret (v := (errA 2).v none 0) ?_ rfl ?_
    · exact results_cell Tryz.results69 rfl (blk_setAll BX.out rfl) Tryz.underlying52 rfl infoAns
    rw [HE.out]
    exact doEnd_store (HM.out.below HB1.out) (.of_below HB1.out) (fun i hi => .inl hi) (Nat.le_succ _) BX.out rfl
  · rw [Bool.not_eq_false] at hf
    rw [hf] at HF
    have HFE := Lib.hid hf
    clear hf
    by_cases h0 : mayM M ⟨3, ten, gen, rig, key, val, old, lim, tenant, qk, qb, rights⟩ = 0
    · obtain ⟨n, B, hn, hn1, hn2, hbk⟩ := may_good h0
      dsimp only at hn
      subst hn
      have hn17 : n < 17 := by omega
      have HE : Hid (operateN M ⟨3, (n : Int), gen, rig, key, val, old, lim, tenant, qk, qb, rights⟩ = (updM M n { M n with bk := some (delB B key).2 }, errA (delB B key).1)) := Lib.hid (by unfold operateN; rw [if_neg (by rw [HFE.out]; decide), if_pos h0]; dsimp only; rw [Int.toNat_natCast, hbk]; rfl)
      have HBK := Lib.hid hbk
      have hlB := hsm n B hbk
      have HY := Lib.hid (fun (W : World) (h : ModelAt W p M T) => may_m h ⟨3, (n : Int), gen, rig, key, val, old, lim, tenant, qk, qb, rights⟩)
      rw [h0] at HY
      dsimp only [Req.v] at HY
      have HR := Lib.hid hr
      clear h0 hbk hsm hr
      have hq1 : (0 : Int) ≤ (n : Int) := by omega
      have hq2 : (n : Int) < 17 := by omega
      go_enter Tryz.func69, Tryz.ntmps69
      go_wp2_with fail
      refine HF.out.mono ?_
      rintro e w1 ⟨rfl, hb⟩
      have BX1 := Lib.hid (HB.out.2.1.below hb HB.out.2.1.lt)
      have BQ1 := Lib.hid (HB.out.2.2.below hb HB.out.2.2.lt)
      have HB1 := Lib.hid (HB.out.1.trans (hb.mono HB.out.1.size))
      clear hb
      obtain ⟨c0, c1, c2, c3, c4, c5, c6, c7, c8, c9, c10, c11⟩ := req_cells (r := ⟨3, (n : Int), gen, rig, key, val, old, lim, tenant, qk, qb, rights⟩) BQ1.out
      go_wp2_with fail
      refine (HY.out w1 (HM.out.below HB1.out)).mono ?_
      rintro e w2 ⟨rfl, hb⟩
      have BX2 := Lib.hid (Blk.below BX1.out hb BX1.out.lt)
      have BQ2 := Lib.hid (Blk.below BQ1.out hb BQ1.out.lt)
      have HB2 := Lib.hid (below_trans HB1.out hb)
      clear hb c0 c1 c2 c3 c4 c5 c6 c7 c8 c9 c10 c11
      have m2 := HM.out.below HB2.out
      have A0 : AnsW w p M T M T (w.heap.size + 1) zeroA (.slice none 0 0) 0 [] w2 := ⟨Nat.le_succ _, m2, BX2.out, .of_below HB2.out, fun i hi => .inl hi, own_nil _ _⟩
      have A1 := A0.set 0 (.int .i64 0)
      have e0 : w2.cell? ⟨w.heap.size + 1, 0, none⟩ = some (.int .i64 0) := BX2.out.cell 0
      have f0 := BX2.out.frozen 0
      have hne : w.heap.size + 1 ≠ w.heap.size := by omega
      obtain ⟨w3, hw3⟩ : ∃ w3, w2.setCell ⟨w.heap.size + 1, 0, none⟩ (.int .i64 0) = w3 := ⟨_, rfl⟩
      rw [hw3] at A1
      have BQ3 : Blk w3 w.heap.size 39 (Req.row ⟨3, (n : Int), gen, rig, key, val, old, lim, tenant, qk, qb, rights⟩).toArray := by rw [← hw3]; exact BQ2.out.far (p := ⟨w.heap.size + 1, 0, none⟩) (by simp) _
      obtain ⟨c0, c1, c2, c3, c4, c5, c6, c7, c8, c9, c10, c11⟩ := req_cells BQ3
      have x3 := A1.mdl.ptr hn17
      unfold Ten.ptr at x3
      rw [HBK.out] at x3
      simp only [Option.map_some] at x3
      have g0 := A1.box.cell 0
      simp at g0
      have HA1 := Lib.hid A1
      have HBQ3 := Lib.hid BQ3
      have HW3 := Lib.hid hw3
      clear A0 A1 m2 BQ3 hw3
      go_wp2_with fail
      rw [HW3.out]
      go_region
      go_wp2_with fail
      have hb3 := (HA1.out.mdl.bk n B hn17 HBK.out).below ((Below.refl _ _).drew : Below w3.heap.size w3 w3.drew)
      have HG := Lib.hid (del_b hb3 key hlB)
      generalize delB B key = q at HG HE
      obtain ⟨q2, B2⟩ := q
      refine HG.out.mono ?_
      rintro e w4 ⟨rfl, ok, hb4, hok4, hk4⟩
      obtain ⟨m4, ho4, k4⟩ := (HA1.out.mdl.below ((Below.refl _ _).drew : Below w3.heap.size w3 w3.drew)).book hn17 HBK.out hb4 hok4 hk4
      have A2 := HA1.out.op m4 ho4 k4
      have A3 := A2.set 0 (.int .i64 q2)
      have y0 := A2.box.cell 0
      have z0 := A2.box.frozen 0
      simp at y0
      have hA3 := A3.box
      simp only [zeroA, List.setIfInBounds_toArray, List.set_cons_zero, List.set_cons_succ] at A3 hA3
      have HA3 := Lib.hid A3
      have hr3 := range_blk hA3
      have ht3 := there_blk hA3 (Nat.le_refl 17)
      clear A2 A3 c0 c1 c2 c3 c4 c5 c6 c7 c8 c9 c10 c11 x3 g0 e0 f0
      go_wp2_with (first
        | (refine wpList_load_mid rfl 52 (.tmp 4) rfl (w.heap.size + 1) 0 rfl _ _ hr3 Tryz.underlying52 rfl infoAns ?_)
        | (refine wpList_store_mid rfl 52 (.tmp 4) (.tmp 80) rfl (w.heap.size + 1) 0 (ansC q2 ⟨#[]⟩ none 0 0) rfl rfl ht3 infoAns (ansC_one _ _ _ _ _) ?_))
      refine bodyPost_ret (v := (errA q2 : Ans).v none 0) ?_ rfl ?_
      · exact results_cell Tryz.results69 rfl (blk_setAll hA3 rfl) Tryz.underlying52 rfl infoAns
      rw [HE.out]
      exact AnsW.done HA3.out
    · have HE : Hid (operateN M ⟨3, ten, gen, rig, key, val, old, lim, tenant, qk, qb, rights⟩ = (M, errA (mayM M ⟨3, ten, gen, rig, key, val, old, lim, tenant, qk, qb, rights⟩))) := Lib.hid (by unfold operateN; rw [if_neg (by rw [HFE.out]; decide), if_neg h0])
      have HY := Lib.hid (fun (W : World) (h : ModelAt W p M T) => may_m h ⟨3, ten, gen, rig, key, val, old, lim, tenant, qk, qb, rights⟩)
      generalize mayM M ⟨3, ten, gen, rig, key, val, old, lim, tenant, qk, qb, rights⟩ = q2 at HY h0 HE
      dsimp only [Req.v] at HY
      go_enter Tryz.func69, Tryz.ntmps69
      go_wp2_with fail
      refine HF.out.mono ?_
      rintro e w1 ⟨rfl, hb⟩
      have BX1 := Lib.hid (HB.out.2.1.below hb HB.out.2.1.lt)
      have BQ1 := Lib.hid (HB.out.2.2.below hb HB.out.2.2.lt)
      have HB1 := Lib.hid (HB.out.1.trans (hb.mono HB.out.1.size))
      clear hb
      obtain ⟨c0, c1, c2, c3, c4, c5, c6, c7, c8, c9, c10, c11⟩ := req_cells (r := ⟨3, ten, gen, rig, key, val, old, lim, tenant, qk, qb, rights⟩) BQ1.out
      go_wp2_with fail
      refine (HY.out w1 (HM.out.below HB1.out)).mono ?_
      rintro e w2 ⟨rfl, hb⟩
      have BX2 := Lib.hid (Blk.below BX1.out hb BX1.out.lt)
      have HB2 := Lib.hid (below_trans HB1.out hb)
      clear hb c0 c1 c2 c3 c4 c5 c6 c7 c8 c9 c10 c11
      have m2 := HM.out.below HB2.out
      have A0 : AnsW w p M T M T (w.heap.size + 1) zeroA (.slice none 0 0) 0 [] w2 := ⟨Nat.le_succ _, m2, BX2.out, .of_below HB2.out, fun i hi => .inl hi, own_nil _ _⟩
      have A1 := A0.set 0 (.int .i64 q2)
      have e0 : w2.cell? ⟨w.heap.size + 1, 0, none⟩ = some (.int .i64 0) := BX2.out.cell 0
      have f0 := BX2.out.frozen 0
      have hA3 := A1.box
      simp only [zeroA, List.setIfInBounds_toArray, List.set_cons_zero, List.set_cons_succ] at A1 hA3
      have HA3 := Lib.hid A1
      have hr3 := range_blk hA3
      have ht3 := there_blk hA3 (Nat.le_refl 17)
      clear A0 A1 m2
      go_wp2_with (first
        | (refine wpList_load_mid rfl 52 (.tmp 4) rfl (w.heap.size + 1) 0 rfl _ _ hr3 Tryz.underlying52 rfl infoAns ?_)
        | (refine wpList_store_mid rfl 52 (.tmp 4) (.tmp 17) rfl (w.heap.size + 1) 0 (ansC q2 ⟨#[]⟩ none 0 0) rfl rfl ht3 infoAns (ansC_one _ _ _ _ _) ?_))
      refine bodyPost_ret (v := (errA q2).v none 0) ?_ rfl ?_
      · exact results_cell Tryz.results69 rfl (blk_setAll hA3 rfl) Tryz.underlying52 rfl infoAns
      rw [HE.out]
      exact AnsW.done HA3.out
end Go.Proofs.YtkgflepgkhnclaaGreatDoor
namespace Go.Proofs.YtkgflepgkhnclaaGreatDoor
open Go.RowKit Go.Shelf
set_option linter.unusedVariables false
set_option linter.unusedSimpArgs false
attribute [local go_sem] run_store_complex
set_option maxHeartbeats 6400000 in
set_option maxRecDepth 100000 in
theorem operate4_m {w : World} {p : Nat} {M : Mdl} {T : Ows} (hm : ModelAt w p M T) (r : Req) (hr : r.ok) (hd : r.deed = 4) (hsm : Small M) : Calls Tryz.prog 69 #[.pointer (some ⟨p, 0, none⟩), r.v] w (DoEnd p M T (operateN M r) w) := by
  obtain ⟨deed, ten, gen, rig, key, val, old, lim, tenant, qk, qb, rights⟩ := r
  dsimp only at hd
  subst hd
  have hb0 : Below w.heap.size w (w.alloc (.cells (Req.row ⟨4, ten, gen, rig, key, val, old, lim, tenant, qk, qb, rights⟩).toArray 39)) := below_box _ _
  have hq0 := Blk.new w 39 (Req.row ⟨4, ten, gen, rig, key, val, old, lim, tenant, qk, qb, rights⟩).toArray
  have hb1 := below_alloc hb0 (.cells zeroA 52)
  have hbq := hq0.alloc (.cells zeroA 52)
  have hbx : Blk ((w.alloc (.cells (Req.row ⟨4, ten, gen, rig, key, val, old, lim, tenant, qk, qb, rights⟩).toArray 39)).alloc (.cells zeroA 52)) (w.heap.size + 1) 52 zeroA := blk_at (by simp)
  have HF := Lib.hid (formed_r ⟨4, ten, gen, rig, key, val, old, lim, tenant, qk, qb, rights⟩ ((w.alloc (.cells (Req.row ⟨4, ten, gen, rig, key, val, old, lim, tenant, qk, qb, rights⟩).toArray 39)).alloc (.cells zeroA 52)))
  have HM := Lib.hid hm
  have HB := Lib.hid (And.intro hb1 (And.intro hbx hbq))
  unfold Req.row at HF HB
  dsimp only [Req.v] at HF ⊢
  clear hb0 hb1 hbx hm hq0 hbq
  by_cases hf : formedN ⟨4, ten, gen, rig, key, val, old, lim, tenant, qk, qb, rights⟩ = false
  · have HE : Hid (operateN M ⟨4, ten, gen, rig, key, val, old, lim, tenant, qk, qb, rights⟩ = (M, errA 2)) := Lib.hid (by unfold operateN; rw [if_pos hf])
    rw [hf] at HF
    clear hf
    go_enter Tryz.func69, Tryz.ntmps69
    go_wp2_with fail
    refine HF.out.mono ?_
    rintro e w1 ⟨rfl, hb⟩
    have BX := Lib.hid (HB.out.2.1.below hb HB.out.2.1.lt)
    have HB1 := Lib.hid (HB.out.1.trans (hb.mono HB.out.1.size))
    clear hb
    go_wp2_with (refine wpList_store_mid rfl 52 (.tmp 4) (.tmp 9) rfl (w.heap.size + 1) 0 (errC 2) rfl rfl (there_blk BX.out (Nat.le_refl 17)) infoAns (errC_one _) ?_)
    refine bodyPost_ret (v := (errA 2).v none 0) ?_ rfl ?_
    · exact results_cell Tryz.results69 rfl (blk_setAll BX.out rfl) Tryz.underlying52 rfl infoAns
    rw [HE.out]
    exact doEnd_store (HM.out.below HB1.out) (.of_below HB1.out) (fun i hi => .inl hi) (Nat.le_succ _) BX.out rfl
  · rw [Bool.not_eq_false] at hf
    rw [hf] at HF
    have HFE := Lib.hid hf
    clear hf
    by_cases h0 : mayM M ⟨4, ten, gen, rig, key, val, old, lim, tenant, qk, qb, rights⟩ = 0
    · obtain ⟨n, B, hn, hn1, hn2, hbk⟩ := may_good h0
      dsimp only at hn
      subst hn
      have hn17 : n < 17 := by omega
      have HE : Hid (operateN M ⟨4, (n : Int), gen, rig, key, val, old, lim, tenant, qk, qb, rights⟩ = (updM M n { M n with bk := some (swapB B key old val).2 }, errA (swapB B key old val).1)) := Lib.hid (by unfold operateN; rw [if_neg (by rw [HFE.out]; decide), if_pos h0]; dsimp only; rw [Int.toNat_natCast, hbk]; rfl)
      have HBK := Lib.hid hbk
      have hlB := hsm n B hbk
      have HY := Lib.hid (fun (W : World) (h : ModelAt W p M T) => may_m h ⟨4, (n : Int), gen, rig, key, val, old, lim, tenant, qk, qb, rights⟩)
      rw [h0] at HY
      dsimp only [Req.v] at HY
      have HR := Lib.hid hr
      clear h0 hbk hsm hr
      have hq1 : (0 : Int) ≤ (n : Int) := by omega
      have hq2 : (n : Int) < 17 := by omega
      go_enter Tryz.func69, Tryz.ntmps69
      go_wp2_with fail
      refine HF.out.mono ?_
      rintro e w1 ⟨rfl, hb⟩
      have BX1 := Lib.hid (HB.out.2.1.below hb HB.out.2.1.lt)
      have BQ1 := Lib.hid (HB.out.2.2.below hb HB.out.2.2.lt)
      have HB1 := Lib.hid (HB.out.1.trans (hb.mono HB.out.1.size))
      clear hb
      obtain ⟨c0, c1, c2, c3, c4, c5, c6, c7, c8, c9, c10, c11⟩ := req_cells (r := ⟨4, (n : Int), gen, rig, key, val, old, lim, tenant, qk, qb, rights⟩) BQ1.out
      go_wp2_with fail
      refine (HY.out w1 (HM.out.below HB1.out)).mono ?_
      rintro e w2 ⟨rfl, hb⟩
      have BX2 := Lib.hid (Blk.below BX1.out hb BX1.out.lt)
      have BQ2 := Lib.hid (Blk.below BQ1.out hb BQ1.out.lt)
      have HB2 := Lib.hid (below_trans HB1.out hb)
      clear hb c0 c1 c2 c3 c4 c5 c6 c7 c8 c9 c10 c11
      have m2 := HM.out.below HB2.out
      have A0 : AnsW w p M T M T (w.heap.size + 1) zeroA (.slice none 0 0) 0 [] w2 := ⟨Nat.le_succ _, m2, BX2.out, .of_below HB2.out, fun i hi => .inl hi, own_nil _ _⟩
      have A1 := A0.set 0 (.int .i64 0)
      have e0 : w2.cell? ⟨w.heap.size + 1, 0, none⟩ = some (.int .i64 0) := BX2.out.cell 0
      have f0 := BX2.out.frozen 0
      have hne : w.heap.size + 1 ≠ w.heap.size := by omega
      obtain ⟨w3, hw3⟩ : ∃ w3, w2.setCell ⟨w.heap.size + 1, 0, none⟩ (.int .i64 0) = w3 := ⟨_, rfl⟩
      rw [hw3] at A1
      have BQ3 : Blk w3 w.heap.size 39 (Req.row ⟨4, (n : Int), gen, rig, key, val, old, lim, tenant, qk, qb, rights⟩).toArray := by rw [← hw3]; exact BQ2.out.far (p := ⟨w.heap.size + 1, 0, none⟩) (by simp) _
      obtain ⟨c0, c1, c2, c3, c4, c5, c6, c7, c8, c9, c10, c11⟩ := req_cells BQ3
      have x3 := A1.mdl.ptr hn17
      unfold Ten.ptr at x3
      rw [HBK.out] at x3
      simp only [Option.map_some] at x3
      have g0 := A1.box.cell 0
      simp at g0
      have HA1 := Lib.hid A1
      have HBQ3 := Lib.hid BQ3
      have HW3 := Lib.hid hw3
      clear A0 A1 m2 BQ3 hw3
      go_wp2_with fail
      rw [HW3.out]
      go_region
      go_wp2_with fail
      have hb3 := (HA1.out.mdl.bk n B hn17 HBK.out).below ((Below.refl _ _).drew : Below w3.heap.size w3 w3.drew)
      have HG := Lib.hid (swap_b hb3 key old val hlB)
      generalize swapB B key old val = q at HG HE
      obtain ⟨q2, B2⟩ := q
      refine HG.out.mono ?_
      rintro e w4 ⟨rfl, ok, hb4, hok4, hk4⟩
      obtain ⟨m4, ho4, k4⟩ := (HA1.out.mdl.below ((Below.refl _ _).drew : Below w3.heap.size w3 w3.drew)).book hn17 HBK.out hb4 hok4 hk4
      have A2 := HA1.out.op m4 ho4 k4
      have A3 := A2.set 0 (.int .i64 q2)
      have y0 := A2.box.cell 0
      have z0 := A2.box.frozen 0
      simp at y0
      have hA3 := A3.box
      simp only [zeroA, List.setIfInBounds_toArray, List.set_cons_zero, List.set_cons_succ] at A3 hA3
      have HA3 := Lib.hid A3
      have hr3 := range_blk hA3
      have ht3 := there_blk hA3 (Nat.le_refl 17)
      clear A2 A3 c0 c1 c2 c3 c4 c5 c6 c7 c8 c9 c10 c11 x3 g0 e0 f0
      go_wp2_with (first
        | (refine wpList_load_mid rfl 52 (.tmp 4) rfl (w.heap.size + 1) 0 rfl _ _ hr3 Tryz.underlying52 rfl infoAns ?_)
        | (refine wpList_store_mid rfl 52 (.tmp 4) (.tmp 80) rfl (w.heap.size + 1) 0 (ansC q2 ⟨#[]⟩ none 0 0) rfl rfl ht3 infoAns (ansC_one _ _ _ _ _) ?_))
      refine bodyPost_ret (v := (errA q2 : Ans).v none 0) ?_ rfl ?_
      · exact results_cell Tryz.results69 rfl (blk_setAll hA3 rfl) Tryz.underlying52 rfl infoAns
      rw [HE.out]
      exact AnsW.done HA3.out
    · have HE : Hid (operateN M ⟨4, ten, gen, rig, key, val, old, lim, tenant, qk, qb, rights⟩ = (M, errA (mayM M ⟨4, ten, gen, rig, key, val, old, lim, tenant, qk, qb, rights⟩))) := Lib.hid (by unfold operateN; rw [if_neg (by rw [HFE.out]; decide), if_neg h0])
      have HY := Lib.hid (fun (W : World) (h : ModelAt W p M T) => may_m h ⟨4, ten, gen, rig, key, val, old, lim, tenant, qk, qb, rights⟩)
      generalize mayM M ⟨4, ten, gen, rig, key, val, old, lim, tenant, qk, qb, rights⟩ = q2 at HY h0 HE
      dsimp only [Req.v] at HY
      go_enter Tryz.func69, Tryz.ntmps69
      go_wp2_with fail
      refine HF.out.mono ?_
      rintro e w1 ⟨rfl, hb⟩
      have BX1 := Lib.hid (HB.out.2.1.below hb HB.out.2.1.lt)
      have BQ1 := Lib.hid (HB.out.2.2.below hb HB.out.2.2.lt)
      have HB1 := Lib.hid (HB.out.1.trans (hb.mono HB.out.1.size))
      clear hb
      obtain ⟨c0, c1, c2, c3, c4, c5, c6, c7, c8, c9, c10, c11⟩ := req_cells (r := ⟨4, ten, gen, rig, key, val, old, lim, tenant, qk, qb, rights⟩) BQ1.out
      go_wp2_with fail
      refine (HY.out w1 (HM.out.below HB1.out)).mono ?_
      rintro e w2 ⟨rfl, hb⟩
      have BX2 := Lib.hid (Blk.below BX1.out hb BX1.out.lt)
      have HB2 := Lib.hid (below_trans HB1.out hb)
      clear hb c0 c1 c2 c3 c4 c5 c6 c7 c8 c9 c10 c11
      have m2 := HM.out.below HB2.out
      have A0 : AnsW w p M T M T (w.heap.size + 1) zeroA (.slice none 0 0) 0 [] w2 := ⟨Nat.le_succ _, m2, BX2.out, .of_below HB2.out, fun i hi => .inl hi, own_nil _ _⟩
      have A1 := A0.set 0 (.int .i64 q2)
      have e0 : w2.cell? ⟨w.heap.size + 1, 0, none⟩ = some (.int .i64 0) := BX2.out.cell 0
      have f0 := BX2.out.frozen 0
      have hA3 := A1.box
      simp only [zeroA, List.setIfInBounds_toArray, List.set_cons_zero, List.set_cons_succ] at A1 hA3
      have HA3 := Lib.hid A1
      have hr3 := range_blk hA3
      have ht3 := there_blk hA3 (Nat.le_refl 17)
      clear A0 A1 m2
      go_wp2_with (first
        | (refine wpList_load_mid rfl 52 (.tmp 4) rfl (w.heap.size + 1) 0 rfl _ _ hr3 Tryz.underlying52 rfl infoAns ?_)
        | (refine wpList_store_mid rfl 52 (.tmp 4) (.tmp 17) rfl (w.heap.size + 1) 0 (ansC q2 ⟨#[]⟩ none 0 0) rfl rfl ht3 infoAns (ansC_one _ _ _ _ _) ?_))
      refine bodyPost_ret (v := (errA q2).v none 0) ?_ rfl ?_
      · exact results_cell Tryz.results69 rfl (blk_setAll hA3 rfl) Tryz.underlying52 rfl infoAns
      rw [HE.out]
      exact AnsW.done HA3.out
end Go.Proofs.YtkgflepgkhnclaaGreatDoor
namespace Go.Proofs.YtkgflepgkhnclaaGreatDoor
open Go.RowKit Go.Shelf
set_option linter.unusedVariables false
set_option linter.unusedSimpArgs false
attribute [local go_sem] run_store_complex
set_option maxHeartbeats 6400000 in
set_option maxRecDepth 100000 in
theorem operate5_m {w : World} {p : Nat} {M : Mdl} {T : Ows} (hm : ModelAt w p M T) (r : Req) (hr : r.ok) (hd : r.deed = 5) (hsm : Small M) : Calls Tryz.prog 69 #[.pointer (some ⟨p, 0, none⟩), r.v] w (DoEnd p M T (operateN M r) w) := by
  obtain ⟨deed, ten, gen, rig, key, val, old, lim, tenant, qk, qb, rights⟩ := r
  dsimp only at hd
  subst hd
  have hb0 : Below w.heap.size w (w.alloc (.cells (Req.row ⟨5, ten, gen, rig, key, val, old, lim, tenant, qk, qb, rights⟩).toArray 39)) := below_box _ _
  have hq0 := Blk.new w 39 (Req.row ⟨5, ten, gen, rig, key, val, old, lim, tenant, qk, qb, rights⟩).toArray
  have hb1 := below_alloc hb0 (.cells zeroA 52)
  have hbq := hq0.alloc (.cells zeroA 52)
  have hbx : Blk ((w.alloc (.cells (Req.row ⟨5, ten, gen, rig, key, val, old, lim, tenant, qk, qb, rights⟩).toArray 39)).alloc (.cells zeroA 52)) (w.heap.size + 1) 52 zeroA := blk_at (by simp)
  have HF := Lib.hid (formed_r ⟨5, ten, gen, rig, key, val, old, lim, tenant, qk, qb, rights⟩ ((w.alloc (.cells (Req.row ⟨5, ten, gen, rig, key, val, old, lim, tenant, qk, qb, rights⟩).toArray 39)).alloc (.cells zeroA 52)))
  have HM := Lib.hid hm
  have HB := Lib.hid (And.intro hb1 (And.intro hbx hbq))
  unfold Req.row at HF HB
  dsimp only [Req.v] at HF ⊢
  clear hb0 hb1 hbx hm hq0 hbq
  by_cases hf : formedN ⟨5, ten, gen, rig, key, val, old, lim, tenant, qk, qb, rights⟩ = false
  · have HE : Hid (operateN M ⟨5, ten, gen, rig, key, val, old, lim, tenant, qk, qb, rights⟩ = (M, errA 2)) := Lib.hid (by unfold operateN; rw [if_pos hf])
    rw [hf] at HF
    clear hf
    go_enter Tryz.func69, Tryz.ntmps69
    go_wp2_with fail
    refine HF.out.mono ?_
    rintro e w1 ⟨rfl, hb⟩
    have BX := Lib.hid (HB.out.2.1.below hb HB.out.2.1.lt)
    have HB1 := Lib.hid (HB.out.1.trans (hb.mono HB.out.1.size))
    clear hb
    go_wp2_with (refine wpList_store_mid rfl 52 (.tmp 4) (.tmp 9) rfl (w.heap.size + 1) 0 (errC 2) rfl rfl (there_blk BX.out (Nat.le_refl 17)) infoAns (errC_one _) ?_)
    refine bodyPost_ret (v := (errA 2).v none 0) ?_ rfl ?_
    · exact results_cell Tryz.results69 rfl (blk_setAll BX.out rfl) Tryz.underlying52 rfl infoAns
    rw [HE.out]
    exact doEnd_store (HM.out.below HB1.out) (.of_below HB1.out) (fun i hi => .inl hi) (Nat.le_succ _) BX.out rfl
  · rw [Bool.not_eq_false] at hf
    rw [hf] at HF
    have HFE := Lib.hid hf
    clear hf
    by_cases h0 : mayM M ⟨5, ten, gen, rig, key, val, old, lim, tenant, qk, qb, rights⟩ = 0
    · obtain ⟨n, B, hn, hn1, hn2, hbk⟩ := may_good h0
      dsimp only at hn
      subst hn
      have hn17 : n < 17 := by omega
      have HE : Hid (operateN M ⟨5, (n : Int), gen, rig, key, val, old, lim, tenant, qk, qb, rights⟩ = (M, { errA (scanN B.l key lim).2 with prs := (scanN B.l key lim).1 })) := Lib.hid (by unfold operateN; rw [if_neg (by rw [HFE.out]; decide), if_pos h0]; dsimp only; rw [Int.toNat_natCast, hbk]; rfl)
      have HBK := Lib.hid hbk
      have hlB := hsm n B hbk
      have HY := Lib.hid (fun (W : World) (h : ModelAt W p M T) => may_m h ⟨5, (n : Int), gen, rig, key, val, old, lim, tenant, qk, qb, rights⟩)
      rw [h0] at HY
      dsimp only [Req.v] at HY
      have HR := Lib.hid hr
      clear h0 hbk hsm hr
      have hq1 : (0 : Int) ≤ (n : Int) := by omega
      have hq2 : (n : Int) < 17 := by omega
      go_enter Tryz.func69, Tryz.ntmps69
      go_wp2_with fail
      refine HF.out.mono ?_
      rintro e w1 ⟨rfl, hb⟩
      have BX1 := Lib.hid (HB.out.2.1.below hb HB.out.2.1.lt)
      have BQ1 := Lib.hid (HB.out.2.2.below hb HB.out.2.2.lt)
      have HB1 := Lib.hid (HB.out.1.trans (hb.mono HB.out.1.size))
      clear hb
      obtain ⟨c0, c1, c2, c3, c4, c5, c6, c7, c8, c9, c10, c11⟩ := req_cells (r := ⟨5, (n : Int), gen, rig, key, val, old, lim, tenant, qk, qb, rights⟩) BQ1.out
      go_wp2_with fail
      refine (HY.out w1 (HM.out.below HB1.out)).mono ?_
      rintro e w2 ⟨rfl, hb⟩
      have BX2 := Lib.hid (Blk.below BX1.out hb BX1.out.lt)
      have BQ2 := Lib.hid (Blk.below BQ1.out hb BQ1.out.lt)
      have HB2 := Lib.hid (below_trans HB1.out hb)
      clear hb c0 c1 c2 c3 c4 c5 c6 c7 c8 c9 c10 c11
      have m2 := HM.out.below HB2.out
      have A0 : AnsW w p M T M T (w.heap.size + 1) zeroA (.slice none 0 0) 0 [] w2 := ⟨Nat.le_succ _, m2, BX2.out, .of_below HB2.out, fun i hi => .inl hi, own_nil _ _⟩
      have A1 := A0.set 0 (.int .i64 0)
      have e0 : w2.cell? ⟨w.heap.size + 1, 0, none⟩ = some (.int .i64 0) := BX2.out.cell 0
      have f0 := BX2.out.frozen 0
      have hne : w.heap.size + 1 ≠ w.heap.size := by omega
      obtain ⟨w3, hw3⟩ : ∃ w3, w2.setCell ⟨w.heap.size + 1, 0, none⟩ (.int .i64 0) = w3 := ⟨_, rfl⟩
      rw [hw3] at A1
      have BQ3 : Blk w3 w.heap.size 39 (Req.row ⟨5, (n : Int), gen, rig, key, val, old, lim, tenant, qk, qb, rights⟩).toArray := by rw [← hw3]; exact BQ2.out.far (p := ⟨w.heap.size + 1, 0, none⟩) (by simp) _
      obtain ⟨c0, c1, c2, c3, c4, c5, c6, c7, c8, c9, c10, c11⟩ := req_cells BQ3
      have x3 := A1.mdl.ptr hn17
      unfold Ten.ptr at x3
      rw [HBK.out] at x3
      simp only [Option.map_some] at x3
      have g0 := A1.box.cell 0
      simp at g0
      have HA1 := Lib.hid A1
      have HBQ3 := Lib.hid BQ3
      have HW3 := Lib.hid hw3
      clear A0 A1 m2 BQ3 hw3
      go_wp2_with fail
      rw [HW3.out]
      go_region
      go_wp2_with fail
      have hb3 := (HA1.out.mdl.bk n B hn17 HBK.out).below ((Below.refl _ _).drew : Below w3.heap.size w3 w3.drew)
      have HG := Lib.hid (scan_b hb3 key lim hlB HR.out.lim)
      generalize scanN B.l key lim = q at HG HE
      obtain ⟨q1, q2⟩ := q
      refine HG.out.mono ?_
      rintro e w4 ⟨A4, c4, rfl, hrow4, hb4⟩
      have A2 := (HA1.out.below ((Below.refl _ _).drew.trans hb4)).rows (own_base hrow4 HA1.out.keep.size)
      have A3 := (A2.set 2 (.slice A4 q1.length c4)).set 0 (.int .i64 q2)
      have y2 := A2.box.cell 2
      have z2 := A2.box.frozen 2
      simp at y2
      have y0 := A2.box.cell 0
      have z0 := A2.box.frozen 0
      simp at y0
      have hA3 := A3.box
      simp only [zeroA, List.setIfInBounds_toArray, List.set_cons_zero, List.set_cons_succ] at A3 hA3
      have HA3 := Lib.hid A3
      have hr3 := range_blk hA3
      have ht3 := there_blk hA3 (Nat.le_refl 17)
      clear A2 A3 c0 c1 c2 c3 c5 c6 c7 c8 c9 c10 c11 x3 g0 e0 f0
      go_wp2_with (first
        | (refine wpList_load_mid rfl 52 (.tmp 4) rfl (w.heap.size + 1) 0 rfl _ _ hr3 Tryz.underlying52 rfl infoAns ?_)
        | (refine wpList_store_mid rfl 52 (.tmp 4) (.tmp 80) rfl (w.heap.size + 1) 0 (ansC q2 ⟨#[]⟩ A4 q1.length c4) rfl rfl ht3 infoAns (ansC_one _ _ _ _ _) ?_))
      refine bodyPost_ret (v := ({ errA q2 with prs := q1 } : Ans).v A4 c4) ?_ rfl ?_
      · exact results_cell Tryz.results69 rfl (blk_setAll hA3 rfl) Tryz.underlying52 rfl infoAns
      rw [HE.out]
      exact AnsW.done HA3.out
    · have HE : Hid (operateN M ⟨5, ten, gen, rig, key, val, old, lim, tenant, qk, qb, rights⟩ = (M, errA (mayM M ⟨5, ten, gen, rig, key, val, old, lim, tenant, qk, qb, rights⟩))) := Lib.hid (by unfold operateN; rw [if_neg (by rw [HFE.out]; decide), if_neg h0])
      have HY := Lib.hid (fun (W : World) (h : ModelAt W p M T) => may_m h ⟨5, ten, gen, rig, key, val, old, lim, tenant, qk, qb, rights⟩)
      generalize mayM M ⟨5, ten, gen, rig, key, val, old, lim, tenant, qk, qb, rights⟩ = q2 at HY h0 HE
      dsimp only [Req.v] at HY
      go_enter Tryz.func69, Tryz.ntmps69
      go_wp2_with fail
      refine HF.out.mono ?_
      rintro e w1 ⟨rfl, hb⟩
      have BX1 := Lib.hid (HB.out.2.1.below hb HB.out.2.1.lt)
      have BQ1 := Lib.hid (HB.out.2.2.below hb HB.out.2.2.lt)
      have HB1 := Lib.hid (HB.out.1.trans (hb.mono HB.out.1.size))
      clear hb
      obtain ⟨c0, c1, c2, c3, c4, c5, c6, c7, c8, c9, c10, c11⟩ := req_cells (r := ⟨5, ten, gen, rig, key, val, old, lim, tenant, qk, qb, rights⟩) BQ1.out
      go_wp2_with fail
      refine (HY.out w1 (HM.out.below HB1.out)).mono ?_
      rintro e w2 ⟨rfl, hb⟩
      have BX2 := Lib.hid (Blk.below BX1.out hb BX1.out.lt)
      have HB2 := Lib.hid (below_trans HB1.out hb)
      clear hb c0 c1 c2 c3 c4 c5 c6 c7 c8 c9 c10 c11
      have m2 := HM.out.below HB2.out
      have A0 : AnsW w p M T M T (w.heap.size + 1) zeroA (.slice none 0 0) 0 [] w2 := ⟨Nat.le_succ _, m2, BX2.out, .of_below HB2.out, fun i hi => .inl hi, own_nil _ _⟩
      have A1 := A0.set 0 (.int .i64 q2)
      have e0 : w2.cell? ⟨w.heap.size + 1, 0, none⟩ = some (.int .i64 0) := BX2.out.cell 0
      have f0 := BX2.out.frozen 0
      have hA3 := A1.box
      simp only [zeroA, List.setIfInBounds_toArray, List.set_cons_zero, List.set_cons_succ] at A1 hA3
      have HA3 := Lib.hid A1
      have hr3 := range_blk hA3
      have ht3 := there_blk hA3 (Nat.le_refl 17)
      clear A0 A1 m2
      go_wp2_with (first
        | (refine wpList_load_mid rfl 52 (.tmp 4) rfl (w.heap.size + 1) 0 rfl _ _ hr3 Tryz.underlying52 rfl infoAns ?_)
        | (refine wpList_store_mid rfl 52 (.tmp 4) (.tmp 17) rfl (w.heap.size + 1) 0 (ansC q2 ⟨#[]⟩ none 0 0) rfl rfl ht3 infoAns (ansC_one _ _ _ _ _) ?_))
      refine bodyPost_ret (v := (errA q2).v none 0) ?_ rfl ?_
      · exact results_cell Tryz.results69 rfl (blk_setAll hA3 rfl) Tryz.underlying52 rfl infoAns
      rw [HE.out]
      exact AnsW.done HA3.out
end Go.Proofs.YtkgflepgkhnclaaGreatDoor
