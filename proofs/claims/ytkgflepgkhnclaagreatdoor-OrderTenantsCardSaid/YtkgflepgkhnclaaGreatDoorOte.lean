/-
  Layer 27: order: deeds, Do.
  Layer 27: order: Do, New.
  Layer 27: order: the range of Pairs.
  Layer 27: order: Pairs.
  Layer 27: slices.Equal on pairs; slices.Contains, slices.ContainsFunc on handles.
  Layer 27: slices.ContainsFunc on handles with a model's Good.
  Walks: burgagelaw27.Made.
  Walks: burgagelaw27.Made, handles and keys.
-/
import Derived.Test.YtkgflepgkhnclaaGreatDoorOtd
import Derived.Shelf.Abstract
import Derived.Laws.StructEq
import Derived.Deep.QuietTactic
import Derived.Laws.BitsAllLaws
namespace Go.Proofs.YtkgflepgkhnclaaGreatDoor
open Go.RowKit Go.Shelf
set_option linter.unusedVariables false
set_option linter.unusedSimpArgs false
attribute [local go_sem] run_store_complex

section
variable {P : Program}
theorem run_neq_func (w : World) (t : TypeId) (ps rs : Array TypeId) (vd : Bool) (f : Fn) (x y : Array Value) (h : P.underlying t = some (.func ps rs vd)) : (binOp .neq t (.func f x y) .nilFunc).run P w = .ok (.bool true) w := by
  have h1 : ∀ d, (Op.equalIn (d + 1) t (.func f x y) .nilFunc).run P w = .ok false w := fun d => by simp [Op.equalIn, run_underlying h]
  simp only [binOp]
  simp [Op.equal, Op.maxDepth, h1 9999]
theorem run_neq_func_nil (w : World) (t : TypeId) (ps rs : Array TypeId) (vd : Bool) (h : P.underlying t = some (.func ps rs vd)) : (binOp .neq t .nilFunc .nilFunc).run P w = .ok (.bool false) w := by
  have h1 : ∀ d, (Op.equalIn (d + 1) t .nilFunc .nilFunc).run P w = .ok true w := fun d => by simp [Op.equalIn, run_underlying h]
  simp only [binOp]
  simp [Op.equal, Op.maxDepth, h1 9999]
end
def deedsMap : List (Int × Value) := [(1, .func (.func 69) #[] #[]), (2, .func (.func 69) #[] #[]), (3, .func (.func 69) #[] #[]), (4, .func (.func 69) #[] #[]), (5, .func (.func 69) #[] #[]), (6, .func (.func 70) #[] #[]), (7, .func (.func 71) #[] #[]), (8, .func (.func 72) #[] #[]), (9, .func (.func 73) #[] #[]), (10, .func (.func 74) #[] #[])]
set_option maxHeartbeats 1600000 in
set_option maxRecDepth 100000 in
theorem deeds_m (w : World) : Calls Tryz.prog 33 #[] w fun e w' => ∃ b, e = .returned (.map (some b)) ∧ IntMap .i64 w' b deedsMap ∧ Below w.heap.size w w' := by
  have hmm := @run_makeMap Tryz.prog
  have m0 := IntMap.made .i64 w
  have b0 : Below w.heap.size w (w.alloc (.map #[] 0)) := (Below.refl _ _).alloc (Nat.le_refl _) _
  go_enter Tryz.func33, Tryz.ntmps33
  go_wp2_with (refine wpList_insert_lit w w.heap.size rfl _ _ _ _ rfl 33 102 .i64 .i64 Tryz.underlying103 Tryz.underlying33 rfl _ _ rfl (by assumption) (by assumption) (Nat.le_refl _) _ rfl (by rfl) _ rfl ?_; intro wa ma ba)
  go_ret
  exact ⟨_, rfl, ma, ba⟩
/-- What Do comes to. -/
def doN (M : Mdl) (r : Req) : Mdl × Ans :=
  if 1 ≤ r.deed ∧ r.deed ≤ 5 then operateN M r else if r.deed = 6 then tellN M r else if r.deed = 7 then createN M r else if r.deed = 8 then removeN M r else if r.deed = 9 then issueN M r else if r.deed = 10 then revokeN M r else (M, errA 2)
/-- A callee's answer goes into a box. -/
theorem doEnd_pass {w w1 w4 : World} {p g : Nat} {M : Mdl} {T : Ows} {cur : Array Value} {R : Mdl × Ans} {e : Ending} (hm : ModelAt w p M T) (hb : Below w.heap.size w w1) (hx : Blk w1 g 52 cur) (hg : w.heap.size ≤ g) (h : DoEnd p M T R w1 e w4) :
    ∃ A c, e = .returned (R.2.v A c) ∧ Blk w4 g 52 cur ∧ DoEnd p M T R w (.returned (R.2.v A c)) (w4.setCells g 0 (R.2.cells A c)) := by
  obtain ⟨A, c, T', rfl, hm4, hrow, hown, hk⟩ := h
  have hng : ¬ mown p M T g := fun hh => by have := hm.own_lt hh; omega
  have hx4 := hk.blk hx hng
  refine ⟨A, c, rfl, hx4, A, c, T', rfl, ?_, ?_, ?_, ?_⟩
  · have hq : KeepC (fun i => i = g) w4 (w4.setCells g 0 (R.2.cells A c)) := (KeepC.refl (fun i => i = g) w4).sets hx4 (by decide) (fun _ => rfl) _ _
    refine hm4.keep hq (fun i hi e => ?_)
    subst e
    exact hm4.other hi hx4 (by decide) (by decide) (by decide)
  · exact (own_base hrow hb.size).kept (grown_sets g 0 _ w4) (row_apart (own_base hrow hb.size) hx4)
  · exact fun i hi => (hown i hi).imp id (fun h => Nat.le_trans hb.size h)
  · exact ((KeepC.of_below hb).trans hk (fun _ _ h => h)).sets hx4 (by decide) (fun hh => by omega) _ _
theorem ans_one {a : Ans} (h : StOk a.st) (A : Option Addr) (c : Nat) : (a.cells A c).toArray.all (·.oneCell') = true := by
  rw [List.all_toArray, List.all_eq_true]
  intro v hv
  unfold Ans.cells at hv
  rw [List.mem_append] at hv
  rcases hv with hv | hv
  · simp at hv
    rcases hv with rfl | rfl | rfl | rfl | rfl | rfl <;> rfl
  · exact h.one v hv
theorem ans_len {a : Ans} (h : StOk a.st) (A : Option Addr) (c : Nat) : (a.cells A c).toArray.size = 17 := by
  rw [List.size_toArray]
  unfold Ans.cells
  rw [List.length_append, h.len]
  rfl
set_option maxHeartbeats 1600000 in
set_option maxRecDepth 100000 in
theorem do_operate {w : World} {p : Nat} {M : Mdl} {T : Ows} (hm : ModelAt w p M T) (r : Req) (R : Mdl × Ans) (hl : look .nilFunc r.deed deedsMap = .func (.func 69) #[] #[]) (hR : StOk R.2.st)
    (hF : ∀ W, ModelAt W p M T → Calls Tryz.prog 69 #[.pointer (some ⟨p, 0, none⟩), r.v] W (DoEnd p M T R W)) : Calls Tryz.prog 11 #[.pointer (some ⟨p, 0, none⟩), r.v] w (DoEnd p M T R w) := by
  have hb0 : Below w.heap.size w (w.alloc (.cells r.row.toArray 39)) := below_box _ _
  have hq0 := Blk.new w 39 r.row.toArray
  have hb1 := below_alloc hb0 (.cells zeroA 52)
  have hbq := hq0.alloc (.cells zeroA 52)
  have hbx : Blk ((w.alloc (.cells r.row.toArray 39)).alloc (.cells zeroA 52)) (w.heap.size + 1) 52 zeroA := blk_at (by simp)
  have HN := Lib.hid (none_m (hm.below hb1))
  have HM := Lib.hid hm
  have HB := Lib.hid (And.intro hb1 (And.intro hbx hbq))
  have HF := Lib.hid hF
  have HL := Lib.hid hl
  have HD := Lib.hid (fun W => deeds_m W)
  have hne := fun w => run_neq_func (P := Tryz.prog) w 102 _ _ _ (.func 69) #[] #[] Tryz.underlying102
  unfold Req.row at HN HB
  clear hb0 hb1 hbx hm hq0 hbq hl hF
  go_enter Tryz.func11, Tryz.ntmps11
  go_wp2_with fail
  refine HN.out.mono ?_
  rintro e w1 ⟨rfl, rfl⟩
  have hcs := req_cells HB.out.2.2
  have c0 := hcs.1
  generalize hw1 : (w.alloc (.cells #[.int .i64 r.deed, .int .i64 r.ten, .int .u32 r.gen, .int .u8 r.rig, .string r.key, .string r.val, .string r.old, .int .i64 r.lim, .int .i64 r.tenant, .int .u64 r.qk, .int .u64 r.qb, .int .u8 r.rights] 39)).alloc (.cells zeroA 52) = w1 at *
  clear hw1
  go_wp2_with fail
  go_region_held3 (fun V => Below w1.heap.size w1 V ∧ V.cell? ⟨w.heap.size, 0, none⟩ = some (.int .i64 r.deed))
    (first
      | exact ⟨(Below.refl _ _).drew, c0⟩
      | exact hSN)
    (first
      | (go_at_call 33
         have hH := ‹Below w1.heap.size w1 _ ∧ _›
         refine (HD.out _).mono ?_
         rintro e wn ⟨b, rfl, hmap, hb2⟩
         have hSN : Below w1.heap.size w1 wn ∧ wn.cell? ⟨w.heap.size, 0, none⟩ = some (.int .i64 r.deed) := ⟨below_trans hH.1 hb2, (hb2.cell (Nat.lt_of_lt_of_le HB.out.2.2.lt hH.1.size)).trans hH.2⟩
         have hlk := run_lookup_intmap (P := Tryz.prog) (n := r.deed) hmap Tryz.underlying103 Tryz.underlying33 rfl (Tryz.zeroValue102 wn) false
         rw [HL.out] at hlk
         simp only [Bool.false_eq_true, if_false] at hlk
         clear hmap))
  have hH := ‹Below w1.heap.size w1 _ ∧ _›
  obtain ⟨c0, c1, c2, c3, c4, c5, c6, c7, c8, c9, c10, c11⟩ := req_cells (HB.out.2.2.below hH.1 HB.out.2.2.lt)
  go_wp2_with fail
  have hbn := below_trans HB.out.1 hH.1
  refine (HF.out _ (HM.out.below hbn)).mono ?_
  intro e w4 hE
  obtain ⟨A, c, rfl, hx4, hdone⟩ := doEnd_pass HM.out hbn (HB.out.2.1.below hH.1 HB.out.2.1.lt) (Nat.le_succ _) hE
  clear c0 c1 c2 c3 c4 c5 c6 c7 c8 c9 c10 c11
  go_wp2_with (refine wpList_store_mid rfl 52 (.tmp 4) (.tmp 18) rfl (w.heap.size + 1) 0 (R.2.cells A c).toArray rfl rfl (by rw [ans_len hR]; exact there_blk hx4 (Nat.le_refl 17)) (by rw [ans_len hR]; exact infoAns) (ans_one hR _ _) ?_)
  refine bodyPost_ret (v := R.2.v A c) ?_ rfl ?_
  · exact results_cell Tryz.results11 rfl (blk_setAll hx4 (ans_len hR A c).symm) Tryz.underlying52 rfl (by rw [ans_len hR]; exact infoAns)
  exact hdone
set_option maxHeartbeats 1600000 in
set_option maxRecDepth 100000 in
theorem do_tell {w : World} {p : Nat} {M : Mdl} {T : Ows} (hm : ModelAt w p M T) (r : Req) (R : Mdl × Ans) (hl : look .nilFunc r.deed deedsMap = .func (.func 70) #[] #[]) (hR : StOk R.2.st)
    (hF : ∀ W, ModelAt W p M T → Calls Tryz.prog 70 #[.pointer (some ⟨p, 0, none⟩), r.v] W (DoEnd p M T R W)) : Calls Tryz.prog 11 #[.pointer (some ⟨p, 0, none⟩), r.v] w (DoEnd p M T R w) := by
  have hb0 : Below w.heap.size w (w.alloc (.cells r.row.toArray 39)) := below_box _ _
  have hq0 := Blk.new w 39 r.row.toArray
  have hb1 := below_alloc hb0 (.cells zeroA 52)
  have hbq := hq0.alloc (.cells zeroA 52)
  have hbx : Blk ((w.alloc (.cells r.row.toArray 39)).alloc (.cells zeroA 52)) (w.heap.size + 1) 52 zeroA := blk_at (by simp)
  have HN := Lib.hid (none_m (hm.below hb1))
  have HM := Lib.hid hm
  have HB := Lib.hid (And.intro hb1 (And.intro hbx hbq))
  have HF := Lib.hid hF
  have HL := Lib.hid hl
  have HD := Lib.hid (fun W => deeds_m W)
  have hne := fun w => run_neq_func (P := Tryz.prog) w 102 _ _ _ (.func 70) #[] #[] Tryz.underlying102
  unfold Req.row at HN HB
  clear hb0 hb1 hbx hm hq0 hbq hl hF
  go_enter Tryz.func11, Tryz.ntmps11
  go_wp2_with fail
  refine HN.out.mono ?_
  rintro e w1 ⟨rfl, rfl⟩
  have hcs := req_cells HB.out.2.2
  have c0 := hcs.1
  generalize hw1 : (w.alloc (.cells #[.int .i64 r.deed, .int .i64 r.ten, .int .u32 r.gen, .int .u8 r.rig, .string r.key, .string r.val, .string r.old, .int .i64 r.lim, .int .i64 r.tenant, .int .u64 r.qk, .int .u64 r.qb, .int .u8 r.rights] 39)).alloc (.cells zeroA 52) = w1 at *
  clear hw1
  go_wp2_with fail
  go_region_held3 (fun V => Below w1.heap.size w1 V ∧ V.cell? ⟨w.heap.size, 0, none⟩ = some (.int .i64 r.deed))
    (first
      | exact ⟨(Below.refl _ _).drew, c0⟩
      | exact hSN)
    (first
      | (go_at_call 33
         have hH := ‹Below w1.heap.size w1 _ ∧ _›
         refine (HD.out _).mono ?_
         rintro e wn ⟨b, rfl, hmap, hb2⟩
         have hSN : Below w1.heap.size w1 wn ∧ wn.cell? ⟨w.heap.size, 0, none⟩ = some (.int .i64 r.deed) := ⟨below_trans hH.1 hb2, (hb2.cell (Nat.lt_of_lt_of_le HB.out.2.2.lt hH.1.size)).trans hH.2⟩
         have hlk := run_lookup_intmap (P := Tryz.prog) (n := r.deed) hmap Tryz.underlying103 Tryz.underlying33 rfl (Tryz.zeroValue102 wn) false
         rw [HL.out] at hlk
         simp only [Bool.false_eq_true, if_false] at hlk
         clear hmap))
  have hH := ‹Below w1.heap.size w1 _ ∧ _›
  obtain ⟨c0, c1, c2, c3, c4, c5, c6, c7, c8, c9, c10, c11⟩ := req_cells (HB.out.2.2.below hH.1 HB.out.2.2.lt)
  go_wp2_with fail
  have hbn := below_trans HB.out.1 hH.1
  refine (HF.out _ (HM.out.below hbn)).mono ?_
  intro e w4 hE
  obtain ⟨A, c, rfl, hx4, hdone⟩ := doEnd_pass HM.out hbn (HB.out.2.1.below hH.1 HB.out.2.1.lt) (Nat.le_succ _) hE
  clear c0 c1 c2 c3 c4 c5 c6 c7 c8 c9 c10 c11
  go_wp2_with (refine wpList_store_mid rfl 52 (.tmp 4) (.tmp 18) rfl (w.heap.size + 1) 0 (R.2.cells A c).toArray rfl rfl (by rw [ans_len hR]; exact there_blk hx4 (Nat.le_refl 17)) (by rw [ans_len hR]; exact infoAns) (ans_one hR _ _) ?_)
  refine bodyPost_ret (v := R.2.v A c) ?_ rfl ?_
  · exact results_cell Tryz.results11 rfl (blk_setAll hx4 (ans_len hR A c).symm) Tryz.underlying52 rfl (by rw [ans_len hR]; exact infoAns)
  exact hdone
set_option maxHeartbeats 1600000 in
set_option maxRecDepth 100000 in
theorem do_create {w : World} {p : Nat} {M : Mdl} {T : Ows} (hm : ModelAt w p M T) (r : Req) (R : Mdl × Ans) (hl : look .nilFunc r.deed deedsMap = .func (.func 71) #[] #[]) (hR : StOk R.2.st)
    (hF : ∀ W, ModelAt W p M T → Calls Tryz.prog 71 #[.pointer (some ⟨p, 0, none⟩), r.v] W (DoEnd p M T R W)) : Calls Tryz.prog 11 #[.pointer (some ⟨p, 0, none⟩), r.v] w (DoEnd p M T R w) := by
  have hb0 : Below w.heap.size w (w.alloc (.cells r.row.toArray 39)) := below_box _ _
  have hq0 := Blk.new w 39 r.row.toArray
  have hb1 := below_alloc hb0 (.cells zeroA 52)
  have hbq := hq0.alloc (.cells zeroA 52)
  have hbx : Blk ((w.alloc (.cells r.row.toArray 39)).alloc (.cells zeroA 52)) (w.heap.size + 1) 52 zeroA := blk_at (by simp)
  have HN := Lib.hid (none_m (hm.below hb1))
  have HM := Lib.hid hm
  have HB := Lib.hid (And.intro hb1 (And.intro hbx hbq))
  have HF := Lib.hid hF
  have HL := Lib.hid hl
  have HD := Lib.hid (fun W => deeds_m W)
  have hne := fun w => run_neq_func (P := Tryz.prog) w 102 _ _ _ (.func 71) #[] #[] Tryz.underlying102
  unfold Req.row at HN HB
  clear hb0 hb1 hbx hm hq0 hbq hl hF
  go_enter Tryz.func11, Tryz.ntmps11
  go_wp2_with fail
  refine HN.out.mono ?_
  rintro e w1 ⟨rfl, rfl⟩
  have hcs := req_cells HB.out.2.2
  have c0 := hcs.1
  generalize hw1 : (w.alloc (.cells #[.int .i64 r.deed, .int .i64 r.ten, .int .u32 r.gen, .int .u8 r.rig, .string r.key, .string r.val, .string r.old, .int .i64 r.lim, .int .i64 r.tenant, .int .u64 r.qk, .int .u64 r.qb, .int .u8 r.rights] 39)).alloc (.cells zeroA 52) = w1 at *
  clear hw1
  go_wp2_with fail
  go_region_held3 (fun V => Below w1.heap.size w1 V ∧ V.cell? ⟨w.heap.size, 0, none⟩ = some (.int .i64 r.deed))
    (first
      | exact ⟨(Below.refl _ _).drew, c0⟩
      | exact hSN)
    (first
      | (go_at_call 33
         have hH := ‹Below w1.heap.size w1 _ ∧ _›
         refine (HD.out _).mono ?_
         rintro e wn ⟨b, rfl, hmap, hb2⟩
         have hSN : Below w1.heap.size w1 wn ∧ wn.cell? ⟨w.heap.size, 0, none⟩ = some (.int .i64 r.deed) := ⟨below_trans hH.1 hb2, (hb2.cell (Nat.lt_of_lt_of_le HB.out.2.2.lt hH.1.size)).trans hH.2⟩
         have hlk := run_lookup_intmap (P := Tryz.prog) (n := r.deed) hmap Tryz.underlying103 Tryz.underlying33 rfl (Tryz.zeroValue102 wn) false
         rw [HL.out] at hlk
         simp only [Bool.false_eq_true, if_false] at hlk
         clear hmap))
  have hH := ‹Below w1.heap.size w1 _ ∧ _›
  obtain ⟨c0, c1, c2, c3, c4, c5, c6, c7, c8, c9, c10, c11⟩ := req_cells (HB.out.2.2.below hH.1 HB.out.2.2.lt)
  go_wp2_with fail
  have hbn := below_trans HB.out.1 hH.1
  refine (HF.out _ (HM.out.below hbn)).mono ?_
  intro e w4 hE
  obtain ⟨A, c, rfl, hx4, hdone⟩ := doEnd_pass HM.out hbn (HB.out.2.1.below hH.1 HB.out.2.1.lt) (Nat.le_succ _) hE
  clear c0 c1 c2 c3 c4 c5 c6 c7 c8 c9 c10 c11
  go_wp2_with (refine wpList_store_mid rfl 52 (.tmp 4) (.tmp 18) rfl (w.heap.size + 1) 0 (R.2.cells A c).toArray rfl rfl (by rw [ans_len hR]; exact there_blk hx4 (Nat.le_refl 17)) (by rw [ans_len hR]; exact infoAns) (ans_one hR _ _) ?_)
  refine bodyPost_ret (v := R.2.v A c) ?_ rfl ?_
  · exact results_cell Tryz.results11 rfl (blk_setAll hx4 (ans_len hR A c).symm) Tryz.underlying52 rfl (by rw [ans_len hR]; exact infoAns)
  exact hdone
set_option maxHeartbeats 1600000 in
set_option maxRecDepth 100000 in
theorem do_remove {w : World} {p : Nat} {M : Mdl} {T : Ows} (hm : ModelAt w p M T) (r : Req) (R : Mdl × Ans) (hl : look .nilFunc r.deed deedsMap = .func (.func 72) #[] #[]) (hR : StOk R.2.st)
    (hF : ∀ W, ModelAt W p M T → Calls Tryz.prog 72 #[.pointer (some ⟨p, 0, none⟩), r.v] W (DoEnd p M T R W)) : Calls Tryz.prog 11 #[.pointer (some ⟨p, 0, none⟩), r.v] w (DoEnd p M T R w) := by
  have hb0 : Below w.heap.size w (w.alloc (.cells r.row.toArray 39)) := below_box _ _
  have hq0 := Blk.new w 39 r.row.toArray
  have hb1 := below_alloc hb0 (.cells zeroA 52)
  have hbq := hq0.alloc (.cells zeroA 52)
  have hbx : Blk ((w.alloc (.cells r.row.toArray 39)).alloc (.cells zeroA 52)) (w.heap.size + 1) 52 zeroA := blk_at (by simp)
  have HN := Lib.hid (none_m (hm.below hb1))
  have HM := Lib.hid hm
  have HB := Lib.hid (And.intro hb1 (And.intro hbx hbq))
  have HF := Lib.hid hF
  have HL := Lib.hid hl
  have HD := Lib.hid (fun W => deeds_m W)
  have hne := fun w => run_neq_func (P := Tryz.prog) w 102 _ _ _ (.func 72) #[] #[] Tryz.underlying102
  unfold Req.row at HN HB
  clear hb0 hb1 hbx hm hq0 hbq hl hF
  go_enter Tryz.func11, Tryz.ntmps11
  go_wp2_with fail
  refine HN.out.mono ?_
  rintro e w1 ⟨rfl, rfl⟩
  have hcs := req_cells HB.out.2.2
  have c0 := hcs.1
  generalize hw1 : (w.alloc (.cells #[.int .i64 r.deed, .int .i64 r.ten, .int .u32 r.gen, .int .u8 r.rig, .string r.key, .string r.val, .string r.old, .int .i64 r.lim, .int .i64 r.tenant, .int .u64 r.qk, .int .u64 r.qb, .int .u8 r.rights] 39)).alloc (.cells zeroA 52) = w1 at *
  clear hw1
  go_wp2_with fail
  go_region_held3 (fun V => Below w1.heap.size w1 V ∧ V.cell? ⟨w.heap.size, 0, none⟩ = some (.int .i64 r.deed))
    (first
      | exact ⟨(Below.refl _ _).drew, c0⟩
      | exact hSN)
    (first
      | (go_at_call 33
         have hH := ‹Below w1.heap.size w1 _ ∧ _›
         refine (HD.out _).mono ?_
         rintro e wn ⟨b, rfl, hmap, hb2⟩
         have hSN : Below w1.heap.size w1 wn ∧ wn.cell? ⟨w.heap.size, 0, none⟩ = some (.int .i64 r.deed) := ⟨below_trans hH.1 hb2, (hb2.cell (Nat.lt_of_lt_of_le HB.out.2.2.lt hH.1.size)).trans hH.2⟩
         have hlk := run_lookup_intmap (P := Tryz.prog) (n := r.deed) hmap Tryz.underlying103 Tryz.underlying33 rfl (Tryz.zeroValue102 wn) false
         rw [HL.out] at hlk
         simp only [Bool.false_eq_true, if_false] at hlk
         clear hmap))
  have hH := ‹Below w1.heap.size w1 _ ∧ _›
  obtain ⟨c0, c1, c2, c3, c4, c5, c6, c7, c8, c9, c10, c11⟩ := req_cells (HB.out.2.2.below hH.1 HB.out.2.2.lt)
  go_wp2_with fail
  have hbn := below_trans HB.out.1 hH.1
  refine (HF.out _ (HM.out.below hbn)).mono ?_
  intro e w4 hE
  obtain ⟨A, c, rfl, hx4, hdone⟩ := doEnd_pass HM.out hbn (HB.out.2.1.below hH.1 HB.out.2.1.lt) (Nat.le_succ _) hE
  clear c0 c1 c2 c3 c4 c5 c6 c7 c8 c9 c10 c11
  go_wp2_with (refine wpList_store_mid rfl 52 (.tmp 4) (.tmp 18) rfl (w.heap.size + 1) 0 (R.2.cells A c).toArray rfl rfl (by rw [ans_len hR]; exact there_blk hx4 (Nat.le_refl 17)) (by rw [ans_len hR]; exact infoAns) (ans_one hR _ _) ?_)
  refine bodyPost_ret (v := R.2.v A c) ?_ rfl ?_
  · exact results_cell Tryz.results11 rfl (blk_setAll hx4 (ans_len hR A c).symm) Tryz.underlying52 rfl (by rw [ans_len hR]; exact infoAns)
  exact hdone
set_option maxHeartbeats 1600000 in
set_option maxRecDepth 100000 in
theorem do_issue {w : World} {p : Nat} {M : Mdl} {T : Ows} (hm : ModelAt w p M T) (r : Req) (R : Mdl × Ans) (hl : look .nilFunc r.deed deedsMap = .func (.func 73) #[] #[]) (hR : StOk R.2.st)
    (hF : ∀ W, ModelAt W p M T → Calls Tryz.prog 73 #[.pointer (some ⟨p, 0, none⟩), r.v] W (DoEnd p M T R W)) : Calls Tryz.prog 11 #[.pointer (some ⟨p, 0, none⟩), r.v] w (DoEnd p M T R w) := by
  have hb0 : Below w.heap.size w (w.alloc (.cells r.row.toArray 39)) := below_box _ _
  have hq0 := Blk.new w 39 r.row.toArray
  have hb1 := below_alloc hb0 (.cells zeroA 52)
  have hbq := hq0.alloc (.cells zeroA 52)
  have hbx : Blk ((w.alloc (.cells r.row.toArray 39)).alloc (.cells zeroA 52)) (w.heap.size + 1) 52 zeroA := blk_at (by simp)
  have HN := Lib.hid (none_m (hm.below hb1))
  have HM := Lib.hid hm
  have HB := Lib.hid (And.intro hb1 (And.intro hbx hbq))
  have HF := Lib.hid hF
  have HL := Lib.hid hl
  have HD := Lib.hid (fun W => deeds_m W)
  have hne := fun w => run_neq_func (P := Tryz.prog) w 102 _ _ _ (.func 73) #[] #[] Tryz.underlying102
  unfold Req.row at HN HB
  clear hb0 hb1 hbx hm hq0 hbq hl hF
  go_enter Tryz.func11, Tryz.ntmps11
  go_wp2_with fail
  refine HN.out.mono ?_
  rintro e w1 ⟨rfl, rfl⟩
  have hcs := req_cells HB.out.2.2
  have c0 := hcs.1
  generalize hw1 : (w.alloc (.cells #[.int .i64 r.deed, .int .i64 r.ten, .int .u32 r.gen, .int .u8 r.rig, .string r.key, .string r.val, .string r.old, .int .i64 r.lim, .int .i64 r.tenant, .int .u64 r.qk, .int .u64 r.qb, .int .u8 r.rights] 39)).alloc (.cells zeroA 52) = w1 at *
  clear hw1
  go_wp2_with fail
  go_region_held3 (fun V => Below w1.heap.size w1 V ∧ V.cell? ⟨w.heap.size, 0, none⟩ = some (.int .i64 r.deed))
    (first
      | exact ⟨(Below.refl _ _).drew, c0⟩
      | exact hSN)
    (first
      | (go_at_call 33
         have hH := ‹Below w1.heap.size w1 _ ∧ _›
         refine (HD.out _).mono ?_
         rintro e wn ⟨b, rfl, hmap, hb2⟩
         have hSN : Below w1.heap.size w1 wn ∧ wn.cell? ⟨w.heap.size, 0, none⟩ = some (.int .i64 r.deed) := ⟨below_trans hH.1 hb2, (hb2.cell (Nat.lt_of_lt_of_le HB.out.2.2.lt hH.1.size)).trans hH.2⟩
         have hlk := run_lookup_intmap (P := Tryz.prog) (n := r.deed) hmap Tryz.underlying103 Tryz.underlying33 rfl (Tryz.zeroValue102 wn) false
         rw [HL.out] at hlk
         simp only [Bool.false_eq_true, if_false] at hlk
         clear hmap))
  have hH := ‹Below w1.heap.size w1 _ ∧ _›
  obtain ⟨c0, c1, c2, c3, c4, c5, c6, c7, c8, c9, c10, c11⟩ := req_cells (HB.out.2.2.below hH.1 HB.out.2.2.lt)
  go_wp2_with fail
  have hbn := below_trans HB.out.1 hH.1
  refine (HF.out _ (HM.out.below hbn)).mono ?_
  intro e w4 hE
  obtain ⟨A, c, rfl, hx4, hdone⟩ := doEnd_pass HM.out hbn (HB.out.2.1.below hH.1 HB.out.2.1.lt) (Nat.le_succ _) hE
  clear c0 c1 c2 c3 c4 c5 c6 c7 c8 c9 c10 c11
  go_wp2_with (refine wpList_store_mid rfl 52 (.tmp 4) (.tmp 18) rfl (w.heap.size + 1) 0 (R.2.cells A c).toArray rfl rfl (by rw [ans_len hR]; exact there_blk hx4 (Nat.le_refl 17)) (by rw [ans_len hR]; exact infoAns) (ans_one hR _ _) ?_)
  refine bodyPost_ret (v := R.2.v A c) ?_ rfl ?_
  · exact results_cell Tryz.results11 rfl (blk_setAll hx4 (ans_len hR A c).symm) Tryz.underlying52 rfl (by rw [ans_len hR]; exact infoAns)
  exact hdone
set_option maxHeartbeats 1600000 in
set_option maxRecDepth 100000 in
theorem do_revoke {w : World} {p : Nat} {M : Mdl} {T : Ows} (hm : ModelAt w p M T) (r : Req) (R : Mdl × Ans) (hl : look .nilFunc r.deed deedsMap = .func (.func 74) #[] #[]) (hR : StOk R.2.st)
    (hF : ∀ W, ModelAt W p M T → Calls Tryz.prog 74 #[.pointer (some ⟨p, 0, none⟩), r.v] W (DoEnd p M T R W)) : Calls Tryz.prog 11 #[.pointer (some ⟨p, 0, none⟩), r.v] w (DoEnd p M T R w) := by
  have hb0 : Below w.heap.size w (w.alloc (.cells r.row.toArray 39)) := below_box _ _
  have hq0 := Blk.new w 39 r.row.toArray
  have hb1 := below_alloc hb0 (.cells zeroA 52)
  have hbq := hq0.alloc (.cells zeroA 52)
  have hbx : Blk ((w.alloc (.cells r.row.toArray 39)).alloc (.cells zeroA 52)) (w.heap.size + 1) 52 zeroA := blk_at (by simp)
  have HN := Lib.hid (none_m (hm.below hb1))
  have HM := Lib.hid hm
  have HB := Lib.hid (And.intro hb1 (And.intro hbx hbq))
  have HF := Lib.hid hF
  have HL := Lib.hid hl
  have HD := Lib.hid (fun W => deeds_m W)
  have hne := fun w => run_neq_func (P := Tryz.prog) w 102 _ _ _ (.func 74) #[] #[] Tryz.underlying102
  unfold Req.row at HN HB
  clear hb0 hb1 hbx hm hq0 hbq hl hF
  go_enter Tryz.func11, Tryz.ntmps11
  go_wp2_with fail
  refine HN.out.mono ?_
  rintro e w1 ⟨rfl, rfl⟩
  have hcs := req_cells HB.out.2.2
  have c0 := hcs.1
  generalize hw1 : (w.alloc (.cells #[.int .i64 r.deed, .int .i64 r.ten, .int .u32 r.gen, .int .u8 r.rig, .string r.key, .string r.val, .string r.old, .int .i64 r.lim, .int .i64 r.tenant, .int .u64 r.qk, .int .u64 r.qb, .int .u8 r.rights] 39)).alloc (.cells zeroA 52) = w1 at *
  clear hw1
  go_wp2_with fail
  go_region_held3 (fun V => Below w1.heap.size w1 V ∧ V.cell? ⟨w.heap.size, 0, none⟩ = some (.int .i64 r.deed))
    (first
      | exact ⟨(Below.refl _ _).drew, c0⟩
      | exact hSN)
    (first
      | (go_at_call 33
         have hH := ‹Below w1.heap.size w1 _ ∧ _›
         refine (HD.out _).mono ?_
         rintro e wn ⟨b, rfl, hmap, hb2⟩
         have hSN : Below w1.heap.size w1 wn ∧ wn.cell? ⟨w.heap.size, 0, none⟩ = some (.int .i64 r.deed) := ⟨below_trans hH.1 hb2, (hb2.cell (Nat.lt_of_lt_of_le HB.out.2.2.lt hH.1.size)).trans hH.2⟩
         have hlk := run_lookup_intmap (P := Tryz.prog) (n := r.deed) hmap Tryz.underlying103 Tryz.underlying33 rfl (Tryz.zeroValue102 wn) false
         rw [HL.out] at hlk
         simp only [Bool.false_eq_true, if_false] at hlk
         clear hmap))
  have hH := ‹Below w1.heap.size w1 _ ∧ _›
  obtain ⟨c0, c1, c2, c3, c4, c5, c6, c7, c8, c9, c10, c11⟩ := req_cells (HB.out.2.2.below hH.1 HB.out.2.2.lt)
  go_wp2_with fail
  have hbn := below_trans HB.out.1 hH.1
  refine (HF.out _ (HM.out.below hbn)).mono ?_
  intro e w4 hE
  obtain ⟨A, c, rfl, hx4, hdone⟩ := doEnd_pass HM.out hbn (HB.out.2.1.below hH.1 HB.out.2.1.lt) (Nat.le_succ _) hE
  clear c0 c1 c2 c3 c4 c5 c6 c7 c8 c9 c10 c11
  go_wp2_with (refine wpList_store_mid rfl 52 (.tmp 4) (.tmp 18) rfl (w.heap.size + 1) 0 (R.2.cells A c).toArray rfl rfl (by rw [ans_len hR]; exact there_blk hx4 (Nat.le_refl 17)) (by rw [ans_len hR]; exact infoAns) (ans_one hR _ _) ?_)
  refine bodyPost_ret (v := R.2.v A c) ?_ rfl ?_
  · exact results_cell Tryz.results11 rfl (blk_setAll hx4 (ans_len hR A c).symm) Tryz.underlying52 rfl (by rw [ans_len hR]; exact infoAns)
  exact hdone
end Go.Proofs.YtkgflepgkhnclaaGreatDoor
namespace Go.Proofs.YtkgflepgkhnclaaGreatDoor
open Go.RowKit Go.Shelf
set_option linter.unusedVariables false
set_option linter.unusedSimpArgs false
attribute [local go_sem] run_store_complex
set_option maxHeartbeats 1600000 in
set_option maxRecDepth 100000 in
theorem do_not {w : World} {p : Nat} {M : Mdl} {T : Ows} (hm : ModelAt w p M T) (r : Req) (hl : look .nilFunc r.deed deedsMap = .nilFunc) : Calls Tryz.prog 11 #[.pointer (some ⟨p, 0, none⟩), r.v] w (DoEnd p M T (M, errA 2) w) := by
  have hb0 : Below w.heap.size w (w.alloc (.cells r.row.toArray 39)) := below_box _ _
  have hq0 := Blk.new w 39 r.row.toArray
  have hb1 := below_alloc hb0 (.cells zeroA 52)
  have hbq := hq0.alloc (.cells zeroA 52)
  have hbx : Blk ((w.alloc (.cells r.row.toArray 39)).alloc (.cells zeroA 52)) (w.heap.size + 1) 52 zeroA := blk_at (by simp)
  have HN := Lib.hid (none_m (hm.below hb1))
  have HM := Lib.hid hm
  have HB := Lib.hid (And.intro hb1 (And.intro hbx hbq))
  have HL := Lib.hid hl
  have HD := Lib.hid (fun W => deeds_m W)
  have hne := fun w => run_neq_func_nil (P := Tryz.prog) w 102 _ _ _ Tryz.underlying102
  unfold Req.row at HN HB
  clear hb0 hb1 hbx hm hq0 hbq hl
  go_enter Tryz.func11, Tryz.ntmps11
  go_wp2_with fail
  refine HN.out.mono ?_
  rintro e w1 ⟨rfl, rfl⟩
  have hcs := req_cells HB.out.2.2
  have c0 := hcs.1
  generalize hw1 : (w.alloc (.cells #[.int .i64 r.deed, .int .i64 r.ten, .int .u32 r.gen, .int .u8 r.rig, .string r.key, .string r.val, .string r.old, .int .i64 r.lim, .int .i64 r.tenant, .int .u64 r.qk, .int .u64 r.qb, .int .u8 r.rights] 39)).alloc (.cells zeroA 52) = w1 at *
  clear hw1
  go_wp2_with fail
  go_region_held3 (fun V => Below w1.heap.size w1 V ∧ V.cell? ⟨w.heap.size, 0, none⟩ = some (.int .i64 r.deed))
    (first
      | exact ⟨(Below.refl _ _).drew, c0⟩
      | exact hSN)
    (first
      | (go_at_call 33
         have hH := ‹Below w1.heap.size w1 _ ∧ _›
         refine (HD.out _).mono ?_
         rintro e wn ⟨b, rfl, hmap, hb2⟩
         have hSN : Below w1.heap.size w1 wn ∧ wn.cell? ⟨w.heap.size, 0, none⟩ = some (.int .i64 r.deed) := ⟨below_trans hH.1 hb2, (hb2.cell (Nat.lt_of_lt_of_le HB.out.2.2.lt hH.1.size)).trans hH.2⟩
         have hlk := run_lookup_intmap (P := Tryz.prog) (n := r.deed) hmap Tryz.underlying103 Tryz.underlying33 rfl (Tryz.zeroValue102 wn) false
         rw [HL.out] at hlk
         simp only [Bool.false_eq_true, if_false] at hlk
         clear hmap))
  have hH := ‹Below w1.heap.size w1 _ ∧ _›
  have BX := Lib.hid (HB.out.2.1.below hH.1 HB.out.2.1.lt)
  have HB1 := Lib.hid (below_trans HB.out.1 hH.1)
  go_wp2_with (refine wpList_store_mid rfl 52 (.tmp 4) (.tmp 19) rfl (w.heap.size + 1) 0 (errC 2) rfl rfl (there_blk BX.out (Nat.le_refl 17)) infoAns (errC_one _) ?_)
  refine bodyPost_ret (v := (errA 2).v none 0) ?_ rfl ?_
  · exact results_cell Tryz.results11 rfl (blk_setAll BX.out rfl) Tryz.underlying52 rfl infoAns
  exact doEnd_store (HM.out.below HB1.out) (.of_below HB1.out) (fun i hi => .inl hi) (Nat.le_succ _) BX.out rfl

theorem operateN_st (M : Mdl) (r : Req) : StOk (operateN M r).2.st := by
  unfold operateN
  split
  · exact st0_ok
  · split
    · split
      · exact st0_ok
      · split
        · exact st0_ok
        · split
          · exact st0_ok
          · split
            · exact st0_ok
            · split <;> exact st0_ok
    · exact st0_ok
theorem tellN_st {w : World} {p : Nat} {M : Mdl} {T : Ows} (hm : ModelAt w p M T) (r : Req) : StOk (tellN M r).2.st := by
  unfold tellN
  split
  · rename_i h0
    obtain ⟨n, B, hn, h1, h2, hB⟩ := may_good h0
    have hn' : r.ten.toNat = n := by omega
    rw [hn', hB]
    have hw := (hm.bk n B (by omega) hB).wf
    have h1 := hw.qk
    have h2 := hw.qb
    have h3 := hw.nk
    have h4 := hw.nb
    exact withN_ok (hm.ok n).st (by omega) (by omega)
  · exact st0_ok
theorem createN_st (M : Mdl) (r : Req) : StOk (createN M r).2.st := by
  unfold createN
  split
  · exact st0_ok
  · split <;> exact st0_ok
theorem removeN_st (M : Mdl) (r : Req) : StOk (removeN M r).2.st := by unfold removeN; split <;> exact st0_ok
theorem issueN_st (M : Mdl) (r : Req) : StOk (issueN M r).2.st := by unfold issueN; split <;> exact st0_ok
theorem revokeN_st (M : Mdl) (r : Req) : StOk (revokeN M r).2.st := by unfold revokeN; split <;> exact st0_ok
theorem deed_not {d : Int} (h : ¬ (1 ≤ d ∧ d ≤ 5)) (h6 : d ≠ 6) (h7 : d ≠ 7) (h8 : d ≠ 8) (h9 : d ≠ 9) (h10 : d ≠ 10) : look .nilFunc d deedsMap = .nilFunc := by
  simp only [look, deedsMap]
  rw [if_neg (by omega), if_neg (by omega), if_neg (by omega), if_neg (by omega), if_neg (by omega), if_neg (by omega), if_neg (by omega), if_neg (by omega), if_neg (by omega), if_neg (by omega)]
theorem Do_m {w : World} {p : Nat} {M : Mdl} {T : Ows} (hm : ModelAt w p M T) (r : Req) (hr : r.ok) (hsm : Small M) : Calls Tryz.prog 11 #[.pointer (some ⟨p, 0, none⟩), r.v] w (DoEnd p M T (doN M r) w) := by
  unfold doN
  by_cases h1 : 1 ≤ r.deed ∧ r.deed ≤ 5
  · rw [if_pos h1]
    have h2 : r.deed = 1 ∨ r.deed = 2 ∨ r.deed = 3 ∨ r.deed = 4 ∨ r.deed = 5 := by omega
    refine do_operate hm r _ ?_ (operateN_st M r) (fun W hW => ?_)
    · rcases h2 with h | h | h | h | h <;> (rw [h]; rfl)
    · rcases h2 with h | h | h | h | h
      · exact operate1_m hW r hr h hsm
      · exact operate2_m hW r hr h hsm
      · exact operate3_m hW r hr h hsm
      · exact operate4_m hW r hr h hsm
      · exact operate5_m hW r hr h hsm
  rw [if_neg h1]
  by_cases h6 : r.deed = 6
  · rw [if_pos h6]
    exact do_tell hm r _ (by rw [h6]; rfl) (tellN_st hm r) (fun W hW => tell_m hW r hsm)
  rw [if_neg h6]
  by_cases h7 : r.deed = 7
  · rw [if_pos h7]
    exact do_create hm r _ (by rw [h7]; rfl) (createN_st M r) (fun W hW => create_m hW r hr)
  rw [if_neg h7]
  by_cases h8 : r.deed = 8
  · rw [if_pos h8]
    exact do_remove hm r _ (by rw [h8]; rfl) (removeN_st M r) (fun W hW => remove_m hW r)
  rw [if_neg h8]
  by_cases h9 : r.deed = 9
  · rw [if_pos h9]
    exact do_issue hm r _ (by rw [h9]; rfl) (issueN_st M r) (fun W hW => issue_m hW r)
  rw [if_neg h9]
  by_cases h10 : r.deed = 10
  · rw [if_pos h10]
    exact do_revoke hm r _ (by rw [h10]; rfl) (revokeN_st M r) (fun W hW => revoke_m hW r)
  rw [if_neg h10]
  exact do_not hm r (deed_not h1 h6 h7 h8 h9 h10)
/-- A model in which no tenant exists. -/
def mdl0 : Mdl := fun _ => ten0
def ows0 : Ows := fun _ => ⟨0, 0, none⟩
def NewM (w : World) (e : Ending) (w' : World) : Prop := e = .returned (.pointer (some ⟨w.heap.size, 0, none⟩)) ∧ ModelAt w' w.heap.size mdl0 ows0 ∧ Below w.heap.size w w'
set_option maxHeartbeats 1600000 in
set_option maxRecDepth 100000 in
theorem new_m (w : World) : Calls Tryz.prog 6 #[] w (NewM w) := by
  go_enter Tryz.func6, Tryz.ntmps6
  go_wp2_with fail
  go_ret
  refine ⟨rfl, ⟨blk_at (by rfl), fun _ => ten0_ok, fun t B _ h => (by cases h), fun t s i _ _ _ h _ _ => (by cases h)⟩, (Below.refl _ _).alloc (Nat.le_refl _) _⟩
end Go.Proofs.YtkgflepgkhnclaaGreatDoor
namespace Go.Proofs.YtkgflepgkhnclaaGreatDoor
open Go.RowKit Go.Shelf
set_option linter.unusedVariables false
set_option linter.unusedSimpArgs false
attribute [local go_sem] Oper.semAt_some

/-- A part of a code, by a path: 0 the first of two, 1 the second, 2 inside, 3 then, 4 else. -/
def sub : List Nat → Code → Code
  | [], c => c
  | 0 :: l, .seq a _ => sub l a
  | 1 :: l, .seq _ b => sub l b
  | 2 :: l, .block _ c => sub l c
  | 2 :: l, .loop c => sub l c
  | 2 :: l, .scope c => sub l c
  | 3 :: l, .cond _ a _ => sub l a
  | 4 :: l, .cond _ _ b => sub l b
  | _ :: _, c => c
noncomputable def part (f : Func) (l : List Nat) : Code := sub l (f.body.getD .skip)
theorem cell_two_new (w : World) (x y : Value) (t : TypeId) : ∀ j u, [x, y][j]? = some u → (w.alloc (.cells #[x, y] t)).cell? ((⟨w.heap.size, 0, none⟩ : Addr).add j) = some u := by
  intro j u hj
  match j, hj with
  | 0, hj => simp at hj; subst hj; simp [Addr.add]
  | 1, hj => simp at hj; subst hj; simp [Addr.add]
/-- What holds between two rounds: the list of pairs, and the rest of the world. -/
def PrI (w0 : World) (lo gx : Nat) (pre : List Kv) (W : World) : Prop :=
  (∃ v, Blk W gx 42 #[v] ∧ W.ownsRow lo 57 2 v pre.length (pre.flatMap pairR)) ∧ Below w0.heap.size w0 W ∧ lo ≤ W.heap.size
theorem Blk.ownP {W W' : World} {row : Option Nat} {g : Nat} {t : TypeId} {cs : Array Value} (h : Blk W g t cs) (hg : W.grownBy W' row) (hr : ∀ r, row = some r → ∃ o : Obj, W.heap[r]? = some o ∧ o.isCells = false) : Blk W' g t cs :=
  (grownBy_keeps_cells hg hr h rfl).trans h
theorem ownsRow_own {W W' : World} {base : Nat} {e : TypeId} {size n : Nat} {v : Value} {xs : List Value} {row : Option Nat} (h : W.ownsRow base e size v n xs) (hg : W.grownBy W' row) (hr : ∀ r, row = some r → ∃ o : Obj, W.heap[r]? = some o ∧ o.isCells = false) : W'.ownsRow base e size v n xs := by
  refine h.kept hg ?_
  rcases h.2 with ⟨rfl, _⟩ | ⟨g, cap, cur, rfl, _, hgb, _⟩
  · exact .inl rfl
  · refine .inr fun e' => ?_
    obtain ⟨o, ho, hc⟩ := hr g (by simpa [Value.ownBlock] using e'.symm)
    rw [hgb] at ho; cases ho; cases hc
theorem prI_own {w0 wx : World} {gx : Nat} (hw : w0.heap.size ≤ wx.heap.size) : OwnFrom wx.heap.size (PrI w0 wx.heap.size gx) := by
  intro s W W' row hs hg hr
  obtain ⟨⟨v, h1, h2⟩, h3, h4⟩ := hs
  have hr' := fun r e => (hr r e).2
  exact ⟨⟨v, h1.ownP hg hr', ownsRow_own h2 hg hr'⟩, ownFrom_below (β := Unit) (Nat.le_refl _) hw () W W' row h3 hg hr, Nat.le_trans h4 hg.size⟩
/-- Behind the append and the store. -/
theorem appendedP {W w1 w0 : World} {lo gx : Nat} (hgx1 : w0.heap.size ≤ gx) {v v' : Value} {n : Nat} {xs ys : List Value} {tmp : Obj}
    (hv : Blk W gx 42 #[v]) (hrow : W.ownsRow lo 57 2 v n xs) (hRW : Below w0.heap.size w0 W) (hlo : lo ≤ W.heap.size) (hgx : gx < lo) (hown' : w1.ownsRow lo 57 2 v' (n + 1) ys) (hgrow : (W.alloc tmp).grownBy w1 v.ownBlock) :
    Blk w1 gx 42 #[v] ∧ Blk (w1.setCell ⟨gx, 0, none⟩ v') gx 42 #[v'] ∧ (w1.setCell ⟨gx, 0, none⟩ v').ownsRow lo 57 2 v' (n + 1) ys ∧ KeepsFrom lo W (w1.setCell ⟨gx, 0, none⟩ v') ∧ KeepsT W (w1.setCell ⟨gx, 0, none⟩ v') ∧ Below w0.heap.size w0 (w1.setCell ⟨gx, 0, none⟩ v') ∧ lo ≤ (w1.setCell ⟨gx, 0, none⟩ v').heap.size := by
  have hlt := hrow.lt
  have hn : some gx ≠ v.ownBlock := fun e => by have := (hlt gx e.symm).1; omega
  have hv1 : Blk w1 gx 42 #[v] := (hv.alloc tmp).grown hgrow hn
  have hown : ∀ g, v.ownBlock = some g → ∃ cs, Blk (W.alloc tmp) g 57 cs := by
    intro g hg
    rcases (hrow.alloc tmp).2 with ⟨rfl, _⟩ | ⟨g', cap, cur, rfl, _, hgb, _⟩
    · simp [Value.ownBlock] at hg
    · obtain rfl : g' = g := by simpa [Value.ownBlock] using hg
      exact ⟨cur, hgb⟩
  have hs1 := hgrow.size
  simp at hs1
  refine ⟨hv1, by simpa using hv1.set_ 0 v', hown'.kept (grownBy_setCell' w1 gx v') ?_, ?_, ?_, ?_, ?_⟩
  · cases hv' : v'.ownBlock with
    | none => exact .inl rfl
    | some g => exact .inr (fun e => by injection e with e; subst e; have := (hown'.lt g hv').1; omega)
  · refine (((KeepsOthers.alloc W tmp).trans (KeepsOthers.of_grownBy hgrow fun j o ej hj => ?_)).trans (KeepsOthers.setCell _ _ _)).from _
    obtain ⟨cs, hcs⟩ := hown j ej
    unfold Blk at hcs
    rw [hcs] at hj
    cases hj; rfl
  · exact ((KeepsT.of_below (below_box W tmp)).trans (KeepsT.of_grown hgrow (fun g hg => by obtain ⟨cs, hcs⟩ := hown g hg; exact ⟨_, hcs, fun h => h.2 rfl⟩))).trans (KeepsT.of_grown (grownBy_setCell' w1 gx v') (fun g hg => by injection hg with hg; subst hg; exact ⟨_, hv1, fun h => h.1 rfl⟩))
  · have hb := (below_alloc hRW tmp).grown hgrow (Nat.le_trans hRW.size (by simp)) (fun k hk => by have := (hlt k hk).1; omega)
    exact hb.grown (grownBy_setCell' w1 gx v') hb.size (fun k hk => by injection hk with hk; subst hk; exact hgx1)
  · simp [World.setCell]
    omega
theorem flat_snoc (l : List Kv) (x : Kv) : (l ++ [x]).flatMap pairR = l.flatMap pairR ++ [.string x.1, .string x.2] := by simp [pairR]
set_option maxHeartbeats 6400000 in
set_option maxRecDepth 100000 in
theorem pairs_loop (gx gb : Nat) (o : Ow) (B : Bk) (w0 : World) {u0 u1 u2 u3 u4 u6 u7 u8 u9 u10 u11 u12 u13 u14 u15 u16 u17 u18 u19 u20 u21 u22 u23 u24 u25 u26 u27 u28 u29 u30 u31 u32 u33 u34 u36 u37 u38 u39 u40 u41 u42 u43 u44 : Value} {wx : World} {Q : Exit → Act → World → Prop} (hl : B.l.length ≤ 1000000) (hf : BkAt wx o B) (hgb : wx.cell? ⟨gb, 0, none⟩ = some (.pointer (some ⟨o.b, 0, none⟩)))
    (hx : Blk wx gx 42 #[.slice none 0 0]) (hgx1 : w0.heap.size ≤ gx) (hb0 : Below w0.heap.size w0 wx)
    (hQ : ∀ (D : Nat) (v : Value) (u6 u7 u36 u37 u38 u39 u40 u41 u42 u43 : Value) (W : World), wx.heap.size ≤ D → Blk W gx 42 #[v] → W.ownsRow wx.heap.size 57 2 v B.l.length (B.l.flatMap pairR) → Below w0.heap.size w0 W → W.heap[D]? = some (.deferred (some [])) → Q .normal ⟨#[u0, u1, u2, u3, u4, .pointer (some ⟨gx, 0, none⟩), u6, u7, u8, u9, u10, u11, u12, u13, u14, u15, u16, u17, u18, u19, u20, u21, u22, u23, u24, u25, u26, u27, u28, u29, u30, u31, u32, u33, u34, .func (.func 66) #[] #[.pointer (some ⟨gb, 0, none⟩)], u36, u37, u38, u39, u40, u41, u42, u43, u44], [{ target := .collected D, args := #[] }]⟩ W) :
    Code.wp Tryz.prog (part Tryz.f8 [1, 1, 1, 0, 1]) Q ⟨#[u0, u1, u2, u3, u4, .pointer (some ⟨gx, 0, none⟩), u6, u7, u8, u9, u10, u11, u12, u13, u14, u15, u16, u17, u18, u19, u20, u21, u22, u23, u24, u25, u26, u27, u28, u29, u30, u31, u32, u33, u34, .func (.func 66) #[] #[.pointer (some ⟨gb, 0, none⟩)], u36, u37, u38, u39, u40, u41, u42, u43, u44], []⟩ wx := by
  conv => arg 2; whnf
  obtain ⟨i0, hi, hz0, hz1, hz2⟩ := info_parts infoPair
  have HQ := Lib.hid hQ
  have hgx := hx.lt
  clear hQ
  refine wp_block ?_
  refine (wpIn_wide (n := 10)).1 ?_
  refine wpIn_rangeFunc_ownH rfl (by decide) (gf := 66) (lb := #[.pointer (some ⟨gb, 0, none⟩)]) rfl trivial (enters_of Tryz.func66 (by kernel_rfl) rfl)
    (all_stops gb 9 o B wx (by decide) hgb hf hl) (fun h k => h.trans k) (fun W l o o' hl h1 h2 h3 => KeepsT.put W l o o' h1 h2 h3) (Below.refl _ _) (fun _ => rfl)
    (PrI w0 wx.heap.size gx) (fun _ pre W => ¬ (pre <+: B.l)) (prI_own hb0.size) (fun c s W W' row hs hg hr => hs) ⟨⟨_, hx, World.ownsRow_nil _ _ _ _⟩, hb0, Nat.le_refl _⟩
    (fun x a' W => a' = ⟨#[u0, u1, u2, u3, u4, .pointer (some ⟨gx, 0, none⟩), .string x.1, .string x.2, u8, u9, u10, u11, u12, u13, u14, u15, u16, u17, u18, u19, u20, u21, u22, u23, u24, u25, u26, u27, u28, u29, u30, u31, u32, u33, u34, .func (.func 66) #[] #[.pointer (some ⟨gb, 0, none⟩)], .string x.1, .string x.2, u38, u39, u40, u41, u42, u43, u44], []⟩) (fun x a' s W W' row hs hg hr => hs) ?assign ?body ?done ?stop
  case assign =>
    rintro l pre x W K hi hK
    have hfin : K ⟨#[u0, u1, u2, u3, u4, .pointer (some ⟨gx, 0, none⟩), .string x.1, .string x.2, u8, u9, u10, u11, u12, u13, u14, u15, u16, u17, u18, u19, u20, u21, u22, u23, u24, u25, u26, u27, u28, u29, u30, u31, u32, u33, u34, .func (.func 66) #[] #[.pointer (some ⟨gb, 0, none⟩)], .string x.1, .string x.2, u38, u39, u40, u41, u42, u43, u44], []⟩ W := hK _ _ ((KeepsOthers.refl W).from _) (KeepsT.refl _) hi rfl
    have HF := Lib.hid hfin
    clear hfin hK
    gi_wp2
    exact HF.out
  case body =>
    rintro l pre x a' W hl2 ⟨rec, hrec⟩ ⟨⟨v, hv, hrow⟩, hRW, hsz⟩ rfl hlen
    have ex := hv.cell 0
    simp at ex
    have HO := Lib.hid (And.intro hv (And.intro hrow (And.intro hRW hsz)))
    have n1 : 1 ≤ 8 := by decide
    obtain ⟨A, c, rfl, hA0, hnc, hcm⟩ := own_form hrow
    clear hv hrow hRW hsz
    gi_wp2_with (gi_at_builtin; refine wpListIn_append_own _ rfl _ _ 42 rfl wx.heap.size 57 i0 (.agg #[.string ⟨#[]⟩, .string ⟨#[]⟩]) 2 32 Tryz.underlying42 hi hz0 hz1 hz2 rfl (by decide) _ _ _ rfl (HO.out.2.1.alloc _) ⟨W.heap.size, 0, none⟩ 1 1 [.string x.1, .string x.2] rfl rfl (cell_two_new _ _ _ _) (by simp [Value.oneCell']) (by unfold maxLen; omega) (by omega) (by have := HO.out.2.2.2; simp; omega) ?_; intro v' w1 hown' hgrow _; obtain ⟨g', cap', rfl⟩ := ownsRow_succ hown'; obtain ⟨hv1, hv2, hr2, hk2, hb2, hR2, hs2⟩ := appendedP hgx1 HO.out.1 HO.out.2.1 HO.out.2.2.1 HO.out.2.2.2 hgx hown' hgrow; have HN := Lib.hid (And.intro hv2 (And.intro hr2 (And.intro hk2 (And.intro hb2 (And.intro hR2 hs2))))); have hc1 := hv1.cell 0; have hf1 := hv1.frozen 0; have hl1 := hv1.lt; simp at hc1; clear hv1 hv2 hr2 hk2 hb2 hR2 hs2 hown' hgrow)
    exact ⟨HN.out.2.2.1, HN.out.2.2.2.1, ⟨_, HN.out.1, by rw [flat_snoc]; simpa using HN.out.2.1⟩, HN.out.2.2.2.2.1, HN.out.2.2.2.2.2⟩
  case done =>
    rintro D xs W hD rfl ⟨⟨v, h1, h2⟩, h3, h4⟩ hk
    exact HQ.out D v _ _ _ _ _ _ _ _ _ _ W hD h1 h2 h3 hk
  case stop =>
    rintro D c pre W hD hsp hx hk
    exact absurd hsp hx
end Go.Proofs.YtkgflepgkhnclaaGreatDoor
namespace Go.Proofs.YtkgflepgkhnclaaGreatDoor
open Go.RowKit Go.Shelf
set_option linter.unusedVariables false
set_option linter.unusedSimpArgs false

/-- What is in the book of a tenant. -/
def pairsN (M : Mdl) (t : Int) : List Kv := if 1 ≤ t ∧ t ≤ 16 then (match (M t.toNat).bk with | some B => B.l | none => []) else []
def PairsEnd (l : List Kv) (w : World) (e : Ending) (w' : World) : Prop :=
  ∃ A c, e = .returned (.slice A l.length c) ∧ w'.ownsRow w.heap.size 57 2 (.slice A l.length c) l.length (l.flatMap pairR) ∧ Below w.heap.size w w'
set_option maxHeartbeats 1600000 in
theorem pairs_tail (B : Bk) (w : World) (gx D lo : Nat) (v : Value) {u0 u1 u2 u3 u4 u6 u7 u8 u9 u10 u11 u12 u13 u14 u15 u16 u17 u18 u19 u20 u21 u22 u23 u24 u25 u26 u27 u28 u29 u30 u31 u32 u33 u34 u35 u36 u37 u38 u39 u40 u41 u42 u43 u44 : Value} (W : World) (hD : lo ≤ D) (hlo : w.heap.size ≤ lo) (hx : Blk W gx 42 #[v])
    (hr : W.ownsRow lo 57 2 v B.l.length (B.l.flatMap pairR)) (hb : Below w.heap.size w W) (hd : W.heap[D]? = some (.deferred (some []))) :
    Code.wp Tryz.prog (part Tryz.f8 [1, 1, 1, 1]) (bodyPostM Fence.wide 10 Tryz.prog Tryz.f8 (PairsEnd B.l w)) ⟨#[u0, u1, u2, u3, u4, .pointer (some ⟨gx, 0, none⟩), u6, u7, u8, u9, u10, u11, u12, u13, u14, u15, u16, u17, u18, u19, u20, u21, u22, u23, u24, u25, u26, u27, u28, u29, u30, u31, u32, u33, u34, u35, u36, u37, u38, u39, u40, u41, u42, u43, u44], [{ target := .collected D, args := #[] }]⟩ W := by
  conv => arg 2; whnf
  obtain ⟨A, c, rfl, hA0, hnc, hcm⟩ := own_form hr
  have e0 := hx.cell 0
  simp at e0
  have HS := Lib.hid (And.intro hr (And.intro hb hd))
  clear hr hb hd hx
  go_wp2
  obtain ⟨hr, hb, hd⟩ := HS.out
  have hown : ∀ r, (some D : Option Nat) = some r → ∃ o : Obj, W.heap[r]? = some o ∧ o.isCells = false := fun r e => by injection e with e; subst e; exact ⟨_, hd, rfl⟩
  have t4 := ownsRow_own hr (grownBy_putObj' W D (.deferred none)) hown
  refine ⟨by simp, .inl ⟨_, _, rfl, run_takeDeferred hd, ?_⟩⟩
  refine ⟨.slice A B.l.length c, by simp [results, Tryz.results8, go_sem], A, c, rfl, own_base t4 hlo, ?_⟩
  exact hb.trans ⟨rfl, rfl, rfl, by simp [World.putObj], fun k hk => World.putObj_heap_other (by omega)⟩
set_option maxHeartbeats 3200000 in
set_option maxRecDepth 100000 in
theorem Pairs_m {w : World} {p : Nat} {M : Mdl} {T : Ows} (hm : ModelAt w p M T) (t : Int) (hsm : Small M) : Calls Tryz.prog 8 #[.pointer (some ⟨p, 0, none⟩), .int .i64 t] w (PairsEnd (pairsN M t) w) := by
  have HN := Lib.hid (none_m hm)
  by_cases h1 : t < 1
  · have HE : Hid (pairsN M t = []) := Lib.hid (by unfold pairsN; rw [if_neg (by omega)])
    clear hm
    go_enter Tryz.func8, Tryz.ntmps8
    go_wp2_with fail
    refine HN.out.mono ?_
    rintro e w1 ⟨rfl, rfl⟩
    go_wp2
    go_ret
    rw [HE.out]
    exact ⟨none, 0, rfl, own_nil _ _, Below.refl _ _⟩
  by_cases h2 : 16 < t
  · have HE : Hid (pairsN M t = []) := Lib.hid (by unfold pairsN; rw [if_neg (by omega)])
    have h2' : t > 16 := h2
    clear hm
    go_enter Tryz.func8, Tryz.ntmps8
    go_wp2_with fail
    refine HN.out.mono ?_
    rintro e w1 ⟨rfl, rfl⟩
    go_wp2
    go_ret
    rw [HE.out]
    exact ⟨none, 0, rfl, own_nil _ _, Below.refl _ _⟩
  obtain ⟨n, rfl⟩ : ∃ n : Nat, t = n := ⟨t.toNat, by omega⟩
  have hn17 : n < 17 := by omega
  have c3 := hm.ptr hn17
  have h2' : ¬ ((n : Int) > 16) := by omega
  have hq1 : (0 : Int) ≤ (n : Int) := by omega
  have hq2 : (n : Int) < 17 := by omega
  unfold Ten.ptr at c3
  cases hB : (M n).bk with
  | none =>
    have HE : Hid (pairsN M (n : Int) = []) := Lib.hid (by unfold pairsN; rw [if_pos (by omega), Int.toNat_natCast, hB])
    rw [hB] at c3
    simp only [Option.map_none] at c3
    clear hm hB
    go_enter Tryz.func8, Tryz.ntmps8
    go_wp2_with fail
    refine HN.out.mono ?_
    rintro e w1 ⟨rfl, rfl⟩
    go_wp2
    go_ret
    rw [HE.out]
    exact ⟨none, 0, rfl, own_nil _ _, Below.refl _ _⟩
  | some B =>
    have HE : Hid (pairsN M (n : Int) = B.l) := Lib.hid (by unfold pairsN; rw [if_pos (by omega), Int.toNat_natCast, hB])
    have hbk := hm.bk n B hn17 hB
    have hl := hsm n B hB
    rw [hB] at c3
    simp only [Option.map_some] at c3
    rw [HE.out]
    have HB := Lib.hid hbk
    clear hm hB hbk
    refine (callsIn_wide (n := 10)).1 (callsIn_of_wp_marks Tryz.func8 rfl trivial (wpIn_wide.2 ?_) rfl)
    simp only [Tryz.ntmps8, List.size_toArray, List.length_cons, List.length_nil, Nat.reduceAdd, Nat.reduceSub, Array.replicate_succ, Array.replicate_zero, List.push_toArray, List.append_toArray, List.nil_append, List.cons_append]
    refine wp_seq_k fun K0 hK => ?_
    have HK0 := Lib.hid hK
    clear hK
    go_wp2_with fail
    refine HK0.out _ _ ?_
    clear HK0
    refine wp_seq_k fun K1 hK => ?_
    have HK1 := Lib.hid hK
    clear hK
    go_wp2_with fail
    refine HN.out.mono ?_
    rintro e w1 ⟨rfl, rfl⟩
    go_wp2_with fail
    refine HK1.out _ _ ?_
    clear HK1
    refine wp_seq_k fun K2 hK => ?_
    have HK2 := Lib.hid hK
    clear hK
    go_wp2_with fail
    refine HK2.out _ _ ?_
    clear HK2
    refine wp_seq_k fun K3 hK => ?_
    have HK3 := Lib.hid hK
    clear hK
    refine wp_seq_k fun K4 hK => ?_
    have HK4 := Lib.hid hK
    clear hK
    have b1 : Below w1.heap.size w1 (w1.alloc (.cells #[.slice none 0 0] 42)) := below_box _ _
    have c3' : (w1.alloc (.cells #[.slice none 0 0] 42)).cell? ⟨p, 1 + n * 15 + 3, none⟩ = some (.pointer (some ⟨(T n).b, 0, none⟩)) := (b1.cell (World.block_lt_of_cell? w1 _ c3)).trans c3
    have q5 := Blk.new w1 42 #[.slice none 0 0]
    have k1 := HB.out.below b1
    have b2 := below_alloc b1 (.cells #[.pointer (some ⟨(T n).b, 0, none⟩)] 73)
    have q6 := q5.alloc (.cells #[.pointer (some ⟨(T n).b, 0, none⟩)] 73)
    have k2 := HB.out.below b2
    have e9 : ((w1.alloc (.cells #[.slice none 0 0] 42)).alloc (.cells #[.pointer (some ⟨(T n).b, 0, none⟩)] 73)).cell? ⟨w1.heap.size + 1, 0, none⟩ = some (.pointer (some ⟨(T n).b, 0, none⟩)) := by
      simp
    have HX := Lib.hid (And.intro b2 (And.intro q6 (And.intro k2 e9)))
    clear b1 b2 q5 q6 k1 k2 e9 c3
    go_wp2_with fail
    refine (all_b _ _).mono ?_
    rintro e w2 ⟨rfl, rfl⟩
    go_wp2_with fail
    refine HK4.out _ _ ?_
    clear HK4
    generalize (w1.alloc (.cells #[.slice none 0 0] 42)).alloc (.cells #[.pointer (some ⟨(T n).b, 0, none⟩)] 73) = wx at *
    have hxx := HX.out
    have hs1 := hxx.1.size
    have hs2 := hxx.2.1.lt
    refine pairs_loop w1.heap.size (w1.heap.size + 1) (T n) B w1 hl hxx.2.2.1 hxx.2.2.2 hxx.2.1 (Nat.le_refl _) hxx.1 ?_
    intro D v _ _ _ _ _ _ _ _ _ _ W hD z1 z2 z3 z4
    refine HK3.out _ _ ?_
    exact pairs_tail B w1 w1.heap.size D wx.heap.size v W hD (by omega) z1 z2 z3 z4
end Go.Proofs.YtkgflepgkhnclaaGreatDoor
namespace Go.Proofs.YtkgflepgkhnclaaGreatDoor
open Go.RowKit Go.Shelf
set_option linter.unusedVariables false
set_option linter.unusedSimpArgs false

instance : DecidableEq Hd := fun a b => decidable_of_iff (a.t = b.t ∧ a.g = b.g ∧ a.r = b.r) ⟨fun ⟨h1, h2, h3⟩ => by cases a; cases b; simp_all, fun h => by subst h; exact ⟨rfl, rfl, rfl⟩⟩
theorem drewB {B : Nat} {w w' : World} (h : Below B w w') (n : Nat) : Below B w (w'.drewN n) := ⟨h.os, h.tape, h.output, h.size, h.block⟩
theorem bytes_ext {a b : ByteArray} (h : a.toList = b.toList) : a = b := by
  rw [ByteArray.toList_eq, ByteArray.toList_eq] at h
  obtain ⟨⟨x⟩⟩ := a
  obtain ⟨⟨y⟩⟩ := b
  simp only at h
  rw [h]
theorem bytes_iff {a b : ByteArray} : a.toList = b.toList ↔ a = b := ⟨bytes_ext, fun h => by rw [h]⟩
theorem beqBytes (a b : ByteArray) : (a.toList == b.toList) = decide (a = b) := by
  by_cases h : a = b
  · subst h; simp
  · rw [decide_eq_false h]
    exact beq_false_of_ne (fun e => h (bytes_ext e))
theorem neqPair (x y : Kv) (W : World) : (binOp .neq 57 (.agg #[.string x.1, .string x.2]) (.agg #[.string y.1, .string y.2])).run Tryz.prog W = .ok (.bool (decide (x ≠ y))) W := by
  have u0 := Tryz.underlying9
  have a0 := Tryz.isAgg9
  have z0 := Tryz.sizeOf9
  have hS : Tryz.prog.underlying 57 = some (.struct (Tryz.prog.fieldsOf 57)) := by kernel_rfl
  have hp : Tryz.prog.stoodInHeld 57 = false := by kernel_rfl
  rw [run_neq_struct, show (10000 : Nat) = 9999 + 1 from rfl, run_equalIn_agg W 9999 57 _ _ hS hp]
  clear hS
  simp only [Program.fieldsOf, Tryz.underlying57]
  go_simp
  obtain ⟨a, b⟩ := x
  obtain ⟨c, d⟩ := y
  simp only [beqBytes]
  by_cases h1 : a = c <;> by_cases h2 : b = d <;> simp [bytes_iff, h1, h2]
theorem eqlHandle (x y : Hd) (W : World) : (binOp .eql 37 (.agg #[.int .i64 x.t, .int .u32 x.g, .int .u8 x.r]) (.agg #[.int .i64 y.t, .int .u32 y.g, .int .u8 y.r])).run Tryz.prog W = .ok (.bool (decide (x = y))) W := by
  have u0 := Tryz.underlying3
  have a0 := Tryz.isAgg3
  have z0 := Tryz.sizeOf3
  have u1 := Tryz.underlying34
  have a1 := Tryz.isAgg34
  have z1 := Tryz.sizeOf34
  have u2 := Tryz.underlying35
  have a2 := Tryz.isAgg35
  have z2 := Tryz.sizeOf35
  have hS : Tryz.prog.underlying 37 = some (.struct (Tryz.prog.fieldsOf 37)) := by kernel_rfl
  have hp : Tryz.prog.stoodInHeld 37 = false := by kernel_rfl
  rw [run_eql_struct, show (10000 : Nat) = 9999 + 1 from rfl, run_equalIn_agg W 9999 37 _ _ hS hp]
  clear hS
  simp only [Program.fieldsOf, Tryz.underlying37]
  go_simp
  obtain ⟨a, b, c⟩ := x
  obtain ⟨d, e, f⟩ := y
  by_cases h1 : a = d <;> by_cases h2 : b = e <;> by_cases h3 : c = f <;> simp [h1, h2, h3]
theorem guardPair : Tryz.prog.eqGuardType Tryz.prog.depth 57 = false := by kernel_rfl
theorem guardHd : Tryz.prog.eqGuardType Tryz.prog.depth 37 = false := by kernel_rfl
def SameEnd (b : Bool) (w : World) (e : Ending) (w' : World) : Prop := e = .returned (.bool b) ∧ ∃ n, w' = w.drewN n
theorem pairR_one (x : Kv) : (pairR x).length = 2 := rfl
set_option maxHeartbeats 1600000 in
theorem pairs_eq (A B : Option Addr) (ca cb : Nat) (ss ts : List Kv) (W1 W2 : Nat) (w : World) (hs : ss.length ≤ 1000000) (ht : ts.length ≤ 1000000) (hA : Reads w W1 2 A ss.length (ss.flatMap pairR)) (hB : Reads w W2 2 B ts.length (ts.flatMap pairR)) :
    Calls Tryz.prog 13 #[.slice A ss.length ca, .slice B ts.length cb] w (SameEnd (decide (ss = ts)) w) := by
  have HA := Lib.hid hA
  have HB := Lib.hid hB
  clear hA hB
  by_cases hl : ss.length = ts.length
  · have hlb : ((ss.length : Int) != (ts.length : Int)) = false := by simp [hl]
    have HL := Lib.hid hl
    have hle : ss.length ≤ ts.length := by omega
    clear hl
    go_enter Tryz.func13, Tryz.ntmps13
    go_wp2_with fail
    clear hlb
    go_loopw [13] (fun i wr => ∃ (k : Nat) (n : Nat), k ≤ ss.length ∧ i = .int .i64 k ∧ Hid (wr = w.drewN n) ∧ Hid (ss.take k = ts.take k)) (fun i _ => ss.length - (intOf i).toNat)
    case atStart => exact ⟨0, 0, by omega, rfl, Lib.hid rfl, Lib.hid rfl⟩
    case round =>
      obtain ⟨k, n, hk, rfl, hw, he⟩ := hrel
      by_cases hlt : k < ss.length
      · obtain ⟨ad, rfl, hab, hc⟩ := row_cells pairR_one HA.out rfl hlt
        obtain ⟨bd, rfl, hbb, hd⟩ := row_cells pairR_one HB.out rfl (show k < ts.length by omega)
        have hsplit := list_split HL.out hlt he.out
        have hcc : ∀ j u, (pairR ss[k])[j]? = some u → wr.cell? ((ad.add (k * 2)).add j) = some u := by rw [hw.out]; exact hc
        have hdd : ∀ j u, (pairR (ts[k]'(by omega)))[j]? = some u → wr.cell? ((bd.add (k * 2)).add j) = some u := by rw [hw.out]; exact hd
        clear hc hd
        generalize ss[k] = x at hcc hsplit
        generalize ts[k]'(by omega) = y at hdd hsplit
        have q0 : wr.cell? (ad.add (k * 2)) = _ := hcc 0 _ rfl
        have q1 : wr.cell? ⟨(ad.add (k * 2)).block, (ad.add (k * 2)).off + 1, none⟩ = _ := hcc 1 _ rfl
        have p0 : wr.cell? (bd.add (k * 2)) = _ := hdd 0 _ rfl
        have p1 : wr.cell? ⟨(bd.add (k * 2)).block, (bd.add (k * 2)).off + 1, none⟩ = _ := hdd 1 _ rfl
        have i1 : (0 : Int) ≤ (k : Int) := by omega
        have i2 : (k : Int) < (ss.length : Int) := by omega
        have i3 : (k : Int) < (ts.length : Int) := by omega
        have HSp := Lib.hid hsplit
        clear hsplit hcc hdd
        have hm := guardPair
        by_cases hxy : x = y
        · have hnq : ∀ W, (binOp .neq 57 (.agg #[.string x.1, .string x.2]) (.agg #[.string y.1, .string y.2])).run Tryz.prog W = .ok (.bool false) W := fun W => by rw [neqPair, decide_eq_false (by simp [hxy])]
          have hT := HSp.out.1 hxy
          have HT := Lib.hid hT
          clear hT hxy HSp
          go_wp2_with fail
          go_quiet (fail)
          go_wp2
          go_roundw
          case rel => exact ⟨k + 1, _, by omega, by go_num, Lib.hid (by rw [hw.out, World.drewN_drewN]), Lib.hid HT.out⟩
          case measure => simp [intOf]; omega
        · have hnq : ∀ W, (binOp .neq 57 (.agg #[.string x.1, .string x.2]) (.agg #[.string y.1, .string y.2])).run Tryz.prog W = .ok (.bool true) W := fun W => by rw [neqPair, decide_eq_true hxy]
          have hT := HSp.out.2 hxy
          have HT := Lib.hid hT
          clear hT hxy HSp
          go_wp2_with fail
          go_quiet (fail)
          go_wp2
          go_ret
          exact ⟨ret_bool (by rw [decide_eq_false HT.out]), _, by rw [hw.out, World.drewN_drewN]⟩
      · obtain rfl : k = ss.length := by omega
        have hT : ss = ts := by
          have h1 := he.out
          rw [List.take_length, HL.out, List.take_length] at h1
          exact h1
        have HT := Lib.hid hT
        clear hT
        go_wp2
        go_ret
        exact ⟨ret_bool (by rw [decide_eq_true HT.out]), n, hw.out⟩
  · have hlb : ((ss.length : Int) != (ts.length : Int)) = true := by simp; omega
    have hT : ss ≠ ts := fun e => hl (by rw [e])
    have HT := Lib.hid hT
    clear hl hT
    go_enter Tryz.func13, Tryz.ntmps13
    go_wp2
    go_ret
    exact ⟨ret_bool (by rw [decide_eq_false HT.out]), 0, rfl⟩

/-- The first that meets a condition. -/
def idxP {α : Type} (p : α → Bool) (i : Nat) : List α → Int
  | [] => -1
  | x :: xs => if p x then (i : Int) else idxP p (i + 1) xs
theorem idxP_neg {α : Type} (p : α → Bool) : ∀ (xs : List α) (i : Nat), decide (0 ≤ idxP p i xs) = xs.any p
  | [], _ => rfl
  | x :: xs, i => by
    unfold idxP
    rw [List.any_cons]
    cases hp : p x with
    | true => simp
    | false => simpa using idxP_neg p xs (i + 1)
theorem idxP_le {α : Type} (p : α → Bool) : ∀ (xs : List α) (i : Nat), -1 ≤ idxP p i xs ∧ idxP p i xs ≤ (i + xs.length : Nat)
  | [], _ => by simp [idxP]
  | x :: xs, i => by
    have h := idxP_le p xs (i + 1)
    unfold idxP
    split
    · simp only [List.length_cons]; omega
    · simp only [List.length_cons] at h ⊢; omega
def hdR (h : Hd) : List Value := [.int .i64 h.t, .int .u32 h.g, .int .u8 h.r]
theorem hdR_len (h : Hd) : (hdR h).length = 3 := rfl
set_option maxHeartbeats 1600000 in
theorem index_h (A : Option Addr) (c : Nat) (l : List Hd) (h : Hd) (W1 : Nat) (w : World) (hl : l.length ≤ 1000000) (hW : W1 ≤ w.heap.size) (hA : Reads w W1 3 A l.length (l.flatMap hdR)) :
    Calls Tryz.prog 32 #[.slice A l.length c, h.v] w fun e w' => e = .returned (.int .i64 (idxP (fun x => decide (h = x)) 0 l)) ∧ Below w.heap.size w w' := by
  have hb0 := (Below.refl w.heap.size w).alloc (Nat.le_refl _) (.cells h.cells 37)
  have hB := Blk.new w 37 h.cells
  have hA0 := hA.alloc hW (.cells h.cells 37)
  have HS := Lib.hid (And.intro hb0 (And.intro hB hA0))
  clear hb0 hB hA0 hA
  unfold Hd.v
  unfold Hd.cells at HS
  go_enter Tryz.func32, Tryz.ntmps32
  go_wp2_with fail
  go_loopw [8, 5] (fun i _ wr => ∃ (k : Nat) (n : Nat), k ≤ l.length ∧ i = .int .i64 k ∧ Hid (wr = (w.alloc (.cells #[.int .i64 h.t, .int .u32 h.g, .int .u8 h.r] 37)).drewN n) ∧ Hid (idxP (fun x => decide (h = x)) k (l.drop k) = idxP (fun x => decide (h = x)) 0 l)) (fun i _ _ => l.length - (intOf i).toNat)
  case atStart => exact ⟨0, 0, by omega, rfl, Lib.hid rfl, Lib.hid rfl⟩
  case round =>
    obtain ⟨k, n, hk, rfl, hw, he⟩ := hrel
    by_cases hlt : k < l.length
    · obtain ⟨ad, rfl, hab, hc⟩ := row_cells hdR_len HS.out.2.2 rfl hlt
      have hcc : ∀ j u, (hdR l[k])[j]? = some u → wr.cell? ((ad.add (k * 3)).add j) = some u := by rw [hw.out]; exact hc
      have hdr := List.drop_eq_getElem_cons hlt
      clear hc
      generalize l[k] = x at hcc hdr
      have q0 : wr.cell? (ad.add (k * 3)) = _ := hcc 0 _ rfl
      have q1 : wr.cell? ⟨(ad.add (k * 3)).block, (ad.add (k * 3)).off + 1, none⟩ = _ := hcc 1 _ rfl
      have q2 : wr.cell? ⟨(ad.add (k * 3)).block, (ad.add (k * 3)).off + 2, none⟩ = _ := hcc 2 _ rfl
      have p0 : wr.cell? ⟨w.heap.size, 0, none⟩ = some (.int .i64 h.t) := by rw [hw.out]; exact HS.out.2.1.cell 0
      have p1 : wr.cell? ⟨w.heap.size, 1, none⟩ = some (.int .u32 h.g) := by rw [hw.out]; exact HS.out.2.1.cell 1
      have p2 : wr.cell? ⟨w.heap.size, 2, none⟩ = some (.int .u8 h.r) := by rw [hw.out]; exact HS.out.2.1.cell 2
      have i1 : (0 : Int) ≤ (k : Int) := by omega
      have i2 : (k : Int) < (l.length : Int) := by omega
      have hm := guardHd
      have HE : Hid (idxP (fun x => decide (h = x)) 0 l = if h = x then (k : Int) else idxP (fun x => decide (h = x)) (k + 1) (l.drop (k + 1))) := Lib.hid (by rw [← he.out, hdr, idxP]; simp)
      clear he hdr hcc
      by_cases hxy : h = x
      · have hnq : ∀ W, (binOp .eql 37 (.agg #[.int .i64 h.t, .int .u32 h.g, .int .u8 h.r]) (.agg #[.int .i64 x.t, .int .u32 x.g, .int .u8 x.r])).run Tryz.prog W = .ok (.bool true) W := fun W => by rw [eqlHandle, decide_eq_true hxy]
        have HE2 : Hid (idxP (fun x => decide (h = x)) 0 l = (k : Int)) := Lib.hid (by rw [HE.out, if_pos hxy])
        clear hxy HE
        go_wp2_with fail
        go_quiet (fail)
        go_wp2
        go_ret
        refine ⟨ret_int HE2.out.symm, ?_⟩
        rw [hw.out]
        exact drewB (drewB HS.out.1 _) _
      · have hnq : ∀ W, (binOp .eql 37 (.agg #[.int .i64 h.t, .int .u32 h.g, .int .u8 h.r]) (.agg #[.int .i64 x.t, .int .u32 x.g, .int .u8 x.r])).run Tryz.prog W = .ok (.bool false) W := fun W => by rw [eqlHandle, decide_eq_false hxy]
        have HE2 : Hid (idxP (fun x => decide (h = x)) (k + 1) (l.drop (k + 1)) = idxP (fun x => decide (h = x)) 0 l) := Lib.hid (by rw [HE.out, if_neg hxy])
        clear hxy HE
        go_wp2_with fail
        go_quiet (fail)
        go_wp2
        go_roundw
        case rel => exact ⟨k + 1, _, by omega, by go_num, Lib.hid (by rw [hw.out, World.drewN_drewN]), HE2⟩
        case measure => simp [intOf]; omega
    · obtain rfl : k = l.length := by omega
      go_wp2
      go_ret
      refine ⟨ret_int ?_, ?_⟩
      · rw [← he.out, List.drop_length]; rfl
      · rw [hw.out]
        exact drewB HS.out.1 _
theorem contains_h (A : Option Addr) (c : Nat) (l : List Hd) (h : Hd) (W1 : Nat) (w : World) (hl : l.length ≤ 1000000) (hW : W1 ≤ w.heap.size) (hA : Reads w W1 3 A l.length (l.flatMap hdR)) :
    Calls Tryz.prog 10 #[.slice A l.length c, h.v] w (BoolB (l.any (fun x => decide (h = x))) w) := by
  have hb0 := (Below.refl w.heap.size w).alloc (Nat.le_refl _) (.cells h.cells 37)
  have hB := Blk.new w 37 h.cells
  have HX := Lib.hid (index_h A c l h W1 (w.alloc (.cells h.cells 37)) hl (by simp; omega) (hA.alloc hW _))
  have hle := (idxP_le (fun x => decide (h = x)) l 0)
  have HE : Hid (decide (0 ≤ idxP (fun x => decide (h = x)) 0 l) = l.any (fun x => decide (h = x))) := Lib.hid (idxP_neg _ _ _)
  have HS := Lib.hid (And.intro hb0 hB)
  clear hb0 hB hA
  unfold Hd.v Hd.cells at *
  have c0 := HS.out.2.cell 0
  have c1 := HS.out.2.cell 1
  have c2 := HS.out.2.cell 2
  simp at c0 c1 c2
  generalize idxP (fun x => decide (h = x)) 0 l = q at *
  go_enter Tryz.func10, Tryz.ntmps10
  go_wp2_with fail
  refine HX.out.mono ?_
  rintro e w1 ⟨rfl, hb⟩
  have HB1 := Lib.hid (below_trans HS.out.1 hb)
  clear hb
  go_wp2
  go_ret
  exact ⟨ret_bool (by rw [← HE.out]), HB1.out⟩
end Go.Proofs.YtkgflepgkhnclaaGreatDoor
namespace Go.Proofs.YtkgflepgkhnclaaGreatDoor
open Go.RowKit Go.Shelf
set_option linter.unusedVariables false
set_option linter.unusedSimpArgs false

set_option maxHeartbeats 1600000 in
theorem indexGood {w : World} {p : Nat} {M : Mdl} {T : Ows} (hm : ModelAt w p M T) (A : Option Addr) (c : Nat) (l : List Hd) (W1 : Nat) (hl : l.length ≤ 1000000) (hW : W1 ≤ w.heap.size) (hA : Reads w W1 3 A l.length (l.flatMap hdR)) :
    Calls Tryz.prog 34 #[.slice A l.length c, .func (.func 9) #[.pointer (some ⟨p, 0, none⟩)] #[]] w fun e w' => e = .returned (.int .i64 (idxP (goodN M) 0 l)) ∧ Below w.heap.size w w' := by
  have HS := Lib.hid (And.intro hm hA)
  clear hA hm
  go_enter Tryz.func34, Tryz.ntmps34
  go_wp2_with fail
  go_loopw [8, 5] (fun i _ wr => ∃ (k : Nat), k ≤ l.length ∧ i = .int .i64 k ∧ Hid (Below w.heap.size w wr) ∧ Hid (idxP (goodN M) k (l.drop k) = idxP (goodN M) 0 l)) (fun i _ _ => l.length - (intOf i).toNat)
  case atStart => exact ⟨0, by omega, rfl, Lib.hid (Below.refl _ _), Lib.hid rfl⟩
  case round =>
    obtain ⟨k, hk, rfl, hw, he⟩ := hrel
    by_cases hlt : k < l.length
    · obtain ⟨ad, rfl, hab, hc⟩ := row_cells hdR_len (HS.out.2.below (hw.out.mono hW)) rfl hlt
      have hdr := List.drop_eq_getElem_cons hlt
      have hgl : l[k] ∈ l := List.getElem_mem _
      generalize l[k] = x at hc hdr
      have q0 : wr.cell? (ad.add (k * 3)) = _ := hc 0 _ rfl
      have q1 : wr.cell? ⟨(ad.add (k * 3)).block, (ad.add (k * 3)).off + 1, none⟩ = _ := hc 1 _ rfl
      have q2 : wr.cell? ⟨(ad.add (k * 3)).block, (ad.add (k * 3)).off + 2, none⟩ = _ := hc 2 _ rfl
      have i1 : (0 : Int) ≤ (k : Int) := by omega
      have i2 : (k : Int) < (l.length : Int) := by omega
      have HE : Hid (idxP (goodN M) 0 l = if goodN M x then (k : Int) else idxP (goodN M) (k + 1) (l.drop (k + 1))) := Lib.hid (by rw [← he.out, hdr, idxP])
      have HG := Lib.hid (good_m (HS.out.1.below hw.out) x)
      unfold Hd.v at HG
      clear he hdr hc hgl
      cases hg : goodN M x with
      | true =>
        rw [hg] at HE HG
        have HE2 : Hid (idxP (goodN M) 0 l = (k : Int)) := Lib.hid (by rw [HE.out, if_pos rfl])
        clear hg HE
        go_wp2_with (go_at_call 9; refine HG.out.mono ?_; rintro e w2 ⟨rfl, hb2⟩; have HB2 := Lib.hid (below_trans hw.out hb2); clear hb2)
        go_ret
        exact ⟨ret_int HE2.out.symm, HB2.out⟩
      | false =>
        rw [hg] at HE HG
        have HE2 : Hid (idxP (goodN M) (k + 1) (l.drop (k + 1)) = idxP (goodN M) 0 l) := Lib.hid (by rw [HE.out, if_neg (by decide)])
        clear hg HE
        go_wp2_with (go_at_call 9; refine HG.out.mono ?_; rintro e w2 ⟨rfl, hb2⟩; have HB2 := Lib.hid (below_trans hw.out hb2); clear hb2)
        go_roundw
        case rel => exact ⟨k + 1, by omega, by go_num, HB2, HE2⟩
        case measure => simp [intOf]; omega
    · obtain rfl : k = l.length := by omega
      go_wp2
      go_ret
      refine ⟨ret_int ?_, hw.out⟩
      rw [← he.out, List.drop_length]; rfl
theorem containsGood {w : World} {p : Nat} {M : Mdl} {T : Ows} (hm : ModelAt w p M T) (A : Option Addr) (c : Nat) (l : List Hd) (W1 : Nat) (hl : l.length ≤ 1000000) (hW : W1 ≤ w.heap.size) (hA : Reads w W1 3 A l.length (l.flatMap hdR)) :
    Calls Tryz.prog 12 #[.slice A l.length c, .func (.func 9) #[.pointer (some ⟨p, 0, none⟩)] #[]] w (BoolB (l.any (goodN M)) w) := by
  have HX := Lib.hid (indexGood hm A c l W1 hl hW hA)
  have HE : Hid (decide (0 ≤ idxP (goodN M) 0 l) = l.any (goodN M)) := Lib.hid (idxP_neg _ _ _)
  have hle := idxP_le (goodN M) l 0
  clear hm hA
  generalize idxP (goodN M) 0 l = q at *
  go_enter Tryz.func12, Tryz.ntmps12
  go_wp2_with fail
  refine HX.out.mono ?_
  rintro e w1 ⟨rfl, hb⟩
  have HB1 := Lib.hid hb
  clear hb
  go_wp2
  go_ret
  exact ⟨ret_bool (by rw [← HE.out]), HB1.out⟩
end Go.Proofs.YtkgflepgkhnclaaGreatDoor
namespace Go.Proofs.YtkgflepgkhnclaaGreatDoor
open Go.RowKit
set_option linter.unusedVariables false
set_option linter.unusedSimpArgs false

/-- An entry. -/
structure Ent where
  ses : Int
  r : Req
def Ent.row (e : Ent) : List Value := .int .i64 e.ses :: e.r.row
theorem Ent.row_len (e : Ent) : e.row.length = 13 := rfl
theorem ent_one (e : Ent) : ∀ u ∈ e.row, u.oneCell' = true := by simp [Ent.row, Req.row, Value.oneCell']
theorem own_blk_ne {w : World} {base size n g : Nat} {e t : TypeId} {v : Value} {xs : List Value} {cs : Array Value} (h : w.ownsRow base e size v n xs) (hg : Blk w g t cs) (hne : e ≠ t) : v.ownBlock ≠ some g := by
  rcases h.2 with ⟨h0, _⟩ | ⟨g', cap, cur, hv, _, hh, _⟩
  · rw [h0]; simp [Value.ownBlock]
  · rw [hv]
    intro he
    simp only [Value.ownBlock, Option.some.injEq] at he
    subst he
    unfold Blk at hg
    rw [hh] at hg
    simp only [Option.some.injEq, Obj.cells.injEq] at hg
    exact hne hg.2.1
/-- A code of six numbers. -/
structure Cod where
  s : Int
  d : Int
  k : Int
  v : Int
  h : Int
  x : Int
def Cod.row (c : Cod) : List Value := [.int .u8 c.s, .int .u8 c.d, .int .u8 c.k, .int .u8 c.v, .int .u8 c.h, .int .u8 c.x]
structure Cod.ok (c : Cod) : Prop where
  s : 0 ≤ c.s ∧ c.s ≤ 255
  d : 0 ≤ c.d ∧ c.d ≤ 255
  k : 0 ≤ c.k ∧ c.k ≤ 255
  v : 0 ≤ c.v ∧ c.v ≤ 255
  h : 0 ≤ c.h ∧ c.h ≤ 255
  x : 0 ≤ c.x ∧ c.x ≤ 255
theorem Cod.row_len (c : Cod) : c.row.length = 6 := rfl

/-- A request as Made makes it: small numbers, short texts. -/
structure SmallR (r : Req) : Prop where
  deed : 1 ≤ r.deed ∧ r.deed ≤ 10
  ten : 0 ≤ r.ten ∧ r.ten ≤ 2
  gen : 0 ≤ r.gen ∧ r.gen ≤ 2
  rig : 0 ≤ r.rig ∧ r.rig ≤ 7
  key : r.key.size ≤ 22
  val : r.val.size ≤ 2
  old : r.old.size ≤ 2
  lim : 0 ≤ r.lim ∧ r.lim ≤ 4
  tenant : 0 ≤ r.tenant ∧ r.tenant ≤ 2
  qk : 0 ≤ r.qk ∧ r.qk ≤ 9
  qb : 0 ≤ r.qb ∧ r.qb ≤ 90
  rights : 0 ≤ r.rights ∧ r.rights ≤ 8
theorem SmallR.ok {r : Req} (h : SmallR r) : r.ok := by
  obtain ⟨h1, h2, h3, h4, h5, h6, h7, h8, h9, h10, h11, h12⟩ := h
  exact ⟨⟨by omega, by omega⟩, ⟨by omega, by omega⟩, ⟨by omega, by omega⟩, ⟨by omega, by omega⟩, by omega, by omega, by omega, ⟨by omega, by omega⟩, ⟨by omega, by omega⟩, ⟨by omega, by omega⟩, ⟨by omega, by omega⟩, ⟨by omega, by omega⟩⟩

theorem own_farM {w : World} {base size n g : Nat} {e : TypeId} {v : Value} {xs : List Value} (h : w.ownsRow base e size v n xs) (hg : v.ownBlock ≠ some g) (p : Nat) (u : Value) : (w.setCell ⟨g, p, none⟩ u).ownsRow base e size v n xs := by
  refine ⟨h.1, ?_⟩
  rcases h.2 with h0 | ⟨g', cap, cur, hv, hb, hh, rest⟩
  · exact Or.inl h0
  · refine Or.inr ⟨g', cap, cur, hv, hb, ?_, rest⟩
    refine (Below.heap_setCell w ⟨g, p, none⟩ u g' ?_).trans hh
    intro e
    simp only at e
    exact hg (by rw [hv, e]; rfl)

/-- The words that keys are taken from. -/
def kws : Array Value := #[.string ⟨#[97]⟩, .string ⟨#[98]⟩, .string ⟨#[97, 98]⟩, .string ⟨#[]⟩, .string ⟨#[97, 0]⟩, .string ⟨#[97, 98, 99, 100]⟩, .string ⟨#[97, 99]⟩, .string ⟨#[98]⟩]

/-- What holds ahead of a request's making. -/
def M0 (w : World) (gk gc : Nat) (v : Value) (n : Nat) (xs : List Value) (c : Cod) (W : World) : Prop :=
  Blk W gk 9 kws ∧ Blk W gc 95 c.row.toArray ∧ W.ownsRow w.heap.size 41 13 v n xs ∧ Below w.heap.size w W
/-- What holds in a round's midst. -/
def MIn (w : World) (gk gc gr : Nat) (v : Value) (n : Nat) (xs : List Value) (c : Cod) (r : Req) (W : World) : Prop :=
  M0 w gk gc v n xs c W ∧ Blk W gr 39 r.row.toArray ∧ w.heap.size ≤ gr
theorem M0.alloc {w W : World} {gk gc n : Nat} {v : Value} {xs : List Value} {c : Cod} (h : M0 w gk gc v n xs c W) (o : Obj) : M0 w gk gc v n xs c (W.alloc o) :=
  ⟨h.1.alloc o, h.2.1.alloc o, h.2.2.1.alloc o, below_alloc h.2.2.2 o⟩
theorem MIn.alloc {w W : World} {gk gc gr n : Nat} {v : Value} {xs : List Value} {c : Cod} {r : Req} (h : MIn w gk gc gr v n xs c r W) (o : Obj) : MIn w gk gc gr v n xs c r (W.alloc o) :=
  ⟨h.1.alloc o, h.2.1.alloc o, h.2.2⟩
theorem blk_ne {w : World} {g g' : Nat} {t t' : TypeId} {cs cs' : Array Value} (h : Blk w g t cs) (h' : Blk w g' t' cs') (hne : t ≠ t') : g ≠ g' := by
  rintro rfl
  unfold Blk at h h'
  rw [h] at h'
  simp only [Option.some.injEq, Obj.cells.injEq] at h'
  exact hne h'.2.1
theorem MIn.store {w W : World} {gk gc gr n : Nat} {v : Value} {xs : List Value} {c : Cod} {r : Req} (h : MIn w gk gc gr v n xs c r W) (i : Nat) {u : Value} {r' : Req} (e : r.row.toArray.setIfInBounds i u = r'.row.toArray) :
    MIn w gk gc gr v n xs c r' (W.setCell ⟨gr, i, none⟩ u) := by
  obtain ⟨⟨h1, h2, h3, h4⟩, h5, h6⟩ := h
  refine ⟨⟨h1.far (p := ⟨gr, i, none⟩) (blk_ne h1 h5 (by decide)) u, h2.far (p := ⟨gr, i, none⟩) (blk_ne h2 h5 (by decide)) u, own_farM h3 (own_blk_ne h3 h5 (by decide)) i u, h4.setCell (p := ⟨gr, i, none⟩) h6 u⟩, ?_, h6⟩
  have := h5.set_ i u
  rw [e] at this
  exact this
theorem cod_cells {c : Cod} {W : World} {g : Nat} {t : TypeId} (h : Blk W g t c.row.toArray) :
    W.cell? ⟨g, 0, none⟩ = some (.int .u8 c.s) ∧ W.cell? ⟨g, 1, none⟩ = some (.int .u8 c.d) ∧ W.cell? ⟨g, 2, none⟩ = some (.int .u8 c.k) ∧ W.cell? ⟨g, 3, none⟩ = some (.int .u8 c.v) ∧ W.cell? ⟨g, 4, none⟩ = some (.int .u8 c.h) ∧ W.cell? ⟨g, 5, none⟩ = some (.int .u8 c.x) :=
  ⟨h.cell 0, h.cell 1, h.cell 2, h.cell 3, h.cell 4, h.cell 5⟩
theorem kw_cells {W : World} {g : Nat} {t : TypeId} (h : Blk W g t kws) :
    W.cell? ⟨g, 0, none⟩ = some (.string ⟨#[97]⟩) ∧ W.cell? ⟨g, 1, none⟩ = some (.string ⟨#[98]⟩) ∧ W.cell? ⟨g, 2, none⟩ = some (.string ⟨#[97, 98]⟩) ∧ W.cell? ⟨g, 3, none⟩ = some (.string ⟨#[]⟩) ∧ W.cell? ⟨g, 4, none⟩ = some (.string ⟨#[97, 0]⟩) ∧ W.cell? ⟨g, 5, none⟩ = some (.string ⟨#[97, 98, 99, 100]⟩) ∧ W.cell? ⟨g, 6, none⟩ = some (.string ⟨#[97, 99]⟩) ∧ W.cell? ⟨g, 7, none⟩ = some (.string ⟨#[98]⟩) :=
  ⟨h.cell 0, h.cell 1, h.cell 2, h.cell 3, h.cell 4, h.cell 5, h.cell 6, h.cell 7⟩
theorem and_one {x : Int} (h0 : 0 ≤ x) (h1 : x ≤ 255) : ∃ b : Int, bits BinOp.and IntKind.u8 x 1 = b ∧ 0 ≤ b ∧ b ≤ 1 := by
  have h := u8_and x 1 h0 (by omega) (by decide) (by decide)
  rw [show (1 : Int).toNat = 1 from rfl, Nat.and_one_is_mod] at h
  exact ⟨_, h, by omega, by omega⟩
theorem tmod_in {x : Int} (m : Int) (h0 : 0 ≤ x) (hm : 0 < m) : ∃ b : Int, x.tmod m = b ∧ 0 ≤ b ∧ b < m := ⟨_, rfl, Int.tmod_nonneg _ h0, Int.tmod_lt_of_pos _ hm⟩
end Go.Proofs.YtkgflepgkhnclaaGreatDoor
namespace Go.Proofs.YtkgflepgkhnclaaGreatDoor
open Go.RowKit
set_option linter.unusedVariables false
set_option linter.unusedSimpArgs false

set_option maxHeartbeats 3200000 in
set_option maxRecDepth 100000 in
theorem m14 {gk gc gr n : Nat} {v : Value} {xs : List Value} {c : Cod} {r : Req} {tn : Int} {u0 u1 u2 u5 u9 u10 u11 u12 u13 u14 u15 u16 u17 u18 u19 u20 u21 u22 u23 u24 u25 u26 u27 u28 u29 u30 u31 u32 u33 u34 u35 u36 u37 u38 u39 u40 u41 u42 u43 u44 u45 u46 u47 u48 u49 u50 u51 u52 u53 u54 u55 u56 u57 u58 u59 u60 u61 u62 u63 u64 u65 u66 u67 u68 u69 u70 u71 u72 u73 u74 u75 u76 u77 u78 u79 u80 u81 u82 u83 u84 u85 u86 u87 u88 u89 u90 u91 u92 u93 u94 u95 u96 u97 u98 u99 u100 u101 u102 u103 u104 u105 u106 u107 u108 u109 u110 u111 u112 u113 u114 u115 u116 u117 u118 u119 u120 u121 u122 u123 u124 u125 u126 u127 u128 u129 u130 u131 u132 u133 u134 u135 u136 u137 u138 u139 : Value} (w wx : World) {Q : Exit → Act → World → Prop} (hM : MIn w gk gc gr v n xs c r wx) (hr : SmallR r) (hc : c.ok) (htn : 1 ≤ tn ∧ tn ≤ 2)
    (hQ : ∀ (s65 s66 s67 s68 s69 s70 s71 s72 s73 : Value) (r' : Req) (W' : World), MIn w gk gc gr v n xs c r' W' → SmallR r' → Q .normal ⟨#[u0, u1, u2, v, .slice (some ⟨gk, 0, none⟩) 8 8, u5, .pointer (some ⟨gc, 0, none⟩), .pointer (some ⟨gr, 0, none⟩), .int .i64 tn, u9, u10, u11, u12, u13, u14, u15, u16, u17, u18, u19, u20, u21, u22, u23, u24, u25, u26, u27, u28, u29, u30, u31, u32, u33, u34, u35, u36, u37, u38, u39, u40, u41, u42, u43, u44, u45, u46, u47, u48, u49, u50, u51, u52, u53, u54, u55, u56, u57, u58, u59, u60, u61, u62, u63, u64, s65, s66, s67, s68, s69, s70, s71, s72, s73, u74, u75, u76, u77, u78, u79, u80, u81, u82, u83, u84, u85, u86, u87, u88, u89, u90, u91, u92, u93, u94, u95, u96, u97, u98, u99, u100, u101, u102, u103, u104, u105, u106, u107, u108, u109, u110, u111, u112, u113, u114, u115, u116, u117, u118, u119, u120, u121, u122, u123, u124, u125, u126, u127, u128, u129, u130, u131, u132, u133, u134, u135, u136, u137, u138, u139], []⟩ W') :
    Code.wp Tryz.prog (part Tryz.f7 [1, 1, 1, 0, 1, 2, 2, 1, 1, 0, 2, 1, 1, 1, 0, 2, 1, 3, 0]) Q ⟨#[u0, u1, u2, v, .slice (some ⟨gk, 0, none⟩) 8 8, u5, .pointer (some ⟨gc, 0, none⟩), .pointer (some ⟨gr, 0, none⟩), .int .i64 tn, u9, u10, u11, u12, u13, u14, u15, u16, u17, u18, u19, u20, u21, u22, u23, u24, u25, u26, u27, u28, u29, u30, u31, u32, u33, u34, u35, u36, u37, u38, u39, u40, u41, u42, u43, u44, u45, u46, u47, u48, u49, u50, u51, u52, u53, u54, u55, u56, u57, u58, u59, u60, u61, u62, u63, u64, u65, u66, u67, u68, u69, u70, u71, u72, u73, u74, u75, u76, u77, u78, u79, u80, u81, u82, u83, u84, u85, u86, u87, u88, u89, u90, u91, u92, u93, u94, u95, u96, u97, u98, u99, u100, u101, u102, u103, u104, u105, u106, u107, u108, u109, u110, u111, u112, u113, u114, u115, u116, u117, u118, u119, u120, u121, u122, u123, u124, u125, u126, u127, u128, u129, u130, u131, u132, u133, u134, u135, u136, u137, u138, u139], []⟩ wx := by
  conv => arg 2; whnf
  have HQ := Lib.hid hQ
  clear hQ
  obtain ⟨⟨hk1, hk2, hk3, hk4⟩, hk5, hk6⟩ := hM
  obtain ⟨q0, q1, q2, q3, q4, q5, q6, q7, q8, q9, q10, q11⟩ := req_cells hk5
  obtain ⟨c0, c1, c2, c3, c4, c5⟩ := cod_cells hk2
  have HM := Lib.hid (show MIn w gk gc gr v n xs c r wx from ⟨⟨hk1, hk2, hk3, hk4⟩, hk5, hk6⟩)
  have HR := Lib.hid hr
  have HC := Lib.hid hc
  clear hr hc
  have f1 := hk5.frozen 1
  have f2 := hk5.frozen 2
  have f3 := hk5.frozen 3
  obtain ⟨b, hb, hb0, hb1⟩ := and_one (x := c.h / 64) (by have := HC.out.h; omega) (by have := HC.out.h; omega)
  clear hk1 hk2 hk3 hk4 hk5 hk6
  go_wp2
  exact HQ.out _ _ _ _ _ _ _ _ _ ⟨r.deed, tn, 1 + b, 7, r.key, r.val, r.old, r.lim, r.tenant, r.qk, r.qb, r.rights⟩ _ (((HM.out.store 1 (r' := ⟨r.deed, tn, r.gen, r.rig, r.key, r.val, r.old, r.lim, r.tenant, r.qk, r.qb, r.rights⟩) rfl).store 2 (r' := ⟨r.deed, tn, 1 + b, r.rig, r.key, r.val, r.old, r.lim, r.tenant, r.qk, r.qb, r.rights⟩) rfl).store 3 rfl) ⟨HR.out.deed, ⟨by dsimp only; omega, by dsimp only; omega⟩, ⟨by dsimp only; omega, by dsimp only; omega⟩, ⟨by dsimp only; decide, by dsimp only; decide⟩, HR.out.key, HR.out.val, HR.out.old, HR.out.lim, HR.out.tenant, HR.out.qk, HR.out.qb, HR.out.rights⟩

set_option maxHeartbeats 3200000 in
set_option maxRecDepth 100000 in
theorem m7 {gk gc gr n : Nat} {v : Value} {xs : List Value} {c : Cod} {r : Req} {u0 u1 u2 u5 u8 u9 u10 u11 u12 u13 u14 u15 u16 u17 u18 u19 u20 u21 u22 u23 u24 u25 u26 u27 u28 u29 u30 u31 u32 u33 u34 u35 u36 u37 u38 u39 u40 u41 u42 u43 u44 u45 u46 u47 u48 u49 u50 u51 u52 u53 u54 u55 u56 u57 u58 u59 u60 u61 u62 u63 u64 u65 u66 u67 u68 u69 u70 u71 u72 u73 u74 u75 u76 u77 u78 u79 u80 u81 u82 u83 u84 u85 u86 u87 u88 u89 u90 u91 u92 u93 u94 u95 u96 u97 u98 u99 u100 u101 u102 u103 u104 u105 u106 u107 u108 u109 u110 u111 u112 u113 u114 u115 u116 u117 u118 u119 u120 u121 u122 u123 u124 u125 u126 u127 u128 u129 u130 u131 u132 u133 u134 u135 u136 u137 u138 u139 : Value} (w wx : World) {Q : Exit → Act → World → Prop} (hM : MIn w gk gc gr v n xs c r wx) (hr : SmallR r) (hc : c.ok)
    (hQ : ∀ (s34 s35 s36 s37 s38 : Value) (tn : Int) (W' : World), MIn w gk gc gr v n xs c r W' → 1 ≤ tn → tn ≤ 2 → Q .normal ⟨#[u0, u1, u2, v, .slice (some ⟨gk, 0, none⟩) 8 8, u5, .pointer (some ⟨gc, 0, none⟩), .pointer (some ⟨gr, 0, none⟩), .int .i64 tn, u9, u10, u11, u12, u13, u14, u15, u16, u17, u18, u19, u20, u21, u22, u23, u24, u25, u26, u27, u28, u29, u30, u31, u32, u33, s34, s35, s36, s37, s38, u39, u40, u41, u42, u43, u44, u45, u46, u47, u48, u49, u50, u51, u52, u53, u54, u55, u56, u57, u58, u59, u60, u61, u62, u63, u64, u65, u66, u67, u68, u69, u70, u71, u72, u73, u74, u75, u76, u77, u78, u79, u80, u81, u82, u83, u84, u85, u86, u87, u88, u89, u90, u91, u92, u93, u94, u95, u96, u97, u98, u99, u100, u101, u102, u103, u104, u105, u106, u107, u108, u109, u110, u111, u112, u113, u114, u115, u116, u117, u118, u119, u120, u121, u122, u123, u124, u125, u126, u127, u128, u129, u130, u131, u132, u133, u134, u135, u136, u137, u138, u139], []⟩ W') :
    Code.wp Tryz.prog (part Tryz.f7 [1, 1, 1, 0, 1, 2, 2, 1, 1, 0, 2, 1, 1, 0]) Q ⟨#[u0, u1, u2, v, .slice (some ⟨gk, 0, none⟩) 8 8, u5, .pointer (some ⟨gc, 0, none⟩), .pointer (some ⟨gr, 0, none⟩), u8, u9, u10, u11, u12, u13, u14, u15, u16, u17, u18, u19, u20, u21, u22, u23, u24, u25, u26, u27, u28, u29, u30, u31, u32, u33, u34, u35, u36, u37, u38, u39, u40, u41, u42, u43, u44, u45, u46, u47, u48, u49, u50, u51, u52, u53, u54, u55, u56, u57, u58, u59, u60, u61, u62, u63, u64, u65, u66, u67, u68, u69, u70, u71, u72, u73, u74, u75, u76, u77, u78, u79, u80, u81, u82, u83, u84, u85, u86, u87, u88, u89, u90, u91, u92, u93, u94, u95, u96, u97, u98, u99, u100, u101, u102, u103, u104, u105, u106, u107, u108, u109, u110, u111, u112, u113, u114, u115, u116, u117, u118, u119, u120, u121, u122, u123, u124, u125, u126, u127, u128, u129, u130, u131, u132, u133, u134, u135, u136, u137, u138, u139], []⟩ wx := by
  conv => arg 2; whnf
  have HQ := Lib.hid hQ
  clear hQ
  obtain ⟨⟨hk1, hk2, hk3, hk4⟩, hk5, hk6⟩ := hM
  obtain ⟨q0, q1, q2, q3, q4, q5, q6, q7, q8, q9, q10, q11⟩ := req_cells hk5
  obtain ⟨c0, c1, c2, c3, c4, c5⟩ := cod_cells hk2
  have HM := Lib.hid (show MIn w gk gc gr v n xs c r wx from ⟨⟨hk1, hk2, hk3, hk4⟩, hk5, hk6⟩)
  have HR := Lib.hid hr
  have HC := Lib.hid hc
  clear hr hc
  obtain ⟨b, hb, hb0, hb1⟩ := and_one (x := c.h) (by have := HC.out.h; omega) (by have := HC.out.h; omega)
  clear hk1 hk2 hk3 hk4 hk5 hk6
  go_wp2
  exact HQ.out _ _ _ _ _ (1 + b) _ HM.out (by omega) (by omega)

set_option maxHeartbeats 3200000 in
set_option maxRecDepth 100000 in
theorem m15 {gk gc gr n : Nat} {v : Value} {xs : List Value} {c : Cod} {r : Req} {tn : Int} {u0 u1 u2 u5 u9 u10 u11 u12 u13 u14 u15 u16 u17 u18 u19 u20 u21 u22 u23 u24 u25 u26 u27 u28 u29 u30 u31 u32 u33 u34 u35 u36 u37 u38 u39 u40 u41 u42 u43 u44 u45 u46 u47 u48 u49 u50 u51 u52 u53 u54 u55 u56 u57 u58 u59 u60 u61 u62 u63 u64 u65 u66 u67 u68 u69 u70 u71 u72 u73 u74 u75 u76 u77 u78 u79 u80 u81 u82 u83 u84 u85 u86 u87 u88 u89 u90 u91 u92 u93 u94 u95 u96 u97 u98 u99 u100 u101 u102 u103 u104 u105 u106 u107 u108 u109 u110 u111 u112 u113 u114 u115 u116 u117 u118 u119 u120 u121 u122 u123 u124 u125 u126 u127 u128 u129 u130 u131 u132 u133 u134 u135 u136 u137 u138 u139 : Value} (w wx : World) {Q : Exit → Act → World → Prop} (hM : MIn w gk gc gr v n xs c r wx) (hr : SmallR r) (hc : c.ok) (htn : 1 ≤ tn ∧ tn ≤ 2)
    (hQ : ∀ (s74 s75 s76 s77 s78 s79 s80 : Value) (r' : Req) (W' : World), MIn w gk gc gr v n xs c r' W' → SmallR r' → Q .normal ⟨#[u0, u1, u2, v, .slice (some ⟨gk, 0, none⟩) 8 8, u5, .pointer (some ⟨gc, 0, none⟩), .pointer (some ⟨gr, 0, none⟩), .int .i64 tn, u9, u10, u11, u12, u13, u14, u15, u16, u17, u18, u19, u20, u21, u22, u23, u24, u25, u26, u27, u28, u29, u30, u31, u32, u33, u34, u35, u36, u37, u38, u39, u40, u41, u42, u43, u44, u45, u46, u47, u48, u49, u50, u51, u52, u53, u54, u55, u56, u57, u58, u59, u60, u61, u62, u63, u64, u65, u66, u67, u68, u69, u70, u71, u72, u73, s74, s75, s76, s77, s78, s79, s80, u81, u82, u83, u84, u85, u86, u87, u88, u89, u90, u91, u92, u93, u94, u95, u96, u97, u98, u99, u100, u101, u102, u103, u104, u105, u106, u107, u108, u109, u110, u111, u112, u113, u114, u115, u116, u117, u118, u119, u120, u121, u122, u123, u124, u125, u126, u127, u128, u129, u130, u131, u132, u133, u134, u135, u136, u137, u138, u139], []⟩ W') :
    Code.wp Tryz.prog (part Tryz.f7 [1, 1, 1, 0, 1, 2, 2, 1, 1, 0, 2, 1, 1, 1, 0, 2, 1, 3, 1, 0]) Q ⟨#[u0, u1, u2, v, .slice (some ⟨gk, 0, none⟩) 8 8, u5, .pointer (some ⟨gc, 0, none⟩), .pointer (some ⟨gr, 0, none⟩), .int .i64 tn, u9, u10, u11, u12, u13, u14, u15, u16, u17, u18, u19, u20, u21, u22, u23, u24, u25, u26, u27, u28, u29, u30, u31, u32, u33, u34, u35, u36, u37, u38, u39, u40, u41, u42, u43, u44, u45, u46, u47, u48, u49, u50, u51, u52, u53, u54, u55, u56, u57, u58, u59, u60, u61, u62, u63, u64, u65, u66, u67, u68, u69, u70, u71, u72, u73, u74, u75, u76, u77, u78, u79, u80, u81, u82, u83, u84, u85, u86, u87, u88, u89, u90, u91, u92, u93, u94, u95, u96, u97, u98, u99, u100, u101, u102, u103, u104, u105, u106, u107, u108, u109, u110, u111, u112, u113, u114, u115, u116, u117, u118, u119, u120, u121, u122, u123, u124, u125, u126, u127, u128, u129, u130, u131, u132, u133, u134, u135, u136, u137, u138, u139], []⟩ wx := by
  conv => arg 2; whnf
  have HQ := Lib.hid hQ
  clear hQ
  obtain ⟨⟨hk1, hk2, hk3, hk4⟩, hk5, hk6⟩ := hM
  obtain ⟨q0, q1, q2, q3, q4, q5, q6, q7, q8, q9, q10, q11⟩ := req_cells hk5
  obtain ⟨c0, c1, c2, c3, c4, c5⟩ := cod_cells hk2
  have HM := Lib.hid (show MIn w gk gc gr v n xs c r wx from ⟨⟨hk1, hk2, hk3, hk4⟩, hk5, hk6⟩)
  have HR := Lib.hid hr
  have HC := Lib.hid hc
  clear hr hc
  have f3 := hk5.frozen 3
  clear hk1 hk2 hk3 hk4 hk5 hk6
  go_wp2
  all_goals first
    | exact HQ.out _ _ _ _ _ _ _ r _ HM.out HR.out
    | exact HQ.out _ _ _ _ _ _ _ ⟨r.deed, r.ten, r.gen, 1, r.key, r.val, r.old, r.lim, r.tenant, r.qk, r.qb, r.rights⟩ _ (HM.out.store 3 rfl) ⟨HR.out.deed, HR.out.ten, HR.out.gen, ⟨by dsimp only; decide, by dsimp only; decide⟩, HR.out.key, HR.out.val, HR.out.old, HR.out.lim, HR.out.tenant, HR.out.qk, HR.out.qb, HR.out.rights⟩

set_option maxHeartbeats 3200000 in
set_option maxRecDepth 100000 in
theorem m17 {gk gc gr n : Nat} {v : Value} {xs : List Value} {c : Cod} {r : Req} {tn : Int} {u0 u1 u2 u5 u9 u10 u11 u12 u13 u14 u15 u16 u17 u18 u19 u20 u21 u22 u23 u24 u25 u26 u27 u28 u29 u30 u31 u32 u33 u34 u35 u36 u37 u38 u39 u40 u41 u42 u43 u44 u45 u46 u47 u48 u49 u50 u51 u52 u53 u54 u55 u56 u57 u58 u59 u60 u61 u62 u63 u64 u65 u66 u67 u68 u69 u70 u71 u72 u73 u74 u75 u76 u77 u78 u79 u80 u81 u82 u83 u84 u85 u86 u87 u88 u89 u90 u91 u92 u93 u94 u95 u96 u97 u98 u99 u100 u101 u102 u103 u104 u105 u106 u107 u108 u109 u110 u111 u112 u113 u114 u115 u116 u117 u118 u119 u120 u121 u122 u123 u124 u125 u126 u127 u128 u129 u130 u131 u132 u133 u134 u135 u136 u137 u138 u139 : Value} (w wx : World) {Q : Exit → Act → World → Prop} (hM : MIn w gk gc gr v n xs c r wx) (hr : SmallR r) (hc : c.ok) (htn : 1 ≤ tn ∧ tn ≤ 2)
    (hQ : ∀ (s81 s82 s83 s84 s85 s86 s87 s88 s89 s90 : Value) (r' : Req) (W' : World), MIn w gk gc gr v n xs c r' W' → SmallR r' → Q .normal ⟨#[u0, u1, u2, v, .slice (some ⟨gk, 0, none⟩) 8 8, u5, .pointer (some ⟨gc, 0, none⟩), .pointer (some ⟨gr, 0, none⟩), .int .i64 tn, u9, u10, u11, u12, u13, u14, u15, u16, u17, u18, u19, u20, u21, u22, u23, u24, u25, u26, u27, u28, u29, u30, u31, u32, u33, u34, u35, u36, u37, u38, u39, u40, u41, u42, u43, u44, u45, u46, u47, u48, u49, u50, u51, u52, u53, u54, u55, u56, u57, u58, u59, u60, u61, u62, u63, u64, u65, u66, u67, u68, u69, u70, u71, u72, u73, u74, u75, u76, u77, u78, u79, u80, s81, s82, s83, s84, s85, s86, s87, s88, s89, s90, u91, u92, u93, u94, u95, u96, u97, u98, u99, u100, u101, u102, u103, u104, u105, u106, u107, u108, u109, u110, u111, u112, u113, u114, u115, u116, u117, u118, u119, u120, u121, u122, u123, u124, u125, u126, u127, u128, u129, u130, u131, u132, u133, u134, u135, u136, u137, u138, u139], []⟩ W') :
    Code.wp Tryz.prog (part Tryz.f7 [1, 1, 1, 0, 1, 2, 2, 1, 1, 0, 2, 1, 1, 1, 0, 2, 1, 3, 1, 1, 0]) Q ⟨#[u0, u1, u2, v, .slice (some ⟨gk, 0, none⟩) 8 8, u5, .pointer (some ⟨gc, 0, none⟩), .pointer (some ⟨gr, 0, none⟩), .int .i64 tn, u9, u10, u11, u12, u13, u14, u15, u16, u17, u18, u19, u20, u21, u22, u23, u24, u25, u26, u27, u28, u29, u30, u31, u32, u33, u34, u35, u36, u37, u38, u39, u40, u41, u42, u43, u44, u45, u46, u47, u48, u49, u50, u51, u52, u53, u54, u55, u56, u57, u58, u59, u60, u61, u62, u63, u64, u65, u66, u67, u68, u69, u70, u71, u72, u73, u74, u75, u76, u77, u78, u79, u80, u81, u82, u83, u84, u85, u86, u87, u88, u89, u90, u91, u92, u93, u94, u95, u96, u97, u98, u99, u100, u101, u102, u103, u104, u105, u106, u107, u108, u109, u110, u111, u112, u113, u114, u115, u116, u117, u118, u119, u120, u121, u122, u123, u124, u125, u126, u127, u128, u129, u130, u131, u132, u133, u134, u135, u136, u137, u138, u139], []⟩ wx := by
  conv => arg 2; whnf
  have HQ := Lib.hid hQ
  clear hQ
  obtain ⟨⟨hk1, hk2, hk3, hk4⟩, hk5, hk6⟩ := hM
  obtain ⟨q0, q1, q2, q3, q4, q5, q6, q7, q8, q9, q10, q11⟩ := req_cells hk5
  obtain ⟨c0, c1, c2, c3, c4, c5⟩ := cod_cells hk2
  have HM := Lib.hid (show MIn w gk gc gr v n xs c r wx from ⟨⟨hk1, hk2, hk3, hk4⟩, hk5, hk6⟩)
  have HR := Lib.hid hr
  have HC := Lib.hid hc
  clear hr hc
  have f4 := hk5.frozen 4
  obtain ⟨y0, y1, y2, y3, y4, y5, y6, y7⟩ := kw_cells hk1
  obtain ⟨b, hb, hb0, hb1⟩ := tmod_in (x := c.k) 8 (by have := HC.out; obtain ⟨⟨_, _⟩, ⟨_, _⟩, ⟨_, _⟩, ⟨_, _⟩, ⟨_, _⟩, ⟨_, _⟩⟩ := this; omega) (by decide)
  clear hk1 hk2 hk3 hk4 hk5 hk6
  have hbc : b = 0 ∨ b = 1 ∨ b = 2 ∨ b = 3 ∨ b = 4 ∨ b = 5 ∨ b = 6 ∨ b = 7 := by omega
  clear hb0 hb1
  rcases hbc with rfl | rfl | rfl | rfl | rfl | rfl | rfl | rfl
  all_goals
    go_wp2
    all_goals first
      | exact HQ.out _ _ _ _ _ _ _ _ _ _ r _ HM.out HR.out
      | exact HQ.out _ _ _ _ _ _ _ _ _ _ ⟨r.deed, r.ten, r.gen, r.rig, ⟨#[97]⟩, r.val, r.old, r.lim, r.tenant, r.qk, r.qb, r.rights⟩ _ (HM.out.store 4 (r' := ⟨r.deed, r.ten, r.gen, r.rig, ⟨#[97]⟩, r.val, r.old, r.lim, r.tenant, r.qk, r.qb, r.rights⟩) rfl) ⟨HR.out.deed, HR.out.ten, HR.out.gen, HR.out.rig, by dsimp only; decide, HR.out.val, HR.out.old, HR.out.lim, HR.out.tenant, HR.out.qk, HR.out.qb, HR.out.rights⟩
      | exact HQ.out _ _ _ _ _ _ _ _ _ _ ⟨r.deed, r.ten, r.gen, r.rig, ⟨#[98]⟩, r.val, r.old, r.lim, r.tenant, r.qk, r.qb, r.rights⟩ _ (HM.out.store 4 (r' := ⟨r.deed, r.ten, r.gen, r.rig, ⟨#[98]⟩, r.val, r.old, r.lim, r.tenant, r.qk, r.qb, r.rights⟩) rfl) ⟨HR.out.deed, HR.out.ten, HR.out.gen, HR.out.rig, by dsimp only; decide, HR.out.val, HR.out.old, HR.out.lim, HR.out.tenant, HR.out.qk, HR.out.qb, HR.out.rights⟩
      | exact HQ.out _ _ _ _ _ _ _ _ _ _ ⟨r.deed, r.ten, r.gen, r.rig, ⟨#[97, 98]⟩, r.val, r.old, r.lim, r.tenant, r.qk, r.qb, r.rights⟩ _ (HM.out.store 4 (r' := ⟨r.deed, r.ten, r.gen, r.rig, ⟨#[97, 98]⟩, r.val, r.old, r.lim, r.tenant, r.qk, r.qb, r.rights⟩) rfl) ⟨HR.out.deed, HR.out.ten, HR.out.gen, HR.out.rig, by dsimp only; decide, HR.out.val, HR.out.old, HR.out.lim, HR.out.tenant, HR.out.qk, HR.out.qb, HR.out.rights⟩
      | exact HQ.out _ _ _ _ _ _ _ _ _ _ ⟨r.deed, r.ten, r.gen, r.rig, ⟨#[]⟩, r.val, r.old, r.lim, r.tenant, r.qk, r.qb, r.rights⟩ _ (HM.out.store 4 (r' := ⟨r.deed, r.ten, r.gen, r.rig, ⟨#[]⟩, r.val, r.old, r.lim, r.tenant, r.qk, r.qb, r.rights⟩) rfl) ⟨HR.out.deed, HR.out.ten, HR.out.gen, HR.out.rig, by dsimp only; decide, HR.out.val, HR.out.old, HR.out.lim, HR.out.tenant, HR.out.qk, HR.out.qb, HR.out.rights⟩
      | exact HQ.out _ _ _ _ _ _ _ _ _ _ ⟨r.deed, r.ten, r.gen, r.rig, ⟨#[97, 0]⟩, r.val, r.old, r.lim, r.tenant, r.qk, r.qb, r.rights⟩ _ (HM.out.store 4 (r' := ⟨r.deed, r.ten, r.gen, r.rig, ⟨#[97, 0]⟩, r.val, r.old, r.lim, r.tenant, r.qk, r.qb, r.rights⟩) rfl) ⟨HR.out.deed, HR.out.ten, HR.out.gen, HR.out.rig, by dsimp only; decide, HR.out.val, HR.out.old, HR.out.lim, HR.out.tenant, HR.out.qk, HR.out.qb, HR.out.rights⟩
      | exact HQ.out _ _ _ _ _ _ _ _ _ _ ⟨r.deed, r.ten, r.gen, r.rig, ⟨#[97, 98, 99, 100]⟩, r.val, r.old, r.lim, r.tenant, r.qk, r.qb, r.rights⟩ _ (HM.out.store 4 (r' := ⟨r.deed, r.ten, r.gen, r.rig, ⟨#[97, 98, 99, 100]⟩, r.val, r.old, r.lim, r.tenant, r.qk, r.qb, r.rights⟩) rfl) ⟨HR.out.deed, HR.out.ten, HR.out.gen, HR.out.rig, by dsimp only; decide, HR.out.val, HR.out.old, HR.out.lim, HR.out.tenant, HR.out.qk, HR.out.qb, HR.out.rights⟩
      | exact HQ.out _ _ _ _ _ _ _ _ _ _ ⟨r.deed, r.ten, r.gen, r.rig, ⟨#[97, 99]⟩, r.val, r.old, r.lim, r.tenant, r.qk, r.qb, r.rights⟩ _ (HM.out.store 4 (r' := ⟨r.deed, r.ten, r.gen, r.rig, ⟨#[97, 99]⟩, r.val, r.old, r.lim, r.tenant, r.qk, r.qb, r.rights⟩) rfl) ⟨HR.out.deed, HR.out.ten, HR.out.gen, HR.out.rig, by dsimp only; decide, HR.out.val, HR.out.old, HR.out.lim, HR.out.tenant, HR.out.qk, HR.out.qb, HR.out.rights⟩

set_option maxHeartbeats 3200000 in
set_option maxRecDepth 100000 in
theorem m19 {gk gc gr n : Nat} {v : Value} {xs : List Value} {c : Cod} {r : Req} {tn : Int} {u0 u1 u2 u5 u9 u10 u11 u12 u13 u14 u15 u16 u17 u18 u19 u20 u21 u22 u23 u24 u25 u26 u27 u28 u29 u30 u31 u32 u33 u34 u35 u36 u37 u38 u39 u40 u41 u42 u43 u44 u45 u46 u47 u48 u49 u50 u51 u52 u53 u54 u55 u56 u57 u58 u59 u60 u61 u62 u63 u64 u65 u66 u67 u68 u69 u70 u71 u72 u73 u74 u75 u76 u77 u78 u79 u80 u81 u82 u83 u84 u85 u86 u87 u88 u89 u90 u91 u92 u93 u94 u95 u96 u97 u98 u99 u100 u101 u102 u103 u104 u105 u106 u107 u108 u109 u110 u111 u112 u113 u114 u115 u116 u117 u118 u119 u120 u121 u122 u123 u124 u125 u126 u127 u128 u129 u130 u131 u132 u133 u134 u135 u136 u137 u138 u139 : Value} (w wx : World) {Q : Exit → Act → World → Prop} (hM : MIn w gk gc gr v n xs c r wx) (hr : SmallR r) (hc : c.ok) (htn : 1 ≤ tn ∧ tn ≤ 2)
    (hQ : ∀ (s91 s92 s93 s94 : Value) (r' : Req) (W' : World), MIn w gk gc gr v n xs c r' W' → SmallR r' → Q .normal ⟨#[u0, u1, u2, v, .slice (some ⟨gk, 0, none⟩) 8 8, u5, .pointer (some ⟨gc, 0, none⟩), .pointer (some ⟨gr, 0, none⟩), .int .i64 tn, u9, u10, u11, u12, u13, u14, u15, u16, u17, u18, u19, u20, u21, u22, u23, u24, u25, u26, u27, u28, u29, u30, u31, u32, u33, u34, u35, u36, u37, u38, u39, u40, u41, u42, u43, u44, u45, u46, u47, u48, u49, u50, u51, u52, u53, u54, u55, u56, u57, u58, u59, u60, u61, u62, u63, u64, u65, u66, u67, u68, u69, u70, u71, u72, u73, u74, u75, u76, u77, u78, u79, u80, u81, u82, u83, u84, u85, u86, u87, u88, u89, u90, s91, s92, s93, s94, u95, u96, u97, u98, u99, u100, u101, u102, u103, u104, u105, u106, u107, u108, u109, u110, u111, u112, u113, u114, u115, u116, u117, u118, u119, u120, u121, u122, u123, u124, u125, u126, u127, u128, u129, u130, u131, u132, u133, u134, u135, u136, u137, u138, u139], []⟩ W') :
    Code.wp Tryz.prog (part Tryz.f7 [1, 1, 1, 0, 1, 2, 2, 1, 1, 0, 2, 1, 1, 1, 0, 2, 1, 3, 1, 1, 1, 0]) Q ⟨#[u0, u1, u2, v, .slice (some ⟨gk, 0, none⟩) 8 8, u5, .pointer (some ⟨gc, 0, none⟩), .pointer (some ⟨gr, 0, none⟩), .int .i64 tn, u9, u10, u11, u12, u13, u14, u15, u16, u17, u18, u19, u20, u21, u22, u23, u24, u25, u26, u27, u28, u29, u30, u31, u32, u33, u34, u35, u36, u37, u38, u39, u40, u41, u42, u43, u44, u45, u46, u47, u48, u49, u50, u51, u52, u53, u54, u55, u56, u57, u58, u59, u60, u61, u62, u63, u64, u65, u66, u67, u68, u69, u70, u71, u72, u73, u74, u75, u76, u77, u78, u79, u80, u81, u82, u83, u84, u85, u86, u87, u88, u89, u90, u91, u92, u93, u94, u95, u96, u97, u98, u99, u100, u101, u102, u103, u104, u105, u106, u107, u108, u109, u110, u111, u112, u113, u114, u115, u116, u117, u118, u119, u120, u121, u122, u123, u124, u125, u126, u127, u128, u129, u130, u131, u132, u133, u134, u135, u136, u137, u138, u139], []⟩ wx := by
  conv => arg 2; whnf
  have HQ := Lib.hid hQ
  clear hQ
  obtain ⟨⟨hk1, hk2, hk3, hk4⟩, hk5, hk6⟩ := hM
  obtain ⟨q0, q1, q2, q3, q4, q5, q6, q7, q8, q9, q10, q11⟩ := req_cells hk5
  obtain ⟨c0, c1, c2, c3, c4, c5⟩ := cod_cells hk2
  have HM := Lib.hid (show MIn w gk gc gr v n xs c r wx from ⟨⟨hk1, hk2, hk3, hk4⟩, hk5, hk6⟩)
  have HR := Lib.hid hr
  have HC := Lib.hid hc
  clear hr hc
  have f4 := hk5.frozen 4
  clear hk1 hk2 hk3 hk4 hk5 hk6
  go_wp2
  all_goals first
    | exact HQ.out _ _ _ _ r _ HM.out HR.out
    | exact HQ.out _ _ _ _ ⟨r.deed, r.ten, r.gen, r.rig, ⟨#[97, 32, 107, 101, 121, 32, 116, 104, 97, 116, 32, 105, 115, 32, 116, 111, 111, 32, 108, 111, 110, 103]⟩, r.val, r.old, r.lim, r.tenant, r.qk, r.qb, r.rights⟩ _ (HM.out.store 4 rfl) ⟨HR.out.deed, HR.out.ten, HR.out.gen, HR.out.rig, by dsimp only; decide, HR.out.val, HR.out.old, HR.out.lim, HR.out.tenant, HR.out.qk, HR.out.qb, HR.out.rights⟩

end Go.Proofs.YtkgflepgkhnclaaGreatDoor
