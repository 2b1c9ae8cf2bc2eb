/-
  Layer 9: the kinds of nodes.
  Layer 9: may, Anchor, Right.
  Layer 9: a row of kids behind an interface; row.
  Layer 9: laid.
  Layer 7: the iterator that All returns, for callers that own more (RangeO).
  A held walk of a region that draws its order, where what is held must hold only until one operation has come up (a store that ends it). Over any program.
  An append to a row of one's own: the row that comes back lies in the old block or in a new one. Over any program.
  Layer 9: what 'of' keeps while it appends.
  Layer 9: of's range over the kids.
  Layer 9: of.
  Layer 9: of.
  Layer 9: kind; what Add and Cut make (no program in sight but for kind).
-/
import Derived.Test.YtgjgcbemgmkncaaGreatDoorNc
namespace Go.Proofs.YtgjgcbemgmkncaaGreatDoor
open Go.RowKit Go.Shelf
set_option linter.unusedVariables false
set_option maxRecDepth 20000
set_option linter.unusedSimpArgs false

def NdP (x : Nd) (V : Value) (W : World) : Prop := NdAt W x V ∧ RoomsAt W
theorem ndP_on (x : Nd) (V : Value) (W W' : World) (h : NdP x V W) (hb : Below W.heap.size W W') : NdP x V W' := ⟨h.1.below hb, h.2.on hb⟩
theorem isInner_asks (x : Nd) (V : Value) : Asks [77, 78, 79, 80, 81] [x.innerN, x.bareN, x.pairedN, x.risingN, x.refsN] V (NdP x V) := by
  refine ⟨rfl, ?_, ndP_on x V, ?_⟩
  · intro f hf
    simp only [List.mem_cons, List.not_mem_nil, or_false] at hf
    rcases hf with rfl | rfl | rfl | rfl | rfl <;> first | exact enters_of Tryz.func77 (by kernel_rfl) rfl | exact enters_of Tryz.func78 (by kernel_rfl) rfl | exact enters_of Tryz.func79 (by kernel_rfl) rfl | exact enters_of Tryz.func80 (by kernel_rfl) rfl | exact enters_of Tryz.func81 (by kernel_rfl) rfl
  · intro i f b hf hb hj W hW
    rcases i with _ | _ | _ | _ | _ | i
    · obtain rfl := Option.some.inj hf; obtain rfl := Option.some.inj hb; exact inner_n x V W hW.1 hW.2
    · obtain rfl := Option.some.inj hf; obtain rfl := Option.some.inj hb; exact bare_n x V W hW.1
    · obtain rfl := Option.some.inj hf; obtain rfl := Option.some.inj hb; exact paired_n x V W hW.1
    · obtain rfl := Option.some.inj hf; obtain rfl := Option.some.inj hb; exact rising_n x V W hW.1
    · obtain rfl := Option.some.inj hf; obtain rfl := Option.some.inj hb; exact refs_n x V W hW.1
    · cases hf
set_option maxHeartbeats 1600000 in
theorem isInner_n (x : Nd) (V : Value) (w : World) (h : NdAt w x V) (hr : RoomsAt w) : Calls Tryz.prog 65 #[V] w (BoolEnd x.isInner w) := by
  have h' := h
  obtain ⟨hwf, Ab, cb, Ak, ck, rfl, _, _⟩ := h'
  have b1 := below_box w (.cells #[.int .i64 x.kind, .string x.code, .string x.value, .string x.path, .slice Ab x.bytes.length cb, .slice Ak x.kids.length ck] 61)
  have b2 := b1.alloc b1.size (.cells #[.func (.func 77) #[.agg #[.int .i64 x.kind, .string x.code, .string x.value, .string x.path, .slice Ab x.bytes.length cb, .slice Ak x.kids.length ck]] #[], .func (.func 78) #[.agg #[.int .i64 x.kind, .string x.code, .string x.value, .string x.path, .slice Ab x.bytes.length cb, .slice Ak x.kids.length ck]] #[], .func (.func 79) #[.agg #[.int .i64 x.kind, .string x.code, .string x.value, .string x.path, .slice Ab x.bytes.length cb, .slice Ak x.kids.length ck]] #[], .func (.func 80) #[.agg #[.int .i64 x.kind, .string x.code, .string x.value, .string x.path, .slice Ab x.bytes.length cb, .slice Ak x.kids.length ck]] #[], .func (.func 81) #[.agg #[.int .i64 x.kind, .string x.code, .string x.value, .string x.path, .slice Ab x.bytes.length cb, .slice Ak x.kids.length ck]] #[]] 31)
  have HA := Lib.hid (all_n _ _ _ _ (isInner_asks x (x.v Ab cb Ak ck)) (w.heap.size + 1) 5 _ (ndP_on x _ w _ ⟨h, hr⟩ b2) (by have k := Blk.new (w.alloc (.cells #[.int .i64 x.kind, .string x.code, .string x.value, .string x.path, .slice Ab x.bytes.length cb, .slice Ak x.kids.length ck] 61)) 31 #[.func (.func 77) #[.agg #[.int .i64 x.kind, .string x.code, .string x.value, .string x.path, .slice Ab x.bytes.length cb, .slice Ak x.kids.length ck]] #[], .func (.func 78) #[.agg #[.int .i64 x.kind, .string x.code, .string x.value, .string x.path, .slice Ab x.bytes.length cb, .slice Ak x.kids.length ck]] #[], .func (.func 79) #[.agg #[.int .i64 x.kind, .string x.code, .string x.value, .string x.path, .slice Ab x.bytes.length cb, .slice Ak x.kids.length ck]] #[], .func (.func 80) #[.agg #[.int .i64 x.kind, .string x.code, .string x.value, .string x.path, .slice Ab x.bytes.length cb, .slice Ak x.kids.length ck]] #[], .func (.func 81) #[.agg #[.int .i64 x.kind, .string x.code, .string x.value, .string x.path, .slice Ab x.bytes.length cb, .slice Ak x.kids.length ck]] #[]]; rw [World.size_alloc] at k; exact k) (by simp))
  have HB := Lib.hid b2
  clear b1 b2 h hr hwf
  unfold Nd.v at HA ⊢
  simp only [List.length_cons, List.length_nil, Nat.zero_add, Nat.reduceAdd] at HA
  go_enter Tryz.func65, Tryz.ntmps65
  go_wp2_with fail
  refine HA.out.mono ?_
  rintro e w1 ⟨rfl, hb⟩
  have HE := Lib.hid (HB.out.trans (hb.mono HB.out.size))
  clear hb HA HB
  go_wp2
  go_ret
  exact ⟨ret_bool (by simp [Nd.isInner, Bool.and_assoc]), HE.out⟩
theorem isRight_asks (x : Nd) (V : Value) : Asks [65, 66, 67] [x.isInner, x.manyN, x.fitsN] V (NdP x V) := by
  refine ⟨rfl, ?_, ndP_on x V, ?_⟩
  · intro f hf
    simp only [List.mem_cons, List.not_mem_nil, or_false] at hf
    rcases hf with rfl | rfl | rfl <;> first | exact enters_of Tryz.func65 (by kernel_rfl) rfl | exact enters_of Tryz.func66 (by kernel_rfl) rfl | exact enters_of Tryz.func67 (by kernel_rfl) rfl
  · intro i f b hf hb hj W hW
    rcases i with _ | _ | _ | i
    · obtain rfl := Option.some.inj hf; obtain rfl := Option.some.inj hb; exact isInner_n x V W hW.1 hW.2
    · obtain rfl := Option.some.inj hf; obtain rfl := Option.some.inj hb; exact many_n x V W hW.1
    · obtain rfl := Option.some.inj hf; obtain rfl := Option.some.inj hb; exact fits_n x V W hW.1 hW.2
    · cases hf
set_option maxHeartbeats 1600000 in
theorem isRight_n (x : Nd) (V : Value) (w : World) (h : NdAt w x V) (hr : RoomsAt w) : Calls Tryz.prog 44 #[V] w (BoolEnd x.isRight w) := by
  have h' := h
  obtain ⟨hwf, Ab, cb, Ak, ck, rfl, _, _⟩ := h'
  have b1 := below_box w (.cells #[.int .i64 x.kind, .string x.code, .string x.value, .string x.path, .slice Ab x.bytes.length cb, .slice Ak x.kids.length ck] 61)
  have b2 := b1.alloc b1.size (.cells #[.func (.func 65) #[.agg #[.int .i64 x.kind, .string x.code, .string x.value, .string x.path, .slice Ab x.bytes.length cb, .slice Ak x.kids.length ck]] #[], .func (.func 66) #[.agg #[.int .i64 x.kind, .string x.code, .string x.value, .string x.path, .slice Ab x.bytes.length cb, .slice Ak x.kids.length ck]] #[], .func (.func 67) #[.agg #[.int .i64 x.kind, .string x.code, .string x.value, .string x.path, .slice Ab x.bytes.length cb, .slice Ak x.kids.length ck]] #[]] 31)
  have HA := Lib.hid (all_n _ _ _ _ (isRight_asks x (x.v Ab cb Ak ck)) (w.heap.size + 1) 3 _ (ndP_on x _ w _ ⟨h, hr⟩ b2) (by have k := Blk.new (w.alloc (.cells #[.int .i64 x.kind, .string x.code, .string x.value, .string x.path, .slice Ab x.bytes.length cb, .slice Ak x.kids.length ck] 61)) 31 #[.func (.func 65) #[.agg #[.int .i64 x.kind, .string x.code, .string x.value, .string x.path, .slice Ab x.bytes.length cb, .slice Ak x.kids.length ck]] #[], .func (.func 66) #[.agg #[.int .i64 x.kind, .string x.code, .string x.value, .string x.path, .slice Ab x.bytes.length cb, .slice Ak x.kids.length ck]] #[], .func (.func 67) #[.agg #[.int .i64 x.kind, .string x.code, .string x.value, .string x.path, .slice Ab x.bytes.length cb, .slice Ak x.kids.length ck]] #[]]; rw [World.size_alloc] at k; exact k) (by simp))
  have HB := Lib.hid b2
  clear b1 b2 h hr hwf
  unfold Nd.v at HA ⊢
  simp only [List.length_cons, List.length_nil, Nat.zero_add, Nat.reduceAdd] at HA
  go_enter Tryz.func44, Tryz.ntmps44
  go_wp2_with fail
  refine HA.out.mono ?_
  rintro e w1 ⟨rfl, hb⟩
  have HE := Lib.hid (HB.out.trans (hb.mono HB.out.size))
  clear hb HA HB
  go_wp2
  go_ret
  exact ⟨ret_bool (by simp [Nd.isRight, Bool.and_assoc]), HE.out⟩
theorem isAnchor_asks (x : Nd) (V : Value) : Asks [65, 68] [x.isInner, x.topN] V (NdP x V) := by
  refine ⟨rfl, ?_, ndP_on x V, ?_⟩
  · intro f hf
    simp only [List.mem_cons, List.not_mem_nil, or_false] at hf
    rcases hf with rfl | rfl <;> first | exact enters_of Tryz.func65 (by kernel_rfl) rfl | exact enters_of Tryz.func68 (by kernel_rfl) rfl
  · intro i f b hf hb hj W hW
    rcases i with _ | _ | i
    · obtain rfl := Option.some.inj hf; obtain rfl := Option.some.inj hb; exact isInner_n x V W hW.1 hW.2
    · obtain rfl := Option.some.inj hf; obtain rfl := Option.some.inj hb; exact top_n x V W hW.1
    · cases hf
set_option maxHeartbeats 1600000 in
theorem isAnchor_n (x : Nd) (V : Value) (w : World) (h : NdAt w x V) (hr : RoomsAt w) : Calls Tryz.prog 45 #[V] w (BoolEnd x.isAnchor w) := by
  have h' := h
  obtain ⟨hwf, Ab, cb, Ak, ck, rfl, _, _⟩ := h'
  have b1 := below_box w (.cells #[.int .i64 x.kind, .string x.code, .string x.value, .string x.path, .slice Ab x.bytes.length cb, .slice Ak x.kids.length ck] 61)
  have b2 := b1.alloc b1.size (.cells #[.func (.func 65) #[.agg #[.int .i64 x.kind, .string x.code, .string x.value, .string x.path, .slice Ab x.bytes.length cb, .slice Ak x.kids.length ck]] #[], .func (.func 68) #[.agg #[.int .i64 x.kind, .string x.code, .string x.value, .string x.path, .slice Ab x.bytes.length cb, .slice Ak x.kids.length ck]] #[]] 31)
  have HA := Lib.hid (all_n _ _ _ _ (isAnchor_asks x (x.v Ab cb Ak ck)) (w.heap.size + 1) 2 _ (ndP_on x _ w _ ⟨h, hr⟩ b2) (by have k := Blk.new (w.alloc (.cells #[.int .i64 x.kind, .string x.code, .string x.value, .string x.path, .slice Ab x.bytes.length cb, .slice Ak x.kids.length ck] 61)) 31 #[.func (.func 65) #[.agg #[.int .i64 x.kind, .string x.code, .string x.value, .string x.path, .slice Ab x.bytes.length cb, .slice Ak x.kids.length ck]] #[], .func (.func 68) #[.agg #[.int .i64 x.kind, .string x.code, .string x.value, .string x.path, .slice Ab x.bytes.length cb, .slice Ak x.kids.length ck]] #[]]; rw [World.size_alloc] at k; exact k) (by simp))
  have HB := Lib.hid b2
  clear b1 b2 h hr hwf
  unfold Nd.v at HA ⊢
  simp only [List.length_cons, List.length_nil, Nat.zero_add, Nat.reduceAdd] at HA
  go_enter Tryz.func45, Tryz.ntmps45
  go_wp2_with fail
  refine HA.out.mono ?_
  rintro e w1 ⟨rfl, hb⟩
  have HE := Lib.hid (HB.out.trans (hb.mono HB.out.size))
  clear hb HA HB
  go_wp2
  go_ret
  exact ⟨ret_bool (by simp [Nd.isAnchor, Bool.and_assoc]), HE.out⟩
end Go.Proofs.YtgjgcbemgmkncaaGreatDoor
namespace Go.Proofs.YtgjgcbemgmkncaaGreatDoor
open Go.RowKit Go.Shelf
set_option linter.unusedVariables false
set_option maxRecDepth 20000
set_option linter.unusedSimpArgs false

theorem cells6 {W : World} {g : Nat} {t : TypeId} {v0 v1 v2 v3 v4 v5 : Value} (h : Blk W g t #[v0, v1, v2, v3, v4, v5]) : W.cell? ⟨g, 0, none⟩ = some v0 ∧ W.cell? ⟨g, 1, none⟩ = some v1 ∧ W.cell? ⟨g, 2, none⟩ = some v2 ∧ W.cell? ⟨g, 3, none⟩ = some v3 ∧ W.cell? ⟨g, 4, none⟩ = some v4 ∧ W.cell? ⟨g, 5, none⟩ = some v5 :=
  ⟨h.cell 0, h.cell 1, h.cell 2, h.cell 3, h.cell 4, h.cell 5⟩
set_option maxHeartbeats 1600000 in
theorem may_n (x : Nd) (V : Value) (w : World) (h : NdAt w x V) (hr : RoomsAt w) : Calls Tryz.prog 38 #[V] w (BoolEnd x.may w) := by
  have h' := h
  obtain ⟨hwf, Ab, cb, Ak, ck, rfl, _, _⟩ := h'
  have b1 := below_box w (.cells #[.int .i64 x.kind, .string x.code, .string x.value, .string x.path, .slice Ab x.bytes.length cb, .slice Ak x.kids.length ck] 61)
  have q1 := Blk.new w 61 #[.int .i64 x.kind, .string x.code, .string x.value, .string x.path, .slice Ab x.bytes.length cb, .slice Ak x.kids.length ck]
  have HR := Lib.hid (isRight_n x _ _ (h.below b1) (hr.on b1))
  have HB := Lib.hid (And.intro b1 (And.intro q1 (And.intro h hr)))
  clear b1 q1 h hr hwf
  cases hx : x.isRight with
  | true =>
    rw [hx] at HR
    have E : Hid (x.may = true) := Lib.hid (by unfold Nd.may; rw [hx]; rfl)
    clear hx
    unfold Nd.v at HR HB ⊢
    go_enter Tryz.func38, Tryz.ntmps38
    go_wp2_with fail
    refine HR.out.mono ?_
    rintro e w1 ⟨rfl, hb⟩
    have HE := Lib.hid (HB.out.1.trans (hb.mono HB.out.1.size))
    clear hb HR HB
    go_wp2
    go_ret
    exact ⟨ret_bool (by rw [E.out]), HE.out⟩
  | false =>
    rw [hx] at HR
    have E : Hid (x.may = x.isAnchor) := Lib.hid (by unfold Nd.may; rw [hx]; rfl)
    clear hx
    unfold Nd.v at HR HB ⊢
    go_enter Tryz.func38, Tryz.ntmps38
    go_wp2_with fail
    refine HR.out.mono ?_
    rintro e w1 ⟨rfl, hb⟩
    have hbw := HB.out.1.trans (hb.mono HB.out.1.size)
    have HA := Lib.hid (isAnchor_n x _ w1 (HB.out.2.2.1.below hbw) (HB.out.2.2.2.on hbw))
    unfold Nd.v at HA
    obtain ⟨c0, c1, c2, c3, c4, c5⟩ := cells6 (HB.out.2.1.below hb (by simp))
    have HE := Lib.hid hbw
    clear hb HR HB hbw
    go_wp2_with fail
    refine HA.out.mono ?_
    rintro e w2 ⟨rfl, hb⟩
    have HF := Lib.hid (HE.out.trans (hb.mono HE.out.size))
    clear hb HA HE
    go_wp2
    go_ret
    exact ⟨ret_bool (by rw [E.out]), HF.out⟩
theorem Anchor_n (x : Nd) (V : Value) (w : World) (h : NdAt w x V) (hr : RoomsAt w) : Calls Tryz.prog 20 #[V] w (BoolEnd x.isAnchor w) := by
  have h' := h
  obtain ⟨hwf, Ab, cb, Ak, ck, rfl, _, _⟩ := h'
  have b1 := below_box w (.cells #[.int .i64 x.kind, .string x.code, .string x.value, .string x.path, .slice Ab x.bytes.length cb, .slice Ak x.kids.length ck] 26)
  have HR := Lib.hid (isAnchor_n x _ _ (h.below b1) (hr.on b1))
  have HB := Lib.hid b1
  clear b1 h hr hwf
  unfold Nd.v at HR ⊢
  go_enter Tryz.func20, Tryz.ntmps20
  go_wp2_with fail
  refine HR.out.mono ?_
  rintro e w1 ⟨rfl, hb⟩
  have HE := Lib.hid (HB.out.trans (hb.mono HB.out.size))
  clear hb HR HB
  go_wp2
  go_ret
  exact ⟨rfl, HE.out⟩
theorem isLeaf_asks (x : Nd) (V : Value) (hk : x.kind ≠ 1) : Asks [62, 63, 64] [false, false, false] V (NdP x V) := by
  refine ⟨rfl, ?_, ndP_on x V, ?_⟩
  · intro f hf
    simp only [List.mem_cons, List.not_mem_nil, or_false] at hf
    rcases hf with rfl | rfl | rfl <;> first | exact enters_of Tryz.func62 (by kernel_rfl) rfl | exact enters_of Tryz.func63 (by kernel_rfl) rfl | exact enters_of Tryz.func64 (by kernel_rfl) rfl
  · intro i f b hf hb hj W hW
    rcases i with _ | i
    · obtain rfl := Option.some.inj hf
      obtain rfl := Option.some.inj hb
      have k := leaf_n x V W hW.1
      rw [show x.leafN = false by simp [Nd.leafN, hk]] at k
      exact k
    · have := hj 0 (by omega)
      simp at this
set_option maxHeartbeats 1600000 in
theorem isLeaf_no (x : Nd) (V : Value) (w : World) (h : NdAt w x V) (hr : RoomsAt w) (hk : x.kind ≠ 1) : Calls Tryz.prog 43 #[V] w (BoolEnd false w) := by
  have h' := h
  obtain ⟨hwf, Ab, cb, Ak, ck, rfl, _, _⟩ := h'
  have b1 := below_box w (.cells #[.int .i64 x.kind, .string x.code, .string x.value, .string x.path, .slice Ab x.bytes.length cb, .slice Ak x.kids.length ck] 61)
  have b2 := b1.alloc b1.size (.cells #[.func (.func 62) #[.agg #[.int .i64 x.kind, .string x.code, .string x.value, .string x.path, .slice Ab x.bytes.length cb, .slice Ak x.kids.length ck]] #[], .func (.func 63) #[.agg #[.int .i64 x.kind, .string x.code, .string x.value, .string x.path, .slice Ab x.bytes.length cb, .slice Ak x.kids.length ck]] #[], .func (.func 64) #[.agg #[.int .i64 x.kind, .string x.code, .string x.value, .string x.path, .slice Ab x.bytes.length cb, .slice Ak x.kids.length ck]] #[]] 31)
  have HA := Lib.hid (all_n _ _ _ _ (isLeaf_asks x (x.v Ab cb Ak ck) hk) (w.heap.size + 1) 3 _ (ndP_on x _ w _ ⟨h, hr⟩ b2) (by have k := Blk.new (w.alloc (.cells #[.int .i64 x.kind, .string x.code, .string x.value, .string x.path, .slice Ab x.bytes.length cb, .slice Ak x.kids.length ck] 61)) 31 #[.func (.func 62) #[.agg #[.int .i64 x.kind, .string x.code, .string x.value, .string x.path, .slice Ab x.bytes.length cb, .slice Ak x.kids.length ck]] #[], .func (.func 63) #[.agg #[.int .i64 x.kind, .string x.code, .string x.value, .string x.path, .slice Ab x.bytes.length cb, .slice Ak x.kids.length ck]] #[], .func (.func 64) #[.agg #[.int .i64 x.kind, .string x.code, .string x.value, .string x.path, .slice Ab x.bytes.length cb, .slice Ak x.kids.length ck]] #[]]; rw [World.size_alloc] at k; exact k) (by simp))
  have HB := Lib.hid b2
  clear b1 b2 h hr hwf hk
  unfold Nd.v at HA ⊢
  simp only [List.length_cons, List.length_nil, Nat.zero_add, Nat.reduceAdd] at HA
  go_enter Tryz.func43, Tryz.ntmps43
  go_wp2_with fail
  refine HA.out.mono ?_
  rintro e w1 ⟨rfl, hb⟩
  have HE := Lib.hid (HB.out.trans (hb.mono HB.out.size))
  clear hb HA HB
  go_wp2
  go_ret
  exact ⟨ret_bool (by simp), HE.out⟩
set_option maxHeartbeats 1600000 in
theorem Right_no (x : Nd) (V : Value) (w : World) (h : NdAt w x V) (hr : RoomsAt w) (hk : x.kind ≠ 1) : Calls Tryz.prog 19 #[V] w (BoolEnd x.isRight w) := by
  have h' := h
  obtain ⟨hwf, Ab, cb, Ak, ck, rfl, _, _⟩ := h'
  have b1 := below_box w (.cells #[.int .i64 x.kind, .string x.code, .string x.value, .string x.path, .slice Ab x.bytes.length cb, .slice Ak x.kids.length ck] 26)
  have b2 := b1.alloc b1.size (.cells #[.int .i64 x.kind, .string x.code, .string x.value, .string x.path, .slice Ab x.bytes.length cb, .slice Ak x.kids.length ck] 61)
  have q2 := Blk.new (w.alloc (.cells #[.int .i64 x.kind, .string x.code, .string x.value, .string x.path, .slice Ab x.bytes.length cb, .slice Ak x.kids.length ck] 26)) 61 #[.int .i64 x.kind, .string x.code, .string x.value, .string x.path, .slice Ab x.bytes.length cb, .slice Ak x.kids.length ck]
  have HL := Lib.hid (isLeaf_no x _ _ (h.below b2) (hr.on b2) hk)
  have HB := Lib.hid (And.intro b2 (And.intro q2 (And.intro h hr)))
  clear b1 b2 q2 h hr hwf hk
  unfold Nd.v at HL HB ⊢
  go_enter Tryz.func19, Tryz.ntmps19
  go_wp2_with fail
  refine HL.out.mono ?_
  rintro e w1 ⟨rfl, hb⟩
  have hbw := HB.out.1.trans (hb.mono HB.out.1.size)
  have HA := Lib.hid (isRight_n x _ w1 (HB.out.2.2.1.below hbw) (HB.out.2.2.2.on hbw))
  unfold Nd.v at HA
  obtain ⟨c0, c1, c2, c3, c4, c5⟩ := cells6 (HB.out.2.1.below hb (by simp))
  rw [World.size_alloc] at c0 c1 c2 c3 c4 c5
  have HE := Lib.hid hbw
  clear hb HL HB hbw
  go_wp2_with fail
  refine HA.out.mono ?_
  rintro e w2 ⟨rfl, hb⟩
  have HF := Lib.hid (HE.out.trans (hb.mono HE.out.size))
  clear hb HA HE
  go_wp2
  go_ret
  exact ⟨rfl, HF.out⟩
end Go.Proofs.YtgjgcbemgmkncaaGreatDoor
namespace Go.Proofs.YtgjgcbemgmkncaaGreatDoor
open Go.RowKit Go.Shelf
set_option linter.unusedVariables false
set_option maxRecDepth 20000
set_option linter.unusedSimpArgs false

/-- The row iv, in the blocks bl: room for so many, and the kids f. -/
def RowAt (W : World) (iv : Value) (room : Int) (f : Kids) (bl : List Nat) : Prop :=
  (∃ g, iv = .iface 88 (.pointer (some ⟨g, 0, none⟩)) ∧ bl = [g] ∧ FewAt W g room f) ∨
  (∃ g gr gu n, iv = .iface 91 (.pointer (some ⟨g, 0, none⟩)) ∧ bl = [g, gr, gu] ∧ room = ((n : Nat) : Int) ∧ ManyAt W g gr gu n f)
/-- Whatever lay in other blocks is as it was. -/
structure Kept (bl : List Nat) (W W' : World) : Prop where
  os : W'.os = W.os
  tape : W'.tape = W.tape
  output : W'.output = W.output
  size : W.heap.size ≤ W'.heap.size
  block : ∀ k, k < W.heap.size → k ∉ bl → W'.heap[k]? = W.heap[k]?
theorem Kept.blk {bl : List Nat} {W W' : World} (h : Kept bl W W') {g : Nat} {t : TypeId} {cs : Array Value} (hb : Blk W g t cs) (hg : g ∉ bl) : Blk W' g t cs := (h.block g hb.lt hg).trans hb
theorem below_kept {n : Nat} {bl : List Nat} {w W W' : World} (hb : Below n w W) (h : Kept bl W W') (hn : n ≤ W.heap.size) (hbl : ∀ b ∈ bl, n ≤ b) : Below n w W' :=
  ⟨h.os.trans hb.os, h.tape.trans hb.tape, h.output.trans hb.output, Nat.le_trans hb.size h.size, fun k hk => (h.block k (Nat.lt_of_lt_of_le hk hn) (fun hm => by have := hbl k hm; omega)).trans (hb.block k hk)⟩
theorem kept_grown {W W' : World} {g : Nat} (h : W.grownBy W' (some g)) : Kept [g] W W' := ⟨h.os, h.tape, h.output, h.size, fun k hk hm => h.block k hk (fun e => by injection e with e; exact hm (by simp [e]))⟩
theorem kept_three {W W' : World} {g gr gu : Nat} (h : Three g gr gu W W') : Kept [g, gr, gu] W W' := ⟨h.os, h.tape, h.output, h.size, fun k hk hm => by simp at hm; exact h.block k hk hm.1 hm.2.1 hm.2.2⟩
theorem RowAt.below {W W' : World} {iv : Value} {room : Int} {f : Kids} {bl : List Nat} (h : RowAt W iv room f bl) (hb : Below W.heap.size W W') : RowAt W' iv room f bl := by
  rcases h with ⟨g, h1, h2, h3⟩ | ⟨g, gr, gu, n, h1, h2, h3, h4⟩
  · exact .inl ⟨g, h1, h2, h3.below hb⟩
  · exact .inr ⟨g, gr, gu, n, h1, h2, h3, h4.below hb⟩
theorem RowAt.lt {W : World} {iv : Value} {room : Int} {f : Kids} {bl : List Nat} (h : RowAt W iv room f bl) : ∀ b ∈ bl, b < W.heap.size := by
  rcases h with ⟨g, h1, rfl, h3⟩ | ⟨g, gr, gu, n, h1, rfl, h3, h4⟩
  · intro b hb; simp at hb; subst hb; exact h3.lt
  · obtain ⟨l1, l2, l3⟩ := h4.lt
    intro b hb; simp at hb; rcases hb with rfl | rfl | rfl <;> assumption
def RowNew (room : Int) (w : World) (e : Ending) (w' : World) : Prop := ∃ iv bl, e = .returned iv ∧ RowAt w' iv room noKids bl ∧ (∀ b ∈ bl, w.heap.size ≤ b) ∧ Below w.heap.size w w'
theorem row_4 (w : World) : Calls Tryz.prog 60 #[.int .i64 4] w (RowNew 4 w) := by
  go_enter Tryz.func60, Tryz.ntmps60
  go_wp2_with fail
  refine (new_4 w).mono ?_
  rintro e w1 ⟨g, rfl, hf, hg, hb⟩
  have H := Lib.hid (And.intro hf (And.intro hg hb))
  clear hf hg hb
  go_wp2
  go_ret
  exact ⟨_, [g], rfl, .inl ⟨g, rfl, rfl, H.out.1⟩, by simpa using H.out.2.1, H.out.2.2⟩
theorem row_16 (w : World) : Calls Tryz.prog 60 #[.int .i64 16] w (RowNew 16 w) := by
  go_enter Tryz.func60, Tryz.ntmps60
  go_wp2_with fail
  refine (new_16 w).mono ?_
  rintro e w1 ⟨g, rfl, hf, hg, hb⟩
  have H := Lib.hid (And.intro hf (And.intro hg hb))
  clear hf hg hb
  go_wp2
  go_ret
  exact ⟨_, [g], rfl, .inl ⟨g, rfl, rfl, H.out.1⟩, by simpa using H.out.2.1, H.out.2.2⟩
theorem row_48 (w : World) : Calls Tryz.prog 60 #[.int .i64 48] w (RowNew 48 w) := by
  go_enter Tryz.func60, Tryz.ntmps60
  go_wp2_with fail
  refine (new_no 48 w (by decide) (by decide)).mono ?_
  rintro e w1 ⟨rfl, rfl⟩
  go_wp2_with fail
  refine (New_m 48 w1 (.inl rfl)).mono ?_
  rintro e w2 ⟨g, gr, gu, rfl, hf, hg, hg2, hg3, hb⟩
  have H := Lib.hid (And.intro hf (And.intro hg (And.intro hg2 (And.intro hg3 hb))))
  clear hf hg hg2 hg3 hb
  go_wp2
  go_ret
  exact ⟨_, [g, gr, gu], rfl, .inr ⟨g, gr, gu, 48, rfl, rfl, rfl, H.out.1⟩, by intro b hb; simp at hb; rcases hb with rfl | rfl | rfl <;> simp [H.out.2.1, H.out.2.2.1, H.out.2.2.2.1], H.out.2.2.2.2⟩
theorem row_256 (w : World) : Calls Tryz.prog 60 #[.int .i64 256] w (RowNew 256 w) := by
  go_enter Tryz.func60, Tryz.ntmps60
  go_wp2_with fail
  refine (new_no 256 w (by decide) (by decide)).mono ?_
  rintro e w1 ⟨rfl, rfl⟩
  go_wp2_with fail
  refine (New_m 256 w1 (.inr rfl)).mono ?_
  rintro e w2 ⟨g, gr, gu, rfl, hf, hg, hg2, hg3, hb⟩
  have H := Lib.hid (And.intro hf (And.intro hg (And.intro hg2 (And.intro hg3 hb))))
  clear hf hg hg2 hg3 hb
  go_wp2
  go_ret
  exact ⟨_, [g, gr, gu], rfl, .inr ⟨g, gr, gu, 256, rfl, rfl, rfl, H.out.1⟩, by intro b hb; simp at hb; rcases hb with rfl | rfl | rfl <;> simp [H.out.2.1, H.out.2.2.1, H.out.2.2.2.1], H.out.2.2.2.2⟩
def roomOk (room : Int) : Prop := room = 4 ∨ room = 16 ∨ room = 48 ∨ room = 256
theorem row_n (room : Int) (h : roomOk room) (w : World) : Calls Tryz.prog 60 #[.int .i64 room] w (RowNew room w) := by
  rcases h with rfl | rfl | rfl | rfl
  · exact row_4 w
  · exact row_16 w
  · exact row_48 w
  · exact row_256 w
/-! ### The interface's methods -/
theorem few_Put_na (g : Nat) (W : World) : (nilAhead 263 88 (.pointer (some ⟨g, 0, none⟩)) "Put").run Tryz.prog W = .ok (some false) W := by kernel_rfl
theorem few_Put_me (g : Nat) (W : World) : (method 263 88 (.pointer (some ⟨g, 0, none⟩)) "Put").run Tryz.prog W = .ok (112, .pointer (some ⟨g, 0, none⟩)) W := by kernel_rfl
theorem few_Turn_na (g : Nat) (W : World) : (nilAhead 263 88 (.pointer (some ⟨g, 0, none⟩)) "Turn").run Tryz.prog W = .ok (some false) W := by kernel_rfl
theorem few_Turn_me (g : Nat) (W : World) : (method 263 88 (.pointer (some ⟨g, 0, none⟩)) "Turn").run Tryz.prog W = .ok (114, .pointer (some ⟨g, 0, none⟩)) W := by kernel_rfl
theorem few_Take_na (g : Nat) (W : World) : (nilAhead 263 88 (.pointer (some ⟨g, 0, none⟩)) "Take").run Tryz.prog W = .ok (some false) W := by kernel_rfl
theorem few_Take_me (g : Nat) (W : World) : (method 263 88 (.pointer (some ⟨g, 0, none⟩)) "Take").run Tryz.prog W = .ok (113, .pointer (some ⟨g, 0, none⟩)) W := by kernel_rfl
theorem few_Find_na (g : Nat) (W : World) : (nilAhead 263 88 (.pointer (some ⟨g, 0, none⟩)) "Find").run Tryz.prog W = .ok (some false) W := by kernel_rfl
theorem few_Find_me (g : Nat) (W : World) : (method 263 88 (.pointer (some ⟨g, 0, none⟩)) "Find").run Tryz.prog W = .ok (109, .pointer (some ⟨g, 0, none⟩)) W := by kernel_rfl
theorem few_All_na (g : Nat) (W : World) : (nilAhead 263 88 (.pointer (some ⟨g, 0, none⟩)) "All").run Tryz.prog W = .ok (some false) W := by kernel_rfl
theorem few_All_me (g : Nat) (W : World) : (method 263 88 (.pointer (some ⟨g, 0, none⟩)) "All").run Tryz.prog W = .ok (108, .pointer (some ⟨g, 0, none⟩)) W := by kernel_rfl
theorem few_Next_na (g : Nat) (W : World) : (nilAhead 263 88 (.pointer (some ⟨g, 0, none⟩)) "Next").run Tryz.prog W = .ok (some false) W := by kernel_rfl
theorem few_Next_me (g : Nat) (W : World) : (method 263 88 (.pointer (some ⟨g, 0, none⟩)) "Next").run Tryz.prog W = .ok (111, .pointer (some ⟨g, 0, none⟩)) W := by kernel_rfl
theorem many_Put_na (g : Nat) (W : World) : (nilAhead 263 91 (.pointer (some ⟨g, 0, none⟩)) "Put").run Tryz.prog W = .ok (some false) W := by kernel_rfl
theorem many_Put_me (g : Nat) (W : World) : (method 263 91 (.pointer (some ⟨g, 0, none⟩)) "Put").run Tryz.prog W = .ok (128, .pointer (some ⟨g, 0, none⟩)) W := by kernel_rfl
theorem many_Turn_na (g : Nat) (W : World) : (nilAhead 263 91 (.pointer (some ⟨g, 0, none⟩)) "Turn").run Tryz.prog W = .ok (some false) W := by kernel_rfl
theorem many_Turn_me (g : Nat) (W : World) : (method 263 91 (.pointer (some ⟨g, 0, none⟩)) "Turn").run Tryz.prog W = .ok (130, .pointer (some ⟨g, 0, none⟩)) W := by kernel_rfl
theorem many_Take_na (g : Nat) (W : World) : (nilAhead 263 91 (.pointer (some ⟨g, 0, none⟩)) "Take").run Tryz.prog W = .ok (some false) W := by kernel_rfl
theorem many_Take_me (g : Nat) (W : World) : (method 263 91 (.pointer (some ⟨g, 0, none⟩)) "Take").run Tryz.prog W = .ok (129, .pointer (some ⟨g, 0, none⟩)) W := by kernel_rfl
theorem many_Find_na (g : Nat) (W : World) : (nilAhead 263 91 (.pointer (some ⟨g, 0, none⟩)) "Find").run Tryz.prog W = .ok (some false) W := by kernel_rfl
theorem many_Find_me (g : Nat) (W : World) : (method 263 91 (.pointer (some ⟨g, 0, none⟩)) "Find").run Tryz.prog W = .ok (125, .pointer (some ⟨g, 0, none⟩)) W := by kernel_rfl
theorem many_All_na (g : Nat) (W : World) : (nilAhead 263 91 (.pointer (some ⟨g, 0, none⟩)) "All").run Tryz.prog W = .ok (some false) W := by kernel_rfl
theorem many_All_me (g : Nat) (W : World) : (method 263 91 (.pointer (some ⟨g, 0, none⟩)) "All").run Tryz.prog W = .ok (124, .pointer (some ⟨g, 0, none⟩)) W := by kernel_rfl
theorem many_Next_na (g : Nat) (W : World) : (nilAhead 263 91 (.pointer (some ⟨g, 0, none⟩)) "Next").run Tryz.prog W = .ok (some false) W := by kernel_rfl
theorem many_Next_me (g : Nat) (W : World) : (method 263 91 (.pointer (some ⟨g, 0, none⟩)) "Next").run Tryz.prog W = .ok (127, .pointer (some ⟨g, 0, none⟩)) W := by kernel_rfl
/-- A call by the interface leads to a function, which does this. -/
def RowEndI (v : Value) (iv : Value) (room : Int) (f : Kids) (bl : List Nat) (w : World) (e : Ending) (w' : World) : Prop := e = .returned v ∧ RowAt w' iv room f bl ∧ Kept bl w w'
end Go.Proofs.YtgjgcbemgmkncaaGreatDoor
namespace Go.Proofs.YtgjgcbemgmkncaaGreatDoor
open Go.RowKit Go.Shelf
set_option linter.unusedVariables false
set_option maxRecDepth 20000
set_option linter.unusedSimpArgs false

/-- The kids laid one after the other. -/
def layStep (room : Int) (f : Kids) (p : Nat × (Int × Int)) : Kids := (putK room f p.1 p.2).2
def layK (room : Int) (l : List (Nat × (Int × Int))) : Kids := l.foldl (layStep room) noKids
theorem layK_snoc (room : Int) (l : List (Nat × (Int × Int))) (p : Nat × (Int × Int)) : layK room (l ++ [p]) = layStep room (layK room l) p := by unfold layK; rw [List.foldl_append]; rfl
theorem Kept.trans {bl : List Nat} {W W1 W2 : World} (h : Kept bl W W1) (k : Kept bl W1 W2) : Kept bl W W2 := ⟨k.os.trans h.os, k.tape.trans h.tape, k.output.trans h.output, Nat.le_trans h.size k.size, fun i hi hm => (k.block i (Nat.lt_of_lt_of_le hi h.size) hm).trans (h.block i hi hm)⟩
theorem kept_drew {bl : List Nat} {W W' : World} (h : Kept bl W.drew W') : Kept bl W W' := ⟨h.os, h.tape, h.output, h.size, h.block⟩
def LaidEnd (room : Int) (f : Kids) (w : World) (e : Ending) (w' : World) : Prop := ∃ iv bl, e = .returned iv ∧ RowAt w' iv room f bl ∧ (∀ b ∈ bl, w.heap.size ≤ b) ∧ Below w.heap.size w w'
set_option maxHeartbeats 3200000 in
set_option maxRecDepth 100000 in
theorem laid_n (x : Nd) (V : Value) (room : Int) (w : World) (h : NdAt w x V) (hroom : roomOk room) (hlen : x.bytes.length ≤ x.kids.length) : Calls Tryz.prog 41 #[V, .int .i64 room] w (LaidEnd room (layK room (x.bytes.zip x.kids)) w) := by
  obtain ⟨hwf, Ab, cb, Ak, ck, rfl, hb, hk⟩ := h
  have b1 := below_box w (.cells #[.int .i64 x.kind, .string x.code, .string x.value, .string x.path, .slice Ab x.bytes.length cb, .slice Ak x.kids.length ck] 61)
  have q1 := Blk.new w 61 #[.int .i64 x.kind, .string x.code, .string x.value, .string x.path, .slice Ab x.bytes.length cb, .slice Ak x.kids.length ck]
  have HR := Lib.hid (row_n room hroom (w.alloc (.cells #[.int .i64 x.kind, .string x.code, .string x.value, .string x.path, .slice Ab x.bytes.length cb, .slice Ak x.kids.length ck] 61)))
  have HB := Lib.hid (And.intro b1 (And.intro q1 (And.intro hb (And.intro hk hwf))))
  obtain ⟨lb, hlb⟩ : ∃ lb, lb = x.bytes := ⟨_, rfl⟩
  obtain ⟨lk, hlk⟩ : ∃ lk, lk = x.kids := ⟨_, rfl⟩
  clear b1 q1 hb hk hwf hroom
  unfold Nd.v at HB ⊢
  have HWF := Lib.hid HB.out.2.2.2.2
  go_enter Tryz.func41, Tryz.ntmps41
  go_wp2_with fail
  refine HR.out.mono ?_
  rintro e w1 ⟨iv, bl, rfl, hrow, hbl, hb1⟩
  have hbw := HB.out.1.trans (hb1.mono HB.out.1.size)
  have q1 := HB.out.2.1.below hb1 (by simp)
  have H1 := Lib.hid (And.intro hrow (And.intro hbl (And.intro hbw q1)))
  have e4 := q1.cell 4
  simp at e4
  clear hrow hbl hb1 hbw q1 HR
  go_wp2_with fail
  go_loopw [14] (fun i wr => ∃ k : Nat, k ≤ x.bytes.length ∧ i = .int .i64 k ∧ Hid (RowAt wr iv room (layK room ((x.bytes.zip x.kids).take k)) bl ∧ Below w.heap.size w wr ∧ Kept bl w1 wr)) (fun i _ => x.bytes.length - (intOf i).toNat)
  case atStart => exact ⟨0, Nat.zero_le _, rfl, Lib.hid ⟨H1.out.1, H1.out.2.2.1, ⟨rfl, rfl, rfl, Nat.le_refl _, fun _ _ _ => rfl⟩⟩⟩
  case round =>
    obtain ⟨k, hk, rfl, HW⟩ := hrel
    by_cases hlt : k < x.bytes.length
    · obtain ⟨ad, rfl, hab, c0⟩ := byte_at HB.out.2.2.1 hlt
      obtain ⟨ae, rfl, hae, c1, c2⟩ := ref_at HB.out.2.2.2.1 (k := k) (by omega)
      have d0 : wr.cell? (ad.add k) = some (.int .u8 (x.bytes[k] : Int)) := (HW.out.2.1.cell (p := ad.add k) (by rw [block_of_add]; exact hab)).trans c0
      have d1 : wr.cell? (ae.add (k * 2)) = some (.int .i64 (x.kids[k]).1) := (HW.out.2.1.cell (p := ae.add (k * 2)) (by rw [block_of_add]; exact hae)).trans c1
      have d2 : wr.cell? (ae.add (k * 2 + 1)) = some (.int .u32 (x.kids[k]).2) := (HW.out.2.1.cell (p := ae.add (k * 2 + 1)) (by rw [block_of_add]; exact hae)).trans c2
      have d2a : wr.cell? ⟨(ae.add (k * 2)).block, (ae.add (k * 2)).off + 1, none⟩ = some (.int .u32 (x.kids[k]).2) := by
        rw [← d2, block_of_add]; congr 1; simp [Addr.add]; split <;> simp_all <;> omega
      have d2b : wr.cell? ⟨ae.block, (ae.add (k * 2)).off + 1, none⟩ = some (.int .u32 (x.kids[k]).2) := by rw [block_of_add] at d2a; exact d2a
      have q1 : Blk wr w.heap.size 61 #[.int .i64 x.kind, .string x.code, .string x.value, .string x.path, .slice (some ad) x.bytes.length cb, .slice (some ae) x.kids.length ck] := HW.out.2.2.blk H1.out.2.2.2 (fun hm => by have h1 := H1.out.2.1 _ hm; simp at h1; omega)
      have e5 := q1.cell 5
      simp at e5
      have hmax := HWF.out.lb
      have hb256 := HWF.out.bytes _ (List.getElem_mem hlt)
      have HS : Hid ((x.bytes.zip x.kids).take (k + 1) = (x.bytes.zip x.kids).take k ++ [(x.bytes[k], x.kids[k])]) := Lib.hid (by rw [List.take_succ_eq_append_getElem (by simp; omega)]; simp)
      generalize x.bytes[k] = b at d0 hb256 HS
      generalize x.kids[k] = r at d1 d2 d2a d2b HS
      have i1 : (0 : Int) ≤ (k : Int) := by omega
      have i2 : (k : Int) < (x.bytes.length : Int) := by omega
      have i3 : (k : Int) < (x.kids.length : Int) := by omega
      have i4 : k < x.bytes.length := hlt
      have i5 : k < x.kids.length := by omega
      clear c0 c1 c2 q1 d2
      rcases HW.out.1 with ⟨g, rfl, rfl, hf⟩ | ⟨g, gr, gu, n, rfl, rfl, rfl, hf⟩
      · have HP := Lib.hid (Put_k g room _ b r wr.drew hf.drew hb256)
        have hna := few_Put_na g
        have hme := few_Put_me g
        clear hf
        unfold refV at HP
        go_wp2_with fail
        go_region_with ((refine HP.out.mono ?_; rintro e wn ⟨rfl, hfn, hgn⟩))
        all_goals
          have hkn : Kept [g] wr wn := kept_drew (kept_grown hgn)
          have HN := Lib.hid (And.intro (show RowAt wn _ room _ [g] from .inl ⟨g, rfl, rfl, hfn⟩) (And.intro (below_kept HW.out.2.1 hkn HW.out.2.1.size (fun b hb => by have := H1.out.2.1 b hb; simp at this; omega)) (HW.out.2.2.trans hkn)))
          clear hfn hgn hkn
          go_wp2
          go_roundw
          case rel => exact ⟨k + 1, by omega, by go_num, Lib.hid ⟨by rw [HS.out, layK_snoc]; exact HN.out.1, HN.out.2⟩⟩
          case measure => simp [intOf]; omega
      · have HP := Lib.hid (Put_m g gr gu n _ b r wr.drew hf.drew hb256)
        have hna := many_Put_na g
        have hme := many_Put_me g
        clear hf
        unfold refV at HP
        go_wp2_with fail
        go_region_with ((refine HP.out.mono ?_; rintro e wn ⟨rfl, hfn, hgn⟩))
        all_goals
          have hkn : Kept [g, gr, gu] wr wn := kept_drew (kept_three hgn)
          have HN := Lib.hid (And.intro (show RowAt wn _ (n : Int) _ [g, gr, gu] from .inr ⟨g, gr, gu, n, rfl, rfl, rfl, hfn⟩) (And.intro (below_kept HW.out.2.1 hkn HW.out.2.1.size (fun b hb => by have := H1.out.2.1 b hb; simp at this; omega)) (HW.out.2.2.trans hkn)))
          clear hfn hgn hkn
          go_wp2
          go_roundw
          case rel => exact ⟨k + 1, by omega, by go_num, Lib.hid ⟨by rw [HS.out, layK_snoc]; exact HN.out.1, HN.out.2⟩⟩
          case measure => simp [intOf]; omega
    · obtain rfl : k = x.bytes.length := by omega
      have i2 : ¬ ((x.bytes.length : Int) < (x.bytes.length : Int)) := by omega
      have hfin := HW.out.1
      rw [List.take_of_length_le (by simp; omega)] at hfin
      have HF := Lib.hid hfin
      clear hfin
      go_wp2
      go_ret
      exact ⟨iv, bl, rfl, HF.out, fun b hb => by have := H1.out.2.1 b hb; simp at this; omega, HW.out.2.1⟩
end Go.Proofs.YtgjgcbemgmkncaaGreatDoor
namespace Go.Proofs.YtgjgcbemgmkncaaGreatDoor
open Go.RowKit Go.Shelf
set_option linter.unusedVariables false
set_option linter.unusedSimpArgs false
attribute [local go_sem] Oper.semAt_some

set_option maxHeartbeats 3200000 in
set_option maxRecDepth 100000 in
theorem all_k_stops (Bs g n B0 : Nat) (own : World → Nat → Prop) (room : Int) (f : Kids) (w : World) (hO : Owns w.heap.size own) (hlo : ∀ k, own w k → k < w.heap.size) (hn : 2 ≤ n) (hc : w.cell? ⟨Bs, 0, none⟩ = some (.pointer (some ⟨g, 0, none⟩))) (hf : FewAt w g room f) :
    SeqStopsO Fence.wide n Tryz.prog 115 #[.pointer (some ⟨Bs, 0, none⟩)] encK (KeepsO own) (fun ys => ys = kidsF f) (fun pre => pre <+: kidsF f) 16 w B0 := fun l J Jx W hW hsz hJ hJx hY h0 => by
  have hBs : Bs < w.heap.size := World.block_lt_of_cell? w _ hc
  have hc1 := (hW.cell (p := ⟨Bs, 0, none⟩) hBs).trans hc
  have hf1 := hf.below hW
  obtain ⟨o, ho, hr, rfl, hg⟩ := hf1
  obtain ⟨n0, n1⟩ := few_cells ho.1 hg
  have ht := there_some g o.room W n1
  rw [decide_eq_true ho.2.1] at ht
  have HT := Lib.hid ht
  have HJ := Lib.hid (And.intro hJ (And.intro hJx (And.intro hY h0)))
  have HO := Lib.hid (And.intro ho (And.intro hr hg))
  clear ht hJ hJx hY h0 hg ho hr hf hc n0 n1
  refine callsIn_of_wp Tryz.func115 rfl trivial ?_ rfl
  simp only [Tryz.ntmps115, List.size_toArray, List.length_cons, List.length_nil, Nat.reduceAdd, Nat.reduceSub, Array.replicate_succ, Array.replicate_zero, List.push_toArray, List.append_toArray, List.nil_append, List.cons_append]
  refine wpIn_wide.2 ?_
  go_wp2_with fail
  refine HT.out.mono ?_
  rintro e w1 ⟨rfl, rfl⟩
  clear HT
  have hgl := HO.out.2.2.lt
  have hzb : Blk (w1.alloc (.cells zero49.toArray 104)) w1.heap.size 104 zero49.toArray := Blk.new _ _ _
  have HZ := Lib.hid (show Blk (w1.alloc (.cells #[.int .u8 0, .int .u8 0, .int .u8 0, .int .u8 0, .int .u8 0, .int .u8 0, .int .u8 0, .int .u8 0, .int .u8 0, .int .u8 0, .int .u8 0, .int .u8 0, .int .u8 0, .int .u8 0, .int .u8 0, .int .u8 0, .int .i64 0, .int .u32 0, .int .i64 0, .int .u32 0, .int .i64 0, .int .u32 0, .int .i64 0, .int .u32 0, .int .i64 0, .int .u32 0, .int .i64 0, .int .u32 0, .int .i64 0, .int .u32 0, .int .i64 0, .int .u32 0, .int .i64 0, .int .u32 0, .int .i64 0, .int .u32 0, .int .i64 0, .int .u32 0, .int .i64 0, .int .u32 0, .int .i64 0, .int .u32 0, .int .i64 0, .int .u32 0, .int .i64 0, .int .u32 0, .int .i64 0, .int .u32 0, .int .i64 0] 104)) w1.heap.size 104 zero49.toArray from hzb)
  clear hzb
  go_wp2_with (first
    | (refine wpList_load_mid rfl 104 (.tmp 10) rfl g 0 rfl o.row _ (row_range HO.out.1.1 HO.out.2.2) Tryz.underlying104 rfl (by rw [FewO.row_len HO.out.1.1]; exact infoRow) ?_)
    | (refine wpList_store_row rfl 104 (.tmp 3) (.tmp 11) rfl w1.heap.size o.row zero49 104 rfl rfl HZ.out (by rw [FewO.row_len HO.out.1.1]; rfl) (by rw [FewO.row_len HO.out.1.1]; exact infoRow) (row_one o) ?_
       intro w2 h2
       have c48 : w2.cell? ⟨w1.heap.size, 48, none⟩ = some (.int .i64 o.n) := (h2.out.1.cell 48).trans (by rw [List.getElem?_toArray, FewO.row_at (by decide)]; exact FewO.atN HO.out.1.1)
       have hbW : Below w1.heap.size w1 w2 := (below_box w1 _).grown h2.out.2 (by simp) (fun k e => by cases e; exact Nat.le_refl _)
       have hno : ¬ own w2 w1.heap.size := fun e => by have e1 := hO.back w w2 none _ (Nat.le_refl _) (World.grownBy_of_below (hW.trans (hbW.mono hW.size))) (fun r e => by cases e) e; have := hlo _ e1; have := hW.size; omega
       have HB2 := Lib.hid (And.intro h2.out.1 hno)
       have hJ0 := HJ.out.1 _ _ _ none HJ.out.2.2.2 (World.grownBy_of_below hbW) (fun r e => by cases e)
       clear h2 hbW hno))
  clear c48
  have hBw : w.heap.size ≤ w1.heap.size := hW.size
  refine (wpIn_wide (n := n)).1 ?_
  gi_loopw [14] (fun i wr => ∃ k : Nat, k ≤ o.n ∧ i = .int .i64 k ∧ Hid (J ((kidsF f).take k) wr ∧ Blk wr w1.heap.size 104 o.row.toArray ∧ ¬ own wr w1.heap.size)) (fun i _ => o.n - (intOf i).toNat)
  case atStart => exact ⟨0, Nat.zero_le _, rfl, Lib.hid ⟨hJ0, HB2.out.1, HB2.out.2⟩⟩
  case round =>
    obtain ⟨k, hk, rfl, HW⟩ := hrel
    by_cases hlt : k < o.n
    · have hkl : k < (kidsF f).length := by rw [kidsF_len, ← HO.out.2.1.n]; exact hlt
      obtain ⟨x, hx⟩ : ∃ x, (kidsF f)[k]? = some x := ⟨_, List.getElem?_eq_getElem hkl⟩
      obtain ⟨hxb, hxr⟩ := kid_at HO.out.2.1 hlt hx
      have hln := HO.out.1.1.ln
      have d0 : wr.cell? ⟨w1.heap.size, k, none⟩ = some (.int .u8 (x.1.val : Int)) := (HW.out.2.1.cell k).trans (by rw [List.getElem?_toArray, FewO.row_at (by omega)]; exact FewO.atB HO.out.1.1 hxb)
      have d1 : wr.cell? ⟨w1.heap.size, 16 + k * 2, none⟩ = some (.int .i64 x.2.1) := (HW.out.2.1.cell _).trans (by rw [List.getElem?_toArray, FewO.row_at (by omega)]; exact (FewO.atR HO.out.1.1 hxr).1)
      have d2 : wr.cell? ⟨w1.heap.size, 16 + k * 2 + 1, none⟩ = some (.int .u32 x.2.2) := (HW.out.2.1.cell _).trans (by rw [List.getElem?_toArray, FewO.row_at (by omega)]; exact (FewO.atR HO.out.1.1 hxr).2)
      have i1 : (0 : Int) ≤ (k : Int) := by omega
      have i2 : (k : Int) < (o.n : Int) := by omega
      have i3 : (k : Int) < 16 := by omega
      have hJd : J ((kidsF f).take k) wr.drew := HJ.out.1 _ _ _ none HW.out.1 ⟨rfl, rfl, rfl, Nat.le_refl _, fun _ _ _ => rfl⟩ (fun r e => by cases e)
      have hYd : YieldAt Fence.wide (n - 1) Tryz.prog l (encK x) wr.drew (fun e W' => ∃ b : Bool, e = .returned (.bool b) ∧ Hid ((b = true → J ((kidsF f).take k ++ [x]) W' ∧ KeepsO own wr.drew W') ∧ (b = false → Jx ((kidsF f).take k ++ [x]) W'))) :=
        (HJ.out.2.2.1 _ x wr.drew hJd (by rw [List.length_take]; omega)).mono (fun e W' h => by
          rcases h.2 with ⟨rfl, h1, h2⟩ | ⟨rfl, h1⟩
          · exact ⟨true, rfl, Lib.hid ⟨fun _ => ⟨h1, h2⟩, fun e => by cases e⟩⟩
          · exact ⟨false, rfl, Lib.hid ⟨fun e => by (cases e), fun _ => h1⟩⟩)
      obtain ⟨fn, tmps, assign, body, hy, hR⟩ := hYd
      dsimp only [encK] at hy
      clear hJd
      have hmix : Tryz.prog.follows .mixedOrders = true := by kernel_rfl
      gi_wp2_with (fail)
      have hn1 : 1 ≤ n := by omega
      have HX := Lib.hid hx
      clear hx hxb hxr hln
      gi_region_with_o ((refine hR.mono ?_; rintro e W3 ⟨b, rfl, hP⟩))
      all_goals
        cases b with
        | true =>
          obtain ⟨hJ3, hk3⟩ := hP.out.1 rfl
          have hlb := HW.out.2.1.lt
          have hnd : ¬ own wr.drew w1.heap.size := fun e => HW.out.2.2 (hO.back wr wr.drew none _ (by omega) ⟨rfl, rfl, rfl, Nat.le_refl _, fun _ _ _ => rfl⟩ (fun r e => by cases e) e)
          have HN := Lib.hid (And.intro hJ3 (And.intro (hk3.blk (g := w1.heap.size) (cs := o.row.toArray) HW.out.2.1.drew hnd) (fun e => hnd (hk3.mine _ (by simpa using hlb) e))))
          clear hJ3 hk3 hP hR hy hlb hnd
          gi_wp2
          go_roundw
          case rel =>
            refine ⟨k + 1, by omega, by go_num, Lib.hid ⟨?_, HN.out.2⟩⟩
            have ht : (kidsF f).take (k + 1) = (kidsF f).take k ++ [x] := by rw [List.take_add_one, HX.out]; rfl
            rw [ht]
            exact HN.out.1
          case measure => simp [intOf]; omega
        | false =>
          have hx3 := hP.out.2 rfl
          have HN := Lib.hid hx3
          clear hx3 hP hR hy
          gi_wp2
          refine bodyPost_ret (results_none rfl _ _ _) rfl ?_
          refine ⟨⟨_, rfl⟩, .inr ⟨(kidsF f).take k ++ [x], ?_, HN.out⟩⟩
          have ht : (kidsF f).take (k + 1) = (kidsF f).take k ++ [x] := by rw [List.take_add_one, HX.out]; rfl
          rw [← ht]
          exact List.take_prefix _ _
    · obtain rfl : k = o.n := by omega
      have hfin := HW.out.1
      rw [List.take_of_length_le (by rw [kidsF_len, ← HO.out.2.1.n]; exact Nat.le_refl _)] at hfin
      have HF := Lib.hid hfin
      clear hfin
      gi_wp2
      go_end0
      exact ⟨⟨_, rfl⟩, .inl ⟨_, rfl, HF.out⟩⟩
end Go.Proofs.YtgjgcbemgmkncaaGreatDoor
namespace Go.Proofs.YtgjgcbemgmkncaaGreatDoor
open Go.RowKit Go.Shelf
set_option linter.unusedVariables false

section
variable {P : Program} {md : Region.Mode} {ops : Array Oper} {Q : Exit → Act → World → Prop} {k0 : Nat} {S : World → Prop}
/-- Whatever order is picked: behind every operation S holds as long as number k0 has not come up. -/
def wpAnyL (P : Program) (md : Region.Mode) (ops : Array Oper) (Q : Exit → Act → World → Prop) (k0 : Nat) (S : World → Prop) : Nat → Array Bool → Act → World → Prop
  | 0, listed, a, w => Region.ready md ops listed = [] ∧ Q .normal a w
  | fuel + 1, listed, a, w => (Region.ready md ops listed = [] → Q .normal a w) ∧
    ∀ i ∈ Region.ready md ops listed, wpOp P ops Q i (fun a' w' => ((listed.setIfInBounds i true).getD k0 false = false → S w') ∧ wpAnyL P md ops Q k0 S fuel (listed.setIfInBounds i true) a' w') a w
theorem wpAny_of_L : ∀ (fuel : Nat) (listed : Array Bool) (a : Act) (w : World), wpAnyL P md ops Q k0 S fuel listed a w → wpAny P md ops Q fuel listed a w
  | 0, _, _, _, h => h
  | fuel + 1, _, _, _, h => ⟨h.1, fun i hi => wpOp_mono (fun a' w' k => wpAny_of_L fuel _ a' w' k.2) (h.2 i hi)⟩
/-- Number k waits for number i, over at most so many others. -/
def waitsT (md : Region.Mode) (ops : Array Oper) : Nat → Nat → Nat → Bool
  | 0, _, _ => false
  | n + 1, k, i => match ops[k]? with
    | some o => o.after.any fun e => Region.binds md e && (e.on == i || waitsT md ops n e.on i)
    | none => false
/-- With whatever has come up all has come up that it waits for. -/
def Closed (md : Region.Mode) (ops : Array Oper) (listed : Array Bool) : Prop := ∀ (j : Nat) (o : Oper), ops[j]? = some o → listed.getD j false = true → ∀ e ∈ o.after, Region.binds md e = true → listed.getD e.on false = true
def closedB (md : Region.Mode) (ops : Array Oper) (listed : Array Bool) : Bool := (List.range ops.size).all fun j => match ops[j]? with
  | some o => !(listed.getD j false) || o.after.all fun e => !(Region.binds md e) || listed.getD e.on false
  | none => true
theorem closed_of {listed : Array Bool} (h : closedB md ops listed = true) : Closed md ops listed := by
  intro j o ho hj e he hb
  unfold closedB at h
  have hlt : j < ops.size := (Array.getElem?_eq_some_iff.1 ho).1
  have h1 := List.all_eq_true.1 h j (List.mem_range.2 hlt)
  rw [ho] at h1
  simp only [hj, Bool.not_true, Bool.false_or] at h1
  rw [Array.all_eq_true] at h1
  obtain ⟨m, hm, rfl⟩ := Array.getElem_of_mem he
  have h2 := h1 m hm
  simpa [hb] using h2
theorem waits_listed {listed : Array Bool} (hc : Closed md ops listed) : ∀ (n k i : Nat), waitsT md ops n k i = true → listed.getD k false = true → listed.getD i false = true
  | 0, _, _, h, _ => by cases h
  | n + 1, k, i, h, hk => by
    unfold waitsT at h
    cases ho : ops[k]? with
    | none => rw [ho] at h; cases h
    | some o =>
      rw [ho] at h
      obtain ⟨m, hm, he⟩ := Array.any_eq_true.1 h
      rw [Bool.and_eq_true, Bool.or_eq_true, beq_iff_eq] at he
      have h1 := hc k o ho hk _ (Array.getElem_mem hm) he.1
      rcases he.2 with e | e
      · rw [← e]; exact h1
      · exact waits_listed hc n _ i e h1
theorem waits_ready {listed : Array Bool} (hc : Closed md ops listed) {n k i : Nat} (h : waitsT md ops n k i = true) (hk : k ∈ Region.ready md ops listed) : listed.getD i false = true := by
  cases n with
  | zero => cases h
  | succ n =>
    obtain ⟨_, o, ho, hall⟩ := mem_ready.1 hk
    unfold waitsT at h
    rw [ho] at h
    obtain ⟨m, hm, he⟩ := Array.any_eq_true.1 h
    rw [Bool.and_eq_true, Bool.or_eq_true, beq_iff_eq] at he
    have h1 := hall _ (Array.getElem_mem hm) he.1
    rcases he.2 with e | e
    · rw [← e]; exact h1
    · exact waits_listed hc n _ i e h1
theorem closed_set {listed : Array Bool} (hc : Closed md ops listed) {j : Nat} (hj : j ∈ Region.ready md ops listed) : Closed md ops (listed.setIfInBounds j true) := by
  intro k o ho hk e he hb
  by_cases e1 : j = k
  · subst e1
    obtain ⟨_, o', ho', hall⟩ := mem_ready.1 hj
    rw [ho] at ho'
    injection ho' with ho'
    subst ho'
    exact getD_set_true (hall e he hb)
  · rw [getD_set_ne false e1] at hk
    exact getD_set_true (hc k o ho hk e he hb)
theorem ready_un {listed : Array Bool} {i : Nat} (h : i ∈ Region.ready md ops listed) : listed.getD i false = false := by
  have h0 := (mem_ready.1 h).1
  rcases Nat.lt_or_ge i listed.size with h' | h'
  · simp [h'] at h0 ⊢; exact h0
  · simp [h'] at h0 ⊢
theorem wpAnyL_first {i : Nat} {oi : Oper} {v : Value} (hi : ops[i]? = some oi) (hsel : ∀ (j : Nat) (o : Oper) cs b, ops[j]? = some o → o.op ≠ .select cs b)
    (hQ : ∀ c a w, Q (.panic c) (a.put oi.dst v) w → Q (.panic c) a w) {nw : Nat} (hw0 : waitsT md ops nw k0 i = true) (hne : i ≠ k0) :
    ∀ (fuel : Nat) (listed : Array Bool) (a : Act) (w : World),
      (∀ j oj, ops[j]? = some oj → j ≠ i → listed.getD j true = false → (∀ e ∈ oj.after, Region.binds md e = true → e.on ≠ i) → oi.apart ops oj = true) →
      i ∈ Region.ready md ops listed → YieldsIf P ops S oi v a → S w → Closed md ops listed →
      wpAnyL P md ops Q k0 S fuel (listed.setIfInBounds i true) (a.put oi.dst v) w → wpAnyL P md ops Q k0 S (fuel + 1) listed a w := by
  intro fuel
  induction fuel with
  | zero =>
    intro listed a w _ hr hy hS hcl H
    refine ⟨fun h => (by rw [h] at hr; cases hr), fun j hj => ?_⟩
    by_cases hji : j = i
    · subst hji; exact hy.wpOp hi hS ⟨fun _ => hS, H⟩
    · have := ready_mono hj hji
      rw [H.1] at this
      cases this
  | succ fuel ih =>
    intro listed a w hfree hr hy hS hcl H
    refine ⟨fun h => (by rw [h] at hr; cases hr), fun j hj => ?_⟩
    by_cases hji : j = i
    · subst hji; exact hy.wpOp hi hS ⟨fun _ => hS, H⟩
    · have hun := ready_un hr
      have hjk : j ≠ k0 := fun e => by have := waits_ready hcl hw0 (e ▸ hj); rw [hun] at this; cases this
      have hk : listed.getD k0 false = false := by
        cases hh : listed.getD k0 false with
        | false => rfl
        | true => have := waits_listed hcl nw k0 i hw0 hh; rw [hun] at this; cases this
      have h1 := H.2 j (ready_mono hj hji)
      obtain ⟨hjun, oj, hoj, hall⟩ := mem_ready.1 hj
      have hnot : ∀ e ∈ oj.after, Region.binds md e = true → e.on ≠ i := fun e he hb heq => by
        have h1 := hall e he hb
        have h0 := (mem_ready.1 hr).1
        rw [heq] at h1
        rcases Nat.lt_or_ge i listed.size with h' | h'
        · simp [h'] at h0 h1; rw [h0] at h1; cases h1
        · simp [Array.getElem?_eq_none h'] at h1
      have hkj : ∀ (l : Array Bool) (m : Nat), m ≠ k0 → l.getD k0 false = false → (l.setIfInBounds m true).getD k0 false = false := fun l m hm hl => by
        rw [getD_set_ne false hm]; exact hl
      have h2 := wpOp_putIf hoj (hfree j oj hoj hji hjun hnot) (fun cs b => hsel i oi cs b hi) (fun cs b => hsel j oj cs b hoj) hQ hy h1
      have hfree' : ∀ k ok, ops[k]? = some ok → k ≠ i → (listed.setIfInBounds j true).getD k true = false →
          (∀ e ∈ ok.after, Region.binds md e = true → e.on ≠ i) → oi.apart ops ok = true := fun k ok hk hki hun hno => by
        refine hfree k ok hk hki ?_ hno
        by_cases hjk : j = k
        · subst hjk; exact hjun
        · rw [getD_set_ne true hjk] at hun; exact hun
      refine wpOp_mono (fun a' w' h3 => ?_) h2
      have hS' := h3.2.1 (hkj _ _ hjk (hkj _ _ hne hk))
      refine ⟨fun _ => hS', ih (listed.setIfInBounds j true) a' w' hfree' (ready_mono hr (Ne.symm hji)) h3.1 hS' (closed_set hcl hj) ?_⟩
      rw [Array.setIfInBounds_comm _ _ hji]
      exact h3.2.2
theorem wpAnyL_take {i : Nat} {oi : Oper} {v : Value} {fuel : Nat} {listed : Array Bool} {a : Act} {w : World} (hi : ops[i]? = some oi)
    (hs : Region.noSelect ops = true) (hf : Region.free md ops listed i = true) (hr : (Region.ready md ops listed).contains i = true) (hw0 : (waitsT md ops 6 k0 i && (i != k0) && closedB md ops listed) = true)
    (hQ : ∀ c a w, Q (.panic c) (a.put oi.dst v) w → Q (.panic c) a w) (hy : YieldsIf P ops S oi v a) (hS : S w)
    (h : wpAnyL P md ops Q k0 S fuel (listed.setIfInBounds i true) (a.put oi.dst v) w) : wpAnyL P md ops Q k0 S (fuel + 1) listed a w := by
  simp only [Bool.and_eq_true, bne_iff_ne] at hw0
  exact wpAnyL_first hi (Region.noSelect_spec hs) hQ hw0.1.1 hw0.1.2 fuel listed a w (Region.free_spec hi hf) (by simpa using hr) hy hS (closed_of hw0.2) h
theorem wpAnyL_done {listed : Array Bool} {a : Act} {w : World} (hr : Region.ready md ops listed = []) (h : Q .normal a w) : ∀ fuel, wpAnyL P md ops Q k0 S fuel listed a w
  | 0 => ⟨hr, h⟩
  | _ + 1 => ⟨fun _ => h, by rw [hr]; simp⟩
def AllL (P : Program) (md : Region.Mode) (ops : Array Oper) (Q : Exit → Act → World → Prop) (k0 : Nat) (S : World → Prop) (fuel : Nat) (listed : Array Bool) (a : Act) (w : World) (rs : List Nat) : Prop :=
  ∀ i ∈ rs, wpOp P ops Q i (fun a' w' => ((listed.setIfInBounds i true).getD k0 false = false → S w') ∧ wpAnyL P md ops Q k0 S fuel (listed.setIfInBounds i true) a' w') a w
theorem AllL.nil {fuel : Nat} {listed : Array Bool} {a : Act} {w : World} : AllL P md ops Q k0 S fuel listed a w [] := fun _ h => by cases h
theorem AllL.cons {fuel : Nat} {listed : Array Bool} {a : Act} {w : World} {i : Nat} {o : Oper} {rs : List Nat} (ho : ops[i]? = some o)
    (h : ∀ K' : Act → World → Prop, Shut (∀ a w, ((listed.setIfInBounds i true).getD k0 false = false → S w) → wpAnyL P md ops Q k0 S fuel (listed.setIfInBounds i true) a w → K' a w) → if Region.wanted o (yielded ops a.tmps) = true then Oper.wp P o a w K' Q else K' (a.put o.dst undef) w)
    (hs : AllL P md ops Q k0 S fuel listed a w rs) : AllL P md ops Q k0 S fuel listed a w (i :: rs) := fun j hj => by
  rcases List.mem_cons.1 hj with rfl | hj
  · exact wpOp_step ho (fun K' hK => h K' (fun a w hS hW => hK a w ⟨hS, hW⟩))
  · exact hs j hj
theorem wpAnyL_ready {rs : List Nat} {fuel : Nat} {listed : Array Bool} {a : Act} {w : World} (hr : Region.ready md ops listed = rs) (hne : rs ≠ [])
    (h : AllL P md ops Q k0 S fuel listed a w rs) : wpAnyL P md ops Q k0 S (fuel + 1) listed a w := ⟨fun h0 => absurd (hr ▸ h0) hne, hr ▸ h⟩
/-- The beginning, in a round. -/
theorem wpIn_region_L_round {id m : Nat} {a : Act} {w : World} {ops : List Oper} (l k0 : Nat) (S : World → Prop) (hout : ¬ LetsOut Q) (hm : P.follows .mixedOrders = true) (hd : ops.all (fun o => match o.op with | .defer _ => false | _ => true) = true)
    (h : wpAnyL P .any ops.toArray Q k0 S ops.toArray.size (Array.replicate ops.toArray.size false) a w.drew) : (Code.region id ops.toArray true).wpIn (Fence.wide.inRound l) m P Q a w :=
  wpIn_region_any hm (wpAny_round l m hout (noDefer hd) _ _ _ _ (wpAny_of_L _ _ _ _ h))
/-- .. and outside of one. -/
theorem wp_region_L {id : Nat} {a : Act} {w : World} (k0 : Nat) (S : World → Prop) (hm : P.follows .mixedOrders = true)
    (h : wpAnyL P .any ops Q k0 S ops.size (Array.replicate ops.size false) a w.drew) : (Code.region id ops true).wp P Q a w :=
  wp_region_any hm (wpAny_of_L _ _ _ _ h)
end
end Go.Proofs.YtgjgcbemgmkncaaGreatDoor
namespace Go.Proofs.YtgjgcbemgmkncaaGreatDoor
open Go.RowKit Go.Shelf
set_option linter.unusedVariables false

section
variable {P : Program} (w : World)
theorem append_block (base : Nat) (t ty e : TypeId) (i : TypeInfo) (z : Value) (ht : P.underlying t = some (.slice e)) (hi : P.info? e = some i) (hz : i.zero = some z)
    (hzs : z.cells.size = i.size) (hsz : 0 < i.size)
    (v : Value) (n : Nat) (xs : List Value) (hown : w.ownsRow base e i.size v n xs)
    (a : Addr) (m c : Nat) (news : List Value) (hl : news.length = m * i.size) (hnews : ∀ j u, news[j]? = some u → w.cell? (a.add j) = some u) (h1 : ∀ u ∈ news, u.oneCell' = true) (hm : 0 < m)
    (h63 : n + m ≤ maxLen) (hbytes : (n + m) * i.bytes ≤ 140737488355328) {v' : Value} {w' : World}
    (hr : (Builtin.append_ #[t, t] ty #[v, .slice (some a) m c]).run P w = .ok v' w') : v'.ownBlock = v.ownBlock ∨ v'.ownBlock = some w.heap.size := by
  have hsmall : n + m ≤ 9223372036854775807 := by simp only [maxLen] at h63; omega
  rcases hown.2 with ⟨rfl, rfl⟩ | ⟨g, cap, cur, rfl, hbg, hg, hnc, hcm, hcs, htake⟩
  · have hr2 := run_append_nil (P := P) w t ty e i z ht hi hz a m c news hl hnews (by omega) (by omega) (by have hb := hbytes; simp only [Nat.zero_add] at hb; omega)
    rw [hr] at hr2
    injection hr2 with e1 e2
    subst e1
    exact .inr rfl
  · by_cases hroom : n + m ≤ cap
    · have hfit : n * i.size + news.length ≤ cur.size := by rw [hl, hcs, ← Nat.add_mul]; exact Nat.mul_le_mul_right _ hroom
      have hr2 := run_append_room (P := P) w t ty e i ht hi g n cap cur hg a m c news hl hnews h1 hroom hfit
      rw [hr] at hr2
      injection hr2 with e1 e2
      subst e1
      exact .inl rfl
    · have holds : ∀ j u, xs[j]? = some u → w.cell? ((⟨g, 0, none⟩ : Addr).add j) = some u := hown.cells (g := g) rfl
      have hr2 := run_append_grow (P := P) w t ty e i z ht hi hz ⟨g, 0, none⟩ n cap xs hown.1 holds a m c news hl hnews (by omega) (by omega) (growslice_fits (by omega) hbytes)
      rw [hr] at hr2
      injection hr2 with e1 e2
      subst e1
      exact .inr rfl
/-- The step of a region: what is appended is one element. -/
theorem wp_append_fresh {o : Oper} {a : Act} {K : Act → World → Prop} {Q : Exit → Act → World → Prop} (s x : Operand) (t : TypeId)
    (ho : o.op = .call { callee := .builtin .append, args := #[s, x], argTypes := #[t, t] })
    (base : Nat) (e : TypeId) (i : TypeInfo) (z : Value) (size bytes : Nat) (ht : P.underlying t = some (.slice e)) (hi : P.info? e = some i) (hz : i.zero = some z)
    (hsize : i.size = size) (hby : i.bytes = bytes) (hzs : z.cells.size = size) (hsz : 0 < size)
    (v : Value) (n : Nat) (xs : List Value) (hs : a.eval s = v) (hown : w.ownsRow base e size v n xs)
    (ad : Addr) (m c : Nat) (news : List Value) (hx : a.eval x = .slice (some ad) m c) (hl : news.length = m * size) (hnews : ∀ j u, news[j]? = some u → w.cell? (ad.add j) = some u) (h1 : ∀ u ∈ news, u.oneCell' = true) (hm : 0 < m)
    (h63 : n + m ≤ maxLen) (hbytes : (n + m) * bytes ≤ 140737488355328) (hbase : base ≤ w.heap.size)
    (h : ∀ v' w', w'.ownsRow base e size v' (n + m) (xs ++ news) → w.grownBy w' v.ownBlock → (v'.ownBlock = v.ownBlock ∨ v'.ownBlock = some w.heap.size) → K (a.put o.dst v') w') : o.wp P a w K Q := by
  subst hsize
  subst hby
  obtain ⟨v', w', hr, h2, h3, h4⟩ := run_append_own (P := P) w base t o.type e i z i.size i.bytes ht hi hz rfl rfl hzs hsz v n xs hown ad m c news hl hnews h1 h63 hbytes hbase
  have hb := append_block w base t o.type e i z ht hi hz hzs hsz v n xs hown ad m c news hl hnews h1 hm h63 hbytes hr
  unfold Oper.wp execOp
  simp only [ho, resolve, invoke, builtin, Sem.run_bind, Sem.run_pure, Result.andThen_ok, List.map_toArray, List.map_cons, List.map_nil, hs, hx, hr]
  exact h v' w' h2 h3 hb
end
end Go.Proofs.YtgjgcbemgmkncaaGreatDoor
namespace Go.Proofs.YtgjgcbemgmkncaaGreatDoor
open Go.RowKit Go.Shelf
set_option linter.unusedVariables false
set_option maxRecDepth 20000
set_option linter.unusedSimpArgs false

/-- What 'of' calls its own: the node that it makes, and the two rows to which it leads. -/
def ofOwn (b : Nat) (W : World) (k : Nat) : Prop := k = b ∨ (∃ n c, W.cell? ⟨b, 4, none⟩ = some (.slice (some ⟨k, 0, none⟩) n c)) ∨ (∃ n c, W.cell? ⟨b, 5, none⟩ = some (.slice (some ⟨k, 0, none⟩) n c))
theorem ofOwn_same {b : Nat} {W W' : World} (h4 : W'.cell? ⟨b, 4, none⟩ = W.cell? ⟨b, 4, none⟩) (h5 : W'.cell? ⟨b, 5, none⟩ = W.cell? ⟨b, 5, none⟩) {k : Nat} : ofOwn b W' k → ofOwn b W k := by
  unfold ofOwn
  rw [h4, h5]
  exact id
theorem grown_cell {W W' : World} {row : Option Nat} (hg : W.grownBy W' row) {b : Nat} (hb : b < W.heap.size) (hr : row ≠ some b) (o : Nat) : W'.cell? ⟨b, o, none⟩ = W.cell? ⟨b, o, none⟩ :=
  World.cell?_of_block (hg.block b hb (Ne.symm hr))
theorem ofOwn_owns {b B : Nat} (hb : b < B) : Owns B (ofOwn b) := ⟨fun W W' row k hB hg hr h => by
  have hne : row ≠ some b := fun e => by have := hr b e; omega
  exact ofOwn_same (grown_cell hg (by omega) hne 4) (grown_cell hg (by omega) hne 5) h⟩
/-- The node's cells. -/
def outC (k : Int) (p : ByteArray) (v4 v5 : Value) : Array Value := #[.int .i64 k, .string { data := #[] }, .string { data := #[] }, .string p, v4, v5]
theorem ofOwn_blk {W : World} {b : Nat} {t : TypeId} {k : Int} {p : ByteArray} {v4 v5 : Value} (h : Blk W b t (outC k p v4 v5)) (i : Nat) : ofOwn b W i ↔ i = b ∨ (∃ n c, v4 = .slice (some ⟨i, 0, none⟩) n c) ∨ (∃ n c, v5 = .slice (some ⟨i, 0, none⟩) n c) := by
  have h4 : W.cell? ⟨b, 4, none⟩ = some v4 := h.cell 4
  have h5 : W.cell? ⟨b, 5, none⟩ = some v5 := h.cell 5
  unfold ofOwn
  rw [h4, h5]
  simp
theorem own_slice {W : World} {base size n : Nat} {e : TypeId} {v : Value} {xs : List Value} (h : W.ownsRow base e size v n xs) {g : Nat} (hg : v.ownBlock = some g) : ∃ n c, v = .slice (some ⟨g, 0, none⟩) n c := by
  rcases h.2 with ⟨rfl, _⟩ | ⟨g', cap, cur, rfl, _⟩
  · cases hg
  · injection hg with hg
    exact ⟨n, cap, by rw [← hg]⟩
theorem own_two {w : World} {base base' size size' n n' : Nat} {e e' : TypeId} {v v' : Value} {xs xs' : List Value} (h : w.ownsRow base e size v n xs) (h' : w.ownsRow base' e' size' v' n' xs') (hne : e ≠ e') : v.ownBlock = none ∨ v.ownBlock ≠ v'.ownBlock := by
  rcases h.2 with ⟨rfl, _⟩ | ⟨g, cap, cur, rfl, _, hg, _⟩
  · exact .inl rfl
  · refine .inr fun e1 => ?_
    rcases h'.2 with ⟨rfl, _⟩ | ⟨g', cap', cur', rfl, _, hg', _⟩
    · cases e1
    · simp [Value.ownBlock] at e1
      subst e1
      rw [hg] at hg'
      simp at hg'
      exact hne hg'.2
theorem own_blk_ne {w : World} {base size n : Nat} {e : TypeId} {v : Value} {xs : List Value} (h : w.ownsRow base e size v n xs) {g : Nat} {t : TypeId} {cs : Array Value} (hb : Blk w g t cs) (hne : t ≠ e) : some g ≠ v.ownBlock := by
  rcases h.2 with ⟨rfl, _⟩ | ⟨g', cap, cur, rfl, _, hg, _⟩
  · intro e1; cases e1
  · intro e1
    simp [Value.ownBlock] at e1
    subst e1
    unfold Blk at hb
    rw [hg] at hb
    simp at hb
    exact hne hb.2.symm
/-- Between two operations of a round. -/
structure OfP (lo b b9 : Nat) (R : World → Prop) (k : Int) (p : ByteArray) (r : Int × Int) (v4 v5 w4 w5 : Value) (n4 n5 : Nat) (xs4 xs5 : List Value) (W0 W : World) : Prop where
  out : Blk W b 26 (outC k p v4 v5)
  out0 : Blk W0 b 26 (outC k p v4 v5)
  ref : Blk W b9 29 #[.int .i64 r.1, .int .u32 r.2]
  rest : R W
  size : W0.heap.size ≤ W.heap.size
  lo_ : lo ≤ W0.heap.size
  blt : b < lo
  from_ : KeepsFrom lo W0 W
  own : ∀ (j : Nat) (o : Obj), ¬ ofOwn b W0 j → W0.heap[j]? = some o → o.isCells = true → W.heap[j]? = some o
  row4 : W.ownsRow lo 5 1 w4 n4 xs4
  row5 : W.ownsRow lo 29 2 w5 n5 xs5
  old4 : w4.ownBlock = v4.ownBlock ∨ ∃ g, w4.ownBlock = some g ∧ W0.heap.size ≤ g
  old5 : w5.ownBlock = v5.ownBlock ∨ ∃ g, w5.ownBlock = some g ∧ W0.heap.size ≤ g
  was4 : v4.ownBlock = none ∨ ∃ i n c, v4.ownBlock = some i ∧ v4 = .slice (some ⟨i, 0, none⟩) n c
  was5 : v5.ownBlock = none ∨ ∃ i n c, v5.ownBlock = some i ∧ v5 = .slice (some ⟨i, 0, none⟩) n c
  apart : ∀ g, v5.ownBlock = some g → g ≠ b9
  ref0 : b9 < W0.heap.size
section
variable {lo b b9 : Nat} {R : World → Prop} {k : Int} {p : ByteArray} {r : Int × Int} {v4 v5 w4 w5 : Value} {n4 n5 : Nat} {xs4 xs5 : List Value} {W0 W W' : World}
theorem OfP.cells (h : OfP lo b b9 R k p r v4 v5 w4 w5 n4 n5 xs4 xs5 W0 W) : W.cell? ⟨b, 4, none⟩ = some v4 ∧ W.cell? ⟨b, 5, none⟩ = some v5 ∧ W.cell? ⟨b9, 0, none⟩ = some (.int .i64 r.1) ∧ W.cell? ⟨b9, 1, none⟩ = some (.int .u32 r.2) :=
  ⟨h.out.cell 4, h.out.cell 5, h.ref.cell 0, h.ref.cell 1⟩
theorem OfP.alloc (hR : Stays lo b R) (h : OfP lo b b9 R k p r v4 v5 w4 w5 n4 n5 xs4 xs5 W0 W) (o : Obj) : OfP lo b b9 R k p r v4 v5 w4 w5 n4 n5 xs4 xs5 W0 (W.alloc o) :=
  { h with
    out := h.out.alloc o
    ref := h.ref.alloc o
    rest := hR.alloc h.rest o
    size := Nat.le_trans h.size (by simp)
    from_ := h.from_.trans ((KeepsOthers.alloc W o).from _)
    own := fun j o2 hj h1 h2 => (Below.heap_alloc W o j (by have := (Array.getElem?_eq_some_iff.1 h1).1; have := h.size; omega)).trans (h.own j o2 hj h1 h2)
    row4 := h.row4.alloc o
    row5 := h.row5.alloc o }
theorem OfP.drew (hR : Stays lo b R) (h : OfP lo b b9 R k p r v4 v5 w4 w5 n4 n5 xs4 xs5 W0 W) : OfP lo b b9 R k p r v4 v5 w4 w5 n4 n5 xs4 xs5 W0 W.drew :=
  { h with
    out := h.out.drew
    ref := h.ref.drew
    rest := hR _ _ none h.rest ⟨rfl, rfl, rfl, Nat.le_refl _, fun _ _ _ => rfl⟩ (fun r e => by cases e)
    from_ := h.from_.trans ((KeepsOthers.drew W).from _) }
/-- The row of bytes grows. -/
theorem OfP.app4 (hR : Stays lo b R) (h : OfP lo b b9 R k p r v4 v5 v4 w5 n4 n5 xs4 xs5 W0 W) {w4' : Value} {m4 : Nat} {ys4 : List Value} (ho : W'.ownsRow lo 5 1 w4' m4 ys4) (hg : W.grownBy W' v4.ownBlock) (hf : w4'.ownBlock = v4.ownBlock ∨ w4'.ownBlock = some W.heap.size) :
    OfP lo b b9 R k p r v4 v5 w4' w5 m4 n5 ys4 xs5 W0 W' := by
  have hb : some b ≠ v4.ownBlock := own_blk_ne h.row4 h.out (by decide)
  have h9 : some b9 ≠ v4.ownBlock := own_blk_ne h.row4 h.ref (by decide)
  exact { h with
    out := h.out.grown hg hb
    ref := h.ref.grown hg h9
    rest := hR _ _ _ h.rest hg (fun g e => .inl (h.row4.lt g e).1)
    size := Nat.le_trans h.size hg.size
    from_ := h.from_.trans ((KeepsOthers.of_grownBy hg fun j o ej hj => by
      rcases h.row4.2 with ⟨rfl, _⟩ | ⟨g', cap, cur, rfl, _, hgb, _⟩
      · cases ej
      · simp [Value.ownBlock] at ej; subst ej; rw [hgb] at hj; cases hj; rfl).from _)
    own := fun j o hj h1 h2 => (hg.block j (by have := (Array.getElem?_eq_some_iff.1 h1).1; have := h.size; omega) (fun e => hj ((ofOwn_blk h.out0 j).2 (.inr (.inl (own_slice h.row4 e.symm)))))).trans (h.own j o hj h1 h2)
    row4 := ho
    row5 := h.row5.kept hg (own_two h.row5 h.row4 (by decide))
    old4 := by
      rcases hf with e | e
      · exact .inl e
      · exact .inr ⟨_, e, h.size⟩ }
/-- The row of Refs grows. -/
theorem OfP.app5 (hR : Stays lo b R) (h : OfP lo b b9 R k p r v4 v5 w4 v5 n4 n5 xs4 xs5 W0 W) {w5' : Value} {m5 : Nat} {ys5 : List Value} (ho : W'.ownsRow lo 29 2 w5' m5 ys5) (hg : W.grownBy W' v5.ownBlock) (hf : w5'.ownBlock = v5.ownBlock ∨ w5'.ownBlock = some W.heap.size) :
    OfP lo b b9 R k p r v4 v5 w4 w5' n4 m5 xs4 ys5 W0 W' := by
  have hb : some b ≠ v5.ownBlock := own_blk_ne h.row5 h.out (by decide)
  have h9 : some b9 ≠ v5.ownBlock := fun e => h.apart b9 e.symm rfl
  exact { h with
    out := h.out.grown hg hb
    ref := h.ref.grown hg h9
    rest := hR _ _ _ h.rest hg (fun g e => .inl (h.row5.lt g e).1)
    size := Nat.le_trans h.size hg.size
    from_ := h.from_.trans ((KeepsOthers.of_grownBy hg fun j o ej hj => by
      rcases h.row5.2 with ⟨rfl, _⟩ | ⟨g', cap, cur, rfl, _, hgb, _⟩
      · cases ej
      · simp [Value.ownBlock] at ej; subst ej; rw [hgb] at hj; cases hj; rfl).from _)
    own := fun j o hj h1 h2 => (hg.block j (by have := (Array.getElem?_eq_some_iff.1 h1).1; have := h.size; omega) (fun e => hj ((ofOwn_blk h.out0 j).2 (.inr (.inr (own_slice h.row5 e.symm)))))).trans (h.own j o hj h1 h2)
    row4 := h.row4.kept hg (own_two h.row4 h.row5 (by decide))
    row5 := ho
    old5 := by
      rcases hf with e | e
      · exact .inl e
      · exact .inr ⟨_, e, h.size⟩ }
/-- Behind the two stores. -/
theorem OfP.stored (hR : Stays lo b R) (h : OfP lo b b9 R k p r v4 v5 w4 w5 n4 n5 xs4 xs5 W0 W) :
    Blk ((W.setCell ⟨b, 4, none⟩ w4).setCell ⟨b, 5, none⟩ w5) b 26 (outC k p w4 w5) ∧ ((W.setCell ⟨b, 4, none⟩ w4).setCell ⟨b, 5, none⟩ w5).ownsRow lo 5 1 w4 n4 xs4 ∧ ((W.setCell ⟨b, 4, none⟩ w4).setCell ⟨b, 5, none⟩ w5).ownsRow lo 29 2 w5 n5 xs5 ∧
    R ((W.setCell ⟨b, 4, none⟩ w4).setCell ⟨b, 5, none⟩ w5) ∧ lo ≤ ((W.setCell ⟨b, 4, none⟩ w4).setCell ⟨b, 5, none⟩ w5).heap.size ∧ KeepsFrom lo W0 ((W.setCell ⟨b, 4, none⟩ w4).setCell ⟨b, 5, none⟩ w5) ∧ KeepsO (ofOwn b) W0 ((W.setCell ⟨b, 4, none⟩ w4).setCell ⟨b, 5, none⟩ w5) := by
  have hout : Blk ((W.setCell ⟨b, 4, none⟩ w4).setCell ⟨b, 5, none⟩ w5) b 26 (outC k p w4 w5) := by
    have := (h.out.set_ 4 w4).set_ 5 w5
    simpa [outC] using this
  have hg : W.grownBy ((W.setCell ⟨b, 4, none⟩ w4).setCell ⟨b, 5, none⟩ w5) (some b) := grown_setCell (grown_setCell ⟨rfl, rfl, rfl, Nat.le_refl _, fun _ _ _ => rfl⟩ 4 w4) 5 w5
  have hb4 : some b ≠ w4.ownBlock := own_blk_ne h.row4 h.out (by decide)
  have hb5 : some b ≠ w5.ownBlock := own_blk_ne h.row5 h.out (by decide)
  have hsz : ((W.setCell ⟨b, 4, none⟩ w4).setCell ⟨b, 5, none⟩ w5).heap.size = W.heap.size := by simp [World.setCell]
  refine ⟨hout, h.row4.kept hg (.inr (Ne.symm hb4)), h.row5.kept hg (.inr (Ne.symm hb5)), hR _ _ _ h.rest hg (fun g e => .inr (by injection e with e; exact e.symm)), by rw [hsz]; exact Nat.le_trans h.lo_ h.size, ?_, ?_⟩
  · exact h.from_.trans (((KeepsOthers.setCell _ _ _).trans (KeepsOthers.setCell _ _ _)).from _)
  · refine ⟨by rw [hsz]; exact h.size, fun j o hj h1 h2 => ?_, fun j hj hown => ?_⟩
    · refine (hg.block j (by have := (Array.getElem?_eq_some_iff.1 h1).1; have := h.size; omega) (fun e => hj (.inl (by injection e)))).trans (h.own j o hj h1 h2)
    · rw [ofOwn_blk hout] at hown
      rw [ofOwn_blk h.out0]
      rcases hown with e | ⟨n, c, e⟩ | ⟨n, c, e⟩
      · exact .inl e
      · have eb : w4.ownBlock = some j := by rw [e]; rfl
        rcases h.old4 with e4 | ⟨g, e4, hge⟩
        · rcases h.was4 with e5 | ⟨i, n', c', e5, e6⟩
          · rw [eb] at e4; rw [← e4] at e5; cases e5
          · rw [eb, e5] at e4
            injection e4 with e4
            subst e4
            exact .inr (.inl ⟨n', c', e6⟩)
        · rw [eb] at e4; injection e4 with e4; omega
      · have eb : w5.ownBlock = some j := by rw [e]; rfl
        rcases h.old5 with e4 | ⟨g, e4, hge⟩
        · rcases h.was5 with e5 | ⟨i, n', c', e5, e6⟩
          · rw [eb] at e4; rw [← e4] at e5; cases e5
          · rw [eb, e5] at e4
            injection e4 with e4
            subst e4
            exact .inr (.inr ⟨n', c', e6⟩)
        · rw [eb] at e4; injection e4 with e4; omega
end
end Go.Proofs.YtgjgcbemgmkncaaGreatDoor
namespace Go.Proofs.YtgjgcbemgmkncaaGreatDoor
open Go.RowKit Go.Shelf
set_option linter.unusedVariables false
set_option maxRecDepth 20000
set_option linter.unusedSimpArgs false
attribute [local go_sem] Oper.semAt_some

theorem infoRef3 : (Tryz.prog.info? 29).map (fun i => (i.zero, i.size, i.bytes)) = some (some (.agg #[.int .i64 0, .int .u32 0]), 2, 16) := by kernel_rfl
def rowR (l : List Kid) : List Value := l.flatMap fun x => rrow x.2
theorem rowR_snoc (l : List Kid) (x : Kid) : rowR (l ++ [x]) = rowR l ++ [.int .i64 x.2.1, .int .u32 x.2.2] := by simp [rowR, rrow]
theorem cell_list_blk {W : World} {g : Nat} {t : TypeId} {l : List Value} (h : Blk W g t l.toArray) : ∀ j u, l[j]? = some u → W.cell? ((⟨g, 0, none⟩ : Addr).add j) = some u := by
  intro j u hu
  rw [Addr.add_lit, Nat.zero_add]
  exact (h.cell j).trans (by rw [List.getElem?_toArray]; exact hu)
theorem own_was {W : World} {base size n : Nat} {e : TypeId} {v : Value} {xs : List Value} (h : W.ownsRow base e size v n xs) : v.ownBlock = none ∨ ∃ i n c, v.ownBlock = some i ∧ v = .slice (some ⟨i, 0, none⟩) n c := by
  cases hv : v.ownBlock with
  | none => exact .inl rfl
  | some g => obtain ⟨n, c, e⟩ := own_slice h hv; exact .inr ⟨g, n, c, rfl, e⟩
/-- Between two rounds. -/
def OfI (lo b7 : Nat) (R : World → Prop) (k : Int) (p : ByteArray) (pre : List Kid) (W : World) : Prop :=
  (∃ v4 v5, Blk W b7 26 (outC k p v4 v5) ∧ W.ownsRow lo 5 1 v4 pre.length (rowB pre) ∧ W.ownsRow lo 29 2 v5 pre.length (rowR pre)) ∧ R W ∧ lo ≤ W.heap.size
theorem ofI_own {lo b7 : Nat} {R : World → Prop} {k : Int} {p : ByteArray} (hR : Stays lo b7 R) : OwnFrom lo (OfI lo b7 R k p) := by
  intro s W W' row hs hg hr
  obtain ⟨⟨v4, v5, h1, h2, h3⟩, h4, h5⟩ := hs
  have hr' := fun r e => (hr r e).2
  exact ⟨⟨v4, v5, h1.own_ hg hr', ownsRow_own h2 hg hr', ownsRow_own h3 hg hr'⟩, hR W W' row h4 hg (fun r e => .inl (hr r e).1), Nat.le_trans h5 hg.size⟩
theorem ofI_alloc {lo b7 : Nat} {R : World → Prop} {k : Int} {p : ByteArray} (hR : Stays lo b7 R) {pre : List Kid} {W : World} (h : OfI lo b7 R k p pre W) (o : Obj) : OfI lo b7 R k p pre (W.alloc o) := by
  obtain ⟨⟨v4, v5, h1, h2, h3⟩, h4, h5⟩ := h
  exact ⟨⟨v4, v5, h1.alloc o, h2.alloc o, h3.alloc o⟩, hR.alloc h4 o, Nat.le_trans h5 (by simp)⟩
/-- What the body is told of its variables. -/
def OfA (x : Kid) (lo b7 : Nat) (mk : Nat → Act) (a' : Act) (W : World) : Prop := ∃ B9, lo ≤ B9 ∧ B9 < W.heap.size ∧ a' = mk B9 ∧ Blk W B9 29 #[.int .i64 x.2.1, .int .u32 x.2.2] ∧ (∀ n c, W.cell? ⟨b7, 5, none⟩ ≠ some (.slice (some ⟨B9, 0, none⟩) n c)) ∧ ∃ v, W.cell? ⟨b7, 5, none⟩ = some v
theorem keepsO_below {B b : Nat} (hb : b < B) {W W' : World} (hB : B ≤ W.heap.size) (h : Below W.heap.size W W') : KeepsO (ofOwn b) W W' := KeepsO.grown (ofOwn_owns hb) hB (World.grownBy_of_below h) (fun r e => by cases e)

set_option maxHeartbeats 6400000 in
set_option maxRecDepth 100000 in
theorem of_loop (gf N b7 : Nat) (lb : Array Value) (k : Int) (p : ByteArray) (f : Kids) {u0 u1 u2 u3 u4 u5 u6 u8 u9 u10 u11 u12 u13 u14 u15 u17 u18 u19 u20 u21 u22 u23 u24 u25 u26 u27 u28 u29 u30 u31 : Value} (wx : World) {ds : List Deferred} {Q : Exit → Act → World → Prop} (R : World → Prop) (hR : Stays wx.heap.size b7 R) (hR0 : R wx) (hN : N ≤ 256)
    (eg : ∀ args w, (callFunc gf args).run Tryz.prog w = .ok (.enter gf args) w) (hseq : SeqStopsO Fence.wide 9 Tryz.prog gf lb encK (KeepsO (ofOwn b7)) (fun ys => ys = kidsF f) (fun pre => pre <+: kidsF f) N wx (wx.heap.size + 2))
    (h7 : Blk wx b7 26 (outC k p (.slice none 0 0) (.slice none 0 0)))
    (hQ : ∀ (D : Nat) (v4 v5 : Value) (W : World), wx.heap.size ≤ D → Blk W b7 26 (outC k p v4 v5) → W.ownsRow wx.heap.size 5 1 v4 (kidsF f).length (rowB (kidsF f)) → W.ownsRow wx.heap.size 29 2 v5 (kidsF f).length (rowR (kidsF f)) → R W → wx.heap.size ≤ W.heap.size → W.heap[D]? = some (.deferred (some [])) → Q .normal ⟨#[u0, u1, u2, u3, u4, u5, u6, .pointer (some ⟨b7, 0, none⟩), u8, u9, u10, u11, u12, u13, u14, u15, .func (.func gf) #[] lb, u17, u18, u19, u20, u21, u22, u23, u24, u25, u26, u27, u28, u29, u30, u31], { target := .collected D, args := #[] } :: ds⟩ W) :
    Code.wp Tryz.prog (part Tryz.f42 [1, 1, 0, 1]) Q ⟨#[u0, u1, u2, u3, u4, u5, u6, .pointer (some ⟨b7, 0, none⟩), u8, u9, u10, u11, u12, u13, u14, u15, .func (.func gf) #[] lb, u17, u18, u19, u20, u21, u22, u23, u24, u25, u26, u27, u28, u29, u30, u31], ds⟩ wx := by
  conv => arg 2; whnf
  obtain ⟨i0, hi, hz0, hz1, hz2⟩ := info_parts infoU8o
  obtain ⟨j0, hj, hj0, hj1, hj2⟩ := info_parts infoRef3
  have HQ := Lib.hid hQ
  have h7lt := h7.lt
  clear hQ
  refine wp_block ?_
  refine (wpIn_wide (n := 10)).1 ?_
  refine wpIn_range_O rfl (by decide) (gf := gf) (lb := lb) rfl trivial eg hseq (fun h k => h.trans k) (fun W o o' h1 h2 h3 => ?kb) (Below.refl _ _) (fun _ => rfl)
    (OfI wx.heap.size b7 R k p) (fun _ pre W => ¬ (pre <+: kidsF f)) (ofI_own hR) (fun c s W W' row hs hg hr => hs) ⟨⟨_, _, h7, World.ownsRow_nil _ _ _ _, World.ownsRow_nil _ _ _ _⟩, hR0, Nat.le_refl _⟩
    (fun x a' W => OfA x wx.heap.size b7 (fun B9 => ⟨#[u0, u1, u2, u3, u4, u5, u6, .pointer (some ⟨b7, 0, none⟩), .int .u8 (x.1.val : Int), .pointer (some ⟨B9, 0, none⟩), u10, u11, u12, u13, u14, u15, .func (.func gf) #[] lb, .int .u8 (x.1.val : Int), refV x.2, u19, u20, u21, u22, u23, u24, u25, u26, u27, u28, u29, u30, u31], []⟩) a' W) (fun x a' s W W' row hs hg hr => ?own) ?assign ?body ?done ?stop
  case kb =>
    have hl := (Array.getElem?_eq_some_iff.1 h1).1
    have hg : W.grownBy (W.putObj (wx.heap.size + 1) o') (some (wx.heap.size + 1)) := grownBy_putObj' W _ o'
    exact KeepsO.grown (ofOwn_owns h7lt) (by omega) hg (fun r e => by injection e with e; subst e; exact ⟨by omega, o, h1, h2⟩)
  case own =>
    obtain ⟨B9, hb, hbl, he, hk, hn, v, hv⟩ := hs
    have hc := grown_cell hg (b := b7) (World.block_lt_of_cell? W _ hv) (fun e => by have := (hr _ e).1; omega) 5
    exact ⟨B9, hb, Nat.lt_of_lt_of_le hbl hg.size, he, hk.own_ hg (fun r e => (hr r e).2), by rw [hc]; exact hn, v, hc.trans hv⟩
  case assign =>
    rintro l pre x W K hi2 hK
    have hsz := hi2.2.2
    obtain ⟨v4, v5, q1, q2, q3⟩ := hi2.1
    have e5 : (W.alloc (.cells #[.int .i64 x.2.1, .int .u32 x.2.2] 29)).cell? ⟨b7, 5, none⟩ = some v5 := (q1.alloc _).cell 5
    have hne : ∀ n c, (W.alloc (.cells #[.int .i64 x.2.1, .int .u32 x.2.2] 29)).cell? ⟨b7, 5, none⟩ ≠ some (.slice (some ⟨W.heap.size, 0, none⟩) n c) := fun n c e => by
      rw [e5] at e
      injection e with e
      have := (q3.lt W.heap.size (by rw [e]; rfl)).2
      omega
    have hfin : K ⟨#[u0, u1, u2, u3, u4, u5, u6, .pointer (some ⟨b7, 0, none⟩), .int .u8 (x.1.val : Int), .pointer (some ⟨W.heap.size, 0, none⟩), u10, u11, u12, u13, u14, u15, .func (.func gf) #[] lb, .int .u8 (x.1.val : Int), refV x.2, u19, u20, u21, u22, u23, u24, u25, u26, u27, u28, u29, u30, u31], []⟩ (W.alloc (.cells #[.int .i64 x.2.1, .int .u32 x.2.2] 29)) :=
      hK _ _ ((KeepsOthers.alloc W _).from _) (keepsO_below h7lt hsz (below_box W _)) (ofI_alloc hR hi2 _) ⟨W.heap.size, hsz, by simp, rfl, Blk.new _ _ _, hne, v5, e5⟩
    have HF := Lib.hid hfin
    clear hfin hK e5 hne q1 q2 q3 hi2
    gi_wp2
    exact HF.out
  case body =>
    rintro l pre x a' W hl ⟨rec, hrec⟩ ⟨⟨v4, v5, q1, q2, q3⟩, hRW, hsz⟩ ⟨b9, hB9, hB9l, rfl, hk9, hn9, _⟩ hlen
    have hx0 : (0 : Int) ≤ (x.1.val : Int) := by omega
    have hx1 : (x.1.val : Int) ≤ 255 := by have := x.1.isLt; omega
    have P0 : OfP wx.heap.size b7 b9 R k p x.2 v4 v5 v4 v5 pre.length pre.length (rowB pre) (rowR pre) W W.drew := OfP.drew hR ⟨q1, q1, hk9, hRW, Nat.le_refl _, hsz, h7lt, KeepsFrom.refl _ _, fun _ _ _ h _ => h, q2, q3, .inl rfl, .inl rfl, own_was q2, own_was q3, fun g hg e => by
      obtain ⟨n, c, e2⟩ := own_slice q3 hg
      subst e
      exact hn9 n c ((q1.cell 5).trans (by rw [← e2]; rfl)), hB9l⟩
    have hmix : Tryz.prog.follows .mixedOrders = true := by kernel_rfl
    clear q1 q2 q3 hRW hk9 hn9 h7 hR0 hseq
    gi_wp2_with (fail)
    refine wpIn_region_L_round l 11 (fun V : World => V.cell? ⟨b7, 4, none⟩ = some v4 ∧ V.cell? ⟨b7, 5, none⟩ = some v5 ∧ V.cell? ⟨b9, 0, none⟩ = some (.int .i64 x.2.1) ∧ V.cell? ⟨b9, 1, none⟩ = some (.int .u32 x.2.2)) (fun hh => by obtain ⟨_, _, h⟩ := hh; exact h) hmix (by kernel_rfl) ?_
    refine wpAnyL_take (i := 0) (v := ?_) rfl (by kernel_rfl) (by kernel_rfl) (by kernel_rfl) (by kernel_rfl) (fun _ _ _ h => h) (Or.inl ⟨by rfl, ?_⟩) P0.cells ?_
    rotate_left
    · (intro w hSw; (try dsimp only at hSw); go_simp <;> with_reducible rfl)
    try simp only [Act.put, List.setIfInBounds_toArray, List.set_cons_zero, List.set_cons_succ]
    refine wpAnyL_take (i := 1) (v := ?_) rfl (by kernel_rfl) (by kernel_rfl) (by kernel_rfl) (by kernel_rfl) (fun _ _ _ h => h) (Or.inl ⟨by rfl, ?_⟩) P0.cells ?_
    rotate_left
    · (intro w hSw; (try dsimp only at hSw); go_simp <;> with_reducible rfl)
    try simp only [Act.put, List.setIfInBounds_toArray, List.set_cons_zero, List.set_cons_succ]
    refine wpAnyL_take (i := 2) (v := ?_) rfl (by kernel_rfl) (by kernel_rfl) (by kernel_rfl) (by kernel_rfl) (fun _ _ _ h => h) (Or.inl ⟨by rfl, ?_⟩) P0.cells ?_
    rotate_left
    · (intro w hSw; (try dsimp only at hSw); go_simp <;> with_reducible rfl)
    try simp only [Act.put, List.setIfInBounds_toArray, List.set_cons_zero, List.set_cons_succ]
    refine wpAnyL_take (i := 5) (v := ?_) rfl (by kernel_rfl) (by kernel_rfl) (by kernel_rfl) (by kernel_rfl) (fun _ _ _ h => h) (Or.inl ⟨by rfl, ?_⟩) P0.cells ?_
    rotate_left
    · (intro w hSw; (try dsimp only at hSw); go_simp <;> with_reducible rfl)
    try simp only [Act.put, List.setIfInBounds_toArray, List.set_cons_zero, List.set_cons_succ]
    refine wpAnyL_take (i := 6) (v := ?_) rfl (by kernel_rfl) (by kernel_rfl) (by kernel_rfl) (by kernel_rfl) (fun _ _ _ h => h) (Or.inl ⟨by rfl, ?_⟩) P0.cells ?_
    rotate_left
    · (intro w hSw; (try dsimp only at hSw); go_simp <;> with_reducible rfl)
    try simp only [Act.put, List.setIfInBounds_toArray, List.set_cons_zero, List.set_cons_succ]
    refine wpAnyL_take (i := 7) (v := ?_) rfl (by kernel_rfl) (by kernel_rfl) (by kernel_rfl) (by kernel_rfl) (fun _ _ _ h => h) (Or.inl ⟨by rfl, ?_⟩) P0.cells ?_
    rotate_left
    · (intro w hSw; (try dsimp only at hSw); go_simp <;> with_reducible rfl)
    try simp only [Act.put, List.setIfInBounds_toArray, List.set_cons_zero, List.set_cons_succ]
    refine wpAnyL_ready (rs := [3, 8]) (by kernel_rfl) (by simp) ?_
    refine AllL.cons rfl (fun K hK => ?_) ?_
    · go_simp
      have P1 := P0.alloc hR (.cells #[.int .u8 (x.1.val : Int)] 5)
      have T1 : Blk ((W.drew).alloc (.cells #[.int .u8 (x.1.val : Int)] 5)) (W.heap.size) 5 #[.int .u8 (x.1.val : Int)] := by have q := Blk.new (W.drew) 5 #[.int .u8 (x.1.val : Int)]; first | exact q | (rw [World.size_alloc] at q; exact q)
      refine hK.out _ _ (fun _ => P1.cells) ?_
      clear hK K
      try simp only [Act.put, List.setIfInBounds_toArray, List.set_cons_zero, List.set_cons_succ]
      refine wpAnyL_ready (rs := [4, 8]) (by kernel_rfl) (by simp) ?_
      refine AllL.cons rfl (fun K hK => ?_) ?_
      · rw [if_pos (by kernel_rfl)]
        refine wp_append_fresh _ (.tmp 20) (.tmp 22) 23 rfl wx.heap.size 5 i0 (.int .u8 0) 1 1 Tryz.underlying23 hi hz0 hz1 hz2 rfl (by decide) v4 pre.length (rowB pre) rfl P1.row4 ⟨W.heap.size, 0, none⟩ 1 1 [.int .u8 (x.1.val : Int)] rfl rfl (cell_list_blk T1) (by simp [Value.oneCell']) (by decide) (by unfold maxLen; omega) (by omega) (Nat.le_trans P1.lo_ P1.size) ?_
        intro w4 W2 ho hg hf
        obtain ⟨g4, c4, rfl⟩ := ownsRow_succ ho
        have P2 := P1.app4 hR ho hg hf
        clear ho hg hf
        refine hK.out _ _ (fun _ => P2.cells) ?_
        clear hK K
        try simp only [Act.put, List.setIfInBounds_toArray, List.set_cons_zero, List.set_cons_succ]
        refine wpAnyL_take (i := 10) (v := ?_) rfl (by kernel_rfl) (by kernel_rfl) (by kernel_rfl) (by kernel_rfl) (fun _ _ _ h => h) (Or.inl ⟨by rfl, ?_⟩) P2.cells ?_
        rotate_left
        · (intro w hSw; (try dsimp only at hSw); go_simp <;> with_reducible rfl)
        try simp only [Act.put, List.setIfInBounds_toArray, List.set_cons_zero, List.set_cons_succ]
        refine wpAnyL_ready (rs := [8]) (by kernel_rfl) (by simp) ?_
        refine AllL.cons rfl (fun K hK => ?_) ?_
        · go_simp
          have P3 := P2.alloc hR (.cells #[.int .i64 x.2.1, .int .u32 x.2.2] 29)
          have T3 : Blk ((W2).alloc (.cells #[.int .i64 x.2.1, .int .u32 x.2.2] 29)) (W2.heap.size) 29 #[.int .i64 x.2.1, .int .u32 x.2.2] := by have q := Blk.new (W2) 29 #[.int .i64 x.2.1, .int .u32 x.2.2]; first | exact q | (rw [World.size_alloc] at q; exact q)
          refine hK.out _ _ (fun _ => P3.cells) ?_
          clear hK K
          try simp only [Act.put, List.setIfInBounds_toArray, List.set_cons_zero, List.set_cons_succ]
          refine wpAnyL_ready (rs := [9]) (by kernel_rfl) (by simp) ?_
          refine AllL.cons rfl (fun K hK => ?_) ?_
          · rw [if_pos (by kernel_rfl)]
            refine wp_append_fresh _ (.tmp 25) (.tmp 27) 24 rfl wx.heap.size 29 j0 (.agg #[.int .i64 0, .int .u32 0]) 2 16 Tryz.underlying24 hj hj0 hj1 hj2 rfl (by decide) v5 pre.length (rowR pre) rfl P3.row5 ⟨W2.heap.size, 0, none⟩ 1 1 [.int .i64 x.2.1, .int .u32 x.2.2] rfl rfl (cell_list_blk T3) (by simp [Value.oneCell']) (by decide) (by unfold maxLen; omega) (by omega) (Nat.le_trans P3.lo_ P3.size) ?_
            intro w5 W4 ho hg hf
            obtain ⟨g5, c5, rfl⟩ := ownsRow_succ ho
            have P4 := P3.app5 hR ho hg hf
            clear ho hg hf
            refine hK.out _ _ (fun _ => P4.cells) ?_
            clear hK K
            try simp only [Act.put, List.setIfInBounds_toArray, List.set_cons_zero, List.set_cons_succ]
            refine wpAnyL_ready (rs := [11]) (by kernel_rfl) (by simp) ?_
            refine AllL.cons rfl (fun K hK => ?_) AllL.nil
            have f4 := P4.out.frozen 4
            have e4 := P4.out.cell 4
            simp [outC] at e4
            have l4 := P4.out.lt
            go_simp
            refine hK.out _ _ (fun h => Bool.noConfusion (show true = false from h)) ?_
            clear hK K e4 f4 l4
            try simp only [Act.put, List.setIfInBounds_toArray, List.set_cons_zero, List.set_cons_succ]
            refine wpAnyL_ready (rs := [12]) (by kernel_rfl) (by simp) ?_
            refine AllL.cons rfl (fun K hK => ?_) AllL.nil
            go_simp
            refine hK.out _ _ (fun h => Bool.noConfusion (show true = false from h)) ?_
            clear hK K
            try simp only [Act.put, List.setIfInBounds_toArray, List.set_cons_zero, List.set_cons_succ]
            refine wpAnyL_ready (rs := [13]) (by kernel_rfl) (by simp) ?_
            refine AllL.cons rfl (fun K hK => ?_) AllL.nil
            have q5 := P4.out.set_ 4 (.slice (some ⟨g4, 0, none⟩) (pre.length + 1) c4)
            have f5 := q5.frozen 5
            have e5 := q5.cell 5
            have l5 := q5.lt
            simp [outC] at e5
            clear q5
            go_simp
            refine hK.out _ _ (fun h => Bool.noConfusion (show true = false from h)) ?_
            clear hK K e5 f5 l5
            try simp only [Act.put, List.setIfInBounds_toArray, List.set_cons_zero, List.set_cons_succ]
            refine wpAnyL_done (by kernel_rfl) ?_ _
            obtain ⟨z1, z2, z3, z4, z5, z6, z7⟩ := P4.stored hR
            exact ⟨z6, z7, ⟨_, _, z1, by rw [rowB_snoc]; simpa using z2, by rw [rowR_snoc]; simpa using z3⟩, z4, z5⟩
          exact AllL.nil
        exact AllL.nil
      refine AllL.cons rfl (fun K hK => ?_) ?_
      · go_simp
        have P5 := P1.alloc hR (.cells #[.int .i64 x.2.1, .int .u32 x.2.2] 29)
        have T5 : Blk (((W.drew).alloc (.cells #[.int .u8 (x.1.val : Int)] 5)).alloc (.cells #[.int .i64 x.2.1, .int .u32 x.2.2] 29)) (W.heap.size + 1) 29 #[.int .i64 x.2.1, .int .u32 x.2.2] := by have q := Blk.new ((W.drew).alloc (.cells #[.int .u8 (x.1.val : Int)] 5)) 29 #[.int .i64 x.2.1, .int .u32 x.2.2]; first | exact q | (rw [World.size_alloc] at q; exact q)
        have U5 := T1.alloc (.cells #[.int .i64 x.2.1, .int .u32 x.2.2] 29)
        refine hK.out _ _ (fun _ => P5.cells) ?_
        clear hK K
        try simp only [Act.put, List.setIfInBounds_toArray, List.set_cons_zero, List.set_cons_succ]
        refine wpAnyL_ready (rs := [4]) (by kernel_rfl) (by simp) ?_
        refine AllL.cons rfl (fun K hK => ?_) ?_
        · rw [if_pos (by kernel_rfl)]
          refine wp_append_fresh _ (.tmp 20) (.tmp 22) 23 rfl wx.heap.size 5 i0 (.int .u8 0) 1 1 Tryz.underlying23 hi hz0 hz1 hz2 rfl (by decide) v4 pre.length (rowB pre) rfl P5.row4 ⟨W.heap.size, 0, none⟩ 1 1 [.int .u8 (x.1.val : Int)] rfl rfl (cell_list_blk U5) (by simp [Value.oneCell']) (by decide) (by unfold maxLen; omega) (by omega) (Nat.le_trans P5.lo_ P5.size) ?_
          intro w4 W6 ho hg hf
          obtain ⟨g4, c4, rfl⟩ := ownsRow_succ ho
          have P6 := P5.app4 hR ho hg hf
          have U6 := T5.grown hg (own_blk_ne P5.row4 T5 (by decide))
          clear ho hg hf
          refine hK.out _ _ (fun _ => P6.cells) ?_
          clear hK K
          try simp only [Act.put, List.setIfInBounds_toArray, List.set_cons_zero, List.set_cons_succ]
          refine wpAnyL_take (i := 10) (v := ?_) rfl (by kernel_rfl) (by kernel_rfl) (by kernel_rfl) (by kernel_rfl) (fun _ _ _ h => h) (Or.inl ⟨by rfl, ?_⟩) P6.cells ?_
          rotate_left
          · (intro w hSw; (try dsimp only at hSw); go_simp <;> with_reducible rfl)
          try simp only [Act.put, List.setIfInBounds_toArray, List.set_cons_zero, List.set_cons_succ]
          refine wpAnyL_ready (rs := [9]) (by kernel_rfl) (by simp) ?_
          refine AllL.cons rfl (fun K hK => ?_) ?_
          · rw [if_pos (by kernel_rfl)]
            refine wp_append_fresh _ (.tmp 25) (.tmp 27) 24 rfl wx.heap.size 29 j0 (.agg #[.int .i64 0, .int .u32 0]) 2 16 Tryz.underlying24 hj hj0 hj1 hj2 rfl (by decide) v5 pre.length (rowR pre) rfl P6.row5 ⟨W.heap.size + 1, 0, none⟩ 1 1 [.int .i64 x.2.1, .int .u32 x.2.2] rfl rfl (cell_list_blk U6) (by simp [Value.oneCell']) (by decide) (by unfold maxLen; omega) (by omega) (Nat.le_trans P6.lo_ P6.size) ?_
            intro w5 W7 ho hg hf
            obtain ⟨g5, c5, rfl⟩ := ownsRow_succ ho
            have P7 := P6.app5 hR ho hg hf
            clear ho hg hf
            refine hK.out _ _ (fun _ => P7.cells) ?_
            clear hK K
            try simp only [Act.put, List.setIfInBounds_toArray, List.set_cons_zero, List.set_cons_succ]
            refine wpAnyL_ready (rs := [11]) (by kernel_rfl) (by simp) ?_
            refine AllL.cons rfl (fun K hK => ?_) AllL.nil
            have f4 := P7.out.frozen 4
            have e4 := P7.out.cell 4
            simp [outC] at e4
            have l4 := P7.out.lt
            go_simp
            refine hK.out _ _ (fun h => Bool.noConfusion (show true = false from h)) ?_
            clear hK K e4 f4 l4
            try simp only [Act.put, List.setIfInBounds_toArray, List.set_cons_zero, List.set_cons_succ]
            refine wpAnyL_ready (rs := [12]) (by kernel_rfl) (by simp) ?_
            refine AllL.cons rfl (fun K hK => ?_) AllL.nil
            go_simp
            refine hK.out _ _ (fun h => Bool.noConfusion (show true = false from h)) ?_
            clear hK K
            try simp only [Act.put, List.setIfInBounds_toArray, List.set_cons_zero, List.set_cons_succ]
            refine wpAnyL_ready (rs := [13]) (by kernel_rfl) (by simp) ?_
            refine AllL.cons rfl (fun K hK => ?_) AllL.nil
            have q5 := P7.out.set_ 4 (.slice (some ⟨g4, 0, none⟩) (pre.length + 1) c4)
            have f5 := q5.frozen 5
            have e5 := q5.cell 5
            have l5 := q5.lt
            simp [outC] at e5
            clear q5
            go_simp
            refine hK.out _ _ (fun h => Bool.noConfusion (show true = false from h)) ?_
            clear hK K e5 f5 l5
            try simp only [Act.put, List.setIfInBounds_toArray, List.set_cons_zero, List.set_cons_succ]
            refine wpAnyL_done (by kernel_rfl) ?_ _
            obtain ⟨z1, z2, z3, z4, z5, z6, z7⟩ := P7.stored hR
            exact ⟨z6, z7, ⟨_, _, z1, by rw [rowB_snoc]; simpa using z2, by rw [rowR_snoc]; simpa using z3⟩, z4, z5⟩
          exact AllL.nil
        exact AllL.nil
      exact AllL.nil
    refine AllL.cons rfl (fun K hK => ?_) ?_
    · go_simp
      have P8 := P0.alloc hR (.cells #[.int .i64 x.2.1, .int .u32 x.2.2] 29)
      have T8 : Blk ((W.drew).alloc (.cells #[.int .i64 x.2.1, .int .u32 x.2.2] 29)) (W.heap.size) 29 #[.int .i64 x.2.1, .int .u32 x.2.2] := by have q := Blk.new (W.drew) 29 #[.int .i64 x.2.1, .int .u32 x.2.2]; first | exact q | (rw [World.size_alloc] at q; exact q)
      refine hK.out _ _ (fun _ => P8.cells) ?_
      clear hK K
      try simp only [Act.put, List.setIfInBounds_toArray, List.set_cons_zero, List.set_cons_succ]
      refine wpAnyL_ready (rs := [3]) (by kernel_rfl) (by simp) ?_
      refine AllL.cons rfl (fun K hK => ?_) ?_
      · go_simp
        have P9 := P8.alloc hR (.cells #[.int .u8 (x.1.val : Int)] 5)
        have T9 : Blk (((W.drew).alloc (.cells #[.int .i64 x.2.1, .int .u32 x.2.2] 29)).alloc (.cells #[.int .u8 (x.1.val : Int)] 5)) (W.heap.size + 1) 5 #[.int .u8 (x.1.val : Int)] := by have q := Blk.new ((W.drew).alloc (.cells #[.int .i64 x.2.1, .int .u32 x.2.2] 29)) 5 #[.int .u8 (x.1.val : Int)]; first | exact q | (rw [World.size_alloc] at q; exact q)
        have U9 := T8.alloc (.cells #[.int .u8 (x.1.val : Int)] 5)
        refine hK.out _ _ (fun _ => P9.cells) ?_
        clear hK K
        try simp only [Act.put, List.setIfInBounds_toArray, List.set_cons_zero, List.set_cons_succ]
        refine wpAnyL_ready (rs := [4]) (by kernel_rfl) (by simp) ?_
        refine AllL.cons rfl (fun K hK => ?_) ?_
        · rw [if_pos (by kernel_rfl)]
          refine wp_append_fresh _ (.tmp 20) (.tmp 22) 23 rfl wx.heap.size 5 i0 (.int .u8 0) 1 1 Tryz.underlying23 hi hz0 hz1 hz2 rfl (by decide) v4 pre.length (rowB pre) rfl P9.row4 ⟨W.heap.size + 1, 0, none⟩ 1 1 [.int .u8 (x.1.val : Int)] rfl rfl (cell_list_blk T9) (by simp [Value.oneCell']) (by decide) (by unfold maxLen; omega) (by omega) (Nat.le_trans P9.lo_ P9.size) ?_
          intro w4 W10 ho hg hf
          obtain ⟨g4, c4, rfl⟩ := ownsRow_succ ho
          have P10 := P9.app4 hR ho hg hf
          have U10 := U9.grown hg (own_blk_ne P9.row4 U9 (by decide))
          clear ho hg hf
          refine hK.out _ _ (fun _ => P10.cells) ?_
          clear hK K
          try simp only [Act.put, List.setIfInBounds_toArray, List.set_cons_zero, List.set_cons_succ]
          refine wpAnyL_take (i := 10) (v := ?_) rfl (by kernel_rfl) (by kernel_rfl) (by kernel_rfl) (by kernel_rfl) (fun _ _ _ h => h) (Or.inl ⟨by rfl, ?_⟩) P10.cells ?_
          rotate_left
          · (intro w hSw; (try dsimp only at hSw); go_simp <;> with_reducible rfl)
          try simp only [Act.put, List.setIfInBounds_toArray, List.set_cons_zero, List.set_cons_succ]
          refine wpAnyL_ready (rs := [9]) (by kernel_rfl) (by simp) ?_
          refine AllL.cons rfl (fun K hK => ?_) ?_
          · rw [if_pos (by kernel_rfl)]
            refine wp_append_fresh _ (.tmp 25) (.tmp 27) 24 rfl wx.heap.size 29 j0 (.agg #[.int .i64 0, .int .u32 0]) 2 16 Tryz.underlying24 hj hj0 hj1 hj2 rfl (by decide) v5 pre.length (rowR pre) rfl P10.row5 ⟨W.heap.size, 0, none⟩ 1 1 [.int .i64 x.2.1, .int .u32 x.2.2] rfl rfl (cell_list_blk U10) (by simp [Value.oneCell']) (by decide) (by unfold maxLen; omega) (by omega) (Nat.le_trans P10.lo_ P10.size) ?_
            intro w5 W11 ho hg hf
            obtain ⟨g5, c5, rfl⟩ := ownsRow_succ ho
            have P11 := P10.app5 hR ho hg hf
            clear ho hg hf
            refine hK.out _ _ (fun _ => P11.cells) ?_
            clear hK K
            try simp only [Act.put, List.setIfInBounds_toArray, List.set_cons_zero, List.set_cons_succ]
            refine wpAnyL_ready (rs := [11]) (by kernel_rfl) (by simp) ?_
            refine AllL.cons rfl (fun K hK => ?_) AllL.nil
            have f4 := P11.out.frozen 4
            have e4 := P11.out.cell 4
            simp [outC] at e4
            have l4 := P11.out.lt
            go_simp
            refine hK.out _ _ (fun h => Bool.noConfusion (show true = false from h)) ?_
            clear hK K e4 f4 l4
            try simp only [Act.put, List.setIfInBounds_toArray, List.set_cons_zero, List.set_cons_succ]
            refine wpAnyL_ready (rs := [12]) (by kernel_rfl) (by simp) ?_
            refine AllL.cons rfl (fun K hK => ?_) AllL.nil
            go_simp
            refine hK.out _ _ (fun h => Bool.noConfusion (show true = false from h)) ?_
            clear hK K
            try simp only [Act.put, List.setIfInBounds_toArray, List.set_cons_zero, List.set_cons_succ]
            refine wpAnyL_ready (rs := [13]) (by kernel_rfl) (by simp) ?_
            refine AllL.cons rfl (fun K hK => ?_) AllL.nil
            have q5 := P11.out.set_ 4 (.slice (some ⟨g4, 0, none⟩) (pre.length + 1) c4)
            have f5 := q5.frozen 5
            have e5 := q5.cell 5
            have l5 := q5.lt
            simp [outC] at e5
            clear q5
            go_simp
            refine hK.out _ _ (fun h => Bool.noConfusion (show true = false from h)) ?_
            clear hK K e5 f5 l5
            try simp only [Act.put, List.setIfInBounds_toArray, List.set_cons_zero, List.set_cons_succ]
            refine wpAnyL_done (by kernel_rfl) ?_ _
            obtain ⟨z1, z2, z3, z4, z5, z6, z7⟩ := P11.stored hR
            exact ⟨z6, z7, ⟨_, _, z1, by rw [rowB_snoc]; simpa using z2, by rw [rowR_snoc]; simpa using z3⟩, z4, z5⟩
          exact AllL.nil
        exact AllL.nil
      exact AllL.nil
    exact AllL.nil
  case done =>
    rintro D xs W hD rfl ⟨⟨v4, v5, h1, h2, h3⟩, h4, h5⟩ hk
    exact HQ.out D v4 v5 W hD h1 h2 h3 h4 h5 hk
  case stop =>
    rintro D c pre W hD hsp hx hk
    exact absurd hsp hx
end Go.Proofs.YtgjgcbemgmkncaaGreatDoor
namespace Go.Proofs.YtgjgcbemgmkncaaGreatDoor
open Go.RowKit Go.Shelf
set_option linter.unusedVariables false
set_option maxRecDepth 20000
set_option linter.unusedSimpArgs false

/-- The node that 'of' makes. -/
def ofNd (x : Nd) (f : Kids) (k : Int) : Nd := ⟨k, { data := #[] }, { data := #[] }, x.path, (kidsF f).map (·.1.val), (kidsF f).map (·.2)⟩
def refOk (r : Int × Int) : Prop := (-9223372036854775808 ≤ r.1 ∧ r.1 ≤ 9223372036854775807) ∧ 0 ≤ r.2 ∧ r.2 ≤ 4294967295
theorem kidsF_len_le (f : Kids) : (kidsF f).length ≤ 256 := by
  rw [kidsF_len]
  show cntK f ≤ 256
  rw [← bytesF_len f]
  exact bytesLo_len f 0 256
theorem mem_kidsF {f : Kids} {x : Kid} (h : x ∈ kidsF f) : f x.1.val = some x.2 := by
  unfold kidsF at h
  obtain ⟨b, _, hb⟩ := List.mem_filterMap.1 h
  cases hf : f b.val with
  | none => rw [hf] at hb; cases hb
  | some r => rw [hf] at hb; simp at hb; subst hb; exact hf
theorem ofNd_wf {x : Nd} {f : Kids} {k : Int} (hx : x.wf) (hk : -9223372036854775808 ≤ k ∧ k ≤ 9223372036854775807) (hv : ∀ b r, f b = some r → refOk r) : (ofNd x f k).wf := by
  have hl := kidsF_len_le f
  refine ⟨hk, ?_, ?_, ?_, ?_, ?_, ?_, hx.lp⟩
  · intro b hb
    obtain ⟨y, _, rfl⟩ := List.mem_map.1 hb
    exact y.1.isLt
  · intro r hr
    obtain ⟨y, hy, rfl⟩ := List.mem_map.1 hr
    exact hv _ _ (mem_kidsF hy)
  · show ((kidsF f).map _).length ≤ _; rw [List.length_map]; omega
  · show ((kidsF f).map _).length ≤ _; rw [List.length_map]; omega
  · exact Nat.zero_le _
  · exact Nat.zero_le _
theorem reads_own {W : World} {base size n c : Nat} {e : TypeId} {A : Option Addr} {xs : List Value} (h : W.ownsRow base e size (.slice A n c) n xs) : Reads W W.heap.size size A n xs := by
  refine ⟨h.1, fun hn => ?_⟩
  rcases h.2 with ⟨e1, e2⟩ | ⟨g, cap, cur, e1, _, hg, _⟩
  · omega
  · injection e1 with e1 e2 e3
    subst e1
    exact ⟨_, rfl, (Array.getElem?_eq_some_iff.1 hg).1, h.cells rfl⟩
theorem rowB_nrow (l : List Kid) : rowB l = (l.map (·.1.val)).flatMap nrow := by
  induction l with
  | nil => rfl
  | cons x l ih => simp [rowB, nrow] at ih ⊢; exact ih
theorem rowR_rrow (l : List Kid) : rowR l = (l.map (·.2)).flatMap rrow := by unfold rowR; rw [List.flatMap_map]
/-- A node that has been made: its rows lie in new blocks. -/
def NdOut (y : Nd) (w : World) (e : Ending) (w' : World) : Prop := ∃ V', e = .returned V' ∧ (y.wf ∧ ∃ Ab cb Ak ck, V' = y.v Ab cb Ak ck ∧ Reads w' w'.heap.size 1 Ab y.bytes.length (y.bytes.flatMap nrow) ∧ Reads w' w'.heap.size 2 Ak y.kids.length (y.kids.flatMap rrow) ∧ (∀ ad, Ab = some ad → w.heap.size ≤ ad.block) ∧ ∀ ad, Ak = some ad → w.heap.size ≤ ad.block) ∧ Below w.heap.size w w'
def ofR (w : World) (b6 : Nat) (W : World) : Prop := Below w.heap.size w W ∧ Blk W b6 26 #[.int .i64 0, .string { data := #[] }, .string { data := #[] }, .string { data := #[] }, .slice none 0 0, .slice none 0 0]
theorem ofR_stays {w : World} {lo b6 b7 : Nat} (hlo : w.heap.size ≤ lo) (h7 : w.heap.size ≤ b7) (h6 : b6 < lo) (hne : b6 ≠ b7) : Stays lo b7 (ofR w b6) := by
  intro W W' row h hg hr
  refine ⟨h.1.grown hg h.1.size (fun k e => by rcases hr k e with e2 | e2 <;> omega), h.2.grown hg (fun e => ?_)⟩
  rcases hr b6 e.symm with e2 | e2 <;> omega
theorem six_stores {W : World} {b : Nat} {t : TypeId} {d0 d1 d2 d3 d4 d5 : Value} (v0 v1 v2 v3 v4 v5 : Value) (h : Blk W b t #[d0, d1, d2, d3, d4, d5]) :
    ∃ V, V = (((((W.setCell ⟨b, 0, none⟩ v0).setCell ⟨b, 1, none⟩ v1).setCell ⟨b, 2, none⟩ v2).setCell ⟨b, 3, none⟩ v3).setCell ⟨b, 4, none⟩ v4).setCell ⟨b, 5, none⟩ v5 ∧ W.grownBy V (some b) ∧ Blk V b t #[v0, v1, v2, v3, v4, v5] := by
  refine ⟨_, rfl, grown_setCell (grown_setCell (grown_setCell (grown_setCell (grown_setCell (grown_setCell ⟨rfl, rfl, rfl, Nat.le_refl _, fun _ _ _ => rfl⟩ _ _) _ _) _ _) _ _) _ _) _ _, ?_⟩
  have q := (((((h.set_ 0 v0).set_ 1 v1).set_ 2 v2).set_ 3 v3).set_ 4 v4).set_ 5 v5
  simpa using q
set_option maxHeartbeats 3200000 in
set_option maxRecDepth 100000 in
theorem of_tail (x : Nd) (f : Kids) (kind : Int) (w : World) (b6 b7 D : Nat) (hwf : x.wf) (hk : -9223372036854775808 ≤ kind ∧ kind ≤ 9223372036854775807) (hv : ∀ b r, f b = some r → refOk r) (h6 : w.heap.size ≤ b6) (hne : b6 ≠ b7) {u0 u1 u2 u3 u4 u5 u8 u9 u10 u11 u12 u13 u14 u15 u16 u17 u18 u19 u20 u21 u22 u23 u24 u25 u26 u27 u28 u29 u30 u31 : Value} (lo : Nat) (hD : lo ≤ D) (hlo : w.heap.size ≤ lo) (v4 v5 : Value) (W : World)
    (q7 : Blk W b7 26 (outC kind x.path v4 v5)) (r4 : W.ownsRow lo 5 1 v4 (kidsF f).length (rowB (kidsF f))) (r5 : W.ownsRow lo 29 2 v5 (kidsF f).length (rowR (kidsF f))) (hR : ofR w b6 W) (hd : W.heap[D]? = some (.deferred (some []))) :
    Code.wp Tryz.prog (part Tryz.f42 [1, 1, 1]) (bodyPostM Fence.wide 10 Tryz.prog Tryz.f42 (NdOut (ofNd x f kind) w)) ⟨#[u0, u1, u2, u3, u4, u5, .pointer (some ⟨b6, 0, none⟩), .pointer (some ⟨b7, 0, none⟩), u8, u9, u10, u11, u12, u13, u14, u15, u16, u17, u18, u19, u20, u21, u22, u23, u24, u25, u26, u27, u28, u29, u30, u31], [{ target := .collected D, args := #[] }]⟩ W := by
  conv => arg 2; whnf
  obtain ⟨A4, c4, rfl, _, _, _⟩ := own_form r4
  obtain ⟨A5, c5, rfl, _, _, _⟩ := own_form r5
  have HS := Lib.hid (And.intro q7 (And.intro r4 (And.intro r5 (And.intro hR hd))))
  have HH := Lib.hid (And.intro hwf (And.intro hk hv))
  obtain ⟨e0, e1, e2, e3, e4, e5⟩ := cells6 q7
  obtain ⟨d0, d1, d2, d3, d4, d5⟩ := cells6 hR.2
  have f0 := hR.2.frozen 0
  have f1 := hR.2.frozen 1
  have f2 := hR.2.frozen 2
  have f3 := hR.2.frozen 3
  have f4 := hR.2.frozen 4
  have f5 := hR.2.frozen 5
  have l6 := hR.2.lt
  clear q7 r4 r5 hR hd hwf hk hv
  go_wp2
  clear e0 e1 e2 e3 e4 e5 d0 d1 d2 d3 d4 d5 f0 f1 f2 f3 f4 f5
  obtain ⟨q7, r4, r5, hR, hd⟩ := HS.out
  obtain ⟨V, hV, hg, q6⟩ := six_stores (.int .i64 kind) (.string { data := #[] }) (.string { data := #[] }) (.string x.path) (.slice A4 (kidsF f).length c4) (.slice A5 (kidsF f).length c5) hR.2
  rw [← hV]
  clear hV
  have s4 := r4.kept hg (.inr (Ne.symm (own_blk_ne r4 hR.2 (by decide))))
  have s5 := r5.kept hg (.inr (Ne.symm (own_blk_ne r5 hR.2 (by decide))))
  have hb : Below w.heap.size w V := hR.1.grown hg hR.1.size (fun k e => by injection e with e; omega)
  have hD6 : b6 ≠ D := fun e => by subst e; have := hR.2; unfold Blk at this; rw [hd] at this; cases this
  have hne6 : some D ≠ some b6 := fun e => hD6 (by injection e with e; exact e.symm)
  have hDlt : D < W.heap.size := (Array.getElem?_eq_some_iff.1 hd).1
  have hdV := hg.block D hDlt hne6
  rw [hd] at hdV
  have q6' : Blk (V.putObj D (.deferred none)) b6 26 #[.int .i64 kind, .string { data := #[] }, .string { data := #[] }, .string x.path, .slice A4 (kidsF f).length c4, .slice A5 (kidsF f).length c5] := (World.putObj_heap_other hD6).trans q6
  obtain ⟨c0, c1, c2, c3, c4', c5'⟩ := cells6 q6'
  have hown : ∀ r, (some D : Option Nat) = some r → ∃ o : Obj, V.heap[r]? = some o ∧ o.isCells = false := fun r e => by injection e with e; subst e; exact ⟨_, hdV, rfl⟩
  have t4 := ownsRow_own s4 (grownBy_putObj' V D (.deferred none)) hown
  have t5 := ownsRow_own s5 (grownBy_putObj' V D (.deferred none)) hown
  refine ⟨by simp, .inl ⟨_, _, rfl, run_takeDeferred hdV, ?_⟩⟩
  refine ⟨.agg #[.int .i64 kind, .string { data := #[] }, .string { data := #[] }, .string x.path, .slice A4 (kidsF f).length c4, .slice A5 (kidsF f).length c5], by simp [results, Tryz.results42, go_sem, c0, c1, c2, c3, c4', c5'], _, rfl, ⟨ofNd_wf HH.out.1 HH.out.2.1 HH.out.2.2, A4, c4, A5, c5, ?_, ?_, ?_, ?_, ?_⟩, hb.trans ⟨rfl, rfl, rfl, by simp [World.putObj], fun k hk => World.putObj_heap_other (by omega)⟩⟩
  · simp [Nd.v, ofNd]
  · have h := reads_own t4
    rw [rowB_nrow] at h
    simpa [ofNd] using h
  · have h := reads_own t5
    rw [rowR_rrow] at h
    simpa [ofNd] using h
  · intro ad e
    subst e
    exact Nat.le_trans hlo (r4.lt ad.block rfl).1
  · intro ad e
    subst e
    exact Nat.le_trans hlo (r5.lt ad.block rfl).1
end Go.Proofs.YtgjgcbemgmkncaaGreatDoor
namespace Go.Proofs.YtgjgcbemgmkncaaGreatDoor
open Go.RowKit Go.Shelf
set_option linter.unusedVariables false
set_option maxRecDepth 20000
set_option linter.unusedSimpArgs false

set_option maxHeartbeats 3200000 in
set_option maxRecDepth 100000 in
theorem of_few (x : Nd) (V : Value) (w : World) (h : NdAt w x V) (g : Nat) (room : Int) (f : Kids) (hrow : FewAt w g room f) (kind : Int) (hk : -9223372036854775808 ≤ kind ∧ kind ≤ 9223372036854775807) (hv : ∀ b r, f b = some r → refOk r) :
    Calls Tryz.prog 42 #[V, .iface 88 (.pointer (some ⟨g, 0, none⟩)), .int .i64 kind] w (NdOut (ofNd x f kind) w) := by
  obtain ⟨hwf, Ab, cb, Ak, ck, rfl, _, _⟩ := h
  have hme := few_All_me g
  have HH := Lib.hid (And.intro hwf (And.intro hk (And.intro hv hrow)))
  clear hwf hk hv hrow
  unfold Nd.v
  refine (callsIn_wide (n := 10)).1 (callsIn_of_wp_marks Tryz.func42 rfl trivial (wpIn_wide.2 ?_) rfl)
  simp only [Tryz.ntmps42, List.size_toArray, List.length_cons, List.length_nil, Nat.reduceAdd, Nat.reduceSub, Array.replicate_succ, Array.replicate_zero, List.push_toArray, List.append_toArray, List.nil_append, List.cons_append]
  refine wp_seq_k fun K0 hK => ?_
  have HK0 := Lib.hid hK
  clear hK
  go_wp2_with fail
  refine HK0.out _ _ ?_
  clear HK0
  refine wp_seq_k fun K1 hK => ?_
  have HK1 := Lib.hid hK
  clear hK
  go_wp2_with fail
  refine HK1.out _ _ ?_
  clear HK1
  refine wp_seq_k fun K2 hK => ?_
  have HK2 := Lib.hid hK
  clear hK
  refine wp_seq_k fun K3 hK => ?_
  have HK3 := Lib.hid hK
  clear hK
  go_wp2_with fail
  refine (All_any (some ⟨g, 0, none⟩) _).mono ?_
  rintro e w1 ⟨rfl, rfl⟩
  go_wp2_with fail
  refine HK3.out _ _ ?_
  clear HK3
  have b4 : Below w.heap.size w ((((w.alloc (.cells #[.int .i64 x.kind, .string x.code, .string x.value, .string x.path, .slice Ab x.bytes.length cb, .slice Ak x.kids.length ck] 61)).alloc (.cells #[.int .i64 0, .string { data := #[] }, .string { data := #[] }, .string { data := #[] }, .slice none 0 0, .slice none 0 0] 26)).alloc (.cells #[.int .i64 kind, .string { data := #[] }, .string { data := #[] }, .string x.path, .slice none 0 0, .slice none 0 0] 26)).alloc (.cells #[.pointer (some ⟨g, 0, none⟩)] 88)) := ((((Below.refl _ w).alloc (Nat.le_refl _) _).alloc (by simp) _).alloc (by simp; omega) _).alloc (by simp; omega) _
  have q6 : Blk ((((w.alloc (.cells #[.int .i64 x.kind, .string x.code, .string x.value, .string x.path, .slice Ab x.bytes.length cb, .slice Ak x.kids.length ck] 61)).alloc (.cells #[.int .i64 0, .string { data := #[] }, .string { data := #[] }, .string { data := #[] }, .slice none 0 0, .slice none 0 0] 26)).alloc (.cells #[.int .i64 kind, .string { data := #[] }, .string { data := #[] }, .string x.path, .slice none 0 0, .slice none 0 0] 26)).alloc (.cells #[.pointer (some ⟨g, 0, none⟩)] 88)) (w.heap.size + 1) 26 #[.int .i64 0, .string { data := #[] }, .string { data := #[] }, .string { data := #[] }, .slice none 0 0, .slice none 0 0] := by
    have q := ((Blk.new (w.alloc (.cells #[.int .i64 x.kind, .string x.code, .string x.value, .string x.path, .slice Ab x.bytes.length cb, .slice Ak x.kids.length ck] 61)) 26 #[.int .i64 0, .string { data := #[] }, .string { data := #[] }, .string { data := #[] }, .slice none 0 0, .slice none 0 0]).alloc (.cells #[.int .i64 kind, .string { data := #[] }, .string { data := #[] }, .string x.path, .slice none 0 0, .slice none 0 0] 26)).alloc (.cells #[.pointer (some ⟨g, 0, none⟩)] 88)
    rw [World.size_alloc] at q
    exact q
  have q7 : Blk ((((w.alloc (.cells #[.int .i64 x.kind, .string x.code, .string x.value, .string x.path, .slice Ab x.bytes.length cb, .slice Ak x.kids.length ck] 61)).alloc (.cells #[.int .i64 0, .string { data := #[] }, .string { data := #[] }, .string { data := #[] }, .slice none 0 0, .slice none 0 0] 26)).alloc (.cells #[.int .i64 kind, .string { data := #[] }, .string { data := #[] }, .string x.path, .slice none 0 0, .slice none 0 0] 26)).alloc (.cells #[.pointer (some ⟨g, 0, none⟩)] 88)) (w.heap.size + 2) 26 (outC kind x.path (.slice none 0 0) (.slice none 0 0)) := by
    have q := (Blk.new ((w.alloc (.cells #[.int .i64 x.kind, .string x.code, .string x.value, .string x.path, .slice Ab x.bytes.length cb, .slice Ak x.kids.length ck] 61)).alloc (.cells #[.int .i64 0, .string { data := #[] }, .string { data := #[] }, .string { data := #[] }, .slice none 0 0, .slice none 0 0] 26)) 26 #[.int .i64 kind, .string { data := #[] }, .string { data := #[] }, .string x.path, .slice none 0 0, .slice none 0 0]).alloc (.cells #[.pointer (some ⟨g, 0, none⟩)] 88)
    rw [World.size_alloc, World.size_alloc] at q
    exact q
  have e9 : ((((w.alloc (.cells #[.int .i64 x.kind, .string x.code, .string x.value, .string x.path, .slice Ab x.bytes.length cb, .slice Ak x.kids.length ck] 61)).alloc (.cells #[.int .i64 0, .string { data := #[] }, .string { data := #[] }, .string { data := #[] }, .slice none 0 0, .slice none 0 0] 26)).alloc (.cells #[.int .i64 kind, .string { data := #[] }, .string { data := #[] }, .string x.path, .slice none 0 0, .slice none 0 0] 26)).alloc (.cells #[.pointer (some ⟨g, 0, none⟩)] 88)).cell? ⟨w.heap.size + 3, 0, none⟩ = some (.pointer (some ⟨g, 0, none⟩)) := by
    have q := (Blk.new (((w.alloc (.cells #[.int .i64 x.kind, .string x.code, .string x.value, .string x.path, .slice Ab x.bytes.length cb, .slice Ak x.kids.length ck] 61)).alloc (.cells #[.int .i64 0, .string { data := #[] }, .string { data := #[] }, .string { data := #[] }, .slice none 0 0, .slice none 0 0] 26)).alloc (.cells #[.int .i64 kind, .string { data := #[] }, .string { data := #[] }, .string x.path, .slice none 0 0, .slice none 0 0] 26)) 88 #[.pointer (some ⟨g, 0, none⟩)]).cell 0
    rw [World.size_alloc, World.size_alloc, World.size_alloc] at q
    exact q
  have hrw := HH.out.2.2.2.below b4
  have hsz : ((((w.alloc (.cells #[.int .i64 x.kind, .string x.code, .string x.value, .string x.path, .slice Ab x.bytes.length cb, .slice Ak x.kids.length ck] 61)).alloc (.cells #[.int .i64 0, .string { data := #[] }, .string { data := #[] }, .string { data := #[] }, .slice none 0 0, .slice none 0 0] 26)).alloc (.cells #[.int .i64 kind, .string { data := #[] }, .string { data := #[] }, .string x.path, .slice none 0 0, .slice none 0 0] 26)).alloc (.cells #[.pointer (some ⟨g, 0, none⟩)] 88)).heap.size = w.heap.size + 4 := by simp
  generalize (((w.alloc (.cells #[.int .i64 x.kind, .string x.code, .string x.value, .string x.path, .slice Ab x.bytes.length cb, .slice Ak x.kids.length ck] 61)).alloc (.cells #[.int .i64 0, .string { data := #[] }, .string { data := #[] }, .string { data := #[] }, .slice none 0 0, .slice none 0 0] 26)).alloc (.cells #[.int .i64 kind, .string { data := #[] }, .string { data := #[] }, .string x.path, .slice none 0 0, .slice none 0 0] 26)).alloc (.cells #[.pointer (some ⟨g, 0, none⟩)] 88) = wx at b4 q6 q7 e9 hrw hsz ⊢
  have hlt : ∀ k, ofOwn (w.heap.size + 2) wx k → k < wx.heap.size := fun k hk => by
    rw [ofOwn_blk q7] at hk
    rcases hk with rfl | ⟨n, c, e⟩ | ⟨n, c, e⟩
    · omega
    · cases e
    · cases e
  refine of_loop 115 16 (w.heap.size + 2) #[.pointer (some ⟨w.heap.size + 3, 0, none⟩)] kind x.path f wx (ofR w (w.heap.size + 1)) (ofR_stays (by omega) (by omega) (by omega) (by omega)) ⟨b4, q6⟩ (by decide) (enters_of Tryz.func115 (by kernel_rfl) rfl) (all_k_stops (w.heap.size + 3) g 9 _ (ofOwn (w.heap.size + 2)) room f _ (ofOwn_owns (by omega)) hlt (by decide) e9 hrw) q7 ?_
  intro D v4 v5 W hD z1 z2 z3 z4 z5 z6
  refine HK2.out _ _ ?_
  exact of_tail x f kind w (w.heap.size + 1) (w.heap.size + 2) D HH.out.1 HH.out.2.1 HH.out.2.2.1 (by omega) (by omega) wx.heap.size hD (by omega) v4 v5 W z1 z2 z3 z4 z6
set_option maxHeartbeats 3200000 in
set_option maxRecDepth 100000 in
theorem of_many (x : Nd) (V : Value) (w : World) (h : NdAt w x V) (g gr gu n : Nat) (f : Kids) (hrow : ManyAt w g gr gu n f) (kind : Int) (hk : -9223372036854775808 ≤ kind ∧ kind ≤ 9223372036854775807) (hv : ∀ b r, f b = some r → refOk r) :
    Calls Tryz.prog 42 #[V, .iface 91 (.pointer (some ⟨g, 0, none⟩)), .int .i64 kind] w (NdOut (ofNd x f kind) w) := by
  obtain ⟨hwf, Ab, cb, Ak, ck, rfl, _, _⟩ := h
  have hme := many_All_me g
  have HH := Lib.hid (And.intro hwf (And.intro hk (And.intro hv hrow)))
  clear hwf hk hv hrow
  unfold Nd.v
  refine (callsIn_wide (n := 10)).1 (callsIn_of_wp_marks Tryz.func42 rfl trivial (wpIn_wide.2 ?_) rfl)
  simp only [Tryz.ntmps42, List.size_toArray, List.length_cons, List.length_nil, Nat.reduceAdd, Nat.reduceSub, Array.replicate_succ, Array.replicate_zero, List.push_toArray, List.append_toArray, List.nil_append, List.cons_append]
  refine wp_seq_k fun K0 hK => ?_
  have HK0 := Lib.hid hK
  clear hK
  go_wp2_with fail
  refine HK0.out _ _ ?_
  clear HK0
  refine wp_seq_k fun K1 hK => ?_
  have HK1 := Lib.hid hK
  clear hK
  go_wp2_with fail
  refine HK1.out _ _ ?_
  clear HK1
  refine wp_seq_k fun K2 hK => ?_
  have HK2 := Lib.hid hK
  clear hK
  refine wp_seq_k fun K3 hK => ?_
  have HK3 := Lib.hid hK
  clear hK
  go_wp2_with fail
  refine (All_m (some ⟨g, 0, none⟩) _).mono ?_
  rintro e w1 ⟨rfl, rfl⟩
  go_wp2_with fail
  refine HK3.out _ _ ?_
  clear HK3
  have b4 : Below w.heap.size w ((((w.alloc (.cells #[.int .i64 x.kind, .string x.code, .string x.value, .string x.path, .slice Ab x.bytes.length cb, .slice Ak x.kids.length ck] 61)).alloc (.cells #[.int .i64 0, .string { data := #[] }, .string { data := #[] }, .string { data := #[] }, .slice none 0 0, .slice none 0 0] 26)).alloc (.cells #[.int .i64 kind, .string { data := #[] }, .string { data := #[] }, .string x.path, .slice none 0 0, .slice none 0 0] 26)).alloc (.cells #[.pointer (some ⟨g, 0, none⟩)] 91)) := ((((Below.refl _ w).alloc (Nat.le_refl _) _).alloc (by simp) _).alloc (by simp; omega) _).alloc (by simp; omega) _
  have q6 : Blk ((((w.alloc (.cells #[.int .i64 x.kind, .string x.code, .string x.value, .string x.path, .slice Ab x.bytes.length cb, .slice Ak x.kids.length ck] 61)).alloc (.cells #[.int .i64 0, .string { data := #[] }, .string { data := #[] }, .string { data := #[] }, .slice none 0 0, .slice none 0 0] 26)).alloc (.cells #[.int .i64 kind, .string { data := #[] }, .string { data := #[] }, .string x.path, .slice none 0 0, .slice none 0 0] 26)).alloc (.cells #[.pointer (some ⟨g, 0, none⟩)] 91)) (w.heap.size + 1) 26 #[.int .i64 0, .string { data := #[] }, .string { data := #[] }, .string { data := #[] }, .slice none 0 0, .slice none 0 0] := by
    have q := ((Blk.new (w.alloc (.cells #[.int .i64 x.kind, .string x.code, .string x.value, .string x.path, .slice Ab x.bytes.length cb, .slice Ak x.kids.length ck] 61)) 26 #[.int .i64 0, .string { data := #[] }, .string { data := #[] }, .string { data := #[] }, .slice none 0 0, .slice none 0 0]).alloc (.cells #[.int .i64 kind, .string { data := #[] }, .string { data := #[] }, .string x.path, .slice none 0 0, .slice none 0 0] 26)).alloc (.cells #[.pointer (some ⟨g, 0, none⟩)] 91)
    rw [World.size_alloc] at q
    exact q
  have q7 : Blk ((((w.alloc (.cells #[.int .i64 x.kind, .string x.code, .string x.value, .string x.path, .slice Ab x.bytes.length cb, .slice Ak x.kids.length ck] 61)).alloc (.cells #[.int .i64 0, .string { data := #[] }, .string { data := #[] }, .string { data := #[] }, .slice none 0 0, .slice none 0 0] 26)).alloc (.cells #[.int .i64 kind, .string { data := #[] }, .string { data := #[] }, .string x.path, .slice none 0 0, .slice none 0 0] 26)).alloc (.cells #[.pointer (some ⟨g, 0, none⟩)] 91)) (w.heap.size + 2) 26 (outC kind x.path (.slice none 0 0) (.slice none 0 0)) := by
    have q := (Blk.new ((w.alloc (.cells #[.int .i64 x.kind, .string x.code, .string x.value, .string x.path, .slice Ab x.bytes.length cb, .slice Ak x.kids.length ck] 61)).alloc (.cells #[.int .i64 0, .string { data := #[] }, .string { data := #[] }, .string { data := #[] }, .slice none 0 0, .slice none 0 0] 26)) 26 #[.int .i64 kind, .string { data := #[] }, .string { data := #[] }, .string x.path, .slice none 0 0, .slice none 0 0]).alloc (.cells #[.pointer (some ⟨g, 0, none⟩)] 91)
    rw [World.size_alloc, World.size_alloc] at q
    exact q
  have e9 : ((((w.alloc (.cells #[.int .i64 x.kind, .string x.code, .string x.value, .string x.path, .slice Ab x.bytes.length cb, .slice Ak x.kids.length ck] 61)).alloc (.cells #[.int .i64 0, .string { data := #[] }, .string { data := #[] }, .string { data := #[] }, .slice none 0 0, .slice none 0 0] 26)).alloc (.cells #[.int .i64 kind, .string { data := #[] }, .string { data := #[] }, .string x.path, .slice none 0 0, .slice none 0 0] 26)).alloc (.cells #[.pointer (some ⟨g, 0, none⟩)] 91)).cell? ⟨w.heap.size + 3, 0, none⟩ = some (.pointer (some ⟨g, 0, none⟩)) := by
    have q := (Blk.new (((w.alloc (.cells #[.int .i64 x.kind, .string x.code, .string x.value, .string x.path, .slice Ab x.bytes.length cb, .slice Ak x.kids.length ck] 61)).alloc (.cells #[.int .i64 0, .string { data := #[] }, .string { data := #[] }, .string { data := #[] }, .slice none 0 0, .slice none 0 0] 26)).alloc (.cells #[.int .i64 kind, .string { data := #[] }, .string { data := #[] }, .string x.path, .slice none 0 0, .slice none 0 0] 26)) 91 #[.pointer (some ⟨g, 0, none⟩)]).cell 0
    rw [World.size_alloc, World.size_alloc, World.size_alloc] at q
    exact q
  have hrw := HH.out.2.2.2.below b4
  have hsz : ((((w.alloc (.cells #[.int .i64 x.kind, .string x.code, .string x.value, .string x.path, .slice Ab x.bytes.length cb, .slice Ak x.kids.length ck] 61)).alloc (.cells #[.int .i64 0, .string { data := #[] }, .string { data := #[] }, .string { data := #[] }, .slice none 0 0, .slice none 0 0] 26)).alloc (.cells #[.int .i64 kind, .string { data := #[] }, .string { data := #[] }, .string x.path, .slice none 0 0, .slice none 0 0] 26)).alloc (.cells #[.pointer (some ⟨g, 0, none⟩)] 91)).heap.size = w.heap.size + 4 := by simp
  generalize (((w.alloc (.cells #[.int .i64 x.kind, .string x.code, .string x.value, .string x.path, .slice Ab x.bytes.length cb, .slice Ak x.kids.length ck] 61)).alloc (.cells #[.int .i64 0, .string { data := #[] }, .string { data := #[] }, .string { data := #[] }, .slice none 0 0, .slice none 0 0] 26)).alloc (.cells #[.int .i64 kind, .string { data := #[] }, .string { data := #[] }, .string x.path, .slice none 0 0, .slice none 0 0] 26)).alloc (.cells #[.pointer (some ⟨g, 0, none⟩)] 91) = wx at b4 q6 q7 e9 hrw hsz ⊢
  have hlt : ∀ k, ofOwn (w.heap.size + 2) wx k → k < wx.heap.size := fun k hk => by
    rw [ofOwn_blk q7] at hk
    rcases hk with rfl | ⟨n, c, e⟩ | ⟨n, c, e⟩
    · omega
    · cases e
    · cases e
  refine of_loop 131 256 (w.heap.size + 2) #[.pointer (some ⟨w.heap.size + 3, 0, none⟩)] kind x.path f wx (ofR w (w.heap.size + 1)) (ofR_stays (by omega) (by omega) (by omega) (by omega)) ⟨b4, q6⟩ (by decide) (enters_of Tryz.func131 (by kernel_rfl) rfl) (all_m_stops (w.heap.size + 3) g gr gu n 9 _ (ofOwn (w.heap.size + 2)) f _ (ofOwn_owns (by omega)) hlt e9 hrw) q7 ?_
  intro D v4 v5 W hD z1 z2 z3 z4 z5 z6
  refine HK2.out _ _ ?_
  exact of_tail x f kind w (w.heap.size + 1) (w.heap.size + 2) D HH.out.1 HH.out.2.1 HH.out.2.2.1 (by omega) (by omega) wx.heap.size hD (by omega) v4 v5 W z1 z2 z3 z4 z6
theorem of_row (x : Nd) (V : Value) (w : World) (h : NdAt w x V) (iv : Value) (room : Int) (f : Kids) (bl : List Nat) (hrow : RowAt w iv room f bl) (kind : Int) (hk : -9223372036854775808 ≤ kind ∧ kind ≤ 9223372036854775807) (hv : ∀ b r, f b = some r → refOk r) :
    Calls Tryz.prog 42 #[V, iv, .int .i64 kind] w (NdOut (ofNd x f kind) w) := by
  rcases hrow with ⟨g, rfl, rfl, hf⟩ | ⟨g, gr, gu, n, rfl, rfl, rfl, hf⟩
  · exact of_few x V w h g room f hf kind hk hv
  · exact of_many x V w h g gr gu n f hf kind hk hv
end Go.Proofs.YtgjgcbemgmkncaaGreatDoor
namespace Go.Proofs.YtgjgcbemgmkncaaGreatDoor
open Go.RowKit Go.Shelf
set_option linter.unusedVariables false
set_option maxRecDepth 20000
set_option linter.unusedSimpArgs false

def zeroNd : Nd := ⟨0, { data := #[] }, { data := #[] }, { data := #[] }, [], []⟩
theorem zeroNd_at (W : World) : NdAt W zeroNd (.agg #[.int .i64 0, .string { data := #[] }, .string { data := #[] }, .string { data := #[] }, .slice none 0 0, .slice none 0 0]) :=
  ⟨⟨by simp [zeroNd], by simp [zeroNd], by simp [zeroNd], by simp [zeroNd], by simp [zeroNd], by simp [zeroNd, ByteArray.size], by simp [zeroNd, ByteArray.size], by simp [zeroNd, ByteArray.size]⟩, none, 0, none, 0, rfl, Reads.none_, Reads.none_⟩
def kindN (x : Nd) (n : Int) (keep : Bool) : Int := if keep then x.kind else (ofN n).1
def addRoom (x : Nd) (keep : Bool) : Int := roomN (max (kindN x ((x.kids.length : Int) + 1) keep) x.kind)
def Nd.row (x : Nd) (room : Int) : Kids := layK room (x.bytes.zip x.kids)
def addN (x : Nd) (b : Nat) (r : Int × Int) (keep : Bool) : Nd × Int :=
  if x.may = false ∨ kidN r = false then (zeroNd, 4)
  else if (putK (addRoom x keep) (x.row (addRoom x keep)) b r).1 = 0 then (ofNd x (putK (addRoom x keep) (x.row (addRoom x keep)) b r).2 (kindN x ((x.kids.length : Int) + 1) keep), 0)
  else (zeroNd, (putK (addRoom x keep) (x.row (addRoom x keep)) b r).1)
def cutN (x : Nd) (b : Nat) (keep : Bool) : Nd × Int :=
  if x.may = false then (zeroNd, 4)
  else if (takeK (x.row (roomN x.kind)) b).1.2 = 0 then (ofNd x (takeK (x.row (roomN x.kind)) b).2 (kindN x ((x.kids.length : Int) - 1) keep), 0)
  else (zeroNd, (takeK (x.row (roomN x.kind)) b).1.2)
theorem may_inner {x : Nd} (h : x.may = true) : x.isInner = true := by
  unfold Nd.may Nd.isRight Nd.isAnchor at h
  cases hi : x.isInner with
  | true => rfl
  | false => rw [hi] at h; simp at h
theorem inner_parts {x : Nd} (h : x.isInner = true) : 0 < roomN x.kind ∧ x.code.toList.isEmpty = true ∧ x.value.toList.isEmpty = true ∧ x.path.size ≤ 34 ∧ x.bytes.length = x.kids.length ∧ x.kids.length ≤ 256 ∧ risingN x.bytes = true ∧ x.kids.all kidN = true := by
  unfold Nd.isInner Nd.innerN Nd.bareN Nd.pairedN Nd.risingN Nd.refsN at h
  simp only [Bool.and_eq_true, decide_eq_true_eq] at h
  obtain ⟨⟨⟨⟨h1, ⟨h2, h3⟩, h4⟩, h5, h6⟩, h7⟩, h8⟩ := h
  exact ⟨h1, h2, h3, by omega, h5, h6, h7, h8⟩
theorem room_kind {k : Int} (h : 0 < roomN k) : k = 2 ∨ k = 3 ∨ k = 4 ∨ k = 5 := by
  unfold roomN at h
  by_cases h2 : k = 2
  · exact .inl h2
  · by_cases h3 : k = 3
    · exact .inr (.inl h3)
    · by_cases h4 : k = 4
      · exact .inr (.inr (.inl h4))
      · by_cases h5 : k = 5
        · exact .inr (.inr (.inr h5))
        · simp [h2, h3, h4, h5] at h
theorem roomOk_of {k : Int} (h : k = 2 ∨ k = 3 ∨ k = 4 ∨ k = 5) : roomOk (roomN k) := by
  rcases h with rfl | rfl | rfl | rfl
  · exact .inl rfl
  · exact .inr (.inl rfl)
  · exact .inr (.inr (.inl rfl))
  · exact .inr (.inr (.inr rfl))
theorem ofN_kind (n : Int) : (ofN n).1 = 0 ∨ (ofN n).1 = 2 ∨ (ofN n).1 = 3 ∨ (ofN n).1 = 4 ∨ (ofN n).1 = 5 := by
  unfold ofN
  split
  · exact .inl rfl
  · split
    · exact .inr (.inl rfl)
    · split
      · exact .inr (.inr (.inl rfl))
      · split
        · exact .inr (.inr (.inr (.inl rfl)))
        · split
          · exact .inr (.inr (.inr (.inr rfl)))
          · exact .inl rfl
theorem kindN_in (x : Nd) (n : Int) (keep : Bool) (h : 0 < roomN x.kind) : -9223372036854775808 ≤ kindN x n keep ∧ kindN x n keep ≤ 9223372036854775807 := by
  have h1 := ofN_kind n
  have h2 := room_kind h
  unfold kindN
  split <;> omega
theorem addRoom_ok (x : Nd) (keep : Bool) (h : 0 < roomN x.kind) : roomOk (addRoom x keep) := by
  have h1 := ofN_kind ((x.kids.length : Int) + 1)
  have h2 := room_kind h
  refine roomOk_of ?_
  unfold kindN
  split <;> omega
/-- Kids laid out of a node are its own. -/
theorem layK_mem (room : Int) (l : List (Nat × (Int × Int))) : ∀ b r, layK room l b = some r → ∃ p ∈ l, p.1 = b ∧ p.2 = r := by
  have h : ∀ (l : List (Nat × (Int × Int))) (f : Kids), ∀ b r, l.foldl (layStep room) f b = some r → f b = some r ∨ ∃ p ∈ l, p.1 = b ∧ p.2 = r := by
    intro l
    induction l with
    | nil => intro f b r h; exact .inl h
    | cons p l ih =>
      intro f b r h
      rcases ih _ b r h with h1 | ⟨q, hq, h2⟩
      · unfold layStep putK at h1
        split at h1
        · exact .inl h1
        · split at h1
          · exact .inl h1
          · dsimp only [setK] at h1
            split at h1
            · rename_i e
              injection h1 with h1
              exact .inr ⟨p, by simp, e.symm, h1⟩
            · exact .inl h1
      · exact .inr ⟨q, by simp [hq], h2⟩
  intro b r hb
  rcases h l noKids b r hb with h1 | h1
  · cases h1
  · exact h1
theorem row_refOk {x : Nd} (hx : x.wf) (room : Int) : ∀ b r, x.row room b = some r → refOk r := by
  intro b r h
  obtain ⟨p, hp, _, rfl⟩ := layK_mem room _ b r h
  exact hx.refs _ (List.of_mem_zip hp).2
theorem set_refOk {f : Kids} (hf : ∀ b r, f b = some r → refOk r) (c : Nat) {r : Int × Int} (hr : refOk r) : ∀ b q, setK f c (some r) b = some q → refOk q := by
  intro b q h
  unfold setK at h
  split at h
  · injection h with h; subst h; exact hr
  · exact hf b q h
theorem none_refOk {f : Kids} (hf : ∀ b r, f b = some r → refOk r) (c : Nat) : ∀ b q, setK f c none b = some q → refOk q := by
  intro b q h
  unfold setK at h
  split at h
  · cases h
  · exact hf b q h
theorem put_refOk {f : Kids} (room : Int) (hf : ∀ b r, f b = some r → refOk r) (c : Nat) {r : Int × Int} (hr : refOk r) : ∀ b q, (putK room f c r).2 b = some q → refOk q := by
  unfold putK
  split
  · exact hf
  · split
    · exact hf
    · exact set_refOk hf c hr
theorem take_refOk {f : Kids} (hf : ∀ b r, f b = some r → refOk r) (c : Nat) : ∀ b q, (takeK f c).2 b = some q → refOk q := by
  unfold takeK
  split
  · exact none_refOk hf c
  · exact hf
theorem kind_n (x : Nd) (V : Value) (n : Int) (keep : Bool) (w : World) (h : NdAt w x V) (hr : RoomsAt w) : Calls Tryz.prog 40 #[V, .int .i64 n, .bool keep] w (IntEnd (kindN x n keep) w) := by
  obtain ⟨_, Ab, cb, Ak, ck, rfl, _, _⟩ := h
  unfold Nd.v
  cases keep with
  | true =>
    go_enter Tryz.func40, Tryz.ntmps40
    go_wp2
    go_ret
    exact ⟨rfl, (Below.refl _ _).alloc (Nat.le_refl _) _⟩
  | false =>
    have HO := Lib.hid (of_n n (w.alloc (.cells #[.int .i64 x.kind, .string x.code, .string x.value, .string x.path, .slice Ab x.bytes.length cb, .slice Ak x.kids.length ck] 61)) (hr.on (below_box w _)))
    obtain ⟨p, hp⟩ : ∃ p, ofN n = p := ⟨_, rfl⟩
    rw [hp] at HO
    have HP : Hid (kindN x n false = p.1) := Lib.hid (by unfold kindN; rw [hp]; rfl)
    clear hp
    go_enter Tryz.func40, Tryz.ntmps40
    go_wp2_with fail
    refine HO.out.mono ?_
    rintro e w1 ⟨rfl, rfl⟩
    go_wp2
    go_ret
    exact ⟨ret_int HP.out.symm, (Below.refl _ _).alloc (Nat.le_refl _) _⟩
end Go.Proofs.YtgjgcbemgmkncaaGreatDoor
