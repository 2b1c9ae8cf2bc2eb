/-
  Layer 8: the iterator that All returns: it ranges over the iterator over the bytes of a copy.
  Layer 9: nodes as plain data, and what package node computes of them (no program in sight but the types' numbers).
  Layer 9: walks of the small functions.
  Layer 9: walks of the conditions on the parts of a node.
  Layer 9: rising, refs, all.
  Layer 9: refs, all.
  Layer 9: the kinds of nodes.
  Layer 9: may, Anchor, Right.
  Layer 9: a row of kids behind an interface; row.
  Layer 9: laid.
  Layer 7: the iterator that All returns, for callers that own more (RangeO).
  A held walk of a region that draws its order, where what is held must hold only until one operation has come up (a store that ends it). Over any program.
  An append to a row of one's own: the row that comes back lies in the old block or in a new one. Over any program.
  Layer 9: what 'of' keeps while it appends.
-/
import Derived.Test.YtgjgcbemgmkncaaGreatDoorPb
namespace Go.Proofs.YtgjgcbemgmkncaaGreatDoor
open Go.RowKit Go.Shelf
set_option linter.unusedVariables false
set_option linter.unusedSimpArgs false
attribute [local go_sem] Oper.semAt_some

/-- What the caller of an iterator calls its own: its boxes, and whatever rows these lead to. -/
structure Owns (B : Nat) (own : World → Nat → Prop) : Prop where
  back : ∀ (W W' : World) (row : Option Nat) (k : Nat), B ≤ W.heap.size → W.grownBy W' row → (∀ r, row = some r → B ≤ r) → own W' k → own W k
/-- A round keeps whatever cells are not the caller's own. -/
structure KeepsO (own : World → Nat → Prop) (W W' : World) : Prop where
  size : W.heap.size ≤ W'.heap.size
  same : ∀ (k : Nat) (o : Obj), ¬ own W k → W.heap[k]? = some o → o.isCells = true → W'.heap[k]? = some o
  mine : ∀ k, k < W.heap.size → own W' k → own W k
theorem KeepsO.refl (own : World → Nat → Prop) (W : World) : KeepsO own W W := ⟨Nat.le_refl _, fun _ _ _ h _ => h, fun _ _ h => h⟩
theorem KeepsO.trans {own : World → Nat → Prop} {W1 W2 W3 : World} (h : KeepsO own W1 W2) (k : KeepsO own W2 W3) : KeepsO own W1 W3 :=
  ⟨Nat.le_trans h.size k.size, fun i o hi h1 h2 => k.same i o (fun e => hi (h.mine i (Array.getElem?_eq_some_iff.1 h1).1 e)) (h.same i o hi h1 h2) h2, fun i hi e => h.mine i hi (k.mine i (Nat.lt_of_lt_of_le hi h.size) e)⟩
theorem KeepsO.blk {own : World → Nat → Prop} {W W' : World} (h : KeepsO own W W') {g : Nat} {t : TypeId} {cs : Array Value} (hb : Blk W g t cs) (hg : ¬ own W g) : Blk W' g t cs := h.same g _ hg hb rfl
theorem KeepsO.grown {B : Nat} {own : World → Nat → Prop} (hO : Owns B own) {W W' : World} {row : Option Nat} (hB : B ≤ W.heap.size) (hg : W.grownBy W' row) (hr : ∀ r, row = some r → B ≤ r ∧ ∃ o : Obj, W.heap[r]? = some o ∧ o.isCells = false) : KeepsO own W W' :=
  ⟨hg.size, fun k o hk h1 h2 => (hg.block k (Array.getElem?_eq_some_iff.1 h1).1 (fun e => by obtain ⟨_, o2, h3, h4⟩ := hr k e.symm; rw [h1] at h3; injection h3 with h3; subst h3; rw [h2] at h4; cases h4)).trans h1, fun k hk e => hO.back W W' row k hB hg (fun r e => (hr r e).1) e⟩
theorem KeepsO.read {own : World → Nat → Prop} {W W' : World} (h : KeepsO own W W') {g gr room : Nat} {f : Kids} (hm : ReadAt W g gr room f) (h1 : ¬ own W g) (h2 : ¬ own W gr) : ReadAt W' g gr room f :=
  hm.keep fun k t cs hk hb => h.blk hb (by rcases hk with rfl | rfl <;> assumption)
theorem noDefer {ops : List Oper} (hd : ops.all (fun o => match o.op with | .defer _ => false | _ => true) = true) : ∀ (i : Nat) (o : Oper), ops.toArray[i]? = some o → ∀ c, o.op ≠ .defer c := by
  intro i o ho c hc
  have hm := List.mem_of_getElem? (show ops[i]? = some o by simpa using ho)
  have := List.all_eq_true.1 hd o hm
  rw [hc] at this
  cases this
theorem roundIn_wide {P : Program} {m m' l fn : Nat} {tmps : Array Value} {assign body : Code} {W : World} {R : Ending → World → Prop} (h : RoundIn Fence.wide m P l fn tmps assign body W R) : RoundIn Fence.wide m' P l fn tmps assign body W R :=
  ⟨trivial, fun c cs _ => h.2 c cs (room_wide _)⟩
theorem yieldAt_wide {P : Program} {m m' l : Nat} {args : Array Value} {W : World} {R : Ending → World → Prop} (h : YieldAt Fence.wide m P l args W R) : YieldAt Fence.wide m' P l args W R := by
  obtain ⟨fn, tmps, assign, body, hy, hR⟩ := h
  exact ⟨fn, tmps, assign, body, hy, roundIn_wide hR⟩
def kidB {f : Kids} (x : KidB f) : Kid := (x.1, (f x.1.val).getD (0, 0))
theorem kidB_eq {f : Kids} (x : KidB f) {r : Int × Int} (hr : f x.1.val = some r) : kidB x = (x.1, r) := by unfold kidB; rw [hr]; rfl
theorem bytesLo_kids (f : Kids) : ∀ k, k ≤ 256 → (bytesLo f 0 k).map kidB = ((List.finRange 256).take k).filterMap fun b => (f b.val).map fun r => (b, r)
  | 0, _ => rfl
  | k + 1, hk => by
    have ih := bytesLo_kids f k (by omega)
    rw [List.take_succ_eq_append_getElem (by simp; omega), List.filterMap_append, ← ih]
    have hg : (List.finRange 256)[k]'(by simp; omega) = (⟨k, by omega⟩ : Fin 256) := by simp
    rw [hg]
    cases hs : f k with
    | none => rw [bytesLo_no f 0 (by rw [hs]; rfl)]; simp [hs]
    | some r =>
      rw [bytesLo_yes f 0 (Nat.zero_le _) (by omega) (by rw [hs]; rfl)]
      simp [hs, kidB]
theorem bytesF_kids (f : Kids) : (bytesF f 0).map kidB = kidsF f := by
  have h := bytesLo_kids f 256 (Nat.le_refl _)
  rw [List.take_of_length_le (by simp)] at h
  exact h

set_option maxHeartbeats 3200000 in
set_option maxRecDepth 100000 in
theorem am_loop (b2 b3 g gr room Bf Bi B B0 l n : Nat) (own : World → Nat → Prop) (J Jx : List Kid → World → Prop) (f : Kids) {u0 u1 u4 u5 u6 u7 u8 u9 u10 u11 u12 u14 u15 u16 u17 u18 u19 u20 u21 u22 u23 u24 u25 u26 : Value} (V : World) {Q : Exit → Act → World → Prop}
    (hO : Owns B own) (hB : B ≤ V.heap.size) (hnot : ∀ k, B ≤ k → ¬ own V k) (hJ : OwnFrom V.heap.size J) (hJx : OwnFrom V.heap.size Jx) (hge : B ≤ b2 ∧ B ≤ b3 ∧ B ≤ g ∧ B ≤ gr ∧ B ≤ Bf ∧ B ≤ Bi)
    (hb2 : Blk V b2 144 #[.func (.yield l) #[] #[]]) (hb3 : Blk V b3 91 #[.pointer (some ⟨g, 0, none⟩)]) (hf : Blk V Bf 3 #[.int .i64 0]) (hi : Blk V Bi 155 #[.func (.func 134) #[.pointer (some ⟨g, 0, none⟩)] #[]]) (hR : ReadAt V g gr room f) (hB0 : B0 ≤ V.heap.size)
    (hY : ∀ pre x W1, J pre W1 → pre.length < 256 → YieldAt Fence.wide n Tryz.prog l (encK x) W1 fun e W' => KeepsFrom B0 W1 W' ∧ ((e = .returned (.bool true) ∧ J (pre ++ [x]) W' ∧ KeepsO own W1 W') ∨ (e = .returned (.bool false) ∧ Jx (pre ++ [x]) W'))) (h0 : J [] V)
    (hQ : ∀ (D : Nat) (W : World), V.heap.size ≤ D → J (kidsF f) W → W.heap[D]? = some (.deferred (some [])) → Q .normal ⟨#[u0, u1, .pointer (some ⟨b2, 0, none⟩), .pointer (some ⟨b3, 0, none⟩), u4, u5, u6, u7, u8, u9, u10, u11, u12, .func (.func 141) #[] #[.pointer (some ⟨Bf, 0, none⟩), .pointer (some ⟨Bi, 0, none⟩)], u14, u15, u16, u17, u18, u19, u20, u21, u22, u23, u24, u25, u26], [{ target := .collected D, args := #[] }]⟩ W)
    (hRt : ∀ (D : Nat) (pre : List Kid) (W : World), V.heap.size ≤ D → pre <+: kidsF f → Jx pre W → W.heap[D]? = some (.deferred (some [])) → Q .ret ⟨#[u0, u1, .pointer (some ⟨b2, 0, none⟩), .pointer (some ⟨b3, 0, none⟩), u4, u5, u6, u7, u8, u9, u10, u11, u12, .func (.func 141) #[] #[.pointer (some ⟨Bf, 0, none⟩), .pointer (some ⟨Bi, 0, none⟩)], u14, u15, u16, u17, u18, u19, u20, u21, u22, u23, u24, u25, u26], [{ target := .collected D, args := #[] }]⟩ W) :
    Code.wp Tryz.prog (part Tryz.f131 [1, 1, 1, 1]) Q ⟨#[u0, u1, .pointer (some ⟨b2, 0, none⟩), .pointer (some ⟨b3, 0, none⟩), u4, u5, u6, u7, u8, u9, u10, u11, u12, .func (.func 141) #[] #[.pointer (some ⟨Bf, 0, none⟩), .pointer (some ⟨Bi, 0, none⟩)], u14, u15, u16, u17, u18, u19, u20, u21, u22, u23, u24, u25, u26], []⟩ V := by
  conv => arg 2; whnf
  have HQ := Lib.hid (And.intro hQ hRt)
  have HY := Lib.hid hY
  have HOI := Lib.hid (And.intro hJ hJx)
  have HV := Lib.hid (And.intro hb2 (And.intro hb3 (And.intro hf (And.intro hi hR))))
  clear hQ hRt hY hJ hJx
  refine wp_block ?_
  refine (wpIn_wide (n := 10)).1 ?_
  refine wpIn_range_O rfl (by decide) (gf := 141) (lb := #[.pointer (some ⟨Bf, 0, none⟩), .pointer (some ⟨Bi, 0, none⟩)]) rfl trivial (enters_of Tryz.func141 (by kernel_rfl) rfl)
    (seqStopsK_O _ (bytes_stops Bf Bi g gr room 9 (fun k => B ≤ k ∧ k < V.heap.size) 0 f V ⟨⟨hge.2.2.2.2.1, hf.lt⟩, ⟨hge.2.2.2.2.2, hi.lt⟩, ⟨hge.2.2.1, hR.lt.1⟩, ⟨hge.2.2.2.1, hR.lt.2⟩⟩ (by decide) hf hi hR)) (fun h k => h.trans k) (fun W o o' h1 h2 h3 => KeepsC.book W _ o o' h1 h2) (Below.refl _ _) (fun _ => rfl)
    (fun pre W => J (pre.map kidB) W ∧ KeepsO own V W) (fun c pre W => c = .ret ∧ Jx (pre.map kidB) W)
    (fun s W W' row hs hg hr => ⟨HOI.out.1 _ W W' row hs.1 hg hr, hs.2.trans (KeepsO.grown hO (Nat.le_trans hB hs.2.size) hg (fun r e => ⟨Nat.le_trans hB (hr r e).1, (hr r e).2⟩))⟩) (fun c s W W' row hs hg hr => ⟨hs.1, HOI.out.2 _ W W' row hs.2 hg hr⟩) ⟨h0, KeepsO.refl _ _⟩
    (fun x a' W => a' = ⟨#[u0, u1, .pointer (some ⟨b2, 0, none⟩), .pointer (some ⟨b3, 0, none⟩), .int .i64 (x.1.val : Int), u5, u6, u7, u8, u9, u10, u11, u12, .func (.func 141) #[] #[.pointer (some ⟨Bf, 0, none⟩), .pointer (some ⟨Bi, 0, none⟩)], .int .i64 (x.1.val : Int), u15, u16, u17, u18, u19, u20, u21, u22, u23, u24, u25, u26], []⟩) (fun x a' s W W' row hs hg hr => hs) ?assign ?body ?done ?stop
  case assign =>
    rintro lr pre x W K hi2 hK
    have hfin : K ⟨#[u0, u1, .pointer (some ⟨b2, 0, none⟩), .pointer (some ⟨b3, 0, none⟩), .int .i64 (x.1.val : Int), u5, u6, u7, u8, u9, u10, u11, u12, .func (.func 141) #[] #[.pointer (some ⟨Bf, 0, none⟩), .pointer (some ⟨Bi, 0, none⟩)], .int .i64 (x.1.val : Int), u15, u16, u17, u18, u19, u20, u21, u22, u23, u24, u25, u26], []⟩ W := hK _ _ (KeepsFrom.refl _ _) (KeepsC.refl _ _) hi2 rfl
    have HF := Lib.hid hfin
    clear hfin hK
    gi_wp2
    exact HF.out
  case body =>
    rintro lr pre x a' W hl ⟨rec, hrec⟩ ⟨hj, hkO⟩ rfl hlen
    obtain ⟨r, hr⟩ := Option.isSome_iff_exists.1 x.2
    have q2 := hkO.blk HV.out.1 (hnot _ hge.1)
    have q3 := hkO.blk HV.out.2.1 (hnot _ hge.2.1)
    obtain ⟨o, o1, o2, o3, o4⟩ := hkO.read HV.out.2.2.2.2 (hnot _ hge.2.2.1) (hnot _ hge.2.2.2.1)
    obtain ⟨p, p1, p2, p3, p4⟩ := o1.some_ x.1.val r x.1.isLt hr
    obtain ⟨c1, c2⟩ := o2.ref p1
    rw [p4] at c1 c2
    have o2d : RBlk W.drew g gr room o := by obtain ⟨mc, rc, cap, z1, z2, z3⟩ := o2; exact ⟨mc, rc, cap, z1.drew, z2.drew, z3⟩
    have HREF := Lib.hid (rref g gr room o x.1.val p W.drew o2d x.1.isLt p1 o4 p2)
    have e2 : W.cell? ⟨b2, 0, none⟩ = some (.func (.yield l) #[] #[]) := q2.cell 0
    have e3 : W.cell? ⟨b3, 0, none⟩ = some (.pointer (some ⟨g, 0, none⟩)) := q3.cell 0
    have hx0 : (0 : Int) ≤ (x.1.val : Int) := by omega
    have hx1 : (x.1.val : Int) ≤ 255 := by have := x.1.isLt; omega
    have sw : IntKind.u8.wrap (x.1.val : Int) = (x.1.val : Int) := IntWalk.u8_in _ (by omega)
    have hYk : ∀ k, YieldAt Fence.wide 7 Tryz.prog l #[.int .u8 (x.1.val : Int), .agg #[.int .i64 r.1, .int .u32 r.2]] (W.drewN (1 + k)) (fun e W' => ∃ bb : Bool, e = .returned (.bool bb) ∧ Hid (KeepsFrom V.heap.size W W' ∧ (bb = true → KeepsC (fun k => B ≤ k ∧ k < V.heap.size) W W' ∧ J ((pre ++ [x]).map kidB) W' ∧ KeepsO own V W') ∧ (bb = false → Jx ((pre ++ [x]).map kidB) W'))) := fun k => by
      have hjd : J (pre.map kidB) (W.drewN (1 + k)) := HOI.out.1 _ W _ none hj ⟨rfl, rfl, rfl, Nat.le_refl _, fun _ _ _ => rfl⟩ (fun r e => by cases e)
      have hy := yieldAt_wide (m' := 7) (HY.out (pre.map kidB) (kidB x) _ hjd (by rw [List.length_map]; exact hlen))
      rw [show encK (kidB x) = #[.int .u8 (x.1.val : Int), .agg #[.int .i64 r.1, .int .u32 r.2]] by rw [kidB_eq x hr]] at hy
      have hkd : KeepsO own W (W.drewN (1 + k)) := KeepsO.grown hO (Nat.le_trans hB hkO.size) (row := none) ⟨rfl, rfl, rfl, Nat.le_refl _, fun _ _ _ => rfl⟩ (fun r e => by cases e)
      have hfd : KeepsFrom V.heap.size W (W.drewN (1 + k)) := ⟨Nat.le_refl _, fun _ _ _ h _ => h⟩
      refine hy.mono fun e W' h => ?_
      obtain ⟨hk1, h⟩ := h
      have hkf := hfd.trans (keepsFrom_le hk1 hB0)
      rcases h with ⟨rfl, h1, h2⟩ | ⟨rfl, h1⟩
      · refine ⟨true, rfl, Lib.hid ⟨hkf, fun _ => ⟨⟨(hkd.trans h2).size, fun k o hk h3 h4 => (hkd.trans h2).same k o (fun e => hnot k hk.1 (hkO.mine k hk.2 e)) h3 h4⟩, by rw [List.map_append]; exact h1, hkO.trans (hkd.trans h2)⟩, fun e => by cases e⟩⟩
      · exact ⟨false, rfl, Lib.hid ⟨hkf, fun e => by (cases e), fun _ => by rw [List.map_append]; exact h1⟩⟩
    have HYk := Lib.hid hYk
    have HX := Lib.hid (And.intro hj hkO)
    have hmix : Tryz.prog.follows .mixedOrders = true := by kernel_rfl
    have n1 : 1 ≤ 8 := by decide
    clear o1 o2 o3 o4 o2d p1 p2 p3 p4 hr hj hkO q2 q3 hYk
    gi_wp2_with (fail)
    refine wpIn_region_any hmix (wpAny_inRound lr ?hd _ _ _ _ ?_)
    case hd => exact noDefer (by kernel_rfl)
    refine wpAnyIn_take (i := 1) (v := ?_) rfl rfl (by kernel_rfl) (by kernel_rfl) (by kernel_rfl) (fun _ _ _ h => h) ⟨Or.inl ⟨by rfl, ?_⟩, fun _ => rfl⟩ ?_
    rotate_left
    · (intro w; go_simp <;> with_reducible rfl)
    try simp only [Act.put, List.setIfInBounds_toArray, List.set_cons_zero, List.set_cons_succ]
    refine wpAnyIn_take (i := 2) (v := ?_) rfl rfl (by kernel_rfl) (by kernel_rfl) (by kernel_rfl) (fun _ _ _ h => h) ⟨Or.inl ⟨by rfl, ?_⟩, fun _ => rfl⟩ ?_
    rotate_left
    · (intro w; go_simp <;> with_reducible rfl)
    try simp only [Act.put, List.setIfInBounds_toArray, List.set_cons_zero, List.set_cons_succ]
    refine wpAnyIn_take (i := 6) (v := ?_) rfl rfl (by kernel_rfl) (by kernel_rfl) (by kernel_rfl) (fun _ _ _ h => h) ⟨Or.inl ⟨by rfl, ?_⟩, fun _ => rfl⟩ ?_
    rotate_left
    · (intro w; go_simp <;> with_reducible rfl)
    try simp only [Act.put, List.setIfInBounds_toArray, List.set_cons_zero, List.set_cons_succ]
    refine wpAnyIn_ready (rs := [0, 3]) (by kernel_rfl) (by simp) ?_
    refine AllReadyIn.cons rfl (fun K hK => ?_) ?_
    · go_simp
      refine hK _ _ ?_
      clear hK K
      try simp only [Act.put, List.setIfInBounds_toArray, List.set_cons_zero, List.set_cons_succ]
      refine wpAnyIn_ready (rs := [3]) (by kernel_rfl) (by simp) ?_
      refine AllReadyIn.cons rfl (fun K hK => ?_) ?_
      · go_simp
        refine hK _ _ ?_
        clear hK K
        try simp only [Act.put, List.setIfInBounds_toArray, List.set_cons_zero, List.set_cons_succ]
        refine wpAnyIn_take (i := 4) (v := ?_) rfl rfl (by kernel_rfl) (by kernel_rfl) (by kernel_rfl) (fun _ _ _ h => h) ⟨Or.inl ⟨by rfl, ?_⟩, fun _ => rfl⟩ ?_
        rotate_left
        · (intro w; go_simp <;> with_reducible rfl)
        try simp only [Act.put, List.setIfInBounds_toArray, List.set_cons_zero, List.set_cons_succ]
        refine wpAnyIn_take (i := 5) (v := ?_) rfl rfl (by kernel_rfl) (by kernel_rfl) (by kernel_rfl) (fun _ _ _ h => h) ⟨Or.inl ⟨by rfl, ?_⟩, fun _ => rfl⟩ ?_
        rotate_left
        · (intro w; go_simp <;> with_reducible rfl)
        try simp only [Act.put, List.setIfInBounds_toArray, List.set_cons_zero, List.set_cons_succ]
        refine wpAnyIn_ready (rs := [7]) (by kernel_rfl) (by simp) ?_
        refine AllReadyIn.cons rfl (fun K hK => ?_) ?_
        · go_simp
          refine ⟨trivial, ?_⟩
          refine (callsIn_wide.2 HREF.out).mono ?_
          rintro e w3 ⟨rfl, k, rfl⟩
          obtain ⟨fn, tmps, assign, body, hy, hR⟩ := HYk.out k
          refine hK _ _ ?_
          clear hK K
          try simp only [Act.put, List.setIfInBounds_toArray, List.set_cons_zero, List.set_cons_succ]
          refine wpAnyIn_take (i := 8) (v := ?_) rfl rfl (by kernel_rfl) (by kernel_rfl) (by kernel_rfl) (fun _ _ _ h => h) ⟨Or.inl ⟨by rfl, ?_⟩, fun _ => rfl⟩ ?_
          rotate_left
          · (intro w; go_simp <;> with_reducible rfl)
          try simp only [Act.put, List.setIfInBounds_toArray, List.set_cons_zero, List.set_cons_succ]
          refine wpAnyIn_ready (rs := [9]) (by kernel_rfl) (by simp) ?_
          refine AllReadyIn.cons rfl (fun K hK => ?_) ?_
          · go_simp
            refine hK _ _ ?_
            clear hK K
            try simp only [Act.put, List.setIfInBounds_toArray, List.set_cons_zero, List.set_cons_succ]
            refine wpAnyIn_ready (rs := [10]) (by kernel_rfl) (by simp) ?_
            refine AllReadyIn.cons rfl (fun K hK => ?_) ?_
            · go_simp
              refine hR.mono ?_
              rintro e W3 ⟨bb, rfl, hP⟩
              clear hy hR
              refine hK _ _ ?_
              clear hK K
              try simp only [Act.put, List.setIfInBounds_toArray, List.set_cons_zero, List.set_cons_succ]
              refine wpAnyIn_take (i := 11) (v := ?_) rfl rfl (by kernel_rfl) (by kernel_rfl) (by kernel_rfl) (fun _ _ _ h => h) ⟨Or.inl ⟨by rfl, ?_⟩, fun _ => rfl⟩ ?_
              rotate_left
              · (intro w; go_simp <;> with_reducible rfl)
              try simp only [Act.put, List.setIfInBounds_toArray, List.set_cons_zero, List.set_cons_succ]
              refine wpAnyIn_done (by kernel_rfl) ?_ _
              refine (‹∀ (a : Act) (w : World), Code.wpIn _ _ _ (Code.cond _ _ _) _ a w → _› _ _ ?_)
              cases bb with
              | true =>
                have HP := Lib.hid (And.intro hP.out.1 (hP.out.2.1 rfl))
                clear hP
                gi_wp2
                exact ⟨HP.out.1, HP.out.2.1, HP.out.2.2⟩
              | false =>
                have HP := Lib.hid (And.intro hP.out.1 (hP.out.2.2 rfl))
                clear hP
                gi_wp2
                exact ⟨HP.out.1, rfl, HP.out.2⟩
            exact AllReadyIn.nil
          exact AllReadyIn.nil
        exact AllReadyIn.nil
      exact AllReadyIn.nil
    refine AllReadyIn.cons rfl (fun K hK => ?_) ?_
    · go_simp
      refine hK _ _ ?_
      clear hK K
      try simp only [Act.put, List.setIfInBounds_toArray, List.set_cons_zero, List.set_cons_succ]
      refine wpAnyIn_take (i := 4) (v := ?_) rfl rfl (by kernel_rfl) (by kernel_rfl) (by kernel_rfl) (fun _ _ _ h => h) ⟨Or.inl ⟨by rfl, ?_⟩, fun _ => rfl⟩ ?_
      rotate_left
      · (intro w; go_simp <;> with_reducible rfl)
      try simp only [Act.put, List.setIfInBounds_toArray, List.set_cons_zero, List.set_cons_succ]
      refine wpAnyIn_take (i := 5) (v := ?_) rfl rfl (by kernel_rfl) (by kernel_rfl) (by kernel_rfl) (fun _ _ _ h => h) ⟨Or.inl ⟨by rfl, ?_⟩, fun _ => rfl⟩ ?_
      rotate_left
      · (intro w; go_simp <;> with_reducible rfl)
      try simp only [Act.put, List.setIfInBounds_toArray, List.set_cons_zero, List.set_cons_succ]
      refine wpAnyIn_ready (rs := [0, 7]) (by kernel_rfl) (by simp) ?_
      refine AllReadyIn.cons rfl (fun K hK => ?_) ?_
      · go_simp
        refine hK _ _ ?_
        clear hK K
        try simp only [Act.put, List.setIfInBounds_toArray, List.set_cons_zero, List.set_cons_succ]
        refine wpAnyIn_ready (rs := [7]) (by kernel_rfl) (by simp) ?_
        refine AllReadyIn.cons rfl (fun K hK => ?_) ?_
        · go_simp
          refine ⟨trivial, ?_⟩
          refine (callsIn_wide.2 HREF.out).mono ?_
          rintro e w3 ⟨rfl, k, rfl⟩
          obtain ⟨fn, tmps, assign, body, hy, hR⟩ := HYk.out k
          refine hK _ _ ?_
          clear hK K
          try simp only [Act.put, List.setIfInBounds_toArray, List.set_cons_zero, List.set_cons_succ]
          refine wpAnyIn_take (i := 8) (v := ?_) rfl rfl (by kernel_rfl) (by kernel_rfl) (by kernel_rfl) (fun _ _ _ h => h) ⟨Or.inl ⟨by rfl, ?_⟩, fun _ => rfl⟩ ?_
          rotate_left
          · (intro w; go_simp <;> with_reducible rfl)
          try simp only [Act.put, List.setIfInBounds_toArray, List.set_cons_zero, List.set_cons_succ]
          refine wpAnyIn_ready (rs := [9]) (by kernel_rfl) (by simp) ?_
          refine AllReadyIn.cons rfl (fun K hK => ?_) ?_
          · go_simp
            refine hK _ _ ?_
            clear hK K
            try simp only [Act.put, List.setIfInBounds_toArray, List.set_cons_zero, List.set_cons_succ]
            refine wpAnyIn_ready (rs := [10]) (by kernel_rfl) (by simp) ?_
            refine AllReadyIn.cons rfl (fun K hK => ?_) ?_
            · go_simp
              refine hR.mono ?_
              rintro e W3 ⟨bb, rfl, hP⟩
              clear hy hR
              refine hK _ _ ?_
              clear hK K
              try simp only [Act.put, List.setIfInBounds_toArray, List.set_cons_zero, List.set_cons_succ]
              refine wpAnyIn_take (i := 11) (v := ?_) rfl rfl (by kernel_rfl) (by kernel_rfl) (by kernel_rfl) (fun _ _ _ h => h) ⟨Or.inl ⟨by rfl, ?_⟩, fun _ => rfl⟩ ?_
              rotate_left
              · (intro w; go_simp <;> with_reducible rfl)
              try simp only [Act.put, List.setIfInBounds_toArray, List.set_cons_zero, List.set_cons_succ]
              refine wpAnyIn_done (by kernel_rfl) ?_ _
              refine (‹∀ (a : Act) (w : World), Code.wpIn _ _ _ (Code.cond _ _ _) _ a w → _› _ _ ?_)
              cases bb with
              | true =>
                have HP := Lib.hid (And.intro hP.out.1 (hP.out.2.1 rfl))
                clear hP
                gi_wp2
                exact ⟨HP.out.1, HP.out.2.1, HP.out.2.2⟩
              | false =>
                have HP := Lib.hid (And.intro hP.out.1 (hP.out.2.2 rfl))
                clear hP
                gi_wp2
                exact ⟨HP.out.1, rfl, HP.out.2⟩
            exact AllReadyIn.nil
          exact AllReadyIn.nil
        exact AllReadyIn.nil
      refine AllReadyIn.cons rfl (fun K hK => ?_) ?_
      · go_simp
        refine ⟨trivial, ?_⟩
        refine (callsIn_wide.2 HREF.out).mono ?_
        rintro e w3 ⟨rfl, k, rfl⟩
        obtain ⟨fn, tmps, assign, body, hy, hR⟩ := HYk.out k
        refine hK _ _ ?_
        clear hK K
        try simp only [Act.put, List.setIfInBounds_toArray, List.set_cons_zero, List.set_cons_succ]
        refine wpAnyIn_take (i := 8) (v := ?_) rfl rfl (by kernel_rfl) (by kernel_rfl) (by kernel_rfl) (fun _ _ _ h => h) ⟨Or.inl ⟨by rfl, ?_⟩, fun _ => rfl⟩ ?_
        rotate_left
        · (intro w; go_simp <;> with_reducible rfl)
        try simp only [Act.put, List.setIfInBounds_toArray, List.set_cons_zero, List.set_cons_succ]
        refine wpAnyIn_ready (rs := [0, 9]) (by kernel_rfl) (by simp) ?_
        refine AllReadyIn.cons rfl (fun K hK => ?_) ?_
        · go_simp
          refine hK _ _ ?_
          clear hK K
          try simp only [Act.put, List.setIfInBounds_toArray, List.set_cons_zero, List.set_cons_succ]
          refine wpAnyIn_ready (rs := [9]) (by kernel_rfl) (by simp) ?_
          refine AllReadyIn.cons rfl (fun K hK => ?_) ?_
          · go_simp
            refine hK _ _ ?_
            clear hK K
            try simp only [Act.put, List.setIfInBounds_toArray, List.set_cons_zero, List.set_cons_succ]
            refine wpAnyIn_ready (rs := [10]) (by kernel_rfl) (by simp) ?_
            refine AllReadyIn.cons rfl (fun K hK => ?_) ?_
            · go_simp
              refine hR.mono ?_
              rintro e W3 ⟨bb, rfl, hP⟩
              clear hy hR
              refine hK _ _ ?_
              clear hK K
              try simp only [Act.put, List.setIfInBounds_toArray, List.set_cons_zero, List.set_cons_succ]
              refine wpAnyIn_take (i := 11) (v := ?_) rfl rfl (by kernel_rfl) (by kernel_rfl) (by kernel_rfl) (fun _ _ _ h => h) ⟨Or.inl ⟨by rfl, ?_⟩, fun _ => rfl⟩ ?_
              rotate_left
              · (intro w; go_simp <;> with_reducible rfl)
              try simp only [Act.put, List.setIfInBounds_toArray, List.set_cons_zero, List.set_cons_succ]
              refine wpAnyIn_done (by kernel_rfl) ?_ _
              refine (‹∀ (a : Act) (w : World), Code.wpIn _ _ _ (Code.cond _ _ _) _ a w → _› _ _ ?_)
              cases bb with
              | true =>
                have HP := Lib.hid (And.intro hP.out.1 (hP.out.2.1 rfl))
                clear hP
                gi_wp2
                exact ⟨HP.out.1, HP.out.2.1, HP.out.2.2⟩
              | false =>
                have HP := Lib.hid (And.intro hP.out.1 (hP.out.2.2 rfl))
                clear hP
                gi_wp2
                exact ⟨HP.out.1, rfl, HP.out.2⟩
            exact AllReadyIn.nil
          exact AllReadyIn.nil
        refine AllReadyIn.cons rfl (fun K hK => ?_) ?_
        · go_simp
          refine hK _ _ ?_
          clear hK K
          try simp only [Act.put, List.setIfInBounds_toArray, List.set_cons_zero, List.set_cons_succ]
          refine wpAnyIn_ready (rs := [0]) (by kernel_rfl) (by simp) ?_
          refine AllReadyIn.cons rfl (fun K hK => ?_) ?_
          · go_simp
            refine hK _ _ ?_
            clear hK K
            try simp only [Act.put, List.setIfInBounds_toArray, List.set_cons_zero, List.set_cons_succ]
            refine wpAnyIn_ready (rs := [10]) (by kernel_rfl) (by simp) ?_
            refine AllReadyIn.cons rfl (fun K hK => ?_) ?_
            · go_simp
              refine hR.mono ?_
              rintro e W3 ⟨bb, rfl, hP⟩
              clear hy hR
              refine hK _ _ ?_
              clear hK K
              try simp only [Act.put, List.setIfInBounds_toArray, List.set_cons_zero, List.set_cons_succ]
              refine wpAnyIn_take (i := 11) (v := ?_) rfl rfl (by kernel_rfl) (by kernel_rfl) (by kernel_rfl) (fun _ _ _ h => h) ⟨Or.inl ⟨by rfl, ?_⟩, fun _ => rfl⟩ ?_
              rotate_left
              · (intro w; go_simp <;> with_reducible rfl)
              try simp only [Act.put, List.setIfInBounds_toArray, List.set_cons_zero, List.set_cons_succ]
              refine wpAnyIn_done (by kernel_rfl) ?_ _
              refine (‹∀ (a : Act) (w : World), Code.wpIn _ _ _ (Code.cond _ _ _) _ a w → _› _ _ ?_)
              cases bb with
              | true =>
                have HP := Lib.hid (And.intro hP.out.1 (hP.out.2.1 rfl))
                clear hP
                gi_wp2
                exact ⟨HP.out.1, HP.out.2.1, HP.out.2.2⟩
              | false =>
                have HP := Lib.hid (And.intro hP.out.1 (hP.out.2.2 rfl))
                clear hP
                gi_wp2
                exact ⟨HP.out.1, rfl, HP.out.2⟩
            exact AllReadyIn.nil
          exact AllReadyIn.nil
        exact AllReadyIn.nil
      exact AllReadyIn.nil
    exact AllReadyIn.nil
  case done =>
    rintro D xs W hD hxs ⟨h1, h2⟩ hk
    rw [hxs, show (max (0 : Int) 0).toNat = 0 from rfl, bytesF_kids] at h1
    exact HQ.out.1 D W hD h1 hk
  case stop =>
    rintro D c pre W hD hsp ⟨rfl, hx⟩ hk
    rw [show (max (0 : Int) 0).toNat = 0 from rfl] at hsp
    have hp : pre.map kidB <+: kidsF f := by rw [← bytesF_kids]; exact hsp.map _
    have HF := Lib.hid (HQ.out.2 D (pre.map kidB) W hD hp hx hk)
    gi_wp2
    exact HF.out
/-- All's value: a closure over a box. -/
theorem All_m (p : Option Addr) (w : World) : Calls Tryz.prog 124 #[.pointer p] w fun e w' => e = .returned (.func (.func 131) #[] #[.pointer (some ⟨w.heap.size, 0, none⟩)]) ∧ w' = w.alloc (.cells #[.pointer p] 91) := by
  go_enter Tryz.func124, Tryz.ntmps124
  go_wp2
  go_ret
  exact ⟨rfl, rfl⟩
theorem am_end {W V : World} {J : List Kid → World → Prop} {xs : List Kid} {D : Nat} (hJ : OwnFrom W.heap.size J) (hj : J xs V) (hD : W.heap.size ≤ D) (hd : V.heap[D]? = some (.deferred (some []))) : J xs (V.putObj D (.deferred none)) := hJ.putObj (.deferred none) hj hD hd rfl
set_option maxHeartbeats 3200000 in
set_option maxRecDepth 100000 in
theorem all_m_stops (Bs g gr gu room n B0 : Nat) (own : World → Nat → Prop) (f : Kids) (w : World) (hO : Owns w.heap.size own) (hlt : ∀ k, own w k → k < w.heap.size) (hc : w.cell? ⟨Bs, 0, none⟩ = some (.pointer (some ⟨g, 0, none⟩))) (hf : ManyAt w g gr gu room f) :
    SeqStopsO Fence.wide n Tryz.prog 131 #[.pointer (some ⟨Bs, 0, none⟩)] encK (KeepsO own) (fun ys => ys = kidsF f) (fun pre => pre <+: kidsF f) 256 w B0 := fun l J Jx W hW hsz hJ hJx hY h0 => by
  have hBs : Bs < w.heap.size := World.block_lt_of_cell? w _ hc
  have hc1 := (hW.cell (p := ⟨Bs, 0, none⟩) hBs).trans hc
  have hc2 : (W.alloc (.cells #[.func (.yield l) #[] #[]] 144)).cell? ⟨Bs, 0, none⟩ = some (.pointer (some ⟨g, 0, none⟩)) := (((Below.refl _ W).alloc (Nat.le_refl _) _).cell (p := ⟨Bs, 0, none⟩) (Nat.lt_of_lt_of_le hBs hW.size)).trans hc1
  have HC := Lib.hid (Copy_m g gr gu room f (W.alloc (.cells #[.func (.yield l) #[] #[]] 144)) ((hf.below hW).below (below_box W _)))
  have HJ := Lib.hid (And.intro hJ (And.intro hJx (And.intro hY h0)))
  have HW := Lib.hid (And.intro hW (And.intro hsz (And.intro hO hlt)))
  clear hJ hJx hY h0 hf hc hc1 hlt hO hsz hW
  refine (callsIn_wide (n := n)).2 ((callsIn_wide (n := 10)).1 (callsIn_of_wp_marks Tryz.func131 rfl trivial (wpIn_wide.2 ?_) rfl))
  simp only [Tryz.ntmps131, List.size_toArray, List.length_cons, List.length_nil, Nat.reduceAdd, Nat.reduceSub, Array.replicate_succ, Array.replicate_zero, List.push_toArray, List.append_toArray, List.nil_append, List.cons_append]
  refine wp_seq_k fun K0 hK => ?_
  have HK0 := Lib.hid hK
  clear hK
  go_wp2_with fail
  refine HK0.out _ _ ?_
  clear HK0
  refine wp_seq_k fun K1 hK => ?_
  have HK1 := Lib.hid hK
  clear hK
  go_wp2_with fail
  refine HC.out.mono ?_
  rintro e w2 ⟨g', gr', rfl, hR, hg1, hg2, hb⟩
  have HB := Lib.hid (And.intro hR (And.intro hg1 (And.intro hg2 hb)))
  clear hR hg1 hg2 hb HC hc2
  go_wp2_with fail
  refine HK1.out _ _ ?_
  clear HK1
  have k3 := Blk.new w2 91 #[.pointer (some ⟨g', 0, none⟩)]
  have e3 := k3.cell 0
  simp at e3
  refine wp_seq_k fun K2 hK => ?_
  have HK2 := Lib.hid hK
  clear hK
  go_wp2_with fail
  refine HK2.out _ _ ?_
  clear HK2
  refine wp_seq_k fun K3 hK => ?_
  have HK3 := Lib.hid hK
  clear hK
  go_wp2_with fail
  refine (bytes_any 0 (.func (.func 134) #[.pointer (some ⟨g', 0, none⟩)] #[]) ⟨_, _, _, rfl⟩ (w2.alloc (.cells #[.pointer (some ⟨g', 0, none⟩)] 91))).mono ?_
  rintro e w3 ⟨rfl, rfl⟩
  go_wp2_with fail
  refine HK3.out _ _ ?_
  clear HK3 e3
  obtain ⟨hR, hg1, hg2, hb⟩ := HB.out
  obtain ⟨hW, hsz, hO, hlt⟩ := HW.out
  obtain ⟨hJ, hJx, hY, h0⟩ := HJ.out
  have hwW : w.heap.size ≤ W.heap.size := hW.size
  have b1 : Below W.heap.size W w2 := (below_box W _).trans (hb.mono (by simp))
  have b2 := b1.alloc b1.size (.cells #[.pointer (some ⟨g', 0, none⟩)] 91)
  have b3 := b2.alloc b2.size (.cells #[.int .i64 0] 3)
  have b4 := b3.alloc b3.size (.cells #[.func (.func 134) #[.pointer (some ⟨g', 0, none⟩)] #[]] 155)
  have z1 := b1.size
  have q2 := ((((Blk.new W 144 #[.func (.yield l) #[] #[]]).below hb (by simp)).alloc (.cells #[.pointer (some ⟨g', 0, none⟩)] 91)).alloc (.cells #[.int .i64 0] 3)).alloc (.cells #[.func (.func 134) #[.pointer (some ⟨g', 0, none⟩)] #[]] 155)
  have q3 := (k3.alloc (.cells #[.int .i64 0] 3)).alloc (.cells #[.func (.func 134) #[.pointer (some ⟨g', 0, none⟩)] #[]] 155)
  have q4 := (Blk.new (w2.alloc (.cells #[.pointer (some ⟨g', 0, none⟩)] 91)) 3 #[.int .i64 0]).alloc (.cells #[.func (.func 134) #[.pointer (some ⟨g', 0, none⟩)] #[]] 155)
  have q5 := Blk.new ((w2.alloc (.cells #[.pointer (some ⟨g', 0, none⟩)] 91)).alloc (.cells #[.int .i64 0] 3)) 155 #[.func (.func 134) #[.pointer (some ⟨g', 0, none⟩)] #[]]
  rw [show (w2.alloc (.cells #[.pointer (some ⟨g', 0, none⟩)] 91)).heap.size = w2.heap.size + 1 by simp] at q4
  rw [show ((w2.alloc (.cells #[.pointer (some ⟨g', 0, none⟩)] 91)).alloc (.cells #[.int .i64 0] 3)).heap.size = w2.heap.size + 2 by simp] at q5
  have r1 : Below w2.heap.size w2 _ := (((Below.refl _ w2).alloc (Nat.le_refl _) (.cells #[.pointer (some ⟨g', 0, none⟩)] 91)).alloc (by simp) (.cells #[.int .i64 0] 3)).alloc (by simp; omega) (.cells #[.func (.func 134) #[.pointer (some ⟨g', 0, none⟩)] #[]] 155)
  have hRV := hR.below r1
  simp only [World.size_alloc] at hg1 hg2
  have hj4 := hJ [] W _ none h0 (World.grownBy_of_below b4) (fun r e => by cases e)
  have hown : ∀ k, w.heap.size ≤ k → ¬ own (((w2.alloc (.cells #[.pointer (some ⟨g', 0, none⟩)] 91)).alloc (.cells #[.int .i64 0] 3)).alloc (.cells #[.func (.func 134) #[.pointer (some ⟨g', 0, none⟩)] #[]] 155)) k := by
    intro k hk e
    have e1 := hO.back W _ none k hwW (World.grownBy_of_below b4) (fun r e => by cases e) e
    have e2 := hO.back w W none k (Nat.le_refl _) (World.grownBy_of_below hW) (fun r e => by cases e) e1
    have := hlt k e2
    omega
  have hlo : W.heap.size ≤ (((w2.alloc (.cells #[.pointer (some ⟨g', 0, none⟩)] 91)).alloc (.cells #[.int .i64 0] 3)).alloc (.cells #[.func (.func 134) #[.pointer (some ⟨g', 0, none⟩)] #[]] 155)).heap.size := b4.size
  clear b1 b2 b3 b4 r1 k3
  generalize ((w2.alloc (.cells #[.pointer (some ⟨g', 0, none⟩)] 91)).alloc (.cells #[.int .i64 0] 3)).alloc (.cells #[.func (.func 134) #[.pointer (some ⟨g', 0, none⟩)] #[]] 155) = V at q2 q3 q4 q5 hRV hj4 hown hlo ⊢
  have mono : ∀ {J' : List Kid → World → Prop}, OwnFrom W.heap.size J' → OwnFrom V.heap.size J' := fun hJ' s A B row hs hg hr => hJ' s A B row hs hg (fun r e => ⟨Nat.le_trans hlo (hr r e).1, (hr r e).2⟩)
  refine am_loop W.heap.size w2.heap.size g' gr' room (w2.heap.size + 1) (w2.heap.size + 2) w.heap.size B0 l (n - 1) own J Jx f V hO (Nat.le_trans hwW hlo) hown (mono hJ) (mono hJx) ⟨hwW, by omega, by omega, by omega, by omega, by omega⟩ q2 q3 q4 q5 hRV (Nat.le_trans hsz hlo) hY hj4 ?_ ?_
  · intro D X hD hj hd
    refine ⟨by simp, .inl ⟨_, _, rfl, run_takeDeferred hd, ?_⟩⟩
    exact ⟨_, results_none rfl _ _ _, ⟨_, rfl⟩, .inl ⟨_, rfl, am_end hJ hj (Nat.le_trans hlo hD) hd⟩⟩
  · intro D pre X hD hp hj hd
    refine ⟨by simp, .inl ⟨_, _, rfl, run_takeDeferred hd, ?_⟩⟩
    exact ⟨_, results_none rfl _ _ _, ⟨_, rfl⟩, .inr ⟨_, hp, am_end hJx hj (Nat.le_trans hlo hD) hd⟩⟩
end Go.Proofs.YtgjgcbemgmkncaaGreatDoor
namespace Go.Proofs.YtgjgcbemgmkncaaGreatDoor
open Go.RowKit Go.Shelf
set_option linter.unusedVariables false
set_option linter.unusedSimpArgs false

/-- A node. -/
structure Nd where
  kind : Int
  code : ByteArray
  value : ByteArray
  path : ByteArray
  bytes : List Nat
  kids : List (Int × Int)
def Nd.v (x : Nd) (Ab : Option Addr) (cb : Nat) (Ak : Option Addr) (ck : Nat) : Value := .agg #[.int .i64 x.kind, .string x.code, .string x.value, .string x.path, .slice Ab x.bytes.length cb, .slice Ak x.kids.length ck]
/-- Its numbers are those of their kinds. -/
structure Nd.wf (x : Nd) : Prop where
  kind : -9223372036854775808 ≤ x.kind ∧ x.kind ≤ 9223372036854775807
  bytes : ∀ b ∈ x.bytes, b < 256
  refs : ∀ r ∈ x.kids, (-9223372036854775808 ≤ r.1 ∧ r.1 ≤ 9223372036854775807) ∧ 0 ≤ r.2 ∧ r.2 ≤ 4294967295
  lb : x.bytes.length ≤ 9223372036854775807
  lk : x.kids.length ≤ 9223372036854775807
  lc : x.code.size ≤ 9223372036854775807
  lv : x.value.size ≤ 9223372036854775807
  lp : x.path.size ≤ 9223372036854775807
/-- V is the node x in the world W. -/
def NdAt (W : World) (x : Nd) (V : Value) : Prop := x.wf ∧ ∃ Ab cb Ak ck, V = x.v Ab cb Ak ck ∧ Reads W W.heap.size 1 Ab x.bytes.length (x.bytes.flatMap nrow) ∧ Reads W W.heap.size 2 Ak x.kids.length (x.kids.flatMap rrow)
theorem NdAt.below {W W' : World} {x : Nd} {V : Value} (h : NdAt W x V) (hb : Below W.heap.size W W') : NdAt W' x V := by
  obtain ⟨h0, Ab, cb, Ak, ck, h1, h2, h3⟩ := h
  exact ⟨h0, Ab, cb, Ak, ck, h1, (h2.below hb).more hb.size, (h3.below hb).more hb.size⟩
/-- The table of rooms. -/
def RoomsAt (W : World) : Prop := W.cell? ⟨0, 0, none⟩ = some (.int .i64 0) ∧ W.cell? ⟨0, 1, none⟩ = some (.int .i64 0) ∧ W.cell? ⟨0, 2, none⟩ = some (.int .i64 4) ∧ W.cell? ⟨0, 3, none⟩ = some (.int .i64 16) ∧ W.cell? ⟨0, 4, none⟩ = some (.int .i64 48) ∧ W.cell? ⟨0, 5, none⟩ = some (.int .i64 256)
theorem RoomsAt.lt {W : World} (h : RoomsAt W) : 0 < W.heap.size := World.block_lt_of_cell? W _ h.1
theorem RoomsAt.below {n : Nat} {W W' : World} (h : RoomsAt W) (hb : Below n W W') (hn : 0 < n) : RoomsAt W' := by
  obtain ⟨h0, h1, h2, h3, h4, h5⟩ := h
  exact ⟨(hb.cell hn).trans h0, (hb.cell hn).trans h1, (hb.cell hn).trans h2, (hb.cell hn).trans h3, (hb.cell hn).trans h4, (hb.cell hn).trans h5⟩
theorem RoomsAt.on {W W' : World} (h : RoomsAt W) (hb : Below W.heap.size W W') : RoomsAt W' := h.below hb h.lt

def roomN (k : Int) : Int := if k = 2 then 4 else if k = 3 then 16 else if k = 4 then 48 else if k = 5 then 256 else 0
def ofN (n : Int) : Int × Bool := if n < 0 then (0, false) else if n ≤ 4 then (2, true) else if n ≤ 16 then (3, true) else if n ≤ 48 then (4, true) else if n ≤ 256 then (5, true) else (0, false)
def kidN (r : Int × Int) : Bool := decide (0 ≤ r.1) && decide (r.1 < 4096) && decide (1 ≤ r.2)
def risingN : List Nat → Bool
  | a :: b :: l => decide (a < b) && risingN (b :: l)
  | _ => true
def Nd.leafN (x : Nd) : Bool := decide (x.kind = 1)
def Nd.innerN (x : Nd) : Bool := decide (0 < roomN x.kind)
def Nd.bareN (x : Nd) : Bool := x.code.toList.isEmpty && x.value.toList.isEmpty && decide ((x.path.size : Int) ≤ 34)
def Nd.pairedN (x : Nd) : Bool := decide (x.bytes.length = x.kids.length) && decide (x.kids.length ≤ 256)
def Nd.risingN (x : Nd) : Bool := YtgjgcbemgmkncaaGreatDoor.risingN x.bytes
def Nd.refsN (x : Nd) : Bool := x.kids.all kidN
def Nd.manyN (x : Nd) : Bool := decide (1 < x.kids.length)
def Nd.fitsN (x : Nd) : Bool := decide ((ofN x.kids.length).1 = x.kind)
def Nd.topN (x : Nd) : Bool := decide (x.kind = 5) && x.path.toList.isEmpty
def Nd.emptyN (x : Nd) : Bool := x.path.toList.isEmpty && decide (x.bytes.length = 0) && decide (x.kids.length = 0)
def Nd.isInner (x : Nd) : Bool := x.innerN && x.bareN && x.pairedN && x.risingN && x.refsN
def Nd.isRight (x : Nd) : Bool := x.isInner && x.manyN && x.fitsN
def Nd.isAnchor (x : Nd) : Bool := x.isInner && x.topN
def Nd.may (x : Nd) : Bool := x.isRight || x.isAnchor
end Go.Proofs.YtgjgcbemgmkncaaGreatDoor
namespace Go.Proofs.YtgjgcbemgmkncaaGreatDoor
open Go.RowKit Go.Shelf
set_option linter.unusedVariables false
set_option linter.unusedSimpArgs false

theorem room_n (k : Int) (w : World) (h : RoomsAt w) : Calls Tryz.prog 11 #[.int .i64 k] w (StayEnd (.int .i64 (roomN k)) w) := by
  by_cases h0 : k < 0
  · have e : roomN k = 0 := by unfold roomN; repeat (rw [if_neg (by omega)])
    rw [e]
    clear h e
    go_enter Tryz.func11, Tryz.ntmps11
    go_wp2
    go_ret
    exact ⟨rfl, rfl⟩
  · by_cases h6 : 6 ≤ k
    · have e : roomN k = 0 := by unfold roomN; repeat (rw [if_neg (by omega)])
      have h6b : k ≥ 6 := h6
      rw [e]
      clear h e
      go_enter Tryz.func11, Tryz.ntmps11
      go_wp2
      go_ret
      exact ⟨rfl, rfl⟩
    · have hk : k = 0 ∨ k = 1 ∨ k = 2 ∨ k = 3 ∨ k = 4 ∨ k = 5 := by omega
      obtain ⟨c0, c1, c2, c3, c4, c5⟩ := h
      clear h0 h6
      rcases hk with rfl | rfl | rfl | rfl | rfl | rfl <;>
      · go_enter Tryz.func11, Tryz.ntmps11
        go_wp2
        go_ret
        exact ⟨rfl, rfl⟩
theorem kid_n (r : Int × Int) (w : World) : Calls Tryz.prog 39 #[refV r] w (BoolEnd (kidN r) w) := by
  obtain ⟨s, g⟩ := r
  unfold refV
  dsimp only
  by_cases h0 : 0 ≤ s
  · by_cases h1 : s < 4096
    · by_cases h2 : 1 ≤ g
      · have e : kidN (s, g) = true := by simp [kidN, h0, h1, h2]
        rw [e]; clear e
        go_enter Tryz.func39, Tryz.ntmps39
        go_wp2
        go_ret
        exact ⟨rfl, (Below.refl _ _).alloc (Nat.le_refl _) _⟩
      · have e : kidN (s, g) = false := by simp [kidN, h0, h1, h2]
        rw [e]; clear e
        go_enter Tryz.func39, Tryz.ntmps39
        go_wp2
        go_ret
        exact ⟨rfl, (Below.refl _ _).alloc (Nat.le_refl _) _⟩
    · have e : kidN (s, g) = false := by simp [kidN, h0, h1]
      rw [e]; clear e
      go_enter Tryz.func39, Tryz.ntmps39
      go_wp2
      go_ret
      exact ⟨rfl, (Below.refl _ _).alloc (Nat.le_refl _) _⟩
  · have e : kidN (s, g) = false := by simp [kidN, h0]
    rw [e]; clear e
    go_enter Tryz.func39, Tryz.ntmps39
    go_wp2
    go_ret
    exact ⟨rfl, (Below.refl _ _).alloc (Nat.le_refl _) _⟩
def OfEnd (p : Int × Bool) (w : World) (e : Ending) (w' : World) : Prop := e = .returned (.tuple #[.int .i64 p.1, .bool p.2]) ∧ w' = w
theorem of_n (n : Int) (w : World) (h : RoomsAt w) : Calls Tryz.prog 7 #[.int .i64 n] w (OfEnd (ofN n) w) := by
  have H := Lib.hid h
  clear h
  by_cases h0 : 0 ≤ n
  · have h0' : n ≥ 0 := h0
    go_enter Tryz.func7, Tryz.ntmps7
    go_wp2_with fail
    go_loop [4] (fun k => ∃ j : Nat, 2 ≤ j ∧ j ≤ 6 ∧ k = .int .i64 j ∧ (j = 2 ∨ roomN ((j : Int) - 1) < n)) (fun k => 6 - (intOf k).toNat)
    case atStart => exact ⟨2, by omega, by omega, rfl, .inl rfl⟩
    case round =>
      obtain ⟨j, hj2, hj6, rfl, hlo⟩ := hrel
      by_cases hlt : j ≤ 5
      · have hjc : (j : Int) ≤ 5 := by omega
        have HR := Lib.hid (room_n (j : Int) w H.out)
        obtain ⟨q, hq⟩ : ∃ q, roomN (j : Int) = q := ⟨_, rfl⟩
        rw [hq] at HR
        have HQ := Lib.hid hq
        have HLO := Lib.hid hlo
        clear hq hlo
        by_cases hle : n ≤ q
        · have E : Hid (ofN n = ((j : Int), true)) := Lib.hid (by
            have hq := HQ.out
            have hlo := HLO.out
            have hj : j = 2 ∨ j = 3 ∨ j = 4 ∨ j = 5 := by omega
            unfold roomN at hq hlo
            unfold ofN
            rcases hj with rfl | rfl | rfl | rfl <;> simp at hq hlo <;> subst hq <;> (repeat' split) <;> first | rfl | omega)
          go_wp2_with fail
          refine HR.out.mono ?_
          rintro e w1 ⟨rfl, rfl⟩
          go_wp2
          go_ret2
          rw [E.out]
          exact ⟨rfl, rfl⟩
        · have hgt : q < n := by omega
          have HG : Hid (roomN (((j + 1 : Nat) : Int) - 1) < n) := Lib.hid (by rw [show ((j + 1 : Nat) : Int) - 1 = (j : Int) by omega, HQ.out]; exact hgt)
          go_wp2_with fail
          refine HR.out.mono ?_
          rintro e w1 ⟨rfl, rfl⟩
          go_wp2
          go_round
          case rel => exact ⟨j + 1, by omega, by omega, by go_num, .inr HG.out⟩
          case measure => simp [intOf]; omega
      · obtain rfl : j = 6 := by omega
        have E : Hid (ofN n = (0, false)) := Lib.hid (by
          rcases hlo with h | h
          · omega
          · have : roomN (((6 : Nat) : Int) - 1) = 256 := rfl
            rw [this] at h
            unfold ofN
            rw [if_neg (by omega), if_neg (by omega), if_neg (by omega), if_neg (by omega), if_neg (by omega)])
        have hn : ¬ (((6 : Nat) : Int) ≤ 5) := by omega
        clear hlo
        go_wp2
        go_ret2
        rw [E.out]
        exact ⟨rfl, rfl⟩
  · have h0' : ¬ n ≥ 0 := h0
    have E : Hid (ofN n = (0, false)) := Lib.hid (by unfold ofN; rw [if_pos (by omega)])
    go_enter Tryz.func7, Tryz.ntmps7
    go_wp2_with fail
    go_loop [4] (fun k => k = .int .i64 2) (fun k => 6 - (intOf k).toNat)
    case atStart => rfl
    case round =>
      obtain rfl := hrel
      go_wp2
      go_ret2
      rw [E.out]
      exact ⟨rfl, rfl⟩
end Go.Proofs.YtgjgcbemgmkncaaGreatDoor
namespace Go.Proofs.YtgjgcbemgmkncaaGreatDoor
open Go.RowKit Go.Shelf
set_option linter.unusedVariables false
set_option linter.unusedSimpArgs false

theorem leaf_n (x : Nd) (V : Value) (w : World) (h : NdAt w x V) : Calls Tryz.prog 62 #[V] w (BoolEnd x.leafN w) := by
  obtain ⟨_, Ab, cb, Ak, ck, rfl, _, _⟩ := h
  unfold Nd.v
  go_enter Tryz.func62, Tryz.ntmps62
  go_wp2
  go_ret
  exact ⟨ret_bool (by rw [Bool.eq_iff_iff]; simp [Nd.leafN]; try omega), (Below.refl _ _).alloc (Nat.le_refl _) _⟩
theorem many_n (x : Nd) (V : Value) (w : World) (h : NdAt w x V) : Calls Tryz.prog 66 #[V] w (BoolEnd x.manyN w) := by
  obtain ⟨_, Ab, cb, Ak, ck, rfl, _, _⟩ := h
  unfold Nd.v
  go_enter Tryz.func66, Tryz.ntmps66
  go_wp2
  go_ret
  exact ⟨ret_bool (by rw [Bool.eq_iff_iff]; simp [Nd.manyN]; try omega), (Below.refl _ _).alloc (Nat.le_refl _) _⟩
theorem top_n (x : Nd) (V : Value) (w : World) (h : NdAt w x V) : Calls Tryz.prog 68 #[V] w (BoolEnd x.topN w) := by
  obtain ⟨_, Ab, cb, Ak, ck, rfl, _, _⟩ := h
  unfold Nd.v
  by_cases h1 : x.kind = 5
  · go_enter Tryz.func68, Tryz.ntmps68
    go_wp2
    go_ret
    exact ⟨ret_bool (by rw [Bool.eq_iff_iff]; simp [Nd.topN, h1]; try omega), (Below.refl _ _).alloc (Nat.le_refl _) _⟩
  · go_enter Tryz.func68, Tryz.ntmps68
    go_wp2
    go_ret
    exact ⟨ret_bool (by rw [Bool.eq_iff_iff]; simp [Nd.topN, h1]; try omega), (Below.refl _ _).alloc (Nat.le_refl _) _⟩
theorem bare_n (x : Nd) (V : Value) (w : World) (h : NdAt w x V) : Calls Tryz.prog 78 #[V] w (BoolEnd x.bareN w) := by
  obtain ⟨_, Ab, cb, Ak, ck, rfl, _, _⟩ := h
  unfold Nd.v
  cases hc : x.code.toList.isEmpty with
  | false =>
    go_enter Tryz.func78, Tryz.ntmps78
    go_wp2
    go_ret
    exact ⟨ret_bool (by rw [Bool.eq_iff_iff]; simp [Nd.bareN, hc]; try omega), (Below.refl _ _).alloc (Nat.le_refl _) _⟩
  | true =>
    cases hv : x.value.toList.isEmpty with
    | false =>
      go_enter Tryz.func78, Tryz.ntmps78
      go_wp2
      go_ret
      exact ⟨ret_bool (by rw [Bool.eq_iff_iff]; simp [Nd.bareN, hc, hv]; try omega), (Below.refl _ _).alloc (Nat.le_refl _) _⟩
    | true =>
      go_enter Tryz.func78, Tryz.ntmps78
      go_wp2
      go_ret
      exact ⟨ret_bool (by rw [Bool.eq_iff_iff]; simp [Nd.bareN, hc, hv]; try omega), (Below.refl _ _).alloc (Nat.le_refl _) _⟩
theorem paired_n (x : Nd) (V : Value) (w : World) (h : NdAt w x V) : Calls Tryz.prog 79 #[V] w (BoolEnd x.pairedN w) := by
  obtain ⟨_, Ab, cb, Ak, ck, rfl, _, _⟩ := h
  unfold Nd.v
  by_cases hl : x.bytes.length = x.kids.length
  · have hb : ((x.bytes.length : Int) == (x.kids.length : Int)) = true := by simp [hl]
    have HL := Lib.hid hl
    clear hl
    go_enter Tryz.func79, Tryz.ntmps79
    go_wp2
    go_ret
    exact ⟨ret_bool (by rw [Bool.eq_iff_iff]; simp [Nd.pairedN, HL.out]; try omega), (Below.refl _ _).alloc (Nat.le_refl _) _⟩
  · have hb : ((x.bytes.length : Int) == (x.kids.length : Int)) = false := by simp; omega
    go_enter Tryz.func79, Tryz.ntmps79
    go_wp2
    go_ret
    exact ⟨ret_bool (by rw [Bool.eq_iff_iff]; simp [Nd.pairedN, hl]; try omega), (Below.refl _ _).alloc (Nat.le_refl _) _⟩
theorem empty_n (x : Nd) (V : Value) (w : World) (h : NdAt w x V) : Calls Tryz.prog 64 #[V] w (BoolEnd x.emptyN w) := by
  obtain ⟨_, Ab, cb, Ak, ck, rfl, _, _⟩ := h
  unfold Nd.v
  cases hc : x.path.toList.isEmpty with
  | false =>
    go_enter Tryz.func64, Tryz.ntmps64
    go_wp2
    go_ret
    exact ⟨ret_bool (by rw [Bool.eq_iff_iff]; simp [Nd.emptyN, hc]; try omega), (Below.refl _ _).alloc (Nat.le_refl _) _⟩
  | true =>
    by_cases hl : x.bytes.length = 0
    · have hb : ((x.bytes.length : Int) == 0) = true := by simp [hl]
      have HL := Lib.hid hl
      clear hl
      go_enter Tryz.func64, Tryz.ntmps64
      go_wp2
      go_ret
      exact ⟨ret_bool (by rw [Bool.eq_iff_iff]; simp [Nd.emptyN, hc, HL.out]; try omega), (Below.refl _ _).alloc (Nat.le_refl _) _⟩
    · have hb : ((x.bytes.length : Int) == 0) = false := by rw [beq_eq_false_iff_ne]; omega
      go_enter Tryz.func64, Tryz.ntmps64
      go_wp2
      go_ret
      exact ⟨ret_bool (by rw [Bool.eq_iff_iff]; simp [Nd.emptyN, hc, hl]; try omega), (Below.refl _ _).alloc (Nat.le_refl _) _⟩
theorem inner_n (x : Nd) (V : Value) (w : World) (h : NdAt w x V) (hr : RoomsAt w) : Calls Tryz.prog 77 #[V] w (BoolEnd x.innerN w) := by
  obtain ⟨_, Ab, cb, Ak, ck, rfl, _, _⟩ := h
  unfold Nd.v
  have HR := Lib.hid (room_n x.kind (w.alloc (.cells #[.int .i64 x.kind, .string x.code, .string x.value, .string x.path, .slice Ab x.bytes.length cb, .slice Ak x.kids.length ck] 61)) (hr.on (below_box w _)))
  go_enter Tryz.func77, Tryz.ntmps77
  go_wp2_with fail
  refine HR.out.mono ?_
  rintro e w1 ⟨rfl, rfl⟩
  go_wp2
  go_ret
  exact ⟨ret_bool (by rw [Bool.eq_iff_iff]; simp [Nd.innerN]; try omega), (Below.refl _ _).alloc (Nat.le_refl _) _⟩
theorem fits_n (x : Nd) (V : Value) (w : World) (h : NdAt w x V) (hr : RoomsAt w) : Calls Tryz.prog 67 #[V] w (BoolEnd x.fitsN w) := by
  obtain ⟨_, Ab, cb, Ak, ck, rfl, _, _⟩ := h
  unfold Nd.v
  have HR := Lib.hid (of_n x.kids.length (w.alloc (.cells #[.int .i64 x.kind, .string x.code, .string x.value, .string x.path, .slice Ab x.bytes.length cb, .slice Ak x.kids.length ck] 61)) (hr.on (below_box w _)))
  obtain ⟨p, hp⟩ : ∃ p, ofN x.kids.length = p := ⟨_, rfl⟩
  rw [hp] at HR
  have HP := Lib.hid hp
  clear hp
  go_enter Tryz.func67, Tryz.ntmps67
  go_wp2_with fail
  refine HR.out.mono ?_
  rintro e w1 ⟨rfl, rfl⟩
  go_wp2
  go_ret
  exact ⟨ret_bool (by rw [Nd.fitsN, HP.out, Bool.eq_iff_iff]; simp), (Below.refl _ _).alloc (Nat.le_refl _) _⟩
end Go.Proofs.YtgjgcbemgmkncaaGreatDoor
namespace Go.Proofs.YtgjgcbemgmkncaaGreatDoor
open Go.RowKit Go.Shelf
set_option linter.unusedVariables false
set_option linter.unusedSimpArgs false

theorem rising_iff : ∀ l : List Nat, risingN l = true ↔ ∀ m, (h : m + 1 < l.length) → l[m] < l[m + 1]
  | [] => by simp [risingN]
  | [a] => by simp [risingN]
  | a :: b :: l => by
    have ih := rising_iff (b :: l)
    unfold risingN
    rw [Bool.and_eq_true, ih]
    constructor
    · rintro ⟨h1, h2⟩ m hm
      cases m with
      | zero => simpa using h1
      | succ m => exact h2 m (by simpa using hm)
    · intro h
      exact ⟨by simpa using h 0 (by simp), fun m hm => h (m + 1) (by simpa using hm)⟩
theorem rising_no {l : List Nat} {m : Nat} (h : m + 1 < l.length) (hle : l[m + 1] ≤ l[m]) : risingN l = false := by
  cases hr : risingN l with
  | false => rfl
  | true => have := (rising_iff l).1 hr m h; omega
set_option maxHeartbeats 1600000 in
theorem rising_n (x : Nd) (V : Value) (w : World) (h : NdAt w x V) : Calls Tryz.prog 80 #[V] w (BoolEnd x.risingN w) := by
  obtain ⟨hwf, Ab, cb, Ak, ck, rfl, hb, _⟩ := h
  have hlen := hwf.lb
  have HB := Lib.hid (And.intro hb hwf.bytes)
  obtain ⟨l, hl⟩ : ∃ l, l = x.bytes := ⟨_, rfl⟩
  unfold Nd.v Nd.risingN
  rw [← hl] at HB hlen ⊢
  clear hwf hb hl
  go_enter Tryz.func80, Tryz.ntmps80
  go_wp2_with fail
  have HW0 := Lib.hid (below_box w (.cells #[.int .i64 x.kind, .string x.code, .string x.value, .string x.path, .slice Ab l.length cb, .slice Ak x.kids.length ck] 61))
  have q0 := Blk.new w 61 #[.int .i64 x.kind, .string x.code, .string x.value, .string x.path, .slice Ab l.length cb, .slice Ak x.kids.length ck]
  generalize w.alloc (.cells #[.int .i64 x.kind, .string x.code, .string x.value, .string x.path, .slice Ab l.length cb, .slice Ak x.kids.length ck] 61) = w1 at HW0 q0 ⊢
  have e4 := q0.cell 4
  simp at e4
  clear q0
  go_loopw [3] (fun i wr => ∃ m : Nat, i = .int .i64 ((m : Int) + 1) ∧ (m = 0 ∨ m + 1 ≤ l.length) ∧ (∀ j, j < m → (h : j + 1 < l.length) → l[j] < l[j + 1]) ∧ ∃ n, wr = w1.drewN n) (fun i _ => l.length + 1 - (intOf i).toNat)
  case atStart => exact ⟨0, rfl, .inl rfl, fun j h => by omega, 0, rfl⟩
  case round =>
    obtain ⟨m, rfl, hm, hlo, n, rfl⟩ := hrel
    have HLO := Lib.hid hlo
    clear hlo
    by_cases hlt : m + 1 < l.length
    · obtain ⟨ad, rfl, hab, c1⟩ := byte_at HB.out.1 (k := m + 1) hlt
      obtain ⟨ad', e', _, c0⟩ := byte_at HB.out.1 (k := m) (by omega)
      obtain rfl := Option.some.inj e'
      have d1 : w1.cell? (ad.add (m + 1)) = some (.int .u8 (l[m + 1] : Int)) := (HW0.out.cell (p := ad.add (m + 1)) (by rw [block_of_add]; exact hab)).trans c1
      have d0 : w1.cell? (ad.add m) = some (.int .u8 (l[m] : Int)) := (HW0.out.cell (p := ad.add m) (by rw [block_of_add]; exact hab)).trans c0
      rw [show ad.add (m + 1) = ⟨ad.block, ad.off + (m + 1), none⟩ by simp [Addr.add]] at d1
      have HN := Lib.hid (fun h : l[m + 1] ≤ l[m] => rising_no hlt h)
      have HY : Hid (l[m] < l[m + 1] → ∀ j, j < m + 1 → (h : j + 1 < l.length) → l[j] < l[j + 1]) := Lib.hid (fun hh j hj h => by
        by_cases e : j = m
        · subst e; exact hh
        · exact HLO.out j (by omega) h)
      generalize l[m + 1] = b1 at d1 HN HY
      generalize l[m] = b0 at d0 HN HY
      have i1 : (0 : Int) ≤ (m : Int) + 1 := by omega
      have i2 : ((m : Int) + 1).toNat = m + 1 := by omega
      have i3 : (m : Int) + 1 < (l.length : Int) := by omega
      have i4 : (m : Int) < (l.length : Int) := by omega
      have i5 : (0 : Int) ≤ (m : Int) := by omega
      have sw : IntKind.i64.wrap ((m : Int) + 1 - 1) = (m : Int) := by rw [show (m : Int) + 1 - 1 = (m : Int) by omega]; exact IntWalk.i64_in _ (by omega)
      have sw2 : IntKind.i64.wrap (m : Int) = (m : Int) := IntWalk.i64_in _ (by omega)
      clear c1 c0 e' HLO
      by_cases hle : b1 ≤ b0
      · have hlb : (b1 : Int) ≤ (b0 : Int) := by omega
        have E := Lib.hid (HN.out hle)
        clear HN HY hle
        go_wp2_with fail
        go_quiet (fail)
        go_wp2
        go_ret
        exact ⟨ret_bool E.out.symm, below_drewN (below_drewN HW0.out _) _⟩
      · have hlb : ¬ ((b1 : Int) ≤ (b0 : Int)) := by omega
        have E := Lib.hid (HY.out (by omega))
        clear HN HY hle
        go_wp2_with fail
        go_quiet (fail)
        go_wp2
        go_roundw
        case rel => exact ⟨m + 1, by go_num, .inr (by omega), E.out, _, rfl⟩
        case measure => simp [intOf]; omega
    · have i3 : ¬ ((m : Int) + 1 < (l.length : Int)) := by omega
      have E : Hid (risingN l = true) := Lib.hid ((rising_iff l).2 (fun j hj => HLO.out j (by omega) hj))
      clear HLO
      go_wp2
      go_ret
      exact ⟨ret_bool E.out.symm, below_drewN HW0.out _⟩
end Go.Proofs.YtgjgcbemgmkncaaGreatDoor
namespace Go.Proofs.YtgjgcbemgmkncaaGreatDoor
open Go.RowKit Go.Shelf
set_option linter.unusedVariables false
set_option linter.unusedSimpArgs false

theorem ref_at {w : World} {B k : Nat} {A : Option Addr} {l : List (Int × Int)} (h : Reads w B 2 A l.length (l.flatMap rrow)) (hk : k < l.length) : ∃ ad, A = some ad ∧ ad.block < B ∧ w.cell? (ad.add (k * 2)) = some (.int .i64 (l[k]).1) ∧ w.cell? (ad.add (k * 2 + 1)) = some (.int .u32 (l[k]).2) := by
  obtain ⟨ad, e, hb, hc⟩ := h.2 (by omega)
  obtain ⟨h1, h2⟩ := flatR_at l k l[k] (by simp [hk])
  exact ⟨ad, e, hb, hc _ _ h1, hc _ _ h2⟩
theorem refs1_n (r : Int × Int) (w : World) : Calls Tryz.prog 87 #[refV r] w (BoolEnd (!(kidN r)) w) := by
  have HK := Lib.hid (kid_n r (w.alloc (.cells #[.int .i64 r.1, .int .u32 r.2] 29)))
  unfold refV at HK ⊢
  go_enter Tryz.func87, Tryz.ntmps87
  go_wp2_with fail
  refine HK.out.mono ?_
  rintro e w1 ⟨rfl, hb⟩
  have HB := Lib.hid ((below_box w (.cells #[.int .i64 r.1, .int .u32 r.2] 29)).trans (hb.mono (by simp)))
  clear hb HK
  go_wp2
  go_ret
  exact ⟨rfl, HB.out⟩
def IxEnd (found : Bool) (w : World) (e : Ending) (w' : World) : Prop := ∃ i : Int, e = .returned (.int .i64 i) ∧ (decide (0 ≤ i) = found) ∧ Below w.heap.size w w'
set_option maxHeartbeats 1600000 in
theorem ixrefs_n (l : List (Int × Int)) (A : Option Addr) (c : Nat) (w : World) (hA : Reads w w.heap.size 2 A l.length (l.flatMap rrow)) (hl : l.length ≤ 9223372036854775807) : Calls Tryz.prog 90 #[.slice A l.length c, .func (.func 87) #[] #[]] w (IxEnd (!(l.all kidN)) w) := by
  have HA := Lib.hid hA
  clear hA
  go_enter Tryz.func90, Tryz.ntmps90
  go_wp2_with fail
  go_loopw [8] (fun i wr => ∃ k : Nat, k ≤ l.length ∧ i = .int .i64 k ∧ Hid ((∀ j, j < k → (h : j < l.length) → kidN l[j] = true) ∧ Below w.heap.size w wr)) (fun i _ => l.length - (intOf i).toNat)
  case atStart => exact ⟨0, Nat.zero_le _, rfl, Lib.hid ⟨fun j h => by omega, Below.refl _ _⟩⟩
  case round =>
    obtain ⟨k, hk, rfl, HW⟩ := hrel
    by_cases hlt : k < l.length
    · obtain ⟨ad, rfl, hab, c0, c1⟩ := ref_at HA.out hlt
      have d0 : wr.cell? (ad.add (k * 2)) = some (.int .i64 (l[k]).1) := (HW.out.2.cell (p := ad.add (k * 2)) (by rw [block_of_add]; exact hab)).trans c0
      have d1 : wr.cell? (ad.add (k * 2 + 1)) = some (.int .u32 (l[k]).2) := (HW.out.2.cell (p := ad.add (k * 2 + 1)) (by rw [block_of_add]; exact hab)).trans c1
      have d1a : wr.cell? ⟨(ad.add (k * 2)).block, (ad.add (k * 2)).off + 1, none⟩ = some (.int .u32 (l[k]).2) := by
        rw [← d1, block_of_add]; congr 1; simp [Addr.add]; split <;> simp_all <;> omega
      have d1b : wr.cell? ⟨ad.block, (ad.add (k * 2)).off + 1, none⟩ = some (.int .u32 (l[k]).2) := by rw [block_of_add] at d1a; exact d1a
      have HR := Lib.hid (refs1_n l[k] wr)
      have HN : Hid (kidN l[k] = false → l.all kidN = false) := Lib.hid (fun h => by
        rw [List.all_eq_false]; exact ⟨l[k], List.getElem_mem hlt, by simp [h]⟩)
      have HY : Hid (kidN l[k] = true → ∀ j, j < k + 1 → (h : j < l.length) → kidN l[j] = true) := Lib.hid (fun hh j hj h => by
        by_cases e : j = k
        · subst e; exact hh
        · exact HW.out.1 j (by omega) h)
      generalize l[k] = r at d0 d1 d1a d1b HR HN HY
      have i1 : (0 : Int) ≤ (k : Int) := by omega
      have i2 : (k : Int) < (l.length : Int) := by omega
      have i3 : k < l.length := hlt
      clear c0 c1
      unfold refV at HR
      cases hkd : kidN r with
      | false =>
        rw [hkd] at HR
        have E := Lib.hid (HN.out hkd)
        clear HN HY hkd
        go_wp2_with fail
        refine HR.out.mono ?_
        rintro e w1 ⟨rfl, hb⟩
        have HB := Lib.hid (HW.out.2.trans (hb.mono HW.out.2.size))
        clear hb HR
        go_wp2
        go_ret
        exact ⟨_, rfl, by rw [E.out]; simp, HB.out⟩
      | true =>
        rw [hkd] at HR
        have E := Lib.hid (HY.out hkd)
        clear HN HY hkd
        go_wp2_with fail
        refine HR.out.mono ?_
        rintro e w1 ⟨rfl, hb⟩
        have HB := Lib.hid (And.intro E.out (HW.out.2.trans (hb.mono HW.out.2.size)))
        clear hb HR
        go_wp2
        go_roundw
        case rel => exact ⟨k + 1, by omega, by go_num, HB⟩
        case measure => simp [intOf]; omega
    · have i2 : ¬ ((k : Int) < (l.length : Int)) := by omega
      have E : Hid (l.all kidN = true) := Lib.hid (by
        rw [List.all_eq_true]
        intro r hr
        obtain ⟨j, hj, rfl⟩ := List.getElem_of_mem hr
        exact HW.out.1 j (by omega) hj)
      go_wp2
      go_ret
      exact ⟨_, rfl, by rw [E.out]; rfl, HW.out.2⟩
theorem crefs_n (l : List (Int × Int)) (A : Option Addr) (c : Nat) (w : World) (hA : Reads w w.heap.size 2 A l.length (l.flatMap rrow)) (hl : l.length ≤ 9223372036854775807) : Calls Tryz.prog 86 #[.slice A l.length c, .func (.func 87) #[] #[]] w (BoolEnd (!(l.all kidN)) w) := by
  have HI := Lib.hid (ixrefs_n l A c w hA hl)
  clear hA
  generalize (!(l.all kidN)) = b at HI ⊢
  go_enter Tryz.func86, Tryz.ntmps86
  go_wp2_with fail
  refine HI.out.mono ?_
  rintro e w1 ⟨i, rfl, hi, hb⟩
  have H := Lib.hid (And.intro hi hb)
  clear hi hb HI
  go_wp2
  go_ret
  exact ⟨ret_bool (by rw [← H.out.1]), H.out.2⟩
theorem refs_n (x : Nd) (V : Value) (w : World) (h : NdAt w x V) : Calls Tryz.prog 81 #[V] w (BoolEnd x.refsN w) := by
  obtain ⟨hwf, Ab, cb, Ak, ck, rfl, _, hk⟩ := h
  unfold Nd.v
  have HC := Lib.hid (crefs_n x.kids Ak ck (w.alloc (.cells #[.int .i64 x.kind, .string x.code, .string x.value, .string x.path, .slice Ab x.bytes.length cb, .slice Ak x.kids.length ck] 61)) ((hk.below (below_box w _)).more (by simp)) hwf.lk)
  clear hwf hk
  obtain ⟨b, hb⟩ : ∃ b, x.kids.all kidN = b := ⟨_, rfl⟩
  have E : Hid (x.refsN = b) := Lib.hid hb
  rw [hb] at HC
  clear hb
  go_enter Tryz.func81, Tryz.ntmps81
  go_wp2_with fail
  refine HC.out.mono ?_
  rintro e w1 ⟨rfl, hb⟩
  have HB := Lib.hid ((below_box w (.cells #[.int .i64 x.kind, .string x.code, .string x.value, .string x.path, .slice Ab x.bytes.length cb, .slice Ak x.kids.length ck] 61)).trans (hb.mono (by simp)))
  clear hb HC
  go_wp2
  go_ret
  exact ⟨ret_bool (by rw [E.out]; first | done | simp), HB.out⟩

/-! ### all -/
/-- The conditions fs, asked of one value, answer bs (each is asked only where those ahead of it answered yes). -/
def Asks (fs : List Nat) (bs : List Bool) (pv : Value) (P : World → Prop) : Prop :=
  fs.length = bs.length ∧ (∀ f ∈ fs, ∀ args w, (callFunc f args).run Tryz.prog w = .ok (.enter f args) w) ∧ (∀ W W', P W → Below W.heap.size W W' → P W') ∧ ∀ (i f : Nat) (b : Bool), fs[i]? = some f → bs[i]? = some b → (∀ j : Nat, j < i → bs[j]? = some true) → ∀ W, P W → Calls Tryz.prog f #[pv] W (BoolEnd b W)
def closV (pv : Value) (f : Nat) : Value := .func (.func f) #[pv] #[]
theorem notc_n (f : Nat) (pv : Value) (b : Bool) (w : World) (h : Calls Tryz.prog f #[pv] w (BoolEnd b w)) (hf : ∀ args w, (callFunc f args).run Tryz.prog w = .ok (.enter f args) w) : Calls Tryz.prog 75 #[closV pv f] w (BoolEnd (!b) w) := by
  have H := Lib.hid h
  clear h
  unfold closV
  go_enter Tryz.func75, Tryz.ntmps75
  go_wp2_with fail
  refine H.out.mono ?_
  rintro e w1 ⟨rfl, hb⟩
  have HB := Lib.hid hb
  clear hb H hf
  go_wp2
  go_ret
  exact ⟨rfl, HB.out⟩
theorem all_true {bs : List Bool} : bs.all id = true ↔ ∀ j : Nat, j < bs.length → bs[j]? = some true := by
  rw [List.all_eq_true]
  constructor
  · intro h j hj
    have := h bs[j] (List.getElem_mem hj)
    simp at this
    rw [List.getElem?_eq_getElem hj, this]
  · intro h b hb
    obtain ⟨j, hj, rfl⟩ := List.getElem_of_mem hb
    have := h j hj
    rw [List.getElem?_eq_getElem hj] at this
    simpa using this
set_option maxHeartbeats 1600000 in
theorem ixall_n (fs : List Nat) (bs : List Bool) (pv : Value) (P : World → Prop) (hA : Asks fs bs pv P) (s c : Nat) (w : World) (hw : P w) (hs : Blk w s 31 (fs.map (closV pv)).toArray) (hl : fs.length ≤ 9223372036854775807) : Calls Tryz.prog 84 #[.slice (some ⟨s, 0, none⟩) fs.length c, .func (.func 75) #[] #[]] w (IxEnd (!(bs.all id)) w) := by
  have H := Lib.hid (And.intro hA (And.intro hw hs))
  clear hA hw hs
  go_enter Tryz.func84, Tryz.ntmps84
  go_wp2_with fail
  go_loopw [8] (fun i wr => ∃ k : Nat, k ≤ fs.length ∧ i = .int .i64 k ∧ Hid ((∀ j : Nat, j < k → bs[j]? = some true) ∧ P wr ∧ Below w.heap.size w wr)) (fun i _ => fs.length - (intOf i).toNat)
  case atStart => exact ⟨0, Nat.zero_le _, rfl, Lib.hid ⟨fun j h => by omega, H.out.2.1, Below.refl _ _⟩⟩
  case round =>
    obtain ⟨k, hk, rfl, HW⟩ := hrel
    by_cases hlt : k < fs.length
    · obtain ⟨hlen, hent, hst, hask⟩ := H.out.1
      have hbk : bs[k]? = some (bs[k]'(by omega)) := List.getElem?_eq_getElem (by omega)
      have d0 : wr.cell? ⟨s, k, none⟩ = some (closV pv fs[k]) := by
        rw [(H.out.2.2.below HW.out.2.2 H.out.2.2.lt).cell k, List.getElem?_toArray, List.getElem?_map, List.getElem?_eq_getElem hlt]
        rfl
      have HR := Lib.hid (notc_n fs[k] pv _ wr (hask k fs[k] _ (List.getElem?_eq_getElem hlt) hbk HW.out.1 wr HW.out.2.1) (hent fs[k] (List.getElem_mem hlt)))
      have HST := Lib.hid hst
      have HLEN := Lib.hid hlen
      generalize bs[k]'(by omega) = b at hbk HR
      generalize fs[k] = f at d0 HR
      have HBK := Lib.hid hbk
      have i1 : (0 : Int) ≤ (k : Int) := by omega
      have i2 : (k : Int) < (fs.length : Int) := by omega
      have i3 : k < fs.length := hlt
      clear hask hent hst hlen hbk
      unfold closV at d0 HR
      cases b with
      | false =>
        have E : Hid (bs.all id = false) := Lib.hid (by
          rw [← Bool.not_eq_true]
          intro h
          have := (all_true.1 h) k (by have := HLEN.out; omega)
          rw [HBK.out] at this
          simp at this)
        go_wp2_with fail
        refine HR.out.mono ?_
        rintro e w1 ⟨rfl, hb⟩
        have HB := Lib.hid (HW.out.2.2.trans (hb.mono HW.out.2.2.size))
        clear hb HR
        go_wp2
        go_ret
        exact ⟨_, rfl, by rw [E.out]; simp, HB.out⟩
      | true =>
        have E : Hid (∀ j : Nat, j < k + 1 → bs[j]? = some true) := Lib.hid (fun j hj => by
          by_cases e : j = k
          · subst e; exact HBK.out
          · exact HW.out.1 j (by omega))
        go_wp2_with fail
        refine HR.out.mono ?_
        rintro e w1 ⟨rfl, hb⟩
        have HB := Lib.hid (And.intro E.out (And.intro (HST.out _ _ HW.out.2.1 hb) (HW.out.2.2.trans (hb.mono HW.out.2.2.size))))
        clear hb HR
        go_wp2
        go_roundw
        case rel => exact ⟨k + 1, by omega, by go_num, HB⟩
        case measure => simp [intOf]; omega
    · have i2 : ¬ ((k : Int) < (fs.length : Int)) := by omega
      have E : Hid (bs.all id = true) := Lib.hid (all_true.2 fun j hj => HW.out.1 j (by have := H.out.1.1; omega))
      go_wp2
      go_ret
      exact ⟨_, rfl, by rw [E.out]; rfl, HW.out.2.2⟩
theorem all_n (fs : List Nat) (bs : List Bool) (pv : Value) (P : World → Prop) (hA : Asks fs bs pv P) (s c : Nat) (w : World) (hw : P w) (hs : Blk w s 31 (fs.map (closV pv)).toArray) (hl : fs.length ≤ 9223372036854775807) : Calls Tryz.prog 61 #[.slice (some ⟨s, 0, none⟩) fs.length c] w (BoolEnd (bs.all id) w) := by
  have HI := Lib.hid (ixall_n fs bs pv P hA s c w hw hs hl)
  clear hA hw hs
  generalize bs.all id = b at HI ⊢
  have HC : Hid (Calls Tryz.prog 74 #[.slice (some ⟨s, 0, none⟩) fs.length c, .func (.func 75) #[] #[]] w (BoolEnd (!b) w)) := Lib.hid (by
    go_enter Tryz.func74, Tryz.ntmps74
    go_wp2_with fail
    refine HI.out.mono ?_
    rintro e w1 ⟨i, rfl, hi, hb⟩
    have H := Lib.hid (And.intro hi hb)
    clear hi hb HI
    go_wp2
    go_ret
    exact ⟨ret_bool (by rw [← H.out.1]), H.out.2⟩)
  clear HI
  go_enter Tryz.func61, Tryz.ntmps61
  go_wp2_with fail
  refine HC.out.mono ?_
  rintro e w1 ⟨rfl, hb⟩
  have HB := Lib.hid hb
  clear hb HC
  go_wp2
  go_ret
  exact ⟨ret_bool (by simp), HB.out⟩
end Go.Proofs.YtgjgcbemgmkncaaGreatDoor
namespace Go.Proofs.YtgjgcbemgmkncaaGreatDoor
open Go.RowKit Go.Shelf
set_option linter.unusedVariables false
set_option maxRecDepth 20000
set_option linter.unusedSimpArgs false

def NdP (x : Nd) (V : Value) (W : World) : Prop := NdAt W x V ∧ RoomsAt W
theorem ndP_on (x : Nd) (V : Value) (W W' : World) (h : NdP x V W) (hb : Below W.heap.size W W') : NdP x V W' := ⟨h.1.below hb, h.2.on hb⟩
theorem isInner_asks (x : Nd) (V : Value) : Asks [77, 78, 79, 80, 81] [x.innerN, x.bareN, x.pairedN, x.risingN, x.refsN] V (NdP x V) := by
  refine ⟨rfl, ?_, ndP_on x V, ?_⟩
  · intro f hf
    simp only [List.mem_cons, List.not_mem_nil, or_false] at hf
    rcases hf with rfl | rfl | rfl | rfl | rfl <;> first | exact enters_of Tryz.func77 (by kernel_rfl) rfl | exact enters_of Tryz.func78 (by kernel_rfl) rfl | exact enters_of Tryz.func79 (by kernel_rfl) rfl | exact enters_of Tryz.func80 (by kernel_rfl) rfl | exact enters_of Tryz.func81 (by kernel_rfl) rfl
  · intro i f b hf hb hj W hW
    rcases i with _ | _ | _ | _ | _ | i
    · obtain rfl := Option.some.inj hf; obtain rfl := Option.some.inj hb; exact inner_n x V W hW.1 hW.2
    · obtain rfl := Option.some.inj hf; obtain rfl := Option.some.inj hb; exact bare_n x V W hW.1
    · obtain rfl := Option.some.inj hf; obtain rfl := Option.some.inj hb; exact paired_n x V W hW.1
    · obtain rfl := Option.some.inj hf; obtain rfl := Option.some.inj hb; exact rising_n x V W hW.1
    · obtain rfl := Option.some.inj hf; obtain rfl := Option.some.inj hb; exact refs_n x V W hW.1
    · cases hf
set_option maxHeartbeats 1600000 in
theorem isInner_n (x : Nd) (V : Value) (w : World) (h : NdAt w x V) (hr : RoomsAt w) : Calls Tryz.prog 65 #[V] w (BoolEnd x.isInner w) := by
  have h' := h
  obtain ⟨hwf, Ab, cb, Ak, ck, rfl, _, _⟩ := h'
  have b1 := below_box w (.cells #[.int .i64 x.kind, .string x.code, .string x.value, .string x.path, .slice Ab x.bytes.length cb, .slice Ak x.kids.length ck] 61)
  have b2 := b1.alloc b1.size (.cells #[.func (.func 77) #[.agg #[.int .i64 x.kind, .string x.code, .string x.value, .string x.path, .slice Ab x.bytes.length cb, .slice Ak x.kids.length ck]] #[], .func (.func 78) #[.agg #[.int .i64 x.kind, .string x.code, .string x.value, .string x.path, .slice Ab x.bytes.length cb, .slice Ak x.kids.length ck]] #[], .func (.func 79) #[.agg #[.int .i64 x.kind, .string x.code, .string x.value, .string x.path, .slice Ab x.bytes.length cb, .slice Ak x.kids.length ck]] #[], .func (.func 80) #[.agg #[.int .i64 x.kind, .string x.code, .string x.value, .string x.path, .slice Ab x.bytes.length cb, .slice Ak x.kids.length ck]] #[], .func (.func 81) #[.agg #[.int .i64 x.kind, .string x.code, .string x.value, .string x.path, .slice Ab x.bytes.length cb, .slice Ak x.kids.length ck]] #[]] 31)
  have HA := Lib.hid (all_n _ _ _ _ (isInner_asks x (x.v Ab cb Ak ck)) (w.heap.size + 1) 5 _ (ndP_on x _ w _ ⟨h, hr⟩ b2) (by have k := Blk.new (w.alloc (.cells #[.int .i64 x.kind, .string x.code, .string x.value, .string x.path, .slice Ab x.bytes.length cb, .slice Ak x.kids.length ck] 61)) 31 #[.func (.func 77) #[.agg #[.int .i64 x.kind, .string x.code, .string x.value, .string x.path, .slice Ab x.bytes.length cb, .slice Ak x.kids.length ck]] #[], .func (.func 78) #[.agg #[.int .i64 x.kind, .string x.code, .string x.value, .string x.path, .slice Ab x.bytes.length cb, .slice Ak x.kids.length ck]] #[], .func (.func 79) #[.agg #[.int .i64 x.kind, .string x.code, .string x.value, .string x.path, .slice Ab x.bytes.length cb, .slice Ak x.kids.length ck]] #[], .func (.func 80) #[.agg #[.int .i64 x.kind, .string x.code, .string x.value, .string x.path, .slice Ab x.bytes.length cb, .slice Ak x.kids.length ck]] #[], .func (.func 81) #[.agg #[.int .i64 x.kind, .string x.code, .string x.value, .string x.path, .slice Ab x.bytes.length cb, .slice Ak x.kids.length ck]] #[]]; rw [World.size_alloc] at k; exact k) (by simp))
  have HB := Lib.hid b2
  clear b1 b2 h hr hwf
  unfold Nd.v at HA ⊢
  simp only [List.length_cons, List.length_nil, Nat.zero_add, Nat.reduceAdd] at HA
  go_enter Tryz.func65, Tryz.ntmps65
  go_wp2_with fail
  refine HA.out.mono ?_
  rintro e w1 ⟨rfl, hb⟩
  have HE := Lib.hid (HB.out.trans (hb.mono HB.out.size))
  clear hb HA HB
  go_wp2
  go_ret
  exact ⟨ret_bool (by simp [Nd.isInner, Bool.and_assoc]), HE.out⟩
theorem isRight_asks (x : Nd) (V : Value) : Asks [65, 66, 67] [x.isInner, x.manyN, x.fitsN] V (NdP x V) := by
  refine ⟨rfl, ?_, ndP_on x V, ?_⟩
  · intro f hf
    simp only [List.mem_cons, List.not_mem_nil, or_false] at hf
    rcases hf with rfl | rfl | rfl <;> first | exact enters_of Tryz.func65 (by kernel_rfl) rfl | exact enters_of Tryz.func66 (by kernel_rfl) rfl | exact enters_of Tryz.func67 (by kernel_rfl) rfl
  · intro i f b hf hb hj W hW
    rcases i with _ | _ | _ | i
    · obtain rfl := Option.some.inj hf; obtain rfl := Option.some.inj hb; exact isInner_n x V W hW.1 hW.2
    · obtain rfl := Option.some.inj hf; obtain rfl := Option.some.inj hb; exact many_n x V W hW.1
    · obtain rfl := Option.some.inj hf; obtain rfl := Option.some.inj hb; exact fits_n x V W hW.1 hW.2
    · cases hf
set_option maxHeartbeats 1600000 in
theorem isRight_n (x : Nd) (V : Value) (w : World) (h : NdAt w x V) (hr : RoomsAt w) : Calls Tryz.prog 44 #[V] w (BoolEnd x.isRight w) := by
  have h' := h
  obtain ⟨hwf, Ab, cb, Ak, ck, rfl, _, _⟩ := h'
  have b1 := below_box w (.cells #[.int .i64 x.kind, .string x.code, .string x.value, .string x.path, .slice Ab x.bytes.length cb, .slice Ak x.kids.length ck] 61)
  have b2 := b1.alloc b1.size (.cells #[.func (.func 65) #[.agg #[.int .i64 x.kind, .string x.code, .string x.value, .string x.path, .slice Ab x.bytes.length cb, .slice Ak x.kids.length ck]] #[], .func (.func 66) #[.agg #[.int .i64 x.kind, .string x.code, .string x.value, .string x.path, .slice Ab x.bytes.length cb, .slice Ak x.kids.length ck]] #[], .func (.func 67) #[.agg #[.int .i64 x.kind, .string x.code, .string x.value, .string x.path, .slice Ab x.bytes.length cb, .slice Ak x.kids.length ck]] #[]] 31)
  have HA := Lib.hid (all_n _ _ _ _ (isRight_asks x (x.v Ab cb Ak ck)) (w.heap.size + 1) 3 _ (ndP_on x _ w _ ⟨h, hr⟩ b2) (by have k := Blk.new (w.alloc (.cells #[.int .i64 x.kind, .string x.code, .string x.value, .string x.path, .slice Ab x.bytes.length cb, .slice Ak x.kids.length ck] 61)) 31 #[.func (.func 65) #[.agg #[.int .i64 x.kind, .string x.code, .string x.value, .string x.path, .slice Ab x.bytes.length cb, .slice Ak x.kids.length ck]] #[], .func (.func 66) #[.agg #[.int .i64 x.kind, .string x.code, .string x.value, .string x.path, .slice Ab x.bytes.length cb, .slice Ak x.kids.length ck]] #[], .func (.func 67) #[.agg #[.int .i64 x.kind, .string x.code, .string x.value, .string x.path, .slice Ab x.bytes.length cb, .slice Ak x.kids.length ck]] #[]]; rw [World.size_alloc] at k; exact k) (by simp))
  have HB := Lib.hid b2
  clear b1 b2 h hr hwf
  unfold Nd.v at HA ⊢
  simp only [List.length_cons, List.length_nil, Nat.zero_add, Nat.reduceAdd] at HA
  go_enter Tryz.func44, Tryz.ntmps44
  go_wp2_with fail
  refine HA.out.mono ?_
  rintro e w1 ⟨rfl, hb⟩
  have HE := Lib.hid (HB.out.trans (hb.mono HB.out.size))
  clear hb HA HB
  go_wp2
  go_ret
  exact ⟨ret_bool (by simp [Nd.isRight, Bool.and_assoc]), HE.out⟩
theorem isAnchor_asks (x : Nd) (V : Value) : Asks [65, 68] [x.isInner, x.topN] V (NdP x V) := by
  refine ⟨rfl, ?_, ndP_on x V, ?_⟩
  · intro f hf
    simp only [List.mem_cons, List.not_mem_nil, or_false] at hf
    rcases hf with rfl | rfl <;> first | exact enters_of Tryz.func65 (by kernel_rfl) rfl | exact enters_of Tryz.func68 (by kernel_rfl) rfl
  · intro i f b hf hb hj W hW
    rcases i with _ | _ | i
    · obtain rfl := Option.some.inj hf; obtain rfl := Option.some.inj hb; exact isInner_n x V W hW.1 hW.2
    · obtain rfl := Option.some.inj hf; obtain rfl := Option.some.inj hb; exact top_n x V W hW.1
    · cases hf
set_option maxHeartbeats 1600000 in
theorem isAnchor_n (x : Nd) (V : Value) (w : World) (h : NdAt w x V) (hr : RoomsAt w) : Calls Tryz.prog 45 #[V] w (BoolEnd x.isAnchor w) := by
  have h' := h
  obtain ⟨hwf, Ab, cb, Ak, ck, rfl, _, _⟩ := h'
  have b1 := below_box w (.cells #[.int .i64 x.kind, .string x.code, .string x.value, .string x.path, .slice Ab x.bytes.length cb, .slice Ak x.kids.length ck] 61)
  have b2 := b1.alloc b1.size (.cells #[.func (.func 65) #[.agg #[.int .i64 x.kind, .string x.code, .string x.value, .string x.path, .slice Ab x.bytes.length cb, .slice Ak x.kids.length ck]] #[], .func (.func 68) #[.agg #[.int .i64 x.kind, .string x.code, .string x.value, .string x.path, .slice Ab x.bytes.length cb, .slice Ak x.kids.length ck]] #[]] 31)
  have HA := Lib.hid (all_n _ _ _ _ (isAnchor_asks x (x.v Ab cb Ak ck)) (w.heap.size + 1) 2 _ (ndP_on x _ w _ ⟨h, hr⟩ b2) (by have k := Blk.new (w.alloc (.cells #[.int .i64 x.kind, .string x.code, .string x.value, .string x.path, .slice Ab x.bytes.length cb, .slice Ak x.kids.length ck] 61)) 31 #[.func (.func 65) #[.agg #[.int .i64 x.kind, .string x.code, .string x.value, .string x.path, .slice Ab x.bytes.length cb, .slice Ak x.kids.length ck]] #[], .func (.func 68) #[.agg #[.int .i64 x.kind, .string x.code, .string x.value, .string x.path, .slice Ab x.bytes.length cb, .slice Ak x.kids.length ck]] #[]]; rw [World.size_alloc] at k; exact k) (by simp))
  have HB := Lib.hid b2
  clear b1 b2 h hr hwf
  unfold Nd.v at HA ⊢
  simp only [List.length_cons, List.length_nil, Nat.zero_add, Nat.reduceAdd] at HA
  go_enter Tryz.func45, Tryz.ntmps45
  go_wp2_with fail
  refine HA.out.mono ?_
  rintro e w1 ⟨rfl, hb⟩
  have HE := Lib.hid (HB.out.trans (hb.mono HB.out.size))
  clear hb HA HB
  go_wp2
  go_ret
  exact ⟨ret_bool (by simp [Nd.isAnchor, Bool.and_assoc]), HE.out⟩
end Go.Proofs.YtgjgcbemgmkncaaGreatDoor
namespace Go.Proofs.YtgjgcbemgmkncaaGreatDoor
open Go.RowKit Go.Shelf
set_option linter.unusedVariables false
set_option maxRecDepth 20000
set_option linter.unusedSimpArgs false

theorem cells6 {W : World} {g : Nat} {t : TypeId} {v0 v1 v2 v3 v4 v5 : Value} (h : Blk W g t #[v0, v1, v2, v3, v4, v5]) : W.cell? ⟨g, 0, none⟩ = some v0 ∧ W.cell? ⟨g, 1, none⟩ = some v1 ∧ W.cell? ⟨g, 2, none⟩ = some v2 ∧ W.cell? ⟨g, 3, none⟩ = some v3 ∧ W.cell? ⟨g, 4, none⟩ = some v4 ∧ W.cell? ⟨g, 5, none⟩ = some v5 :=
  ⟨h.cell 0, h.cell 1, h.cell 2, h.cell 3, h.cell 4, h.cell 5⟩
set_option maxHeartbeats 1600000 in
theorem may_n (x : Nd) (V : Value) (w : World) (h : NdAt w x V) (hr : RoomsAt w) : Calls Tryz.prog 38 #[V] w (BoolEnd x.may w) := by
  have h' := h
  obtain ⟨hwf, Ab, cb, Ak, ck, rfl, _, _⟩ := h'
  have b1 := below_box w (.cells #[.int .i64 x.kind, .string x.code, .string x.value, .string x.path, .slice Ab x.bytes.length cb, .slice Ak x.kids.length ck] 61)
  have q1 := Blk.new w 61 #[.int .i64 x.kind, .string x.code, .string x.value, .string x.path, .slice Ab x.bytes.length cb, .slice Ak x.kids.length ck]
  have HR := Lib.hid (isRight_n x _ _ (h.below b1) (hr.on b1))
  have HB := Lib.hid (And.intro b1 (And.intro q1 (And.intro h hr)))
  clear b1 q1 h hr hwf
  cases hx : x.isRight with
  | true =>
    rw [hx] at HR
    have E : Hid (x.may = true) := Lib.hid (by unfold Nd.may; rw [hx]; rfl)
    clear hx
    unfold Nd.v at HR HB ⊢
    go_enter Tryz.func38, Tryz.ntmps38
    go_wp2_with fail
    refine HR.out.mono ?_
    rintro e w1 ⟨rfl, hb⟩
    have HE := Lib.hid (HB.out.1.trans (hb.mono HB.out.1.size))
    clear hb HR HB
    go_wp2
    go_ret
    exact ⟨ret_bool (by rw [E.out]), HE.out⟩
  | false =>
    rw [hx] at HR
    have E : Hid (x.may = x.isAnchor) := Lib.hid (by unfold Nd.may; rw [hx]; rfl)
    clear hx
    unfold Nd.v at HR HB ⊢
    go_enter Tryz.func38, Tryz.ntmps38
    go_wp2_with fail
    refine HR.out.mono ?_
    rintro e w1 ⟨rfl, hb⟩
    have hbw := HB.out.1.trans (hb.mono HB.out.1.size)
    have HA := Lib.hid (isAnchor_n x _ w1 (HB.out.2.2.1.below hbw) (HB.out.2.2.2.on hbw))
    unfold Nd.v at HA
    obtain ⟨c0, c1, c2, c3, c4, c5⟩ := cells6 (HB.out.2.1.below hb (by simp))
    have HE := Lib.hid hbw
    clear hb HR HB hbw
    go_wp2_with fail
    refine HA.out.mono ?_
    rintro e w2 ⟨rfl, hb⟩
    have HF := Lib.hid (HE.out.trans (hb.mono HE.out.size))
    clear hb HA HE
    go_wp2
    go_ret
    exact ⟨ret_bool (by rw [E.out]), HF.out⟩
theorem Anchor_n (x : Nd) (V : Value) (w : World) (h : NdAt w x V) (hr : RoomsAt w) : Calls Tryz.prog 20 #[V] w (BoolEnd x.isAnchor w) := by
  have h' := h
  obtain ⟨hwf, Ab, cb, Ak, ck, rfl, _, _⟩ := h'
  have b1 := below_box w (.cells #[.int .i64 x.kind, .string x.code, .string x.value, .string x.path, .slice Ab x.bytes.length cb, .slice Ak x.kids.length ck] 26)
  have HR := Lib.hid (isAnchor_n x _ _ (h.below b1) (hr.on b1))
  have HB := Lib.hid b1
  clear b1 h hr hwf
  unfold Nd.v at HR ⊢
  go_enter Tryz.func20, Tryz.ntmps20
  go_wp2_with fail
  refine HR.out.mono ?_
  rintro e w1 ⟨rfl, hb⟩
  have HE := Lib.hid (HB.out.trans (hb.mono HB.out.size))
  clear hb HR HB
  go_wp2
  go_ret
  exact ⟨rfl, HE.out⟩
theorem isLeaf_asks (x : Nd) (V : Value) (hk : x.kind ≠ 1) : Asks [62, 63, 64] [false, false, false] V (NdP x V) := by
  refine ⟨rfl, ?_, ndP_on x V, ?_⟩
  · intro f hf
    simp only [List.mem_cons, List.not_mem_nil, or_false] at hf
    rcases hf with rfl | rfl | rfl <;> first | exact enters_of Tryz.func62 (by kernel_rfl) rfl | exact enters_of Tryz.func63 (by kernel_rfl) rfl | exact enters_of Tryz.func64 (by kernel_rfl) rfl
  · intro i f b hf hb hj W hW
    rcases i with _ | i
    · obtain rfl := Option.some.inj hf
      obtain rfl := Option.some.inj hb
      have k := leaf_n x V W hW.1
      rw [show x.leafN = false by simp [Nd.leafN, hk]] at k
      exact k
    · have := hj 0 (by omega)
      simp at this
set_option maxHeartbeats 1600000 in
theorem isLeaf_no (x : Nd) (V : Value) (w : World) (h : NdAt w x V) (hr : RoomsAt w) (hk : x.kind ≠ 1) : Calls Tryz.prog 43 #[V] w (BoolEnd false w) := by
  have h' := h
  obtain ⟨hwf, Ab, cb, Ak, ck, rfl, _, _⟩ := h'
  have b1 := below_box w (.cells #[.int .i64 x.kind, .string x.code, .string x.value, .string x.path, .slice Ab x.bytes.length cb, .slice Ak x.kids.length ck] 61)
  have b2 := b1.alloc b1.size (.cells #[.func (.func 62) #[.agg #[.int .i64 x.kind, .string x.code, .string x.value, .string x.path, .slice Ab x.bytes.length cb, .slice Ak x.kids.length ck]] #[], .func (.func 63) #[.agg #[.int .i64 x.kind, .string x.code, .string x.value, .string x.path, .slice Ab x.bytes.length cb, .slice Ak x.kids.length ck]] #[], .func (.func 64) #[.agg #[.int .i64 x.kind, .string x.code, .string x.value, .string x.path, .slice Ab x.bytes.length cb, .slice Ak x.kids.length ck]] #[]] 31)
  have HA := Lib.hid (all_n _ _ _ _ (isLeaf_asks x (x.v Ab cb Ak ck) hk) (w.heap.size + 1) 3 _ (ndP_on x _ w _ ⟨h, hr⟩ b2) (by have k := Blk.new (w.alloc (.cells #[.int .i64 x.kind, .string x.code, .string x.value, .string x.path, .slice Ab x.bytes.length cb, .slice Ak x.kids.length ck] 61)) 31 #[.func (.func 62) #[.agg #[.int .i64 x.kind, .string x.code, .string x.value, .string x.path, .slice Ab x.bytes.length cb, .slice Ak x.kids.length ck]] #[], .func (.func 63) #[.agg #[.int .i64 x.kind, .string x.code, .string x.value, .string x.path, .slice Ab x.bytes.length cb, .slice Ak x.kids.length ck]] #[], .func (.func 64) #[.agg #[.int .i64 x.kind, .string x.code, .string x.value, .string x.path, .slice Ab x.bytes.length cb, .slice Ak x.kids.length ck]] #[]]; rw [World.size_alloc] at k; exact k) (by simp))
  have HB := Lib.hid b2
  clear b1 b2 h hr hwf hk
  unfold Nd.v at HA ⊢
  simp only [List.length_cons, List.length_nil, Nat.zero_add, Nat.reduceAdd] at HA
  go_enter Tryz.func43, Tryz.ntmps43
  go_wp2_with fail
  refine HA.out.mono ?_
  rintro e w1 ⟨rfl, hb⟩
  have HE := Lib.hid (HB.out.trans (hb.mono HB.out.size))
  clear hb HA HB
  go_wp2
  go_ret
  exact ⟨ret_bool (by simp), HE.out⟩
set_option maxHeartbeats 1600000 in
theorem Right_no (x : Nd) (V : Value) (w : World) (h : NdAt w x V) (hr : RoomsAt w) (hk : x.kind ≠ 1) : Calls Tryz.prog 19 #[V] w (BoolEnd x.isRight w) := by
  have h' := h
  obtain ⟨hwf, Ab, cb, Ak, ck, rfl, _, _⟩ := h'
  have b1 := below_box w (.cells #[.int .i64 x.kind, .string x.code, .string x.value, .string x.path, .slice Ab x.bytes.length cb, .slice Ak x.kids.length ck] 26)
  have b2 := b1.alloc b1.size (.cells #[.int .i64 x.kind, .string x.code, .string x.value, .string x.path, .slice Ab x.bytes.length cb, .slice Ak x.kids.length ck] 61)
  have q2 := Blk.new (w.alloc (.cells #[.int .i64 x.kind, .string x.code, .string x.value, .string x.path, .slice Ab x.bytes.length cb, .slice Ak x.kids.length ck] 26)) 61 #[.int .i64 x.kind, .string x.code, .string x.value, .string x.path, .slice Ab x.bytes.length cb, .slice Ak x.kids.length ck]
  have HL := Lib.hid (isLeaf_no x _ _ (h.below b2) (hr.on b2) hk)
  have HB := Lib.hid (And.intro b2 (And.intro q2 (And.intro h hr)))
  clear b1 b2 q2 h hr hwf hk
  unfold Nd.v at HL HB ⊢
  go_enter Tryz.func19, Tryz.ntmps19
  go_wp2_with fail
  refine HL.out.mono ?_
  rintro e w1 ⟨rfl, hb⟩
  have hbw := HB.out.1.trans (hb.mono HB.out.1.size)
  have HA := Lib.hid (isRight_n x _ w1 (HB.out.2.2.1.below hbw) (HB.out.2.2.2.on hbw))
  unfold Nd.v at HA
  obtain ⟨c0, c1, c2, c3, c4, c5⟩ := cells6 (HB.out.2.1.below hb (by simp))
  rw [World.size_alloc] at c0 c1 c2 c3 c4 c5
  have HE := Lib.hid hbw
  clear hb HL HB hbw
  go_wp2_with fail
  refine HA.out.mono ?_
  rintro e w2 ⟨rfl, hb⟩
  have HF := Lib.hid (HE.out.trans (hb.mono HE.out.size))
  clear hb HA HE
  go_wp2
  go_ret
  exact ⟨rfl, HF.out⟩
end Go.Proofs.YtgjgcbemgmkncaaGreatDoor
namespace Go.Proofs.YtgjgcbemgmkncaaGreatDoor
open Go.RowKit Go.Shelf
set_option linter.unusedVariables false
set_option maxRecDepth 20000
set_option linter.unusedSimpArgs false

/-- The row iv, in the blocks bl: room for so many, and the kids f. -/
def RowAt (W : World) (iv : Value) (room : Int) (f : Kids) (bl : List Nat) : Prop :=
  (∃ g, iv = .iface 88 (.pointer (some ⟨g, 0, none⟩)) ∧ bl = [g] ∧ FewAt W g room f) ∨
  (∃ g gr gu n, iv = .iface 91 (.pointer (some ⟨g, 0, none⟩)) ∧ bl = [g, gr, gu] ∧ room = ((n : Nat) : Int) ∧ ManyAt W g gr gu n f)
/-- Whatever lay in other blocks is as it was. -/
structure Kept (bl : List Nat) (W W' : World) : Prop where
  os : W'.os = W.os
  tape : W'.tape = W.tape
  output : W'.output = W.output
  size : W.heap.size ≤ W'.heap.size
  block : ∀ k, k < W.heap.size → k ∉ bl → W'.heap[k]? = W.heap[k]?
theorem Kept.blk {bl : List Nat} {W W' : World} (h : Kept bl W W') {g : Nat} {t : TypeId} {cs : Array Value} (hb : Blk W g t cs) (hg : g ∉ bl) : Blk W' g t cs := (h.block g hb.lt hg).trans hb
theorem below_kept {n : Nat} {bl : List Nat} {w W W' : World} (hb : Below n w W) (h : Kept bl W W') (hn : n ≤ W.heap.size) (hbl : ∀ b ∈ bl, n ≤ b) : Below n w W' :=
  ⟨h.os.trans hb.os, h.tape.trans hb.tape, h.output.trans hb.output, Nat.le_trans hb.size h.size, fun k hk => (h.block k (Nat.lt_of_lt_of_le hk hn) (fun hm => by have := hbl k hm; omega)).trans (hb.block k hk)⟩
theorem kept_grown {W W' : World} {g : Nat} (h : W.grownBy W' (some g)) : Kept [g] W W' := ⟨h.os, h.tape, h.output, h.size, fun k hk hm => h.block k hk (fun e => by injection e with e; exact hm (by simp [e]))⟩
theorem kept_three {W W' : World} {g gr gu : Nat} (h : Three g gr gu W W') : Kept [g, gr, gu] W W' := ⟨h.os, h.tape, h.output, h.size, fun k hk hm => by simp at hm; exact h.block k hk hm.1 hm.2.1 hm.2.2⟩
theorem RowAt.below {W W' : World} {iv : Value} {room : Int} {f : Kids} {bl : List Nat} (h : RowAt W iv room f bl) (hb : Below W.heap.size W W') : RowAt W' iv room f bl := by
  rcases h with ⟨g, h1, h2, h3⟩ | ⟨g, gr, gu, n, h1, h2, h3, h4⟩
  · exact .inl ⟨g, h1, h2, h3.below hb⟩
  · exact .inr ⟨g, gr, gu, n, h1, h2, h3, h4.below hb⟩
def RowNew (room : Int) (w : World) (e : Ending) (w' : World) : Prop := ∃ iv bl, e = .returned iv ∧ RowAt w' iv room noKids bl ∧ (∀ b ∈ bl, w.heap.size ≤ b) ∧ Below w.heap.size w w'
theorem row_4 (w : World) : Calls Tryz.prog 60 #[.int .i64 4] w (RowNew 4 w) := by
  go_enter Tryz.func60, Tryz.ntmps60
  go_wp2_with fail
  refine (new_4 w).mono ?_
  rintro e w1 ⟨g, rfl, hf, hg, hb⟩
  have H := Lib.hid (And.intro hf (And.intro hg hb))
  clear hf hg hb
  go_wp2
  go_ret
  exact ⟨_, [g], rfl, .inl ⟨g, rfl, rfl, H.out.1⟩, by simpa using H.out.2.1, H.out.2.2⟩
theorem row_16 (w : World) : Calls Tryz.prog 60 #[.int .i64 16] w (RowNew 16 w) := by
  go_enter Tryz.func60, Tryz.ntmps60
  go_wp2_with fail
  refine (new_16 w).mono ?_
  rintro e w1 ⟨g, rfl, hf, hg, hb⟩
  have H := Lib.hid (And.intro hf (And.intro hg hb))
  clear hf hg hb
  go_wp2
  go_ret
  exact ⟨_, [g], rfl, .inl ⟨g, rfl, rfl, H.out.1⟩, by simpa using H.out.2.1, H.out.2.2⟩
theorem row_48 (w : World) : Calls Tryz.prog 60 #[.int .i64 48] w (RowNew 48 w) := by
  go_enter Tryz.func60, Tryz.ntmps60
  go_wp2_with fail
  refine (new_no 48 w (by decide) (by decide)).mono ?_
  rintro e w1 ⟨rfl, rfl⟩
  go_wp2_with fail
  refine (New_m 48 w1 (.inl rfl)).mono ?_
  rintro e w2 ⟨g, gr, gu, rfl, hf, hg, hg2, hg3, hb⟩
  have H := Lib.hid (And.intro hf (And.intro hg (And.intro hg2 (And.intro hg3 hb))))
  clear hf hg hg2 hg3 hb
  go_wp2
  go_ret
  exact ⟨_, [g, gr, gu], rfl, .inr ⟨g, gr, gu, 48, rfl, rfl, rfl, H.out.1⟩, by intro b hb; simp at hb; rcases hb with rfl | rfl | rfl <;> simp [H.out.2.1, H.out.2.2.1, H.out.2.2.2.1], H.out.2.2.2.2⟩
theorem row_256 (w : World) : Calls Tryz.prog 60 #[.int .i64 256] w (RowNew 256 w) := by
  go_enter Tryz.func60, Tryz.ntmps60
  go_wp2_with fail
  refine (new_no 256 w (by decide) (by decide)).mono ?_
  rintro e w1 ⟨rfl, rfl⟩
  go_wp2_with fail
  refine (New_m 256 w1 (.inr rfl)).mono ?_
  rintro e w2 ⟨g, gr, gu, rfl, hf, hg, hg2, hg3, hb⟩
  have H := Lib.hid (And.intro hf (And.intro hg (And.intro hg2 (And.intro hg3 hb))))
  clear hf hg hg2 hg3 hb
  go_wp2
  go_ret
  exact ⟨_, [g, gr, gu], rfl, .inr ⟨g, gr, gu, 256, rfl, rfl, rfl, H.out.1⟩, by intro b hb; simp at hb; rcases hb with rfl | rfl | rfl <;> simp [H.out.2.1, H.out.2.2.1, H.out.2.2.2.1], H.out.2.2.2.2⟩
def roomOk (room : Int) : Prop := room = 4 ∨ room = 16 ∨ room = 48 ∨ room = 256
theorem row_n (room : Int) (h : roomOk room) (w : World) : Calls Tryz.prog 60 #[.int .i64 room] w (RowNew room w) := by
  rcases h with rfl | rfl | rfl | rfl
  · exact row_4 w
  · exact row_16 w
  · exact row_48 w
  · exact row_256 w
/-! ### The interface's methods -/
theorem few_Put_na (g : Nat) (W : World) : (nilAhead 263 88 (.pointer (some ⟨g, 0, none⟩)) "Put").run Tryz.prog W = .ok (some false) W := by kernel_rfl
theorem few_Put_me (g : Nat) (W : World) : (method 263 88 (.pointer (some ⟨g, 0, none⟩)) "Put").run Tryz.prog W = .ok (112, .pointer (some ⟨g, 0, none⟩)) W := by kernel_rfl
theorem few_Turn_me (g : Nat) (W : World) : (method 263 88 (.pointer (some ⟨g, 0, none⟩)) "Turn").run Tryz.prog W = .ok (114, .pointer (some ⟨g, 0, none⟩)) W := by kernel_rfl
theorem few_Take_me (g : Nat) (W : World) : (method 263 88 (.pointer (some ⟨g, 0, none⟩)) "Take").run Tryz.prog W = .ok (113, .pointer (some ⟨g, 0, none⟩)) W := by kernel_rfl
theorem few_Find_me (g : Nat) (W : World) : (method 263 88 (.pointer (some ⟨g, 0, none⟩)) "Find").run Tryz.prog W = .ok (109, .pointer (some ⟨g, 0, none⟩)) W := by kernel_rfl
theorem few_All_me (g : Nat) (W : World) : (method 263 88 (.pointer (some ⟨g, 0, none⟩)) "All").run Tryz.prog W = .ok (108, .pointer (some ⟨g, 0, none⟩)) W := by kernel_rfl
theorem few_Next_me (g : Nat) (W : World) : (method 263 88 (.pointer (some ⟨g, 0, none⟩)) "Next").run Tryz.prog W = .ok (111, .pointer (some ⟨g, 0, none⟩)) W := by kernel_rfl
theorem many_Put_na (g : Nat) (W : World) : (nilAhead 263 91 (.pointer (some ⟨g, 0, none⟩)) "Put").run Tryz.prog W = .ok (some false) W := by kernel_rfl
theorem many_Put_me (g : Nat) (W : World) : (method 263 91 (.pointer (some ⟨g, 0, none⟩)) "Put").run Tryz.prog W = .ok (128, .pointer (some ⟨g, 0, none⟩)) W := by kernel_rfl
theorem many_Turn_me (g : Nat) (W : World) : (method 263 91 (.pointer (some ⟨g, 0, none⟩)) "Turn").run Tryz.prog W = .ok (130, .pointer (some ⟨g, 0, none⟩)) W := by kernel_rfl
theorem many_Take_me (g : Nat) (W : World) : (method 263 91 (.pointer (some ⟨g, 0, none⟩)) "Take").run Tryz.prog W = .ok (129, .pointer (some ⟨g, 0, none⟩)) W := by kernel_rfl
theorem many_Find_me (g : Nat) (W : World) : (method 263 91 (.pointer (some ⟨g, 0, none⟩)) "Find").run Tryz.prog W = .ok (125, .pointer (some ⟨g, 0, none⟩)) W := by kernel_rfl
theorem many_All_me (g : Nat) (W : World) : (method 263 91 (.pointer (some ⟨g, 0, none⟩)) "All").run Tryz.prog W = .ok (124, .pointer (some ⟨g, 0, none⟩)) W := by kernel_rfl
theorem many_Next_me (g : Nat) (W : World) : (method 263 91 (.pointer (some ⟨g, 0, none⟩)) "Next").run Tryz.prog W = .ok (127, .pointer (some ⟨g, 0, none⟩)) W := by kernel_rfl
/-- A call by the interface leads to a function, which does this. -/
def RowEndI (v : Value) (iv : Value) (room : Int) (f : Kids) (bl : List Nat) (w : World) (e : Ending) (w' : World) : Prop := e = .returned v ∧ RowAt w' iv room f bl ∧ Kept bl w w'
end Go.Proofs.YtgjgcbemgmkncaaGreatDoor
namespace Go.Proofs.YtgjgcbemgmkncaaGreatDoor
open Go.RowKit Go.Shelf
set_option linter.unusedVariables false
set_option maxRecDepth 20000
set_option linter.unusedSimpArgs false

/-- The kids laid one after the other. -/
def layStep (room : Int) (f : Kids) (p : Nat × (Int × Int)) : Kids := (putK room f p.1 p.2).2
def layK (room : Int) (l : List (Nat × (Int × Int))) : Kids := l.foldl (layStep room) noKids
theorem layK_snoc (room : Int) (l : List (Nat × (Int × Int))) (p : Nat × (Int × Int)) : layK room (l ++ [p]) = layStep room (layK room l) p := by unfold layK; rw [List.foldl_append]; rfl
theorem Kept.trans {bl : List Nat} {W W1 W2 : World} (h : Kept bl W W1) (k : Kept bl W1 W2) : Kept bl W W2 := ⟨k.os.trans h.os, k.tape.trans h.tape, k.output.trans h.output, Nat.le_trans h.size k.size, fun i hi hm => (k.block i (Nat.lt_of_lt_of_le hi h.size) hm).trans (h.block i hi hm)⟩
theorem kept_drew {bl : List Nat} {W W' : World} (h : Kept bl W.drew W') : Kept bl W W' := ⟨h.os, h.tape, h.output, h.size, h.block⟩
def LaidEnd (room : Int) (f : Kids) (w : World) (e : Ending) (w' : World) : Prop := ∃ iv bl, e = .returned iv ∧ RowAt w' iv room f bl ∧ (∀ b ∈ bl, w.heap.size ≤ b) ∧ Below w.heap.size w w'
set_option maxHeartbeats 3200000 in
set_option maxRecDepth 100000 in
theorem laid_n (x : Nd) (V : Value) (room : Int) (w : World) (h : NdAt w x V) (hroom : roomOk room) (hlen : x.bytes.length ≤ x.kids.length) : Calls Tryz.prog 41 #[V, .int .i64 room] w (LaidEnd room (layK room (x.bytes.zip x.kids)) w) := by
  obtain ⟨hwf, Ab, cb, Ak, ck, rfl, hb, hk⟩ := h
  have b1 := below_box w (.cells #[.int .i64 x.kind, .string x.code, .string x.value, .string x.path, .slice Ab x.bytes.length cb, .slice Ak x.kids.length ck] 61)
  have q1 := Blk.new w 61 #[.int .i64 x.kind, .string x.code, .string x.value, .string x.path, .slice Ab x.bytes.length cb, .slice Ak x.kids.length ck]
  have HR := Lib.hid (row_n room hroom (w.alloc (.cells #[.int .i64 x.kind, .string x.code, .string x.value, .string x.path, .slice Ab x.bytes.length cb, .slice Ak x.kids.length ck] 61)))
  have HB := Lib.hid (And.intro b1 (And.intro q1 (And.intro hb (And.intro hk hwf))))
  obtain ⟨lb, hlb⟩ : ∃ lb, lb = x.bytes := ⟨_, rfl⟩
  obtain ⟨lk, hlk⟩ : ∃ lk, lk = x.kids := ⟨_, rfl⟩
  clear b1 q1 hb hk hwf hroom
  unfold Nd.v at HB ⊢
  have HWF := Lib.hid HB.out.2.2.2.2
  go_enter Tryz.func41, Tryz.ntmps41
  go_wp2_with fail
  refine HR.out.mono ?_
  rintro e w1 ⟨iv, bl, rfl, hrow, hbl, hb1⟩
  have hbw := HB.out.1.trans (hb1.mono HB.out.1.size)
  have q1 := HB.out.2.1.below hb1 (by simp)
  have H1 := Lib.hid (And.intro hrow (And.intro hbl (And.intro hbw q1)))
  have e4 := q1.cell 4
  simp at e4
  clear hrow hbl hb1 hbw q1 HR
  go_wp2_with fail
  go_loopw [14] (fun i wr => ∃ k : Nat, k ≤ x.bytes.length ∧ i = .int .i64 k ∧ Hid (RowAt wr iv room (layK room ((x.bytes.zip x.kids).take k)) bl ∧ Below w.heap.size w wr ∧ Kept bl w1 wr)) (fun i _ => x.bytes.length - (intOf i).toNat)
  case atStart => exact ⟨0, Nat.zero_le _, rfl, Lib.hid ⟨H1.out.1, H1.out.2.2.1, ⟨rfl, rfl, rfl, Nat.le_refl _, fun _ _ _ => rfl⟩⟩⟩
  case round =>
    obtain ⟨k, hk, rfl, HW⟩ := hrel
    by_cases hlt : k < x.bytes.length
    · obtain ⟨ad, rfl, hab, c0⟩ := byte_at HB.out.2.2.1 hlt
      obtain ⟨ae, rfl, hae, c1, c2⟩ := ref_at HB.out.2.2.2.1 (k := k) (by omega)
      have d0 : wr.cell? (ad.add k) = some (.int .u8 (x.bytes[k] : Int)) := (HW.out.2.1.cell (p := ad.add k) (by rw [block_of_add]; exact hab)).trans c0
      have d1 : wr.cell? (ae.add (k * 2)) = some (.int .i64 (x.kids[k]).1) := (HW.out.2.1.cell (p := ae.add (k * 2)) (by rw [block_of_add]; exact hae)).trans c1
      have d2 : wr.cell? (ae.add (k * 2 + 1)) = some (.int .u32 (x.kids[k]).2) := (HW.out.2.1.cell (p := ae.add (k * 2 + 1)) (by rw [block_of_add]; exact hae)).trans c2
      have d2a : wr.cell? ⟨(ae.add (k * 2)).block, (ae.add (k * 2)).off + 1, none⟩ = some (.int .u32 (x.kids[k]).2) := by
        rw [← d2, block_of_add]; congr 1; simp [Addr.add]; split <;> simp_all <;> omega
      have d2b : wr.cell? ⟨ae.block, (ae.add (k * 2)).off + 1, none⟩ = some (.int .u32 (x.kids[k]).2) := by rw [block_of_add] at d2a; exact d2a
      have q1 : Blk wr w.heap.size 61 #[.int .i64 x.kind, .string x.code, .string x.value, .string x.path, .slice (some ad) x.bytes.length cb, .slice (some ae) x.kids.length ck] := HW.out.2.2.blk H1.out.2.2.2 (fun hm => by have h1 := H1.out.2.1 _ hm; simp at h1; omega)
      have e5 := q1.cell 5
      simp at e5
      have hmax := HWF.out.lb
      have hb256 := HWF.out.bytes _ (List.getElem_mem hlt)
      have HS : Hid ((x.bytes.zip x.kids).take (k + 1) = (x.bytes.zip x.kids).take k ++ [(x.bytes[k], x.kids[k])]) := Lib.hid (by rw [List.take_succ_eq_append_getElem (by simp; omega)]; simp)
      generalize x.bytes[k] = b at d0 hb256 HS
      generalize x.kids[k] = r at d1 d2 d2a d2b HS
      have i1 : (0 : Int) ≤ (k : Int) := by omega
      have i2 : (k : Int) < (x.bytes.length : Int) := by omega
      have i3 : (k : Int) < (x.kids.length : Int) := by omega
      have i4 : k < x.bytes.length := hlt
      have i5 : k < x.kids.length := by omega
      clear c0 c1 c2 q1 d2
      rcases HW.out.1 with ⟨g, rfl, rfl, hf⟩ | ⟨g, gr, gu, n, rfl, rfl, rfl, hf⟩
      · have HP := Lib.hid (Put_k g room _ b r wr.drew hf.drew hb256)
        have hna := few_Put_na g
        have hme := few_Put_me g
        clear hf
        unfold refV at HP
        go_wp2_with fail
        go_region_with ((refine HP.out.mono ?_; rintro e wn ⟨rfl, hfn, hgn⟩))
        all_goals
          have hkn : Kept [g] wr wn := kept_drew (kept_grown hgn)
          have HN := Lib.hid (And.intro (show RowAt wn _ room _ [g] from .inl ⟨g, rfl, rfl, hfn⟩) (And.intro (below_kept HW.out.2.1 hkn HW.out.2.1.size (fun b hb => by have := H1.out.2.1 b hb; simp at this; omega)) (HW.out.2.2.trans hkn)))
          clear hfn hgn hkn
          go_wp2
          go_roundw
          case rel => exact ⟨k + 1, by omega, by go_num, Lib.hid ⟨by rw [HS.out, layK_snoc]; exact HN.out.1, HN.out.2⟩⟩
          case measure => simp [intOf]; omega
      · have HP := Lib.hid (Put_m g gr gu n _ b r wr.drew hf.drew hb256)
        have hna := many_Put_na g
        have hme := many_Put_me g
        clear hf
        unfold refV at HP
        go_wp2_with fail
        go_region_with ((refine HP.out.mono ?_; rintro e wn ⟨rfl, hfn, hgn⟩))
        all_goals
          have hkn : Kept [g, gr, gu] wr wn := kept_drew (kept_three hgn)
          have HN := Lib.hid (And.intro (show RowAt wn _ (n : Int) _ [g, gr, gu] from .inr ⟨g, gr, gu, n, rfl, rfl, rfl, hfn⟩) (And.intro (below_kept HW.out.2.1 hkn HW.out.2.1.size (fun b hb => by have := H1.out.2.1 b hb; simp at this; omega)) (HW.out.2.2.trans hkn)))
          clear hfn hgn hkn
          go_wp2
          go_roundw
          case rel => exact ⟨k + 1, by omega, by go_num, Lib.hid ⟨by rw [HS.out, layK_snoc]; exact HN.out.1, HN.out.2⟩⟩
          case measure => simp [intOf]; omega
    · obtain rfl : k = x.bytes.length := by omega
      have i2 : ¬ ((x.bytes.length : Int) < (x.bytes.length : Int)) := by omega
      have hfin := HW.out.1
      rw [List.take_of_length_le (by simp; omega)] at hfin
      have HF := Lib.hid hfin
      clear hfin
      go_wp2
      go_ret
      exact ⟨iv, bl, rfl, HF.out, fun b hb => by have := H1.out.2.1 b hb; simp at this; omega, HW.out.2.1⟩
end Go.Proofs.YtgjgcbemgmkncaaGreatDoor
namespace Go.Proofs.YtgjgcbemgmkncaaGreatDoor
open Go.RowKit Go.Shelf
set_option linter.unusedVariables false
set_option linter.unusedSimpArgs false
attribute [local go_sem] Oper.semAt_some

set_option maxHeartbeats 3200000 in
set_option maxRecDepth 100000 in
theorem all_k_stops (Bs g n B0 : Nat) (own : World → Nat → Prop) (room : Int) (f : Kids) (w : World) (hO : Owns w.heap.size own) (hlo : ∀ k, own w k → k < w.heap.size) (hn : 2 ≤ n) (hc : w.cell? ⟨Bs, 0, none⟩ = some (.pointer (some ⟨g, 0, none⟩))) (hf : FewAt w g room f) :
    SeqStopsO Fence.wide n Tryz.prog 115 #[.pointer (some ⟨Bs, 0, none⟩)] encK (KeepsO own) (fun ys => ys = kidsF f) (fun pre => pre <+: kidsF f) 16 w B0 := fun l J Jx W hW hsz hJ hJx hY h0 => by
  have hBs : Bs < w.heap.size := World.block_lt_of_cell? w _ hc
  have hc1 := (hW.cell (p := ⟨Bs, 0, none⟩) hBs).trans hc
  have hf1 := hf.below hW
  obtain ⟨o, ho, hr, rfl, hg⟩ := hf1
  obtain ⟨n0, n1⟩ := few_cells ho.1 hg
  have ht := there_some g o.room W n1
  rw [decide_eq_true ho.2.1] at ht
  have HT := Lib.hid ht
  have HJ := Lib.hid (And.intro hJ (And.intro hJx (And.intro hY h0)))
  have HO := Lib.hid (And.intro ho (And.intro hr hg))
  clear ht hJ hJx hY h0 hg ho hr hf hc n0 n1
  refine callsIn_of_wp Tryz.func115 rfl trivial ?_ rfl
  simp only [Tryz.ntmps115, List.size_toArray, List.length_cons, List.length_nil, Nat.reduceAdd, Nat.reduceSub, Array.replicate_succ, Array.replicate_zero, List.push_toArray, List.append_toArray, List.nil_append, List.cons_append]
  refine wpIn_wide.2 ?_
  go_wp2_with fail
  refine HT.out.mono ?_
  rintro e w1 ⟨rfl, rfl⟩
  clear HT
  have hgl := HO.out.2.2.lt
  have hzb : Blk (w1.alloc (.cells zero49.toArray 104)) w1.heap.size 104 zero49.toArray := Blk.new _ _ _
  have HZ := Lib.hid (show Blk (w1.alloc (.cells #[.int .u8 0, .int .u8 0, .int .u8 0, .int .u8 0, .int .u8 0, .int .u8 0, .int .u8 0, .int .u8 0, .int .u8 0, .int .u8 0, .int .u8 0, .int .u8 0, .int .u8 0, .int .u8 0, .int .u8 0, .int .u8 0, .int .i64 0, .int .u32 0, .int .i64 0, .int .u32 0, .int .i64 0, .int .u32 0, .int .i64 0, .int .u32 0, .int .i64 0, .int .u32 0, .int .i64 0, .int .u32 0, .int .i64 0, .int .u32 0, .int .i64 0, .int .u32 0, .int .i64 0, .int .u32 0, .int .i64 0, .int .u32 0, .int .i64 0, .int .u32 0, .int .i64 0, .int .u32 0, .int .i64 0, .int .u32 0, .int .i64 0, .int .u32 0, .int .i64 0, .int .u32 0, .int .i64 0, .int .u32 0, .int .i64 0] 104)) w1.heap.size 104 zero49.toArray from hzb)
  clear hzb
  go_wp2_with (first
    | (refine wpList_load_mid rfl 104 (.tmp 10) rfl g 0 rfl o.row _ (row_range HO.out.1.1 HO.out.2.2) Tryz.underlying104 rfl (by rw [FewO.row_len HO.out.1.1]; exact infoRow) ?_)
    | (refine wpList_store_row rfl 104 (.tmp 3) (.tmp 11) rfl w1.heap.size o.row zero49 104 rfl rfl HZ.out (by rw [FewO.row_len HO.out.1.1]; rfl) (by rw [FewO.row_len HO.out.1.1]; exact infoRow) (row_one o) ?_
       intro w2 h2
       have c48 : w2.cell? ⟨w1.heap.size, 48, none⟩ = some (.int .i64 o.n) := (h2.out.1.cell 48).trans (by rw [List.getElem?_toArray, FewO.row_at (by decide)]; exact FewO.atN HO.out.1.1)
       have hbW : Below w1.heap.size w1 w2 := (below_box w1 _).grown h2.out.2 (by simp) (fun k e => by cases e; exact Nat.le_refl _)
       have hno : ¬ own w2 w1.heap.size := fun e => by have e1 := hO.back w w2 none _ (Nat.le_refl _) (World.grownBy_of_below (hW.trans (hbW.mono hW.size))) (fun r e => by cases e) e; have := hlo _ e1; have := hW.size; omega
       have HB2 := Lib.hid (And.intro h2.out.1 hno)
       have hJ0 := HJ.out.1 _ _ _ none HJ.out.2.2.2 (World.grownBy_of_below hbW) (fun r e => by cases e)
       clear h2 hbW hno))
  clear c48
  have hBw : w.heap.size ≤ w1.heap.size := hW.size
  refine (wpIn_wide (n := n)).1 ?_
  gi_loopw [14] (fun i wr => ∃ k : Nat, k ≤ o.n ∧ i = .int .i64 k ∧ Hid (J ((kidsF f).take k) wr ∧ Blk wr w1.heap.size 104 o.row.toArray ∧ ¬ own wr w1.heap.size)) (fun i _ => o.n - (intOf i).toNat)
  case atStart => exact ⟨0, Nat.zero_le _, rfl, Lib.hid ⟨hJ0, HB2.out.1, HB2.out.2⟩⟩
  case round =>
    obtain ⟨k, hk, rfl, HW⟩ := hrel
    by_cases hlt : k < o.n
    · have hkl : k < (kidsF f).length := by rw [kidsF_len, ← HO.out.2.1.n]; exact hlt
      obtain ⟨x, hx⟩ : ∃ x, (kidsF f)[k]? = some x := ⟨_, List.getElem?_eq_getElem hkl⟩
      obtain ⟨hxb, hxr⟩ := kid_at HO.out.2.1 hlt hx
      have hln := HO.out.1.1.ln
      have d0 : wr.cell? ⟨w1.heap.size, k, none⟩ = some (.int .u8 (x.1.val : Int)) := (HW.out.2.1.cell k).trans (by rw [List.getElem?_toArray, FewO.row_at (by omega)]; exact FewO.atB HO.out.1.1 hxb)
      have d1 : wr.cell? ⟨w1.heap.size, 16 + k * 2, none⟩ = some (.int .i64 x.2.1) := (HW.out.2.1.cell _).trans (by rw [List.getElem?_toArray, FewO.row_at (by omega)]; exact (FewO.atR HO.out.1.1 hxr).1)
      have d2 : wr.cell? ⟨w1.heap.size, 16 + k * 2 + 1, none⟩ = some (.int .u32 x.2.2) := (HW.out.2.1.cell _).trans (by rw [List.getElem?_toArray, FewO.row_at (by omega)]; exact (FewO.atR HO.out.1.1 hxr).2)
      have i1 : (0 : Int) ≤ (k : Int) := by omega
      have i2 : (k : Int) < (o.n : Int) := by omega
      have i3 : (k : Int) < 16 := by omega
      have hJd : J ((kidsF f).take k) wr.drew := HJ.out.1 _ _ _ none HW.out.1 ⟨rfl, rfl, rfl, Nat.le_refl _, fun _ _ _ => rfl⟩ (fun r e => by cases e)
      have hYd : YieldAt Fence.wide (n - 1) Tryz.prog l (encK x) wr.drew (fun e W' => ∃ b : Bool, e = .returned (.bool b) ∧ Hid ((b = true → J ((kidsF f).take k ++ [x]) W' ∧ KeepsO own wr.drew W') ∧ (b = false → Jx ((kidsF f).take k ++ [x]) W'))) :=
        (HJ.out.2.2.1 _ x wr.drew hJd (by rw [List.length_take]; omega)).mono (fun e W' h => by
          rcases h.2 with ⟨rfl, h1, h2⟩ | ⟨rfl, h1⟩
          · exact ⟨true, rfl, Lib.hid ⟨fun _ => ⟨h1, h2⟩, fun e => by cases e⟩⟩
          · exact ⟨false, rfl, Lib.hid ⟨fun e => by (cases e), fun _ => h1⟩⟩)
      obtain ⟨fn, tmps, assign, body, hy, hR⟩ := hYd
      dsimp only [encK] at hy
      clear hJd
      have hmix : Tryz.prog.follows .mixedOrders = true := by kernel_rfl
      gi_wp2_with (fail)
      have hn1 : 1 ≤ n := by omega
      have HX := Lib.hid hx
      clear hx hxb hxr hln
      gi_region_with_o ((refine hR.mono ?_; rintro e W3 ⟨b, rfl, hP⟩))
      all_goals
        cases b with
        | true =>
          obtain ⟨hJ3, hk3⟩ := hP.out.1 rfl
          have hlb := HW.out.2.1.lt
          have hnd : ¬ own wr.drew w1.heap.size := fun e => HW.out.2.2 (hO.back wr wr.drew none _ (by omega) ⟨rfl, rfl, rfl, Nat.le_refl _, fun _ _ _ => rfl⟩ (fun r e => by cases e) e)
          have HN := Lib.hid (And.intro hJ3 (And.intro (hk3.blk (g := w1.heap.size) (cs := o.row.toArray) HW.out.2.1.drew hnd) (fun e => hnd (hk3.mine _ (by simpa using hlb) e))))
          clear hJ3 hk3 hP hR hy hlb hnd
          gi_wp2
          go_roundw
          case rel =>
            refine ⟨k + 1, by omega, by go_num, Lib.hid ⟨?_, HN.out.2⟩⟩
            have ht : (kidsF f).take (k + 1) = (kidsF f).take k ++ [x] := by rw [List.take_add_one, HX.out]; rfl
            rw [ht]
            exact HN.out.1
          case measure => simp [intOf]; omega
        | false =>
          have hx3 := hP.out.2 rfl
          have HN := Lib.hid hx3
          clear hx3 hP hR hy
          gi_wp2
          refine bodyPost_ret (results_none rfl _ _ _) rfl ?_
          refine ⟨⟨_, rfl⟩, .inr ⟨(kidsF f).take k ++ [x], ?_, HN.out⟩⟩
          have ht : (kidsF f).take (k + 1) = (kidsF f).take k ++ [x] := by rw [List.take_add_one, HX.out]; rfl
          rw [← ht]
          exact List.take_prefix _ _
    · obtain rfl : k = o.n := by omega
      have hfin := HW.out.1
      rw [List.take_of_length_le (by rw [kidsF_len, ← HO.out.2.1.n]; exact Nat.le_refl _)] at hfin
      have HF := Lib.hid hfin
      clear hfin
      gi_wp2
      go_end0
      exact ⟨⟨_, rfl⟩, .inl ⟨_, rfl, HF.out⟩⟩
end Go.Proofs.YtgjgcbemgmkncaaGreatDoor
namespace Go.Proofs.YtgjgcbemgmkncaaGreatDoor
open Go.RowKit Go.Shelf
set_option linter.unusedVariables false

section
variable {P : Program} {md : Region.Mode} {ops : Array Oper} {Q : Exit → Act → World → Prop} {k0 : Nat} {S : World → Prop}
/-- Whatever order is picked: behind every operation S holds as long as number k0 has not come up. -/
def wpAnyL (P : Program) (md : Region.Mode) (ops : Array Oper) (Q : Exit → Act → World → Prop) (k0 : Nat) (S : World → Prop) : Nat → Array Bool → Act → World → Prop
  | 0, listed, a, w => Region.ready md ops listed = [] ∧ Q .normal a w
  | fuel + 1, listed, a, w => (Region.ready md ops listed = [] → Q .normal a w) ∧
    ∀ i ∈ Region.ready md ops listed, wpOp P ops Q i (fun a' w' => ((listed.setIfInBounds i true).getD k0 false = false → S w') ∧ wpAnyL P md ops Q k0 S fuel (listed.setIfInBounds i true) a' w') a w
theorem wpAny_of_L : ∀ (fuel : Nat) (listed : Array Bool) (a : Act) (w : World), wpAnyL P md ops Q k0 S fuel listed a w → wpAny P md ops Q fuel listed a w
  | 0, _, _, _, h => h
  | fuel + 1, _, _, _, h => ⟨h.1, fun i hi => wpOp_mono (fun a' w' k => wpAny_of_L fuel _ a' w' k.2) (h.2 i hi)⟩
/-- Number k waits for number i, over at most so many others. -/
def waitsT (md : Region.Mode) (ops : Array Oper) : Nat → Nat → Nat → Bool
  | 0, _, _ => false
  | n + 1, k, i => match ops[k]? with
    | some o => o.after.any fun e => Region.binds md e && (e.on == i || waitsT md ops n e.on i)
    | none => false
/-- With whatever has come up all has come up that it waits for. -/
def Closed (md : Region.Mode) (ops : Array Oper) (listed : Array Bool) : Prop := ∀ (j : Nat) (o : Oper), ops[j]? = some o → listed.getD j false = true → ∀ e ∈ o.after, Region.binds md e = true → listed.getD e.on false = true
def closedB (md : Region.Mode) (ops : Array Oper) (listed : Array Bool) : Bool := (List.range ops.size).all fun j => match ops[j]? with
  | some o => !(listed.getD j false) || o.after.all fun e => !(Region.binds md e) || listed.getD e.on false
  | none => true
theorem closed_of {listed : Array Bool} (h : closedB md ops listed = true) : Closed md ops listed := by
  intro j o ho hj e he hb
  unfold closedB at h
  have hlt : j < ops.size := (Array.getElem?_eq_some_iff.1 ho).1
  have h1 := List.all_eq_true.1 h j (List.mem_range.2 hlt)
  rw [ho] at h1
  simp only [hj, Bool.not_true, Bool.false_or] at h1
  rw [Array.all_eq_true] at h1
  obtain ⟨m, hm, rfl⟩ := Array.getElem_of_mem he
  have h2 := h1 m hm
  simpa [hb] using h2
theorem waits_listed {listed : Array Bool} (hc : Closed md ops listed) : ∀ (n k i : Nat), waitsT md ops n k i = true → listed.getD k false = true → listed.getD i false = true
  | 0, _, _, h, _ => by cases h
  | n + 1, k, i, h, hk => by
    unfold waitsT at h
    cases ho : ops[k]? with
    | none => rw [ho] at h; cases h
    | some o =>
      rw [ho] at h
      obtain ⟨m, hm, he⟩ := Array.any_eq_true.1 h
      rw [Bool.and_eq_true, Bool.or_eq_true, beq_iff_eq] at he
      have h1 := hc k o ho hk _ (Array.getElem_mem hm) he.1
      rcases he.2 with e | e
      · rw [← e]; exact h1
      · exact waits_listed hc n _ i e h1
theorem waits_ready {listed : Array Bool} (hc : Closed md ops listed) {n k i : Nat} (h : waitsT md ops n k i = true) (hk : k ∈ Region.ready md ops listed) : listed.getD i false = true := by
  cases n with
  | zero => cases h
  | succ n =>
    obtain ⟨_, o, ho, hall⟩ := mem_ready.1 hk
    unfold waitsT at h
    rw [ho] at h
    obtain ⟨m, hm, he⟩ := Array.any_eq_true.1 h
    rw [Bool.and_eq_true, Bool.or_eq_true, beq_iff_eq] at he
    have h1 := hall _ (Array.getElem_mem hm) he.1
    rcases he.2 with e | e
    · rw [← e]; exact h1
    · exact waits_listed hc n _ i e h1
theorem closed_set {listed : Array Bool} (hc : Closed md ops listed) {j : Nat} (hj : j ∈ Region.ready md ops listed) : Closed md ops (listed.setIfInBounds j true) := by
  intro k o ho hk e he hb
  by_cases e1 : j = k
  · subst e1
    obtain ⟨_, o', ho', hall⟩ := mem_ready.1 hj
    rw [ho] at ho'
    injection ho' with ho'
    subst ho'
    exact getD_set_true (hall e he hb)
  · rw [getD_set_ne false e1] at hk
    exact getD_set_true (hc k o ho hk e he hb)
theorem ready_un {listed : Array Bool} {i : Nat} (h : i ∈ Region.ready md ops listed) : listed.getD i false = false := by
  have h0 := (mem_ready.1 h).1
  rcases Nat.lt_or_ge i listed.size with h' | h'
  · simp [h'] at h0 ⊢; exact h0
  · simp [h'] at h0 ⊢
theorem wpAnyL_first {i : Nat} {oi : Oper} {v : Value} (hi : ops[i]? = some oi) (hsel : ∀ (j : Nat) (o : Oper) cs b, ops[j]? = some o → o.op ≠ .select cs b)
    (hQ : ∀ c a w, Q (.panic c) (a.put oi.dst v) w → Q (.panic c) a w) {nw : Nat} (hw0 : waitsT md ops nw k0 i = true) (hne : i ≠ k0) :
    ∀ (fuel : Nat) (listed : Array Bool) (a : Act) (w : World),
      (∀ j oj, ops[j]? = some oj → j ≠ i → listed.getD j true = false → (∀ e ∈ oj.after, Region.binds md e = true → e.on ≠ i) → oi.apart ops oj = true) →
      i ∈ Region.ready md ops listed → YieldsIf P ops S oi v a → S w → Closed md ops listed →
      wpAnyL P md ops Q k0 S fuel (listed.setIfInBounds i true) (a.put oi.dst v) w → wpAnyL P md ops Q k0 S (fuel + 1) listed a w := by
  intro fuel
  induction fuel with
  | zero =>
    intro listed a w _ hr hy hS hcl H
    refine ⟨fun h => (by rw [h] at hr; cases hr), fun j hj => ?_⟩
    by_cases hji : j = i
    · subst hji; exact hy.wpOp hi hS ⟨fun _ => hS, H⟩
    · have := ready_mono hj hji
      rw [H.1] at this
      cases this
  | succ fuel ih =>
    intro listed a w hfree hr hy hS hcl H
    refine ⟨fun h => (by rw [h] at hr; cases hr), fun j hj => ?_⟩
    by_cases hji : j = i
    · subst hji; exact hy.wpOp hi hS ⟨fun _ => hS, H⟩
    · have hun := ready_un hr
      have hjk : j ≠ k0 := fun e => by have := waits_ready hcl hw0 (e ▸ hj); rw [hun] at this; cases this
      have hk : listed.getD k0 false = false := by
        cases hh : listed.getD k0 false with
        | false => rfl
        | true => have := waits_listed hcl nw k0 i hw0 hh; rw [hun] at this; cases this
      have h1 := H.2 j (ready_mono hj hji)
      obtain ⟨hjun, oj, hoj, hall⟩ := mem_ready.1 hj
      have hnot : ∀ e ∈ oj.after, Region.binds md e = true → e.on ≠ i := fun e he hb heq => by
        have h1 := hall e he hb
        have h0 := (mem_ready.1 hr).1
        rw [heq] at h1
        rcases Nat.lt_or_ge i listed.size with h' | h'
        · simp [h'] at h0 h1; rw [h0] at h1; cases h1
        · simp [Array.getElem?_eq_none h'] at h1
      have hkj : ∀ (l : Array Bool) (m : Nat), m ≠ k0 → l.getD k0 false = false → (l.setIfInBounds m true).getD k0 false = false := fun l m hm hl => by
        rw [getD_set_ne false hm]; exact hl
      have h2 := wpOp_putIf hoj (hfree j oj hoj hji hjun hnot) (fun cs b => hsel i oi cs b hi) (fun cs b => hsel j oj cs b hoj) hQ hy h1
      have hfree' : ∀ k ok, ops[k]? = some ok → k ≠ i → (listed.setIfInBounds j true).getD k true = false →
          (∀ e ∈ ok.after, Region.binds md e = true → e.on ≠ i) → oi.apart ops ok = true := fun k ok hk hki hun hno => by
        refine hfree k ok hk hki ?_ hno
        by_cases hjk : j = k
        · subst hjk; exact hjun
        · rw [getD_set_ne true hjk] at hun; exact hun
      refine wpOp_mono (fun a' w' h3 => ?_) h2
      have hS' := h3.2.1 (hkj _ _ hjk (hkj _ _ hne hk))
      refine ⟨fun _ => hS', ih (listed.setIfInBounds j true) a' w' hfree' (ready_mono hr (Ne.symm hji)) h3.1 hS' (closed_set hcl hj) ?_⟩
      rw [Array.setIfInBounds_comm _ _ hji]
      exact h3.2.2
theorem wpAnyL_take {i : Nat} {oi : Oper} {v : Value} {fuel : Nat} {listed : Array Bool} {a : Act} {w : World} (hi : ops[i]? = some oi)
    (hs : Region.noSelect ops = true) (hf : Region.free md ops listed i = true) (hr : (Region.ready md ops listed).contains i = true) (hw0 : (waitsT md ops 6 k0 i && (i != k0) && closedB md ops listed) = true)
    (hQ : ∀ c a w, Q (.panic c) (a.put oi.dst v) w → Q (.panic c) a w) (hy : YieldsIf P ops S oi v a) (hS : S w)
    (h : wpAnyL P md ops Q k0 S fuel (listed.setIfInBounds i true) (a.put oi.dst v) w) : wpAnyL P md ops Q k0 S (fuel + 1) listed a w := by
  simp only [Bool.and_eq_true, bne_iff_ne] at hw0
  exact wpAnyL_first hi (Region.noSelect_spec hs) hQ hw0.1.1 hw0.1.2 fuel listed a w (Region.free_spec hi hf) (by simpa using hr) hy hS (closed_of hw0.2) h
theorem wpAnyL_done {listed : Array Bool} {a : Act} {w : World} (hr : Region.ready md ops listed = []) (h : Q .normal a w) : ∀ fuel, wpAnyL P md ops Q k0 S fuel listed a w
  | 0 => ⟨hr, h⟩
  | _ + 1 => ⟨fun _ => h, by rw [hr]; simp⟩
def AllL (P : Program) (md : Region.Mode) (ops : Array Oper) (Q : Exit → Act → World → Prop) (k0 : Nat) (S : World → Prop) (fuel : Nat) (listed : Array Bool) (a : Act) (w : World) (rs : List Nat) : Prop :=
  ∀ i ∈ rs, wpOp P ops Q i (fun a' w' => ((listed.setIfInBounds i true).getD k0 false = false → S w') ∧ wpAnyL P md ops Q k0 S fuel (listed.setIfInBounds i true) a' w') a w
theorem AllL.nil {fuel : Nat} {listed : Array Bool} {a : Act} {w : World} : AllL P md ops Q k0 S fuel listed a w [] := fun _ h => by cases h
theorem AllL.cons {fuel : Nat} {listed : Array Bool} {a : Act} {w : World} {i : Nat} {o : Oper} {rs : List Nat} (ho : ops[i]? = some o)
    (h : ∀ K' : Act → World → Prop, Shut (∀ a w, ((listed.setIfInBounds i true).getD k0 false = false → S w) → wpAnyL P md ops Q k0 S fuel (listed.setIfInBounds i true) a w → K' a w) → if Region.wanted o (yielded ops a.tmps) = true then Oper.wp P o a w K' Q else K' (a.put o.dst undef) w)
    (hs : AllL P md ops Q k0 S fuel listed a w rs) : AllL P md ops Q k0 S fuel listed a w (i :: rs) := fun j hj => by
  rcases List.mem_cons.1 hj with rfl | hj
  · exact wpOp_step ho (fun K' hK => h K' (fun a w hS hW => hK a w ⟨hS, hW⟩))
  · exact hs j hj
theorem wpAnyL_ready {rs : List Nat} {fuel : Nat} {listed : Array Bool} {a : Act} {w : World} (hr : Region.ready md ops listed = rs) (hne : rs ≠ [])
    (h : AllL P md ops Q k0 S fuel listed a w rs) : wpAnyL P md ops Q k0 S (fuel + 1) listed a w := ⟨fun h0 => absurd (hr ▸ h0) hne, hr ▸ h⟩
/-- The beginning, in a round. -/
theorem wpIn_region_L_round {id m : Nat} {a : Act} {w : World} {ops : List Oper} (l k0 : Nat) (S : World → Prop) (hout : ¬ LetsOut Q) (hm : P.follows .mixedOrders = true) (hd : ops.all (fun o => match o.op with | .defer _ => false | _ => true) = true)
    (h : wpAnyL P .any ops.toArray Q k0 S ops.toArray.size (Array.replicate ops.toArray.size false) a w.drew) : (Code.region id ops.toArray true).wpIn (Fence.wide.inRound l) m P Q a w :=
  wpIn_region_any hm (wpAny_round l m hout (noDefer hd) _ _ _ _ (wpAny_of_L _ _ _ _ h))
/-- .. and outside of one. -/
theorem wp_region_L {id : Nat} {a : Act} {w : World} (k0 : Nat) (S : World → Prop) (hm : P.follows .mixedOrders = true)
    (h : wpAnyL P .any ops Q k0 S ops.size (Array.replicate ops.size false) a w.drew) : (Code.region id ops true).wp P Q a w :=
  wp_region_any hm (wpAny_of_L _ _ _ _ h)
end
end Go.Proofs.YtgjgcbemgmkncaaGreatDoor
namespace Go.Proofs.YtgjgcbemgmkncaaGreatDoor
open Go.RowKit Go.Shelf
set_option linter.unusedVariables false

section
variable {P : Program} (w : World)
theorem append_block (base : Nat) (t ty e : TypeId) (i : TypeInfo) (z : Value) (ht : P.underlying t = some (.slice e)) (hi : P.info? e = some i) (hz : i.zero = some z)
    (hzs : z.cells.size = i.size) (hsz : 0 < i.size)
    (v : Value) (n : Nat) (xs : List Value) (hown : w.ownsRow base e i.size v n xs)
    (a : Addr) (m c : Nat) (news : List Value) (hl : news.length = m * i.size) (hnews : ∀ j u, news[j]? = some u → w.cell? (a.add j) = some u) (h1 : ∀ u ∈ news, u.oneCell' = true) (hm : 0 < m)
    (h63 : n + m ≤ maxLen) (hbytes : (n + m) * i.bytes ≤ 140737488355328) {v' : Value} {w' : World}
    (hr : (Builtin.append_ #[t, t] ty #[v, .slice (some a) m c]).run P w = .ok v' w') : v'.ownBlock = v.ownBlock ∨ v'.ownBlock = some w.heap.size := by
  have hsmall : n + m ≤ 9223372036854775807 := by simp only [maxLen] at h63; omega
  rcases hown.2 with ⟨rfl, rfl⟩ | ⟨g, cap, cur, rfl, hbg, hg, hnc, hcm, hcs, htake⟩
  · have hr2 := run_append_nil (P := P) w t ty e i z ht hi hz a m c news hl hnews (by omega) (by omega) (by have hb := hbytes; simp only [Nat.zero_add] at hb; omega)
    rw [hr] at hr2
    injection hr2 with e1 e2
    subst e1
    exact .inr rfl
  · by_cases hroom : n + m ≤ cap
    · have hfit : n * i.size + news.length ≤ cur.size := by rw [hl, hcs, ← Nat.add_mul]; exact Nat.mul_le_mul_right _ hroom
      have hr2 := run_append_room (P := P) w t ty e i ht hi g n cap cur hg a m c news hl hnews h1 hroom hfit
      rw [hr] at hr2
      injection hr2 with e1 e2
      subst e1
      exact .inl rfl
    · have holds : ∀ j u, xs[j]? = some u → w.cell? ((⟨g, 0, none⟩ : Addr).add j) = some u := hown.cells (g := g) rfl
      have hr2 := run_append_grow (P := P) w t ty e i z ht hi hz ⟨g, 0, none⟩ n cap xs hown.1 holds a m c news hl hnews (by omega) (by omega) (growslice_fits (by omega) hbytes)
      rw [hr] at hr2
      injection hr2 with e1 e2
      subst e1
      exact .inr rfl
/-- The step of a region: what is appended is one element. -/
theorem wp_append_fresh {o : Oper} {a : Act} {K : Act → World → Prop} {Q : Exit → Act → World → Prop} (s x : Operand) (t : TypeId)
    (ho : o.op = .call { callee := .builtin .append, args := #[s, x], argTypes := #[t, t] })
    (base : Nat) (e : TypeId) (i : TypeInfo) (z : Value) (size bytes : Nat) (ht : P.underlying t = some (.slice e)) (hi : P.info? e = some i) (hz : i.zero = some z)
    (hsize : i.size = size) (hby : i.bytes = bytes) (hzs : z.cells.size = size) (hsz : 0 < size)
    (v : Value) (n : Nat) (xs : List Value) (hs : a.eval s = v) (hown : w.ownsRow base e size v n xs)
    (ad : Addr) (m c : Nat) (news : List Value) (hx : a.eval x = .slice (some ad) m c) (hl : news.length = m * size) (hnews : ∀ j u, news[j]? = some u → w.cell? (ad.add j) = some u) (h1 : ∀ u ∈ news, u.oneCell' = true) (hm : 0 < m)
    (h63 : n + m ≤ maxLen) (hbytes : (n + m) * bytes ≤ 140737488355328) (hbase : base ≤ w.heap.size)
    (h : ∀ v' w', w'.ownsRow base e size v' (n + m) (xs ++ news) → w.grownBy w' v.ownBlock → (v'.ownBlock = v.ownBlock ∨ v'.ownBlock = some w.heap.size) → K (a.put o.dst v') w') : o.wp P a w K Q := by
  subst hsize
  subst hby
  obtain ⟨v', w', hr, h2, h3, h4⟩ := run_append_own (P := P) w base t o.type e i z i.size i.bytes ht hi hz rfl rfl hzs hsz v n xs hown ad m c news hl hnews h1 h63 hbytes hbase
  have hb := append_block w base t o.type e i z ht hi hz hzs hsz v n xs hown ad m c news hl hnews h1 hm h63 hbytes hr
  unfold Oper.wp execOp
  simp only [ho, resolve, invoke, builtin, Sem.run_bind, Sem.run_pure, Result.andThen_ok, List.map_toArray, List.map_cons, List.map_nil, hs, hx, hr]
  exact h v' w' h2 h3 hb
end
end Go.Proofs.YtgjgcbemgmkncaaGreatDoor
namespace Go.Proofs.YtgjgcbemgmkncaaGreatDoor
open Go.RowKit Go.Shelf
set_option linter.unusedVariables false
set_option maxRecDepth 20000
set_option linter.unusedSimpArgs false

/-- What 'of' calls its own: the node that it makes, and the two rows to which it leads. -/
def ofOwn (b : Nat) (W : World) (k : Nat) : Prop := k = b ∨ (∃ n c, W.cell? ⟨b, 4, none⟩ = some (.slice (some ⟨k, 0, none⟩) n c)) ∨ (∃ n c, W.cell? ⟨b, 5, none⟩ = some (.slice (some ⟨k, 0, none⟩) n c))
theorem ofOwn_same {b : Nat} {W W' : World} (h4 : W'.cell? ⟨b, 4, none⟩ = W.cell? ⟨b, 4, none⟩) (h5 : W'.cell? ⟨b, 5, none⟩ = W.cell? ⟨b, 5, none⟩) {k : Nat} : ofOwn b W' k → ofOwn b W k := by
  unfold ofOwn
  rw [h4, h5]
  exact id
theorem grown_cell {W W' : World} {row : Option Nat} (hg : W.grownBy W' row) {b : Nat} (hb : b < W.heap.size) (hr : row ≠ some b) (o : Nat) : W'.cell? ⟨b, o, none⟩ = W.cell? ⟨b, o, none⟩ :=
  World.cell?_of_block (hg.block b hb (Ne.symm hr))
theorem ofOwn_owns {b B : Nat} (hb : b < B) : Owns B (ofOwn b) := ⟨fun W W' row k hB hg hr h => by
  have hne : row ≠ some b := fun e => by have := hr b e; omega
  exact ofOwn_same (grown_cell hg (by omega) hne 4) (grown_cell hg (by omega) hne 5) h⟩
/-- The node's cells. -/
def outC (k : Int) (p : ByteArray) (v4 v5 : Value) : Array Value := #[.int .i64 k, .string { data := #[] }, .string { data := #[] }, .string p, v4, v5]
theorem ofOwn_blk {W : World} {b : Nat} {t : TypeId} {k : Int} {p : ByteArray} {v4 v5 : Value} (h : Blk W b t (outC k p v4 v5)) (i : Nat) : ofOwn b W i ↔ i = b ∨ (∃ n c, v4 = .slice (some ⟨i, 0, none⟩) n c) ∨ (∃ n c, v5 = .slice (some ⟨i, 0, none⟩) n c) := by
  have h4 : W.cell? ⟨b, 4, none⟩ = some v4 := h.cell 4
  have h5 : W.cell? ⟨b, 5, none⟩ = some v5 := h.cell 5
  unfold ofOwn
  rw [h4, h5]
  simp
theorem own_slice {W : World} {base size n : Nat} {e : TypeId} {v : Value} {xs : List Value} (h : W.ownsRow base e size v n xs) {g : Nat} (hg : v.ownBlock = some g) : ∃ n c, v = .slice (some ⟨g, 0, none⟩) n c := by
  rcases h.2 with ⟨rfl, _⟩ | ⟨g', cap, cur, rfl, _⟩
  · cases hg
  · injection hg with hg
    exact ⟨n, cap, by rw [← hg]⟩
theorem own_two {w : World} {base base' size size' n n' : Nat} {e e' : TypeId} {v v' : Value} {xs xs' : List Value} (h : w.ownsRow base e size v n xs) (h' : w.ownsRow base' e' size' v' n' xs') (hne : e ≠ e') : v.ownBlock = none ∨ v.ownBlock ≠ v'.ownBlock := by
  rcases h.2 with ⟨rfl, _⟩ | ⟨g, cap, cur, rfl, _, hg, _⟩
  · exact .inl rfl
  · refine .inr fun e1 => ?_
    rcases h'.2 with ⟨rfl, _⟩ | ⟨g', cap', cur', rfl, _, hg', _⟩
    · cases e1
    · simp [Value.ownBlock] at e1
      subst e1
      rw [hg] at hg'
      simp at hg'
      exact hne hg'.2
theorem own_blk_ne {w : World} {base size n : Nat} {e : TypeId} {v : Value} {xs : List Value} (h : w.ownsRow base e size v n xs) {g : Nat} {t : TypeId} {cs : Array Value} (hb : Blk w g t cs) (hne : t ≠ e) : some g ≠ v.ownBlock := by
  rcases h.2 with ⟨rfl, _⟩ | ⟨g', cap, cur, rfl, _, hg, _⟩
  · intro e1; cases e1
  · intro e1
    simp [Value.ownBlock] at e1
    subst e1
    unfold Blk at hb
    rw [hg] at hb
    simp at hb
    exact hne hb.2.symm
/-- Between two operations of a round. -/
structure OfP (lo b b9 : Nat) (R : World → Prop) (k : Int) (p : ByteArray) (r : Int × Int) (v4 v5 w4 w5 : Value) (n4 n5 : Nat) (xs4 xs5 : List Value) (W0 W : World) : Prop where
  out : Blk W b 26 (outC k p v4 v5)
  out0 : Blk W0 b 26 (outC k p v4 v5)
  ref : Blk W b9 29 #[.int .i64 r.1, .int .u32 r.2]
  rest : R W
  size : W0.heap.size ≤ W.heap.size
  lo_ : lo ≤ W0.heap.size
  blt : b < lo
  from_ : KeepsFrom lo W0 W
  own : ∀ (j : Nat) (o : Obj), ¬ ofOwn b W0 j → W0.heap[j]? = some o → o.isCells = true → W.heap[j]? = some o
  row4 : W.ownsRow lo 5 1 w4 n4 xs4
  row5 : W.ownsRow lo 29 2 w5 n5 xs5
  old4 : w4.ownBlock = v4.ownBlock ∨ ∃ g, w4.ownBlock = some g ∧ W0.heap.size ≤ g
  old5 : w5.ownBlock = v5.ownBlock ∨ ∃ g, w5.ownBlock = some g ∧ W0.heap.size ≤ g
  was4 : v4.ownBlock = none ∨ ∃ i n c, v4.ownBlock = some i ∧ v4 = .slice (some ⟨i, 0, none⟩) n c
  was5 : v5.ownBlock = none ∨ ∃ i n c, v5.ownBlock = some i ∧ v5 = .slice (some ⟨i, 0, none⟩) n c
  apart : ∀ g, v5.ownBlock = some g → g ≠ b9
  ref0 : b9 < W0.heap.size
section
variable {lo b b9 : Nat} {R : World → Prop} {k : Int} {p : ByteArray} {r : Int × Int} {v4 v5 w4 w5 : Value} {n4 n5 : Nat} {xs4 xs5 : List Value} {W0 W W' : World}
theorem OfP.cells (h : OfP lo b b9 R k p r v4 v5 w4 w5 n4 n5 xs4 xs5 W0 W) : W.cell? ⟨b, 4, none⟩ = some v4 ∧ W.cell? ⟨b, 5, none⟩ = some v5 ∧ W.cell? ⟨b9, 0, none⟩ = some (.int .i64 r.1) ∧ W.cell? ⟨b9, 1, none⟩ = some (.int .u32 r.2) :=
  ⟨h.out.cell 4, h.out.cell 5, h.ref.cell 0, h.ref.cell 1⟩
theorem OfP.alloc (hR : Stays lo b R) (h : OfP lo b b9 R k p r v4 v5 w4 w5 n4 n5 xs4 xs5 W0 W) (o : Obj) : OfP lo b b9 R k p r v4 v5 w4 w5 n4 n5 xs4 xs5 W0 (W.alloc o) :=
  { h with
    out := h.out.alloc o
    ref := h.ref.alloc o
    rest := hR.alloc h.rest o
    size := Nat.le_trans h.size (by simp)
    from_ := h.from_.trans ((KeepsOthers.alloc W o).from _)
    own := fun j o2 hj h1 h2 => (Below.heap_alloc W o j (by have := (Array.getElem?_eq_some_iff.1 h1).1; have := h.size; omega)).trans (h.own j o2 hj h1 h2)
    row4 := h.row4.alloc o
    row5 := h.row5.alloc o }
theorem OfP.drew (hR : Stays lo b R) (h : OfP lo b b9 R k p r v4 v5 w4 w5 n4 n5 xs4 xs5 W0 W) : OfP lo b b9 R k p r v4 v5 w4 w5 n4 n5 xs4 xs5 W0 W.drew :=
  { h with
    out := h.out.drew
    ref := h.ref.drew
    rest := hR _ _ none h.rest ⟨rfl, rfl, rfl, Nat.le_refl _, fun _ _ _ => rfl⟩ (fun r e => by cases e)
    from_ := h.from_.trans ((KeepsOthers.drew W).from _) }
/-- The row of bytes grows. -/
theorem OfP.app4 (hR : Stays lo b R) (h : OfP lo b b9 R k p r v4 v5 v4 w5 n4 n5 xs4 xs5 W0 W) {w4' : Value} {m4 : Nat} {ys4 : List Value} (ho : W'.ownsRow lo 5 1 w4' m4 ys4) (hg : W.grownBy W' v4.ownBlock) (hf : w4'.ownBlock = v4.ownBlock ∨ w4'.ownBlock = some W.heap.size) :
    OfP lo b b9 R k p r v4 v5 w4' w5 m4 n5 ys4 xs5 W0 W' := by
  have hb : some b ≠ v4.ownBlock := own_blk_ne h.row4 h.out (by decide)
  have h9 : some b9 ≠ v4.ownBlock := own_blk_ne h.row4 h.ref (by decide)
  exact { h with
    out := h.out.grown hg hb
    ref := h.ref.grown hg h9
    rest := hR _ _ _ h.rest hg (fun g e => .inl (h.row4.lt g e).1)
    size := Nat.le_trans h.size hg.size
    from_ := h.from_.trans ((KeepsOthers.of_grownBy hg fun j o ej hj => by
      rcases h.row4.2 with ⟨rfl, _⟩ | ⟨g', cap, cur, rfl, _, hgb, _⟩
      · cases ej
      · simp [Value.ownBlock] at ej; subst ej; rw [hgb] at hj; cases hj; rfl).from _)
    own := fun j o hj h1 h2 => (hg.block j (by have := (Array.getElem?_eq_some_iff.1 h1).1; have := h.size; omega) (fun e => hj ((ofOwn_blk h.out0 j).2 (.inr (.inl (own_slice h.row4 e.symm)))))).trans (h.own j o hj h1 h2)
    row4 := ho
    row5 := h.row5.kept hg (own_two h.row5 h.row4 (by decide))
    old4 := by
      rcases hf with e | e
      · exact .inl e
      · exact .inr ⟨_, e, h.size⟩ }
/-- The row of Refs grows. -/
theorem OfP.app5 (hR : Stays lo b R) (h : OfP lo b b9 R k p r v4 v5 w4 v5 n4 n5 xs4 xs5 W0 W) {w5' : Value} {m5 : Nat} {ys5 : List Value} (ho : W'.ownsRow lo 29 2 w5' m5 ys5) (hg : W.grownBy W' v5.ownBlock) (hf : w5'.ownBlock = v5.ownBlock ∨ w5'.ownBlock = some W.heap.size) :
    OfP lo b b9 R k p r v4 v5 w4 w5' n4 m5 xs4 ys5 W0 W' := by
  have hb : some b ≠ v5.ownBlock := own_blk_ne h.row5 h.out (by decide)
  have h9 : some b9 ≠ v5.ownBlock := fun e => h.apart b9 e.symm rfl
  exact { h with
    out := h.out.grown hg hb
    ref := h.ref.grown hg h9
    rest := hR _ _ _ h.rest hg (fun g e => .inl (h.row5.lt g e).1)
    size := Nat.le_trans h.size hg.size
    from_ := h.from_.trans ((KeepsOthers.of_grownBy hg fun j o ej hj => by
      rcases h.row5.2 with ⟨rfl, _⟩ | ⟨g', cap, cur, rfl, _, hgb, _⟩
      · cases ej
      · simp [Value.ownBlock] at ej; subst ej; rw [hgb] at hj; cases hj; rfl).from _)
    own := fun j o hj h1 h2 => (hg.block j (by have := (Array.getElem?_eq_some_iff.1 h1).1; have := h.size; omega) (fun e => hj ((ofOwn_blk h.out0 j).2 (.inr (.inr (own_slice h.row5 e.symm)))))).trans (h.own j o hj h1 h2)
    row4 := h.row4.kept hg (own_two h.row4 h.row5 (by decide))
    row5 := ho
    old5 := by
      rcases hf with e | e
      · exact .inl e
      · exact .inr ⟨_, e, h.size⟩ }
/-- Behind the two stores. -/
theorem OfP.stored (hR : Stays lo b R) (h : OfP lo b b9 R k p r v4 v5 w4 w5 n4 n5 xs4 xs5 W0 W) :
    Blk ((W.setCell ⟨b, 4, none⟩ w4).setCell ⟨b, 5, none⟩ w5) b 26 (outC k p w4 w5) ∧ ((W.setCell ⟨b, 4, none⟩ w4).setCell ⟨b, 5, none⟩ w5).ownsRow lo 5 1 w4 n4 xs4 ∧ ((W.setCell ⟨b, 4, none⟩ w4).setCell ⟨b, 5, none⟩ w5).ownsRow lo 29 2 w5 n5 xs5 ∧
    R ((W.setCell ⟨b, 4, none⟩ w4).setCell ⟨b, 5, none⟩ w5) ∧ lo ≤ ((W.setCell ⟨b, 4, none⟩ w4).setCell ⟨b, 5, none⟩ w5).heap.size ∧ KeepsFrom lo W0 ((W.setCell ⟨b, 4, none⟩ w4).setCell ⟨b, 5, none⟩ w5) ∧ KeepsO (ofOwn b) W0 ((W.setCell ⟨b, 4, none⟩ w4).setCell ⟨b, 5, none⟩ w5) := by
  have hout : Blk ((W.setCell ⟨b, 4, none⟩ w4).setCell ⟨b, 5, none⟩ w5) b 26 (outC k p w4 w5) := by
    have := (h.out.set_ 4 w4).set_ 5 w5
    simpa [outC] using this
  have hg : W.grownBy ((W.setCell ⟨b, 4, none⟩ w4).setCell ⟨b, 5, none⟩ w5) (some b) := grown_setCell (grown_setCell ⟨rfl, rfl, rfl, Nat.le_refl _, fun _ _ _ => rfl⟩ 4 w4) 5 w5
  have hb4 : some b ≠ w4.ownBlock := own_blk_ne h.row4 h.out (by decide)
  have hb5 : some b ≠ w5.ownBlock := own_blk_ne h.row5 h.out (by decide)
  have hsz : ((W.setCell ⟨b, 4, none⟩ w4).setCell ⟨b, 5, none⟩ w5).heap.size = W.heap.size := by simp [World.setCell]
  refine ⟨hout, h.row4.kept hg (.inr (Ne.symm hb4)), h.row5.kept hg (.inr (Ne.symm hb5)), hR _ _ _ h.rest hg (fun g e => .inr (by injection e with e; exact e.symm)), by rw [hsz]; exact Nat.le_trans h.lo_ h.size, ?_, ?_⟩
  · exact h.from_.trans (((KeepsOthers.setCell _ _ _).trans (KeepsOthers.setCell _ _ _)).from _)
  · refine ⟨by rw [hsz]; exact h.size, fun j o hj h1 h2 => ?_, fun j hj hown => ?_⟩
    · refine (hg.block j (by have := (Array.getElem?_eq_some_iff.1 h1).1; have := h.size; omega) (fun e => hj (.inl (by injection e)))).trans (h.own j o hj h1 h2)
    · rw [ofOwn_blk hout] at hown
      rw [ofOwn_blk h.out0]
      rcases hown with e | ⟨n, c, e⟩ | ⟨n, c, e⟩
      · exact .inl e
      · have eb : w4.ownBlock = some j := by rw [e]; rfl
        rcases h.old4 with e4 | ⟨g, e4, hge⟩
        · rcases h.was4 with e5 | ⟨i, n', c', e5, e6⟩
          · rw [eb] at e4; rw [← e4] at e5; cases e5
          · rw [eb, e5] at e4
            injection e4 with e4
            subst e4
            exact .inr (.inl ⟨n', c', e6⟩)
        · rw [eb] at e4; injection e4 with e4; omega
      · have eb : w5.ownBlock = some j := by rw [e]; rfl
        rcases h.old5 with e4 | ⟨g, e4, hge⟩
        · rcases h.was5 with e5 | ⟨i, n', c', e5, e6⟩
          · rw [eb] at e4; rw [← e4] at e5; cases e5
          · rw [eb, e5] at e4
            injection e4 with e4
            subst e4
            exact .inr (.inr ⟨n', c', e6⟩)
        · rw [eb] at e4; injection e4 with e4; omega
end
end Go.Proofs.YtgjgcbemgmkncaaGreatDoor
