/-
  Layer 8: the iterator that All returns: it ranges over the iterator over the bytes of a copy.
-/
import Derived.Test.YtmcpfhhggapkcaaManyB
import Derived.Test.YtmcpfhhggapkcaaQuietRound
import Derived.Test.YtmcpfhhggapkcaaManyL
namespace Go.Proofs.Ytmcpfhhggapkcaa
open Go.RowKit Go.Shelf
set_option linter.unusedVariables false
set_option linter.unusedSimpArgs false
attribute [local go_sem] Oper.semAt_some

/-- What the caller of an iterator calls its own: its boxes, and whatever rows these lead to. -/
structure Owns (B : Nat) (own : World → Nat → Prop) : Prop where
  back : ∀ (W W' : World) (row : Option Nat) (k : Nat), B ≤ W.heap.size → W.grownBy W' row → (∀ r, row = some r → B ≤ r) → own W' k → own W k
/-- A round keeps whatever cells are not the caller's own. -/
structure KeepsO (own : World → Nat → Prop) (W W' : World) : Prop where
  size : W.heap.size ≤ W'.heap.size
  same : ∀ (k : Nat) (o : Obj), ¬ own W k → W.heap[k]? = some o → o.isCells = true → W'.heap[k]? = some o
  mine : ∀ k, k < W.heap.size → own W' k → own W k
theorem KeepsO.refl (own : World → Nat → Prop) (W : World) : KeepsO own W W := ⟨Nat.le_refl _, fun _ _ _ h _ => h, fun _ _ h => h⟩
theorem KeepsO.trans {own : World → Nat → Prop} {W1 W2 W3 : World} (h : KeepsO own W1 W2) (k : KeepsO own W2 W3) : KeepsO own W1 W3 :=
  ⟨Nat.le_trans h.size k.size, fun i o hi h1 h2 => k.same i o (fun e => hi (h.mine i (Array.getElem?_eq_some_iff.1 h1).1 e)) (h.same i o hi h1 h2) h2, fun i hi e => h.mine i hi (k.mine i (Nat.lt_of_lt_of_le hi h.size) e)⟩
theorem KeepsO.blk {own : World → Nat → Prop} {W W' : World} (h : KeepsO own W W') {g : Nat} {t : TypeId} {cs : Array Value} (hb : Blk W g t cs) (hg : ¬ own W g) : Blk W' g t cs := h.same g _ hg hb rfl
theorem KeepsO.grown {B : Nat} {own : World → Nat → Prop} (hO : Owns B own) {W W' : World} {row : Option Nat} (hB : B ≤ W.heap.size) (hg : W.grownBy W' row) (hr : ∀ r, row = some r → B ≤ r ∧ ∃ o : Obj, W.heap[r]? = some o ∧ o.isCells = false) : KeepsO own W W' :=
  ⟨hg.size, fun k o hk h1 h2 => (hg.block k (Array.getElem?_eq_some_iff.1 h1).1 (fun e => by obtain ⟨_, o2, h3, h4⟩ := hr k e.symm; rw [h1] at h3; injection h3 with h3; subst h3; rw [h2] at h4; cases h4)).trans h1, fun k hk e => hO.back W W' row k hB hg (fun r e => (hr r e).1) e⟩
theorem KeepsO.read {own : World → Nat → Prop} {W W' : World} (h : KeepsO own W W') {g gr room : Nat} {f : Kids} (hm : ReadAt W g gr room f) (h1 : ¬ own W g) (h2 : ¬ own W gr) : ReadAt W' g gr room f :=
  hm.keep fun k t cs hk hb => h.blk hb (by rcases hk with rfl | rfl <;> assumption)
theorem noDefer {ops : List Oper} (hd : ops.all (fun o => match o.op with | .defer _ => false | _ => true) = true) : ∀ (i : Nat) (o : Oper), ops.toArray[i]? = some o → ∀ c, o.op ≠ .defer c := by
  intro i o ho c hc
  have hm := List.mem_of_getElem? (show ops[i]? = some o by simpa using ho)
  have := List.all_eq_true.1 hd o hm
  rw [hc] at this
  cases this
theorem roundIn_wide {P : Program} {m m' l fn : Nat} {tmps : Array Value} {assign body : Code} {W : World} {R : Ending → World → Prop} (h : RoundIn Fence.wide m P l fn tmps assign body W R) : RoundIn Fence.wide m' P l fn tmps assign body W R :=
  ⟨trivial, fun c cs _ => h.2 c cs (room_wide _)⟩
theorem yieldAt_wide {P : Program} {m m' l : Nat} {args : Array Value} {W : World} {R : Ending → World → Prop} (h : YieldAt Fence.wide m P l args W R) : YieldAt Fence.wide m' P l args W R := by
  obtain ⟨fn, tmps, assign, body, hy, hR⟩ := h
  exact ⟨fn, tmps, assign, body, hy, roundIn_wide hR⟩
def kidB {f : Kids} (x : KidB f) : Kid := (x.1, (f x.1.val).getD (0, 0))
theorem kidB_eq {f : Kids} (x : KidB f) {r : Int × Int} (hr : f x.1.val = some r) : kidB x = (x.1, r) := by unfold kidB; rw [hr]; rfl
theorem bytesLo_kids (f : Kids) : ∀ k, k ≤ 256 → (bytesLo f 0 k).map kidB = ((List.finRange 256).take k).filterMap fun b => (f b.val).map fun r => (b, r)
  | 0, _ => rfl
  | k + 1, hk => by
    have ih := bytesLo_kids f k (by omega)
    rw [List.take_succ_eq_append_getElem (by simp; omega), List.filterMap_append, ← ih]
    have hg : (List.finRange 256)[k]'(by simp; omega) = (⟨k, by omega⟩ : Fin 256) := by simp
    rw [hg]
    cases hs : f k with
    | none => rw [bytesLo_no f 0 (by rw [hs]; rfl)]; simp [hs]
    | some r =>
      rw [bytesLo_yes f 0 (Nat.zero_le _) (by omega) (by rw [hs]; rfl)]
      simp [hs, kidB]
theorem bytesF_kids (f : Kids) : (bytesF f 0).map kidB = kidsF f := by
  have h := bytesLo_kids f 256 (Nat.le_refl _)
  rw [List.take_of_length_le (by simp)] at h
  exact h

set_option maxHeartbeats 3200000 in
set_option maxRecDepth 100000 in
theorem am_loop (b2 b3 g gr room Bf Bi B B0 l n : Nat) (own : World → Nat → Prop) (J Jx : List Kid → World → Prop) (f : Kids) {u0 u1 u4 u5 u6 u7 u8 u9 u10 u11 u12 u14 u15 u16 u17 u18 u19 u20 u21 u22 u23 u24 u25 u26 : Value} (V : World) {Q : Exit → Act → World → Prop}
    (hO : Owns B own) (hB : B ≤ V.heap.size) (hnot : ∀ k, B ≤ k → ¬ own V k) (hJ : OwnFrom V.heap.size J) (hJx : OwnFrom V.heap.size Jx) (hge : B ≤ b2 ∧ B ≤ b3 ∧ B ≤ g ∧ B ≤ gr ∧ B ≤ Bf ∧ B ≤ Bi)
    (hb2 : Blk V b2 73 #[.func (.yield l) #[] #[]]) (hb3 : Blk V b3 45 #[.pointer (some ⟨g, 0, none⟩)]) (hf : Blk V Bf 3 #[.int .i64 0]) (hi : Blk V Bi 82 #[.func (.func 44) #[.pointer (some ⟨g, 0, none⟩)] #[]]) (hR : ReadAt V g gr room f) (hB0 : B0 ≤ V.heap.size)
    (hY : ∀ pre x W1, J pre W1 → pre.length < 256 → YieldAt Fence.wide n Try.prog l (encK x) W1 fun e W' => KeepsFrom B0 W1 W' ∧ ((e = .returned (.bool true) ∧ J (pre ++ [x]) W' ∧ KeepsO own W1 W') ∨ (e = .returned (.bool false) ∧ Jx (pre ++ [x]) W'))) (h0 : J [] V)
    (hQ : ∀ (D : Nat) (W : World), V.heap.size ≤ D → J (kidsF f) W → W.heap[D]? = some (.deferred (some [])) → Q .normal ⟨#[u0, u1, .pointer (some ⟨b2, 0, none⟩), .pointer (some ⟨b3, 0, none⟩), u4, u5, u6, u7, u8, u9, u10, u11, u12, .func (.func 59) #[] #[.pointer (some ⟨Bf, 0, none⟩), .pointer (some ⟨Bi, 0, none⟩)], u14, u15, u16, u17, u18, u19, u20, u21, u22, u23, u24, u25, u26], [{ target := .collected D, args := #[] }]⟩ W)
    (hRt : ∀ (D : Nat) (pre : List Kid) (W : World), V.heap.size ≤ D → pre <+: kidsF f → Jx pre W → W.heap[D]? = some (.deferred (some [])) → Q .ret ⟨#[u0, u1, .pointer (some ⟨b2, 0, none⟩), .pointer (some ⟨b3, 0, none⟩), u4, u5, u6, u7, u8, u9, u10, u11, u12, .func (.func 59) #[] #[.pointer (some ⟨Bf, 0, none⟩), .pointer (some ⟨Bi, 0, none⟩)], u14, u15, u16, u17, u18, u19, u20, u21, u22, u23, u24, u25, u26], [{ target := .collected D, args := #[] }]⟩ W) :
    Code.wp Try.prog (part Try.f41 [1, 1, 1, 1]) Q ⟨#[u0, u1, .pointer (some ⟨b2, 0, none⟩), .pointer (some ⟨b3, 0, none⟩), u4, u5, u6, u7, u8, u9, u10, u11, u12, .func (.func 59) #[] #[.pointer (some ⟨Bf, 0, none⟩), .pointer (some ⟨Bi, 0, none⟩)], u14, u15, u16, u17, u18, u19, u20, u21, u22, u23, u24, u25, u26], []⟩ V := by
  conv => arg 2; whnf
  have HQ := Lib.hid (And.intro hQ hRt)
  have HY := Lib.hid hY
  have HOI := Lib.hid (And.intro hJ hJx)
  have HV := Lib.hid (And.intro hb2 (And.intro hb3 (And.intro hf (And.intro hi hR))))
  clear hQ hRt hY hJ hJx
  refine wp_block ?_
  refine (wpIn_wide (n := 10)).1 ?_
  refine wpIn_range_O rfl (by decide) (gf := 59) (lb := #[.pointer (some ⟨Bf, 0, none⟩), .pointer (some ⟨Bi, 0, none⟩)]) rfl trivial (enters_of Try.func59 (by kernel_rfl) rfl)
    (seqStopsK_O _ (bytes_stops Bf Bi g gr room 9 (fun k => B ≤ k ∧ k < V.heap.size) 0 f V ⟨⟨hge.2.2.2.2.1, hf.lt⟩, ⟨hge.2.2.2.2.2, hi.lt⟩, ⟨hge.2.2.1, hR.lt.1⟩, ⟨hge.2.2.2.1, hR.lt.2⟩⟩ (by decide) hf hi hR)) (fun h k => h.trans k) (fun W o o' h1 h2 h3 => KeepsC.book W _ o o' h1 h2) (Below.refl _ _) (fun _ => rfl)
    (fun pre W => J (pre.map kidB) W ∧ KeepsO own V W) (fun c pre W => c = .ret ∧ Jx (pre.map kidB) W)
    (fun s W W' row hs hg hr => ⟨HOI.out.1 _ W W' row hs.1 hg hr, hs.2.trans (KeepsO.grown hO (Nat.le_trans hB hs.2.size) hg (fun r e => ⟨Nat.le_trans hB (hr r e).1, (hr r e).2⟩))⟩) (fun c s W W' row hs hg hr => ⟨hs.1, HOI.out.2 _ W W' row hs.2 hg hr⟩) ⟨h0, KeepsO.refl _ _⟩
    (fun x a' W => a' = ⟨#[u0, u1, .pointer (some ⟨b2, 0, none⟩), .pointer (some ⟨b3, 0, none⟩), .int .i64 (x.1.val : Int), u5, u6, u7, u8, u9, u10, u11, u12, .func (.func 59) #[] #[.pointer (some ⟨Bf, 0, none⟩), .pointer (some ⟨Bi, 0, none⟩)], .int .i64 (x.1.val : Int), u15, u16, u17, u18, u19, u20, u21, u22, u23, u24, u25, u26], []⟩) (fun x a' s W W' row hs hg hr => hs) ?assign ?body ?done ?stop
  case assign =>
    rintro lr pre x W K hi2 hK
    have hfin : K ⟨#[u0, u1, .pointer (some ⟨b2, 0, none⟩), .pointer (some ⟨b3, 0, none⟩), .int .i64 (x.1.val : Int), u5, u6, u7, u8, u9, u10, u11, u12, .func (.func 59) #[] #[.pointer (some ⟨Bf, 0, none⟩), .pointer (some ⟨Bi, 0, none⟩)], .int .i64 (x.1.val : Int), u15, u16, u17, u18, u19, u20, u21, u22, u23, u24, u25, u26], []⟩ W := hK _ _ (KeepsFrom.refl _ _) (KeepsC.refl _ _) hi2 rfl
    have HF := Lib.hid hfin
    clear hfin hK
    gi_wp2
    exact HF.out
  case body =>
    rintro lr pre x a' W hl ⟨rec, hrec⟩ ⟨hj, hkO⟩ rfl hlen
    obtain ⟨r, hr⟩ := Option.isSome_iff_exists.1 x.2
    have q2 := hkO.blk HV.out.1 (hnot _ hge.1)
    have q3 := hkO.blk HV.out.2.1 (hnot _ hge.2.1)
    obtain ⟨o, o1, o2, o3, o4⟩ := hkO.read HV.out.2.2.2.2 (hnot _ hge.2.2.1) (hnot _ hge.2.2.2.1)
    obtain ⟨p, p1, p2, p3, p4⟩ := o1.some_ x.1.val r x.1.isLt hr
    obtain ⟨c1, c2⟩ := o2.ref p1
    rw [p4] at c1 c2
    have o2d : RBlk W.drew g gr room o := by obtain ⟨mc, rc, cap, z1, z2, z3⟩ := o2; exact ⟨mc, rc, cap, z1.drew, z2.drew, z3⟩
    have HREF := Lib.hid (rref g gr room o x.1.val p W.drew o2d x.1.isLt p1 o4 p2)
    have e2 : W.cell? ⟨b2, 0, none⟩ = some (.func (.yield l) #[] #[]) := q2.cell 0
    have e3 : W.cell? ⟨b3, 0, none⟩ = some (.pointer (some ⟨g, 0, none⟩)) := q3.cell 0
    have hx0 : (0 : Int) ≤ (x.1.val : Int) := by omega
    have hx1 : (x.1.val : Int) ≤ 255 := by have := x.1.isLt; omega
    have sw : IntKind.u8.wrap (x.1.val : Int) = (x.1.val : Int) := IntWalk.u8_in _ (by omega)
    have hYk : ∀ k, YieldAt Fence.wide 7 Try.prog l #[.int .u8 (x.1.val : Int), .agg #[.int .i64 r.1, .int .u32 r.2]] (W.drewN (1 + k)) (fun e W' => ∃ bb : Bool, e = .returned (.bool bb) ∧ Hid (KeepsFrom V.heap.size W W' ∧ (bb = true → KeepsC (fun k => B ≤ k ∧ k < V.heap.size) W W' ∧ J ((pre ++ [x]).map kidB) W' ∧ KeepsO own V W') ∧ (bb = false → Jx ((pre ++ [x]).map kidB) W'))) := fun k => by
      have hjd : J (pre.map kidB) (W.drewN (1 + k)) := HOI.out.1 _ W _ none hj ⟨rfl, rfl, rfl, Nat.le_refl _, fun _ _ _ => rfl⟩ (fun r e => by cases e)
      have hy := yieldAt_wide (m' := 7) (HY.out (pre.map kidB) (kidB x) _ hjd (by rw [List.length_map]; exact hlen))
      rw [show encK (kidB x) = #[.int .u8 (x.1.val : Int), .agg #[.int .i64 r.1, .int .u32 r.2]] by rw [kidB_eq x hr]] at hy
      have hkd : KeepsO own W (W.drewN (1 + k)) := KeepsO.grown hO (Nat.le_trans hB hkO.size) (row := none) ⟨rfl, rfl, rfl, Nat.le_refl _, fun _ _ _ => rfl⟩ (fun r e => by cases e)
      have hfd : KeepsFrom V.heap.size W (W.drewN (1 + k)) := ⟨Nat.le_refl _, fun _ _ _ h _ => h⟩
      refine hy.mono fun e W' h => ?_
      obtain ⟨hk1, h⟩ := h
      have hkf := hfd.trans (keepsFrom_le hk1 hB0)
      rcases h with ⟨rfl, h1, h2⟩ | ⟨rfl, h1⟩
      · refine ⟨true, rfl, Lib.hid ⟨hkf, fun _ => ⟨⟨(hkd.trans h2).size, fun k o hk h3 h4 => (hkd.trans h2).same k o (fun e => hnot k hk.1 (hkO.mine k hk.2 e)) h3 h4⟩, by rw [List.map_append]; exact h1, hkO.trans (hkd.trans h2)⟩, fun e => by cases e⟩⟩
      · exact ⟨false, rfl, Lib.hid ⟨hkf, fun e => by (cases e), fun _ => by rw [List.map_append]; exact h1⟩⟩
    have HYk := Lib.hid hYk
    have HX := Lib.hid (And.intro hj hkO)
    have hmix : Try.prog.follows .mixedOrders = true := by kernel_rfl
    have n1 : 1 ≤ 8 := by decide
    clear o1 o2 o3 o4 o2d p1 p2 p3 p4 hr hj hkO q2 q3 hYk
    gi_wp2_with (fail)
    refine wpIn_region_any hmix (wpAny_inRound lr ?hd _ _ _ _ ?_)
    case hd => exact noDefer (by kernel_rfl)
    refine wpAnyIn_take (i := 1) (v := ?_) rfl rfl (by kernel_rfl) (by kernel_rfl) (by kernel_rfl) (fun _ _ _ h => h) ⟨Or.inl ⟨by rfl, ?_⟩, fun _ => rfl⟩ ?_
    rotate_left
    · (intro w; go_simp <;> with_reducible rfl)
    try simp only [Act.put, List.setIfInBounds_toArray, List.set_cons_zero, List.set_cons_succ]
    refine wpAnyIn_take (i := 2) (v := ?_) rfl rfl (by kernel_rfl) (by kernel_rfl) (by kernel_rfl) (fun _ _ _ h => h) ⟨Or.inl ⟨by rfl, ?_⟩, fun _ => rfl⟩ ?_
    rotate_left
    · (intro w; go_simp <;> with_reducible rfl)
    try simp only [Act.put, List.setIfInBounds_toArray, List.set_cons_zero, List.set_cons_succ]
    refine wpAnyIn_take (i := 6) (v := ?_) rfl rfl (by kernel_rfl) (by kernel_rfl) (by kernel_rfl) (fun _ _ _ h => h) ⟨Or.inl ⟨by rfl, ?_⟩, fun _ => rfl⟩ ?_
    rotate_left
    · (intro w; go_simp <;> with_reducible rfl)
    try simp only [Act.put, List.setIfInBounds_toArray, List.set_cons_zero, List.set_cons_succ]
    refine wpAnyIn_ready (rs := [0, 3]) (by kernel_rfl) (by simp) ?_
    refine AllReadyIn.cons rfl (fun K hK => ?_) ?_
    · go_simp
      refine hK _ _ ?_
      clear hK K
      try simp only [Act.put, List.setIfInBounds_toArray, List.set_cons_zero, List.set_cons_succ]
      refine wpAnyIn_ready (rs := [3]) (by kernel_rfl) (by simp) ?_
      refine AllReadyIn.cons rfl (fun K hK => ?_) ?_
      · go_simp
        refine hK _ _ ?_
        clear hK K
        try simp only [Act.put, List.setIfInBounds_toArray, List.set_cons_zero, List.set_cons_succ]
        refine wpAnyIn_take (i := 4) (v := ?_) rfl rfl (by kernel_rfl) (by kernel_rfl) (by kernel_rfl) (fun _ _ _ h => h) ⟨Or.inl ⟨by rfl, ?_⟩, fun _ => rfl⟩ ?_
        rotate_left
        · (intro w; go_simp <;> with_reducible rfl)
        try simp only [Act.put, List.setIfInBounds_toArray, List.set_cons_zero, List.set_cons_succ]
        refine wpAnyIn_take (i := 5) (v := ?_) rfl rfl (by kernel_rfl) (by kernel_rfl) (by kernel_rfl) (fun _ _ _ h => h) ⟨Or.inl ⟨by rfl, ?_⟩, fun _ => rfl⟩ ?_
        rotate_left
        · (intro w; go_simp <;> with_reducible rfl)
        try simp only [Act.put, List.setIfInBounds_toArray, List.set_cons_zero, List.set_cons_succ]
        refine wpAnyIn_ready (rs := [7]) (by kernel_rfl) (by simp) ?_
        refine AllReadyIn.cons rfl (fun K hK => ?_) ?_
        · go_simp
          refine ⟨trivial, ?_⟩
          refine (callsIn_wide.2 HREF.out).mono ?_
          rintro e w3 ⟨rfl, k, rfl⟩
          obtain ⟨fn, tmps, assign, body, hy, hR⟩ := HYk.out k
          refine hK _ _ ?_
          clear hK K
          try simp only [Act.put, List.setIfInBounds_toArray, List.set_cons_zero, List.set_cons_succ]
          refine wpAnyIn_take (i := 8) (v := ?_) rfl rfl (by kernel_rfl) (by kernel_rfl) (by kernel_rfl) (fun _ _ _ h => h) ⟨Or.inl ⟨by rfl, ?_⟩, fun _ => rfl⟩ ?_
          rotate_left
          · (intro w; go_simp <;> with_reducible rfl)
          try simp only [Act.put, List.setIfInBounds_toArray, List.set_cons_zero, List.set_cons_succ]
          refine wpAnyIn_ready (rs := [9]) (by kernel_rfl) (by simp) ?_
          refine AllReadyIn.cons rfl (fun K hK => ?_) ?_
          · go_simp
            refine hK _ _ ?_
            clear hK K
            try simp only [Act.put, List.setIfInBounds_toArray, List.set_cons_zero, List.set_cons_succ]
            refine wpAnyIn_ready (rs := [10]) (by kernel_rfl) (by simp) ?_
            refine AllReadyIn.cons rfl (fun K hK => ?_) ?_
            · go_simp
              refine hR.mono ?_
              rintro e W3 ⟨bb, rfl, hP⟩
              clear hy hR
              refine hK _ _ ?_
              clear hK K
              try simp only [Act.put, List.setIfInBounds_toArray, List.set_cons_zero, List.set_cons_succ]
              refine wpAnyIn_take (i := 11) (v := ?_) rfl rfl (by kernel_rfl) (by kernel_rfl) (by kernel_rfl) (fun _ _ _ h => h) ⟨Or.inl ⟨by rfl, ?_⟩, fun _ => rfl⟩ ?_
              rotate_left
              · (intro w; go_simp <;> with_reducible rfl)
              try simp only [Act.put, List.setIfInBounds_toArray, List.set_cons_zero, List.set_cons_succ]
              refine wpAnyIn_done (by kernel_rfl) ?_ _
              refine (‹∀ (a : Act) (w : World), Code.wpIn _ _ _ (Code.cond _ _ _) _ a w → _› _ _ ?_)
              cases bb with
              | true =>
                have HP := Lib.hid (And.intro hP.out.1 (hP.out.2.1 rfl))
                clear hP
                gi_wp2
                exact ⟨HP.out.1, HP.out.2.1, HP.out.2.2⟩
              | false =>
                have HP := Lib.hid (And.intro hP.out.1 (hP.out.2.2 rfl))
                clear hP
                gi_wp2
                exact ⟨HP.out.1, rfl, HP.out.2⟩
            exact AllReadyIn.nil
          exact AllReadyIn.nil
        exact AllReadyIn.nil
      exact AllReadyIn.nil
    refine AllReadyIn.cons rfl (fun K hK => ?_) ?_
    · go_simp
      refine hK _ _ ?_
      clear hK K
      try simp only [Act.put, List.setIfInBounds_toArray, List.set_cons_zero, List.set_cons_succ]
      refine wpAnyIn_take (i := 4) (v := ?_) rfl rfl (by kernel_rfl) (by kernel_rfl) (by kernel_rfl) (fun _ _ _ h => h) ⟨Or.inl ⟨by rfl, ?_⟩, fun _ => rfl⟩ ?_
      rotate_left
      · (intro w; go_simp <;> with_reducible rfl)
      try simp only [Act.put, List.setIfInBounds_toArray, List.set_cons_zero, List.set_cons_succ]
      refine wpAnyIn_take (i := 5) (v := ?_) rfl rfl (by kernel_rfl) (by kernel_rfl) (by kernel_rfl) (fun _ _ _ h => h) ⟨Or.inl ⟨by rfl, ?_⟩, fun _ => rfl⟩ ?_
      rotate_left
      · (intro w; go_simp <;> with_reducible rfl)
      try simp only [Act.put, List.setIfInBounds_toArray, List.set_cons_zero, List.set_cons_succ]
      refine wpAnyIn_ready (rs := [0, 7]) (by kernel_rfl) (by simp) ?_
      refine AllReadyIn.cons rfl (fun K hK => ?_) ?_
      · go_simp
        refine hK _ _ ?_
        clear hK K
        try simp only [Act.put, List.setIfInBounds_toArray, List.set_cons_zero, List.set_cons_succ]
        refine wpAnyIn_ready (rs := [7]) (by kernel_rfl) (by simp) ?_
        refine AllReadyIn.cons rfl (fun K hK => ?_) ?_
        · go_simp
          refine ⟨trivial, ?_⟩
          refine (callsIn_wide.2 HREF.out).mono ?_
          rintro e w3 ⟨rfl, k, rfl⟩
          obtain ⟨fn, tmps, assign, body, hy, hR⟩ := HYk.out k
          refine hK _ _ ?_
          clear hK K
          try simp only [Act.put, List.setIfInBounds_toArray, List.set_cons_zero, List.set_cons_succ]
          refine wpAnyIn_take (i := 8) (v := ?_) rfl rfl (by kernel_rfl) (by kernel_rfl) (by kernel_rfl) (fun _ _ _ h => h) ⟨Or.inl ⟨by rfl, ?_⟩, fun _ => rfl⟩ ?_
          rotate_left
          · (intro w; go_simp <;> with_reducible rfl)
          try simp only [Act.put, List.setIfInBounds_toArray, List.set_cons_zero, List.set_cons_succ]
          refine wpAnyIn_ready (rs := [9]) (by kernel_rfl) (by simp) ?_
          refine AllReadyIn.cons rfl (fun K hK => ?_) ?_
          · go_simp
            refine hK _ _ ?_
            clear hK K
            try simp only [Act.put, List.setIfInBounds_toArray, List.set_cons_zero, List.set_cons_succ]
            refine wpAnyIn_ready (rs := [10]) (by kernel_rfl) (by simp) ?_
            refine AllReadyIn.cons rfl (fun K hK => ?_) ?_
            · go_simp
              refine hR.mono ?_
              rintro e W3 ⟨bb, rfl, hP⟩
              clear hy hR
              refine hK _ _ ?_
              clear hK K
              try simp only [Act.put, List.setIfInBounds_toArray, List.set_cons_zero, List.set_cons_succ]
              refine wpAnyIn_take (i := 11) (v := ?_) rfl rfl (by kernel_rfl) (by kernel_rfl) (by kernel_rfl) (fun _ _ _ h => h) ⟨Or.inl ⟨by rfl, ?_⟩, fun _ => rfl⟩ ?_
              rotate_left
              · (intro w; go_simp <;> with_reducible rfl)
              try simp only [Act.put, List.setIfInBounds_toArray, List.set_cons_zero, List.set_cons_succ]
              refine wpAnyIn_done (by kernel_rfl) ?_ _
              refine (‹∀ (a : Act) (w : World), Code.wpIn _ _ _ (Code.cond _ _ _) _ a w → _› _ _ ?_)
              cases bb with
              | true =>
                have HP := Lib.hid (And.intro hP.out.1 (hP.out.2.1 rfl))
                clear hP
                gi_wp2
                exact ⟨HP.out.1, HP.out.2.1, HP.out.2.2⟩
              | false =>
                have HP := Lib.hid (And.intro hP.out.1 (hP.out.2.2 rfl))
                clear hP
                gi_wp2
                exact ⟨HP.out.1, rfl, HP.out.2⟩
            exact AllReadyIn.nil
          exact AllReadyIn.nil
        exact AllReadyIn.nil
      refine AllReadyIn.cons rfl (fun K hK => ?_) ?_
      · go_simp
        refine ⟨trivial, ?_⟩
        refine (callsIn_wide.2 HREF.out).mono ?_
        rintro e w3 ⟨rfl, k, rfl⟩
        obtain ⟨fn, tmps, assign, body, hy, hR⟩ := HYk.out k
        refine hK _ _ ?_
        clear hK K
        try simp only [Act.put, List.setIfInBounds_toArray, List.set_cons_zero, List.set_cons_succ]
        refine wpAnyIn_take (i := 8) (v := ?_) rfl rfl (by kernel_rfl) (by kernel_rfl) (by kernel_rfl) (fun _ _ _ h => h) ⟨Or.inl ⟨by rfl, ?_⟩, fun _ => rfl⟩ ?_
        rotate_left
        · (intro w; go_simp <;> with_reducible rfl)
        try simp only [Act.put, List.setIfInBounds_toArray, List.set_cons_zero, List.set_cons_succ]
        refine wpAnyIn_ready (rs := [0, 9]) (by kernel_rfl) (by simp) ?_
        refine AllReadyIn.cons rfl (fun K hK => ?_) ?_
        · go_simp
          refine hK _ _ ?_
          clear hK K
          try simp only [Act.put, List.setIfInBounds_toArray, List.set_cons_zero, List.set_cons_succ]
          refine wpAnyIn_ready (rs := [9]) (by kernel_rfl) (by simp) ?_
          refine AllReadyIn.cons rfl (fun K hK => ?_) ?_
          · go_simp
            refine hK _ _ ?_
            clear hK K
            try simp only [Act.put, List.setIfInBounds_toArray, List.set_cons_zero, List.set_cons_succ]
            refine wpAnyIn_ready (rs := [10]) (by kernel_rfl) (by simp) ?_
            refine AllReadyIn.cons rfl (fun K hK => ?_) ?_
            · go_simp
              refine hR.mono ?_
              rintro e W3 ⟨bb, rfl, hP⟩
              clear hy hR
              refine hK _ _ ?_
              clear hK K
              try simp only [Act.put, List.setIfInBounds_toArray, List.set_cons_zero, List.set_cons_succ]
              refine wpAnyIn_take (i := 11) (v := ?_) rfl rfl (by kernel_rfl) (by kernel_rfl) (by kernel_rfl) (fun _ _ _ h => h) ⟨Or.inl ⟨by rfl, ?_⟩, fun _ => rfl⟩ ?_
              rotate_left
              · (intro w; go_simp <;> with_reducible rfl)
              try simp only [Act.put, List.setIfInBounds_toArray, List.set_cons_zero, List.set_cons_succ]
              refine wpAnyIn_done (by kernel_rfl) ?_ _
              refine (‹∀ (a : Act) (w : World), Code.wpIn _ _ _ (Code.cond _ _ _) _ a w → _› _ _ ?_)
              cases bb with
              | true =>
                have HP := Lib.hid (And.intro hP.out.1 (hP.out.2.1 rfl))
                clear hP
                gi_wp2
                exact ⟨HP.out.1, HP.out.2.1, HP.out.2.2⟩
              | false =>
                have HP := Lib.hid (And.intro hP.out.1 (hP.out.2.2 rfl))
                clear hP
                gi_wp2
                exact ⟨HP.out.1, rfl, HP.out.2⟩
            exact AllReadyIn.nil
          exact AllReadyIn.nil
        refine AllReadyIn.cons rfl (fun K hK => ?_) ?_
        · go_simp
          refine hK _ _ ?_
          clear hK K
          try simp only [Act.put, List.setIfInBounds_toArray, List.set_cons_zero, List.set_cons_succ]
          refine wpAnyIn_ready (rs := [0]) (by kernel_rfl) (by simp) ?_
          refine AllReadyIn.cons rfl (fun K hK => ?_) ?_
          · go_simp
            refine hK _ _ ?_
            clear hK K
            try simp only [Act.put, List.setIfInBounds_toArray, List.set_cons_zero, List.set_cons_succ]
            refine wpAnyIn_ready (rs := [10]) (by kernel_rfl) (by simp) ?_
            refine AllReadyIn.cons rfl (fun K hK => ?_) ?_
            · go_simp
              refine hR.mono ?_
              rintro e W3 ⟨bb, rfl, hP⟩
              clear hy hR
              refine hK _ _ ?_
              clear hK K
              try simp only [Act.put, List.setIfInBounds_toArray, List.set_cons_zero, List.set_cons_succ]
              refine wpAnyIn_take (i := 11) (v := ?_) rfl rfl (by kernel_rfl) (by kernel_rfl) (by kernel_rfl) (fun _ _ _ h => h) ⟨Or.inl ⟨by rfl, ?_⟩, fun _ => rfl⟩ ?_
              rotate_left
              · (intro w; go_simp <;> with_reducible rfl)
              try simp only [Act.put, List.setIfInBounds_toArray, List.set_cons_zero, List.set_cons_succ]
              refine wpAnyIn_done (by kernel_rfl) ?_ _
              refine (‹∀ (a : Act) (w : World), Code.wpIn _ _ _ (Code.cond _ _ _) _ a w → _› _ _ ?_)
              cases bb with
              | true =>
                have HP := Lib.hid (And.intro hP.out.1 (hP.out.2.1 rfl))
                clear hP
                gi_wp2
                exact ⟨HP.out.1, HP.out.2.1, HP.out.2.2⟩
              | false =>
                have HP := Lib.hid (And.intro hP.out.1 (hP.out.2.2 rfl))
                clear hP
                gi_wp2
                exact ⟨HP.out.1, rfl, HP.out.2⟩
            exact AllReadyIn.nil
          exact AllReadyIn.nil
        exact AllReadyIn.nil
      exact AllReadyIn.nil
    exact AllReadyIn.nil
  case done =>
    rintro D xs W hD hxs ⟨h1, h2⟩ hk
    rw [hxs, show (max (0 : Int) 0).toNat = 0 from rfl, bytesF_kids] at h1
    exact HQ.out.1 D W hD h1 hk
  case stop =>
    rintro D c pre W hD hsp ⟨rfl, hx⟩ hk
    rw [show (max (0 : Int) 0).toNat = 0 from rfl] at hsp
    have hp : pre.map kidB <+: kidsF f := by rw [← bytesF_kids]; exact hsp.map _
    have HF := Lib.hid (HQ.out.2 D (pre.map kidB) W hD hp hx hk)
    gi_wp2
    exact HF.out
/-- All's value: a closure over a box. -/
theorem All_m (p : Option Addr) (w : World) : Calls Try.prog 19 #[.pointer p] w fun e w' => e = .returned (.func (.func 41) #[] #[.pointer (some ⟨w.heap.size, 0, none⟩)]) ∧ w' = w.alloc (.cells #[.pointer p] 45) := by
  go_enter Try.func19, Try.ntmps19
  go_wp2
  go_ret
  exact ⟨rfl, rfl⟩
theorem am_end {W V : World} {J : List Kid → World → Prop} {xs : List Kid} {D : Nat} (hJ : OwnFrom W.heap.size J) (hj : J xs V) (hD : W.heap.size ≤ D) (hd : V.heap[D]? = some (.deferred (some []))) : J xs (V.putObj D (.deferred none)) := hJ.putObj (.deferred none) hj hD hd rfl
set_option maxHeartbeats 3200000 in
set_option maxRecDepth 100000 in
theorem all_m_stops (Bs g gr gu room n B0 : Nat) (own : World → Nat → Prop) (f : Kids) (w : World) (hO : Owns w.heap.size own) (hlt : ∀ k, own w k → k < w.heap.size) (hc : w.cell? ⟨Bs, 0, none⟩ = some (.pointer (some ⟨g, 0, none⟩))) (hf : ManyAt w g gr gu room f) :
    SeqStopsO Fence.wide n Try.prog 41 #[.pointer (some ⟨Bs, 0, none⟩)] encK (KeepsO own) (fun ys => ys = kidsF f) (fun pre => pre <+: kidsF f) 256 w B0 := fun l J Jx W hW hsz hJ hJx hY h0 => by
  have hBs : Bs < w.heap.size := World.block_lt_of_cell? w _ hc
  have hc1 := (hW.cell (p := ⟨Bs, 0, none⟩) hBs).trans hc
  have hc2 : (W.alloc (.cells #[.func (.yield l) #[] #[]] 73)).cell? ⟨Bs, 0, none⟩ = some (.pointer (some ⟨g, 0, none⟩)) := (((Below.refl _ W).alloc (Nat.le_refl _) _).cell (p := ⟨Bs, 0, none⟩) (Nat.lt_of_lt_of_le hBs hW.size)).trans hc1
  have HC := Lib.hid (Copy_m g gr gu room f (W.alloc (.cells #[.func (.yield l) #[] #[]] 73)) ((hf.below hW).below (below_box W _)))
  have HJ := Lib.hid (And.intro hJ (And.intro hJx (And.intro hY h0)))
  have HW := Lib.hid (And.intro hW (And.intro hsz (And.intro hO hlt)))
  clear hJ hJx hY h0 hf hc hc1 hlt hO hsz hW
  refine (callsIn_wide (n := n)).2 ((callsIn_wide (n := 10)).1 (callsIn_of_wp_marks Try.func41 rfl trivial (wpIn_wide.2 ?_) rfl))
  simp only [Try.ntmps41, List.size_toArray, List.length_cons, List.length_nil, Nat.reduceAdd, Nat.reduceSub, Array.replicate_succ, Array.replicate_zero, List.push_toArray, List.append_toArray, List.nil_append, List.cons_append]
  refine wp_seq_k fun K0 hK => ?_
  have HK0 := Lib.hid hK
  clear hK
  go_wp2_with fail
  refine HK0.out _ _ ?_
  clear HK0
  refine wp_seq_k fun K1 hK => ?_
  have HK1 := Lib.hid hK
  clear hK
  go_wp2_with fail
  refine HC.out.mono ?_
  rintro e w2 ⟨g', gr', rfl, hR, hg1, hg2, hb⟩
  have HB := Lib.hid (And.intro hR (And.intro hg1 (And.intro hg2 hb)))
  clear hR hg1 hg2 hb HC hc2
  go_wp2_with fail
  refine HK1.out _ _ ?_
  clear HK1
  have k3 := Blk.new w2 45 #[.pointer (some ⟨g', 0, none⟩)]
  have e3 := k3.cell 0
  simp at e3
  refine wp_seq_k fun K2 hK => ?_
  have HK2 := Lib.hid hK
  clear hK
  go_wp2_with fail
  refine HK2.out _ _ ?_
  clear HK2
  refine wp_seq_k fun K3 hK => ?_
  have HK3 := Lib.hid hK
  clear hK
  go_wp2_with fail
  refine (bytes_any 0 (.func (.func 44) #[.pointer (some ⟨g', 0, none⟩)] #[]) ⟨_, _, _, rfl⟩ (w2.alloc (.cells #[.pointer (some ⟨g', 0, none⟩)] 45))).mono ?_
  rintro e w3 ⟨rfl, rfl⟩
  go_wp2_with fail
  refine HK3.out _ _ ?_
  clear HK3 e3
  obtain ⟨hR, hg1, hg2, hb⟩ := HB.out
  obtain ⟨hW, hsz, hO, hlt⟩ := HW.out
  obtain ⟨hJ, hJx, hY, h0⟩ := HJ.out
  have hwW : w.heap.size ≤ W.heap.size := hW.size
  have b1 : Below W.heap.size W w2 := (below_box W _).trans (hb.mono (by simp))
  have b2 := b1.alloc b1.size (.cells #[.pointer (some ⟨g', 0, none⟩)] 45)
  have b3 := b2.alloc b2.size (.cells #[.int .i64 0] 3)
  have b4 := b3.alloc b3.size (.cells #[.func (.func 44) #[.pointer (some ⟨g', 0, none⟩)] #[]] 82)
  have z1 := b1.size
  have q2 := ((((Blk.new W 73 #[.func (.yield l) #[] #[]]).below hb (by simp)).alloc (.cells #[.pointer (some ⟨g', 0, none⟩)] 45)).alloc (.cells #[.int .i64 0] 3)).alloc (.cells #[.func (.func 44) #[.pointer (some ⟨g', 0, none⟩)] #[]] 82)
  have q3 := (k3.alloc (.cells #[.int .i64 0] 3)).alloc (.cells #[.func (.func 44) #[.pointer (some ⟨g', 0, none⟩)] #[]] 82)
  have q4 := (Blk.new (w2.alloc (.cells #[.pointer (some ⟨g', 0, none⟩)] 45)) 3 #[.int .i64 0]).alloc (.cells #[.func (.func 44) #[.pointer (some ⟨g', 0, none⟩)] #[]] 82)
  have q5 := Blk.new ((w2.alloc (.cells #[.pointer (some ⟨g', 0, none⟩)] 45)).alloc (.cells #[.int .i64 0] 3)) 82 #[.func (.func 44) #[.pointer (some ⟨g', 0, none⟩)] #[]]
  rw [show (w2.alloc (.cells #[.pointer (some ⟨g', 0, none⟩)] 45)).heap.size = w2.heap.size + 1 by simp] at q4
  rw [show ((w2.alloc (.cells #[.pointer (some ⟨g', 0, none⟩)] 45)).alloc (.cells #[.int .i64 0] 3)).heap.size = w2.heap.size + 2 by simp] at q5
  have r1 : Below w2.heap.size w2 _ := (((Below.refl _ w2).alloc (Nat.le_refl _) (.cells #[.pointer (some ⟨g', 0, none⟩)] 45)).alloc (by simp) (.cells #[.int .i64 0] 3)).alloc (by simp; omega) (.cells #[.func (.func 44) #[.pointer (some ⟨g', 0, none⟩)] #[]] 82)
  have hRV := hR.below r1
  simp only [World.size_alloc] at hg1 hg2
  have hj4 := hJ [] W _ none h0 (World.grownBy_of_below b4) (fun r e => by cases e)
  have hown : ∀ k, w.heap.size ≤ k → ¬ own (((w2.alloc (.cells #[.pointer (some ⟨g', 0, none⟩)] 45)).alloc (.cells #[.int .i64 0] 3)).alloc (.cells #[.func (.func 44) #[.pointer (some ⟨g', 0, none⟩)] #[]] 82)) k := by
    intro k hk e
    have e1 := hO.back W _ none k hwW (World.grownBy_of_below b4) (fun r e => by cases e) e
    have e2 := hO.back w W none k (Nat.le_refl _) (World.grownBy_of_below hW) (fun r e => by cases e) e1
    have := hlt k e2
    omega
  have hlo : W.heap.size ≤ (((w2.alloc (.cells #[.pointer (some ⟨g', 0, none⟩)] 45)).alloc (.cells #[.int .i64 0] 3)).alloc (.cells #[.func (.func 44) #[.pointer (some ⟨g', 0, none⟩)] #[]] 82)).heap.size := b4.size
  clear b1 b2 b3 b4 r1 k3
  generalize ((w2.alloc (.cells #[.pointer (some ⟨g', 0, none⟩)] 45)).alloc (.cells #[.int .i64 0] 3)).alloc (.cells #[.func (.func 44) #[.pointer (some ⟨g', 0, none⟩)] #[]] 82) = V at q2 q3 q4 q5 hRV hj4 hown hlo ⊢
  have mono : ∀ {J' : List Kid → World → Prop}, OwnFrom W.heap.size J' → OwnFrom V.heap.size J' := fun hJ' s A B row hs hg hr => hJ' s A B row hs hg (fun r e => ⟨Nat.le_trans hlo (hr r e).1, (hr r e).2⟩)
  refine am_loop W.heap.size w2.heap.size g' gr' room (w2.heap.size + 1) (w2.heap.size + 2) w.heap.size B0 l (n - 1) own J Jx f V hO (Nat.le_trans hwW hlo) hown (mono hJ) (mono hJx) ⟨hwW, by omega, by omega, by omega, by omega, by omega⟩ q2 q3 q4 q5 hRV (Nat.le_trans hsz hlo) hY hj4 ?_ ?_
  · intro D X hD hj hd
    refine ⟨by simp, .inl ⟨_, _, rfl, run_takeDeferred hd, ?_⟩⟩
    exact ⟨_, results_none rfl _ _ _, ⟨_, rfl⟩, .inl ⟨_, rfl, am_end hJ hj (Nat.le_trans hlo hD) hd⟩⟩
  · intro D pre X hD hp hj hd
    refine ⟨by simp, .inl ⟨_, _, rfl, run_takeDeferred hd, ?_⟩⟩
    exact ⟨_, results_none rfl _ _ _, ⟨_, rfl⟩, .inr ⟨_, hp, am_end hJx hj (Nat.le_trans hlo hD) hd⟩⟩
end Go.Proofs.Ytmcpfhhggapkcaa
