/-
  Layer 9: of's range over the kids.
  Layer 9: of.
  Layer 9: of.
  Layer 9: kind; what Add and Cut make (no program in sight but for kind).
  Layer 9: Add.
  Layer 9: Add, whole.
  Layer 9: Cut.
  Layer 9: Cut, whole.
  Layer 9: nodes made of kids (no program in sight).
-/
import Derived.Test.YtgjgcbemgmkncaaGreatDoorPc
namespace Go.Proofs.YtgjgcbemgmkncaaGreatDoor
open Go.RowKit Go.Shelf
set_option linter.unusedVariables false
set_option maxRecDepth 20000
set_option linter.unusedSimpArgs false
attribute [local go_sem] Oper.semAt_some

theorem infoRef3 : (Tryz.prog.info? 29).map (fun i => (i.zero, i.size, i.bytes)) = some (some (.agg #[.int .i64 0, .int .u32 0]), 2, 16) := by kernel_rfl
def rowR (l : List Kid) : List Value := l.flatMap fun x => rrow x.2
theorem rowR_snoc (l : List Kid) (x : Kid) : rowR (l ++ [x]) = rowR l ++ [.int .i64 x.2.1, .int .u32 x.2.2] := by simp [rowR, rrow]
theorem cell_list_blk {W : World} {g : Nat} {t : TypeId} {l : List Value} (h : Blk W g t l.toArray) : ∀ j u, l[j]? = some u → W.cell? ((⟨g, 0, none⟩ : Addr).add j) = some u := by
  intro j u hu
  rw [Addr.add_lit, Nat.zero_add]
  exact (h.cell j).trans (by rw [List.getElem?_toArray]; exact hu)
theorem own_was {W : World} {base size n : Nat} {e : TypeId} {v : Value} {xs : List Value} (h : W.ownsRow base e size v n xs) : v.ownBlock = none ∨ ∃ i n c, v.ownBlock = some i ∧ v = .slice (some ⟨i, 0, none⟩) n c := by
  cases hv : v.ownBlock with
  | none => exact .inl rfl
  | some g => obtain ⟨n, c, e⟩ := own_slice h hv; exact .inr ⟨g, n, c, rfl, e⟩
/-- Between two rounds. -/
def OfI (lo b7 : Nat) (R : World → Prop) (k : Int) (p : ByteArray) (pre : List Kid) (W : World) : Prop :=
  (∃ v4 v5, Blk W b7 26 (outC k p v4 v5) ∧ W.ownsRow lo 5 1 v4 pre.length (rowB pre) ∧ W.ownsRow lo 29 2 v5 pre.length (rowR pre)) ∧ R W ∧ lo ≤ W.heap.size
theorem ofI_own {lo b7 : Nat} {R : World → Prop} {k : Int} {p : ByteArray} (hR : Stays lo b7 R) : OwnFrom lo (OfI lo b7 R k p) := by
  intro s W W' row hs hg hr
  obtain ⟨⟨v4, v5, h1, h2, h3⟩, h4, h5⟩ := hs
  have hr' := fun r e => (hr r e).2
  exact ⟨⟨v4, v5, h1.own_ hg hr', ownsRow_own h2 hg hr', ownsRow_own h3 hg hr'⟩, hR W W' row h4 hg (fun r e => .inl (hr r e).1), Nat.le_trans h5 hg.size⟩
theorem ofI_alloc {lo b7 : Nat} {R : World → Prop} {k : Int} {p : ByteArray} (hR : Stays lo b7 R) {pre : List Kid} {W : World} (h : OfI lo b7 R k p pre W) (o : Obj) : OfI lo b7 R k p pre (W.alloc o) := by
  obtain ⟨⟨v4, v5, h1, h2, h3⟩, h4, h5⟩ := h
  exact ⟨⟨v4, v5, h1.alloc o, h2.alloc o, h3.alloc o⟩, hR.alloc h4 o, Nat.le_trans h5 (by simp)⟩
/-- What the body is told of its variables. -/
def OfA (x : Kid) (lo b7 : Nat) (mk : Nat → Act) (a' : Act) (W : World) : Prop := ∃ B9, lo ≤ B9 ∧ B9 < W.heap.size ∧ a' = mk B9 ∧ Blk W B9 29 #[.int .i64 x.2.1, .int .u32 x.2.2] ∧ (∀ n c, W.cell? ⟨b7, 5, none⟩ ≠ some (.slice (some ⟨B9, 0, none⟩) n c)) ∧ ∃ v, W.cell? ⟨b7, 5, none⟩ = some v
theorem keepsO_below {B b : Nat} (hb : b < B) {W W' : World} (hB : B ≤ W.heap.size) (h : Below W.heap.size W W') : KeepsO (ofOwn b) W W' := KeepsO.grown (ofOwn_owns hb) hB (World.grownBy_of_below h) (fun r e => by cases e)

set_option maxHeartbeats 6400000 in
set_option maxRecDepth 100000 in
theorem of_loop (gf N b7 : Nat) (lb : Array Value) (k : Int) (p : ByteArray) (f : Kids) {u0 u1 u2 u3 u4 u5 u6 u8 u9 u10 u11 u12 u13 u14 u15 u17 u18 u19 u20 u21 u22 u23 u24 u25 u26 u27 u28 u29 u30 u31 : Value} (wx : World) {ds : List Deferred} {Q : Exit → Act → World → Prop} (R : World → Prop) (hR : Stays wx.heap.size b7 R) (hR0 : R wx) (hN : N ≤ 256)
    (eg : ∀ args w, (callFunc gf args).run Tryz.prog w = .ok (.enter gf args) w) (hseq : SeqStopsO Fence.wide 9 Tryz.prog gf lb encK (KeepsO (ofOwn b7)) (fun ys => ys = kidsF f) (fun pre => pre <+: kidsF f) N wx (wx.heap.size + 2))
    (h7 : Blk wx b7 26 (outC k p (.slice none 0 0) (.slice none 0 0)))
    (hQ : ∀ (D : Nat) (v4 v5 : Value) (W : World), wx.heap.size ≤ D → Blk W b7 26 (outC k p v4 v5) → W.ownsRow wx.heap.size 5 1 v4 (kidsF f).length (rowB (kidsF f)) → W.ownsRow wx.heap.size 29 2 v5 (kidsF f).length (rowR (kidsF f)) → R W → wx.heap.size ≤ W.heap.size → W.heap[D]? = some (.deferred (some [])) → Q .normal ⟨#[u0, u1, u2, u3, u4, u5, u6, .pointer (some ⟨b7, 0, none⟩), u8, u9, u10, u11, u12, u13, u14, u15, .func (.func gf) #[] lb, u17, u18, u19, u20, u21, u22, u23, u24, u25, u26, u27, u28, u29, u30, u31], { target := .collected D, args := #[] } :: ds⟩ W) :
    Code.wp Tryz.prog (part Tryz.f42 [1, 1, 0, 1]) Q ⟨#[u0, u1, u2, u3, u4, u5, u6, .pointer (some ⟨b7, 0, none⟩), u8, u9, u10, u11, u12, u13, u14, u15, .func (.func gf) #[] lb, u17, u18, u19, u20, u21, u22, u23, u24, u25, u26, u27, u28, u29, u30, u31], ds⟩ wx := by
  conv => arg 2; whnf
  obtain ⟨i0, hi, hz0, hz1, hz2⟩ := info_parts infoU8o
  obtain ⟨j0, hj, hj0, hj1, hj2⟩ := info_parts infoRef3
  have HQ := Lib.hid hQ
  have h7lt := h7.lt
  clear hQ
  refine wp_block ?_
  refine (wpIn_wide (n := 10)).1 ?_
  refine wpIn_range_O rfl (by decide) (gf := gf) (lb := lb) rfl trivial eg hseq (fun h k => h.trans k) (fun W o o' h1 h2 h3 => ?kb) (Below.refl _ _) (fun _ => rfl)
    (OfI wx.heap.size b7 R k p) (fun _ pre W => ¬ (pre <+: kidsF f)) (ofI_own hR) (fun c s W W' row hs hg hr => hs) ⟨⟨_, _, h7, World.ownsRow_nil _ _ _ _, World.ownsRow_nil _ _ _ _⟩, hR0, Nat.le_refl _⟩
    (fun x a' W => OfA x wx.heap.size b7 (fun B9 => ⟨#[u0, u1, u2, u3, u4, u5, u6, .pointer (some ⟨b7, 0, none⟩), .int .u8 (x.1.val : Int), .pointer (some ⟨B9, 0, none⟩), u10, u11, u12, u13, u14, u15, .func (.func gf) #[] lb, .int .u8 (x.1.val : Int), refV x.2, u19, u20, u21, u22, u23, u24, u25, u26, u27, u28, u29, u30, u31], []⟩) a' W) (fun x a' s W W' row hs hg hr => ?own) ?assign ?body ?done ?stop
  case kb =>
    have hl := (Array.getElem?_eq_some_iff.1 h1).1
    have hg : W.grownBy (W.putObj (wx.heap.size + 1) o') (some (wx.heap.size + 1)) := grownBy_putObj' W _ o'
    exact KeepsO.grown (ofOwn_owns h7lt) (by omega) hg (fun r e => by injection e with e; subst e; exact ⟨by omega, o, h1, h2⟩)
  case own =>
    obtain ⟨B9, hb, hbl, he, hk, hn, v, hv⟩ := hs
    have hc := grown_cell hg (b := b7) (World.block_lt_of_cell? W _ hv) (fun e => by have := (hr _ e).1; omega) 5
    exact ⟨B9, hb, Nat.lt_of_lt_of_le hbl hg.size, he, hk.own_ hg (fun r e => (hr r e).2), by rw [hc]; exact hn, v, hc.trans hv⟩
  case assign =>
    rintro l pre x W K hi2 hK
    have hsz := hi2.2.2
    obtain ⟨v4, v5, q1, q2, q3⟩ := hi2.1
    have e5 : (W.alloc (.cells #[.int .i64 x.2.1, .int .u32 x.2.2] 29)).cell? ⟨b7, 5, none⟩ = some v5 := (q1.alloc _).cell 5
    have hne : ∀ n c, (W.alloc (.cells #[.int .i64 x.2.1, .int .u32 x.2.2] 29)).cell? ⟨b7, 5, none⟩ ≠ some (.slice (some ⟨W.heap.size, 0, none⟩) n c) := fun n c e => by
      rw [e5] at e
      injection e with e
      have := (q3.lt W.heap.size (by rw [e]; rfl)).2
      omega
    have hfin : K ⟨#[u0, u1, u2, u3, u4, u5, u6, .pointer (some ⟨b7, 0, none⟩), .int .u8 (x.1.val : Int), .pointer (some ⟨W.heap.size, 0, none⟩), u10, u11, u12, u13, u14, u15, .func (.func gf) #[] lb, .int .u8 (x.1.val : Int), refV x.2, u19, u20, u21, u22, u23, u24, u25, u26, u27, u28, u29, u30, u31], []⟩ (W.alloc (.cells #[.int .i64 x.2.1, .int .u32 x.2.2] 29)) :=
      hK _ _ ((KeepsOthers.alloc W _).from _) (keepsO_below h7lt hsz (below_box W _)) (ofI_alloc hR hi2 _) ⟨W.heap.size, hsz, by simp, rfl, Blk.new _ _ _, hne, v5, e5⟩
    have HF := Lib.hid hfin
    clear hfin hK e5 hne q1 q2 q3 hi2
    gi_wp2
    exact HF.out
  case body =>
    rintro l pre x a' W hl ⟨rec, hrec⟩ ⟨⟨v4, v5, q1, q2, q3⟩, hRW, hsz⟩ ⟨b9, hB9, hB9l, rfl, hk9, hn9, _⟩ hlen
    have hx0 : (0 : Int) ≤ (x.1.val : Int) := by omega
    have hx1 : (x.1.val : Int) ≤ 255 := by have := x.1.isLt; omega
    have P0 : OfP wx.heap.size b7 b9 R k p x.2 v4 v5 v4 v5 pre.length pre.length (rowB pre) (rowR pre) W W.drew := OfP.drew hR ⟨q1, q1, hk9, hRW, Nat.le_refl _, hsz, h7lt, KeepsFrom.refl _ _, fun _ _ _ h _ => h, q2, q3, .inl rfl, .inl rfl, own_was q2, own_was q3, fun g hg e => by
      obtain ⟨n, c, e2⟩ := own_slice q3 hg
      subst e
      exact hn9 n c ((q1.cell 5).trans (by rw [← e2]; rfl)), hB9l⟩
    have hmix : Tryz.prog.follows .mixedOrders = true := by kernel_rfl
    clear q1 q2 q3 hRW hk9 hn9 h7 hR0 hseq
    gi_wp2_with (fail)
    refine wpIn_region_L_round l 11 (fun V : World => V.cell? ⟨b7, 4, none⟩ = some v4 ∧ V.cell? ⟨b7, 5, none⟩ = some v5 ∧ V.cell? ⟨b9, 0, none⟩ = some (.int .i64 x.2.1) ∧ V.cell? ⟨b9, 1, none⟩ = some (.int .u32 x.2.2)) (fun hh => by obtain ⟨_, _, h⟩ := hh; exact h) hmix (by kernel_rfl) ?_
    refine wpAnyL_take (i := 0) (v := ?_) rfl (by kernel_rfl) (by kernel_rfl) (by kernel_rfl) (by kernel_rfl) (fun _ _ _ h => h) (Or.inl ⟨by rfl, ?_⟩) P0.cells ?_
    rotate_left
    · (intro w hSw; (try dsimp only at hSw); go_simp <;> with_reducible rfl)
    try simp only [Act.put, List.setIfInBounds_toArray, List.set_cons_zero, List.set_cons_succ]
    refine wpAnyL_take (i := 1) (v := ?_) rfl (by kernel_rfl) (by kernel_rfl) (by kernel_rfl) (by kernel_rfl) (fun _ _ _ h => h) (Or.inl ⟨by rfl, ?_⟩) P0.cells ?_
    rotate_left
    · (intro w hSw; (try dsimp only at hSw); go_simp <;> with_reducible rfl)
    try simp only [Act.put, List.setIfInBounds_toArray, List.set_cons_zero, List.set_cons_succ]
    refine wpAnyL_take (i := 2) (v := ?_) rfl (by kernel_rfl) (by kernel_rfl) (by kernel_rfl) (by kernel_rfl) (fun _ _ _ h => h) (Or.inl ⟨by rfl, ?_⟩) P0.cells ?_
    rotate_left
    · (intro w hSw; (try dsimp only at hSw); go_simp <;> with_reducible rfl)
    try simp only [Act.put, List.setIfInBounds_toArray, List.set_cons_zero, List.set_cons_succ]
    refine wpAnyL_take (i := 5) (v := ?_) rfl (by kernel_rfl) (by kernel_rfl) (by kernel_rfl) (by kernel_rfl) (fun _ _ _ h => h) (Or.inl ⟨by rfl, ?_⟩) P0.cells ?_
    rotate_left
    · (intro w hSw; (try dsimp only at hSw); go_simp <;> with_reducible rfl)
    try simp only [Act.put, List.setIfInBounds_toArray, List.set_cons_zero, List.set_cons_succ]
    refine wpAnyL_take (i := 6) (v := ?_) rfl (by kernel_rfl) (by kernel_rfl) (by kernel_rfl) (by kernel_rfl) (fun _ _ _ h => h) (Or.inl ⟨by rfl, ?_⟩) P0.cells ?_
    rotate_left
    · (intro w hSw; (try dsimp only at hSw); go_simp <;> with_reducible rfl)
    try simp only [Act.put, List.setIfInBounds_toArray, List.set_cons_zero, List.set_cons_succ]
    refine wpAnyL_take (i := 7) (v := ?_) rfl (by kernel_rfl) (by kernel_rfl) (by kernel_rfl) (by kernel_rfl) (fun _ _ _ h => h) (Or.inl ⟨by rfl, ?_⟩) P0.cells ?_
    rotate_left
    · (intro w hSw; (try dsimp only at hSw); go_simp <;> with_reducible rfl)
    try simp only [Act.put, List.setIfInBounds_toArray, List.set_cons_zero, List.set_cons_succ]
    refine wpAnyL_ready (rs := [3, 8]) (by kernel_rfl) (by simp) ?_
    refine AllL.cons rfl (fun K hK => ?_) ?_
    · go_simp
      have P1 := P0.alloc hR (.cells #[.int .u8 (x.1.val : Int)] 5)
      have T1 : Blk ((W.drew).alloc (.cells #[.int .u8 (x.1.val : Int)] 5)) (W.heap.size) 5 #[.int .u8 (x.1.val : Int)] := by have q := Blk.new (W.drew) 5 #[.int .u8 (x.1.val : Int)]; first | exact q | (rw [World.size_alloc] at q; exact q)
      refine hK.out _ _ (fun _ => P1.cells) ?_
      clear hK K
      try simp only [Act.put, List.setIfInBounds_toArray, List.set_cons_zero, List.set_cons_succ]
      refine wpAnyL_ready (rs := [4, 8]) (by kernel_rfl) (by simp) ?_
      refine AllL.cons rfl (fun K hK => ?_) ?_
      · rw [if_pos (by kernel_rfl)]
        refine wp_append_fresh _ (.tmp 20) (.tmp 22) 23 rfl wx.heap.size 5 i0 (.int .u8 0) 1 1 Tryz.underlying23 hi hz0 hz1 hz2 rfl (by decide) v4 pre.length (rowB pre) rfl P1.row4 ⟨W.heap.size, 0, none⟩ 1 1 [.int .u8 (x.1.val : Int)] rfl rfl (cell_list_blk T1) (by simp [Value.oneCell']) (by decide) (by unfold maxLen; omega) (by omega) (Nat.le_trans P1.lo_ P1.size) ?_
        intro w4 W2 ho hg hf
        obtain ⟨g4, c4, rfl⟩ := ownsRow_succ ho
        have P2 := P1.app4 hR ho hg hf
        clear ho hg hf
        refine hK.out _ _ (fun _ => P2.cells) ?_
        clear hK K
        try simp only [Act.put, List.setIfInBounds_toArray, List.set_cons_zero, List.set_cons_succ]
        refine wpAnyL_take (i := 10) (v := ?_) rfl (by kernel_rfl) (by kernel_rfl) (by kernel_rfl) (by kernel_rfl) (fun _ _ _ h => h) (Or.inl ⟨by rfl, ?_⟩) P2.cells ?_
        rotate_left
        · (intro w hSw; (try dsimp only at hSw); go_simp <;> with_reducible rfl)
        try simp only [Act.put, List.setIfInBounds_toArray, List.set_cons_zero, List.set_cons_succ]
        refine wpAnyL_ready (rs := [8]) (by kernel_rfl) (by simp) ?_
        refine AllL.cons rfl (fun K hK => ?_) ?_
        · go_simp
          have P3 := P2.alloc hR (.cells #[.int .i64 x.2.1, .int .u32 x.2.2] 29)
          have T3 : Blk ((W2).alloc (.cells #[.int .i64 x.2.1, .int .u32 x.2.2] 29)) (W2.heap.size) 29 #[.int .i64 x.2.1, .int .u32 x.2.2] := by have q := Blk.new (W2) 29 #[.int .i64 x.2.1, .int .u32 x.2.2]; first | exact q | (rw [World.size_alloc] at q; exact q)
          refine hK.out _ _ (fun _ => P3.cells) ?_
          clear hK K
          try simp only [Act.put, List.setIfInBounds_toArray, List.set_cons_zero, List.set_cons_succ]
          refine wpAnyL_ready (rs := [9]) (by kernel_rfl) (by simp) ?_
          refine AllL.cons rfl (fun K hK => ?_) ?_
          · rw [if_pos (by kernel_rfl)]
            refine wp_append_fresh _ (.tmp 25) (.tmp 27) 24 rfl wx.heap.size 29 j0 (.agg #[.int .i64 0, .int .u32 0]) 2 16 Tryz.underlying24 hj hj0 hj1 hj2 rfl (by decide) v5 pre.length (rowR pre) rfl P3.row5 ⟨W2.heap.size, 0, none⟩ 1 1 [.int .i64 x.2.1, .int .u32 x.2.2] rfl rfl (cell_list_blk T3) (by simp [Value.oneCell']) (by decide) (by unfold maxLen; omega) (by omega) (Nat.le_trans P3.lo_ P3.size) ?_
            intro w5 W4 ho hg hf
            obtain ⟨g5, c5, rfl⟩ := ownsRow_succ ho
            have P4 := P3.app5 hR ho hg hf
            clear ho hg hf
            refine hK.out _ _ (fun _ => P4.cells) ?_
            clear hK K
            try simp only [Act.put, List.setIfInBounds_toArray, List.set_cons_zero, List.set_cons_succ]
            refine wpAnyL_ready (rs := [11]) (by kernel_rfl) (by simp) ?_
            refine AllL.cons rfl (fun K hK => ?_) AllL.nil
            have f4 := P4.out.frozen 4
            have e4 := P4.out.cell 4
            simp [outC] at e4
            have l4 := P4.out.lt
            go_simp
            refine hK.out _ _ (fun h => Bool.noConfusion (show true = false from h)) ?_
            clear hK K e4 f4 l4
            try simp only [Act.put, List.setIfInBounds_toArray, List.set_cons_zero, List.set_cons_succ]
            refine wpAnyL_ready (rs := [12]) (by kernel_rfl) (by simp) ?_
            refine AllL.cons rfl (fun K hK => ?_) AllL.nil
            go_simp
            refine hK.out _ _ (fun h => Bool.noConfusion (show true = false from h)) ?_
            clear hK K
            try simp only [Act.put, List.setIfInBounds_toArray, List.set_cons_zero, List.set_cons_succ]
            refine wpAnyL_ready (rs := [13]) (by kernel_rfl) (by simp) ?_
            refine AllL.cons rfl (fun K hK => ?_) AllL.nil
            have q5 := P4.out.set_ 4 (.slice (some ⟨g4, 0, none⟩) (pre.length + 1) c4)
            have f5 := q5.frozen 5
            have e5 := q5.cell 5
            have l5 := q5.lt
            simp [outC] at e5
            clear q5
            go_simp
            refine hK.out _ _ (fun h => Bool.noConfusion (show true = false from h)) ?_
            clear hK K e5 f5 l5
            try simp only [Act.put, List.setIfInBounds_toArray, List.set_cons_zero, List.set_cons_succ]
            refine wpAnyL_done (by kernel_rfl) ?_ _
            obtain ⟨z1, z2, z3, z4, z5, z6, z7⟩ := P4.stored hR
            exact ⟨z6, z7, ⟨_, _, z1, by rw [rowB_snoc]; simpa using z2, by rw [rowR_snoc]; simpa using z3⟩, z4, z5⟩
          exact AllL.nil
        exact AllL.nil
      refine AllL.cons rfl (fun K hK => ?_) ?_
      · go_simp
        have P5 := P1.alloc hR (.cells #[.int .i64 x.2.1, .int .u32 x.2.2] 29)
        have T5 : Blk (((W.drew).alloc (.cells #[.int .u8 (x.1.val : Int)] 5)).alloc (.cells #[.int .i64 x.2.1, .int .u32 x.2.2] 29)) (W.heap.size + 1) 29 #[.int .i64 x.2.1, .int .u32 x.2.2] := by have q := Blk.new ((W.drew).alloc (.cells #[.int .u8 (x.1.val : Int)] 5)) 29 #[.int .i64 x.2.1, .int .u32 x.2.2]; first | exact q | (rw [World.size_alloc] at q; exact q)
        have U5 := T1.alloc (.cells #[.int .i64 x.2.1, .int .u32 x.2.2] 29)
        refine hK.out _ _ (fun _ => P5.cells) ?_
        clear hK K
        try simp only [Act.put, List.setIfInBounds_toArray, List.set_cons_zero, List.set_cons_succ]
        refine wpAnyL_ready (rs := [4]) (by kernel_rfl) (by simp) ?_
        refine AllL.cons rfl (fun K hK => ?_) ?_
        · rw [if_pos (by kernel_rfl)]
          refine wp_append_fresh _ (.tmp 20) (.tmp 22) 23 rfl wx.heap.size 5 i0 (.int .u8 0) 1 1 Tryz.underlying23 hi hz0 hz1 hz2 rfl (by decide) v4 pre.length (rowB pre) rfl P5.row4 ⟨W.heap.size, 0, none⟩ 1 1 [.int .u8 (x.1.val : Int)] rfl rfl (cell_list_blk U5) (by simp [Value.oneCell']) (by decide) (by unfold maxLen; omega) (by omega) (Nat.le_trans P5.lo_ P5.size) ?_
          intro w4 W6 ho hg hf
          obtain ⟨g4, c4, rfl⟩ := ownsRow_succ ho
          have P6 := P5.app4 hR ho hg hf
          have U6 := T5.grown hg (own_blk_ne P5.row4 T5 (by decide))
          clear ho hg hf
          refine hK.out _ _ (fun _ => P6.cells) ?_
          clear hK K
          try simp only [Act.put, List.setIfInBounds_toArray, List.set_cons_zero, List.set_cons_succ]
          refine wpAnyL_take (i := 10) (v := ?_) rfl (by kernel_rfl) (by kernel_rfl) (by kernel_rfl) (by kernel_rfl) (fun _ _ _ h => h) (Or.inl ⟨by rfl, ?_⟩) P6.cells ?_
          rotate_left
          · (intro w hSw; (try dsimp only at hSw); go_simp <;> with_reducible rfl)
          try simp only [Act.put, List.setIfInBounds_toArray, List.set_cons_zero, List.set_cons_succ]
          refine wpAnyL_ready (rs := [9]) (by kernel_rfl) (by simp) ?_
          refine AllL.cons rfl (fun K hK => ?_) ?_
          · rw [if_pos (by kernel_rfl)]
            refine wp_append_fresh _ (.tmp 25) (.tmp 27) 24 rfl wx.heap.size 29 j0 (.agg #[.int .i64 0, .int .u32 0]) 2 16 Tryz.underlying24 hj hj0 hj1 hj2 rfl (by decide) v5 pre.length (rowR pre) rfl P6.row5 ⟨W.heap.size + 1, 0, none⟩ 1 1 [.int .i64 x.2.1, .int .u32 x.2.2] rfl rfl (cell_list_blk U6) (by simp [Value.oneCell']) (by decide) (by unfold maxLen; omega) (by omega) (Nat.le_trans P6.lo_ P6.size) ?_
            intro w5 W7 ho hg hf
            obtain ⟨g5, c5, rfl⟩ := ownsRow_succ ho
            have P7 := P6.app5 hR ho hg hf
            clear ho hg hf
            refine hK.out _ _ (fun _ => P7.cells) ?_
            clear hK K
            try simp only [Act.put, List.setIfInBounds_toArray, List.set_cons_zero, List.set_cons_succ]
            refine wpAnyL_ready (rs := [11]) (by kernel_rfl) (by simp) ?_
            refine AllL.cons rfl (fun K hK => ?_) AllL.nil
            have f4 := P7.out.frozen 4
            have e4 := P7.out.cell 4
            simp [outC] at e4
            have l4 := P7.out.lt
            go_simp
            refine hK.out _ _ (fun h => Bool.noConfusion (show true = false from h)) ?_
            clear hK K e4 f4 l4
            try simp only [Act.put, List.setIfInBounds_toArray, List.set_cons_zero, List.set_cons_succ]
            refine wpAnyL_ready (rs := [12]) (by kernel_rfl) (by simp) ?_
            refine AllL.cons rfl (fun K hK => ?_) AllL.nil
            go_simp
            refine hK.out _ _ (fun h => Bool.noConfusion (show true = false from h)) ?_
            clear hK K
            try simp only [Act.put, List.setIfInBounds_toArray, List.set_cons_zero, List.set_cons_succ]
            refine wpAnyL_ready (rs := [13]) (by kernel_rfl) (by simp) ?_
            refine AllL.cons rfl (fun K hK => ?_) AllL.nil
            have q5 := P7.out.set_ 4 (.slice (some ⟨g4, 0, none⟩) (pre.length + 1) c4)
            have f5 := q5.frozen 5
            have e5 := q5.cell 5
            have l5 := q5.lt
            simp [outC] at e5
            clear q5
            go_simp
            refine hK.out _ _ (fun h => Bool.noConfusion (show true = false from h)) ?_
            clear hK K e5 f5 l5
            try simp only [Act.put, List.setIfInBounds_toArray, List.set_cons_zero, List.set_cons_succ]
            refine wpAnyL_done (by kernel_rfl) ?_ _
            obtain ⟨z1, z2, z3, z4, z5, z6, z7⟩ := P7.stored hR
            exact ⟨z6, z7, ⟨_, _, z1, by rw [rowB_snoc]; simpa using z2, by rw [rowR_snoc]; simpa using z3⟩, z4, z5⟩
          exact AllL.nil
        exact AllL.nil
      exact AllL.nil
    refine AllL.cons rfl (fun K hK => ?_) ?_
    · go_simp
      have P8 := P0.alloc hR (.cells #[.int .i64 x.2.1, .int .u32 x.2.2] 29)
      have T8 : Blk ((W.drew).alloc (.cells #[.int .i64 x.2.1, .int .u32 x.2.2] 29)) (W.heap.size) 29 #[.int .i64 x.2.1, .int .u32 x.2.2] := by have q := Blk.new (W.drew) 29 #[.int .i64 x.2.1, .int .u32 x.2.2]; first | exact q | (rw [World.size_alloc] at q; exact q)
      refine hK.out _ _ (fun _ => P8.cells) ?_
      clear hK K
      try simp only [Act.put, List.setIfInBounds_toArray, List.set_cons_zero, List.set_cons_succ]
      refine wpAnyL_ready (rs := [3]) (by kernel_rfl) (by simp) ?_
      refine AllL.cons rfl (fun K hK => ?_) ?_
      · go_simp
        have P9 := P8.alloc hR (.cells #[.int .u8 (x.1.val : Int)] 5)
        have T9 : Blk (((W.drew).alloc (.cells #[.int .i64 x.2.1, .int .u32 x.2.2] 29)).alloc (.cells #[.int .u8 (x.1.val : Int)] 5)) (W.heap.size + 1) 5 #[.int .u8 (x.1.val : Int)] := by have q := Blk.new ((W.drew).alloc (.cells #[.int .i64 x.2.1, .int .u32 x.2.2] 29)) 5 #[.int .u8 (x.1.val : Int)]; first | exact q | (rw [World.size_alloc] at q; exact q)
        have U9 := T8.alloc (.cells #[.int .u8 (x.1.val : Int)] 5)
        refine hK.out _ _ (fun _ => P9.cells) ?_
        clear hK K
        try simp only [Act.put, List.setIfInBounds_toArray, List.set_cons_zero, List.set_cons_succ]
        refine wpAnyL_ready (rs := [4]) (by kernel_rfl) (by simp) ?_
        refine AllL.cons rfl (fun K hK => ?_) ?_
        · rw [if_pos (by kernel_rfl)]
          refine wp_append_fresh _ (.tmp 20) (.tmp 22) 23 rfl wx.heap.size 5 i0 (.int .u8 0) 1 1 Tryz.underlying23 hi hz0 hz1 hz2 rfl (by decide) v4 pre.length (rowB pre) rfl P9.row4 ⟨W.heap.size + 1, 0, none⟩ 1 1 [.int .u8 (x.1.val : Int)] rfl rfl (cell_list_blk T9) (by simp [Value.oneCell']) (by decide) (by unfold maxLen; omega) (by omega) (Nat.le_trans P9.lo_ P9.size) ?_
          intro w4 W10 ho hg hf
          obtain ⟨g4, c4, rfl⟩ := ownsRow_succ ho
          have P10 := P9.app4 hR ho hg hf
          have U10 := U9.grown hg (own_blk_ne P9.row4 U9 (by decide))
          clear ho hg hf
          refine hK.out _ _ (fun _ => P10.cells) ?_
          clear hK K
          try simp only [Act.put, List.setIfInBounds_toArray, List.set_cons_zero, List.set_cons_succ]
          refine wpAnyL_take (i := 10) (v := ?_) rfl (by kernel_rfl) (by kernel_rfl) (by kernel_rfl) (by kernel_rfl) (fun _ _ _ h => h) (Or.inl ⟨by rfl, ?_⟩) P10.cells ?_
          rotate_left
          · (intro w hSw; (try dsimp only at hSw); go_simp <;> with_reducible rfl)
          try simp only [Act.put, List.setIfInBounds_toArray, List.set_cons_zero, List.set_cons_succ]
          refine wpAnyL_ready (rs := [9]) (by kernel_rfl) (by simp) ?_
          refine AllL.cons rfl (fun K hK => ?_) ?_
          · rw [if_pos (by kernel_rfl)]
            refine wp_append_fresh _ (.tmp 25) (.tmp 27) 24 rfl wx.heap.size 29 j0 (.agg #[.int .i64 0, .int .u32 0]) 2 16 Tryz.underlying24 hj hj0 hj1 hj2 rfl (by decide) v5 pre.length (rowR pre) rfl P10.row5 ⟨W.heap.size, 0, none⟩ 1 1 [.int .i64 x.2.1, .int .u32 x.2.2] rfl rfl (cell_list_blk U10) (by simp [Value.oneCell']) (by decide) (by unfold maxLen; omega) (by omega) (Nat.le_trans P10.lo_ P10.size) ?_
            intro w5 W11 ho hg hf
            obtain ⟨g5, c5, rfl⟩ := ownsRow_succ ho
            have P11 := P10.app5 hR ho hg hf
            clear ho hg hf
            refine hK.out _ _ (fun _ => P11.cells) ?_
            clear hK K
            try simp only [Act.put, List.setIfInBounds_toArray, List.set_cons_zero, List.set_cons_succ]
            refine wpAnyL_ready (rs := [11]) (by kernel_rfl) (by simp) ?_
            refine AllL.cons rfl (fun K hK => ?_) AllL.nil
            have f4 := P11.out.frozen 4
            have e4 := P11.out.cell 4
            simp [outC] at e4
            have l4 := P11.out.lt
            go_simp
            refine hK.out _ _ (fun h => Bool.noConfusion (show true = false from h)) ?_
            clear hK K e4 f4 l4
            try simp only [Act.put, List.setIfInBounds_toArray, List.set_cons_zero, List.set_cons_succ]
            refine wpAnyL_ready (rs := [12]) (by kernel_rfl) (by simp) ?_
            refine AllL.cons rfl (fun K hK => ?_) AllL.nil
            go_simp
            refine hK.out _ _ (fun h => Bool.noConfusion (show true = false from h)) ?_
            clear hK K
            try simp only [Act.put, List.setIfInBounds_toArray, List.set_cons_zero, List.set_cons_succ]
            refine wpAnyL_ready (rs := [13]) (by kernel_rfl) (by simp) ?_
            refine AllL.cons rfl (fun K hK => ?_) AllL.nil
            have q5 := P11.out.set_ 4 (.slice (some ⟨g4, 0, none⟩) (pre.length + 1) c4)
            have f5 := q5.frozen 5
            have e5 := q5.cell 5
            have l5 := q5.lt
            simp [outC] at e5
            clear q5
            go_simp
            refine hK.out _ _ (fun h => Bool.noConfusion (show true = false from h)) ?_
            clear hK K e5 f5 l5
            try simp only [Act.put, List.setIfInBounds_toArray, List.set_cons_zero, List.set_cons_succ]
            refine wpAnyL_done (by kernel_rfl) ?_ _
            obtain ⟨z1, z2, z3, z4, z5, z6, z7⟩ := P11.stored hR
            exact ⟨z6, z7, ⟨_, _, z1, by rw [rowB_snoc]; simpa using z2, by rw [rowR_snoc]; simpa using z3⟩, z4, z5⟩
          exact AllL.nil
        exact AllL.nil
      exact AllL.nil
    exact AllL.nil
  case done =>
    rintro D xs W hD rfl ⟨⟨v4, v5, h1, h2, h3⟩, h4, h5⟩ hk
    exact HQ.out D v4 v5 W hD h1 h2 h3 h4 h5 hk
  case stop =>
    rintro D c pre W hD hsp hx hk
    exact absurd hsp hx
end Go.Proofs.YtgjgcbemgmkncaaGreatDoor
namespace Go.Proofs.YtgjgcbemgmkncaaGreatDoor
open Go.RowKit Go.Shelf
set_option linter.unusedVariables false
set_option maxRecDepth 20000
set_option linter.unusedSimpArgs false

/-- The node that 'of' makes. -/
def ofNd (x : Nd) (f : Kids) (k : Int) : Nd := ⟨k, { data := #[] }, { data := #[] }, x.path, (kidsF f).map (·.1.val), (kidsF f).map (·.2)⟩
def refOk (r : Int × Int) : Prop := (-9223372036854775808 ≤ r.1 ∧ r.1 ≤ 9223372036854775807) ∧ 0 ≤ r.2 ∧ r.2 ≤ 4294967295
theorem kidsF_len_le (f : Kids) : (kidsF f).length ≤ 256 := by
  rw [kidsF_len]
  show cntK f ≤ 256
  rw [← bytesF_len f]
  exact bytesLo_len f 0 256
theorem mem_kidsF {f : Kids} {x : Kid} (h : x ∈ kidsF f) : f x.1.val = some x.2 := by
  unfold kidsF at h
  obtain ⟨b, _, hb⟩ := List.mem_filterMap.1 h
  cases hf : f b.val with
  | none => rw [hf] at hb; cases hb
  | some r => rw [hf] at hb; simp at hb; subst hb; exact hf
theorem ofNd_wf {x : Nd} {f : Kids} {k : Int} (hx : x.wf) (hk : -9223372036854775808 ≤ k ∧ k ≤ 9223372036854775807) (hv : ∀ b r, f b = some r → refOk r) : (ofNd x f k).wf := by
  have hl := kidsF_len_le f
  refine ⟨hk, ?_, ?_, ?_, ?_, ?_, ?_, hx.lp⟩
  · intro b hb
    obtain ⟨y, _, rfl⟩ := List.mem_map.1 hb
    exact y.1.isLt
  · intro r hr
    obtain ⟨y, hy, rfl⟩ := List.mem_map.1 hr
    exact hv _ _ (mem_kidsF hy)
  · show ((kidsF f).map _).length ≤ _; rw [List.length_map]; omega
  · show ((kidsF f).map _).length ≤ _; rw [List.length_map]; omega
  · exact Nat.zero_le _
  · exact Nat.zero_le _
theorem reads_own {W : World} {base size n c : Nat} {e : TypeId} {A : Option Addr} {xs : List Value} (h : W.ownsRow base e size (.slice A n c) n xs) : Reads W W.heap.size size A n xs := by
  refine ⟨h.1, fun hn => ?_⟩
  rcases h.2 with ⟨e1, e2⟩ | ⟨g, cap, cur, e1, _, hg, _⟩
  · omega
  · injection e1 with e1 e2 e3
    subst e1
    exact ⟨_, rfl, (Array.getElem?_eq_some_iff.1 hg).1, h.cells rfl⟩
theorem rowB_nrow (l : List Kid) : rowB l = (l.map (·.1.val)).flatMap nrow := by
  induction l with
  | nil => rfl
  | cons x l ih => simp [rowB, nrow] at ih ⊢; exact ih
theorem rowR_rrow (l : List Kid) : rowR l = (l.map (·.2)).flatMap rrow := by unfold rowR; rw [List.flatMap_map]
/-- A node that has been made: its rows lie in new blocks. -/
def NdOut (y : Nd) (w : World) (e : Ending) (w' : World) : Prop := ∃ V', e = .returned V' ∧ (y.wf ∧ ∃ Ab cb Ak ck, V' = y.v Ab cb Ak ck ∧ Reads w' w'.heap.size 1 Ab y.bytes.length (y.bytes.flatMap nrow) ∧ Reads w' w'.heap.size 2 Ak y.kids.length (y.kids.flatMap rrow) ∧ (∀ ad, Ab = some ad → w.heap.size ≤ ad.block) ∧ ∀ ad, Ak = some ad → w.heap.size ≤ ad.block) ∧ Below w.heap.size w w'
def ofR (w : World) (b6 : Nat) (W : World) : Prop := Below w.heap.size w W ∧ Blk W b6 26 #[.int .i64 0, .string { data := #[] }, .string { data := #[] }, .string { data := #[] }, .slice none 0 0, .slice none 0 0]
theorem ofR_stays {w : World} {lo b6 b7 : Nat} (hlo : w.heap.size ≤ lo) (h7 : w.heap.size ≤ b7) (h6 : b6 < lo) (hne : b6 ≠ b7) : Stays lo b7 (ofR w b6) := by
  intro W W' row h hg hr
  refine ⟨h.1.grown hg h.1.size (fun k e => by rcases hr k e with e2 | e2 <;> omega), h.2.grown hg (fun e => ?_)⟩
  rcases hr b6 e.symm with e2 | e2 <;> omega
theorem six_stores {W : World} {b : Nat} {t : TypeId} {d0 d1 d2 d3 d4 d5 : Value} (v0 v1 v2 v3 v4 v5 : Value) (h : Blk W b t #[d0, d1, d2, d3, d4, d5]) :
    ∃ V, V = (((((W.setCell ⟨b, 0, none⟩ v0).setCell ⟨b, 1, none⟩ v1).setCell ⟨b, 2, none⟩ v2).setCell ⟨b, 3, none⟩ v3).setCell ⟨b, 4, none⟩ v4).setCell ⟨b, 5, none⟩ v5 ∧ W.grownBy V (some b) ∧ Blk V b t #[v0, v1, v2, v3, v4, v5] := by
  refine ⟨_, rfl, grown_setCell (grown_setCell (grown_setCell (grown_setCell (grown_setCell (grown_setCell ⟨rfl, rfl, rfl, Nat.le_refl _, fun _ _ _ => rfl⟩ _ _) _ _) _ _) _ _) _ _) _ _, ?_⟩
  have q := (((((h.set_ 0 v0).set_ 1 v1).set_ 2 v2).set_ 3 v3).set_ 4 v4).set_ 5 v5
  simpa using q
set_option maxHeartbeats 3200000 in
set_option maxRecDepth 100000 in
theorem of_tail (x : Nd) (f : Kids) (kind : Int) (w : World) (b6 b7 D : Nat) (hwf : x.wf) (hk : -9223372036854775808 ≤ kind ∧ kind ≤ 9223372036854775807) (hv : ∀ b r, f b = some r → refOk r) (h6 : w.heap.size ≤ b6) (hne : b6 ≠ b7) {u0 u1 u2 u3 u4 u5 u8 u9 u10 u11 u12 u13 u14 u15 u16 u17 u18 u19 u20 u21 u22 u23 u24 u25 u26 u27 u28 u29 u30 u31 : Value} (lo : Nat) (hD : lo ≤ D) (hlo : w.heap.size ≤ lo) (v4 v5 : Value) (W : World)
    (q7 : Blk W b7 26 (outC kind x.path v4 v5)) (r4 : W.ownsRow lo 5 1 v4 (kidsF f).length (rowB (kidsF f))) (r5 : W.ownsRow lo 29 2 v5 (kidsF f).length (rowR (kidsF f))) (hR : ofR w b6 W) (hd : W.heap[D]? = some (.deferred (some []))) :
    Code.wp Tryz.prog (part Tryz.f42 [1, 1, 1]) (bodyPostM Fence.wide 10 Tryz.prog Tryz.f42 (NdOut (ofNd x f kind) w)) ⟨#[u0, u1, u2, u3, u4, u5, .pointer (some ⟨b6, 0, none⟩), .pointer (some ⟨b7, 0, none⟩), u8, u9, u10, u11, u12, u13, u14, u15, u16, u17, u18, u19, u20, u21, u22, u23, u24, u25, u26, u27, u28, u29, u30, u31], [{ target := .collected D, args := #[] }]⟩ W := by
  conv => arg 2; whnf
  obtain ⟨A4, c4, rfl, _, _, _⟩ := own_form r4
  obtain ⟨A5, c5, rfl, _, _, _⟩ := own_form r5
  have HS := Lib.hid (And.intro q7 (And.intro r4 (And.intro r5 (And.intro hR hd))))
  have HH := Lib.hid (And.intro hwf (And.intro hk hv))
  obtain ⟨e0, e1, e2, e3, e4, e5⟩ := cells6 q7
  obtain ⟨d0, d1, d2, d3, d4, d5⟩ := cells6 hR.2
  have f0 := hR.2.frozen 0
  have f1 := hR.2.frozen 1
  have f2 := hR.2.frozen 2
  have f3 := hR.2.frozen 3
  have f4 := hR.2.frozen 4
  have f5 := hR.2.frozen 5
  have l6 := hR.2.lt
  clear q7 r4 r5 hR hd hwf hk hv
  go_wp2
  clear e0 e1 e2 e3 e4 e5 d0 d1 d2 d3 d4 d5 f0 f1 f2 f3 f4 f5
  obtain ⟨q7, r4, r5, hR, hd⟩ := HS.out
  obtain ⟨V, hV, hg, q6⟩ := six_stores (.int .i64 kind) (.string { data := #[] }) (.string { data := #[] }) (.string x.path) (.slice A4 (kidsF f).length c4) (.slice A5 (kidsF f).length c5) hR.2
  rw [← hV]
  clear hV
  have s4 := r4.kept hg (.inr (Ne.symm (own_blk_ne r4 hR.2 (by decide))))
  have s5 := r5.kept hg (.inr (Ne.symm (own_blk_ne r5 hR.2 (by decide))))
  have hb : Below w.heap.size w V := hR.1.grown hg hR.1.size (fun k e => by injection e with e; omega)
  have hD6 : b6 ≠ D := fun e => by subst e; have := hR.2; unfold Blk at this; rw [hd] at this; cases this
  have hne6 : some D ≠ some b6 := fun e => hD6 (by injection e with e; exact e.symm)
  have hDlt : D < W.heap.size := (Array.getElem?_eq_some_iff.1 hd).1
  have hdV := hg.block D hDlt hne6
  rw [hd] at hdV
  have q6' : Blk (V.putObj D (.deferred none)) b6 26 #[.int .i64 kind, .string { data := #[] }, .string { data := #[] }, .string x.path, .slice A4 (kidsF f).length c4, .slice A5 (kidsF f).length c5] := (World.putObj_heap_other hD6).trans q6
  obtain ⟨c0, c1, c2, c3, c4', c5'⟩ := cells6 q6'
  have hown : ∀ r, (some D : Option Nat) = some r → ∃ o : Obj, V.heap[r]? = some o ∧ o.isCells = false := fun r e => by injection e with e; subst e; exact ⟨_, hdV, rfl⟩
  have t4 := ownsRow_own s4 (grownBy_putObj' V D (.deferred none)) hown
  have t5 := ownsRow_own s5 (grownBy_putObj' V D (.deferred none)) hown
  refine ⟨by simp, .inl ⟨_, _, rfl, run_takeDeferred hdV, ?_⟩⟩
  refine ⟨.agg #[.int .i64 kind, .string { data := #[] }, .string { data := #[] }, .string x.path, .slice A4 (kidsF f).length c4, .slice A5 (kidsF f).length c5], by simp [results, Tryz.results42, go_sem, c0, c1, c2, c3, c4', c5'], _, rfl, ⟨ofNd_wf HH.out.1 HH.out.2.1 HH.out.2.2, A4, c4, A5, c5, ?_, ?_, ?_, ?_, ?_⟩, hb.trans ⟨rfl, rfl, rfl, by simp [World.putObj], fun k hk => World.putObj_heap_other (by omega)⟩⟩
  · simp [Nd.v, ofNd]
  · have h := reads_own t4
    rw [rowB_nrow] at h
    simpa [ofNd] using h
  · have h := reads_own t5
    rw [rowR_rrow] at h
    simpa [ofNd] using h
  · intro ad e
    subst e
    exact Nat.le_trans hlo (r4.lt ad.block rfl).1
  · intro ad e
    subst e
    exact Nat.le_trans hlo (r5.lt ad.block rfl).1
end Go.Proofs.YtgjgcbemgmkncaaGreatDoor
namespace Go.Proofs.YtgjgcbemgmkncaaGreatDoor
open Go.RowKit Go.Shelf
set_option linter.unusedVariables false
set_option maxRecDepth 20000
set_option linter.unusedSimpArgs false

set_option maxHeartbeats 3200000 in
set_option maxRecDepth 100000 in
theorem of_few (x : Nd) (V : Value) (w : World) (h : NdAt w x V) (g : Nat) (room : Int) (f : Kids) (hrow : FewAt w g room f) (kind : Int) (hk : -9223372036854775808 ≤ kind ∧ kind ≤ 9223372036854775807) (hv : ∀ b r, f b = some r → refOk r) :
    Calls Tryz.prog 42 #[V, .iface 88 (.pointer (some ⟨g, 0, none⟩)), .int .i64 kind] w (NdOut (ofNd x f kind) w) := by
  obtain ⟨hwf, Ab, cb, Ak, ck, rfl, _, _⟩ := h
  have hme := few_All_me g
  have HH := Lib.hid (And.intro hwf (And.intro hk (And.intro hv hrow)))
  clear hwf hk hv hrow
  unfold Nd.v
  refine (callsIn_wide (n := 10)).1 (callsIn_of_wp_marks Tryz.func42 rfl trivial (wpIn_wide.2 ?_) rfl)
  simp only [Tryz.ntmps42, List.size_toArray, List.length_cons, List.length_nil, Nat.reduceAdd, Nat.reduceSub, Array.replicate_succ, Array.replicate_zero, List.push_toArray, List.append_toArray, List.nil_append, List.cons_append]
  refine wp_seq_k fun K0 hK => ?_
  have HK0 := Lib.hid hK
  clear hK
  go_wp2_with fail
  refine HK0.out _ _ ?_
  clear HK0
  refine wp_seq_k fun K1 hK => ?_
  have HK1 := Lib.hid hK
  clear hK
  go_wp2_with fail
  refine HK1.out _ _ ?_
  clear HK1
  refine wp_seq_k fun K2 hK => ?_
  have HK2 := Lib.hid hK
  clear hK
  refine wp_seq_k fun K3 hK => ?_
  have HK3 := Lib.hid hK
  clear hK
  go_wp2_with fail
  refine (All_any (some ⟨g, 0, none⟩) _).mono ?_
  rintro e w1 ⟨rfl, rfl⟩
  go_wp2_with fail
  refine HK3.out _ _ ?_
  clear HK3
  have b4 : Below w.heap.size w ((((w.alloc (.cells #[.int .i64 x.kind, .string x.code, .string x.value, .string x.path, .slice Ab x.bytes.length cb, .slice Ak x.kids.length ck] 61)).alloc (.cells #[.int .i64 0, .string { data := #[] }, .string { data := #[] }, .string { data := #[] }, .slice none 0 0, .slice none 0 0] 26)).alloc (.cells #[.int .i64 kind, .string { data := #[] }, .string { data := #[] }, .string x.path, .slice none 0 0, .slice none 0 0] 26)).alloc (.cells #[.pointer (some ⟨g, 0, none⟩)] 88)) := ((((Below.refl _ w).alloc (Nat.le_refl _) _).alloc (by simp) _).alloc (by simp; omega) _).alloc (by simp; omega) _
  have q6 : Blk ((((w.alloc (.cells #[.int .i64 x.kind, .string x.code, .string x.value, .string x.path, .slice Ab x.bytes.length cb, .slice Ak x.kids.length ck] 61)).alloc (.cells #[.int .i64 0, .string { data := #[] }, .string { data := #[] }, .string { data := #[] }, .slice none 0 0, .slice none 0 0] 26)).alloc (.cells #[.int .i64 kind, .string { data := #[] }, .string { data := #[] }, .string x.path, .slice none 0 0, .slice none 0 0] 26)).alloc (.cells #[.pointer (some ⟨g, 0, none⟩)] 88)) (w.heap.size + 1) 26 #[.int .i64 0, .string { data := #[] }, .string { data := #[] }, .string { data := #[] }, .slice none 0 0, .slice none 0 0] := by
    have q := ((Blk.new (w.alloc (.cells #[.int .i64 x.kind, .string x.code, .string x.value, .string x.path, .slice Ab x.bytes.length cb, .slice Ak x.kids.length ck] 61)) 26 #[.int .i64 0, .string { data := #[] }, .string { data := #[] }, .string { data := #[] }, .slice none 0 0, .slice none 0 0]).alloc (.cells #[.int .i64 kind, .string { data := #[] }, .string { data := #[] }, .string x.path, .slice none 0 0, .slice none 0 0] 26)).alloc (.cells #[.pointer (some ⟨g, 0, none⟩)] 88)
    rw [World.size_alloc] at q
    exact q
  have q7 : Blk ((((w.alloc (.cells #[.int .i64 x.kind, .string x.code, .string x.value, .string x.path, .slice Ab x.bytes.length cb, .slice Ak x.kids.length ck] 61)).alloc (.cells #[.int .i64 0, .string { data := #[] }, .string { data := #[] }, .string { data := #[] }, .slice none 0 0, .slice none 0 0] 26)).alloc (.cells #[.int .i64 kind, .string { data := #[] }, .string { data := #[] }, .string x.path, .slice none 0 0, .slice none 0 0] 26)).alloc (.cells #[.pointer (some ⟨g, 0, none⟩)] 88)) (w.heap.size + 2) 26 (outC kind x.path (.slice none 0 0) (.slice none 0 0)) := by
    have q := (Blk.new ((w.alloc (.cells #[.int .i64 x.kind, .string x.code, .string x.value, .string x.path, .slice Ab x.bytes.length cb, .slice Ak x.kids.length ck] 61)).alloc (.cells #[.int .i64 0, .string { data := #[] }, .string { data := #[] }, .string { data := #[] }, .slice none 0 0, .slice none 0 0] 26)) 26 #[.int .i64 kind, .string { data := #[] }, .string { data := #[] }, .string x.path, .slice none 0 0, .slice none 0 0]).alloc (.cells #[.pointer (some ⟨g, 0, none⟩)] 88)
    rw [World.size_alloc, World.size_alloc] at q
    exact q
  have e9 : ((((w.alloc (.cells #[.int .i64 x.kind, .string x.code, .string x.value, .string x.path, .slice Ab x.bytes.length cb, .slice Ak x.kids.length ck] 61)).alloc (.cells #[.int .i64 0, .string { data := #[] }, .string { data := #[] }, .string { data := #[] }, .slice none 0 0, .slice none 0 0] 26)).alloc (.cells #[.int .i64 kind, .string { data := #[] }, .string { data := #[] }, .string x.path, .slice none 0 0, .slice none 0 0] 26)).alloc (.cells #[.pointer (some ⟨g, 0, none⟩)] 88)).cell? ⟨w.heap.size + 3, 0, none⟩ = some (.pointer (some ⟨g, 0, none⟩)) := by
    have q := (Blk.new (((w.alloc (.cells #[.int .i64 x.kind, .string x.code, .string x.value, .string x.path, .slice Ab x.bytes.length cb, .slice Ak x.kids.length ck] 61)).alloc (.cells #[.int .i64 0, .string { data := #[] }, .string { data := #[] }, .string { data := #[] }, .slice none 0 0, .slice none 0 0] 26)).alloc (.cells #[.int .i64 kind, .string { data := #[] }, .string { data := #[] }, .string x.path, .slice none 0 0, .slice none 0 0] 26)) 88 #[.pointer (some ⟨g, 0, none⟩)]).cell 0
    rw [World.size_alloc, World.size_alloc, World.size_alloc] at q
    exact q
  have hrw := HH.out.2.2.2.below b4
  have hsz : ((((w.alloc (.cells #[.int .i64 x.kind, .string x.code, .string x.value, .string x.path, .slice Ab x.bytes.length cb, .slice Ak x.kids.length ck] 61)).alloc (.cells #[.int .i64 0, .string { data := #[] }, .string { data := #[] }, .string { data := #[] }, .slice none 0 0, .slice none 0 0] 26)).alloc (.cells #[.int .i64 kind, .string { data := #[] }, .string { data := #[] }, .string x.path, .slice none 0 0, .slice none 0 0] 26)).alloc (.cells #[.pointer (some ⟨g, 0, none⟩)] 88)).heap.size = w.heap.size + 4 := by simp
  generalize (((w.alloc (.cells #[.int .i64 x.kind, .string x.code, .string x.value, .string x.path, .slice Ab x.bytes.length cb, .slice Ak x.kids.length ck] 61)).alloc (.cells #[.int .i64 0, .string { data := #[] }, .string { data := #[] }, .string { data := #[] }, .slice none 0 0, .slice none 0 0] 26)).alloc (.cells #[.int .i64 kind, .string { data := #[] }, .string { data := #[] }, .string x.path, .slice none 0 0, .slice none 0 0] 26)).alloc (.cells #[.pointer (some ⟨g, 0, none⟩)] 88) = wx at b4 q6 q7 e9 hrw hsz ⊢
  have hlt : ∀ k, ofOwn (w.heap.size + 2) wx k → k < wx.heap.size := fun k hk => by
    rw [ofOwn_blk q7] at hk
    rcases hk with rfl | ⟨n, c, e⟩ | ⟨n, c, e⟩
    · omega
    · cases e
    · cases e
  refine of_loop 115 16 (w.heap.size + 2) #[.pointer (some ⟨w.heap.size + 3, 0, none⟩)] kind x.path f wx (ofR w (w.heap.size + 1)) (ofR_stays (by omega) (by omega) (by omega) (by omega)) ⟨b4, q6⟩ (by decide) (enters_of Tryz.func115 (by kernel_rfl) rfl) (all_k_stops (w.heap.size + 3) g 9 _ (ofOwn (w.heap.size + 2)) room f _ (ofOwn_owns (by omega)) hlt (by decide) e9 hrw) q7 ?_
  intro D v4 v5 W hD z1 z2 z3 z4 z5 z6
  refine HK2.out _ _ ?_
  exact of_tail x f kind w (w.heap.size + 1) (w.heap.size + 2) D HH.out.1 HH.out.2.1 HH.out.2.2.1 (by omega) (by omega) wx.heap.size hD (by omega) v4 v5 W z1 z2 z3 z4 z6
set_option maxHeartbeats 3200000 in
set_option maxRecDepth 100000 in
theorem of_many (x : Nd) (V : Value) (w : World) (h : NdAt w x V) (g gr gu n : Nat) (f : Kids) (hrow : ManyAt w g gr gu n f) (kind : Int) (hk : -9223372036854775808 ≤ kind ∧ kind ≤ 9223372036854775807) (hv : ∀ b r, f b = some r → refOk r) :
    Calls Tryz.prog 42 #[V, .iface 91 (.pointer (some ⟨g, 0, none⟩)), .int .i64 kind] w (NdOut (ofNd x f kind) w) := by
  obtain ⟨hwf, Ab, cb, Ak, ck, rfl, _, _⟩ := h
  have hme := many_All_me g
  have HH := Lib.hid (And.intro hwf (And.intro hk (And.intro hv hrow)))
  clear hwf hk hv hrow
  unfold Nd.v
  refine (callsIn_wide (n := 10)).1 (callsIn_of_wp_marks Tryz.func42 rfl trivial (wpIn_wide.2 ?_) rfl)
  simp only [Tryz.ntmps42, List.size_toArray, List.length_cons, List.length_nil, Nat.reduceAdd, Nat.reduceSub, Array.replicate_succ, Array.replicate_zero, List.push_toArray, List.append_toArray, List.nil_append, List.cons_append]
  refine wp_seq_k fun K0 hK => ?_
  have HK0 := Lib.hid hK
  clear hK
  go_wp2_with fail
  refine HK0.out _ _ ?_
  clear HK0
  refine wp_seq_k fun K1 hK => ?_
  have HK1 := Lib.hid hK
  clear hK
  go_wp2_with fail
  refine HK1.out _ _ ?_
  clear HK1
  refine wp_seq_k fun K2 hK => ?_
  have HK2 := Lib.hid hK
  clear hK
  refine wp_seq_k fun K3 hK => ?_
  have HK3 := Lib.hid hK
  clear hK
  go_wp2_with fail
  refine (All_m (some ⟨g, 0, none⟩) _).mono ?_
  rintro e w1 ⟨rfl, rfl⟩
  go_wp2_with fail
  refine HK3.out _ _ ?_
  clear HK3
  have b4 : Below w.heap.size w ((((w.alloc (.cells #[.int .i64 x.kind, .string x.code, .string x.value, .string x.path, .slice Ab x.bytes.length cb, .slice Ak x.kids.length ck] 61)).alloc (.cells #[.int .i64 0, .string { data := #[] }, .string { data := #[] }, .string { data := #[] }, .slice none 0 0, .slice none 0 0] 26)).alloc (.cells #[.int .i64 kind, .string { data := #[] }, .string { data := #[] }, .string x.path, .slice none 0 0, .slice none 0 0] 26)).alloc (.cells #[.pointer (some ⟨g, 0, none⟩)] 91)) := ((((Below.refl _ w).alloc (Nat.le_refl _) _).alloc (by simp) _).alloc (by simp; omega) _).alloc (by simp; omega) _
  have q6 : Blk ((((w.alloc (.cells #[.int .i64 x.kind, .string x.code, .string x.value, .string x.path, .slice Ab x.bytes.length cb, .slice Ak x.kids.length ck] 61)).alloc (.cells #[.int .i64 0, .string { data := #[] }, .string { data := #[] }, .string { data := #[] }, .slice none 0 0, .slice none 0 0] 26)).alloc (.cells #[.int .i64 kind, .string { data := #[] }, .string { data := #[] }, .string x.path, .slice none 0 0, .slice none 0 0] 26)).alloc (.cells #[.pointer (some ⟨g, 0, none⟩)] 91)) (w.heap.size + 1) 26 #[.int .i64 0, .string { data := #[] }, .string { data := #[] }, .string { data := #[] }, .slice none 0 0, .slice none 0 0] := by
    have q := ((Blk.new (w.alloc (.cells #[.int .i64 x.kind, .string x.code, .string x.value, .string x.path, .slice Ab x.bytes.length cb, .slice Ak x.kids.length ck] 61)) 26 #[.int .i64 0, .string { data := #[] }, .string { data := #[] }, .string { data := #[] }, .slice none 0 0, .slice none 0 0]).alloc (.cells #[.int .i64 kind, .string { data := #[] }, .string { data := #[] }, .string x.path, .slice none 0 0, .slice none 0 0] 26)).alloc (.cells #[.pointer (some ⟨g, 0, none⟩)] 91)
    rw [World.size_alloc] at q
    exact q
  have q7 : Blk ((((w.alloc (.cells #[.int .i64 x.kind, .string x.code, .string x.value, .string x.path, .slice Ab x.bytes.length cb, .slice Ak x.kids.length ck] 61)).alloc (.cells #[.int .i64 0, .string { data := #[] }, .string { data := #[] }, .string { data := #[] }, .slice none 0 0, .slice none 0 0] 26)).alloc (.cells #[.int .i64 kind, .string { data := #[] }, .string { data := #[] }, .string x.path, .slice none 0 0, .slice none 0 0] 26)).alloc (.cells #[.pointer (some ⟨g, 0, none⟩)] 91)) (w.heap.size + 2) 26 (outC kind x.path (.slice none 0 0) (.slice none 0 0)) := by
    have q := (Blk.new ((w.alloc (.cells #[.int .i64 x.kind, .string x.code, .string x.value, .string x.path, .slice Ab x.bytes.length cb, .slice Ak x.kids.length ck] 61)).alloc (.cells #[.int .i64 0, .string { data := #[] }, .string { data := #[] }, .string { data := #[] }, .slice none 0 0, .slice none 0 0] 26)) 26 #[.int .i64 kind, .string { data := #[] }, .string { data := #[] }, .string x.path, .slice none 0 0, .slice none 0 0]).alloc (.cells #[.pointer (some ⟨g, 0, none⟩)] 91)
    rw [World.size_alloc, World.size_alloc] at q
    exact q
  have e9 : ((((w.alloc (.cells #[.int .i64 x.kind, .string x.code, .string x.value, .string x.path, .slice Ab x.bytes.length cb, .slice Ak x.kids.length ck] 61)).alloc (.cells #[.int .i64 0, .string { data := #[] }, .string { data := #[] }, .string { data := #[] }, .slice none 0 0, .slice none 0 0] 26)).alloc (.cells #[.int .i64 kind, .string { data := #[] }, .string { data := #[] }, .string x.path, .slice none 0 0, .slice none 0 0] 26)).alloc (.cells #[.pointer (some ⟨g, 0, none⟩)] 91)).cell? ⟨w.heap.size + 3, 0, none⟩ = some (.pointer (some ⟨g, 0, none⟩)) := by
    have q := (Blk.new (((w.alloc (.cells #[.int .i64 x.kind, .string x.code, .string x.value, .string x.path, .slice Ab x.bytes.length cb, .slice Ak x.kids.length ck] 61)).alloc (.cells #[.int .i64 0, .string { data := #[] }, .string { data := #[] }, .string { data := #[] }, .slice none 0 0, .slice none 0 0] 26)).alloc (.cells #[.int .i64 kind, .string { data := #[] }, .string { data := #[] }, .string x.path, .slice none 0 0, .slice none 0 0] 26)) 91 #[.pointer (some ⟨g, 0, none⟩)]).cell 0
    rw [World.size_alloc, World.size_alloc, World.size_alloc] at q
    exact q
  have hrw := HH.out.2.2.2.below b4
  have hsz : ((((w.alloc (.cells #[.int .i64 x.kind, .string x.code, .string x.value, .string x.path, .slice Ab x.bytes.length cb, .slice Ak x.kids.length ck] 61)).alloc (.cells #[.int .i64 0, .string { data := #[] }, .string { data := #[] }, .string { data := #[] }, .slice none 0 0, .slice none 0 0] 26)).alloc (.cells #[.int .i64 kind, .string { data := #[] }, .string { data := #[] }, .string x.path, .slice none 0 0, .slice none 0 0] 26)).alloc (.cells #[.pointer (some ⟨g, 0, none⟩)] 91)).heap.size = w.heap.size + 4 := by simp
  generalize (((w.alloc (.cells #[.int .i64 x.kind, .string x.code, .string x.value, .string x.path, .slice Ab x.bytes.length cb, .slice Ak x.kids.length ck] 61)).alloc (.cells #[.int .i64 0, .string { data := #[] }, .string { data := #[] }, .string { data := #[] }, .slice none 0 0, .slice none 0 0] 26)).alloc (.cells #[.int .i64 kind, .string { data := #[] }, .string { data := #[] }, .string x.path, .slice none 0 0, .slice none 0 0] 26)).alloc (.cells #[.pointer (some ⟨g, 0, none⟩)] 91) = wx at b4 q6 q7 e9 hrw hsz ⊢
  have hlt : ∀ k, ofOwn (w.heap.size + 2) wx k → k < wx.heap.size := fun k hk => by
    rw [ofOwn_blk q7] at hk
    rcases hk with rfl | ⟨n, c, e⟩ | ⟨n, c, e⟩
    · omega
    · cases e
    · cases e
  refine of_loop 131 256 (w.heap.size + 2) #[.pointer (some ⟨w.heap.size + 3, 0, none⟩)] kind x.path f wx (ofR w (w.heap.size + 1)) (ofR_stays (by omega) (by omega) (by omega) (by omega)) ⟨b4, q6⟩ (by decide) (enters_of Tryz.func131 (by kernel_rfl) rfl) (all_m_stops (w.heap.size + 3) g gr gu n 9 _ (ofOwn (w.heap.size + 2)) f _ (ofOwn_owns (by omega)) hlt e9 hrw) q7 ?_
  intro D v4 v5 W hD z1 z2 z3 z4 z5 z6
  refine HK2.out _ _ ?_
  exact of_tail x f kind w (w.heap.size + 1) (w.heap.size + 2) D HH.out.1 HH.out.2.1 HH.out.2.2.1 (by omega) (by omega) wx.heap.size hD (by omega) v4 v5 W z1 z2 z3 z4 z6
theorem of_row (x : Nd) (V : Value) (w : World) (h : NdAt w x V) (iv : Value) (room : Int) (f : Kids) (bl : List Nat) (hrow : RowAt w iv room f bl) (kind : Int) (hk : -9223372036854775808 ≤ kind ∧ kind ≤ 9223372036854775807) (hv : ∀ b r, f b = some r → refOk r) :
    Calls Tryz.prog 42 #[V, iv, .int .i64 kind] w (NdOut (ofNd x f kind) w) := by
  rcases hrow with ⟨g, rfl, rfl, hf⟩ | ⟨g, gr, gu, n, rfl, rfl, rfl, hf⟩
  · exact of_few x V w h g room f hf kind hk hv
  · exact of_many x V w h g gr gu n f hf kind hk hv
end Go.Proofs.YtgjgcbemgmkncaaGreatDoor
namespace Go.Proofs.YtgjgcbemgmkncaaGreatDoor
open Go.RowKit Go.Shelf
set_option linter.unusedVariables false
set_option maxRecDepth 20000
set_option linter.unusedSimpArgs false

def zeroNd : Nd := ⟨0, { data := #[] }, { data := #[] }, { data := #[] }, [], []⟩
theorem zeroNd_at (W : World) : NdAt W zeroNd (.agg #[.int .i64 0, .string { data := #[] }, .string { data := #[] }, .string { data := #[] }, .slice none 0 0, .slice none 0 0]) :=
  ⟨⟨by simp [zeroNd], by simp [zeroNd], by simp [zeroNd], by simp [zeroNd], by simp [zeroNd], by simp [zeroNd, ByteArray.size], by simp [zeroNd, ByteArray.size], by simp [zeroNd, ByteArray.size]⟩, none, 0, none, 0, rfl, Reads.none_, Reads.none_⟩
def kindN (x : Nd) (n : Int) (keep : Bool) : Int := if keep then x.kind else (ofN n).1
def addRoom (x : Nd) (keep : Bool) : Int := roomN (max (kindN x ((x.kids.length : Int) + 1) keep) x.kind)
def Nd.row (x : Nd) (room : Int) : Kids := layK room (x.bytes.zip x.kids)
def addN (x : Nd) (b : Nat) (r : Int × Int) (keep : Bool) : Nd × Int :=
  if x.may = false ∨ kidN r = false then (zeroNd, 4)
  else if (putK (addRoom x keep) (x.row (addRoom x keep)) b r).1 = 0 then (ofNd x (putK (addRoom x keep) (x.row (addRoom x keep)) b r).2 (kindN x ((x.kids.length : Int) + 1) keep), 0)
  else (zeroNd, (putK (addRoom x keep) (x.row (addRoom x keep)) b r).1)
def cutN (x : Nd) (b : Nat) (keep : Bool) : Nd × Int :=
  if x.may = false then (zeroNd, 4)
  else if (takeK (x.row (roomN x.kind)) b).1.2 = 0 then (ofNd x (takeK (x.row (roomN x.kind)) b).2 (kindN x ((x.kids.length : Int) - 1) keep), 0)
  else (zeroNd, (takeK (x.row (roomN x.kind)) b).1.2)
theorem may_inner {x : Nd} (h : x.may = true) : x.isInner = true := by
  unfold Nd.may Nd.isRight Nd.isAnchor at h
  cases hi : x.isInner with
  | true => rfl
  | false => rw [hi] at h; simp at h
theorem inner_parts {x : Nd} (h : x.isInner = true) : 0 < roomN x.kind ∧ x.code.toList.isEmpty = true ∧ x.value.toList.isEmpty = true ∧ x.path.size ≤ 34 ∧ x.bytes.length = x.kids.length ∧ x.kids.length ≤ 256 ∧ risingN x.bytes = true ∧ x.kids.all kidN = true := by
  unfold Nd.isInner Nd.innerN Nd.bareN Nd.pairedN Nd.risingN Nd.refsN at h
  simp only [Bool.and_eq_true, decide_eq_true_eq] at h
  obtain ⟨⟨⟨⟨h1, ⟨h2, h3⟩, h4⟩, h5, h6⟩, h7⟩, h8⟩ := h
  exact ⟨h1, h2, h3, by omega, h5, h6, h7, h8⟩
theorem room_kind {k : Int} (h : 0 < roomN k) : k = 2 ∨ k = 3 ∨ k = 4 ∨ k = 5 := by
  unfold roomN at h
  by_cases h2 : k = 2
  · exact .inl h2
  · by_cases h3 : k = 3
    · exact .inr (.inl h3)
    · by_cases h4 : k = 4
      · exact .inr (.inr (.inl h4))
      · by_cases h5 : k = 5
        · exact .inr (.inr (.inr h5))
        · simp [h2, h3, h4, h5] at h
theorem roomOk_of {k : Int} (h : k = 2 ∨ k = 3 ∨ k = 4 ∨ k = 5) : roomOk (roomN k) := by
  rcases h with rfl | rfl | rfl | rfl
  · exact .inl rfl
  · exact .inr (.inl rfl)
  · exact .inr (.inr (.inl rfl))
  · exact .inr (.inr (.inr rfl))
theorem ofN_kind (n : Int) : (ofN n).1 = 0 ∨ (ofN n).1 = 2 ∨ (ofN n).1 = 3 ∨ (ofN n).1 = 4 ∨ (ofN n).1 = 5 := by
  unfold ofN
  split
  · exact .inl rfl
  · split
    · exact .inr (.inl rfl)
    · split
      · exact .inr (.inr (.inl rfl))
      · split
        · exact .inr (.inr (.inr (.inl rfl)))
        · split
          · exact .inr (.inr (.inr (.inr rfl)))
          · exact .inl rfl
theorem kindN_in (x : Nd) (n : Int) (keep : Bool) (h : 0 < roomN x.kind) : -9223372036854775808 ≤ kindN x n keep ∧ kindN x n keep ≤ 9223372036854775807 := by
  have h1 := ofN_kind n
  have h2 := room_kind h
  unfold kindN
  split <;> omega
theorem addRoom_ok (x : Nd) (keep : Bool) (h : 0 < roomN x.kind) : roomOk (addRoom x keep) := by
  have h1 := ofN_kind ((x.kids.length : Int) + 1)
  have h2 := room_kind h
  refine roomOk_of ?_
  unfold kindN
  split <;> omega
/-- Kids laid out of a node are its own. -/
theorem layK_mem (room : Int) (l : List (Nat × (Int × Int))) : ∀ b r, layK room l b = some r → ∃ p ∈ l, p.1 = b ∧ p.2 = r := by
  have h : ∀ (l : List (Nat × (Int × Int))) (f : Kids), ∀ b r, l.foldl (layStep room) f b = some r → f b = some r ∨ ∃ p ∈ l, p.1 = b ∧ p.2 = r := by
    intro l
    induction l with
    | nil => intro f b r h; exact .inl h
    | cons p l ih =>
      intro f b r h
      rcases ih _ b r h with h1 | ⟨q, hq, h2⟩
      · unfold layStep putK at h1
        split at h1
        · exact .inl h1
        · split at h1
          · exact .inl h1
          · dsimp only [setK] at h1
            split at h1
            · rename_i e
              injection h1 with h1
              exact .inr ⟨p, by simp, e.symm, h1⟩
            · exact .inl h1
      · exact .inr ⟨q, by simp [hq], h2⟩
  intro b r hb
  rcases h l noKids b r hb with h1 | h1
  · cases h1
  · exact h1
theorem row_refOk {x : Nd} (hx : x.wf) (room : Int) : ∀ b r, x.row room b = some r → refOk r := by
  intro b r h
  obtain ⟨p, hp, _, rfl⟩ := layK_mem room _ b r h
  exact hx.refs _ (List.of_mem_zip hp).2
theorem set_refOk {f : Kids} (hf : ∀ b r, f b = some r → refOk r) (c : Nat) {r : Int × Int} (hr : refOk r) : ∀ b q, setK f c (some r) b = some q → refOk q := by
  intro b q h
  unfold setK at h
  split at h
  · injection h with h; subst h; exact hr
  · exact hf b q h
theorem none_refOk {f : Kids} (hf : ∀ b r, f b = some r → refOk r) (c : Nat) : ∀ b q, setK f c none b = some q → refOk q := by
  intro b q h
  unfold setK at h
  split at h
  · cases h
  · exact hf b q h
theorem put_refOk {f : Kids} (room : Int) (hf : ∀ b r, f b = some r → refOk r) (c : Nat) {r : Int × Int} (hr : refOk r) : ∀ b q, (putK room f c r).2 b = some q → refOk q := by
  unfold putK
  split
  · exact hf
  · split
    · exact hf
    · exact set_refOk hf c hr
theorem take_refOk {f : Kids} (hf : ∀ b r, f b = some r → refOk r) (c : Nat) : ∀ b q, (takeK f c).2 b = some q → refOk q := by
  unfold takeK
  split
  · exact none_refOk hf c
  · exact hf
theorem kind_n (x : Nd) (V : Value) (n : Int) (keep : Bool) (w : World) (h : NdAt w x V) (hr : RoomsAt w) : Calls Tryz.prog 40 #[V, .int .i64 n, .bool keep] w (IntEnd (kindN x n keep) w) := by
  obtain ⟨_, Ab, cb, Ak, ck, rfl, _, _⟩ := h
  unfold Nd.v
  cases keep with
  | true =>
    go_enter Tryz.func40, Tryz.ntmps40
    go_wp2
    go_ret
    exact ⟨rfl, (Below.refl _ _).alloc (Nat.le_refl _) _⟩
  | false =>
    have HO := Lib.hid (of_n n (w.alloc (.cells #[.int .i64 x.kind, .string x.code, .string x.value, .string x.path, .slice Ab x.bytes.length cb, .slice Ak x.kids.length ck] 61)) (hr.on (below_box w _)))
    obtain ⟨p, hp⟩ : ∃ p, ofN n = p := ⟨_, rfl⟩
    rw [hp] at HO
    have HP : Hid (kindN x n false = p.1) := Lib.hid (by unfold kindN; rw [hp]; rfl)
    clear hp
    go_enter Tryz.func40, Tryz.ntmps40
    go_wp2_with fail
    refine HO.out.mono ?_
    rintro e w1 ⟨rfl, rfl⟩
    go_wp2
    go_ret
    exact ⟨ret_int HP.out.symm, (Below.refl _ _).alloc (Nat.le_refl _) _⟩
end Go.Proofs.YtgjgcbemgmkncaaGreatDoor
namespace Go.Proofs.YtgjgcbemgmkncaaGreatDoor
open Go.RowKit Go.Shelf
set_option linter.unusedVariables false
set_option maxRecDepth 20000
set_option linter.unusedSimpArgs false

/-- The blocks of a node's two rows. -/
def blkOf : Option Value → List Nat
  | some (.slice (some ad) (_ + 1) _) => [ad.block]
  | _ => []
theorem mem_blkOf {A : Option Addr} {l c g : Nat} (h : g ∈ blkOf (some (.slice A l c))) : ∃ ad, A = some ad ∧ 0 < l ∧ g = ad.block := by
  cases A with
  | none => cases l <;> cases h
  | some ad =>
    cases l with
    | zero => cases h
    | succ l => exact ⟨ad, rfl, by omega, by simpa [blkOf] using h⟩
def rowsOf : Value → List Nat
  | .agg cs => blkOf cs[4]? ++ blkOf cs[5]?
  | _ => []
theorem mem_rowsOf {v0 v1 v2 v3 : Value} {A4 A5 : Option Addr} {l4 l5 c4 c5 g : Nat} (h : g ∈ rowsOf (.agg #[v0, v1, v2, v3, .slice A4 l4 c4, .slice A5 l5 c5])) : (∃ ad, A4 = some ad ∧ 0 < l4 ∧ g = ad.block) ∨ ∃ ad, A5 = some ad ∧ 0 < l5 ∧ g = ad.block := by
  have h2 : g ∈ blkOf (some (.slice A4 l4 c4)) ++ blkOf (some (.slice A5 l5 c5)) := h
  rcases List.mem_append.1 h2 with h3 | h3
  · exact .inl (mem_blkOf h3)
  · exact .inr (mem_blkOf h3)
theorem rowsOf_zero {n : Nat} : ∀ g ∈ rowsOf (.agg #[.int .i64 0, .string { data := #[] }, .string { data := #[] }, .string { data := #[] }, .slice none 0 0, .slice none 0 0]), n ≤ g := by intro g hg; cases hg
theorem rowsOf_v {n : Nat} {v0 v1 v2 v3 : Value} {A4 A5 : Option Addr} {l4 l5 c4 c5 : Nat} (h4 : ∀ ad, A4 = some ad → n ≤ ad.block) (h5 : ∀ ad, A5 = some ad → n ≤ ad.block) : ∀ g ∈ rowsOf (.agg #[v0, v1, v2, v3, .slice A4 l4 c4, .slice A5 l5 c5]), n ≤ g := by
  intro g hg
  rcases mem_rowsOf hg with ⟨ad, e, _, rfl⟩ | ⟨ad, e, _, rfl⟩
  · exact h4 _ e
  · exact h5 _ e
def NdPair (y : Nd) (c : Int) (w : World) (e : Ending) (w' : World) : Prop := ∃ V', e = .returned (.tuple #[V', .int .i64 c]) ∧ NdAt w' y V' ∧ Below w.heap.size w w' ∧ ∀ g ∈ rowsOf V', w.heap.size ≤ g
/-- Add's world behind its boxes. -/
structure AddW (w : World) (x : Nd) (r : Int × Int) (CE : Array Value) (W : World) : Prop where
  below : Below w.heap.size w W
  box : Blk W w.heap.size 26 CE
  ref : Blk W (w.heap.size + 1) 29 #[.int .i64 r.1, .int .u32 r.2]
  out : Blk W (w.heap.size + 1 + 1) 26 #[.int .i64 0, .string { data := #[] }, .string { data := #[] }, .string { data := #[] }, .slice none 0 0, .slice none 0 0]
  parts : Blk W (w.heap.size + 1 + 1 + 1) 61 CE
  node : NdAt W x (.agg CE)
  rooms : RoomsAt W
  size : w.heap.size + 4 ≤ W.heap.size
theorem AddW.on {w W W' : World} {x : Nd} {r : Int × Int} {CE : Array Value} (h : AddW w x r CE W) (hb : Below W.heap.size W W') : AddW w x r CE W' :=
  ⟨h.below.trans (hb.mono h.below.size), h.box.below hb h.box.lt, h.ref.below hb h.ref.lt, h.out.below hb h.out.lt, h.parts.below hb h.parts.lt, h.node.below hb, h.rooms.on hb, Nat.le_trans h.size hb.size⟩
theorem AddW.kept {w W W' : World} {x : Nd} {r : Int × Int} {CE : Array Value} {bl : List Nat} (h : AddW w x r CE W) (hk : Kept bl W W') (hbl : ∀ b ∈ bl, w.heap.size + 4 ≤ b) (h0 : NdAt w x (.agg CE)) (hr0 : RoomsAt w) : AddW w x r CE W' := by
  have hb := below_kept h.below hk h.below.size (fun b hb => by have := hbl b hb; omega)
  exact ⟨hb, hk.blk h.box (fun hm => by have := hbl _ hm; omega), hk.blk h.ref (fun hm => by have := hbl _ hm; omega), hk.blk h.out (fun hm => by have := hbl _ hm; omega), hk.blk h.parts (fun hm => by have := hbl _ hm; omega), h0.below hb, hr0.on hb, Nat.le_trans h.size hk.size⟩
theorem add_start (w : World) (x : Nd) (r : Int × Int) (CE : Array Value) (h : NdAt w x (.agg CE)) (hr : RoomsAt w) : AddW w x r CE ((((w.alloc (.cells CE 26)).alloc (.cells #[.int .i64 r.1, .int .u32 r.2] 29)).alloc (.cells #[.int .i64 0, .string { data := #[] }, .string { data := #[] }, .string { data := #[] }, .slice none 0 0, .slice none 0 0] 26)).alloc (.cells CE 61)) := by
  have b4 : Below w.heap.size w ((((w.alloc (.cells CE 26)).alloc (.cells #[.int .i64 r.1, .int .u32 r.2] 29)).alloc (.cells #[.int .i64 0, .string { data := #[] }, .string { data := #[] }, .string { data := #[] }, .slice none 0 0, .slice none 0 0] 26)).alloc (.cells CE 61)) := ((((Below.refl _ w).alloc (Nat.le_refl _) _).alloc (by simp) _).alloc (by simp; omega) _).alloc (by simp; omega) _
  refine ⟨b4, ((((Blk.new w 26 CE).alloc _).alloc _).alloc _), ?_, ?_, ?_, h.below b4, hr.on b4, by simp⟩
  · have q := ((Blk.new (w.alloc (.cells CE 26)) 29 #[.int .i64 r.1, .int .u32 r.2]).alloc (.cells #[.int .i64 0, .string { data := #[] }, .string { data := #[] }, .string { data := #[] }, .slice none 0 0, .slice none 0 0] 26)).alloc (.cells CE 61)
    rw [World.size_alloc] at q
    exact q
  · have q := (Blk.new ((w.alloc (.cells CE 26)).alloc (.cells #[.int .i64 r.1, .int .u32 r.2] 29)) 26 #[.int .i64 0, .string { data := #[] }, .string { data := #[] }, .string { data := #[] }, .slice none 0 0, .slice none 0 0]).alloc (.cells CE 61)
    rw [World.size_alloc, World.size_alloc] at q
    exact q
  · have q := Blk.new (((w.alloc (.cells CE 26)).alloc (.cells #[.int .i64 r.1, .int .u32 r.2] 29)).alloc (.cells #[.int .i64 0, .string { data := #[] }, .string { data := #[] }, .string { data := #[] }, .slice none 0 0, .slice none 0 0] 26)) 61 CE
    rw [World.size_alloc, World.size_alloc, World.size_alloc] at q
    exact q
set_option maxHeartbeats 3200000 in
set_option maxRecDepth 100000 in
theorem add_no (x : Nd) (V : Value) (b : Nat) (r : Int × Int) (keep : Bool) (w : World) (h : NdAt w x V) (hr : RoomsAt w) (hno : x.may = false ∨ kidN r = false) : Calls Tryz.prog 16 #[V, .int .u8 (b : Int), refV r, .bool keep] w (NdPair zeroNd 4 w) := by
  have h' := h
  obtain ⟨hwf, Ab, cb, Ak, ck, rfl, _, _⟩ := h'
  have h4 := add_start w x r #[.int .i64 x.kind, .string x.code, .string x.value, .string x.path, .slice Ab x.bytes.length cb, .slice Ak x.kids.length ck] h hr
  have HM := Lib.hid (may_n x _ _ h4.node h4.rooms)
  have H4 := Lib.hid h4
  have HN := Lib.hid hno
  clear hwf h hr h4 hno
  unfold Nd.v refV at *
  have HC := H4
  cases hm : x.may with
  | false =>
    rw [hm] at HM
    go_enter Tryz.func16, Tryz.ntmps16
    go_wp2_with fail
    refine HM.out.mono ?_
    rintro e w1 ⟨rfl, hb⟩
    have H5 := Lib.hid (H4.out.on hb)
    obtain ⟨d0, d1, d2, d3, d4, d5⟩ := cells6 H5.out.out
    have f0 := H5.out.out.frozen 0
    have f1 := H5.out.out.frozen 1
    have f2 := H5.out.out.frozen 2
    have f3 := H5.out.out.frozen 3
    have f4 := H5.out.out.frozen 4
    have f5 := H5.out.out.frozen 5
    have l6 := H5.out.out.lt
    clear hb HM H4 HC
    obtain ⟨V, hV, hg, q6⟩ := six_stores (.int .i64 0) (.string { data := #[] }) (.string { data := #[] }) (.string { data := #[] }) (.slice none 0 0) (.slice none 0 0) H5.out.out
    go_wp2
    rw [← hV]
    clear hV d0 d1 d2 d3 d4 d5 f0 f1 f2 f3 f4 f5
    obtain ⟨c0, c1, c2, c3, c4, c5⟩ := cells6 q6
    exact bodyPost_ret (v := .tuple #[.agg #[.int .i64 0, .string { data := #[] }, .string { data := #[] }, .string { data := #[] }, .slice none 0 0, .slice none 0 0], .int .i64 4]) (by simp [results, Tryz.results16, go_sem, c0, c1, c2, c3, c4, c5]) rfl ⟨_, rfl, zeroNd_at V, H5.out.below.grown hg H5.out.below.size (fun k e => by injection e with e; omega), rowsOf_zero⟩
  | true =>
    rw [hm] at HM
    have hkid : kidN r = false := by
      rcases HN.out with e | e
      · rw [hm] at e; cases e
      · exact e
    go_enter Tryz.func16, Tryz.ntmps16
    go_wp2_with fail
    refine HM.out.mono ?_
    rintro e w1 ⟨rfl, hb⟩
    have H6 := Lib.hid (H4.out.on hb)
    have r0 : w1.cell? ⟨w.heap.size + 1, 0, none⟩ = some (.int .i64 r.1) := H6.out.ref.cell 0
    have r1 : w1.cell? ⟨w.heap.size + 1, 1, none⟩ = some (.int .u32 r.2) := H6.out.ref.cell 1
    have hk := kid_n r w1
    rw [hkid] at hk
    unfold refV at hk
    have HK := Lib.hid hk
    clear hb HM H4 HC hk hkid hm
    go_wp2_with fail
    refine HK.out.mono ?_
    rintro e w2 ⟨rfl, hb⟩
    have H5 := Lib.hid (H6.out.on hb)
    obtain ⟨d0, d1, d2, d3, d4, d5⟩ := cells6 H5.out.out
    have f0 := H5.out.out.frozen 0
    have f1 := H5.out.out.frozen 1
    have f2 := H5.out.out.frozen 2
    have f3 := H5.out.out.frozen 3
    have f4 := H5.out.out.frozen 4
    have f5 := H5.out.out.frozen 5
    have l6 := H5.out.out.lt
    clear hb HK H6 r0 r1
    obtain ⟨V, hV, hg, q6⟩ := six_stores (.int .i64 0) (.string { data := #[] }) (.string { data := #[] }) (.string { data := #[] }) (.slice none 0 0) (.slice none 0 0) H5.out.out
    go_wp2
    rw [← hV]
    clear hV d0 d1 d2 d3 d4 d5 f0 f1 f2 f3 f4 f5
    obtain ⟨c0, c1, c2, c3, c4, c5⟩ := cells6 q6
    exact bodyPost_ret (v := .tuple #[.agg #[.int .i64 0, .string { data := #[] }, .string { data := #[] }, .string { data := #[] }, .slice none 0 0, .slice none 0 0], .int .i64 4]) (by simp [results, Tryz.results16, go_sem, c0, c1, c2, c3, c4, c5]) rfl ⟨_, rfl, zeroNd_at V, H5.out.below.grown hg H5.out.below.size (fun k e => by injection e with e; omega), rowsOf_zero⟩

theorem put_iface {W : World} {iv : Value} {room : Int} {f : Kids} {bl : List Nat} (b : Nat) (r : Int × Int) (h : RowAt W iv room f bl) (hb : b < 256) : ∃ (T : TypeId) (g fid : Nat), iv = .iface T (.pointer (some ⟨g, 0, none⟩)) ∧ (∀ V : World, (method 263 T (.pointer (some ⟨g, 0, none⟩)) "Put").run Tryz.prog V = .ok (fid, .pointer (some ⟨g, 0, none⟩)) V) ∧ (∀ args V, (callFunc fid args).run Tryz.prog V = .ok (.enter fid args) V) ∧
    Calls Tryz.prog fid #[.pointer (some ⟨g, 0, none⟩), .int .u8 (b : Int), refV r] W (RowEndI (.int .i64 (putK room f b r).1) iv room (putK room f b r).2 bl W) := by
  rcases h with ⟨g, rfl, rfl, hf⟩ | ⟨g, gr, gu, n, rfl, rfl, rfl, hf⟩
  · refine ⟨_, g, _, rfl, few_Put_me g, enters_of Tryz.func112 (by kernel_rfl) rfl, (Put_k g room f b r W hf hb).mono ?_⟩
    rintro e w' ⟨rfl, h1, h2⟩
    exact ⟨rfl, .inl ⟨g, rfl, rfl, h1⟩, kept_grown h2⟩
  · refine ⟨_, g, _, rfl, many_Put_me g, enters_of Tryz.func128 (by kernel_rfl) rfl, (Put_m g gr gu n f b r W hf hb).mono ?_⟩
    rintro e w' ⟨rfl, h1, h2⟩
    exact ⟨rfl, .inr ⟨g, gr, gu, n, rfl, rfl, rfl, h1⟩, kept_three h2⟩
theorem reads_off {W V : World} {size n c : Nat} {A : Option Addr} {xs : List Value} (h : Reads W W.heap.size size A n xs) (hg : W.grownBy V (some c)) (hne : ∀ ad, A = some ad → ad.block ≠ c) : Reads V V.heap.size size A n xs := by
  refine ⟨h.1, fun hn => ?_⟩
  obtain ⟨ad, e, hb, hc⟩ := h.2 hn
  refine ⟨ad, e, Nat.lt_of_lt_of_le hb hg.size, fun j u hu => ?_⟩
  have hbl : (ad.add j).block = ad.block := block_of_add ad j
  refine (World.cell?_of_block ?_).trans (hc j u hu)
  rw [hbl]
  exact hg.block _ hb (fun e2 => hne ad e (by injection e2))
theorem addS {w W : World} {x : Nd} {r : Int × Int} {Ab Ak : Option Addr} {cb ck : Nat} (h : AddW w x r #[.int .i64 x.kind, .string x.code, .string x.value, .string x.path, .slice Ab x.bytes.length cb, .slice Ak x.kids.length ck] W) : (W.cell? ⟨w.heap.size + 1 + 1 + 1, 0, none⟩ = some (.int .i64 x.kind) ∧ W.cell? ⟨w.heap.size + 1 + 1 + 1, 1, none⟩ = some (.string x.code) ∧ W.cell? ⟨w.heap.size + 1 + 1 + 1, 2, none⟩ = some (.string x.value) ∧ W.cell? ⟨w.heap.size + 1 + 1 + 1, 3, none⟩ = some (.string x.path) ∧ W.cell? ⟨w.heap.size + 1 + 1 + 1, 4, none⟩ = some (.slice Ab x.bytes.length cb) ∧ W.cell? ⟨w.heap.size + 1 + 1 + 1, 5, none⟩ = some (.slice Ak x.kids.length ck)) ∧ W.cell? ⟨w.heap.size, 0, none⟩ = some (.int .i64 x.kind) := ⟨cells6 h.parts, h.box.cell 0⟩
theorem AddW.drew {w W : World} {x : Nd} {r : Int × Int} {CE : Array Value} (h : AddW w x r CE W) : AddW w x r CE W.drew := ⟨h.below.drew, h.box.drew, h.ref.drew, h.out.drew, h.parts.drew, h.node, h.rooms, h.size⟩
set_option maxHeartbeats 3200000 in
set_option maxRecDepth 100000 in
theorem add_yes (x : Nd) (V : Value) (b : Nat) (r : Int × Int) (keep : Bool) (w : World) (h : NdAt w x V) (hr : RoomsAt w) (hb256 : b < 256) (hrok : refOk r) (hm : x.may = true) (hkd : kidN r = true) (hz : (putK (addRoom x keep) (x.row (addRoom x keep)) b r).1 = 0) : Calls Tryz.prog 16 #[V, .int .u8 (b : Int), refV r, .bool keep] w (fun e w' => NdPair (addN x b r keep).1 (addN x b r keep).2 w e w') := by
  have hin := inner_parts (may_inner hm)
  have hx2 : addN x b r keep = if (putK (addRoom x keep) (x.row (addRoom x keep)) b r).1 = 0 then (ofNd x (putK (addRoom x keep) (x.row (addRoom x keep)) b r).2 (kindN x ((x.kids.length : Int) + 1) keep), 0) else (zeroNd, (putK (addRoom x keep) (x.row (addRoom x keep)) b r).1) := by
    unfold addN
    rw [if_neg (by rw [hm, hkd]; simp)]
  rw [hx2]
  clear hx2
  have hroom := addRoom_ok x keep hin.1
  have hkin := kindN_in x ((x.kids.length : Int) + 1) keep hin.1
  have hpo := put_refOk (addRoom x keep) (row_refOk h.1 (addRoom x keep)) b hrok
  have h' := h
  obtain ⟨hwf, Ab, cb, Ak, ck, rfl, _, _⟩ := h'
  have h4 := add_start w x r #[.int .i64 x.kind, .string x.code, .string x.value, .string x.path, .slice Ab x.bytes.length cb, .slice Ak x.kids.length ck] h hr
  have HM := Lib.hid (may_n x _ _ h4.node h4.rooms)
  rw [hm] at HM
  have H4 := Lib.hid h4
  obtain ⟨room, hrm⟩ : ∃ room, addRoom x keep = room := ⟨_, rfl⟩
  obtain ⟨q, hq⟩ : ∃ q, kindN x ((x.kids.length : Int) + 1) keep = q := ⟨_, rfl⟩
  rw [hrm] at hroom hpo hz ⊢
  rw [hq] at hkin ⊢
  have hrq : roomN (max q x.kind) = room := by rw [← hrm, ← hq]; rfl
  obtain ⟨pc, hpc⟩ : ∃ pc, (putK room (x.row room) b r).1 = pc := ⟨_, rfl⟩
  obtain ⟨f2, hf2⟩ : ∃ f2, (putK room (x.row room) b r).2 = f2 := ⟨_, rfl⟩
  rw [hpc, hf2, if_pos (by rw [← hpc]; exact hz)]
  rw [hf2] at hpo
  have HZ : Hid ((pc != 0) = false) := Lib.hid (by rw [← hpc]; simp [hz])
  clear hz
  unfold Nd.row at hpc hf2
  have HPC := Lib.hid (And.intro hpc hf2)
  clear hpc hf2
  have HP := Lib.hid (And.intro hpo (And.intro hroom (And.intro hkin (And.intro hwf (And.intro hin (And.intro hrq (And.intro hq (And.intro h hr))))))))
  have hkl : (x.kids.length : Int) ≤ 256 := by omega
  clear hwf h hr h4 hroom hkin hpo hin hm hrm hq hrq
  have hkk := fun W => kid_n r W
  rw [hkd] at hkk
  have HKK := Lib.hid hkk
  clear hkk hkd
  unfold Nd.v refV at *
  go_enter Tryz.func16, Tryz.ntmps16
  go_wp2_with fail
  refine HM.out.mono ?_
  rintro e w1 ⟨rfl, hb⟩
  have H6 := Lib.hid (H4.out.on hb)
  have r0 : w1.cell? ⟨w.heap.size + 1, 0, none⟩ = some (.int .i64 r.1) := H6.out.ref.cell 0
  have r1 : w1.cell? ⟨w.heap.size + 1, 1, none⟩ = some (.int .u32 r.2) := H6.out.ref.cell 1
  have HK := Lib.hid (HKK.out w1)
  clear hb HM H4 HKK
  go_wp2_with fail
  refine HK.out.mono ?_
  rintro e w2 ⟨rfl, hb⟩
  have H5 := Lib.hid (H6.out.on hb)
  obtain ⟨p0, p1, p2, p3, p4, p5⟩ := cells6 H5.out.parts
  have b5 : w2.cell? ⟨w.heap.size, 5, none⟩ = some (.slice Ak x.kids.length ck) := H5.out.box.cell 5
  have HKI := Lib.hid (kind_n x _ ((x.kids.length : Int) + 1) keep w2 H5.out.node H5.out.rooms)
  rw [HP.out.2.2.2.2.2.2.1] at HKI
  clear hb HK H6 r0 r1
  go_wp2_with fail
  refine HKI.out.mono ?_
  rintro e w3 ⟨rfl, hb⟩
  have H3 := Lib.hid (H5.out.on hb)
  clear hb HKI H5 p0 p1 p2 p3 p4 p5 b5
  have HRO := Lib.hid (room_n (max q x.kind) w3.drew H3.out.drew.rooms)
  rw [HP.out.2.2.2.2.2.1, show max q x.kind = if q < x.kind then x.kind else q by split <;> omega] at HRO
  have HLA := Lib.hid (laid_n x _ room w3.drew H3.out.drew.node HP.out.2.1 (by have := HP.out.2.2.2.2.1.2.2.2.2.1; omega))
  go_wp2_with fail
  refine wp_region_held_drew (S := (fun V : World => (V.cell? ⟨w.heap.size + 1 + 1 + 1, 0, none⟩ = some (.int .i64 x.kind) ∧ V.cell? ⟨w.heap.size + 1 + 1 + 1, 1, none⟩ = some (.string x.code) ∧ V.cell? ⟨w.heap.size + 1 + 1 + 1, 2, none⟩ = some (.string x.value) ∧ V.cell? ⟨w.heap.size + 1 + 1 + 1, 3, none⟩ = some (.string x.path) ∧ V.cell? ⟨w.heap.size + 1 + 1 + 1, 4, none⟩ = some (.slice Ab x.bytes.length cb) ∧ V.cell? ⟨w.heap.size + 1 + 1 + 1, 5, none⟩ = some (.slice Ak x.kids.length ck)) ∧ V.cell? ⟨w.heap.size, 0, none⟩ = some (.int .i64 x.kind))) (by kernel_rfl) ?_ (fun hHeld0 => ?_)
  · exact addS H3.out.drew
  refine wpAnyH_take (i := 0) (v := ?_) rfl (by kernel_rfl) (by kernel_rfl) (by kernel_rfl) (fun _ _ _ h => h) (Or.inl ⟨by rfl, ?_⟩) hHeld0 ?_
  rotate_left
  · (intro w hSw; (try dsimp only at hSw); go_simp <;> with_reducible rfl)
  try simp only [Act.put, List.setIfInBounds_toArray, List.set_cons_zero, List.set_cons_succ]
  refine wpAnyH_take (i := 1) (v := ?_) rfl (by kernel_rfl) (by kernel_rfl) (by kernel_rfl) (fun _ _ _ h => h) (Or.inl ⟨by rfl, ?_⟩) hHeld0 ?_
  rotate_left
  · (intro w hSw; (try dsimp only at hSw); go_simp <;> with_reducible rfl)
  try simp only [Act.put, List.setIfInBounds_toArray, List.set_cons_zero, List.set_cons_succ]
  refine wpAnyH_take (i := 2) (v := ?_) rfl (by kernel_rfl) (by kernel_rfl) (by kernel_rfl) (fun _ _ _ h => h) (Or.inl ⟨by rfl, ?_⟩) hHeld0 ?_
  rotate_left
  · (intro w hSw; (try dsimp only at hSw); go_simp <;> with_reducible rfl)
  try simp only [Act.put, List.setIfInBounds_toArray, List.set_cons_zero, List.set_cons_succ]
  refine wpAnyH_take (i := 3) (v := ?_) rfl (by kernel_rfl) (by kernel_rfl) (by kernel_rfl) (fun _ _ _ h => h) (Or.inl ⟨by rfl, ?_⟩) hHeld0 ?_
  rotate_left
  · (intro w hSw; (try dsimp only at hSw); go_simp <;> with_reducible rfl)
  try simp only [Act.put, List.setIfInBounds_toArray, List.set_cons_zero, List.set_cons_succ]
  refine wpAnyH_take (i := 4) (v := ?_) rfl (by kernel_rfl) (by kernel_rfl) (by kernel_rfl) (fun _ _ _ h => h) (Or.inl ⟨by rfl, ?_⟩) hHeld0 ?_
  rotate_left
  · (intro w hSw; (try dsimp only at hSw); go_simp <;> with_reducible rfl)
  try simp only [Act.put, List.setIfInBounds_toArray, List.set_cons_zero, List.set_cons_succ]
  refine wpAnyH_ready (rs := [5]) (by kernel_rfl) (by simp) ?_
  refine AllReadyH.cons rfl (fun K hK => ?_) ?_
  · go_simp
    with_reducible refine HRO.out.mono ?_
    rintro e w4 ⟨rfl, rfl⟩
    refine hK.out _ _ ?_ (fun hHeld1 => ?_)
    · exact addS H3.out.drew
    clear hK K hHeld0
    try simp only [Act.put, List.setIfInBounds_toArray, List.set_cons_zero, List.set_cons_succ]
    refine wpAnyH_ready (rs := [6]) (by kernel_rfl) (by simp) ?_
    refine AllReadyH.cons rfl (fun K hK => ?_) ?_
    · go_simp
      refine HLA.out.mono ?_
      rintro e w5 ⟨iv, bl, rfl, hrow, hbl, hb5⟩
      have H7 := Lib.hid (And.intro hrow (And.intro hbl (And.intro (H3.out.drew.on hb5) hb5.size)))
      clear hrow hbl hb5
      refine hK.out _ _ ?_ (fun hHeld2 => ?_)
      · exact addS H7.out.2.2.1
      clear hK K hHeld1
      try simp only [Act.put, List.setIfInBounds_toArray, List.set_cons_zero, List.set_cons_succ]
      refine wpAnyH_take (i := 7) (v := ?_) rfl (by kernel_rfl) (by kernel_rfl) (by kernel_rfl) (fun _ _ _ h => h) (Or.inl ⟨by rfl, ?_⟩) hHeld2 ?_
      rotate_left
      · (intro w hSw; (try dsimp only at hSw); go_simp <;> with_reducible rfl)
      try simp only [Act.put, List.setIfInBounds_toArray, List.set_cons_zero, List.set_cons_succ]
      refine wpAnyH_done (by kernel_rfl) ?_ _
      refine (‹∀ (a : Act) (w : World), Code.wp Tryz.prog _ _ a w → _› _ _ ?_)
      obtain ⟨TT, g, fid, rfl, hme, hen, hput⟩ := put_iface b r H7.out.1 hb256
      have hbl := H7.out.2.1
      have HA5 := Lib.hid H7.out.2.2.1
      have hs7 := H7.out.2.2.2
      have hs3 := H3.out.size
      have r0 : w5.cell? ⟨w.heap.size + 1, 0, none⟩ = some (.int .i64 r.1) := HA5.out.ref.cell 0
      have r1 : w5.cell? ⟨w.heap.size + 1, 1, none⟩ = some (.int .u32 r.2) := HA5.out.ref.cell 1
      have hpo := HP.out.1
      rw [HPC.out.1, HPC.out.2] at hput
      unfold refV at hput
      have HPU := Lib.hid hput
      have HX := Lib.hid (And.intro hbl (And.intro hs7 (And.intro hs3 hpo)))
      clear hput hbl hs7 hs3 hpo H7 HLA HRO
      generalize (if q < x.kind then x.kind else q) = mx
      go_simp
      go_wp2_with fail
      refine HPU.out.mono ?_
      rintro e w6 ⟨rfl, hrow6, hk6⟩
      have h8 : AddW w x r #[.int .i64 x.kind, .string x.code, .string x.value, .string x.path, .slice Ab x.bytes.length cb, .slice Ak x.kids.length ck] w6 := HA5.out.kept hk6 (fun c hc => by have h1 := HX.out.1 c hc; have h2 := HX.out.2.2.1; simp at h1; omega) HP.out.2.2.2.2.2.2.2.1 HP.out.2.2.2.2.2.2.2.2
      have H8 := Lib.hid h8
      have H8S := h8.size
      have HOF := Lib.hid (of_row x _ w6 h8.node _ room f2 _ hrow6 q HP.out.2.2.1 HX.out.2.2.2)
      obtain ⟨p0, p1, p2, p3, p4, p5⟩ := cells6 h8.parts
      have hzb := HZ.out
      clear h8 hrow6 hk6 HPU hme hen HA5 r0 r1
      go_wp2_with fail
      refine HOF.out.mono ?_
      rintro e w7 ⟨V', rfl, hnd, hb7⟩
      have H9 := Lib.hid (H8.out.on hb7)
      obtain ⟨hwf', A4, c4', A5, c5', rfl, hr4, hr5, ha4, ha5⟩ := hnd
      have HND := Lib.hid (And.intro hwf' (And.intro hr4 (And.intro hr5 (And.intro ha4 ha5))))
      obtain ⟨d0, d1, d2, d3, d4, d5⟩ := cells6 H9.out.out
      have fz0 := H9.out.out.frozen 0
      have fz1 := H9.out.out.frozen 1
      have fz2 := H9.out.out.frozen 2
      have fz3 := H9.out.out.frozen 3
      have fz4 := H9.out.out.frozen 4
      have fz5 := H9.out.out.frozen 5
      have l6 := H9.out.out.lt
      obtain ⟨VV, hV, hg, q6⟩ := six_stores (.int .i64 (ofNd x f2 q).kind) (.string (ofNd x f2 q).code) (.string (ofNd x f2 q).value) (.string (ofNd x f2 q).path) (.slice A4 (ofNd x f2 q).bytes.length c4') (.slice A5 (ofNd x f2 q).kids.length c5') H9.out.out
      clear hwf' hr4 hr5 ha4 ha5 HOF H8 hb7 p0 p1 p2 p3 p4 p5
      unfold Nd.v
      go_wp2
      rw [← hV]
      clear hV d0 d1 d2 d3 d4 d5 fz0 fz1 fz2 fz3 fz4 fz5
      obtain ⟨c0, c1, c2, c3, c4, c5⟩ := cells6 q6
      exact bodyPost_ret (v := .tuple #[.agg #[.int .i64 (ofNd x f2 q).kind, .string (ofNd x f2 q).code, .string (ofNd x f2 q).value, .string (ofNd x f2 q).path, .slice A4 (ofNd x f2 q).bytes.length c4', .slice A5 (ofNd x f2 q).kids.length c5'], .int .i64 0]) (by simp [results, Tryz.results16, go_sem, c0, c1, c2, c3, c4, c5]) rfl ⟨_, rfl, ⟨HND.out.1, A4, c4', A5, c5', rfl, reads_off HND.out.2.1 hg (fun ad e => by have := HND.out.2.2.2.1 ad e; have := H8S; omega), reads_off HND.out.2.2.1 hg (fun ad e => by have := HND.out.2.2.2.2 ad e; have := H8S; omega)⟩, H9.out.below.grown hg H9.out.below.size (fun k e => by injection e with e; omega), rowsOf_v (fun ad e => by have h1 := HND.out.2.2.2.1 ad e; have h2 := H8S; omega) (fun ad e => by have h1 := HND.out.2.2.2.2 ad e; have h2 := H8S; omega)⟩
      
    exact AllReadyH.nil
  exact AllReadyH.nil
set_option maxHeartbeats 3200000 in
set_option maxRecDepth 100000 in
theorem add_err (x : Nd) (V : Value) (b : Nat) (r : Int × Int) (keep : Bool) (w : World) (h : NdAt w x V) (hr : RoomsAt w) (hb256 : b < 256) (hrok : refOk r) (hm : x.may = true) (hkd : kidN r = true) (hz : (putK (addRoom x keep) (x.row (addRoom x keep)) b r).1 ≠ 0) : Calls Tryz.prog 16 #[V, .int .u8 (b : Int), refV r, .bool keep] w (fun e w' => NdPair (addN x b r keep).1 (addN x b r keep).2 w e w') := by
  have hin := inner_parts (may_inner hm)
  have hx2 : addN x b r keep = if (putK (addRoom x keep) (x.row (addRoom x keep)) b r).1 = 0 then (ofNd x (putK (addRoom x keep) (x.row (addRoom x keep)) b r).2 (kindN x ((x.kids.length : Int) + 1) keep), 0) else (zeroNd, (putK (addRoom x keep) (x.row (addRoom x keep)) b r).1) := by
    unfold addN
    rw [if_neg (by rw [hm, hkd]; simp)]
  rw [hx2]
  clear hx2
  have hroom := addRoom_ok x keep hin.1
  have hkin := kindN_in x ((x.kids.length : Int) + 1) keep hin.1
  have hpo := put_refOk (addRoom x keep) (row_refOk h.1 (addRoom x keep)) b hrok
  have h' := h
  obtain ⟨hwf, Ab, cb, Ak, ck, rfl, _, _⟩ := h'
  have h4 := add_start w x r #[.int .i64 x.kind, .string x.code, .string x.value, .string x.path, .slice Ab x.bytes.length cb, .slice Ak x.kids.length ck] h hr
  have HM := Lib.hid (may_n x _ _ h4.node h4.rooms)
  rw [hm] at HM
  have H4 := Lib.hid h4
  obtain ⟨room, hrm⟩ : ∃ room, addRoom x keep = room := ⟨_, rfl⟩
  obtain ⟨q, hq⟩ : ∃ q, kindN x ((x.kids.length : Int) + 1) keep = q := ⟨_, rfl⟩
  rw [hrm] at hroom hpo hz ⊢
  rw [hq] at hkin ⊢
  have hrq : roomN (max q x.kind) = room := by rw [← hrm, ← hq]; rfl
  obtain ⟨pc, hpc⟩ : ∃ pc, (putK room (x.row room) b r).1 = pc := ⟨_, rfl⟩
  obtain ⟨f2, hf2⟩ : ∃ f2, (putK room (x.row room) b r).2 = f2 := ⟨_, rfl⟩
  rw [hpc, hf2, if_neg (by rw [← hpc]; exact hz)]
  rw [hf2] at hpo
  have HZ : Hid ((pc != 0) = true) := Lib.hid (by rw [← hpc]; simp [hz])
  clear hz
  unfold Nd.row at hpc hf2
  have HPC := Lib.hid (And.intro hpc hf2)
  clear hpc hf2
  have HP := Lib.hid (And.intro hpo (And.intro hroom (And.intro hkin (And.intro hwf (And.intro hin (And.intro hrq (And.intro hq (And.intro h hr))))))))
  have hkl : (x.kids.length : Int) ≤ 256 := by omega
  clear hwf h hr h4 hroom hkin hpo hin hm hrm hq hrq
  have hkk := fun W => kid_n r W
  rw [hkd] at hkk
  have HKK := Lib.hid hkk
  clear hkk hkd
  unfold Nd.v refV at *
  go_enter Tryz.func16, Tryz.ntmps16
  go_wp2_with fail
  refine HM.out.mono ?_
  rintro e w1 ⟨rfl, hb⟩
  have H6 := Lib.hid (H4.out.on hb)
  have r0 : w1.cell? ⟨w.heap.size + 1, 0, none⟩ = some (.int .i64 r.1) := H6.out.ref.cell 0
  have r1 : w1.cell? ⟨w.heap.size + 1, 1, none⟩ = some (.int .u32 r.2) := H6.out.ref.cell 1
  have HK := Lib.hid (HKK.out w1)
  clear hb HM H4 HKK
  go_wp2_with fail
  refine HK.out.mono ?_
  rintro e w2 ⟨rfl, hb⟩
  have H5 := Lib.hid (H6.out.on hb)
  obtain ⟨p0, p1, p2, p3, p4, p5⟩ := cells6 H5.out.parts
  have b5 : w2.cell? ⟨w.heap.size, 5, none⟩ = some (.slice Ak x.kids.length ck) := H5.out.box.cell 5
  have HKI := Lib.hid (kind_n x _ ((x.kids.length : Int) + 1) keep w2 H5.out.node H5.out.rooms)
  rw [HP.out.2.2.2.2.2.2.1] at HKI
  clear hb HK H6 r0 r1
  go_wp2_with fail
  refine HKI.out.mono ?_
  rintro e w3 ⟨rfl, hb⟩
  have H3 := Lib.hid (H5.out.on hb)
  clear hb HKI H5 p0 p1 p2 p3 p4 p5 b5
  have HRO := Lib.hid (room_n (max q x.kind) w3.drew H3.out.drew.rooms)
  rw [HP.out.2.2.2.2.2.1, show max q x.kind = if q < x.kind then x.kind else q by split <;> omega] at HRO
  have HLA := Lib.hid (laid_n x _ room w3.drew H3.out.drew.node HP.out.2.1 (by have := HP.out.2.2.2.2.1.2.2.2.2.1; omega))
  go_wp2_with fail
  refine wp_region_held_drew (S := (fun V : World => (V.cell? ⟨w.heap.size + 1 + 1 + 1, 0, none⟩ = some (.int .i64 x.kind) ∧ V.cell? ⟨w.heap.size + 1 + 1 + 1, 1, none⟩ = some (.string x.code) ∧ V.cell? ⟨w.heap.size + 1 + 1 + 1, 2, none⟩ = some (.string x.value) ∧ V.cell? ⟨w.heap.size + 1 + 1 + 1, 3, none⟩ = some (.string x.path) ∧ V.cell? ⟨w.heap.size + 1 + 1 + 1, 4, none⟩ = some (.slice Ab x.bytes.length cb) ∧ V.cell? ⟨w.heap.size + 1 + 1 + 1, 5, none⟩ = some (.slice Ak x.kids.length ck)) ∧ V.cell? ⟨w.heap.size, 0, none⟩ = some (.int .i64 x.kind))) (by kernel_rfl) ?_ (fun hHeld0 => ?_)
  · exact addS H3.out.drew
  refine wpAnyH_take (i := 0) (v := ?_) rfl (by kernel_rfl) (by kernel_rfl) (by kernel_rfl) (fun _ _ _ h => h) (Or.inl ⟨by rfl, ?_⟩) hHeld0 ?_
  rotate_left
  · (intro w hSw; (try dsimp only at hSw); go_simp <;> with_reducible rfl)
  try simp only [Act.put, List.setIfInBounds_toArray, List.set_cons_zero, List.set_cons_succ]
  refine wpAnyH_take (i := 1) (v := ?_) rfl (by kernel_rfl) (by kernel_rfl) (by kernel_rfl) (fun _ _ _ h => h) (Or.inl ⟨by rfl, ?_⟩) hHeld0 ?_
  rotate_left
  · (intro w hSw; (try dsimp only at hSw); go_simp <;> with_reducible rfl)
  try simp only [Act.put, List.setIfInBounds_toArray, List.set_cons_zero, List.set_cons_succ]
  refine wpAnyH_take (i := 2) (v := ?_) rfl (by kernel_rfl) (by kernel_rfl) (by kernel_rfl) (fun _ _ _ h => h) (Or.inl ⟨by rfl, ?_⟩) hHeld0 ?_
  rotate_left
  · (intro w hSw; (try dsimp only at hSw); go_simp <;> with_reducible rfl)
  try simp only [Act.put, List.setIfInBounds_toArray, List.set_cons_zero, List.set_cons_succ]
  refine wpAnyH_take (i := 3) (v := ?_) rfl (by kernel_rfl) (by kernel_rfl) (by kernel_rfl) (fun _ _ _ h => h) (Or.inl ⟨by rfl, ?_⟩) hHeld0 ?_
  rotate_left
  · (intro w hSw; (try dsimp only at hSw); go_simp <;> with_reducible rfl)
  try simp only [Act.put, List.setIfInBounds_toArray, List.set_cons_zero, List.set_cons_succ]
  refine wpAnyH_take (i := 4) (v := ?_) rfl (by kernel_rfl) (by kernel_rfl) (by kernel_rfl) (fun _ _ _ h => h) (Or.inl ⟨by rfl, ?_⟩) hHeld0 ?_
  rotate_left
  · (intro w hSw; (try dsimp only at hSw); go_simp <;> with_reducible rfl)
  try simp only [Act.put, List.setIfInBounds_toArray, List.set_cons_zero, List.set_cons_succ]
  refine wpAnyH_ready (rs := [5]) (by kernel_rfl) (by simp) ?_
  refine AllReadyH.cons rfl (fun K hK => ?_) ?_
  · go_simp
    with_reducible refine HRO.out.mono ?_
    rintro e w4 ⟨rfl, rfl⟩
    refine hK.out _ _ ?_ (fun hHeld1 => ?_)
    · exact addS H3.out.drew
    clear hK K hHeld0
    try simp only [Act.put, List.setIfInBounds_toArray, List.set_cons_zero, List.set_cons_succ]
    refine wpAnyH_ready (rs := [6]) (by kernel_rfl) (by simp) ?_
    refine AllReadyH.cons rfl (fun K hK => ?_) ?_
    · go_simp
      refine HLA.out.mono ?_
      rintro e w5 ⟨iv, bl, rfl, hrow, hbl, hb5⟩
      have H7 := Lib.hid (And.intro hrow (And.intro hbl (And.intro (H3.out.drew.on hb5) hb5.size)))
      clear hrow hbl hb5
      refine hK.out _ _ ?_ (fun hHeld2 => ?_)
      · exact addS H7.out.2.2.1
      clear hK K hHeld1
      try simp only [Act.put, List.setIfInBounds_toArray, List.set_cons_zero, List.set_cons_succ]
      refine wpAnyH_take (i := 7) (v := ?_) rfl (by kernel_rfl) (by kernel_rfl) (by kernel_rfl) (fun _ _ _ h => h) (Or.inl ⟨by rfl, ?_⟩) hHeld2 ?_
      rotate_left
      · (intro w hSw; (try dsimp only at hSw); go_simp <;> with_reducible rfl)
      try simp only [Act.put, List.setIfInBounds_toArray, List.set_cons_zero, List.set_cons_succ]
      refine wpAnyH_done (by kernel_rfl) ?_ _
      refine (‹∀ (a : Act) (w : World), Code.wp Tryz.prog _ _ a w → _› _ _ ?_)
      obtain ⟨TT, g, fid, rfl, hme, hen, hput⟩ := put_iface b r H7.out.1 hb256
      have hbl := H7.out.2.1
      have HA5 := Lib.hid H7.out.2.2.1
      have hs7 := H7.out.2.2.2
      have hs3 := H3.out.size
      have r0 : w5.cell? ⟨w.heap.size + 1, 0, none⟩ = some (.int .i64 r.1) := HA5.out.ref.cell 0
      have r1 : w5.cell? ⟨w.heap.size + 1, 1, none⟩ = some (.int .u32 r.2) := HA5.out.ref.cell 1
      have hpo := HP.out.1
      rw [HPC.out.1, HPC.out.2] at hput
      unfold refV at hput
      have HPU := Lib.hid hput
      have HX := Lib.hid (And.intro hbl (And.intro hs7 (And.intro hs3 hpo)))
      clear hput hbl hs7 hs3 hpo H7 HLA HRO
      generalize (if q < x.kind then x.kind else q) = mx
      go_simp
      go_wp2_with fail
      refine HPU.out.mono ?_
      rintro e w6 ⟨rfl, hrow6, hk6⟩
      have h8 : AddW w x r #[.int .i64 x.kind, .string x.code, .string x.value, .string x.path, .slice Ab x.bytes.length cb, .slice Ak x.kids.length ck] w6 := HA5.out.kept hk6 (fun c hc => by have h1 := HX.out.1 c hc; have h2 := HX.out.2.2.1; simp at h1; omega) HP.out.2.2.2.2.2.2.2.1 HP.out.2.2.2.2.2.2.2.2
      have H8 := Lib.hid h8
      have hzb := HZ.out
      clear h8 hrow6 hk6 HPU hme hen HA5 r0 r1
      obtain ⟨d0, d1, d2, d3, d4, d5⟩ := cells6 H8.out.out
      have fz0 := H8.out.out.frozen 0
      have fz1 := H8.out.out.frozen 1
      have fz2 := H8.out.out.frozen 2
      have fz3 := H8.out.out.frozen 3
      have fz4 := H8.out.out.frozen 4
      have fz5 := H8.out.out.frozen 5
      have l6 := H8.out.out.lt
      obtain ⟨VV, hV, hg, q6⟩ := six_stores (.int .i64 0) (.string { data := #[] }) (.string { data := #[] }) (.string { data := #[] }) (.slice none 0 0) (.slice none 0 0) H8.out.out
      go_wp2
      rw [← hV]
      clear hV d0 d1 d2 d3 d4 d5 fz0 fz1 fz2 fz3 fz4 fz5
      obtain ⟨c0, c1, c2, c3, c4, c5⟩ := cells6 q6
      exact bodyPost_ret (v := .tuple #[.agg #[.int .i64 0, .string { data := #[] }, .string { data := #[] }, .string { data := #[] }, .slice none 0 0, .slice none 0 0], .int .i64 pc]) (by simp [results, Tryz.results16, go_sem, c0, c1, c2, c3, c4, c5]) rfl ⟨_, rfl, zeroNd_at VV, H8.out.below.grown hg H8.out.below.size (fun k e => by injection e with e; omega), rowsOf_zero⟩
      
    exact AllReadyH.nil
  exact AllReadyH.nil
end Go.Proofs.YtgjgcbemgmkncaaGreatDoor
namespace Go.Proofs.YtgjgcbemgmkncaaGreatDoor
open Go.RowKit Go.Shelf
set_option linter.unusedVariables false
set_option maxRecDepth 20000
set_option linter.unusedSimpArgs false

theorem Add_n (x : Nd) (V : Value) (b : Nat) (r : Int × Int) (keep : Bool) (w : World) (h : NdAt w x V) (hr : RoomsAt w) (hb : b < 256) (hrok : refOk r) : Calls Tryz.prog 16 #[V, .int .u8 (b : Int), refV r, .bool keep] w (NdPair (addN x b r keep).1 (addN x b r keep).2 w) := by
  by_cases hno : x.may = false ∨ kidN r = false
  · have e : addN x b r keep = (zeroNd, 4) := by unfold addN; rw [if_pos hno]
    rw [e]
    exact add_no x V b r keep w h hr hno
  · have hm : x.may = true := by
      cases hm : x.may with
      | true => rfl
      | false => exact absurd (.inl hm) hno
    have hk : kidN r = true := by
      cases hk : kidN r with
      | true => rfl
      | false => exact absurd (.inr hk) hno
    by_cases hz : (putK (addRoom x keep) (x.row (addRoom x keep)) b r).1 = 0
    · exact add_yes x V b r keep w h hr hb hrok hm hk hz
    · exact add_err x V b r keep w h hr hb hrok hm hk hz
end Go.Proofs.YtgjgcbemgmkncaaGreatDoor
namespace Go.Proofs.YtgjgcbemgmkncaaGreatDoor
open Go.RowKit Go.Shelf
set_option linter.unusedVariables false
set_option maxRecDepth 20000
set_option linter.unusedSimpArgs false

/-- Cut's world behind its boxes. -/
structure CutW (w : World) (x : Nd) (CE : Array Value) (W : World) : Prop where
  below : Below w.heap.size w W
  box : Blk W w.heap.size 26 CE
  out : Blk W (w.heap.size + 1) 26 #[.int .i64 0, .string { data := #[] }, .string { data := #[] }, .string { data := #[] }, .slice none 0 0, .slice none 0 0]
  parts : Blk W (w.heap.size + 1 + 1) 61 CE
  node : NdAt W x (.agg CE)
  rooms : RoomsAt W
  size : w.heap.size + 3 ≤ W.heap.size
theorem CutW.on {w W W' : World} {x : Nd} {CE : Array Value} (h : CutW w x CE W) (hb : Below W.heap.size W W') : CutW w x CE W' :=
  ⟨h.below.trans (hb.mono h.below.size), h.box.below hb h.box.lt, h.out.below hb h.out.lt, h.parts.below hb h.parts.lt, h.node.below hb, h.rooms.on hb, Nat.le_trans h.size hb.size⟩
theorem CutW.kept {w W W' : World} {x : Nd} {CE : Array Value} {bl : List Nat} (h : CutW w x CE W) (hk : Kept bl W W') (hbl : ∀ b ∈ bl, w.heap.size + 3 ≤ b) (h0 : NdAt w x (.agg CE)) (hr0 : RoomsAt w) : CutW w x CE W' := by
  have hb := below_kept h.below hk h.below.size (fun b hb => by have := hbl b hb; omega)
  exact ⟨hb, hk.blk h.box (fun hm => by have := hbl _ hm; omega), hk.blk h.out (fun hm => by have := hbl _ hm; omega), hk.blk h.parts (fun hm => by have := hbl _ hm; omega), h0.below hb, hr0.on hb, Nat.le_trans h.size hk.size⟩
theorem CutW.drew {w W : World} {x : Nd} {CE : Array Value} (h : CutW w x CE W) : CutW w x CE W.drew := ⟨h.below.drew, h.box.drew, h.out.drew, h.parts.drew, h.node, h.rooms, h.size⟩
theorem cut_start (w : World) (x : Nd) (CE : Array Value) (h : NdAt w x (.agg CE)) (hr : RoomsAt w) : CutW w x CE (((w.alloc (.cells CE 26)).alloc (.cells #[.int .i64 0, .string { data := #[] }, .string { data := #[] }, .string { data := #[] }, .slice none 0 0, .slice none 0 0] 26)).alloc (.cells CE 61)) := by
  have b4 : Below w.heap.size w (((w.alloc (.cells CE 26)).alloc (.cells #[.int .i64 0, .string { data := #[] }, .string { data := #[] }, .string { data := #[] }, .slice none 0 0, .slice none 0 0] 26)).alloc (.cells CE 61)) := (((Below.refl _ w).alloc (Nat.le_refl _) _).alloc (by simp) _).alloc (by simp; omega) _
  refine ⟨b4, ((Blk.new w 26 CE).alloc _).alloc _, ?_, ?_, h.below b4, hr.on b4, by simp⟩
  · have q := (Blk.new (w.alloc (.cells CE 26)) 26 #[.int .i64 0, .string { data := #[] }, .string { data := #[] }, .string { data := #[] }, .slice none 0 0, .slice none 0 0]).alloc (.cells CE 61)
    rw [World.size_alloc] at q
    exact q
  · have q := Blk.new ((w.alloc (.cells CE 26)).alloc (.cells #[.int .i64 0, .string { data := #[] }, .string { data := #[] }, .string { data := #[] }, .slice none 0 0, .slice none 0 0] 26)) 61 CE
    rw [World.size_alloc, World.size_alloc] at q
    exact q
theorem cutS {w W : World} {x : Nd} {Ab Ak : Option Addr} {cb ck : Nat} (h : CutW w x #[.int .i64 x.kind, .string x.code, .string x.value, .string x.path, .slice Ab x.bytes.length cb, .slice Ak x.kids.length ck] W) : (W.cell? ⟨w.heap.size + 1 + 1, 0, none⟩ = some (.int .i64 x.kind) ∧ W.cell? ⟨w.heap.size + 1 + 1, 1, none⟩ = some (.string x.code) ∧ W.cell? ⟨w.heap.size + 1 + 1, 2, none⟩ = some (.string x.value) ∧ W.cell? ⟨w.heap.size + 1 + 1, 3, none⟩ = some (.string x.path) ∧ W.cell? ⟨w.heap.size + 1 + 1, 4, none⟩ = some (.slice Ab x.bytes.length cb) ∧ W.cell? ⟨w.heap.size + 1 + 1, 5, none⟩ = some (.slice Ak x.kids.length ck)) ∧ W.cell? ⟨w.heap.size, 0, none⟩ = some (.int .i64 x.kind) ∧ W.cell? ⟨w.heap.size, 5, none⟩ = some (.slice Ak x.kids.length ck) := ⟨cells6 h.parts, h.box.cell 0, h.box.cell 5⟩
theorem cutS_off {w W V : World} {x : Nd} {Ab Ak : Option Addr} {cb ck : Nat} (h : CutW w x #[.int .i64 x.kind, .string x.code, .string x.value, .string x.path, .slice Ab x.bytes.length cb, .slice Ak x.kids.length ck] W) (hg : W.grownBy V (some (w.heap.size + 1))) : (V.cell? ⟨w.heap.size + 1 + 1, 0, none⟩ = some (.int .i64 x.kind) ∧ V.cell? ⟨w.heap.size + 1 + 1, 1, none⟩ = some (.string x.code) ∧ V.cell? ⟨w.heap.size + 1 + 1, 2, none⟩ = some (.string x.value) ∧ V.cell? ⟨w.heap.size + 1 + 1, 3, none⟩ = some (.string x.path) ∧ V.cell? ⟨w.heap.size + 1 + 1, 4, none⟩ = some (.slice Ab x.bytes.length cb) ∧ V.cell? ⟨w.heap.size + 1 + 1, 5, none⟩ = some (.slice Ak x.kids.length ck)) ∧ V.cell? ⟨w.heap.size, 0, none⟩ = some (.int .i64 x.kind) ∧ V.cell? ⟨w.heap.size, 5, none⟩ = some (.slice Ak x.kids.length ck) := by
  have e0 : ∀ i, V.cell? ⟨w.heap.size, i, none⟩ = W.cell? ⟨w.heap.size, i, none⟩ := fun i => World.cell?_of_block (hg.block w.heap.size h.box.lt (fun e => by have e2 : w.heap.size = w.heap.size + 1 := Option.some.inj e; omega))
  have e2 : ∀ i, V.cell? ⟨w.heap.size + 1 + 1, i, none⟩ = W.cell? ⟨w.heap.size + 1 + 1, i, none⟩ := fun i => World.cell?_of_block (hg.block (w.heap.size + 1 + 1) h.parts.lt (fun e => by have e2 : w.heap.size + 1 + 1 = w.heap.size + 1 := Option.some.inj e; omega))
  simp only [e0, e2]
  exact cutS h
theorem take_iface {W : World} {iv : Value} {room : Int} {f : Kids} {bl : List Nat} (b : Nat) (h : RowAt W iv room f bl) (hb : b < 256) : ∃ (T : TypeId) (g fid : Nat), iv = .iface T (.pointer (some ⟨g, 0, none⟩)) ∧ (∀ V : World, (method 263 T (.pointer (some ⟨g, 0, none⟩)) "Take").run Tryz.prog V = .ok (fid, .pointer (some ⟨g, 0, none⟩)) V) ∧ (∀ args V, (callFunc fid args).run Tryz.prog V = .ok (.enter fid args) V) ∧
    Calls Tryz.prog fid #[.pointer (some ⟨g, 0, none⟩), .int .u8 (b : Int)] W (RowEndI (.tuple #[refV (takeK f b).1.1, .int .i64 (takeK f b).1.2]) iv room (takeK f b).2 bl W) := by
  rcases h with ⟨g, rfl, rfl, hf⟩ | ⟨g, gr, gu, n, rfl, rfl, rfl, hf⟩
  · refine ⟨_, g, _, rfl, few_Take_me g, enters_of Tryz.func113 (by kernel_rfl) rfl, (Take_k g room f b W hf hb).mono ?_⟩
    rintro e w' ⟨rfl, h1, h2⟩
    exact ⟨rfl, .inl ⟨g, rfl, rfl, h1⟩, kept_grown h2⟩
  · refine ⟨_, g, _, rfl, many_Take_me g, enters_of Tryz.func129 (by kernel_rfl) rfl, (Take_m g gr gu n f b W hf hb).mono ?_⟩
    rintro e w' ⟨rfl, h1, h2⟩
    exact ⟨rfl, .inr ⟨g, gr, gu, n, rfl, rfl, rfl, h1⟩, kept_three h2⟩
set_option maxHeartbeats 3200000 in
set_option maxRecDepth 100000 in
theorem cut_no (x : Nd) (V : Value) (b : Nat) (keep : Bool) (w : World) (h : NdAt w x V) (hr : RoomsAt w) (hm : x.may = false) : Calls Tryz.prog 17 #[V, .int .u8 (b : Int), .bool keep] w (NdPair zeroNd 4 w) := by
  have h' := h
  obtain ⟨hwf, Ab, cb, Ak, ck, rfl, _, _⟩ := h'
  have h4 := cut_start w x #[.int .i64 x.kind, .string x.code, .string x.value, .string x.path, .slice Ab x.bytes.length cb, .slice Ak x.kids.length ck] h hr
  have HM := Lib.hid (may_n x _ _ h4.node h4.rooms)
  have H4 := Lib.hid h4
  rw [hm] at HM
  clear hwf h hr h4 hm
  unfold Nd.v at *
  go_enter Tryz.func17, Tryz.ntmps17
  go_wp2_with fail
  refine HM.out.mono ?_
  rintro e w1 ⟨rfl, hb⟩
  have H5 := Lib.hid (H4.out.on hb)
  obtain ⟨d0, d1, d2, d3, d4, d5⟩ := cells6 H5.out.out
  have fz0 := H5.out.out.frozen 0
  have fz1 := H5.out.out.frozen 1
  have fz2 := H5.out.out.frozen 2
  have fz3 := H5.out.out.frozen 3
  have fz4 := H5.out.out.frozen 4
  have fz5 := H5.out.out.frozen 5
  have l6 := H5.out.out.lt
  clear hb HM H4
  obtain ⟨VV, hV, hg, q6⟩ := six_stores (.int .i64 0) (.string { data := #[] }) (.string { data := #[] }) (.string { data := #[] }) (.slice none 0 0) (.slice none 0 0) H5.out.out
  go_wp2
  rw [← hV]
  clear hV d0 d1 d2 d3 d4 d5 fz0 fz1 fz2 fz3 fz4 fz5
  obtain ⟨c0, c1, c2, c3, c4, c5⟩ := cells6 q6
  exact bodyPost_ret (v := .tuple #[.agg #[.int .i64 0, .string { data := #[] }, .string { data := #[] }, .string { data := #[] }, .slice none 0 0, .slice none 0 0], .int .i64 4]) (by simp [results, Tryz.results17, go_sem, c0, c1, c2, c3, c4, c5]) rfl ⟨_, rfl, zeroNd_at VV, H5.out.below.grown hg H5.out.below.size (fun k e => by injection e with e; omega), rowsOf_zero⟩
set_option maxHeartbeats 3200000 in
set_option maxRecDepth 100000 in
theorem cut_err (x : Nd) (V : Value) (b : Nat) (keep : Bool) (w : World) (h : NdAt w x V) (hr : RoomsAt w) (hb256 : b < 256) (hm : x.may = true) (hz : (takeK (x.row (roomN x.kind)) b).1.2 ≠ 0) : Calls Tryz.prog 17 #[V, .int .u8 (b : Int), .bool keep] w (fun e w' => NdPair (cutN x b keep).1 (cutN x b keep).2 w e w') := by
  have hin := inner_parts (may_inner hm)
  have hx2 : cutN x b keep = (zeroNd, (takeK (x.row (roomN x.kind)) b).1.2) := by
    unfold cutN
    rw [if_neg (by rw [hm]; simp), if_neg hz]
  rw [hx2]
  clear hx2
  have hroom := roomOk_of (room_kind hin.1)
  have hkin := kindN_in x ((x.kids.length : Int) - 1) keep hin.1
  have hpo := take_refOk (row_refOk h.1 (roomN x.kind)) b
  have h' := h
  obtain ⟨hwf, Ab, cb, Ak, ck, rfl, _, _⟩ := h'
  have h4 := cut_start w x #[.int .i64 x.kind, .string x.code, .string x.value, .string x.path, .slice Ab x.bytes.length cb, .slice Ak x.kids.length ck] h hr
  have HM := Lib.hid (may_n x _ _ h4.node h4.rooms)
  rw [hm] at HM
  have H4 := Lib.hid h4
  obtain ⟨room, hrm⟩ : ∃ room, roomN x.kind = room := ⟨_, rfl⟩
  obtain ⟨q, hq⟩ : ∃ q, kindN x ((x.kids.length : Int) - 1) keep = q := ⟨_, rfl⟩
  rw [hrm] at hroom hpo hz ⊢
  rw [hq] at hkin 
  obtain ⟨pr, hpr⟩ : ∃ pr, (takeK (x.row room) b).1.1 = pr := ⟨_, rfl⟩
  obtain ⟨pc, hpc⟩ : ∃ pc, (takeK (x.row room) b).1.2 = pc := ⟨_, rfl⟩
  obtain ⟨f2, hf2⟩ : ∃ f2, (takeK (x.row room) b).2 = f2 := ⟨_, rfl⟩
  rw [hpc] at hz
  rw [hpc]
  rw [hf2] at hpo
  have HZ : Hid ((pc != 0) = true) := Lib.hid (by simp [hz])
  clear hz
  unfold Nd.row at hpc hf2 hpr
  have HPC := Lib.hid (And.intro hpr (And.intro hpc hf2))
  clear hpc hf2 hpr
  have HP := Lib.hid (And.intro hpo (And.intro hroom (And.intro hkin (And.intro hwf (And.intro hin (And.intro hrm (And.intro hq (And.intro h hr))))))))
  have hkl : (x.kids.length : Int) ≤ 256 := by omega
  clear hwf h hr h4 hroom hkin hpo hin hm hrm hq
  unfold Nd.v at *
  go_enter Tryz.func17, Tryz.ntmps17
  go_wp2_with fail
  refine HM.out.mono ?_
  rintro e w3 ⟨rfl, hb⟩
  have H3 := Lib.hid (H4.out.on hb)
  clear hb HM H4
  have HRO := Lib.hid (room_n x.kind w3.drew H3.out.drew.rooms)
  rw [HP.out.2.2.2.2.2.1] at HRO
  have HLA := Lib.hid (laid_n x _ room w3.drew H3.out.drew.node HP.out.2.1 (by have := HP.out.2.2.2.2.1.2.2.2.2.1; omega))
  go_wp2_with fail
  refine wp_region_held_drew (S := (fun V : World => (V.cell? ⟨w.heap.size + 1 + 1, 0, none⟩ = some (.int .i64 x.kind) ∧ V.cell? ⟨w.heap.size + 1 + 1, 1, none⟩ = some (.string x.code) ∧ V.cell? ⟨w.heap.size + 1 + 1, 2, none⟩ = some (.string x.value) ∧ V.cell? ⟨w.heap.size + 1 + 1, 3, none⟩ = some (.string x.path) ∧ V.cell? ⟨w.heap.size + 1 + 1, 4, none⟩ = some (.slice Ab x.bytes.length cb) ∧ V.cell? ⟨w.heap.size + 1 + 1, 5, none⟩ = some (.slice Ak x.kids.length ck)) ∧ V.cell? ⟨w.heap.size, 0, none⟩ = some (.int .i64 x.kind) ∧ V.cell? ⟨w.heap.size, 5, none⟩ = some (.slice Ak x.kids.length ck))) (by kernel_rfl) ?_ (fun hHeld0 => ?_)
  · exact cutS H3.out.drew
  refine wpAnyH_take (i := 0) (v := ?_) rfl (by kernel_rfl) (by kernel_rfl) (by kernel_rfl) (fun _ _ _ h => h) (Or.inl ⟨by rfl, ?_⟩) hHeld0 ?_
  rotate_left
  · (intro w hSw; (try dsimp only at hSw); go_simp <;> with_reducible rfl)
  try simp only [Act.put, List.setIfInBounds_toArray, List.set_cons_zero, List.set_cons_succ]
  refine wpAnyH_take (i := 1) (v := ?_) rfl (by kernel_rfl) (by kernel_rfl) (by kernel_rfl) (fun _ _ _ h => h) (Or.inl ⟨by rfl, ?_⟩) hHeld0 ?_
  rotate_left
  · (intro w hSw; (try dsimp only at hSw); go_simp <;> with_reducible rfl)
  try simp only [Act.put, List.setIfInBounds_toArray, List.set_cons_zero, List.set_cons_succ]
  refine wpAnyH_take (i := 2) (v := ?_) rfl (by kernel_rfl) (by kernel_rfl) (by kernel_rfl) (fun _ _ _ h => h) (Or.inl ⟨by rfl, ?_⟩) hHeld0 ?_
  rotate_left
  · (intro w hSw; (try dsimp only at hSw); go_simp <;> with_reducible rfl)
  try simp only [Act.put, List.setIfInBounds_toArray, List.set_cons_zero, List.set_cons_succ]
  refine wpAnyH_ready (rs := [3]) (by kernel_rfl) (by simp) ?_
  refine AllReadyH.cons rfl (fun K hK => ?_) ?_
  · go_simp
    with_reducible refine HRO.out.mono ?_
    rintro e w4 ⟨rfl, rfl⟩
    refine hK.out _ _ ?_ (fun hHeld1 => ?_)
    · exact cutS H3.out.drew
    clear hK K hHeld0
    try simp only [Act.put, List.setIfInBounds_toArray, List.set_cons_zero, List.set_cons_succ]
    refine wpAnyH_ready (rs := [4]) (by kernel_rfl) (by simp) ?_
    refine AllReadyH.cons rfl (fun K hK => ?_) ?_
    · go_simp
      refine HLA.out.mono ?_
      rintro e w5 ⟨iv, bl, rfl, hrow, hbl, hb5⟩
      have H7 := Lib.hid (And.intro hrow (And.intro hbl (And.intro (H3.out.drew.on hb5) hb5.size)))
      clear hrow hbl hb5
      refine hK.out _ _ ?_ (fun hHeld2 => ?_)
      · exact cutS H7.out.2.2.1
      clear hK K hHeld1
      try simp only [Act.put, List.setIfInBounds_toArray, List.set_cons_zero, List.set_cons_succ]
      refine wpAnyH_take (i := 5) (v := ?_) rfl (by kernel_rfl) (by kernel_rfl) (by kernel_rfl) (fun _ _ _ h => h) (Or.inl ⟨by rfl, ?_⟩) hHeld2 ?_
      rotate_left
      · (intro w hSw; (try dsimp only at hSw); go_simp <;> with_reducible rfl)
      try simp only [Act.put, List.setIfInBounds_toArray, List.set_cons_zero, List.set_cons_succ]
      refine wpAnyH_done (by kernel_rfl) ?_ _
      refine (‹∀ (a : Act) (w : World), Code.wp Tryz.prog _ _ a w → _› _ _ ?_)
      obtain ⟨TT, g, fid, rfl, hme, hen, hput⟩ := take_iface b H7.out.1 hb256
      have hbl := H7.out.2.1
      have HA5 := Lib.hid H7.out.2.2.1
      have hs7 := H7.out.2.2.2
      have hs3 := H3.out.size
      have hpo := HP.out.1
      rw [HPC.out.1, HPC.out.2.1, HPC.out.2.2] at hput
      unfold refV at hput
      have HPU := Lib.hid hput
      have HX := Lib.hid (And.intro hbl (And.intro hs7 (And.intro hs3 hpo)))
      clear hput hbl hs7 hs3 hpo H7 HLA HRO
      go_simp
      go_wp2_with fail
      refine HPU.out.mono ?_
      rintro e w6 ⟨rfl, hrow6, hk6⟩
      have h8 : CutW w x #[.int .i64 x.kind, .string x.code, .string x.value, .string x.path, .slice Ab x.bytes.length cb, .slice Ak x.kids.length ck] w6 := HA5.out.kept hk6 (fun c hc => by have h1 := HX.out.1 c hc; have h2 := HX.out.2.2.1; simp at h1; omega) HP.out.2.2.2.2.2.2.2.1 HP.out.2.2.2.2.2.2.2.2
      have H8 := Lib.hid (And.intro (h8.on (below_box w6 (.cells #[.int .i64 pr.1, .int .u32 pr.2] 29))) (hrow6.below (below_box w6 (.cells #[.int .i64 pr.1, .int .u32 pr.2] 29))))
      have hzb := HZ.out
      clear h8 hrow6 hk6 HPU hme hen HA5
      obtain ⟨d0, d1, d2, d3, d4, d5⟩ := cells6 H8.out.1.out
      have fz0 := H8.out.1.out.frozen 0
      have fz1 := H8.out.1.out.frozen 1
      have fz2 := H8.out.1.out.frozen 2
      have fz3 := H8.out.1.out.frozen 3
      have fz4 := H8.out.1.out.frozen 4
      have fz5 := H8.out.1.out.frozen 5
      have l6 := H8.out.1.out.lt
      obtain ⟨VV, hV, hg, q6⟩ := six_stores (.int .i64 0) (.string { data := #[] }) (.string { data := #[] }) (.string { data := #[] }) (.slice none 0 0) (.slice none 0 0) H8.out.1.out
      go_wp2
      rw [← hV]
      clear hV d0 d1 d2 d3 d4 d5 fz0 fz1 fz2 fz3 fz4 fz5
      obtain ⟨c0, c1, c2, c3, c4, c5⟩ := cells6 q6
      exact bodyPost_ret (v := .tuple #[.agg #[.int .i64 0, .string { data := #[] }, .string { data := #[] }, .string { data := #[] }, .slice none 0 0, .slice none 0 0], .int .i64 pc]) (by simp [results, Tryz.results17, go_sem, c0, c1, c2, c3, c4, c5]) rfl ⟨_, rfl, zeroNd_at VV, H8.out.1.below.grown hg H8.out.1.below.size (fun k e => by injection e with e; omega), rowsOf_zero⟩
    exact AllReadyH.nil
  exact AllReadyH.nil
set_option maxHeartbeats 3200000 in
set_option maxRecDepth 100000 in
theorem cut_yes (x : Nd) (V : Value) (b : Nat) (keep : Bool) (w : World) (h : NdAt w x V) (hr : RoomsAt w) (hb256 : b < 256) (hm : x.may = true) (hz : (takeK (x.row (roomN x.kind)) b).1.2 = 0) : Calls Tryz.prog 17 #[V, .int .u8 (b : Int), .bool keep] w (fun e w' => NdPair (cutN x b keep).1 (cutN x b keep).2 w e w') := by
  have hin := inner_parts (may_inner hm)
  have hx2 : cutN x b keep = (ofNd x (takeK (x.row (roomN x.kind)) b).2 (kindN x ((x.kids.length : Int) - 1) keep), 0) := by
    unfold cutN
    rw [if_neg (by rw [hm]; simp), if_pos hz]
  rw [hx2]
  clear hx2
  have hroom := roomOk_of (room_kind hin.1)
  have hkin := kindN_in x ((x.kids.length : Int) - 1) keep hin.1
  have hpo := take_refOk (row_refOk h.1 (roomN x.kind)) b
  have h' := h
  obtain ⟨hwf, Ab, cb, Ak, ck, rfl, _, _⟩ := h'
  have h4 := cut_start w x #[.int .i64 x.kind, .string x.code, .string x.value, .string x.path, .slice Ab x.bytes.length cb, .slice Ak x.kids.length ck] h hr
  have HM := Lib.hid (may_n x _ _ h4.node h4.rooms)
  rw [hm] at HM
  have H4 := Lib.hid h4
  obtain ⟨room, hrm⟩ : ∃ room, roomN x.kind = room := ⟨_, rfl⟩
  obtain ⟨q, hq⟩ : ∃ q, kindN x ((x.kids.length : Int) - 1) keep = q := ⟨_, rfl⟩
  rw [hrm] at hroom hpo hz ⊢
  rw [hq] at hkin ⊢
  obtain ⟨pr, hpr⟩ : ∃ pr, (takeK (x.row room) b).1.1 = pr := ⟨_, rfl⟩
  obtain ⟨pc, hpc⟩ : ∃ pc, (takeK (x.row room) b).1.2 = pc := ⟨_, rfl⟩
  obtain ⟨f2, hf2⟩ : ∃ f2, (takeK (x.row room) b).2 = f2 := ⟨_, rfl⟩
  rw [hpc] at hz
  rw [hf2]
  rw [hf2] at hpo
  have HZ : Hid ((pc != 0) = false) := Lib.hid (by simp [hz])
  clear hz
  unfold Nd.row at hpc hf2 hpr
  have HPC := Lib.hid (And.intro hpr (And.intro hpc hf2))
  clear hpc hf2 hpr
  have HP := Lib.hid (And.intro hpo (And.intro hroom (And.intro hkin (And.intro hwf (And.intro hin (And.intro hrm (And.intro hq (And.intro h hr))))))))
  have hkl : (x.kids.length : Int) ≤ 256 := by omega
  clear hwf h hr h4 hroom hkin hpo hin hm hrm hq
  unfold Nd.v at *
  go_enter Tryz.func17, Tryz.ntmps17
  go_wp2_with fail
  refine HM.out.mono ?_
  rintro e w3 ⟨rfl, hb⟩
  have H3 := Lib.hid (H4.out.on hb)
  clear hb HM H4
  have HRO := Lib.hid (room_n x.kind w3.drew H3.out.drew.rooms)
  rw [HP.out.2.2.2.2.2.1] at HRO
  have HLA := Lib.hid (laid_n x _ room w3.drew H3.out.drew.node HP.out.2.1 (by have := HP.out.2.2.2.2.1.2.2.2.2.1; omega))
  go_wp2_with fail
  refine wp_region_held_drew (S := (fun V : World => (V.cell? ⟨w.heap.size + 1 + 1, 0, none⟩ = some (.int .i64 x.kind) ∧ V.cell? ⟨w.heap.size + 1 + 1, 1, none⟩ = some (.string x.code) ∧ V.cell? ⟨w.heap.size + 1 + 1, 2, none⟩ = some (.string x.value) ∧ V.cell? ⟨w.heap.size + 1 + 1, 3, none⟩ = some (.string x.path) ∧ V.cell? ⟨w.heap.size + 1 + 1, 4, none⟩ = some (.slice Ab x.bytes.length cb) ∧ V.cell? ⟨w.heap.size + 1 + 1, 5, none⟩ = some (.slice Ak x.kids.length ck)) ∧ V.cell? ⟨w.heap.size, 0, none⟩ = some (.int .i64 x.kind) ∧ V.cell? ⟨w.heap.size, 5, none⟩ = some (.slice Ak x.kids.length ck))) (by kernel_rfl) ?_ (fun hHeld0 => ?_)
  · exact cutS H3.out.drew
  refine wpAnyH_take (i := 0) (v := ?_) rfl (by kernel_rfl) (by kernel_rfl) (by kernel_rfl) (fun _ _ _ h => h) (Or.inl ⟨by rfl, ?_⟩) hHeld0 ?_
  rotate_left
  · (intro w hSw; (try dsimp only at hSw); go_simp <;> with_reducible rfl)
  try simp only [Act.put, List.setIfInBounds_toArray, List.set_cons_zero, List.set_cons_succ]
  refine wpAnyH_take (i := 1) (v := ?_) rfl (by kernel_rfl) (by kernel_rfl) (by kernel_rfl) (fun _ _ _ h => h) (Or.inl ⟨by rfl, ?_⟩) hHeld0 ?_
  rotate_left
  · (intro w hSw; (try dsimp only at hSw); go_simp <;> with_reducible rfl)
  try simp only [Act.put, List.setIfInBounds_toArray, List.set_cons_zero, List.set_cons_succ]
  refine wpAnyH_take (i := 2) (v := ?_) rfl (by kernel_rfl) (by kernel_rfl) (by kernel_rfl) (fun _ _ _ h => h) (Or.inl ⟨by rfl, ?_⟩) hHeld0 ?_
  rotate_left
  · (intro w hSw; (try dsimp only at hSw); go_simp <;> with_reducible rfl)
  try simp only [Act.put, List.setIfInBounds_toArray, List.set_cons_zero, List.set_cons_succ]
  refine wpAnyH_ready (rs := [3]) (by kernel_rfl) (by simp) ?_
  refine AllReadyH.cons rfl (fun K hK => ?_) ?_
  · go_simp
    with_reducible refine HRO.out.mono ?_
    rintro e w4 ⟨rfl, rfl⟩
    refine hK.out _ _ ?_ (fun hHeld1 => ?_)
    · exact cutS H3.out.drew
    clear hK K hHeld0
    try simp only [Act.put, List.setIfInBounds_toArray, List.set_cons_zero, List.set_cons_succ]
    refine wpAnyH_ready (rs := [4]) (by kernel_rfl) (by simp) ?_
    refine AllReadyH.cons rfl (fun K hK => ?_) ?_
    · go_simp
      refine HLA.out.mono ?_
      rintro e w5 ⟨iv, bl, rfl, hrow, hbl, hb5⟩
      have H7 := Lib.hid (And.intro hrow (And.intro hbl (And.intro (H3.out.drew.on hb5) hb5.size)))
      clear hrow hbl hb5
      refine hK.out _ _ ?_ (fun hHeld2 => ?_)
      · exact cutS H7.out.2.2.1
      clear hK K hHeld1
      try simp only [Act.put, List.setIfInBounds_toArray, List.set_cons_zero, List.set_cons_succ]
      refine wpAnyH_take (i := 5) (v := ?_) rfl (by kernel_rfl) (by kernel_rfl) (by kernel_rfl) (fun _ _ _ h => h) (Or.inl ⟨by rfl, ?_⟩) hHeld2 ?_
      rotate_left
      · (intro w hSw; (try dsimp only at hSw); go_simp <;> with_reducible rfl)
      try simp only [Act.put, List.setIfInBounds_toArray, List.set_cons_zero, List.set_cons_succ]
      refine wpAnyH_done (by kernel_rfl) ?_ _
      refine (‹∀ (a : Act) (w : World), Code.wp Tryz.prog _ _ a w → _› _ _ ?_)
      obtain ⟨TT, g, fid, rfl, hme, hen, hput⟩ := take_iface b H7.out.1 hb256
      have hbl := H7.out.2.1
      have HA5 := Lib.hid H7.out.2.2.1
      have hs7 := H7.out.2.2.2
      have hs3 := H3.out.size
      have hpo := HP.out.1
      rw [HPC.out.1, HPC.out.2.1, HPC.out.2.2] at hput
      unfold refV at hput
      have HPU := Lib.hid hput
      have HX := Lib.hid (And.intro hbl (And.intro hs7 (And.intro hs3 hpo)))
      clear hput hbl hs7 hs3 hpo H7 HLA HRO
      go_simp
      go_wp2_with fail
      refine HPU.out.mono ?_
      rintro e w6 ⟨rfl, hrow6, hk6⟩
      have h8 : CutW w x #[.int .i64 x.kind, .string x.code, .string x.value, .string x.path, .slice Ab x.bytes.length cb, .slice Ak x.kids.length ck] w6 := HA5.out.kept hk6 (fun c hc => by have h1 := HX.out.1 c hc; have h2 := HX.out.2.2.1; simp at h1; omega) HP.out.2.2.2.2.2.2.2.1 HP.out.2.2.2.2.2.2.2.2
      have H8 := Lib.hid (And.intro (h8.on (below_box w6 (.cells #[.int .i64 pr.1, .int .u32 pr.2] 29))) (hrow6.below (below_box w6 (.cells #[.int .i64 pr.1, .int .u32 pr.2] 29))))
      have hzb := HZ.out
      clear h8 hrow6 hk6 HPU hme hen HA5
      have hwr : IntKind.i64.wrap ((x.kids.length : Int) - 1) = (x.kids.length : Int) - 1 := IntWalk.i64_in _ (by omega)
      have HKI := Lib.hid (kind_n x _ ((x.kids.length : Int) - 1) keep _ H8.out.1.drew.node H8.out.1.drew.rooms)
      rw [HP.out.2.2.2.2.2.2.1] at HKI
      go_wp2_with fail
      refine wp_region_held_drew (S := (fun V : World => (V.cell? ⟨w.heap.size + 1 + 1, 0, none⟩ = some (.int .i64 x.kind) ∧ V.cell? ⟨w.heap.size + 1 + 1, 1, none⟩ = some (.string x.code) ∧ V.cell? ⟨w.heap.size + 1 + 1, 2, none⟩ = some (.string x.value) ∧ V.cell? ⟨w.heap.size + 1 + 1, 3, none⟩ = some (.string x.path) ∧ V.cell? ⟨w.heap.size + 1 + 1, 4, none⟩ = some (.slice Ab x.bytes.length cb) ∧ V.cell? ⟨w.heap.size + 1 + 1, 5, none⟩ = some (.slice Ak x.kids.length ck)) ∧ V.cell? ⟨w.heap.size, 0, none⟩ = some (.int .i64 x.kind) ∧ V.cell? ⟨w.heap.size, 5, none⟩ = some (.slice Ak x.kids.length ck))) (by kernel_rfl) ?_ (fun hHeld0 => ?_)
      · exact cutS H8.out.1.drew
      refine wpAnyH_take (i := 0) (v := ?_) rfl (by kernel_rfl) (by kernel_rfl) (by kernel_rfl) (fun _ _ _ h => h) (Or.inl ⟨by rfl, ?_⟩) hHeld0 ?_
      rotate_left
      · (intro w hSw; (try dsimp only at hSw); go_simp <;> with_reducible rfl)
      try simp only [Act.put, List.setIfInBounds_toArray, List.set_cons_zero, List.set_cons_succ]
      refine wpAnyH_take (i := 1) (v := ?_) rfl (by kernel_rfl) (by kernel_rfl) (by kernel_rfl) (fun _ _ _ h => h) (Or.inl ⟨by rfl, ?_⟩) hHeld0 ?_
      rotate_left
      · (intro w hSw; (try dsimp only at hSw); go_simp <;> with_reducible rfl)
      try simp only [Act.put, List.setIfInBounds_toArray, List.set_cons_zero, List.set_cons_succ]
      refine wpAnyH_take (i := 2) (v := ?_) rfl (by kernel_rfl) (by kernel_rfl) (by kernel_rfl) (fun _ _ _ h => h) (Or.inl ⟨by rfl, ?_⟩) hHeld0 ?_
      rotate_left
      · (intro w hSw; (try dsimp only at hSw); go_simp <;> with_reducible rfl)
      try simp only [Act.put, List.setIfInBounds_toArray, List.set_cons_zero, List.set_cons_succ]
      refine wpAnyH_take (i := 3) (v := ?_) rfl (by kernel_rfl) (by kernel_rfl) (by kernel_rfl) (fun _ _ _ h => h) (Or.inl ⟨by rfl, ?_⟩) hHeld0 ?_
      rotate_left
      · (intro w hSw; (try dsimp only at hSw); go_simp <;> with_reducible rfl)
      try simp only [Act.put, List.setIfInBounds_toArray, List.set_cons_zero, List.set_cons_succ]
      refine wpAnyH_take (i := 4) (v := ?_) rfl (by kernel_rfl) (by kernel_rfl) (by kernel_rfl) (fun _ _ _ h => h) (Or.inl ⟨by rfl, ?_⟩) hHeld0 ?_
      rotate_left
      · (intro w hSw; (try dsimp only at hSw); go_simp <;> with_reducible rfl)
      try simp only [Act.put, List.setIfInBounds_toArray, List.set_cons_zero, List.set_cons_succ]
      refine wpAnyH_take (i := 5) (v := ?_) rfl (by kernel_rfl) (by kernel_rfl) (by kernel_rfl) (fun _ _ _ h => h) (Or.inl ⟨by rfl, ?_⟩) hHeld0 ?_
      rotate_left
      · (intro w hSw; (try dsimp only at hSw); go_simp <;> with_reducible rfl)
      try simp only [Act.put, List.setIfInBounds_toArray, List.set_cons_zero, List.set_cons_succ]
      refine wpAnyH_take (i := 6) (v := ?_) rfl (by kernel_rfl) (by kernel_rfl) (by kernel_rfl) (fun _ _ _ h => h) (Or.inl ⟨by rfl, ?_⟩) hHeld0 ?_
      rotate_left
      · (intro w hSw; (try dsimp only at hSw); go_simp <;> with_reducible rfl)
      try simp only [Act.put, List.setIfInBounds_toArray, List.set_cons_zero, List.set_cons_succ]
      refine wpAnyH_take (i := 7) (v := ?_) rfl (by kernel_rfl) (by kernel_rfl) (by kernel_rfl) (fun _ _ _ h => h) (Or.inl ⟨by rfl, ?_⟩) hHeld0 ?_
      rotate_left
      · (intro w hSw; (try dsimp only at hSw); go_simp <;> with_reducible rfl)
      try simp only [Act.put, List.setIfInBounds_toArray, List.set_cons_zero, List.set_cons_succ]
      refine wpAnyH_ready (rs := [8]) (by kernel_rfl) (by simp) ?_
      refine AllReadyH.cons rfl (fun K hK => ?_) ?_
      · go_simp
        try simp only [hwr]
        with_reducible refine HKI.out.mono ?_
        rintro e w7 ⟨rfl, hb7⟩
        have H9 := Lib.hid (H8.out.1.drew.on hb7)
        have HR9 := Lib.hid (H8.out.2.below ((Below.refl _ _).drew.trans hb7))
        have HOF := Lib.hid (of_row x _ w7 H9.out.node _ room f2 _ HR9.out q HP.out.2.2.1 HX.out.2.2.2)
        clear hb7
        refine hK.out _ _ ?_ (fun hHeld1 => ?_)
        · exact cutS H9.out
        clear hK K hHeld0
        try simp only [Act.put, List.setIfInBounds_toArray, List.set_cons_zero, List.set_cons_succ]
        refine wpAnyH_ready (rs := [9]) (by kernel_rfl) (by simp) ?_
        refine AllReadyH.cons rfl (fun K hK => ?_) ?_
        · go_simp
          refine HOF.out.mono ?_
          rintro e w8 ⟨V', rfl, hnd, hb8⟩
          have H10 := Lib.hid (H9.out.on hb8)
          have H9S := H9.out.size
          obtain ⟨hwf', A4, c4', A5, c5', rfl, hr4, hr5, ha4, ha5⟩ := hnd
          have HND := Lib.hid (And.intro hwf' (And.intro hr4 (And.intro hr5 (And.intro ha4 ha5))))
          clear hwf' hr4 hr5 ha4 ha5 hb8
          unfold Nd.v
          refine hK.out _ _ ?_ (fun hHeld2 => ?_)
          · exact cutS H10.out
          clear hK K hHeld1
          try simp only [Act.put, List.setIfInBounds_toArray, List.set_cons_zero, List.set_cons_succ]
          refine wpAnyH_ready (rs := [10]) (by kernel_rfl) (by simp) ?_
          refine AllReadyH.cons rfl (fun K hK => ?_) ?_
          · obtain ⟨d0, d1, d2, d3, d4, d5⟩ := cells6 H10.out.out
            have fz0 := H10.out.out.frozen 0
            have fz1 := H10.out.out.frozen 1
            have fz2 := H10.out.out.frozen 2
            have fz3 := H10.out.out.frozen 3
            have fz4 := H10.out.out.frozen 4
            have fz5 := H10.out.out.frozen 5
            have l6 := H10.out.out.lt
            obtain ⟨VV, hV, hg, q6⟩ := six_stores (.int .i64 (ofNd x f2 q).kind) (.string (ofNd x f2 q).code) (.string (ofNd x f2 q).value) (.string (ofNd x f2 q).path) (.slice A4 (ofNd x f2 q).bytes.length c4') (.slice A5 (ofNd x f2 q).kids.length c5') H10.out.out
            go_simp
            rw [← hV]
            clear hV d0 d1 d2 d3 d4 d5 fz0 fz1 fz2 fz3 fz4 fz5
            refine hK.out _ _ ?_ (fun hHeld3 => ?_)
            · exact cutS_off H10.out hg
            clear hK K hHeld2
            try simp only [Act.put, List.setIfInBounds_toArray, List.set_cons_zero, List.set_cons_succ]
            refine wpAnyH_take (i := 11) (v := ?_) rfl (by kernel_rfl) (by kernel_rfl) (by kernel_rfl) (fun _ _ _ h => h) (Or.inl ⟨by rfl, ?_⟩) hHeld3 ?_
            rotate_left
            · (intro w hSw; (try dsimp only at hSw); go_simp <;> with_reducible rfl)
            try simp only [Act.put, List.setIfInBounds_toArray, List.set_cons_zero, List.set_cons_succ]
            simp only [Act.put, List.getElem_toArray, List.getElem_cons_succ, List.getElem_cons_zero, List.setIfInBounds_toArray, List.set_cons_zero, List.set_cons_succ]
            refine wpAnyH_done (by kernel_rfl) ?_ _
            refine (‹∀ (a : Act) (w : World), Code.wp Tryz.prog _ _ a w → _› _ _ ?_)
            obtain ⟨c0, c1, c2, c3, c4, c5⟩ := cells6 q6
            go_wp2
            exact bodyPost_ret (v := .tuple #[.agg #[.int .i64 (ofNd x f2 q).kind, .string (ofNd x f2 q).code, .string (ofNd x f2 q).value, .string (ofNd x f2 q).path, .slice A4 (ofNd x f2 q).bytes.length c4', .slice A5 (ofNd x f2 q).kids.length c5'], .int .i64 0]) (by simp [results, Tryz.results17, go_sem, c0, c1, c2, c3, c4, c5]) rfl ⟨_, rfl, ⟨HND.out.1, A4, c4', A5, c5', rfl, reads_off HND.out.2.1 hg (fun ad e => by have := HND.out.2.2.2.1 ad e; have := H9S; omega), reads_off HND.out.2.2.1 hg (fun ad e => by have := HND.out.2.2.2.2 ad e; have := H9S; omega)⟩, H10.out.below.grown hg H10.out.below.size (fun k e => by injection e with e; omega), rowsOf_v (fun ad e => by have h1 := HND.out.2.2.2.1 ad e; have h2 := H9S; omega) (fun ad e => by have h1 := HND.out.2.2.2.2 ad e; have h2 := H9S; omega)⟩
          exact AllReadyH.nil
        exact AllReadyH.nil
      exact AllReadyH.nil
    exact AllReadyH.nil
  exact AllReadyH.nil
end Go.Proofs.YtgjgcbemgmkncaaGreatDoor
namespace Go.Proofs.YtgjgcbemgmkncaaGreatDoor
open Go.RowKit Go.Shelf
set_option linter.unusedVariables false
set_option maxRecDepth 20000
set_option linter.unusedSimpArgs false

theorem Cut_n (x : Nd) (V : Value) (b : Nat) (keep : Bool) (w : World) (h : NdAt w x V) (hr : RoomsAt w) (hb : b < 256) : Calls Tryz.prog 17 #[V, .int .u8 (b : Int), .bool keep] w (NdPair (cutN x b keep).1 (cutN x b keep).2 w) := by
  cases hm : x.may with
  | false =>
    have e : cutN x b keep = (zeroNd, 4) := by unfold cutN; rw [if_pos (by rw [hm])]
    rw [e]
    exact cut_no x V b keep w h hr hm
  | true =>
    by_cases hz : (takeK (x.row (roomN x.kind)) b).1.2 = 0
    · exact cut_yes x V b keep w h hr hb hm hz
    · exact cut_err x V b keep w h hr hb hm hz
end Go.Proofs.YtgjgcbemgmkncaaGreatDoor
namespace Go.Proofs.YtgjgcbemgmkncaaGreatDoor
open Go.RowKit Go.Shelf
set_option linter.unusedVariables false
set_option maxRecDepth 20000
set_option linter.unusedSimpArgs false

/-- Kids of bytes alone, that can be kids. -/
structure KidsOk (f : Kids) : Prop where
  lt : ∀ b, 256 ≤ b → f b = none
  kid : ∀ b r, f b = some r → kidN r = true ∧ refOk r
theorem KidsOk.set {f : Kids} (h : KidsOk f) {b : Nat} (hb : b < 256) {r : Int × Int} (h1 : kidN r = true) (h2 : refOk r) : KidsOk (setK f b (some r)) := by
  refine ⟨fun c hc => ?_, fun c q hq => ?_⟩
  · unfold setK; rw [if_neg (by omega)]; exact h.lt c hc
  · unfold setK at hq
    split at hq
    · injection hq with hq; subst hq; exact ⟨h1, h2⟩
    · exact h.kid c q hq
theorem kidsIn_congr {f g : Kids} : ∀ {l : List Nat}, (∀ b ∈ l, f b = g b) → kidsIn f l = kidsIn g l
  | [], _ => rfl
  | x :: l, h => by
    have ih := kidsIn_congr (f := f) (g := g) (l := l) (fun b hb => h b (by simp [hb]))
    unfold kidsIn at ih ⊢
    rw [List.filterMap_cons, List.filterMap_cons, ih, h x (by simp)]
theorem kidsIn_no {f : Kids} : ∀ {l : List Nat}, (∀ b ∈ l, f b = none) → kidsIn f l = []
  | [], _ => rfl
  | x :: l, h => by
    have ih := kidsIn_no (f := f) (l := l) (fun b hb => h b (by simp [hb]))
    unfold kidsIn at ih ⊢
    rw [List.filterMap_cons, ih, h x (by simp)]
    rfl
theorem mem_drop_range {n b c : Nat} (h : c ∈ (List.range n).drop b) : b ≤ c ∧ c < n := by
  obtain ⟨i, hi, he⟩ := List.getElem_of_mem h
  rw [List.getElem_drop, List.getElem_range] at he
  simp at hi
  omega
/-- The kids of the bytes below b. -/
def upK (f : Kids) (b : Nat) : Kids := fun i => if i < b then f i else none
theorem upK_kids (f : Kids) {b : Nat} (hb : b ≤ 256) : kidsOf (upK f b) = lowK f b := by
  rw [kids_split _ b hb]
  have h1 : lowK (upK f b) b = lowK f b := kidsIn_congr fun c hc => by
    have : c < b := by simpa using hc
    unfold upK; rw [if_pos this]
  have h2 : highK (upK f b) b = [] := kidsIn_no fun c hc => by
    have := (mem_drop_range hc).1
    unfold upK; rw [if_neg (by omega)]
  rw [h1, h2, List.append_nil]
theorem low_succK (f : Kids) (b : Nat) : lowK f (b + 1) = lowK f b ++ ((f b).map fun r => (b, r)).toList := by
  unfold lowK
  rw [List.range_succ, kidsIn_append]
  have h : kidsIn f [b] = ((f b).map fun r => (b, r)).toList := by
    unfold kidsIn
    cases hf : f b <;> simp [List.filterMap_cons, hf]
  rw [h]
theorem lay_low (room : Int) (f : Kids) (hr : (cntK f : Int) ≤ room) : ∀ b, b ≤ 256 → layK room (lowK f b) = upK f b := by
  intro b
  induction b with
  | zero => intro _; funext i; simp [lowK, kidsIn, layK, upK, noKids]
  | succ b ih =>
    intro hb
    rw [low_succK]
    cases hf : f b with
    | none =>
      simp only [Option.map_none, Option.toList_none, List.append_nil]
      rw [ih (by omega)]
      funext i
      unfold upK
      by_cases h1 : i < b
      · rw [if_pos h1, if_pos (by omega)]
      · rw [if_neg h1]
        by_cases h2 : i = b
        · subst h2; rw [if_pos (by omega), hf]
        · rw [if_neg (by omega)]
    | some r =>
      simp only [Option.map_some, Option.toList_some]
      rw [layK_snoc, ih (by omega)]
      unfold layStep putK
      have h0 : upK f b b = none := by unfold upK; rw [if_neg (by omega)]
      have hc : cntK (upK f b) = (lowK f b).length := by unfold cntK; rw [upK_kids f (by omega)]
      have hk : cntK f = (lowK f b).length + (1 + (highK f (b + 1)).length) := by
        unfold cntK; rw [kids_at f b (by omega), hf]; simp; omega
      rw [if_neg (by rw [h0]; simp), if_neg (by rw [hc]; omega)]
      funext i
      dsimp only
      unfold setK upK
      by_cases h1 : i = b
      · subst h1; rw [if_pos rfl, if_pos (by omega), hf]
      · rw [if_neg h1]
        by_cases h2 : i < b
        · rw [if_pos h2, if_pos (by omega)]
        · rw [if_neg h2, if_neg (by omega)]
theorem lay_kids {room : Int} {f : Kids} (hf : KidsOk f) (hr : (cntK f : Int) ≤ room) : layK room (kidsOf f) = f := by
  have h := lay_low room f hr 256 (by omega)
  have h1 : lowK f 256 = kidsOf f := rfl
  rw [← h1, h]
  funext i
  unfold upK
  by_cases h2 : i < 256
  · rw [if_pos h2]
  · rw [if_neg h2, hf.lt i (by omega)]
theorem zip_ofNd (x : Nd) (f : Kids) (k : Int) : (ofNd x f k).bytes.zip (ofNd x f k).kids = kidsOf f := by
  show ((kidsF f).map (·.1.val)).zip ((kidsF f).map (·.2)) = _
  rw [List.zip_map', kidsF_map]
theorem row_ofNd {x : Nd} {f : Kids} {k room : Int} (hf : KidsOk f) (hr : (cntK f : Int) ≤ room) : (ofNd x f k).row room = f := by
  unfold Nd.row; rw [zip_ofNd]; exact lay_kids hf hr
theorem len_ofNd (x : Nd) (f : Kids) (k : Int) : (ofNd x f k).kids.length = cntK f ∧ (ofNd x f k).bytes.length = cntK f := by
  constructor
  · show ((kidsF f).map _).length = _; rw [List.length_map, kidsF_len]; rfl
  · show ((kidsF f).map _).length = _; rw [List.length_map, kidsF_len]; rfl
theorem kids_pairwise (f : Kids) : (kidsOf f).Pairwise (fun a b => a.1 < b.1) := by
  unfold kidsOf kidsIn
  refine List.Pairwise.filterMap _ ?_ (List.pairwise_lt_range (n := 256))
  intro a b hab c hc d hd
  cases ha : f a with
  | none => rw [ha] at hc; cases hc
  | some q =>
    cases hb : f b with
    | none => rw [hb] at hd; cases hd
    | some q2 =>
      rw [ha] at hc
      rw [hb] at hd
      cases hc
      cases hd
      exact hab
theorem bytes_ofNd (x : Nd) (f : Kids) (k : Int) : (ofNd x f k).bytes = (kidsOf f).map (·.1) := by
  show (kidsF f).map (·.1.val) = _
  rw [← kidsF_map, List.map_map]; rfl
theorem kids_ofNd (x : Nd) (f : Kids) (k : Int) : (ofNd x f k).kids = (kidsOf f).map (·.2) := by
  show (kidsF f).map (·.2) = _
  rw [← kidsF_map, List.map_map]; rfl
theorem rising_ofNd (x : Nd) (f : Kids) (k : Int) : risingN (ofNd x f k).bytes = true := by
  rw [bytes_ofNd, rising_iff]
  intro m h
  have hp : ((kidsOf f).map (·.1)).Pairwise (· < ·) := by rw [List.pairwise_map]; exact kids_pairwise f
  exact List.pairwise_iff_getElem.1 hp m (m + 1) (by omega) h (by omega)
theorem refs_ofNd (x : Nd) {f : Kids} (k : Int) (hf : KidsOk f) : (ofNd x f k).kids.all kidN = true := by
  rw [List.all_eq_true]
  intro r hr
  rw [kids_ofNd] at hr
  obtain ⟨p, hp, rfl⟩ := List.mem_map.1 hr
  exact (hf.kid _ _ (mem_kids hp).2).1
theorem toList_no : (ByteArray.toList { data := #[] }).isEmpty = true := by
  rw [ByteArray.toList, ByteArray.toList.loop]; rfl
theorem inner_ofNd {x : Nd} {f : Kids} {k : Int} (hf : KidsOk f) (hk : 0 < roomN k) (hp : x.path.size ≤ 34) : (ofNd x f k).isInner = true := by
  have h1 := len_ofNd x f k
  have h2 := cnt_256 f
  unfold Nd.isInner Nd.innerN Nd.bareN Nd.pairedN Nd.risingN Nd.refsN
  rw [rising_ofNd, refs_ofNd x k hf, h1.1, h1.2]
  have h3 : (ofNd x f k).code.toList.isEmpty = true := toList_no
  have h4 : (ofNd x f k).value.toList.isEmpty = true := toList_no
  rw [h3, h4]
  have h5 : (ofNd x f k).kind = k := rfl
  have h6 : (ofNd x f k).path = x.path := rfl
  rw [h5, h6]
  simp [hk, h2]
  omega
theorem right_ofNd {x : Nd} {f : Kids} {k : Int} (hf : KidsOk f) (hk : 0 < roomN k) (hp : x.path.size ≤ 34) : (ofNd x f k).isRight = (decide (1 < cntK f) && decide ((ofN (cntK f)).1 = k)) := by
  unfold Nd.isRight Nd.manyN Nd.fitsN
  rw [inner_ofNd hf hk hp, (len_ofNd x f k).1]
  have h5 : (ofNd x f k).kind = k := rfl
  rw [h5, Bool.true_and]
theorem anchor_ofNd {x : Nd} {f : Kids} {k : Int} (hf : KidsOk f) (hk : 0 < roomN k) (hp : x.path.size ≤ 34) : (ofNd x f k).isAnchor = (decide (k = 5) && x.path.toList.isEmpty) := by
  unfold Nd.isAnchor Nd.topN
  rw [inner_ofNd hf hk hp]
  have h5 : (ofNd x f k).kind = k := rfl
  have h6 : (ofNd x f k).path = x.path := rfl
  rw [h5, h6, Bool.true_and]
theorem ofNd_ofNd (x : Nd) (f g : Kids) (k l : Int) : ofNd (ofNd x f k) g l = ofNd x g l := rfl
theorem room_of {n : Int} (h0 : 0 ≤ n) (h1 : n ≤ 256) : n ≤ roomN (ofN n).1 ∧ 0 < roomN (ofN n).1 ∧ (2 ≤ (ofN n).1 ∧ (ofN n).1 ≤ 5) ∧ (ofN n).2 = true := by
  unfold ofN
  rw [if_neg (by omega)]
  split
  · refine ⟨?_, ?_, ?_, rfl⟩ <;> simp [roomN] <;> omega
  · split
    · refine ⟨?_, ?_, ?_, rfl⟩ <;> simp [roomN] <;> omega
    · split
      · refine ⟨?_, ?_, ?_, rfl⟩ <;> simp [roomN] <;> omega
      · refine ⟨?_, ?_, ?_, rfl⟩ <;> simp [roomN] <;> omega
theorem room_mono {a b : Int} (ha : 2 ≤ a ∧ a ≤ 5) (hb : 2 ≤ b ∧ b ≤ 5) (h : a ≤ b) : roomN a ≤ roomN b := by
  have h1 : a = 2 ∨ a = 3 ∨ a = 4 ∨ a = 5 := by omega
  have h2 : b = 2 ∨ b = 3 ∨ b = 4 ∨ b = 5 := by omega
  rcases h1 with rfl | rfl | rfl | rfl <;> rcases h2 with rfl | rfl | rfl | rfl <;> simp [roomN] at * 
theorem cnt_full {f : Kids} (h : 256 ≤ cntK f) {b : Nat} (hb : b < 256) : (f b).isSome = true := by
  cases hf : f b with
  | some r => rfl
  | none =>
    have h1 := cnt_set_some (f := f) (0, 0) hb hf
    have h2 := cnt_256 (setK f b (some (0, 0)))
    omega
/-- What Add makes of a node that is made of kids. -/
theorem add_ofNd {x : Nd} {f : Kids} {k : Int} (b : Nat) (r : Int × Int) (keep : Bool) (hf : KidsOk f) (hk : 0 < roomN k) (hm : (ofNd x f k).may = true) (hkd : kidN r = true) (hr : (cntK f : Int) ≤ addRoom (ofNd x f k) keep) :
    addN (ofNd x f k) b r keep = if (f b).isSome = true then (zeroNd, 8) else if (cntK f : Int) = addRoom (ofNd x f k) keep then (zeroNd, 14) else (ofNd x (setK f b (some r)) (kindN (ofNd x f k) ((cntK f : Int) + 1) keep), 0) := by
  unfold addN
  rw [if_neg (by rw [hm, hkd]; simp), row_ofNd hf hr]
  unfold putK
  split
  · rfl
  · split
    · rfl
    · rw [if_pos rfl, ofNd_ofNd, (len_ofNd x f k).1]
theorem cut_ofNd {x : Nd} {f : Kids} {k : Int} (b : Nat) (keep : Bool) (hf : KidsOk f) (hm : (ofNd x f k).may = true) (hr : (cntK f : Int) ≤ roomN k) :
    cutN (ofNd x f k) b keep = if (f b).isSome = true then (ofNd x (setK f b none) (kindN (ofNd x f k) ((cntK f : Int) - 1) keep), 0) else (zeroNd, 5) := by
  have h5 : (ofNd x f k).kind = k := rfl
  unfold cutN
  rw [if_neg (by rw [hm]; simp), h5, row_ofNd hf hr]
  unfold takeK
  cases hfb : f b with
  | none => simp
  | some q => simp [ofNd_ofNd, (len_ofNd x f k).1]
/-! ### An anchor -/
theorem may_top {x : Nd} {f : Kids} (hf : KidsOk f) (hp : x.path = { data := #[] }) : (ofNd x f 5).may = true ∧ (ofNd x f 5).isAnchor = true := by
  have h : (ofNd x f 5).isAnchor = true := by
    rw [anchor_ofNd hf (by decide) (by rw [hp]; decide), hp, toList_no]
    rfl
  exact ⟨by unfold Nd.may; rw [h, Bool.or_true], h⟩
theorem kind_keep (x : Nd) (n : Int) : kindN x n true = x.kind := rfl
theorem add_top {x : Nd} {f : Kids} {b : Nat} (r : Int × Int) (hb : b < 256) (hf : KidsOk f) (hp : x.path = { data := #[] }) (hkd : kidN r = true) :
    addN (ofNd x f 5) b r true = if (f b).isSome = true then (zeroNd, 8) else (ofNd x (setK f b (some r)) 5, 0) := by
  have h1 : addRoom (ofNd x f 5) true = 256 := rfl
  have h2 := cnt_256 f
  rw [add_ofNd b r true hf (by decide) (may_top hf hp).1 hkd (by rw [h1]; omega), h1, kind_keep]
  split
  · rfl
  · rename_i hno
    rw [if_neg]
    · rfl
    · intro e
      exact hno (cnt_full (by omega) hb)
/-! ### A right node -/
def kindK (f : Kids) : Int := (ofN (cntK f)).1
theorem kindK_room (f : Kids) : (cntK f : Int) ≤ roomN (kindK f) ∧ 0 < roomN (kindK f) ∧ 2 ≤ kindK f ∧ kindK f ≤ 5 := by
  have h := room_of (n := (cntK f : Int)) (by omega) (by have := cnt_256 f; omega)
  exact ⟨h.1, h.2.1, h.2.2.1⟩
theorem right_low {x : Nd} {f : Kids} (hf : KidsOk f) (hp : x.path.size ≤ 34) (h2 : 2 ≤ cntK f) : (ofNd x f (kindK f)).isRight = true ∧ (ofNd x f (kindK f)).may = true := by
  have h : (ofNd x f (kindK f)).isRight = true := by
    rw [right_ofNd hf (kindK_room f).2.1 hp]
    simp [kindK]; omega
  exact ⟨h, by unfold Nd.may; rw [h, Bool.true_or]⟩
theorem add_low {x : Nd} {f : Kids} {b : Nat} (r : Int × Int) (hb : b < 256) (hf : KidsOk f) (hp : x.path.size ≤ 34) (h2 : 2 ≤ cntK f) (hkd : kidN r = true) :
    addN (ofNd x f (kindK f)) b r false = if (f b).isSome = true then (zeroNd, 8) else (ofNd x (setK f b (some r)) (kindK (setK f b (some r))), 0) := by
  have hc := cnt_256 f
  have hk := kindK_room f
  have e1 : addRoom (ofNd x f (kindK f)) false = roomN (max (ofN ((cntK f : Int) + 1)).1 (kindK f)) := by
    unfold addRoom kindN; rw [(len_ofNd _ _ _).1]; rfl
  have e2 : roomN (kindK f) ≤ addRoom (ofNd x f (kindK f)) false ∨ cntK f = 256 := by
    by_cases h : cntK f = 256
    · exact .inr h
    · refine .inl ?_
      rw [e1]
      have h3 := room_of (n := (cntK f : Int) + 1) (by omega) (by omega)
      exact room_mono hk.2.2 (by omega) (by omega)
  have hr : (cntK f : Int) ≤ addRoom (ofNd x f (kindK f)) false := by
    rcases e2 with e2 | e2
    · omega
    · rw [e1, e2]; unfold kindK; rw [e2]; decide
  rw [add_ofNd b r false hf hk.2.1 (right_low hf hp h2).2 hkd hr]
  split
  · rfl
  · rename_i hno
    have hlt : cntK f < 256 := by
      by_cases h : cntK f < 256
      · exact h
      · exact absurd (cnt_full (by omega) hb) hno
    have h3 := room_of (n := (cntK f : Int) + 1) (by omega) (by omega)
    have h4 : roomN (ofN ((cntK f : Int) + 1)).1 ≤ addRoom (ofNd x f (kindK f)) false := by
      rw [e1]; exact room_mono h3.2.2.1 (by omega) (by omega)
    rw [if_neg (by omega)]
    have h5 := cnt_set_some (f := f) r hb (by cases h : f b with
      | none => rfl
      | some q => rw [h] at hno; simp at hno)
    have h6 : kindN (ofNd x f (kindK f)) ((cntK f : Int) + 1) false = kindK (setK f b (some r)) := by
      unfold kindN kindK; rw [h5]; push_cast; rfl
    rw [h6]
theorem cut_low {x : Nd} {f : Kids} {b : Nat} (hb : b < 256) (hf : KidsOk f) (hp : x.path.size ≤ 34) (h2 : 2 ≤ cntK f) :
    cutN (ofNd x f (kindK f)) b false = if (f b).isSome = true then (ofNd x (setK f b none) (kindK (setK f b none)), 0) else (zeroNd, 5) := by
  rw [cut_ofNd b false hf (right_low hf hp h2).2 (kindK_room f).1]
  split
  · rename_i h
    obtain ⟨q, hq⟩ := Option.isSome_iff_exists.1 h
    have h5 := cnt_set_none hb hq
    have h6 : kindN (ofNd x f (kindK f)) ((cntK f : Int) - 1) false = kindK (setK f b none) := by
      unfold kindN kindK
      rw [← h5]; push_cast
      rw [show ((cntK (setK f b none) : Int) + 1 - 1) = (cntK (setK f b none) : Int) by omega]
      first | done | rfl
    rw [h6]
  · rfl
end Go.Proofs.YtgjgcbemgmkncaaGreatDoor
