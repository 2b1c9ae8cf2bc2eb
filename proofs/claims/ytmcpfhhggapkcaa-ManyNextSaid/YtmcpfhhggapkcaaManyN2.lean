/-
  Layer 8: Next.
-/
import Derived.Test.YtmcpfhhggapkcaaManyN1
import Derived.Test.YtmcpfhhggapkcaaManyL
import Derived.Test.YtmcpfhhggapkcaaQuietRound
namespace Go.Proofs.Ytmcpfhhggapkcaa
open Go.RowKit Go.Shelf
set_option linter.unusedVariables false
set_option linter.unusedSimpArgs false
attribute [local go_sem] Oper.semAt_some

/-- Next's world ahead of its result. -/
def NxI (w : World) (lo g2 g4 g5 g6 g gr gu room : Nat) (f : Kids) (W : World) : Prop := Blk W g2 45 #[.pointer (some ⟨g, 0, none⟩)] ∧ Blk W g4 5 #[.int .u8 0] ∧ Blk W g5 31 #[.int .i64 0, .int .u32 0] ∧ Blk W g6 4 #[.bool false] ∧ ManyAt W g gr gu room f ∧ Below w.heap.size w W ∧ lo ≤ W.heap.size
theorem nxBlk_drewN {w W : World} {lo g2 g4 g5 g6 g gr gu room : Nat} {f : Kids} (h : NxI w lo g2 g4 g5 g6 g gr gu room f W) (k : Nat) : NxI w lo g2 g4 g5 g6 g gr gu room f (W.drewN k) := by
  obtain ⟨h1, h2, h3, h4, h5, h6, h7⟩ := h
  exact ⟨h1.drewN k, h2.drewN k, h3.drewN k, h4.drewN k, h5.drewN k, below_drewN h6 k, h7⟩
theorem ManyAt.own_ {W W' : World} {row : Option Nat} {g gr gu room : Nat} {f : Kids} (h : ManyAt W g gr gu room f) (hg : W.grownBy W' row) (hr : ∀ r, row = some r → ∃ o : Obj, W.heap[r]? = some o ∧ o.isCells = false) : ManyAt W' g gr gu room f := by
  obtain ⟨o, h1, h2, h3⟩ := h
  exact ⟨o, h1, ⟨h2.1.own_ hg hr, h2.2.1.own_ hg hr, h2.2.2.own_ hg hr⟩, h3⟩
theorem nxI_own {w wx W W' : World} {lo g2 g4 g5 g6 g gr gu room : Nat} {f : Kids} {row : Option Nat} (hw : w.heap.size ≤ wx.heap.size) (h : NxI w lo g2 g4 g5 g6 g gr gu room f W) (hg : W.grownBy W' row) (hr : ∀ k, row = some k → wx.heap.size ≤ k ∧ ∃ o : Obj, W.heap[k]? = some o ∧ o.isCells = false) : NxI w lo g2 g4 g5 g6 g gr gu room f W' := by
  obtain ⟨h1, h2, h3, h4, h5, h6, h7⟩ := h
  have hr' := fun r e => (hr r e).2
  exact ⟨h1.own_ hg hr', h2.own_ hg hr', h3.own_ hg hr', h4.own_ hg hr', h5.own_ hg hr', ownFrom_below (β := Unit) (Nat.le_refl _) hw () W W' row h6 hg hr, Nat.le_trans h7 hg.size⟩
theorem cell3_far {V : World} {g2 gr p : Nat} {x1 x2 x3 : Option Value} (h : V.cell? ⟨g2, 0, none⟩ = x1 ∧ V.cell? ⟨gr, p * 2, none⟩ = x2 ∧ V.cell? ⟨gr, p * 2 + 1, none⟩ = x3) (k i : Nat) (u : Value) (h2 : k ≠ g2) (h3 : k ≠ gr) : (V.setCell ⟨k, i, none⟩ u).cell? ⟨g2, 0, none⟩ = x1 ∧ (V.setCell ⟨k, i, none⟩ u).cell? ⟨gr, p * 2, none⟩ = x2 ∧ (V.setCell ⟨k, i, none⟩ u).cell? ⟨gr, p * 2 + 1, none⟩ = x3 :=
  ⟨(World.cell?_setCell_far _ ⟨k, i, none⟩ ⟨g2, 0, none⟩ _ h2).trans h.1, (World.cell?_setCell_far _ ⟨k, i, none⟩ ⟨gr, p * 2, none⟩ _ h3).trans h.2.1, (World.cell?_setCell_far _ ⟨k, i, none⟩ ⟨gr, p * 2 + 1, none⟩ _ h3).trans h.2.2⟩
theorem nxNe {w : World} {lo g2 g4 g5 g6 g gr gu room : Nat} {f : Kids} {W : World} (h : NxI w lo g2 g4 g5 g6 g gr gu room f W) (hne : g4 ≠ gr ∧ g5 ≠ gr ∧ g6 ≠ gr) : g4 ≠ g2 ∧ g4 ≠ gr ∧ g5 ≠ g2 ∧ g5 ≠ gr ∧ g6 ≠ g2 ∧ g6 ≠ gr ∧ g4 ≠ g5 ∧ g4 ≠ g6 ∧ g5 ≠ g6 := by
  obtain ⟨h1, h2, h3, h4, _⟩ := h
  exact ⟨blk_neF h2 h1 (by decide), hne.1, blk_neF h3 h1 (by decide), hne.2.1, blk_neF h4 h1 (by decide), hne.2.2, blk_neF h2 h3 (by decide), blk_neF h2 h4 (by decide), blk_neF h3 h4 (by decide)⟩
theorem nxK_drewN {B : Nat} {W0 W : World} (h : KeepsFrom B W0 W ∧ KeepsC (fun _ => True) W0 W) (k : Nat) : KeepsFrom B W0 (W.drewN k) ∧ KeepsC (fun _ => True) W0 (W.drewN k) := ⟨⟨h.1.1, h.1.2⟩, ⟨h.2.size, h.2.same⟩⟩
/-- .. behind it. -/
def NxX (w : World) (g4 g5 g6 : Nat) (f : Kids) (pre : List (KidB f)) (W : World) : Prop := ∃ (x : KidB f) (r : Int × Int), pre = [x] ∧ f x.1.val = some r ∧ Blk W g4 5 #[.int .u8 (x.1.val : Int)] ∧ Blk W g5 31 #[.int .i64 r.1, .int .u32 r.2] ∧ Blk W g6 4 #[.bool true] ∧ Below w.heap.size w W
theorem nxX_own {w wx W W' : World} {g4 g5 g6 : Nat} {f : Kids} {pre : List (KidB f)} {row : Option Nat} (hw : w.heap.size ≤ wx.heap.size) (h : NxX w g4 g5 g6 f pre W) (hg : W.grownBy W' row) (hr : ∀ k, row = some k → wx.heap.size ≤ k ∧ ∃ o : Obj, W.heap[k]? = some o ∧ o.isCells = false) : NxX w g4 g5 g6 f pre W' := by
  obtain ⟨x, r, h1, h2, h3, h4, h5, h6⟩ := h
  have hr' := fun r e => (hr r e).2
  exact ⟨x, r, h1, h2, h3.own_ hg hr', h4.own_ hg hr', h5.own_ hg hr', ownFrom_below (β := Unit) (Nat.le_refl _) hw () W W' row h6 hg hr⟩

theorem nxFrom (B : Nat) (W : World) (a b c : Nat) (v1 v2 v3 v4 : Value) : KeepsFrom B W ((((W.setCell ⟨a, 0, none⟩ v1).setCell ⟨b, 0, none⟩ v2).setCell ⟨b, 1, none⟩ v3).setCell ⟨c, 0, none⟩ v4) :=
  ((((KeepsOthers.setCell _ _ _).trans (KeepsOthers.setCell _ _ _)).trans (KeepsOthers.setCell _ _ _)).trans (KeepsOthers.setCell _ _ _)).from B
theorem nxX_stores {w : World} {lo g2 g4 g5 g6 g gr gu room : Nat} {f : Kids} {W : World} (h : NxI w lo g2 g4 g5 g6 g gr gu room f W) (hge : w.heap.size ≤ g4 ∧ w.heap.size ≤ g5 ∧ w.heap.size ≤ g6) (ne : g4 ≠ g2 ∧ g4 ≠ gr ∧ g5 ≠ g2 ∧ g5 ≠ gr ∧ g6 ≠ g2 ∧ g6 ≠ gr ∧ g4 ≠ g5 ∧ g4 ≠ g6 ∧ g5 ≠ g6) {x : KidB f} {r : Int × Int} (hr : f x.1.val = some r) :
    NxX w g4 g5 g6 f [x] ((((W.setCell ⟨g4, 0, none⟩ (.int .u8 (x.1.val : Int))).setCell ⟨g5, 0, none⟩ (.int .i64 r.1)).setCell ⟨g5, 1, none⟩ (.int .u32 r.2)).setCell ⟨g6, 0, none⟩ (.bool true)) := by
  obtain ⟨h1, h2, h3, h4, h5, h6, h7⟩ := h
  obtain ⟨n1, n2, n3, n4, n5, n6, n7, n8, n9⟩ := ne
  refine ⟨x, r, rfl, hr, ?_, ?_, ?_, ?_⟩
  · have k := (((h2.set_ 0 (.int .u8 (x.1.val : Int))).far (p := ⟨g5, 0, none⟩) n7 (.int .i64 r.1)).far (p := ⟨g5, 1, none⟩) n7 (.int .u32 r.2)).far (p := ⟨g6, 0, none⟩) n8 (.bool true)
    simpa using k
  · have k := (((h3.far (p := ⟨g4, 0, none⟩) (Ne.symm n7) (.int .u8 (x.1.val : Int))).set_ 0 (.int .i64 r.1)).set_ 1 (.int .u32 r.2)).far (p := ⟨g6, 0, none⟩) n9 (.bool true)
    simpa using k
  · have k := (((h4.far (p := ⟨g4, 0, none⟩) (Ne.symm n8) (.int .u8 (x.1.val : Int))).far (p := ⟨g5, 0, none⟩) (Ne.symm n9) (.int .i64 r.1)).far (p := ⟨g5, 1, none⟩) (Ne.symm n9) (.int .u32 r.2)).set_ 0 (.bool true)
    simpa using k
  · exact (((h6.setCell (p := ⟨g4, 0, none⟩) hge.1 _).setCell (p := ⟨g5, 0, none⟩) hge.2.1 _).setCell (p := ⟨g5, 1, none⟩) hge.2.1 _).setCell (p := ⟨g6, 0, none⟩) hge.2.2 _

set_option maxHeartbeats 3200000 in
set_option maxRecDepth 100000 in
theorem nx_loop (g2 g4 g5 g6 g gr gu room Bf Bi : Nat) (from_ : Int) (f : Kids) {u0 u1 u3 u7 u8 u9 u10 u11 u12 u13 u14 u15 u16 u18 u19 u20 u21 u22 u23 u24 u25 u26 u27 u28 : Value} (w wx : World) {Q : Exit → Act → World → Prop} (hf : Blk wx Bf 3 #[.int .i64 from_]) (hi : Blk wx Bi 82 #[.func (.func 44) #[.pointer (some ⟨g, 0, none⟩)] #[]]) (hw : w.heap.size ≤ wx.heap.size) (hI : NxI w wx.heap.size g2 g4 g5 g6 g gr gu room f wx) (hge : w.heap.size ≤ g4 ∧ w.heap.size ≤ g5 ∧ w.heap.size ≤ g6) (hne : g4 ≠ gr ∧ g5 ≠ gr ∧ g6 ≠ gr)
    (hQ : ∀ (D : Nat) (W : World), wx.heap.size ≤ D → bytesF f (max from_ 0).toNat = [] → NxI w wx.heap.size g2 g4 g5 g6 g gr gu room f W → W.heap[D]? = some (.deferred (some [])) → Q .normal ⟨#[u0, u1, .pointer (some ⟨g2, 0, none⟩), u3, .pointer (some ⟨g4, 0, none⟩), .pointer (some ⟨g5, 0, none⟩), .pointer (some ⟨g6, 0, none⟩), u7, u8, u9, u10, u11, u12, u13, u14, u15, u16, .func (.func 59) #[] #[.pointer (some ⟨Bf, 0, none⟩), .pointer (some ⟨Bi, 0, none⟩)], u18, u19, u20, u21, u22, u23, u24, u25, u26, u27, u28], [{ target := .collected D, args := #[] }]⟩ W)
    (hR : ∀ (D : Nat) (pre : List (KidB f)) (W : World), wx.heap.size ≤ D → pre <+: bytesF f (max from_ 0).toNat → NxX w g4 g5 g6 f pre W → W.heap[D]? = some (.deferred (some [])) → Q .ret ⟨#[u0, u1, .pointer (some ⟨g2, 0, none⟩), u3, .pointer (some ⟨g4, 0, none⟩), .pointer (some ⟨g5, 0, none⟩), .pointer (some ⟨g6, 0, none⟩), u7, u8, u9, u10, u11, u12, u13, u14, u15, u16, .func (.func 59) #[] #[.pointer (some ⟨Bf, 0, none⟩), .pointer (some ⟨Bi, 0, none⟩)], u18, u19, u20, u21, u22, u23, u24, u25, u26, u27, u28], [{ target := .collected D, args := #[] }]⟩ W) :
    Code.wp Try.prog (part Try.f20 [1, 1, 0, 1]) Q ⟨#[u0, u1, .pointer (some ⟨g2, 0, none⟩), u3, .pointer (some ⟨g4, 0, none⟩), .pointer (some ⟨g5, 0, none⟩), .pointer (some ⟨g6, 0, none⟩), u7, u8, u9, u10, u11, u12, u13, u14, u15, u16, .func (.func 59) #[] #[.pointer (some ⟨Bf, 0, none⟩), .pointer (some ⟨Bi, 0, none⟩)], u18, u19, u20, u21, u22, u23, u24, u25, u26, u27, u28], []⟩ wx := by
  conv => arg 2; whnf
  have HQ := Lib.hid (And.intro hQ hR)
  clear hQ hR
  refine wp_block ?_
  refine (wpIn_wide (n := 10)).1 ?_
  refine wpIn_rangeFunc_ownH rfl (by decide) (gf := 59) (lb := #[.pointer (some ⟨Bf, 0, none⟩), .pointer (some ⟨Bi, 0, none⟩)]) rfl trivial (enters_of Try.func59 (by kernel_rfl) rfl)
    (bytes_stops Bf Bi g gr room 9 (fun _ => True) from_ f wx ⟨trivial, trivial, trivial, trivial⟩ (by decide) hf hi hI.2.2.2.2.1.read) (fun h k => h.trans k) (fun W l o o' hl h1 h2 h3 => KeepsC.book W l o o' h1 h2) (Below.refl _ _) (fun _ => rfl)
    (fun pre W => pre = [] ∧ NxI w wx.heap.size g2 g4 g5 g6 g gr gu room f W) (fun c pre W => c = .ret ∧ NxX w g4 g5 g6 f pre W) (fun s W W' row hs hg hr => ⟨hs.1, nxI_own hw hs.2 hg hr⟩) (fun c s W W' row hs hg hr => ⟨hs.1, nxX_own hw hs.2 hg hr⟩) ⟨rfl, hI⟩
    (fun x a' W => a' = ⟨#[u0, u1, .pointer (some ⟨g2, 0, none⟩), u3, .pointer (some ⟨g4, 0, none⟩), .pointer (some ⟨g5, 0, none⟩), .pointer (some ⟨g6, 0, none⟩), .int .i64 (x.1.val : Int), u8, u9, u10, u11, u12, u13, u14, u15, u16, .func (.func 59) #[] #[.pointer (some ⟨Bf, 0, none⟩), .pointer (some ⟨Bi, 0, none⟩)], .int .i64 (x.1.val : Int), u19, u20, u21, u22, u23, u24, u25, u26, u27, u28], []⟩) (fun x a' s W W' row hs hg hr => hs) ?assign ?body ?done ?stop
  case assign =>
    rintro l pre x W K hi2 hK
    have hfin : K ⟨#[u0, u1, .pointer (some ⟨g2, 0, none⟩), u3, .pointer (some ⟨g4, 0, none⟩), .pointer (some ⟨g5, 0, none⟩), .pointer (some ⟨g6, 0, none⟩), .int .i64 (x.1.val : Int), u8, u9, u10, u11, u12, u13, u14, u15, u16, .func (.func 59) #[] #[.pointer (some ⟨Bf, 0, none⟩), .pointer (some ⟨Bi, 0, none⟩)], .int .i64 (x.1.val : Int), u19, u20, u21, u22, u23, u24, u25, u26, u27, u28], []⟩ W := hK _ _ (KeepsFrom.refl _ _) (KeepsC.refl _ _) hi2 rfl
    have HF := Lib.hid hfin
    clear hfin hK
    gi_wp2
    exact HF.out
  case body =>
    rintro l pre x a' W hl ⟨rec, hrec⟩ ⟨rfl, hi2⟩ rfl hlen
    obtain ⟨r, hr⟩ := Option.isSome_iff_exists.1 x.2
    obtain ⟨o, o1, o2, o3, o4⟩ := hi2.2.2.2.2.1
    obtain ⟨p, p1, p2, p3, p4⟩ := o1.some_ x.1.val r x.1.isLt hr
    obtain ⟨c1, c2⟩ := o2.ref p1
    rw [p4] at c1 c2
    have HREF := Lib.hid (mref g gr gu room o x.1.val p W.drew o2.drew x.1.isLt p1 o4 p2)
    have HS := Lib.hid hi2
    have HRX := Lib.hid hr
    have HKF : Hid (KeepsFrom wx.heap.size W (W.drewN 1) ∧ KeepsC (fun _ => True) W (W.drewN 1)) := Lib.hid (nxK_drewN (W0 := W) (W := W) ⟨KeepsFrom.refl _ _, KeepsC.refl _ _⟩ 1)
    have e2 : W.cell? ⟨g2, 0, none⟩ = some (.pointer (some ⟨g, 0, none⟩)) := hi2.1.cell 0
    have hx0 : (0 : Int) ≤ (x.1.val : Int) := by omega
    have hx1 : (x.1.val : Int) ≤ 255 := by have := x.1.isLt; omega
    have sw : IntKind.u8.wrap (x.1.val : Int) = (x.1.val : Int) := IntWalk.u8_in _ (by omega)
    clear o1 o2 o3 o4 p1 p2 p3 p4 hr hi2
    gi_wp2_with (fail)
    refine wpIn_region_held_round (S := (fun V => V.cell? ⟨g2, 0, none⟩ = some (.pointer (some ⟨g, 0, none⟩)) ∧ V.cell? ⟨gr, p * 2, none⟩ = some (.int .i64 r.1) ∧ V.cell? ⟨gr, p * 2 + 1, none⟩ = some (.int .u32 r.2))) l (fun hh => by obtain ⟨_, _, h⟩ := hh; exact h) (by kernel_rfl) (by kernel_rfl) ?_ (fun hHeld0 => ?_)
    · exact ⟨e2, c1, c2⟩
    refine wpAnyH_take (i := 0) (v := ?_) rfl (by kernel_rfl) (by kernel_rfl) (by kernel_rfl) (fun _ _ _ h => h) (Or.inl ⟨by rfl, ?_⟩) hHeld0 ?_
    rotate_left
    · (intro w hSw; (try dsimp only at hSw); go_simp <;> with_reducible rfl)
    try simp only [Act.put, List.setIfInBounds_toArray, List.set_cons_zero, List.set_cons_succ]
    refine wpAnyH_take (i := 1) (v := ?_) rfl (by kernel_rfl) (by kernel_rfl) (by kernel_rfl) (fun _ _ _ h => h) (Or.inl ⟨by rfl, ?_⟩) hHeld0 ?_
    rotate_left
    · (intro w hSw; (try dsimp only at hSw); go_simp <;> with_reducible rfl)
    try simp only [Act.put, List.setIfInBounds_toArray, List.set_cons_zero, List.set_cons_succ]
    refine wpAnyH_take (i := 2) (v := ?_) rfl (by kernel_rfl) (by kernel_rfl) (by kernel_rfl) (fun _ _ _ h => h) (Or.inl ⟨by rfl, ?_⟩) hHeld0 ?_
    rotate_left
    · (intro w hSw; (try dsimp only at hSw); go_simp <;> with_reducible rfl)
    try simp only [Act.put, List.setIfInBounds_toArray, List.set_cons_zero, List.set_cons_succ]
    refine wpAnyH_take (i := 3) (v := ?_) rfl (by kernel_rfl) (by kernel_rfl) (by kernel_rfl) (fun _ _ _ h => h) (Or.inl ⟨by rfl, ?_⟩) hHeld0 ?_
    rotate_left
    · (intro w hSw; (try dsimp only at hSw); go_simp <;> with_reducible rfl)
    try simp only [Act.put, List.setIfInBounds_toArray, List.set_cons_zero, List.set_cons_succ]
    refine wpAnyH_take (i := 4) (v := ?_) rfl (by kernel_rfl) (by kernel_rfl) (by kernel_rfl) (fun _ _ _ h => h) (Or.inl ⟨by rfl, ?_⟩) hHeld0 ?_
    rotate_left
    · (intro w hSw; (try dsimp only at hSw); go_simp <;> with_reducible rfl)
    try simp only [Act.put, List.setIfInBounds_toArray, List.set_cons_zero, List.set_cons_succ]
    refine wpAnyH_take (i := 5) (v := ?_) rfl (by kernel_rfl) (by kernel_rfl) (by kernel_rfl) (fun _ _ _ h => h) (Or.inl ⟨by rfl, ?_⟩) hHeld0 ?_
    rotate_left
    · (intro w hSw; (try dsimp only at hSw); go_simp <;> with_reducible rfl)
    try simp only [Act.put, List.setIfInBounds_toArray, List.set_cons_zero, List.set_cons_succ]
    refine wpAnyH_ready (rs := [6]) (by kernel_rfl) (by simp) ?_
    refine AllReadyH.cons rfl (fun K hK => ?_) ?_
    · go_simp
      go_at_call 45
      refine HREF.out.mono ?_
      rintro e w3 ⟨rfl, k, hk3⟩
      have hv : NxI w wx.heap.size g2 g4 g5 g6 g gr gu room f w3 := by rw [hk3]; exact nxBlk_drewN (nxBlk_drewN HS.out 1) k
      have hc : w3.cell? ⟨g2, 0, none⟩ = some (.pointer (some ⟨g, 0, none⟩)) ∧ w3.cell? ⟨gr, p * 2, none⟩ = some (.int .i64 r.1) ∧ w3.cell? ⟨gr, p * 2 + 1, none⟩ = some (.int .u32 r.2) := by rw [hk3]; exact ⟨e2, c1, c2⟩
      have hbk := nxK_drewN HKF.out k
      rw [show (W.drewN 1).drewN k = w3 from hk3.symm] at hbk
      have HV := Lib.hid (And.intro hv (And.intro hc hbk))
      have e4 := hv.2.1.cell 0
      have f4 := hv.2.1.frozen 0
      have l4 := hv.2.1.lt
      have e50 := hv.2.2.1.cell 0
      have e51 := hv.2.2.1.cell 1
      have f50 := hv.2.2.1.frozen 0
      have f51 := hv.2.2.1.frozen 1
      have l5 := hv.2.2.1.lt
      have e6 := hv.2.2.2.1.cell 0
      have f6 := hv.2.2.2.1.frozen 0
      have l6 := hv.2.2.2.1.lt
      simp at e4 e50 e51 e6
      have NE := Lib.hid (nxNe hv hne)
      clear hv hc hk3 hbk c1 c2
      refine hK.out _ _ ?_ (fun hHeld1 => ?_)
      · exact HV.out.2.1
      clear hK K hHeld0
      try simp only [Act.put, List.setIfInBounds_toArray, List.set_cons_zero, List.set_cons_succ]
      refine wpAnyH_take (i := 7) (v := ?_) rfl (by kernel_rfl) (by kernel_rfl) (by kernel_rfl) (fun _ _ _ h => h) (Or.inl ⟨by rfl, ?_⟩) hHeld1 ?_
      rotate_left
      · (intro w hSw; (try dsimp only at hSw); go_simp <;> with_reducible rfl)
      try simp only [Act.put, List.setIfInBounds_toArray, List.set_cons_zero, List.set_cons_succ]
      refine wpAnyH_take (i := 8) (v := ?_) rfl (by kernel_rfl) (by kernel_rfl) (by kernel_rfl) (fun _ _ _ h => h) (Or.inl ⟨by rfl, ?_⟩) hHeld1 ?_
      rotate_left
      · (intro w hSw; (try dsimp only at hSw); go_simp <;> with_reducible rfl)
      try simp only [Act.put, List.setIfInBounds_toArray, List.set_cons_zero, List.set_cons_succ]
      refine wpAnyH_ready (rs := [9]) (by kernel_rfl) (by simp) ?_
      refine AllReadyH.cons rfl (fun K hK => ?_) ?_
      · go_simp
        refine hK.out _ _ ?_ (fun hHeld2 => ?_)
        · exact cell3_far hHeld1 g4 0 _ NE.out.1 NE.out.2.1
        clear hK K hHeld1
        try simp only [Act.put, List.setIfInBounds_toArray, List.set_cons_zero, List.set_cons_succ]
        refine wpAnyH_ready (rs := [10]) (by kernel_rfl) (by simp) ?_
        refine AllReadyH.cons rfl (fun K hK => ?_) ?_
        · have v5 := HV.out.1.2.2.1.far (p := ⟨g4, 0, none⟩) (Ne.symm NE.out.2.2.2.2.2.2.1) (.int .u8 (x.1.val : Int))
          have e50 := v5.cell 0
          have f50 := v5.frozen 0
          have l5 := v5.lt
          simp at e50
          have v5b := v5.set_ 0 (.int .i64 r.1)
          have e51 := v5b.cell 1
          have f51 := v5b.frozen 1
          have l5b := v5b.lt
          simp at e51
          clear v5 v5b
          go_simp
          refine hK.out _ _ ?_ (fun hHeld3 => ?_)
          · exact cell3_far (cell3_far hHeld2 g5 0 _ NE.out.2.2.1 NE.out.2.2.2.1) g5 1 _ NE.out.2.2.1 NE.out.2.2.2.1
          clear hK K hHeld2
          try simp only [Act.put, List.setIfInBounds_toArray, List.set_cons_zero, List.set_cons_succ]
          refine wpAnyH_ready (rs := [11]) (by kernel_rfl) (by simp) ?_
          refine AllReadyH.cons rfl (fun K hK => ?_) ?_
          · have v6 := ((HV.out.1.2.2.2.1.far (p := ⟨g4, 0, none⟩) (Ne.symm NE.out.2.2.2.2.2.2.2.1) (.int .u8 (x.1.val : Int))).far (p := ⟨g5, 0, none⟩) (Ne.symm NE.out.2.2.2.2.2.2.2.2) (.int .i64 r.1)).far (p := ⟨g5, 1, none⟩) (Ne.symm NE.out.2.2.2.2.2.2.2.2) (.int .u32 r.2)
            have e6 := v6.cell 0
            have f6 := v6.frozen 0
            have l6 := v6.lt
            simp at e6
            clear v6
            go_simp
            refine hK.out _ _ ?_ (fun hHeld4 => ?_)
            · exact cell3_far hHeld3 g6 0 _ NE.out.2.2.2.2.1 NE.out.2.2.2.2.2.1
            clear hK K hHeld3
            try simp only [Act.put, List.setIfInBounds_toArray, List.set_cons_zero, List.set_cons_succ]
            refine wpAnyH_done (by kernel_rfl) ?_ _
            have HV3 := HV.out
            refine (‹∀ (a : Act) (w : World), Code.wpIn (Fence.wide.inRound l) _ _ Code.ret _ a w → _› _ _ ?_)
            refine wpIn_ret ?_
            exact ⟨HV3.2.2.1.trans (nxFrom _ w3 g4 g5 g6 _ _ _ _), rfl, nxX_stores HV3.1 hge NE.out HRX.out⟩
          exact AllReadyH.nil
        exact AllReadyH.nil
      exact AllReadyH.nil
    exact AllReadyH.nil
  case done =>
    rintro D xs W hD hxs ⟨h1, hi2⟩ hk
    exact HQ.out.1 D W hD (hxs.symm.trans h1) hi2 hk
  case stop =>
    rintro D c pre W hD hsp ⟨rfl, hx⟩ hk
    have HF := Lib.hid (HQ.out.2 D pre W hD hsp hx hk)
    gi_wp2
    exact HF.out
end Go.Proofs.Ytmcpfhhggapkcaa
