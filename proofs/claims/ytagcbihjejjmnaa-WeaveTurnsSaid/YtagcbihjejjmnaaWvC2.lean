/-
  Layer 23: AppendSeq, Collect, Can.
-/
import Derived.Test.YtagcbihjejjmnaaWvC1
namespace Go.Proofs.Ytagcbihjejjmnaa
open Go.RowKit Go.Shelf
set_option linter.unusedVariables false
set_option linter.unusedSimpArgs false
attribute [local go_sem] Oper.semAt_some

theorem infoIntC : (Try.prog.info? 3).map (fun i => (i.zero, i.size, i.bytes)) = some (some (.int .i64 0), 1, 8) := by kernel_rfl
theorem ownsRow_ownC {W W' : World} {base : Nat} {e : TypeId} {size n : Nat} {v : Value} {xs : List Value} {row : Option Nat} (h : W.ownsRow base e size v n xs) (hg : W.grownBy W' row) (hr : ∀ r, row = some r → ∃ o : Obj, W.heap[r]? = some o ∧ o.isCells = false) : W'.ownsRow base e size v n xs := by
  refine h.kept hg ?_
  rcases h.2 with ⟨rfl, _⟩ | ⟨g, cap, cur, rfl, _, hgb, _⟩
  · exact .inl rfl
  · refine .inr fun e' => ?_
    obtain ⟨o, ho, hc⟩ := hr g (by simpa [Value.ownBlock] using e'.symm)
    rw [hgb] at ho; cases ho; cases hc
theorem blk_ownC {W W' : World} {row : Option Nat} {g : Nat} {t : TypeId} {cs : Array Value} (h : Blk W g t cs) (hg : W.grownBy W' row) (hr : ∀ r, row = some r → ∃ o : Obj, W.heap[r]? = some o ∧ o.isCells = false) : Blk W' g t cs :=
  (grownBy_keeps_cells hg hr h rfl).trans h
/-- What holds between two rounds: the list, boxed in block gx, and what lay before w. -/
def ColI (w : World) (gx : Nat) (pre : List Nat) (W : World) : Prop :=
  (∃ v, Blk W gx 22 #[v] ∧ W.ownsRow w.heap.size 3 1 v pre.length (pre.map numV)) ∧ Below w.heap.size w W ∧ gx < W.heap.size
theorem colI_own {w : World} {gx B : Nat} (hB : w.heap.size ≤ B) : OwnFrom B (ColI w gx) := by
  intro s W W' row hs hg hr
  obtain ⟨⟨v, h1, h2⟩, h3, h4⟩ := hs
  have hr' := fun r e => (hr r e).2
  refine ⟨⟨v, blk_ownC h1 hg hr', ownsRow_ownC h2 hg hr'⟩, ⟨hg.os.trans h3.os, hg.tape.trans h3.tape, hg.output.trans h3.output, Nat.le_trans h3.size hg.size, fun i hi => ?_⟩, Nat.lt_of_lt_of_le h4 hg.size⟩
  have hi' : i < W.heap.size := Nat.lt_of_lt_of_le hi h3.size
  refine (hg.block i hi' (fun e => ?_)).trans (h3.block i hi)
  have := (hr i e.symm).1
  omega
/-- Behind the append and the store. -/
theorem col_app {w W w1 : World} {gx B : Nat} {v v' : Value} {n : Nat} {xs ys : List Value} {tmp : Obj} (hv : Blk W gx 22 #[v]) (hrow : W.ownsRow w.heap.size 3 1 v n xs) (hbel : Below w.heap.size w W) (hgx : w.heap.size ≤ gx) (hB : B ≤ w.heap.size)
    (hown' : w1.ownsRow w.heap.size 3 1 v' (n + 1) ys) (hgrow : (W.alloc tmp).grownBy w1 v.ownBlock) :
    Blk w1 gx 22 #[v] ∧ Blk (w1.setCell ⟨gx, 0, none⟩ v') gx 22 #[v'] ∧ (w1.setCell ⟨gx, 0, none⟩ v').ownsRow w.heap.size 3 1 v' (n + 1) ys ∧ KeepsFrom B W (w1.setCell ⟨gx, 0, none⟩ v') ∧ KpB B W (w1.setCell ⟨gx, 0, none⟩ v') ∧ Below w.heap.size w (w1.setCell ⟨gx, 0, none⟩ v') ∧ gx < (w1.setCell ⟨gx, 0, none⟩ v').heap.size := by
  have hlt := hrow.lt
  have hown : ∀ g, v.ownBlock = some g → ∃ cs, Blk (W.alloc tmp) g 3 cs := by
    intro g hg
    rcases (hrow.alloc tmp).2 with ⟨rfl, _⟩ | ⟨g', cap, cur, rfl, _, hgb, _⟩
    · simp [Value.ownBlock] at hg
    · obtain rfl : g' = g := by simpa [Value.ownBlock] using hg
      exact ⟨cur, hgb⟩
  have hne : ∀ g cs, Blk (W.alloc tmp) g 3 cs → g ≠ gx := fun g cs h e => by
    subst e
    have h2 := hv.alloc tmp
    unfold Blk at h h2
    rw [h] at h2
    injection h2 with h2
    injection h2 with h3 h4
    exact absurd h4 (by decide)
  have hn : some gx ≠ v.ownBlock := fun e => by
    obtain ⟨cs, hcs⟩ := hown gx e.symm
    exact hne gx cs hcs rfl
  have hv1 : Blk w1 gx 22 #[v] := (hv.alloc tmp).grown hgrow hn
  have hbW : Below w.heap.size w (W.alloc tmp) := hbel.alloc hbel.size tmp
  have hbw1 : Below w.heap.size w w1 := hbW.grown hgrow hbW.size (fun k hk => (hlt k hk).1)
  have hs1 : W.heap.size + 1 ≤ w1.heap.size := by have := hgrow.size; simpa using this
  refine ⟨hv1, by simpa using hv1.set_ 0 v', own_same2 hown' (fun g hg => Below.heap_setCell _ _ _ g (fun e => ?_)), ?_, ?_, hbw1.setCell (p := ⟨gx, 0, none⟩) hgx v', ?_⟩
  · rcases hown'.2 with ⟨rfl, _⟩ | ⟨g', cap, cur, rfl, _, hgb, _⟩
    · cases hg
    · obtain rfl : g' = g := by simpa [Value.ownBlock] using hg
      have e' : g' = gx := e
      subst e'
      unfold Blk at hv1
      rw [hgb] at hv1
      injection hv1 with h2
      injection h2 with h3 h4
      exact absurd h4 (by decide)
  · refine (((KeepsOthers.alloc W tmp).trans (KeepsOthers.of_grownBy hgrow fun j o ej hj => ?_)).trans (KeepsOthers.setCell _ _ _)).from _
    obtain ⟨cs, hcs⟩ := hown j ej
    unfold Blk at hcs
    rw [hcs] at hj
    cases hj; rfl
  · refine ⟨by simp [World.setCell]; omega, fun i hi => ?_⟩
    have hiW : i < W.heap.size := Nat.lt_of_lt_of_le hi (Nat.le_trans hB hbel.size)
    refine (Below.heap_setCell _ _ _ i (fun e => by have e' : i = gx := e; omega)).trans ((hgrow.block i (by simp; omega) (fun e => ?_)).trans (Below.heap_alloc _ _ i hiW))
    have := (hlt i e.symm).1
    omega
  · have := hv1.lt
    simpa [World.setCell] using this
set_option maxHeartbeats 6400000 in
set_option maxRecDepth 100000 in
theorem col_loop (gx Bs B p gl S : Nat) (J : List Jb) (r : Nat → Value) {u3 u5 u7 u8 u9 u10 u11 u12 : Value} (w wx : World) {ds : List Deferred} {Q : Exit → Act → World → Prop} (hI : CanI wx Bs p gl S J r) (hlt : Bs < B ∧ p < B ∧ gl < B) (hS : S ≤ 64) (hB : B ≤ w.heap.size)
    (hbel : Below w.heap.size w wx) (hx : Blk wx gx 22 #[.slice none 0 0]) (hgx : w.heap.size ≤ gx)
    (hQ : ∀ (D : Nat) (v : Value) (W : World), wx.heap.size ≤ D → Blk W gx 22 #[v] → W.ownsRow w.heap.size 3 1 v (canJ S J).length ((canJ S J).map numV) → Below w.heap.size w W → W.heap[D]? = some (.deferred (some [])) → Q .normal ⟨#[.slice none 0 0, .func (.func 29) #[] #[.pointer (some ⟨Bs, 0, none⟩)], .pointer (some ⟨gx, 0, none⟩), u3, .slice none 0 0, u5, .func (.func 29) #[] #[.pointer (some ⟨Bs, 0, none⟩)], u7, u8, u9, u10, u11, u12], { target := .collected D, args := #[] } :: ds⟩ W) :
    Code.wp Try.prog (part Try.f28 [1, 0, 1]) Q ⟨#[.slice none 0 0, .func (.func 29) #[] #[.pointer (some ⟨Bs, 0, none⟩)], .pointer (some ⟨gx, 0, none⟩), u3, .slice none 0 0, u5, .func (.func 29) #[] #[.pointer (some ⟨Bs, 0, none⟩)], u7, u8, u9, u10, u11, u12], ds⟩ wx := by
  conv => arg 2; whnf
  obtain ⟨i0, hi, hz0, hz1, hz2⟩ := info_parts infoIntC
  have HQ := Lib.hid hQ
  clear hQ
  have hsw := hbel.size
  refine wp_block ?_
  refine (wpIn_wide (n := 10)).1 ?_
  refine wpIn_rangeFunc_ownH rfl (by decide) (gf := 29) (lb := #[.pointer (some ⟨Bs, 0, none⟩)]) rfl trivial (enters_of Try.func29 (by kernel_rfl) rfl)
    (can_stops Bs 9 B p gl S J r wx (by omega) (by decide) hI hlt hS) (fun h k => h.trans k) (fun W l o o' hl h1 h2 h3 => KpB.put W l o' (by omega)) (Below.refl _ _) (fun _ => rfl)
    (ColI w gx) (fun _ pre W => False) (colI_own hsw) (fun c s W W' row hs hg hr => hs) ⟨⟨_, hx, World.ownsRow_nil _ _ _ _⟩, hbel, hx.lt⟩
    (fun x a' W => a' = ⟨#[.slice none 0 0, .func (.func 29) #[] #[.pointer (some ⟨Bs, 0, none⟩)], .pointer (some ⟨gx, 0, none⟩), u3, .slice none 0 0, .int .i64 (x : Nat), .func (.func 29) #[] #[.pointer (some ⟨Bs, 0, none⟩)], .int .i64 (x : Nat), u8, u9, u10, u11, u12], []⟩) (fun x a' s W W' row hs hg hr => hs) ?assign ?body ?done ?stop
  case assign =>
    rintro l pre x W K hi hK
    have hfin : K ⟨#[.slice none 0 0, .func (.func 29) #[] #[.pointer (some ⟨Bs, 0, none⟩)], .pointer (some ⟨gx, 0, none⟩), u3, .slice none 0 0, .int .i64 (x : Nat), .func (.func 29) #[] #[.pointer (some ⟨Bs, 0, none⟩)], .int .i64 (x : Nat), u8, u9, u10, u11, u12], []⟩ W := hK _ _ (KeepsFrom.refl _ _) (KpB.refl _ _) hi rfl
    have HF := Lib.hid hfin
    clear hfin hK
    gi_wp2
    exact HF.out
  case body =>
    rintro l pre x a' W hl ⟨rec, hrec⟩ ⟨⟨v, hv, hrow⟩, hbW, hgW⟩ rfl hlen
    have ex := hv.cell 0
    have fx := hv.frozen 0
    simp at ex
    have HO := Lib.hid (And.intro hv (And.intro hrow (And.intro hbW hgW)))
    have n1 : 1 ≤ 8 := by decide
    obtain ⟨A, c, rfl, hA0, hnc, hcm⟩ := own_form hrow
    clear hv hrow hbW
    gi_wp2_with (gi_at_builtin; refine wpListIn_append_own _ rfl _ _ 22 rfl w.heap.size 3 i0 (.int .i64 0) 1 8 Try.underlying22 hi hz0 hz1 hz2 rfl (by decide) _ _ _ rfl (HO.out.2.1.alloc _) ⟨W.heap.size, 0, none⟩ 1 1 [.int .i64 (x : Nat)] rfl rfl (cell_one_new _ _ _) (by simp [Value.oneCell']) (by unfold maxLen; omega) (by omega) (by have := HO.out.2.2.1.size; simp; omega) ?_; intro v' w1 hown' hgrow _; obtain ⟨g', cap', rfl⟩ := ownsRow_succ hown'; obtain ⟨hv1, hv2, hr2, hk2, hb2, hR2, hs2⟩ := col_app (B := B) HO.out.1 HO.out.2.1 HO.out.2.2.1 hgx hB hown' hgrow; have hk2' := (show KeepsFrom wx.heap.size W _ from ⟨hk2.size, fun i o hi => hk2.same i o (by omega)⟩); have HN := Lib.hid (And.intro hv2 (And.intro hr2 (And.intro hk2' (And.intro hb2 (And.intro hR2 hs2))))); have hc1 := hv1.cell 0; have hf1 := hv1.frozen 0; have hl1 := hv1.lt; simp at hc1; clear hv1 hv2 hr2 hk2 hb2 hR2 hs2 hown' hgrow hk2')
    exact ⟨HN.out.2.2.1, HN.out.2.2.2.1, ⟨_, HN.out.1, by rw [List.map_append]; simpa [numV] using HN.out.2.1⟩, HN.out.2.2.2.2.1, HN.out.2.2.2.2.2⟩
  case done =>
    rintro D xs W hD rfl ⟨⟨v, h1, h2⟩, h3, h4⟩ hk
    exact HQ.out D v W hD h1 h2 h3 hk
  case stop =>
    rintro D c pre W hD hsp hx hk
    exact absurd hx id
end Go.Proofs.Ytagcbihjejjmnaa
