/-
  Layer 8: Len.
-/
import Derived.Test.YtmcpfhhggapkcaaManyB
import Derived.Test.YtmcpfhhggapkcaaFewN
namespace Go.Proofs.Ytmcpfhhggapkcaa
open Go.RowKit Go.Shelf
set_option linter.unusedVariables false
set_option linter.unusedSimpArgs false
attribute [local go_sem] Oper.semAt_some

def LenI (w : World) (lo r : Nat) (n : Nat) (W : World) : Prop := Blk W r 3 #[.int .i64 (n : Int)] ∧ Below w.heap.size w W ∧ lo ≤ W.heap.size
theorem lenI_own {w wx W W' : World} {lo r : Nat} {s : Nat} {row : Option Nat} (hw : w.heap.size ≤ wx.heap.size) (hs : LenI w lo r s W) (hg : W.grownBy W' row) (hr : ∀ k, row = some k → wx.heap.size ≤ k ∧ ∃ o : Obj, W.heap[k]? = some o ∧ o.isCells = false) : LenI w lo r s W' :=
  ⟨hs.1.own_ hg (fun k e => (hr k e).2), ownFrom_below (β := Unit) (Nat.le_refl _) hw () W W' row hs.2.1 hg hr, Nat.le_trans hs.2.2 hg.size⟩
set_option maxHeartbeats 3200000 in
set_option maxRecDepth 100000 in
theorem len_loop (r g gr gu room Bf Bi : Nat) (f : Kids) {u0 u1 u3 u4 u5 u6 u7 u8 u9 u11 u12 u13 u14 : Value} (w wx : World) {Q : Exit → Act → World → Prop} (hf : Blk wx Bf 3 #[.int .i64 0]) (hi : Blk wx Bi 82 #[.func (.func 44) #[.pointer (some ⟨g, 0, none⟩)] #[]]) (hm : ManyAt wx g gr gu room f) (hne : r ≠ Bf ∧ r ≠ Bi ∧ r ≠ g ∧ r ≠ gr ∧ r ≠ gu) (hw : w.heap.size ≤ wx.heap.size) (hI : LenI w wx.heap.size r 0 wx) (hge : w.heap.size ≤ r)
    (hQ : ∀ (D : Nat) (W : World), wx.heap.size ≤ D → LenI w wx.heap.size r (cntK f) W → W.heap[D]? = some (.deferred (some [])) → Q .normal ⟨#[u0, u1, .pointer (some ⟨r, 0, none⟩), u3, u4, u5, u6, u7, u8, u9, .func (.func 59) #[] #[.pointer (some ⟨Bf, 0, none⟩), .pointer (some ⟨Bi, 0, none⟩)], u11, u12, u13, u14], [{ target := .collected D, args := #[] }]⟩ W) :
    Code.wp Try.prog (part Try.f22 [1, 1, 0, 1]) Q ⟨#[u0, u1, .pointer (some ⟨r, 0, none⟩), u3, u4, u5, u6, u7, u8, u9, .func (.func 59) #[] #[.pointer (some ⟨Bf, 0, none⟩), .pointer (some ⟨Bi, 0, none⟩)], u11, u12, u13, u14], []⟩ wx := by
  conv => arg 2; whnf
  have HQ := Lib.hid hQ
  clear hQ
  refine wp_block ?_
  refine (wpIn_wide (n := 10)).1 ?_
  refine wpIn_rangeFunc_ownH rfl (by decide) (gf := 59) (lb := #[.pointer (some ⟨Bf, 0, none⟩), .pointer (some ⟨Bi, 0, none⟩)]) rfl trivial (enters_of Try.func59 (by kernel_rfl) rfl)
    (bytes_stops Bf Bi g gr room 9 (fun k => k ≠ r) 0 f wx ⟨Ne.symm hne.1, Ne.symm hne.2.1, Ne.symm hne.2.2.1, Ne.symm hne.2.2.2.1⟩ (by decide) hf hi hm.read) (fun h k => h.trans k) (fun W l o o' hl h1 h2 h3 => KeepsC.book W l o o' h1 h2) (Below.refl _ _) (fun _ => rfl)
    (fun pre W => pre.length ≤ 256 ∧ LenI w wx.heap.size r pre.length W) (fun c pre W => False) (fun s W W' row hs hg hr => ⟨hs.1, lenI_own hw hs.2 hg hr⟩) (fun c s W W' row hs hg hr => hs) ⟨by simp, hI⟩
    (fun x a' W => a' = ⟨#[u0, u1, .pointer (some ⟨r, 0, none⟩), u3, u4, u5, u6, u7, u8, u9, .func (.func 59) #[] #[.pointer (some ⟨Bf, 0, none⟩), .pointer (some ⟨Bi, 0, none⟩)], .int .i64 (x.1.val : Int), u12, u13, u14], []⟩) (fun x a' s W W' row hs hg hr => hs) ?assign ?body ?done ?stop
  case assign =>
    rintro l pre x W K hi2 hK
    have hfin : K ⟨#[u0, u1, .pointer (some ⟨r, 0, none⟩), u3, u4, u5, u6, u7, u8, u9, .func (.func 59) #[] #[.pointer (some ⟨Bf, 0, none⟩), .pointer (some ⟨Bi, 0, none⟩)], .int .i64 (x.1.val : Int), u12, u13, u14], []⟩ W := hK _ _ (KeepsFrom.refl _ _) (KeepsC.refl _ _) hi2 rfl
    have HF := Lib.hid hfin
    clear hfin hK
    gi_wp2
    simpa using HF.out
  case body =>
    rintro l pre x a' W hl ⟨rec, hrec⟩ ⟨hp, hi2⟩ rfl hlen
    have e0 := hi2.1.cell 0
    have f0 := hi2.1.frozen 0
    have l0 := hi2.1.lt
    simp at e0
    have hs : (pre.length : Int) < 256 := by omega
    have hs0 : (0 : Int) ≤ (pre.length : Int) := by omega
    have hk1 : KeepsFrom wx.heap.size W (W.setCell ⟨r, 0, none⟩ (.int .i64 ((pre.length : Int) + 1))) := (KeepsOthers.setCell _ _ _).from _
    have hk2 : KeepsC (fun k => k ≠ r) W (W.setCell ⟨r, 0, none⟩ (.int .i64 ((pre.length : Int) + 1))) := KeepsC.setCell _ _ _ (by simp)
    have hk3 : LenI w wx.heap.size r (pre ++ [x]).length (W.setCell ⟨r, 0, none⟩ (.int .i64 ((pre.length : Int) + 1))) := by
      refine ⟨?_, hi2.2.1.setCell (p := ⟨r, 0, none⟩) hge _, by simpa [World.setCell] using hi2.2.2⟩
      have := hi2.1.set_ 0 (.int .i64 ((pre.length : Int) + 1))
      simpa using this
    have HN := Lib.hid (And.intro hk1 (And.intro hk2 (And.intro (show (pre ++ [x]).length ≤ 256 by simp; omega) hk3)))
    clear hk1 hk2 hk3 hi2
    gi_wp2
    exact HN.out
  case done =>
    rintro D xs W hD hxs ⟨h1, hi2⟩ hk
    have hl : xs.length = cntK f := by rw [hxs, show (max (0 : Int) 0).toNat = 0 from rfl]; exact bytesF_len f
    rw [hl] at hi2
    exact HQ.out D W hD hi2 hk
  case stop =>
    rintro D c pre W hD hsp hx hk
    exact hx.elim
set_option maxHeartbeats 3200000 in
set_option maxRecDepth 100000 in
theorem Len_m (g gr gu room : Nat) (f : Kids) (w : World) (h : ManyAt w g gr gu room f) : Calls Try.prog 22 #[.pointer (some ⟨g, 0, none⟩)] w (IntEnd (cntK f : Int) w) := by
  have hlt := h.lt
  have h1 := h.alloc (.cells #[.int .i64 0] 3)
  have hr := Blk.new w 3 #[.int .i64 0]
  have hb := below_box w (.cells #[.int .i64 0] 3)
  have HT := Lib.hid (there_m h1)
  have H1 := Lib.hid (And.intro h1 (And.intro hr hb))
  clear h h1 hr hb
  refine (callsIn_wide (n := 10)).1 (callsIn_of_wp_marks Try.func22 rfl trivial (wpIn_wide.2 ?_) rfl)
  simp only [Try.ntmps22, List.size_toArray, List.length_cons, List.length_nil, Nat.reduceAdd, Nat.reduceSub, Array.replicate_succ, Array.replicate_zero, List.push_toArray, List.append_toArray, List.nil_append, List.cons_append]
  refine wp_seq_k fun K0 hK => ?_
  have HK0 := Lib.hid hK
  clear hK
  go_wp2_with fail
  refine HK0.out _ _ ?_
  clear HK0
  refine wp_seq_k fun K1 hK => ?_
  have HK1 := Lib.hid hK
  clear hK
  go_wp2_with fail
  refine HT.out.mono ?_
  rintro e w1 ⟨rfl, rfl⟩
  go_wp2_with fail
  refine HK1.out _ _ ?_
  clear HK1 HT
  obtain ⟨W1, hW1⟩ : ∃ W1, W1 = w.alloc (.cells #[.int .i64 0] 3) := ⟨_, rfl⟩
  have hs1 : W1.heap.size = w.heap.size + 1 := by rw [hW1]; simp
  rw [← hW1] at H1 ⊢
  clear hW1
  have HS1 := Lib.hid hs1
  clear hs1
  refine wp_seq_k fun K2 hK => ?_
  have HK2 := Lib.hid hK
  clear hK
  refine wp_seq_k fun K3 hK => ?_
  have HK3 := Lib.hid hK
  clear hK
  go_wp2_with fail
  refine (bytes_any 0 (.func (.func 44) #[.pointer (some ⟨g, 0, none⟩)] #[]) ⟨_, _, _, rfl⟩ W1).mono ?_
  rintro e w2 ⟨rfl, rfl⟩
  go_wp2_with fail
  refine HK3.out _ _ ?_
  clear HK3
  have b1 := below_box W1 (.cells #[.int .i64 0] 3)
  have b2 := b1.alloc b1.size (.cells #[.func (.func 44) #[.pointer (some ⟨g, 0, none⟩)] #[]] 82)
  have k1 := (Blk.new W1 3 #[.int .i64 0]).alloc (.cells #[.func (.func 44) #[.pointer (some ⟨g, 0, none⟩)] #[]] 82)
  have k2 := Blk.new (W1.alloc (.cells #[.int .i64 0] 3)) 82 #[.func (.func 44) #[.pointer (some ⟨g, 0, none⟩)] #[]]
  rw [show (W1.alloc (.cells #[.int .i64 0] 3)).heap.size = W1.heap.size + 1 by simp] at k2
  have k3 := H1.out.1.below b2
  have k4 := H1.out.2.1.below b2 H1.out.2.1.lt
  have k5 := H1.out.2.2.trans (b2.mono H1.out.2.2.size)
  generalize (W1.alloc (.cells #[.int .i64 0] 3)).alloc (.cells #[.func (.func 44) #[.pointer (some ⟨g, 0, none⟩)] #[]] 82) = W2 at k1 k2 k3 k4 k5 ⊢
  have hs1 := HS1.out
  refine len_loop w.heap.size g gr gu room W1.heap.size (W1.heap.size + 1) f w W2 k1 k2 k3 ⟨by omega, by omega, by omega, by omega, by omega⟩ k5.size ⟨k4, k5, Nat.le_refl _⟩ (Nat.le_refl _) ?_
  intro D W hD hI hdef
  have hDw : w.heap.size ≤ D := Nat.le_trans k5.size hD
  have hDr : D ≠ w.heap.size := fun e => by
    have h1 := hI.1
    unfold Blk at h1
    rw [e, h1] at hdef
    cases hdef
  have hcnt := hI.1
  have HI := Lib.hid (And.intro hcnt (And.intro hI.2.1 hdef))
  clear b1 b2 k1 k2 k3 k4 k5 hI hdef hcnt hD hs1 H1 HS1
  try dsimp only
  refine HK2.out _ _ ?_
  clear HK2
  have e0 := HI.out.1.cell 0
  have f0 := HI.out.1.frozen 0
  have l0 := HI.out.1.lt
  simp at e0
  go_wp2_with fail
  have hK0 : (W.setCell ⟨w.heap.size, 0, none⟩ (.int .i64 (cntK f : Int))).heap[D]? = some (.deferred (some [])) := (Below.heap_setCell _ _ _ _ hDr).trans HI.out.2.2
  refine ⟨by simp, .inl ⟨_, _, rfl, run_takeDeferred hK0, ?_⟩⟩
  have hc4 : ((W.setCell ⟨w.heap.size, 0, none⟩ (.int .i64 (cntK f : Int))).putObj D (.deferred none)).cell? ⟨w.heap.size, 0, none⟩ = some (.int .i64 (cntK f : Int)) := (World.cell?_of_block (World.putObj_heap_other (k := w.heap.size) (by omega))).trans (World.cell?_setCell_same' _ _ _ (by rw [e0]; rfl))
  refine ⟨.int .i64 (cntK f : Int), by simp [results, Try.results22, go_sem, hc4], rfl, (HI.out.2.1.setCell (p := ⟨w.heap.size, 0, none⟩) (Nat.le_refl _) _).trans ⟨rfl, rfl, rfl, by simp [World.putObj], fun k hk => World.putObj_heap_other (by omega)⟩⟩
end Go.Proofs.Ytmcpfhhggapkcaa
