/-
  Layer 23: Collect and Can.
-/
import Derived.Test.YtagcbihjejjmnaaWvC2
namespace Go.Proofs.Ytagcbihjejjmnaa
open Go.RowKit Go.Shelf
set_option linter.unusedVariables false
set_option linter.unusedSimpArgs false
attribute [local go_sem] Oper.semAt_some

/-- A new list of numbers. -/
def NewInts (l : List Nat) (w : World) (e : Ending) (w' : World) : Prop := ∃ A c, e = .returned (.slice A l.length c) ∧ w'.ownsRow w.heap.size 3 1 (.slice A l.length c) l.length (l.map numV) ∧ Below w.heap.size w w'
set_option maxHeartbeats 1600000 in
theorem app_tail (l : List Nat) (w : World) (gx D : Nat) (v : Value) {u0 u1 u3 u4 u5 u6 u7 u8 u9 u10 u11 u12 : Value} (W : World) (hD : w.heap.size ≤ D) (hx : Blk W gx 22 #[v]) (hr : W.ownsRow w.heap.size 3 1 v l.length (l.map numV)) (hb : Below w.heap.size w W) (hd : W.heap[D]? = some (.deferred (some []))) :
    Code.wp Try.prog (part Try.f28 [1, 1]) (bodyPostM Fence.wide 10 Try.prog Try.f28 (NewInts l w)) ⟨#[u0, u1, .pointer (some ⟨gx, 0, none⟩), u3, u4, u5, u6, u7, u8, u9, u10, u11, u12], [{ target := .collected D, args := #[] }]⟩ W := by
  conv => arg 2; whnf
  obtain ⟨A, c, rfl, hA0, hnc, hcm⟩ := own_form hr
  have e0 := hx.cell 0
  simp at e0
  have HS := Lib.hid (And.intro hr (And.intro hb hd))
  clear hr hb hd hx
  go_wp2
  obtain ⟨hr, hb, hd⟩ := HS.out
  have hown : ∀ r, (some D : Option Nat) = some r → ∃ o : Obj, W.heap[r]? = some o ∧ o.isCells = false := fun r e => by injection e with e; subst e; exact ⟨_, hd, rfl⟩
  have t4 := ownsRow_ownC hr (grownBy_putObj' W D (.deferred none)) hown
  refine ⟨by simp, .inl ⟨_, _, rfl, run_takeDeferred hd, ?_⟩⟩
  refine ⟨.slice A l.length c, by simp [results, Try.results28, go_sem], A, c, rfl, t4, ?_⟩
  exact hb.trans ⟨rfl, rfl, rfl, by simp [World.putObj], fun k hk => World.putObj_heap_other (by omega)⟩
set_option maxHeartbeats 3200000 in
set_option maxRecDepth 100000 in
theorem AppendSeq_c {w : World} {Bs B p gl S : Nat} {J : List Jb} {r : Nat → Value} (hI : CanI w Bs p gl S J r) (hlt : Bs < B ∧ p < B ∧ gl < B) (hS : S ≤ 64) (hB : B ≤ w.heap.size) :
    Calls Try.prog 28 #[.slice none 0 0, .func (.func 29) #[] #[.pointer (some ⟨Bs, 0, none⟩)]] w (NewInts (canJ S J) w) := by
  have hb := below_box w (.cells #[.slice none 0 0] 22)
  have hI2 := hI.keep (KpB.of_below hb hB) hlt
  have HX := Lib.hid (And.intro hb (And.intro (Blk.new w 22 #[.slice none 0 0]) hI2))
  clear hb hI hI2
  refine (callsIn_wide (n := 10)).1 (callsIn_of_wp_marks Try.func28 rfl trivial (wpIn_wide.2 ?_) rfl)
  simp only [Try.ntmps28, List.size_toArray, List.length_cons, List.length_nil, Nat.reduceAdd, Nat.reduceSub, Array.replicate_succ, Array.replicate_zero, List.push_toArray, List.append_toArray, List.nil_append, List.cons_append]
  refine wp_seq_k fun K0 hK => ?_
  have HK0 := Lib.hid hK
  clear hK
  go_wp2_with fail
  refine HK0.out _ _ ?_
  clear HK0
  refine wp_seq_k fun K0 hK => ?_
  have HK0 := Lib.hid hK
  clear hK
  refine wp_seq_k fun K1 hK => ?_
  have HK1 := Lib.hid hK
  clear hK
  go_wp2_with fail
  refine HK1.out _ _ ?_
  clear HK1
  generalize w.alloc (.cells #[.slice none 0 0] 22) = wx at HX ⊢
  refine col_loop w.heap.size Bs B p gl S J r w wx HX.out.2.2 hlt hS hB HX.out.1 HX.out.2.1 (Nat.le_refl _) ?_
  intro D v W hD z1 z2 z3 z4
  refine HK0.out _ _ ?_
  clear HK0
  exact app_tail (canJ S J) w w.heap.size D v W (by have := HX.out.1.size; omega) z1 z2 z3 z4
theorem Collect_c {w : World} {Bs B p gl S : Nat} {J : List Jb} {r : Nat → Value} (hI : CanI w Bs p gl S J r) (hlt : Bs < B ∧ p < B ∧ gl < B) (hS : S ≤ 64) (hB : B ≤ w.heap.size) :
    Calls Try.prog 19 #[.func (.func 29) #[] #[.pointer (some ⟨Bs, 0, none⟩)]] w (NewInts (canJ S J) w) := by
  have HA := Lib.hid (AppendSeq_c hI hlt hS hB)
  clear hI hlt hB
  go_enter Try.func19, Try.ntmps19
  go_wp2_with fail
  refine HA.out.mono ?_
  rintro e w1 ⟨A, c, rfl, h1, h2⟩
  have H1 := Lib.hid (And.intro h1 h2)
  clear h1 h2
  go_wp2_with fail
  go_ret
  exact ⟨A, c, rfl, H1.out.1, H1.out.2⟩
theorem own_base2 {w : World} {base base' size n : Nat} {e : TypeId} {v : Value} {xs : List Value} (h : w.ownsRow base e size v n xs) (hb : base' ≤ base) : w.ownsRow base' e size v n xs := by
  refine ⟨h.1, h.2.imp id ?_⟩
  rintro ⟨g, cap, cs, h1, h2, h3⟩
  exact ⟨g, cap, cs, h1, Nat.le_trans hb h2, h3⟩
theorem Can_w {W : World} {B p gl S : Nat} {J : List Jb} {k : Int} {vj : Value} {b : Nat → Nat} {r : Nat → Value} (h : WvAt W B p gl S J k vj b r) :
    Calls Try.prog 10 #[.pointer (some ⟨p, 0, none⟩)] W (NewInts (canJ S J) W) := by
  have hm := made_w h
  have hb := below_box W (.cells #[.pointer (some ⟨p, 0, none⟩)] 75)
  have hx : (W.alloc (.cells #[.pointer (some ⟨p, 0, none⟩)] 75)).cell? ⟨W.heap.size, 0, none⟩ = some (.pointer (some ⟨p, 0, none⟩)) := (Blk.new W _ _).cell 0
  have hI := (h.below hb).canI hx
  have hp := h.pb.lt
  have hg := h.l.lt
  have HC := Lib.hid (Collect_c (B := W.heap.size + 1) hI ⟨Nat.lt_succ_self _, by omega, by omega⟩ h.S1.2 (by simp))
  have HM := Lib.hid (And.intro hm hb)
  clear h hm hb hx hI hp hg
  go_enter Try.func10, Try.ntmps10
  go_wp2_with fail
  refine HM.out.1.mono ?_
  rintro e w1 ⟨rfl, rfl⟩
  go_wp2_with fail
  refine (can_any _ _).mono ?_
  rintro e w1 ⟨rfl, rfl⟩
  go_wp2_with fail
  refine HC.out.mono ?_
  rintro e w1 ⟨A, c, rfl, h1, h2⟩
  have H1 := Lib.hid (And.intro h1 h2)
  clear h1 h2
  go_wp2_with fail
  go_ret
  exact ⟨A, c, rfl, own_base2 H1.out.1 HM.out.2.size, below_trans HM.out.2 H1.out.2⟩
end Go.Proofs.Ytagcbihjejjmnaa
