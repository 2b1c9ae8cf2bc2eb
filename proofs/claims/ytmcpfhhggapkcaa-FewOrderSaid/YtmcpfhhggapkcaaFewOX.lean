/-
  Layer 7: FewOrder.
-/
import Derived.Test.YtmcpfhhggapkcaaFewOB
import Derived.Test.YtmcpfhhggapkcaaFewOU
namespace Go.Proofs.Ytmcpfhhggapkcaa
open Go.RowKit Go.Shelf
set_option linter.unusedVariables false
set_option linter.unusedSimpArgs false

/-- What abides in the loops. -/
def OrdR (w : World) (ga : Nat) (fa : Kids) (W : World) : Prop := Blk W w.heap.size 4 #[.bool false] ∧ Below w.heap.size w W ∧ FewAt W ga 16 fa
theorem ordR_grown {w : World} {ga gb : Nat} {fa : Kids} (h1 : w.heap.size < gb) (h2 : ga ≠ gb) : ∀ W W', OrdR w ga fa W → W.grownBy W' (some gb) → OrdR w ga fa W' := by
  rintro W W' ⟨a1, a2, a3⟩ hg
  exact ⟨a1.grown hg (fun e => by injection e; omega), a2.grown hg a2.size (fun k e => by injection e; omega), a3.kept hg (fun e => by injection e; omega)⟩

set_option maxHeartbeats 3200000 in
set_option maxRecDepth 100000 in
theorem FewOrder_any (l more : List Nat) (A A2 : Option Addr) (cap cap2 : Nat) (turn from_ : Int) (w : World) (hA : Reads w w.heap.size 1 A l.length (l.flatMap nrow)) (hl : ∀ b ∈ l, b < 256) (hlen : l.length ≤ 9223372036854775807)
    (hA2 : Reads w w.heap.size 1 A2 more.length (more.flatMap nrow)) (hl2 : ∀ b ∈ more, b < 256) (hlen2 : more.length ≤ 9223372036854775807) (ht1 : -9223372036854775808 ≤ turn) (ht2 : turn ≤ 9223372036854775807) :
    Calls Try.prog 3 #[.slice A l.length cap, .int .i64 turn, .slice A2 more.length cap2, .int .i64 from_] w (BoolEnd true w) := by
  have HA := Lib.hid hA
  have HL := Lib.hid hl
  have HA2 := Lib.hid hA2
  have HL2 := Lib.hid hl2
  clear hA hl hA2 hl2
  refine (callsIn_wide (n := 10)).1 (callsIn_of_wp_marks Try.func3 rfl trivial (wpIn_wide.2 ?_) rfl)
  simp only [Try.ntmps3, List.size_toArray, List.length_cons, List.length_nil, Nat.reduceAdd, Nat.reduceSub, Array.replicate_succ, Array.replicate_zero, List.push_toArray, List.append_toArray, List.nil_append, List.cons_append]
  refine wp_seq_k fun K0 hK => ?_
  have HK0 := Lib.hid hK
  clear hK
  go_wp2_with fail
  refine HK0.out _ _ ?_
  refine wp_seq_k fun K1 hK => ?_
  have HK1 := Lib.hid hK
  clear hK HK0
  go_wp2_with fail
  refine (awake_any _).mono ?_
  rintro e w1 ⟨rfl, hb1⟩
  have hq4 := (Blk.new w 4 #[.bool false]).below hb1 (by simp)
  have hw1 : Below w.heap.size w w1 := (below_box w _).trans (hb1.mono (by simp))
  have HW1 := Lib.hid (And.intro hq4 hw1)
  clear hb1 hq4 hw1
  go_wp2_with fail
  refine HK1.out _ _ ?_
  clear HK1
  refine wp_seq_k fun K2 hK => ?_
  have HK2 := Lib.hid hK
  clear hK
  have e4 := HW1.out.1.cell 0
  have g40 := HW1.out.1.frozen 0
  have l4 := HW1.out.1.lt
  simp at e4
  by_cases h16 : 16 < (l.length : Int)
  · go_wp2_with fail
    refine ⟨.bool true, by simp [results, Try.results3, go_sem, *], rfl, HW1.out.2.setCell (Nat.le_refl _) _⟩
  · obtain ⟨sm, hsm⟩ : ∃ sm, IntKind.i64.wrap ((l.length : Int) + (more.length : Int)) = sm := ⟨_, rfl⟩
    by_cases h400 : 400 < sm
    · go_wp2_with fail
      refine ⟨.bool true, by simp [results, Try.results3, go_sem, *], rfl, HW1.out.2.setCell (Nat.le_refl _) _⟩
    · go_wp2_with fail
      refine HK2.out _ _ ?_
      clear HK2 e4 g40 l4 hsm h400
      refine wp_seq_k fun K3 hK => ?_
      have HK3 := Lib.hid hK
      clear hK
      have hl16 : l.length ≤ 16 := by omega
      have hR := row_any l A cap w1 ((HA.out.below HW1.out.2).more HW1.out.2.size) HL.out hlen
      have HR := Lib.hid hR
      clear hR
      go_wp2_with fail
      refine HR.out.mono ?_
      rintro e w2 ⟨ga, rfl, hf, hg, hb2⟩
      have hga0 : w.heap.size < ga := Nat.lt_of_lt_of_le HW1.out.1.lt hg
      have H2 : Hid (OrdR w ga (rowK l).1 w2) := Lib.hid ⟨HW1.out.1.below hb2 HW1.out.1.lt, HW1.out.2.trans (hb2.mono HW1.out.2.size), hf⟩
      have hga1 : ga < w2.heap.size := hf.lt
      clear hf hg hb2 HW1 HR
      obtain ⟨bad, hbad⟩ : ∃ bad, (rowK l).2 = bad := ⟨_, rfl⟩
      rw [hbad]
      have HBAD := Lib.hid hbad
      clear hbad
      go_wp2_with fail
      refine HK3.out _ _ ?_
      clear HK3
      refine wp_seq_k fun K4 hK => ?_
      have HK4 := Lib.hid hK
      clear hK
      have hR := row_any [] none 0 w2 Reads.none_ (by simp) (by simp)
      have HR := Lib.hid hR
      clear hR
      go_wp2_with fail
      refine HR.out.mono ?_
      rintro e w3 ⟨gb, rfl, hf, hg, hb3⟩
      have hgab : ga < gb := Nat.lt_of_lt_of_le hga1 hg
      have H3 : Hid (OrdR w ga (rowK l).1 w3 ∧ FewAt w3 gb 16 noKids) := Lib.hid ⟨⟨H2.out.1.below hb3 H2.out.1.lt, H2.out.2.1.trans (hb3.mono H2.out.2.1.size), H2.out.2.2.below hb3⟩, hf⟩
      clear hf hg hb3 H2 HR hga1
      rw [show (rowK []).2 = 0 from rfl]
      go_wp2_with fail
      refine HK4.out _ _ ?_
      clear HK4
      refine wp_seq_k fun K5 hK => ?_
      have HK5 := Lib.hid hK
      clear hK
      go_wp2_with fail
      refine HK5.out _ _ ?_
      clear HK5
      refine wp_seq_k fun K6 hK => ?_
      have HK6 := Lib.hid hK
      clear hK
      go_wp2_with fail
      refine HK6.out _ _ ?_
      clear HK6
      refine wp_seq_k fun K7 hK => ?_
      have HK7 := Lib.hid hK
      clear hK
      have hRk := ordR_grown (w := w) (ga := ga) (gb := gb) (fa := (rowK l).1) (by omega) (by omega)
      refine ordC_loop w3 gb w.heap.size A2 cap2 more HL2.out hlen2 H3.out.2 (OrdR w ga (rowK l).1) H3.out.1 hRk (fun W h => HA2.out.below h.2.1) ?_
      intros
      rename_i f hf hff hR
      dsimp only
      refine HK7.out _ _ ?_
      clear HK7
      refine wp_seq_k fun K8 hK => ?_
      have HK8 := Lib.hid hK
      clear hK
      refine ordD_loop _ gb w.heap.size A2 cap2 more HL2.out hlen2 f hf hff (OrdR w ga (rowK l).1) hR hRk (fun W h => HA2.out.below h.2.1) ?_
      clear hf hff hR f
      intros
      rename_i hf hR
      dsimp only
      refine HK8.out _ _ ?_
      clear HK8
      have H4 := Lib.hid (And.intro hf hR)
      clear hf hR
      refine wp_seq_k fun K9 hK => ?_
      have HK9 := Lib.hid hK
      clear hK
      go_wp2_with fail
      refine HK9.out _ _ ?_
      clear HK9
      refine wp_seq_k fun K10 hK => ?_
      have HK10 := Lib.hid hK
      clear hK
      refine ordE_loop _ gb w.heap.size A cap l HL.out hl16 turn ht1 ht2 H4.out.1 (OrdR w ga (rowK l).1) H4.out.2 hRk (fun W h => HA.out.below h.2.1) ?_
      clear H4 hRk
      rw [HBAD.out]
      intros
      rename_i W5 _ _ _ _ _ _ _ _ _ _ _ _ _ _ _ _ _ _ _ _ _ _ _ _ _ _ _ _ _ hf hR
      dsimp only
      refine HK10.out _ _ ?_
      clear HK10
      have hlaw := (rowK_val l hl16 HL.out).2
      rw [HBAD.out] at hlaw
      have hw5 : w.heap.size < W5.heap.size := hR.1.lt
      refine ordU W5 w.heap.size ga gb cap bad A l (rowK l).1 from_ hR.1 hR.2.2 hf hlaw hl16 (fun x hx => rowK_slot hl16 HL.out hx) ?_
      intros
      rename_i D1 D2 W' hgr h8 hD1 hD2 hd1 hd2
      refine ⟨by simp, .inl ⟨_, _, rfl, run_takeDeferred hd2, ?_⟩⟩
      have hd1' : (W'.putObj D2 (.deferred none)).heap[D1]? = some (.deferred (some [])) := (World.putObj_heap_other (by omega)).trans hd1
      refine ⟨by simp, .inl ⟨_, _, rfl, run_takeDeferred hd1', ?_⟩⟩
      dsimp only
      have hc4 : ((W'.putObj D2 (.deferred none)).putObj D1 (.deferred none)).cell? ⟨w.heap.size, 0, none⟩ = some (.bool true) := by
        refine (World.cell?_of_block (World.putObj_heap_other (k := w.heap.size) (by omega))).trans ((World.cell?_of_block (World.putObj_heap_other (k := w.heap.size) (by omega))).trans ?_)
        simpa using h8.cell 0
      have hbw : Below w.heap.size w W' := hR.2.1.grown hgr hR.2.1.size (fun k e => by injection e with e; omega)
      refine ⟨.bool true, by simp [results, Try.results3, go_sem, hc4], rfl, hbw.trans ⟨rfl, rfl, rfl, by simp [World.putObj], fun k hk => (World.putObj_heap_other (by omega)).trans (World.putObj_heap_other (by omega))⟩⟩
end Go.Proofs.Ytmcpfhhggapkcaa
