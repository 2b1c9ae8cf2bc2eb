/-
  Layer 7: 'does', whole.
-/
import Derived.Test.YtmcpfhhggapkcaaFewD3
namespace Go.Proofs.Ytmcpfhhggapkcaa
open Go.RowKit Go.Shelf
set_option linter.unusedVariables false
set_option linter.unusedSimpArgs false

set_option maxHeartbeats 6400000 in
set_option maxRecDepth 100000 in
theorem does_any (gk gr : Nat) (room : Int) (f : Kids) (what from_ : Int) (b : Nat) (r : Int × Int) (w : World) (hf : FewAt w gk room f) (hr : RefAt w gr room f) (hb : b < 256) (hw1 : -9223372036854775808 ≤ what) (hw2 : what ≤ 9223372036854775807) :
    Calls Try.prog 26 #[.pointer (some ⟨gk, 0, none⟩), .pointer (some ⟨gr, 0, none⟩), .agg #[.int .i64 what, .int .u8 (b : Int), .int .i64 from_, .int .i64 r.1, .int .u32 r.2]] w (DoesEnd gk gr room w) := by
  have hgk := hf.lt
  have H0 : Hid (DoI w gk gr w.heap.size (w.heap.size + 1) room f #[.int .i64 what, .int .u8 (b : Int), .int .i64 from_, .int .i64 r.1, .int .u32 r.2] ((w.alloc (.cells #[.pointer (some ⟨gk, 0, none⟩)] 24)).alloc (.cells #[.int .i64 what, .int .u8 (b : Int), .int .i64 from_, .int .i64 r.1, .int .u32 r.2] 57))) := Lib.hid (by
    have hb1 := below_box w (.cells #[.pointer (some ⟨gk, 0, none⟩)] 24)
    have hb2 := below_box (w.alloc (.cells #[.pointer (some ⟨gk, 0, none⟩)] 24)) (.cells #[.int .i64 what, .int .u8 (b : Int), .int .i64 from_, .int .i64 r.1, .int .u32 r.2] 57)
    exact ⟨(Blk.new w _ _).alloc _, by simpa using Blk.new (w.alloc (.cells #[.pointer (some ⟨gk, 0, none⟩)] 24)) 57 #[.int .i64 what, .int .u8 (b : Int), .int .i64 from_, .int .i64 r.1, .int .u32 r.2], (hf.below hb1).below hb2, (hr.below hb1).below hb2, (Two.below hb1).more hb2⟩)
  clear hf hr
  refine (callsIn_wide (n := 10)).1 (callsIn_of_wp_marks Try.func26 rfl trivial (wpIn_wide.2 ?_) rfl)
  simp only [Try.ntmps26, List.size_toArray, List.length_cons, List.length_nil, Nat.reduceAdd, Nat.reduceSub, Array.replicate_succ, Array.replicate_zero, List.push_toArray, List.append_toArray, List.nil_append, List.cons_append]
  refine wp_seq_k fun K0 hK => ?_
  have HK0 := Lib.hid hK
  clear hK
  go_wp2_with fail
  refine HK0.out _ _ ?_
  clear HK0
  generalize (w.alloc (.cells #[.pointer (some ⟨gk, 0, none⟩)] 24)).alloc (.cells #[.int .i64 what, .int .u8 (b : Int), .int .i64 from_, .int .i64 r.1, .int .u32 r.2] 57) = W1 at H0 ⊢
  obtain ⟨g3, hg3⟩ : ∃ g, g = w.heap.size := ⟨_, rfl⟩
  obtain ⟨g5, hg5⟩ : ∃ g, g = w.heap.size + 1 := ⟨_, rfl⟩
  rw [← hg5] at H0 ⊢
  rw [← hg3] at H0 ⊢
  have HG := Lib.hid (And.intro hg3 hg5)
  clear hg3 hg5
  refine wp_seq_k fun K1 hK => ?_
  have HK1 := Lib.hid hK
  clear hK
  have e3 := H0.out.1.cell 0
  have d0 := H0.out.2.1.cell 0
  have d1 := H0.out.2.1.cell 1
  have d2 := H0.out.2.1.cell 2
  have d3 := H0.out.2.1.cell 3
  have d4 := H0.out.2.1.cell 4
  simp at e3 d0 d1 d2 d3 d4
  have hF := Find_k gk room f b W1 H0.out.2.2.1 hb
  have hRF := fun V h => rfind gr room f b V h hb
  unfold optV at hF hRF
  obtain ⟨q, hq⟩ : ∃ q, (f b).getD (0, 0) = q := ⟨_, rfl⟩
  obtain ⟨is, his⟩ : ∃ is, (f b).isSome = is := ⟨_, rfl⟩
  rw [hq, his] at hF
  rw [hq, his] at hRF
  have HF := Lib.hid hF
  have HRF := Lib.hid hRF
  clear hF hRF hq his
  have i0 : (0 : Int) ≤ (b : Int) := by omega
  have i1 : (b : Int) ≤ 255 := by omega
  go_wp2_with fail
  refine HF.out.mono ?_
  rintro e W2 ⟨rfl, hb2⟩
  have H2 := Lib.hid (H0.out.below hb2)
  clear HF H0 hb2 e3 d0 d1 d2 d3 d4
  go_wp2_with fail
  refine HK1.out _ _ ?_
  clear HK1
  have H3 := Lib.hid (H2.out.alloc (.cells #[.int .i64 q.1, .int .u32 q.2] 31))
  have hq1 := Blk.new W2 31 #[.int .i64 q.1, .int .u32 q.2]
  generalize W2.alloc (.cells #[.int .i64 q.1, .int .u32 q.2] 31) = W3 at H3 hq1 ⊢
  generalize W2.heap.size = g8 at hq1 ⊢
  have HQ1 := Lib.hid hq1
  clear H2 hq1
  refine wp_seq_k fun K2 hK => ?_
  have HK2 := Lib.hid hK
  clear hK
  have e3 := H3.out.1.cell 0
  have d0 := H3.out.2.1.cell 0
  have d1 := H3.out.2.1.cell 1
  have d2 := H3.out.2.1.cell 2
  have d3 := H3.out.2.1.cell 3
  have d4 := H3.out.2.1.cell 4
  simp at e3 d0 d1 d2 d3 d4
  go_wp2_with fail
  refine (HRF.out _ H3.out.2.2.2.1).mono ?_
  rintro e W4 ⟨rfl, hb4⟩
  have H4 := Lib.hid (H3.out.below hb4)
  have hq1 := HQ1.out.below hb4 HQ1.out.lt
  clear HRF H3 hb4 HQ1 e3 d0 d1 d2 d3 d4
  go_wp2_with fail
  refine HK2.out _ _ ?_
  clear HK2
  have H5 := Lib.hid (H4.out.alloc (.cells #[.int .i64 q.1, .int .u32 q.2] 31))
  have hq2 := Blk.new W4 31 #[.int .i64 q.1, .int .u32 q.2]
  have hq1 := hq1.alloc (.cells #[.int .i64 q.1, .int .u32 q.2] 31)
  generalize W4.alloc (.cells #[.int .i64 q.1, .int .u32 q.2] 31) = W5 at H5 hq1 hq2 ⊢
  generalize W4.heap.size = g10 at hq2 ⊢
  clear H4
  refine wp_seq_k fun K3 hK => ?_
  have HK3 := Lib.hid hK
  clear hK
  have z0 := hq1.cell 0
  have z1 := hq1.cell 1
  have z2 := hq2.cell 0
  have z3 := hq2.cell 1
  simp at z0 z1 z2 z3
  have gr0 := guardRef
  have nr : ∀ V : World, (binOp .neq 31 (.agg #[.int .i64 q.1, .int .u32 q.2]) (.agg #[.int .i64 q.1, .int .u32 q.2])).run Try.prog V = .ok (.bool false) V := fun V => (neqRef q q V).trans (by simp)
  have hbb : (is != is) = false := by simp
  clear hq1 hq2
  go_wp2_with fail
  refine HK3.out _ _ ?_
  clear HK3 z0 z1 z2 z3 nr hbb
  refine wp_seq_k fun K4 hK => ?_
  have HK4 := Lib.hid hK
  clear hK
  refine wp_seq_k fun K5 hK => ?_
  have HK5 := Lib.hid hK
  clear hK
  have e3 := H5.out.1.cell 0
  have d0 := H5.out.2.1.cell 0
  have d1 := H5.out.2.1.cell 1
  have d2 := H5.out.2.1.cell 2
  have d3 := H5.out.2.1.cell 3
  have d4 := H5.out.2.1.cell 4
  simp at e3 d0 d1 d2 d3 d4
  obtain ⟨p, hp⟩ : ∃ p, pickM what 6 = p := ⟨_, rfl⟩
  have hpi := pick_in (n := what) (len := 6) (by omega)
  have hPK := pick_any what 6 W5 hw1 hw2 (by omega) (by omega)
  rw [hp] at hPK hpi
  have HPK := Lib.hid hPK
  clear hPK hp
  go_wp2_with fail
  refine HPK.out.mono ?_
  rintro e W6 ⟨rfl, rfl⟩
  clear HPK
  go_wp2_with fail
  refine HK5.out _ _ ?_
  clear HK5
  rcases (show p = 0 ∨ p = 1 ∨ p = 2 ∨ p = 3 ∨ p = 4 ∨ p = 5 by omega) with rfl | rfl | rfl | rfl | rfl | rfl
  · have hH6 := H5.out.drew
    have hP := Put_k gk room f b r W6.drew hH6.2.2.1 hb
    have hRP := fun V h => rput gr room f b r V h hb
    obtain ⟨p1, hp1⟩ : ∃ p1, (putK room f b r).1 = p1 := ⟨_, rfl⟩
    obtain ⟨f2, hf2⟩ : ∃ f2, (putK room f b r).2 = f2 := ⟨_, rfl⟩
    rw [hp1, hf2] at hP
    rw [hp1, hf2] at hRP
    have HP := Lib.hid hP
    have HRP := Lib.hid hRP
    have H6 := Lib.hid hH6
    have hpp : (p1 == p1) = true := by simp
    clear hP hRP hp1 hf2 hH6
    go_wp2_with fail
    refine HK4.out _ _ ?_
    clear HK4
    go_wp2_with fail
    go_region_held3 (fun V => V.cell? ⟨g3, 0, none⟩ = some (.pointer (some ⟨gk, 0, none⟩)) ∧ V.cell? ⟨g5, 1, none⟩ = some (.int .u8 (b : Int)) ∧ V.cell? ⟨g5, 3, none⟩ = some (.int .i64 r.1) ∧ V.cell? ⟨g5, 4, none⟩ = some (.int .u32 r.2))
      (first | exact ⟨e3, d1, d3, d4⟩ | exact hx | exact hy)
      (first
        | (go_at_call 10; (with_reducible refine HP.out.mono ?_); rintro e wa ⟨rfl, hfa, hga⟩; have hA := DoI.few H6.out hfa hga; have hx := do_cells hA.1 hA.2.1)
        | (go_at_call 52; (with_reducible refine (HRP.out wa hA.2.2.2.1).mono ?_); rintro e wb ⟨rfl, hrb, hgb⟩; have hB := DoI.ref hA hrb hgb; have hy := do_cells hB.1 hB.2.1))
    all_goals
      go_wp2
      refine ⟨.tuple #[.pointer (some ⟨gk, 0, none⟩), .bool true], by simp [results, Try.results26, go_sem], ?_⟩
      exact ⟨gk, f2, rfl, hB.2.2.1, hB.2.2.2.1, hB.2.2.2.2, .inl rfl⟩
  · have hH6 := H5.out.drew
    have hP := Put_k gk room f b r W6.drew hH6.2.2.1 hb
    have hRP := fun V h => rput gr room f b r V h hb
    obtain ⟨p1, hp1⟩ : ∃ p1, (putK room f b r).1 = p1 := ⟨_, rfl⟩
    obtain ⟨f2, hf2⟩ : ∃ f2, (putK room f b r).2 = f2 := ⟨_, rfl⟩
    rw [hp1, hf2] at hP
    rw [hp1, hf2] at hRP
    have HP := Lib.hid hP
    have HRP := Lib.hid hRP
    have H6 := Lib.hid hH6
    have hpp : (p1 == p1) = true := by simp
    clear hP hRP hp1 hf2 hH6
    go_wp2_with fail
    refine HK4.out _ _ ?_
    clear HK4
    go_wp2_with fail
    go_region_held3 (fun V => V.cell? ⟨g3, 0, none⟩ = some (.pointer (some ⟨gk, 0, none⟩)) ∧ V.cell? ⟨g5, 1, none⟩ = some (.int .u8 (b : Int)) ∧ V.cell? ⟨g5, 3, none⟩ = some (.int .i64 r.1) ∧ V.cell? ⟨g5, 4, none⟩ = some (.int .u32 r.2))
      (first | exact ⟨e3, d1, d3, d4⟩ | exact hx | exact hy)
      (first
        | (go_at_call 10; (with_reducible refine HP.out.mono ?_); rintro e wa ⟨rfl, hfa, hga⟩; have hA := DoI.few H6.out hfa hga; have hx := do_cells hA.1 hA.2.1)
        | (go_at_call 52; (with_reducible refine (HRP.out wa hA.2.2.2.1).mono ?_); rintro e wb ⟨rfl, hrb, hgb⟩; have hB := DoI.ref hA hrb hgb; have hy := do_cells hB.1 hB.2.1))
    all_goals
      go_wp2
      refine ⟨.tuple #[.pointer (some ⟨gk, 0, none⟩), .bool true], by simp [results, Try.results26, go_sem], ?_⟩
      exact ⟨gk, f2, rfl, hB.2.2.1, hB.2.2.2.1, hB.2.2.2.2, .inl rfl⟩
  · have hH6 := H5.out.drew
    have hP := Turn_k gk room f b r W6.drew hH6.2.2.1 hb
    have hRP := fun V h => rturn gr room f b r V h hb
    obtain ⟨p1, hp1⟩ : ∃ p1, (turnK f b r).1 = p1 := ⟨_, rfl⟩
    obtain ⟨f2, hf2⟩ : ∃ f2, (turnK f b r).2 = f2 := ⟨_, rfl⟩
    rw [hp1, hf2] at hP
    rw [hp1, hf2] at hRP
    have HP := Lib.hid hP
    have HRP := Lib.hid hRP
    have H6 := Lib.hid hH6
    have hpp : (p1 == p1) = true := by simp
    clear hP hRP hp1 hf2 hH6
    go_wp2_with fail
    go_region_held3 (fun V => V.cell? ⟨g3, 0, none⟩ = some (.pointer (some ⟨gk, 0, none⟩)) ∧ V.cell? ⟨g5, 1, none⟩ = some (.int .u8 (b : Int)) ∧ V.cell? ⟨g5, 3, none⟩ = some (.int .i64 r.1) ∧ V.cell? ⟨g5, 4, none⟩ = some (.int .u32 r.2))
      (first | exact ⟨e3, d1, d3, d4⟩ | exact hx | exact hy)
      (first
        | (go_at_call 28; (with_reducible refine HP.out.mono ?_); rintro e wa ⟨rfl, hfa, hga⟩; have hA := DoI.few H6.out hfa hga; have hx := do_cells hA.1 hA.2.1)
        | (go_at_call 49; (with_reducible refine (HRP.out wa hA.2.2.2.1).mono ?_); rintro e wb ⟨rfl, hrb, hgb⟩; have hB := DoI.ref hA hrb hgb; have hy := do_cells hB.1 hB.2.1))
    all_goals
      go_wp2
      refine ⟨.tuple #[.pointer (some ⟨gk, 0, none⟩), .bool true], by simp [results, Try.results26, go_sem], ?_⟩
      exact ⟨gk, f2, rfl, hB.2.2.1, hB.2.2.2.1, hB.2.2.2.2, .inl rfl⟩
  · have hP := Take_k gk room f b W6 H5.out.2.2.1 hb
    have hRP := fun V h => rtake gr room f b V h hb
    obtain ⟨t, ht⟩ : ∃ t, (takeK f b).1.1 = t := ⟨_, rfl⟩
    obtain ⟨p1, hp1⟩ : ∃ p1, (takeK f b).1.2 = p1 := ⟨_, rfl⟩
    obtain ⟨f2, hf2⟩ : ∃ f2, (takeK f b).2 = f2 := ⟨_, rfl⟩
    rw [ht, hp1, hf2] at hP
    rw [ht, hp1, hf2] at hRP
    have HP := Lib.hid hP
    have HRP := Lib.hid hRP
    have hpp : (p1 == p1) = true := by simp
    clear hP hRP ht hp1 hf2
    go_wp2_with fail
    refine HP.out.mono ?_
    rintro e wa ⟨rfl, hfa, hga⟩
    have hA := DoI.few H5.out hfa hga
    clear HP hfa hga H5
    clear e3 d0 d1 d2 d3 d4
    have HA0 := Lib.hid hA
    have e3 := hA.1.cell 0
    have d0 := hA.2.1.cell 0
    have d1 := hA.2.1.cell 1
    have d2 := hA.2.1.cell 2
    have d3 := hA.2.1.cell 3
    have d4 := hA.2.1.cell 4
    have l3 := hA.1.lt
    have l5 := hA.2.1.lt
    simp at e3 d0 d1 d2 d3 d4
    clear hA
    go_wp2_with fail
    have hA := HA0.out
    have hbx := below_box wa (.cells #[.int .i64 t.1, .int .u32 t.2] 31)
    have ha1 := Blk.new wa 31 #[.int .i64 t.1, .int .u32 t.2]
    have HH : Hid (Blk (wa.alloc (.cells #[.int .i64 t.1, .int .u32 t.2] 31)) g3 24 #[.pointer (some ⟨gk, 0, none⟩)] ∧ Blk (wa.alloc (.cells #[.int .i64 t.1, .int .u32 t.2] 31)) g5 57 #[.int .i64 what, .int .u8 (b : Int), .int .i64 from_, .int .i64 r.1, .int .u32 r.2] ∧ FewAt (wa.alloc (.cells #[.int .i64 t.1, .int .u32 t.2] 31)) gk room f2 ∧ RefAt (wa.alloc (.cells #[.int .i64 t.1, .int .u32 t.2] 31)) gr room f ∧ Two gk gr w (wa.alloc (.cells #[.int .i64 t.1, .int .u32 t.2] 31))) := Lib.hid ⟨hA.1.alloc _, hA.2.1.alloc _, hA.2.2.1.below hbx, hA.2.2.2.1.below hbx, hA.2.2.2.2.more hbx⟩
    generalize wa.alloc (.cells #[.int .i64 t.1, .int .u32 t.2] 31) = wb at HH ha1 ⊢
    generalize wa.heap.size = g12 at ha1 ⊢
    have HA1 := Lib.hid (And.intro ha1 (fun e : g12 = gr => HH.out.2.2.2.1.ne_blk ha1 (by decide) e.symm))
    clear ha1 hbx hA HA0 l3 l5 e3 d0 d1 d2 d3 d4
    refine (HRP.out wb HH.out.2.2.2.1).mono ?_
    rintro e wc ⟨rfl, hrc, hgc⟩
    have hB := DoI.ref HH.out hrc hgc
    have ha1 := HA1.out.1.grown hgc (fun e => HA1.out.2 (by injection e))
    clear HRP hrc hgc HH HA1
    go_wp2_with fail
    have HH := Lib.hid (hB.alloc (.cells #[.int .i64 t.1, .int .u32 t.2] 31))
    have ha1 := ha1.alloc (.cells #[.int .i64 t.1, .int .u32 t.2] 31)
    have ha2 := Blk.new wc 31 #[.int .i64 t.1, .int .u32 t.2]
    generalize wc.alloc (.cells #[.int .i64 t.1, .int .u32 t.2] 31) = wd at HH ha1 ha2 ⊢
    generalize wc.heap.size = g14 at ha2 ⊢
    clear hB
    have e3 := HH.out.1.cell 0
    have d0 := HH.out.2.1.cell 0
    have d1 := HH.out.2.1.cell 1
    have d2 := HH.out.2.1.cell 2
    have d3 := HH.out.2.1.cell 3
    have d4 := HH.out.2.1.cell 4
    simp at e3 d0 d1 d2 d3 d4
    have z0 := ha1.cell 0
    have z1 := ha1.cell 1
    have z2 := ha2.cell 0
    have z3 := ha2.cell 1
    simp at z0 z1 z2 z3
    have er : ∀ V : World, (binOp .eql 31 (.agg #[.int .i64 t.1, .int .u32 t.2]) (.agg #[.int .i64 t.1, .int .u32 t.2])).run Try.prog V = .ok (.bool true) V := fun V => (eqlRef t t V).trans (by simp)
    clear ha1 ha2
    go_wp2_with fail
    go_quiet (fail)
    have hD := HH.out.drewN nq
    go_wp2
    refine ⟨.tuple #[.pointer (some ⟨gk, 0, none⟩), .bool true], by simp [results, Try.results26, go_sem], ?_⟩
    exact ⟨gk, f2, rfl, hD.2.2.1, hD.2.2.2.1, hD.2.2.2.2, .inl rfl⟩
  · have hP := Next_k gk room f from_ W6 H5.out.2.2.1
    have hRP := fun V h => rnext gr room f from_ V h
    obtain ⟨c, hc⟩ : ∃ c, (nextK f from_).1 = c := ⟨_, rfl⟩
    obtain ⟨t, ht⟩ : ∃ t, (nextK f from_).2.1 = t := ⟨_, rfl⟩
    obtain ⟨ok, hok⟩ : ∃ ok, (nextK f from_).2.2 = ok := ⟨_, rfl⟩
    rw [hc, ht, hok] at hP
    rw [hc, ht, hok] at hRP
    have HP := Lib.hid hP
    have HRP := Lib.hid hRP
    have hcc : (c == c) = true := by simp
    have hoo : (ok == ok) = true := by simp
    clear hP hRP ht hc hok
    go_wp2_with fail
    refine HP.out.mono ?_
    rintro e wa ⟨rfl, hba⟩
    have hA := H5.out.below hba
    clear HP hba H5
    clear e3 d0 d1 d2 d3 d4
    have HA0 := Lib.hid hA
    have e3 := hA.1.cell 0
    have d0 := hA.2.1.cell 0
    have d1 := hA.2.1.cell 1
    have d2 := hA.2.1.cell 2
    have d3 := hA.2.1.cell 3
    have d4 := hA.2.1.cell 4
    have l3 := hA.1.lt
    have l5 := hA.2.1.lt
    simp at e3 d0 d1 d2 d3 d4
    clear hA
    go_wp2_with fail
    have hA := HA0.out
    have HH := Lib.hid (hA.alloc (.cells #[.int .i64 t.1, .int .u32 t.2] 31))
    have ha1 := Blk.new wa 31 #[.int .i64 t.1, .int .u32 t.2]
    generalize wa.alloc (.cells #[.int .i64 t.1, .int .u32 t.2] 31) = wb at HH ha1 ⊢
    generalize wa.heap.size = g12 at ha1 ⊢
    have HA1 := Lib.hid ha1
    clear ha1 hA HA0 l3 l5 e3 d0 d1 d2 d3 d4
    refine (HRP.out wb HH.out.2.2.2.1).mono ?_
    rintro e wc ⟨rfl, hbc⟩
    have hB := HH.out.below hbc
    have ha1 := HA1.out.below hbc HA1.out.lt
    clear HRP hbc HH HA1
    go_wp2_with fail
    have HH := Lib.hid (hB.alloc (.cells #[.int .i64 t.1, .int .u32 t.2] 31))
    have ha1 := ha1.alloc (.cells #[.int .i64 t.1, .int .u32 t.2] 31)
    have ha2 := Blk.new wc 31 #[.int .i64 t.1, .int .u32 t.2]
    generalize wc.alloc (.cells #[.int .i64 t.1, .int .u32 t.2] 31) = wd at HH ha1 ha2 ⊢
    generalize wc.heap.size = g14 at ha2 ⊢
    clear hB
    have e3 := HH.out.1.cell 0
    have d0 := HH.out.2.1.cell 0
    have d1 := HH.out.2.1.cell 1
    have d2 := HH.out.2.1.cell 2
    have d3 := HH.out.2.1.cell 3
    have d4 := HH.out.2.1.cell 4
    simp at e3 d0 d1 d2 d3 d4
    have z0 := ha1.cell 0
    have z1 := ha1.cell 1
    have z2 := ha2.cell 0
    have z3 := ha2.cell 1
    simp at z0 z1 z2 z3
    have er : ∀ V : World, (binOp .eql 31 (.agg #[.int .i64 t.1, .int .u32 t.2]) (.agg #[.int .i64 t.1, .int .u32 t.2])).run Try.prog V = .ok (.bool true) V := fun V => (eqlRef t t V).trans (by simp)
    clear ha1 ha2
    go_wp2_with fail
    go_quiet (fail)
    have hD := HH.out.drewN nq
    go_wp2
    refine ⟨.tuple #[.pointer (some ⟨gk, 0, none⟩), .bool true], by simp [results, Try.results26, go_sem], ?_⟩
    exact ⟨gk, f, rfl, hD.2.2.1, hD.2.2.2.1, hD.2.2.2.2, .inl rfl⟩
  · have hP := fun V h => Put_k gk room f b r V h hb
    obtain ⟨p1, hp1⟩ : ∃ p1, (putK room f b r).1 = p1 := ⟨_, rfl⟩
    obtain ⟨f2, hf2⟩ : ∃ f2, (putK room f b r).2 = f2 := ⟨_, rfl⟩
    rw [hp1, hf2] at hP
    have HP := Lib.hid hP
    have HC := Lib.hid (Copy_k gk room f W6 H5.out.2.2.1)
    clear hP hp1 hf2
    go_wp2_with fail
    refine HC.out.mono ?_
    rintro e wa ⟨gc, rfl, hfc, hgc, hba⟩
    have hA := H5.out.below hba
    have hkc : gk < gc := Nat.lt_of_lt_of_le H5.out.2.2.1.lt hgc
    have hwc : w.heap.size ≤ gc := Nat.le_trans H5.out.2.2.2.2.size hgc
    clear HC hba H5 hgc e3 d0 d1 d2 d3 d4
    have e3 := hA.1.cell 0
    have d0 := hA.2.1.cell 0
    have d1 := hA.2.1.cell 1
    have d2 := hA.2.1.cell 2
    have d3 := hA.2.1.cell 3
    have d4 := hA.2.1.cell 4
    simp at e3 d0 d1 d2 d3 d4
    have HA := Lib.hid (And.intro hA hfc)
    clear hA hfc
    go_wp2_with fail
    refine (HP.out wa HA.out.1.2.2.1).mono ?_
    rintro e wb ⟨rfl, hfb, hgb⟩
    have hB := DoI.few HA.out.1 hfb hgb
    have hfc := HA.out.2.kept hgb (fun e => by injection e; omega)
    clear HP HA hfb hgb e3 d0 d1 d2 d3 d4
    have e3 := hB.1.cell 0
    simp at e3
    have HB := Lib.hid (And.intro hB hfc)
    clear hB hfc
    go_wp2_with fail
    refine (All_any _ _).mono ?_
    rintro e wc ⟨rfl, rfl⟩
    go_wp2_with fail
    have hbx := below_box wb (.cells #[.pointer (some ⟨gk, 0, none⟩)] 24)
    have hq := Blk.new wb 24 #[.pointer (some ⟨gk, 0, none⟩)]
    have cq : (wb.alloc (.cells #[.pointer (some ⟨gk, 0, none⟩)] 24)).cell? ⟨wb.heap.size, 0, none⟩ = some (.pointer (some ⟨gk, 0, none⟩)) := hq.cell 0
    have hT := HB.out.1.2.2.2.2.more hbx
    refine drain_loop gk gr gc g3 wb.heap.size room f f2 w (wb.alloc (.cells #[.pointer (some ⟨gk, 0, none⟩)] 24)) cq (HB.out.1.2.2.1.below hbx) (by omega) hT.size ⟨⟨f2, HB.out.1.2.2.1.below hbx⟩, HB.out.1.1.alloc _, HB.out.2.below hbx, HB.out.1.2.2.2.1.below hbx, hT, Nat.le_refl _⟩ ?_
    intro D W hD hI hdef
    have hDs : w.heap.size ≤ D := Nat.le_trans hT.size hD
    obtain ⟨h1, h2, h3, h4, h5, h6⟩ := hI
    have HI := Lib.hid (And.intro h3 (And.intro h4 (And.intro h5 hdef)))
    clear h1 h2 h3 h4 h5 h6 hdef hbx hq cq hT HB e3
    dsimp only
    go_wp2
    refine ⟨by simp, .inl ⟨_, _, rfl, run_takeDeferred HI.out.2.2.2, ?_⟩⟩
    refine ⟨.tuple #[.pointer (some ⟨gc, 0, none⟩), .bool true], by simp [results, Try.results26, go_sem], ?_⟩
    have hnc : W.heap[D]? = some (.deferred (some [])) := HI.out.2.2.2
    have hgp : W.grownBy (W.putObj D (.deferred none)) (some D) := ⟨rfl, rfl, rfl, by simp, fun k hk hne => World.putObj_heap_other (fun e => hne (by rw [e]))⟩
    have hrr : ∀ r', some D = some r' → ∃ o : Obj, W.heap[r']? = some o ∧ o.isCells = false := fun r' e => by injection e with e; subst e; exact ⟨_, hnc, rfl⟩
    exact ⟨gc, f, rfl, HI.out.1.own_ hgp hrr, HI.out.2.1.own_ hgp hrr, HI.out.2.2.1.grown hgp (fun r' e => by injection e with e; subst e; exact .inr (.inr hDs)), .inr hwc⟩
end Go.Proofs.Ytmcpfhhggapkcaa
