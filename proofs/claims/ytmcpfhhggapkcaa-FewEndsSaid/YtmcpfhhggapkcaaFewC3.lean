/-
  Layer 7: 'same'.
-/
import Derived.Test.YtmcpfhhggapkcaaFewC2
namespace Go.Proofs.Ytmcpfhhggapkcaa
open Go.RowKit Go.Shelf
set_option linter.unusedVariables false
set_option linter.unusedSimpArgs false

theorem RefAt.drew {W : World} {g : Nat} {room : Int} {f : Kids} (h : RefAt W g room f) : RefAt W.drew g room f := by
  obtain ⟨o, h1, h2⟩ := h
  exact ⟨o, h1.drew, h2⟩
theorem RefAt.room_cell {W : World} {g : Nat} {room : Int} {f : Kids} (h : RefAt W g room f) : W.cell? ⟨g, 0, none⟩ = some (.int .i64 room) := by
  obtain ⟨o, h1, h2⟩ := h
  exact (h1.cell _).trans (by rw [List.getElem?_toArray]; exact refCells_room room f o)
theorem sameI_drewN {w V : World} {lo g3 g4 g5 gr : Nat} {room : Int} {f : Kids} {b : Nat} (h : SameI w lo g3 g4 g5 gr room f b V) (k : Nat) : SameI w lo g3 g4 g5 gr room f b (V.drewN k) := by
  obtain ⟨h1, h2, h3, ⟨o, h4, h4'⟩, h5, h6⟩ := h
  exact ⟨h1.drewN k, h2.drewN k, h3.drewN k, ⟨o, h4.drewN k, h4'⟩, below_drewN h5 k, h6⟩
set_option maxHeartbeats 3200000 in
set_option maxRecDepth 100000 in
theorem same_any (g gr : Nat) (room : Int) (f : Kids) (w : World) (hf : FewAt w g room f) (hr : RefAt w gr room f) : Calls Try.prog 27 #[.pointer (some ⟨g, 0, none⟩), .pointer (some ⟨gr, 0, none⟩)] w (BoolEnd true w) := by
  have H0 := Lib.hid (And.intro hf hr)
  clear hf hr
  refine (callsIn_wide (n := 10)).1 (callsIn_of_wp_marks Try.func27 rfl trivial (wpIn_wide.2 ?_) rfl)
  simp only [Try.ntmps27, List.size_toArray, List.length_cons, List.length_nil, Nat.reduceAdd, Nat.reduceSub, Array.replicate_succ, Array.replicate_zero, List.push_toArray, List.append_toArray, List.nil_append, List.cons_append]
  refine wp_seq_k fun K0 hK => ?_
  have HK0 := Lib.hid hK
  clear hK
  go_wp2_with fail
  refine HK0.out _ _ ?_
  clear HK0
  have h3 := (Blk.new w 51 #[.pointer (some ⟨gr, 0, none⟩)]).alloc (.cells #[.bool false] 4)
  have h4 := Blk.new (w.alloc (.cells #[.pointer (some ⟨gr, 0, none⟩)] 51)) 4 #[.bool false]
  have hbel := (below_box w (.cells #[.pointer (some ⟨gr, 0, none⟩)] 51)).alloc (by simp) (.cells #[.bool false] 4)
  have hsz : ((w.alloc (.cells #[.pointer (some ⟨gr, 0, none⟩)] 51)).alloc (.cells #[.bool false] 4)).heap.size = w.heap.size + 2 := by simp
  rw [show (w.alloc (.cells #[.pointer (some ⟨gr, 0, none⟩)] 51)).heap.size = w.heap.size + 1 by simp] at h4
  generalize (w.alloc (.cells #[.pointer (some ⟨gr, 0, none⟩)] 51)).alloc (.cells #[.bool false] 4) = w1 at h3 h4 hbel hsz ⊢
  have H1 : Hid (Blk w1 w.heap.size 51 #[.pointer (some ⟨gr, 0, none⟩)] ∧ Blk w1 (w.heap.size + 1) 4 #[.bool false] ∧ FewAt w1 g room f ∧ RefAt w1 gr room f ∧ Below w.heap.size w w1) := Lib.hid ⟨h3, h4, H0.out.1.below hbel, H0.out.2.below hbel, hbel⟩
  have HSZ := Lib.hid hsz
  clear h3 h4 hbel hsz H0
  refine wp_seq_k fun K1 hK => ?_
  have HK1 := Lib.hid hK
  clear hK
  have e3 := H1.out.1.cell 0
  have er := H1.out.2.2.2.1.room_cell
  simp at e3
  obtain ⟨n, hn⟩ : ∃ n : Nat, cntK f = n := ⟨_, rfl⟩
  have hl1 := Len_k g room f w1.drew H1.out.2.2.1.drew
  have hl2 := rlen gr room f w1.drew H1.out.2.2.2.1.drew
  rw [hn] at hl1 hl2
  have HL1 := Lib.hid hl1
  have HL2 := Lib.hid hl2
  have HRM := Lib.hid (Room_k g room f w1.drew H1.out.2.2.1.drew)
  clear hl1 hl2 hn
  go_wp2_with fail
  go_region_held3 (fun V => V.cell? ⟨w.heap.size, 0, none⟩ = some (.pointer (some ⟨gr, 0, none⟩)) ∧ V.cell? ⟨gr, 0, none⟩ = some (.int .i64 room)) (first | exact ⟨e3, er⟩)
    (first
      | (go_at_call 13; refine HL1.out.mono ?_; rintro e wn ⟨rfl, rfl⟩)
      | (go_at_call 53; refine HL2.out.mono ?_; rintro e wn ⟨rfl, rfl⟩)
      | (go_at_call 29; refine HRM.out.mono ?_; rintro e wn ⟨rfl, rfl⟩))
  go_wp2_with fail
  refine HK1.out _ _ ?_
  clear HK1 HL1 HL2 HRM e3 er
  have H2 : Hid (Blk w1.drew w.heap.size 51 #[.pointer (some ⟨gr, 0, none⟩)] ∧ Blk w1.drew (w.heap.size + 1) 4 #[.bool false] ∧ FewAt w1.drew g room f ∧ RefAt w1.drew gr room f ∧ Below w.heap.size w w1.drew) := Lib.hid ⟨H1.out.1.drew, H1.out.2.1.drew, H1.out.2.2.1.drew, H1.out.2.2.2.1.drew, H1.out.2.2.2.2.drew⟩
  have HSZ2 : Hid (w1.drew.heap.size = w.heap.size + 2) := Lib.hid HSZ.out
  clear H1 HSZ
  generalize w1.drew = w2 at H2 HSZ2 ⊢
  refine wp_seq_k fun K2 hK => ?_
  have HK2 := Lib.hid hK
  clear hK
  go_wp2_with fail
  refine HK2.out _ _ ?_
  clear HK2
  have h5 := Blk.new w2 3 #[.int .i64 0]
  have hbx := below_box w2 (.cells #[.int .i64 0] 3)
  have H3 : Hid (Blk (w2.alloc (.cells #[.int .i64 0] 3)) w2.heap.size 3 #[.int .i64 0] ∧ Blk (w2.alloc (.cells #[.int .i64 0] 3)) w.heap.size 51 #[.pointer (some ⟨gr, 0, none⟩)] ∧ Blk (w2.alloc (.cells #[.int .i64 0] 3)) (w.heap.size + 1) 4 #[.bool false] ∧ FewAt (w2.alloc (.cells #[.int .i64 0] 3)) g room f ∧ RefAt (w2.alloc (.cells #[.int .i64 0] 3)) gr room f ∧ Below w.heap.size w (w2.alloc (.cells #[.int .i64 0] 3))) :=
    Lib.hid ⟨h5, H2.out.1.alloc _, H2.out.2.1.alloc _, H2.out.2.2.1.below hbx, H2.out.2.2.2.1.below hbx, H2.out.2.2.2.2.alloc H2.out.2.2.2.2.size _⟩
  have HSZ3 : Hid ((w2.alloc (.cells #[.int .i64 0] 3)).heap.size = w.heap.size + 3 ∧ w2.heap.size = w.heap.size + 2) := Lib.hid ⟨by have := HSZ2.out; simp; omega, HSZ2.out⟩
  clear h5 hbx H2 HSZ2
  generalize w2.alloc (.cells #[.int .i64 0] 3) = w3 at H3 HSZ3 ⊢
  obtain ⟨g5, hg5⟩ : ∃ g, g = w2.heap.size := ⟨_, rfl⟩
  rw [← hg5] at H3 HSZ3 ⊢
  clear hg5
  refine wp_seq_k fun K3 hK => ?_
  have HK3 := Lib.hid hK
  clear hK
  refine wp_seq_k fun K4 hK => ?_
  have HK4 := Lib.hid hK
  clear hK
  go_wp2_with fail
  refine (All_any _ _).mono ?_
  rintro e w4 ⟨rfl, rfl⟩
  go_wp2_with fail
  refine HK4.out _ _ ?_
  clear HK4
  have hq := Blk.new w3 24 #[.pointer (some ⟨g, 0, none⟩)]
  have hbx := below_box w3 (.cells #[.pointer (some ⟨g, 0, none⟩)] 24)
  have hsz : (w3.alloc (.cells #[.pointer (some ⟨g, 0, none⟩)] 24)).heap.size = w.heap.size + 4 := by have := HSZ3.out.1; simp; omega
  have a1 := H3.out.1.alloc (.cells #[.pointer (some ⟨g, 0, none⟩)] 24)
  have a2 := H3.out.2.1.alloc (.cells #[.pointer (some ⟨g, 0, none⟩)] 24)
  have a3 := H3.out.2.2.1.alloc (.cells #[.pointer (some ⟨g, 0, none⟩)] 24)
  have a4 := H3.out.2.2.2.1.below hbx
  have a5 := H3.out.2.2.2.2.1.below hbx
  have a6 := H3.out.2.2.2.2.2.alloc H3.out.2.2.2.2.2.size (.cells #[.pointer (some ⟨g, 0, none⟩)] 24)
  generalize w3.alloc (.cells #[.pointer (some ⟨g, 0, none⟩)] 24) = w4 at hq hsz a1 a2 a3 a4 a5 a6 ⊢
  obtain ⟨gb, hgb⟩ : ∃ g, g = w3.heap.size := ⟨_, rfl⟩
  rw [← hgb] at hq ⊢
  have cq := hq.cell 0
  simp at cq
  have hz5 : g5 = w.heap.size + 2 := HSZ3.out.2
  refine same_loop g w.heap.size (w.heap.size + 1) g5 gr gb room f w w4 cq a4 a6.size ⟨a1, a3, a2, a5, a6, Nat.le_refl _⟩ ⟨by omega, by omega, by omega⟩ ⟨by omega, by omega, by omega⟩ ?_
  intro D W hD hI hdef
  have hbD : w.heap.size + 4 ≤ D := by omega
  have HI := Lib.hid (And.intro hI hdef)
  clear hI hdef hq hbx hsz a1 a2 a3 a4 a5 a6 cq hgb H3 HSZ3
  have h50 : w.heap.size ≤ g5 := by omega
  have h5D : g5 ≠ D := by omega
  clear hz5
  dsimp only
  refine HK3.out _ _ ?_
  clear HK3
  have hfl := fromOf_le (kidsF f)
  obtain ⟨a, ha⟩ : ∃ a, a = fromOf (kidsF f) := ⟨_, rfl⟩
  have HEN : Hid (∀ j, a ≤ j → j < 256 → f j = none) := Lib.hid (fun j h1 h2 => at_end (by rw [← ha]; exact h1) h2)
  rw [← ha] at HI hfl
  clear ha
  refine wp_seq_k fun K5 hK => ?_
  have HK5 := Lib.hid hK
  clear hK
  go_wp2_with fail
  go_loopw [] (fun wr => ∃ b : Nat, a ≤ b ∧ b ≤ 256 ∧ Hid (SameI w w4.heap.size w.heap.size (w.heap.size + 1) g5 gr room f b wr ∧ wr.heap[D]? = some (.deferred (some [])))) (fun wr => 256 - (intOf ((wr.cell? ⟨g5, 0, none⟩).getD undef)).toNat)
  case atStart => exact ⟨a, Nat.le_refl _, hfl, HI⟩
  case round =>
    obtain ⟨b, hab, hb, HW⟩ := hrel
    have e5 := HW.out.1.1.cell 0
    have g50 := HW.out.1.1.frozen 0
    have l5 := HW.out.1.1.lt
    have e3 := HW.out.1.2.2.1.cell 0
    simp at e5 e3
    have i1 : (0 : Int) ≤ (b : Int) := by omega
    have i9 : (b : Int) ≤ 256 := by omega
    by_cases hlt : b < 256
    · obtain ⟨q, c1, c2, c3, hq⟩ := ref_cells HW.out.1.2.2.2.1 hlt
      rw [HEN.out b hab hlt] at c1
      simp only [Option.isSome_none] at c1
      have i2 : (b : Int) < 256 := by omega
      have HE5 := Lib.hid e5
      clear hq c2 c3
      go_wp2_with fail
      go_quiet (fail)
      have HV := Lib.hid (And.intro (sameI_drewN HW.out.1 nq) (show (wr.drewN nq).heap[D]? = some (.deferred (some [])) from HW.out.2))
      clear c1 e5 g50 l5 e3
      generalize wr.drewN nq = V at HV ⊢
      have e5 := HV.out.1.1.cell 0
      have g50 := HV.out.1.1.frozen 0
      have l5 := HV.out.1.1.lt
      simp at e5
      have HN := Lib.hid (And.intro (sameI_step HV.out.1 h50 (b + 1)) ((Below.heap_setCell V ⟨g5, 0, none⟩ (.int .i64 ((b + 1 : Nat) : Int)) D (by simp; omega)).trans HV.out.2))
      go_wp2
      go_roundw
      case rel => exact ⟨b + 1, by omega, by omega, HN⟩
      case measure =>
        have e5n : (V.setCell ⟨g5, 0, none⟩ (.int .i64 ((b : Int) + 1))).cell? ⟨g5, 0, none⟩ = some (.int .i64 ((b : Int) + 1)) := HN.out.1.1.cell 0
        rw [e5n, HE5.out]
        simp [intOf]
        omega
    · obtain rfl : b = 256 := by omega
      have i2 : ¬ ((256 : Int) < 256) := by omega
      go_wp2_with fail
      go_quiet (fail)
      have HV := Lib.hid (And.intro (sameI_drewN HW.out.1 nq) (show (wr.drewN nq).heap[D]? = some (.deferred (some [])) from HW.out.2))
      clear e5 g50 l5 e3
      generalize wr.drewN nq = V at HV ⊢
      go_wp2_with fail
      refine HK5.out _ _ ?_
      clear HK5
      have e5 := HV.out.1.1.cell 0
      have e4 := HV.out.1.2.1.cell 0
      have g40 := HV.out.1.2.1.frozen 0
      have l4 := HV.out.1.2.1.lt
      simp at e5 e4
      go_wp2_with fail
      have hD4 : D ≠ w.heap.size + 1 := by omega
      have hK0 : (V.setCell ⟨w.heap.size + 1, 0, none⟩ (.bool true)).heap[D]? = some (.deferred (some [])) := (Below.heap_setCell _ _ _ _ hD4).trans HV.out.2
      refine ⟨by simp, .inl ⟨_, _, rfl, run_takeDeferred hK0, ?_⟩⟩
      have hc4 : ((V.setCell ⟨w.heap.size + 1, 0, none⟩ (.bool true)).putObj D (.deferred none)).cell? ⟨w.heap.size + 1, 0, none⟩ = some (.bool true) := (World.cell?_of_block (World.putObj_heap_other (k := w.heap.size + 1) (by omega))).trans (World.cell?_setCell_same' _ _ _ (by rw [e4]; rfl))
      refine ⟨.bool true, by simp [results, Try.results27, go_sem, hc4], rfl, (HV.out.1.2.2.2.2.1.setCell (p := ⟨w.heap.size + 1, 0, none⟩) (by simp) _).trans ⟨rfl, rfl, rfl, by simp [World.putObj], fun k hk => World.putObj_heap_other (by omega)⟩⟩
end Go.Proofs.Ytmcpfhhggapkcaa
