/-
  Layer 8: Next.
-/
import Derived.Test.YtmcpfhhggapkcaaManyN2
namespace Go.Proofs.Ytmcpfhhggapkcaa
open Go.RowKit Go.Shelf
set_option linter.unusedVariables false
set_option linter.unusedSimpArgs false
attribute [local go_sem] Oper.semAt_some

theorem nxI_below {w W W' : World} {lo g2 g4 g5 g6 g gr gu room : Nat} {f : Kids} (h : NxI w lo g2 g4 g5 g6 g gr gu room f W) (hb : Below W.heap.size W W') : NxI w W'.heap.size g2 g4 g5 g6 g gr gu room f W' := by
  obtain ⟨h1, h2, h3, h4, h5, h6, h7⟩ := h
  exact ⟨h1.below hb h1.lt, h2.below hb h2.lt, h3.below hb h3.lt, h4.below hb h4.lt, h5.below hb, h6.trans (hb.mono h6.size), Nat.le_refl _⟩
theorem defer_ne {W : World} {D g4 g5 g6 : Nat} {t4 t5 t6 : TypeId} {c4 c5 c6 : Array Value} (h4 : Blk W g4 t4 c4) (h5 : Blk W g5 t5 c5) (h6 : Blk W g6 t6 c6) (h : W.heap[D]? = some (.deferred (some []))) : D ≠ g4 ∧ D ≠ g5 ∧ D ≠ g6 := by
  unfold Blk at h4 h5 h6
  refine ⟨fun e => ?_, fun e => ?_, fun e => ?_⟩ <;> subst e <;> (first | (rw [h] at h4; cases h4) | (rw [h] at h5; cases h5) | (rw [h] at h6; cases h6))
theorem nx_start (g gr gu room : Nat) (f : Kids) (w : World) (h : ManyAt w g gr gu room f) : NxI w w.heap.size w.heap.size (w.heap.size + 1) (w.heap.size + 2) (w.heap.size + 3) g gr gu room f ((((w.alloc (.cells #[.pointer (some ⟨g, 0, none⟩)] 45)).alloc (.cells #[.int .u8 0] 5)).alloc (.cells #[.int .i64 0, .int .u32 0] 31)).alloc (.cells #[.bool false] 4)) ∧ ((((w.alloc (.cells #[.pointer (some ⟨g, 0, none⟩)] 45)).alloc (.cells #[.int .u8 0] 5)).alloc (.cells #[.int .i64 0, .int .u32 0] 31)).alloc (.cells #[.bool false] 4)).heap.size = w.heap.size + 4 := by
  have b0 := below_box w (.cells #[.pointer (some ⟨g, 0, none⟩)] 45)
  have b1 := b0.alloc b0.size (.cells #[.int .u8 0] 5)
  have b2 := b1.alloc b1.size (.cells #[.int .i64 0, .int .u32 0] 31)
  have b3 := b2.alloc b2.size (.cells #[.bool false] 4)
  have k0 := Blk.new w 45 #[.pointer (some ⟨g, 0, none⟩)]
  have k1 := Blk.new (w.alloc (.cells #[.pointer (some ⟨g, 0, none⟩)] 45)) 5 #[.int .u8 0]
  have k2 := Blk.new ((w.alloc (.cells #[.pointer (some ⟨g, 0, none⟩)] 45)).alloc (.cells #[.int .u8 0] 5)) 31 #[.int .i64 0, .int .u32 0]
  have k3 := Blk.new (((w.alloc (.cells #[.pointer (some ⟨g, 0, none⟩)] 45)).alloc (.cells #[.int .u8 0] 5)).alloc (.cells #[.int .i64 0, .int .u32 0] 31)) 4 #[.bool false]
  simp only [World.size_alloc] at k1 k2 k3
  exact ⟨⟨((k0.alloc _).alloc _).alloc _, (k1.alloc _).alloc _, k2.alloc _, k3, h.below b3, b3, b3.size⟩, by simp⟩

theorem nx_end {w V : World} {D : Nat} {b : Int} {r : Int × Int} {t : Bool} {u0 u1 u2 u3 u7 u8 u9 u10 u11 u12 u13 u14 u15 u16 u17 u18 u19 u20 u21 u22 u23 u24 u25 u26 u27 u28 : Value} (q4 : Blk V (w.heap.size + 1) 5 #[.int .u8 b]) (q5 : Blk V (w.heap.size + 2) 31 #[.int .i64 r.1, .int .u32 r.2]) (q6 : Blk V (w.heap.size + 3) 4 #[.bool t]) (hd : V.heap[D]? = some (.deferred (some []))) (hb : Below w.heap.size w V) (hD : w.heap.size ≤ D) :
    bodyPostM Fence.wide 10 Try.prog Try.f20 (ThreeEnd (.int .u8 b) (refV r) (.bool t) w) .ret ⟨#[u0, u1, u2, u3, .pointer (some ⟨w.heap.size + 1, 0, none⟩), .pointer (some ⟨w.heap.size + 2, 0, none⟩), .pointer (some ⟨w.heap.size + 3, 0, none⟩), u7, u8, u9, u10, u11, u12, u13, u14, u15, u16, u17, u18, u19, u20, u21, u22, u23, u24, u25, u26, u27, u28], [{ target := .collected D, args := #[] }]⟩ V := by
  have hne := defer_ne q4 q5 q6 hd
  have c4 : (V.putObj D (.deferred none)).cell? ⟨w.heap.size + 1, 0, none⟩ = some (.int .u8 b) := (World.cell?_of_block (World.putObj_heap_other (Ne.symm hne.1))).trans (q4.cell 0)
  have c50 : (V.putObj D (.deferred none)).cell? ⟨w.heap.size + 2, 0, none⟩ = some (.int .i64 r.1) := (World.cell?_of_block (World.putObj_heap_other (Ne.symm hne.2.1))).trans (q5.cell 0)
  have c51 : (V.putObj D (.deferred none)).cell? ⟨w.heap.size + 2, 1, none⟩ = some (.int .u32 r.2) := (World.cell?_of_block (World.putObj_heap_other (Ne.symm hne.2.1))).trans (q5.cell 1)
  have c6 : (V.putObj D (.deferred none)).cell? ⟨w.heap.size + 3, 0, none⟩ = some (.bool t) := (World.cell?_of_block (World.putObj_heap_other (Ne.symm hne.2.2))).trans (q6.cell 0)
  refine ⟨by simp, .inl ⟨_, _, rfl, run_takeDeferred hd, ?_⟩⟩
  refine ⟨.tuple #[.int .u8 b, refV r, .bool t], by simp [results, Try.results20, go_sem, c4, c50, c51, c6, refV], rfl, hb.trans ⟨rfl, rfl, rfl, by simp [World.putObj], fun k hk => World.putObj_heap_other (by omega)⟩⟩
set_option maxHeartbeats 3200000 in
set_option maxRecDepth 100000 in
theorem Next_m (g gr gu room : Nat) (f : Kids) (k : Int) (w : World) (h : ManyAt w g gr gu room f) : Calls Try.prog 20 #[.pointer (some ⟨g, 0, none⟩), .int .i64 k] w (ThreeEnd (.int .u8 (nextK f k).1) (refV (nextK f k).2.1) (.bool (nextK f k).2.2) w) := by
  have hlt := h.lt
  obtain ⟨h1, hs1⟩ := nx_start g gr gu room f w h
  have HT := Lib.hid (there_m h1.2.2.2.2.1)
  have H1 := Lib.hid h1
  have HS1 := Lib.hid hs1
  clear h h1 hs1
  refine (callsIn_wide (n := 10)).1 (callsIn_of_wp_marks Try.func20 rfl trivial (wpIn_wide.2 ?_) rfl)
  simp only [Try.ntmps20, List.size_toArray, List.length_cons, List.length_nil, Nat.reduceAdd, Nat.reduceSub, Array.replicate_succ, Array.replicate_zero, List.push_toArray, List.append_toArray, List.nil_append, List.cons_append]
  refine wp_seq_k fun K0 hK => ?_
  have HK0 := Lib.hid hK
  clear hK
  go_wp2_with fail
  refine HK0.out _ _ ?_
  clear HK0
  refine wp_seq_k fun K1 hK => ?_
  have HK1 := Lib.hid hK
  clear hK
  go_wp2_with fail
  refine HT.out.mono ?_
  rintro e w1 ⟨rfl, rfl⟩
  go_wp2_with fail
  refine HK1.out _ _ ?_
  clear HK1 HT
  obtain ⟨W1, hW1⟩ : ∃ W1, W1 = (((w.alloc (.cells #[.pointer (some ⟨g, 0, none⟩)] 45)).alloc (.cells #[.int .u8 0] 5)).alloc (.cells #[.int .i64 0, .int .u32 0] 31)).alloc (.cells #[.bool false] 4) := ⟨_, rfl⟩
  rw [← hW1] at H1 HS1 ⊢
  clear hW1
  have e0 : W1.cell? ⟨w.heap.size, 0, none⟩ = some (.pointer (some ⟨g, 0, none⟩)) := H1.out.1.cell 0
  refine wp_seq_k fun K2 hK => ?_
  have HK2 := Lib.hid hK
  clear hK
  refine wp_seq_k fun K3 hK => ?_
  have HK3 := Lib.hid hK
  clear hK
  go_wp2_with fail
  refine (bytes_any k (.func (.func 44) #[.pointer (some ⟨g, 0, none⟩)] #[]) ⟨_, _, _, rfl⟩ W1).mono ?_
  rintro e w2 ⟨rfl, rfl⟩
  go_wp2_with fail
  refine HK3.out _ _ ?_
  clear HK3 e0
  have b1 := below_box W1 (.cells #[.int .i64 k] 3)
  have b2 := b1.alloc b1.size (.cells #[.func (.func 44) #[.pointer (some ⟨g, 0, none⟩)] #[]] 82)
  have k1 := (Blk.new W1 3 #[.int .i64 k]).alloc (.cells #[.func (.func 44) #[.pointer (some ⟨g, 0, none⟩)] #[]] 82)
  have k2 := Blk.new (W1.alloc (.cells #[.int .i64 k] 3)) 82 #[.func (.func 44) #[.pointer (some ⟨g, 0, none⟩)] #[]]
  rw [show (W1.alloc (.cells #[.int .i64 k] 3)).heap.size = W1.heap.size + 1 by simp] at k2
  have k3 : NxI w _ w.heap.size (w.heap.size + 1) (w.heap.size + 2) (w.heap.size + 3) g gr gu room f _ := nxI_below H1.out b2
  have hs2 : ((W1.alloc (.cells #[.int .i64 k] 3)).alloc (.cells #[.func (.func 44) #[.pointer (some ⟨g, 0, none⟩)] #[]] 82)).heap.size = W1.heap.size + 2 := by simp
  generalize (W1.alloc (.cells #[.int .i64 k] 3)).alloc (.cells #[.func (.func 44) #[.pointer (some ⟨g, 0, none⟩)] #[]] 82) = W2 at k1 k2 k3 hs2 b2 ⊢
  have hs1 := HS1.out
  refine nx_loop w.heap.size (w.heap.size + 1) (w.heap.size + 2) (w.heap.size + 3) g gr gu room W1.heap.size (W1.heap.size + 1) k f w W2 k1 k2 (by omega) k3 ⟨by omega, by omega, by omega⟩ ⟨by omega, by omega, by omega⟩ ?_ ?_
  · intro D W hD hnil hI hdef
    have hne := defer_ne hI.2.1 hI.2.2.1 hI.2.2.2.1 hdef
    have HI := Lib.hid (And.intro hI hdef)
    have HNX := Lib.hid (nx_none hnil)
    have hDw : w.heap.size ≤ D := by omega
    have e4 := hI.2.1.cell 0
    have f4 := hI.2.1.frozen 0
    have l4 := hI.2.1.lt
    simp at e4
    clear b1 b2 k1 k2 k3 hI hdef hnil hs1 hs2 H1 HS1
    try dsimp only
    refine HK2.out _ _ ?_
    clear HK2
    have v5 := HI.out.1.2.2.1.far (p := ⟨w.heap.size + 1, 0, none⟩) (by simp) (.int .u8 0)
    have e50 := v5.cell 0
    have f50 := v5.frozen 0
    have l5 := v5.lt
    simp at e50
    have v5b := v5.set_ 0 (.int .i64 0)
    have e51 := v5b.cell 1
    have f51 := v5b.frozen 1
    have l5b := v5b.lt
    simp at e51
    have v6 := ((HI.out.1.2.2.2.1.far (p := ⟨w.heap.size + 1, 0, none⟩) (by simp) (.int .u8 0)).far (p := ⟨w.heap.size + 2, 0, none⟩) (by simp) (.int .i64 0)).far (p := ⟨w.heap.size + 2, 1, none⟩) (by simp) (.int .u32 0)
    have e6 := v6.cell 0
    have f6 := v6.frozen 0
    have l6 := v6.lt
    simp at e6
    clear v5 v5b v6
    go_wp2_with fail
    have q4 := ((((HI.out.1.2.1.set_ 0 (.int .u8 0)).far (p := ⟨w.heap.size + 2, 0, none⟩) (by simp) (.int .i64 0)).far (p := ⟨w.heap.size + 2, 1, none⟩) (by simp) (.int .u32 0)).far (p := ⟨w.heap.size + 3, 0, none⟩) (by simp) (.bool false))
    have q5 := ((((HI.out.1.2.2.1.far (p := ⟨w.heap.size + 1, 0, none⟩) (by simp) (.int .u8 0)).set_ 0 (.int .i64 0)).set_ 1 (.int .u32 0)).far (p := ⟨w.heap.size + 3, 0, none⟩) (by simp) (.bool false))
    have q6 := ((((HI.out.1.2.2.2.1.far (p := ⟨w.heap.size + 1, 0, none⟩) (by simp) (.int .u8 0)).far (p := ⟨w.heap.size + 2, 0, none⟩) (by simp) (.int .i64 0)).far (p := ⟨w.heap.size + 2, 1, none⟩) (by simp) (.int .u32 0)).set_ 0 (.bool false))
    have hbv : Below w.heap.size w _ := ((((HI.out.1.2.2.2.2.2.1.setCell (p := ⟨w.heap.size + 1, 0, none⟩) (by simp) (.int .u8 0)).setCell (p := ⟨w.heap.size + 2, 0, none⟩) (by simp) (.int .i64 0)).setCell (p := ⟨w.heap.size + 2, 1, none⟩) (by simp) (.int .u32 0)).setCell (p := ⟨w.heap.size + 3, 0, none⟩) (by simp) (.bool false))
    have hdv : ((((W.setCell ⟨w.heap.size + 1, 0, none⟩ (.int .u8 0)).setCell ⟨w.heap.size + 2, 0, none⟩ (.int .i64 0)).setCell ⟨w.heap.size + 2, 1, none⟩ (.int .u32 0)).setCell ⟨w.heap.size + 3, 0, none⟩ (.bool false)).heap[D]? = some (.deferred (some [])) :=
      (((Below.heap_setCell _ _ _ _ hne.2.2).trans (Below.heap_setCell _ _ _ _ hne.2.1)).trans (Below.heap_setCell _ _ _ _ hne.2.1)).trans ((Below.heap_setCell _ _ _ _ hne.1).trans HI.out.2)
    generalize (((W.setCell ⟨w.heap.size + 1, 0, none⟩ (.int .u8 0)).setCell ⟨w.heap.size + 2, 0, none⟩ (.int .i64 0)).setCell ⟨w.heap.size + 2, 1, none⟩ (.int .u32 0)).setCell ⟨w.heap.size + 3, 0, none⟩ (.bool false) = V at q4 q5 q6 hbv hdv ⊢
    rw [HNX.out]
    exact nx_end q4 q5 q6 hdv hbv hDw
  · intro D pre W hD hpre hX hdef
    obtain ⟨x, r, rfl, hr, q4, q5, q6, hb⟩ := hX
    have hne := defer_ne q4 q5 q6 hdef
    have hnx := nx_some hpre hr
    rw [hnx]
    exact nx_end q4 q5 q6 hdef hb (by omega)
end Go.Proofs.Ytmcpfhhggapkcaa
