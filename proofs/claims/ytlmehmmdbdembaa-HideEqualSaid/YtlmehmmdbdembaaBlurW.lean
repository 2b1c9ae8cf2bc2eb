/-
  Walks: hide.Blur.
-/
import Derived.Test.YtlmehmmdbdembaaBareW
import Derived.Test.YtlmehmmdbdembaaTail
import Derived.Lib.SliceRun
namespace Go.Proofs.Ytlmehmmdbdembaa
open Go.RowKit
set_option linter.unusedVariables false

def EntTrue (x : Ent) (w : World) (e : Ending) (w' : World) : Prop := e = .returned (.tuple #[.agg #[.int .i64 x.ses, .int .i64 x.r.deed, .int .i64 x.r.ten, .int .u32 x.r.gen, .int .u8 x.r.rig, .string x.r.key, .string x.r.val, .string x.r.old, .int .i64 x.r.lim, .int .i64 x.r.tenant, .int .u64 x.r.qk, .int .u64 x.r.qb, .int .u8 x.r.rights], .bool true]) ∧ Below w.heap.size w w'
theorem ent_facts0 {W : World} {e : Ent} {ad : Addr} {k : Nat} (h : ∀ i u, e.row[i]? = some u → W.cell? ((ad.add (k * 13)).add i) = some u) : W.cell? (ad.add (k * 13)) = some (.int .i64 e.ses) ∧ W.cell? ⟨(ad.add (k * 13)).block, (ad.add (k * 13)).off + 1, none⟩ = some (.int .i64 e.r.deed) ∧ W.cell? ⟨(ad.add (k * 13)).block, (ad.add (k * 13)).off + 2, none⟩ = some (.int .i64 e.r.ten) ∧ W.cell? ⟨(ad.add (k * 13)).block, (ad.add (k * 13)).off + 3, none⟩ = some (.int .u32 e.r.gen) ∧ W.cell? ⟨(ad.add (k * 13)).block, (ad.add (k * 13)).off + 4, none⟩ = some (.int .u8 e.r.rig) ∧ W.cell? ⟨(ad.add (k * 13)).block, (ad.add (k * 13)).off + 5, none⟩ = some (.string e.r.key) ∧ W.cell? ⟨(ad.add (k * 13)).block, (ad.add (k * 13)).off + 6, none⟩ = some (.string e.r.val) ∧ W.cell? ⟨(ad.add (k * 13)).block, (ad.add (k * 13)).off + 7, none⟩ = some (.string e.r.old) ∧ W.cell? ⟨(ad.add (k * 13)).block, (ad.add (k * 13)).off + 8, none⟩ = some (.int .i64 e.r.lim) ∧ W.cell? ⟨(ad.add (k * 13)).block, (ad.add (k * 13)).off + 9, none⟩ = some (.int .i64 e.r.tenant) ∧ W.cell? ⟨(ad.add (k * 13)).block, (ad.add (k * 13)).off + 10, none⟩ = some (.int .u64 e.r.qk) ∧ W.cell? ⟨(ad.add (k * 13)).block, (ad.add (k * 13)).off + 11, none⟩ = some (.int .u64 e.r.qb) ∧ W.cell? ⟨(ad.add (k * 13)).block, (ad.add (k * 13)).off + 12, none⟩ = some (.int .u8 e.r.rights) :=
  ⟨h 0 _ rfl, h 1 _ rfl, h 2 _ rfl, h 3 _ rfl, h 4 _ rfl, h 5 _ rfl, h 6 _ rfl, h 7 _ rfl, h 8 _ rfl, h 9 _ rfl, h 10 _ rfl, h 11 _ rfl, h 12 _ rfl⟩
/-- The thirteen cells that an entry is stored into. -/
theorem ent_slots {W : World} {g : Nat} {t : TypeId} {cs : Array Value} (h : Blk W g t cs) (hs : cs.size = 13) :
    ∃ o0 o1 o2 o3 o4 o5 o6 o7 o8 o9 o10 o11 o12 : Value, (W.cell? ⟨g, 0, none⟩ = some o0 ∧ W.cell? ⟨g, 1, none⟩ = some o1 ∧ W.cell? ⟨g, 2, none⟩ = some o2 ∧ W.cell? ⟨g, 3, none⟩ = some o3 ∧ W.cell? ⟨g, 4, none⟩ = some o4 ∧ W.cell? ⟨g, 5, none⟩ = some o5 ∧ W.cell? ⟨g, 6, none⟩ = some o6 ∧ W.cell? ⟨g, 7, none⟩ = some o7 ∧ W.cell? ⟨g, 8, none⟩ = some o8 ∧ W.cell? ⟨g, 9, none⟩ = some o9 ∧ W.cell? ⟨g, 10, none⟩ = some o10 ∧ W.cell? ⟨g, 11, none⟩ = some o11 ∧ W.cell? ⟨g, 12, none⟩ = some o12) ∧ (W.frozen? ⟨g, 0, none⟩ = false ∧ W.frozen? ⟨g, 1, none⟩ = false ∧ W.frozen? ⟨g, 2, none⟩ = false ∧ W.frozen? ⟨g, 3, none⟩ = false ∧ W.frozen? ⟨g, 4, none⟩ = false ∧ W.frozen? ⟨g, 5, none⟩ = false ∧ W.frozen? ⟨g, 6, none⟩ = false ∧ W.frozen? ⟨g, 7, none⟩ = false ∧ W.frozen? ⟨g, 8, none⟩ = false ∧ W.frozen? ⟨g, 9, none⟩ = false ∧ W.frozen? ⟨g, 10, none⟩ = false ∧ W.frozen? ⟨g, 11, none⟩ = false ∧ W.frozen? ⟨g, 12, none⟩ = false) := by
  have hc : ∀ j, j < cs.size → ∃ u, W.cell? ⟨g, j, none⟩ = some u := fun j hj => ⟨cs[j], by rw [h.cell]; exact Array.getElem?_eq_getElem hj⟩
  obtain ⟨o0, h0⟩ := hc 0 (by omega)
  obtain ⟨o1, h1⟩ := hc 1 (by omega)
  obtain ⟨o2, h2⟩ := hc 2 (by omega)
  obtain ⟨o3, h3⟩ := hc 3 (by omega)
  obtain ⟨o4, h4⟩ := hc 4 (by omega)
  obtain ⟨o5, h5⟩ := hc 5 (by omega)
  obtain ⟨o6, h6⟩ := hc 6 (by omega)
  obtain ⟨o7, h7⟩ := hc 7 (by omega)
  obtain ⟨o8, h8⟩ := hc 8 (by omega)
  obtain ⟨o9, h9⟩ := hc 9 (by omega)
  obtain ⟨o10, h10⟩ := hc 10 (by omega)
  obtain ⟨o11, h11⟩ := hc 11 (by omega)
  obtain ⟨o12, h12⟩ := hc 12 (by omega)
  exact ⟨o0, o1, o2, o3, o4, o5, o6, o7, o8, o9, o10, o11, o12, ⟨h0, h1, h2, h3, h4, h5, h6, h7, h8, h9, h10, h11, h12⟩, ⟨h.frozen _, h.frozen _, h.frozen _, h.frozen _, h.frozen _, h.frozen _, h.frozen _, h.frozen _, h.frozen _, h.frozen _, h.frozen _, h.frozen _, h.frozen _⟩⟩

set_option maxHeartbeats 1600000 in
theorem blur1_end (x : Ent) {u0 u1 u5 u6 u7 u8 u9 u10 : Value} (w W : World) (b0 : Blk W w.heap.size 46 x.row.toArray) (b1 : Blk W (w.heap.size + 1) 46 #[.int .i64 0, .int .i64 0, .int .i64 0, .int .u32 0, .int .u8 0, .string ⟨#[]⟩, .string ⟨#[]⟩, .string ⟨#[]⟩, .int .i64 0, .int .i64 0, .int .u64 0, .int .u64 0, .int .u8 0]) (hbel : Below w.heap.size w W) :
    Code.wp Try.prog (bodyTail Try.f39 2) (bodyPost Try.prog Try.f39 (EntTrue x w)) ⟨#[u0, u1, .pointer (some ⟨w.heap.size, 0, none⟩), .pointer (some ⟨w.heap.size + 1, 0, none⟩), .bool false, u5, u6, u7, u8, u9, u10], []⟩ W := by
  conv => arg 2; whnf
  obtain ⟨h0, h1, h2, h3, h4, h5, h6, h7, h8, h9, h10, h11, h12⟩ := ent_box_cells b0
  obtain ⟨o0, o1, o2, o3, o4, o5, o6, o7, o8, o9, o10, o11, o12, ⟨c0, c1, c2, c3, c4, c5, c6, c7, c8, c9, c10, c11, c12⟩, ⟨f0, f1, f2, f3, f4, f5, f6, f7, f8, f9, f10, f11, f12⟩⟩ := ent_slots b1 (by rfl)
  have bR := (((((((((((((b1).set_ 0 (.int .i64 x.ses)).set_ 1 (.int .i64 x.r.deed)).set_ 2 (.int .i64 x.r.ten)).set_ 3 (.int .u32 x.r.gen)).set_ 4 (.int .u8 x.r.rig)).set_ 5 (.string x.r.key)).set_ 6 (.string x.r.val)).set_ 7 (.string x.r.old)).set_ 8 (.int .i64 x.r.lim)).set_ 9 (.int .i64 x.r.tenant)).set_ 10 (.int .u64 x.r.qk)).set_ 11 (.int .u64 x.r.qb)).set_ 12 (.int .u8 x.r.rights)
  simp only [List.setIfInBounds_toArray, List.set_cons_zero, List.set_cons_succ] at bR
  have hbR := (((((((((((((hbel).setCell (p := ⟨w.heap.size + 1, 0, none⟩) (by simp) (.int .i64 x.ses)).setCell (p := ⟨w.heap.size + 1, 1, none⟩) (by simp) (.int .i64 x.r.deed)).setCell (p := ⟨w.heap.size + 1, 2, none⟩) (by simp) (.int .i64 x.r.ten)).setCell (p := ⟨w.heap.size + 1, 3, none⟩) (by simp) (.int .u32 x.r.gen)).setCell (p := ⟨w.heap.size + 1, 4, none⟩) (by simp) (.int .u8 x.r.rig)).setCell (p := ⟨w.heap.size + 1, 5, none⟩) (by simp) (.string x.r.key)).setCell (p := ⟨w.heap.size + 1, 6, none⟩) (by simp) (.string x.r.val)).setCell (p := ⟨w.heap.size + 1, 7, none⟩) (by simp) (.string x.r.old)).setCell (p := ⟨w.heap.size + 1, 8, none⟩) (by simp) (.int .i64 x.r.lim)).setCell (p := ⟨w.heap.size + 1, 9, none⟩) (by simp) (.int .i64 x.r.tenant)).setCell (p := ⟨w.heap.size + 1, 10, none⟩) (by simp) (.int .u64 x.r.qk)).setCell (p := ⟨w.heap.size + 1, 11, none⟩) (by simp) (.int .u64 x.r.qb)).setCell (p := ⟨w.heap.size + 1, 12, none⟩) (by simp) (.int .u8 x.r.rights)
  obtain ⟨r0, r1, r2, r3, r4, r5, r6, r7, r8, r9, r10, r11, r12⟩ := ent_box_cells (e := x) bR
  have HR := Lib.hid hbR
  clear hbR bR b0 b1 hbel
  go_wp2_with fail
  refine bodyPost_ret (v := .tuple #[.agg #[.int .i64 x.ses, .int .i64 x.r.deed, .int .i64 x.r.ten, .int .u32 x.r.gen, .int .u8 x.r.rig, .string x.r.key, .string x.r.val, .string x.r.old, .int .i64 x.r.lim, .int .i64 x.r.tenant, .int .u64 x.r.qk, .int .u64 x.r.qb, .int .u8 x.r.rights], .bool true]) (by simp [results, Try.results39, go_sem, *]) rfl ⟨rfl, HR.out⟩

set_option maxHeartbeats 3200000 in
theorem blur1_any (e : Ent) (t : Int) (g3 : Nat) (w : World) (hcap : w.cell? ⟨g3, 0, none⟩ = some (.int .i64 t)) : Calls Try.prog 39 #[.agg #[.int .i64 e.ses, .int .i64 e.r.deed, .int .i64 e.r.ten, .int .u32 e.r.gen, .int .u8 e.r.rig, .string e.r.key, .string e.r.val, .string e.r.old, .int .i64 e.r.lim, .int .i64 e.r.tenant, .int .u64 e.r.qk, .int .u64 e.r.qb, .int .u8 e.r.rights], .pointer (some ⟨g3, 0, none⟩)] w (EntTrue (bareE t e) w) := by
  have hg3 : g3 < w.heap.size := World.block_lt_of_cell? w _ hcap
  go_enter Try.func39, Try.ntmps39
  refine wp_seq_k fun K0 hK => ?_
  have HK0 := Lib.hid hK
  clear hK
  go_wp2_with fail
  refine HK0.out _ _ ?_
  clear HK0 K0
  have b0 := (ent_box e w).alloc (.cells #[.int .i64 0, .int .i64 0, .int .i64 0, .int .u32 0, .int .u8 0, .string ⟨#[]⟩, .string ⟨#[]⟩, .string ⟨#[]⟩, .int .i64 0, .int .i64 0, .int .u64 0, .int .u64 0, .int .u8 0] 46)
  have b1 := blk_newAt (w := w.alloc (.cells #[.int .i64 e.ses, .int .i64 e.r.deed, .int .i64 e.r.ten, .int .u32 e.r.gen, .int .u8 e.r.rig, .string e.r.key, .string e.r.val, .string e.r.old, .int .i64 e.r.lim, .int .i64 e.r.tenant, .int .u64 e.r.qk, .int .u64 e.r.qb, .int .u8 e.r.rights] 46)) (g := w.heap.size + 1) (t := 46) (cs := #[.int .i64 0, .int .i64 0, .int .i64 0, .int .u32 0, .int .u8 0, .string ⟨#[]⟩, .string ⟨#[]⟩, .string ⟨#[]⟩, .int .i64 0, .int .i64 0, .int .u64 0, .int .u64 0, .int .u8 0]) (by simp)
  have hbel : Below w.heap.size w ((w.alloc (.cells #[.int .i64 e.ses, .int .i64 e.r.deed, .int .i64 e.r.ten, .int .u32 e.r.gen, .int .u8 e.r.rig, .string e.r.key, .string e.r.val, .string e.r.old, .int .i64 e.r.lim, .int .i64 e.r.tenant, .int .u64 e.r.qk, .int .u64 e.r.qb, .int .u8 e.r.rights] 46)).alloc (.cells #[.int .i64 0, .int .i64 0, .int .i64 0, .int .u32 0, .int .u8 0, .string ⟨#[]⟩, .string ⟨#[]⟩, .string ⟨#[]⟩, .int .i64 0, .int .i64 0, .int .u64 0, .int .u64 0, .int .u8 0] 46)) := below_alloc (below_box w _) _
  generalize (w.alloc (.cells #[.int .i64 e.ses, .int .i64 e.r.deed, .int .i64 e.r.ten, .int .u32 e.r.gen, .int .u8 e.r.rig, .string e.r.key, .string e.r.val, .string e.r.old, .int .i64 e.r.lim, .int .i64 e.r.tenant, .int .u64 e.r.qk, .int .u64 e.r.qb, .int .u8 e.r.rights] 46)).alloc (.cells #[.int .i64 0, .int .i64 0, .int .i64 0, .int .u32 0, .int .u8 0, .string ⟨#[]⟩, .string ⟨#[]⟩, .string ⟨#[]⟩, .int .i64 0, .int .i64 0, .int .u64 0, .int .u64 0, .int .u8 0] 46) = W0 at b0 b1 hbel ⊢
  have c3 := (hbel.cell (p := ⟨g3, 0, none⟩) hg3).trans hcap
  obtain ⟨h0, h1, h2, h3, h4, h5, h6, h7, h8, h9, h10, h11, h12⟩ := ent_box_cells b0
  have HB := Lib.hid (And.intro b0 (And.intro b1 hbel))
  clear b0 b1 hbel hcap
  refine wp_seq_k fun K0 hK => ?_
  have HK0 := Lib.hid hK
  clear hK
  go_wp2_with fail
  refine (bare_any e.r t _).mono ?_
  rintro e' w1 ⟨rfl, hb1⟩
  have b0 := HB.out.1.below hb1 HB.out.1.lt
  have b1 := HB.out.2.1.below hb1 HB.out.2.1.lt
  have hbel := below_trans HB.out.2.2 hb1
  clear h0 h1 h2 h3 h4 h5 h6 h7 h8 h9 h10 h11 h12 c3
  obtain ⟨h0, h1, h2, h3, h4, h5, h6, h7, h8, h9, h10, h11, h12⟩ := ent_box_cells b0
  obtain ⟨o0, o1, o2, o3, o4, o5, o6, o7, o8, o9, o10, o11, o12, -, ⟨f0, f1, f2, f3, f4, f5, f6, f7, f8, f9, f10, f11, f12⟩⟩ := ent_slots b0 (by rfl)
  have b0 := ((((((((((((b0).set_ 1 (.int .i64 (bareR e.r t).deed)).set_ 2 (.int .i64 (bareR e.r t).ten)).set_ 3 (.int .u32 (bareR e.r t).gen)).set_ 4 (.int .u8 (bareR e.r t).rig)).set_ 5 (.string (bareR e.r t).key)).set_ 6 (.string (bareR e.r t).val)).set_ 7 (.string (bareR e.r t).old)).set_ 8 (.int .i64 (bareR e.r t).lim)).set_ 9 (.int .i64 (bareR e.r t).tenant)).set_ 10 (.int .u64 (bareR e.r t).qk)).set_ 11 (.int .u64 (bareR e.r t).qb)).set_ 12 (.int .u8 (bareR e.r t).rights)
  simp only [Ent.row, Req.row, List.setIfInBounds_toArray, List.set_cons_zero, List.set_cons_succ] at b0
  have b1 := ((((((((((((b1).far (p := ⟨w.heap.size, 1, none⟩) (by simp) (.int .i64 (bareR e.r t).deed)).far (p := ⟨w.heap.size, 2, none⟩) (by simp) (.int .i64 (bareR e.r t).ten)).far (p := ⟨w.heap.size, 3, none⟩) (by simp) (.int .u32 (bareR e.r t).gen)).far (p := ⟨w.heap.size, 4, none⟩) (by simp) (.int .u8 (bareR e.r t).rig)).far (p := ⟨w.heap.size, 5, none⟩) (by simp) (.string (bareR e.r t).key)).far (p := ⟨w.heap.size, 6, none⟩) (by simp) (.string (bareR e.r t).val)).far (p := ⟨w.heap.size, 7, none⟩) (by simp) (.string (bareR e.r t).old)).far (p := ⟨w.heap.size, 8, none⟩) (by simp) (.int .i64 (bareR e.r t).lim)).far (p := ⟨w.heap.size, 9, none⟩) (by simp) (.int .i64 (bareR e.r t).tenant)).far (p := ⟨w.heap.size, 10, none⟩) (by simp) (.int .u64 (bareR e.r t).qk)).far (p := ⟨w.heap.size, 11, none⟩) (by simp) (.int .u64 (bareR e.r t).qb)).far (p := ⟨w.heap.size, 12, none⟩) (by simp) (.int .u8 (bareR e.r t).rights)
  have hbel := ((((((((((((hbel).setCell (p := ⟨w.heap.size, 1, none⟩) (Nat.le_refl _) (.int .i64 (bareR e.r t).deed)).setCell (p := ⟨w.heap.size, 2, none⟩) (Nat.le_refl _) (.int .i64 (bareR e.r t).ten)).setCell (p := ⟨w.heap.size, 3, none⟩) (Nat.le_refl _) (.int .u32 (bareR e.r t).gen)).setCell (p := ⟨w.heap.size, 4, none⟩) (Nat.le_refl _) (.int .u8 (bareR e.r t).rig)).setCell (p := ⟨w.heap.size, 5, none⟩) (Nat.le_refl _) (.string (bareR e.r t).key)).setCell (p := ⟨w.heap.size, 6, none⟩) (Nat.le_refl _) (.string (bareR e.r t).val)).setCell (p := ⟨w.heap.size, 7, none⟩) (Nat.le_refl _) (.string (bareR e.r t).old)).setCell (p := ⟨w.heap.size, 8, none⟩) (Nat.le_refl _) (.int .i64 (bareR e.r t).lim)).setCell (p := ⟨w.heap.size, 9, none⟩) (Nat.le_refl _) (.int .i64 (bareR e.r t).tenant)).setCell (p := ⟨w.heap.size, 10, none⟩) (Nat.le_refl _) (.int .u64 (bareR e.r t).qk)).setCell (p := ⟨w.heap.size, 11, none⟩) (Nat.le_refl _) (.int .u64 (bareR e.r t).qb)).setCell (p := ⟨w.heap.size, 12, none⟩) (Nat.le_refl _) (.int .u8 (bareR e.r t).rights)
  have HB2 := Lib.hid (And.intro b0 (And.intro b1 hbel))
  clear b0 b1 hbel HB hb1
  go_wp2_with fail
  refine HK0.out _ _ ?_
  exact blur1_end (bareE t e) w _ HB2.out.1 HB2.out.2.1 HB2.out.2.2

set_option maxHeartbeats 3200000 in
set_option maxRecDepth 100000 in
theorem chosen_any (es : List Ent) (t : Int) (A : Option Addr) (c g3 : Nat) (w : World) (hl : es.length ≤ 65536) (hA : Reads w w.heap.size 13 A es.length (es.flatMap Ent.row)) (hcap : w.cell? ⟨g3, 0, none⟩ = some (.int .i64 t)) :
    Calls Try.prog 38 #[.slice A es.length c, .func (.func 39) #[] #[.pointer (some ⟨g3, 0, none⟩)]] w (CopyEntriesEnd (es.map (bareE t)) w) := by
  obtain ⟨i0, hi0, iz0, iz1, iz2⟩ := info_parts infoEntries
  have hg3 : g3 < w.heap.size := World.block_lt_of_cell? w _ hcap
  have hli : (es.length : Int) ≤ 65536 := by omega
  have HA := Lib.hid hA
  have HC := Lib.hid hcap
  clear hA hcap
  go_enter Try.func38, Try.ntmps38
  go_wp2_with fail
  go_loopw [5, 12] (fun v i wr => ∃ k : Nat, k ≤ es.length ∧ i = .int .i64 k ∧ wr.ownsRow w.heap.size 46 13 v k (((es.take k).map (bareE t)).flatMap Ent.row) ∧ Below w.heap.size w wr) (fun _ i _ => es.length - (intOf i).toNat)
  case atStart => exact ⟨0, Nat.zero_le _, rfl, ⟨rfl, Or.inl ⟨rfl, rfl⟩⟩, Below.refl _ _⟩
  case round =>
    obtain ⟨k, hk, rfl, hown, hbel⟩ := hrel
    have hsz := hbel.size
    by_cases hlt : k < es.length
    · obtain ⟨ad, rfl, hab, hc⟩ := row_cells ent_row_len HA.out rfl hlt
      have hcc : ∀ j u, (Ent.row es[k])[j]? = some u → wr.cell? ((ad.add (k * 13)).add j) = some u := fun j u hu => (hbel.cell (by rw [block_of_add, block_of_add]; exact hab)).trans (hc j u hu)
      have htake : es.take (k + 1) = es.take k ++ [es[k]] := List.take_succ_eq_append_getElem hlt
      generalize es[k] = e at hcc htake
      have HT := Lib.hid htake
      obtain ⟨p0, p1, p2, p3, p4, p5, p6, p7, p8, p9, p10, p11, p12⟩ := ent_facts0 hcc
      have i1 : (0 : Int) ≤ (k : Int) := by omega
      have i2 : (k : Int) < (es.length : Int) := by omega
      have c3 := (hbel.cell (p := ⟨g3, 0, none⟩) hg3).trans HC.out
      have c3x := (World.cell?_alloc_some wr _ (.cells #[.int .i64 e.ses, .int .i64 e.r.deed, .int .i64 e.r.ten, .int .u32 e.r.gen, .int .u8 e.r.rig, .string e.r.key, .string e.r.val, .string e.r.old, .int .i64 e.r.lim, .int .i64 e.r.tenant, .int .u64 e.r.qk, .int .u64 e.r.qb, .int .u8 e.r.rights] 46) (by rw [c3]; rfl)).trans c3
      have HOW := Lib.hid hown
      have HB := Lib.hid hbel
      clear hc hcc htake hown hbel
      obtain ⟨x, hx⟩ : ∃ x, bareE t e = x := ⟨_, rfl⟩
      have hcall := fun W h => blur1_any e t g3 W h
      rw [hx] at hcall
      have HCall := Lib.hid hcall
      have HX := Lib.hid hx
      clear hcall hx
      go_wp2_with (first
        | (go_at_call 39
           refine (HCall.out _ c3x).mono ?_
           rintro e' w' ⟨rfl, hbm⟩
           have hsz1 : wr.heap.size + 1 ≤ w'.heap.size := by have := hbm.size; simp at this; omega
           have hown := ownsRow_below (HOW.out.alloc (.cells #[.int .i64 e.ses, .int .i64 e.r.deed, .int .i64 e.r.ten, .int .u32 e.r.gen, .int .u8 e.r.rig, .string e.r.key, .string e.r.val, .string e.r.old, .int .i64 e.r.lim, .int .i64 e.r.tenant, .int .u64 e.r.qk, .int .u64 e.r.qb, .int .u8 e.r.rights] 46)) hbm (Nat.le_refl _)
           have hbel := below_trans (below_alloc HB.out (.cells #[.int .i64 e.ses, .int .i64 e.r.deed, .int .i64 e.r.ten, .int .u32 e.r.gen, .int .u8 e.r.rig, .string e.r.key, .string e.r.val, .string e.r.old, .int .i64 e.r.lim, .int .i64 e.r.tenant, .int .u64 e.r.qk, .int .u64 e.r.qb, .int .u8 e.r.rights] 46)) hbm
           have HOW2 := Lib.hid hown
           have HB2 := Lib.hid hbel
           clear hown hbel hbm)
        | (at_builtin
           refine wpList_append_any _ rfl (.tmp 23) (.tmp 25) _ rfl w.heap.size 46 i0 _ 13 120 Try.underlying38 hi0 iz0 iz1 iz2 rfl (by omega) u5 k (((es.take k).map (bareE t)).flatMap Ent.row) rfl
             ((HOW2.out.alloc _).alloc _) _ (some ⟨w'.heap.size + 1, 0, none⟩) 1 1 (Ent.row x) rfl (reads_of_blk (blk_newAt (by simp)) rfl rfl) (ent_one _) (by unfold maxLen; omega) (by omega) (by simp; omega) ?_
           intro v2 w2 hown2 hg2 hat2
           have hbel2 : Below w.heap.size w w2 := below_app (below_alloc (below_alloc HB2.out _) _) ((HOW2.out.alloc _).alloc _) hg2 (Nat.le_refl _) (by simp; omega)))
      clear hg2 hat2
      go_roundw
      case rel =>
        refine ⟨k + 1, by omega, by go_num, ?_, hbel2⟩
        rw [HT.out, List.map_append, List.flatMap_append, List.map_singleton, List.flatMap_singleton, HX.out]
        exact hown2
      case measure => simp [intOf]; omega
    · obtain rfl : k = es.length := by omega
      rw [List.take_length] at hown
      have HO := Lib.hid (And.intro hown hbel)
      clear hown hbel
      go_wp2
      go_ret
      exact ⟨u5, rfl, by rw [List.length_map]; exact HO.out.1, HO.out.2⟩

set_option maxHeartbeats 800000 in
set_option maxRecDepth 100000 in
/-- slices.Clone at []int. -/
theorem clone_any (l : List Int) (A : Option Addr) (c : Nat) (w : World) (hl : l.length ≤ 65536) (hA : Reads w w.heap.size 1 A l.length (l.flatMap irow)) :
    Calls Try.prog 41 #[.slice A l.length c] w (CopyIntsEnd l w) := by
  obtain ⟨i0, hi0, iz0, iz1, iz2⟩ := info_parts infoInts
  have HA := Lib.hid hA
  have heq := fun (W : World) => Lib.run_eql_slice_nil (P := Try.prog) W 39 3 A l.length c 0 0 Try.underlying39
  have HEQ := Lib.hid heq
  clear heq
  cases A with
  | none =>
    have h0 : l.length = 0 := by
      rcases Nat.eq_zero_or_pos l.length with h | h
      · exact h
      · obtain ⟨ad, h1, _⟩ := hA.2 h; cases h1
    have hn : l = [] := List.length_eq_zero_iff.1 h0
    subst hn
    have heq := HEQ.out
    simp at heq
    clear hA h0 HEQ
    go_enter Try.func41, Try.ntmps41
    go_wp2
    go_ret
    exact ⟨_, rfl, ⟨rfl, Or.inl ⟨rfl, rfl⟩⟩, Below.refl _ _⟩
  | some ad =>
    have heq := HEQ.out
    simp at heq
    clear hA HEQ
    go_enter Try.func41, Try.ntmps41
    go_wp2_with (first
      | (at_builtin
         have hown0 : (w.alloc (.cells #[] 3)).ownsRow w.heap.size 3 1 (.slice (some ⟨w.heap.size, 0, none⟩) 0 0) 0 [] := Blk.own (Blk.new _ _ _) (Nat.le_refl _) (Nat.le_refl _) (Nat.zero_le _) rfl rfl
         refine wpList_append_any _ rfl (.tmp 5) (.tmp 6) _ rfl w.heap.size 3 i0 _ 1 8 Try.underlying39 hi0 iz0 iz1 iz2 rfl (by omega) (.slice (some ⟨w.heap.size, 0, none⟩) 0 0) 0 [] rfl
           hown0 w.heap.size (some ad) l.length c _ rfl (HA.out.alloc (Nat.le_refl _) _) (flat_one irow_one l) (by unfold maxLen; omega) (by omega) (by simp) ?_
         intro v1 w1 hown1 hg1 hat1
         have hbel1 : Below w.heap.size w w1 := below_app (below_box w _) hown0 hg1 (Nat.le_refl _) (by simp)))
    simp only [List.nil_append, Nat.zero_add] at hown1
    clear hg1 hat1
    go_ret
    exact ⟨_, rfl, hown1, hbel1⟩
end Go.Proofs.Ytlmehmmdbdembaa
