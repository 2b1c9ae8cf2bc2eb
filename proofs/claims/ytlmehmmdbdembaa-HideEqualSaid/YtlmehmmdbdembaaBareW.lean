/-
  Requests without their secrets; hide.bare, the reference's secret and equal.
-/
import Derived.Test.YtlmehmmdbdembaaOpenW
import Derived.Test.YtlmehmmdbdembaaAwakeW
namespace Go.Proofs.Ytlmehmmdbdembaa
open Go.RowKit
set_option linter.unusedVariables false

def secB (r : Req) (t : Int) : Bool := decide (1 ≤ r.deed ∧ r.deed ≤ 5 ∧ r.ten ≠ t)
/-- A request without its secrets. -/
def bareR (r : Req) (t : Int) : Req := if secB r t = true then ⟨r.deed, r.ten, r.gen, r.rig, ⟨#[]⟩, ⟨#[]⟩, ⟨#[]⟩, r.lim, r.tenant, r.qk, r.qb, r.rights⟩ else r
def bareE (t : Int) (e : Ent) : Ent := ⟨e.ses, bareR e.r t⟩
def ReqEnd (r : Req) (w : World) (e : Ending) (w' : World) : Prop := e = .returned r.v ∧ Below w.heap.size w w'

theorem bareR_ok {r : Req} (t : Int) (h : r.ok) : (bareR r t).ok := by
  unfold bareR
  split
  · exact ⟨h.deed, h.ten, h.gen, h.rig, Nat.zero_le _, Nat.zero_le _, Nat.zero_le _, h.lim, h.tenant, h.qk, h.qb, h.rights⟩
  · exact h
theorem zero_box (w : World) (t : TypeId) : Blk (w.alloc (.cells #[.int .i64 0, .int .i64 0, .int .u32 0, .int .u8 0, .string ⟨#[]⟩, .string ⟨#[]⟩, .string ⟨#[]⟩, .int .i64 0, .int .i64 0, .int .u64 0, .int .u64 0, .int .u8 0] t)) w.heap.size t #[.int .i64 0, .int .i64 0, .int .u32 0, .int .u8 0, .string ⟨#[]⟩, .string ⟨#[]⟩, .string ⟨#[]⟩, .int .i64 0, .int .i64 0, .int .u64 0, .int .u64 0, .int .u8 0] := Blk.new _ _ _
/-- The twelve cells that a request is stored into. -/
theorem req_slots {W : World} {g : Nat} {t : TypeId} {cs : Array Value} (h : Blk W g t cs) (hs : cs.size = 12) :
    ∃ o0 o1 o2 o3 o4 o5 o6 o7 o8 o9 o10 o11 : Value, (W.cell? ⟨g, 0, none⟩ = some o0 ∧ W.cell? ⟨g, 1, none⟩ = some o1 ∧ W.cell? ⟨g, 2, none⟩ = some o2 ∧ W.cell? ⟨g, 3, none⟩ = some o3 ∧ W.cell? ⟨g, 4, none⟩ = some o4 ∧ W.cell? ⟨g, 5, none⟩ = some o5 ∧ W.cell? ⟨g, 6, none⟩ = some o6 ∧ W.cell? ⟨g, 7, none⟩ = some o7 ∧ W.cell? ⟨g, 8, none⟩ = some o8 ∧ W.cell? ⟨g, 9, none⟩ = some o9 ∧ W.cell? ⟨g, 10, none⟩ = some o10 ∧ W.cell? ⟨g, 11, none⟩ = some o11) ∧ (W.frozen? ⟨g, 0, none⟩ = false ∧ W.frozen? ⟨g, 1, none⟩ = false ∧ W.frozen? ⟨g, 2, none⟩ = false ∧ W.frozen? ⟨g, 3, none⟩ = false ∧ W.frozen? ⟨g, 4, none⟩ = false ∧ W.frozen? ⟨g, 5, none⟩ = false ∧ W.frozen? ⟨g, 6, none⟩ = false ∧ W.frozen? ⟨g, 7, none⟩ = false ∧ W.frozen? ⟨g, 8, none⟩ = false ∧ W.frozen? ⟨g, 9, none⟩ = false ∧ W.frozen? ⟨g, 10, none⟩ = false ∧ W.frozen? ⟨g, 11, none⟩ = false) := by
  have hc : ∀ j, j < cs.size → ∃ u, W.cell? ⟨g, j, none⟩ = some u := fun j hj => ⟨cs[j], by rw [h.cell]; exact Array.getElem?_eq_getElem hj⟩
  obtain ⟨o0, h0⟩ := hc 0 (by omega)
  obtain ⟨o1, h1⟩ := hc 1 (by omega)
  obtain ⟨o2, h2⟩ := hc 2 (by omega)
  obtain ⟨o3, h3⟩ := hc 3 (by omega)
  obtain ⟨o4, h4⟩ := hc 4 (by omega)
  obtain ⟨o5, h5⟩ := hc 5 (by omega)
  obtain ⟨o6, h6⟩ := hc 6 (by omega)
  obtain ⟨o7, h7⟩ := hc 7 (by omega)
  obtain ⟨o8, h8⟩ := hc 8 (by omega)
  obtain ⟨o9, h9⟩ := hc 9 (by omega)
  obtain ⟨o10, h10⟩ := hc 10 (by omega)
  obtain ⟨o11, h11⟩ := hc 11 (by omega)
  exact ⟨o0, o1, o2, o3, o4, o5, o6, o7, o8, o9, o10, o11, ⟨h0, h1, h2, h3, h4, h5, h6, h7, h8, h9, h10, h11⟩, ⟨h.frozen _, h.frozen _, h.frozen _, h.frozen _, h.frozen _, h.frozen _, h.frozen _, h.frozen _, h.frozen _, h.frozen _, h.frozen _, h.frozen _⟩⟩

set_option maxHeartbeats 1600000 in
theorem bare_end (x r : Req) (t : Int) {u1 u3 u5 u6 u7 u8 u9 u10 u11 u12 u13 u14 u15 u16 u17 : Value} (w W : World) (b0 : Blk W w.heap.size 31 x.row.toArray) (b1 : Blk W (w.heap.size + 1) 31 #[.int .i64 0, .int .i64 0, .int .u32 0, .int .u8 0, .string ⟨#[]⟩, .string ⟨#[]⟩, .string ⟨#[]⟩, .int .i64 0, .int .i64 0, .int .u64 0, .int .u64 0, .int .u8 0]) (hbel : Below w.heap.size w W) :
    Code.wp Try.prog (bodyTail Try.f40 2) (bodyPost Try.prog Try.f40 (ReqEnd x w)) ⟨#[r.v, u1, .pointer (some ⟨w.heap.size, 0, none⟩), u3, .pointer (some ⟨w.heap.size + 1, 0, none⟩), u5, u6, u7, u8, u9, u10, u11, u12, u13, u14, u15, u16, u17], []⟩ W := by
  conv => arg 2; whnf
  obtain ⟨h0, h1, h2, h3, h4, h5, h6, h7, h8, h9, h10, h11⟩ := req_cells b0
  obtain ⟨o0, o1, o2, o3, o4, o5, o6, o7, o8, o9, o10, o11, ⟨c0, c1, c2, c3, c4, c5, c6, c7, c8, c9, c10, c11⟩, ⟨f0, f1, f2, f3, f4, f5, f6, f7, f8, f9, f10, f11⟩⟩ := req_slots b1 (by rfl)
  have bR := ((((((((((((b1).set_ 0 (.int .i64 x.deed)).set_ 1 (.int .i64 x.ten)).set_ 2 (.int .u32 x.gen)).set_ 3 (.int .u8 x.rig)).set_ 4 (.string x.key)).set_ 5 (.string x.val)).set_ 6 (.string x.old)).set_ 7 (.int .i64 x.lim)).set_ 8 (.int .i64 x.tenant)).set_ 9 (.int .u64 x.qk)).set_ 10 (.int .u64 x.qb)).set_ 11 (.int .u8 x.rights)
  simp only [List.setIfInBounds_toArray, List.set_cons_zero, List.set_cons_succ] at bR
  have hbR := ((((((((((((hbel).setCell (p := ⟨w.heap.size + 1, 0, none⟩) (by simp) (.int .i64 x.deed)).setCell (p := ⟨w.heap.size + 1, 1, none⟩) (by simp) (.int .i64 x.ten)).setCell (p := ⟨w.heap.size + 1, 2, none⟩) (by simp) (.int .u32 x.gen)).setCell (p := ⟨w.heap.size + 1, 3, none⟩) (by simp) (.int .u8 x.rig)).setCell (p := ⟨w.heap.size + 1, 4, none⟩) (by simp) (.string x.key)).setCell (p := ⟨w.heap.size + 1, 5, none⟩) (by simp) (.string x.val)).setCell (p := ⟨w.heap.size + 1, 6, none⟩) (by simp) (.string x.old)).setCell (p := ⟨w.heap.size + 1, 7, none⟩) (by simp) (.int .i64 x.lim)).setCell (p := ⟨w.heap.size + 1, 8, none⟩) (by simp) (.int .i64 x.tenant)).setCell (p := ⟨w.heap.size + 1, 9, none⟩) (by simp) (.int .u64 x.qk)).setCell (p := ⟨w.heap.size + 1, 10, none⟩) (by simp) (.int .u64 x.qb)).setCell (p := ⟨w.heap.size + 1, 11, none⟩) (by simp) (.int .u8 x.rights)
  obtain ⟨r0, r1, r2, r3, r4, r5, r6, r7, r8, r9, r10, r11⟩ := req_cells (r := x) bR
  have HR := Lib.hid hbR
  clear hbR bR b0 b1 hbel
  go_wp2_with fail
  refine bodyPost_ret (v := x.v) (by simp [results, Try.results40, go_sem, *]) rfl ⟨rfl, HR.out⟩

set_option maxHeartbeats 1600000 in
theorem bare_no (r : Req) (t : Int) (w : World) (hs : secB r t = false) : Calls Try.prog 40 #[r.v, .int .i64 t] w (ReqEnd r w) := by
  have hsv : ¬ (1 ≤ r.deed ∧ r.deed ≤ 5 ∧ r.ten ≠ t) := by simpa [secB] using hs
  clear hs
  go_enter Try.func40, Try.ntmps40
  refine wp_seq_k fun K0 hK => ?_
  have HK0 := Lib.hid hK
  clear hK
  go_wp2_with fail
  refine HK0.out _ _ ?_
  clear HK0 K0
  have b0 := (req_box r w 31).alloc (.cells #[.int .i64 0, .int .i64 0, .int .u32 0, .int .u8 0, .string ⟨#[]⟩, .string ⟨#[]⟩, .string ⟨#[]⟩, .int .i64 0, .int .i64 0, .int .u64 0, .int .u64 0, .int .u8 0] 31)
  have b1 := blk_newAt (w := w.alloc (.cells #[.int .i64 r.deed, .int .i64 r.ten, .int .u32 r.gen, .int .u8 r.rig, .string r.key, .string r.val, .string r.old, .int .i64 r.lim, .int .i64 r.tenant, .int .u64 r.qk, .int .u64 r.qb, .int .u8 r.rights] 31)) (g := w.heap.size + 1) (t := 31) (cs := #[.int .i64 0, .int .i64 0, .int .u32 0, .int .u8 0, .string ⟨#[]⟩, .string ⟨#[]⟩, .string ⟨#[]⟩, .int .i64 0, .int .i64 0, .int .u64 0, .int .u64 0, .int .u8 0]) (by simp)
  have hbel : Below w.heap.size w ((w.alloc (.cells #[.int .i64 r.deed, .int .i64 r.ten, .int .u32 r.gen, .int .u8 r.rig, .string r.key, .string r.val, .string r.old, .int .i64 r.lim, .int .i64 r.tenant, .int .u64 r.qk, .int .u64 r.qb, .int .u8 r.rights] 31)).alloc (.cells #[.int .i64 0, .int .i64 0, .int .u32 0, .int .u8 0, .string ⟨#[]⟩, .string ⟨#[]⟩, .string ⟨#[]⟩, .int .i64 0, .int .i64 0, .int .u64 0, .int .u64 0, .int .u8 0] 31)) := below_alloc (below_box w _) _
  generalize (w.alloc (.cells #[.int .i64 r.deed, .int .i64 r.ten, .int .u32 r.gen, .int .u8 r.rig, .string r.key, .string r.val, .string r.old, .int .i64 r.lim, .int .i64 r.tenant, .int .u64 r.qk, .int .u64 r.qb, .int .u8 r.rights] 31)).alloc (.cells #[.int .i64 0, .int .i64 0, .int .u32 0, .int .u8 0, .string ⟨#[]⟩, .string ⟨#[]⟩, .string ⟨#[]⟩, .int .i64 0, .int .i64 0, .int .u64 0, .int .u64 0, .int .u8 0] 31) = W0 at b0 b1 hbel ⊢
  have ho : (1 ≤ r.deed ∧ r.deed ≤ 5) → ∀ W, Calls Try.prog 8 #[r.v] W (IntEnd r.ten W) := fun hd W => by
    have h := owner_any r W
    have e : ownerOf r = r.ten := by unfold ownerOf; rw [if_pos (by omega)]
    rw [e] at h
    exact h
  have HO := Lib.hid ho
  clear ho
  by_cases hop : 1 ≤ r.deed ∧ r.deed ≤ 5
  · have hb : (r.ten != t) = false := by simp; omega
    have HOP := Lib.hid hop
    obtain ⟨d1, d2⟩ := hop
    obtain ⟨h0, h1, h2, h3, h4, h5, h6, h7, h8, h9, h10, h11⟩ := req_cells b0
    have HB := Lib.hid (And.intro b0 (And.intro b1 hbel))
    clear b0 b1 hbel hsv
    refine wp_seq_k fun K0 hK => ?_
    have HK0 := Lib.hid hK
    clear hK
    go_wp2_with (first | (go_at_call 27; refine (operation_yes _ _ d1 d2).mono ?_; rintro e w' ⟨rfl, rfl⟩) | (go_at_call 8; refine (HO.out HOP.out _).mono ?_; rintro e w' ⟨rfl, hb1⟩))
    refine HK0.out _ _ ?_
    clear HK0 K0 h0 h1 h2 h3 h4 h5 h6 h7 h8 h9 h10 h11
    have b0 := HB.out.1.below hb1 HB.out.1.lt
    have b1 := HB.out.2.1.below hb1 HB.out.2.1.lt
    have hbel := below_trans HB.out.2.2 hb1
    exact bare_end r r t w _ b0 b1 hbel
  · obtain ⟨h0, h1, h2, h3, h4, h5, h6, h7, h8, h9, h10, h11⟩ := req_cells b0
    have HB := Lib.hid (And.intro b0 (And.intro b1 hbel))
    clear b0 b1 hbel hsv
    refine wp_seq_k fun K0 hK => ?_
    have HK0 := Lib.hid hK
    clear hK
    go_wp2_with ((go_at_call 27; refine (operation_no _ _ hop).mono ?_; rintro e w' ⟨rfl, rfl⟩))
    refine HK0.out _ _ ?_
    exact bare_end r r t w _ HB.out.1 HB.out.2.1 HB.out.2.2
set_option maxHeartbeats 1600000 in
theorem bare_yes (r : Req) (t : Int) (w : World) (hs : secB r t = true) : Calls Try.prog 40 #[r.v, .int .i64 t] w (ReqEnd ⟨r.deed, r.ten, r.gen, r.rig, ⟨#[]⟩, ⟨#[]⟩, ⟨#[]⟩, r.lim, r.tenant, r.qk, r.qb, r.rights⟩ w) := by
  have hsv : 1 ≤ r.deed ∧ r.deed ≤ 5 ∧ r.ten ≠ t := by simpa [secB] using hs
  clear hs
  obtain ⟨d1, d2, d3⟩ := hsv
  go_enter Try.func40, Try.ntmps40
  refine wp_seq_k fun K0 hK => ?_
  have HK0 := Lib.hid hK
  clear hK
  go_wp2_with fail
  refine HK0.out _ _ ?_
  clear HK0 K0
  have b0 := (req_box r w 31).alloc (.cells #[.int .i64 0, .int .i64 0, .int .u32 0, .int .u8 0, .string ⟨#[]⟩, .string ⟨#[]⟩, .string ⟨#[]⟩, .int .i64 0, .int .i64 0, .int .u64 0, .int .u64 0, .int .u8 0] 31)
  have b1 := blk_newAt (w := w.alloc (.cells #[.int .i64 r.deed, .int .i64 r.ten, .int .u32 r.gen, .int .u8 r.rig, .string r.key, .string r.val, .string r.old, .int .i64 r.lim, .int .i64 r.tenant, .int .u64 r.qk, .int .u64 r.qb, .int .u8 r.rights] 31)) (g := w.heap.size + 1) (t := 31) (cs := #[.int .i64 0, .int .i64 0, .int .u32 0, .int .u8 0, .string ⟨#[]⟩, .string ⟨#[]⟩, .string ⟨#[]⟩, .int .i64 0, .int .i64 0, .int .u64 0, .int .u64 0, .int .u8 0]) (by simp)
  have hbel : Below w.heap.size w ((w.alloc (.cells #[.int .i64 r.deed, .int .i64 r.ten, .int .u32 r.gen, .int .u8 r.rig, .string r.key, .string r.val, .string r.old, .int .i64 r.lim, .int .i64 r.tenant, .int .u64 r.qk, .int .u64 r.qb, .int .u8 r.rights] 31)).alloc (.cells #[.int .i64 0, .int .i64 0, .int .u32 0, .int .u8 0, .string ⟨#[]⟩, .string ⟨#[]⟩, .string ⟨#[]⟩, .int .i64 0, .int .i64 0, .int .u64 0, .int .u64 0, .int .u8 0] 31)) := below_alloc (below_box w _) _
  generalize (w.alloc (.cells #[.int .i64 r.deed, .int .i64 r.ten, .int .u32 r.gen, .int .u8 r.rig, .string r.key, .string r.val, .string r.old, .int .i64 r.lim, .int .i64 r.tenant, .int .u64 r.qk, .int .u64 r.qb, .int .u8 r.rights] 31)).alloc (.cells #[.int .i64 0, .int .i64 0, .int .u32 0, .int .u8 0, .string ⟨#[]⟩, .string ⟨#[]⟩, .string ⟨#[]⟩, .int .i64 0, .int .i64 0, .int .u64 0, .int .u64 0, .int .u8 0] 31) = W0 at b0 b1 hbel ⊢
  have ho : ∀ W, Calls Try.prog 8 #[r.v] W (IntEnd r.ten W) := fun W => by
    have h := owner_any r W
    have e : ownerOf r = r.ten := by unfold ownerOf; rw [if_pos (by omega)]
    rw [e] at h
    exact h
  have HO := Lib.hid ho
  have hb : (r.ten != t) = true := by simp; exact d3
  obtain ⟨h0, h1, h2, h3, h4, h5, h6, h7, h8, h9, h10, h11⟩ := req_cells b0
  have HB := Lib.hid (And.intro b0 (And.intro b1 hbel))
  clear b0 b1 hbel ho d3
  refine wp_seq_k fun K0 hK => ?_
  have HK0 := Lib.hid hK
  clear hK
  go_upto_region 2 with (first | (go_at_call 27; refine (operation_yes _ _ d1 d2).mono ?_; rintro e w' ⟨rfl, rfl⟩) | (go_at_call 8; refine (HO.out _).mono ?_; rintro e w' ⟨rfl, hb1⟩))
  clear h0 h1 h2 h3 h4 h5 h6 h7 h8 h9 h10 h11
  have b0 := HB.out.1.below hb1 HB.out.1.lt
  have b1 := HB.out.2.1.below hb1 HB.out.2.1.lt
  have hbel := below_trans HB.out.2.2 hb1
  obtain ⟨h0, h1, h2, h3, h4, h5, h6, h7, h8, h9, h10, h11⟩ := req_cells b0
  have f4 := b0.frozen 4
  have f5 := b0.frozen 5
  have f6 := b0.frozen 6
  have b0 := ((b0.set_ 4 (.string ⟨#[]⟩)).set_ 5 (.string ⟨#[]⟩)).set_ 6 (.string ⟨#[]⟩)
  have b1 := ((b1.far (p := ⟨w.heap.size, 4, none⟩) (by simp) (.string ⟨#[]⟩)).far (p := ⟨w.heap.size, 5, none⟩) (by simp) (.string ⟨#[]⟩)).far (p := ⟨w.heap.size, 6, none⟩) (by simp) (.string ⟨#[]⟩)
  have hbel := ((hbel.setCell (p := ⟨w.heap.size, 4, none⟩) (Nat.le_refl _) (.string ⟨#[]⟩)).setCell (p := ⟨w.heap.size, 5, none⟩) (Nat.le_refl _) (.string ⟨#[]⟩)).setCell (p := ⟨w.heap.size, 6, none⟩) (Nat.le_refl _) (.string ⟨#[]⟩)
  have HB2 := Lib.hid (And.intro b0 (And.intro b1 hbel))
  clear b0 b1 hbel HB hb1
  go_wp2_with fail
  refine HK0.out _ _ ?_
  exact bare_end ⟨r.deed, r.ten, r.gen, r.rig, ⟨#[]⟩, ⟨#[]⟩, ⟨#[]⟩, r.lim, r.tenant, r.qk, r.qb, r.rights⟩ r t w _ HB2.out.1 HB2.out.2.1 HB2.out.2.2
theorem bare_any (r : Req) (t : Int) (w : World) : Calls Try.prog 40 #[r.v, .int .i64 t] w (ReqEnd (bareR r t) w) := by
  unfold bareR
  cases h : secB r t with
  | true => exact bare_yes r t w h
  | false => exact bare_no r t w h
end Go.Proofs.Ytlmehmmdbdembaa
