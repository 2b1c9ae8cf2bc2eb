/-
  Walks: hide.Alike.
-/
import Derived.Test.YtlmehmmdbdembaaAlikeW
namespace Go.Proofs.Ytlmehmmdbdembaa
open Go.RowKit
set_option linter.unusedVariables false

theorem two_boxes {W2 W : World} {gx gy : Nat} {x y : Ent} (bx : Blk W2 gx 46 x.row.toArray) (by_ : Blk W2 gy 46 y.row.toArray) (h : Below W2.heap.size W2 W) :
    Below W2.heap.size W2 W ∧ W.cell? ⟨gx, 0, none⟩ = some (.int .i64 x.ses) ∧ W.cell? ⟨gx, 1, none⟩ = some (.int .i64 x.r.deed) ∧ W.cell? ⟨gx, 2, none⟩ = some (.int .i64 x.r.ten) ∧ W.cell? ⟨gx, 3, none⟩ = some (.int .u32 x.r.gen) ∧ W.cell? ⟨gx, 4, none⟩ = some (.int .u8 x.r.rig) ∧ W.cell? ⟨gx, 5, none⟩ = some (.string x.r.key) ∧ W.cell? ⟨gx, 6, none⟩ = some (.string x.r.val) ∧ W.cell? ⟨gx, 7, none⟩ = some (.string x.r.old) ∧ W.cell? ⟨gx, 8, none⟩ = some (.int .i64 x.r.lim) ∧ W.cell? ⟨gx, 9, none⟩ = some (.int .i64 x.r.tenant) ∧ W.cell? ⟨gx, 10, none⟩ = some (.int .u64 x.r.qk) ∧ W.cell? ⟨gx, 11, none⟩ = some (.int .u64 x.r.qb) ∧ W.cell? ⟨gx, 12, none⟩ = some (.int .u8 x.r.rights) ∧ W.cell? ⟨gy, 0, none⟩ = some (.int .i64 y.ses) ∧ W.cell? ⟨gy, 1, none⟩ = some (.int .i64 y.r.deed) ∧ W.cell? ⟨gy, 2, none⟩ = some (.int .i64 y.r.ten) ∧ W.cell? ⟨gy, 3, none⟩ = some (.int .u32 y.r.gen) ∧ W.cell? ⟨gy, 4, none⟩ = some (.int .u8 y.r.rig) ∧ W.cell? ⟨gy, 5, none⟩ = some (.string y.r.key) ∧ W.cell? ⟨gy, 6, none⟩ = some (.string y.r.val) ∧ W.cell? ⟨gy, 7, none⟩ = some (.string y.r.old) ∧ W.cell? ⟨gy, 8, none⟩ = some (.int .i64 y.r.lim) ∧ W.cell? ⟨gy, 9, none⟩ = some (.int .i64 y.r.tenant) ∧ W.cell? ⟨gy, 10, none⟩ = some (.int .u64 y.r.qk) ∧ W.cell? ⟨gy, 11, none⟩ = some (.int .u64 y.r.qb) ∧ W.cell? ⟨gy, 12, none⟩ = some (.int .u8 y.r.rights) := by
  obtain ⟨p0, p1, p2, p3, p4, p5, p6, p7, p8, p9, p10, p11, p12⟩ := ent_box_cells (bx.below h bx.lt)
  exact ⟨h, p0, p1, p2, p3, p4, p5, p6, p7, p8, p9, p10, p11, p12, ent_box_cells (by_.below h by_.lt)⟩

set_option maxHeartbeats 6400000 in
set_option maxRecDepth 100000 in
theorem alike_any (A B A' B' : Option Addr) (c d c' d' : Nat) (a b : List Ent) (pa pb : List Int) (t : Int) (w : World) (h : ScrIn w A B a pa) (h' : ScrIn w A' B' b pb) :
    Calls Try.prog 20 #[.agg #[.slice A a.length c, .slice B pa.length d], .agg #[.slice A' b.length c', .slice B' pb.length d'], .int .i64 t] w (BoolEnd (alikeB a b pa pb t) w) := by
  have H := Lib.hid (And.intro h h')
  have hli : (a.length : Int) ≤ 65536 := by have := h.le; omega
  have hlj : (b.length : Int) ≤ 65536 := by have := h'.le; omega
  clear h h'
  go_enter Try.func20, Try.ntmps20
  refine wp_seq_k fun K0 hK => ?_
  have HK0 := Lib.hid hK
  clear hK
  go_wp2_with fail
  refine HK0.out _ _ ?_
  clear HK0 K0
  have b0 := (Blk.new w 41 #[.slice A a.length c, .slice B pa.length d]).alloc (.cells #[.slice A' b.length c', .slice B' pb.length d'] 41)
  have b1 := blk_newAt (w := w.alloc (.cells #[.slice A a.length c, .slice B pa.length d] 41)) (g := w.heap.size + 1) (t := 41) (cs := #[.slice A' b.length c', .slice B' pb.length d']) (by simp)
  have hbel : Below w.heap.size w ((w.alloc (.cells #[.slice A a.length c, .slice B pa.length d] 41)).alloc (.cells #[.slice A' b.length c', .slice B' pb.length d'] 41)) := below_alloc (below_box w _) _
  generalize (w.alloc (.cells #[.slice A a.length c, .slice B pa.length d] 41)).alloc (.cells #[.slice A' b.length c', .slice B' pb.length d'] 41) = W0 at b0 b1 hbel ⊢
  have x0 := b0.cell 0
  have x1 := b0.cell 1
  have y0 := b1.cell 0
  have y1 := b1.cell 1
  simp at x0 x1 y0 y1
  have HB := Lib.hid (And.intro b0 (And.intro b1 hbel))
  clear b0 b1 hbel
  by_cases hlen : a.length = b.length
  case neg =>
    have hlb : ((a.length : Int) != (b.length : Int)) = true := by simp; omega
    have e := alike_len (pa := pa) (pb := pb) (t := t) hlen
    have HEE := Lib.hid e
    clear e hlen
    go_wp2
    go_ret
    exact ⟨ret_bool HEE.out.symm, HB.out.2.2⟩
  have hlb : ((a.length : Int) != (b.length : Int)) = false := by simp [hlen]
  have hle : a.length ≤ b.length := by omega
  have hge : b.length ≤ a.length := by omega
  have HL := Lib.hid hlen
  clear hlen
  refine wp_seq_k fun K0 hK => ?_
  have HK0 := Lib.hid hK
  clear hK
  go_wp2_with fail
  have hs := H.out.1.below HB.out.2.2
  have hs' := H.out.2.below HB.out.2.2
  refine (equal_ints B B' d d' pa pb _ _ _ hs.lp hs'.lp hs.p hs'.p).mono ?_
  rintro e w1 ⟨rfl, n1, hw1⟩
  have hb1 : Below W0.heap.size W0 w1 := by rw [hw1]; exact below_drewN (Below.refl _ _) n1
  have b0 := HB.out.1.below hb1 HB.out.1.lt
  have b1 := HB.out.2.1.below hb1 HB.out.2.1.lt
  have hbel := below_trans HB.out.2.2 hb1
  clear x0 x1 y0 y1 hlb hw1 hb1 hs hs' HB
  have x0 := b0.cell 0
  have y0 := b1.cell 0
  simp at x0 y0
  have HB := Lib.hid (And.intro b0 (And.intro b1 hbel))
  clear b0 b1 hbel
  by_cases hpp : pa = pb
  case neg =>
    rw [decide_eq_false hpp]
    have e := alike_picks (a := a) (b := b) (t := t) hpp
    have HEE := Lib.hid e
    clear e hpp
    go_wp2
    go_ret
    exact ⟨ret_bool HEE.out.symm, HB.out.2.2⟩
  rw [decide_eq_true hpp]
  have HPP := Lib.hid hpp
  clear hpp
  go_wp2_with fail
  refine HK0.out _ _ ?_
  clear HK0 K0
  refine wp_seq_k fun K0 hK => ?_
  have HK0 := Lib.hid hK
  clear hK
  go_wp2_with fail
  go_loopw [28] (fun i wr => ∃ k : Nat, k ≤ a.length ∧ i = .int .i64 k ∧ Below w1.heap.size w1 wr ∧ Hid ((a.map (bareE t)).take k = (b.map (bareE t)).take k)) (fun i _ => a.length - (intOf i).toNat)
  case atStart => exact ⟨0, by omega, rfl, Below.refl _ _, Lib.hid rfl⟩
  case round =>
    obtain ⟨k, hk, rfl, hbel, he⟩ := hrel
    have hsz := hbel.size
    clear x0 y0
    have x0 := (hbel.cell (p := ⟨w.heap.size, 0, none⟩) HB.out.1.lt).trans (HB.out.1.cell 0)
    have y0 := (hbel.cell (p := ⟨w.heap.size + 1, 0, none⟩) HB.out.2.1.lt).trans (HB.out.2.1.cell 0)
    simp at x0 y0
    by_cases hlt : k < a.length
    · have hst := alike_step HL.out hlt he.out
      have hsw := H.out.1.below HB.out.2.2
      have hsw' := H.out.2.below HB.out.2.2
      obtain ⟨ad, rfl, hab, hc⟩ := row_cells ent_row_len hsw.e rfl hlt
      obtain ⟨bd, rfl, hbb, hd⟩ := row_cells ent_row_len hsw'.e rfl (show k < b.length by omega)
      generalize a[k] = x at hst hc
      generalize b[k]'(by omega) = y at hst hd
      have i1 : (0 : Int) ≤ (k : Int) := by omega
      have i2 : (k : Int) < (a.length : Int) := by omega
      have i3 : (k : Int) < (b.length : Int) := by omega
      have HST := Lib.hid hst
      have hcc : ∀ W, Below w1.heap.size w1 W → ∀ j u, (Ent.row x)[j]? = some u → W.cell? ((ad.add (k * 13)).add j) = some u := fun W hW j u hu => (hW.cell (by rw [block_of_add, block_of_add]; exact hab)).trans (hc j u hu)
      have hdd : ∀ W, Below w1.heap.size w1 W → ∀ j u, (Ent.row y)[j]? = some u → W.cell? ((bd.add (k * 13)).add j) = some u := fun W hW j u hu => (hW.cell (by rw [block_of_add, block_of_add]; exact hbb)).trans (hd j u hu)
      obtain ⟨p0, p1, p2, p3, p4, p5, p6, p7, p8, p9, p10, p11, p12⟩ := ent_facts2 (hcc _ hbel)
      obtain ⟨q0, q1, q2, q3, q4, q5, q6, q7, q8, q9, q10, q11, q12⟩ := ent_facts2 (hdd _ hbel)
      have HC := Lib.hid hcc
      have HD := Lib.hid hdd
      clear hst hc hd hcc hdd hsw hsw'
      have r0 := (World.cell?_alloc_some wr _ (.cells #[.int .i64 x.ses, .int .i64 x.r.deed, .int .i64 x.r.ten, .int .u32 x.r.gen, .int .u8 x.r.rig, .string x.r.key, .string x.r.val, .string x.r.old, .int .i64 x.r.lim, .int .i64 x.r.tenant, .int .u64 x.r.qk, .int .u64 x.r.qb, .int .u8 x.r.rights] 46) (by rw [q0]; rfl)).trans q0
      have r1 := (World.cell?_alloc_some wr _ (.cells #[.int .i64 x.ses, .int .i64 x.r.deed, .int .i64 x.r.ten, .int .u32 x.r.gen, .int .u8 x.r.rig, .string x.r.key, .string x.r.val, .string x.r.old, .int .i64 x.r.lim, .int .i64 x.r.tenant, .int .u64 x.r.qk, .int .u64 x.r.qb, .int .u8 x.r.rights] 46) (by rw [q1]; rfl)).trans q1
      have r2 := (World.cell?_alloc_some wr _ (.cells #[.int .i64 x.ses, .int .i64 x.r.deed, .int .i64 x.r.ten, .int .u32 x.r.gen, .int .u8 x.r.rig, .string x.r.key, .string x.r.val, .string x.r.old, .int .i64 x.r.lim, .int .i64 x.r.tenant, .int .u64 x.r.qk, .int .u64 x.r.qb, .int .u8 x.r.rights] 46) (by rw [q2]; rfl)).trans q2
      have r3 := (World.cell?_alloc_some wr _ (.cells #[.int .i64 x.ses, .int .i64 x.r.deed, .int .i64 x.r.ten, .int .u32 x.r.gen, .int .u8 x.r.rig, .string x.r.key, .string x.r.val, .string x.r.old, .int .i64 x.r.lim, .int .i64 x.r.tenant, .int .u64 x.r.qk, .int .u64 x.r.qb, .int .u8 x.r.rights] 46) (by rw [q3]; rfl)).trans q3
      have r4 := (World.cell?_alloc_some wr _ (.cells #[.int .i64 x.ses, .int .i64 x.r.deed, .int .i64 x.r.ten, .int .u32 x.r.gen, .int .u8 x.r.rig, .string x.r.key, .string x.r.val, .string x.r.old, .int .i64 x.r.lim, .int .i64 x.r.tenant, .int .u64 x.r.qk, .int .u64 x.r.qb, .int .u8 x.r.rights] 46) (by rw [q4]; rfl)).trans q4
      have r5 := (World.cell?_alloc_some wr _ (.cells #[.int .i64 x.ses, .int .i64 x.r.deed, .int .i64 x.r.ten, .int .u32 x.r.gen, .int .u8 x.r.rig, .string x.r.key, .string x.r.val, .string x.r.old, .int .i64 x.r.lim, .int .i64 x.r.tenant, .int .u64 x.r.qk, .int .u64 x.r.qb, .int .u8 x.r.rights] 46) (by rw [q5]; rfl)).trans q5
      have r6 := (World.cell?_alloc_some wr _ (.cells #[.int .i64 x.ses, .int .i64 x.r.deed, .int .i64 x.r.ten, .int .u32 x.r.gen, .int .u8 x.r.rig, .string x.r.key, .string x.r.val, .string x.r.old, .int .i64 x.r.lim, .int .i64 x.r.tenant, .int .u64 x.r.qk, .int .u64 x.r.qb, .int .u8 x.r.rights] 46) (by rw [q6]; rfl)).trans q6
      have r7 := (World.cell?_alloc_some wr _ (.cells #[.int .i64 x.ses, .int .i64 x.r.deed, .int .i64 x.r.ten, .int .u32 x.r.gen, .int .u8 x.r.rig, .string x.r.key, .string x.r.val, .string x.r.old, .int .i64 x.r.lim, .int .i64 x.r.tenant, .int .u64 x.r.qk, .int .u64 x.r.qb, .int .u8 x.r.rights] 46) (by rw [q7]; rfl)).trans q7
      have r8 := (World.cell?_alloc_some wr _ (.cells #[.int .i64 x.ses, .int .i64 x.r.deed, .int .i64 x.r.ten, .int .u32 x.r.gen, .int .u8 x.r.rig, .string x.r.key, .string x.r.val, .string x.r.old, .int .i64 x.r.lim, .int .i64 x.r.tenant, .int .u64 x.r.qk, .int .u64 x.r.qb, .int .u8 x.r.rights] 46) (by rw [q8]; rfl)).trans q8
      have r9 := (World.cell?_alloc_some wr _ (.cells #[.int .i64 x.ses, .int .i64 x.r.deed, .int .i64 x.r.ten, .int .u32 x.r.gen, .int .u8 x.r.rig, .string x.r.key, .string x.r.val, .string x.r.old, .int .i64 x.r.lim, .int .i64 x.r.tenant, .int .u64 x.r.qk, .int .u64 x.r.qb, .int .u8 x.r.rights] 46) (by rw [q9]; rfl)).trans q9
      have r10 := (World.cell?_alloc_some wr _ (.cells #[.int .i64 x.ses, .int .i64 x.r.deed, .int .i64 x.r.ten, .int .u32 x.r.gen, .int .u8 x.r.rig, .string x.r.key, .string x.r.val, .string x.r.old, .int .i64 x.r.lim, .int .i64 x.r.tenant, .int .u64 x.r.qk, .int .u64 x.r.qb, .int .u8 x.r.rights] 46) (by rw [q10]; rfl)).trans q10
      have r11 := (World.cell?_alloc_some wr _ (.cells #[.int .i64 x.ses, .int .i64 x.r.deed, .int .i64 x.r.ten, .int .u32 x.r.gen, .int .u8 x.r.rig, .string x.r.key, .string x.r.val, .string x.r.old, .int .i64 x.r.lim, .int .i64 x.r.tenant, .int .u64 x.r.qk, .int .u64 x.r.qb, .int .u8 x.r.rights] 46) (by rw [q11]; rfl)).trans q11
      have r12 := (World.cell?_alloc_some wr _ (.cells #[.int .i64 x.ses, .int .i64 x.r.deed, .int .i64 x.r.ten, .int .u32 x.r.gen, .int .u8 x.r.rig, .string x.r.key, .string x.r.val, .string x.r.old, .int .i64 x.r.lim, .int .i64 x.r.tenant, .int .u64 x.r.qk, .int .u64 x.r.qb, .int .u8 x.r.rights] 46) (by rw [q12]; rfl)).trans q12
      have y02 := (World.cell?_alloc_some wr _ (.cells #[.int .i64 x.ses, .int .i64 x.r.deed, .int .i64 x.r.ten, .int .u32 x.r.gen, .int .u8 x.r.rig, .string x.r.key, .string x.r.val, .string x.r.old, .int .i64 x.r.lim, .int .i64 x.r.tenant, .int .u64 x.r.qk, .int .u64 x.r.qb, .int .u8 x.r.rights] 46) (by rw [y0]; rfl)).trans y0
      have bx := (ent_box x wr).alloc (.cells #[.int .i64 y.ses, .int .i64 y.r.deed, .int .i64 y.r.ten, .int .u32 y.r.gen, .int .u8 y.r.rig, .string y.r.key, .string y.r.val, .string y.r.old, .int .i64 y.r.lim, .int .i64 y.r.tenant, .int .u64 y.r.qk, .int .u64 y.r.qb, .int .u8 y.r.rights] 46)
      have by_ := blk_newAt (w := wr.alloc (.cells #[.int .i64 x.ses, .int .i64 x.r.deed, .int .i64 x.r.ten, .int .u32 x.r.gen, .int .u8 x.r.rig, .string x.r.key, .string x.r.val, .string x.r.old, .int .i64 x.r.lim, .int .i64 x.r.tenant, .int .u64 x.r.qk, .int .u64 x.r.qb, .int .u8 x.r.rights] 46)) (g := wr.heap.size + 1) (t := 46) (cs := y.row.toArray) (by simp)
      have by_ : Blk ((wr.alloc (.cells #[.int .i64 x.ses, .int .i64 x.r.deed, .int .i64 x.r.ten, .int .u32 x.r.gen, .int .u8 x.r.rig, .string x.r.key, .string x.r.val, .string x.r.old, .int .i64 x.r.lim, .int .i64 x.r.tenant, .int .u64 x.r.qk, .int .u64 x.r.qb, .int .u8 x.r.rights] 46)).alloc (.cells #[.int .i64 y.ses, .int .i64 y.r.deed, .int .i64 y.r.ten, .int .u32 y.r.gen, .int .u8 y.r.rig, .string y.r.key, .string y.r.val, .string y.r.old, .int .i64 y.r.lim, .int .i64 y.r.tenant, .int .u64 y.r.qk, .int .u64 y.r.qb, .int .u8 y.r.rights] 46)) (wr.heap.size + 1) 46 y.row.toArray := by_
      have hbel2 := below_alloc (below_alloc hbel (.cells #[.int .i64 x.ses, .int .i64 x.r.deed, .int .i64 x.r.ten, .int .u32 x.r.gen, .int .u8 x.r.rig, .string x.r.key, .string x.r.val, .string x.r.old, .int .i64 x.r.lim, .int .i64 x.r.tenant, .int .u64 x.r.qk, .int .u64 x.r.qb, .int .u8 x.r.rights] 46)) (.cells #[.int .i64 y.ses, .int .i64 y.r.deed, .int .i64 y.r.ten, .int .u32 y.r.gen, .int .u8 y.r.rig, .string y.r.key, .string y.r.val, .string y.r.old, .int .i64 y.r.lim, .int .i64 y.r.tenant, .int .u64 y.r.qk, .int .u64 y.r.qb, .int .u8 y.r.rights] 46)
      have HBX := Lib.hid (And.intro bx (And.intro by_ hbel2))
      clear bx by_ hbel2
      go_upto_region 7 with fail
      clear p0 p1 p2 p3 p4 p5 p6 p7 p8 p9 p10 p11 p12 q0 q1 q2 q3 q4 q5 q6 q7 q8 q9 q10 q11 q12 r0 r1 r2 r3 r4 r5 r6 r7 r8 r9 r10 r11 r12 x0 y0 y02
      generalize (wr.alloc (.cells #[.int .i64 x.ses, .int .i64 x.r.deed, .int .i64 x.r.ten, .int .u32 x.r.gen, .int .u8 x.r.rig, .string x.r.key, .string x.r.val, .string x.r.old, .int .i64 x.r.lim, .int .i64 x.r.tenant, .int .u64 x.r.qk, .int .u64 x.r.qb, .int .u8 x.r.rights] 46)).alloc (.cells #[.int .i64 y.ses, .int .i64 y.r.deed, .int .i64 y.r.ten, .int .u32 y.r.gen, .int .u8 y.r.rig, .string y.r.key, .string y.r.val, .string y.r.old, .int .i64 y.r.lim, .int .i64 y.r.tenant, .int .u64 y.r.qk, .int .u64 y.r.qb, .int .u8 y.r.rights] 46) = W2 at HBX ⊢
      obtain ⟨bx, by_, hbel2⟩ := HBX.out
      generalize wr.heap.size = gx at bx by_ ⊢
      obtain ⟨gy, hgy⟩ : ∃ gy, gx + 1 = gy := ⟨_, rfl⟩
      rw [hgy] at by_ ⊢
      clear hgy HBX
      obtain ⟨p0, p1, p2, p3, p4, p5, p6, p7, p8, p9, p10, p11, p12⟩ := ent_box_cells bx
      obtain ⟨q0, q1, q2, q3, q4, q5, q6, q7, q8, q9, q10, q11, q12⟩ := ent_box_cells by_
      have HBX := Lib.hid (And.intro bx (And.intro by_ hbel2))
      have bb2 := Below.refl W2.heap.size W2
      clear bx by_ hbel2
      by_cases hss : x.ses = y.ses
      · have hsb : (x.ses != y.ses) = false := by simp [hss]
        have HSS := Lib.hid hss
        obtain ⟨eb, heb⟩ : ∃ eb, decide (bareR x.r t = bareR y.r t) = eb := ⟨_, rfl⟩
        have hne : ∀ W, (binOp .neq 31 (.agg #[.int .i64 (bareR x.r t).deed, .int .i64 (bareR x.r t).ten, .int .u32 (bareR x.r t).gen, .int .u8 (bareR x.r t).rig, .string (bareR x.r t).key, .string (bareR x.r t).val, .string (bareR x.r t).old, .int .i64 (bareR x.r t).lim, .int .i64 (bareR x.r t).tenant, .int .u64 (bareR x.r t).qk, .int .u64 (bareR x.r t).qb, .int .u8 (bareR x.r t).rights]) (.agg #[.int .i64 (bareR y.r t).deed, .int .i64 (bareR y.r t).ten, .int .u32 (bareR y.r t).gen, .int .u8 (bareR y.r t).rig, .string (bareR y.r t).key, .string (bareR y.r t).val, .string (bareR y.r t).old, .int .i64 (bareR y.r t).lim, .int .i64 (bareR y.r t).tenant, .int .u64 (bareR y.r t).qk, .int .u64 (bareR y.r t).qb, .int .u8 (bareR y.r t).rights])).run Try.prog W = .ok (.bool (!eb)) W := fun W => by rw [neqReq, heb]
        have hgr := guardReq
        have HEB := Lib.hid heb
        clear hss heb
        go_region_held3 (fun W => Below W2.heap.size W2 W ∧ W.cell? ⟨gx, 0, none⟩ = some (.int .i64 x.ses) ∧ W.cell? ⟨gx, 1, none⟩ = some (.int .i64 x.r.deed) ∧ W.cell? ⟨gx, 2, none⟩ = some (.int .i64 x.r.ten) ∧ W.cell? ⟨gx, 3, none⟩ = some (.int .u32 x.r.gen) ∧ W.cell? ⟨gx, 4, none⟩ = some (.int .u8 x.r.rig) ∧ W.cell? ⟨gx, 5, none⟩ = some (.string x.r.key) ∧ W.cell? ⟨gx, 6, none⟩ = some (.string x.r.val) ∧ W.cell? ⟨gx, 7, none⟩ = some (.string x.r.old) ∧ W.cell? ⟨gx, 8, none⟩ = some (.int .i64 x.r.lim) ∧ W.cell? ⟨gx, 9, none⟩ = some (.int .i64 x.r.tenant) ∧ W.cell? ⟨gx, 10, none⟩ = some (.int .u64 x.r.qk) ∧ W.cell? ⟨gx, 11, none⟩ = some (.int .u64 x.r.qb) ∧ W.cell? ⟨gx, 12, none⟩ = some (.int .u8 x.r.rights) ∧ W.cell? ⟨gy, 0, none⟩ = some (.int .i64 y.ses) ∧ W.cell? ⟨gy, 1, none⟩ = some (.int .i64 y.r.deed) ∧ W.cell? ⟨gy, 2, none⟩ = some (.int .i64 y.r.ten) ∧ W.cell? ⟨gy, 3, none⟩ = some (.int .u32 y.r.gen) ∧ W.cell? ⟨gy, 4, none⟩ = some (.int .u8 y.r.rig) ∧ W.cell? ⟨gy, 5, none⟩ = some (.string y.r.key) ∧ W.cell? ⟨gy, 6, none⟩ = some (.string y.r.val) ∧ W.cell? ⟨gy, 7, none⟩ = some (.string y.r.old) ∧ W.cell? ⟨gy, 8, none⟩ = some (.int .i64 y.r.lim) ∧ W.cell? ⟨gy, 9, none⟩ = some (.int .i64 y.r.tenant) ∧ W.cell? ⟨gy, 10, none⟩ = some (.int .u64 y.r.qk) ∧ W.cell? ⟨gy, 11, none⟩ = some (.int .u64 y.r.qb) ∧ W.cell? ⟨gy, 12, none⟩ = some (.int .u8 y.r.rights)) (first | exact two_boxes HBX.out.1 HBX.out.2.1 bb2.drew | exact two_boxes HBX.out.1 HBX.out.2.1 hbN)
          (first
            | (go_at_call 40; ((with_reducible refine (bare_any x.r t _).mono ?_); rintro e' wn ⟨rfl, hbm⟩); have hH := ‹Below W2.heap.size W2 _ ∧ _›; have hbN := below_trans hH.1 hbm)
            | (go_at_call 40; ((with_reducible refine (bare_any y.r t _).mono ?_); rintro e' wn ⟨rfl, hbm⟩); have hH := ‹Below W2.heap.size W2 _ ∧ _›; have hbN := below_trans hH.1 hbm))
        have hbW := HBX.out.2.2.trans (hbN.mono HBX.out.2.2.size)
        have hbE := HB.out.2.2.trans (hbW.mono HB.out.2.2.size)
        have HE := Lib.hid hbE
        have HbN := Lib.hid hbW
        clear hbE hbW hbN p0 p1 p2 p3 p4 p5 p6 p7 p8 p9 p10 p11 p12 q0 q1 q2 q3 q4 q5 q6 q7 q8 q9 q10 q11 q12 hne hgr
        cases eb with
        | true =>
          have hT := HST.out.1 ((bareE_iff HSS.out).2 (of_decide_eq_true HEB.out))
          have HT := Lib.hid hT
          clear hT
          go_wp2
          go_roundw
          case rel => exact ⟨k + 1, by omega, by go_num, HbN.out, Lib.hid HT.out⟩
          case measure => simp [intOf]; omega
        | false =>
          have hT := HST.out.2 (fun e => absurd ((bareE_iff HSS.out).1 e) (of_decide_eq_false HEB.out))
          have HNE := Lib.hid hT
          clear hT
          go_wp2
          go_ret
          exact ⟨ret_bool (by rw [alikeB, decide_eq_false (p := a.map (bareE t) = b.map (bareE t)) HNE.out]; simp), HE.out⟩
      · have hsb : (x.ses != y.ses) = true := by simp [hss]
        have hT := HST.out.2 (bareE_ses hss)
        have HNE := Lib.hid hT
        have hbE := HB.out.2.2.trans (HBX.out.2.2.mono HB.out.2.2.size)
        have HE := Lib.hid (below_drewN hbE)
        clear hT hss hbE
        go_quiet (fail)
        go_wp2
        go_ret
        exact ⟨ret_bool (by rw [alikeB, decide_eq_false (p := a.map (bareE t) = b.map (bareE t)) HNE.out]; simp), HE.out _⟩
    · obtain rfl : k = a.length := by omega
      have hT : alikeB a b pa pb t = true := by
        have h1 := he.out
        rw [List.take_of_length_le (by simp), List.take_of_length_le (by simp; omega)] at h1
        unfold alikeB
        rw [decide_eq_true HPP.out, decide_eq_true h1]; rfl
      have HTT := Lib.hid hT
      clear hT
      have hbelE := HB.out.2.2.trans (hbel.mono HB.out.2.2.size)
      have HE := Lib.hid hbelE
      clear hbelE
      go_wp2_with fail
      refine HK0.out _ _ ?_
      go_wp2
      go_ret
      exact ⟨ret_bool HTT.out.symm, HE.out⟩
end Go.Proofs.Ytlmehmmdbdembaa
