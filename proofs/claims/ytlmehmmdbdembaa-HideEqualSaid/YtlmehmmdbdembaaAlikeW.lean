/-
  Walks: the reference's Alike, hide.Alike.
-/
import Derived.Test.YtlmehmmdbdembaaEqualW
import Derived.Test.YtlmehmmdbdembaaRefCurW
namespace Go.Proofs.Ytlmehmmdbdembaa
open Go.RowKit
set_option linter.unusedVariables false

/-- Whether two scripts differ only in what others keep. -/
def alikeB (a b : List Ent) (pa pb : List Int) (t : Int) : Bool := decide (pa = pb) && decide (a.map (bareE t) = b.map (bareE t))
theorem alike_len {a b : List Ent} {pa pb : List Int} {t : Int} (h : a.length ≠ b.length) : alikeB a b pa pb t = false := by
  unfold alikeB
  rw [decide_eq_false (p := a.map (bareE t) = b.map (bareE t)) (fun e => h (by have := congrArg List.length e; simpa using this))]
  simp
theorem alike_picks {a b : List Ent} {pa pb : List Int} {t : Int} (h : pa ≠ pb) : alikeB a b pa pb t = false := by
  unfold alikeB
  rw [decide_eq_false h]; simp
/-- One entry more is the same, or not. -/
theorem alike_step {a b : List Ent} {t : Int} {k : Nat} (hl : a.length = b.length) (hk : k < a.length) (he : (a.map (bareE t)).take k = (b.map (bareE t)).take k) :
    (bareE t a[k] = bareE t (b[k]'(by omega)) → (a.map (bareE t)).take (k + 1) = (b.map (bareE t)).take (k + 1)) ∧ (bareE t a[k] ≠ bareE t (b[k]'(by omega)) → a.map (bareE t) ≠ b.map (bareE t)) := by
  have h := list_split (ss := a.map (bareE t)) (ts := b.map (bareE t)) (k := k) (by simpa using hl) (by simpa using hk) he
  simpa using h
theorem bareE_ses {t : Int} {x y : Ent} (h : x.ses ≠ y.ses) : bareE t x ≠ bareE t y := fun e => h (by have := congrArg Ent.ses e; exact this)
theorem bareE_iff {t : Int} {x y : Ent} (h : x.ses = y.ses) : bareE t x = bareE t y ↔ bareR x.r t = bareR y.r t := by
  unfold bareE
  rw [h]
  simp
theorem ent_facts2 {W : World} {e : Ent} {ad : Addr} {k : Nat} (h : ∀ i u, e.row[i]? = some u → W.cell? ((ad.add (k * 13)).add i) = some u) : W.cell? (ad.add (k * 13)) = some (.int .i64 e.ses) ∧ W.cell? ⟨(ad.add (k * 13)).block, (ad.add (k * 13)).off + 1, none⟩ = some (.int .i64 e.r.deed) ∧ W.cell? ⟨(ad.add (k * 13)).block, (ad.add (k * 13)).off + 2, none⟩ = some (.int .i64 e.r.ten) ∧ W.cell? ⟨(ad.add (k * 13)).block, (ad.add (k * 13)).off + 3, none⟩ = some (.int .u32 e.r.gen) ∧ W.cell? ⟨(ad.add (k * 13)).block, (ad.add (k * 13)).off + 4, none⟩ = some (.int .u8 e.r.rig) ∧ W.cell? ⟨(ad.add (k * 13)).block, (ad.add (k * 13)).off + 5, none⟩ = some (.string e.r.key) ∧ W.cell? ⟨(ad.add (k * 13)).block, (ad.add (k * 13)).off + 6, none⟩ = some (.string e.r.val) ∧ W.cell? ⟨(ad.add (k * 13)).block, (ad.add (k * 13)).off + 7, none⟩ = some (.string e.r.old) ∧ W.cell? ⟨(ad.add (k * 13)).block, (ad.add (k * 13)).off + 8, none⟩ = some (.int .i64 e.r.lim) ∧ W.cell? ⟨(ad.add (k * 13)).block, (ad.add (k * 13)).off + 9, none⟩ = some (.int .i64 e.r.tenant) ∧ W.cell? ⟨(ad.add (k * 13)).block, (ad.add (k * 13)).off + 10, none⟩ = some (.int .u64 e.r.qk) ∧ W.cell? ⟨(ad.add (k * 13)).block, (ad.add (k * 13)).off + 11, none⟩ = some (.int .u64 e.r.qb) ∧ W.cell? ⟨(ad.add (k * 13)).block, (ad.add (k * 13)).off + 12, none⟩ = some (.int .u8 e.r.rights) := ent_facts h

theorem held2 {w1 W : World} {gx gy : Nat} {vx vy : Value} {ad bd : Addr} {k : Nat} {x y : Ent} (h : Below w1.heap.size w1 W) (hx : W.cell? ⟨gx, 0, none⟩ = some vx ∧ W.cell? ⟨gy, 0, none⟩ = some vy) (hp : W.cell? (ad.add (k * 13)) = some (.int .i64 x.ses) ∧ W.cell? ⟨(ad.add (k * 13)).block, (ad.add (k * 13)).off + 1, none⟩ = some (.int .i64 x.r.deed) ∧ W.cell? ⟨(ad.add (k * 13)).block, (ad.add (k * 13)).off + 2, none⟩ = some (.int .i64 x.r.ten) ∧ W.cell? ⟨(ad.add (k * 13)).block, (ad.add (k * 13)).off + 3, none⟩ = some (.int .u32 x.r.gen) ∧ W.cell? ⟨(ad.add (k * 13)).block, (ad.add (k * 13)).off + 4, none⟩ = some (.int .u8 x.r.rig) ∧ W.cell? ⟨(ad.add (k * 13)).block, (ad.add (k * 13)).off + 5, none⟩ = some (.string x.r.key) ∧ W.cell? ⟨(ad.add (k * 13)).block, (ad.add (k * 13)).off + 6, none⟩ = some (.string x.r.val) ∧ W.cell? ⟨(ad.add (k * 13)).block, (ad.add (k * 13)).off + 7, none⟩ = some (.string x.r.old) ∧ W.cell? ⟨(ad.add (k * 13)).block, (ad.add (k * 13)).off + 8, none⟩ = some (.int .i64 x.r.lim) ∧ W.cell? ⟨(ad.add (k * 13)).block, (ad.add (k * 13)).off + 9, none⟩ = some (.int .i64 x.r.tenant) ∧ W.cell? ⟨(ad.add (k * 13)).block, (ad.add (k * 13)).off + 10, none⟩ = some (.int .u64 x.r.qk) ∧ W.cell? ⟨(ad.add (k * 13)).block, (ad.add (k * 13)).off + 11, none⟩ = some (.int .u64 x.r.qb) ∧ W.cell? ⟨(ad.add (k * 13)).block, (ad.add (k * 13)).off + 12, none⟩ = some (.int .u8 x.r.rights)) (hq : W.cell? (bd.add (k * 13)) = some (.int .i64 y.ses) ∧ W.cell? ⟨(bd.add (k * 13)).block, (bd.add (k * 13)).off + 1, none⟩ = some (.int .i64 y.r.deed) ∧ W.cell? ⟨(bd.add (k * 13)).block, (bd.add (k * 13)).off + 2, none⟩ = some (.int .i64 y.r.ten) ∧ W.cell? ⟨(bd.add (k * 13)).block, (bd.add (k * 13)).off + 3, none⟩ = some (.int .u32 y.r.gen) ∧ W.cell? ⟨(bd.add (k * 13)).block, (bd.add (k * 13)).off + 4, none⟩ = some (.int .u8 y.r.rig) ∧ W.cell? ⟨(bd.add (k * 13)).block, (bd.add (k * 13)).off + 5, none⟩ = some (.string y.r.key) ∧ W.cell? ⟨(bd.add (k * 13)).block, (bd.add (k * 13)).off + 6, none⟩ = some (.string y.r.val) ∧ W.cell? ⟨(bd.add (k * 13)).block, (bd.add (k * 13)).off + 7, none⟩ = some (.string y.r.old) ∧ W.cell? ⟨(bd.add (k * 13)).block, (bd.add (k * 13)).off + 8, none⟩ = some (.int .i64 y.r.lim) ∧ W.cell? ⟨(bd.add (k * 13)).block, (bd.add (k * 13)).off + 9, none⟩ = some (.int .i64 y.r.tenant) ∧ W.cell? ⟨(bd.add (k * 13)).block, (bd.add (k * 13)).off + 10, none⟩ = some (.int .u64 y.r.qk) ∧ W.cell? ⟨(bd.add (k * 13)).block, (bd.add (k * 13)).off + 11, none⟩ = some (.int .u64 y.r.qb) ∧ W.cell? ⟨(bd.add (k * 13)).block, (bd.add (k * 13)).off + 12, none⟩ = some (.int .u8 y.r.rights)) :
    Below w1.heap.size w1 W ∧ W.cell? ⟨gx, 0, none⟩ = some vx ∧ W.cell? ⟨gy, 0, none⟩ = some vy ∧ W.cell? (ad.add (k * 13)) = some (.int .i64 x.ses) ∧ W.cell? ⟨(ad.add (k * 13)).block, (ad.add (k * 13)).off + 1, none⟩ = some (.int .i64 x.r.deed) ∧ W.cell? ⟨(ad.add (k * 13)).block, (ad.add (k * 13)).off + 2, none⟩ = some (.int .i64 x.r.ten) ∧ W.cell? ⟨(ad.add (k * 13)).block, (ad.add (k * 13)).off + 3, none⟩ = some (.int .u32 x.r.gen) ∧ W.cell? ⟨(ad.add (k * 13)).block, (ad.add (k * 13)).off + 4, none⟩ = some (.int .u8 x.r.rig) ∧ W.cell? ⟨(ad.add (k * 13)).block, (ad.add (k * 13)).off + 5, none⟩ = some (.string x.r.key) ∧ W.cell? ⟨(ad.add (k * 13)).block, (ad.add (k * 13)).off + 6, none⟩ = some (.string x.r.val) ∧ W.cell? ⟨(ad.add (k * 13)).block, (ad.add (k * 13)).off + 7, none⟩ = some (.string x.r.old) ∧ W.cell? ⟨(ad.add (k * 13)).block, (ad.add (k * 13)).off + 8, none⟩ = some (.int .i64 x.r.lim) ∧ W.cell? ⟨(ad.add (k * 13)).block, (ad.add (k * 13)).off + 9, none⟩ = some (.int .i64 x.r.tenant) ∧ W.cell? ⟨(ad.add (k * 13)).block, (ad.add (k * 13)).off + 10, none⟩ = some (.int .u64 x.r.qk) ∧ W.cell? ⟨(ad.add (k * 13)).block, (ad.add (k * 13)).off + 11, none⟩ = some (.int .u64 x.r.qb) ∧ W.cell? ⟨(ad.add (k * 13)).block, (ad.add (k * 13)).off + 12, none⟩ = some (.int .u8 x.r.rights) ∧ W.cell? (bd.add (k * 13)) = some (.int .i64 y.ses) ∧ W.cell? ⟨(bd.add (k * 13)).block, (bd.add (k * 13)).off + 1, none⟩ = some (.int .i64 y.r.deed) ∧ W.cell? ⟨(bd.add (k * 13)).block, (bd.add (k * 13)).off + 2, none⟩ = some (.int .i64 y.r.ten) ∧ W.cell? ⟨(bd.add (k * 13)).block, (bd.add (k * 13)).off + 3, none⟩ = some (.int .u32 y.r.gen) ∧ W.cell? ⟨(bd.add (k * 13)).block, (bd.add (k * 13)).off + 4, none⟩ = some (.int .u8 y.r.rig) ∧ W.cell? ⟨(bd.add (k * 13)).block, (bd.add (k * 13)).off + 5, none⟩ = some (.string y.r.key) ∧ W.cell? ⟨(bd.add (k * 13)).block, (bd.add (k * 13)).off + 6, none⟩ = some (.string y.r.val) ∧ W.cell? ⟨(bd.add (k * 13)).block, (bd.add (k * 13)).off + 7, none⟩ = some (.string y.r.old) ∧ W.cell? ⟨(bd.add (k * 13)).block, (bd.add (k * 13)).off + 8, none⟩ = some (.int .i64 y.r.lim) ∧ W.cell? ⟨(bd.add (k * 13)).block, (bd.add (k * 13)).off + 9, none⟩ = some (.int .i64 y.r.tenant) ∧ W.cell? ⟨(bd.add (k * 13)).block, (bd.add (k * 13)).off + 10, none⟩ = some (.int .u64 y.r.qk) ∧ W.cell? ⟨(bd.add (k * 13)).block, (bd.add (k * 13)).off + 11, none⟩ = some (.int .u64 y.r.qb) ∧ W.cell? ⟨(bd.add (k * 13)).block, (bd.add (k * 13)).off + 12, none⟩ = some (.int .u8 y.r.rights) := by
  obtain ⟨p0, p1, p2, p3, p4, p5, p6, p7, p8, p9, p10, p11, p12⟩ := hp
  exact ⟨h, hx.1, hx.2, p0, p1, p2, p3, p4, p5, p6, p7, p8, p9, p10, p11, p12, hq⟩

set_option maxHeartbeats 6400000 in
set_option maxRecDepth 100000 in
theorem ralike_any (A B A' B' : Option Addr) (c d c' d' : Nat) (a b : List Ent) (pa pb : List Int) (t : Int) (w : World) (h : ScrIn w A B a pa) (h' : ScrIn w A' B' b pb) :
    Calls Try.prog 21 #[.agg #[.slice A a.length c, .slice B pa.length d], .agg #[.slice A' b.length c', .slice B' pb.length d'], .int .i64 t] w (BoolEnd (alikeB a b pa pb t) w) := by
  have H := Lib.hid (And.intro h h')
  have hli : (a.length : Int) ≤ 65536 := by have := h.le; omega
  have hlj : (b.length : Int) ≤ 65536 := by have := h'.le; omega
  clear h h'
  go_enter Try.func21, Try.ntmps21
  refine wp_seq_k fun K0 hK => ?_
  have HK0 := Lib.hid hK
  clear hK
  go_wp2_with fail
  refine HK0.out _ _ ?_
  clear HK0 K0
  have b0 := (Blk.new w 41 #[.slice A a.length c, .slice B pa.length d]).alloc (.cells #[.slice A' b.length c', .slice B' pb.length d'] 41)
  have b1 := blk_newAt (w := w.alloc (.cells #[.slice A a.length c, .slice B pa.length d] 41)) (g := w.heap.size + 1) (t := 41) (cs := #[.slice A' b.length c', .slice B' pb.length d']) (by simp)
  have hbel : Below w.heap.size w ((w.alloc (.cells #[.slice A a.length c, .slice B pa.length d] 41)).alloc (.cells #[.slice A' b.length c', .slice B' pb.length d'] 41)) := below_alloc (below_box w _) _
  generalize (w.alloc (.cells #[.slice A a.length c, .slice B pa.length d] 41)).alloc (.cells #[.slice A' b.length c', .slice B' pb.length d'] 41) = W0 at b0 b1 hbel ⊢
  have x0 := b0.cell 0
  have x1 := b0.cell 1
  have y0 := b1.cell 0
  have y1 := b1.cell 1
  simp at x0 x1 y0 y1
  have HB := Lib.hid (And.intro b0 (And.intro b1 hbel))
  clear b0 b1 hbel
  by_cases hlen : a.length = b.length
  case neg =>
    have hlb : ((a.length : Int) != (b.length : Int)) = true := by simp; omega
    have e := alike_len (pa := pa) (pb := pb) (t := t) hlen
    have HEE := Lib.hid e
    clear e hlen
    go_wp2
    go_ret
    exact ⟨ret_bool HEE.out.symm, HB.out.2.2⟩
  have hlb : ((a.length : Int) != (b.length : Int)) = false := by simp [hlen]
  have hle : a.length ≤ b.length := by omega
  have hge : b.length ≤ a.length := by omega
  have HL := Lib.hid hlen
  clear hlen
  refine wp_seq_k fun K0 hK => ?_
  have HK0 := Lib.hid hK
  clear hK
  go_wp2_with fail
  have hs := H.out.1.below HB.out.2.2
  have hs' := H.out.2.below HB.out.2.2
  refine (same_ints B B' d d' pa pb _ _ _ hs.lp hs'.lp hs.p hs'.p).mono ?_
  rintro e w1 ⟨rfl, n1, hw1⟩
  have hb1 : Below W0.heap.size W0 w1 := by rw [hw1]; exact below_drewN (Below.refl _ _) n1
  have b0 := HB.out.1.below hb1 HB.out.1.lt
  have b1 := HB.out.2.1.below hb1 HB.out.2.1.lt
  have hbel := below_trans HB.out.2.2 hb1
  clear x0 x1 y0 y1 hlb hw1 hb1 hs hs' HB
  have x0 := b0.cell 0
  have y0 := b1.cell 0
  simp at x0 y0
  have HB := Lib.hid (And.intro b0 (And.intro b1 hbel))
  clear b0 b1 hbel
  by_cases hpp : pa = pb
  case neg =>
    rw [decide_eq_false hpp]
    have e := alike_picks (a := a) (b := b) (t := t) hpp
    have HEE := Lib.hid e
    clear e hpp
    go_wp2
    go_ret
    exact ⟨ret_bool HEE.out.symm, HB.out.2.2⟩
  rw [decide_eq_true hpp]
  have HPP := Lib.hid hpp
  clear hpp
  go_wp2_with fail
  refine HK0.out _ _ ?_
  clear HK0 K0
  refine wp_seq_k fun K0 hK => ?_
  have HK0 := Lib.hid hK
  clear hK
  go_wp2_with fail
  go_loopw [7] (fun i wr => ∃ k : Nat, k ≤ a.length ∧ i = .int .i64 k ∧ Below w1.heap.size w1 wr ∧ Hid ((a.map (bareE t)).take k = (b.map (bareE t)).take k)) (fun i _ => a.length - (intOf i).toNat)
  case atStart => exact ⟨0, by omega, rfl, Below.refl _ _, Lib.hid rfl⟩
  case round =>
    obtain ⟨k, hk, rfl, hbel, he⟩ := hrel
    have hsz := hbel.size
    clear x0 y0
    have x0 := (hbel.cell (p := ⟨w.heap.size, 0, none⟩) HB.out.1.lt).trans (HB.out.1.cell 0)
    have y0 := (hbel.cell (p := ⟨w.heap.size + 1, 0, none⟩) HB.out.2.1.lt).trans (HB.out.2.1.cell 0)
    simp at x0 y0
    by_cases hlt : k < a.length
    · have hst := alike_step HL.out hlt he.out
      have hsw := H.out.1.below HB.out.2.2
      have hsw' := H.out.2.below HB.out.2.2
      obtain ⟨ad, rfl, hab, hc⟩ := row_cells ent_row_len hsw.e rfl hlt
      obtain ⟨bd, rfl, hbb, hd⟩ := row_cells ent_row_len hsw'.e rfl (show k < b.length by omega)
      generalize a[k] = x at hst hc
      generalize b[k]'(by omega) = y at hst hd
      have i1 : (0 : Int) ≤ (k : Int) := by omega
      have i2 : (k : Int) < (a.length : Int) := by omega
      have i3 : (k : Int) < (b.length : Int) := by omega
      have HST := Lib.hid hst
      have hcc : ∀ W, Below w1.heap.size w1 W → ∀ j u, (Ent.row x)[j]? = some u → W.cell? ((ad.add (k * 13)).add j) = some u := fun W hW j u hu => (hW.cell (by rw [block_of_add, block_of_add]; exact hab)).trans (hc j u hu)
      have hdd : ∀ W, Below w1.heap.size w1 W → ∀ j u, (Ent.row y)[j]? = some u → W.cell? ((bd.add (k * 13)).add j) = some u := fun W hW j u hu => (hW.cell (by rw [block_of_add, block_of_add]; exact hbb)).trans (hd j u hu)
      obtain ⟨p0, p1, p2, p3, p4, p5, p6, p7, p8, p9, p10, p11, p12⟩ := ent_facts2 (hcc _ hbel)
      obtain ⟨q0, q1, q2, q3, q4, q5, q6, q7, q8, q9, q10, q11, q12⟩ := ent_facts2 (hdd _ hbel)
      have HC := Lib.hid hcc
      have HD := Lib.hid hdd
      clear hst hc hd hcc hdd hsw hsw'
      by_cases hss : x.ses = y.ses
      · have hsb : (x.ses != y.ses) = false := by simp [hss]
        have HSS := Lib.hid hss
        have hXX : ∀ W, Below w1.heap.size w1 W → W.cell? ⟨w.heap.size, 0, none⟩ = some (.slice (some ad) a.length c) ∧ W.cell? ⟨w.heap.size + 1, 0, none⟩ = some (.slice (some bd) b.length c') := fun W hW =>
          ⟨(hW.cell (p := ⟨w.heap.size, 0, none⟩) HB.out.1.lt).trans (by rw [HB.out.1.cell 0]; rfl), (hW.cell (p := ⟨w.heap.size + 1, 0, none⟩) HB.out.2.1.lt).trans (by rw [HB.out.2.1.cell 0]; rfl)⟩
        have HX := Lib.hid hXX
        obtain ⟨eb, heb⟩ : ∃ eb, decide (bareR x.r t = bareR y.r t) = eb := ⟨_, rfl⟩
        have hcall := fun W => equal_any x.r y.r t W
        rw [heb] at hcall
        have HCall := Lib.hid hcall
        have HEB := Lib.hid heb
        clear hss hXX hcall heb
        go_wp2_with fail
        go_region_held3 (fun W => Below w1.heap.size w1 W ∧ W.cell? ⟨w.heap.size, 0, none⟩ = some (.slice (some ad) a.length c) ∧ W.cell? ⟨w.heap.size + 1, 0, none⟩ = some (.slice (some bd) b.length c') ∧ W.cell? (ad.add (k * 13)) = some (.int .i64 x.ses) ∧ W.cell? ⟨(ad.add (k * 13)).block, (ad.add (k * 13)).off + 1, none⟩ = some (.int .i64 x.r.deed) ∧ W.cell? ⟨(ad.add (k * 13)).block, (ad.add (k * 13)).off + 2, none⟩ = some (.int .i64 x.r.ten) ∧ W.cell? ⟨(ad.add (k * 13)).block, (ad.add (k * 13)).off + 3, none⟩ = some (.int .u32 x.r.gen) ∧ W.cell? ⟨(ad.add (k * 13)).block, (ad.add (k * 13)).off + 4, none⟩ = some (.int .u8 x.r.rig) ∧ W.cell? ⟨(ad.add (k * 13)).block, (ad.add (k * 13)).off + 5, none⟩ = some (.string x.r.key) ∧ W.cell? ⟨(ad.add (k * 13)).block, (ad.add (k * 13)).off + 6, none⟩ = some (.string x.r.val) ∧ W.cell? ⟨(ad.add (k * 13)).block, (ad.add (k * 13)).off + 7, none⟩ = some (.string x.r.old) ∧ W.cell? ⟨(ad.add (k * 13)).block, (ad.add (k * 13)).off + 8, none⟩ = some (.int .i64 x.r.lim) ∧ W.cell? ⟨(ad.add (k * 13)).block, (ad.add (k * 13)).off + 9, none⟩ = some (.int .i64 x.r.tenant) ∧ W.cell? ⟨(ad.add (k * 13)).block, (ad.add (k * 13)).off + 10, none⟩ = some (.int .u64 x.r.qk) ∧ W.cell? ⟨(ad.add (k * 13)).block, (ad.add (k * 13)).off + 11, none⟩ = some (.int .u64 x.r.qb) ∧ W.cell? ⟨(ad.add (k * 13)).block, (ad.add (k * 13)).off + 12, none⟩ = some (.int .u8 x.r.rights) ∧ W.cell? (bd.add (k * 13)) = some (.int .i64 y.ses) ∧ W.cell? ⟨(bd.add (k * 13)).block, (bd.add (k * 13)).off + 1, none⟩ = some (.int .i64 y.r.deed) ∧ W.cell? ⟨(bd.add (k * 13)).block, (bd.add (k * 13)).off + 2, none⟩ = some (.int .i64 y.r.ten) ∧ W.cell? ⟨(bd.add (k * 13)).block, (bd.add (k * 13)).off + 3, none⟩ = some (.int .u32 y.r.gen) ∧ W.cell? ⟨(bd.add (k * 13)).block, (bd.add (k * 13)).off + 4, none⟩ = some (.int .u8 y.r.rig) ∧ W.cell? ⟨(bd.add (k * 13)).block, (bd.add (k * 13)).off + 5, none⟩ = some (.string y.r.key) ∧ W.cell? ⟨(bd.add (k * 13)).block, (bd.add (k * 13)).off + 6, none⟩ = some (.string y.r.val) ∧ W.cell? ⟨(bd.add (k * 13)).block, (bd.add (k * 13)).off + 7, none⟩ = some (.string y.r.old) ∧ W.cell? ⟨(bd.add (k * 13)).block, (bd.add (k * 13)).off + 8, none⟩ = some (.int .i64 y.r.lim) ∧ W.cell? ⟨(bd.add (k * 13)).block, (bd.add (k * 13)).off + 9, none⟩ = some (.int .i64 y.r.tenant) ∧ W.cell? ⟨(bd.add (k * 13)).block, (bd.add (k * 13)).off + 10, none⟩ = some (.int .u64 y.r.qk) ∧ W.cell? ⟨(bd.add (k * 13)).block, (bd.add (k * 13)).off + 11, none⟩ = some (.int .u64 y.r.qb) ∧ W.cell? ⟨(bd.add (k * 13)).block, (bd.add (k * 13)).off + 12, none⟩ = some (.int .u8 y.r.rights)) (first | exact ⟨hbel.drew, (HX.out _ hbel.drew).1, (HX.out _ hbel.drew).2, p0, p1, p2, p3, p4, p5, p6, p7, p8, p9, p10, p11, p12, q0, q1, q2, q3, q4, q5, q6, q7, q8, q9, q10, q11, q12⟩ | exact held2 hbN (HX.out _ hbN) (ent_facts2 (HC.out _ hbN)) (ent_facts2 (HD.out _ hbN)))
          (first | (go_at_call 44; refine (HCall.out _).mono ?_; rintro e' wn ⟨rfl, hbm⟩; have hH := ‹Below w1.heap.size w1 _ ∧ _›; have hbN := below_trans hH.1 hbm))
        have hbE := HB.out.2.2.trans (hbN.mono HB.out.2.2.size)
        have HE := Lib.hid hbE
        have HbN := Lib.hid hbN
        clear hbE hbN hbm p0 q0 p1 q1 p2 q2 p3 q3 p4 q4 p5 q5 p6 q6 p7 q7 p8 q8 p9 q9 p10 q10 p11 q11 p12 q12 x0 y0
        cases eb with
        | true =>
          have hT := HST.out.1 ((bareE_iff HSS.out).2 (of_decide_eq_true HEB.out))
          have HT := Lib.hid hT
          clear hT
          go_wp2
          go_roundw
          case rel => exact ⟨k + 1, by omega, by go_num, HbN.out, Lib.hid HT.out⟩
          case measure => simp [intOf]; omega
        | false =>
          have hT := HST.out.2 (fun e => absurd ((bareE_iff HSS.out).1 e) (of_decide_eq_false HEB.out))
          have HNE := Lib.hid hT
          clear hT
          go_wp2
          go_ret
          exact ⟨ret_bool (by rw [alikeB, decide_eq_false (p := a.map (bareE t) = b.map (bareE t)) HNE.out]; simp), HE.out⟩
      · have hsb : (x.ses != y.ses) = true := by simp [hss]
        have hT := HST.out.2 (bareE_ses hss)
        have HNE := Lib.hid hT
        have hbE := HB.out.2.2.trans (hbel.mono HB.out.2.2.size)
        have HE := Lib.hid (below_drewN hbE)
        clear hT hss hbE
        go_wp2_with fail
        go_quiet (fail)
        go_wp2
        go_ret
        exact ⟨ret_bool (by rw [alikeB, decide_eq_false (p := a.map (bareE t) = b.map (bareE t)) HNE.out]; simp), HE.out _⟩
    · obtain rfl : k = a.length := by omega
      have hT : alikeB a b pa pb t = true := by
        have h1 := he.out
        rw [List.take_of_length_le (by simp), List.take_of_length_le (by simp; omega)] at h1
        unfold alikeB
        rw [decide_eq_true HPP.out, decide_eq_true h1]; rfl
      have HTT := Lib.hid hT
      clear hT
      have hbelE := HB.out.2.2.trans (hbel.mono HB.out.2.2.size)
      have HE := Lib.hid hbelE
      clear hbelE
      go_wp2_with fail
      refine HK0.out _ _ ?_
      go_wp2
      go_ret
      exact ⟨ret_bool HTT.out.symm, HE.out⟩
end Go.Proofs.Ytlmehmmdbdembaa
