/-
  Walks: HideEqual.
-/
import Derived.Test.YtlmehmmdbdembaaEqualR
import Derived.Test.YtlmehmmdbdembaaBlur2W
import Derived.Test.YtlmehmmdbdembaaAlike2W
namespace Go.Proofs.Ytlmehmmdbdembaa
open Go.RowKit
set_option linter.unusedVariables false
set_option linter.unusedSimpArgs false

theorem bare_bare (t : Int) (e : Ent) : bareE t (bareE t e) = bareE t e := by
  unfold bareE bareR
  by_cases h : secB e.r t = true
  · rw [if_pos h]
    have h2 : secB ⟨e.r.deed, e.r.ten, e.r.gen, e.r.rig, ⟨#[]⟩, ⟨#[]⟩, ⟨#[]⟩, e.r.lim, e.r.tenant, e.r.qk, e.r.qb, e.r.rights⟩ t = true := h
    rw [if_pos h2]
  · rw [if_neg h, if_neg h]
theorem bare_map (t : Int) (es : List Ent) : (es.map (bareE t)).map (bareE t) = es.map (bareE t) := by
  rw [List.map_map]
  exact List.map_congr_left fun e _ => bare_bare t e
theorem alike_eq {a b : List Ent} {p : List Int} {t : Int} (h : a.map (bareE t) = b.map (bareE t)) : alikeB a b p p t = true := by
  unfold alikeB; rw [h]; simp
theorem alike_left {a b c : List Ent} {p q : List Int} {t : Int} (h : a.map (bareE t) = b.map (bareE t)) : alikeB a c p q t = alikeB b c p q t := by
  unfold alikeB; rw [h]

set_option maxHeartbeats 6400000 in
set_option maxRecDepth 100000 in
theorem hideEqual_law (cs ds : List Cod) (bs ys : List Int) (tn : Int) (A D B Y : Option Addr) (capa capd capb capy : Nat) (w : World)
    (hA : Reads w w.heap.size 6 A cs.length (cs.flatMap Cod.row)) (oA : ∀ c ∈ cs, c.ok) (lA : cs.length ≤ capa) (kA : capa ≤ 9223372036854775807)
    (hD : Reads w w.heap.size 6 D ds.length (ds.flatMap Cod.row)) (oD : ∀ c ∈ ds, c.ok) (lD : ds.length ≤ capd) (kD : capd ≤ 9223372036854775807)
    (hB : Reads w w.heap.size 1 B bs.length (bs.flatMap brow)) (oB : ∀ b ∈ bs, 0 ≤ b ∧ b ≤ 255) (lB : bs.length ≤ capb) (kB : capb ≤ 9223372036854775807)
    (hY : Reads w w.heap.size 1 Y ys.length (ys.flatMap brow)) (oY : ∀ b ∈ ys, 0 ≤ b ∧ b ≤ 255) (lY : ys.length ≤ capy) (kY : capy ≤ 9223372036854775807) (htn : 0 ≤ tn ∧ tn ≤ 255) :
    Calls Try.prog 7 #[.slice A cs.length capa, .slice D ds.length capd, .slice B bs.length capb, .slice Y ys.length capy, .int .u8 tn] w (BoolEnd true w) := by
  have HA := Lib.hid (And.intro hA oA)
  have HD := Lib.hid (And.intro hD oD)
  have HB := Lib.hid (And.intro hB oB)
  have HY := Lib.hid (And.intro hY oY)
  obtain ⟨t, ht, ht0, ht1⟩ := tmod_in (x := tn) 4 htn.1 (by decide)
  clear hA oA hD oD hB oB hY oY htn
  go_enter Try.func7, Try.ntmps7
  refine wp_seq_k fun K0 hK => ?_
  have HK0 := Lib.hid hK
  clear hK
  go_wp2_with fail
  refine HK0.out _ _ ?_
  clear HK0 K0
  refine wp_seq_k fun K0 hK => ?_
  have HK0 := Lib.hid hK
  clear hK
  go_wp2_with fail
  refine HK0.out _ _ ?_
  clear HK0 K0
  clear ht
  refine wp_seq_k fun K0 hK => ?_
  have HK0 := Lib.hid hK
  clear hK
  go_wp2_with fail
  refine (script_any cs bs A B capa capb w HA.out.1 HA.out.2 lA kA HB.out.1 HB.out.2 lB kB).mono ?_
  rintro e w1 ⟨es, ps, P1, P2, c1, c2, rfl, ho1, ho2, hb1, hmk, hel, hps⟩
  have hel1 : 1 ≤ es.length := by omega
  have hel2 : es.length ≤ 65536 := by omega
  have hpl : ps.length ≤ 65536 := by rw [hps, List.length_take]; omega
  have H1 := Lib.hid (And.intro (show ScrIn (w1.alloc (.cells #[.slice P1 es.length c1, .slice P2 ps.length c2] 41)) P1 P2 es ps from ⟨Reads.of_own (ho1.alloc _), Reads.of_own (ho2.alloc _), hel2, hpl⟩)
    (And.intro (Blk.new w1 41 #[.slice P1 es.length c1, .slice P2 ps.length c2]) (below_alloc hb1 (.cells #[.slice P1 es.length c1, .slice P2 ps.length c2] 41))))
  clear ho1 ho2 hb1 hmk hel hps
  go_wp2_with fail
  refine HK0.out _ _ ?_
  clear HK0 K0
  generalize w1.alloc (.cells #[.slice P1 es.length c1, .slice P2 ps.length c2] 41) = W1 at H1 ⊢
  generalize w1.heap.size = g12 at *
  clear w1
  refine wp_seq_k fun K0 hK => ?_
  have HK0 := Lib.hid hK
  clear hK
  have x0 := H1.out.2.1.cell 0
  have x1 := H1.out.2.1.cell 1
  simp at x0 x1
  go_wp2_with fail
  clear x0 x1
  refine (changed_any P1 P2 Y c1 c2 capy es ps ys t W1 H1.out.1 hel1 ((HY.out.1.below H1.out.2.2).more H1.out.2.2.size) HY.out.2 (by omega)).mono ?_
  rintro e w2 ⟨xs, Q1, Q2, d1, d2, rfl, ho1, ho2, hb1, hxl, hxm⟩
  have hxl2 : xs.length ≤ 65536 := by omega
  have hbx := below_alloc hb1 (.cells #[.slice Q1 xs.length d1, .slice Q2 ps.length d2] 41)
  have H2 := Lib.hid (And.intro (show ScrIn (w2.alloc (.cells #[.slice Q1 xs.length d1, .slice Q2 ps.length d2] 41)) Q1 Q2 xs ps from ⟨Reads.of_own (ho1.alloc _), Reads.of_own (ho2.alloc _), hxl2, hpl⟩)
    (And.intro (Blk.new w2 41 #[.slice Q1 xs.length d1, .slice Q2 ps.length d2]) (And.intro (H1.out.1.below hbx) (And.intro (H1.out.2.1.below hbx H1.out.2.1.lt) (And.intro (below_trans H1.out.2.2 hbx) hxm)))))
  clear ho1 ho2 hb1 hbx hxl hxm H1
  go_wp2_with fail
  refine HK0.out _ _ ?_
  clear HK0 K0
  generalize w2.alloc (.cells #[.slice Q1 xs.length d1, .slice Q2 ps.length d2] 41) = W2 at H2 ⊢
  generalize w2.heap.size = g13 at *
  clear w2 W1
  refine wp_seq_k fun K0 hK => ?_
  have HK0 := Lib.hid hK
  clear hK
  go_wp2_with fail
  refine (script_any ds bs D B capd capb W2 ((HD.out.1.below H2.out.2.2.2.2.1).more H2.out.2.2.2.2.1.size) HD.out.2 lD kD ((HB.out.1.below H2.out.2.2.2.2.1).more H2.out.2.2.2.2.1.size) HB.out.2 lB kB).mono ?_
  rintro e w3 ⟨fs, qs, R1, R2, e1, e2, rfl, ho1, ho2, hb1, hmk, hel, hps⟩
  have hfl2 : fs.length ≤ 65536 := by omega
  have hql : qs.length ≤ 65536 := by rw [hps, List.length_take]; omega
  have hbx := below_alloc hb1 (.cells #[.slice R1 fs.length e1, .slice R2 qs.length e2] 41)
  have H3 := Lib.hid (And.intro (show ScrIn (w3.alloc (.cells #[.slice R1 fs.length e1, .slice R2 qs.length e2] 41)) R1 R2 fs qs from ⟨Reads.of_own (ho1.alloc _), Reads.of_own (ho2.alloc _), hfl2, hql⟩)
    (And.intro (Blk.new w3 41 #[.slice R1 fs.length e1, .slice R2 qs.length e2]) (And.intro (H2.out.1.below hbx) (And.intro (H2.out.2.1.below hbx H2.out.2.1.lt) (And.intro (H2.out.2.2.1.below hbx) (And.intro (H2.out.2.2.2.1.below hbx H2.out.2.2.2.1.lt) (And.intro (below_trans H2.out.2.2.2.2.1 hbx) H2.out.2.2.2.2.2)))))))
  clear ho1 ho2 hb1 hbx hmk hel hps H2
  go_wp2_with fail
  refine HK0.out _ _ ?_
  clear HK0 K0
  generalize w3.alloc (.cells #[.slice R1 fs.length e1, .slice R2 qs.length e2] 41) = W3 at H3 ⊢
  generalize w3.heap.size = g14 at *
  clear w3 W2
  obtain ⟨hc, b14, hbS, b13, haS, b12, hbel, hxm⟩ := H3.out
  clear H3
  obtain ⟨m, hm⟩ : ∃ m, es.map (bareE t) = m := ⟨_, rfl⟩
  have hml : m.length ≤ 65536 := by rw [← hm, List.length_map]; exact hel2
  have hmm : m.map (bareE t) = m := by rw [← hm]; exact bare_map t es
  obtain ⟨v, hv⟩ : ∃ v, alikeB es fs ps qs t = v := ⟨_, rfl⟩
  -- what the calls come to, at whatever world behind this one
  have k1 := fun V (h : Below W3.heap.size W3 V) => blur_any P1 P2 c1 c2 es ps t V (haS.below h)
  have k2 := fun V (h : Below W3.heap.size W3 V) => blur_any Q1 Q2 d1 d2 xs ps t V (hbS.below h)
  rw [hm] at k1
  rw [hxm, hm] at k2
  have HC := Lib.hid (And.intro k1 k2)
  have HSS := Lib.hid (And.intro haS (And.intro hbS hc))
  have HBB := Lib.hid (And.intro b12 (And.intro b13 (And.intro b14 hbel)))
  have HE := Lib.hid (And.intro hm (And.intro hmm (And.intro hv (hxm.trans hm))))
  clear k1 k2 haS hbS hc b12 b13 b14 hbel hm hmm hv hxm
  refine wp_seq_k fun K0 hK => ?_
  have HK0 := Lib.hid hK
  clear hK
  refine eq_region P1 P2 Q1 Q2 es.length c1 ps.length c2 xs.length d1 ps.length d2 g12 g13 m m ps ps t W3 W3 HC (fun s15 s16 s30 s31 s32 s33 s34 s35 W4 h4 => ?_) (fun d v c a w h => by cases d <;> exact h) HBB.out.1 HBB.out.2.1 (Below.refl _ _)
  refine HK0.out _ _ ?_
  clear HK0 K0
  obtain ⟨g15, g16, X1, X2, Y1, Y2, x1, x2, y1, y2, rfl, rfl, hB4, b15, b16, hlx, hly⟩ := h4
  have hsx : ScrIn W4 X1 X2 m ps := ⟨Reads.of_own hlx.1, Reads.of_own hlx.2, hml, hpl⟩
  have hsy : ScrIn W4 Y1 Y2 m ps := ⟨Reads.of_own hly.1, Reads.of_own hly.2, hml, hpl⟩
  have hsa := HSS.out.1.below hB4
  have hsb := HSS.out.2.1.below hB4
  have hsc := HSS.out.2.2.below hB4
  have e1' := HE.out.1
  have e2' := HE.out.2.1
  have e4' := HE.out.2.2.2
  have k1 := fun V (h : Below W4.heap.size W4 V) => alike_any P1 P2 P1 P2 c1 c2 c1 c2 es es ps ps t V (hsa.below h) (hsa.below h)
  have k2 := fun V (h : Below W4.heap.size W4 V) => alike_any P1 P2 Q1 Q2 c1 c2 d1 d2 es xs ps ps t V (hsa.below h) (hsb.below h)
  have k3 := fun V (h : Below W4.heap.size W4 V) => alike_any Q1 Q2 P1 P2 d1 d2 c1 c2 xs es ps ps t V (hsb.below h) (hsa.below h)
  have k4 := fun V (h : Below W4.heap.size W4 V) => alike_any P1 P2 X1 X2 c1 c2 x1 x2 es m ps ps t V (hsa.below h) (hsx.below h)
  rw [alike_eq rfl] at k1
  rw [alike_eq (e1'.trans e4'.symm)] at k2
  rw [alike_eq (e4'.trans e1'.symm)] at k3
  rw [alike_eq (e1'.trans e2'.symm)] at k4
  have k5 := fun V (h : Below W4.heap.size W4 V) => same_script X1 X2 Y1 Y2 x1 x2 y1 y2 m m ps ps V (hsx.below h) (hsy.below h)
  have k6 := fun V (h : Below W4.heap.size W4 V) => blur_any X1 X2 x1 x2 m ps t V (hsx.below h)
  rw [e2'] at k6
  have k7 := fun V (h : Below W4.heap.size W4 V) Z1 Z2 z1 z2 (hz : ScrIn V Z1 Z2 m ps) => same_script Z1 Z2 X1 X2 z1 z2 x1 x2 m m ps ps V hz (hsx.below h)
  have et : (decide (m = m) && decide (ps = ps)) = true := by simp
  rw [et] at k5 k7
  have l1 := fun V (h : Below W4.heap.size W4 V) => alike_any P1 P2 R1 R2 c1 c2 e1 e2 es fs ps qs t V (hsa.below h) (hsc.below h)
  have l2 := fun V (h : Below W4.heap.size W4 V) => alike_any Q1 Q2 R1 R2 d1 d2 e1 e2 xs fs ps qs t V (hsb.below h) (hsc.below h)
  rw [← alike_left (e1'.trans e4'.symm)] at l2
  rw [HE.out.2.2.1] at l1 l2
  have l3 := fun V (h : Below W4.heap.size W4 V) => blur_any R1 R2 e1 e2 fs qs t V (hsc.below h)
  obtain ⟨z, hz⟩ : ∃ z, fs.map (bareE t) = z := ⟨_, rfl⟩
  have hzl : z.length ≤ 65536 := by rw [← hz, List.length_map]; exact hfl2
  rw [hz] at l3
  have hvz : (decide (m = z) && decide (ps = qs)) = v := by
    rw [← HE.out.2.2.1, ← e1', ← hz]; unfold alikeB; rw [Bool.and_comm]
  have l4 := fun V (h : Below W4.heap.size W4 V) Z1 Z2 z1 z2 (hz : ScrIn V Z1 Z2 z qs) => same_script X1 X2 Z1 Z2 x1 x2 z1 z2 m z ps qs V (hsx.below h) hz
  rw [hvz] at l4
  have HK1 := Lib.hid (And.intro k1 (And.intro k2 (And.intro k3 (And.intro k4 (And.intro k5 (And.intro k6 k7))))))
  have HL1 := Lib.hid (And.intro l1 (And.intro l2 (And.intro l3 l4)))
  have c12 := HBB.out.1.below hB4 HBB.out.1.lt
  have c13 := HBB.out.2.1.below hB4 HBB.out.2.1.lt
  have c14 := HBB.out.2.2.1.below hB4 HBB.out.2.2.1.lt
  have hbel := below_trans HBB.out.2.2.2 hB4
  have HM : ∀ V, Below W4.heap.size W4 V → (Below W4.heap.size W4 V ∧ V.cell? ⟨g12, 0, none⟩ = some (.slice P1 es.length c1) ∧ V.cell? ⟨g12, 1, none⟩ = some (.slice P2 ps.length c2) ∧ V.cell? ⟨g13, 0, none⟩ = some (.slice Q1 xs.length d1) ∧ V.cell? ⟨g13, 1, none⟩ = some (.slice Q2 ps.length d2) ∧ V.cell? ⟨g14, 0, none⟩ = some (.slice R1 fs.length e1) ∧ V.cell? ⟨g14, 1, none⟩ = some (.slice R2 qs.length e2) ∧ V.cell? ⟨g15, 0, none⟩ = some (.slice X1 m.length x1) ∧ V.cell? ⟨g15, 1, none⟩ = some (.slice X2 ps.length x2) ∧ V.cell? ⟨g16, 0, none⟩ = some (.slice Y1 m.length y1) ∧ V.cell? ⟨g16, 1, none⟩ = some (.slice Y2 ps.length y2)) := by
    intro V h
    have q12 := c12.below h c12.lt
    have q13 := c13.below h c13.lt
    have q14 := c14.below h c14.lt
    have q15 := b15.below h b15.lt
    have q16 := b16.below h b16.lt
    exact ⟨h, by simpa using q12.cell 0, by simpa using q12.cell 1, by simpa using q13.cell 0, by simpa using q13.cell 1, by simpa using q14.cell 0, by simpa using q14.cell 1, by simpa using q15.cell 0, by simpa using q15.cell 1, by simpa using q16.cell 0, by simpa using q16.cell 1⟩
  have HMM := Lib.hid (And.intro HM hbel)
  clear HC HSS HBB HE hB4 b15 b16 hlx hly hsx hsy hsa hsb hsc e1' e2' e4' k1 k2 k3 k4 k5 k6 k7 et l1 l2 l3 l4 hz hvz c12 c13 c14 hbel HM
  refine wp_seq_k fun K0 hK => ?_
  have HK0 := Lib.hid hK
  clear hK
  refine wp_seq_k fun K9 hK => ?_
  have HK9 := Lib.hid hK
  clear hK
  go_region_held3 (fun V => Below W4.heap.size W4 V ∧ V.cell? ⟨g12, 0, none⟩ = some (.slice P1 es.length c1) ∧ V.cell? ⟨g12, 1, none⟩ = some (.slice P2 ps.length c2) ∧ V.cell? ⟨g13, 0, none⟩ = some (.slice Q1 xs.length d1) ∧ V.cell? ⟨g13, 1, none⟩ = some (.slice Q2 ps.length d2) ∧ V.cell? ⟨g14, 0, none⟩ = some (.slice R1 fs.length e1) ∧ V.cell? ⟨g14, 1, none⟩ = some (.slice R2 qs.length e2) ∧ V.cell? ⟨g15, 0, none⟩ = some (.slice X1 m.length x1) ∧ V.cell? ⟨g15, 1, none⟩ = some (.slice X2 ps.length x2) ∧ V.cell? ⟨g16, 0, none⟩ = some (.slice Y1 m.length y1) ∧ V.cell? ⟨g16, 1, none⟩ = some (.slice Y2 ps.length y2))
    (first | exact HMM.out.1 _ (Below.refl _ _).drew | exact HMM.out.1 _ (by assumption) | exact HMM.out.1 _ (Below.drew (by assumption)))
    (first
      | (go_at_call 20; have hH := ‹Below _ W4 _ ∧ _›; (first | (with_reducible refine (HK1.out.1 _ hH.1).mono ?_) | (with_reducible refine (HK1.out.2.1 _ hH.1).mono ?_) | (with_reducible refine (HK1.out.2.2.1 _ hH.1).mono ?_) | (with_reducible refine (HK1.out.2.2.2.1 _ hH.1).mono ?_)); rintro e wn ⟨rfl, hb⟩; have hBN := below_trans hH.1 hb; have hHN := HMM.out.1 _ hBN; clear hb)
      | (go_at_call 22; have hH := ‹Below _ W4 _ ∧ _›; (first | (with_reducible refine (HK1.out.2.2.2.2.1 _ hH.1).mono ?_) | (with_reducible refine (HK1.out.2.2.2.2.2.2 _ hH.1 _ _ _ _ (by assumption)).mono ?_)); rintro e wn ⟨rfl, hb⟩; have hBN := below_trans hH.1 hb; have hHN := HMM.out.1 _ hBN; clear hb)
      | (go_at_call 19; have hH := ‹Below _ W4 _ ∧ _›; refine (HK1.out.2.2.2.2.2.1 _ hH.1).mono ?_; rintro e wn ⟨Z1, z1, Z2, z2, rfl, ho1, ho2, hb⟩; have hBN := below_trans hH.1 hb; have hHN := HMM.out.1 _ hBN; have hzz : ScrIn wn Z1 Z2 m ps := ⟨Reads.of_own ho1, Reads.of_own ho2, hml, hpl⟩; clear ho1 ho2 hb))
  refine HK9.out _ _ ?_
  clear HK9
  go_wp2_with fail
  refine HK0.out _ _ ?_
  clear HK0
  obtain ⟨W5, rfl⟩ : ∃ W5 : World, W5 = wn := ⟨_, rfl⟩
  have HB5 := Lib.hid hBN
  clear hBN hHN hH hzz
  refine wp_seq_k fun K0 hK => ?_
  have HK0 := Lib.hid hK
  clear hK
  cases v
  all_goals
    go_region_held3 (fun V => Below W4.heap.size W4 V ∧ V.cell? ⟨g12, 0, none⟩ = some (.slice P1 es.length c1) ∧ V.cell? ⟨g12, 1, none⟩ = some (.slice P2 ps.length c2) ∧ V.cell? ⟨g13, 0, none⟩ = some (.slice Q1 xs.length d1) ∧ V.cell? ⟨g13, 1, none⟩ = some (.slice Q2 ps.length d2) ∧ V.cell? ⟨g14, 0, none⟩ = some (.slice R1 fs.length e1) ∧ V.cell? ⟨g14, 1, none⟩ = some (.slice R2 qs.length e2) ∧ V.cell? ⟨g15, 0, none⟩ = some (.slice X1 m.length x1) ∧ V.cell? ⟨g15, 1, none⟩ = some (.slice X2 ps.length x2) ∧ V.cell? ⟨g16, 0, none⟩ = some (.slice Y1 m.length y1) ∧ V.cell? ⟨g16, 1, none⟩ = some (.slice Y2 ps.length y2))
      (first | exact HMM.out.1 _ (by assumption) | exact HMM.out.1 _ (Below.drew (by assumption)) | exact HMM.out.1 _ (Below.drew HB5.out))
      (first
        | (go_at_call 20; have hH := ‹Below _ W4 _ ∧ _›; (first | (with_reducible refine (HL1.out.1 _ hH.1).mono ?_) | (with_reducible refine (HL1.out.2.1 _ hH.1).mono ?_)); rintro e wn ⟨rfl, hb⟩; have hBN := below_trans hH.1 hb; have hHN := HMM.out.1 _ hBN; clear hb)
        | (go_at_call 22; have hH := ‹Below _ W4 _ ∧ _›; refine (HL1.out.2.2.2 _ hH.1 _ _ _ _ hzz).mono ?_; rintro e wn ⟨rfl, hb⟩; have hBN := below_trans hH.1 hb; have hHN := HMM.out.1 _ hBN; clear hb)
        | (go_at_call 10; have hH := ‹Below _ W4 _ ∧ _›; with_reducible refine (awake_any _).mono ?_; rintro e wn ⟨rfl, hb⟩; have hBN := below_trans hH.1 hb; have hHN := HMM.out.1 _ hBN; clear hb)
        | (go_at_call 19; have hH := ‹Below _ W4 _ ∧ _›; refine (HL1.out.2.2.1 _ hH.1).mono ?_; rintro e wn ⟨Z1, z1, Z2, z2, rfl, ho1, ho2, hb⟩; have hBN := below_trans hH.1 hb; have hHN := HMM.out.1 _ hBN; have hzz : ScrIn wn Z1 Z2 z qs := ⟨Reads.of_own ho1, Reads.of_own ho2, hzl, hql⟩; clear ho1 ho2 hb))
    have HF := Lib.hid (below_trans HMM.out.2 hBN)
    refine HK0.out _ _ ?_
    go_wp2
    go_ret
    exact ⟨rfl, HF.out⟩
end Go.Proofs.Ytlmehmmdbdembaa
