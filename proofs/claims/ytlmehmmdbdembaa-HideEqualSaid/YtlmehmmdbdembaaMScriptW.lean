/-
  Walks: burgagelaw28.script.
-/
import Derived.Test.YtlmehmmdbdembaaMadeW
import Derived.Test.YtlmehmmdbdembaaRBlurW
namespace Go.Proofs.Ytlmehmmdbdembaa
open Go.RowKit
set_option linter.unusedVariables false
set_option linter.unusedSimpArgs false

def brow (n : Int) : List Value := [.int .u8 n]
theorem brow_len (n : Int) : (brow n).length = 1 := rfl
theorem brow_map (l : List Int) : l.flatMap brow = l.map (Value.int .u8) := by
  induction l with
  | nil => rfl
  | cons x l ih => simp [brow, ih]
/-- What script comes to. -/
def MScriptEnd (n : Nat) (bs : List Int) (w : World) (e : Ending) (w' : World) : Prop :=
  ∃ (es : List Ent) (ps : List Int) (A1 A2 : Option Addr) (c1 c2 : Nat), e = .returned (.agg #[.slice A1 es.length c1, .slice A2 ps.length c2]) ∧ w'.ownsRow w.heap.size 46 13 (.slice A1 es.length c1) es.length (es.flatMap Ent.row) ∧ w'.ownsRow w.heap.size 3 1 (.slice A2 ps.length c2) ps.length (ps.flatMap irow) ∧ Below w.heap.size w w' ∧ MadeOk es ∧ es.length = 2 + min n 20 ∧ ps = bs.take 400
/-- What holds in script's loop. -/
def ScrIt (w : World) (g4 g5 : Nat) (V : Value) (base : List Ent) (ps : List Int) (v : Value) (W : World) : Prop :=
  Blk W g4 41 #[.slice none 0 0, .slice none 0 0] ∧ Blk W g5 41 #[V, v] ∧ W.ownsRow w.heap.size 46 13 V base.length (base.flatMap Ent.row) ∧ W.ownsRow w.heap.size 3 1 v ps.length (ps.flatMap irow) ∧ Below w.heap.size w W ∧ (w.heap.size ≤ g4 ∧ w.heap.size ≤ g5 ∧ g4 ≠ g5)

set_option maxHeartbeats 3200000 in
set_option maxRecDepth 100000 in
theorem script_loop (bs : List Int) (B : Option Addr) (cap m g4 g5 : Nat) (V : Value) (base : List Ent) {u0 u1 u2 u3 u6 u7 u8 u9 u10 u11 u12 u13 u14 u18 u19 u20 u21 u22 u23 u24 u25 u26 u27 u28 u29 : Value} (w wx : World) {Q : Exit → Act → World → Prop} (hB : Reads w w.heap.size 1 B bs.length (bs.flatMap brow)) (hbs : ∀ b ∈ bs, 0 ≤ b ∧ b ≤ 255) (hm : m ≤ bs.length) (hm2 : m ≤ 400)
    (hI : ScrIt w g4 g5 V base [] (.slice none 0 0) wx)
    (hQ : ∀ (s7 s18 s19 s20 s21 s22 s23 s24 s25 s26 s27 s28 : Value) (v' : Value) (W' : World), ScrIt w g4 g5 V base (bs.take m) v' W' → Q .normal ⟨#[u0, u1, u2, u3, .pointer (some ⟨g4, 0, none⟩), .pointer (some ⟨g5, 0, none⟩), u6, s7, u8, u9, u10, u11, u12, u13, u14, .slice B m cap, .int .i64 m, .int .i64 m, s18, s19, s20, s21, s22, s23, s24, s25, s26, s27, s28, u29], []⟩ W') :
    Code.wp Try.prog (part Try.f11 [1, 1, 0, 1]) Q ⟨#[u0, u1, u2, u3, .pointer (some ⟨g4, 0, none⟩), .pointer (some ⟨g5, 0, none⟩), u6, u7, u8, u9, u10, u11, u12, u13, u14, .slice B m cap, .int .i64 m, .int .i64 0, u18, u19, u20, u21, u22, u23, u24, u25, u26, u27, u28, u29], []⟩ wx := by
  conv => arg 2; whnf
  have HQ := Lib.hid hQ
  have HB := Lib.hid hB
  have HBS := Lib.hid hbs
  have HI := Lib.hid hI
  obtain ⟨i0, hi0, iz0, iz1, iz2⟩ := info_parts infoInts
  clear hQ hB hbs hI
  go_wp2_with fail
  go_loopw [17] (fun i wr => ∃ (k : Nat) (v : Value), k ≤ m ∧ i = .int .i64 k ∧ Hid (ScrIt w g4 g5 V base (bs.take k) v wr)) (fun i _ => m - (intOf i).toNat)
  case atStart => exact ⟨0, _, Nat.zero_le _, rfl, HI⟩
  case round =>
    obtain ⟨k, v, hk, rfl, HW⟩ := hrel
    by_cases hlt : k < m
    · have hlb : k < bs.length := by omega
      obtain ⟨ad, rfl, hab, hc⟩ := row_cells brow_len HB.out rfl hlb
      have p0 : wr.cell? (ad.add k) = some (.int .u8 bs[k]) := by
        have h := (HW.out.2.2.2.2.1.cell (p := ((ad.add (k * 1)).add 0)) (by rw [block_of_add, block_of_add]; exact hab)).trans (hc 0 _ rfl)
        rwa [add_of_add, Nat.mul_one] at h
      have htake : bs.take (k + 1) = bs.take k ++ [bs[k]] := List.take_succ_eq_append_getElem hlb
      have hb2 := HBS.out _ (List.getElem_mem hlb)
      generalize bs[k] = b at p0 htake hb2
      obtain ⟨hb0, hb1⟩ := hb2
      have HT := Lib.hid htake
      have hlk : (bs.take k).length = k := by rw [List.length_take, Nat.min_eq_left (by omega)]
      obtain ⟨h4, h5, ho, hv, hbel, hg4, hg5, hne⟩ := HW.out
      rw [hlk] at hv
      have i1 : (0 : Int) ≤ (k : Int) := by omega
      have i2 : (k : Int) < (m : Int) := by omega
      have x1 := h5.cell 1
      have f1 := h5.frozen 1
      simp at x1
      have l5 := h5.lt
      have HO := Lib.hid (And.intro h4 (And.intro h5 (And.intro ho (And.intro hv hbel))))
      clear hc htake h4 h5 ho hv hbel hlk
      go_wp2_with
        (at_builtin
         refine wpList_append_any _ rfl (.tmp 22) (.tmp 25) _ rfl w.heap.size 3 i0 _ 1 8 Try.underlying39 hi0 iz0 iz1 iz2 rfl (by omega) v k ((bs.take k).flatMap irow) rfl
             (HO.out.2.2.2.1.alloc _) _ (some ⟨wr.heap.size, 0, none⟩) 1 1 (irow b) rfl (reads_of_blk (blk_newAt (by simp)) rfl rfl) (irow_one _) (by unfold maxLen; omega) (by omega) (by have := HO.out.2.2.2.2.size; simp; omega) ?_
         intro v2 w2 hown2 hg2 hat2
         obtain ⟨A3, c3, rfl, -, -, -⟩ := own_form hown2
         have hbel2 : Below w.heap.size w w2 := below_app (below_alloc HO.out.2.2.2.2 _) (HO.out.2.2.2.1.alloc _) hg2 (Nat.le_refl _) (by have := HO.out.2.2.2.2.size; simp; omega)
         have h42 := (HO.out.1.alloc (.cells #[.int .i64 b] 3)).grown hg2 (Ne.symm (own_blk_ne HO.out.2.2.2.1 HO.out.1 (by decide)))
         have h52 := (HO.out.2.1.alloc (.cells #[.int .i64 b] 3)).grown hg2 (Ne.symm (own_blk_ne HO.out.2.2.2.1 HO.out.2.1 (by decide)))
         have ho2 := (HO.out.2.2.1.alloc (.cells #[.int .i64 b] 3)).kept hg2 (by
           cases hvb : V.ownBlock with
           | none => exact Or.inl rfl
           | some g => exact Or.inr (fun e => own_own_ne HO.out.2.2.1 HO.out.2.2.2.1 (by decide) g hvb e.symm))
         have y1 := h52.cell 1
         have z1 := h52.frozen 1
         simp at y1
         have HN := Lib.hid (And.intro h42 (And.intro h52 (And.intro ho2 (And.intro hown2 hbel2))))
         clear h42 h52 ho2 hown2 hbel2 hg2 hat2)
      go_roundw
      case rel =>
        refine ⟨k + 1, .slice A3 (k + 1) c3, by omega, by go_num, Lib.hid ⟨?_, ?_, ?_, ?_, ?_, hg4, hg5, hne⟩⟩
        · exact HN.out.1.far (p := ⟨g5, 1, none⟩) hne _
        · exact HN.out.2.1.set_ 1 _
        · exact own_far HN.out.2.2.1 (own_blk_ne HN.out.2.2.1 HN.out.2.1 (by decide)) 1 _
        · rw [HT.out, List.length_append, List.length_take, Nat.min_eq_left (by omega), List.flatMap_append, List.flatMap_singleton]
          exact own_far HN.out.2.2.2.1 (own_blk_ne HN.out.2.2.2.1 HN.out.2.1 (by decide)) 1 _
        · exact HN.out.2.2.2.2.setCell (p := ⟨g5, 1, none⟩) hg5 _
      case measure => simp [intOf]; omega
    · obtain rfl : k = m := by omega
      go_wp2
      exact HQ.out _ _ _ _ _ _ _ _ _ _ _ _  _ _ HW.out

set_option maxHeartbeats 3200000 in
set_option maxRecDepth 100000 in
theorem script_any (cs : List Cod) (bs : List Int) (A B : Option Addr) (cap capb : Nat) (w : World) (hA : Reads w w.heap.size 6 A cs.length (cs.flatMap Cod.row)) (hok : ∀ c ∈ cs, c.ok) (hl : cs.length ≤ cap) (hc : cap ≤ 9223372036854775807)
    (hB : Reads w w.heap.size 1 B bs.length (bs.flatMap brow)) (hbs : ∀ b ∈ bs, 0 ≤ b ∧ b ≤ 255) (hlb : bs.length ≤ capb) (hcb : capb ≤ 9223372036854775807) :
    Calls Try.prog 11 #[.slice A cs.length cap, .slice B bs.length capb] w (MScriptEnd cs.length bs w) := by
  have HA := Lib.hid hA
  have HOK := Lib.hid hok
  have HB := Lib.hid hB
  have HBS := Lib.hid hbs
  clear hA hok hB hbs
  by_cases h40 : bs.length ≤ 400
  all_goals
    go_enter Try.func11, Try.ntmps11
    refine wp_seq_k fun K0 hK0 => ?_
    have HK0 := Lib.hid hK0
    clear hK0
    go_wp2_with fail
    refine HK0.out _ _ ?_
    clear HK0 K0
    refine wp_seq_k fun K0 hK0 => ?_
    have HK0 := Lib.hid hK0
    clear hK0
    go_wp2_with fail
    have hb0 := Blk.new w 41 #[.slice none 0 0, .slice none 0 0]
    have hbel := below_box w (.cells #[.slice none 0 0, .slice none 0 0] 41)
    refine (made_any cs A cap _ ((HA.out.below hbel).more hbel.size) HOK.out hl hc).mono ?_
    rintro e w1 ⟨es, v1, rfl, ho1, hb1, hmk, hel⟩
    have hb0 := hb0.below hb1 hb0.lt
    have hbel2 := below_trans hbel hb1
    have hl0 := hb0.lt
    have hsz1 := hb1.size
    have ho1 := ownsRow_more ho1 hbel.size
    have HM := Lib.hid (And.intro hmk hel)
    have HI := Lib.hid (show ScrIt w w.heap.size w1.heap.size v1 es [] (.slice none 0 0) (w1.alloc (.cells #[v1, .slice none 0 0] 41)) from
      ⟨hb0.alloc _, Blk.new _ _ _, ho1.alloc _, ⟨rfl, Or.inl ⟨rfl, rfl⟩⟩, below_alloc hbel2 _, Nat.le_refl _, by omega, by omega⟩)
    obtain ⟨A1, c1, rfl, -, -, -⟩ := own_form ho1
    clear hb0 hb1 hbel2 hbel ho1 hmk hel
    go_wp2_with fail
    refine HK0.out _ _ ?_
    clear HK0 K0
    generalize w1.alloc (.cells #[.slice A1 es.length c1, .slice none 0 0] 41) = W1 at HI ⊢
    generalize w1.heap.size = g5 at *
    refine wp_seq_k fun K1 hK1 => ?_
    have HK1 := Lib.hid hK1
    clear hK1
    refine wp_seq_k fun K0 hK0 => ?_
    have HK0 := Lib.hid hK0
    clear hK0
    go_wp2_with fail
    refine HK0.out _ _ ?_
    clear HK0 K0
  · refine script_loop bs B capb bs.length w.heap.size g5 _ es w _ HB.out HBS.out (Nat.le_refl _) h40 HI.out (fun _ _ _ _ _ _ _ _ _ _ _ _  v' W' hI => ?_)
    refine HK1.out _ _ ?_
    clear HK1 K1
    obtain ⟨ps, hps⟩ : ∃ ps, bs.take bs.length = ps := ⟨_, rfl⟩
    rw [hps] at hI
    have HPS := Lib.hid hps
    clear hps
    obtain ⟨hM1, hM2⟩ := HM.out
    clear HM HI
    obtain ⟨h4, h5, ho, hv, hbel, hg4, hg5, hne⟩ := hI
    obtain ⟨A2, c2, rfl, -, -, -⟩ := own_form hv
    have x0 := h5.cell 0
    have x1 := h5.cell 1
    have y0 := h4.cell 0
    have y1 := h4.cell 1
    have f0 := h4.frozen 0
    have f1 := h4.frozen 1
    simp at x0 x1 y0 y1
    have l4 := h4.lt
    have l5 := h5.lt
    have hne4 := own_blk_ne ho h4 (by decide)
    have hnv4 := own_blk_ne hv h4 (by decide)
    have HF := Lib.hid (show MScriptEnd cs.length bs w (.returned (.agg #[.slice A1 es.length c1, .slice A2 ps.length c2])) ((W'.setCell ⟨w.heap.size, 0, none⟩ (.slice A1 es.length c1)).setCell ⟨w.heap.size, 1, none⟩ (.slice A2 ps.length c2)) from
      ⟨es, _, A1, A2, c1, c2, rfl, own_far (own_far ho hne4 0 _) hne4 1 _, own_far (own_far hv hnv4 0 _) hnv4 1 _, (hbel.setCell (p := ⟨w.heap.size, 0, none⟩) (Nat.le_refl _) _).setCell (p := ⟨w.heap.size, 1, none⟩) (Nat.le_refl _) _, hM1, hM2, by rw [← HPS.out, List.take_length, List.take_of_length_le h40]⟩)
    have r4 := ((h4.set_ 0 (.slice A1 es.length c1)).set_ 1 (.slice A2 ps.length c2))
    have z0 := r4.cell 0
    have z1 := r4.cell 1
    simp at z0 z1
    clear h4 h5 ho hv hbel hne4 hnv4 hM1 hM2 r4
    go_wp2_with fail
    refine bodyPost_ret (v := .agg #[.slice A1 es.length c1, .slice A2 ps.length c2]) (by simp [results, Try.results11, go_sem, *]) rfl HF.out
  · refine script_loop bs B capb 400 w.heap.size g5 _ es w _ HB.out HBS.out (by omega) (by decide) HI.out (fun _ _ _ _ _ _ _ _ _ _ _ _  v' W' hI => ?_)
    refine HK1.out _ _ ?_
    clear HK1 K1
    obtain ⟨ps, hps⟩ : ∃ ps, bs.take 400 = ps := ⟨_, rfl⟩
    rw [hps] at hI
    have HPS := Lib.hid hps
    clear hps
    obtain ⟨hM1, hM2⟩ := HM.out
    clear HM HI
    obtain ⟨h4, h5, ho, hv, hbel, hg4, hg5, hne⟩ := hI
    obtain ⟨A2, c2, rfl, -, -, -⟩ := own_form hv
    have x0 := h5.cell 0
    have x1 := h5.cell 1
    have y0 := h4.cell 0
    have y1 := h4.cell 1
    have f0 := h4.frozen 0
    have f1 := h4.frozen 1
    simp at x0 x1 y0 y1
    have l4 := h4.lt
    have l5 := h5.lt
    have hne4 := own_blk_ne ho h4 (by decide)
    have hnv4 := own_blk_ne hv h4 (by decide)
    have HF := Lib.hid (show MScriptEnd cs.length bs w (.returned (.agg #[.slice A1 es.length c1, .slice A2 ps.length c2])) ((W'.setCell ⟨w.heap.size, 0, none⟩ (.slice A1 es.length c1)).setCell ⟨w.heap.size, 1, none⟩ (.slice A2 ps.length c2)) from
      ⟨es, _, A1, A2, c1, c2, rfl, own_far (own_far ho hne4 0 _) hne4 1 _, own_far (own_far hv hnv4 0 _) hnv4 1 _, (hbel.setCell (p := ⟨w.heap.size, 0, none⟩) (Nat.le_refl _) _).setCell (p := ⟨w.heap.size, 1, none⟩) (Nat.le_refl _) _, hM1, hM2, HPS.out.symm⟩)
    have r4 := ((h4.set_ 0 (.slice A1 es.length c1)).set_ 1 (.slice A2 ps.length c2))
    have z0 := r4.cell 0
    have z1 := r4.cell 1
    simp at z0 z1
    clear h4 h5 ho hv hbel hne4 hnv4 hM1 hM2 r4
    go_wp2_with fail
    refine bodyPost_ret (v := .agg #[.slice A1 es.length c1, .slice A2 ps.length c2]) (by simp [results, Try.results11, go_sem, *]) rfl HF.out
end Go.Proofs.Ytlmehmmdbdembaa
