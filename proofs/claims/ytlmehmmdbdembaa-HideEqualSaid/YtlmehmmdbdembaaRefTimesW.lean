/-
  Walks: the reference's Times, its loop over the picks.
-/
import Derived.Test.YtlmehmmdbdembaaRefM
import Derived.Test.YtlmehmmdbdembaaTimesW4
namespace Go.Proofs.Ytlmehmmdbdembaa
open Go.RowKit
set_option linter.unusedVariables false

/-- What the reference's Times comes to. -/
def RefTimesEnd (m : List Spn × Int) (w : World) (e : Ending) (w' : World) : Prop :=
  ∃ v, e = .returned (.tuple #[v, .int .i64 m.2]) ∧ w'.ownsRow w.heap.size 79 3 v m.1.length (m.1.flatMap Spn.row) ∧ Below w.heap.size w w'
theorem infoRSpan : (Try.prog.info? 79).map (fun i => (i.zero, i.size, i.bytes)) = some (some (.agg #[.int .i64 0, .int .i64 0, .int .i64 0]), 3, 24) := by kernel_rfl
theorem blk_ints {w : World} {g : Nat} {t : TypeId} {l : List Int} (h : Blk w g t (l.map (Value.int .i64)).toArray) : Reads w w.heap.size 1 (some ⟨g, 0, none⟩) l.length (l.flatMap irow) :=
  (reads_of_blk h (by simp [irow_map]) (by rw [flat_len irow_len])).more h.lt
theorem ints_cell {w : World} {g k : Nat} {t : TypeId} {l : List Int} {x : Int} (h : Blk w g t (l.map (Value.int .i64)).toArray) (hk : l[k]? = some x) : w.cell? ⟨g, k, none⟩ = some (.int .i64 x) := by
  rw [h.cell, List.getElem?_toArray, List.getElem?_map, hk]; rfl
theorem ints_set {w : World} {g k : Nat} {t : TypeId} {l : List Int} {x : Int} (h : Blk w g t (l.map (Value.int .i64)).toArray) : Blk (w.setCell ⟨g, k, none⟩ (.int .i64 x)) g t ((l.set k x).map (Value.int .i64)).toArray := by
  have := h.set_ k (.int .i64 x)
  rw [List.setIfInBounds_toArray, ← List.map_set] at this
  exact this

theorem set_le {l : List Int} {k cn : Nat} {h : Int} (hl : ∀ x ∈ l, 0 ≤ x ∧ x ≤ (k : Int)) (hh : 0 ≤ h ∧ h ≤ (k : Int)) : ∀ x ∈ l.set cn (h + 1), 0 ≤ x ∧ x ≤ ((k + 1 : Nat) : Int) := by
  intro x hx
  rcases List.mem_or_eq_of_mem_set hx with h1 | rfl
  · have := hl x h1; omega
  · omega

set_option maxHeartbeats 6400000 in
set_option maxRecDepth 100000 in
theorem rtimes7 (g5 gh gf n : Nat) (b : Int) (es : List Ent) (ps : List Int) (A B : Option Addr) (ce cp : Nat) {u2 u3 u4 u6 u7 u10 u12 u13 u14 u15 u16 u17 u18 u19 u20 u21 u22 u23 u24 u25 u26 u27 u28 u29 u30 u31 u32 u33 u34 u35 u36 u37 u38 u39 u40 u41 u42 u43 u44 u45 u46 u47 u48 u49 u50 u51 u52 u53 u54 u55 u56 u57 u58 u59 u60 u61 u62 u63 u64 u65 u66 u67 u68 u69 u70 u71 u72 u73 u74 u75 u76 u77 u78 u79 u80 u81 u82 u83 u84 u85 u86 u87 u88 u89 u90 u91 u92 u93 u94 u95 u96 u97 u98 u99 u100 u101 u102 u103 u104 u105 u106 u107 u108 u109 u110 u111 u112 u113 u114 u115 u116 u117 u118 u119 u120 u121 u122 u123 u124 u125 u126 u127 u128 u129 u130 u131 u132 u133 u134 u135 u136 u137 u138 u139 u140 u141 u142 u143 u144 u145 u146 u147 u148 u149 : Value} (w wx : World) (hn : 1 ≤ n ∧ n ≤ 64) (hb : 2 ≤ b ∧ b ≤ 4096) (hle : es.length ≤ 4096) (hlp : ps.length ≤ 65536) (hI : ∀ p ∈ ps, I64 p) (hE : Reads w w.heap.size 13 A es.length (es.flatMap Ent.row)) (hP : Reads w w.heap.size 1 B ps.length (ps.map (Value.int .i64)))
    (h5 : Blk wx g5 41 #[.slice A es.length ce, .slice B ps.length cp]) (hh : Blk wx gh 3 ((List.replicate es.length (0 : Int)).map (Value.int .i64)).toArray) (hf : Blk wx gf 3 ((List.replicate es.length (0 : Int)).map (Value.int .i64)).toArray) (hbel : Below w.heap.size w wx)
    (g5l : w.heap.size ≤ g5) (ghl : w.heap.size ≤ gh) (gfl : w.heap.size ≤ gf) (ne1 : g5 ≠ gh) (ne2 : g5 ≠ gf) (ne3 : gh ≠ gf) :
    Code.wp Try.prog (bodyTail Try.f33 7) (bodyPost Try.prog Try.f33 (RefTimesEnd (refRun b es n 0 (List.replicate es.length 0) (List.replicate es.length 0) ps [], 0) w)) ⟨#[.int .i64 (n : Int), .int .i64 b, u2, u3, u4, .pointer (some ⟨g5, 0, none⟩), u6, u7, .slice (some ⟨gh, 0, none⟩) es.length es.length, .slice (some ⟨gf, 0, none⟩) es.length es.length, u10, .slice none 0 0, u12, u13, u14, u15, u16, u17, u18, u19, u20, u21, u22, u23, u24, u25, u26, u27, u28, u29, u30, u31, u32, u33, u34, u35, u36, u37, u38, u39, u40, u41, u42, u43, u44, u45, u46, u47, u48, u49, u50, u51, u52, u53, u54, u55, u56, u57, u58, u59, u60, u61, u62, u63, u64, u65, u66, u67, u68, u69, u70, u71, u72, u73, u74, u75, u76, u77, u78, u79, u80, u81, u82, u83, u84, u85, u86, u87, u88, u89, u90, u91, u92, u93, u94, u95, u96, u97, u98, u99, u100, u101, u102, u103, u104, u105, u106, u107, u108, u109, u110, u111, u112, u113, u114, u115, u116, u117, u118, u119, u120, u121, u122, u123, u124, u125, u126, u127, u128, u129, u130, u131, u132, u133, u134, u135, u136, u137, u138, u139, u140, u141, u142, u143, u144, u145, u146, u147, u148, u149], []⟩ wx := by
  conv => arg 2; whnf
  refine wp_seq_k fun K hK => ?_
  have HK := Lib.hid hK
  clear hK
  have HE := Lib.hid hE
  have HP := Lib.hid hP
  have HI := Lib.hid hI
  have HHN := Lib.hid hn
  have hbelx := hbel
  obtain ⟨hn1, hn2⟩ := hn
  obtain ⟨hb1, hb2⟩ := hb
  obtain ⟨i0, hi0, iz0, iz1, iz2⟩ := info_parts infoRSpan
  obtain ⟨i3, hi3, jz0, jz1, jz2⟩ := info_parts infoInts
  have HZ := Lib.hid (And.intro h5 (And.intro hh (And.intro hf hbel)))
  have hszx : w.heap.size ≤ wx.heap.size := hbel.size
  clear hE hP hI h5 hh hf hbel
  go_wp2_with fail
  go_loopw [11, 12] (fun v i wr => ∃ (k : Nat) (had frm : List Int) (out : List Spn), k ≤ ps.length ∧ i = .int .i64 k ∧ Hid (had.length = es.length ∧ frm.length = es.length ∧ (∀ h ∈ had, 0 ≤ h ∧ h ≤ k) ∧ refRun b es n 0 (List.replicate es.length 0) (List.replicate es.length 0) ps [] = refRun b es n k had frm (ps.drop k) out) ∧ out.length ≤ k ∧
      Blk wr g5 41 #[.slice A es.length ce, .slice B ps.length cp] ∧ Blk wr gh 3 (had.map (Value.int .i64)).toArray ∧ Blk wr gf 3 (frm.map (Value.int .i64)).toArray ∧
      wr.ownsRow wx.heap.size 79 3 v out.length (out.flatMap Spn.row) ∧ Below w.heap.size w wr ∧ wx.heap.size ≤ wr.heap.size) (fun _ i _ => ps.length - (intOf i).toNat)
  case atStart => exact ⟨0, List.replicate es.length 0, List.replicate es.length 0, [], Nat.zero_le _, rfl, Lib.hid ⟨by simp, by simp, fun h hm => by rw [(List.mem_replicate.1 hm).2]; simp, by simp⟩, Nat.le_refl _, HZ.out.1, HZ.out.2.1, HZ.out.2.2.1, ⟨rfl, Or.inl ⟨rfl, rfl⟩⟩, HZ.out.2.2.2, Nat.le_refl _⟩
  case round =>
    obtain ⟨k, had, frm, out, hk, rfl, hid, hout, h5, hh, hf, hown, hbel, hsz⟩ := hrel
    have g5lt := HZ.out.1.lt
    have ghlt := HZ.out.2.1.lt
    have gflt := HZ.out.2.2.1.lt
    have c51 := h5.cell 1
    have c50 := h5.cell 0
    simp at c51 c50
    by_cases hlt : k < ps.length
    · obtain ⟨ad, u, rfl, had0, hu, hcu⟩ := HP.out.at_ hlt
      simp only [List.getElem?_map, List.getElem?_eq_getElem hlt, Option.map_some, Option.some.injEq] at hu
      subst hu
      have hcp := (hbel.cell (p := ad.add k) (by rw [block_of_add]; exact had0)).trans hcu
      have hp := HI.out _ (List.getElem_mem hlt)
      have hdrop := List.drop_eq_getElem_cons hlt
      generalize hPP : ps[k] = p at *
      have HD := Lib.hid hdrop
      have HCP := Lib.hid hcp
      clear hdrop hcu hcp hPP
      go_wp2_with fail
      obtain ⟨wo, rfl⟩ : ∃ wo : World, wo = wr := ⟨_, rfl⟩
      have HL := Lib.hid hid.out.1
      have hhl := hid.out.1
      have HO := Lib.hid (And.intro h5 (And.intro hh (And.intro hf (And.intro hown hbel))))
      have HAD := Lib.hid had0
      clear h5 hh hf hown hbel hhl c51 had0
      go_loopw [13, 14] (fun v i wi => ∃ j : Nat, j ≤ n ∧ i = .int .i64 j ∧ wi.ownsRow wo.heap.size 3 1 v (canM b es had j).length ((canM b es had j).flatMap irow) ∧ Below wo.heap.size wo wi) (fun _ i _ => n - (intOf i).toNat)
      case atStart => exact ⟨0, Nat.zero_le _, rfl, ⟨rfl, Or.inl ⟨rfl, rfl⟩⟩, Below.refl _ _⟩
      case round =>
        obtain ⟨j, hj, rfl, hwown, hwb⟩ := hrel
        have hwsz := hwb.size
        by_cases hjn : j < n
        · have z5 := HO.out.1.below hwb HO.out.1.lt
          have zh := HO.out.2.1.below hwb HO.out.2.1.lt
          have c50 := z5.cell 0
          have c51 := z5.cell 1
          simp at c50 c51
          have hEr := (HE.out.below (HO.out.2.2.2.2.trans (hwb.mono HO.out.2.2.2.2.size)))
          have hEr2 := hEr.more (Nat.le_trans HO.out.2.2.2.2.size hwsz)
          have hHr := blk_ints zh
          rw [HL.out] at hHr
          have hcl := canM_len b es had j
          have hcr := curFrom_range b j es had 0
          have hcq : canM b es had (j + 1) = canM b es had j ++ (if 0 ≤ curFrom b j 0 es had then [curFrom b j 0 es had] else []) := rfl
          have HCQ := Lib.hid hcq
          have HCalls := Lib.hid (And.intro hEr2 (And.intro hHr (And.intro hwown hwb)))
          clear z5 zh hEr hEr2 hHr hcq hwown hwb
          go_wp2_with fail
          refine (current_any A (some ad) (some ⟨gh, 0, none⟩) ce cp es.length ps.length b j es had wr HL.out hle HCalls.out.1 HCalls.out.2.1).mono ?_
          rintro e w' ⟨rfl, hb2⟩
          obtain ⟨-, -, hwown, hwb⟩ := HCalls.out
          have hwown := ownsRow_below hwown hb2 (Nat.le_refl _)
          have hwb := below_trans (w1 := wr) hwb hb2
          have hwsz := hwb.size
          clear HCalls hb2
          obtain ⟨cur, hcur⟩ : ∃ cur, curFrom b j 0 es had = cur := ⟨_, rfl⟩
          rw [hcur] at HCQ hcr ⊢
          by_cases h0 : 0 ≤ cur
          · have hcq := HCQ.out
            rw [if_pos h0] at hcq
            have HCQ2 := Lib.hid hcq
            clear hcq HCQ hcur
            go_wp2_with (first
              | (at_builtin
                 refine wpList_append_any _ rfl (.tmp 92) (.tmp 94) _ rfl wo.heap.size 3 i3 _ 1 8 Try.underlying39 hi3 jz0 jz1 jz2 rfl (by omega) u13 (canM b es had j).length ((canM b es had j).flatMap irow) rfl
                   (hwown.alloc _) _ (some ⟨w'.heap.size, 0, none⟩) 1 1 (irow cur) rfl (reads_of_blk (blk_newAt rfl) rfl rfl) (irow_one _) (by unfold maxLen; omega) (by omega) (by simp; omega) ?_
                 intro v2 w2 hown2 hg2 hat2
                 have hbel2 : Below wo.heap.size wo w2 := below_app (hwb.alloc hwsz _) (hwown.alloc _) hg2 (Nat.le_refl _) (by simp; omega)))
            clear hg2 hat2
            go_roundw
            case rel =>
              refine ⟨j + 1, by omega, by go_num, ?_, hbel2⟩
              rw [HCQ2.out, List.length_append, List.flatMap_append, List.flatMap_singleton]
              exact hown2
            case measure => simp [intOf]; omega
          · have hcq := HCQ.out
            rw [if_neg h0, List.append_nil] at hcq
            have HCQ2 := Lib.hid hcq
            clear hcq HCQ hcur
            go_wp2
            go_roundw
            case rel => exact ⟨j + 1, by omega, by go_num, by rw [HCQ2.out]; exact hwown, hwb⟩
            case measure => simp [intOf]; omega
        · obtain rfl : j = n := by omega
          obtain ⟨A1, c1, rfl, hA1, hc11, hc12⟩ := own_form hwown
          have hcl := canM_len b es had j
          have HHid := Lib.hid (And.intro HO.out.2.2.2.1 HO.out.2.2.2.2)
          by_cases hz : (canM b es had j).length = 0
          · have hzb : (((canM b es had j).length : Int) == 0) = true := by simp [hz]
            have hfin : refRun b es j 0 (List.replicate es.length 0) (List.replicate es.length 0) ps [] = out := by rw [hid.out.2.2.2, HD.out]; exact refRun_none hz
            have HFin := Lib.hid hfin
            have hown2 := ownsRow_below HO.out.2.2.2.1 hwb (Nat.le_refl _)
            have hbel2 := HO.out.2.2.2.2.trans (hwb.mono HO.out.2.2.2.2.size)
            have HE2 := Lib.hid (And.intro hown2 hbel2)
            clear hfin hz hown2 hbel2 hwown hwb
            go_wp2
            go_ret2
            exact ⟨u11, rfl, by rw [HFin.out]; exact ownsRow_more HE2.out.1 hszx, HE2.out.2⟩
          · have hzb : (((canM b es had j).length : Int) == 0) = false := by simp [hz]
            obtain ⟨L, hL⟩ : ∃ L, (canM b es had j).length = L := ⟨_, rfl⟩
            have hLpos : 0 < L := by omega
            have hL64 : L ≤ 64 := by omega
            have hbr := bring_range p L hLpos
            obtain ⟨q, hq⟩ : ∃ q : Nat, bring p L = q := ⟨(bring p L).toNat, by omega⟩
            have hqL : q < L := by omega
            have hcan : (canM b es had j)[q]? = some ((canM b es had j)[q]'(by omega)) := List.getElem?_eq_getElem _
            have hcm := canM_mem (List.getElem_mem (show q < (canM b es had j).length by omega))
            obtain ⟨ad1, u1, hA1e, -, hu1, hc1⟩ := (Reads.of_own hwown).at_ (show q < (canM b es had j).length by omega)
            rw [irow_map, List.getElem?_map, hcan] at hu1
            simp only [Option.map_some, Option.some.injEq] at hu1
            generalize (canM b es had j)[q]'(by omega) = cz at hcan hcm hu1
            obtain ⟨hcm1, hcm2, hcm3⟩ := hcm
            obtain ⟨cn, rfl⟩ : ∃ cn : Nat, cz = cn := ⟨cz.toNat, by omega⟩
            subst hu1 hA1e
            have hce : cn < es.length := by omega
            obtain ⟨ed, rfl, heb, hec⟩ := row_cells ent_row_len HE.out rfl hce
            have hel : es[cn]? = some (es[cn]) := List.getElem?_eq_getElem hce
            generalize es[cn] = e at hec hel
            have hhat0 : had[cn]? = some (had[cn]'(by omega)) := List.getElem?_eq_getElem _
            have hhb := hid.out.2.2.1 _ (List.getElem_mem (show cn < had.length by omega))
            generalize had[cn]'(by omega) = h at hhat0 hhb
            have hfl : cn < frm.length := by rw [hid.out.2.1]; exact hce
            have hfat0 : frm[cn]? = some (frm[cn]) := List.getElem?_eq_getElem hfl
            generalize frm[cn] = f at hfat0
            have hstep := refRun_step (b := b) (es := es) (n := j) (i := k) (had := had) (frm := frm) (p := p) (ps := ps.drop (k + 1)) (out := out) (c := (cn : Int)) (h := h) (f := f) (e := e) (by omega) (by rw [hL, hq]; simpa using hcan) (by simpa using hel) (by simpa using hhat0) (by simpa using hfat0)
            rw [← HD.out, ← hid.out.2.2.2, Int.toNat_natCast] at hstep
            have hq2 : bring p (canM b es had j).length = (q : Int) := by rw [hL]; exact hq
            have hpk := pick_any p (canM b es had j).length wr hp (by omega)
            rw [hq2] at hpk
            have HPK := Lib.hid hpk
            have HStep := Lib.hid hstep
            have HEC := Lib.hid hec
            have HHA := Lib.hid hhat0
            have HHS := Lib.hid (show (had.set cn (h + 1))[cn]? = some (h + 1) by rw [List.getElem?_set_self (by omega)])
            have iq1 : (0 : Int) ≤ (q : Int) := by omega
            have iq2 : (q : Int) < ((canM b es had j).length : Int) := by omega
            have ic1 : (0 : Int) ≤ (cn : Int) := by omega
            have ic2 : (cn : Int) < (es.length : Int) := by omega
            have ik1 : (0 : Int) ≤ (k : Int) := by omega
            have ik2 : (k : Int) < (ps.length : Int) := by omega
            have hzz : ((canM b es had j).length : Int) ≤ 64 := by omega
            have z5 := HO.out.1.below hwb HO.out.1.lt
            have zh := HO.out.2.1.below hwb HO.out.2.1.lt
            have zf := HO.out.2.2.1.below hwb HO.out.2.2.1.lt
            have zown := ownsRow_below HO.out.2.2.2.1 hwb (Nat.le_refl _)
            have zbel := HO.out.2.2.2.2.trans (hwb.mono HO.out.2.2.2.2.size)
            have c51 := z5.cell 1
            simp at c51
            have cpk : wr.cell? (ad.add k) = some (.int .i64 p) := (hwb.cell (by rw [block_of_add]; have := HAD.out; have := HO.out.2.2.2.2.size; omega)).trans HCP.out
            have xh0 := ints_cell zh hhat0
            have xf0 := ints_cell zf hfat0
            have xff := zf.frozen cn
            have hf0 : frm.set cn f = frm := List.set_getElem?_self_eq hfat0
            have HF0 := Lib.hid hf0
            have hszw : wx.heap.size ≤ wr.heap.size := Nat.le_trans hsz hwb.size
            have HZZ := Lib.hid (And.intro z5 (And.intro zh (And.intro zf (And.intro zown zbel))))
            clear hL hq hq2 hcan hel hhat0 hfat0 hstep hec hf0 hpk z5 zh zf zown zbel hwown hwb hbr
            go_upto_region 26 with (go_at_call 52; refine HPK.out.mono ?_; rintro e' w' ⟨rfl, rfl⟩)
            obtain ⟨z5, zh, zf, zown, zbel⟩ := HZZ.out
            by_cases hh0 : h = 0
            · have hhb0 : (h == 0) = true := by simp [hh0]
              have hf := ints_set (k := cn) (x := (k : Int)) zf
              have hh := zh.far (p := ⟨gf, cn, none⟩) (by simp; omega) (.int .i64 (k : Int))
              have h5 := z5.far (p := ⟨gf, cn, none⟩) (by simp; omega) (.int .i64 (k : Int))
              have hown := ownsRow_setCell_below zown (a := ⟨gf, cn, none⟩) (by simp; omega) (.int .i64 (k : Int))
              have hbel := zbel.setCell (p := ⟨gf, cn, none⟩) (by simp; omega) (.int .i64 (k : Int))
              have hsz : wx.heap.size ≤ (wr.setCell ⟨gf, cn, none⟩ (.int .i64 (k : Int))).heap.size := by simpa using hszw
              have HFS := Lib.hid (show (frm.set cn (k : Int))[cn]? = some (k : Int) by rw [List.getElem?_set_self hfl])
              have HH0 := Lib.hid hh0
              have HQ := Lib.hid (And.intro hf (And.intro hh (And.intro h5 (And.intro hown hbel))))
              clear z5 zh zf zown zbel hf hh h5 hown hbel HZZ hh0
              go_upto_region 28 with fail
              clear hhb0 xh0 xf0 xff c51 cpk
              generalize wr.setCell ⟨gf, cn, none⟩ (.int .i64 (k : Int)) = W1 at HQ hsz ⊢
              obtain ⟨hf, hh, h5, hown, hbel⟩ := HQ.out
              clear HQ
              have hs1 : IntKind.i64.wrap (h + 1) = h + 1 := IntWalk.i64_in _ (by omega)
              have xh := ints_cell hh HHA.out
              have xf := hh.frozen cn
              have hh2 := ints_set (k := cn) (x := h + 1) hh
              have hf2 := hf.far (p := ⟨gh, cn, none⟩) (by simp; omega) (.int .i64 (h + 1))
              have h52 := h5.far (p := ⟨gh, cn, none⟩) (by simp; omega) (.int .i64 (h + 1))
              have hown2 := ownsRow_setCell_below hown (a := ⟨gh, cn, none⟩) (by simp; omega) (.int .i64 (h + 1))
              have hbel2 := hbel.setCell (p := ⟨gh, cn, none⟩) (by simp; omega) (.int .i64 (h + 1))
              have hsz2 : wx.heap.size ≤ (W1.setCell ⟨gh, cn, none⟩ (.int .i64 (h + 1))).heap.size := by simpa using hsz
              have HP2 := Lib.hid (And.intro hh2 (And.intro hf2 (And.intro h52 (And.intro hown2 hbel2))))
              clear hh hf h5 hown hbel hh2 hf2 h52 hown2 hbel2 hsz
              go_upto_region 29 with fail
              clear xh xf hs1
              generalize W1.setCell ⟨gh, cn, none⟩ (.int .i64 (h + 1)) = W2 at HP2 hsz2 ⊢
              obtain ⟨hh, hf, h5, hown, hbel⟩ := HP2.out
              clear HP2
              have hXX : ∀ W, Below W2.heap.size W2 W → W.cell? ⟨g5, 0, none⟩ = some (.slice (some ed) es.length ce) ∧ W.cell? ⟨gh, cn, none⟩ = some (.int .i64 (h + 1)) ∧ W.cell? (ed.add (cn * 13)) = some (.int .i64 e.ses) ∧ W.cell? ⟨(ed.add (cn * 13)).block, (ed.add (cn * 13)).off + 1, none⟩ = some (.int .i64 e.r.deed) ∧ W.cell? ⟨(ed.add (cn * 13)).block, (ed.add (cn * 13)).off + 2, none⟩ = some (.int .i64 e.r.ten) ∧ W.cell? ⟨(ed.add (cn * 13)).block, (ed.add (cn * 13)).off + 3, none⟩ = some (.int .u32 e.r.gen) ∧ W.cell? ⟨(ed.add (cn * 13)).block, (ed.add (cn * 13)).off + 4, none⟩ = some (.int .u8 e.r.rig) ∧ W.cell? ⟨(ed.add (cn * 13)).block, (ed.add (cn * 13)).off + 5, none⟩ = some (.string e.r.key) ∧ W.cell? ⟨(ed.add (cn * 13)).block, (ed.add (cn * 13)).off + 6, none⟩ = some (.string e.r.val) ∧ W.cell? ⟨(ed.add (cn * 13)).block, (ed.add (cn * 13)).off + 7, none⟩ = some (.string e.r.old) ∧ W.cell? ⟨(ed.add (cn * 13)).block, (ed.add (cn * 13)).off + 8, none⟩ = some (.int .i64 e.r.lim) ∧ W.cell? ⟨(ed.add (cn * 13)).block, (ed.add (cn * 13)).off + 9, none⟩ = some (.int .i64 e.r.tenant) ∧ W.cell? ⟨(ed.add (cn * 13)).block, (ed.add (cn * 13)).off + 10, none⟩ = some (.int .u64 e.r.qk) ∧ W.cell? ⟨(ed.add (cn * 13)).block, (ed.add (cn * 13)).off + 11, none⟩ = some (.int .u64 e.r.qb) ∧ W.cell? ⟨(ed.add (cn * 13)).block, (ed.add (cn * 13)).off + 12, none⟩ = some (.int .u8 e.r.rights) := by
                intro W hW
                refine ⟨(hW.cell (p := ⟨g5, 0, none⟩) h5.lt).trans (by rw [h5.cell 0]; rfl), (hW.cell (p := ⟨gh, cn, none⟩) hh.lt).trans (ints_cell hh HHS.out), ent_facts fun i u hu => ?_⟩
                have hsz9 := hbel.size
                exact (hW.cell (by rw [block_of_add, block_of_add]; omega)).trans ((hbel.cell (by rw [block_of_add, block_of_add]; exact heb)).trans (HEC.out i u hu))
              obtain ⟨z0, z1, q0, q1, q2, q3, q4, q5, q6, q7, q8, q9, q10, q11, q12⟩ := hXX _ (Below.refl _ _)
              have HX := Lib.hid hXX
              have HP3 := Lib.hid (And.intro hh (And.intro hf (And.intro h5 (And.intro hown hbel))))
              have bb2 := Below.refl W2.heap.size W2
              clear hXX hh hf h5 hown hbel
              obtain ⟨tk, htk⟩ : ∃ tk, takes b e.r = tk := ⟨_, rfl⟩
              have HTK := Lib.hid htk
              have hcall := fun W => rtakes_any e.r b W
              rw [htk] at hcall
              have HCall := Lib.hid hcall
              clear htk hcall
              by_cases hz2 : h + 1 = tk
              · have hzb2 : (h + 1 == tk) = true := by simp [hz2]
                have HZ2 := Lib.hid hz2
                clear hz2
                go_region_held3 (fun W => Below W2.heap.size W2 W ∧ W.cell? ⟨g5, 0, none⟩ = some (.slice (some ed) es.length ce) ∧ W.cell? ⟨gh, cn, none⟩ = some (.int .i64 (h + 1)) ∧ W.cell? (ed.add (cn * 13)) = some (.int .i64 e.ses) ∧ W.cell? ⟨(ed.add (cn * 13)).block, (ed.add (cn * 13)).off + 1, none⟩ = some (.int .i64 e.r.deed) ∧ W.cell? ⟨(ed.add (cn * 13)).block, (ed.add (cn * 13)).off + 2, none⟩ = some (.int .i64 e.r.ten) ∧ W.cell? ⟨(ed.add (cn * 13)).block, (ed.add (cn * 13)).off + 3, none⟩ = some (.int .u32 e.r.gen) ∧ W.cell? ⟨(ed.add (cn * 13)).block, (ed.add (cn * 13)).off + 4, none⟩ = some (.int .u8 e.r.rig) ∧ W.cell? ⟨(ed.add (cn * 13)).block, (ed.add (cn * 13)).off + 5, none⟩ = some (.string e.r.key) ∧ W.cell? ⟨(ed.add (cn * 13)).block, (ed.add (cn * 13)).off + 6, none⟩ = some (.string e.r.val) ∧ W.cell? ⟨(ed.add (cn * 13)).block, (ed.add (cn * 13)).off + 7, none⟩ = some (.string e.r.old) ∧ W.cell? ⟨(ed.add (cn * 13)).block, (ed.add (cn * 13)).off + 8, none⟩ = some (.int .i64 e.r.lim) ∧ W.cell? ⟨(ed.add (cn * 13)).block, (ed.add (cn * 13)).off + 9, none⟩ = some (.int .i64 e.r.tenant) ∧ W.cell? ⟨(ed.add (cn * 13)).block, (ed.add (cn * 13)).off + 10, none⟩ = some (.int .u64 e.r.qk) ∧ W.cell? ⟨(ed.add (cn * 13)).block, (ed.add (cn * 13)).off + 11, none⟩ = some (.int .u64 e.r.qb) ∧ W.cell? ⟨(ed.add (cn * 13)).block, (ed.add (cn * 13)).off + 12, none⟩ = some (.int .u8 e.r.rights)) (first | exact ⟨bb2.drew, HX.out _ bb2.drew⟩ | exact ⟨hbN, HX.out _ hbN⟩)
                  (first | (go_at_call 53; refine (HCall.out _).mono ?_; rintro e' wn ⟨rfl, hbm⟩; have hH := ‹Below W2.heap.size W2 _ ∧ _›; have hbN := below_trans hH.1 hbm))
                have HbN := Lib.hid hbN
                clear hbN hbm z0 z1 q0 q1 q2 q3 q4 q5 q6 q7 q8 q9 q10 q11 q12 bb2
                have hf := HP3.out.2.1.below HbN.out HP3.out.2.1.lt
                have xf := ints_cell hf HFS.out
                have hown := ownsRow_below HP3.out.2.2.2.1 HbN.out (Nat.le_refl _)
                have hszn : wx.heap.size ≤ wn.heap.size := Nat.le_trans hsz2 HbN.out.size
                have HP4 := Lib.hid hf
                clear hf
                go_wp2_with (first
                  | (at_builtin
                     refine wpList_append_any _ rfl (.tmp 139) (.tmp 147) _ rfl wx.heap.size 79 i0 _ 3 24 Try.underlying75 hi0 iz0 iz1 iz2 rfl (by omega) u11 out.length (out.flatMap Spn.row) rfl
                       (hown.alloc _) _ (some ⟨wn.heap.size, 0, none⟩) 1 1 (Spn.row ⟨(cn : Int), (k : Int), (k : Int)⟩) rfl (reads_of_blk (blk_newAt rfl) rfl rfl) (by simp [Spn.row, Value.oneCell']) (by unfold maxLen; omega) (by omega) (by simp; omega) ?_
                     intro v2 w2 hown2 hg2 hat2
                     have hk2 : ∀ x, x < wx.heap.size → w2.heap[x]? = wn.heap[x]? := fun x hx => (hg2.block x (by simp; omega) (fun e => by have := (hown.lt x e.symm).1; omega)).trans (Below.heap_alloc wn _ x (by omega))
                     have hbel2 : Below w.heap.size w w2 := below_app ((HP3.out.2.2.2.2.trans (HbN.out.mono HP3.out.2.2.2.2.size)).alloc (by omega) _) (hown.alloc _) hg2 hszx (by simp; omega)
                     have hszm : wx.heap.size ≤ w2.heap.size := by have := hg2.size; simp at this; omega))
                have HK2 := Lib.hid hk2
                clear hg2 hat2 hown xf hk2
                go_roundw
                case rel =>
                  refine ⟨k + 1, had.set cn (h + 1), frm.set cn ((k : Int)), out ++ [⟨(cn : Int), (k : Int), (k : Int)⟩], by omega, by go_num, Lib.hid ⟨by rw [List.length_set]; exact hid.out.1, by rw [List.length_set]; exact hid.out.2.1, ?_, ?_⟩, by simp; omega, ?_, ?_, ?_, ?_, hbel2, hszm⟩
                  · exact set_le hid.out.2.2.1 hhb
                  · rw [HStep.out, HTK.out, if_pos HZ2.out, if_pos HH0.out]
                  · exact (HK2.out g5 (by omega)).trans (HP3.out.2.2.1.below HbN.out HP3.out.2.2.1.lt)
                  · exact (HK2.out gh (by omega)).trans (HP3.out.1.below HbN.out HP3.out.1.lt)
                  · exact (HK2.out gf (by omega)).trans HP4.out
                  · rw [List.length_append, List.flatMap_append, List.flatMap_singleton]
                    exact hown2
                case measure => simp [intOf]; omega
              · have hzb2 : (h + 1 == tk) = false := by simp [hz2]
                have HZ2 := Lib.hid hz2
                clear hz2
                go_region_held3 (fun W => Below W2.heap.size W2 W ∧ W.cell? ⟨g5, 0, none⟩ = some (.slice (some ed) es.length ce) ∧ W.cell? ⟨gh, cn, none⟩ = some (.int .i64 (h + 1)) ∧ W.cell? (ed.add (cn * 13)) = some (.int .i64 e.ses) ∧ W.cell? ⟨(ed.add (cn * 13)).block, (ed.add (cn * 13)).off + 1, none⟩ = some (.int .i64 e.r.deed) ∧ W.cell? ⟨(ed.add (cn * 13)).block, (ed.add (cn * 13)).off + 2, none⟩ = some (.int .i64 e.r.ten) ∧ W.cell? ⟨(ed.add (cn * 13)).block, (ed.add (cn * 13)).off + 3, none⟩ = some (.int .u32 e.r.gen) ∧ W.cell? ⟨(ed.add (cn * 13)).block, (ed.add (cn * 13)).off + 4, none⟩ = some (.int .u8 e.r.rig) ∧ W.cell? ⟨(ed.add (cn * 13)).block, (ed.add (cn * 13)).off + 5, none⟩ = some (.string e.r.key) ∧ W.cell? ⟨(ed.add (cn * 13)).block, (ed.add (cn * 13)).off + 6, none⟩ = some (.string e.r.val) ∧ W.cell? ⟨(ed.add (cn * 13)).block, (ed.add (cn * 13)).off + 7, none⟩ = some (.string e.r.old) ∧ W.cell? ⟨(ed.add (cn * 13)).block, (ed.add (cn * 13)).off + 8, none⟩ = some (.int .i64 e.r.lim) ∧ W.cell? ⟨(ed.add (cn * 13)).block, (ed.add (cn * 13)).off + 9, none⟩ = some (.int .i64 e.r.tenant) ∧ W.cell? ⟨(ed.add (cn * 13)).block, (ed.add (cn * 13)).off + 10, none⟩ = some (.int .u64 e.r.qk) ∧ W.cell? ⟨(ed.add (cn * 13)).block, (ed.add (cn * 13)).off + 11, none⟩ = some (.int .u64 e.r.qb) ∧ W.cell? ⟨(ed.add (cn * 13)).block, (ed.add (cn * 13)).off + 12, none⟩ = some (.int .u8 e.r.rights)) (first | exact ⟨bb2.drew, HX.out _ bb2.drew⟩ | exact ⟨hbN, HX.out _ hbN⟩)
                  (first | (go_at_call 53; refine (HCall.out _).mono ?_; rintro e' wn ⟨rfl, hbm⟩; have hH := ‹Below W2.heap.size W2 _ ∧ _›; have hbN := below_trans hH.1 hbm))
                have HbN := Lib.hid hbN
                clear hbN hbm z0 z1 q0 q1 q2 q3 q4 q5 q6 q7 q8 q9 q10 q11 q12 bb2
                go_wp2
                go_roundw
                case rel =>
                  refine ⟨k + 1, had.set cn (h + 1), frm.set cn ((k : Int)), out, by omega, by go_num, Lib.hid ⟨by rw [List.length_set]; exact hid.out.1, by rw [List.length_set]; exact hid.out.2.1, ?_, ?_⟩, by omega, ?_, ?_, ?_, ?_, ?_, ?_⟩
                  · exact set_le hid.out.2.2.1 hhb
                  · rw [HStep.out, HTK.out, if_neg HZ2.out, if_pos HH0.out]
                  · exact HP3.out.2.2.1.below HbN.out HP3.out.2.2.1.lt
                  · exact HP3.out.1.below HbN.out HP3.out.1.lt
                  · exact HP3.out.2.1.below HbN.out HP3.out.2.1.lt
                  · exact ownsRow_below HP3.out.2.2.2.1 HbN.out (Nat.le_refl _)
                  · exact HP3.out.2.2.2.2.trans (HbN.out.mono HP3.out.2.2.2.2.size)
                  · exact Nat.le_trans hsz2 HbN.out.size
                case measure => simp [intOf]; omega
            · have hhb0 : (h == 0) = false := by simp [hh0]
              have HH0 := Lib.hid hh0
              have HFS := Lib.hid (show (frm.set cn f)[cn]? = some f by rw [List.getElem?_set_self hfl])
              clear z5 zh zf zown zbel hh0
              go_upto_region 28 with fail
              clear hhb0 xh0 xf0 xff c51 cpk
              obtain ⟨h5, hh, hf, hown, hbel⟩ := HZZ.out
              rw [← HF0.out] at hf
              have hsz := hszw
              clear HZZ
              obtain ⟨W1, rfl⟩ : ∃ W1 : World, W1 = wr := ⟨_, rfl⟩
              have hs1 : IntKind.i64.wrap (h + 1) = h + 1 := IntWalk.i64_in _ (by omega)
              have xh := ints_cell hh HHA.out
              have xf := hh.frozen cn
              have hh2 := ints_set (k := cn) (x := h + 1) hh
              have hf2 := hf.far (p := ⟨gh, cn, none⟩) (by simp; omega) (.int .i64 (h + 1))
              have h52 := h5.far (p := ⟨gh, cn, none⟩) (by simp; omega) (.int .i64 (h + 1))
              have hown2 := ownsRow_setCell_below hown (a := ⟨gh, cn, none⟩) (by simp; omega) (.int .i64 (h + 1))
              have hbel2 := hbel.setCell (p := ⟨gh, cn, none⟩) (by simp; omega) (.int .i64 (h + 1))
              have hsz2 : wx.heap.size ≤ (W1.setCell ⟨gh, cn, none⟩ (.int .i64 (h + 1))).heap.size := by simpa using hsz
              have HP2 := Lib.hid (And.intro hh2 (And.intro hf2 (And.intro h52 (And.intro hown2 hbel2))))
              clear hh hf h5 hown hbel hh2 hf2 h52 hown2 hbel2 hsz
              go_upto_region 29 with fail
              clear xh xf hs1
              generalize W1.setCell ⟨gh, cn, none⟩ (.int .i64 (h + 1)) = W2 at HP2 hsz2 ⊢
              obtain ⟨hh, hf, h5, hown, hbel⟩ := HP2.out
              clear HP2
              have hXX : ∀ W, Below W2.heap.size W2 W → W.cell? ⟨g5, 0, none⟩ = some (.slice (some ed) es.length ce) ∧ W.cell? ⟨gh, cn, none⟩ = some (.int .i64 (h + 1)) ∧ W.cell? (ed.add (cn * 13)) = some (.int .i64 e.ses) ∧ W.cell? ⟨(ed.add (cn * 13)).block, (ed.add (cn * 13)).off + 1, none⟩ = some (.int .i64 e.r.deed) ∧ W.cell? ⟨(ed.add (cn * 13)).block, (ed.add (cn * 13)).off + 2, none⟩ = some (.int .i64 e.r.ten) ∧ W.cell? ⟨(ed.add (cn * 13)).block, (ed.add (cn * 13)).off + 3, none⟩ = some (.int .u32 e.r.gen) ∧ W.cell? ⟨(ed.add (cn * 13)).block, (ed.add (cn * 13)).off + 4, none⟩ = some (.int .u8 e.r.rig) ∧ W.cell? ⟨(ed.add (cn * 13)).block, (ed.add (cn * 13)).off + 5, none⟩ = some (.string e.r.key) ∧ W.cell? ⟨(ed.add (cn * 13)).block, (ed.add (cn * 13)).off + 6, none⟩ = some (.string e.r.val) ∧ W.cell? ⟨(ed.add (cn * 13)).block, (ed.add (cn * 13)).off + 7, none⟩ = some (.string e.r.old) ∧ W.cell? ⟨(ed.add (cn * 13)).block, (ed.add (cn * 13)).off + 8, none⟩ = some (.int .i64 e.r.lim) ∧ W.cell? ⟨(ed.add (cn * 13)).block, (ed.add (cn * 13)).off + 9, none⟩ = some (.int .i64 e.r.tenant) ∧ W.cell? ⟨(ed.add (cn * 13)).block, (ed.add (cn * 13)).off + 10, none⟩ = some (.int .u64 e.r.qk) ∧ W.cell? ⟨(ed.add (cn * 13)).block, (ed.add (cn * 13)).off + 11, none⟩ = some (.int .u64 e.r.qb) ∧ W.cell? ⟨(ed.add (cn * 13)).block, (ed.add (cn * 13)).off + 12, none⟩ = some (.int .u8 e.r.rights) := by
                intro W hW
                refine ⟨(hW.cell (p := ⟨g5, 0, none⟩) h5.lt).trans (by rw [h5.cell 0]; rfl), (hW.cell (p := ⟨gh, cn, none⟩) hh.lt).trans (ints_cell hh HHS.out), ent_facts fun i u hu => ?_⟩
                have hsz9 := hbel.size
                exact (hW.cell (by rw [block_of_add, block_of_add]; omega)).trans ((hbel.cell (by rw [block_of_add, block_of_add]; exact heb)).trans (HEC.out i u hu))
              obtain ⟨z0, z1, q0, q1, q2, q3, q4, q5, q6, q7, q8, q9, q10, q11, q12⟩ := hXX _ (Below.refl _ _)
              have HX := Lib.hid hXX
              have HP3 := Lib.hid (And.intro hh (And.intro hf (And.intro h5 (And.intro hown hbel))))
              have bb2 := Below.refl W2.heap.size W2
              clear hXX hh hf h5 hown hbel
              obtain ⟨tk, htk⟩ : ∃ tk, takes b e.r = tk := ⟨_, rfl⟩
              have HTK := Lib.hid htk
              have hcall := fun W => rtakes_any e.r b W
              rw [htk] at hcall
              have HCall := Lib.hid hcall
              clear htk hcall
              by_cases hz2 : h + 1 = tk
              · have hzb2 : (h + 1 == tk) = true := by simp [hz2]
                have HZ2 := Lib.hid hz2
                clear hz2
                go_region_held3 (fun W => Below W2.heap.size W2 W ∧ W.cell? ⟨g5, 0, none⟩ = some (.slice (some ed) es.length ce) ∧ W.cell? ⟨gh, cn, none⟩ = some (.int .i64 (h + 1)) ∧ W.cell? (ed.add (cn * 13)) = some (.int .i64 e.ses) ∧ W.cell? ⟨(ed.add (cn * 13)).block, (ed.add (cn * 13)).off + 1, none⟩ = some (.int .i64 e.r.deed) ∧ W.cell? ⟨(ed.add (cn * 13)).block, (ed.add (cn * 13)).off + 2, none⟩ = some (.int .i64 e.r.ten) ∧ W.cell? ⟨(ed.add (cn * 13)).block, (ed.add (cn * 13)).off + 3, none⟩ = some (.int .u32 e.r.gen) ∧ W.cell? ⟨(ed.add (cn * 13)).block, (ed.add (cn * 13)).off + 4, none⟩ = some (.int .u8 e.r.rig) ∧ W.cell? ⟨(ed.add (cn * 13)).block, (ed.add (cn * 13)).off + 5, none⟩ = some (.string e.r.key) ∧ W.cell? ⟨(ed.add (cn * 13)).block, (ed.add (cn * 13)).off + 6, none⟩ = some (.string e.r.val) ∧ W.cell? ⟨(ed.add (cn * 13)).block, (ed.add (cn * 13)).off + 7, none⟩ = some (.string e.r.old) ∧ W.cell? ⟨(ed.add (cn * 13)).block, (ed.add (cn * 13)).off + 8, none⟩ = some (.int .i64 e.r.lim) ∧ W.cell? ⟨(ed.add (cn * 13)).block, (ed.add (cn * 13)).off + 9, none⟩ = some (.int .i64 e.r.tenant) ∧ W.cell? ⟨(ed.add (cn * 13)).block, (ed.add (cn * 13)).off + 10, none⟩ = some (.int .u64 e.r.qk) ∧ W.cell? ⟨(ed.add (cn * 13)).block, (ed.add (cn * 13)).off + 11, none⟩ = some (.int .u64 e.r.qb) ∧ W.cell? ⟨(ed.add (cn * 13)).block, (ed.add (cn * 13)).off + 12, none⟩ = some (.int .u8 e.r.rights)) (first | exact ⟨bb2.drew, HX.out _ bb2.drew⟩ | exact ⟨hbN, HX.out _ hbN⟩)
                  (first | (go_at_call 53; refine (HCall.out _).mono ?_; rintro e' wn ⟨rfl, hbm⟩; have hH := ‹Below W2.heap.size W2 _ ∧ _›; have hbN := below_trans hH.1 hbm))
                have HbN := Lib.hid hbN
                clear hbN hbm z0 z1 q0 q1 q2 q3 q4 q5 q6 q7 q8 q9 q10 q11 q12 bb2
                have hf := HP3.out.2.1.below HbN.out HP3.out.2.1.lt
                have xf := ints_cell hf HFS.out
                have hown := ownsRow_below HP3.out.2.2.2.1 HbN.out (Nat.le_refl _)
                have hszn : wx.heap.size ≤ wn.heap.size := Nat.le_trans hsz2 HbN.out.size
                have HP4 := Lib.hid hf
                clear hf
                go_wp2_with (first
                  | (at_builtin
                     refine wpList_append_any _ rfl (.tmp 139) (.tmp 147) _ rfl wx.heap.size 79 i0 _ 3 24 Try.underlying75 hi0 iz0 iz1 iz2 rfl (by omega) u11 out.length (out.flatMap Spn.row) rfl
                       (hown.alloc _) _ (some ⟨wn.heap.size, 0, none⟩) 1 1 (Spn.row ⟨(cn : Int), f, (k : Int)⟩) rfl (reads_of_blk (blk_newAt rfl) rfl rfl) (by simp [Spn.row, Value.oneCell']) (by unfold maxLen; omega) (by omega) (by simp; omega) ?_
                     intro v2 w2 hown2 hg2 hat2
                     have hk2 : ∀ x, x < wx.heap.size → w2.heap[x]? = wn.heap[x]? := fun x hx => (hg2.block x (by simp; omega) (fun e => by have := (hown.lt x e.symm).1; omega)).trans (Below.heap_alloc wn _ x (by omega))
                     have hbel2 : Below w.heap.size w w2 := below_app ((HP3.out.2.2.2.2.trans (HbN.out.mono HP3.out.2.2.2.2.size)).alloc (by omega) _) (hown.alloc _) hg2 hszx (by simp; omega)
                     have hszm : wx.heap.size ≤ w2.heap.size := by have := hg2.size; simp at this; omega))
                have HK2 := Lib.hid hk2
                clear hg2 hat2 hown xf hk2
                go_roundw
                case rel =>
                  refine ⟨k + 1, had.set cn (h + 1), frm.set cn (f), out ++ [⟨(cn : Int), f, (k : Int)⟩], by omega, by go_num, Lib.hid ⟨by rw [List.length_set]; exact hid.out.1, by rw [List.length_set]; exact hid.out.2.1, ?_, ?_⟩, by simp; omega, ?_, ?_, ?_, ?_, hbel2, hszm⟩
                  · exact set_le hid.out.2.2.1 hhb
                  · rw [HStep.out, HTK.out, if_pos HZ2.out, if_neg HH0.out]
                  · exact (HK2.out g5 (by omega)).trans (HP3.out.2.2.1.below HbN.out HP3.out.2.2.1.lt)
                  · exact (HK2.out gh (by omega)).trans (HP3.out.1.below HbN.out HP3.out.1.lt)
                  · exact (HK2.out gf (by omega)).trans HP4.out
                  · rw [List.length_append, List.flatMap_append, List.flatMap_singleton]
                    exact hown2
                case measure => simp [intOf]; omega
              · have hzb2 : (h + 1 == tk) = false := by simp [hz2]
                have HZ2 := Lib.hid hz2
                clear hz2
                go_region_held3 (fun W => Below W2.heap.size W2 W ∧ W.cell? ⟨g5, 0, none⟩ = some (.slice (some ed) es.length ce) ∧ W.cell? ⟨gh, cn, none⟩ = some (.int .i64 (h + 1)) ∧ W.cell? (ed.add (cn * 13)) = some (.int .i64 e.ses) ∧ W.cell? ⟨(ed.add (cn * 13)).block, (ed.add (cn * 13)).off + 1, none⟩ = some (.int .i64 e.r.deed) ∧ W.cell? ⟨(ed.add (cn * 13)).block, (ed.add (cn * 13)).off + 2, none⟩ = some (.int .i64 e.r.ten) ∧ W.cell? ⟨(ed.add (cn * 13)).block, (ed.add (cn * 13)).off + 3, none⟩ = some (.int .u32 e.r.gen) ∧ W.cell? ⟨(ed.add (cn * 13)).block, (ed.add (cn * 13)).off + 4, none⟩ = some (.int .u8 e.r.rig) ∧ W.cell? ⟨(ed.add (cn * 13)).block, (ed.add (cn * 13)).off + 5, none⟩ = some (.string e.r.key) ∧ W.cell? ⟨(ed.add (cn * 13)).block, (ed.add (cn * 13)).off + 6, none⟩ = some (.string e.r.val) ∧ W.cell? ⟨(ed.add (cn * 13)).block, (ed.add (cn * 13)).off + 7, none⟩ = some (.string e.r.old) ∧ W.cell? ⟨(ed.add (cn * 13)).block, (ed.add (cn * 13)).off + 8, none⟩ = some (.int .i64 e.r.lim) ∧ W.cell? ⟨(ed.add (cn * 13)).block, (ed.add (cn * 13)).off + 9, none⟩ = some (.int .i64 e.r.tenant) ∧ W.cell? ⟨(ed.add (cn * 13)).block, (ed.add (cn * 13)).off + 10, none⟩ = some (.int .u64 e.r.qk) ∧ W.cell? ⟨(ed.add (cn * 13)).block, (ed.add (cn * 13)).off + 11, none⟩ = some (.int .u64 e.r.qb) ∧ W.cell? ⟨(ed.add (cn * 13)).block, (ed.add (cn * 13)).off + 12, none⟩ = some (.int .u8 e.r.rights)) (first | exact ⟨bb2.drew, HX.out _ bb2.drew⟩ | exact ⟨hbN, HX.out _ hbN⟩)
                  (first | (go_at_call 53; refine (HCall.out _).mono ?_; rintro e' wn ⟨rfl, hbm⟩; have hH := ‹Below W2.heap.size W2 _ ∧ _›; have hbN := below_trans hH.1 hbm))
                have HbN := Lib.hid hbN
                clear hbN hbm z0 z1 q0 q1 q2 q3 q4 q5 q6 q7 q8 q9 q10 q11 q12 bb2
                go_wp2
                go_roundw
                case rel =>
                  refine ⟨k + 1, had.set cn (h + 1), frm.set cn (f), out, by omega, by go_num, Lib.hid ⟨by rw [List.length_set]; exact hid.out.1, by rw [List.length_set]; exact hid.out.2.1, ?_, ?_⟩, by omega, ?_, ?_, ?_, ?_, ?_, ?_⟩
                  · exact set_le hid.out.2.2.1 hhb
                  · rw [HStep.out, HTK.out, if_neg HZ2.out, if_neg HH0.out]
                  · exact HP3.out.2.2.1.below HbN.out HP3.out.2.2.1.lt
                  · exact HP3.out.1.below HbN.out HP3.out.1.lt
                  · exact HP3.out.2.1.below HbN.out HP3.out.2.1.lt
                  · exact ownsRow_below HP3.out.2.2.2.1 HbN.out (Nat.le_refl _)
                  · exact HP3.out.2.2.2.2.trans (HbN.out.mono HP3.out.2.2.2.2.size)
                  · exact Nat.le_trans hsz2 HbN.out.size
                case measure => simp [intOf]; omega
    · obtain rfl : k = ps.length := by omega
      have hrun2 : refRun b es n 0 (List.replicate es.length 0) (List.replicate es.length 0) ps [] = out := by rw [hid.out.2.2.2, List.drop_length]; rfl
      have HRun := Lib.hid hrun2
      have HE2 := Lib.hid (And.intro hown hbel)
      clear hrun2 hown hbel hid
      go_wp2_with fail
      refine HK.out _ _ ?_
      go_wp2
      go_ret2
      exact ⟨u11, rfl, by rw [HRun.out]; exact ownsRow_more HE2.out.1 hszx, HE2.out.2⟩


end Go.Proofs.Ytlmehmmdbdembaa
