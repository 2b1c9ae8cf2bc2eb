/-
  Walks: hide.Times, its loop over the picks.
-/
import Derived.Test.YtlmehmmdbdembaaRowsM
import Derived.Test.YtlmehmmdbdembaaTail
namespace Go.Proofs.Ytlmehmmdbdembaa
open Go.RowKit
set_option linter.unusedVariables false

/-- What Times comes to. -/
def TimesEnd (m : List Spn × Int) (w : World) (e : Ending) (w' : World) : Prop :=
  ∃ v, e = .returned (.tuple #[v, .int .i64 m.2]) ∧ w'.ownsRow w.heap.size 54 3 v m.1.length (m.1.flatMap Spn.row) ∧ Below w.heap.size w w'
theorem ownsRow_more {w : World} {B base size n : Nat} {e : TypeId} {v : Value} {xs : List Value} (h : w.ownsRow base e size v n xs) (hB : B ≤ base) : w.ownsRow B e size v n xs := by
  refine ⟨h.1, ?_⟩
  rcases h.2 with hn | ⟨g, cap, cur, hv, hb, rest⟩
  · exact Or.inl hn
  · exact Or.inr ⟨g, cap, cur, hv, by omega, rest⟩
theorem infoSpan : (Try.prog.info? 54).map (fun i => (i.zero, i.size, i.bytes)) = some (some (.agg #[.int .i64 0, .int .i64 0, .int .i64 0]), 3, 24) := by kernel_rfl

theorem keepFar {X : World} {p q : Addr} {u v : Value} (h : X.cell? q = some v) (hn : q.block ≠ p.block) : ((X.setCell p u).drew).cell? q = some v :=
  (World.cell?_setCell_other X p q u (fun e => by subst e; exact hn rfl)).trans h

theorem keepFar2 {X : World} {p q : Addr} {u v : Value} (h : X.cell? q = some v) (hn : q.block ≠ p.block) : (X.setCell p u).cell? q = some v :=
  (World.cell?_setCell_other X p q u (fun e => by subst e; exact hn rfl)).trans h

set_option maxHeartbeats 6400000 in
set_option maxRecDepth 100000 in
theorem times6 (g3 g5 g8 gr base : Nat) (rows0 : List (List Job)) (vs0 : List Value) (ps : List Int) (Ap : Option Addr) (cp : Nat) (E0 : Value) {u0 u1 u2 u4 u6 u7 u9 u10 u11 u14 u15 u16 u17 u18 u19 u20 u21 u22 u23 u24 u25 u26 u27 u28 u29 u30 u31 u32 u33 u34 u35 u36 u37 u38 u39 u40 u41 u42 u43 u44 u45 u46 u47 u48 u49 u50 u51 u52 u53 u54 u55 u56 u57 u58 u59 u60 u61 u62 u63 u64 u65 u66 u67 u68 u69 u70 u71 u72 u73 u74 u75 u76 u77 u78 u79 u80 u81 u82 u83 u84 u85 u86 u87 u88 u89 u90 u91 u92 u93 u94 u95 u96 u97 u98 u99 u100 u101 u102 u103 u104 u105 u106 u107 u108 u109 u110 u111 u112 u113 u114 u115 u116 u117 u118 u119 u120 u121 u122 u123 u124 u125 u126 u127 u128 u129 u130 u131 u132 u133 u134 u135 u136 u137 u138 u139 u140 u141 u142 u143 u144 u145 u146 u147 u148 : Value} (w wx : World) (hps : ps.length ≤ 65536) (hI : ∀ p ∈ ps, -9223372036854775808 ≤ p ∧ p ≤ 9223372036854775807) (hn : rows0.length ≤ 64) (hok : RowsOk rows0) (hrows : Rows2 wx base wx.heap.size gr rows0 vs0)
    (h3 : Blk wx g3 3 #[.int .i64 (rows0.length : Int)]) (h8 : Blk wx g8 68 #[.slice (some ⟨gr, 0, none⟩) rows0.length rows0.length]) (h5 : Blk wx g5 41 #[E0, .slice Ap ps.length cp]) (hreads : Reads wx w.heap.size 1 Ap ps.length (ps.map (Value.int .i64)))
    (hg3 : w.heap.size ≤ g3 ∧ g3 < base) (hg5 : w.heap.size ≤ g5 ∧ g5 < base) (hg8 : w.heap.size ≤ g8 ∧ g8 < base) (hgr : w.heap.size ≤ gr ∧ gr < base) (hne : g3 ≠ gr ∧ g5 ≠ gr ∧ g8 ≠ gr) (hbase : base ≤ wx.heap.size) (hbel : Below w.heap.size w wx) (hlens : ∀ js ∈ rows0, js.length ≤ 65536) :
    Code.wp Try.prog (bodyTail Try.f13 6) (bodyPost Try.prog Try.f13 (TimesEnd (runM 0 rows0 ps [], 0) w)) ⟨#[u0, u1, u2, .pointer (some ⟨g3, 0, none⟩), u4, .pointer (some ⟨g5, 0, none⟩), u6, u7, .pointer (some ⟨g8, 0, none⟩), u9, u10, u11, .func (.func 32) #[] #[.pointer (some ⟨g3, 0, none⟩), .pointer (some ⟨g8, 0, none⟩)], .slice none 0 0, u14, u15, u16, u17, u18, u19, u20, u21, u22, u23, u24, u25, u26, u27, u28, u29, u30, u31, u32, u33, u34, u35, u36, u37, u38, u39, u40, u41, u42, u43, u44, u45, u46, u47, u48, u49, u50, u51, u52, u53, u54, u55, u56, u57, u58, u59, u60, u61, u62, u63, u64, u65, u66, u67, u68, u69, u70, u71, u72, u73, u74, u75, u76, u77, u78, u79, u80, u81, u82, u83, u84, u85, u86, u87, u88, u89, u90, u91, u92, u93, u94, u95, u96, u97, u98, u99, u100, u101, u102, u103, u104, u105, u106, u107, u108, u109, u110, u111, u112, u113, u114, u115, u116, u117, u118, u119, u120, u121, u122, u123, u124, u125, u126, u127, u128, u129, u130, u131, u132, u133, u134, u135, u136, u137, u138, u139, u140, u141, u142, u143, u144, u145, u146, u147, u148], []⟩ wx := by
  conv => arg 2; whnf
  refine wp_seq_k fun K hK => ?_
  have HK := Lib.hid hK
  clear hK
  have HLs := Lib.hid hlens
  have HOK := Lib.hid hok
  have HI := Lib.hid hI
  have HR := Lib.hid hreads
  have hbelx := hbel
  clear hlens hok hI hreads
  have c51 := h5.cell 1
  simp at c51
  go_wp2_with fail
  clear c51
  obtain ⟨i0, hi0, iz0, iz1, iz2⟩ := info_parts infoSpan
  go_loopw [13, 90] (fun v i wr => ∃ (k : Nat) (rows : List (List Job)) (vs : List Value) (out : List Spn), k ≤ ps.length ∧ i = .int .i64 k ∧ Rows2 wr base wx.heap.size gr rows vs ∧ Hid (RowsOk rows ∧ rows.length = rows0.length ∧ (∀ js ∈ rows, js.length ≤ 65536) ∧ runM 0 rows0 ps [] = runM k rows (ps.drop k) out) ∧ out.length ≤ k ∧
      wr.ownsRow wx.heap.size 54 3 v out.length (out.flatMap Spn.row) ∧ Blk wr g3 3 #[.int .i64 (rows0.length : Int)] ∧ Blk wr g8 68 #[.slice (some ⟨gr, 0, none⟩) rows0.length rows0.length] ∧ Blk wr g5 41 #[E0, .slice Ap ps.length cp] ∧ Below w.heap.size w wr ∧ wx.heap.size ≤ wr.heap.size) (fun _ i _ => ps.length - (intOf i).toNat)
  case atStart => exact ⟨0, rows0, vs0, [], Nat.zero_le _, rfl, hrows, Lib.hid ⟨HOK.out, rfl, HLs.out, by simp⟩, Nat.le_refl _, ⟨rfl, Or.inl ⟨rfl, rfl⟩⟩, h3, h8, h5, hbel, Nat.le_refl _⟩
  case round =>
    obtain ⟨k, rows, vs, out, hk, rfl, hr, hid, hout, hown, h3, h8, h5, hbel, hsz⟩ := hrel
    obtain ⟨hok, hrl, hls, hrun⟩ := hid.out
    by_cases hlt : k < ps.length
    · obtain ⟨ad, u, rfl, had, hu, hcu⟩ := HR.out.at_ hlt
      simp only [List.getElem?_map, List.getElem?_eq_getElem hlt, Option.map_some, Option.some.injEq] at hu
      subst hu
      have hcp := (hbel.cell (p := ad.add k) (by rw [block_of_add]; exact had)).trans ((hbelx.cell (p := ad.add k) (by rw [block_of_add]; exact had)).symm.trans hcu)
      have hp := HI.out _ (List.getElem_mem hlt)
      have hdrop := List.drop_eq_getElem_cons hlt
      generalize hP : ps[k] = p at *
      have c31 := h3.cell 0
      have c81 := h8.cell 0
      simp at c31 c81
      go_wp2_with fail
      have hlm : (rows.map List.length).length = rows0.length := by rw [List.length_map, hrl]
      have hNext := next_any g3 g8 gr vs (rows.map List.length) p wr hp (by omega) (by rw [hlm]; exact c31) (by rw [hlm]; exact c81) hr.blk hr.slices (by
        intro n hn
        obtain ⟨js, hjs, rfl⟩ := List.mem_map.1 hn
        have := hls js hjs
        omega)
      refine hNext.mono ?_
      rintro e w' ⟨rfl, rfl⟩
      clear hNext hlm
      rcases nextOf_spec rows p with hneg | ⟨r, j, js, hrk, hrow⟩
      · rw [hneg]
        have hrun2 : runM 0 rows0 ps [] = out := by rw [hrun, hdrop]; unfold runM; rw [if_pos (by rw [hneg]; omega)]
        have HRun := Lib.hid hrun2
        clear hneg hrun hrun2 hdrop hcp hls hok
        go_wp2
        refine HK.out _ _ ?_
        go_wp2
        go_ret2
        exact ⟨u13, rfl, by rw [HRun.out]; exact ownsRow_more hown (by omega), hbel⟩
      · rw [hrk]
        have hrl2 : r < rows0.length := by rw [← hrl]; exact (List.getElem?_eq_some_iff.1 hrow).1
        obtain ⟨b, off, c, hv, hc1, hc2, hbb, hbt, hcell, e0, e1, e2, f0, f1, f2⟩ := hr.head hrow
        have hjok := hok.at_ hrow
        obtain ⟨hj1, hj2⟩ := hjok
        have hz1 : ¬ ((r : Int) < 0) := by omega
        have hz2 : (0 : Int) ≤ (r : Int) := by omega
        have hz3 : (r : Int) < (rows0.length : Int) := by omega
        have hz4 : (0 : Int) < ((js.length + 1 : Nat) : Int) := by omega
        have hstep : runM 0 rows0 ps [] = if j.left - 1 = 0 then runM (k + 1) (rows.set r js) (ps.drop (k + 1)) (out ++ [⟨j.entry, (pick1 k j).start, k⟩]) else runM (k + 1) (rows.set r (pick1 k j :: js)) (ps.drop (k + 1)) out := by
          rw [hrun, hdrop]
          conv => lhs; unfold runM
          rw [if_neg (by rw [hrk]; omega)]
          simp only [hrk, Int.toNat_natCast, hrow]
        have HStep := Lib.hid hstep
        have HLS := Lib.hid hls
        have HOk := Lib.hid hok
        clear hstep hrun hdrop hls hok hrk hcp
        by_cases hst : j.start < 0
        · go_upto_region 26 with fail
          have hr1 := hr.setHead (i := 2) (j' := ⟨j.entry, j.left, (k : Int)⟩) (u := .int .i64 (k : Int)) (by omega) hrow hv (by omega) rfl
          have hown := ownsRow_setCell_below hown (a := ⟨b, off + 2, none⟩) hbt (.int .i64 (k : Int))
          have h3 := h3.far (p := ⟨b, off + 2, none⟩) (by simp; omega) (.int .i64 (k : Int))
          have h8 := h8.far (p := ⟨b, off + 2, none⟩) (by simp; omega) (.int .i64 (k : Int))
          have h5 := h5.far (p := ⟨b, off + 2, none⟩) (by simp; omega) (.int .i64 (k : Int))
          have hbel := hbel.setCell (p := ⟨b, off + 2, none⟩) (by simp; omega) (.int .i64 (k : Int))
          have hsz : wx.heap.size ≤ (wr.setCell ⟨b, off + 2, none⟩ (.int .i64 (k : Int))).heap.size := by simpa using hsz
          generalize wr.setCell ⟨b, off + 2, none⟩ (.int .i64 (k : Int)) = W at hr1 hown h3 h8 h5 hbel hsz ⊢
          obtain ⟨st, hst0⟩ : ∃ st : Int, st = (k : Int) := ⟨_, rfl⟩
          have hst1 : (pick1 k j).start = st := by simp only [pick1]; rw [if_pos (by omega), hst0]
          rw [← hst0] at hr1
          clear e0 e1 e2 f0 f1 f2 hst0 hcell c31 c81 hcu
          have hv1 : vs[r]? = _ := hv
          obtain ⟨a0, a1, a2, z0, z1, z2⟩ := hr1.headAt (List.getElem?_set_self (by rw [hrl]; exact hrl2)) hv
          have s1 : IntKind.i64.wrap (j.left - 1) = j.left - 1 := IntWalk.i64_in _ (by omega)
          go_upto_region 27 with fail
          have hr2 := hr1.setHead (i := 1) (j' := ⟨j.entry, j.left - 1, st⟩) (u := .int .i64 (j.left - 1)) (by omega) (List.getElem?_set_self (by rw [hrl]; exact hrl2)) hv (by omega) rfl
          rw [List.set_set] at hr2
          have hown := ownsRow_setCell_below hown (a := ⟨b, off + 1, none⟩) hbt (.int .i64 (j.left - 1))
          have h3 := h3.far (p := ⟨b, off + 1, none⟩) (by simp; omega) (.int .i64 (j.left - 1))
          have h8 := h8.far (p := ⟨b, off + 1, none⟩) (by simp; omega) (.int .i64 (j.left - 1))
          have h5 := h5.far (p := ⟨b, off + 1, none⟩) (by simp; omega) (.int .i64 (j.left - 1))
          have hbel := hbel.setCell (p := ⟨b, off + 1, none⟩) (by simp; omega) (.int .i64 (j.left - 1))
          have hsz : wx.heap.size ≤ (W.setCell ⟨b, off + 1, none⟩ (.int .i64 (j.left - 1))).heap.size := by simpa using hsz
          generalize W.setCell ⟨b, off + 1, none⟩ (.int .i64 (j.left - 1)) = W2 at hr2 hown h3 h8 h5 hbel hsz ⊢
          clear a0 a1 a2 z0 z1 z2
          obtain ⟨a0, a1, a2, z0, z1, z2⟩ := hr2.headAt (List.getElem?_set_self (by rw [hrl]; exact hrl2)) hv
          by_cases hz : j.left - 1 = 0
          · have hzb : ((j.left - 1) == 0) = true := by simp [hz]
            go_upto_region 28 with fail
            have ag : u13.ownBlock ≠ some b := fun e => by have := (hown.lt b e).1; omega
            have lb : b < W2.heap.size := by omega
            simp only at a0 a1 a2
            clear hzb z0 z1 z2 a1
            go_region_held3 (fun w' => w'.cell? ⟨b, off, none⟩ = some (.int .i64 j.entry) ∧ w'.cell? ⟨b, off + 2, none⟩ = some (.int .i64 st))
              (first
                | go_keep
                | (go_split_ands
                   refine ⟨?_, ?_⟩
                   · (rw [hgrow.cell_far _ (by simp; omega) (Ne.symm ag)]; assumption)
                   · (rw [hgrow.cell_far _ (by simp; omega) (Ne.symm ag)]; assumption)))
              ((refine step_append_lies _ (by rfl) _ _ _ (by rfl) wx.heap.size 54 i0 _ 3 24 Try.underlying47 hi0 iz0 iz1 iz2 rfl (by omega) u13 out.length (out.flatMap Spn.row) (by rfl) ((hown.alloc _).drew)
                  ⟨W2.heap.size, 0, none⟩ 1 1 [.int .i64 j.entry, .int .i64 st, .int .i64 k] (by rfl) (by rfl) (World.news_of_block (cs := #[.int .i64 j.entry, .int .i64 st, .int .i64 k]) (t := 54) (fr := (0, 0)) (heap_alloc_new W2 _)) (by simp [Value.oneCell'])
                  (by omega) (by unfold maxLen; omega) (by omega) (by simp; omega) (W2.heap.size + 1) (by simp) ?_; intro gg cap w1 hown1 hgrow hat hlt1))
            rename_i hHeld
            have hkeep : ∀ x, x < wx.heap.size → w1.heap[x]? = W2.heap[x]? := fun x hx => (hgrow.block x (by simp; omega) (fun e => by have := (hown.lt x e.symm).1; omega)).trans (Below.heap_alloc W2 _ x (by omega))
            have hr3 := hr2.kept (by omega) hkeep
            have h3 := (hkeep g3 (by omega)).trans h3
            have h8 := (hkeep g8 (by omega)).trans h8
            have h5 := (hkeep g5 (by omega)).trans h5
            have hbel := ((hbel.alloc (by omega) (.cells #[.int .i64 j.entry, .int .i64 st, .int .i64 k] 54)).drew).grown hgrow (by simp; omega) (fun x e => by have := (hown.lt x e).1; omega)
            have hsz : wx.heap.size ≤ w1.heap.size := by have := hgrow.size; simp at this; omega
            have cg := hr3.blk.cell r
            rw [List.getElem?_toArray, hv] at cg
            have fg := hr3.blk.frozen r
            have c81 := Blk.cell h8 0
            simp at c81
            have hz5 : (1 : Int) ≤ ((js.length + 1 : Nat) : Int) := by omega
            have hz6 : (((js.length + 1 : Nat) : Int)) ≤ (c : Int) := by omega
            have HG := Lib.hid hat
            clear hgrow hkeep hat hlt1 ag lb a0 a2 hHeld hr2 hr1
            obtain ⟨ne1, ne2, ne3⟩ := hne
            by_cases hcc : c = 1
            all_goals go_upto_region 29 with fail
            all_goals go_region
            · have hr4 := hr3.dropHead (A := some ⟨b, off, none⟩) (by omega) (List.getElem?_set_self (by rw [hrl]; exact hrl2)) hv (by rw [if_pos hcc])
              rw [show c - 1 = 0 by omega] at hr4
              rw [List.set_set] at hr4
              have ho4 := ownsRow_setCell_below hown1 (a := ⟨gr, r, none⟩) (by simp; omega) (.slice (some ⟨b, off, none⟩) js.length 0)
              have h3 := Blk.far h3 (p := ⟨gr, r, none⟩) (by simp; omega) (.slice (some ⟨b, off, none⟩) js.length 0)
              have h8 := Blk.far h8 (p := ⟨gr, r, none⟩) (by simp; omega) (.slice (some ⟨b, off, none⟩) js.length 0)
              have h5 := Blk.far h5 (p := ⟨gr, r, none⟩) (by simp; omega) (.slice (some ⟨b, off, none⟩) js.length 0)
              have hbel := hbel.setCell (p := ⟨gr, r, none⟩) (by simp; omega) (.slice (some ⟨b, off, none⟩) js.length 0)
              have hsz : wx.heap.size ≤ (w1.setCell ⟨gr, r, none⟩ (.slice (some ⟨b, off, none⟩) js.length 0)).heap.size := by simpa using hsz
              clear hr3 hown1 c81 cg fg
              generalize w1.setCell ⟨gr, r, none⟩ (.slice (some ⟨b, off, none⟩) js.length 0) = W4 at hr4 ho4 h3 h8 h5 hbel hsz ⊢
              go_wp2
              go_roundw
              case rel =>
                refine ⟨k + 1, rows.set r js, _, out ++ [⟨j.entry, st, k⟩], by omega, by go_num, hr4.drew, Lib.hid ⟨HOk.out.drop_ hrow, by simp [hrl], ?_, ?_⟩, by simp; omega, ?_, h3.drew, h8.drew, h5.drew, hbel.drew, hsz⟩
                · intro l hl
                  rcases List.mem_or_eq_of_mem_set hl with h1 | rfl
                  · exact HLS.out l h1
                  · have := HLS.out _ (List.mem_of_getElem? hrow)
                    simp only [List.length_cons] at this
                    omega
                · rw [HStep.out, if_pos hz, hst1]
                · rw [List.length_append, List.flatMap_append]
                  exact ho4
              case measure => simp [intOf]; omega
            · have hr4 := hr3.dropHead (A := some ⟨b, off + 3, none⟩) (by omega) (List.getElem?_set_self (by rw [hrl]; exact hrl2)) hv (by rw [if_neg hcc])
              rw [List.set_set] at hr4
              have ho4 := ownsRow_setCell_below hown1 (a := ⟨gr, r, none⟩) (by simp; omega) (.slice (some ⟨b, off + 3, none⟩) js.length (c - 1))
              have h3 := Blk.far h3 (p := ⟨gr, r, none⟩) (by simp; omega) (.slice (some ⟨b, off + 3, none⟩) js.length (c - 1))
              have h8 := Blk.far h8 (p := ⟨gr, r, none⟩) (by simp; omega) (.slice (some ⟨b, off + 3, none⟩) js.length (c - 1))
              have h5 := Blk.far h5 (p := ⟨gr, r, none⟩) (by simp; omega) (.slice (some ⟨b, off + 3, none⟩) js.length (c - 1))
              have hbel := hbel.setCell (p := ⟨gr, r, none⟩) (by simp; omega) (.slice (some ⟨b, off + 3, none⟩) js.length (c - 1))
              have hsz : wx.heap.size ≤ (w1.setCell ⟨gr, r, none⟩ (.slice (some ⟨b, off + 3, none⟩) js.length (c - 1))).heap.size := by simpa using hsz
              clear hr3 hown1 c81 cg fg
              generalize w1.setCell ⟨gr, r, none⟩ (.slice (some ⟨b, off + 3, none⟩) js.length (c - 1)) = W4 at hr4 ho4 h3 h8 h5 hbel hsz ⊢
              go_wp2
              go_roundw
              case rel =>
                refine ⟨k + 1, rows.set r js, _, out ++ [⟨j.entry, st, k⟩], by omega, by go_num, hr4.drew, Lib.hid ⟨HOk.out.drop_ hrow, by simp [hrl], ?_, ?_⟩, by simp; omega, ?_, h3.drew, h8.drew, h5.drew, hbel.drew, hsz⟩
                · intro l hl
                  rcases List.mem_or_eq_of_mem_set hl with h1 | rfl
                  · exact HLS.out l h1
                  · have := HLS.out _ (List.mem_of_getElem? hrow)
                    simp only [List.length_cons] at this
                    omega
                · rw [HStep.out, if_pos hz, hst1]
                · rw [List.length_append, List.flatMap_append]
                  exact ho4
              case measure => simp [intOf]; omega
          · have hzb : ((j.left - 1) == 0) = false := by simp [hz]
            go_wp2
            go_roundw
            case rel =>
              refine ⟨k + 1, rows.set r (pick1 k j :: js), vs, out, by omega, by go_num, ?_, Lib.hid ⟨?_, by simp [hrl], ?_, ?_⟩, by omega, hown, h3, h8, h5, hbel, hsz⟩
              · have e : pick1 k j = ⟨j.entry, j.left - 1, st⟩ := by rw [← hst1]; rfl
                rw [e]; exact hr2
              · exact HOk.out.head_ hrow ⟨by simp only [pick1]; omega, by simp only [pick1]; omega⟩
              · intro l hl
                rcases List.mem_or_eq_of_mem_set hl with h1 | rfl
                · exact HLS.out l h1
                · have := HLS.out _ (List.mem_of_getElem? hrow)
                  simpa using this
              · rw [HStep.out, if_neg hz]
            case measure => simp [intOf]; omega
        · go_upto_region 26 with fail
          obtain ⟨st, hst0⟩ : ∃ st : Int, st = j.start := ⟨_, rfl⟩
          have hst1 : (pick1 k j).start = st := by simp only [pick1]; rw [if_neg (by omega), hst0]
          have hr1 : Rows2 wr base wx.heap.size gr (rows.set r (⟨j.entry, j.left, st⟩ :: js)) vs := by rw [hst0, List.set_getElem?_self_eq hrow]; exact hr
          obtain ⟨W, rfl⟩ : ∃ W, W = wr := ⟨_, rfl⟩
          clear e0 e1 e2 f0 f1 f2 hst0 hcell c31 c81 hcu
          have hv1 : vs[r]? = _ := hv
          obtain ⟨a0, a1, a2, z0, z1, z2⟩ := hr1.headAt (List.getElem?_set_self (by rw [hrl]; exact hrl2)) hv
          have s1 : IntKind.i64.wrap (j.left - 1) = j.left - 1 := IntWalk.i64_in _ (by omega)
          go_upto_region 27 with fail
          have hr2 := hr1.setHead (i := 1) (j' := ⟨j.entry, j.left - 1, st⟩) (u := .int .i64 (j.left - 1)) (by omega) (List.getElem?_set_self (by rw [hrl]; exact hrl2)) hv (by omega) rfl
          rw [List.set_set] at hr2
          have hown := ownsRow_setCell_below hown (a := ⟨b, off + 1, none⟩) hbt (.int .i64 (j.left - 1))
          have h3 := h3.far (p := ⟨b, off + 1, none⟩) (by simp; omega) (.int .i64 (j.left - 1))
          have h8 := h8.far (p := ⟨b, off + 1, none⟩) (by simp; omega) (.int .i64 (j.left - 1))
          have h5 := h5.far (p := ⟨b, off + 1, none⟩) (by simp; omega) (.int .i64 (j.left - 1))
          have hbel := hbel.setCell (p := ⟨b, off + 1, none⟩) (by simp; omega) (.int .i64 (j.left - 1))
          have hsz : wx.heap.size ≤ (W.setCell ⟨b, off + 1, none⟩ (.int .i64 (j.left - 1))).heap.size := by simpa using hsz
          generalize W.setCell ⟨b, off + 1, none⟩ (.int .i64 (j.left - 1)) = W2 at hr2 hown h3 h8 h5 hbel hsz ⊢
          clear a0 a1 a2 z0 z1 z2
          obtain ⟨a0, a1, a2, z0, z1, z2⟩ := hr2.headAt (List.getElem?_set_self (by rw [hrl]; exact hrl2)) hv
          by_cases hz : j.left - 1 = 0
          · have hzb : ((j.left - 1) == 0) = true := by simp [hz]
            go_upto_region 28 with fail
            have ag : u13.ownBlock ≠ some b := fun e => by have := (hown.lt b e).1; omega
            have lb : b < W2.heap.size := by omega
            simp only at a0 a1 a2
            clear hzb z0 z1 z2 a1
            go_region_held3 (fun w' => w'.cell? ⟨b, off, none⟩ = some (.int .i64 j.entry) ∧ w'.cell? ⟨b, off + 2, none⟩ = some (.int .i64 st))
              (first
                | go_keep
                | (go_split_ands
                   refine ⟨?_, ?_⟩
                   · (rw [hgrow.cell_far _ (by simp; omega) (Ne.symm ag)]; assumption)
                   · (rw [hgrow.cell_far _ (by simp; omega) (Ne.symm ag)]; assumption)))
              ((refine step_append_lies _ (by rfl) _ _ _ (by rfl) wx.heap.size 54 i0 _ 3 24 Try.underlying47 hi0 iz0 iz1 iz2 rfl (by omega) u13 out.length (out.flatMap Spn.row) (by rfl) ((hown.alloc _).drew)
                  ⟨W2.heap.size, 0, none⟩ 1 1 [.int .i64 j.entry, .int .i64 st, .int .i64 k] (by rfl) (by rfl) (World.news_of_block (cs := #[.int .i64 j.entry, .int .i64 st, .int .i64 k]) (t := 54) (fr := (0, 0)) (heap_alloc_new W2 _)) (by simp [Value.oneCell'])
                  (by omega) (by unfold maxLen; omega) (by omega) (by simp; omega) (W2.heap.size + 1) (by simp) ?_; intro gg cap w1 hown1 hgrow hat hlt1))
            rename_i hHeld
            have hkeep : ∀ x, x < wx.heap.size → w1.heap[x]? = W2.heap[x]? := fun x hx => (hgrow.block x (by simp; omega) (fun e => by have := (hown.lt x e.symm).1; omega)).trans (Below.heap_alloc W2 _ x (by omega))
            have hr3 := hr2.kept (by omega) hkeep
            have h3 := (hkeep g3 (by omega)).trans h3
            have h8 := (hkeep g8 (by omega)).trans h8
            have h5 := (hkeep g5 (by omega)).trans h5
            have hbel := ((hbel.alloc (by omega) (.cells #[.int .i64 j.entry, .int .i64 st, .int .i64 k] 54)).drew).grown hgrow (by simp; omega) (fun x e => by have := (hown.lt x e).1; omega)
            have hsz : wx.heap.size ≤ w1.heap.size := by have := hgrow.size; simp at this; omega
            have cg := hr3.blk.cell r
            rw [List.getElem?_toArray, hv] at cg
            have fg := hr3.blk.frozen r
            have c81 := Blk.cell h8 0
            simp at c81
            have hz5 : (1 : Int) ≤ ((js.length + 1 : Nat) : Int) := by omega
            have hz6 : (((js.length + 1 : Nat) : Int)) ≤ (c : Int) := by omega
            have HG := Lib.hid hat
            clear hgrow hkeep hat hlt1 ag lb a0 a2 hHeld hr2 hr1
            obtain ⟨ne1, ne2, ne3⟩ := hne
            by_cases hcc : c = 1
            all_goals go_upto_region 29 with fail
            all_goals go_region
            · have hr4 := hr3.dropHead (A := some ⟨b, off, none⟩) (by omega) (List.getElem?_set_self (by rw [hrl]; exact hrl2)) hv (by rw [if_pos hcc])
              rw [show c - 1 = 0 by omega] at hr4
              rw [List.set_set] at hr4
              have ho4 := ownsRow_setCell_below hown1 (a := ⟨gr, r, none⟩) (by simp; omega) (.slice (some ⟨b, off, none⟩) js.length 0)
              have h3 := Blk.far h3 (p := ⟨gr, r, none⟩) (by simp; omega) (.slice (some ⟨b, off, none⟩) js.length 0)
              have h8 := Blk.far h8 (p := ⟨gr, r, none⟩) (by simp; omega) (.slice (some ⟨b, off, none⟩) js.length 0)
              have h5 := Blk.far h5 (p := ⟨gr, r, none⟩) (by simp; omega) (.slice (some ⟨b, off, none⟩) js.length 0)
              have hbel := hbel.setCell (p := ⟨gr, r, none⟩) (by simp; omega) (.slice (some ⟨b, off, none⟩) js.length 0)
              have hsz : wx.heap.size ≤ (w1.setCell ⟨gr, r, none⟩ (.slice (some ⟨b, off, none⟩) js.length 0)).heap.size := by simpa using hsz
              clear hr3 hown1 c81 cg fg
              generalize w1.setCell ⟨gr, r, none⟩ (.slice (some ⟨b, off, none⟩) js.length 0) = W4 at hr4 ho4 h3 h8 h5 hbel hsz ⊢
              go_wp2
              go_roundw
              case rel =>
                refine ⟨k + 1, rows.set r js, _, out ++ [⟨j.entry, st, k⟩], by omega, by go_num, hr4.drew, Lib.hid ⟨HOk.out.drop_ hrow, by simp [hrl], ?_, ?_⟩, by simp; omega, ?_, h3.drew, h8.drew, h5.drew, hbel.drew, hsz⟩
                · intro l hl
                  rcases List.mem_or_eq_of_mem_set hl with h1 | rfl
                  · exact HLS.out l h1
                  · have := HLS.out _ (List.mem_of_getElem? hrow)
                    simp only [List.length_cons] at this
                    omega
                · rw [HStep.out, if_pos hz, hst1]
                · rw [List.length_append, List.flatMap_append]
                  exact ho4
              case measure => simp [intOf]; omega
            · have hr4 := hr3.dropHead (A := some ⟨b, off + 3, none⟩) (by omega) (List.getElem?_set_self (by rw [hrl]; exact hrl2)) hv (by rw [if_neg hcc])
              rw [List.set_set] at hr4
              have ho4 := ownsRow_setCell_below hown1 (a := ⟨gr, r, none⟩) (by simp; omega) (.slice (some ⟨b, off + 3, none⟩) js.length (c - 1))
              have h3 := Blk.far h3 (p := ⟨gr, r, none⟩) (by simp; omega) (.slice (some ⟨b, off + 3, none⟩) js.length (c - 1))
              have h8 := Blk.far h8 (p := ⟨gr, r, none⟩) (by simp; omega) (.slice (some ⟨b, off + 3, none⟩) js.length (c - 1))
              have h5 := Blk.far h5 (p := ⟨gr, r, none⟩) (by simp; omega) (.slice (some ⟨b, off + 3, none⟩) js.length (c - 1))
              have hbel := hbel.setCell (p := ⟨gr, r, none⟩) (by simp; omega) (.slice (some ⟨b, off + 3, none⟩) js.length (c - 1))
              have hsz : wx.heap.size ≤ (w1.setCell ⟨gr, r, none⟩ (.slice (some ⟨b, off + 3, none⟩) js.length (c - 1))).heap.size := by simpa using hsz
              clear hr3 hown1 c81 cg fg
              generalize w1.setCell ⟨gr, r, none⟩ (.slice (some ⟨b, off + 3, none⟩) js.length (c - 1)) = W4 at hr4 ho4 h3 h8 h5 hbel hsz ⊢
              go_wp2
              go_roundw
              case rel =>
                refine ⟨k + 1, rows.set r js, _, out ++ [⟨j.entry, st, k⟩], by omega, by go_num, hr4.drew, Lib.hid ⟨HOk.out.drop_ hrow, by simp [hrl], ?_, ?_⟩, by simp; omega, ?_, h3.drew, h8.drew, h5.drew, hbel.drew, hsz⟩
                · intro l hl
                  rcases List.mem_or_eq_of_mem_set hl with h1 | rfl
                  · exact HLS.out l h1
                  · have := HLS.out _ (List.mem_of_getElem? hrow)
                    simp only [List.length_cons] at this
                    omega
                · rw [HStep.out, if_pos hz, hst1]
                · rw [List.length_append, List.flatMap_append]
                  exact ho4
              case measure => simp [intOf]; omega
          · have hzb : ((j.left - 1) == 0) = false := by simp [hz]
            go_wp2
            go_roundw
            case rel =>
              refine ⟨k + 1, rows.set r (pick1 k j :: js), vs, out, by omega, by go_num, ?_, Lib.hid ⟨?_, by simp [hrl], ?_, ?_⟩, by omega, hown, h3, h8, h5, hbel, hsz⟩
              · have e : pick1 k j = ⟨j.entry, j.left - 1, st⟩ := by rw [← hst1]; rfl
                rw [e]; exact hr2
              · exact HOk.out.head_ hrow ⟨by simp only [pick1]; omega, by simp only [pick1]; omega⟩
              · intro l hl
                rcases List.mem_or_eq_of_mem_set hl with h1 | rfl
                · exact HLS.out l h1
                · have := HLS.out _ (List.mem_of_getElem? hrow)
                  simpa using this
              · rw [HStep.out, if_neg hz]
            case measure => simp [intOf]; omega
    · obtain rfl : k = ps.length := by omega
      have hrun2 : runM 0 rows0 ps [] = out := by rw [hrun, List.drop_length]; rfl
      have HRun := Lib.hid hrun2
      clear hrun hrun2 hls hok
      go_wp2
      refine HK.out _ _ ?_
      go_wp2
      go_ret2
      exact ⟨u13, rfl, by rw [HRun.out]; exact ownsRow_more hown (by omega), hbel⟩


end Go.Proofs.Ytlmehmmdbdembaa
