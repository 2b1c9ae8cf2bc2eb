/-
  Walks: slices.EqualFunc at the two Spans, Few, times, HideTimes.
-/
import Derived.Test.YtlmehmmdbdembaaTimesLaw
import Derived.Test.YtlmehmmdbdembaaRefTimesP
import Derived.Test.YtlmehmmdbdembaaAwakeW
import Derived.Test.YtlmehmmdbdembaaOpenW
namespace Go.Proofs.Ytlmehmmdbdembaa
open Go.RowKit
set_option linter.unusedVariables false

theorem eqlRSpan (x y : Spn) (W : World) : (binOp .eql 79 (.agg #[.int .i64 x.entry, .int .i64 x.start, .int .i64 x.stop]) (.agg #[.int .i64 y.entry, .int .i64 y.start, .int .i64 y.stop])).run Try.prog W = .ok (.bool (decide (x = y))) W := by
  have u3 := Try.underlying3
  have a3 := Try.isAgg3
  have z3 := Try.sizeOf3
  have hS : Try.prog.underlying 79 = some (.struct (Try.prog.fieldsOf 79)) := by kernel_rfl
  have hp : Try.prog.stoodInHeld 79 = false := by kernel_rfl
  rw [run_eql_struct, show (10000 : Nat) = 9999 + 1 from rfl, run_equalIn_agg W 9999 79 _ _ hS hp]
  simp only [Program.fieldsOf, Try.underlying79]
  go_simp
  obtain ⟨a, b, c⟩ := x
  obtain ⟨d, e, f⟩ := y
  by_cases h1 : a = d <;> by_cases h2 : b = e <;> by_cases h3 : c = f <;> simp [h1, h2, h3]
theorem guardRSpan : Try.prog.eqGuardType Try.prog.depth 79 = false := by kernel_rfl

theorem same_span (x : Spn) (w : World) : Calls Try.prog 35 #[.agg #[.int .i64 x.entry, .int .i64 x.start, .int .i64 x.stop], .agg #[.int .i64 x.entry, .int .i64 x.start, .int .i64 x.stop]] w (BoolEnd true w) := by
  have hm := guardRSpan
  have he : ∀ W, (binOp .eql 79 (.agg #[.int .i64 x.entry, .int .i64 x.start, .int .i64 x.stop]) (.agg #[.int .i64 x.entry, .int .i64 x.start, .int .i64 x.stop])).run Try.prog W = .ok (.bool true) W := fun W => by rw [eqlRSpan, decide_eq_true rfl]
  go_enter Try.func35, Try.ntmps35
  go_wp2
  go_ret
  exact ⟨rfl, below_alloc (below_box w _) _⟩

set_option maxHeartbeats 1600000 in
theorem eqfunc_true (A B : Option Addr) (ca cb : Nat) (ss : List Spn) (w : World) (hs : ss.length ≤ 65536) (hA : Reads w w.heap.size 3 A ss.length (ss.flatMap Spn.row)) (hB : Reads w w.heap.size 3 B ss.length (ss.flatMap Spn.row)) :
    Calls Try.prog 34 #[.slice A ss.length ca, .slice B ss.length cb, .func (.func 35) #[] #[]] w (BoolEnd true w) := by
  have HA := Lib.hid hA
  have HB := Lib.hid hB
  have hsi : (ss.length : Int) ≤ 65536 := by omega
  clear hA hB
  go_enter Try.func34, Try.ntmps34
  go_wp2_with fail
  go_loopw [17] (fun i wr => ∃ k : Nat, k ≤ ss.length ∧ i = .int .i64 k ∧ Below w.heap.size w wr) (fun i _ => ss.length - (intOf i).toNat)
  case atStart => exact ⟨0, by omega, rfl, Below.refl _ _⟩
  case round =>
    obtain ⟨k, hk, rfl, hbel⟩ := hrel
    by_cases hlt : k < ss.length
    · obtain ⟨ad, rfl, hab, hc⟩ := row_cells spn_row_len HA.out rfl hlt
      obtain ⟨bd, rfl, hbb, hd⟩ := row_cells spn_row_len HB.out rfl hlt
      have hcc : ∀ j u, (Spn.row ss[k])[j]? = some u → wr.cell? ((ad.add (k * 3)).add j) = some u := fun j u hu => (hbel.cell (by rw [block_of_add, block_of_add]; exact hab)).trans (hc j u hu)
      have hdd : ∀ j u, (Spn.row ss[k])[j]? = some u → wr.cell? ((bd.add (k * 3)).add j) = some u := fun j u hu => (hbel.cell (by rw [block_of_add, block_of_add]; exact hbb)).trans (hd j u hu)
      clear hc hd
      generalize ss[k] = x at hcc hdd
      have q0 : wr.cell? (ad.add (k * 3)) = _ := hcc 0 _ rfl
      have q1 : wr.cell? ⟨(ad.add (k * 3)).block, (ad.add (k * 3)).off + 1, none⟩ = _ := hcc 1 _ rfl
      have q2 : wr.cell? ⟨(ad.add (k * 3)).block, (ad.add (k * 3)).off + 2, none⟩ = _ := hcc 2 _ rfl
      have p0 : wr.cell? (bd.add (k * 3)) = _ := hdd 0 _ rfl
      have p1 : wr.cell? ⟨(bd.add (k * 3)).block, (bd.add (k * 3)).off + 1, none⟩ = _ := hdd 1 _ rfl
      have p2 : wr.cell? ⟨(bd.add (k * 3)).block, (bd.add (k * 3)).off + 2, none⟩ = _ := hdd 2 _ rfl
      have i1 : (0 : Int) ≤ (k : Int) := by omega
      have i2 : (k : Int) < (ss.length : Int) := by omega
      have hsz := hbel.size
      have n1 := World.new_ne wr _ p0
      have n2 := World.new_ne wr _ p1
      have n3 := World.new_ne wr _ p2
      have hp0 := (World.cell?_alloc_some wr _ (.cells #[.int .i64 x.entry, .int .i64 x.start, .int .i64 x.stop] 54) (by rw [p0]; rfl)).trans p0
      have hp1 := (World.cell?_alloc_some wr _ (.cells #[.int .i64 x.entry, .int .i64 x.start, .int .i64 x.stop] 54) (by rw [p1]; rfl)).trans p1
      have hp2 := (World.cell?_alloc_some wr _ (.cells #[.int .i64 x.entry, .int .i64 x.start, .int .i64 x.stop] 54) (by rw [p2]; rfl)).trans p2
      have hb2 : Below w.heap.size w ((wr.alloc (.cells #[.int .i64 x.entry, .int .i64 x.start, .int .i64 x.stop] 54)).alloc (.cells #[.int .i64 x.entry, .int .i64 x.start, .int .i64 x.stop] 79)) := below_alloc (below_alloc hbel _) _
      have HB2 := Lib.hid hb2
      clear hcc hdd n1 n2 n3 hb2
      go_wp2_with (go_at_call 35; refine (same_span x _).mono ?_; rintro e w' ⟨rfl, hbm⟩)
      go_roundw
      case rel => exact ⟨k + 1, by omega, by go_num, below_trans HB2.out hbm⟩
      case measure => simp [intOf]; omega
    · obtain rfl : k = ss.length := by omega
      go_wp2
      go_ret
      exact ⟨rfl, hbel⟩

/-- Few. -/
def fewB (n m : Nat) : Bool := decide (n ≤ 30) && decide (m ≤ 400)
theorem few_any (A B : Option Addr) (n m c d : Nat) (w : World) (hn : n ≤ 9223372036854775807) (hm : m ≤ 9223372036854775807) : Calls Try.prog 16 #[.agg #[.slice A n c, .slice B m d]] w (BoolEnd (fewB n m) w) := by
  by_cases h : n ≤ 30
  · have h1 : (n : Int) ≤ 30 := by omega
    by_cases h2 : m ≤ 400
    · have h3 : (m : Int) ≤ 400 := by omega
      have e : fewB n m = true := by simp [fewB, h, h2]
      rw [e]
      clear e
      go_enter Try.func16, Try.ntmps16
      go_wp2
      go_ret
      exact ⟨rfl, below_box w _⟩
    · have h3 : ¬ (m : Int) ≤ 400 := by omega
      have e : fewB n m = false := by simp [fewB, h2]
      rw [e]
      clear e
      go_enter Try.func16, Try.ntmps16
      go_wp2
      go_ret
      exact ⟨rfl, below_box w _⟩
  · have h1 : ¬ (n : Int) ≤ 30 := by omega
    have e : fewB n m = false := by simp [fewB, h]
    rw [e]
    clear e
    go_enter Try.func16, Try.ntmps16
    go_wp2
    go_ret
    first | exact ⟨rfl, below_box w _⟩ | exact ⟨ret_bool (by simp), below_box w _⟩ | exact ⟨ret_bool (decide_eq_false (by omega)), below_box w _⟩

set_option maxHeartbeats 3200000 in
theorem times_law (n b : Int) (A B : Option Addr) (c d : Nat) (es : List Ent) (ps : List Int) (w : World) (h : ScrIn w A B es ps) (hses : ∀ e ∈ es, I64 e.ses ∧ e.r.ok) (hps : ∀ p ∈ ps, I64 p) (hout : (timesM n b es ps).1.length ≤ 65536) :
    Calls Try.prog 17 #[.int .i64 n, .int .i64 b, .agg #[.slice A es.length c, .slice B ps.length d]] w (BoolEnd true w) := by
  have H := Lib.hid h
  have HS := Lib.hid (And.intro hses (And.intro hps hout))
  clear h hses hps hout
  go_enter Try.func17, Try.ntmps17
  go_wp2_with fail
  have b5 := Blk.new w 41 #[.slice A es.length c, .slice B ps.length d]
  have hbel := below_box w (.cells #[.slice A es.length c, .slice B ps.length d] 41)
  generalize w.alloc (.cells #[.slice A es.length c, .slice B ps.length d] 41) = W0 at b5 hbel ⊢
  refine (lent_script A B c d es ps _ (H.out.below hbel)).mono ?_
  rintro e w1 ⟨g1, c1, g2, c2, rfl, hc1, hm1, hc2, hm2, ho1, ho2, hb1⟩
  have hl : LentIn w1 g1 c1 g2 c2 es ps := ⟨Reads.of_own ho1, Reads.of_own ho2, (ho1.lt g1 rfl).2, (ho2.lt g2 rfl).2, hc1, hc2, hm1, hm2⟩
  have b5 := b5.below hb1 b5.lt
  have hbel := below_trans hbel hb1
  clear hc1 hm1 hc2 hm2 ho1 ho2 hb1
  have b7 := Blk.new w1 41 #[.slice (some ⟨g1, 0, none⟩) es.length c1, .slice (some ⟨g2, 0, none⟩) ps.length c2]
  have b5 := b5.alloc (.cells #[.slice (some ⟨g1, 0, none⟩) es.length c1, .slice (some ⟨g2, 0, none⟩) ps.length c2] 41)
  have hbel2 := below_alloc hbel (.cells #[.slice (some ⟨g1, 0, none⟩) es.length c1, .slice (some ⟨g2, 0, none⟩) ps.length c2] 41)
  have hl := hl.below (below_box w1 (.cells #[.slice (some ⟨g1, 0, none⟩) es.length c1, .slice (some ⟨g2, 0, none⟩) ps.length c2] 41))
  have HH := Lib.hid (And.intro b5 (And.intro b7 (And.intro hbel2 hl)))
  clear b5 b7 hbel hbel2 hl
  go_wp2_with fail
  obtain ⟨b5, b7, hbel, hl⟩ := HH.out
  clear HH
  generalize w1.alloc (.cells #[.slice (some ⟨g1, 0, none⟩) es.length c1, .slice (some ⟨g2, 0, none⟩) ps.length c2] 41) = W2 at b5 b7 hbel hl ⊢
  generalize w1.heap.size = g7 at b7 ⊢
  have hsc := hl.scr H.out.le H.out.lp
  refine (times_any n b es ps (some ⟨g1, 0, none⟩) (some ⟨g2, 0, none⟩) c1 c2 W2 HS.out.1 HS.out.2.1 hsc.e (by rw [← irow_map]; exact hsc.p)).mono ?_
  rintro e w3 ⟨v1, rfl, ho1, hb3⟩
  obtain ⟨A1, d1, rfl, -, -, -⟩ := own_form ho1
  have hr1 := Reads.of_own ho1
  have b5 := b5.below hb3 b5.lt
  have b7 := b7.below hb3 b7.lt
  have hbel := below_trans hbel hb3
  have hl := hl.below hb3
  have x0 := b5.cell 0
  have x1 := b5.cell 1
  simp at x0 x1
  have HH := Lib.hid (And.intro b5 (And.intro b7 (And.intro hbel (And.intro hl hr1))))
  clear hsc ho1 hb3 b5 b7 hbel hl hr1
  go_wp2_with fail
  obtain ⟨b5, b7, hbel, hl, hr1⟩ := HH.out
  clear HH x0 x1
  have hsc := H.out.below hbel
  have hq := rtimes_any n b es ps A B c d w3 HS.out.2.1 hsc.e (by rw [← irow_map]; exact hsc.p)
  rw [times_same] at hq
  refine hq.mono ?_
  clear hq
  rintro e w4 ⟨v2, rfl, ho2, hb4⟩
  obtain ⟨A2, d2, rfl, -, -, -⟩ := own_form ho2
  have hr2 := Reads.of_own ho2
  have b5 := b5.below hb4 b5.lt
  have b7 := b7.below hb4 b7.lt
  have hbel := below_trans hbel hb4
  have hl := hl.below hb4
  have hr1 := (hr1.below hb4).more hb4.size
  have HH := Lib.hid (And.intro b5 (And.intro b7 (And.intro hbel hl)))
  have HR := Lib.hid (And.intro hr1 hr2)
  have HL := Lib.hid HS.out.2.2
  clear hsc ho2 hb4 b5 b7 hbel hl hr1 hr2 HS
  generalize timesM n b es ps = tm at HR HL ⊢
  go_wp2_with fail
  refine (eqfunc_true A1 A2 d1 d2 tm.1 _ HL.out HR.out.1 HR.out.2).mono ?_
  rintro e w5 ⟨rfl, hb5⟩
  obtain ⟨b5, b7, hbel, hl⟩ := HH.out
  clear HH
  have b5 := b5.below hb5 b5.lt
  have b7 := b7.below hb5 b7.lt
  have hbel := below_trans hbel hb5
  have hl := hl.below hb5
  have x0 := b5.cell 0
  have x1 := b5.cell 1
  have y0 := b7.cell 0
  have y1 := b7.cell 1
  simp at x0 x1 y0 y1
  have HH := Lib.hid (And.intro hbel hl)
  clear hb5 b5 b7 hbel hl
  go_wp2_with fail
  have hsc := H.out.below HH.out.1
  refine (kept_script A B c d g1 c1 g2 c2 es ps _ hsc HH.out.2).mono ?_
  rintro e w6 ⟨rfl, hb6⟩
  have hbel := below_trans HH.out.1 hb6
  clear HH hb6 hsc x0 x1 y0 y1
  go_wp2
  go_ret
  exact ⟨rfl, hbel⟩

theorem run_len : ∀ (ps : List Int) (i : Nat) (rows : List (List Job)) (out : List Spn), (runM i rows ps out).length ≤ out.length + ps.length
  | [], i, rows, out => by simp [runM]
  | p :: ps, i, rows, out => by
    unfold runM
    split
    · simp
    · split
      · split
        · refine Nat.le_trans (run_len ps _ _ _) ?_
          first | (simp; done) | (simp; omega)
        · refine Nat.le_trans (run_len ps _ _ _) ?_
          first | (simp; done) | (simp; omega)
      · simp
theorem times_len (s b : Int) (es : List Ent) (ps : List Int) : (timesM s b es ps).1.length ≤ ps.length := by
  unfold timesM
  split
  · simp
  · split
    · simp
    · split
      · have := run_len ps 0 (rowsOf b es s.toNat) []
        simpa using this
      · simp

set_option maxHeartbeats 3200000 in
theorem hideTimes_law (n b : Int) (A B : Option Addr) (c d : Nat) (es : List Ent) (ps : List Int) (w : World) (hE : Reads w w.heap.size 13 A es.length (es.flatMap Ent.row)) (hP : Reads w w.heap.size 1 B ps.length (ps.flatMap irow)) (le : es.length ≤ 9223372036854775807) (lp : ps.length ≤ 9223372036854775807)
    (hses : ∀ e ∈ es, I64 e.ses ∧ e.r.ok) (hps : ∀ p ∈ ps, I64 p) :
    Calls Try.prog 5 #[.int .i64 n, .int .i64 b, .agg #[.slice A es.length c, .slice B ps.length d]] w (BoolEnd true w) := by
  have H := Lib.hid (And.intro hE (And.intro hP (And.intro hses hps)))
  clear hE hP hses hps
  have hfew := few_any A B es.length ps.length c d
  go_enter Try.func5, Try.ntmps5
  have HF := Lib.hid hfew
  clear hfew
  go_wp2_with fail
  have b5 := Blk.new w 41 #[.slice A es.length c, .slice B ps.length d]
  have hbel := below_box w (.cells #[.slice A es.length c, .slice B ps.length d] 41)
  generalize w.alloc (.cells #[.slice A es.length c, .slice B ps.length d] 41) = W0 at b5 hbel ⊢
  refine (HF.out W0 le lp).mono ?_
  rintro e w1 ⟨rfl, hb1⟩
  have b5 := b5.below hb1 b5.lt
  have hbel := below_trans hbel hb1
  have x0 := b5.cell 0
  have x1 := b5.cell 1
  simp at x0 x1
  have HB := Lib.hid hbel
  clear hb1 b5 hbel HF
  cases hfb : fewB es.length ps.length with
  | false =>
    clear hfb
    go_wp2_with fail
    refine (awake_any _).mono ?_
    rintro e w2 ⟨rfl, hb2⟩
    have hbel := below_trans HB.out hb2
    clear hb2
    go_wp2
    go_ret
    exact ⟨rfl, hbel⟩
  | true =>
    have hfl : es.length ≤ 30 ∧ ps.length ≤ 400 := by simpa [fewB] using hfb
    clear hfb
    go_wp2_with fail
    have hs : ScrIn w1 A B es ps := ⟨(H.out.1.below HB.out).more HB.out.size, (H.out.2.1.below HB.out).more HB.out.size, by omega, by omega⟩
    refine (times_law n b A B c d es ps w1 hs H.out.2.2.1 H.out.2.2.2 (Nat.le_trans (times_len _ _ _ _) (by omega))).mono ?_
    rintro e w2 ⟨rfl, hb2⟩
    have hbel := below_trans HB.out hb2
    have HB2 := Lib.hid hbel
    clear hb2 hbel hs
    go_wp2_with fail
    refine (awake_any _).mono ?_
    rintro e w3 ⟨rfl, hb3⟩
    have hbel := below_trans HB2.out hb3
    clear hb3
    go_wp2
    go_ret
    exact ⟨rfl, hbel⟩
end Go.Proofs.Ytlmehmmdbdembaa
