/-
  Walks: hide.Times: its checks, its first loop; the whole.
-/
import Derived.Test.YtlmehmmdbdembaaTimesW4
import Derived.Test.YtlmehmmdbdembaaPicksW
import Derived.Deep.OwnRows
namespace Go.Proofs.Ytlmehmmdbdembaa
open Go.RowKit
set_option linter.unusedVariables false

theorem ent_row_len (e : Ent) : e.row.length = 13 := rfl
theorem flat_drop {α : Type} {f : α → List Value} {m : Nat} (hf : ∀ x, (f x).length = m) : ∀ (l : List α) (k : Nat) (hk : k < l.length), (l.flatMap f).drop (k * m) = f l[k] ++ (l.drop (k + 1)).flatMap f
  | x :: l, 0, _ => by simp
  | x :: l, k + 1, hk => by
    have h := flat_drop hf l k (by simpa using hk)
    rw [List.flatMap_cons, List.drop_append, List.drop_eq_nil_of_le (by rw [hf, Nat.add_mul]; omega), List.nil_append, hf, show (k + 1) * m - m = k * m by rw [Nat.add_mul]; omega, h]
    rfl
/-- The cells of entry k of a slice of entries. -/
theorem ent_cells {w : World} {B n k : Nat} {A : Option Addr} {es : List Ent} (h : Reads w B 13 A n (es.flatMap Ent.row)) (hn : n = es.length) (hk : k < es.length) :
    ∃ ad, A = some ad ∧ ad.block < B ∧ ∀ j u, (es[k].row)[j]? = some u → w.cell? ((ad.add (k * 13)).add j) = some u := by
  subst hn
  obtain ⟨ad, rfl, hb, hc⟩ := h.2 (by omega)
  refine ⟨ad, rfl, hb, fun j u hu => ?_⟩
  rw [add_of_add]
  refine hc _ u ?_
  have h1 := flat_drop ent_row_len es k hk
  rw [← List.getElem?_drop, h1, List.getElem?_append_left (List.getElem?_eq_some_iff.1 hu).1]
  exact hu

def opB (d : Int) : Bool := decide (1 ≤ d) && decide (d ≤ 5)
theorem operation_yes (d : Int) (w : World) (h1 : 1 ≤ d) (h2 : d ≤ 5) : Calls Try.prog 27 #[.int .i64 d] w fun e w' => e = .returned (.bool true) ∧ w = w' := by
  go_enter Try.func27, Try.ntmps27
  go_wp2
  go_ret
  exact ⟨rfl, rfl⟩
theorem operation_no (d : Int) (w : World) (h : ¬ (1 ≤ d ∧ d ≤ 5)) : Calls Try.prog 27 #[.int .i64 d] w fun e w' => e = .returned (.bool false) ∧ w = w' := by
  go_enter Try.func27, Try.ntmps27
  go_wp2
  all_goals go_ret
  all_goals first | exact ⟨rfl, rfl⟩ | exact ⟨ret_bool (decide_eq_false (by omega)), rfl⟩

theorem infoJobs : (Try.prog.info? 70).map (fun i => (i.zero, i.size, i.bytes)) = some (some (.slice none 0 0), 1, 24) := by kernel_rfl
theorem infoJob : (Try.prog.info? 72).map (fun i => (i.zero, i.size, i.bytes)) = some (some (.agg #[.int .i64 0, .int .i64 0, .int .i64 0]), 3, 24) := by kernel_rfl

/-- A new block, its number told. -/
theorem blk_newAt {w : World} {g : Nat} {t : TypeId} {cs : Array Value} (h : w.heap.size = g) : Blk (w.alloc (.cells cs t)) g t cs := by subst h; exact Blk.new _ _ _
theorem grown_row {W w1 : World} {o : Obj} {row : Option Nat} {g s : Nat} {ty : TypeId} {vs : List Value} {v : Value} (h : Blk W g ty vs.toArray) (hg : (W.alloc o).drew.grownBy w1 row) (hn : some g ≠ row) (hv : vs[s]? = some v) :
    w1.cell? ⟨g, s, none⟩ = some v ∧ w1.frozen? ⟨g, s, none⟩ = false := by
  have hb := (h.alloc o).drew.grown hg hn
  refine ⟨?_, hb.frozen s⟩
  rw [hb.cell s, List.getElem?_toArray, hv]
/-- An owned row and a block of another type lie apart. -/
theorem own_blk_ne {w : World} {base size n g : Nat} {e t : TypeId} {v : Value} {xs : List Value} {cs : Array Value} (h : w.ownsRow base e size v n xs) (hg : Blk w g t cs) (hne : e ≠ t) : v.ownBlock ≠ some g := by
  rcases h.2 with ⟨h0, _⟩ | ⟨g', cap, cur, hv, _, hh, _⟩
  · rw [h0]; simp [Value.ownBlock]
  · rw [hv]
    intro he
    simp only [Value.ownBlock, Option.some.injEq] at he
    subst he
    unfold Blk at hg
    rw [hh] at hg
    simp only [Option.some.injEq, Obj.cells.injEq] at hg
    exact hne hg.2.1
/-- The cells of an entry's box. -/
theorem ent_box (e : Ent) (w : World) : Blk (w.alloc (.cells #[.int .i64 e.ses, .int .i64 e.r.deed, .int .i64 e.r.ten, .int .u32 e.r.gen, .int .u8 e.r.rig, .string e.r.key, .string e.r.val, .string e.r.old, .int .i64 e.r.lim, .int .i64 e.r.tenant, .int .u64 e.r.qk, .int .u64 e.r.qb, .int .u8 e.r.rights] 46)) w.heap.size 46 e.row.toArray := Blk.new _ _ _
theorem ent_box_cells {e : Ent} {W : World} {g : Nat} {t : TypeId} (h : Blk W g t e.row.toArray) :
    W.cell? ⟨g, 0, none⟩ = some (.int .i64 e.ses) ∧ W.cell? ⟨g, 1, none⟩ = some (.int .i64 e.r.deed) ∧ W.cell? ⟨g, 2, none⟩ = some (.int .i64 e.r.ten) ∧ W.cell? ⟨g, 3, none⟩ = some (.int .u32 e.r.gen) ∧ W.cell? ⟨g, 4, none⟩ = some (.int .u8 e.r.rig) ∧ W.cell? ⟨g, 5, none⟩ = some (.string e.r.key) ∧ W.cell? ⟨g, 6, none⟩ = some (.string e.r.val) ∧ W.cell? ⟨g, 7, none⟩ = some (.string e.r.old) ∧ W.cell? ⟨g, 8, none⟩ = some (.int .i64 e.r.lim) ∧ W.cell? ⟨g, 9, none⟩ = some (.int .i64 e.r.tenant) ∧ W.cell? ⟨g, 10, none⟩ = some (.int .u64 e.r.qk) ∧ W.cell? ⟨g, 11, none⟩ = some (.int .u64 e.r.qb) ∧ W.cell? ⟨g, 12, none⟩ = some (.int .u8 e.r.rights) :=
  ⟨h.cell 0, h.cell 1, h.cell 2, h.cell 3, h.cell 4, h.cell 5, h.cell 6, h.cell 7, h.cell 8, h.cell 9, h.cell 10, h.cell 11, h.cell 12⟩

/-- The rows as they are made. -/
theorem rows1_start (w : World) (b : Int) (n : Nat) (gr base : Nat) (h : Blk w gr 70 (madeCells #[.slice none 0 0] n)) : Rows1 w base gr (rowsOf b [] n) (List.replicate n (.slice none 0 0)) := by
  have hrow : ∀ (k : Nat) (js : List Job), (rowsOf b [] n)[k]? = some js → js = [] := fun k js hk => by rw [rowsOf_at hk]; rfl
  have hval : ∀ (k : Nat) (v : Value), (List.replicate n (Value.slice none 0 0))[k]? = some v → v = .slice none 0 0 := fun k v hk => by
    have := List.mem_of_getElem? hk
    exact (List.mem_replicate.1 this).2
  refine ⟨by simp [rowsOf], ?_, ?_, ?_⟩
  · have e : (List.replicate n (Value.slice none 0 0)).toArray = madeCells #[.slice none 0 0] n := by
      rw [← toList_madeCells_one]
    rw [e]; exact h
  · intro k js v h1 h2
    rw [hrow k js h1, hval k v h2]
    exact ⟨rfl, Or.inl ⟨rfl, rfl⟩⟩
  · intro k k' v v' x h1 h2 h3
    rw [hval k v h1] at h3
    cases h3

set_option maxHeartbeats 3200000 in
set_option maxRecDepth 100000 in
theorem times_good (n : Nat) (b : Int) (es : List Ent) (ps : List Int) (Ae Ap : Option Addr) (ce cp : Nat) (w : World)
    (hle : es.length ≤ 4096) (hlp : ps.length ≤ 65536) (hn : 1 ≤ n ∧ n ≤ 64) (hb : 2 ≤ b ∧ b ≤ 4096) (hses : ∀ e ∈ es, I64 e.ses ∧ e.r.ok) (hps : ∀ p ∈ ps, I64 p) (hE : Reads w w.heap.size 13 Ae es.length (es.flatMap Ent.row)) (hP : Reads w w.heap.size 1 Ap ps.length (ps.map (Value.int .i64))) :
    Calls Try.prog 13 #[.int .i64 (n : Int), .int .i64 b, .agg #[.slice Ae es.length ce, .slice Ap ps.length cp]] w (TimesEnd (timesM n b es ps) w) := by
  have hT : timesM n b es ps = if es.all (fun e => decide (0 ≤ e.ses ∧ e.ses < (n : Int))) then (runM 0 (rowsOf b es n) ps [], 0) else ([], 6) := by
    unfold timesM
    rw [if_neg (by omega), if_neg (by omega), Int.toNat_natCast]
  have HT := Lib.hid hT
  clear hT
  have hb0 := hb
  obtain ⟨hn1, hn2⟩ := hn
  obtain ⟨hb1, hb2⟩ := hb
  have HB := Lib.hid hb0
  clear hb0
  have HE := Lib.hid hE
  have HP := Lib.hid hP
  have HS := Lib.hid hses
  have HI := Lib.hid hps
  clear hE hP hses hps
  have hmk := fun W => run_make_row' (P := Try.prog) 68 70 (.slice none 0 0) 24 Try.underlying68 infoJobs rfl .i64 .i64 n (by omega) (by omega) W
  go_enter Try.func13, Try.ntmps13
  refine wp_seq_k fun K0 hK => ?_
  have HK0 := Lib.hid hK
  clear hK
  go_wp2_with fail
  refine HK0.out _ _ ?_
  clear HK0 K0
  refine wp_seq_k fun K0 hK => ?_
  have HK0 := Lib.hid hK
  clear hK
  go_wp2_with fail
  refine HK0.out _ _ ?_
  clear HK0 K0
  refine wp_seq_k fun K0 hK => ?_
  have HK0 := Lib.hid hK
  clear hK
  go_wp2_with fail
  refine HK0.out _ _ ?_
  clear HK0 K0
  refine wp_seq_k fun K0 hK => ?_
  have HK0 := Lib.hid hK
  clear hK
  go_wp2_with fail
  clear hmk
  obtain ⟨i1, hi1, jz0, jz1, jz2⟩ := info_parts infoJob
  go_loopw [49] (fun i wr => ∃ (k : Nat) (vs : List Value), k ≤ es.length ∧ i = .int .i64 k ∧ Rows1 wr (w.heap.size + 4) (w.heap.size + 1 + 1) (rowsOf b (es.take k) n) vs ∧ Hid (∀ e ∈ es.take k, 0 ≤ e.ses ∧ e.ses < (n : Int)) ∧
     Blk wr w.heap.size 3 #[.int .i64 (n : Int)] ∧ Blk wr (w.heap.size + 1 + 1 + 1) 68 #[.slice (some ⟨w.heap.size + 1 + 1, 0, none⟩) n n] ∧ Blk wr (w.heap.size + 1) 41 #[.slice Ae es.length ce, .slice Ap ps.length cp] ∧ Below w.heap.size w wr ∧ w.heap.size + 4 ≤ wr.heap.size) (fun i _ => es.length - (intOf i).toNat)
  case atStart =>
    refine ⟨0, List.replicate n (.slice none 0 0), Nat.zero_le _, rfl, rows1_start _ b n _ _ (Blk.alloc ?_ _), Lib.hid (by simp), ?_, ?_, ?_, ?_, ?_⟩
    · exact blk_newAt (by simp)
    · exact (((Blk.new _ _ _).alloc _).alloc _).alloc _
    · exact blk_newAt (by simp)
    · exact ((blk_newAt (by simp)).alloc _).alloc _
    · exact ((((Below.refl _ _).alloc (by simp) _).alloc (by simp; try omega) _).alloc (by simp; try omega) _).alloc (by simp; try omega) _
    · simp
  case round =>
    obtain ⟨k, vs, hk, rfl, hr, hid, h3, h8, h5, hbel, hsz⟩ := hrel
    by_cases hlt : k < es.length
    · obtain ⟨ad, rfl, had, hc⟩ := ent_cells HE.out rfl hlt
      have hkeep : ∀ j u, (es[k].row)[j]? = some u → wr.cell? ((ad.add (k * 13)).add j) = some u := fun j u hu => (hbel.cell (by rw [block_of_add, block_of_add]; exact had)).trans (hc j u hu)
      have hok := HS.out _ (List.getElem_mem hlt)
      have hmem : es[k] ∈ es := List.getElem_mem hlt
      have htake : es.take (k + 1) = es.take k ++ [es[k]] := List.take_succ_eq_append_getElem hlt
      have hnew : (es.take k).length = k := by rw [List.length_take]; omega
      clear hc
      generalize es[k] = e at hkeep hok hmem htake
      have HTake := Lib.hid htake
      have HNew := Lib.hid hnew
      have HMem := Lib.hid hmem
      clear htake hnew hmem
      obtain ⟨hok1, hok2⟩ := hok
      have q0 : wr.cell? (ad.add (k * 13)) = _ := hkeep 0 _ rfl
      have q1 : wr.cell? ⟨(ad.add (k * 13)).block, (ad.add (k * 13)).off + 1, none⟩ = _ := hkeep 1 _ rfl
      have q2 : wr.cell? ⟨(ad.add (k * 13)).block, (ad.add (k * 13)).off + 2, none⟩ = _ := hkeep 2 _ rfl
      have q3 : wr.cell? ⟨(ad.add (k * 13)).block, (ad.add (k * 13)).off + 3, none⟩ = _ := hkeep 3 _ rfl
      have q4 : wr.cell? ⟨(ad.add (k * 13)).block, (ad.add (k * 13)).off + 4, none⟩ = _ := hkeep 4 _ rfl
      have q5 : wr.cell? ⟨(ad.add (k * 13)).block, (ad.add (k * 13)).off + 5, none⟩ = _ := hkeep 5 _ rfl
      have q6 : wr.cell? ⟨(ad.add (k * 13)).block, (ad.add (k * 13)).off + 6, none⟩ = _ := hkeep 6 _ rfl
      have q7 : wr.cell? ⟨(ad.add (k * 13)).block, (ad.add (k * 13)).off + 7, none⟩ = _ := hkeep 7 _ rfl
      have q8 : wr.cell? ⟨(ad.add (k * 13)).block, (ad.add (k * 13)).off + 8, none⟩ = _ := hkeep 8 _ rfl
      have q9 : wr.cell? ⟨(ad.add (k * 13)).block, (ad.add (k * 13)).off + 9, none⟩ = _ := hkeep 9 _ rfl
      have q10 : wr.cell? ⟨(ad.add (k * 13)).block, (ad.add (k * 13)).off + 10, none⟩ = _ := hkeep 10 _ rfl
      have q11 : wr.cell? ⟨(ad.add (k * 13)).block, (ad.add (k * 13)).off + 11, none⟩ = _ := hkeep 11 _ rfl
      have q12 : wr.cell? ⟨(ad.add (k * 13)).block, (ad.add (k * 13)).off + 12, none⟩ = _ := hkeep 12 _ rfl
      clear hkeep
      go_upto_region 9 with fail
      clear q0 q1 q2 q3 q4 q5 q6 q7 q8 q9 q10 q11 q12
      have hx := ent_box e wr
      have hr := hr.alloc (.cells #[.int .i64 e.ses, .int .i64 e.r.deed, .int .i64 e.r.ten, .int .u32 e.r.gen, .int .u8 e.r.rig, .string e.r.key, .string e.r.val, .string e.r.old, .int .i64 e.r.lim, .int .i64 e.r.tenant, .int .u64 e.r.qk, .int .u64 e.r.qb, .int .u8 e.r.rights] 46)
      have h3 := h3.alloc (.cells #[.int .i64 e.ses, .int .i64 e.r.deed, .int .i64 e.r.ten, .int .u32 e.r.gen, .int .u8 e.r.rig, .string e.r.key, .string e.r.val, .string e.r.old, .int .i64 e.r.lim, .int .i64 e.r.tenant, .int .u64 e.r.qk, .int .u64 e.r.qb, .int .u8 e.r.rights] 46)
      have h8 := h8.alloc (.cells #[.int .i64 e.ses, .int .i64 e.r.deed, .int .i64 e.r.ten, .int .u32 e.r.gen, .int .u8 e.r.rig, .string e.r.key, .string e.r.val, .string e.r.old, .int .i64 e.r.lim, .int .i64 e.r.tenant, .int .u64 e.r.qk, .int .u64 e.r.qb, .int .u8 e.r.rights] 46)
      have h5 := h5.alloc (.cells #[.int .i64 e.ses, .int .i64 e.r.deed, .int .i64 e.r.ten, .int .u32 e.r.gen, .int .u8 e.r.rig, .string e.r.key, .string e.r.val, .string e.r.old, .int .i64 e.r.lim, .int .i64 e.r.tenant, .int .u64 e.r.qk, .int .u64 e.r.qb, .int .u8 e.r.rights] 46)
      have hbel := hbel.alloc (by omega) (.cells #[.int .i64 e.ses, .int .i64 e.r.deed, .int .i64 e.r.ten, .int .u32 e.r.gen, .int .u8 e.r.rig, .string e.r.key, .string e.r.val, .string e.r.old, .int .i64 e.r.lim, .int .i64 e.r.tenant, .int .u64 e.r.qk, .int .u64 e.r.qb, .int .u8 e.r.rights] 46)
      have hsz2 : wr.heap.size < (wr.alloc (.cells #[.int .i64 e.ses, .int .i64 e.r.deed, .int .i64 e.r.ten, .int .u32 e.r.gen, .int .u8 e.r.rig, .string e.r.key, .string e.r.val, .string e.r.old, .int .i64 e.r.lim, .int .i64 e.r.tenant, .int .u64 e.r.qk, .int .u64 e.r.qb, .int .u8 e.r.rights] 46)).heap.size := by simp
      generalize wr.alloc (.cells #[.int .i64 e.ses, .int .i64 e.r.deed, .int .i64 e.r.ten, .int .u32 e.r.gen, .int .u8 e.r.rig, .string e.r.key, .string e.r.val, .string e.r.old, .int .i64 e.r.lim, .int .i64 e.r.tenant, .int .u64 e.r.qk, .int .u64 e.r.qb, .int .u8 e.r.rights] 46) = W1 at hx hr h3 h8 h5 hbel hsz2 ⊢
      obtain ⟨x0, x1, x2, x3, x4, x5, x6, x7, x8, x9, x10, x11, x12⟩ := ent_box_cells hx
      generalize wr.heap.size = g at *
      rcases e with ⟨ses, r⟩
      simp only at x0 x1 x2 x3 x4 x5 x6 x7 x8 x9 x10 x11 x12 hok1 hok2
      have c31 := h3.cell 0
      simp at c31
      obtain ⟨o1, o2⟩ := hok1
      by_cases hin : 0 ≤ ses ∧ ses < (n : Int)
      · obtain ⟨hs1, hs2⟩ := hin
        obtain ⟨s, rfl⟩ : ∃ s : Nat, ses = s := ⟨ses.toNat, by omega⟩
        have hsn : s < n := by omega
        obtain ⟨js, hjs⟩ : ∃ js, (rowsOf b (es.take k) n)[s]? = some js := ⟨_, List.getElem?_eq_getElem (by rw [rowsOf_length]; exact hsn)⟩
        obtain ⟨v, hv⟩ : ∃ v, vs[s]? = some v := ⟨_, List.getElem?_eq_getElem (by rw [hr.len, rowsOf_length]; exact hsn)⟩
        have hjl : js.length ≤ 4096 := by
          have h1 := jobsFrom_length b s (es.take k) 0
          rw [rowsOf_at hjs]
          have h2 := HNew.out
          omega
        have HJ := Lib.hid hjs
        have HV := Lib.hid hv
        clear hjs hv
        by_cases hop : 1 ≤ r.deed ∧ r.deed ≤ 5
        · obtain ⟨d1, d2⟩ := hop
          have htk : takes b r = picksOf r b := by unfold takes; rw [if_pos ⟨d1, d2⟩]
          have HTk := Lib.hid htk
          clear htk
          go_upto_region 14 with (first | (go_at_call 27; refine (operation_yes _ _ d1 d2).mono ?_; rintro e w' ⟨rfl, rfl⟩) | (go_at_call 31; refine (picks_any r b _).mono ?_; rintro e w' ⟨rfl, hb⟩))
          have hsz3 := hb.size
          have hr2 := hr.below hb
          have h3 := h3.below hb (by omega)
          have h8 := h8.below hb (by omega)
          have h5 := h5.below hb (by omega)
          have hx2 := hx.below hb (by omega)
          have hbel := below_trans hbel hb
          obtain ⟨t, ht⟩ : ∃ t : Int, picksOf r b = t := ⟨_, rfl⟩
          rw [ht]
          have HT5 := Lib.hid (HTk.out.trans ht)
          clear ht hr hx HTk
          clear x0 x1 x2 x3 x4 x5 x6 x7 x8 x9 x10 x11 x12 c31
          have x0 := hx2.cell 0
          have c81 := h8.cell 0
          have cg := hr2.blk.cell s
          rw [List.getElem?_toArray, HV.out] at cg
          have fg := hr2.blk.frozen s
          simp [Ent.row, Req.row] at x0 c81
          have n1 := (World.cell?_alloc_lt w' (.cells #[.int .i64 k, .int .i64 t, .int .i64 (-1)] 72) ⟨g, 0, none⟩ hx2.lt).trans x0
          have n2 := (World.cell?_alloc_lt w' (.cells #[.int .i64 k, .int .i64 t, .int .i64 (-1)] 72) ⟨w.heap.size + 1 + 1 + 1, 0, none⟩ h8.lt).trans c81
          have n3 := (World.cell?_alloc_lt w' (.cells #[.int .i64 k, .int .i64 t, .int .i64 (-1)] 72) ⟨w.heap.size + 1 + 1, s, none⟩ hr2.blk.lt).trans cg
          have hown := hr2.own s js v HJ.out HV.out
          have hgne : some (w.heap.size + 1 + 1) ≠ v.ownBlock := own_block_ge hown (by omega)
          have hne1 : some g ≠ v.ownBlock := fun e => own_blk_ne hown hx2 (by decide) e.symm
          have hne2 : some (w.heap.size + 1 + 1 + 1) ≠ v.ownBlock := own_block_ge hown (by omega)
          have hxx : (0 : Int) ≤ (s : Int) := by omega
          have hgg : w.heap.size + 4 ≤ w'.heap.size := by omega
          have hq1 : w.heap.size + 1 + 1 + 1 ≠ w.heap.size + 1 + 1 := by omega
          have hq2 : g ≠ w.heap.size + 1 + 1 := by omega
          refine wp_region_held_drew (S := (fun W => W.cell? ⟨w.heap.size + 1 + 1 + 1, 0, none⟩ = some (.slice (some ⟨w.heap.size + 1 + 1, 0, none⟩) n n) ∧ W.cell? ⟨g, 0, none⟩ = some (.int .i64 (s : Int)))) (by kernel_rfl) ?_ (fun hHeld0 => ?_)
          · exact ⟨c81, x0⟩
          refine wpAnyH_take (i := 0) (v := ?_) rfl (by kernel_rfl) (by kernel_rfl) (by kernel_rfl) (fun _ _ _ h => h) (Or.inl ⟨by rfl, ?_⟩) hHeld0 ?_
          rotate_left
          · (intro w hSw; (try dsimp only at hSw); go_simp <;> with_reducible rfl)
          try simp only [Act.put, List.setIfInBounds_toArray, List.set_cons_zero, List.set_cons_succ]
          refine wpAnyH_take (i := 1) (v := ?_) rfl (by kernel_rfl) (by kernel_rfl) (by kernel_rfl) (fun _ _ _ h => h) (Or.inl ⟨by rfl, ?_⟩) hHeld0 ?_
          rotate_left
          · (intro w hSw; (try dsimp only at hSw); go_simp <;> with_reducible rfl)
          try simp only [Act.put, List.setIfInBounds_toArray, List.set_cons_zero, List.set_cons_succ]
          refine wpAnyH_take (i := 2) (v := ?_) rfl (by kernel_rfl) (by kernel_rfl) (by kernel_rfl) (fun _ _ _ h => h) (Or.inl ⟨by rfl, ?_⟩) hHeld0 ?_
          rotate_left
          · (intro w hSw; (try dsimp only at hSw); go_simp <;> with_reducible rfl)
          try simp only [Act.put, List.setIfInBounds_toArray, List.set_cons_zero, List.set_cons_succ]
          refine wpAnyH_take (i := 3) (v := ?_) rfl (by kernel_rfl) (by kernel_rfl) (by kernel_rfl) (fun _ _ _ h => h) (Or.inl ⟨by rfl, ?_⟩) hHeld0 ?_
          rotate_left
          · (intro w hSw; (try dsimp only at hSw); go_simp <;> with_reducible rfl)
          try simp only [Act.put, List.setIfInBounds_toArray, List.set_cons_zero, List.set_cons_succ]
          refine wpAnyH_take (i := 4) (v := ?_) rfl (by kernel_rfl) (by kernel_rfl) (by kernel_rfl) (fun _ _ _ h => h) (Or.inl ⟨by rfl, ?_⟩) hHeld0 ?_
          rotate_left
          · (intro w hSw; (try dsimp only at hSw); go_simp <;> with_reducible rfl)
          try simp only [Act.put, List.setIfInBounds_toArray, List.set_cons_zero, List.set_cons_succ]
          refine wpAnyH_take (i := 5) (v := ?_) rfl (by kernel_rfl) (by kernel_rfl) (by kernel_rfl) (fun _ _ _ h => h) (Or.inl ⟨by rfl, ?_⟩) hHeld0 ?_
          rotate_left
          · (intro w hSw; (try dsimp only at hSw); go_simp <;> with_reducible rfl)
          try simp only [Act.put, List.setIfInBounds_toArray, List.set_cons_zero, List.set_cons_succ]
          refine wpAnyH_take (i := 6) (v := ?_) rfl (by kernel_rfl) (by kernel_rfl) (by kernel_rfl) (fun _ _ _ h => h) (Or.inl ⟨by rfl, ?_⟩) hHeld0 ?_
          rotate_left
          · (intro w hSw; (try dsimp only at hSw); go_simp <;> with_reducible rfl)
          try simp only [Act.put, List.setIfInBounds_toArray, List.set_cons_zero, List.set_cons_succ]
          refine wpAnyH_take (i := 8) (v := ?_) rfl (by kernel_rfl) (by kernel_rfl) (by kernel_rfl) (fun _ _ _ h => h) (Or.inl ⟨by rfl, ?_⟩) hHeld0 ?_
          rotate_left
          · (intro w hSw; (try dsimp only at hSw); go_simp <;> with_reducible rfl)
          try simp only [Act.put, List.setIfInBounds_toArray, List.set_cons_zero, List.set_cons_succ]
          refine wpAnyH_take (i := 9) (v := ?_) rfl (by kernel_rfl) (by kernel_rfl) (by kernel_rfl) (fun _ _ _ h => h) (Or.inl ⟨by rfl, ?_⟩) hHeld0 ?_
          rotate_left
          · (intro w hSw; (try dsimp only at hSw); go_simp <;> with_reducible rfl)
          try simp only [Act.put, List.setIfInBounds_toArray, List.set_cons_zero, List.set_cons_succ]
          refine wpAnyH_take (i := 10) (v := ?_) rfl (by kernel_rfl) (by kernel_rfl) (by kernel_rfl) (fun _ _ _ h => h) (Or.inl ⟨by rfl, ?_⟩) hHeld0 ?_
          rotate_left
          · (intro w hSw; (try dsimp only at hSw); go_simp <;> with_reducible rfl)
          try simp only [Act.put, List.setIfInBounds_toArray, List.set_cons_zero, List.set_cons_succ]
          refine wpAnyH_ready (rs := [7, 11]) (by kernel_rfl) (by simp) ?_
          refine AllReadyH.cons rfl (fun K hK => ?_) ?_
          · go_simp
            refine hK.out _ _ ?_ (fun hHeld1 => ?_)
            · exact ⟨c81, x0⟩
            clear hK K hHeld0
            try simp only [Act.put, List.setIfInBounds_toArray, List.set_cons_zero, List.set_cons_succ]
            refine wpAnyH_ready (rs := [11]) (by kernel_rfl) (by simp) ?_
            refine AllReadyH.cons rfl (fun K hK => ?_) ?_
            · go_simp
              refine hK.out _ _ ?_ (fun hHeld2 => ?_)
              · exact ⟨n2, n1⟩
              clear hK K hHeld1
              try simp only [Act.put, List.setIfInBounds_toArray, List.set_cons_zero, List.set_cons_succ]
              refine wpAnyH_ready (rs := [12]) (by kernel_rfl) (by simp) ?_
              refine AllReadyH.cons rfl (fun K hK => ?_) ?_
              · refine step_append_lies _ (by rfl) _ _ _ (by rfl) (w.heap.size + 4) 72 i1 _ 3 24 Try.underlying70 hi1 jz0 jz1 jz2 rfl (by omega) v js.length (js.flatMap Job.row) (by rfl) ((hown.alloc _)) ⟨w'.heap.size, 0, none⟩ 1 1 [.int .i64 k, .int .i64 t, .int .i64 (-1)] (by rfl) (by rfl) (World.news_of_block (cs := #[.int .i64 k, .int .i64 t, .int .i64 (-1)]) (t := 72) (fr := (0, 0)) (heap_alloc_new w' _)) (by simp [Value.oneCell']) (by omega) (by unfold maxLen; omega) (by omega) (by simp; omega) (w'.heap.size + 1) (by simp) ?_
                intro gg cap w1 hown1 hgrow hat hlt1
                obtain ⟨cg1, fg1⟩ := grown_row hr2.blk hgrow hgne HV.out
                have m1 := ((hx2.alloc _).drew.grown hgrow hne1).cell 0
                have m2 := ((h8.alloc _).drew.grown hgrow hne2).cell 0
                simp [Ent.row, Req.row] at m1 m2
                refine hK.out _ _ ?_ (fun hHeld3 => ?_)
                · exact ⟨m2, m1⟩
                clear hK K hHeld2
                try simp only [Act.put, List.setIfInBounds_toArray, List.set_cons_zero, List.set_cons_succ]
                refine wpAnyH_take (i := 13) (v := ?_) rfl (by kernel_rfl) (by kernel_rfl) (by kernel_rfl) (fun _ _ _ h => h) (Or.inl ⟨by rfl, ?_⟩) hHeld3 ?_
                rotate_left
                · (intro w hSw; (try dsimp only at hSw); go_simp <;> with_reducible rfl)
                try simp only [Act.put, List.setIfInBounds_toArray, List.set_cons_zero, List.set_cons_succ]
                refine wpAnyH_ready (rs := [14]) (by kernel_rfl) (by simp) ?_
                refine AllReadyH.cons rfl (fun K hK => ?_) ?_
                · go_simp
                  refine hK.out _ _ ?_ (fun hHeld4 => ?_)
                  · exact ⟨keepFar2 m2 hq1, keepFar2 m1 hq2⟩
                  clear hK K hHeld3
                  try simp only [Act.put, List.setIfInBounds_toArray, List.set_cons_zero, List.set_cons_succ]
                  refine wpAnyH_done (by kernel_rfl) ?_ _
                  have hr3 := Rows1.append (j := ⟨(k : Int), t, -1⟩) ((hr2.alloc _).drew) (by omega) HJ.out HV.out hgrow hown1 (by rcases hat with h | h; exact Or.inl h; exact Or.inr (by simp; exact h))
                  have e3 : (rowsOf b (es.take k) n).set s (js ++ [⟨(k : Int), t, -1⟩]) = rowsOf b (es.take (k + 1)) n := by
                    have h1 := rowsOf_snoc (b := b) (es := es.take k) (e := ⟨(s : Int), r⟩) (n := n) (js := js) hs1 hs2 (by simpa using HJ.out)
                    rw [← HTake.out, HNew.out] at h1
                    simp only [Int.toNat_natCast, HT5.out] at h1
                    exact h1.symm
                  rw [e3] at hr3
                  have h3 := ((h3.alloc _).drew.grown hgrow (own_block_ge hown (by omega))).far (p := ⟨w.heap.size + 1 + 1, s, none⟩) (by simp; try omega) (.slice (some ⟨gg, 0, none⟩) (js.length + 1) cap)
                  have h8 := ((h8.alloc _).drew.grown hgrow hne2).far (p := ⟨w.heap.size + 1 + 1, s, none⟩) (by simp; try omega) (.slice (some ⟨gg, 0, none⟩) (js.length + 1) cap)
                  have h5 := ((h5.alloc _).drew.grown hgrow (own_block_ge hown (by omega))).far (p := ⟨w.heap.size + 1 + 1, s, none⟩) (by simp; try omega) (.slice (some ⟨gg, 0, none⟩) (js.length + 1) cap)
                  have hbel := (((hbel.alloc (by omega) _).drew).grown hgrow (by simp; omega) (fun x e => by have := (hown.lt x e).1; omega)).setCell (p := ⟨w.heap.size + 1 + 1, s, none⟩) (by simp; omega) (.slice (some ⟨gg, 0, none⟩) (js.length + 1) cap)
                  have hszN : w.heap.size + 4 ≤ (w1.setCell ⟨w.heap.size + 1 + 1, s, none⟩ (.slice (some ⟨gg, 0, none⟩) (js.length + 1) cap)).heap.size := by have := hgrow.size; simp at this ⊢; omega
                  clear x0 c81 cg fg n1 n2 n3 hown hgne hne1 hne2 hgrow hat m1 m2 cg1 fg1 hown1 e3 hr2 hx2
                  generalize w1.setCell ⟨w.heap.size + 1 + 1, s, none⟩ (.slice (some ⟨gg, 0, none⟩) (js.length + 1) cap) = W4 at hr3 h3 h8 h5 hbel hszN ⊢
                  go_wp2
                  go_roundw
                  case rel =>
                    refine ⟨k + 1, _, by omega, by go_num, hr3, Lib.hid ?_, h3, h8, h5, hbel, hszN⟩
                    intro x hx
                    rw [HTake.out] at hx
                    rcases List.mem_append.1 hx with hx | hx
                    · exact hid.out x hx
                    · rw [List.mem_singleton.1 hx]; exact ⟨hs1, hs2⟩
                  case measure => simp [intOf]; omega
                exact AllReadyH.nil
              exact AllReadyH.nil
            exact AllReadyH.nil
          refine AllReadyH.cons rfl (fun K hK => ?_) ?_
          · go_simp
            refine hK.out _ _ ?_ (fun hHeld1 => ?_)
            · exact ⟨n2, n1⟩
            clear hK K hHeld0
            try simp only [Act.put, List.setIfInBounds_toArray, List.set_cons_zero, List.set_cons_succ]
            refine wpAnyH_ready (rs := [7]) (by kernel_rfl) (by simp) ?_
            refine AllReadyH.cons rfl (fun K hK => ?_) ?_
            · go_simp
              refine hK.out _ _ ?_ (fun hHeld2 => ?_)
              · exact ⟨n2, n1⟩
              clear hK K hHeld1
              try simp only [Act.put, List.setIfInBounds_toArray, List.set_cons_zero, List.set_cons_succ]
              refine wpAnyH_ready (rs := [12]) (by kernel_rfl) (by simp) ?_
              refine AllReadyH.cons rfl (fun K hK => ?_) ?_
              · refine step_append_lies _ (by rfl) _ _ _ (by rfl) (w.heap.size + 4) 72 i1 _ 3 24 Try.underlying70 hi1 jz0 jz1 jz2 rfl (by omega) v js.length (js.flatMap Job.row) (by rfl) ((hown.alloc _)) ⟨w'.heap.size, 0, none⟩ 1 1 [.int .i64 k, .int .i64 t, .int .i64 (-1)] (by rfl) (by rfl) (World.news_of_block (cs := #[.int .i64 k, .int .i64 t, .int .i64 (-1)]) (t := 72) (fr := (0, 0)) (heap_alloc_new w' _)) (by simp [Value.oneCell']) (by omega) (by unfold maxLen; omega) (by omega) (by simp; omega) (w'.heap.size + 1) (by simp) ?_
                intro gg cap w1 hown1 hgrow hat hlt1
                obtain ⟨cg1, fg1⟩ := grown_row hr2.blk hgrow hgne HV.out
                have m1 := ((hx2.alloc _).drew.grown hgrow hne1).cell 0
                have m2 := ((h8.alloc _).drew.grown hgrow hne2).cell 0
                simp [Ent.row, Req.row] at m1 m2
                refine hK.out _ _ ?_ (fun hHeld3 => ?_)
                · exact ⟨m2, m1⟩
                clear hK K hHeld2
                try simp only [Act.put, List.setIfInBounds_toArray, List.set_cons_zero, List.set_cons_succ]
                refine wpAnyH_take (i := 13) (v := ?_) rfl (by kernel_rfl) (by kernel_rfl) (by kernel_rfl) (fun _ _ _ h => h) (Or.inl ⟨by rfl, ?_⟩) hHeld3 ?_
                rotate_left
                · (intro w hSw; (try dsimp only at hSw); go_simp <;> with_reducible rfl)
                try simp only [Act.put, List.setIfInBounds_toArray, List.set_cons_zero, List.set_cons_succ]
                refine wpAnyH_ready (rs := [14]) (by kernel_rfl) (by simp) ?_
                refine AllReadyH.cons rfl (fun K hK => ?_) ?_
                · go_simp
                  refine hK.out _ _ ?_ (fun hHeld4 => ?_)
                  · exact ⟨keepFar2 m2 hq1, keepFar2 m1 hq2⟩
                  clear hK K hHeld3
                  try simp only [Act.put, List.setIfInBounds_toArray, List.set_cons_zero, List.set_cons_succ]
                  refine wpAnyH_done (by kernel_rfl) ?_ _
                  have hr3 := Rows1.append (j := ⟨(k : Int), t, -1⟩) ((hr2.alloc _).drew) (by omega) HJ.out HV.out hgrow hown1 (by rcases hat with h | h; exact Or.inl h; exact Or.inr (by simp; exact h))
                  have e3 : (rowsOf b (es.take k) n).set s (js ++ [⟨(k : Int), t, -1⟩]) = rowsOf b (es.take (k + 1)) n := by
                    have h1 := rowsOf_snoc (b := b) (es := es.take k) (e := ⟨(s : Int), r⟩) (n := n) (js := js) hs1 hs2 (by simpa using HJ.out)
                    rw [← HTake.out, HNew.out] at h1
                    simp only [Int.toNat_natCast, HT5.out] at h1
                    exact h1.symm
                  rw [e3] at hr3
                  have h3 := ((h3.alloc _).drew.grown hgrow (own_block_ge hown (by omega))).far (p := ⟨w.heap.size + 1 + 1, s, none⟩) (by simp; try omega) (.slice (some ⟨gg, 0, none⟩) (js.length + 1) cap)
                  have h8 := ((h8.alloc _).drew.grown hgrow hne2).far (p := ⟨w.heap.size + 1 + 1, s, none⟩) (by simp; try omega) (.slice (some ⟨gg, 0, none⟩) (js.length + 1) cap)
                  have h5 := ((h5.alloc _).drew.grown hgrow (own_block_ge hown (by omega))).far (p := ⟨w.heap.size + 1 + 1, s, none⟩) (by simp; try omega) (.slice (some ⟨gg, 0, none⟩) (js.length + 1) cap)
                  have hbel := (((hbel.alloc (by omega) _).drew).grown hgrow (by simp; omega) (fun x e => by have := (hown.lt x e).1; omega)).setCell (p := ⟨w.heap.size + 1 + 1, s, none⟩) (by simp; omega) (.slice (some ⟨gg, 0, none⟩) (js.length + 1) cap)
                  have hszN : w.heap.size + 4 ≤ (w1.setCell ⟨w.heap.size + 1 + 1, s, none⟩ (.slice (some ⟨gg, 0, none⟩) (js.length + 1) cap)).heap.size := by have := hgrow.size; simp at this ⊢; omega
                  clear x0 c81 cg fg n1 n2 n3 hown hgne hne1 hne2 hgrow hat m1 m2 cg1 fg1 hown1 e3 hr2 hx2
                  generalize w1.setCell ⟨w.heap.size + 1 + 1, s, none⟩ (.slice (some ⟨gg, 0, none⟩) (js.length + 1) cap) = W4 at hr3 h3 h8 h5 hbel hszN ⊢
                  go_wp2
                  go_roundw
                  case rel =>
                    refine ⟨k + 1, _, by omega, by go_num, hr3, Lib.hid ?_, h3, h8, h5, hbel, hszN⟩
                    intro x hx
                    rw [HTake.out] at hx
                    rcases List.mem_append.1 hx with hx | hx
                    · exact hid.out x hx
                    · rw [List.mem_singleton.1 hx]; exact ⟨hs1, hs2⟩
                  case measure => simp [intOf]; omega
                exact AllReadyH.nil
              exact AllReadyH.nil
            exact AllReadyH.nil
          exact AllReadyH.nil
        · have htk : takes b r = 1 := by unfold takes; rw [if_neg hop]
          have HT5 := Lib.hid htk
          clear htk
          go_upto_region 14 with ((go_at_call 27; refine (operation_no _ _ hop).mono ?_; rintro e w' ⟨rfl, rfl⟩))
          obtain ⟨w', rfl⟩ : ∃ w', w' = W1 := ⟨_, rfl⟩
          have hr2 := hr
          have hx2 := hx
          clear hr hx
          have hsz3 : w'.heap.size ≤ w'.heap.size := Nat.le_refl _
          clear x0 x1 x2 x3 x4 x5 x6 x7 x8 x9 x10 x11 x12 c31
          have x0 := hx2.cell 0
          have c81 := h8.cell 0
          have cg := hr2.blk.cell s
          rw [List.getElem?_toArray, HV.out] at cg
          have fg := hr2.blk.frozen s
          simp [Ent.row, Req.row] at x0 c81
          have n1 := (World.cell?_alloc_lt w' (.cells #[.int .i64 k, .int .i64 1, .int .i64 (-1)] 72) ⟨g, 0, none⟩ hx2.lt).trans x0
          have n2 := (World.cell?_alloc_lt w' (.cells #[.int .i64 k, .int .i64 1, .int .i64 (-1)] 72) ⟨w.heap.size + 1 + 1 + 1, 0, none⟩ h8.lt).trans c81
          have n3 := (World.cell?_alloc_lt w' (.cells #[.int .i64 k, .int .i64 1, .int .i64 (-1)] 72) ⟨w.heap.size + 1 + 1, s, none⟩ hr2.blk.lt).trans cg
          have hown := hr2.own s js v HJ.out HV.out
          have hgne : some (w.heap.size + 1 + 1) ≠ v.ownBlock := own_block_ge hown (by omega)
          have hne1 : some g ≠ v.ownBlock := fun e => own_blk_ne hown hx2 (by decide) e.symm
          have hne2 : some (w.heap.size + 1 + 1 + 1) ≠ v.ownBlock := own_block_ge hown (by omega)
          have hxx : (0 : Int) ≤ (s : Int) := by omega
          have hgg : w.heap.size + 4 ≤ w'.heap.size := by omega
          have hq1 : w.heap.size + 1 + 1 + 1 ≠ w.heap.size + 1 + 1 := by omega
          have hq2 : g ≠ w.heap.size + 1 + 1 := by omega
          refine wp_region_held_drew (S := (fun W => W.cell? ⟨w.heap.size + 1 + 1 + 1, 0, none⟩ = some (.slice (some ⟨w.heap.size + 1 + 1, 0, none⟩) n n) ∧ W.cell? ⟨g, 0, none⟩ = some (.int .i64 (s : Int)))) (by kernel_rfl) ?_ (fun hHeld0 => ?_)
          · exact ⟨c81, x0⟩
          refine wpAnyH_take (i := 0) (v := ?_) rfl (by kernel_rfl) (by kernel_rfl) (by kernel_rfl) (fun _ _ _ h => h) (Or.inl ⟨by rfl, ?_⟩) hHeld0 ?_
          rotate_left
          · (intro w hSw; (try dsimp only at hSw); go_simp <;> with_reducible rfl)
          try simp only [Act.put, List.setIfInBounds_toArray, List.set_cons_zero, List.set_cons_succ]
          refine wpAnyH_take (i := 1) (v := ?_) rfl (by kernel_rfl) (by kernel_rfl) (by kernel_rfl) (fun _ _ _ h => h) (Or.inl ⟨by rfl, ?_⟩) hHeld0 ?_
          rotate_left
          · (intro w hSw; (try dsimp only at hSw); go_simp <;> with_reducible rfl)
          try simp only [Act.put, List.setIfInBounds_toArray, List.set_cons_zero, List.set_cons_succ]
          refine wpAnyH_take (i := 2) (v := ?_) rfl (by kernel_rfl) (by kernel_rfl) (by kernel_rfl) (fun _ _ _ h => h) (Or.inl ⟨by rfl, ?_⟩) hHeld0 ?_
          rotate_left
          · (intro w hSw; (try dsimp only at hSw); go_simp <;> with_reducible rfl)
          try simp only [Act.put, List.setIfInBounds_toArray, List.set_cons_zero, List.set_cons_succ]
          refine wpAnyH_take (i := 3) (v := ?_) rfl (by kernel_rfl) (by kernel_rfl) (by kernel_rfl) (fun _ _ _ h => h) (Or.inl ⟨by rfl, ?_⟩) hHeld0 ?_
          rotate_left
          · (intro w hSw; (try dsimp only at hSw); go_simp <;> with_reducible rfl)
          try simp only [Act.put, List.setIfInBounds_toArray, List.set_cons_zero, List.set_cons_succ]
          refine wpAnyH_take (i := 4) (v := ?_) rfl (by kernel_rfl) (by kernel_rfl) (by kernel_rfl) (fun _ _ _ h => h) (Or.inl ⟨by rfl, ?_⟩) hHeld0 ?_
          rotate_left
          · (intro w hSw; (try dsimp only at hSw); go_simp <;> with_reducible rfl)
          try simp only [Act.put, List.setIfInBounds_toArray, List.set_cons_zero, List.set_cons_succ]
          refine wpAnyH_take (i := 5) (v := ?_) rfl (by kernel_rfl) (by kernel_rfl) (by kernel_rfl) (fun _ _ _ h => h) (Or.inl ⟨by rfl, ?_⟩) hHeld0 ?_
          rotate_left
          · (intro w hSw; (try dsimp only at hSw); go_simp <;> with_reducible rfl)
          try simp only [Act.put, List.setIfInBounds_toArray, List.set_cons_zero, List.set_cons_succ]
          refine wpAnyH_take (i := 6) (v := ?_) rfl (by kernel_rfl) (by kernel_rfl) (by kernel_rfl) (fun _ _ _ h => h) (Or.inl ⟨by rfl, ?_⟩) hHeld0 ?_
          rotate_left
          · (intro w hSw; (try dsimp only at hSw); go_simp <;> with_reducible rfl)
          try simp only [Act.put, List.setIfInBounds_toArray, List.set_cons_zero, List.set_cons_succ]
          refine wpAnyH_take (i := 8) (v := ?_) rfl (by kernel_rfl) (by kernel_rfl) (by kernel_rfl) (fun _ _ _ h => h) (Or.inl ⟨by rfl, ?_⟩) hHeld0 ?_
          rotate_left
          · (intro w hSw; (try dsimp only at hSw); go_simp <;> with_reducible rfl)
          try simp only [Act.put, List.setIfInBounds_toArray, List.set_cons_zero, List.set_cons_succ]
          refine wpAnyH_take (i := 9) (v := ?_) rfl (by kernel_rfl) (by kernel_rfl) (by kernel_rfl) (fun _ _ _ h => h) (Or.inl ⟨by rfl, ?_⟩) hHeld0 ?_
          rotate_left
          · (intro w hSw; (try dsimp only at hSw); go_simp <;> with_reducible rfl)
          try simp only [Act.put, List.setIfInBounds_toArray, List.set_cons_zero, List.set_cons_succ]
          refine wpAnyH_take (i := 10) (v := ?_) rfl (by kernel_rfl) (by kernel_rfl) (by kernel_rfl) (fun _ _ _ h => h) (Or.inl ⟨by rfl, ?_⟩) hHeld0 ?_
          rotate_left
          · (intro w hSw; (try dsimp only at hSw); go_simp <;> with_reducible rfl)
          try simp only [Act.put, List.setIfInBounds_toArray, List.set_cons_zero, List.set_cons_succ]
          refine wpAnyH_ready (rs := [7, 11]) (by kernel_rfl) (by simp) ?_
          refine AllReadyH.cons rfl (fun K hK => ?_) ?_
          · go_simp
            refine hK.out _ _ ?_ (fun hHeld1 => ?_)
            · exact ⟨c81, x0⟩
            clear hK K hHeld0
            try simp only [Act.put, List.setIfInBounds_toArray, List.set_cons_zero, List.set_cons_succ]
            refine wpAnyH_ready (rs := [11]) (by kernel_rfl) (by simp) ?_
            refine AllReadyH.cons rfl (fun K hK => ?_) ?_
            · go_simp
              refine hK.out _ _ ?_ (fun hHeld2 => ?_)
              · exact ⟨n2, n1⟩
              clear hK K hHeld1
              try simp only [Act.put, List.setIfInBounds_toArray, List.set_cons_zero, List.set_cons_succ]
              refine wpAnyH_ready (rs := [12]) (by kernel_rfl) (by simp) ?_
              refine AllReadyH.cons rfl (fun K hK => ?_) ?_
              · refine step_append_lies _ (by rfl) _ _ _ (by rfl) (w.heap.size + 4) 72 i1 _ 3 24 Try.underlying70 hi1 jz0 jz1 jz2 rfl (by omega) v js.length (js.flatMap Job.row) (by rfl) ((hown.alloc _)) ⟨w'.heap.size, 0, none⟩ 1 1 [.int .i64 k, .int .i64 1, .int .i64 (-1)] (by rfl) (by rfl) (World.news_of_block (cs := #[.int .i64 k, .int .i64 1, .int .i64 (-1)]) (t := 72) (fr := (0, 0)) (heap_alloc_new w' _)) (by simp [Value.oneCell']) (by omega) (by unfold maxLen; omega) (by omega) (by simp; omega) (w'.heap.size + 1) (by simp) ?_
                intro gg cap w1 hown1 hgrow hat hlt1
                obtain ⟨cg1, fg1⟩ := grown_row hr2.blk hgrow hgne HV.out
                have m1 := ((hx2.alloc _).drew.grown hgrow hne1).cell 0
                have m2 := ((h8.alloc _).drew.grown hgrow hne2).cell 0
                simp [Ent.row, Req.row] at m1 m2
                refine hK.out _ _ ?_ (fun hHeld3 => ?_)
                · exact ⟨m2, m1⟩
                clear hK K hHeld2
                try simp only [Act.put, List.setIfInBounds_toArray, List.set_cons_zero, List.set_cons_succ]
                refine wpAnyH_take (i := 13) (v := ?_) rfl (by kernel_rfl) (by kernel_rfl) (by kernel_rfl) (fun _ _ _ h => h) (Or.inl ⟨by rfl, ?_⟩) hHeld3 ?_
                rotate_left
                · (intro w hSw; (try dsimp only at hSw); go_simp <;> with_reducible rfl)
                try simp only [Act.put, List.setIfInBounds_toArray, List.set_cons_zero, List.set_cons_succ]
                refine wpAnyH_ready (rs := [14]) (by kernel_rfl) (by simp) ?_
                refine AllReadyH.cons rfl (fun K hK => ?_) ?_
                · go_simp
                  refine hK.out _ _ ?_ (fun hHeld4 => ?_)
                  · exact ⟨keepFar2 m2 hq1, keepFar2 m1 hq2⟩
                  clear hK K hHeld3
                  try simp only [Act.put, List.setIfInBounds_toArray, List.set_cons_zero, List.set_cons_succ]
                  refine wpAnyH_done (by kernel_rfl) ?_ _
                  have hr3 := Rows1.append (j := ⟨(k : Int), 1, -1⟩) ((hr2.alloc _).drew) (by omega) HJ.out HV.out hgrow hown1 (by rcases hat with h | h; exact Or.inl h; exact Or.inr (by simp; exact h))
                  have e3 : (rowsOf b (es.take k) n).set s (js ++ [⟨(k : Int), 1, -1⟩]) = rowsOf b (es.take (k + 1)) n := by
                    have h1 := rowsOf_snoc (b := b) (es := es.take k) (e := ⟨(s : Int), r⟩) (n := n) (js := js) hs1 hs2 (by simpa using HJ.out)
                    rw [← HTake.out, HNew.out] at h1
                    simp only [Int.toNat_natCast, HT5.out] at h1
                    exact h1.symm
                  rw [e3] at hr3
                  have h3 := ((h3.alloc _).drew.grown hgrow (own_block_ge hown (by omega))).far (p := ⟨w.heap.size + 1 + 1, s, none⟩) (by simp; try omega) (.slice (some ⟨gg, 0, none⟩) (js.length + 1) cap)
                  have h8 := ((h8.alloc _).drew.grown hgrow hne2).far (p := ⟨w.heap.size + 1 + 1, s, none⟩) (by simp; try omega) (.slice (some ⟨gg, 0, none⟩) (js.length + 1) cap)
                  have h5 := ((h5.alloc _).drew.grown hgrow (own_block_ge hown (by omega))).far (p := ⟨w.heap.size + 1 + 1, s, none⟩) (by simp; try omega) (.slice (some ⟨gg, 0, none⟩) (js.length + 1) cap)
                  have hbel := (((hbel.alloc (by omega) _).drew).grown hgrow (by simp; omega) (fun x e => by have := (hown.lt x e).1; omega)).setCell (p := ⟨w.heap.size + 1 + 1, s, none⟩) (by simp; omega) (.slice (some ⟨gg, 0, none⟩) (js.length + 1) cap)
                  have hszN : w.heap.size + 4 ≤ (w1.setCell ⟨w.heap.size + 1 + 1, s, none⟩ (.slice (some ⟨gg, 0, none⟩) (js.length + 1) cap)).heap.size := by have := hgrow.size; simp at this ⊢; omega
                  clear x0 c81 cg fg n1 n2 n3 hown hgne hne1 hne2 hgrow hat m1 m2 cg1 fg1 hown1 e3 hr2 hx2
                  generalize w1.setCell ⟨w.heap.size + 1 + 1, s, none⟩ (.slice (some ⟨gg, 0, none⟩) (js.length + 1) cap) = W4 at hr3 h3 h8 h5 hbel hszN ⊢
                  go_wp2
                  go_roundw
                  case rel =>
                    refine ⟨k + 1, _, by omega, by go_num, hr3, Lib.hid ?_, h3, h8, h5, hbel, hszN⟩
                    intro x hx
                    rw [HTake.out] at hx
                    rcases List.mem_append.1 hx with hx | hx
                    · exact hid.out x hx
                    · rw [List.mem_singleton.1 hx]; exact ⟨hs1, hs2⟩
                  case measure => simp [intOf]; omega
                exact AllReadyH.nil
              exact AllReadyH.nil
            exact AllReadyH.nil
          refine AllReadyH.cons rfl (fun K hK => ?_) ?_
          · go_simp
            refine hK.out _ _ ?_ (fun hHeld1 => ?_)
            · exact ⟨n2, n1⟩
            clear hK K hHeld0
            try simp only [Act.put, List.setIfInBounds_toArray, List.set_cons_zero, List.set_cons_succ]
            refine wpAnyH_ready (rs := [7]) (by kernel_rfl) (by simp) ?_
            refine AllReadyH.cons rfl (fun K hK => ?_) ?_
            · go_simp
              refine hK.out _ _ ?_ (fun hHeld2 => ?_)
              · exact ⟨n2, n1⟩
              clear hK K hHeld1
              try simp only [Act.put, List.setIfInBounds_toArray, List.set_cons_zero, List.set_cons_succ]
              refine wpAnyH_ready (rs := [12]) (by kernel_rfl) (by simp) ?_
              refine AllReadyH.cons rfl (fun K hK => ?_) ?_
              · refine step_append_lies _ (by rfl) _ _ _ (by rfl) (w.heap.size + 4) 72 i1 _ 3 24 Try.underlying70 hi1 jz0 jz1 jz2 rfl (by omega) v js.length (js.flatMap Job.row) (by rfl) ((hown.alloc _)) ⟨w'.heap.size, 0, none⟩ 1 1 [.int .i64 k, .int .i64 1, .int .i64 (-1)] (by rfl) (by rfl) (World.news_of_block (cs := #[.int .i64 k, .int .i64 1, .int .i64 (-1)]) (t := 72) (fr := (0, 0)) (heap_alloc_new w' _)) (by simp [Value.oneCell']) (by omega) (by unfold maxLen; omega) (by omega) (by simp; omega) (w'.heap.size + 1) (by simp) ?_
                intro gg cap w1 hown1 hgrow hat hlt1
                obtain ⟨cg1, fg1⟩ := grown_row hr2.blk hgrow hgne HV.out
                have m1 := ((hx2.alloc _).drew.grown hgrow hne1).cell 0
                have m2 := ((h8.alloc _).drew.grown hgrow hne2).cell 0
                simp [Ent.row, Req.row] at m1 m2
                refine hK.out _ _ ?_ (fun hHeld3 => ?_)
                · exact ⟨m2, m1⟩
                clear hK K hHeld2
                try simp only [Act.put, List.setIfInBounds_toArray, List.set_cons_zero, List.set_cons_succ]
                refine wpAnyH_take (i := 13) (v := ?_) rfl (by kernel_rfl) (by kernel_rfl) (by kernel_rfl) (fun _ _ _ h => h) (Or.inl ⟨by rfl, ?_⟩) hHeld3 ?_
                rotate_left
                · (intro w hSw; (try dsimp only at hSw); go_simp <;> with_reducible rfl)
                try simp only [Act.put, List.setIfInBounds_toArray, List.set_cons_zero, List.set_cons_succ]
                refine wpAnyH_ready (rs := [14]) (by kernel_rfl) (by simp) ?_
                refine AllReadyH.cons rfl (fun K hK => ?_) ?_
                · go_simp
                  refine hK.out _ _ ?_ (fun hHeld4 => ?_)
                  · exact ⟨keepFar2 m2 hq1, keepFar2 m1 hq2⟩
                  clear hK K hHeld3
                  try simp only [Act.put, List.setIfInBounds_toArray, List.set_cons_zero, List.set_cons_succ]
                  refine wpAnyH_done (by kernel_rfl) ?_ _
                  have hr3 := Rows1.append (j := ⟨(k : Int), 1, -1⟩) ((hr2.alloc _).drew) (by omega) HJ.out HV.out hgrow hown1 (by rcases hat with h | h; exact Or.inl h; exact Or.inr (by simp; exact h))
                  have e3 : (rowsOf b (es.take k) n).set s (js ++ [⟨(k : Int), 1, -1⟩]) = rowsOf b (es.take (k + 1)) n := by
                    have h1 := rowsOf_snoc (b := b) (es := es.take k) (e := ⟨(s : Int), r⟩) (n := n) (js := js) hs1 hs2 (by simpa using HJ.out)
                    rw [← HTake.out, HNew.out] at h1
                    simp only [Int.toNat_natCast, HT5.out] at h1
                    exact h1.symm
                  rw [e3] at hr3
                  have h3 := ((h3.alloc _).drew.grown hgrow (own_block_ge hown (by omega))).far (p := ⟨w.heap.size + 1 + 1, s, none⟩) (by simp; try omega) (.slice (some ⟨gg, 0, none⟩) (js.length + 1) cap)
                  have h8 := ((h8.alloc _).drew.grown hgrow hne2).far (p := ⟨w.heap.size + 1 + 1, s, none⟩) (by simp; try omega) (.slice (some ⟨gg, 0, none⟩) (js.length + 1) cap)
                  have h5 := ((h5.alloc _).drew.grown hgrow (own_block_ge hown (by omega))).far (p := ⟨w.heap.size + 1 + 1, s, none⟩) (by simp; try omega) (.slice (some ⟨gg, 0, none⟩) (js.length + 1) cap)
                  have hbel := (((hbel.alloc (by omega) _).drew).grown hgrow (by simp; omega) (fun x e => by have := (hown.lt x e).1; omega)).setCell (p := ⟨w.heap.size + 1 + 1, s, none⟩) (by simp; omega) (.slice (some ⟨gg, 0, none⟩) (js.length + 1) cap)
                  have hszN : w.heap.size + 4 ≤ (w1.setCell ⟨w.heap.size + 1 + 1, s, none⟩ (.slice (some ⟨gg, 0, none⟩) (js.length + 1) cap)).heap.size := by have := hgrow.size; simp at this ⊢; omega
                  clear x0 c81 cg fg n1 n2 n3 hown hgne hne1 hne2 hgrow hat m1 m2 cg1 fg1 hown1 e3 hr2 hx2
                  generalize w1.setCell ⟨w.heap.size + 1 + 1, s, none⟩ (.slice (some ⟨gg, 0, none⟩) (js.length + 1) cap) = W4 at hr3 h3 h8 h5 hbel hszN ⊢
                  go_wp2
                  go_roundw
                  case rel =>
                    refine ⟨k + 1, _, by omega, by go_num, hr3, Lib.hid ?_, h3, h8, h5, hbel, hszN⟩
                    intro x hx
                    rw [HTake.out] at hx
                    rcases List.mem_append.1 hx with hx | hx
                    · exact hid.out x hx
                    · rw [List.mem_singleton.1 hx]; exact ⟨hs1, hs2⟩
                  case measure => simp [intOf]; omega
                exact AllReadyH.nil
              exact AllReadyH.nil
            exact AllReadyH.nil
          exact AllReadyH.nil
      · have hall : es.all (fun e => decide (0 ≤ e.ses ∧ e.ses < (n : Int))) = false := by
          rw [List.all_eq_false]
          exact ⟨_, HMem.out, by simpa using hin⟩
        rw [hall] at HT
        have hT2 := HT.out
        rw [if_neg (by simp)] at hT2
        have HT2 := Lib.hid hT2
        clear HT hall hT2
        by_cases hneg : ses < 0
        · go_wp2
          go_ret2
          rw [HT2.out]; exact ⟨_, rfl, ⟨rfl, Or.inl ⟨rfl, rfl⟩⟩, hbel⟩
        · have hge : (n : Int) ≤ ses := by omega
          have hnn : 0 ≤ ses := by omega
          go_wp2
          go_ret2
          rw [HT2.out]; exact ⟨_, rfl, ⟨rfl, Or.inl ⟨rfl, rfl⟩⟩, hbel⟩
    · obtain rfl : k = es.length := by omega
      have hte : es.take es.length = es := List.take_length
      rw [hte] at hr hid
      have hall : es.all (fun e => decide (0 ≤ e.ses ∧ e.ses < (n : Int))) = true := by
        rw [List.all_eq_true]
        intro x hx
        simpa using hid.out x hx
      rw [hall] at HT
      have hT2 := HT.out
      rw [if_pos rfl] at hT2
      have hnl := rowsOf_length b es n
      have hlen : ∀ js ∈ rowsOf b es n, js.length ≤ 65536 := by
        intro js hjs
        obtain ⟨i, hi⟩ := List.getElem?_of_mem hjs
        have := jobsFrom_length b i es 0
        rw [rowsOf_at hi]
        omega
      have HT3 := Lib.hid hT2
      clear hT2 HT
      go_wp2
      refine HK0.out _ _ ?_
      rw [HT3.out]
      exact times4 w.heap.size (w.heap.size + 1) (w.heap.size + 1 + 1 + 1) (w.heap.size + 1 + 1) (w.heap.size + 4) (rowsOf b es n) vs ps Ap cp (.slice Ae es.length ce) w wr hlp HI.out (by omega) (rowsOf_ok HB.out es n) (Rows2.of_rows1 hr)
        (by rw [hnl]; exact h3) (by rw [hnl]; exact h8) h5 (HP.out.below hbel) (by omega) (by omega) (by omega) (by omega) (by omega) hsz hbel hlen
end Go.Proofs.Ytlmehmmdbdembaa
