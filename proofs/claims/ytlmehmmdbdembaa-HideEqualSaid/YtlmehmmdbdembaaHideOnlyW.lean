/-
  Walks: HideOnly.
-/
import Derived.Test.YtlmehmmdbdembaaMScriptW
import Derived.Test.YtlmehmmdbdembaaBudgetW
namespace Go.Proofs.Ytlmehmmdbdembaa
open Go.RowKit
set_option linter.unusedVariables false
set_option linter.unusedSimpArgs false

/-- What Times sees of an entry. -/
def tkey (b : Int) (e : Ent) : Int × Int := (e.ses, takes b e.r)
theorem jobs_key (b k : Int) : ∀ (es xs : List Ent) (i : Nat), es.map (tkey b) = xs.map (tkey b) → jobsFrom b k i es = jobsFrom b k i xs
  | [], [], _, _ => rfl
  | [], _ :: _, _, h => by cases h
  | _ :: _, [], _, h => by cases h
  | e :: es, x :: xs, i, h => by
    simp only [List.map_cons, List.cons.injEq, tkey, Prod.mk.injEq] at h
    have ih := jobs_key b k es xs (i + 1) h.2
    simp only [jobsFrom, h.1.1, h.1.2, ih]
theorem all_key (b s : Int) (es : List Ent) : (es.all fun e => decide (0 ≤ e.ses ∧ e.ses < s)) = ((es.map (tkey b)).all fun q => decide (0 ≤ q.1 ∧ q.1 < s)) := by
  rw [List.all_map]; rfl
theorem times_key (s b : Int) (es xs : List Ent) (ps : List Int) (h : es.map (tkey b) = xs.map (tkey b)) : timesM s b es ps = timesM s b xs ps := by
  have hl : es.length = xs.length := by have := congrArg List.length h; simpa using this
  have hr : ∀ n, rowsOf b es n = rowsOf b xs n := fun n => by
    unfold rowsOf
    exact List.map_congr_left fun k _ => jobs_key b k es xs 0 h
  unfold timesM
  rw [hl, all_key b, all_key b, h, hr]
theorem times_ok (s b : Int) (es : List Ent) (ps : List Int) (h1 : es.length ≤ 4096) (h2 : ps.length ≤ 65536) (h3 : 1 ≤ s ∧ s ≤ 64) (h4 : 2 ≤ b ∧ b ≤ 4096) (h5 : ∀ e ∈ es, 0 ≤ e.ses ∧ e.ses < s) : (timesM s b es ps).2 = 0 := by
  unfold timesM
  rw [if_neg (by omega), if_neg (by omega), if_pos (by rw [List.all_eq_true]; intro e he; exact decide_eq_true (h5 e he))]
/-- An entry's request with all but the deed, and a scan's limit, from another one. -/
def mixR (e r : Req) : Req := ⟨e.deed, r.ten, r.gen, r.rig, r.key, r.val, r.old, if e.deed = 5 then e.lim else r.lim, r.tenant, r.qk, r.qb, r.rights⟩
theorem mix_key (b : Int) (e : Ent) (r : Req) : tkey b ⟨e.ses, mixR e.r r⟩ = tkey b e := by
  simp only [tkey, Prod.mk.injEq, true_and]
  unfold takes picksOf mixR
  by_cases h : e.r.deed = 5 <;> simp [h]
theorem mix_ok {e r : Req} (he : e.ok) (hr : r.ok) : (mixR e r).ok := by
  obtain ⟨h1, h2, h3, h4, h5, h6, h7, h8, h9, h10, h11, h12⟩ := hr
  refine ⟨he.deed, h2, h3, h4, h5, h6, h7, ?_, h9, h10, h11, h12⟩
  unfold mixR
  dsimp only
  split
  · exact he.lim
  · exact h8
theorem set_key {f : Ent → Int × Int} {l : List Ent} {k : Nat} {e y : Ent} (hk : l[k]? = some e) (h : f y = f e) : (l.set k y).map f = l.map f := by
  obtain ⟨hlt, he⟩ := List.getElem?_eq_some_iff.1 hk
  apply List.ext_getElem?
  intro i
  rw [List.getElem?_map, List.getElem?_map, List.getElem?_set]
  by_cases hi : k = i
  · subst hi
    rw [if_pos rfl, if_pos hlt, hk]
    simp [h]
  · rw [if_neg hi]
theorem flat_setf {l : List Ent} {k : Nat} {e y : Ent} {i : Nat} {u : Value} (hk : l[k]? = some e) (hi : i < 13) (hy : e.row.set i u = y.row) : (l.flatMap Ent.row).set (k * 13 + i) u = (l.set k y).flatMap Ent.row := by
  obtain ⟨hlt, he⟩ := List.getElem?_eq_some_iff.1 hk
  have h1 : l = l.take k ++ (e :: l.drop (k + 1)) := by rw [← he, ← List.drop_eq_getElem_cons hlt, List.take_append_drop]
  have hA : ((l.take k).flatMap Ent.row).length = k * 13 := by rw [flat_len ent_row_len, List.length_take, Nat.min_eq_left (by omega)]
  have h2 : l.flatMap Ent.row = (l.take k).flatMap Ent.row ++ (e.row ++ (l.drop (k + 1)).flatMap Ent.row) := by
    conv => lhs; rw [h1]
    rw [List.flatMap_append, List.flatMap_cons]
  have h3 : (l.set k y).flatMap Ent.row = (l.take k).flatMap Ent.row ++ (Ent.row y ++ (l.drop (k + 1)).flatMap Ent.row) := by
    rw [List.set_eq_take_append_cons_drop, if_pos hlt, List.flatMap_append, List.flatMap_cons]
  rw [h3, h2, flat_set1 hA (by rw [ent_row_len]; exact hi), hy]
theorem Req.row_len (r : Req) : r.row.length = 12 := rfl
theorem req_facts {W : World} {r : Req} {ad : Addr} {k : Nat} (h : ∀ i u, r.row[i]? = some u → W.cell? ((ad.add (k * 12)).add i) = some u) : W.cell? (ad.add (k * 12)) = some (.int .i64 r.deed) ∧ W.cell? ⟨(ad.add (k * 12)).block, (ad.add (k * 12)).off + 1, none⟩ = some (.int .i64 r.ten) ∧ W.cell? ⟨(ad.add (k * 12)).block, (ad.add (k * 12)).off + 2, none⟩ = some (.int .u32 r.gen) ∧ W.cell? ⟨(ad.add (k * 12)).block, (ad.add (k * 12)).off + 3, none⟩ = some (.int .u8 r.rig) ∧ W.cell? ⟨(ad.add (k * 12)).block, (ad.add (k * 12)).off + 4, none⟩ = some (.string r.key) ∧ W.cell? ⟨(ad.add (k * 12)).block, (ad.add (k * 12)).off + 5, none⟩ = some (.string r.val) ∧ W.cell? ⟨(ad.add (k * 12)).block, (ad.add (k * 12)).off + 6, none⟩ = some (.string r.old) ∧ W.cell? ⟨(ad.add (k * 12)).block, (ad.add (k * 12)).off + 7, none⟩ = some (.int .i64 r.lim) ∧ W.cell? ⟨(ad.add (k * 12)).block, (ad.add (k * 12)).off + 8, none⟩ = some (.int .i64 r.tenant) ∧ W.cell? ⟨(ad.add (k * 12)).block, (ad.add (k * 12)).off + 9, none⟩ = some (.int .u64 r.qk) ∧ W.cell? ⟨(ad.add (k * 12)).block, (ad.add (k * 12)).off + 10, none⟩ = some (.int .u64 r.qb) ∧ W.cell? ⟨(ad.add (k * 12)).block, (ad.add (k * 12)).off + 11, none⟩ = some (.int .u8 r.rights) :=
  ⟨by have := h 0 _ rfl; rwa [add_of_add] at this, h 1 _ rfl, h 2 _ rfl, h 3 _ rfl, h 4 _ rfl, h 5 _ rfl, h 6 _ rfl, h 7 _ rfl, h 8 _ rfl, h 9 _ rfl, h 10 _ rfl, h 11 _ rfl⟩

/-- Two scripts in two variables, the second one's entries in block ge. -/
structure TwoS (w : World) (g9 g10 ge : Nat) (v1 v2 v4 : Value) (n c3 : Nat) (es : List Ent) (ps : List Int) (X : List Value) (W : World) : Prop where
  o1 : W.ownsRow w.heap.size 46 13 v1 n (es.flatMap Ent.row)
  o2 : W.ownsRow w.heap.size 3 1 v2 ps.length (ps.flatMap irow)
  o3 : W.ownsRow w.heap.size 46 13 (.slice (some ⟨ge, 0, none⟩) n c3) n X
  o4 : W.ownsRow w.heap.size 3 1 v4 ps.length (ps.flatMap irow)
  b9 : Blk W g9 41 #[v1, v2]
  b10 : Blk W g10 41 #[.slice (some ⟨ge, 0, none⟩) n c3, v4]
  bel : Below w.heap.size w W
  ne : v1.ownBlock ≠ some ge
theorem TwoS.ge {w W : World} {g9 g10 ge n c3 : Nat} {v1 v2 v4 : Value} {es : List Ent} {ps : List Int} {X : List Value} (h : TwoS w g9 g10 ge v1 v2 v4 n c3 es ps X W) : w.heap.size ≤ ge := (h.o3.lt ge rfl).1
theorem TwoS.set {w W : World} {g9 g10 ge n c3 : Nat} {v1 v2 v4 : Value} {es : List Ent} {ps : List Int} {X : List Value} (h : TwoS w g9 g10 ge v1 v2 v4 n c3 es ps X W) (p : Nat) (u : Value) (hp : p < n * 13) :
    TwoS w g9 g10 ge v1 v2 v4 n c3 es ps (X.set p u) (W.setCell ⟨ge, p, none⟩ u) := by
  have hg := h.ge
  have n9 : g9 ≠ ge := fun e => own_blk_ne h.o3 h.b9 (by decide) (by rw [e]; rfl)
  have n10 : g10 ≠ ge := fun e => own_blk_ne h.o3 h.b10 (by decide) (by rw [e]; rfl)
  have n2 := own_own_ne h.o3 h.o2 (by decide) ge rfl
  have n4 := own_own_ne h.o3 h.o4 (by decide) ge rfl
  exact ⟨own_far h.o1 h.ne p u, own_far h.o2 n2 p u, own_set h.o3 hp, own_far h.o4 n4 p u, h.b9.far (p := ⟨ge, p, none⟩) n9 u, h.b10.far (p := ⟨ge, p, none⟩) n10 u, h.bel.setCell (p := ⟨ge, p, none⟩) hg u, h.ne⟩
theorem TwoS.drewN {w W : World} {g9 g10 ge n c3 : Nat} {v1 v2 v4 : Value} {es : List Ent} {ps : List Int} {X : List Value} (h : TwoS w g9 g10 ge v1 v2 v4 n c3 es ps X W) (m : Nat) : TwoS w g9 g10 ge v1 v2 v4 n c3 es ps X (W.drewN m) :=
  ⟨h.o1, h.o2, h.o3, h.o4, h.b9, h.b10, below_drewN h.bel m, h.ne⟩
theorem TwoS.setReq {w W : World} {g9 g10 ge n c3 k : Nat} {v1 v2 v4 : Value} {es xs : List Ent} {ps : List Int} {e : Ent} (q : Req) (h : TwoS w g9 g10 ge v1 v2 v4 n c3 es ps (xs.flatMap Ent.row) W) (hk : xs[k]? = some e) (hn : n = xs.length) :
    TwoS w g9 g10 ge v1 v2 v4 n c3 es ps ((xs.set k ⟨e.ses, q⟩).flatMap Ent.row) ((((((((((((W.setCell ⟨ge, k * 13 + 1, none⟩ (.int .i64 q.deed)).setCell ⟨ge, k * 13 + 2, none⟩ (.int .i64 q.ten)).setCell ⟨ge, k * 13 + 3, none⟩ (.int .u32 q.gen)).setCell ⟨ge, k * 13 + 4, none⟩ (.int .u8 q.rig)).setCell ⟨ge, k * 13 + 5, none⟩ (.string q.key)).setCell ⟨ge, k * 13 + 6, none⟩ (.string q.val)).setCell ⟨ge, k * 13 + 7, none⟩ (.string q.old)).setCell ⟨ge, k * 13 + 8, none⟩ (.int .i64 q.lim)).setCell ⟨ge, k * 13 + 9, none⟩ (.int .i64 q.tenant)).setCell ⟨ge, k * 13 + 10, none⟩ (.int .u64 q.qk)).setCell ⟨ge, k * 13 + 11, none⟩ (.int .u64 q.qb)).setCell ⟨ge, k * 13 + 12, none⟩ (.int .u8 q.rights)) := by
  have hlt := (List.getElem?_eq_some_iff.1 hk).1
  have h2 := ((((((((((((h.set (k * 13 + 1) (.int .i64 q.deed) (by omega)).set (k * 13 + 2) (.int .i64 q.ten) (by omega)).set (k * 13 + 3) (.int .u32 q.gen) (by omega)).set (k * 13 + 4) (.int .u8 q.rig) (by omega)).set (k * 13 + 5) (.string q.key) (by omega)).set (k * 13 + 6) (.string q.val) (by omega)).set (k * 13 + 7) (.string q.old) (by omega)).set (k * 13 + 8) (.int .i64 q.lim) (by omega)).set (k * 13 + 9) (.int .i64 q.tenant) (by omega)).set (k * 13 + 10) (.int .u64 q.qk) (by omega)).set (k * 13 + 11) (.int .u64 q.qb) (by omega)).set (k * 13 + 12) (.int .u8 q.rights) (by omega))
  rw [flat_set12 hk] at h2
  exact h2

set_option maxHeartbeats 6400000 in
set_option maxRecDepth 100000 in
theorem hideOnly_law (cs : List Cod) (bs : List Int) (rs : List Req) (bn : Int) (A B D : Option Addr) (cap capb capd : Nat) (w : World) (hA : Reads w w.heap.size 6 A cs.length (cs.flatMap Cod.row)) (hok : ∀ c ∈ cs, c.ok) (hl : cs.length ≤ cap) (hc : cap ≤ 9223372036854775807)
    (hB : Reads w w.heap.size 1 B bs.length (bs.flatMap brow)) (hbs : ∀ b ∈ bs, 0 ≤ b ∧ b ≤ 255) (hlb : bs.length ≤ capb) (hcb : capb ≤ 9223372036854775807)
    (hD : Reads w w.heap.size 12 D rs.length (rs.flatMap Req.row)) (hrs : ∀ r ∈ rs, r.ok) (hld : rs.length ≤ 9223372036854775807) (hbn : 0 ≤ bn ∧ bn ≤ 255) :
    Calls Try.prog 4 #[.slice A cs.length cap, .slice B bs.length capb, .int .u8 bn, .slice D rs.length capd] w (BoolEnd true w) := by
  have HA := Lib.hid hA
  have HOK := Lib.hid hok
  have HB := Lib.hid hB
  have HBS := Lib.hid hbs
  have HD := Lib.hid hD
  have HRS := Lib.hid hrs
  have HBN := Lib.hid hbn
  clear hA hok hB hbs hD hrs hbn
  go_enter Try.func4, Try.ntmps4
  refine wp_seq_k fun K0 hK0 => ?_
  have HK0 := Lib.hid hK0
  clear hK0
  go_wp2_with fail
  refine HK0.out _ _ ?_
  clear HK0 K0
  refine wp_seq_k fun K0 hK0 => ?_
  have HK0 := Lib.hid hK0
  clear hK0
  go_wp2_with fail
  refine (script_any cs bs A B cap capb w HA.out HOK.out hl hc HB.out HBS.out hlb hcb).mono ?_
  rintro e w1 ⟨es, ps, A1, A2, c1, c2, rfl, ho1, ho2, hb1, hmk, hel, hps⟩
  have hel2 : es.length ≤ 22 := by omega
  have hel1 : 2 ≤ es.length := by omega
  have hpl : ps.length ≤ 400 := by rw [hps, List.length_take]; omega
  have hpI : ∀ p ∈ ps, I64 p := fun p hp => by rw [hps] at hp; have := HBS.out p (List.mem_of_mem_take hp); exact ⟨by omega, by omega⟩
  have HM := Lib.hid (And.intro hmk hpI)
  have HO := Lib.hid (And.intro (ho1.alloc (.cells #[.slice A1 es.length c1, .slice A2 ps.length c2] 41)) (And.intro (ho2.alloc (.cells #[.slice A1 es.length c1, .slice A2 ps.length c2] 41)) (And.intro (Blk.new w1 41 #[.slice A1 es.length c1, .slice A2 ps.length c2]) (below_alloc hb1 (.cells #[.slice A1 es.length c1, .slice A2 ps.length c2] 41)))))
  clear ho1 ho2 hb1 hmk hel hps hpI
  go_wp2_with fail
  refine HK0.out _ _ ?_
  clear HK0 K0
  generalize w1.alloc (.cells #[.slice A1 es.length c1, .slice A2 ps.length c2] 41) = W1 at HO ⊢
  generalize w1.heap.size = g9 at *
  refine wp_seq_k fun K0 hK0 => ?_
  have HK0 := Lib.hid hK0
  clear hK0
  have x0 := HO.out.2.2.1.cell 0
  have x1 := HO.out.2.2.1.cell 1
  simp at x0 x1
  go_wp2_with fail
  clear x0 x1
  refine (copy_script A1 A2 c1 c2 es ps W1 ⟨Reads.of_own HO.out.1, Reads.of_own HO.out.2.1, by omega, by omega⟩).mono ?_
  rintro e w2 ⟨A3, c3, A4, c4, rfl, ho3, ho4, hb2⟩
  obtain ⟨ge, cap', hv, hge1, hge2⟩ := ho3.form (by omega)
  simp only [Value.slice.injEq] at hv
  obtain ⟨rfl, -, rfl⟩ := hv
  have hsz := HO.out.2.2.2.size
  have HT := Lib.hid (show TwoS w g9 w2.heap.size ge (.slice A1 es.length c1) (.slice A2 ps.length c2) (.slice A4 ps.length c4) es.length c3 es ps (es.flatMap Ent.row) (w2.alloc (.cells #[.slice (some ⟨ge, 0, none⟩) es.length c3, .slice A4 ps.length c4] 41)) from
    ⟨(ownsRow_below HO.out.1 hb2 (Nat.le_refl _)).alloc _, (ownsRow_below HO.out.2.1 hb2 (Nat.le_refl _)).alloc _, (ownsRow_more ho3 hsz).alloc _, (ownsRow_more ho4 hsz).alloc _, (HO.out.2.2.1.below hb2 HO.out.2.2.1.lt).alloc _, Blk.new _ _ _, below_alloc (below_trans HO.out.2.2.2 hb2) _,
      fun e => by have := (HO.out.1.lt ge e).2; omega⟩)
  clear HO ho3 ho4 hb2 hsz hge1 hge2
  go_wp2_with fail
  refine HK0.out _ _ ?_
  clear HK0 K0
  generalize w2.alloc (.cells #[.slice (some ⟨ge, 0, none⟩) es.length c3, .slice A4 ps.length c4] 41) = W2 at HT ⊢
  generalize w2.heap.size = g10 at *
  refine wp_seq_k fun K1 hK1 => ?_
  have HK1 := Lib.hid hK1
  clear hK1
  have x0 := HT.out.b10.cell 0
  simp at x0
  go_wp2_with fail
  clear x0
  go_loopw [27] (fun i wr => ∃ (k : Nat) (xs : List Ent), k ≤ es.length ∧ i = .int .i64 k ∧ Hid (TwoS w g9 g10 ge (.slice A1 es.length c1) (.slice A2 ps.length c2) (.slice A4 ps.length c4) es.length c3 es ps (xs.flatMap Ent.row) wr ∧ xs.length = es.length ∧ (∀ b, xs.map (tkey b) = es.map (tkey b)) ∧ ∀ x ∈ xs, x.r.ok)) (fun i _ => es.length - (intOf i).toNat)
  case atStart => exact ⟨0, es, Nat.zero_le _, rfl, Lib.hid ⟨HT.out, rfl, fun _ => rfl, fun x hx => (HM.out.1 x hx).2.ok⟩⟩
  case round =>
    obtain ⟨k, xs, hk, rfl, HW⟩ := hrel
    by_cases hlt : k < es.length
    · have hkx : k < xs.length := by rw [HW.out.2.1]; exact hlt
      have hxk : xs[k]? = some xs[k] := List.getElem?_eq_getElem hkx
      have hxo := HW.out.2.2.2 _ (List.getElem_mem hkx)
      generalize xs[k] = e at hxk hxo
      have HX := Lib.hid (And.intro hxk hxo)
      clear hxk hxo
      have i1 : (0 : Int) ≤ (k : Int) := by omega
      have i2 : (k : Int) < (es.length : Int) := by omega
      have x0 := HW.out.1.b10.cell 0
      simp at x0
      by_cases hr : k < rs.length
      · obtain ⟨ad, rfl, hab, hcc⟩ := row_cells Req.row_len HD.out rfl hr
        have hbel := HW.out.1.bel
        have hcr : ∀ i u, (rs[k]).row[i]? = some u → wr.cell? ((ad.add (k * 12)).add i) = some u := fun i u hu => (hbel.cell (p := (ad.add (k * 12)).add i) (by rw [block_of_add, block_of_add]; exact hab)).trans (hcc i u hu)
        have hrok := HRS.out _ (List.getElem_mem hr)
        generalize rs[k] = r at hcr hrok
        have HRK := Lib.hid hrok
        have hadb : (ad.add (k * 12)).block < w.heap.size := by rw [block_of_add]; exact hab
        have hge := HW.out.1.ge
        have i3 : (k : Int) < (rs.length : Int) := by omega
        have HCR := Lib.hid hcr
        clear hcc hbel hrok hcr
        obtain ⟨p0, p1, p2, p3, p4, p5, p6, p7, p8, p9, p10, p11, p12⟩ := own_cells HW.out.1.o3 HW.out.2.1.symm HX.out.1
        go_upto_region 8 with fail
        rename_i K2 hK2
        have HK2 := Lib.hid hK2
        clear hK2 p0 p2 p3 p4 p5 p6 p7 p9 p10 p11 p12 x0
        go_quiet (fail)
        refine HK2.out _ _ ?_
        clear HK2 K2 p1 p8
        refine wp_seq_k fun K2 hK2 => ?_
        have HK2 := Lib.hid hK2
        clear hK2
        have hN := HW.out.1.drewN nq
        generalize wr.drewN nq = W3 at hN ⊢
        obtain ⟨p0, p1, p2, p3, p4, p5, p6, p7, p8, p9, p10, p11, p12⟩ := own_cells hN.o3 HW.out.2.1.symm HX.out.1
        have y1 := own_frozen hN.o3 (k * 13 + 1)
        have y2 := own_frozen hN.o3 (k * 13 + 2)
        have y3 := own_frozen hN.o3 (k * 13 + 3)
        have y4 := own_frozen hN.o3 (k * 13 + 4)
        have y5 := own_frozen hN.o3 (k * 13 + 5)
        have y6 := own_frozen hN.o3 (k * 13 + 6)
        have y7 := own_frozen hN.o3 (k * 13 + 7)
        have y8 := own_frozen hN.o3 (k * 13 + 8)
        have y9 := own_frozen hN.o3 (k * 13 + 9)
        have y10 := own_frozen hN.o3 (k * 13 + 10)
        have y11 := own_frozen hN.o3 (k * 13 + 11)
        have y12 := own_frozen hN.o3 (k * 13 + 12)
        have hcr : ∀ i u, r.row[i]? = some u → W3.cell? ((ad.add (k * 12)).add i) = some u := fun i u hu => (hN.bel.cell (p := (ad.add (k * 12)).add i) (by rw [block_of_add, block_of_add]; exact hab)).trans ((HW.out.1.bel.cell (p := (ad.add (k * 12)).add i) (by rw [block_of_add, block_of_add]; exact hab)).symm.trans (HCR.out i u hu))
        obtain ⟨d0, d1, d2, d3, d4, d5, d6, d7, d8, d9, d10, d11⟩ := req_facts hcr
        have H4 := Lib.hid (hN.setReq r HX.out.1 HW.out.2.1.symm)
        clear hcr hN
        go_wp2_with fail
        refine HK2.out _ _ ?_
        clear HK2 K2 p0 p1 p2 p3 p4 p5 p6 p7 p8 p9 p10 p11 p12 d0 d1 d2 d3 d4 d5 d6 d7 d8 d9 d10 d11 y1 y2 y3 y4 y5 y6 y7 y8 y9 y10 y11 y12
        generalize ((((((((((((W3.setCell ⟨ge, k * 13 + 1, none⟩ (.int .i64 r.deed)).setCell ⟨ge, k * 13 + 2, none⟩ (.int .i64 r.ten)).setCell ⟨ge, k * 13 + 3, none⟩ (.int .u32 r.gen)).setCell ⟨ge, k * 13 + 4, none⟩ (.int .u8 r.rig)).setCell ⟨ge, k * 13 + 5, none⟩ (.string r.key)).setCell ⟨ge, k * 13 + 6, none⟩ (.string r.val)).setCell ⟨ge, k * 13 + 7, none⟩ (.string r.old)).setCell ⟨ge, k * 13 + 8, none⟩ (.int .i64 r.lim)).setCell ⟨ge, k * 13 + 9, none⟩ (.int .i64 r.tenant)).setCell ⟨ge, k * 13 + 10, none⟩ (.int .u64 r.qk)).setCell ⟨ge, k * 13 + 11, none⟩ (.int .u64 r.qb)).setCell ⟨ge, k * 13 + 12, none⟩ (.int .u8 r.rights)) = W4 at H4 ⊢
        clear W3
        have hkx2 : (xs.set k ⟨e.ses, r⟩)[k]? = some ⟨e.ses, r⟩ := List.getElem?_set_self hkx
        have hl2 : es.length = (xs.set k ⟨e.ses, r⟩).length := by rw [List.length_set, HW.out.2.1]
        have H5 := H4.out.set (k * 13 + 1) (.int .i64 e.r.deed) (by omega)
        rw [flat_setf (y := ⟨e.ses, ⟨e.r.deed, r.ten, r.gen, r.rig, r.key, r.val, r.old, r.lim, r.tenant, r.qk, r.qb, r.rights⟩⟩) hkx2 (by decide) rfl, List.set_set] at H5
        have q1 := (own_cells H4.out.o3 hl2 hkx2).2.1
        have y1 := own_frozen H4.out.o3 (k * 13 + 1)
        clear hkx2 hl2 H4
        by_cases hd5 : e.r.deed = 5
        · have hdb : (e.r.deed == 5) = true := beq_iff_eq.2 hd5
          have hkx2 : (xs.set k ⟨e.ses, ⟨e.r.deed, r.ten, r.gen, r.rig, r.key, r.val, r.old, r.lim, r.tenant, r.qk, r.qb, r.rights⟩⟩)[k]? = some _ := List.getElem?_set_self hkx
          have hl2 : es.length = (xs.set k ⟨e.ses, ⟨e.r.deed, r.ten, r.gen, r.rig, r.key, r.val, r.old, r.lim, r.tenant, r.qk, r.qb, r.rights⟩⟩).length := by rw [List.length_set, HW.out.2.1]
          have H6 := H5.set (k * 13 + 8) (.int .i64 e.r.lim) (by omega)
          rw [flat_setf (y := ⟨e.ses, mixR e.r r⟩) hkx2 (by decide) (by unfold mixR; rw [if_pos hd5]; rfl), List.set_set] at H6
          have q8 := (own_cells H5.o3 hl2 hkx2).2.2.2.2.2.2.2.2.1
          have y8 := own_frozen H5.o3 (k * 13 + 8)
          have HF := Lib.hid H6
          clear H5 H6 hkx2 hl2 hd5
          go_wp2_with fail
          go_roundw
          case rel =>
            refine ⟨k + 1, xs.set k ⟨e.ses, mixR e.r r⟩, by omega, by go_num, Lib.hid ⟨HF.out, by rw [List.length_set]; exact HW.out.2.1, fun b => (set_key HX.out.1 (mix_key b e r)).trans (HW.out.2.2.1 b), fun x hx => ?_⟩⟩
            rcases List.mem_or_eq_of_mem_set hx with hx | rfl
            · exact HW.out.2.2.2 x hx
            · exact mix_ok HX.out.2 HRK.out
          case measure => simp [intOf]; omega
        · have hdb : (e.r.deed == 5) = false := beq_eq_false_iff_ne.2 hd5
          have hmx : (⟨e.ses, ⟨e.r.deed, r.ten, r.gen, r.rig, r.key, r.val, r.old, r.lim, r.tenant, r.qk, r.qb, r.rights⟩⟩ : Ent) = ⟨e.ses, mixR e.r r⟩ := by unfold mixR; rw [if_neg hd5]
          rw [hmx] at H5
          have HF := Lib.hid H5
          clear H5 hmx hd5
          go_wp2_with fail
          go_roundw
          case rel =>
            refine ⟨k + 1, xs.set k ⟨e.ses, mixR e.r r⟩, by omega, by go_num, Lib.hid ⟨HF.out, by rw [List.length_set]; exact HW.out.2.1, fun b => (set_key HX.out.1 (mix_key b e r)).trans (HW.out.2.2.1 b), fun x hx => ?_⟩⟩
            rcases List.mem_or_eq_of_mem_set hx with hx | rfl
            · exact HW.out.2.2.2 x hx
            · exact mix_ok HX.out.2 HRK.out
          case measure => simp [intOf]; omega
      · go_wp2_with fail
        go_roundw
        case rel => exact ⟨k + 1, xs, by omega, by go_num, HW⟩
        case measure => simp [intOf]; omega
    · obtain rfl : k = es.length := by omega
      clear hk hlt
      go_wp2_with fail
      refine HK1.out _ _ ?_
      clear HK1
      obtain ⟨hT, hxl, hxk, hxo⟩ := HW.out
      have hbi := budM_in bn HBN.out.1
      obtain ⟨b, hbb⟩ : ∃ b, budM bn = b := ⟨_, rfl⟩
      rw [hbb] at hbi
      have hbud : ∀ W, Calls Try.prog 14 #[.int .u8 bn] W (IntEnd b W) := fun W => by rw [← hbb]; exact budget_any bn W HBN.out.1 HBN.out.2
      have hses : ∀ e ∈ es, I64 e.ses ∧ e.r.ok := fun e he => ⟨⟨by have := (HM.out.1 e he).1; omega, by have := (HM.out.1 e he).1; omega⟩, (HM.out.1 e he).2.ok⟩
      have hkeys : ∀ x ∈ xs, 0 ≤ x.ses ∧ x.ses < 4 := by
        intro x hx
        have h1 : tkey b x ∈ xs.map (tkey b) := List.mem_map_of_mem hx
        rw [hxk b] at h1
        obtain ⟨e, he, h2⟩ := List.mem_map.1 h1
        have h3 : e.ses = x.ses := congrArg Prod.fst h2
        have := (HM.out.1 e he).1
        omega
      have hsesx : ∀ e ∈ xs, I64 e.ses ∧ e.r.ok := fun e he => ⟨⟨by have := hkeys e he; omega, by have := hkeys e he; omega⟩, hxo e he⟩
      have hz : (timesM 4 b es ps).2 = 0 := times_ok 4 b es ps (by omega) (by omega) (by decide) (by omega) (fun e he => by have := (HM.out.1 e he).1; omega)
      obtain ⟨ss, hss⟩ : ∃ ss, timesM 4 b es ps = (ss, 0) := ⟨(timesM 4 b es ps).1, by rw [← hz]⟩
      have hsl : ss.length ≤ 65536 := by have := times_len 4 b es ps; rw [hss] at this; simp only at this; omega
      have hssx : timesM 4 b xs ps = (ss, 0) := by rw [times_key 4 b xs es ps (hxk b), hss]
      have hT1 : ∀ W, Below wr.heap.size wr W → Calls Try.prog 13 #[.int .i64 4, .int .i64 b, .agg #[.slice A1 es.length c1, .slice A2 ps.length c2]] W (TimesEnd (ss, 0) W) := fun W hW => by
        rw [← hss]
        exact times_any 4 b es ps A1 A2 c1 c2 W hses HM.out.2 (Reads.of_own (ownsRow_below hT.o1 hW (Nat.le_refl _))) (by rw [← irow_map]; exact Reads.of_own (ownsRow_below hT.o2 hW (Nat.le_refl _)))
      have hT2 : ∀ W, Below wr.heap.size wr W → Calls Try.prog 13 #[.int .i64 4, .int .i64 b, .agg #[.slice (some ⟨ge, 0, none⟩) es.length c3, .slice A4 ps.length c4]] W (TimesEnd (ss, 0) W) := fun W hW => by
        rw [← hssx, ← hxl]
        exact times_any 4 b xs ps (some ⟨ge, 0, none⟩) A4 c3 c4 W hsesx HM.out.2 (Reads.of_own (by rw [hxl]; exact ownsRow_below hT.o3 hW (Nat.le_refl _))) (by rw [← irow_map]; exact Reads.of_own (ownsRow_below hT.o4 hW (Nat.le_refl _)))
      have HT1 := Lib.hid hT1
      have HT2 := Lib.hid hT2
      have HBud := Lib.hid hbud
      have HT9 := Lib.hid hT
      have x0 := hT.b9.cell 0
      have x1 := hT.b9.cell 1
      simp at x0 x1
      have hb9 := hT.b9
      clear hT hxl hxk hxo hbi hbud hses hkeys hsesx hz hssx hT1 hT2 hbb hss HW HM HT HA HB HD HOK HBS HRS HBN
      refine wp_seq_k fun K2 hK2 => ?_
      have HK2 := Lib.hid hK2
      clear hK2
      go_region_held3 (fun w' => Blk w' g9 41 #[.slice A1 es.length c1, .slice A2 ps.length c2] ∧ Below wr.heap.size wr w' ∧ w'.cell? ⟨g9, 0, none⟩ = some (.slice A1 es.length c1) ∧ w'.cell? ⟨g9, 1, none⟩ = some (.slice A2 ps.length c2))
        ((refine ⟨?_, ?_, ?_, ?_⟩ <;> first | assumption | (refine Blk.drew ?_; assumption) | (exact (Below.refl _ _).drew) | (refine Below.drew ?_; assumption) | go_keep))
        (first
          | (go_at_call 14; refine (HBud.out _).mono ?_; rintro e wn ⟨rfl, hb⟩; have hH := ‹Blk _ g9 _ _ ∧ Below _ _ _ ∧ _›; have hkN := Blk.below hH.1 hb (Blk.lt hH.1); have hBN := below_trans hH.2.1 hb; have q0 := hkN.cell 0; have q1 := hkN.cell 1; simp at q0 q1)
          | (go_at_call 13; have hH := ‹Blk _ g9 _ _ ∧ Below _ _ _ ∧ _›; refine (HT1.out _ hH.2.1).mono ?_; rintro e wn ⟨v, rfl, ho, hb⟩; have hkN := Blk.below hH.1 hb (Blk.lt hH.1); have hBN := below_trans hH.2.1 hb; have q0 := hkN.cell 0; have q1 := hkN.cell 1; simp at q0 q1))
      refine HK2.out _ _ ?_
      clear HK2
      obtain ⟨A5, d5, rfl, -, -, -⟩ := own_form ho
      have hr1 := Reads.of_own ho
      have hb10 := HT9.out.b10.below hBN HT9.out.b10.lt
      have z0 := hb10.cell 0
      have z1 := hb10.cell 1
      simp at z0 z1
      have HR1 := Lib.hid (And.intro hr1 hBN)
      clear ho hr1 hb hH hkN hBN q0 q1 hb9 x0 x1
      refine wp_seq_k fun K2 hK2 => ?_
      have HK2 := Lib.hid hK2
      clear hK2
      obtain ⟨W5, rfl⟩ : ∃ W5 : World, W5 = wn := ⟨_, rfl⟩
      go_region_held3 (fun w' => Blk w' g10 41 #[.slice (some ⟨ge, 0, none⟩) es.length c3, .slice A4 ps.length c4] ∧ Below W5.heap.size W5 w' ∧ w'.cell? ⟨g10, 0, none⟩ = some (.slice (some ⟨ge, 0, none⟩) es.length c3) ∧ w'.cell? ⟨g10, 1, none⟩ = some (.slice A4 ps.length c4))
        ((refine ⟨?_, ?_, ?_, ?_⟩ <;> first | assumption | (refine Blk.drew ?_; assumption) | (exact (Below.refl _ _).drew) | (refine Below.drew ?_; assumption) | go_keep))
        (first
          | (go_at_call 14; refine (HBud.out _).mono ?_; rintro e wn ⟨rfl, hb⟩; have hH := ‹Blk _ g10 _ _ ∧ Below _ _ _ ∧ _›; have hkN := Blk.below hH.1 hb (Blk.lt hH.1); have hBN := below_trans hH.2.1 hb; have q0 := hkN.cell 0; have q1 := hkN.cell 1; simp at q0 q1)
          | (go_at_call 13; have hH := ‹Blk _ g10 _ _ ∧ Below _ _ _ ∧ _›; refine (HT2.out _ (below_trans HR1.out.2 hH.2.1)).mono ?_; rintro e wn ⟨v, rfl, ho, hb⟩; have hkN := Blk.below hH.1 hb (Blk.lt hH.1); have hBN := below_trans hH.2.1 hb; have q0 := hkN.cell 0; have q1 := hkN.cell 1; simp at q0 q1))
      refine HK2.out _ _ ?_
      clear HK2
      obtain ⟨A6, d6, rfl, -, -, -⟩ := own_form ho
      have hr2 := Reads.of_own ho
      have HR2 := Lib.hid (And.intro (HR1.out.1.below hBN) (And.intro hr2 (below_trans HT9.out.bel (below_trans HR1.out.2 hBN))))
      clear ho hr2 hb hH hkN hBN q0 q1 z0 z1 HR1
      go_wp2_with fail
      refine (spans_eq A5 A6 d5 d6 ss ss _ _ _ hsl hsl HR2.out.1 HR2.out.2.1).mono ?_
      rintro e w6 ⟨rfl, n6, rfl⟩
      have HF := Lib.hid (below_drewN HR2.out.2.2 n6)
      clear HR2 HT9 HT1 HT2 HBud
      go_wp2_with fail
      refine (awake_any _).mono ?_
      rintro e w7 ⟨rfl, hb7⟩
      have hbel := below_trans HF.out hb7
      clear hb7 HF
      go_wp2
      go_ret
      exact ⟨rfl, hbel⟩
end Go.Proofs.Ytlmehmmdbdembaa
