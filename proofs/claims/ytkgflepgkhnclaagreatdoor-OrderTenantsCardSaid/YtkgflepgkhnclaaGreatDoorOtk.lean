/-
  Layer 27: order: replay's plain laws.
  Layer 27: order: Step; replay's first loop.
  Layer 27: an alloc and a store whose worlds are letters.
  Layer 27: order: replay, a round's request and answer.
  Layer 27: order: replay, a round.
  Layer 27: order: replay, a round.
  Layer 27: order: replay, whole (for Witness).
  Layer 27: order: replay, whole (for Witness).
  Layer 27: order: Witness.
  Layer 27: order: deedsOf.
  Layer 27: contracts of the library, laid at this program (strconv: Quote, Itoa; strings.Builder's String).
  Layer 27: strconv.Itoa at small numbers, laid at this program.
-/
import Derived.Test.YtkgflepgkhnclaaGreatDoorOti
import Derived.Test.YtkgflepgkhnclaaGreatDoorOtj4
import Derived.Test.YtkgflepgkhnclaaGreatDoorOtf
import Derived.Test.YtkgflepgkhnclaaGreatDoorOta
import Derived.Shelf.Strings.Builder1
import Derived.Shelf.Strconv.Quote
import Derived.Shelf.LaysM
import Derived.Shelf.Strconv.Itoa3
namespace Go.Proofs.YtkgflepgkhnclaaGreatDoor
open Go.RowKit Go.Shelf
set_option linter.unusedVariables false
set_option linter.unusedSimpArgs false

/-- Quotas are small, and there are no tenants beyond 16. -/
def SmQ (M : Mdl) : Prop := (∀ t B, (M t).bk = some B → B.qk ≤ 1000000) ∧ ∀ t, 17 ≤ t → (M t).bk = none
theorem smQ_upd {M : Mdl} (h : SmQ M) {n : Nat} (hn : n ≤ 16) (t : Ten) (ht : ∀ B, t.bk = some B → B.qk ≤ 1000000) : SmQ (updM M n t) := by
  refine ⟨fun i B hB => ?_, fun i hi => ?_⟩
  · by_cases e : i = n
    · subst e; rw [updM_self] at hB; exact ht B hB
    · rw [updM_ne e] at hB; exact h.1 i B hB
  · rw [updM_ne (by omega)]; exact h.2 i hi
theorem smQ_do {M : Mdl} (h : SmQ M) (r : Req) (hr : r.qk ≤ 1000000) : SmQ (doN M r).1 := by
  rcases doN_fx M r with ⟨e, _⟩ | ⟨n, h1, h2, _, _, _, _, e⟩ | ⟨n, h1, h2, _, _, _, e⟩ | ⟨n, h1, h2, _, _, _, e⟩ | ⟨n, B, B', _, _, h1, h2, hb, hq, _, _, e⟩
  · rw [e]; exact h
  · rw [e]; exact smQ_upd h h2 _ (fun B hB => by injection hB with hB; rw [← hB]; exact hr)
  · rw [e]; exact smQ_upd h h2 _ (fun B hB => by cases hB)
  · rw [e]; exact smQ_upd h h2 _ (fun B hB => h.1 n B hB)
  · rw [e]; exact smQ_upd h h2 _ (fun C hC => by injection hC with hC; rw [← hC, hq]; exact h.1 n B hb)
theorem SmQ.small {M : Mdl} (h : SmQ M) {w : World} {p : Nat} {T : Ows} (hm : ModelAt w p M T) : Small M := fun t B hB => by
  have h17 : t < 17 := by
    rcases Nat.lt_or_ge t 17 with h1 | h1
    · exact h1
    · rw [h.2 t h1] at hB; cases hB
  have h3 := (hm.bk t B h17 hB).wf.nk
  have h5 := h.1 t B hB
  omega
theorem SmQ.like {M M' : Mdl} (h : SmQ M) (hl : StLike M M') : SmQ M' := ⟨fun t B hB => h.1 t B (by rw [← (hl t).2.2.2]; exact hB), fun t ht => by rw [(hl t).2.2.2]; exact h.2 t ht⟩
theorem smQ0 : SmQ mdl0 := ⟨fun t B hB => by (cases hB), fun t _ => rfl⟩
theorem good_like {M M' : Mdl} (h : StLike M M') (x : Hd) : goodN M' x = goodN M x := by
  unfold goodN
  rw [(h _).2.2.2, (h _).1]
theorem may_like {M M' : Mdl} (h : StLike M M') (r : Req) : mayM M' r = mayM M r := by
  unfold mayM
  rw [good_like h]
theorem there_like {M M' : Mdl} (h : StLike M M') (p : Nat) (r : Req) : thereM p M' r = thereM p M r := by
  unfold thereM
  rw [(h _).2.2.2]
theorem upd_like {M M' : Mdl} (h : StLike M M') (n : Nat) {t t' : Ten} (ht : t'.gen = t.gen ∧ t'.qk = t.qk ∧ t'.qb = t.qb ∧ t'.bk = t.bk) : StLike (updM M n t) (updM M' n t') := fun i => by
  by_cases e : i = n
  · subst e; rw [updM_self, updM_self]; exact ht
  · rw [updM_ne e, updM_ne e]; exact h i
/-- Statistics do not count but for Tell. -/
theorem do_like {M M' : Mdl} (h : StLike M M') (r : Req) (hd : r.deed ≠ 6) : (doN M' r).2 = (doN M r).2 ∧ StLike (doN M r).1 (doN M' r).1 := by
  unfold doN
  rw [if_neg hd, if_neg hd]
  split
  · unfold operateN
    rw [may_like h, (h _).2.2.2]
    split
    · exact ⟨rfl, h⟩
    · split
      · split
        · exact ⟨rfl, h⟩
        · rename_i B hB
          split
          · exact ⟨rfl, h⟩
          · split
            · exact ⟨rfl, upd_like h _ ⟨(h _).1, (h _).2.1, (h _).2.2.1, rfl⟩⟩
            · split
              · exact ⟨rfl, upd_like h _ ⟨(h _).1, (h _).2.1, (h _).2.2.1, rfl⟩⟩
              · split
                · exact ⟨rfl, upd_like h _ ⟨(h _).1, (h _).2.1, (h _).2.2.1, rfl⟩⟩
                · exact ⟨rfl, h⟩
      · exact ⟨rfl, h⟩
  · split
    · unfold createN
      rw [(h _).2.2.2, (h _).1]
      split
      · exact ⟨rfl, h⟩
      · split
        · exact ⟨rfl, h⟩
        · exact ⟨rfl, upd_like h _ ⟨rfl, rfl, rfl, rfl⟩⟩
    · split
      · unfold removeN
        rw [there_like h, (h _).1]
        split
        · exact ⟨rfl, upd_like h _ ⟨rfl, rfl, rfl, rfl⟩⟩
        · exact ⟨rfl, h⟩
      · split
        · unfold issueN
          rw [there_like h, (h _).1]
          split
          · exact ⟨rfl, h⟩
          · exact ⟨rfl, h⟩
        · split
          · unfold revokeN
            rw [there_like h]
            split
            · refine ⟨rfl, upd_like h _ ⟨?_, (h _).2.1, (h _).2.2.1, (h _).2.2.2⟩⟩
              dsimp only
              rw [(h _).1]
            · exact ⟨rfl, h⟩
          · exact ⟨rfl, h⟩
theorem do_st0 (M : Mdl) (r : Req) (hd : r.deed ≠ 6) : (doN M r).2.st = st0 := by
  unfold doN
  rw [if_neg hd]
  split
  · unfold operateN
    split
    · rfl
    · split
      · split
        · rfl
        · split
          · rfl
          · split
            · rfl
            · split
              · rfl
              · split <;> rfl
      · rfl
  · split
    · unfold createN; split
      · rfl
      · split <;> rfl
    · split
      · unfold removeN; split <;> rfl
      · split
        · unfold issueN; split <;> rfl
        · split
          · unfold revokeN; split <;> rfl
          · rfl
theorem scan_len (l : List Kv) (k : ByteArray) (n : Int) : (scanN l k n).1.length ≤ l.length := by
  unfold scanN
  split
  · exact Nat.zero_le _
  · split
    · exact Nat.zero_le _
    · simp only [List.length_take, List.length_drop]; omega
theorem prs_len {M : Mdl} (h : Small M) (r : Req) : (doN M r).2.prs.length ≤ 1000000 := by
  have hz : ∀ e, (errA e).prs.length ≤ 1000000 := fun e => by simp [errA]
  unfold doN
  split
  · unfold operateN
    split
    · exact Nat.zero_le _
    · split
      · split
        · exact Nat.zero_le _
        · rename_i B hB
          split
          · exact Nat.zero_le _
          · split
            · exact Nat.zero_le _
            · split
              · exact Nat.zero_le _
              · split
                · exact Nat.zero_le _
                · exact Nat.le_trans (scan_len _ _ _) (h _ B hB)
      · exact Nat.zero_le _
  · split
    · unfold tellN
      split
      · split
        · exact Nat.zero_le _
        · exact Nat.zero_le _
      · exact Nat.zero_le _
    · split
      · unfold createN; split
        · exact Nat.zero_le _
        · split <;> exact Nat.zero_le _
      · split
        · unfold removeN; split <;> exact Nat.zero_le _
        · split
          · unfold issueN; split <;> exact Nat.zero_le _
          · split
            · unfold revokeN; split <;> exact Nat.zero_le _
            · exact Nat.zero_le _
end Go.Proofs.YtkgflepgkhnclaaGreatDoor
namespace Go.Proofs.YtkgflepgkhnclaaGreatDoor
open Go.RowKit Go.Shelf
set_option linter.unusedVariables false
set_option linter.unusedSimpArgs false
attribute [local go_sem] run_store_complex

theorem StepEnd.up {b : Bool} {p : Nat} {M' : Mdl} {w W : World} {e : Ending} {w' : World} (h : StepEnd b p M' W e w') (hb : Below w.heap.size w W) : StepEnd b p M' w e w' := by
  obtain ⟨h1, h2, h3⟩ := h
  refine ⟨h1, fun h => below_trans hb (h2 h), fun h => ?_⟩
  obtain ⟨T', m, ho, hk⟩ := h3 h
  exact ⟨T', m, fun i hi => (ho i hi).imp id (fun h => Nat.le_trans hb.size h), (KeepC.of_below hb).trans hk (fun i _ h => h)⟩
set_option maxHeartbeats 1600000 in
set_option maxRecDepth 100000 in
theorem Step_m {w : World} {p : Nat} {M M' : Mdl} {T : Ows} (hm : ModelAt w p M T) (hsm : Small M) (r : Req) (hr : r.ok) (e1 e2 : Int) (v1 v2 : ByteArray) (l1 l2 : List Kv) (h1 h2 : Hd) (A1 : Option Addr) (c1 W1 : Nat) (hl1 : l1.length ≤ 1000000) (hl2 : l2.length ≤ 1000000) (hA : Reads w W1 2 A1 l1.length (l1.flatMap pairR)) (hW1 : W1 ≤ w.heap.size)
    (hw : doN M r = (M', ⟨e2, v2, l2, h2, st0⟩)) (he : e1 ≠ 13 ∧ e1 ≠ 14) :
    Calls Tryz.prog 22 #[.pointer (some ⟨p, 0, none⟩), r.v, .agg #[.int .i64 e1, .string v1, .slice A1 l1.length c1, .int .i64 h1.t, .int .u32 h1.g, .int .u8 h1.r, .int .u64 0, .int .u64 0, .int .u64 0, .int .u64 0, .int .u64 0, .int .u64 0, .int .u64 0, .int .u64 0, .int .u64 0, .int .u64 0, .complex .f64 0 0]] w (StepEnd (stepB r e1 e2 v1 v2 l1 l2 h1 h2) p M' w) := by
  have hb1 : Below w.heap.size w ((w.alloc (.cells r.row.toArray 39)).alloc (.cells #[.int .i64 e1, .string v1, .slice A1 l1.length c1, .int .i64 h1.t, .int .u32 h1.g, .int .u8 h1.r, .int .u64 0, .int .u64 0, .int .u64 0, .int .u64 0, .int .u64 0, .int .u64 0, .int .u64 0, .int .u64 0, .int .u64 0, .int .u64 0, .complex .f64 0 0] 52)) := below_alloc (below_box _ _) _
  have hS := (step_any (hm.below hb1) hsm r hr e1 e2 v1 v2 l1 l2 h1 h2 A1 c1 W1 hl1 hl2 (hA.keep fun q hq => hb1.cell (by omega)) (Nat.le_trans hW1 hb1.size) hw he true)
  have HS := Lib.hid hS
  have HB := Lib.hid hb1
  unfold Req.v Req.row at HS
  unfold Req.row at HB
  unfold Req.v
  clear hS hb1 hm hA hw
  go_enter Tryz.func22, Tryz.ntmps22
  go_wp2_with fail
  refine HS.out.mono ?_
  intro e w1 h
  have HE := Lib.hid (h.up HB.out)
  obtain ⟨rfl, -⟩ := h
  go_wp2_with fail
  go_ret
  exact HE.out
/-- The moments of Dones. -/
def mosN (ds : List Dn) : List Mo := ds.zipIdx.flatMap fun p => [⟨p.1.a, p.2, false⟩, ⟨p.1.t, p.2, true⟩]
theorem mosN_len (ds : List Dn) : (mosN ds).length = 2 * ds.length := by
  unfold mosN
  rw [List.length_flatMap]
  have : ∀ l : List (Dn × Nat), (l.map fun p => ([⟨p.1.a, p.2, false⟩, ⟨p.1.t, p.2, true⟩] : List Mo).length).sum = 2 * l.length := by
    intro l
    induction l with
    | nil => rfl
    | cons x r ih => rw [List.map_cons, List.sum_cons, ih]; simp; omega
  rw [this, List.length_zipIdx]
theorem mosN_snoc (ds : List Dn) (x : Dn) : mosN (ds ++ [x]) = mosN ds ++ [⟨x.a, ds.length, false⟩, ⟨x.t, ds.length, true⟩] := by
  unfold mosN
  rw [List.zipIdx_append, List.flatMap_append]
  simp
theorem infoMo : (Tryz.prog.info? 204).map (fun i => (i.zero, i.size, i.bytes)) = some (some (.agg #[.int .i64 0, .int .i64 0, .bool false]), 3, 24) := by kernel_rfl
set_option maxHeartbeats 3200000 in
set_option maxRecDepth 100000 in
theorem rp_first {w : World} {D : Option Addr} {ds : List Dn} {c2 : Nat} {u0 u2 u3 u4 u5 u6 u8 u9 u10 u11 u12 u13 u14 u15 u16 u17 u18 u19 u20 u21 u22 u23 u24 u25 u26 u27 u28 u29 u30 u31 u32 u33 u34 u35 u36 u37 u38 u39 u40 u41 u42 u43 u44 u45 u46 u47 u48 u49 u50 u51 u52 u53 u54 u55 u56 u57 u58 u59 u60 u61 u62 u63 u64 u65 u66 u67 u68 u69 u70 u71 u72 u73 u74 u75 u76 u77 u78 u79 u80 : Value} {Q : Exit → Act → World → Prop} (hD : DsAt w D ds) (hl : ds.length ≤ 1000000)
    (hQ : ∀ (s8 s9 s15 s16 s17 s18 s19 s20 s21 s22 s23 s24 s25 s26 s27 s28 s29 s30 s31 s32 s33 : Value) (v : Value) (W' : World), W'.ownsRow w.heap.size 204 3 v (2 * ds.length) ((mosN ds).flatMap Mo.row) → Below w.heap.size w W' → Q .normal ⟨#[u0, .slice D ds.length c2, u2, u3, u4, u5, u6, v, s8, s9, u10, u11, u12, u13, u14, s15, s16, s17, s18, s19, s20, s21, s22, s23, s24, s25, s26, s27, s28, s29, s30, s31, s32, s33, u34, u35, u36, u37, u38, u39, u40, u41, u42, u43, u44, u45, u46, u47, u48, u49, u50, u51, u52, u53, u54, u55, u56, u57, u58, u59, u60, u61, u62, u63, u64, u65, u66, u67, u68, u69, u70, u71, u72, u73, u74, u75, u76, u77, u78, u79, u80], []⟩ W') :
    Code.wp Tryz.prog (part Tryz.f76 [1, 1, 0]) Q ⟨#[u0, .slice D ds.length c2, u2, u3, u4, u5, u6, .slice none 0 0, u8, u9, u10, u11, u12, u13, u14, u15, u16, u17, u18, u19, u20, u21, u22, u23, u24, u25, u26, u27, u28, u29, u30, u31, u32, u33, u34, u35, u36, u37, u38, u39, u40, u41, u42, u43, u44, u45, u46, u47, u48, u49, u50, u51, u52, u53, u54, u55, u56, u57, u58, u59, u60, u61, u62, u63, u64, u65, u66, u67, u68, u69, u70, u71, u72, u73, u74, u75, u76, u77, u78, u79, u80], []⟩ w := by
  conv => arg 2; whnf
  have HQ := Lib.hid hQ
  have HD := Lib.hid hD
  have hli : (ds.length : Int) ≤ 1000000 := by omega
  obtain ⟨i0, hi0, iz0, iz1, iz2⟩ := info_parts infoMo
  clear hQ hD
  go_wp2
  go_loopw [7, 17] (fun v i wr => ∃ k : Nat, k ≤ ds.length ∧ i = .int .i64 k ∧ Hid (wr.ownsRow w.heap.size 204 3 v (2 * k) ((mosN (ds.take k)).flatMap Mo.row) ∧ Below w.heap.size w wr)) (fun _ i _ => ds.length - (intOf i).toNat)
  case atStart => exact ⟨0, Nat.zero_le _, rfl, Lib.hid ⟨⟨by simp [mosN], .inl ⟨rfl, rfl⟩⟩, Below.refl _ _⟩⟩
  case round =>
    obtain ⟨k, hk, rfl, HW⟩ := hrel
    by_cases hlt : k < ds.length
    · obtain ⟨g, o, rfl, hgl, hrng⟩ := (HD.out.below HW.out.2).at_ hlt
      have htk : mosN (ds.take (k + 1)) = _ := (congrArg mosN (List.take_succ_eq_append_getElem hlt)).trans (mosN_snoc (ds.take k) ds[k])
      rw [List.length_take, Nat.min_eq_left hk] at htk
      generalize ds[k] = x at hrng htk
      have HT := Lib.hid htk
      have hrow1 : x.row.toArray.all (·.oneCell') = true := all_oneCell_toArray (dn_one x)
      have hst := stored_new (w := wr) (t := 90) (lit := #[.int .i64 0, .int .i64 0, .int .i64 0, .int .i64 0, .int .i64 0, .string ⟨#[]⟩, .slice none 0 0, .int .i64 0, .int .u32 0, .int .u8 0, .int .u64 0, .int .u64 0, .int .u64 0, .int .u64 0, .int .u64 0, .int .u64 0, .int .u64 0, .int .u64 0, .int .u64 0, .int .u64 0, .complex .f64 0 0]) (cells := x.row.toArray) rfl
      obtain ⟨l, hlr⟩ : ∃ l, x.row = l := ⟨_, rfl⟩
      have hll : l.length = 21 := by rw [← hlr]; rfl
      have hsz : l.toArray.size = 21 := by rw [List.size_toArray]; exact hll
      rw [hlr] at hrng hrow1 hst
      have HL := Lib.hid hlr
      have i1 : (0 : Int) ≤ (k : Int) := by omega
      have i2 : (k : Int) < (ds.length : Int) := by omega
      have hX0 := And.intro hst.1 (And.intro (ownsRow_below HW.out.1 hst.2 (Nat.le_refl _)) (And.intro (below_trans HW.out.2 hst.2) hst.2.size))
      rw [show l.toArray.toList = l from rfl] at hX0
      have HX1 := Lib.hid hX0
      clear htk hgl hst hlr hX0
      go_upto_region 5 with (first
        | (refine wpList_load_mid rfl 90 (.tmp 20) rfl g (o + k * 21) rfl _ _ hrng Tryz.underlying90 rfl (by rw [hll]; exact infoDn) ?_)
        | (refine wpList_store_mid rfl 90 (.tmp 9) (.tmp 21) rfl wr.heap.size 0 l.toArray rfl rfl (by rw [hsz]; exact there_blk (Blk.new wr 90 #[.int .i64 0, .int .i64 0, .int .i64 0, .int .i64 0, .int .i64 0, .string ⟨#[]⟩, .slice none 0 0, .int .i64 0, .int .u32 0, .int .u8 0, .int .u64 0, .int .u64 0, .int .u64 0, .int .u64 0, .int .u64 0, .int .u64 0, .int .u64 0, .int .u64 0, .int .u64 0, .int .u64 0, .complex .f64 0 0]) (Nat.le_refl 21)) (by rw [hsz]; exact infoDn) hrow1 ?_))
      clear hrng
      generalize (wr.alloc (.cells #[.int .i64 0, .int .i64 0, .int .i64 0, .int .i64 0, .int .i64 0, .string ⟨#[]⟩, .slice none 0 0, .int .i64 0, .int .u32 0, .int .u8 0, .int .u64 0, .int .u64 0, .int .u64 0, .int .u64 0, .int .u64 0, .int .u64 0, .int .u64 0, .int .u64 0, .int .u64 0, .int .u64 0, .complex .f64 0 0] 90)).setCells wr.heap.size 0 l = W0 at HX1 ⊢
      have hb0 : Blk W0 wr.heap.size 90 x.row.toArray := by rw [HL.out]; exact HX1.out.1
      have HX := Lib.hid HX1.out.2
      clear HX1
      obtain ⟨c0, c1, c2', c3⟩ := dn_cells hb0
      clear hb0
      have hs0 := HX.out.2.2
      go_wp2_with (first
        | (at_builtin
           refine wpList_append_any _ rfl (.tmp 22) (.tmp 31) _ rfl w.heap.size 204 i0 _ 3 24 Tryz.underlying202 hi0 iz0 iz1 iz2 rfl (by omega) u7 (2 * k) ((mosN (ds.take k)).flatMap Mo.row) rfl
             (HX.out.1.alloc _) _ (some ⟨W0.heap.size, 0, none⟩) 2 2 [.int .i64 x.a, .int .i64 (k : Nat), .bool false, .int .i64 x.t, .int .i64 (k : Nat), .bool true] rfl (reads_of_blk (Blk.new W0 _ _) rfl rfl) (by simp [Value.oneCell']) (by unfold maxLen; omega) (by omega) (by have := HX.out.2.1.size; simp; omega) ?_
           intro v2 w2 hown2 hg2 hat2
           have hbel2 : Below w.heap.size w w2 := below_app (below_alloc HX.out.2.1 _) (HX.out.1.alloc _) hg2 (Nat.le_refl _) (by have := HX.out.2.1.size; simp; omega)))
      clear hg2 hat2
      go_roundw
      case rel =>
        refine ⟨k + 1, by omega, by go_num, Lib.hid ⟨?_, hbel2⟩⟩
        rw [HT.out, List.flatMap_append]
        exact hown2
      case measure => simp [intOf]; omega
    · obtain rfl : k = ds.length := by omega
      rw [List.take_length] at HW
      go_wp2
      exact HQ.out _ _ _ _ _ _ _ _ _ _ _ _ _ _ _ _ _ _ _ _ _ _ _ HW.out.1 HW.out.2
end Go.Proofs.YtkgflepgkhnclaaGreatDoor
namespace Go.Proofs.YtkgflepgkhnclaaGreatDoor
open Go.RowKit Go.Shelf
set_option linter.unusedVariables false
set_option linter.unusedSimpArgs false

theorem wp_alloc_abs {P : Program} {op : Oper} {a : Act} {w : World} {K : Act → World → Prop} {Q : Exit → Act → World → Prop} (t : TypeId) (Z : Array Value) (hop : op.op = .alloc t) (hz : ∀ w, (zeroValue t).run P w = .ok (.agg Z) w) 
    (h : ∀ V, Below w.heap.size w V → Blk V w.heap.size t Z → K (a.put op.dst (.pointer (some ⟨w.heap.size, 0, none⟩))) V) : op.wp P a w K Q := by
  unfold Oper.wp
  simp [execOp, hop, Instr.alloc, hz, Result.andThen, newVar, newRow, Value.cells]
  exact h _ (below_box _ _) (Blk.new _ _ _)
theorem wp_store_abs {P : Program} {op : Oper} {a : Act} {w : World} {K : Act → World → Prop} {Q : Exit → Act → World → Prop} (ty : TypeId) (x y : Operand) (ho : op.op = .store ty x y) (b : Nat) (cs cells : Array Value) (hx : a.eval x = .pointer (some ⟨b, 0, none⟩)) (hy : a.eval y = .agg cells)
    (hb : Blk w b ty cs) (hs : cs.size = cells.size) (hi : (P.info? ty).map (·.size) = some cells.size) (h1 : cells.all (·.oneCell') = true)
    (h : ∀ V, Blk V b ty cells → (∀ i, i ≠ b → V.heap[i]? = w.heap[i]?) → (∀ B W, B ≤ b → Below B W w → Below B W V) → K (a.put op.dst undef) V) : op.wp P a w K Q :=
  wp_store_mid ty x y ho b 0 cells hx hy (there_blk hb (by omega)) hi h1 (h _ (blk_setAll hb hs) (fun i hi => (sets_same b _ 0 w).2.2.2.2 i hi) (fun B W hB hW => below_sets b hB _ _ _ hW))
end Go.Proofs.YtkgflepgkhnclaaGreatDoor
namespace Go.Proofs.YtkgflepgkhnclaaGreatDoor
open Go.RowKit Go.Shelf
set_option linter.unusedVariables false
set_option linter.unusedSimpArgs false
attribute [local go_sem] run_store_complex

theorem infoReq : (Tryz.prog.info? 39).map (·.size) = some 12 := by kernel_rfl
theorem rp_keep {W V V' : World} {gx gd ge od oe i j : Nat} {x : Dn} {r : Req} (h : Below W.heap.size W V ∧ V.cell? ⟨gx, 1, none⟩ = some (.int .i64 (i : Nat)) ∧ V.cell? ⟨gd, od + i * 21, none⟩ = some (.int .i64 (j : Nat)) ∧ V.cell? ⟨gd, od + i * 21 + 4, none⟩ = some (.int .i64 x.err) ∧ V.cell? ⟨gd, od + i * 21 + 5, none⟩ = some (.string x.val) ∧ V.cell? ⟨gd, od + i * 21 + 6, none⟩ = some (.slice x.pA x.pn x.pc) ∧ V.cell? ⟨gd, od + i * 21 + 7, none⟩ = some (.int .i64 x.h.t) ∧ V.cell? ⟨gd, od + i * 21 + 8, none⟩ = some (.int .u32 x.h.g) ∧ V.cell? ⟨gd, od + i * 21 + 9, none⟩ = some (.int .u8 x.h.r) ∧ V.cell? ⟨gd, od + i * 21 + 10, none⟩ = some (.int .u64 x.s0) ∧ V.cell? ⟨gd, od + i * 21 + 11, none⟩ = some (.int .u64 x.s1) ∧ V.cell? ⟨gd, od + i * 21 + 12, none⟩ = some (.int .u64 x.s2) ∧ V.cell? ⟨gd, od + i * 21 + 13, none⟩ = some (.int .u64 x.s3) ∧ V.cell? ⟨gd, od + i * 21 + 14, none⟩ = some (.int .u64 x.s4) ∧ V.cell? ⟨gd, od + i * 21 + 15, none⟩ = some (.int .u64 x.s5) ∧ V.cell? ⟨gd, od + i * 21 + 16, none⟩ = some (.int .u64 x.s6) ∧ V.cell? ⟨gd, od + i * 21 + 17, none⟩ = some (.int .u64 x.s7) ∧ V.cell? ⟨gd, od + i * 21 + 18, none⟩ = some (.int .u64 x.s8) ∧ V.cell? ⟨gd, od + i * 21 + 19, none⟩ = some (.int .u64 x.s9) ∧ V.cell? ⟨gd, od + i * 21 + 20, none⟩ = some (.complex .f64 x.la x.lb) ∧ V.cell? ⟨ge, oe + j * 13 + 1, none⟩ = some (.int .i64 r.deed) ∧ V.cell? ⟨ge, oe + j * 13 + 2, none⟩ = some (.int .i64 r.ten) ∧ V.cell? ⟨ge, oe + j * 13 + 3, none⟩ = some (.int .u32 r.gen) ∧ V.cell? ⟨ge, oe + j * 13 + 4, none⟩ = some (.int .u8 r.rig) ∧ V.cell? ⟨ge, oe + j * 13 + 5, none⟩ = some (.string r.key) ∧ V.cell? ⟨ge, oe + j * 13 + 6, none⟩ = some (.string r.val) ∧ V.cell? ⟨ge, oe + j * 13 + 7, none⟩ = some (.string r.old) ∧ V.cell? ⟨ge, oe + j * 13 + 8, none⟩ = some (.int .i64 r.lim) ∧ V.cell? ⟨ge, oe + j * 13 + 9, none⟩ = some (.int .i64 r.tenant) ∧ V.cell? ⟨ge, oe + j * 13 + 10, none⟩ = some (.int .u64 r.qk) ∧ V.cell? ⟨ge, oe + j * 13 + 11, none⟩ = some (.int .u64 r.qb) ∧ V.cell? ⟨ge, oe + j * 13 + 12, none⟩ = some (.int .u8 r.rights)) (hc : ∀ y : Addr, y.block < W.heap.size → V'.cell? y = V.cell? y) (hb : Below W.heap.size W V') (lx : gx < W.heap.size) (ld : gd < W.heap.size) (le : ge < W.heap.size) : Below W.heap.size W V' ∧ V'.cell? ⟨gx, 1, none⟩ = some (.int .i64 (i : Nat)) ∧ V'.cell? ⟨gd, od + i * 21, none⟩ = some (.int .i64 (j : Nat)) ∧ V'.cell? ⟨gd, od + i * 21 + 4, none⟩ = some (.int .i64 x.err) ∧ V'.cell? ⟨gd, od + i * 21 + 5, none⟩ = some (.string x.val) ∧ V'.cell? ⟨gd, od + i * 21 + 6, none⟩ = some (.slice x.pA x.pn x.pc) ∧ V'.cell? ⟨gd, od + i * 21 + 7, none⟩ = some (.int .i64 x.h.t) ∧ V'.cell? ⟨gd, od + i * 21 + 8, none⟩ = some (.int .u32 x.h.g) ∧ V'.cell? ⟨gd, od + i * 21 + 9, none⟩ = some (.int .u8 x.h.r) ∧ V'.cell? ⟨gd, od + i * 21 + 10, none⟩ = some (.int .u64 x.s0) ∧ V'.cell? ⟨gd, od + i * 21 + 11, none⟩ = some (.int .u64 x.s1) ∧ V'.cell? ⟨gd, od + i * 21 + 12, none⟩ = some (.int .u64 x.s2) ∧ V'.cell? ⟨gd, od + i * 21 + 13, none⟩ = some (.int .u64 x.s3) ∧ V'.cell? ⟨gd, od + i * 21 + 14, none⟩ = some (.int .u64 x.s4) ∧ V'.cell? ⟨gd, od + i * 21 + 15, none⟩ = some (.int .u64 x.s5) ∧ V'.cell? ⟨gd, od + i * 21 + 16, none⟩ = some (.int .u64 x.s6) ∧ V'.cell? ⟨gd, od + i * 21 + 17, none⟩ = some (.int .u64 x.s7) ∧ V'.cell? ⟨gd, od + i * 21 + 18, none⟩ = some (.int .u64 x.s8) ∧ V'.cell? ⟨gd, od + i * 21 + 19, none⟩ = some (.int .u64 x.s9) ∧ V'.cell? ⟨gd, od + i * 21 + 20, none⟩ = some (.complex .f64 x.la x.lb) ∧ V'.cell? ⟨ge, oe + j * 13 + 1, none⟩ = some (.int .i64 r.deed) ∧ V'.cell? ⟨ge, oe + j * 13 + 2, none⟩ = some (.int .i64 r.ten) ∧ V'.cell? ⟨ge, oe + j * 13 + 3, none⟩ = some (.int .u32 r.gen) ∧ V'.cell? ⟨ge, oe + j * 13 + 4, none⟩ = some (.int .u8 r.rig) ∧ V'.cell? ⟨ge, oe + j * 13 + 5, none⟩ = some (.string r.key) ∧ V'.cell? ⟨ge, oe + j * 13 + 6, none⟩ = some (.string r.val) ∧ V'.cell? ⟨ge, oe + j * 13 + 7, none⟩ = some (.string r.old) ∧ V'.cell? ⟨ge, oe + j * 13 + 8, none⟩ = some (.int .i64 r.lim) ∧ V'.cell? ⟨ge, oe + j * 13 + 9, none⟩ = some (.int .i64 r.tenant) ∧ V'.cell? ⟨ge, oe + j * 13 + 10, none⟩ = some (.int .u64 r.qk) ∧ V'.cell? ⟨ge, oe + j * 13 + 11, none⟩ = some (.int .u64 r.qb) ∧ V'.cell? ⟨ge, oe + j * 13 + 12, none⟩ = some (.int .u8 r.rights) :=
  ⟨hb, (hc _ lx).trans h.2.1, (hc _ ld).trans h.2.2.1, (hc _ ld).trans h.2.2.2.1, (hc _ ld).trans h.2.2.2.2.1, (hc _ ld).trans h.2.2.2.2.2.1, (hc _ ld).trans h.2.2.2.2.2.2.1, (hc _ ld).trans h.2.2.2.2.2.2.2.1, (hc _ ld).trans h.2.2.2.2.2.2.2.2.1, (hc _ ld).trans h.2.2.2.2.2.2.2.2.2.1, (hc _ ld).trans h.2.2.2.2.2.2.2.2.2.2.1, (hc _ ld).trans h.2.2.2.2.2.2.2.2.2.2.2.1, (hc _ ld).trans h.2.2.2.2.2.2.2.2.2.2.2.2.1, (hc _ ld).trans h.2.2.2.2.2.2.2.2.2.2.2.2.2.1, (hc _ ld).trans h.2.2.2.2.2.2.2.2.2.2.2.2.2.2.1, (hc _ ld).trans h.2.2.2.2.2.2.2.2.2.2.2.2.2.2.2.1, (hc _ ld).trans h.2.2.2.2.2.2.2.2.2.2.2.2.2.2.2.2.1, (hc _ ld).trans h.2.2.2.2.2.2.2.2.2.2.2.2.2.2.2.2.2.1, (hc _ ld).trans h.2.2.2.2.2.2.2.2.2.2.2.2.2.2.2.2.2.2.1, (hc _ ld).trans h.2.2.2.2.2.2.2.2.2.2.2.2.2.2.2.2.2.2.2.1, (hc _ le).trans h.2.2.2.2.2.2.2.2.2.2.2.2.2.2.2.2.2.2.2.2.1, (hc _ le).trans h.2.2.2.2.2.2.2.2.2.2.2.2.2.2.2.2.2.2.2.2.2.1, (hc _ le).trans h.2.2.2.2.2.2.2.2.2.2.2.2.2.2.2.2.2.2.2.2.2.2.1, (hc _ le).trans h.2.2.2.2.2.2.2.2.2.2.2.2.2.2.2.2.2.2.2.2.2.2.2.1, (hc _ le).trans h.2.2.2.2.2.2.2.2.2.2.2.2.2.2.2.2.2.2.2.2.2.2.2.2.1, (hc _ le).trans h.2.2.2.2.2.2.2.2.2.2.2.2.2.2.2.2.2.2.2.2.2.2.2.2.2.1, (hc _ le).trans h.2.2.2.2.2.2.2.2.2.2.2.2.2.2.2.2.2.2.2.2.2.2.2.2.2.2.1, (hc _ le).trans h.2.2.2.2.2.2.2.2.2.2.2.2.2.2.2.2.2.2.2.2.2.2.2.2.2.2.2.1, (hc _ le).trans h.2.2.2.2.2.2.2.2.2.2.2.2.2.2.2.2.2.2.2.2.2.2.2.2.2.2.2.2.1, (hc _ le).trans h.2.2.2.2.2.2.2.2.2.2.2.2.2.2.2.2.2.2.2.2.2.2.2.2.2.2.2.2.2.1, (hc _ le).trans h.2.2.2.2.2.2.2.2.2.2.2.2.2.2.2.2.2.2.2.2.2.2.2.2.2.2.2.2.2.2.1, (hc _ le).trans h.2.2.2.2.2.2.2.2.2.2.2.2.2.2.2.2.2.2.2.2.2.2.2.2.2.2.2.2.2.2.2⟩
set_option maxHeartbeats 6400000 in
set_option maxRecDepth 100000 in
theorem rp_load {W : World} {gx gd ge od oe i j ne nd ce cd : Nat} {x : Dn} {r : Req} {u2 u3 u4 u5 u6 u7 u8 u9 u10 u11 u13 u14 u15 u16 u17 u18 u19 u20 u21 u22 u23 u24 u25 u26 u27 u28 u29 u30 u31 u32 u33 u34 u35 u36 u37 u38 u39 u40 u41 u42 u43 u44 u45 u46 u47 u48 u49 u50 u51 u52 u53 u54 u55 u56 u57 u58 u59 u60 u61 u62 u63 u64 u65 u66 u67 u68 u69 u70 u71 u72 u73 u74 u75 u76 u77 u78 u79 u80 : Value} {Q : Exit → Act → World → Prop} (hS : W.cell? ⟨gx, 1, none⟩ = some (.int .i64 (i : Nat)) ∧ W.cell? ⟨gd, od + i * 21, none⟩ = some (.int .i64 (j : Nat)) ∧ W.cell? ⟨gd, od + i * 21 + 4, none⟩ = some (.int .i64 x.err) ∧ W.cell? ⟨gd, od + i * 21 + 5, none⟩ = some (.string x.val) ∧ W.cell? ⟨gd, od + i * 21 + 6, none⟩ = some (.slice x.pA x.pn x.pc) ∧ W.cell? ⟨gd, od + i * 21 + 7, none⟩ = some (.int .i64 x.h.t) ∧ W.cell? ⟨gd, od + i * 21 + 8, none⟩ = some (.int .u32 x.h.g) ∧ W.cell? ⟨gd, od + i * 21 + 9, none⟩ = some (.int .u8 x.h.r) ∧ W.cell? ⟨gd, od + i * 21 + 10, none⟩ = some (.int .u64 x.s0) ∧ W.cell? ⟨gd, od + i * 21 + 11, none⟩ = some (.int .u64 x.s1) ∧ W.cell? ⟨gd, od + i * 21 + 12, none⟩ = some (.int .u64 x.s2) ∧ W.cell? ⟨gd, od + i * 21 + 13, none⟩ = some (.int .u64 x.s3) ∧ W.cell? ⟨gd, od + i * 21 + 14, none⟩ = some (.int .u64 x.s4) ∧ W.cell? ⟨gd, od + i * 21 + 15, none⟩ = some (.int .u64 x.s5) ∧ W.cell? ⟨gd, od + i * 21 + 16, none⟩ = some (.int .u64 x.s6) ∧ W.cell? ⟨gd, od + i * 21 + 17, none⟩ = some (.int .u64 x.s7) ∧ W.cell? ⟨gd, od + i * 21 + 18, none⟩ = some (.int .u64 x.s8) ∧ W.cell? ⟨gd, od + i * 21 + 19, none⟩ = some (.int .u64 x.s9) ∧ W.cell? ⟨gd, od + i * 21 + 20, none⟩ = some (.complex .f64 x.la x.lb) ∧ W.cell? ⟨ge, oe + j * 13 + 1, none⟩ = some (.int .i64 r.deed) ∧ W.cell? ⟨ge, oe + j * 13 + 2, none⟩ = some (.int .i64 r.ten) ∧ W.cell? ⟨ge, oe + j * 13 + 3, none⟩ = some (.int .u32 r.gen) ∧ W.cell? ⟨ge, oe + j * 13 + 4, none⟩ = some (.int .u8 r.rig) ∧ W.cell? ⟨ge, oe + j * 13 + 5, none⟩ = some (.string r.key) ∧ W.cell? ⟨ge, oe + j * 13 + 6, none⟩ = some (.string r.val) ∧ W.cell? ⟨ge, oe + j * 13 + 7, none⟩ = some (.string r.old) ∧ W.cell? ⟨ge, oe + j * 13 + 8, none⟩ = some (.int .i64 r.lim) ∧ W.cell? ⟨ge, oe + j * 13 + 9, none⟩ = some (.int .i64 r.tenant) ∧ W.cell? ⟨ge, oe + j * 13 + 10, none⟩ = some (.int .u64 r.qk) ∧ W.cell? ⟨ge, oe + j * 13 + 11, none⟩ = some (.int .u64 r.qb) ∧ W.cell? ⟨ge, oe + j * 13 + 12, none⟩ = some (.int .u8 r.rights)) (lx : gx < W.heap.size) (ld : gd < W.heap.size) (le : ge < W.heap.size) (hi : i < nd) (hj : j < ne)
    (hQ : ∀ (s43 s44 s45 s46 s47 s48 s49 s50 s51 s52 s53 s54 s55 s56 s57 s58 : Value) (b13 b14 : Nat) (W' : World), Blk W' b13 39 r.row.toArray → Blk W' b14 52 x.ans.toArray → Below W.heap.size W W' → Q .normal ⟨#[.slice (some ⟨ge, oe, none⟩) ne ce, .slice (some ⟨gd, od, none⟩) nd cd, u2, u3, u4, u5, u6, u7, u8, u9, u10, u11, .pointer (some ⟨gx, 0, none⟩), .pointer (some ⟨b13, 0, none⟩), .pointer (some ⟨b14, 0, none⟩), u15, u16, u17, u18, u19, u20, u21, u22, u23, u24, u25, u26, u27, u28, u29, u30, u31, u32, u33, u34, u35, u36, u37, u38, u39, u40, u41, u42, s43, s44, s45, s46, s47, s48, s49, s50, s51, s52, s53, s54, s55, s56, s57, s58, u59, u60, u61, u62, u63, u64, u65, u66, u67, u68, u69, u70, u71, u72, u73, u74, u75, u76, u77, u78, u79, u80], []⟩ W') :
    Code.wp Tryz.prog (part Tryz.f76 [1, 1, 1, 1, 1, 0, 1, 2, 2, 1, 1, 0, 2, 1, 0]) Q ⟨#[.slice (some ⟨ge, oe, none⟩) ne ce, .slice (some ⟨gd, od, none⟩) nd cd, u2, u3, u4, u5, u6, u7, u8, u9, u10, u11, .pointer (some ⟨gx, 0, none⟩), u13, u14, u15, u16, u17, u18, u19, u20, u21, u22, u23, u24, u25, u26, u27, u28, u29, u30, u31, u32, u33, u34, u35, u36, u37, u38, u39, u40, u41, u42, u43, u44, u45, u46, u47, u48, u49, u50, u51, u52, u53, u54, u55, u56, u57, u58, u59, u60, u61, u62, u63, u64, u65, u66, u67, u68, u69, u70, u71, u72, u73, u74, u75, u76, u77, u78, u79, u80], []⟩ W := by
  conv => arg 2; whnf
  have HQ := Lib.hid hQ
  have i1 : (0 : Int) ≤ (i : Int) := by omega
  have i2 : (i : Int) < (nd : Int) := by omega
  have j1 : (0 : Int) ≤ (j : Int) := by omega
  have j2 : (j : Int) < (ne : Int) := by omega
  have H0 : Below W.heap.size W W.drew ∧ W.drew.cell? ⟨gx, 1, none⟩ = some (.int .i64 (i : Nat)) ∧ W.drew.cell? ⟨gd, od + i * 21, none⟩ = some (.int .i64 (j : Nat)) ∧ W.drew.cell? ⟨gd, od + i * 21 + 4, none⟩ = some (.int .i64 x.err) ∧ W.drew.cell? ⟨gd, od + i * 21 + 5, none⟩ = some (.string x.val) ∧ W.drew.cell? ⟨gd, od + i * 21 + 6, none⟩ = some (.slice x.pA x.pn x.pc) ∧ W.drew.cell? ⟨gd, od + i * 21 + 7, none⟩ = some (.int .i64 x.h.t) ∧ W.drew.cell? ⟨gd, od + i * 21 + 8, none⟩ = some (.int .u32 x.h.g) ∧ W.drew.cell? ⟨gd, od + i * 21 + 9, none⟩ = some (.int .u8 x.h.r) ∧ W.drew.cell? ⟨gd, od + i * 21 + 10, none⟩ = some (.int .u64 x.s0) ∧ W.drew.cell? ⟨gd, od + i * 21 + 11, none⟩ = some (.int .u64 x.s1) ∧ W.drew.cell? ⟨gd, od + i * 21 + 12, none⟩ = some (.int .u64 x.s2) ∧ W.drew.cell? ⟨gd, od + i * 21 + 13, none⟩ = some (.int .u64 x.s3) ∧ W.drew.cell? ⟨gd, od + i * 21 + 14, none⟩ = some (.int .u64 x.s4) ∧ W.drew.cell? ⟨gd, od + i * 21 + 15, none⟩ = some (.int .u64 x.s5) ∧ W.drew.cell? ⟨gd, od + i * 21 + 16, none⟩ = some (.int .u64 x.s6) ∧ W.drew.cell? ⟨gd, od + i * 21 + 17, none⟩ = some (.int .u64 x.s7) ∧ W.drew.cell? ⟨gd, od + i * 21 + 18, none⟩ = some (.int .u64 x.s8) ∧ W.drew.cell? ⟨gd, od + i * 21 + 19, none⟩ = some (.int .u64 x.s9) ∧ W.drew.cell? ⟨gd, od + i * 21 + 20, none⟩ = some (.complex .f64 x.la x.lb) ∧ W.drew.cell? ⟨ge, oe + j * 13 + 1, none⟩ = some (.int .i64 r.deed) ∧ W.drew.cell? ⟨ge, oe + j * 13 + 2, none⟩ = some (.int .i64 r.ten) ∧ W.drew.cell? ⟨ge, oe + j * 13 + 3, none⟩ = some (.int .u32 r.gen) ∧ W.drew.cell? ⟨ge, oe + j * 13 + 4, none⟩ = some (.int .u8 r.rig) ∧ W.drew.cell? ⟨ge, oe + j * 13 + 5, none⟩ = some (.string r.key) ∧ W.drew.cell? ⟨ge, oe + j * 13 + 6, none⟩ = some (.string r.val) ∧ W.drew.cell? ⟨ge, oe + j * 13 + 7, none⟩ = some (.string r.old) ∧ W.drew.cell? ⟨ge, oe + j * 13 + 8, none⟩ = some (.int .i64 r.lim) ∧ W.drew.cell? ⟨ge, oe + j * 13 + 9, none⟩ = some (.int .i64 r.tenant) ∧ W.drew.cell? ⟨ge, oe + j * 13 + 10, none⟩ = some (.int .u64 r.qk) ∧ W.drew.cell? ⟨ge, oe + j * 13 + 11, none⟩ = some (.int .u64 r.qb) ∧ W.drew.cell? ⟨ge, oe + j * 13 + 12, none⟩ = some (.int .u8 r.rights) := ⟨(Below.refl _ _).drew, hS⟩
  clear hQ hS
  refine wp_region_noPanic ?_
  refine wp_region_held_drew (S := (fun V : World => Below W.heap.size W V ∧ V.cell? ⟨gx, 1, none⟩ = some (.int .i64 (i : Nat)) ∧ V.cell? ⟨gd, od + i * 21, none⟩ = some (.int .i64 (j : Nat)) ∧ V.cell? ⟨gd, od + i * 21 + 4, none⟩ = some (.int .i64 x.err) ∧ V.cell? ⟨gd, od + i * 21 + 5, none⟩ = some (.string x.val) ∧ V.cell? ⟨gd, od + i * 21 + 6, none⟩ = some (.slice x.pA x.pn x.pc) ∧ V.cell? ⟨gd, od + i * 21 + 7, none⟩ = some (.int .i64 x.h.t) ∧ V.cell? ⟨gd, od + i * 21 + 8, none⟩ = some (.int .u32 x.h.g) ∧ V.cell? ⟨gd, od + i * 21 + 9, none⟩ = some (.int .u8 x.h.r) ∧ V.cell? ⟨gd, od + i * 21 + 10, none⟩ = some (.int .u64 x.s0) ∧ V.cell? ⟨gd, od + i * 21 + 11, none⟩ = some (.int .u64 x.s1) ∧ V.cell? ⟨gd, od + i * 21 + 12, none⟩ = some (.int .u64 x.s2) ∧ V.cell? ⟨gd, od + i * 21 + 13, none⟩ = some (.int .u64 x.s3) ∧ V.cell? ⟨gd, od + i * 21 + 14, none⟩ = some (.int .u64 x.s4) ∧ V.cell? ⟨gd, od + i * 21 + 15, none⟩ = some (.int .u64 x.s5) ∧ V.cell? ⟨gd, od + i * 21 + 16, none⟩ = some (.int .u64 x.s6) ∧ V.cell? ⟨gd, od + i * 21 + 17, none⟩ = some (.int .u64 x.s7) ∧ V.cell? ⟨gd, od + i * 21 + 18, none⟩ = some (.int .u64 x.s8) ∧ V.cell? ⟨gd, od + i * 21 + 19, none⟩ = some (.int .u64 x.s9) ∧ V.cell? ⟨gd, od + i * 21 + 20, none⟩ = some (.complex .f64 x.la x.lb) ∧ V.cell? ⟨ge, oe + j * 13 + 1, none⟩ = some (.int .i64 r.deed) ∧ V.cell? ⟨ge, oe + j * 13 + 2, none⟩ = some (.int .i64 r.ten) ∧ V.cell? ⟨ge, oe + j * 13 + 3, none⟩ = some (.int .u32 r.gen) ∧ V.cell? ⟨ge, oe + j * 13 + 4, none⟩ = some (.int .u8 r.rig) ∧ V.cell? ⟨ge, oe + j * 13 + 5, none⟩ = some (.string r.key) ∧ V.cell? ⟨ge, oe + j * 13 + 6, none⟩ = some (.string r.val) ∧ V.cell? ⟨ge, oe + j * 13 + 7, none⟩ = some (.string r.old) ∧ V.cell? ⟨ge, oe + j * 13 + 8, none⟩ = some (.int .i64 r.lim) ∧ V.cell? ⟨ge, oe + j * 13 + 9, none⟩ = some (.int .i64 r.tenant) ∧ V.cell? ⟨ge, oe + j * 13 + 10, none⟩ = some (.int .u64 r.qk) ∧ V.cell? ⟨ge, oe + j * 13 + 11, none⟩ = some (.int .u64 r.qb) ∧ V.cell? ⟨ge, oe + j * 13 + 12, none⟩ = some (.int .u8 r.rights))) (by kernel_rfl) ?_ (fun hHeld0 => ?_)
  · exact H0
  refine wpAnyH_take (i := 0) (v := ?_) rfl (by kernel_rfl) (by kernel_rfl) (by kernel_rfl) (fun _ _ _ h => h) (Or.inl ⟨by rfl, ?_⟩) hHeld0 ?_
  rotate_left
  · (intro w hSw; (try dsimp only at hSw); go_simp <;> with_reducible rfl)
  try simp only [Act.put, List.setIfInBounds_toArray, List.set_cons_zero, List.set_cons_succ]
  refine wpAnyH_take (i := 1) (v := ?_) rfl (by kernel_rfl) (by kernel_rfl) (by kernel_rfl) (fun _ _ _ h => h) (Or.inl ⟨by rfl, ?_⟩) hHeld0 ?_
  rotate_left
  · (intro w hSw; (try dsimp only at hSw); go_simp <;> with_reducible rfl)
  try simp only [Act.put, List.setIfInBounds_toArray, List.set_cons_zero, List.set_cons_succ]
  refine wpAnyH_take (i := 2) (v := ?_) rfl (by kernel_rfl) (by kernel_rfl) (by kernel_rfl) (fun _ _ _ h => h) (Or.inl ⟨by rfl, ?_⟩) hHeld0 ?_
  rotate_left
  · (intro w hSw; (try dsimp only at hSw); go_simp <;> with_reducible rfl)
  try simp only [Act.put, List.setIfInBounds_toArray, List.set_cons_zero, List.set_cons_succ]
  refine wpAnyH_take (i := 3) (v := ?_) rfl (by kernel_rfl) (by kernel_rfl) (by kernel_rfl) (fun _ _ _ h => h) (Or.inl ⟨by rfl, ?_⟩) hHeld0 ?_
  rotate_left
  · (intro w hSw; (try dsimp only at hSw); go_simp <;> with_reducible rfl)
  try simp only [Act.put, List.setIfInBounds_toArray, List.set_cons_zero, List.set_cons_succ]
  refine wpAnyH_take (i := 4) (v := ?_) rfl (by kernel_rfl) (by kernel_rfl) (by kernel_rfl) (fun _ _ _ h => h) (Or.inl ⟨by rfl, ?_⟩) hHeld0 ?_
  rotate_left
  · (intro w hSw; (try dsimp only at hSw); go_simp <;> with_reducible rfl)
  try simp only [Act.put, List.setIfInBounds_toArray, List.set_cons_zero, List.set_cons_succ]
  refine wpAnyH_take (i := 5) (v := ?_) rfl (by kernel_rfl) (by kernel_rfl) (by kernel_rfl) (fun _ _ _ h => h) (Or.inl ⟨by rfl, ?_⟩) hHeld0 ?_
  rotate_left
  · (intro w hSw; (try dsimp only at hSw); go_simp <;> with_reducible rfl)
  try simp only [Act.put, List.setIfInBounds_toArray, List.set_cons_zero, List.set_cons_succ]
  refine wpAnyH_take (i := 6) (v := ?_) rfl (by kernel_rfl) (by kernel_rfl) (by kernel_rfl) (fun _ _ _ h => h) (Or.inl ⟨by rfl, ?_⟩) hHeld0 ?_
  rotate_left
  · (intro w hSw; (try dsimp only at hSw); go_simp <;> with_reducible rfl)
  try simp only [Act.put, List.setIfInBounds_toArray, List.set_cons_zero, List.set_cons_succ]
  refine wpAnyH_take (i := 7) (v := ?_) rfl (by kernel_rfl) (by kernel_rfl) (by kernel_rfl) (fun _ _ _ h => h) (Or.inl ⟨by rfl, ?_⟩) hHeld0 ?_
  rotate_left
  · (intro w hSw; (try dsimp only at hSw); go_simp <;> with_reducible rfl)
  try simp only [Act.put, List.setIfInBounds_toArray, List.set_cons_zero, List.set_cons_succ]
  refine wpAnyH_take (i := 8) (v := ?_) rfl (by kernel_rfl) (by kernel_rfl) (by kernel_rfl) (fun _ _ _ h => h) (Or.inl ⟨by rfl, ?_⟩) hHeld0 ?_
  rotate_left
  · (intro w hSw; (try dsimp only at hSw); go_simp <;> with_reducible rfl)
  try simp only [Act.put, List.setIfInBounds_toArray, List.set_cons_zero, List.set_cons_succ]
  refine wpAnyH_take (i := 9) (v := ?_) rfl (by kernel_rfl) (by kernel_rfl) (by kernel_rfl) (fun _ _ _ h => h) (Or.inl ⟨by rfl, ?_⟩) hHeld0 ?_
  rotate_left
  · (intro w hSw; (try dsimp only at hSw); go_simp <;> with_reducible rfl)
  try simp only [Act.put, List.setIfInBounds_toArray, List.set_cons_zero, List.set_cons_succ]
  refine wpAnyH_take (i := 10) (v := ?_) rfl (by kernel_rfl) (by kernel_rfl) (by kernel_rfl) (fun _ _ _ h => h) (Or.inl ⟨by rfl, ?_⟩) hHeld0 ?_
  rotate_left
  · (intro w hSw; (try dsimp only at hSw); go_simp <;> with_reducible rfl)
  try simp only [Act.put, List.setIfInBounds_toArray, List.set_cons_zero, List.set_cons_succ]
  refine wpAnyH_take (i := 11) (v := ?_) rfl (by kernel_rfl) (by kernel_rfl) (by kernel_rfl) (fun _ _ _ h => h) (Or.inl ⟨by rfl, ?_⟩) hHeld0 ?_
  rotate_left
  · (intro w hSw; (try dsimp only at hSw); go_simp <;> with_reducible rfl)
  try simp only [Act.put, List.setIfInBounds_toArray, List.set_cons_zero, List.set_cons_succ]
  refine wpAnyH_take (i := 12) (v := ?_) rfl (by kernel_rfl) (by kernel_rfl) (by kernel_rfl) (fun _ _ _ h => h) (Or.inl ⟨by rfl, ?_⟩) hHeld0 ?_
  rotate_left
  · (intro w hSw; (try dsimp only at hSw); go_simp <;> with_reducible rfl)
  try simp only [Act.put, List.setIfInBounds_toArray, List.set_cons_zero, List.set_cons_succ]
  refine wpAnyH_take (i := 13) (v := ?_) rfl (by kernel_rfl) (by kernel_rfl) (by kernel_rfl) (fun _ _ _ h => h) (Or.inl ⟨by rfl, ?_⟩) hHeld0 ?_
  rotate_left
  · (intro w hSw; (try dsimp only at hSw); go_simp <;> with_reducible rfl)
  try simp only [Act.put, List.setIfInBounds_toArray, List.set_cons_zero, List.set_cons_succ]
  refine wpAnyH_take (i := 14) (v := ?_) rfl (by kernel_rfl) (by kernel_rfl) (by kernel_rfl) (fun _ _ _ h => h) (Or.inl ⟨by rfl, ?_⟩) hHeld0 ?_
  rotate_left
  · (intro w hSw; (try dsimp only at hSw); go_simp <;> with_reducible rfl)
  try simp only [Act.put, List.setIfInBounds_toArray, List.set_cons_zero, List.set_cons_succ]
  refine wpAnyH_take (i := 15) (v := ?_) rfl (by kernel_rfl) (by kernel_rfl) (by kernel_rfl) (fun _ _ _ h => h) (Or.inl ⟨by rfl, ?_⟩) hHeld0 ?_
  rotate_left
  · (intro w hSw; (try dsimp only at hSw); go_simp <;> with_reducible rfl)
  try simp only [Act.put, List.setIfInBounds_toArray, List.set_cons_zero, List.set_cons_succ]
  try simp only [Act.put, List.getElem_toArray, List.getElem_cons_succ, List.getElem_cons_zero, List.setIfInBounds_toArray, List.set_cons_zero, List.set_cons_succ]
  refine wpAnyH_ready (rs := [16, 17]) (by kernel_rfl) (by simp) ?_
  refine AllReadyH.cons rfl (fun K hK => ?_) ?_
  · refine wp_alloc_abs 39 #[.int .i64 0, .int .i64 0, .int .u32 0, .int .u8 0, .string ⟨#[]⟩, .string ⟨#[]⟩, .string ⟨#[]⟩, .int .i64 0, .int .i64 0, .int .u64 0, .int .u64 0, .int .u8 0] rfl Tryz.zeroValue39 ?_
    intro V2 hq3 hb4
    have hS1 := rp_keep H0 (fun y hy => hq3.cell (Nat.lt_of_lt_of_le hy H0.1.size)) (below_trans H0.1 hq3) lx ld le
    have hg5 : W.heap.size ≤ W.drew.heap.size := H0.1.size
    refine hK.out _ _ ?_ (fun hHeld1 => ?_)
    · exact hS1
    clear hK K hHeld0
    try simp only [Act.put, List.setIfInBounds_toArray, List.set_cons_zero, List.set_cons_succ]
    refine wpAnyH_ready (rs := [17]) (by kernel_rfl) (by simp) ?_
    refine AllReadyH.cons rfl (fun K hK => ?_) AllReadyH.nil
    refine wp_alloc_abs 52 #[.int .i64 0, .string ⟨#[]⟩, .slice none 0 0, .int .i64 0, .int .u32 0, .int .u8 0, .int .u64 0, .int .u64 0, .int .u64 0, .int .u64 0, .int .u64 0, .int .u64 0, .int .u64 0, .int .u64 0, .int .u64 0, .int .u64 0, .complex .f64 0 0] rfl Tryz.zeroValue52 ?_
    intro V7 hq8 hb9
    have hS6 := rp_keep hS1 (fun y hy => hq8.cell (Nat.lt_of_lt_of_le hy hS1.1.size)) (below_trans hS1.1 hq8) lx ld le
    have hb10 := hb4.below hq8 hb4.lt
    have hne := hb4.lt
    have hg11 : W.heap.size ≤ V2.heap.size := hS1.1.size
    refine hK.out _ _ ?_ (fun hHeld2 => ?_)
    · exact hS6
    clear hK K hHeld1
    try simp only [Act.put, List.setIfInBounds_toArray, List.set_cons_zero, List.set_cons_succ]
    try simp only [Act.put, List.getElem_toArray, List.getElem_cons_succ, List.getElem_cons_zero, List.setIfInBounds_toArray, List.set_cons_zero, List.set_cons_succ]
    refine wpAnyH_ready (rs := [18]) (by kernel_rfl) (by simp) ?_
    refine AllReadyH.cons rfl (fun K hK => ?_) AllReadyH.nil
    refine wp_store_abs 39 (.tmp 13) (.tmp 52) rfl (W.drew.heap.size) #[.int .i64 0, .int .i64 0, .int .u32 0, .int .u8 0, .string ⟨#[]⟩, .string ⟨#[]⟩, .string ⟨#[]⟩, .int .i64 0, .int .i64 0, .int .u64 0, .int .u64 0, .int .u8 0] #[.int .i64 r.deed, .int .i64 r.ten, .int .u32 r.gen, .int .u8 r.rig, .string r.key, .string r.val, .string r.old, .int .i64 r.lim, .int .i64 r.tenant, .int .u64 r.qk, .int .u64 r.qb, .int .u8 r.rights] rfl rfl hb10 rfl infoReq (by simp [Value.oneCell']) ?_
    intro V13 hb15 hs16 hl17
    have hS12 := rp_keep hS6 (fun y hy => World.cell?_of_block (hs16 y.block (by omega))) (hl17 _ _ hg5 hS6.1) lx ld le
    have hb18 := (hs16 _ (by omega)).trans hb9
    refine hK.out _ _ ?_ (fun hHeld3 => ?_)
    · exact hS12
    clear hK K hHeld2
    try simp only [Act.put, List.setIfInBounds_toArray, List.set_cons_zero, List.set_cons_succ]
    try simp only [Act.put, List.getElem_toArray, List.getElem_cons_succ, List.getElem_cons_zero, List.setIfInBounds_toArray, List.set_cons_zero, List.set_cons_succ]
    refine wpAnyH_ready (rs := [19]) (by kernel_rfl) (by simp) ?_
    refine AllReadyH.cons rfl (fun K hK => ?_) AllReadyH.nil
    refine wp_store_abs 52 (.tmp 14) (.tmp 58) rfl (V2.heap.size) #[.int .i64 0, .string ⟨#[]⟩, .slice none 0 0, .int .i64 0, .int .u32 0, .int .u8 0, .int .u64 0, .int .u64 0, .int .u64 0, .int .u64 0, .int .u64 0, .int .u64 0, .int .u64 0, .int .u64 0, .int .u64 0, .int .u64 0, .complex .f64 0 0] #[.int .i64 x.err, .string x.val, .slice x.pA x.pn x.pc, .int .i64 x.h.t, .int .u32 x.h.g, .int .u8 x.h.r, .int .u64 x.s0, .int .u64 x.s1, .int .u64 x.s2, .int .u64 x.s3, .int .u64 x.s4, .int .u64 x.s5, .int .u64 x.s6, .int .u64 x.s7, .int .u64 x.s8, .int .u64 x.s9, .complex .f64 x.la x.lb] rfl rfl hb18 rfl infoAns (by simp [Value.oneCell']) ?_
    intro V20 hb22 hs23 hl24
    have hS19 := rp_keep hS12 (fun y hy => World.cell?_of_block (hs23 y.block (by omega))) (hl24 _ _ hg11 hS12.1) lx ld le
    have hb25 := (hs23 _ (by omega)).trans hb15
    refine hK.out _ _ ?_ (fun hHeld4 => ?_)
    · exact hS19
    clear hK K hHeld3
    try simp only [Act.put, List.setIfInBounds_toArray, List.set_cons_zero, List.set_cons_succ]
    try simp only [Act.put, List.getElem_toArray, List.getElem_cons_succ, List.getElem_cons_zero, List.setIfInBounds_toArray, List.set_cons_zero, List.set_cons_succ]
    try simp only [Act.put, List.getElem_toArray, List.getElem_cons_succ, List.getElem_cons_zero, List.setIfInBounds_toArray, List.set_cons_zero, List.set_cons_succ]
    refine wpAnyH_done (by kernel_rfl) ?_ _
    exact NoPanic.normal (HQ.out _ _ _ _ _ _ _ _ _ _ _ _ _ _ _ _ _ _ _ hb25 hb22 hS19.1)
  refine AllReadyH.cons rfl (fun K hK => ?_) ?_
  · refine wp_alloc_abs 52 #[.int .i64 0, .string ⟨#[]⟩, .slice none 0 0, .int .i64 0, .int .u32 0, .int .u8 0, .int .u64 0, .int .u64 0, .int .u64 0, .int .u64 0, .int .u64 0, .int .u64 0, .int .u64 0, .int .u64 0, .int .u64 0, .int .u64 0, .complex .f64 0 0] rfl Tryz.zeroValue52 ?_
    intro V27 hq28 hb29
    have hS26 := rp_keep H0 (fun y hy => hq28.cell (Nat.lt_of_lt_of_le hy H0.1.size)) (below_trans H0.1 hq28) lx ld le
    have hg30 : W.heap.size ≤ W.drew.heap.size := H0.1.size
    refine hK.out _ _ ?_ (fun hHeld1 => ?_)
    · exact hS26
    clear hK K hHeld0
    try simp only [Act.put, List.setIfInBounds_toArray, List.set_cons_zero, List.set_cons_succ]
    refine wpAnyH_ready (rs := [16]) (by kernel_rfl) (by simp) ?_
    refine AllReadyH.cons rfl (fun K hK => ?_) AllReadyH.nil
    refine wp_alloc_abs 39 #[.int .i64 0, .int .i64 0, .int .u32 0, .int .u8 0, .string ⟨#[]⟩, .string ⟨#[]⟩, .string ⟨#[]⟩, .int .i64 0, .int .i64 0, .int .u64 0, .int .u64 0, .int .u8 0] rfl Tryz.zeroValue39 ?_
    intro V32 hq33 hb34
    have hS31 := rp_keep hS26 (fun y hy => hq33.cell (Nat.lt_of_lt_of_le hy hS26.1.size)) (below_trans hS26.1 hq33) lx ld le
    have hb35 := hb29.below hq33 hb29.lt
    have hne := hb29.lt
    have hg36 : W.heap.size ≤ V27.heap.size := hS26.1.size
    refine hK.out _ _ ?_ (fun hHeld2 => ?_)
    · exact hS31
    clear hK K hHeld1
    try simp only [Act.put, List.setIfInBounds_toArray, List.set_cons_zero, List.set_cons_succ]
    try simp only [Act.put, List.getElem_toArray, List.getElem_cons_succ, List.getElem_cons_zero, List.setIfInBounds_toArray, List.set_cons_zero, List.set_cons_succ]
    refine wpAnyH_ready (rs := [18]) (by kernel_rfl) (by simp) ?_
    refine AllReadyH.cons rfl (fun K hK => ?_) AllReadyH.nil
    refine wp_store_abs 39 (.tmp 13) (.tmp 52) rfl (V27.heap.size) #[.int .i64 0, .int .i64 0, .int .u32 0, .int .u8 0, .string ⟨#[]⟩, .string ⟨#[]⟩, .string ⟨#[]⟩, .int .i64 0, .int .i64 0, .int .u64 0, .int .u64 0, .int .u8 0] #[.int .i64 r.deed, .int .i64 r.ten, .int .u32 r.gen, .int .u8 r.rig, .string r.key, .string r.val, .string r.old, .int .i64 r.lim, .int .i64 r.tenant, .int .u64 r.qk, .int .u64 r.qb, .int .u8 r.rights] rfl rfl hb34 rfl infoReq (by simp [Value.oneCell']) ?_
    intro V38 hb40 hs41 hl42
    have hS37 := rp_keep hS31 (fun y hy => World.cell?_of_block (hs41 y.block (by omega))) (hl42 _ _ hg36 hS31.1) lx ld le
    have hb43 := (hs41 _ (by omega)).trans hb35
    refine hK.out _ _ ?_ (fun hHeld3 => ?_)
    · exact hS37
    clear hK K hHeld2
    try simp only [Act.put, List.setIfInBounds_toArray, List.set_cons_zero, List.set_cons_succ]
    try simp only [Act.put, List.getElem_toArray, List.getElem_cons_succ, List.getElem_cons_zero, List.setIfInBounds_toArray, List.set_cons_zero, List.set_cons_succ]
    refine wpAnyH_ready (rs := [19]) (by kernel_rfl) (by simp) ?_
    refine AllReadyH.cons rfl (fun K hK => ?_) AllReadyH.nil
    refine wp_store_abs 52 (.tmp 14) (.tmp 58) rfl (W.drew.heap.size) #[.int .i64 0, .string ⟨#[]⟩, .slice none 0 0, .int .i64 0, .int .u32 0, .int .u8 0, .int .u64 0, .int .u64 0, .int .u64 0, .int .u64 0, .int .u64 0, .int .u64 0, .int .u64 0, .int .u64 0, .int .u64 0, .int .u64 0, .complex .f64 0 0] #[.int .i64 x.err, .string x.val, .slice x.pA x.pn x.pc, .int .i64 x.h.t, .int .u32 x.h.g, .int .u8 x.h.r, .int .u64 x.s0, .int .u64 x.s1, .int .u64 x.s2, .int .u64 x.s3, .int .u64 x.s4, .int .u64 x.s5, .int .u64 x.s6, .int .u64 x.s7, .int .u64 x.s8, .int .u64 x.s9, .complex .f64 x.la x.lb] rfl rfl hb43 rfl infoAns (by simp [Value.oneCell']) ?_
    intro V45 hb47 hs48 hl49
    have hS44 := rp_keep hS37 (fun y hy => World.cell?_of_block (hs48 y.block (by omega))) (hl49 _ _ hg30 hS37.1) lx ld le
    have hb50 := (hs48 _ (by omega)).trans hb40
    refine hK.out _ _ ?_ (fun hHeld4 => ?_)
    · exact hS44
    clear hK K hHeld3
    try simp only [Act.put, List.setIfInBounds_toArray, List.set_cons_zero, List.set_cons_succ]
    try simp only [Act.put, List.getElem_toArray, List.getElem_cons_succ, List.getElem_cons_zero, List.setIfInBounds_toArray, List.set_cons_zero, List.set_cons_succ]
    try simp only [Act.put, List.getElem_toArray, List.getElem_cons_succ, List.getElem_cons_zero, List.setIfInBounds_toArray, List.set_cons_zero, List.set_cons_succ]
    refine wpAnyH_done (by kernel_rfl) ?_ _
    exact NoPanic.normal (HQ.out _ _ _ _ _ _ _ _ _ _ _ _ _ _ _ _ _ _ _ hb50 hb47 hS44.1)
  exact AllReadyH.nil
end Go.Proofs.YtkgflepgkhnclaaGreatDoor
namespace Go.Proofs.YtkgflepgkhnclaaGreatDoor
open Go.RowKit Go.Shelf Go.Sort
set_option linter.unusedVariables false
set_option linter.unusedSimpArgs false
attribute [local go_sem] run_store_complex

/-- A slice of entries that lies in memory. -/
def EsAt (w : World) (A : Option Addr) (es : List Ent) : Prop := 0 < es.length → ∃ g o, A = some ⟨g, o, none⟩ ∧ g < w.heap.size ∧ w.rangeAt g o (es.flatMap Ent.row)
/-- replay's world in its second loop. -/
structure RpW (w : World) (p blk : Nat) (arr : Array Mo) (M : Mdl) (W : World) : Prop where
  mdl : ∃ M' T, StLike M M' ∧ ModelAt W p M' T ∧ ∀ i, mown p M' T i → w.heap.size ≤ i
  q : SmQ M
  row : HoldsK Mo.row 3 W blk 0 arr
  blk : ∃ cs, Blk W blk 204 cs
  bel : RowKit.Below w.heap.size w W
theorem holdsK_on {W W' : World} {blk : Nat} {arr : Array Mo} (h : HoldsK Mo.row 3 W blk 0 arr) (hb : W'.heap[blk]? = W.heap[blk]?) : HoldsK Mo.row 3 W' blk 0 arr := fun j hj => by
  have h1 := h j hj
  exact ⟨(World.cell?_of_block (w := W) hb).trans h1.1, (World.frozen?_of_block (w := W) hb).trans h1.2⟩
theorem RpW.below {w W W' : World} {p blk : Nat} {arr : Array Mo} {M : Mdl} (h : RpW w p blk arr M W) (hb : RowKit.Below W.heap.size W W') : RpW w p blk arr M W' := by
  obtain ⟨M', T, h1, h2, h3⟩ := h.mdl
  obtain ⟨cs, h4⟩ := h.blk
  exact ⟨⟨M', T, h1, h2.below hb, h3⟩, h.q, holdsK_on h.row (hb.block _ h4.lt), ⟨cs, h4.below hb h4.lt⟩, below_trans h.bel hb⟩
theorem RpW.keep {w W W' : World} {p blk : Nat} {arr : Array Mo} {M N N' : Mdl} {T' : Ows} (h : RpW w p blk arr M W) (hk : KeepC (fun i => i = p) W W') (hl : StLike N N') (hm : ModelAt W' p N' T') (ho : ∀ i, mown p N' T' i → w.heap.size ≤ i) (hq : SmQ N) : RpW w p blk arr N W' := by
  obtain ⟨M', T, h1, h2, h3⟩ := h.mdl
  obtain ⟨cs, h4⟩ := h.blk
  have hp : w.heap.size ≤ p := h3 p (.inl rfl)
  have hne : blk ≠ p := blk_ne h4 h2.blk (by decide)
  exact ⟨⟨N', T', hl, hm, ho⟩, hq, holdsK_on h.row (hk.block _ h4.lt (.inl hne)), ⟨cs, hk.blk h4 hne⟩, ⟨hk.os.trans h.bel.os, hk.tape.trans h.bel.tape, hk.output.trans h.bel.output, Nat.le_trans h.bel.size hk.size, fun i hi => by
    rw [hk.block i (Nat.lt_of_lt_of_le hi h.bel.size) (.inl (by omega)), h.bel.block i hi]⟩⟩
/-- A Done as Step takes it: an ordinary error, empty statistics, its pairs l. -/
structure DnOk (d : Dn) (l : List Kv) : Prop where
  err : d.err ≠ 13 ∧ d.err ≠ 14
  s : d.s0 = 0 ∧ d.s1 = 0 ∧ d.s2 = 0 ∧ d.s3 = 0 ∧ d.s4 = 0 ∧ d.s5 = 0 ∧ d.s6 = 0 ∧ d.s7 = 0 ∧ d.s8 = 0 ∧ d.s9 = 0 ∧ d.la = 0 ∧ d.lb = 0
  pn : d.pn = l.length
  len : l.length ≤ 1000000
def rpB (M : Mdl) (r : Req) (d : Dn) (l : List Kv) : Bool := stepB r d.err (doN M r).2.err d.val (doN M r).2.val l (doN M r).2.prs d.h (doN M r).2.h
theorem w_after (i : Int) (v : Value) (W : World) : Calls Tryz.prog 77 #[.int .i64 i, v] W (fun e w' => e = .returned (.tuple #[]) ∧ w' = W) := by
  go_enter Tryz.func77, Tryz.ntmps77
  go_wp2
  go_end0
  exact ⟨rfl, rfl⟩
/-- The switch of a round: a Done ends. -/
theorem rp_ended {w W : World} {p blk : Nat} {arr : Array Mo} {M : Mdl} {r : Req} {d : Dn} {l : List Kv} (h : RpW w p blk arr M W) (hd : DnOk d l) :
    Calls Tryz.prog 21 #[.pointer (some ⟨p, 0, none⟩), r.v, .agg d.ans.toArray] W (fun e w' => e = .returned (.tuple #[]) ∧ RpW w p blk arr M w') := by
  obtain ⟨M', T, h1, h2, h3⟩ := h.mdl
  refine (Ended_m h2 r d (by rw [hd.pn]; have := hd.len; omega)).mono ?_
  rintro e w' ⟨rfl, N, hl, hm, hk⟩
  exact ⟨rfl, h.keep hk (h1.trans hl) hm (fun i hi => h3 i (hi.imp id (fun ⟨t, ht, hs, hi⟩ => ⟨t, ht, by rw [← (hl t).2.2.2]; exact hs, hi⟩))) h.q⟩
theorem rp_step {w W : World} {p blk W1 : Nat} {arr : Array Mo} {M : Mdl} {r : Req} {d : Dn} {l : List Kv} (h : RpW w p blk arr M W) (hd : DnOk d l) (hr : r.ok) (hq : r.qk ≤ 1000000) (h6 : r.deed ≠ 6) (hA : Reads W W1 2 d.pA l.length (l.flatMap pairR)) (hW1 : W1 ≤ W.heap.size) :
    Calls Tryz.prog 22 #[.pointer (some ⟨p, 0, none⟩), r.v, .agg d.ans.toArray] W (fun e w' => e = .returned (.bool (rpB M r d l)) ∧ (rpB M r d l = true → RpW w p blk arr (doN M r).1 w') ∧ (rpB M r d l = false → RpW w p blk arr M w') ∧ KeepC (fun i => i = p) W w') := by
  obtain ⟨M', T, h1, h2, h3⟩ := h.mdl
  obtain ⟨e1, e2⟩ := do_like h1 r h6
  have hsm := (h.q.like h1).small h2
  obtain ⟨R, hR⟩ : ∃ R, doN M' r = R := ⟨_, rfl⟩
  have hst : R.2.st = st0 := by rw [← hR]; exact do_st0 M' r h6
  have hpl : R.2.prs.length ≤ 1000000 := by rw [← hR]; exact prs_len hsm r
  obtain ⟨M2, a⟩ := R
  obtain ⟨ae, av, ap, ah, ast⟩ := a
  dsimp only at hst hpl
  subst hst
  have hS := Step_m h2 hsm r hr d.err ae d.val av l ap d.h ah d.pA d.pc W1 hd.len hpl hA hW1 hR hd.err
  have hans : d.ans.toArray = #[.int .i64 d.err, .string d.val, .slice d.pA l.length d.pc, .int .i64 d.h.t, .int .u32 d.h.g, .int .u8 d.h.r, .int .u64 0, .int .u64 0, .int .u64 0, .int .u64 0, .int .u64 0, .int .u64 0, .int .u64 0, .int .u64 0, .int .u64 0, .int .u64 0, .complex .f64 0 0] := by
    obtain ⟨s0, s1, s2, s3, s4, s5, s6, s7, s8, s9, sa, sb⟩ := hd.s
    unfold Dn.ans
    rw [hd.pn, s0, s1, s2, s3, s4, s5, s6, s7, s8, s9, sa, sb]
  rw [hans]
  rw [hR] at e1
  have hb : rpB M r d l = stepB r d.err ae d.val av l ap d.h ah := by unfold rpB; rw [← e1]
  rw [hb]
  refine hS.mono ?_
  rintro e w' ⟨he, hf, ht⟩
  refine ⟨he, fun hx => ?_, fun hx => h.below (hf hx), ?_⟩
  rotate_left
  · rcases Bool.eq_false_or_eq_true (stepB r d.err ae d.val av l ap d.h ah) with hx | hx
    · obtain ⟨T', m, ho, hk⟩ := ht hx
      exact hk
    · exact .of_below (hf hx)
  obtain ⟨T', m, ho, hk⟩ := ht hx
  rw [hR] at e2
  have hp : w.heap.size ≤ p := h3 p (.inl rfl)
  exact h.keep hk e2 m (fun i hi => (ho i hi).elim (fun e => by rw [e]; exact hp) (fun hh => Nat.le_trans h.bel.size hh)) (smQ_do h.q r hq)
end Go.Proofs.YtkgflepgkhnclaaGreatDoor
namespace Go.Proofs.YtkgflepgkhnclaaGreatDoor
open Go.RowKit Go.Shelf
set_option linter.unusedVariables false
set_option linter.unusedSimpArgs false
attribute [local go_sem] run_store_complex

set_option maxHeartbeats 6400000 in
set_option maxRecDepth 100000 in
theorem rp_round {w W : World} {p blk ge oe gd od ne nd nm ce cd cm k i j W1 : Nat} {arr : Array Mo} {M : Mdl} {mo : Mo} {d : Dn} {en : Ent} {l : List Kv} {u3 u4 u5 u6 u7 u8 u9 u11 u12 u13 u14 u15 u16 u17 u18 u19 u20 u21 u22 u23 u24 u25 u26 u27 u28 u29 u30 u31 u32 u33 u34 u35 u36 u38 u40 u41 u42 u43 u44 u45 u46 u47 u48 u49 u50 u51 u52 u53 u54 u55 u56 u57 u58 u59 u60 u61 u62 u63 u64 u65 u66 u67 u68 u69 u70 u71 u72 u73 u74 u75 u76 u77 u78 u79 u80 : Value} {Q : Exit → Act → World → Prop} (h : RpW w p blk arr M W)
    (her : w.rangeAt ge (oe + j * 13) en.row) (le0 : ge < w.heap.size) (hdr : w.rangeAt gd (od + i * 21) d.row) (ld0 : gd < w.heap.size) (hkn : k < nm) (hmo : W.rangeAt blk (0 + k * 3) mo.row) (hmd : mo.d = (i : Nat)) (hi : i < nd) (hdj : d.e = (j : Nat)) (hj : j < ne)
    (hd : DnOk d l) (hr : en.r.ok) (hq : en.r.qk ≤ 1000000) (h6 : en.r.deed ≠ 6) (hA : Reads w W1 2 d.pA l.length (l.flatMap pairR)) (hW1 : W1 ≤ w.heap.size)
    (hR : mo.e = false → rpB M en.r d l = false → ∀ (s12 s13 s14 s41 s42 s43 s44 s45 s46 s47 s48 s49 s50 s51 s52 s53 s54 s55 s56 s57 s58 s59 s60 s61 s62 s63 s64 s65 s66 s67 s68 s69 s70 s71 s72 s73 s74 s75 s76 s77 : Value) (W' : World), Below w.heap.size w W' → Q .ret ⟨#[.slice (some ⟨ge, oe, none⟩) ne ce, .slice (some ⟨gd, od, none⟩) nd cd, .func (.func 77) #[] #[], u3, u4, u5, .int .i64 (i : Nat), u7, u8, u9, .pointer (some ⟨p, 0, none⟩), u11, s12, s13, s14, u15, u16, u17, u18, u19, u20, u21, u22, u23, u24, u25, u26, u27, u28, u29, u30, u31, u32, u33, u34, u35, u36, .slice (some ⟨blk, 0, none⟩) nm cm, u38, .int .i64 (k : Nat), u40, s41, s42, s43, s44, s45, s46, s47, s48, s49, s50, s51, s52, s53, s54, s55, s56, s57, s58, s59, s60, s61, s62, s63, s64, s65, s66, s67, s68, s69, s70, s71, s72, s73, s74, s75, s76, s77, u78, u79, u80], []⟩ W')
    (hN : mo.e = true ∨ rpB M en.r d l = true → ∀ (s12 s13 s14 s41 s42 s43 s44 s45 s46 s47 s48 s49 s50 s51 s52 s53 s54 s55 s56 s57 s58 s59 s60 s61 s62 s63 s64 s65 s66 s67 s68 s69 s70 s71 s72 s73 s74 s75 s76 s77 : Value) (W' : World), RpW w p blk arr (if mo.e then M else (doN M en.r).1) W' → Q .normal ⟨#[.slice (some ⟨ge, oe, none⟩) ne ce, .slice (some ⟨gd, od, none⟩) nd cd, .func (.func 77) #[] #[], u3, u4, u5, u6, u7, u8, u9, .pointer (some ⟨p, 0, none⟩), u11, s12, s13, s14, u15, u16, u17, u18, u19, u20, u21, u22, u23, u24, u25, u26, u27, u28, u29, u30, u31, u32, u33, u34, u35, u36, .slice (some ⟨blk, 0, none⟩) nm cm, u38, .int .i64 (k : Nat), u40, s41, s42, s43, s44, s45, s46, s47, s48, s49, s50, s51, s52, s53, s54, s55, s56, s57, s58, s59, s60, s61, s62, s63, s64, s65, s66, s67, s68, s69, s70, s71, s72, s73, s74, s75, s76, s77, u78, u79, u80], []⟩ W') :
    Code.wp Tryz.prog (part Tryz.f76 [1, 1, 1, 1, 1, 0, 1, 2, 2, 1, 1, 0, 2]) Q ⟨#[.slice (some ⟨ge, oe, none⟩) ne ce, .slice (some ⟨gd, od, none⟩) nd cd, .func (.func 77) #[] #[], u3, u4, u5, u6, u7, u8, u9, .pointer (some ⟨p, 0, none⟩), u11, u12, u13, u14, u15, u16, u17, u18, u19, u20, u21, u22, u23, u24, u25, u26, u27, u28, u29, u30, u31, u32, u33, u34, u35, u36, .slice (some ⟨blk, 0, none⟩) nm cm, u38, .int .i64 (k : Nat), u40, u41, u42, u43, u44, u45, u46, u47, u48, u49, u50, u51, u52, u53, u54, u55, u56, u57, u58, u59, u60, u61, u62, u63, u64, u65, u66, u67, u68, u69, u70, u71, u72, u73, u74, u75, u76, u77, u78, u79, u80], []⟩ W := by
  conv => arg 2; whnf
  have HR := Lib.hid hR
  have HN := Lib.hid hN
  have hk1 : (0 : Int) ≤ (k : Int) := by omega
  have hk2 : (k : Int) < (nm : Int) := by omega
  have m0 : W.cell? ⟨blk, 0 + k * 3, none⟩ = some (.int .i64 mo.p) := hmo 0 _ rfl
  have m1 : W.cell? ⟨blk, 0 + k * 3 + 1, none⟩ = some (.int .i64 mo.d) := hmo 1 _ rfl
  have m2 : W.cell? ⟨blk, 0 + k * 3 + 2, none⟩ = some (.bool mo.e) := hmo 2 _ rfl
  obtain ⟨be, hbe⟩ : ∃ q, mo.e = q := ⟨_, rfl⟩
  rw [hbe] at m2
  rw [hmd] at m1
  rw [hbe] at HR HN
  rw [Nat.zero_add] at m0 m1 m2
  have hm1 := Blk.new W 204 #[.int .i64 mo.p, .int .i64 (i : Nat), .bool be]
  have H1 := Lib.hid (h.below (below_box W (.cells #[.int .i64 mo.p, .int .i64 (i : Nat), .bool be] 204)))
  have HM1 := Lib.hid hm1
  have HX := Lib.hid (And.intro her (And.intro hdr (And.intro hd (And.intro hr (And.intro hq (And.intro h6 hA))))))
  have hsw := h.bel.size
  clear hR hN hmo hm1 hmd hbe her hdr hd hr hq h6 hA h
  refine wp_seq_k fun K0 hK => ?_
  have HK0 := Lib.hid hK
  clear hK
  go_wp2_with fail
  refine HK0.out _ _ ?_
  clear HK0 K0 m0 m1 m2
  have hgx : W.heap.size < (W.alloc (.cells #[.int .i64 mo.p, .int .i64 (i : Nat), .bool be] 204)).heap.size := by simp
  generalize W.alloc (.cells #[.int .i64 mo.p, .int .i64 (i : Nat), .bool be] 204) = V at H1 HM1 hgx ⊢
  refine wp_seq_k fun K0 hK => ?_
  have HK0 := Lib.hid hK
  clear hK
  have hm1 := HM1.out
  have hx := H1.out.bel
  obtain ⟨her, hdr, -⟩ := HX.out
  have hsv := H1.out.bel.size
  refine rp_load (x := d) (r := en.r) (i := i) (j := j) (gx := W.heap.size) (ge := ge) (oe := oe) (gd := gd) (od := od) ⟨hm1.cell 1, (hx.cell (p := ⟨gd, od + i * 21, none⟩) (by exact ld0)).trans (by have := hdr 0 _ rfl; rw [hdj] at this; exact this), (hx.cell (p := ⟨gd, od + i * 21 + 4, none⟩) (by exact ld0)).trans (hdr 4 _ rfl), (hx.cell (p := ⟨gd, od + i * 21 + 5, none⟩) (by exact ld0)).trans (hdr 5 _ rfl), (hx.cell (p := ⟨gd, od + i * 21 + 6, none⟩) (by exact ld0)).trans (hdr 6 _ rfl), (hx.cell (p := ⟨gd, od + i * 21 + 7, none⟩) (by exact ld0)).trans (hdr 7 _ rfl), (hx.cell (p := ⟨gd, od + i * 21 + 8, none⟩) (by exact ld0)).trans (hdr 8 _ rfl), (hx.cell (p := ⟨gd, od + i * 21 + 9, none⟩) (by exact ld0)).trans (hdr 9 _ rfl), (hx.cell (p := ⟨gd, od + i * 21 + 10, none⟩) (by exact ld0)).trans (hdr 10 _ rfl), (hx.cell (p := ⟨gd, od + i * 21 + 11, none⟩) (by exact ld0)).trans (hdr 11 _ rfl), (hx.cell (p := ⟨gd, od + i * 21 + 12, none⟩) (by exact ld0)).trans (hdr 12 _ rfl), (hx.cell (p := ⟨gd, od + i * 21 + 13, none⟩) (by exact ld0)).trans (hdr 13 _ rfl), (hx.cell (p := ⟨gd, od + i * 21 + 14, none⟩) (by exact ld0)).trans (hdr 14 _ rfl), (hx.cell (p := ⟨gd, od + i * 21 + 15, none⟩) (by exact ld0)).trans (hdr 15 _ rfl), (hx.cell (p := ⟨gd, od + i * 21 + 16, none⟩) (by exact ld0)).trans (hdr 16 _ rfl), (hx.cell (p := ⟨gd, od + i * 21 + 17, none⟩) (by exact ld0)).trans (hdr 17 _ rfl), (hx.cell (p := ⟨gd, od + i * 21 + 18, none⟩) (by exact ld0)).trans (hdr 18 _ rfl), (hx.cell (p := ⟨gd, od + i * 21 + 19, none⟩) (by exact ld0)).trans (hdr 19 _ rfl), (hx.cell (p := ⟨gd, od + i * 21 + 20, none⟩) (by exact ld0)).trans (hdr 20 _ rfl), (hx.cell (p := ⟨ge, oe + j * 13 + 1, none⟩) (by exact le0)).trans (her 1 _ rfl), (hx.cell (p := ⟨ge, oe + j * 13 + 2, none⟩) (by exact le0)).trans (her 2 _ rfl), (hx.cell (p := ⟨ge, oe + j * 13 + 3, none⟩) (by exact le0)).trans (her 3 _ rfl), (hx.cell (p := ⟨ge, oe + j * 13 + 4, none⟩) (by exact le0)).trans (her 4 _ rfl), (hx.cell (p := ⟨ge, oe + j * 13 + 5, none⟩) (by exact le0)).trans (her 5 _ rfl), (hx.cell (p := ⟨ge, oe + j * 13 + 6, none⟩) (by exact le0)).trans (her 6 _ rfl), (hx.cell (p := ⟨ge, oe + j * 13 + 7, none⟩) (by exact le0)).trans (her 7 _ rfl), (hx.cell (p := ⟨ge, oe + j * 13 + 8, none⟩) (by exact le0)).trans (her 8 _ rfl), (hx.cell (p := ⟨ge, oe + j * 13 + 9, none⟩) (by exact le0)).trans (her 9 _ rfl), (hx.cell (p := ⟨ge, oe + j * 13 + 10, none⟩) (by exact le0)).trans (her 10 _ rfl), (hx.cell (p := ⟨ge, oe + j * 13 + 11, none⟩) (by exact le0)).trans (her 11 _ rfl), (hx.cell (p := ⟨ge, oe + j * 13 + 12, none⟩) (by exact le0)).trans (her 12 _ rfl)⟩ hgx (Nat.lt_of_lt_of_le ld0 hsv) (Nat.lt_of_lt_of_le le0 hsv) hi hj (fun t43 t44 t45 t46 t47 t48 t49 t50 t51 t52 t53 t54 t55 t56 t57 t58 b13 b14 W2 q13 q14 hb2 => ?_)
  refine HK0.out _ _ ?_
  clear HK0 K0 hm1 hx her hdr
  have H2 := Lib.hid (H1.out.below hb2)
  have hm2 := HM1.out.below hb2 HM1.out.lt
  have c1 := hm2.cell 1
  have c2 := hm2.cell 2
  have hgx2 := hm2.lt
  have R13 : W2.rangeAt b13 0 en.r.row := by have := range_blk q13; simpa using this
  have R14 : W2.rangeAt b14 0 d.ans := by have := range_blk q14; simpa using this
  have HM2 := Lib.hid hm2
  clear hm2 hb2 q13 q14 H1 HM1
  dsimp only
  obtain ⟨-, -, hd, hr, hq, h6, hA⟩ := HX.out
  cases be
  · have HS := Lib.hid (rp_step H2.out hd hr hq h6 (hA.keep fun y hy => H2.out.bel.cell (by omega)) (Nat.le_trans hW1 H2.out.bel.size))
    clear hd hr hq h6 hA
    go_wp2_with (first
      | (refine wpList_load_mid rfl 39 (.tmp 13) rfl b13 0 rfl _ _ R13 Tryz.underlying39 rfl infoReq ?_)
      | (refine wpList_load_mid rfl 52 (.tmp 14) rfl b14 0 rfl _ _ R14 Tryz.underlying52 rfl infoAns ?_))
    refine HS.out.mono ?_
    intro e W3 h3
    obtain ⟨rfl, ht, hf, hk3⟩ := h3
    have hgp : W.heap.size ≠ p := by
      obtain ⟨M', T, -, hm, -⟩ := H2.out.mdl
      exact blk_ne HM2.out hm.blk (by decide)
    have d1 := (KeepC.blk HM2.out hk3 hgp).cell 1
    obtain ⟨b, hb⟩ : ∃ b, rpB M en.r d l = b := ⟨_, rfl⟩
    rw [hb] at ht hf ⊢
    rw [hb] at HR HN
    clear hk3 HS hgp hb c1 c2
    cases b
    · have H3 := Lib.hid (hf rfl)
      clear ht hf
      go_wp2_with fail
      exact HR.out (by simp) (by simp) _ _ _ _ _ _ _ _ _ _ _ _ _ _ _ _ _ _ _ _ _ _ _ _ _ _ _ _ _ _ _ _ _ _ _ _ _ _ _ _ _ H3.out.bel
    · have H3 := Lib.hid (ht rfl)
      clear ht hf
      go_wp2_with fail
      refine (w_after _ _ _).mono ?_
      rintro e W4 ⟨rfl, rfl⟩
      go_wp2_with fail
      exact HN.out (.inr (by simp)) _ _ _ _ _ _ _ _ _ _ _ _ _ _ _ _ _ _ _ _ _ _ _ _ _ _ _ _ _ _ _ _ _ _ _ _ _ _ _ _ _ H3.out
  · have HS := Lib.hid (rp_ended (r := en.r) H2.out hd)
    clear hd hr hq h6 hA
    go_wp2_with (first
      | (refine wpList_load_mid rfl 39 (.tmp 13) rfl b13 0 rfl _ _ R13 Tryz.underlying39 rfl infoReq ?_)
      | (refine wpList_load_mid rfl 52 (.tmp 14) rfl b14 0 rfl _ _ R14 Tryz.underlying52 rfl infoAns ?_))
    refine HS.out.mono ?_
    rintro e W3 ⟨rfl, h3⟩
    have H3 := Lib.hid h3
    clear h3 HS
    go_wp2_with fail
    exact HN.out (.inl (by simp)) _ _ _ _ _ _ _ _ _ _ _ _ _ _ _ _ _ _ _ _ _ _ _ _ _ _ _ _ _ _ _ _ _ _ _ _ _ _ _ _ _ H3.out
end Go.Proofs.YtkgflepgkhnclaaGreatDoor
namespace Go.Proofs.YtkgflepgkhnclaaGreatDoor
open Go.RowKit Go.Shelf Go.Sort
set_option linter.unusedVariables false
set_option linter.unusedSimpArgs false

theorem all_swp {p : Mo → Prop} {d : Array Mo} {i j : Nat} (hi : i < d.size) (hj : j < d.size) (h : ∀ k, k < d.size → p d[k]!) : ∀ k, k < (swp d i j).size → p (swp d i j)[k]! := by
  intro k hk
  unfold swp at hk ⊢
  have hk' : k < d.size := by simpa using hk
  by_cases e1 : k = j
  · subst e1
    rw [getElem!_set_same _ _ _ (by simpa using hk')]
    exact h i hi
  · rw [getElem!_set_other _ _ _ _ e1]
    by_cases e2 : k = i
    · subst e2
      rw [getElem!_set_same _ _ _ hk']
      exact h j hj
    · rw [getElem!_set_other _ _ _ _ e2]
      exact h k hk'
theorem all_insInner {p : Mo → Prop} (lt : Mo → Mo → Bool) (a : Nat) : ∀ (j : Nat) (d : Array Mo), j < d.size → (∀ k, k < d.size → p d[k]!) → ∀ k, k < (insInner lt a j d).size → p (insInner lt a j d)[k]!
  | 0, d, _, h => h
  | j + 1, d, hj, h => by
    unfold insInner
    split
    · exact all_insInner lt a j _ (by simp [swp]; omega) (all_swp hj (by omega) h)
    · exact h
theorem all_insOuter {p : Mo → Prop} (lt : Mo → Mo → Bool) (a b : Nat) : ∀ (n i : Nat) (d : Array Mo), b - i = n → b ≤ d.size → (∀ k, k < d.size → p d[k]!) → ∀ k, k < (insOuter lt a b i d).size → p (insOuter lt a b i d)[k]!
  | 0, i, d, h, _, hd => by unfold insOuter; rw [if_neg (by omega)]; exact hd
  | n + 1, i, d, h, hb, hd => by
    unfold insOuter
    rw [if_pos (by omega)]
    exact all_insOuter lt a b n (i + 1) _ (by omega) (by rw [size_insInner]; exact hb) (all_insInner lt a i d (by omega) hd)
theorem sortM_all {p : Mo → Prop} (l : List Mo) (h : ∀ x ∈ l, p x) : ∀ k, k < (insertionSort (ltOf cfM) l.toArray 0 l.length).size → p (insertionSort (ltOf cfM) l.toArray 0 l.length)[k]! :=
  all_insOuter _ _ _ _ _ _ rfl (by simp) (fun k hk => by
    have hk' : k < l.length := by simpa using hk
    rw [getElem!_pos l.toArray k hk]
    exact h _ (by simp))
theorem mosN_mem {ds : List Dn} {x : Mo} (h : x ∈ mosN ds) : ∃ i : Nat, i < ds.length ∧ x.d = i := by
  unfold mosN at h
  rw [List.mem_flatMap] at h
  obtain ⟨⟨d, i⟩, h1, h2⟩ := h
  have := List.snd_lt_of_mem_zipIdx h1
  simp only [List.mem_cons, List.not_mem_nil, or_false] at h2
  rcases h2 with rfl | rfl <;> exact ⟨i, by simpa using this, rfl⟩
/-- What replay comes to. -/
def rpN (es : List Ent) (ds : List Dn) (P : Nat → List Kv) : List Mo → Mdl → Nat
  | [], _ => ds.length
  | x :: r, M => if x.e then rpN es ds P r M else
    match ds[x.d.toNat]? with
    | none => 0
    | some d => match es[d.e.toNat]? with
      | none => 0
      | some en => if rpB M en.r d (P x.d.toNat) then rpN es ds P r (doN M en.r).1 else x.d.toNat
theorem drop_arr {arr : Array Mo} {k : Nat} (hk : k < arr.size) : arr.toList.drop k = arr[k]! :: arr.toList.drop (k + 1) := by
  rw [List.drop_eq_getElem_cons (by simpa using hk), getElem!_pos arr k hk, Array.getElem_toList]
theorem holdsK_range {W : World} {blk : Nat} {arr : Array Mo} (h : HoldsK Mo.row 3 W blk 0 arr) {k : Nat} (hk : k < arr.size) : W.rangeAt blk (0 + k * 3) (arr[k]!).row := fun j v hv => by
  have hj : j < 3 := by
    have := (List.getElem?_eq_some_iff.1 hv).1
    rwa [Mo.row_len] at this
  have ht : k * 3 + j < arr.size * 3 := by omega
  have h1 := (h (k * 3 + j) (by rw [size_flatK]; exact ht)).1
  rw [get_flatK _ _ _ _ ht, show (k * 3 + j) / 3 = k by omega, show (k * 3 + j) % 3 = j by omega] at h1
  rw [show 0 + k * 3 + j = 0 + (k * 3 + j) by omega, h1]
  have h2 := (List.getElem?_eq_some_iff.1 hv)
  obtain ⟨h3, h4⟩ := h2
  rw [getElem!_pos (arr[k]!).row j h3, h4]
  rfl
theorem holdsK_of_own {W : World} {B g cap : Nat} {l : List Mo} (h : W.ownsRow B 204 3 (.slice (some ⟨g, 0, none⟩) l.length cap) l.length (l.flatMap Mo.row)) : HoldsK Mo.row 3 W g 0 l.toArray := fun t ht => by
  rw [size_flatK, List.size_toArray] at ht
  have hb := own_at h rfl
  obtain ⟨-, -, cs, hc⟩ := hb
  refine ⟨?_, by have := hc.frozen (0 + t); exact this⟩
  rw [get_flatK _ _ _ _ (by rw [List.size_toArray]; exact ht)]
  have hk : t / 3 < l.length := by omega
  have hrow := flat_at Mo.row_len l (t / 3) (t % 3) hk (by omega)
  rw [show t / 3 * 3 + t % 3 = t by omega] at hrow
  have h3 : t % 3 < (l[t / 3]).row.length := by rw [Mo.row_len]; omega
  rw [List.getElem?_eq_getElem h3] at hrow
  have := h.cells (g := g) rfl t _ hrow
  have e0 : (⟨g, 0, none⟩ : Addr).add t = ⟨g, t, none⟩ := by simp [Addr.add]; intro h; omega
  rw [e0] at this
  rw [Nat.zero_add, getElem!_pos l.toArray (t / 3) (by simpa using hk)]
  rw [List.getElem_toArray, getElem!_pos (l[t / 3]).row (t % 3) h3]
  exact this
end Go.Proofs.YtkgflepgkhnclaaGreatDoor
namespace Go.Proofs.YtkgflepgkhnclaaGreatDoor
open Go.RowKit Go.Shelf Go.Sort
set_option linter.unusedVariables false
set_option linter.unusedSimpArgs false

def arrM (ds : List Dn) : Array Mo := insertionSort (ltOf cfM) (mosN ds).toArray 0 (mosN ds).length
theorem arrM_size (ds : List Dn) : (arrM ds).size = 2 * ds.length := by
  unfold arrM
  rw [sortM_size, List.size_toArray, mosN_len]
theorem arrM_done (ds : List Dn) {k : Nat} (hk : k < (arrM ds).size) : ∃ i : Nat, i < ds.length ∧ ((arrM ds)[k]!).d = i := sortM_all (p := fun x => ∃ i : Nat, i < ds.length ∧ x.d = i) (mosN ds) (fun x hx => mosN_mem hx) k hk
/-- What Witness hands to replay is in order. -/
structure RpOk (w : World) (es : List Ent) (ds : List Dn) (P : Nat → List Kv) (W1 : Nat) : Prop where
  pos : 0 < ds.length
  few : ds.length < 10
  few2 : es.length ≤ 1000000
  done : ∀ i (hi : i < ds.length), (∃ j : Nat, ds[i].e = j ∧ j < es.length) ∧ DnOk ds[i] (P i) ∧ Reads w W1 2 ds[i].pA (P i).length ((P i).flatMap pairR)
  W1 : W1 ≤ w.heap.size
  ent : ∀ j (hj : j < es.length), es[j].r.ok ∧ es[j].r.qk ≤ 1000000 ∧ es[j].r.deed ≠ 6
set_option maxHeartbeats 6400000 in
set_option maxRecDepth 100000 in
theorem replay_w {w : World} {A D : Option Addr} {es : List Ent} {ds : List Dn} {P : Nat → List Kv} {W1 c c2 : Nat} (hE : EsAt w A es) (hD : DsAt w D ds) (hok : RpOk w es ds P W1) :
    Calls Tryz.prog 76 #[.slice A es.length c, .slice D ds.length c2, .func (.func 77) #[] #[]] w (fun e w' => e = .returned (.int .i64 (rpN es ds P (arrM ds).toList mdl0 : Nat)) ∧ RowKit.Below w.heap.size w w') := by
  obtain ⟨j0, -, hj0⟩ := (hok.done 0 hok.pos).1
  obtain ⟨ge, oe, rfl, le0, her⟩ := hE (by omega)
  have HD0 := Lib.hid hD
  obtain ⟨gd, od, rfl, ld0, hdr⟩ := hD hok.pos
  have HX := Lib.hid (And.intro her (And.intro hdr hok))
  have hfew := hok.few
  have hpos := hok.pos
  have hai := arrM_size ds
  clear hE hD hok her hdr
  go_enter Tryz.func76, Tryz.ntmps76
  refine wp_seq_k fun K0 hK => ?_
  have HK0 := Lib.hid hK
  clear hK
  go_wp2
  refine HK0.out _ _ ?_
  clear HK0 K0
  refine wp_seq_k fun K0 hK => ?_
  have HK0 := Lib.hid hK
  clear hK
  go_wp2
  refine HK0.out _ _ ?_
  clear HK0 K0
  refine wp_seq_k fun K0 hK => ?_
  have HK0 := Lib.hid hK
  clear hK
  refine rp_first HD0.out (by omega) (fun t8 t9 t15 t16 t17 t18 t19 t20 t21 t22 t23 t24 t25 t26 t27 t28 t29 t30 t31 t32 t33 v V hown hbel => ?_)
  refine HK0.out _ _ ?_
  clear HK0 K0
  obtain ⟨blk, cap, rfl, hbg⟩ : ∃ blk cap, v = .slice (some ⟨blk, 0, none⟩) (2 * ds.length) cap ∧ w.heap.size ≤ blk := by
    rcases hown.2 with ⟨_, h0⟩ | ⟨g, cap, cur, hv, hb, _⟩
    · omega
    · exact ⟨g, cap, hv, hb⟩
  have hml := mosN_len ds
  rw [← hml] at hown
  have hH := holdsK_of_own hown
  obtain ⟨-, hblt, cs0, hc0⟩ := own_at hown rfl
  have HBY := Lib.hid (by_mo (mosN ds) (by omega) V blk cap hH hblt (not_U8 hc0 (by decide)))
  rw [hml] at HBY
  have H1 := Lib.hid (And.intro hbel hc0)
  clear hown hH hbel hc0
  dsimp only
  refine wp_seq_k fun K0 hK => ?_
  have HK0 := Lib.hid hK
  clear hK
  go_wp2_with fail
  refine HBY.out.mono ?_
  rintro e V2 ⟨rfl, hk2, hH2, hB2⟩
  have hbel2 : RowKit.Below w.heap.size w V2 := ⟨hk2.os.trans H1.out.1.os, hk2.tape.trans H1.out.1.tape, hk2.output.trans H1.out.1.output, Nat.le_trans H1.out.1.size hk2.size, fun i hi => by
    rw [hk2.block i (Nat.lt_of_lt_of_le hi H1.out.1.size) (.inl (by omega)), H1.out.1.block i hi]⟩
  have hblk2 : ∃ cs, Blk V2 blk 204 cs := hB2 _ _ H1.out.2
  have H2 := Lib.hid (And.intro hbel2 (And.intro hH2 hblk2))
  clear hbel2 hblk2 hH2 hk2 hB2 HBY H1
  go_wp2_with fail
  refine HK0.out _ _ ?_
  clear HK0 K0
  refine wp_seq_k fun K0 hK => ?_
  have HK0 := Lib.hid hK
  clear hK
  go_wp2_with fail
  refine (new_m V2).mono ?_
  rintro e V3 ⟨rfl, hm3, hb3⟩
  have hR3 : RpW w V2.heap.size blk (arrM ds) mdl0 V3 := by
    obtain ⟨cs, hc⟩ := H2.out.2.2
    refine ⟨⟨mdl0, ows0, StLike.refl _, hm3, fun i hi => ?_⟩, smQ0, holdsK_on H2.out.2.1 (hb3.block _ hc.lt), ⟨cs, hc.below hb3 hc.lt⟩, below_trans H2.out.1 hb3⟩
    rcases hi with rfl | ⟨t, ht, hs, _⟩
    · exact H2.out.1.size
    · exact absurd hs (by simp [mdl0, ten0])
  have H3 := Lib.hid hR3
  clear hR3 hm3 hb3 H2
  go_wp2_with fail
  refine HK0.out _ _ ?_
  clear HK0 K0
  refine wp_seq_k fun K0 hK => ?_
  have HKE := Lib.hid hK
  clear hK
  go_wp2
  obtain ⟨p, hp⟩ : ∃ p, V2.heap.size = p := ⟨_, rfl⟩
  rw [hp] at H3 ⊢
  clear hp
  go_loopw [39] (fun i wr => ∃ (k : Nat) (M : Mdl), k ≤ 2 * ds.length ∧ i = .int .i64 k ∧ Hid (rpN es ds P ((arrM ds).toList.drop k) M = rpN es ds P (arrM ds).toList mdl0) ∧ Hid (RpW w p blk (arrM ds) M wr)) (fun i _ => 2 * ds.length - (intOf i).toNat)
  case atStart => exact ⟨0, mdl0, Nat.zero_le _, rfl, Lib.hid rfl, H3⟩
  case round =>
    obtain ⟨k, M, hk, rfl, HCH, HW⟩ := hrel
    by_cases hlt : k < 2 * ds.length
    · have hka : k < (arrM ds).size := by omega
      have hch := HCH.out
      rw [drop_arr hka, rpN] at hch
      obtain ⟨i, hi, hmd⟩ := arrM_done ds hka
      have hmo := holdsK_range HW.out.row hka
      generalize (arrM ds)[k]! = mo at hch hmd hmo
      obtain ⟨her, hdr, hok⟩ := HX.out
      obtain ⟨⟨j, hdj, hj⟩, hdn, hrd⟩ := hok.done i hi
      obtain ⟨h1, h2, h6⟩ := hok.ent j hj
      rw [hmd, Int.toNat_natCast, List.getElem?_eq_getElem hi] at hch
      simp only at hch
      rw [hdj, Int.toNat_natCast, List.getElem?_eq_getElem hj] at hch
      simp only at hch
      have hrr : w.rangeAt ge (oe + j * 13) es[j].row := fun q v hv => by
        have hq : q < 13 := by
          have := (List.getElem?_eq_some_iff.1 hv).1
          rwa [Ent.row_len] at this
        rw [show oe + j * 13 + q = oe + (j * 13 + q) by omega]
        exact her _ _ (by rw [flat_at Ent.row_len es j q hj hq]; exact hv)
      have hdd : w.rangeAt gd (od + i * 21) ds[i].row := fun q v hv => by
        have hq : q < 21 := by
          have := (List.getElem?_eq_some_iff.1 hv).1
          rwa [Dn.row_len] at this
        rw [show od + i * 21 + q = od + (i * 21 + q) by omega]
        exact hdr _ _ (by rw [flat_at Dn.row_len ds i q hi hq]; exact hv)
      have HCS := Lib.hid hch
      have i1 : (0 : Int) ≤ (k : Int) := by omega
      have i2 : (k : Int) < 2 * (ds.length : Int) := by omega
      have i3 : (k : Int) < ((2 * ds.length : Nat) : Int) := by omega
      clear hch her hdr
      refine wp_seq_k fun K1 hK1 => ?_
      have HK1 := Lib.hid hK1
      clear hK1
      go_wp2
      refine HK1.out _ _ ?_
      clear HK1 K1
      refine wp_seq_k fun K1 hK1 => ?_
      have HK1 := Lib.hid hK1
      clear hK1
      go_wp2
      refine HK1.out _ _ ?_
      clear HK1 K1
      refine wp_seq_k fun K3 hK3 => ?_
      have HK3 := Lib.hid hK3
      clear hK3
      refine wp_block ?_
      refine rp_round (mo := mo) (d := ds[i]) (en := es[j]) (l := P i) (i := i) (j := j) (nm := 2 * ds.length) HW.out hrr le0 hdd ld0 hlt hmo hmd hi hdj hj hdn h1 h2 h6 hrd hok.W1 (fun e1 e2 => ?_) (fun e1 => ?_)
      · intro s12 s13 s14 s41 s42 s43 s44 s45 s46 s47 s48 s49 s50 s51 s52 s53 s54 s55 s56 s57 s58 s59 s60 s61 s62 s63 s64 s65 s66 s67 s68 s69 s70 s71 s72 s73 s74 s75 s76 s77 W' hb
        have hv := HCS.out
        rw [e1, e2] at hv
        have HV := Lib.hid hv
        have HB := Lib.hid hb
        clear hv hb
        dsimp only [Exit.inBlock, Exit.then]
        dsimp (config := { zetaDelta := true }) only [Exit.inBlock, Exit.then]
        go_ret
        refine ⟨?_, HB.out⟩
        rw [← HV.out]
        rfl
      · intro s12 s13 s14 s41 s42 s43 s44 s45 s46 s47 s48 s49 s50 s51 s52 s53 s54 s55 s56 s57 s58 s59 s60 s61 s62 s63 s64 s65 s66 s67 s68 s69 s70 s71 s72 s73 s74 s75 s76 s77 W' h3
        have hv := HCS.out
        have hv2 : rpN es ds P ((arrM ds).toList.drop (k + 1)) (if mo.e then M else (doN M es[j].r).1) = rpN es ds P (arrM ds).toList mdl0 := by
          rw [← hv]
          cases hme : mo.e with
          | true => simp
          | false =>
            rw [hme] at e1
            have e2 := e1.resolve_left (by simp)
            simp [e2]
        have HV := Lib.hid (And.intro hv2 h3)
        clear hv hv2 h3 e1
        dsimp only [Exit.inBlock, Exit.then]
        refine HK3.out _ _ ?_
        go_wp2
        go_roundw
        case rel => exact ⟨k + 1, _, by omega, by go_num, Lib.hid HV.out.1, Lib.hid HV.out.2⟩
        case measure => simp [intOf]; omega
    · obtain rfl : k = 2 * ds.length := by omega
      have hE : rpN es ds P (arrM ds).toList mdl0 = ds.length := by
        rw [← HCH.out, List.drop_eq_nil_of_le (by rw [Array.length_toList, arrM_size]; exact Nat.le_refl _)]
        rfl
      have HE := Lib.hid hE
      clear hE
      go_wp2
      refine HKE.out _ _ ?_
      go_wp2
      go_ret
      exact ⟨by rw [HE.out]; rfl, HW.out.bel⟩
end Go.Proofs.YtkgflepgkhnclaaGreatDoor
namespace Go.Proofs.YtkgflepgkhnclaaGreatDoor
open Go.RowKit Go.Shelf
set_option linter.unusedVariables false
set_option linter.unusedSimpArgs false

theorem EsAt.reads {w : World} {A : Option Addr} {es : List Ent} (h : EsAt w A es) : Reads w w.heap.size 13 A es.length (es.flatMap Ent.row) := by
  have hlen : ∀ l : List Ent, (l.flatMap Ent.row).length = l.length * 13 := by
    intro l
    induction l with
    | nil => rfl
    | cons x r ih => rw [List.flatMap_cons, List.length_append, ih, Ent.row_len, List.length_cons]; omega
  refine ⟨hlen es, fun h0 => ?_⟩
  obtain ⟨g, o, rfl, h1, h2⟩ := h h0
  refine ⟨⟨g, o, none⟩, rfl, h1, fun j u hu => ?_⟩
  have e0 : (⟨g, o, none⟩ : Addr).add j = ⟨g, o + j, none⟩ := by
    unfold Addr.add
    by_cases hj : j = 0
    · simp [hj]
    · simp [hj]
  rw [e0]
  exact h2 j u hu
theorem EsAt.below {w w' : World} {A : Option Addr} {es : List Ent} (h : EsAt w A es) (hb : Below w.heap.size w w') : EsAt w' A es := fun h0 => by
  obtain ⟨g, o, h1, h2, h3⟩ := h h0
  exact ⟨g, o, h1, Nat.lt_of_lt_of_le h2 hb.size, fun j v hv => (hb.cell (p := ⟨g, o + j, none⟩) h2).trans (h3 j v hv)⟩
theorem RpOk.below {w w' : World} {es : List Ent} {ds : List Dn} {P : Nat → List Kv} {W1 : Nat} (h : RpOk w es ds P W1) (hb : Below w.heap.size w w') : RpOk w' es ds P W1 :=
  ⟨h.pos, h.few, h.few2, fun i hi => ⟨(h.done i hi).1, (h.done i hi).2.1, (h.done i hi).2.2.keep fun p hp => hb.cell (Nat.lt_of_lt_of_le hp h.W1)⟩, Nat.le_trans h.W1 hb.size, h.ent⟩
/-- Witness, of Dones that are ready. -/
def witN (es : List Ent) (ds : List Dn) (P : Nat → List Kv) : Nat × Int := if rpN es ds P (arrM ds).toList mdl0 < ds.length then (rpN es ds P (arrM ds).toList mdl0, 9) else (ds.length, 0)
set_option maxHeartbeats 1600000 in
theorem witness_any {w : World} {A D : Option Addr} {es : List Ent} {ds : List Dn} {P : Nat → List Kv} {W1 c c2 : Nat} (hE : EsAt w A es) (hD : DsAt w D ds) (hok : RpOk w es ds P W1) (hrd : (readyN es ds).2 = 0) :
    Calls Tryz.prog 35 #[.slice A es.length c, .slice D ds.length c2] w (ChkEnd (witN es ds P) w) := by
  have h1 := hok.few
  have h2 := hok.few2
  have HC := Lib.hid (ready_any (c := c) (c2 := c2) hE.reads hD (by omega) (by omega))
  have HR := Lib.hid (fun (W : World) (hb : Below w.heap.size w W) => replay_w (c := c) (c2 := c2) (hE.below hb) (hD.below hb) (hok.below hb))
  obtain ⟨i, hi⟩ : ∃ i, (readyN es ds).1 = i := ⟨_, rfl⟩
  have hrr : readyN es ds = (i, 0) := by rw [← hi, ← hrd]
  rw [hrr] at HC
  obtain ⟨n, hn⟩ : ∃ n, rpN es ds P (arrM ds).toList mdl0 = n := ⟨_, rfl⟩
  rw [hn] at HR
  have HW : Hid (witN es ds P = if n < ds.length then (n, 9) else (ds.length, 0)) := Lib.hid (by unfold witN; rw [hn])
  clear hE hD hok hrd hi hrr hn
  go_enter Tryz.func35, Tryz.ntmps35
  go_wp2_with fail
  refine HC.out.mono ?_
  rintro e w1 ⟨rfl, hb⟩
  have HB := Lib.hid hb
  clear hb
  go_wp2_with fail
  refine (HR.out _ HB.out).mono ?_
  rintro e w2 ⟨rfl, hb2⟩
  have HB2 := Lib.hid (below_trans HB.out hb2)
  clear hb2
  by_cases hl : n < ds.length
  · have hl' : (n : Int) < (ds.length : Int) := by omega
    go_wp2_with fail
    go_ret2
    exact ⟨by rw [HW.out, if_pos hl]; rfl, HB2.out⟩
  · have hl' : ¬ (n : Int) < (ds.length : Int) := by omega
    go_wp2_with fail
    go_ret2
    exact ⟨by rw [HW.out, if_neg hl]; rfl, HB2.out⟩
end Go.Proofs.YtkgflepgkhnclaaGreatDoor
namespace Go.Proofs.YtkgflepgkhnclaaGreatDoor
open Go.RowKit Go.Shelf
set_option linter.unusedVariables false
set_option linter.unusedSimpArgs false
attribute [local go_sem] run_store_complex

def intV (i : Nat) : Value := .int .i64 (i : Int)
/-- The deed of a Done. -/
def deedD (es : List Ent) (ds : List Dn) (i : Nat) : Option Int := (ds[i]?).bind fun x => (es[x.e.toNat]?).map (·.r.deed)
/-- The Dones that an order has. -/
def deedsN (es : List Ent) (ds : List Dn) (k : Nat) : List Nat := (List.range k).filter fun i => decide (deedD es ds i ≠ some 5)
theorem deedsN_yes {es : List Ent} {ds : List Dn} {k : Nat} (h : deedD es ds k ≠ some 5) : deedsN es ds (k + 1) = deedsN es ds k ++ [k] := by
  unfold deedsN
  rw [List.range_succ, List.filter_append]
  simp [h]
theorem deedsN_no {es : List Ent} {ds : List Dn} {k : Nat} (h : deedD es ds k = some 5) : deedsN es ds (k + 1) = deedsN es ds k := by
  unfold deedsN
  rw [List.range_succ, List.filter_append]
  simp [h]
theorem deedsN_len (es : List Ent) (ds : List Dn) (k : Nat) : (deedsN es ds k).length ≤ k := by
  unfold deedsN
  exact Nat.le_trans (List.length_filter_le _ _) (by simp)
theorem infoInt : (Tryz.prog.info? 3).map (fun i => (i.zero, i.size, i.bytes)) = some (some (.int .i64 0), 1, 8) := by kernel_rfl
/-- A slice of ints of its own. -/
def DeedsEnd (l : List Nat) (w : World) (e : Ending) (w' : World) : Prop := ∃ v, e = .returned v ∧ w'.ownsRow w.heap.size 3 1 v l.length (l.map intV) ∧ Below w.heap.size w w'
set_option maxHeartbeats 3200000 in
set_option maxRecDepth 100000 in
theorem deedsOf_any {w : World} {A D : Option Addr} {es : List Ent} {ds : List Dn} {c c2 : Nat} (hE : EsAt w A es) (hD : DsAt w D ds) (hl : ds.length ≤ 1000000) (hl2 : es.length ≤ 1000000) (hj : ∀ i (hi : i < ds.length), ∃ j : Nat, ds[i].e = j ∧ j < es.length) :
    Calls Tryz.prog 78 #[.slice A es.length c, .slice D ds.length c2] w (DeedsEnd (deedsN es ds ds.length) w) := by
  have HE := Lib.hid hE
  have HD := Lib.hid hD
  have HJ := Lib.hid hj
  have hli : (ds.length : Int) ≤ 1000000 := by omega
  obtain ⟨i0, hi0, iz0, iz1, iz2⟩ := info_parts infoInt
  clear hE hD hj
  go_enter Tryz.func78, Tryz.ntmps78
  go_wp2
  go_loopw [5, 10] (fun v i wr => ∃ k : Nat, k ≤ ds.length ∧ i = .int .i64 k ∧ Hid (wr.ownsRow w.heap.size 3 1 v (deedsN es ds k).length ((deedsN es ds k).map intV) ∧ Below w.heap.size w wr)) (fun _ i _ => ds.length - (intOf i).toNat)
  case atStart => exact ⟨0, Nat.zero_le _, rfl, Lib.hid ⟨⟨by simp [deedsN], .inl ⟨rfl, by simp [deedsN]⟩⟩, Below.refl _ _⟩⟩
  case round =>
    obtain ⟨k, hk, rfl, HW⟩ := hrel
    by_cases hlt : k < ds.length
    · obtain ⟨j, hje, hjl⟩ := HJ.out k hlt
      obtain ⟨ge, oe, hA, hgel, her⟩ := HE.out (by omega)
      subst hA
      have hcd : w.cell? ⟨ge, oe + j * 13 + 1, none⟩ = some (.int .i64 es[j].r.deed) := by
        rw [show oe + j * 13 + 1 = oe + (j * 13 + 1) by omega]
        exact her _ _ (by rw [flat_at Ent.row_len es j 1 hjl (by omega)]; rfl)
      have hdd : deedD es ds k = some es[j].r.deed := by
        unfold deedD
        rw [List.getElem?_eq_getElem hlt]
        simp only [Option.bind_some]
        rw [hje, Int.toNat_natCast, List.getElem?_eq_getElem hjl]
        rfl
      obtain ⟨g, o, rfl, hgl, hrng⟩ := (HD.out.below HW.out.2).at_ hlt
      generalize es[j].r.deed = dd at hcd hdd
      generalize ds[k] = x at hrng hje
      have HDD := Lib.hid hdd
      have hrow1 : x.row.toArray.all (·.oneCell') = true := all_oneCell_toArray (dn_one x)
      have hst := stored_new (w := wr) (t := 90) (lit := #[.int .i64 0, .int .i64 0, .int .i64 0, .int .i64 0, .int .i64 0, .string ⟨#[]⟩, .slice none 0 0, .int .i64 0, .int .u32 0, .int .u8 0, .int .u64 0, .int .u64 0, .int .u64 0, .int .u64 0, .int .u64 0, .int .u64 0, .int .u64 0, .int .u64 0, .int .u64 0, .int .u64 0, .complex .f64 0 0]) (cells := x.row.toArray) rfl
      obtain ⟨l, hlr⟩ : ∃ l, x.row = l := ⟨_, rfl⟩
      have hll : l.length = 21 := by rw [← hlr]; rfl
      have hsz : l.toArray.size = 21 := by rw [List.size_toArray]; exact hll
      rw [hlr] at hrng hrow1 hst
      have HL := Lib.hid hlr
      have i1 : (0 : Int) ≤ (k : Int) := by omega
      have i2 : (k : Int) < (ds.length : Int) := by omega
      have j1 : (0 : Int) ≤ (j : Int) := by omega
      have j2 : (j : Int) < (es.length : Int) := by omega
      have hX0 := And.intro hst.1 (And.intro (ownsRow_below HW.out.1 hst.2 (Nat.le_refl _)) (And.intro (below_trans HW.out.2 hst.2) hst.2.size))
      rw [show l.toArray.toList = l from rfl] at hX0
      have HX1 := Lib.hid hX0
      have HCD := Lib.hid (And.intro hcd hgel)
      have HJE := Lib.hid hje
      clear hgl hst hlr hX0 hdd hcd her hje
      go_upto_region 5 with (first
        | (refine wpList_load_mid rfl 90 (.tmp 13) rfl g (o + k * 21) rfl _ _ hrng Tryz.underlying90 rfl (by rw [hll]; exact infoDn) ?_)
        | (refine wpList_store_mid rfl 90 (.tmp 7) (.tmp 14) rfl wr.heap.size 0 l.toArray rfl rfl (by rw [hsz]; exact there_blk (Blk.new wr 90 #[.int .i64 0, .int .i64 0, .int .i64 0, .int .i64 0, .int .i64 0, .string ⟨#[]⟩, .slice none 0 0, .int .i64 0, .int .u32 0, .int .u8 0, .int .u64 0, .int .u64 0, .int .u64 0, .int .u64 0, .int .u64 0, .int .u64 0, .int .u64 0, .int .u64 0, .int .u64 0, .int .u64 0, .complex .f64 0 0]) (Nat.le_refl 21)) (by rw [hsz]; exact infoDn) hrow1 ?_))
      clear hrng
      generalize (wr.alloc (.cells #[.int .i64 0, .int .i64 0, .int .i64 0, .int .i64 0, .int .i64 0, .string ⟨#[]⟩, .slice none 0 0, .int .i64 0, .int .u32 0, .int .u8 0, .int .u64 0, .int .u64 0, .int .u64 0, .int .u64 0, .int .u64 0, .int .u64 0, .int .u64 0, .int .u64 0, .int .u64 0, .int .u64 0, .complex .f64 0 0] 90)).setCells wr.heap.size 0 l = W0 at HX1 ⊢
      have hb0 : Blk W0 wr.heap.size 90 x.row.toArray := by rw [HL.out]; exact HX1.out.1
      have HX := Lib.hid HX1.out.2
      clear HX1
      obtain ⟨c0, -, -, -⟩ := dn_cells hb0
      rw [HJE.out] at c0
      clear hb0
      have hs0 := HX.out.2.2
      have hcd := (HX.out.2.1.cell (p := ⟨ge, oe + j * 13 + 1, none⟩) HCD.out.2).trans HCD.out.1
      by_cases hd5 : dd = 5
      · subst hd5
        have hN := deedsN_no HDD.out
        have HN := Lib.hid hN
        clear hN
        go_wp2
        go_roundw
        case rel => exact ⟨k + 1, by omega, by go_num, Lib.hid (by rw [HN.out]; exact ⟨HX.out.1, HX.out.2.1⟩)⟩
        case measure => simp [intOf]; omega
      · have hN := deedsN_yes (es := es) (ds := ds) (k := k) (by rw [HDD.out]; simp [hd5])
        have HN := Lib.hid hN
        have hdb : (dd != 5) = true := by simp [hd5]
        have hln := deedsN_len es ds k
        clear hN
        go_wp2_with (first
          | (at_builtin
             refine wpList_append_any _ rfl (.tmp 23) (.tmp 25) _ rfl w.heap.size 3 i0 _ 1 8 Tryz.underlying82 hi0 iz0 iz1 iz2 rfl (by omega) u5 (deedsN es ds k).length ((deedsN es ds k).map intV) rfl
               (HX.out.1.alloc _) _ (some ⟨W0.heap.size, 0, none⟩) 1 1 [.int .i64 (k : Nat)] rfl (reads_of_blk (Blk.new W0 _ _) rfl rfl) (by simp [Value.oneCell']) (by unfold maxLen; omega) (by omega) (by have := HX.out.2.1.size; simp; omega) ?_
             intro v2 w2 hown2 hg2 hat2
             have hbel2 : Below w.heap.size w w2 := below_app (below_alloc HX.out.2.1 _) (HX.out.1.alloc _) hg2 (Nat.le_refl _) (by have := HX.out.2.1.size; simp; omega)))
        clear hg2 hat2
        go_roundw
        case rel =>
          refine ⟨k + 1, by omega, by go_num, Lib.hid ⟨?_, hbel2⟩⟩
          rw [HN.out, List.map_append, List.length_append]
          exact hown2
        case measure => simp [intOf]; omega
    · obtain rfl : k = ds.length := by omega
      go_wp2
      go_ret
      exact ⟨_, rfl, HW.out.1, HW.out.2⟩
end Go.Proofs.YtkgflepgkhnclaaGreatDoor
namespace Go.Proofs.YtkgflepgkhnclaaGreatDoor
set_option linter.unusedVariables false
open Go.Shelf
def lays169_ren : Go.Shelf.Ren := ⟨fun | 169 => 144 | n => n, fun | 70 => 207 | 9 => 9 | 0 => 0 | 72 => 209 | 37 => 135 | 127 => 252 | 3 => 3 | 5 => 5 | n => n, fun | n => n⟩
theorem lays169 : Go.Proofs.Lays.n169 Tryz.prog lays169_ren := {
  mixed := by kernel_rfl
  f169 := Tryz.func144.trans (congrArg some (by kernel_rfl))
  t0 := Tryz.underlying0
  a0 := Tryz.isAgg0
  z0 := Tryz.sizeOf0
  v0 := Tryz.zeroValue0
  t3 := Tryz.underlying3
  a3 := Tryz.isAgg3
  z3 := Tryz.sizeOf3
  v3 := Tryz.zeroValue3
  t9 := Tryz.underlying9
  a9 := Tryz.isAgg9
  z9 := Tryz.sizeOf9
  v9 := Tryz.zeroValue9
  t37 := Tryz.underlying135
  a37 := Tryz.isAgg135
  z37 := Tryz.sizeOf135
  v37 := Tryz.zeroValue135
  t70 := Tryz.underlying207
  a70 := Tryz.isAgg207
  z70 := Tryz.sizeOf207
  v70 := Tryz.zeroValue207
  t72 := Tryz.underlying209
  a72 := Tryz.isAgg209
  z72 := Tryz.sizeOf209
  v72 := Tryz.zeroValue209
  t127 := Tryz.underlying252
  a127 := Tryz.isAgg252
  z127 := Tryz.sizeOf252
  v127 := Tryz.zeroValue252 }
theorem builderExtra : Builder.Extra Tryz.prog lays169_ren := {
  sizeBuilder := by kernel_rfl
  liesBuilder := by kernel_rfl
  t5 := Tryz.underlying5
  a5 := Tryz.isAgg5
  z5 := Tryz.sizeOf5
  v5 := Tryz.zeroValue5
  infoByte := by kernel_rfl
  cellsByte := by kernel_rfl
  sizeByte := by kernel_rfl
  neB5 := by decide }
open Go.RowKit in
/-- (*strings.Builder).String: "String returns the accumulated string.": WHATEVER THE BUILDER HOLDS. (LAID: no walk: one application.) -/
theorem lib_String (B b : Nat) (l : List UInt8) (w : World) (h : Lib.IsBuilder 209 5 B b (Lib.byteCells l) w) (hBw : B ≤ w.heap.size) :
    Calls Tryz.prog 144 #[.pointer (some ⟨b, 0, none⟩)] w fun e w' => e = .returned (.string ⟨l.toArray⟩) ∧ Below B w w' := Any.Builder_String_any lays169 builderExtra B b l w h hBw
def lays177_ren : Go.Shelf.Ren := ⟨fun | 177 => 143 | 250 => 182 | 289 => 220 | 197 => 247 | 323 => 248 | 260 => 261 | 339 => 262 | 340 => 263 | 242 => 264 | 119 => 265 | 345 => 272 | 346 => 273 | 278 => 274 | n => n, fun | 9 => 9 | 5 => 5 | 4 => 4 | 3 => 3 | 37 => 135 | 21 => 21 | 105 => 311 | 46 => 97 | 119 => 329 | 0 => 0 | 139 => 332 | 138 => 331 | 49 => 333 | 234 => 334 | 131 => 167 | 51 => 34 | 236 => 336 | n => n, fun | 3 => 3 | 4 => 4 | 20 => 5 | 21 => 6 | 22 => 7 | 23 => 8 | 24 => 9 | n => n⟩
theorem lays177 : Go.Proofs.Lays.n177 Tryz.prog lays177_ren := {
  mixed := by kernel_rfl
  f119 := Tryz.func265.trans (congrArg some (by kernel_rfl))
  f177 := Tryz.func143.trans (congrArg some (by kernel_rfl))
  f197 := Tryz.func247.trans (congrArg some (by kernel_rfl))
  f242 := Tryz.func264.trans (congrArg some (by kernel_rfl))
  f250 := Tryz.func182.trans (congrArg some (by kernel_rfl))
  f260 := Tryz.func261.trans (congrArg some (by kernel_rfl))
  f278 := Tryz.func274.trans (congrArg some (by kernel_rfl))
  f289 := Tryz.func220.trans (congrArg some (by kernel_rfl))
  f323 := Tryz.func248.trans (congrArg some (by kernel_rfl))
  f339 := Tryz.func262.trans (congrArg some (by kernel_rfl))
  f340 := Tryz.func263.trans (congrArg some (by kernel_rfl))
  f345 := Tryz.func272.trans (congrArg some (by kernel_rfl))
  f346 := Tryz.func273.trans (congrArg some (by kernel_rfl))
  t0 := Tryz.underlying0
  a0 := Tryz.isAgg0
  z0 := Tryz.sizeOf0
  v0 := Tryz.zeroValue0
  t3 := Tryz.underlying3
  a3 := Tryz.isAgg3
  z3 := Tryz.sizeOf3
  v3 := Tryz.zeroValue3
  t4 := Tryz.underlying4
  a4 := Tryz.isAgg4
  z4 := Tryz.sizeOf4
  v4 := Tryz.zeroValue4
  t5 := Tryz.underlying5
  a5 := Tryz.isAgg5
  z5 := Tryz.sizeOf5
  v5 := Tryz.zeroValue5
  t9 := Tryz.underlying9
  a9 := Tryz.isAgg9
  z9 := Tryz.sizeOf9
  v9 := Tryz.zeroValue9
  t21 := Tryz.underlying21
  a21 := Tryz.isAgg21
  z21 := Tryz.sizeOf21
  v21 := Tryz.zeroValue21
  t37 := Tryz.underlying135
  a37 := Tryz.isAgg135
  z37 := Tryz.sizeOf135
  v37 := Tryz.zeroValue135
  t46 := Tryz.underlying97
  a46 := Tryz.isAgg97
  z46 := Tryz.sizeOf97
  v46 := Tryz.zeroValue97
  t49 := Tryz.underlying333
  a49 := Tryz.isAgg333
  z49 := Tryz.sizeOf333
  v49 := Tryz.zeroValue333
  t51 := Tryz.underlying34
  a51 := Tryz.isAgg34
  z51 := Tryz.sizeOf34
  v51 := Tryz.zeroValue34
  t105 := Tryz.underlying311
  a105 := Tryz.isAgg311
  z105 := Tryz.sizeOf311
  v105 := Tryz.zeroValue311
  t119 := Tryz.underlying329
  a119 := Tryz.isAgg329
  z119 := Tryz.sizeOf329
  t131 := Tryz.underlying167
  a131 := Tryz.isAgg167
  z131 := Tryz.sizeOf167
  v131 := Tryz.zeroValue167
  t138 := Tryz.underlying331
  a138 := Tryz.isAgg331
  z138 := Tryz.sizeOf331
  v138 := Tryz.zeroValue331
  t139 := Tryz.underlying332
  a139 := Tryz.isAgg332
  z139 := Tryz.sizeOf332
  v139 := Tryz.zeroValue332
  t234 := Tryz.underlying334
  a234 := Tryz.isAgg334
  z234 := Tryz.sizeOf334
  v234 := Tryz.zeroValue334
  t236 := Tryz.underlying336
  a236 := Tryz.isAgg336
  z236 := Tryz.sizeOf336
  v236 := Tryz.zeroValue336
  g3 := by kernel_rfl
  g4 := by kernel_rfl
  g20 := by kernel_rfl
  g21 := by kernel_rfl
  g22 := by kernel_rfl
  g23 := by kernel_rfl
  g24 := by kernel_rfl }
open Go.RowKit in
/-- **strconv.Quote AT EVERY STRING, VALID UTF-8 OR NOT** (of at most some 2^43 bytes: ten bytes may come of one): 'strOfNums (Lib.quoteZ T s)': Derived/Lib/QuoteLoop.lean: a row of Lean a statement of Go. Of what was there nothing has turned. (LAID: no walk: one application.) -/
theorem lib_Quote (T : Lib.PrintTabs) (s : ByteArray) (w : World) (hlen : 10 * s.size + 12 ≤ 140737488355328) (hT : Lib.PrintTabsAt 5 6 7 8 T w) (hU : Lib.Utf8Tabs 3 4 w) :
    Calls Tryz.prog 143 #[.string s] w fun e w' => e = .returned (.string (strOfNums (Lib.quoteZ T s))) ∧ Below w.heap.size w w' := Any.strconv_Quote lays177 (by kernel_rfl) T s w hlen hT hU
def lays283_ren : Go.Shelf.Ren := ⟨fun | 283 => 215 | n => n, fun | 3 => 3 | 9 => 9 | 4 => 4 | n => n, fun | n => n⟩
theorem lays283 : Go.Proofs.Lays.n283 Tryz.prog lays283_ren := {
  mixed := by kernel_rfl
  f283 := Tryz.func215.trans (congrArg some (by kernel_rfl))
  t3 := Tryz.underlying3
  a3 := Tryz.isAgg3
  z3 := Tryz.sizeOf3
  v3 := Tryz.zeroValue3
  t4 := Tryz.underlying4
  a4 := Tryz.isAgg4
  z4 := Tryz.sizeOf4
  v4 := Tryz.zeroValue4
  t9 := Tryz.underlying9
  a9 := Tryz.isAgg9
  z9 := Tryz.sizeOf9
  v9 := Tryz.zeroValue9 }
open Go.Lib in
/-- internal/strconv.small: "small returns the string for an i with 0 <= i < nSmalls.": i's decimal numeral. The world is as it was. (LAID: no walk: one application.) -/
theorem lib_small (i : Nat) (h : i < 100) (w : World) :
    Calls Tryz.prog 215 #[.int .i64 i] w fun e w' => e = .returned (.string ⟨(Lib.decDigits i).toArray⟩) ∧ w' = w := Any.internal_strconv_small lays283 i h w
def laysM171_ren : Go.Shelf.Ren := ⟨fun | 171 => 80 | 243 => 140 | 246 => 179 | 283 => 215 | 284 => 216 | 285 => 217 | 286 => 218 | 129 => 207 | 317 => 243 | 318 => 244 | 319 => 245 | 320 => 246 | 337 => 259 | 338 => 260 | n => n, fun | 3 => 3 | 9 => 9 | 2 => 2 | 4 => 4 | 171 => 284 | 0 => 0 | 53 => 27 | 37 => 135 | 5 => 5 | 173 => 286 | 212 => 309 | 51 => 34 | 20 => 20 | 213 => 310 | 46 => 97 | 232 => 327 | 233 => 328 | n => n, fun | 17 => 0 | 18 => 1 | 19 => 2 | n => n⟩
end Go.Proofs.YtkgflepgkhnclaaGreatDoor
namespace Go.Proofs.YtkgflepgkhnclaaGreatDoor
set_option linter.unusedVariables false
open Go.Shelf
def lays171_ren : Go.Shelf.Ren := ⟨fun | 171 => 80 | 243 => 140 | 246 => 179 | 283 => 215 | 284 => 216 | 285 => 217 | 286 => 218 | 129 => 207 | 317 => 243 | 318 => 244 | 319 => 245 | 320 => 246 | 337 => 259 | 338 => 260 | n => n, fun | 3 => 3 | 9 => 9 | 2 => 2 | 4 => 4 | 171 => 284 | 0 => 0 | 53 => 27 | 37 => 135 | 5 => 5 | 173 => 286 | 212 => 309 | 51 => 34 | 20 => 20 | 213 => 310 | 46 => 97 | 232 => 327 | 233 => 328 | n => n, fun | 17 => 0 | 18 => 1 | 19 => 2 | n => n⟩
theorem lays171 : Go.Proofs.Lays.n171 Tryz.prog lays171_ren := {
  mixed := by kernel_rfl
  f129 := Tryz.func207.trans (congrArg some (by kernel_rfl))
  f171 := Tryz.func80.trans (congrArg some (by kernel_rfl))
  f243 := Tryz.func140.trans (congrArg some (by kernel_rfl))
  f246 := Tryz.func179.trans (congrArg some (by kernel_rfl))
  f283 := Tryz.func215.trans (congrArg some (by kernel_rfl))
  f284 := Tryz.func216.trans (congrArg some (by kernel_rfl))
  f285 := Tryz.func217.trans (congrArg some (by kernel_rfl))
  f286 := Tryz.func218.trans (congrArg some (by kernel_rfl))
  f317 := Tryz.func243.trans (congrArg some (by kernel_rfl))
  f318 := Tryz.func244.trans (congrArg some (by kernel_rfl))
  f319 := Tryz.func245.trans (congrArg some (by kernel_rfl))
  f320 := Tryz.func246.trans (congrArg some (by kernel_rfl))
  f337 := Tryz.func259.trans (congrArg some (by kernel_rfl))
  f338 := Tryz.func260.trans (congrArg some (by kernel_rfl))
  t0 := Tryz.underlying0
  a0 := Tryz.isAgg0
  z0 := Tryz.sizeOf0
  v0 := Tryz.zeroValue0
  t2 := Tryz.underlying2
  a2 := Tryz.isAgg2
  z2 := Tryz.sizeOf2
  v2 := Tryz.zeroValue2
  t3 := Tryz.underlying3
  a3 := Tryz.isAgg3
  z3 := Tryz.sizeOf3
  v3 := Tryz.zeroValue3
  t4 := Tryz.underlying4
  a4 := Tryz.isAgg4
  z4 := Tryz.sizeOf4
  v4 := Tryz.zeroValue4
  t5 := Tryz.underlying5
  a5 := Tryz.isAgg5
  z5 := Tryz.sizeOf5
  v5 := Tryz.zeroValue5
  t9 := Tryz.underlying9
  a9 := Tryz.isAgg9
  z9 := Tryz.sizeOf9
  v9 := Tryz.zeroValue9
  t20 := Tryz.underlying20
  a20 := Tryz.isAgg20
  z20 := Tryz.sizeOf20
  v20 := Tryz.zeroValue20
  t37 := Tryz.underlying135
  a37 := Tryz.isAgg135
  z37 := Tryz.sizeOf135
  v37 := Tryz.zeroValue135
  t46 := Tryz.underlying97
  a46 := Tryz.isAgg97
  z46 := Tryz.sizeOf97
  v46 := Tryz.zeroValue97
  t51 := Tryz.underlying34
  a51 := Tryz.isAgg34
  z51 := Tryz.sizeOf34
  v51 := Tryz.zeroValue34
  t53 := Tryz.underlying27
  a53 := Tryz.isAgg27
  z53 := Tryz.sizeOf27
  v53 := Tryz.zeroValue27
  t171 := Tryz.underlying284
  a171 := Tryz.isAgg284
  z171 := Tryz.sizeOf284
  v171 := Tryz.zeroValue284
  t173 := Tryz.underlying286
  a173 := Tryz.isAgg286
  z173 := Tryz.sizeOf286
  v173 := Tryz.zeroValue286
  t212 := Tryz.underlying309
  a212 := Tryz.isAgg309
  z212 := Tryz.sizeOf309
  v212 := Tryz.zeroValue309
  t213 := Tryz.underlying310
  a213 := Tryz.isAgg310
  z213 := Tryz.sizeOf310
  t232 := Tryz.underlying327
  a232 := Tryz.isAgg327
  z232 := Tryz.sizeOf327
  v232 := Tryz.zeroValue327
  t233 := Tryz.underlying328
  a233 := Tryz.isAgg328
  z233 := Tryz.sizeOf328
  v233 := Tryz.zeroValue328
  g17 := by kernel_rfl
  g18 := by kernel_rfl
  g19 := by kernel_rfl }
open Go.RowKit Go.Sort Go.Lib in
/-- THE ROAD WITHOUT THE TABLE: 0 <= i < 100: NO PREMISE ON THE WORLD, AND THE WORLD IS AS IT WAS: a row that keeps its argument in that range need list no table ('laid = []'). (LAID: no walk: one application.) -/
theorem lib_Itoa_small (i : Nat) (hi : i < 100) (w : World) :
    Calls Tryz.prog 80 #[.int .i64 i] w fun e w' => e = .returned (.string ⟨(Lib.decDigits i).toArray⟩) ∧ w' = w := Any.strconv_Itoa_small lays171 i hi w
end Go.Proofs.YtkgflepgkhnclaaGreatDoor
