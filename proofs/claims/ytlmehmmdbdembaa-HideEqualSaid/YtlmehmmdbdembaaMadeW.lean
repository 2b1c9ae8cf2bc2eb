/-
  Walks: burgagelaw27.Made.
-/
import Derived.Test.YtlmehmmdbdembaaMadeW4
import Derived.Test.YtlmehmmdbdembaaMadeW1
namespace Go.Proofs.Ytlmehmmdbdembaa
open Go.RowKit
set_option linter.unusedVariables false
set_option linter.unusedSimpArgs false

/-- Entries as Made makes them. -/
def MadeOk (es : List Ent) : Prop := ∀ x ∈ es, (0 ≤ x.ses ∧ x.ses ≤ 3) ∧ Small x.r
/-- What Made comes to. -/
def MadeEnd (n : Nat) (w : World) (e : Ending) (w' : World) : Prop :=
  ∃ (es : List Ent) (v : Value), e = .returned v ∧ w'.ownsRow w.heap.size 46 13 v es.length (es.flatMap Ent.row) ∧ Below w.heap.size w w' ∧ MadeOk es ∧ es.length = 2 + min n 20

def made2 : List Ent := [⟨0, ⟨7, 0, 0, 0, ⟨#[]⟩, ⟨#[]⟩, ⟨#[]⟩, 0, 1, 4, 24, 0⟩⟩, ⟨0, ⟨7, 0, 0, 0, ⟨#[]⟩, ⟨#[]⟩, ⟨#[]⟩, 0, 2, 9, 90, 0⟩⟩]
theorem made2_ok : MadeOk made2 := by
  intro x hx
  simp only [made2, List.mem_cons, List.not_mem_nil, or_false] at hx
  rcases hx with rfl | rfl <;> exact ⟨by decide, by constructor <;> decide⟩

theorem infoEntriesM : (Try.prog.info? 46).map (fun i => (i.zero, i.size, i.bytes)) = some (some (.agg #[.int .i64 0, .int .i64 0, .int .i64 0, .int .u32 0, .int .u8 0, .string ⟨#[]⟩, .string ⟨#[]⟩, .string ⟨#[]⟩, .int .i64 0, .int .i64 0, .int .u64 0, .int .u64 0, .int .u8 0]), 13, 120) := by kernel_rfl
set_option maxHeartbeats 6400000 in
set_option maxRecDepth 100000 in
theorem made_loop (cs : List Cod) (A : Option Addr) (cap m gk : Nat) (v : Value) (es0 : List Ent) {u0 u1 u2 u5 u6 u7 u8 u9 u10 u11 u12 u13 u14 u15 u16 u17 u18 u19 u20 u24 u25 u26 u27 u28 u29 u30 u31 u32 u33 u34 u35 u36 u37 u38 u39 u40 u41 u42 u43 u44 u45 u46 u47 u48 u49 u50 u51 u52 u53 u54 u55 u56 u57 u58 u59 u60 u61 u62 u63 u64 u65 u66 u67 u68 u69 u70 u71 u72 u73 u74 u75 u76 u77 u78 u79 u80 u81 u82 u83 u84 u85 u86 u87 u88 u89 u90 u91 u92 u93 u94 u95 u96 u97 u98 u99 u100 u101 u102 u103 u104 u105 u106 u107 u108 u109 u110 u111 u112 u113 u114 u115 u116 u117 u118 u119 u120 u121 u122 u123 u124 u125 u126 u127 u128 u129 u130 u131 u132 u133 u134 u135 u136 u137 u138 u139 : Value} (w wx : World) {Q : Exit → Act → World → Prop} (hA : Reads w w.heap.size 6 A cs.length (cs.flatMap Cod.row)) (hok : ∀ c ∈ cs, c.ok) (hm : m ≤ cs.length) (hm2 : m ≤ 20) (he0 : es0.length ≤ 2) (he : MadeOk es0)
    (hown : wx.ownsRow w.heap.size 46 13 v es0.length (es0.flatMap Ent.row)) (hkw : Blk wx gk 9 kws) (hbel : Below w.heap.size w wx)
    (hQ : ∀ (s6 s7 s8 s24 s25 s26 s27 s28 s29 s30 s31 s32 s33 s34 s35 s36 s37 s38 s39 s40 s41 s42 s43 s44 s45 s46 s47 s48 s49 s50 s51 s52 s53 s54 s55 s56 s57 s58 s59 s60 s61 s62 s63 s64 s65 s66 s67 s68 s69 s70 s71 s72 s73 s74 s75 s76 s77 s78 s79 s80 s81 s82 s83 s84 s85 s86 s87 s88 s89 s90 s91 s92 s93 s94 s95 s96 s97 s98 s99 s100 s101 s102 s103 s104 s105 s106 s107 s108 s109 s110 s111 s112 s113 s114 s115 s116 s117 s118 s119 s120 s121 s122 s123 s124 s125 s126 s127 s128 s129 s130 s131 s132 s133 s134 s135 s136 s137 s138 : Value) (es : List Ent) (v' : Value) (W' : World), es.length = es0.length + m → MadeOk es → W'.ownsRow w.heap.size 46 13 v' es.length (es.flatMap Ent.row) → Below w.heap.size w W' → Q .normal ⟨#[u0, u1, u2, v', .slice (some ⟨gk, 0, none⟩) 8 8, u5, s6, s7, s8, u9, u10, u11, u12, u13, u14, u15, u16, u17, u18, u19, u20, .slice A m cap, .int .i64 m, .int .i64 m, s24, s25, s26, s27, s28, s29, s30, s31, s32, s33, s34, s35, s36, s37, s38, s39, s40, s41, s42, s43, s44, s45, s46, s47, s48, s49, s50, s51, s52, s53, s54, s55, s56, s57, s58, s59, s60, s61, s62, s63, s64, s65, s66, s67, s68, s69, s70, s71, s72, s73, s74, s75, s76, s77, s78, s79, s80, s81, s82, s83, s84, s85, s86, s87, s88, s89, s90, s91, s92, s93, s94, s95, s96, s97, s98, s99, s100, s101, s102, s103, s104, s105, s106, s107, s108, s109, s110, s111, s112, s113, s114, s115, s116, s117, s118, s119, s120, s121, s122, s123, s124, s125, s126, s127, s128, s129, s130, s131, s132, s133, s134, s135, s136, s137, s138, u139], []⟩ W') :
    Code.wp Try.prog (part Try.f28 [1, 1, 1, 0, 1]) Q ⟨#[u0, u1, u2, v, .slice (some ⟨gk, 0, none⟩) 8 8, u5, u6, u7, u8, u9, u10, u11, u12, u13, u14, u15, u16, u17, u18, u19, u20, .slice A m cap, .int .i64 m, .int .i64 0, u24, u25, u26, u27, u28, u29, u30, u31, u32, u33, u34, u35, u36, u37, u38, u39, u40, u41, u42, u43, u44, u45, u46, u47, u48, u49, u50, u51, u52, u53, u54, u55, u56, u57, u58, u59, u60, u61, u62, u63, u64, u65, u66, u67, u68, u69, u70, u71, u72, u73, u74, u75, u76, u77, u78, u79, u80, u81, u82, u83, u84, u85, u86, u87, u88, u89, u90, u91, u92, u93, u94, u95, u96, u97, u98, u99, u100, u101, u102, u103, u104, u105, u106, u107, u108, u109, u110, u111, u112, u113, u114, u115, u116, u117, u118, u119, u120, u121, u122, u123, u124, u125, u126, u127, u128, u129, u130, u131, u132, u133, u134, u135, u136, u137, u138, u139], []⟩ wx := by
  conv => arg 2; whnf
  have HQ := Lib.hid hQ
  have HA := Lib.hid hA
  have HOK := Lib.hid hok
  have HE := Lib.hid (And.intro he (And.intro hown (And.intro hkw hbel)))
  obtain ⟨i0, hi0, iz0, iz1, iz2⟩ := info_parts infoEntriesM
  clear hQ hA hok he hown hkw hbel
  go_wp2_with fail
  go_loopw [3, 23] (fun v i wr => ∃ (k : Nat) (es : List Ent), k ≤ m ∧ i = .int .i64 k ∧ es.length = es0.length + k ∧ Hid (MadeOk es ∧ wr.ownsRow w.heap.size 46 13 v es.length (es.flatMap Ent.row) ∧ Blk wr gk 9 kws ∧ Below w.heap.size w wr)) (fun _ i _ => m - (intOf i).toNat)
  case atStart => exact ⟨0, es0, Nat.zero_le _, rfl, rfl, HE⟩
  case round =>
    obtain ⟨k, es, hk, rfl, hel, HW⟩ := hrel
    have hel := Lib.hid hel
    rename_i hel0
    clear hel0
    by_cases hlt : k < m
    · have hltc : k < cs.length := by omega
      obtain ⟨ad, rfl, hab, hc⟩ := row_cells Cod.row_len HA.out rfl hltc
      have hcc : ∀ j u, (Cod.row cs[k])[j]? = some u → wr.cell? ((ad.add (k * 6)).add j) = some u := fun j u hu => (HW.out.2.2.2.cell (by rw [block_of_add, block_of_add]; exact hab)).trans (hc j u hu)
      have hcok := HOK.out _ (List.getElem_mem hltc)
      generalize cs[k] = c at hcc hcok
      have HC := Lib.hid hcok
      have p0 : wr.cell? (ad.add (k * 6)) = some (.int .u8 c.s) := by have := hcc 0 _ rfl; rwa [add_of_add] at this
      have p1 : wr.cell? ⟨(ad.add (k * 6)).block, (ad.add (k * 6)).off + 1, none⟩ = some (.int .u8 c.d) := by have := hcc 1 _ rfl; exact this
      have p2 : wr.cell? ⟨(ad.add (k * 6)).block, (ad.add (k * 6)).off + 2, none⟩ = some (.int .u8 c.k) := by have := hcc 2 _ rfl; exact this
      have p3 : wr.cell? ⟨(ad.add (k * 6)).block, (ad.add (k * 6)).off + 3, none⟩ = some (.int .u8 c.v) := by have := hcc 3 _ rfl; exact this
      have p4 : wr.cell? ⟨(ad.add (k * 6)).block, (ad.add (k * 6)).off + 4, none⟩ = some (.int .u8 c.h) := by have := hcc 4 _ rfl; exact this
      have p5 : wr.cell? ⟨(ad.add (k * 6)).block, (ad.add (k * 6)).off + 5, none⟩ = some (.int .u8 c.x) := by have := hcc 5 _ rfl; exact this
      have i1 : (0 : Int) ≤ (k : Int) := by omega
      have i2 : (k : Int) < (m : Int) := by omega
      have hM0 : M0 w gk wr.heap.size u3 es.length (es.flatMap Ent.row) c (wr.alloc (.cells #[.int .u8 c.s, .int .u8 c.d, .int .u8 c.k, .int .u8 c.v, .int .u8 c.h, .int .u8 c.x] 92)) := ⟨HW.out.2.2.1.alloc _, Blk.new _ _ _, HW.out.2.1.alloc _, below_alloc HW.out.2.2.2 _⟩
      have HM0 := Lib.hid hM0
      clear hc hcc hcok hM0
      go_upto_region 6 with fail
      rename_i K0 hK
      have HK0 := Lib.hid hK
      clear hK p0 p1 p2 p3 p4 p5 i1 i2
      generalize wr.alloc (.cells #[.int .u8 c.s, .int .u8 c.d, .int .u8 c.k, .int .u8 c.v, .int .u8 c.h, .int .u8 c.x] 92) = W0 at HM0 ⊢
      refine m6 _ _ HM0.out HC.out (fun _ _ _ _ _ _ _  gr d W1 hd hM1 hb1 hg1 => ?_)
      refine HK0.out _ _ ?_
      clear HK0 K0
      have hr : Small ⟨d, 0, 0, 0, ⟨#[]⟩, ⟨#[]⟩, ⟨#[]⟩, 0, 0, 0, 0, 0⟩ := ⟨hd, by dsimp only; decide, by dsimp only; decide, by dsimp only; decide, by dsimp only; decide, by dsimp only; decide, by dsimp only; decide, by dsimp only; decide, by dsimp only; decide, by dsimp only; decide, by dsimp only; decide, by dsimp only; decide⟩
      have hM : MIn w gk wr.heap.size gr u3 es.length (es.flatMap Ent.row) c ⟨d, 0, 0, 0, ⟨#[]⟩, ⟨#[]⟩, ⟨#[]⟩, 0, 0, 0, 0, 0⟩ W1 := ⟨hM1, hb1, hg1⟩
      generalize (⟨d, 0, 0, 0, ⟨#[]⟩, ⟨#[]⟩, ⟨#[]⟩, 0, 0, 0, 0, 0⟩ : Req) = r at hr hM
      clear hM1 hb1 hg1 hd
      refine wp_seq_k fun K0 hK => ?_
      have HK0 := Lib.hid hK
      clear hK
      refine m7 _ _ hM hr HC.out (fun _ _ _ _ _  tn W2 hM2 ht1 ht2 => ?_)
      refine HK0.out _ _ ?_
      clear HK0 K0 hM
      refine wp_seq_k fun K0 hK => ?_
      have HK0 := Lib.hid hK
      clear hK
      refine mS _ _ hM2 hr HC.out ⟨ht1, ht2⟩ (fun _ _ _ _ _ _ _ _ _ _ _ _ _ _ _ _ _ _ _ _ _ _ _ _ _ _ _ _ _ _ _ _ _ _ _ _ _ _ _ _ _ _ _ _ _ _ _ _ _ _ _ _ _ _ _ _ _ _ _ _ _ _ _ _ _ _ _ _ _ _ _ _ _ _ _ _ _ _ _ _ _ _ _ _ _ _ _ _ _ _  r2 W3 hM3 hr2 => ?_)
      refine HK0.out _ _ ?_
      clear HK0 K0 hM2 hr
      obtain ⟨⟨hk1, hk2, hk3, hk4⟩, hk5, hk6⟩ := hM3
      obtain ⟨q0, q1, q2, q3, q4, q5, q6, q7, q8, q9, q10, q11⟩ := req_cells hk5
      obtain ⟨c0, c1, c2, c3, c4, c5⟩ := cod_cells hk2
      obtain ⟨b, hb, hb0, hb1⟩ := tmod_in (x := c.s) 4 (by have := HC.out.s; omega) (by decide)
      have hoX := Lib.hid (And.intro hk3 (And.intro hk1 hk4))
      clear hk1 hk2 hk3 hk4 hk5 hk6
      go_wp2_with
        (at_builtin
         refine wpList_append_any _ rfl (.tmp 129) (.tmp 136) _ rfl w.heap.size 46 i0 _ 13 120 Try.underlying38 hi0 iz0 iz1 iz2 rfl (by omega) u3 es.length (es.flatMap Ent.row) rfl
             (hoX.out.1.alloc _) _ (some ⟨W3.heap.size, 0, none⟩) 1 1 (Ent.row ⟨b, r2⟩) rfl (reads_of_blk (blk_newAt (by simp)) rfl rfl) (ent_one _) (by have := hel.out; unfold maxLen; omega) (by have := hel.out; omega) (by have := hoX.out.2.2.size; simp; omega) ?_
         intro v2 w2 hown2 hg2 hat2
         have hbel2 : Below w.heap.size w w2 := below_app (below_alloc hoX.out.2.2 _) (hoX.out.1.alloc _) hg2 (Nat.le_refl _) (by have := hoX.out.2.2.size; simp; omega)
         have hkw2 : Blk w2 gk 9 kws := (hoX.out.2.1.alloc _).grown hg2 (Ne.symm (own_blk_ne hoX.out.1 hoX.out.2.1 (by decide))))
      clear hg2 hat2
      go_roundw
      case rel =>
        refine ⟨k + 1, es ++ [⟨b, r2⟩], by omega, by go_num, by rw [List.length_append, hel.out]; rfl, Lib.hid ⟨?_, ?_, hkw2, hbel2⟩⟩
        · intro x hx
          rcases List.mem_append.1 hx with hx | hx
          · exact HW.out.1 x hx
          · obtain rfl := List.mem_singleton.1 hx
            exact ⟨⟨hb0, by dsimp only; omega⟩, hr2⟩
        · rw [List.length_append, List.flatMap_append, List.flatMap_singleton]
          exact hown2
      case measure => simp [intOf]; omega
    · obtain rfl : k = m := by omega
      go_wp2
      exact HQ.out _ _ _ _ _ _ _ _ _ _ _ _ _ _ _ _ _ _ _ _ _ _ _ _ _ _ _ _ _ _ _ _ _ _ _ _ _ _ _ _ _ _ _ _ _ _ _ _ _ _ _ _ _ _ _ _ _ _ _ _ _ _ _ _ _ _ _ _ _ _ _ _ _ _ _ _ _ _ _ _ _ _ _ _ _ _ _ _ _ _ _ _ _ _ _ _ _ _ _ _ _ _ _ _ _ _ _ _ _ _ _ _ _ _ _ _ _ _ _ _ _ hel.out HW.out.1 HW.out.2.1 HW.out.2.2.2

set_option maxHeartbeats 3200000 in
set_option maxRecDepth 100000 in
theorem made_any (cs : List Cod) (A : Option Addr) (cap : Nat) (w : World) (hA : Reads w w.heap.size 6 A cs.length (cs.flatMap Cod.row)) (hok : ∀ c ∈ cs, c.ok) (hl : cs.length ≤ cap) (hc : cap ≤ 9223372036854775807) :
    Calls Try.prog 28 #[.slice A cs.length cap] w (MadeEnd cs.length w) := by
  have HA := Lib.hid hA
  have HOK := Lib.hid hok
  have HD := Lib.hid made2_ok
  have H2 := Lib.hid (show Blk ((w.alloc (.cells (made2.flatMap Ent.row).toArray 46)).alloc (.cells kws 9)) w.heap.size 46 (made2.flatMap Ent.row).toArray from (Blk.new _ _ _).alloc _)
  have H3 := Lib.hid (show Blk ((w.alloc (.cells (made2.flatMap Ent.row).toArray 46)).alloc (.cells kws 9)) (w.heap.size + 1) 9 kws from blk_newAt (by simp))
  have H4 := Lib.hid (show Below w.heap.size w ((w.alloc (.cells (made2.flatMap Ent.row).toArray 46)).alloc (.cells kws 9)) from below_alloc (below_box w _) _)
  clear hA hok
  by_cases h20 : cs.length ≤ 20
  all_goals
    go_enter Try.func28, Try.ntmps28
    refine wp_seq_k fun K0 hK0 => ?_
    have HK0 := Lib.hid hK0
    clear hK0
    go_wp2_with fail
    refine HK0.out _ _ ?_
    clear HK0 K0
    refine wp_seq_k fun K0 hK0 => ?_
    have HK0 := Lib.hid hK0
    clear hK0
    go_wp2_with fail
    refine HK0.out _ _ ?_
    clear HK0 K0
    refine wp_seq_k fun K0 hK0 => ?_
    have HK0 := Lib.hid hK0
    clear hK0
    go_wp2_with fail
    refine HK0.out _ _ ?_
    clear HK0 K0
    refine wp_seq_k fun K1 hK1 => ?_
    have HK1 := Lib.hid hK1
    clear hK1
    refine wp_seq_k fun K0 hK0 => ?_
    have HK0 := Lib.hid hK0
    clear hK0
    go_wp2_with fail
    refine HK0.out _ _ ?_
    clear HK0 K0
  · refine made_loop cs A cap cs.length (w.heap.size + 1) _ made2 w _ HA.out HOK.out (Nat.le_refl _) h20 (by decide) HD.out (H2.out.own (Nat.le_refl _) (n := 2) (c := 2) (by decide) (by decide) rfl rfl) H3.out H4.out (fun _ _ _ _ _ _ _ _ _ _ _ _ _ _ _ _ _ _ _ _ _ _ _ _ _ _ _ _ _ _ _ _ _ _ _ _ _ _ _ _ _ _ _ _ _ _ _ _ _ _ _ _ _ _ _ _ _ _ _ _ _ _ _ _ _ _ _ _ _ _ _ _ _ _ _ _ _ _ _ _ _ _ _ _ _ _ _ _ _ _ _ _ _ _ _ _ _ _ _ _ _ _ _ _ _ _ _ _ _ _ _ _ _ _ _ _ _ _  es v' W' h1 h2 h3 h4 => ?_)
    have HF := Lib.hid (show MadeEnd cs.length w (.returned v') W' from ⟨es, v', rfl, h3, h4, h2, by rw [h1, Nat.min_eq_left h20]; rfl⟩)
    clear h1 h2 h3 h4
    refine HK1.out _ _ ?_
    clear HK1 K1
    go_wp2
    go_ret
    exact HF.out
  · refine made_loop cs A cap 20 (w.heap.size + 1) _ made2 w _ HA.out HOK.out (by omega) (by decide) (by decide) HD.out (H2.out.own (Nat.le_refl _) (n := 2) (c := 2) (by decide) (by decide) rfl rfl) H3.out H4.out (fun _ _ _ _ _ _ _ _ _ _ _ _ _ _ _ _ _ _ _ _ _ _ _ _ _ _ _ _ _ _ _ _ _ _ _ _ _ _ _ _ _ _ _ _ _ _ _ _ _ _ _ _ _ _ _ _ _ _ _ _ _ _ _ _ _ _ _ _ _ _ _ _ _ _ _ _ _ _ _ _ _ _ _ _ _ _ _ _ _ _ _ _ _ _ _ _ _ _ _ _ _ _ _ _ _ _ _ _ _ _ _ _ _ _ _ _ _ _  es v' W' h1 h2 h3 h4 => ?_)
    have HF := Lib.hid (show MadeEnd cs.length w (.returned v') W' from ⟨es, v', rfl, h3, h4, h2, by rw [h1, Nat.min_eq_right (by omega)]; rfl⟩)
    clear h1 h2 h3 h4
    refine HK1.out _ _ ?_
    clear HK1 K1
    go_wp2
    go_ret
    exact HF.out
end Go.Proofs.Ytlmehmmdbdembaa
