/-
  Layer 27: order: Check.
  Layer 27: order: Check, ready.
  Layer 27: order: moments; the sort's comparison.
  Layer 27: order: moments are sorted (at most nineteen).
  Layer 27: packages load and stat: a deed is recorded (that it returns; the numbers themselves are left open).
  Layer 27: packages load and stat: Next, more, count, counterOf.
  Layer 27: stat.After: the counters of an event are raised.
  Layer 27: stat.Is, stat.After at one event, stat.Next.
  Layer 27: stat.After at one event.
  Layer 27: stat.After at one event (deed 1).
  Layer 27: stat.After at one event (deed 2).
-/
import Derived.Test.YtkgflepgkhnclaaGreatDoorOth
import Derived.Shelf.SlSortCmp.InsertionK
import Derived.Test.YtkgflepgkhnclaaGreatDoorOtd
import Derived.Test.YtkgflepgkhnclaaGreatDoorOte
import Derived.Shelf.Spec.BitsCarry
namespace Go.Proofs.YtkgflepgkhnclaaGreatDoor
open Go.RowKit Go.Shelf
set_option linter.unusedVariables false
set_option linter.unusedSimpArgs false
attribute [local go_sem] run_store_complex

def ChkEnd (r : Nat × Int) (w : World) (e : Ending) (w' : World) : Prop := e = .returned (.tuple #[.int .i64 (r.1 : Nat), .int .i64 r.2]) ∧ Below w.heap.size w w'
theorem chkN_step (es : List Ent) (tf : Int → Option Int) (x : Dn) (r : List Dn) (i : Nat) (sn pk : Int → Bool) : chkN es tf (x :: r) i sn pk =
    if x.e < 0 ∨ x.e ≥ es.length then (i, (6 : Int)) else if sn x.e then (i, 8) else if badD pk x then (i, 4)
    else if lateD tf (match es[x.e.toNat]? with | some y => befN es y.ses x.e.toNat | none => -1) x.f then (i, 15)
    else chkN es tf r (i + 1) (updB sn x.e) (updB (updB (updB pk x.f) x.a) x.t) := rfl
set_option maxHeartbeats 6400000 in
set_option maxRecDepth 100000 in
theorem chk_second {w W : World} {A D : Option Addr} {es : List Ent} {ds : List Dn} {c c2 gm gs gp : Nat} {u2 u3 u4 u5 u7 u8 u9 u10 u13 u14 u15 u16 u17 u18 u19 u20 u21 u22 u23 u24 u25 u26 u27 u28 u29 u30 u31 u32 u33 u34 u35 u36 u37 u38 u39 u40 u41 u42 u43 u44 u45 u46 u47 u48 u49 u50 u51 u52 u53 u54 u55 u56 u57 u58 u59 u60 u61 u62 u63 u64 u65 u66 u67 u68 u69 u70 u71 u72 u73 u74 u75 u76 u77 u78 u79 u80 u81 u82 u83 u84 u85 u86 u87 u88 u89 u90 u91 u92 u93 u94 u95 u96 u97 u98 u99 u100 u101 u102 u103 u104 u105 u106 u107 u108 u109 u110 u111 u112 u113 u114 u115 u116 u117 u118 u119 u120 u121 u122 u123 u124 u125 u126 u127 u128 u129 u130 u131 u132 u133 u134 u135 u136 u137 u138 u139 : Value} (hA : Reads w w.heap.size 13 A es.length (es.flatMap Ent.row)) (hD : DsAt w D ds) (hle : es.length ≤ 9223372036854775806) (hld : ds.length ≤ 9223372036854775806)
    (hC : C2 w gm gs gp (toF ds) (fun _ => false) (fun _ => false) W) :
    Code.wp Tryz.prog (part Tryz.f52 [1, 1, 1, 1]) (bodyPost Tryz.prog Tryz.f52 (ChkEnd (checkN es ds) w)) ⟨#[.slice A es.length c, .slice D ds.length c2, u2, u3, u4, u5, .map (some gm), u7, u8, u9, u10, .map (some gs), .map (some gp), u13, u14, u15, u16, u17, u18, u19, u20, u21, u22, u23, u24, u25, u26, u27, u28, u29, u30, u31, u32, u33, u34, u35, u36, u37, u38, u39, u40, u41, u42, u43, u44, u45, u46, u47, u48, u49, u50, u51, u52, u53, u54, u55, u56, u57, u58, u59, u60, u61, u62, u63, u64, u65, u66, u67, u68, u69, u70, u71, u72, u73, u74, u75, u76, u77, u78, u79, u80, u81, u82, u83, u84, u85, u86, u87, u88, u89, u90, u91, u92, u93, u94, u95, u96, u97, u98, u99, u100, u101, u102, u103, u104, u105, u106, u107, u108, u109, u110, u111, u112, u113, u114, u115, u116, u117, u118, u119, u120, u121, u122, u123, u124, u125, u126, u127, u128, u129, u130, u131, u132, u133, u134, u135, u136, u137, u138, u139], []⟩ W := by
  conv => arg 2; whnf
  have HA := Lib.hid hA
  have HD := Lib.hid hD
  have HC := Lib.hid hC
  have hli : (ds.length : Int) ≤ 9223372036854775806 := by omega
  have hei : (es.length : Int) ≤ 9223372036854775806 := by omega
  clear hA hD hC
  go_upto_region 10 with fail
  rename_i K0 hK K1 hK1
  have HKE := Lib.hid hK
  clear hK
  go_wp2_with fail
  go_loopw [44] (fun i wr => ∃ (k : Nat) (sn pk : Int → Bool), k ≤ ds.length ∧ i = .int .i64 k ∧ Hid (chkN es (toF ds) (ds.drop k) k sn pk = checkN es ds) ∧ Hid (C2 w gm gs gp (toF ds) sn pk wr)) (fun i _ => ds.length - (intOf i).toNat)
  case atStart => exact ⟨0, _, _, Nat.zero_le _, rfl, Lib.hid rfl, HC⟩
  case round =>
    obtain ⟨k, sn, pk, hk, rfl, HCH, HW⟩ := hrel
    by_cases hlt : k < ds.length
    · obtain ⟨g, o, rfl, hgl, hrng⟩ := (HD.out.below HW.out.bel).at_ hlt
      have hch := HCH.out
      rw [List.drop_eq_getElem_cons hlt, chkN_step] at hch
      generalize ds[k] = x at hrng hch
      have HCS := Lib.hid hch
      clear hch
      have hrow1 : x.row.toArray.all (·.oneCell') = true := all_oneCell_toArray (dn_one x)
      have hst := stored_new (w := wr) (t := 90) (lit := #[.int .i64 0, .int .i64 0, .int .i64 0, .int .i64 0, .int .i64 0, .string ⟨#[]⟩, .slice none 0 0, .int .i64 0, .int .u32 0, .int .u8 0, .int .u64 0, .int .u64 0, .int .u64 0, .int .u64 0, .int .u64 0, .int .u64 0, .int .u64 0, .int .u64 0, .int .u64 0, .int .u64 0, .complex .f64 0 0]) (cells := x.row.toArray) rfl
      obtain ⟨l, hlr⟩ : ∃ l, x.row = l := ⟨_, rfl⟩
      have hll : l.length = 21 := by rw [← hlr]; rfl
      have hsz : l.toArray.size = 21 := by rw [List.size_toArray]; exact hll
      rw [hlr] at hrng hrow1 hst
      have HL := Lib.hid hlr
      have i1 : (0 : Int) ≤ (k : Int) := by omega
      have i2 : (k : Int) < (ds.length : Int) := by omega
      have hX0 := And.intro hst.1 (HW.out.below hst.2)
      rw [show l.toArray.toList = l from rfl] at hX0
      have HX1 := Lib.hid hX0
      clear hgl hst hlr hX0
      go_upto_region 12 with fail
      rename_i K2 hK2
      have HK2 := Lib.hid hK2
      clear hK2
      go_wp2_with (first
        | (refine wpList_load_mid rfl 90 (.tmp 47) rfl g (o + k * 21) rfl _ _ hrng Tryz.underlying90 rfl (by rw [hll]; exact infoDn) ?_)
        | (refine wpList_store_mid rfl 90 (.tmp 14) (.tmp 48) rfl wr.heap.size 0 l.toArray rfl rfl (by rw [hsz]; exact there_blk (Blk.new wr 90 #[.int .i64 0, .int .i64 0, .int .i64 0, .int .i64 0, .int .i64 0, .string ⟨#[]⟩, .slice none 0 0, .int .i64 0, .int .u32 0, .int .u8 0, .int .u64 0, .int .u64 0, .int .u64 0, .int .u64 0, .int .u64 0, .int .u64 0, .int .u64 0, .int .u64 0, .int .u64 0, .int .u64 0, .complex .f64 0 0]) (Nat.le_refl 21)) (by rw [hsz]; exact infoDn) hrow1 ?_))
      clear hrng
      generalize (wr.alloc (.cells #[.int .i64 0, .int .i64 0, .int .i64 0, .int .i64 0, .int .i64 0, .string ⟨#[]⟩, .slice none 0 0, .int .i64 0, .int .u32 0, .int .u8 0, .int .u64 0, .int .u64 0, .int .u64 0, .int .u64 0, .int .u64 0, .int .u64 0, .int .u64 0, .int .u64 0, .int .u64 0, .int .u64 0, .complex .f64 0 0] 90)).setCells wr.heap.size 0 l = W0 at HX1 ⊢
      have HX : Hid (Blk W0 wr.heap.size 90 x.row.toArray ∧ C2 w gm gs gp (toF ds) sn pk W0) := Lib.hid (by rw [HL.out]; exact HX1.out)
      clear HX1
      obtain ⟨c0, c1, c2', c3⟩ := dn_cells HX.out.1
      refine HK2.out _ _ ?_
      clear HK2 K2
      refine wp_seq_k fun K3 hK3 => ?_
      have HK3 := Lib.hid hK3
      clear hK3
      by_cases ha : x.e < 0
      · have HE : Hid (checkN es ds = (k, 6)) := Lib.hid (by rw [← HCS.out, if_pos (.inl ha)])
        go_wp2
        go_ret2
        exact ⟨by rw [HE.out]; rfl, HX.out.2.bel⟩
      · by_cases hg : x.e ≥ (es.length : Int)
        · have HE : Hid (checkN es ds = (k, 6)) := Lib.hid (by rw [← HCS.out, if_pos (.inr hg)])
          go_wp2
          go_ret2
          exact ⟨by rw [HE.out]; rfl, HX.out.2.bel⟩
        · have hc2 := HCS.out
          rw [if_neg (fun h => h.elim ha hg)] at hc2
          have hsn := HX.out.2.ms.get x.e
          obtain ⟨q, hq⟩ : ∃ q, sn x.e = q := ⟨_, rfl⟩
          rw [hq] at hsn hc2
          clear hq
          cases q
          · simp only [Bool.false_eq_true, if_false] at hc2
            have hpf := HX.out.2.mp.get x.f
            have hpa := HX.out.2.mp.get x.a
            have hpt := HX.out.2.mp.get x.t
            by_cases b1 : x.f < 0
            · have HE : Hid (checkN es ds = (k, 4)) := Lib.hid (by rw [← hc2, if_pos (by simp [badD, b1])])
              clear hc2
              go_wp2_with fail
              go_ret2
              exact ⟨by rw [HE.out]; rfl, HX.out.2.bel⟩
            · by_cases b2 : x.f > x.a
              · have HE : Hid (checkN es ds = (k, 4)) := Lib.hid (by rw [← hc2, if_pos (by simp [badD, b2])])
                clear hc2
                go_wp2_with fail
                go_ret2
                exact ⟨by rw [HE.out]; rfl, HX.out.2.bel⟩
              · by_cases b3 : x.a > x.t
                · have HE : Hid (checkN es ds = (k, 4)) := Lib.hid (by rw [← hc2, if_pos (by simp [badD, b3])])
                  clear hc2
                  go_wp2_with fail
                  go_ret2
                  exact ⟨by rw [HE.out]; rfl, HX.out.2.bel⟩
                · obtain ⟨pf, hpf2⟩ : ∃ q, pk x.f = q := ⟨_, rfl⟩
                  obtain ⟨pa, hpa2⟩ : ∃ q, pk x.a = q := ⟨_, rfl⟩
                  obtain ⟨pt, hpt2⟩ : ∃ q, pk x.t = q := ⟨_, rfl⟩
                  have HP := Lib.hid (And.intro hpf2 (And.intro hpa2 hpt2))
                  rw [hpf2] at hpf
                  rw [hpa2] at hpa
                  rw [hpt2] at hpt
                  clear hpf2 hpa2 hpt2
                  cases pf
                  · cases pa
                    · cases pt
                      · have hbd : badD pk x = false := by simp [badD, HP.out.1, HP.out.2.1, HP.out.2.2]; omega
                        rw [hbd] at hc2
                        simp only [Bool.false_eq_true, if_false] at hc2
                        obtain ⟨j, hj⟩ : ∃ j : Nat, x.e = j := ⟨x.e.toNat, by omega⟩
                        have hjl : j < es.length := by omega
                        rw [hj, Int.toNat_natCast, List.getElem?_eq_getElem hjl] at hc2
                        simp only at hc2
                        have HC3 := Lib.hid hc2
                        have HJ := Lib.hid hj
                        clear hc2 hj hbd
                        go_wp2_with fail
                        refine HK3.out _ _ (chk_tail HX.out.2 HX.out.1 HA.out HJ.out hjl (by omega) (fun hL => ?_) (fun hL => ?_))
                        · intro s15 s16 s17 s104 s105 s106 s107 s108 s109 s110 s111 s112 s113 s114 s115 s116 s117 s118 s119 s120 s121 s122 s123 s124 s125 s126 s127 s128 s129 s130 s131 s132 s133 s134 s135 s136 W' hb'
                          have HE : Hid (checkN es ds = (k, 15)) := Lib.hid (by rw [← HC3.out, if_pos hL])
                          have HBB := Lib.hid hb'
                          dsimp only [Exit.inBlock, Exit.then]
                          go_ret2
                          exact ⟨by rw [HE.out]; rfl, HBB.out⟩
                        · intro s15 s16 s17 s104 s105 s106 s107 s108 s109 s110 s111 s112 s113 s114 s115 s116 s117 s118 s119 s120 s121 s122 s123 s124 s125 s126 s127 s128 s129 s130 s131 s132 s133 s134 s135 W' hc'
                          have h4 := HC3.out
                          rw [if_neg (by rw [hL]; simp)] at h4
                          have HH := Lib.hid (And.intro h4 hc')
                          clear hc' h4 hL
                          dsimp only [Exit.inBlock, Exit.then]
                          go_wp2_with fail
                          go_roundw
                          case rel =>
                            refine ⟨k + 1, _, _, by omega, by go_num, Lib.hid HH.out.1, Lib.hid ?_⟩
                            have h5 := HH.out.2
                            rw [HJ.out] at h5
                            exact h5
                          case measure => simp [intOf]; omega
                      · have HE : Hid (checkN es ds = (k, 4)) := Lib.hid (by rw [← hc2, if_pos (by simp [badD, HP.out.2.2])])
                        clear hc2
                        go_wp2_with fail
                        go_ret2
                        exact ⟨by rw [HE.out]; rfl, HX.out.2.bel⟩
                    · have HE : Hid (checkN es ds = (k, 4)) := Lib.hid (by rw [← hc2, if_pos (by simp [badD, HP.out.2.1])])
                      clear hc2
                      go_wp2_with fail
                      go_ret2
                      exact ⟨by rw [HE.out]; rfl, HX.out.2.bel⟩
                  · have HE : Hid (checkN es ds = (k, 4)) := Lib.hid (by rw [← hc2, if_pos (by simp [badD, HP.out.1])])
                    clear hc2
                    go_wp2_with fail
                    go_ret2
                    exact ⟨by rw [HE.out]; rfl, HX.out.2.bel⟩
          · simp only [if_true] at hc2
            have HE : Hid (checkN es ds = (k, 8)) := Lib.hid hc2.symm
            clear hc2
            go_wp2_with fail
            go_ret2
            exact ⟨by rw [HE.out]; rfl, HX.out.2.bel⟩
    · obtain rfl : k = ds.length := by omega
      have hE : checkN es ds = (ds.length, 0) := by rw [← HCH.out, List.drop_length]; rfl
      rw [hE] at HKE ⊢
      go_wp2
      refine HKE.out _ _ ?_
      go_wp2
      go_ret2
      exact ⟨rfl, HW.out.bel⟩
end Go.Proofs.YtkgflepgkhnclaaGreatDoor
namespace Go.Proofs.YtkgflepgkhnclaaGreatDoor
open Go.RowKit Go.Shelf
set_option linter.unusedVariables false
set_option linter.unusedSimpArgs false

set_option maxHeartbeats 6400000 in
set_option maxRecDepth 100000 in
theorem Check_any {w : World} {A D : Option Addr} {es : List Ent} {ds : List Dn} {c c2 : Nat} (hA : Reads w w.heap.size 13 A es.length (es.flatMap Ent.row)) (hD : DsAt w D ds) (hle : es.length ≤ 9223372036854775806) (hld : ds.length ≤ 9223372036854775806) :
    Calls Tryz.prog 52 #[.slice A es.length c, .slice D ds.length c2] w (ChkEnd (checkN es ds) w) := by
  have hmm := @run_makeMap Tryz.prog
  have h1 : C1 w w.heap.size (fun _ => none) (w.alloc (.map #[] 0)) := ⟨MapI.made w, Nat.le_refl _, below_box _ _⟩
  have H1 := Lib.hid h1
  have HA := Lib.hid hA
  have HD := Lib.hid hD
  clear h1 hA hD
  go_enter Tryz.func52, Tryz.ntmps52
  refine wp_seq_k fun K0 hK => ?_
  have HK0 := Lib.hid hK
  clear hK
  go_wp2
  refine HK0.out _ _ ?_
  clear HK0 K0
  refine wp_seq_k fun K0 hK => ?_
  have HK0 := Lib.hid hK
  clear hK
  go_wp2
  refine HK0.out _ _ ?_
  clear HK0 K0
  generalize w.alloc (.map #[] 0) = W0 at H1 ⊢
  refine wp_seq_k fun K0 hK => ?_
  have HK0 := Lib.hid hK
  clear hK
  refine chk_first HD.out (by omega) H1.out (fun s8 s9 s10 s19 s20 s21 s22 s23 s24 s25 s26 s27 s28 s29 s30 s31 s32 s33 s34 s35 s36 s37 s38 s39 W1 h1 => ?_)
  have H2 := Lib.hid h1
  clear h1
  refine HK0.out _ _ ?_
  clear HK0 K0
  dsimp only
  refine wp_seq_k fun K0 hK => ?_
  have HK0 := Lib.hid hK
  clear hK
  go_wp2
  refine HK0.out _ _ ?_
  clear HK0 K0
  have hb1 : Below W1.heap.size W1 (W1.alloc (.map #[] 0)) := below_box _ _
  have hb2 : Below W1.heap.size W1 ((W1.alloc (.map #[] 0)).alloc (.map #[] 0)) := below_alloc hb1 _
  have hm := H2.out.1.lt
  have hs := H2.out.2.2.size
  have hC : C2 w w.heap.size W1.heap.size (W1.heap.size + 1) (toF ds) (fun _ => false) (fun _ => false) ((W1.alloc (.map #[] 0)).alloc (.map #[] 0)) := by
    refine ⟨H2.out.1.below hb2, (MapB.made W1).below (below_box _ _), ?_, by omega, ⟨by omega, by omega⟩, ⟨hs, by omega⟩, below_trans H2.out.2.2 hb2⟩
    have := MapB.made (W1.alloc (.map #[] 0))
    rw [World.size_alloc] at this
    exact this
  have HC := Lib.hid hC
  clear hC hb1 hb2 hm
  exact chk_second HA.out HD.out hle hld HC.out
/-- ready: Check's error, or that some entry has no Done. -/
def readyN (es : List Ent) (ds : List Dn) : Nat × Int := if (checkN es ds).2 = 0 ∧ ds.length < es.length then ((checkN es ds).1, 15) else checkN es ds
set_option maxHeartbeats 1600000 in
theorem ready_any {w : World} {A D : Option Addr} {es : List Ent} {ds : List Dn} {c c2 : Nat} (hA : Reads w w.heap.size 13 A es.length (es.flatMap Ent.row)) (hD : DsAt w D ds) (hle : es.length ≤ 9223372036854775806) (hld : ds.length ≤ 9223372036854775806) :
    Calls Tryz.prog 75 #[.slice A es.length c, .slice D ds.length c2] w (ChkEnd (readyN es ds) w) := by
  have HC := Lib.hid (Check_any (c := c) (c2 := c2) hA hD hle hld)
  have hli : (ds.length : Int) ≤ 9223372036854775806 := by omega
  have hei : (es.length : Int) ≤ 9223372036854775806 := by omega
  obtain ⟨R, hR⟩ : ∃ R, checkN es ds = R := ⟨_, rfl⟩
  have HR : Hid (readyN es ds = if R.2 = 0 ∧ ds.length < es.length then (R.1, 15) else R) := Lib.hid (by unfold readyN; rw [hR])
  rw [hR] at HC
  clear hA hD hR
  obtain ⟨i, e⟩ := R
  go_enter Tryz.func75, Tryz.ntmps75
  go_wp2_with fail
  refine HC.out.mono ?_
  rintro e' w1 ⟨rfl, hb⟩
  have HB := Lib.hid hb
  clear hb
  by_cases h0 : e = 0
  · have z0 : (e == 0) = true := by simpa using h0
    by_cases hl : ds.length < es.length
    · have hl' : (ds.length : Int) < (es.length : Int) := by omega
      go_wp2_with fail
      go_ret2
      exact ⟨by rw [HR.out, if_pos ⟨h0, hl⟩]; rfl, HB.out⟩
    · have hl' : ¬ (ds.length : Int) < (es.length : Int) := by omega
      go_wp2_with fail
      go_ret2
      exact ⟨by rw [HR.out, if_neg (fun h => hl h.2), h0]; rfl, HB.out⟩
  · have z0 : (e == 0) = false := by simpa using h0
    go_wp2_with fail
    go_ret2
    exact ⟨by rw [HR.out, if_neg (fun h => h0 h.1)]; rfl, HB.out⟩
end Go.Proofs.YtkgflepgkhnclaaGreatDoor
namespace Go.Proofs.YtkgflepgkhnclaaGreatDoor
open Go.RowKit Go.Shelf Go.Sort
set_option linter.unusedVariables false
set_option linter.unusedSimpArgs false

/-- A moment: its pick, its Done, whether the Done ends. -/
structure Mo where
  p : Int
  d : Int
  e : Bool
instance : Inhabited Mo := ⟨⟨0, 0, false⟩⟩
def Mo.row (x : Mo) : List Value := [.int .i64 x.p, .int .i64 x.d, .bool x.e]
theorem Mo.row_len (x : Mo) : x.row.length = 3 := rfl
theorem mo_one (x : Mo) : ∀ u ∈ x.row, u.oneCell' = true := by simp [Mo.row, Value.oneCell']
def cfM (x y : Mo) : Int := IntKind.i64.wrap (x.p - y.p)
theorem key_mo (x : Mo) (W : World) : Calls Tryz.prog 139 #[.agg #[.int .i64 x.p, .int .i64 x.d, .bool x.e]] W (fun e w' => e = .returned (.int .i64 x.p) ∧ w' = W.alloc (.cells #[.int .i64 x.p, .int .i64 x.d, .bool x.e] 204)) := by
  go_enter Tryz.func139, Tryz.ntmps139
  go_wp2
  go_ret
  exact ⟨rfl, rfl⟩
set_option maxHeartbeats 1600000 in
set_option maxRecDepth 100000 in
theorem cmp_mo (bk : Nat) (x y : Mo) (W : World) (hc : W.cell? ⟨bk, 0, none⟩ = some (.func (.func 139) #[] #[])) :
    Calls Tryz.prog 178 #[.agg #[.int .i64 x.p, .int .i64 x.d, .bool x.e], .agg #[.int .i64 y.p, .int .i64 y.d, .bool y.e], .pointer (some ⟨bk, 0, none⟩)] W (fun e w' => e = .returned (.int .i64 (cfM x y)) ∧ ∃ q os', w' = grow (W.drewN q) os') := by
  have hbk : bk < W.heap.size := World.block_lt_of_cell? W _ hc
  have hc2 : ∀ o1 o2, ((W.alloc o1).alloc o2).cell? ⟨bk, 0, none⟩ = some (.func (.func 139) #[] #[]) := fun o1 o2 => by
    rw [World.cell?_alloc_lt _ _ _ (by simp; exact Nat.lt_succ_of_lt hbk), World.cell?_alloc_lt _ _ _ hbk]; exact hc
  have hB1 : Blk ((W.alloc (.cells #[.int .i64 x.p, .int .i64 x.d, .bool x.e] 204)).alloc (.cells #[.int .i64 y.p, .int .i64 y.d, .bool y.e] 204)) W.heap.size 204 #[.int .i64 x.p, .int .i64 x.d, .bool x.e] := (Blk.new W _ _).alloc _
  have hB2 : Blk ((W.alloc (.cells #[.int .i64 x.p, .int .i64 x.d, .bool x.e] 204)).alloc (.cells #[.int .i64 y.p, .int .i64 y.d, .bool y.e] 204)) (W.heap.size + 1) 204 #[.int .i64 y.p, .int .i64 y.d, .bool y.e] := blk_at (by simp)
  have H0 : ((W.alloc (.cells #[.int .i64 x.p, .int .i64 x.d, .bool x.e] 204)).alloc (.cells #[.int .i64 y.p, .int .i64 y.d, .bool y.e] 204)).drew.cell? ⟨bk, 0, none⟩ = some (.func (.func 139) #[] #[]) ∧ ((W.alloc (.cells #[.int .i64 x.p, .int .i64 x.d, .bool x.e] 204)).alloc (.cells #[.int .i64 y.p, .int .i64 y.d, .bool y.e] 204)).drew.cell? ⟨W.heap.size, 0, none⟩ = some (.int .i64 x.p) ∧ ((W.alloc (.cells #[.int .i64 x.p, .int .i64 x.d, .bool x.e] 204)).alloc (.cells #[.int .i64 y.p, .int .i64 y.d, .bool y.e] 204)).drew.cell? ⟨W.heap.size, 1, none⟩ = some (.int .i64 x.d) ∧ ((W.alloc (.cells #[.int .i64 x.p, .int .i64 x.d, .bool x.e] 204)).alloc (.cells #[.int .i64 y.p, .int .i64 y.d, .bool y.e] 204)).drew.cell? ⟨W.heap.size, 2, none⟩ = some (.bool x.e) ∧ ((W.alloc (.cells #[.int .i64 x.p, .int .i64 x.d, .bool x.e] 204)).alloc (.cells #[.int .i64 y.p, .int .i64 y.d, .bool y.e] 204)).drew.cell? ⟨W.heap.size + 1, 0, none⟩ = some (.int .i64 y.p) ∧ ((W.alloc (.cells #[.int .i64 x.p, .int .i64 x.d, .bool x.e] 204)).alloc (.cells #[.int .i64 y.p, .int .i64 y.d, .bool y.e] 204)).drew.cell? ⟨W.heap.size + 1, 1, none⟩ = some (.int .i64 y.d) ∧ ((W.alloc (.cells #[.int .i64 x.p, .int .i64 x.d, .bool x.e] 204)).alloc (.cells #[.int .i64 y.p, .int .i64 y.d, .bool y.e] 204)).drew.cell? ⟨W.heap.size + 1, 2, none⟩ = some (.bool y.e) := ⟨hc2 _ _, hB1.cell 0, hB1.cell 1, hB1.cell 2, hB2.cell 0, hB2.cell 1, hB2.cell 2⟩
  have up1 : ((W.alloc (.cells #[.int .i64 x.p, .int .i64 x.d, .bool x.e] 204)).alloc (.cells #[.int .i64 y.p, .int .i64 y.d, .bool y.e] 204)).drew.cell? ⟨bk, 0, none⟩ = some (.func (.func 139) #[] #[]) ∧ ((W.alloc (.cells #[.int .i64 x.p, .int .i64 x.d, .bool x.e] 204)).alloc (.cells #[.int .i64 y.p, .int .i64 y.d, .bool y.e] 204)).drew.cell? ⟨W.heap.size, 0, none⟩ = some (.int .i64 x.p) ∧ ((W.alloc (.cells #[.int .i64 x.p, .int .i64 x.d, .bool x.e] 204)).alloc (.cells #[.int .i64 y.p, .int .i64 y.d, .bool y.e] 204)).drew.cell? ⟨W.heap.size, 1, none⟩ = some (.int .i64 x.d) ∧ ((W.alloc (.cells #[.int .i64 x.p, .int .i64 x.d, .bool x.e] 204)).alloc (.cells #[.int .i64 y.p, .int .i64 y.d, .bool y.e] 204)).drew.cell? ⟨W.heap.size, 2, none⟩ = some (.bool x.e) ∧ ((W.alloc (.cells #[.int .i64 x.p, .int .i64 x.d, .bool x.e] 204)).alloc (.cells #[.int .i64 y.p, .int .i64 y.d, .bool y.e] 204)).drew.cell? ⟨W.heap.size + 1, 0, none⟩ = some (.int .i64 y.p) ∧ ((W.alloc (.cells #[.int .i64 x.p, .int .i64 x.d, .bool x.e] 204)).alloc (.cells #[.int .i64 y.p, .int .i64 y.d, .bool y.e] 204)).drew.cell? ⟨W.heap.size + 1, 1, none⟩ = some (.int .i64 y.d) ∧ ((W.alloc (.cells #[.int .i64 x.p, .int .i64 x.d, .bool x.e] 204)).alloc (.cells #[.int .i64 y.p, .int .i64 y.d, .bool y.e] 204)).drew.cell? ⟨W.heap.size + 1, 2, none⟩ = some (.bool y.e) → (((W.alloc (.cells #[.int .i64 x.p, .int .i64 x.d, .bool x.e] 204)).alloc (.cells #[.int .i64 y.p, .int .i64 y.d, .bool y.e] 204)).drew.alloc (.cells #[.int .i64 x.p, .int .i64 x.d, .bool x.e] 204)).cell? ⟨bk, 0, none⟩ = some (.func (.func 139) #[] #[]) ∧ (((W.alloc (.cells #[.int .i64 x.p, .int .i64 x.d, .bool x.e] 204)).alloc (.cells #[.int .i64 y.p, .int .i64 y.d, .bool y.e] 204)).drew.alloc (.cells #[.int .i64 x.p, .int .i64 x.d, .bool x.e] 204)).cell? ⟨W.heap.size, 0, none⟩ = some (.int .i64 x.p) ∧ (((W.alloc (.cells #[.int .i64 x.p, .int .i64 x.d, .bool x.e] 204)).alloc (.cells #[.int .i64 y.p, .int .i64 y.d, .bool y.e] 204)).drew.alloc (.cells #[.int .i64 x.p, .int .i64 x.d, .bool x.e] 204)).cell? ⟨W.heap.size, 1, none⟩ = some (.int .i64 x.d) ∧ (((W.alloc (.cells #[.int .i64 x.p, .int .i64 x.d, .bool x.e] 204)).alloc (.cells #[.int .i64 y.p, .int .i64 y.d, .bool y.e] 204)).drew.alloc (.cells #[.int .i64 x.p, .int .i64 x.d, .bool x.e] 204)).cell? ⟨W.heap.size, 2, none⟩ = some (.bool x.e) ∧ (((W.alloc (.cells #[.int .i64 x.p, .int .i64 x.d, .bool x.e] 204)).alloc (.cells #[.int .i64 y.p, .int .i64 y.d, .bool y.e] 204)).drew.alloc (.cells #[.int .i64 x.p, .int .i64 x.d, .bool x.e] 204)).cell? ⟨W.heap.size + 1, 0, none⟩ = some (.int .i64 y.p) ∧ (((W.alloc (.cells #[.int .i64 x.p, .int .i64 x.d, .bool x.e] 204)).alloc (.cells #[.int .i64 y.p, .int .i64 y.d, .bool y.e] 204)).drew.alloc (.cells #[.int .i64 x.p, .int .i64 x.d, .bool x.e] 204)).cell? ⟨W.heap.size + 1, 1, none⟩ = some (.int .i64 y.d) ∧ (((W.alloc (.cells #[.int .i64 x.p, .int .i64 x.d, .bool x.e] 204)).alloc (.cells #[.int .i64 y.p, .int .i64 y.d, .bool y.e] 204)).drew.alloc (.cells #[.int .i64 x.p, .int .i64 x.d, .bool x.e] 204)).cell? ⟨W.heap.size + 1, 2, none⟩ = some (.bool y.e) := fun h => by
    obtain ⟨h1, h2, h3, h4, h5, h6, h7⟩ := h
    have hs : ((W.alloc (.cells #[.int .i64 x.p, .int .i64 x.d, .bool x.e] 204)).alloc (.cells #[.int .i64 y.p, .int .i64 y.d, .bool y.e] 204)).drew.heap.size = W.heap.size + 1 + 1 := by simp
    refine ⟨?_, ?_, ?_, ?_, ?_, ?_, ?_⟩ <;> (rw [World.cell?_alloc_lt _ _ _ (by rw [hs]; dsimp only; omega)]; assumption)
  have up2 : ((W.alloc (.cells #[.int .i64 x.p, .int .i64 x.d, .bool x.e] 204)).alloc (.cells #[.int .i64 y.p, .int .i64 y.d, .bool y.e] 204)).drew.cell? ⟨bk, 0, none⟩ = some (.func (.func 139) #[] #[]) ∧ ((W.alloc (.cells #[.int .i64 x.p, .int .i64 x.d, .bool x.e] 204)).alloc (.cells #[.int .i64 y.p, .int .i64 y.d, .bool y.e] 204)).drew.cell? ⟨W.heap.size, 0, none⟩ = some (.int .i64 x.p) ∧ ((W.alloc (.cells #[.int .i64 x.p, .int .i64 x.d, .bool x.e] 204)).alloc (.cells #[.int .i64 y.p, .int .i64 y.d, .bool y.e] 204)).drew.cell? ⟨W.heap.size, 1, none⟩ = some (.int .i64 x.d) ∧ ((W.alloc (.cells #[.int .i64 x.p, .int .i64 x.d, .bool x.e] 204)).alloc (.cells #[.int .i64 y.p, .int .i64 y.d, .bool y.e] 204)).drew.cell? ⟨W.heap.size, 2, none⟩ = some (.bool x.e) ∧ ((W.alloc (.cells #[.int .i64 x.p, .int .i64 x.d, .bool x.e] 204)).alloc (.cells #[.int .i64 y.p, .int .i64 y.d, .bool y.e] 204)).drew.cell? ⟨W.heap.size + 1, 0, none⟩ = some (.int .i64 y.p) ∧ ((W.alloc (.cells #[.int .i64 x.p, .int .i64 x.d, .bool x.e] 204)).alloc (.cells #[.int .i64 y.p, .int .i64 y.d, .bool y.e] 204)).drew.cell? ⟨W.heap.size + 1, 1, none⟩ = some (.int .i64 y.d) ∧ ((W.alloc (.cells #[.int .i64 x.p, .int .i64 x.d, .bool x.e] 204)).alloc (.cells #[.int .i64 y.p, .int .i64 y.d, .bool y.e] 204)).drew.cell? ⟨W.heap.size + 1, 2, none⟩ = some (.bool y.e) → ((((W.alloc (.cells #[.int .i64 x.p, .int .i64 x.d, .bool x.e] 204)).alloc (.cells #[.int .i64 y.p, .int .i64 y.d, .bool y.e] 204)).drew.alloc (.cells #[.int .i64 x.p, .int .i64 x.d, .bool x.e] 204)).alloc (.cells #[.int .i64 y.p, .int .i64 y.d, .bool y.e] 204)).cell? ⟨bk, 0, none⟩ = some (.func (.func 139) #[] #[]) ∧ ((((W.alloc (.cells #[.int .i64 x.p, .int .i64 x.d, .bool x.e] 204)).alloc (.cells #[.int .i64 y.p, .int .i64 y.d, .bool y.e] 204)).drew.alloc (.cells #[.int .i64 x.p, .int .i64 x.d, .bool x.e] 204)).alloc (.cells #[.int .i64 y.p, .int .i64 y.d, .bool y.e] 204)).cell? ⟨W.heap.size, 0, none⟩ = some (.int .i64 x.p) ∧ ((((W.alloc (.cells #[.int .i64 x.p, .int .i64 x.d, .bool x.e] 204)).alloc (.cells #[.int .i64 y.p, .int .i64 y.d, .bool y.e] 204)).drew.alloc (.cells #[.int .i64 x.p, .int .i64 x.d, .bool x.e] 204)).alloc (.cells #[.int .i64 y.p, .int .i64 y.d, .bool y.e] 204)).cell? ⟨W.heap.size, 1, none⟩ = some (.int .i64 x.d) ∧ ((((W.alloc (.cells #[.int .i64 x.p, .int .i64 x.d, .bool x.e] 204)).alloc (.cells #[.int .i64 y.p, .int .i64 y.d, .bool y.e] 204)).drew.alloc (.cells #[.int .i64 x.p, .int .i64 x.d, .bool x.e] 204)).alloc (.cells #[.int .i64 y.p, .int .i64 y.d, .bool y.e] 204)).cell? ⟨W.heap.size, 2, none⟩ = some (.bool x.e) ∧ ((((W.alloc (.cells #[.int .i64 x.p, .int .i64 x.d, .bool x.e] 204)).alloc (.cells #[.int .i64 y.p, .int .i64 y.d, .bool y.e] 204)).drew.alloc (.cells #[.int .i64 x.p, .int .i64 x.d, .bool x.e] 204)).alloc (.cells #[.int .i64 y.p, .int .i64 y.d, .bool y.e] 204)).cell? ⟨W.heap.size + 1, 0, none⟩ = some (.int .i64 y.p) ∧ ((((W.alloc (.cells #[.int .i64 x.p, .int .i64 x.d, .bool x.e] 204)).alloc (.cells #[.int .i64 y.p, .int .i64 y.d, .bool y.e] 204)).drew.alloc (.cells #[.int .i64 x.p, .int .i64 x.d, .bool x.e] 204)).alloc (.cells #[.int .i64 y.p, .int .i64 y.d, .bool y.e] 204)).cell? ⟨W.heap.size + 1, 1, none⟩ = some (.int .i64 y.d) ∧ ((((W.alloc (.cells #[.int .i64 x.p, .int .i64 x.d, .bool x.e] 204)).alloc (.cells #[.int .i64 y.p, .int .i64 y.d, .bool y.e] 204)).drew.alloc (.cells #[.int .i64 x.p, .int .i64 x.d, .bool x.e] 204)).alloc (.cells #[.int .i64 y.p, .int .i64 y.d, .bool y.e] 204)).cell? ⟨W.heap.size + 1, 2, none⟩ = some (.bool y.e) := fun h => by
    obtain ⟨h1, h2, h3, h4, h5, h6, h7⟩ := up1 h
    have hs : (((W.alloc (.cells #[.int .i64 x.p, .int .i64 x.d, .bool x.e] 204)).alloc (.cells #[.int .i64 y.p, .int .i64 y.d, .bool y.e] 204)).drew.alloc (.cells #[.int .i64 x.p, .int .i64 x.d, .bool x.e] 204)).heap.size = W.heap.size + 1 + 1 + 1 := by simp
    refine ⟨?_, ?_, ?_, ?_, ?_, ?_, ?_⟩ <;> (rw [World.cell?_alloc_lt _ _ _ (by rw [hs]; dsimp only; omega)]; assumption)
  clear hc hc2 hB1 hB2
  go_enter Tryz.func178, Tryz.ntmps178
  go_wp2_with fail
  refine wp_region_held_drew (S := (fun V : World => V.cell? ⟨bk, 0, none⟩ = some (.func (.func 139) #[] #[]) ∧ V.cell? ⟨W.heap.size, 0, none⟩ = some (.int .i64 x.p) ∧ V.cell? ⟨W.heap.size, 1, none⟩ = some (.int .i64 x.d) ∧ V.cell? ⟨W.heap.size, 2, none⟩ = some (.bool x.e) ∧ V.cell? ⟨W.heap.size + 1, 0, none⟩ = some (.int .i64 y.p) ∧ V.cell? ⟨W.heap.size + 1, 1, none⟩ = some (.int .i64 y.d) ∧ V.cell? ⟨W.heap.size + 1, 2, none⟩ = some (.bool y.e))) (by kernel_rfl) ?_ (fun hHeld0 => ?_)
  · exact H0
  refine wpAnyH_take (i := 0) (v := ?_) rfl (by kernel_rfl) (by kernel_rfl) (by kernel_rfl) (fun _ _ _ h => h) (Or.inl ⟨by rfl, ?_⟩) hHeld0 ?_
  rotate_left
  · (intro w hSw; (try dsimp only at hSw); go_simp <;> with_reducible rfl)
  try simp only [Act.put, List.setIfInBounds_toArray, List.set_cons_zero, List.set_cons_succ]
  refine wpAnyH_take (i := 1) (v := ?_) rfl (by kernel_rfl) (by kernel_rfl) (by kernel_rfl) (fun _ _ _ h => h) (Or.inl ⟨by rfl, ?_⟩) hHeld0 ?_
  rotate_left
  · (intro w hSw; (try dsimp only at hSw); go_simp <;> with_reducible rfl)
  try simp only [Act.put, List.setIfInBounds_toArray, List.set_cons_zero, List.set_cons_succ]
  refine wpAnyH_take (i := 3) (v := ?_) rfl (by kernel_rfl) (by kernel_rfl) (by kernel_rfl) (fun _ _ _ h => h) (Or.inl ⟨by rfl, ?_⟩) hHeld0 ?_
  rotate_left
  · (intro w hSw; (try dsimp only at hSw); go_simp <;> with_reducible rfl)
  try simp only [Act.put, List.setIfInBounds_toArray, List.set_cons_zero, List.set_cons_succ]
  refine wpAnyH_take (i := 4) (v := ?_) rfl (by kernel_rfl) (by kernel_rfl) (by kernel_rfl) (fun _ _ _ h => h) (Or.inl ⟨by rfl, ?_⟩) hHeld0 ?_
  rotate_left
  · (intro w hSw; (try dsimp only at hSw); go_simp <;> with_reducible rfl)
  try simp only [Act.put, List.setIfInBounds_toArray, List.set_cons_zero, List.set_cons_succ]
  try simp only [Act.put, List.getElem_toArray, List.getElem_cons_succ, List.getElem_cons_zero, List.setIfInBounds_toArray, List.set_cons_zero, List.set_cons_succ]
  refine wpAnyH_ready (rs := [2]) (by kernel_rfl) (by simp) ?_
  refine AllReadyH.cons rfl (fun K hK => ?_) AllReadyH.nil
  go_simp
  with_reducible refine (key_mo x _).mono ?_
  rintro e w1 ⟨rfl, rfl⟩
  refine hK.out _ _ ?_ (fun hHeld1 => ?_)
  · exact up1 H0
  clear hK K hHeld0
  try simp only [Act.put, List.setIfInBounds_toArray, List.set_cons_zero, List.set_cons_succ]
  try simp only [Act.put, List.getElem_toArray, List.getElem_cons_succ, List.getElem_cons_zero, List.setIfInBounds_toArray, List.set_cons_zero, List.set_cons_succ]
  refine wpAnyH_ready (rs := [5]) (by kernel_rfl) (by simp) ?_
  refine AllReadyH.cons rfl (fun K hK => ?_) AllReadyH.nil
  go_simp
  with_reducible refine (key_mo y _).mono ?_
  rintro e w2 ⟨rfl, rfl⟩
  refine hK.out _ _ ?_ (fun hHeld2 => ?_)
  · exact up2 H0
  clear hK K hHeld1
  try simp only [Act.put, List.setIfInBounds_toArray, List.set_cons_zero, List.set_cons_succ]
  refine wpAnyH_take (i := 6) (v := ?_) rfl (by kernel_rfl) (by kernel_rfl) (by kernel_rfl) (fun _ _ _ h => h) (Or.inl ⟨by rfl, ?_⟩) hHeld2 ?_
  rotate_left
  · (intro w hSw; (try dsimp only at hSw); go_simp <;> with_reducible rfl)
  try simp only [Act.put, List.setIfInBounds_toArray, List.set_cons_zero, List.set_cons_succ]
  refine wpAnyH_take (i := 7) (v := ?_) rfl (by kernel_rfl) (by kernel_rfl) (by kernel_rfl) (fun _ _ _ h => h) (Or.inl ⟨by rfl, ?_⟩) hHeld2 ?_
  rotate_left
  · (intro w hSw; (try dsimp only at hSw); go_simp <;> with_reducible rfl)
  try simp only [Act.put, List.setIfInBounds_toArray, List.set_cons_zero, List.set_cons_succ]
  try simp only [Act.put, List.getElem_toArray, List.getElem_cons_succ, List.getElem_cons_zero, List.setIfInBounds_toArray, List.set_cons_zero, List.set_cons_succ]
  refine wpAnyH_done (by kernel_rfl) ?_ _
  refine (‹∀ (a : Act) (w : World), Code.wp Tryz.prog _ _ a w → _›) _ _ ?_
  go_wp2
  go_ret
  exact ⟨rfl, 1, #[.cells #[.int .i64 x.p, .int .i64 x.d, .bool x.e] 204, .cells #[.int .i64 y.p, .int .i64 y.d, .bool y.e] 204, .cells #[.int .i64 x.p, .int .i64 x.d, .bool x.e] 204, .cells #[.int .i64 y.p, .int .i64 y.d, .bool y.e] 204], by simp [alloc_eq_grow, grow_grow]; rfl⟩
end Go.Proofs.YtkgflepgkhnclaaGreatDoor
namespace Go.Proofs.YtkgflepgkhnclaaGreatDoor
open Go.RowKit Go.Shelf Go.Sort
set_option linter.unusedVariables false
set_option linter.unusedSimpArgs false

def lays20_ren : Go.Shelf.Ren := ⟨fun | 20 => 241 | n => n, fun | 0 => 0 | 3 => 3 | 4 => 4 | 22 => 202 | 24 => 204 | 25 => 249 | n => n, fun | n => n⟩
theorem lays20 : SlLaysF0.n20 Tryz.prog lays20_ren := {
  mixed := by kernel_rfl
  f20 := ⟨Tryz.f241.name, by decide, Tryz.func241.trans (congrArg some (by kernel_rfl))⟩
  t0 := Tryz.underlying0
  a0 := Tryz.isAgg0
  z0 := Tryz.sizeOf0
  v0 := Tryz.zeroValue0
  t3 := Tryz.underlying3
  a3 := Tryz.isAgg3
  z3 := Tryz.sizeOf3
  v3 := Tryz.zeroValue3
  t4 := Tryz.underlying4
  a4 := Tryz.isAgg4
  z4 := Tryz.sizeOf4
  v4 := Tryz.zeroValue4
  t22 := Tryz.underlying202
  a22 := Tryz.isAgg202
  z22 := Tryz.sizeOf202
  v22 := Tryz.zeroValue202
  t25 := Tryz.underlying249
  a25 := Tryz.isAgg249
  z25 := Tryz.sizeOf249
  v25 := Tryz.zeroValue249 }
theorem cell_sortW {w : World} {blk off m : Nat} {d : Array Mo} {os : Array Obj} (a : Addr) (h1 : a.block ≠ blk) (h2 : a.block < w.heap.size) : (sortWorldK Mo.row 3 w blk off m d os).cell? a = w.cell? a := by
  unfold sortWorldK
  rw [cell?_grow _ _ _ (by unfold putRowK putRow mapBlock Sort.ahead; simp; exact h2)]
  unfold putRowK
  rw [cell?_putRow_other _ _ _ _ _ a (.inl h1)]
  rfl
/-- The result of the sort. -/
def sortM (l : List Mo) : List Mo := (insertionSort (ltOf cfM) l.toArray 0 l.length).toList
def SortEnd (w : World) (blk : Nat) (l : List Mo) (e : Ending) (w' : World) : Prop := e = .returned (.tuple #[]) ∧ ∃ n os, w' = sortWorldK Mo.row 3 w blk 0 n (insertionSort (ltOf cfM) l.toArray 0 l.length) os
set_option maxHeartbeats 1600000 in
theorem stable_mo (l : List Mo) (hl : l.length < 20) (w : World) (blk cap bk : Nat) (hH : HoldsK Mo.row 3 w blk 0 l.toArray) (hblk : blk < w.heap.size) (hbk : w.cell? ⟨bk, 0, none⟩ = some (.func (.func 139) #[] #[])) (hne : bk ≠ blk) :
    Calls Tryz.prog 214 #[.slice (some ⟨blk, 0, none⟩) l.length cap, .int .i64 (l.length : Nat), .func (.func 178) #[] #[.pointer (some ⟨bk, 0, none⟩)]] w (SortEnd w blk l) := by
  have hlt := World.block_lt_of_cell? w _ hbk
  have hc : CmpLays Tryz.prog 178 #[.pointer (some ⟨bk, 0, none⟩)] Mo.row 3 cfM blk 0 l.toArray.size w := fun m os dk hs x y => cmp_mo bk x y _ (by rw [cell_sortW _ hne hlt]; exact hbk)
  have hI := AnyQ.insertionSortCmpFunc lays20 3 Tryz.isAgg204 Tryz.sizeOf204 Mo.row Mo.row_len mo_one cfM 178 #[.pointer (some ⟨bk, 0, none⟩)] blk 0 cap 0 l.length l.toArray w
    (enters_of Tryz.func178 (by kernel_rfl) rfl) hc hH hblk (Nat.zero_le _) (by simp) (by simp; omega)
  have hI2 : Calls Tryz.prog 241 #[.slice (some ⟨blk, 0, none⟩) l.length cap, .int .i64 0, .int .i64 (l.length : Nat), .func (.func 178) #[] #[.pointer (some ⟨bk, 0, none⟩)]] w (SortEnd w blk l) := by
    have e : l.toArray.size = l.length := List.size_toArray
    rw [e] at hI
    exact hI
  have HI := Lib.hid hI2
  have hli : (l.length : Int) < 20 := by omega
  have h20 : ¬ ((20 : Int) ≤ (l.length : Int)) := by omega
  have h20b : ¬ ((20 : Int) < (l.length : Int)) := by omega
  clear hI hI2 hc hH
  go_enter Tryz.func214, Tryz.ntmps214
  go_wp2_with fail
  go_loopw [7, 8] (fun x y wr => x = .int .i64 0 ∧ y = .int .i64 20 ∧ wr = w) (fun _ _ _ => 0)
  case atStart => exact ⟨rfl, rfl, rfl⟩
  case round =>
    obtain ⟨rfl, rfl, rfl⟩ := hrel
    go_wp2_with fail
    refine HI.out.mono ?_
    rintro e w1 ⟨rfl, n, os, hw1⟩
    have HW := Lib.hid hw1
    clear hw1
    go_wp2_with fail
    go_loopw [6] (fun x wr => x = .int .i64 20 ∧ wr = w1) (fun _ _ => 0)
    case atStart => exact ⟨rfl, rfl⟩
    case round =>
      obtain ⟨rfl, rfl⟩ := hrel
      go_wp2_with fail
      go_end0
      exact ⟨rfl, n, os, HW.out⟩
theorem size_sortW {w : World} {blk off m : Nat} {d : Array Mo} {os : Array Obj} : w.heap.size ≤ (sortWorldK Mo.row 3 w blk off m d os).heap.size := size_sortWorldK_c Mo.row 3 w blk off m d os
theorem block_sortW {w : World} {blk off m : Nat} {d : Array Mo} {os : Array Obj} {i : Nat} (h1 : i ≠ blk) (h2 : i < w.heap.size) : (sortWorldK Mo.row 3 w blk off m d os).heap[i]? = w.heap[i]? := by
  unfold sortWorldK putRowK putRow mapBlock grow Sort.ahead
  dsimp only
  rw [Array.getElem?_append_left (by simpa using h2), Array.getElem?_modify, if_neg (fun e => h1 e.symm)]
theorem blk_sortW {w : World} {blk off m : Nat} {d : Array Mo} {os : Array Obj} {t : TypeId} {cs : Array Value} (h : Blk w blk t cs) : ∃ cs', Blk (sortWorldK Mo.row 3 w blk off m d os) blk t cs' := by
  have hlt := h.lt
  unfold Blk at h ⊢
  unfold sortWorldK putRowK putRow mapBlock grow Sort.ahead
  dsimp only
  refine ⟨putCells id off (flatK Mo.row 3 d) cs, ?_⟩
  rw [Array.getElem?_append_left (by simpa using hlt), Array.getElem?_modify, if_pos rfl, h]
  rfl
theorem keep_sortW {w : World} {blk off m : Nat} {d : Array Mo} {os : Array Obj} (hu : ¬ U8 w blk) : KeepC (fun i => i = blk) w (sortWorldK Mo.row 3 w blk off m d os) :=
  ⟨rfl, rfl, rfl, size_sortW, fun i hi hc => by
    by_cases e : i = blk
    · subst e
      rcases hc with hc | hc
      · exact absurd rfl hc
      · exact absurd hc hu
    · exact block_sortW e hi⟩
theorem SortEnd.keep {w w' : World} {blk : Nat} {l : List Mo} {e : Ending} (h : SortEnd w blk l e w') (hu : ¬ U8 w blk) : KeepC (fun i => i = blk) w w' := by
  obtain ⟨-, n, os, rfl⟩ := h
  exact keep_sortW hu
theorem size_insInner {α : Type} [Inhabited α] (lt : α → α → Bool) (a : Nat) : ∀ (j : Nat) (d : Array α), (insInner lt a j d).size = d.size
  | 0, d => rfl
  | j + 1, d => by
    unfold insInner
    split
    · rw [size_insInner lt a j]; simp [swp]
    · rfl
theorem size_insOuter {α : Type} [Inhabited α] (lt : α → α → Bool) (a b : Nat) : ∀ (n i : Nat) (d : Array α), b - i = n → (insOuter lt a b i d).size = d.size
  | 0, i, d, h => by unfold insOuter; rw [if_neg (by omega)]
  | n + 1, i, d, h => by
    unfold insOuter
    rw [if_pos (by omega), size_insOuter lt a b n (i + 1) _ (by omega), size_insInner]
theorem sortM_size (l : List Mo) : (insertionSort (ltOf cfM) l.toArray 0 l.length).size = l.toArray.size := size_insOuter _ _ _ _ _ _ rfl
set_option maxHeartbeats 1600000 in
theorem sort_mo (l : List Mo) (hl : l.length < 20) (w : World) (blk cap bk : Nat) (hH : HoldsK Mo.row 3 w blk 0 l.toArray) (hblk : blk < w.heap.size) (hbk : w.cell? ⟨bk, 0, none⟩ = some (.func (.func 139) #[] #[])) (hne : bk ≠ blk) :
    Calls Tryz.prog 177 #[.slice (some ⟨blk, 0, none⟩) l.length cap, .func (.func 178) #[] #[.pointer (some ⟨bk, 0, none⟩)]] w (SortEnd w blk l) := by
  have HS := Lib.hid (stable_mo l hl w blk cap bk hH hblk hbk hne)
  clear hH hbk
  go_enter Tryz.func177, Tryz.ntmps177
  go_wp2_with fail
  refine HS.out.mono ?_
  rintro e w1 ⟨rfl, n, os, hw1⟩
  have HW := Lib.hid hw1
  clear hw1
  go_wp2_with fail
  go_end0
  exact ⟨rfl, n, os, HW.out⟩
/-- by: the moments lie sorted; nothing else has changed. -/
def ByEnd (w : World) (blk : Nat) (l : List Mo) (e : Ending) (w' : World) : Prop := e = .returned (.tuple #[]) ∧ KeepC (fun i => i = blk) w w' ∧ HoldsK Mo.row 3 w' blk 0 (insertionSort (ltOf cfM) l.toArray 0 l.length) ∧ ∀ t cs, Blk w blk t cs → ∃ cs', Blk w' blk t cs'
set_option maxHeartbeats 1600000 in
theorem by_mo (l : List Mo) (hl : l.length < 20) (w : World) (blk cap : Nat) (hH : HoldsK Mo.row 3 w blk 0 l.toArray) (hblk : blk < w.heap.size) (hu : ¬ U8 w blk) :
    Calls Tryz.prog 138 #[.slice (some ⟨blk, 0, none⟩) l.length cap, .func (.func 139) #[] #[]] w (ByEnd w blk l) := by
  have hb := Blk.new w 206 #[.func (.func 139) #[] #[]]
  have hb0 := below_box w (.cells #[.func (.func 139) #[] #[]] 206)
  have hH1 : HoldsK Mo.row 3 (w.alloc (.cells #[.func (.func 139) #[] #[]] 206)) blk 0 l.toArray := fun j hj => by
    have := hH j hj
    refine ⟨(World.cell?_alloc_lt _ _ _ hblk).trans this.1, ?_⟩
    rw [← this.2]
    exact World.frozen?_of_block (hb0.block blk hblk)
  have hu1 : ¬ U8 (w.alloc (.cells #[.func (.func 139) #[] #[]] 206)) blk := fun h => hu (by
    obtain ⟨cs, fz, h⟩ := h
    exact ⟨cs, fz, (hb0.block blk hblk).symm.trans h⟩)
  have hS := sort_mo l hl _ blk cap w.heap.size hH1 (by simp; omega) (hb.cell 0) (by omega)
  have HS := Lib.hid hS
  have HH := Lib.hid (And.intro hH1 (And.intro hu1 hb0))
  clear hS hH1 hH hb hu1 hb0
  go_enter Tryz.func138, Tryz.ntmps138
  go_wp2_with fail
  refine HS.out.mono ?_
  intro e w1 h1
  have HE := Lib.hid h1
  obtain ⟨rfl, -⟩ := h1
  go_wp2_with fail
  go_end0
  have hk := HE.out.keep HH.out.2.1
  refine ⟨rfl, (KeepC.of_below HH.out.2.2).trans hk (fun i _ h => h), ?_⟩
  obtain ⟨-, n, os, rfl⟩ := HE.out
  exact ⟨holdsK_sortWorldK_c Mo.row 3 _ blk 0 l.toArray _ n os HH.out.1 (by simp; omega) (sortM_size l), fun t cs h => blk_sortW (h.below HH.out.2.2 h.lt)⟩
end Go.Proofs.YtkgflepgkhnclaaGreatDoor
namespace Go.Proofs.YtkgflepgkhnclaaGreatDoor
open Go.RowKit Go.Shelf
set_option linter.unusedVariables false
set_option linter.unusedSimpArgs false
attribute [local go_sem] run_store_complex

/-- A sum or quotient of floats: some float; NaN's bits are drawn. -/
theorem run_floatArith {P : Program} (op : BinOp) (h : op = .add ∨ op = .quo) (k : FloatKind) (a b : Nat) (w : World) : ∃ r n, (Op.floatArith op k a b).run P w = .ok (.float k r) (w.drewN n) := by
  rcases h with rfl | rfl
  · cases hq : k.format.add a b with
    | some r => exact ⟨r, 0, by simp [Op.floatArith, hq, Result.andThen]; rfl⟩
    | none =>
      by_cases hf : (Question.nanBits k a b).forced = true
      · exact ⟨0, 0, by simp [Op.floatArith, hq, hf, Result.andThen]; rfl⟩
      · exact ⟨(Question.nanBits k a b).cut (w.tape w.drawn (.nanBits k a b)), 1, by simp [Op.floatArith, hq, hf, Result.andThen]; rfl⟩
  · cases hq : k.format.div a b with
    | some r => exact ⟨r, 0, by simp [Op.floatArith, hq, Result.andThen]; rfl⟩
    | none =>
      by_cases hf : (Question.nanBits k a b).forced = true
      · exact ⟨0, 0, by simp [Op.floatArith, hq, hf, Result.andThen]; rfl⟩
      · exact ⟨(Question.nanBits k a b).cut (w.tape w.drawn (.nanBits k a b)), 1, by simp [Op.floatArith, hq, hf, Result.andThen]; rfl⟩
theorem run_complexAdd {P : Program} (t : TypeId) (a b c d : Nat) (w : World) : ∃ x y n, (binOp .add t (.complex .f64 a b) (.complex .f64 c d)).run P w = .ok (.complex .f64 x y) (w.drewN n) := by
  obtain ⟨x, n, h1⟩ := run_floatArith (P := P) .add (.inl rfl) .f64 a c w
  obtain ⟨y, m, h2⟩ := run_floatArith (P := P) .add (.inl rfl) .f64 b d (w.drewN n)
  refine ⟨x, y, n + m, ?_⟩
  simp [binOp, Op.complexOp, Op.Complex.arith, Result.andThen, h1, h2]
theorem run_floatQuo {P : Program} (t : TypeId) (a b : Nat) (w : World) : ∃ x n, (binOp .quo t (.float .f64 a) (.float .f64 b)).run P w = .ok (.float .f64 x) (w.drewN n) := by
  obtain ⟨x, n, h1⟩ := run_floatArith (P := P) .quo (.inr rfl) .f64 a b w
  exact ⟨x, n, by simp [binOp, h1]⟩
section
variable {P : Program} {w : World}
theorem wpList_run {ops : Array Oper} {rest : List Oper} {o : Oper} {a : Act} {Q : Exit → Act → World → Prop} (hg : o.guard = none) (op : BinOp) (x y : Operand) (t u : TypeId) (hop : o.op = Op.binOp op t x y u) (hf : op = .quo ∨ op = .add) (va vb : Value) (hx : a.eval x = va) (hy : a.eval y = vb)
    {v : Value} {w' : World} (hr : (binOp op t va vb).run P w = .ok v w') (hK : wpList P ops Q rest (a.put o.dst v) w') : wpList P ops Q (o :: rest) a w := by
  refine wpList_plain hg fun K' hK' => ?_
  unfold Oper.wp
  rcases hf with rfl | rfl <;>
  · simp [execOp, hop, hx, hy, eqGuard, Result.andThen]
    rw [hr]
    exact hK' _ _ hK
end
def SomeB (w : World) (e : Ending) (w' : World) : Prop := ∃ b, e = .returned (.bool b) ∧ Below w.heap.size w w'
def SomeC (w : World) (e : Ending) (w' : World) : Prop := ∃ a b, e = .returned (.complex .f64 a b) ∧ Below w.heap.size w w'
theorem is1_l (x : Nat) (w : World) : Calls Tryz.prog 221 #[.float .f64 x] w (fun e w' => (∃ b, e = .returned (.bool b)) ∧ w' = w) := by
  go_enter Tryz.func221, Tryz.ntmps221
  go_wp2
  all_goals go_ret
  all_goals exact ⟨⟨_, rfl⟩, rfl⟩
theorem parts_l (a b : Nat) (w : World) : Calls Tryz.prog 222 #[.complex .f64 a b] w (fun e w' => e = .returned (.tuple #[.float .f64 a, .float .f64 b]) ∧ w' = w) := by
  go_enter Tryz.func222, Tryz.ntmps222
  go_wp2
  go_ret2
  exact ⟨rfl, rfl⟩
theorem half_l (a b : Nat) (w : World) : Calls Tryz.prog 223 #[.complex .f64 a b] w (fun e w' => (∃ a b, e = .returned (.complex .f64 a b)) ∧ ∃ n, w' = w.drewN n) := by
  go_enter Tryz.func223, Tryz.ntmps223
  go_wp2_with (first
    | (go_at_call 222; refine (parts_l _ _ _).mono ?_; rintro e w' ⟨rfl, rfl⟩)
    | (obtain ⟨x, n, hr⟩ := run_floatQuo (P := Tryz.prog) 158 a 4611686018427387904 w'
       refine wpList_run rfl .quo (.tmp 10) (.const (.float .f64 4611686018427387904)) 158 158 rfl (.inl rfl) _ _ rfl rfl hr ?_)
    | (obtain ⟨y, m, hs⟩ := run_floatQuo (P := Tryz.prog) 158 b 4611686018427387904 (w'.drewN n)
       refine wpList_run rfl .quo (.tmp 12) (.const (.float .f64 4611686018427387904)) 158 158 rfl (.inl rfl) _ _ rfl rfl hs ?_))
  go_ret
  exact ⟨⟨_, _, rfl⟩, n + m, rfl⟩
theorem is_l (a b : Nat) (w : World) : Calls Tryz.prog 189 #[.complex .f64 a b] w (fun e w' => (∃ b, e = .returned (.bool b)) ∧ w' = w) := by
  go_enter Tryz.func189, Tryz.ntmps189
  go_wp2_with (first
    | (go_at_call 222; refine (parts_l _ _ _).mono ?_; rintro e w' ⟨rfl, rfl⟩)
    | (go_at_call 221; refine (is1_l _ _).mono ?_; rintro e w' ⟨⟨q, rfl⟩, rfl⟩; cases q))
  all_goals go_ret
  all_goals exact ⟨⟨_, rfl⟩, rfl⟩
theorem Is_l (a b : Nat) (w : World) : Calls Tryz.prog 188 #[.complex .f64 a b] w (fun e w' => (∃ b, e = .returned (.bool b)) ∧ w' = w) := by
  go_enter Tryz.func188, Tryz.ntmps188
  go_wp2_with (go_at_call 189; refine (is_l _ _ _).mono ?_; rintro e w' ⟨⟨q, rfl⟩, rfl⟩)
  go_ret
  exact ⟨⟨_, rfl⟩, rfl⟩
def addsMap : List (Int × Value) := [(1, .complex .f64 4607182418800017408 0), (5, .complex .f64 4607182418800017408 0), (6, .complex .f64 4607182418800017408 0), (2, .complex .f64 0 4607182418800017408), (3, .complex .f64 0 4607182418800017408), (4, .complex .f64 0 4607182418800017408)]
theorem look_adds (d : Int) : ∃ a b, look (.complex .f64 0 0) d addsMap = .complex .f64 a b := by
  unfold addsMap
  simp only [look]
  repeat (split; exact ⟨_, _, rfl⟩)
  exact ⟨_, _, rfl⟩
set_option maxHeartbeats 1600000 in
set_option maxRecDepth 100000 in
theorem adds_l (d : Int) (w : World) : Calls Tryz.prog 224 #[.int .i64 d] w (SomeC w) := by
  have hmm := @run_makeMap Tryz.prog
  have m0 := IntMap.made .i64 w
  have b0 : Below w.heap.size w (w.alloc (.map #[] 0)) := (Below.refl _ _).alloc (Nat.le_refl _) _
  obtain ⟨x, y, hl⟩ := look_adds d
  have HL := Lib.hid hl
  clear hl
  go_enter Tryz.func224, Tryz.ntmps224
  go_wp2_with (first
    | (refine wpList_insert_lit w w.heap.size rfl _ _ _ _ rfl 33 48 .i64 .i64 Tryz.underlying314 Tryz.underlying33 rfl _ _ rfl (by assumption) (by assumption) (Nat.le_refl _) _ rfl (by rfl) _ rfl ?_; intro wa ma ba)
    | (refine wpList_lookup_run rfl _ _ 314 false rfl _ _ _ rfl rfl (run_lookup_intmap ma Tryz.underlying314 Tryz.underlying33 rfl (Tryz.zeroValue48 _) false) ?_))
  go_ret
  refine ⟨x, y, ?_, ba⟩
  rw [show look (Value.complex .f64 0 0) d [(1, .complex .f64 4607182418800017408 0), (5, .complex .f64 4607182418800017408 0), (6, .complex .f64 4607182418800017408 0), (2, .complex .f64 0 4607182418800017408), (3, .complex .f64 0 4607182418800017408), (4, .complex .f64 0 4607182418800017408)] = .complex .f64 x y from HL.out]
  rfl
end Go.Proofs.YtkgflepgkhnclaaGreatDoor
namespace Go.Proofs.YtkgflepgkhnclaaGreatDoor
open Go.RowKit Go.Shelf
set_option linter.unusedVariables false
set_option linter.unusedSimpArgs false
attribute [local go_sem] run_store_complex

theorem with_l (a b : Nat) (d : Int) (w : World) : Calls Tryz.prog 190 #[.agg #[.complex .f64 a b], .int .i64 d] w (SomeC w) := by
  have hb := below_box w (.cells #[.complex .f64 a b] 256)
  go_enter Tryz.func190, Tryz.ntmps190
  go_wp2_with fail
  refine (half_l a b _).mono ?_
  rintro e w1 ⟨⟨x, y, rfl⟩, n, rfl⟩
  go_wp2_with fail
  refine (adds_l d _).mono ?_
  rintro e w2 ⟨x2, y2, rfl, hb2⟩
  obtain ⟨x3, y3, m, hr⟩ := run_complexAdd (P := Tryz.prog) 48 x y x2 y2 w2
  go_wp2_with (refine wpList_run rfl .add (.tmp 7) (.tmp 9) 48 48 rfl (.inr rfl) _ _ rfl rfl hr ?_)
  go_ret
  exact ⟨x3, y3, rfl, drewB (below_trans (drewB hb n) hb2) m⟩
theorem Next_l (a b : Nat) (d : Int) (w : World) : Calls Tryz.prog 152 #[.complex .f64 a b, .int .i64 d] w (fun e w' => ∃ x y q, e = .returned (.tuple #[.complex .f64 x y, .bool q]) ∧ Below w.heap.size w w') := by
  have hb := below_box w (.cells #[.complex .f64 a b] 256)
  go_enter Tryz.func152, Tryz.ntmps152
  go_wp2_with fail
  refine (is_l a b _).mono ?_
  rintro e w1 ⟨⟨q, rfl⟩, rfl⟩
  cases q
  · go_wp2_with fail
    go_ret2
    exact ⟨_, _, _, rfl, hb⟩
  · go_wp2_with fail
    refine (with_l a b d _).mono ?_
    rintro e w1 ⟨x, y, rfl, hb2⟩
    go_wp2_with fail
    go_ret2
    exact ⟨_, _, _, rfl, below_trans hb hb2⟩
def lays25_ren : Go.Shelf.Ren := ⟨fun | 25 => 191 | n => n, fun | 22 => 27 | n => n, fun | n => n⟩
theorem lays25 : Go.Proofs.Lays7.n25 Tryz.prog lays25_ren := {
  mixed := by kernel_rfl
  f25 := Tryz.func191.trans (congrArg some (by kernel_rfl))
  t22 := Tryz.underlying27
  a22 := Tryz.isAgg27
  z22 := Tryz.sizeOf27
  v22 := Tryz.zeroValue27
  i22 := by kernel_rfl }
def OkU (r : Int) : Prop := 0 ≤ r ∧ r ≤ 18446744073709551615
theorem add64_0 (x y : Int) (hx : OkU x) (hy : OkU y) (w : World) : (callFunc 191 #[.int .u64 x, .int .u64 y, .int .u64 0]).run Tryz.prog w =
    .ok (.value (.tuple #[.int .u64 ((x + y) % 18446744073709551616), .int .u64 ((x + y) / 18446744073709551616)])) w := by
  obtain ⟨a, rfl⟩ := Int.eq_ofNat_of_zero_le hx.1
  obtain ⟨b, rfl⟩ := Int.eq_ofNat_of_zero_le hy.1
  have h : (callFunc 191 #[.int .u64 (a : Int), .int .u64 (b : Int), .int .u64 ((0 : Nat) : Int)]).run Tryz.prog w = _ := Any7.bits_Add64 lays25 a b 0 (by omega) w
  simpa using h
theorem more_s (x y : Int) (hx : OkU x) (hy : OkU y) (w : World) : Calls Tryz.prog 154 #[.int .u64 x, .int .u64 y] w (fun e w' => ∃ r, e = .returned (.int .u64 r) ∧ OkU r ∧ w' = w) := by
  have h1 := hx.1; have h2 := hx.2; have h3 := hy.1; have h4 := hy.2
  have HX := Lib.hid hx
  have HY := Lib.hid hy
  have H : OkU ((x + y) % 18446744073709551616) := by unfold OkU; omega
  have HH := Lib.hid H
  clear hx hy H
  go_enter Tryz.func154, Tryz.ntmps154
  go_wp2_with (simp only [add64_0 x y HX.out HY.out])
  · go_ret
    exact ⟨_, rfl, HH.out, rfl⟩
  · go_ret
    exact ⟨_, rfl, ⟨by decide, by decide⟩, rfl⟩
/-- count: a counter is raised. -/
theorem count_s (g k : Nat) (x n : Int) (cs : Array Value) (w : World) (hb : Blk w g 50 cs) (hk : cs[k]? = some (.int .u64 x)) (hx : OkU x) (hn : 0 ≤ n ∧ n ≤ 9223372036854775807) :
    Calls Tryz.prog 153 #[.pointer (some ⟨g, k, none⟩), .int .i64 n] w (fun e w' => e = .returned (.tuple #[]) ∧ ∃ r, OkU r ∧ w' = w.setCell ⟨g, k, none⟩ (.int .u64 r)) := by
  have c := hb.cell k
  rw [hk] at c
  have f := hb.frozen k
  have hw : IntKind.u64.wrap n = n := by rw [IntKind.wrap_u64]; omega
  have hn2 : OkU n := ⟨hn.1, by omega⟩
  have HM := Lib.hid (fun W => more_s x n hx hn2 W)
  clear hx hn2 hb hk
  go_enter Tryz.func153, Tryz.ntmps153
  go_wp2_with fail
  refine (HM.out _).mono ?_
  rintro e w1 ⟨r, rfl, hr, rfl⟩
  have HR := Lib.hid hr
  clear hr
  go_wp2_with fail
  go_end0
  exact ⟨rfl, r, HR.out, rfl⟩
def ctrMap : List (Int × Value) := [(1, .func (.func 183) #[] #[]), (2, .func (.func 184) #[] #[]), (3, .func (.func 185) #[] #[]), (4, .func (.func 186) #[] #[]), (5, .func (.func 187) #[] #[])]
set_option maxHeartbeats 1600000 in
theorem counterOf_s (w : World) : Calls Tryz.prog 150 #[] w fun e w' => ∃ b, e = .returned (.map (some b)) ∧ IntMap .i64 w' b ctrMap ∧ Below w.heap.size w w' := by
  have hmm := @run_makeMap Tryz.prog
  have m0 := IntMap.made .i64 w
  have b0 : Below w.heap.size w (w.alloc (.map #[] 0)) := (Below.refl _ _).alloc (Nat.le_refl _) _
  go_enter Tryz.func150, Tryz.ntmps150
  go_wp2_with (refine wpList_insert_lit w w.heap.size rfl _ _ _ _ rfl 33 225 .i64 .i64 Tryz.underlying222 Tryz.underlying33 rfl _ _ rfl (by assumption) (by assumption) (Nat.le_refl _) _ rfl (by rfl) _ rfl ?_; intro wa ma ba)
  go_ret
  exact ⟨_, rfl, ma, ba⟩
theorem ctr1_s (g : Nat) (w : World) : Calls Tryz.prog 183 #[.pointer (some ⟨g, 0, none⟩)] w (fun e w' => e = .returned (.pointer (some ⟨g, 2, none⟩)) ∧ w' = w) := by
  go_enter Tryz.func183, Tryz.ntmps183
  go_wp2
  go_ret
  exact ⟨rfl, rfl⟩
theorem ctr2_s (g : Nat) (w : World) : Calls Tryz.prog 184 #[.pointer (some ⟨g, 0, none⟩)] w (fun e w' => e = .returned (.pointer (some ⟨g, 3, none⟩)) ∧ w' = w) := by
  go_enter Tryz.func184, Tryz.ntmps184
  go_wp2
  go_ret
  exact ⟨rfl, rfl⟩
theorem ctr3_s (g : Nat) (w : World) : Calls Tryz.prog 185 #[.pointer (some ⟨g, 0, none⟩)] w (fun e w' => e = .returned (.pointer (some ⟨g, 4, none⟩)) ∧ w' = w) := by
  go_enter Tryz.func185, Tryz.ntmps185
  go_wp2
  go_ret
  exact ⟨rfl, rfl⟩
theorem ctr4_s (g : Nat) (w : World) : Calls Tryz.prog 186 #[.pointer (some ⟨g, 0, none⟩)] w (fun e w' => e = .returned (.pointer (some ⟨g, 5, none⟩)) ∧ w' = w) := by
  go_enter Tryz.func186, Tryz.ntmps186
  go_wp2
  go_ret
  exact ⟨rfl, rfl⟩
theorem ctr5_s (g : Nat) (w : World) : Calls Tryz.prog 187 #[.pointer (some ⟨g, 0, none⟩)] w (fun e w' => e = .returned (.pointer (some ⟨g, 6, none⟩)) ∧ w' = w) := by
  go_enter Tryz.func187, Tryz.ntmps187
  go_wp2
  go_ret
  exact ⟨rfl, rfl⟩
end Go.Proofs.YtkgflepgkhnclaaGreatDoor
namespace Go.Proofs.YtkgflepgkhnclaaGreatDoor
open Go.RowKit Go.Shelf
set_option linter.unusedVariables false
set_option linter.unusedSimpArgs false
attribute [local go_sem] run_store_complex

/-- A box that holds statistics. -/
def StBox (W : World) (g : Nat) : Prop := ∃ st, StOk st ∧ Blk W g 50 st.toArray
theorem stOk_ctr {st : List Value} (h : StOk st) {k : Nat} (hk : k < 10) : ∃ n, st[k]? = some (.int .u64 n) ∧ OkU n := by
  obtain ⟨ns, a, b, hl, rfl, hn⟩ := h
  have hk2 : k < ns.length := by omega
  refine ⟨ns[k], ?_, hn _ (List.getElem_mem hk2)⟩
  rw [List.getElem?_append_left (by simpa using hk2), List.getElem?_map, List.getElem?_eq_getElem hk2]
  rfl
theorem stOk_set {st : List Value} (h : StOk st) {k : Nat} (hk : k < 10) {r : Int} (hr : OkU r) : StOk (st.set k (.int .u64 r)) := by
  obtain ⟨ns, a, b, hl, rfl, hn⟩ := h
  refine ⟨ns.set k r, a, b, by simpa using hl, ?_, fun n hm => ?_⟩
  · rw [List.set_append_left _ _ (by simpa [hl] using hk), List.map_set]
  · rcases List.mem_or_eq_of_mem_set hm with h | rfl
    · exact hn _ h
    · exact hr
theorem stOk_load {st : List Value} (h : StOk st) (x y : Nat) : StOk (st.set 10 (.complex .f64 x y)) := by
  obtain ⟨ns, a, b, hl, rfl, hn⟩ := h
  refine ⟨ns, x, y, hl, ?_, hn⟩
  rw [List.set_append_right _ _ (by simp [hl])]
  simp [hl]
theorem StBox.set {W : World} {g k : Nat} {r : Int} (h : StBox W g) (hk : k < 10) (hr : OkU r) : StBox (W.setCell ⟨g, k, none⟩ (.int .u64 r)) g := by
  obtain ⟨st, h1, h2⟩ := h
  refine ⟨_, stOk_set h1 hk hr, ?_⟩
  have := h2.set_ k (.int .u64 r)
  rwa [List.setIfInBounds_toArray] at this
theorem StBox.load {W : World} {g x y : Nat} (h : StBox W g) : StBox (W.setCell ⟨g, 10, none⟩ (.complex .f64 x y)) g := by
  obtain ⟨st, h1, h2⟩ := h
  refine ⟨_, stOk_load h1 x y, ?_⟩
  have := h2.set_ 10 (.complex .f64 x y)
  rwa [List.setIfInBounds_toArray] at this
/-- The world in After. -/
structure AfW (w : World) (g2 g4 gm gx : Nat) (d err : Int) (A : Option Addr) (n c : Nat) (W : World) : Prop where
  box : StBox W g2
  res : ∃ cs, Blk W g4 50 cs ∧ cs.size = 11
  ne : g4 ≠ g2
  ev : ∃ cs, Blk W gx 161 cs ∧ cs[0]? = some (.int .i64 d) ∧ cs[1]? = some (.int .i64 err) ∧ cs[3]? = some (.slice A n c)
  map : IntMap .i64 W gm ctrMap
  ge : w.heap.size ≤ g2
  bel : Below w.heap.size w W
section
variable {w W : World} {g2 g4 gm gx : Nat} {d err : Int} {A : Option Addr} {n c : Nat}
theorem AfW.put (h : AfW w g2 g4 gm gx d err A n c W) {k : Nat} {u : Value} (hb : StBox (W.setCell ⟨g2, k, none⟩ u) g2) : AfW w g2 g4 gm gx d err A n c (W.setCell ⟨g2, k, none⟩ u) := by
  obtain ⟨cs, r1, r2⟩ := h.res
  obtain ⟨es, e1, e2⟩ := h.ev
  obtain ⟨st, -, hb0⟩ := h.box
  have hx : gx ≠ g2 := blk_ne e1 hb0 (by decide)
  have hm : gm ≠ g2 := fun e => by
    obtain ⟨es, ck, hm, _⟩ := h.map
    subst e
    unfold Blk at hb0
    rw [hb0] at hm
    injection hm with hm
    cases hm
  exact ⟨hb, ⟨cs, r1.far (p := ⟨g2, k, none⟩) h.ne u, r2⟩, h.ne, ⟨es, e1.far (p := ⟨g2, k, none⟩) hx u, e2⟩, by
    obtain ⟨es, ck, hm1, hm2⟩ := h.map
    exact ⟨es, ck, (Below.heap_setCell W _ u gm hm).trans hm1, hm2⟩, h.ge, h.bel.setCell (p := ⟨g2, k, none⟩) h.ge u⟩
theorem AfW.below {W' : World} (h : AfW w g2 g4 gm gx d err A n c W) (hb : Below W.heap.size W W') : AfW w g2 g4 gm gx d err A n c W' := by
  obtain ⟨cs, r1, r2⟩ := h.res
  obtain ⟨es, e1, e2⟩ := h.ev
  obtain ⟨st, s1, s2⟩ := h.box
  exact ⟨⟨st, s1, s2.below hb s2.lt⟩, ⟨cs, r1.below hb r1.lt, r2⟩, h.ne, ⟨es, e1.below hb e1.lt, e2⟩, h.map.below hb h.map.lt, h.ge, below_trans h.bel hb⟩
theorem count_a (h : AfW w g2 g4 gm gx d err A n c W) {k : Nat} (hk : k < 10) (m : Int) (hm : 0 ≤ m ∧ m ≤ 9223372036854775807) :
    Calls Tryz.prog 153 #[.pointer (some ⟨g2, k, none⟩), .int .i64 m] W (fun e w' => e = .returned (.tuple #[]) ∧ AfW w g2 g4 gm gx d err A n c w') := by
  obtain ⟨st, s1, s2⟩ := h.box
  obtain ⟨x, hx1, hx2⟩ := stOk_ctr s1 hk
  refine (count_s g2 k x m _ W s2 (by rw [List.getElem?_toArray]; exact hx1) hx2 hm).mono ?_
  rintro e w' ⟨rfl, r, hr, rfl⟩
  exact ⟨rfl, h.put (h.box.set hk hr)⟩
theorem AfW.deed (h : AfW w g2 g4 gm gx d err A n c W) : W.cell? ⟨gx, 0, none⟩ = some (.int .i64 d) := by
  obtain ⟨es, e1, e2, _⟩ := h.ev
  rw [e1.cell]; exact e2
theorem AfW.errc (h : AfW w g2 g4 gm gx d err A n c W) : W.cell? ⟨gx, 1, none⟩ = some (.int .i64 err) := by
  obtain ⟨es, e1, _, e2, _⟩ := h.ev
  rw [e1.cell]; exact e2
theorem AfW.prs (h : AfW w g2 g4 gm gx d err A n c W) : W.cell? ⟨gx, 3, none⟩ = some (.slice A n c) := by
  obtain ⟨es, e1, _, _, e2⟩ := h.ev
  rw [e1.cell]; exact e2
end
set_option maxHeartbeats 3200000 in
set_option maxRecDepth 100000 in
theorem after1 {w W : World} {g2 g4 gm gx : Nat} {err : Int} {A : Option Addr} {n c : Nat} {u0 u1 u3 u4 u5 u6 u7 u8 u12 u13 u14 u15 u16 u17 u18 u19 u20 u21 u22 u23 u24 u25 u26 u27 u28 u29 u30 u31 u32 u33 u34 u35 u36 u37 u38 u39 u40 u41 u42 u43 u44 u45 u46 u47 u48 u49 u50 u51 u52 u53 u54 u55 u56 u57 u58 u59 u60 u61 u62 u63 u64 u65 u66 u67 u68 u69 u70 u71 u72 u73 u74 u75 u76 u77 u78 u79 u80 u81 : Value} {Q : Exit → Act → World → Prop} (h : AfW w g2 g4 gm gx 1 err A n c W) (hn : n ≤ 9223372036854775807)
    (hQ : ∀ (s48 s49 s50 s51 s52 s53 s54 s55 s56 s57 s58 s59 s60 s61 s62 s63 s64 s65 s66 s67 s68 s69 s70 s71 s72 s73 s74 s75 s76 : Value) (W' : World), AfW w g2 g4 gm gx 1 err A n c W' → Q .normal ⟨#[u0, u1, .pointer (some ⟨g2, 0, none⟩), u3, u4, u5, u6, u7, u8, .pointer (some ⟨gx, 0, none⟩), .func (.func 183) #[] #[], .func (.func 153) #[] #[], u12, u13, u14, u15, u16, u17, u18, u19, u20, u21, u22, u23, u24, u25, u26, u27, u28, u29, u30, u31, u32, u33, u34, u35, u36, u37, u38, u39, u40, u41, u42, u43, u44, u45, u46, u47, s48, s49, s50, s51, s52, s53, s54, s55, s56, s57, s58, s59, s60, s61, s62, s63, s64, s65, s66, s67, s68, s69, s70, s71, s72, s73, s74, s75, s76, u77, u78, u79, u80, u81], []⟩ W') :
    Code.wp Tryz.prog (part Tryz.f93 [1, 1, 1, 0, 1, 2, 2, 1, 1, 0, 2, 1, 1, 1, 1, 1, 1, 1]) Q ⟨#[u0, u1, .pointer (some ⟨g2, 0, none⟩), u3, u4, u5, u6, u7, u8, .pointer (some ⟨gx, 0, none⟩), .func (.func 183) #[] #[], .func (.func 153) #[] #[], u12, u13, u14, u15, u16, u17, u18, u19, u20, u21, u22, u23, u24, u25, u26, u27, u28, u29, u30, u31, u32, u33, u34, u35, u36, u37, u38, u39, u40, u41, u42, u43, u44, u45, u46, u47, u48, u49, u50, u51, u52, u53, u54, u55, u56, u57, u58, u59, u60, u61, u62, u63, u64, u65, u66, u67, u68, u69, u70, u71, u72, u73, u74, u75, u76, u77, u78, u79, u80, u81], []⟩ W := by
  conv => arg 2; whnf
  have HQ := Lib.hid hQ
  have HA := Lib.hid h
  have hn0 : (0 : Int) ≤ (n : Int) ∧ (n : Int) ≤ 9223372036854775807 := by omega
  have HN := Lib.hid hn0
  clear hQ h hn hn0
  go_wp2_with fail
  refine (ctr1_s g2 W).mono ?_
  rintro e w1 ⟨rfl, rfl⟩
  go_wp2_with fail
  refine (count_a HA.out (k := 2) (by decide) 1 ⟨by decide, by decide⟩).mono ?_
  rintro e W1 ⟨rfl, h1⟩
  have H1 := Lib.hid h1
  have e1 := h1.errc
  clear h1
  have cases4 : err = 0 ∨ err = 10 ∨ err = 11 ∨ err = 12 ∨ (err ≠ 0 ∧ err ≠ 10 ∧ err ≠ 11 ∧ err ≠ 12) := by omega
  rcases cases4 with rfl | rfl | rfl | rfl | ⟨x0, x1, x2, x3⟩
  · go_wp2_with fail
    refine (count_a H1.out (k := 7) (by decide) 1 ⟨by decide, by decide⟩).mono ?_
    rintro e W2 ⟨rfl, h2⟩
    have H2 := Lib.hid h2
    have d2 := h2.deed
    have p2 := h2.prs
    clear h2
    go_wp2_with fail
    exact HQ.out _ _ _ _ _ _ _ _ _ _ _ _ _ _ _ _ _ _ _ _ _ _ _ _ _ _ _ _ _ _ H2.out
  · go_wp2_with fail
    refine (count_a H1.out (k := 8) (by decide) 1 ⟨by decide, by decide⟩).mono ?_
    rintro e W2 ⟨rfl, h2⟩
    have H2 := Lib.hid h2
    have d2 := h2.deed
    have p2 := h2.prs
    clear h2
    go_wp2_with fail
    exact HQ.out _ _ _ _ _ _ _ _ _ _ _ _ _ _ _ _ _ _ _ _ _ _ _ _ _ _ _ _ _ _ H2.out
  · go_wp2_with fail
    refine (count_a H1.out (k := 8) (by decide) 1 ⟨by decide, by decide⟩).mono ?_
    rintro e W2 ⟨rfl, h2⟩
    have H2 := Lib.hid h2
    have d2 := h2.deed
    have p2 := h2.prs
    clear h2
    go_wp2_with fail
    exact HQ.out _ _ _ _ _ _ _ _ _ _ _ _ _ _ _ _ _ _ _ _ _ _ _ _ _ _ _ _ _ _ H2.out
  · go_wp2_with fail
    refine (count_a H1.out (k := 8) (by decide) 1 ⟨by decide, by decide⟩).mono ?_
    rintro e W2 ⟨rfl, h2⟩
    have H2 := Lib.hid h2
    have d2 := h2.deed
    have p2 := h2.prs
    clear h2
    go_wp2_with fail
    exact HQ.out _ _ _ _ _ _ _ _ _ _ _ _ _ _ _ _ _ _ _ _ _ _ _ _ _ _ _ _ _ _ H2.out
  · have z0 : (err == 0) = false := by simpa using x0
    have z1 : (err == 10) = false := by simpa using x1
    have z2 : (err == 11) = false := by simpa using x2
    have z3 : (err == 12) = false := by simpa using x3
    have d2 := H1.out.deed
    have p2 := H1.out.prs
    clear x0 x1 x2 x3
    go_wp2_with fail
    exact HQ.out _ _ _ _ _ _ _ _ _ _ _ _ _ _ _ _ _ _ _ _ _ _ _ _ _ _ _ _ _ _ H1.out
set_option maxHeartbeats 3200000 in
set_option maxRecDepth 100000 in
theorem after2 {w W : World} {g2 g4 gm gx : Nat} {err : Int} {A : Option Addr} {n c : Nat} {u0 u1 u3 u4 u5 u6 u7 u8 u12 u13 u14 u15 u16 u17 u18 u19 u20 u21 u22 u23 u24 u25 u26 u27 u28 u29 u30 u31 u32 u33 u34 u35 u36 u37 u38 u39 u40 u41 u42 u43 u44 u45 u46 u47 u48 u49 u50 u51 u52 u53 u54 u55 u56 u57 u58 u59 u60 u61 u62 u63 u64 u65 u66 u67 u68 u69 u70 u71 u72 u73 u74 u75 u76 u77 u78 u79 u80 u81 : Value} {Q : Exit → Act → World → Prop} (h : AfW w g2 g4 gm gx 2 err A n c W) (hn : n ≤ 9223372036854775807)
    (hQ : ∀ (s48 s49 s50 s51 s52 s53 s54 s55 s56 s57 s58 s59 s60 s61 s62 s63 s64 s65 s66 s67 s68 s69 s70 s71 s72 s73 s74 s75 s76 : Value) (W' : World), AfW w g2 g4 gm gx 2 err A n c W' → Q .normal ⟨#[u0, u1, .pointer (some ⟨g2, 0, none⟩), u3, u4, u5, u6, u7, u8, .pointer (some ⟨gx, 0, none⟩), .func (.func 184) #[] #[], .func (.func 153) #[] #[], u12, u13, u14, u15, u16, u17, u18, u19, u20, u21, u22, u23, u24, u25, u26, u27, u28, u29, u30, u31, u32, u33, u34, u35, u36, u37, u38, u39, u40, u41, u42, u43, u44, u45, u46, u47, s48, s49, s50, s51, s52, s53, s54, s55, s56, s57, s58, s59, s60, s61, s62, s63, s64, s65, s66, s67, s68, s69, s70, s71, s72, s73, s74, s75, s76, u77, u78, u79, u80, u81], []⟩ W') :
    Code.wp Tryz.prog (part Tryz.f93 [1, 1, 1, 0, 1, 2, 2, 1, 1, 0, 2, 1, 1, 1, 1, 1, 1, 1]) Q ⟨#[u0, u1, .pointer (some ⟨g2, 0, none⟩), u3, u4, u5, u6, u7, u8, .pointer (some ⟨gx, 0, none⟩), .func (.func 184) #[] #[], .func (.func 153) #[] #[], u12, u13, u14, u15, u16, u17, u18, u19, u20, u21, u22, u23, u24, u25, u26, u27, u28, u29, u30, u31, u32, u33, u34, u35, u36, u37, u38, u39, u40, u41, u42, u43, u44, u45, u46, u47, u48, u49, u50, u51, u52, u53, u54, u55, u56, u57, u58, u59, u60, u61, u62, u63, u64, u65, u66, u67, u68, u69, u70, u71, u72, u73, u74, u75, u76, u77, u78, u79, u80, u81], []⟩ W := by
  conv => arg 2; whnf
  have HQ := Lib.hid hQ
  have HA := Lib.hid h
  have hn0 : (0 : Int) ≤ (n : Int) ∧ (n : Int) ≤ 9223372036854775807 := by omega
  have HN := Lib.hid hn0
  clear hQ h hn hn0
  go_wp2_with fail
  refine (ctr2_s g2 W).mono ?_
  rintro e w1 ⟨rfl, rfl⟩
  go_wp2_with fail
  refine (count_a HA.out (k := 3) (by decide) 1 ⟨by decide, by decide⟩).mono ?_
  rintro e W1 ⟨rfl, h1⟩
  have H1 := Lib.hid h1
  have e1 := h1.errc
  clear h1
  have cases4 : err = 0 ∨ err = 10 ∨ err = 11 ∨ err = 12 ∨ (err ≠ 0 ∧ err ≠ 10 ∧ err ≠ 11 ∧ err ≠ 12) := by omega
  rcases cases4 with rfl | rfl | rfl | rfl | ⟨x0, x1, x2, x3⟩
  · go_wp2_with fail
    refine (count_a H1.out (k := 7) (by decide) 1 ⟨by decide, by decide⟩).mono ?_
    rintro e W2 ⟨rfl, h2⟩
    have H2 := Lib.hid h2
    have d2 := h2.deed
    have p2 := h2.prs
    clear h2
    go_wp2_with fail
    exact HQ.out _ _ _ _ _ _ _ _ _ _ _ _ _ _ _ _ _ _ _ _ _ _ _ _ _ _ _ _ _ _ H2.out
  · go_wp2_with fail
    refine (count_a H1.out (k := 8) (by decide) 1 ⟨by decide, by decide⟩).mono ?_
    rintro e W2 ⟨rfl, h2⟩
    have H2 := Lib.hid h2
    have d2 := h2.deed
    have p2 := h2.prs
    clear h2
    go_wp2_with fail
    exact HQ.out _ _ _ _ _ _ _ _ _ _ _ _ _ _ _ _ _ _ _ _ _ _ _ _ _ _ _ _ _ _ H2.out
  · go_wp2_with fail
    refine (count_a H1.out (k := 8) (by decide) 1 ⟨by decide, by decide⟩).mono ?_
    rintro e W2 ⟨rfl, h2⟩
    have H2 := Lib.hid h2
    have d2 := h2.deed
    have p2 := h2.prs
    clear h2
    go_wp2_with fail
    exact HQ.out _ _ _ _ _ _ _ _ _ _ _ _ _ _ _ _ _ _ _ _ _ _ _ _ _ _ _ _ _ _ H2.out
  · go_wp2_with fail
    refine (count_a H1.out (k := 8) (by decide) 1 ⟨by decide, by decide⟩).mono ?_
    rintro e W2 ⟨rfl, h2⟩
    have H2 := Lib.hid h2
    have d2 := h2.deed
    have p2 := h2.prs
    clear h2
    go_wp2_with fail
    exact HQ.out _ _ _ _ _ _ _ _ _ _ _ _ _ _ _ _ _ _ _ _ _ _ _ _ _ _ _ _ _ _ H2.out
  · have z0 : (err == 0) = false := by simpa using x0
    have z1 : (err == 10) = false := by simpa using x1
    have z2 : (err == 11) = false := by simpa using x2
    have z3 : (err == 12) = false := by simpa using x3
    have d2 := H1.out.deed
    have p2 := H1.out.prs
    clear x0 x1 x2 x3
    go_wp2_with fail
    exact HQ.out _ _ _ _ _ _ _ _ _ _ _ _ _ _ _ _ _ _ _ _ _ _ _ _ _ _ _ _ _ _ H1.out
set_option maxHeartbeats 3200000 in
set_option maxRecDepth 100000 in
theorem after3 {w W : World} {g2 g4 gm gx : Nat} {err : Int} {A : Option Addr} {n c : Nat} {u0 u1 u3 u4 u5 u6 u7 u8 u12 u13 u14 u15 u16 u17 u18 u19 u20 u21 u22 u23 u24 u25 u26 u27 u28 u29 u30 u31 u32 u33 u34 u35 u36 u37 u38 u39 u40 u41 u42 u43 u44 u45 u46 u47 u48 u49 u50 u51 u52 u53 u54 u55 u56 u57 u58 u59 u60 u61 u62 u63 u64 u65 u66 u67 u68 u69 u70 u71 u72 u73 u74 u75 u76 u77 u78 u79 u80 u81 : Value} {Q : Exit → Act → World → Prop} (h : AfW w g2 g4 gm gx 3 err A n c W) (hn : n ≤ 9223372036854775807)
    (hQ : ∀ (s48 s49 s50 s51 s52 s53 s54 s55 s56 s57 s58 s59 s60 s61 s62 s63 s64 s65 s66 s67 s68 s69 s70 s71 s72 s73 s74 s75 s76 : Value) (W' : World), AfW w g2 g4 gm gx 3 err A n c W' → Q .normal ⟨#[u0, u1, .pointer (some ⟨g2, 0, none⟩), u3, u4, u5, u6, u7, u8, .pointer (some ⟨gx, 0, none⟩), .func (.func 185) #[] #[], .func (.func 153) #[] #[], u12, u13, u14, u15, u16, u17, u18, u19, u20, u21, u22, u23, u24, u25, u26, u27, u28, u29, u30, u31, u32, u33, u34, u35, u36, u37, u38, u39, u40, u41, u42, u43, u44, u45, u46, u47, s48, s49, s50, s51, s52, s53, s54, s55, s56, s57, s58, s59, s60, s61, s62, s63, s64, s65, s66, s67, s68, s69, s70, s71, s72, s73, s74, s75, s76, u77, u78, u79, u80, u81], []⟩ W') :
    Code.wp Tryz.prog (part Tryz.f93 [1, 1, 1, 0, 1, 2, 2, 1, 1, 0, 2, 1, 1, 1, 1, 1, 1, 1]) Q ⟨#[u0, u1, .pointer (some ⟨g2, 0, none⟩), u3, u4, u5, u6, u7, u8, .pointer (some ⟨gx, 0, none⟩), .func (.func 185) #[] #[], .func (.func 153) #[] #[], u12, u13, u14, u15, u16, u17, u18, u19, u20, u21, u22, u23, u24, u25, u26, u27, u28, u29, u30, u31, u32, u33, u34, u35, u36, u37, u38, u39, u40, u41, u42, u43, u44, u45, u46, u47, u48, u49, u50, u51, u52, u53, u54, u55, u56, u57, u58, u59, u60, u61, u62, u63, u64, u65, u66, u67, u68, u69, u70, u71, u72, u73, u74, u75, u76, u77, u78, u79, u80, u81], []⟩ W := by
  conv => arg 2; whnf
  have HQ := Lib.hid hQ
  have HA := Lib.hid h
  have hn0 : (0 : Int) ≤ (n : Int) ∧ (n : Int) ≤ 9223372036854775807 := by omega
  have HN := Lib.hid hn0
  clear hQ h hn hn0
  go_wp2_with fail
  refine (ctr3_s g2 W).mono ?_
  rintro e w1 ⟨rfl, rfl⟩
  go_wp2_with fail
  refine (count_a HA.out (k := 4) (by decide) 1 ⟨by decide, by decide⟩).mono ?_
  rintro e W1 ⟨rfl, h1⟩
  have H1 := Lib.hid h1
  have e1 := h1.errc
  clear h1
  have cases4 : err = 0 ∨ err = 10 ∨ err = 11 ∨ err = 12 ∨ (err ≠ 0 ∧ err ≠ 10 ∧ err ≠ 11 ∧ err ≠ 12) := by omega
  rcases cases4 with rfl | rfl | rfl | rfl | ⟨x0, x1, x2, x3⟩
  · go_wp2_with fail
    refine (count_a H1.out (k := 7) (by decide) 1 ⟨by decide, by decide⟩).mono ?_
    rintro e W2 ⟨rfl, h2⟩
    have H2 := Lib.hid h2
    have d2 := h2.deed
    have p2 := h2.prs
    clear h2
    go_wp2_with fail
    exact HQ.out _ _ _ _ _ _ _ _ _ _ _ _ _ _ _ _ _ _ _ _ _ _ _ _ _ _ _ _ _ _ H2.out
  · go_wp2_with fail
    refine (count_a H1.out (k := 8) (by decide) 1 ⟨by decide, by decide⟩).mono ?_
    rintro e W2 ⟨rfl, h2⟩
    have H2 := Lib.hid h2
    have d2 := h2.deed
    have p2 := h2.prs
    clear h2
    go_wp2_with fail
    exact HQ.out _ _ _ _ _ _ _ _ _ _ _ _ _ _ _ _ _ _ _ _ _ _ _ _ _ _ _ _ _ _ H2.out
  · go_wp2_with fail
    refine (count_a H1.out (k := 8) (by decide) 1 ⟨by decide, by decide⟩).mono ?_
    rintro e W2 ⟨rfl, h2⟩
    have H2 := Lib.hid h2
    have d2 := h2.deed
    have p2 := h2.prs
    clear h2
    go_wp2_with fail
    exact HQ.out _ _ _ _ _ _ _ _ _ _ _ _ _ _ _ _ _ _ _ _ _ _ _ _ _ _ _ _ _ _ H2.out
  · go_wp2_with fail
    refine (count_a H1.out (k := 8) (by decide) 1 ⟨by decide, by decide⟩).mono ?_
    rintro e W2 ⟨rfl, h2⟩
    have H2 := Lib.hid h2
    have d2 := h2.deed
    have p2 := h2.prs
    clear h2
    go_wp2_with fail
    exact HQ.out _ _ _ _ _ _ _ _ _ _ _ _ _ _ _ _ _ _ _ _ _ _ _ _ _ _ _ _ _ _ H2.out
  · have z0 : (err == 0) = false := by simpa using x0
    have z1 : (err == 10) = false := by simpa using x1
    have z2 : (err == 11) = false := by simpa using x2
    have z3 : (err == 12) = false := by simpa using x3
    have d2 := H1.out.deed
    have p2 := H1.out.prs
    clear x0 x1 x2 x3
    go_wp2_with fail
    exact HQ.out _ _ _ _ _ _ _ _ _ _ _ _ _ _ _ _ _ _ _ _ _ _ _ _ _ _ _ _ _ _ H1.out
set_option maxHeartbeats 3200000 in
set_option maxRecDepth 100000 in
theorem after4 {w W : World} {g2 g4 gm gx : Nat} {err : Int} {A : Option Addr} {n c : Nat} {u0 u1 u3 u4 u5 u6 u7 u8 u12 u13 u14 u15 u16 u17 u18 u19 u20 u21 u22 u23 u24 u25 u26 u27 u28 u29 u30 u31 u32 u33 u34 u35 u36 u37 u38 u39 u40 u41 u42 u43 u44 u45 u46 u47 u48 u49 u50 u51 u52 u53 u54 u55 u56 u57 u58 u59 u60 u61 u62 u63 u64 u65 u66 u67 u68 u69 u70 u71 u72 u73 u74 u75 u76 u77 u78 u79 u80 u81 : Value} {Q : Exit → Act → World → Prop} (h : AfW w g2 g4 gm gx 4 err A n c W) (hn : n ≤ 9223372036854775807)
    (hQ : ∀ (s48 s49 s50 s51 s52 s53 s54 s55 s56 s57 s58 s59 s60 s61 s62 s63 s64 s65 s66 s67 s68 s69 s70 s71 s72 s73 s74 s75 s76 : Value) (W' : World), AfW w g2 g4 gm gx 4 err A n c W' → Q .normal ⟨#[u0, u1, .pointer (some ⟨g2, 0, none⟩), u3, u4, u5, u6, u7, u8, .pointer (some ⟨gx, 0, none⟩), .func (.func 186) #[] #[], .func (.func 153) #[] #[], u12, u13, u14, u15, u16, u17, u18, u19, u20, u21, u22, u23, u24, u25, u26, u27, u28, u29, u30, u31, u32, u33, u34, u35, u36, u37, u38, u39, u40, u41, u42, u43, u44, u45, u46, u47, s48, s49, s50, s51, s52, s53, s54, s55, s56, s57, s58, s59, s60, s61, s62, s63, s64, s65, s66, s67, s68, s69, s70, s71, s72, s73, s74, s75, s76, u77, u78, u79, u80, u81], []⟩ W') :
    Code.wp Tryz.prog (part Tryz.f93 [1, 1, 1, 0, 1, 2, 2, 1, 1, 0, 2, 1, 1, 1, 1, 1, 1, 1]) Q ⟨#[u0, u1, .pointer (some ⟨g2, 0, none⟩), u3, u4, u5, u6, u7, u8, .pointer (some ⟨gx, 0, none⟩), .func (.func 186) #[] #[], .func (.func 153) #[] #[], u12, u13, u14, u15, u16, u17, u18, u19, u20, u21, u22, u23, u24, u25, u26, u27, u28, u29, u30, u31, u32, u33, u34, u35, u36, u37, u38, u39, u40, u41, u42, u43, u44, u45, u46, u47, u48, u49, u50, u51, u52, u53, u54, u55, u56, u57, u58, u59, u60, u61, u62, u63, u64, u65, u66, u67, u68, u69, u70, u71, u72, u73, u74, u75, u76, u77, u78, u79, u80, u81], []⟩ W := by
  conv => arg 2; whnf
  have HQ := Lib.hid hQ
  have HA := Lib.hid h
  have hn0 : (0 : Int) ≤ (n : Int) ∧ (n : Int) ≤ 9223372036854775807 := by omega
  have HN := Lib.hid hn0
  clear hQ h hn hn0
  go_wp2_with fail
  refine (ctr4_s g2 W).mono ?_
  rintro e w1 ⟨rfl, rfl⟩
  go_wp2_with fail
  refine (count_a HA.out (k := 5) (by decide) 1 ⟨by decide, by decide⟩).mono ?_
  rintro e W1 ⟨rfl, h1⟩
  have H1 := Lib.hid h1
  have e1 := h1.errc
  clear h1
  have cases4 : err = 0 ∨ err = 10 ∨ err = 11 ∨ err = 12 ∨ (err ≠ 0 ∧ err ≠ 10 ∧ err ≠ 11 ∧ err ≠ 12) := by omega
  rcases cases4 with rfl | rfl | rfl | rfl | ⟨x0, x1, x2, x3⟩
  · go_wp2_with fail
    refine (count_a H1.out (k := 7) (by decide) 1 ⟨by decide, by decide⟩).mono ?_
    rintro e W2 ⟨rfl, h2⟩
    have H2 := Lib.hid h2
    have d2 := h2.deed
    have p2 := h2.prs
    clear h2
    go_wp2_with fail
    exact HQ.out _ _ _ _ _ _ _ _ _ _ _ _ _ _ _ _ _ _ _ _ _ _ _ _ _ _ _ _ _ _ H2.out
  · go_wp2_with fail
    refine (count_a H1.out (k := 8) (by decide) 1 ⟨by decide, by decide⟩).mono ?_
    rintro e W2 ⟨rfl, h2⟩
    have H2 := Lib.hid h2
    have d2 := h2.deed
    have p2 := h2.prs
    clear h2
    go_wp2_with fail
    exact HQ.out _ _ _ _ _ _ _ _ _ _ _ _ _ _ _ _ _ _ _ _ _ _ _ _ _ _ _ _ _ _ H2.out
  · go_wp2_with fail
    refine (count_a H1.out (k := 8) (by decide) 1 ⟨by decide, by decide⟩).mono ?_
    rintro e W2 ⟨rfl, h2⟩
    have H2 := Lib.hid h2
    have d2 := h2.deed
    have p2 := h2.prs
    clear h2
    go_wp2_with fail
    exact HQ.out _ _ _ _ _ _ _ _ _ _ _ _ _ _ _ _ _ _ _ _ _ _ _ _ _ _ _ _ _ _ H2.out
  · go_wp2_with fail
    refine (count_a H1.out (k := 8) (by decide) 1 ⟨by decide, by decide⟩).mono ?_
    rintro e W2 ⟨rfl, h2⟩
    have H2 := Lib.hid h2
    have d2 := h2.deed
    have p2 := h2.prs
    clear h2
    go_wp2_with fail
    exact HQ.out _ _ _ _ _ _ _ _ _ _ _ _ _ _ _ _ _ _ _ _ _ _ _ _ _ _ _ _ _ _ H2.out
  · have z0 : (err == 0) = false := by simpa using x0
    have z1 : (err == 10) = false := by simpa using x1
    have z2 : (err == 11) = false := by simpa using x2
    have z3 : (err == 12) = false := by simpa using x3
    have d2 := H1.out.deed
    have p2 := H1.out.prs
    clear x0 x1 x2 x3
    go_wp2_with fail
    exact HQ.out _ _ _ _ _ _ _ _ _ _ _ _ _ _ _ _ _ _ _ _ _ _ _ _ _ _ _ _ _ _ H1.out
set_option maxHeartbeats 3200000 in
set_option maxRecDepth 100000 in
theorem after5 {w W : World} {g2 g4 gm gx : Nat} {err : Int} {A : Option Addr} {n c : Nat} {u0 u1 u3 u4 u5 u6 u7 u8 u12 u13 u14 u15 u16 u17 u18 u19 u20 u21 u22 u23 u24 u25 u26 u27 u28 u29 u30 u31 u32 u33 u34 u35 u36 u37 u38 u39 u40 u41 u42 u43 u44 u45 u46 u47 u48 u49 u50 u51 u52 u53 u54 u55 u56 u57 u58 u59 u60 u61 u62 u63 u64 u65 u66 u67 u68 u69 u70 u71 u72 u73 u74 u75 u76 u77 u78 u79 u80 u81 : Value} {Q : Exit → Act → World → Prop} (h : AfW w g2 g4 gm gx 5 err A n c W) (hn : n ≤ 9223372036854775807)
    (hQ : ∀ (s48 s49 s50 s51 s52 s53 s54 s55 s56 s57 s58 s59 s60 s61 s62 s63 s64 s65 s66 s67 s68 s69 s70 s71 s72 s73 s74 s75 s76 : Value) (W' : World), AfW w g2 g4 gm gx 5 err A n c W' → Q .normal ⟨#[u0, u1, .pointer (some ⟨g2, 0, none⟩), u3, u4, u5, u6, u7, u8, .pointer (some ⟨gx, 0, none⟩), .func (.func 187) #[] #[], .func (.func 153) #[] #[], u12, u13, u14, u15, u16, u17, u18, u19, u20, u21, u22, u23, u24, u25, u26, u27, u28, u29, u30, u31, u32, u33, u34, u35, u36, u37, u38, u39, u40, u41, u42, u43, u44, u45, u46, u47, s48, s49, s50, s51, s52, s53, s54, s55, s56, s57, s58, s59, s60, s61, s62, s63, s64, s65, s66, s67, s68, s69, s70, s71, s72, s73, s74, s75, s76, u77, u78, u79, u80, u81], []⟩ W') :
    Code.wp Tryz.prog (part Tryz.f93 [1, 1, 1, 0, 1, 2, 2, 1, 1, 0, 2, 1, 1, 1, 1, 1, 1, 1]) Q ⟨#[u0, u1, .pointer (some ⟨g2, 0, none⟩), u3, u4, u5, u6, u7, u8, .pointer (some ⟨gx, 0, none⟩), .func (.func 187) #[] #[], .func (.func 153) #[] #[], u12, u13, u14, u15, u16, u17, u18, u19, u20, u21, u22, u23, u24, u25, u26, u27, u28, u29, u30, u31, u32, u33, u34, u35, u36, u37, u38, u39, u40, u41, u42, u43, u44, u45, u46, u47, u48, u49, u50, u51, u52, u53, u54, u55, u56, u57, u58, u59, u60, u61, u62, u63, u64, u65, u66, u67, u68, u69, u70, u71, u72, u73, u74, u75, u76, u77, u78, u79, u80, u81], []⟩ W := by
  conv => arg 2; whnf
  have HQ := Lib.hid hQ
  have HA := Lib.hid h
  have hn0 : (0 : Int) ≤ (n : Int) ∧ (n : Int) ≤ 9223372036854775807 := by omega
  have HN := Lib.hid hn0
  clear hQ h hn hn0
  go_wp2_with fail
  refine (ctr5_s g2 W).mono ?_
  rintro e w1 ⟨rfl, rfl⟩
  go_wp2_with fail
  refine (count_a HA.out (k := 6) (by decide) 1 ⟨by decide, by decide⟩).mono ?_
  rintro e W1 ⟨rfl, h1⟩
  have H1 := Lib.hid h1
  have e1 := h1.errc
  clear h1
  have cases4 : err = 0 ∨ err = 10 ∨ err = 11 ∨ err = 12 ∨ (err ≠ 0 ∧ err ≠ 10 ∧ err ≠ 11 ∧ err ≠ 12) := by omega
  rcases cases4 with rfl | rfl | rfl | rfl | ⟨x0, x1, x2, x3⟩
  · go_wp2_with fail
    refine (count_a H1.out (k := 7) (by decide) 1 ⟨by decide, by decide⟩).mono ?_
    rintro e W2 ⟨rfl, h2⟩
    have H2 := Lib.hid h2
    have d2 := h2.deed
    have p2 := h2.prs
    clear h2
    go_wp2_with fail
    refine (count_a H2.out (k := 9) (by decide) n HN.out).mono ?_
    rintro e W3 ⟨rfl, h3⟩
    have H3 := Lib.hid h3
    clear h3
    go_wp2_with fail
    exact HQ.out _ _ _ _ _ _ _ _ _ _ _ _ _ _ _ _ _ _ _ _ _ _ _ _ _ _ _ _ _ _ H3.out
  · go_wp2_with fail
    refine (count_a H1.out (k := 8) (by decide) 1 ⟨by decide, by decide⟩).mono ?_
    rintro e W2 ⟨rfl, h2⟩
    have H2 := Lib.hid h2
    have d2 := h2.deed
    have p2 := h2.prs
    clear h2
    go_wp2_with fail
    refine (count_a H2.out (k := 9) (by decide) n HN.out).mono ?_
    rintro e W3 ⟨rfl, h3⟩
    have H3 := Lib.hid h3
    clear h3
    go_wp2_with fail
    exact HQ.out _ _ _ _ _ _ _ _ _ _ _ _ _ _ _ _ _ _ _ _ _ _ _ _ _ _ _ _ _ _ H3.out
  · go_wp2_with fail
    refine (count_a H1.out (k := 8) (by decide) 1 ⟨by decide, by decide⟩).mono ?_
    rintro e W2 ⟨rfl, h2⟩
    have H2 := Lib.hid h2
    have d2 := h2.deed
    have p2 := h2.prs
    clear h2
    go_wp2_with fail
    refine (count_a H2.out (k := 9) (by decide) n HN.out).mono ?_
    rintro e W3 ⟨rfl, h3⟩
    have H3 := Lib.hid h3
    clear h3
    go_wp2_with fail
    exact HQ.out _ _ _ _ _ _ _ _ _ _ _ _ _ _ _ _ _ _ _ _ _ _ _ _ _ _ _ _ _ _ H3.out
  · go_wp2_with fail
    refine (count_a H1.out (k := 8) (by decide) 1 ⟨by decide, by decide⟩).mono ?_
    rintro e W2 ⟨rfl, h2⟩
    have H2 := Lib.hid h2
    have d2 := h2.deed
    have p2 := h2.prs
    clear h2
    go_wp2_with fail
    refine (count_a H2.out (k := 9) (by decide) n HN.out).mono ?_
    rintro e W3 ⟨rfl, h3⟩
    have H3 := Lib.hid h3
    clear h3
    go_wp2_with fail
    exact HQ.out _ _ _ _ _ _ _ _ _ _ _ _ _ _ _ _ _ _ _ _ _ _ _ _ _ _ _ _ _ _ H3.out
  · have z0 : (err == 0) = false := by simpa using x0
    have z1 : (err == 10) = false := by simpa using x1
    have z2 : (err == 11) = false := by simpa using x2
    have z3 : (err == 12) = false := by simpa using x3
    have d2 := H1.out.deed
    have p2 := H1.out.prs
    clear x0 x1 x2 x3
    go_wp2_with fail
    refine (count_a H1.out (k := 9) (by decide) n HN.out).mono ?_
    rintro e W3 ⟨rfl, h3⟩
    have H3 := Lib.hid h3
    clear h3
    go_wp2_with fail
    exact HQ.out _ _ _ _ _ _ _ _ _ _ _ _ _ _ _ _ _ _ _ _ _ _ _ _ _ _ _ _ _ _ H3.out
end Go.Proofs.YtkgflepgkhnclaaGreatDoor
namespace Go.Proofs.YtkgflepgkhnclaaGreatDoor
open Go.RowKit Go.Shelf
set_option linter.unusedVariables false
set_option linter.unusedSimpArgs false
attribute [local go_sem] run_store_complex

theorem results_cell_tmp {P : Program} {w : World} {fn : Func} {tmps : Array Value} {i j : Nat} {t tt : TypeId} {g : Nat} {cs : Array Value} {d : TypeDesc} {v : Value} (hres : fn.results = #[.cell i t, .tmp j]) (ha : tmps.getD i undef = .pointer (some ⟨g, 0, none⟩)) (hv : tmps.getD j undef = v) (hb : Blk w g tt cs)
    (hu : P.underlying t = some d) (hd : d.isRow = true) (hi : (P.info? t).map (·.size) = some cs.size) : (results fn tmps).run P w = .ok (.tuple #[.agg cs, v]) w := by
  have hl := run_loadVar_mid (P := P) w g 0 t cs.toList d (fun j v hv => by rw [Nat.zero_add, hb.cell]; simpa using hv) hu hd (by simpa using hi)
  have hp : asAddr (.pointer (some ⟨g, 0, none⟩)) = pure ⟨g, 0, none⟩ := rfl
  simp only [Array.toArray_toList] at hl
  rw [Array.getD_eq_getD_getElem?] at ha hv
  simp [results, hres, ha, hv, hp, hl, Result.andThen]
theorem Is_s (st : List Value) (h : StOk st) (w : World) : Calls Tryz.prog 151 #[.agg st.toArray] w (SomeB w) := by
  obtain ⟨n0, n1, n2, n3, n4, n5, n6, n7, n8, n9, fa, fb, rfl⟩ := stOk_list h
  have hb1 := below_box w (.cells #[.int .u64 n0, .int .u64 n1, .int .u64 n2, .int .u64 n3, .int .u64 n4, .int .u64 n5, .int .u64 n6, .int .u64 n7, .int .u64 n8, .int .u64 n9, .complex .f64 fa fb] 50)
  clear h
  go_enter Tryz.func151, Tryz.ntmps151
  go_wp2_with fail
  refine (Is_l fa fb _).mono ?_
  rintro e w1 ⟨⟨q, rfl⟩, rfl⟩
  go_wp2_with fail
  go_ret
  exact ⟨q, rfl, hb1⟩
/-- The world in After, out of a round. -/
structure AfB (w : World) (g2 g4 gm : Nat) (W : World) : Prop where
  box : StBox W g2
  res : ∃ cs, Blk W g4 50 cs ∧ cs.size = 11
  ne : g4 ≠ g2
  map : IntMap .i64 W gm ctrMap
  ge : w.heap.size ≤ g2
  ge4 : w.heap.size ≤ g4
  bel : Below w.heap.size w W
theorem AfW.out {w W : World} {g2 g4 gm gx : Nat} {d err : Int} {A : Option Addr} {n c : Nat} (h : AfW w g2 g4 gm gx d err A n c W) (h4 : w.heap.size ≤ g4) : AfB w g2 g4 gm W := ⟨h.box, h.res, h.ne, h.map, h.ge, h4, h.bel⟩
theorem AfB.below {w W W' : World} {g2 g4 gm : Nat} (h : AfB w g2 g4 gm W) (hb : Below W.heap.size W W') : AfB w g2 g4 gm W' := by
  obtain ⟨cs, r1, r2⟩ := h.res
  obtain ⟨st, s1, s2⟩ := h.box
  exact ⟨⟨st, s1, s2.below hb s2.lt⟩, ⟨cs, r1.below hb r1.lt, r2⟩, h.ne, h.map.below hb h.map.lt, h.ge, h.ge4, below_trans h.bel hb⟩
theorem AfB.ev {w W : World} {g2 g4 gm : Nat} (h : AfB w g2 g4 gm W) (d err : Int) (A : Option Addr) (n c : Nat) (cs : Array Value) (h0 : cs[0]? = some (.int .i64 d)) (h1 : cs[1]? = some (.int .i64 err)) (h3 : cs[3]? = some (.slice A n c)) :
    AfW w g2 g4 gm W.heap.size d err A n c (W.alloc (.cells cs 161)) := by
  have hb := h.below (W' := W.alloc (.cells cs 161)) (below_box _ _)
  exact ⟨hb.box, hb.res, hb.ne, ⟨cs, Blk.new _ _ _, h0, h1, h3⟩, hb.map, hb.ge, hb.bel⟩
def SomeS (w : World) (e : Ending) (w' : World) : Prop := ∃ st q, StOk st ∧ e = .returned (.tuple #[.agg st.toArray, .bool q]) ∧ Below w.heap.size w w'
theorem run_eql_func {P : Program} (w : World) (t : TypeId) (ps rs : Array TypeId) (vd : Bool) (f : Fn) (x y : Array Value) (h : P.underlying t = some (.func ps rs vd)) : (binOp .eql t (.func f x y) .nilFunc).run P w = .ok (.bool false) w := by
  have h1 : ∀ d, (Op.equalIn (d + 1) t (.func f x y) .nilFunc).run P w = .ok false w := fun d => by simp [Op.equalIn, run_underlying h]
  simp only [binOp]
  simp [Op.equal, Op.maxDepth, h1 9999]
theorem run_eql_func_nil {P : Program} (w : World) (t : TypeId) (ps rs : Array TypeId) (vd : Bool) (h : P.underlying t = some (.func ps rs vd)) : (binOp .eql t .nilFunc .nilFunc).run P w = .ok (.bool true) w := by
  have h1 : ∀ d, (Op.equalIn (d + 1) t .nilFunc .nilFunc).run P w = .ok true w := fun d => by simp [Op.equalIn, run_underlying h]
  simp only [binOp]
  simp [Op.equal, Op.maxDepth, h1 9999]
theorem stOk_cx {st : List Value} (h : StOk st) : ∃ a b, st[10]? = some (.complex .f64 a b) := by
  obtain ⟨ns, a, b, hl, rfl, hn⟩ := h
  exact ⟨a, b, by rw [List.getElem?_append_right (by simp [hl])]; simp [hl]⟩
end Go.Proofs.YtkgflepgkhnclaaGreatDoor
namespace Go.Proofs.YtkgflepgkhnclaaGreatDoor
open Go.RowKit Go.Shelf
set_option linter.unusedVariables false
set_option linter.unusedSimpArgs false
attribute [local go_sem] run_store_complex

theorem st_cells {W : World} {g : Nat} {t : TypeId} {n0 n1 n2 n3 n4 n5 n6 n7 n8 n9 : Int} {fa fb : Nat} (H : Blk W g t #[.int .u64 n0, .int .u64 n1, .int .u64 n2, .int .u64 n3, .int .u64 n4, .int .u64 n5, .int .u64 n6, .int .u64 n7, .int .u64 n8, .int .u64 n9, .complex .f64 fa fb]) : W.cell? ⟨g, 0, none⟩ = some (.int .u64 n0) ∧ W.cell? ⟨g, 1, none⟩ = some (.int .u64 n1) ∧ W.cell? ⟨g, 2, none⟩ = some (.int .u64 n2) ∧ W.cell? ⟨g, 3, none⟩ = some (.int .u64 n3) ∧ W.cell? ⟨g, 4, none⟩ = some (.int .u64 n4) ∧ W.cell? ⟨g, 5, none⟩ = some (.int .u64 n5) ∧ W.cell? ⟨g, 6, none⟩ = some (.int .u64 n6) ∧ W.cell? ⟨g, 7, none⟩ = some (.int .u64 n7) ∧ W.cell? ⟨g, 8, none⟩ = some (.int .u64 n8) ∧ W.cell? ⟨g, 9, none⟩ = some (.int .u64 n9) ∧ W.cell? ⟨g, 10, none⟩ = some (.complex .f64 fa fb) := ⟨H.cell 0, H.cell 1, H.cell 2, H.cell 3, H.cell 4, H.cell 5, H.cell 6, H.cell 7, H.cell 8, H.cell 9, H.cell 10⟩
theorem infoEv : (Tryz.prog.info? 161).map (·.size) = some 18 := by kernel_rfl
theorem zst_one : (#[.int .u64 0, .int .u64 0, .int .u64 0, .int .u64 0, .int .u64 0, .int .u64 0, .int .u64 0, .int .u64 0, .int .u64 0, .int .u64 0, .complex .f64 0 0] : Array Value).all (·.oneCell') = true := by simp [Value.oneCell']
set_option maxHeartbeats 3200000 in
set_option maxRecDepth 100000 in
theorem after_end {w W : World} {gm : Nat} {q : Bool} {u0 u1 u3 u5 u6 u8 u9 u10 u11 u12 u13 u14 u15 u16 u17 u18 u19 u20 u21 u22 u23 u24 u25 u26 u27 u28 u29 u30 u31 u32 u33 u34 u35 u36 u37 u38 u39 u40 u41 u42 u43 u44 u45 u46 u47 u48 u49 u50 u51 u52 u53 u54 u55 u56 u57 u58 u59 u60 u61 u62 u63 u64 u65 u66 u67 u68 u69 u70 u71 u72 u73 u74 u75 u76 u77 u78 u79 u80 u81 : Value} (hB : AfB w w.heap.size (w.heap.size + 1) gm W) :
    Code.wp Tryz.prog (part Tryz.f93 [1, 1, 1, 1]) (bodyPost Tryz.prog Tryz.f93 (SomeS w)) ⟨#[u0, u1, .pointer (some ⟨w.heap.size, 0, none⟩), u3, .pointer (some ⟨w.heap.size + 1, 0, none⟩), u5, u6, .bool q, u8, u9, u10, u11, u12, u13, u14, u15, u16, u17, u18, u19, u20, u21, u22, u23, u24, u25, u26, u27, u28, u29, u30, u31, u32, u33, u34, u35, u36, u37, u38, u39, u40, u41, u42, u43, u44, u45, u46, u47, u48, u49, u50, u51, u52, u53, u54, u55, u56, u57, u58, u59, u60, u61, u62, u63, u64, u65, u66, u67, u68, u69, u70, u71, u72, u73, u74, u75, u76, u77, u78, u79, u80, u81], []⟩ W := by
  conv => arg 2; whnf
  obtain ⟨cs, r1, r2⟩ := hB.res
  obtain ⟨st, hst, hb⟩ := hB.box
  obtain ⟨n0, n1, n2, n3, n4, n5, n6, n7, n8, n9, fa, fb, rfl⟩ := stOk_list hst
  obtain ⟨c0, c1, c2, c3, c4, c5, c6, c7, c8, c9, c10⟩ := st_cells hb
  have HS := Lib.hid hst
  have HB := Lib.hid hB
  have HR := Lib.hid (And.intro r1 r2)
  have hth := there_blk r1 (n := 11) (by omega)
  clear hst hB r1 r2 hb
  cases q
  · go_wp2_with (refine wpList_store_mid rfl 50 (.tmp 4) (.tmp 80) rfl (w.heap.size + 1) 0 #[.int .u64 0, .int .u64 0, .int .u64 0, .int .u64 0, .int .u64 0, .int .u64 0, .int .u64 0, .int .u64 0, .int .u64 0, .int .u64 0, .complex .f64 0 0] rfl rfl hth infoStat zst_one ?_)
    refine bodyPost_ret (v := .tuple #[.agg #[.int .u64 0, .int .u64 0, .int .u64 0, .int .u64 0, .int .u64 0, .int .u64 0, .int .u64 0, .int .u64 0, .int .u64 0, .int .u64 0, .complex .f64 0 0], .bool false]) ?_ rfl ?_
    · exact results_cell_tmp Tryz.results93 rfl rfl (blk_setAll HR.out.1 HR.out.2) Tryz.underlying50 rfl infoStat
    · exact ⟨st0, false, st0_ok, rfl, below_sets _ (Nat.le_succ _) _ _ _ HB.out.bel⟩
  · go_wp2_with (refine wpList_store_mid rfl 50 (.tmp 4) (.tmp 81) rfl (w.heap.size + 1) 0 #[.int .u64 n0, .int .u64 n1, .int .u64 n2, .int .u64 n3, .int .u64 n4, .int .u64 n5, .int .u64 n6, .int .u64 n7, .int .u64 n8, .int .u64 n9, .complex .f64 fa fb] rfl rfl hth infoStat (by simp [Value.oneCell']) ?_)
    refine bodyPost_ret (v := .tuple #[.agg #[.int .u64 n0, .int .u64 n1, .int .u64 n2, .int .u64 n3, .int .u64 n4, .int .u64 n5, .int .u64 n6, .int .u64 n7, .int .u64 n8, .int .u64 n9, .complex .f64 fa fb], .bool true]) ?_ rfl ?_
    · exact results_cell_tmp Tryz.results93 rfl rfl (blk_setAll HR.out.1 HR.out.2) Tryz.underlying50 rfl infoStat
    · exact ⟨_, true, HS.out, rfl, below_sets _ (Nat.le_succ _) _ _ _ HB.out.bel⟩
end Go.Proofs.YtkgflepgkhnclaaGreatDoor
namespace Go.Proofs.YtkgflepgkhnclaaGreatDoor
open Go.RowKit Go.Shelf
set_option linter.unusedVariables false
set_option linter.unusedSimpArgs false
attribute [local go_sem] run_store_complex

set_option maxHeartbeats 6400000 in
set_option maxRecDepth 100000 in
theorem afterE1 (st : List Value) (h : StOk st) (x : Dn) (ge : Nat) (w : World) (hev : Blk w ge 161 #[.int .i64 1, .int .i64 x.err, .string x.val, .slice x.pA x.pn x.pc, .int .i64 x.h.t, .int .u32 x.h.g, .int .u8 x.h.r, .int .u64 x.s0, .int .u64 x.s1, .int .u64 x.s2, .int .u64 x.s3, .int .u64 x.s4, .int .u64 x.s5, .int .u64 x.s6, .int .u64 x.s7, .int .u64 x.s8, .int .u64 x.s9, .complex .f64 x.la x.lb]) (hn : x.pn ≤ 9223372036854775807) : Calls Tryz.prog 93 #[.agg st.toArray, .slice (some ⟨ge, 0, none⟩) 1 1] w (SomeS w) := by
  obtain ⟨n0, n1, n2, n3, n4, n5, n6, n7, n8, n9, fa, fb, rfl⟩ := stOk_list h
  have q1 : Blk ((w.alloc (.cells #[.int .u64 n0, .int .u64 n1, .int .u64 n2, .int .u64 n3, .int .u64 n4, .int .u64 n5, .int .u64 n6, .int .u64 n7, .int .u64 n8, .int .u64 n9, .complex .f64 fa fb] 50)).alloc (.cells #[.int .u64 0, .int .u64 0, .int .u64 0, .int .u64 0, .int .u64 0, .int .u64 0, .int .u64 0, .int .u64 0, .int .u64 0, .int .u64 0, .complex .f64 0 0] 50)) w.heap.size 50 #[.int .u64 n0, .int .u64 n1, .int .u64 n2, .int .u64 n3, .int .u64 n4, .int .u64 n5, .int .u64 n6, .int .u64 n7, .int .u64 n8, .int .u64 n9, .complex .f64 fa fb] := (Blk.new w 50 _).alloc _
  have q2 : Blk ((w.alloc (.cells #[.int .u64 n0, .int .u64 n1, .int .u64 n2, .int .u64 n3, .int .u64 n4, .int .u64 n5, .int .u64 n6, .int .u64 n7, .int .u64 n8, .int .u64 n9, .complex .f64 fa fb] 50)).alloc (.cells #[.int .u64 0, .int .u64 0, .int .u64 0, .int .u64 0, .int .u64 0, .int .u64 0, .int .u64 0, .int .u64 0, .int .u64 0, .int .u64 0, .complex .f64 0 0] 50)) (w.heap.size + 1) 50 #[.int .u64 0, .int .u64 0, .int .u64 0, .int .u64 0, .int .u64 0, .int .u64 0, .int .u64 0, .int .u64 0, .int .u64 0, .int .u64 0, .complex .f64 0 0] := blk_at (by simp)
  have q3 : Below w.heap.size w ((w.alloc (.cells #[.int .u64 n0, .int .u64 n1, .int .u64 n2, .int .u64 n3, .int .u64 n4, .int .u64 n5, .int .u64 n6, .int .u64 n7, .int .u64 n8, .int .u64 n9, .complex .f64 fa fb] 50)).alloc (.cells #[.int .u64 0, .int .u64 0, .int .u64 0, .int .u64 0, .int .u64 0, .int .u64 0, .int .u64 0, .int .u64 0, .int .u64 0, .int .u64 0, .complex .f64 0 0] 50)) := below_alloc (below_box w _) _
  have HS := Lib.hid h
  have HE := Lib.hid hev
  have HQ := Lib.hid (And.intro q1 (And.intro q2 q3))
  have HN := Lib.hid hn
  have hI := Is_s _ h
  clear h hev q1 q2 q3 hn
  go_enter Tryz.func93, Tryz.ntmps93
  go_wp2_with fail
  refine (counterOf_s _).mono ?_
  rintro e w1 ⟨gm, rfl, hmap, hb⟩
  have q1 := HQ.out.1.below hb HQ.out.1.lt
  have q2 := HQ.out.2.1.below hb HQ.out.2.1.lt
  have hB0 : AfB w w.heap.size (w.heap.size + 1) gm w1 := ⟨⟨_, HS.out, q1⟩, ⟨_, q2, rfl⟩, by omega, hmap, Nat.le_refl _, Nat.le_succ _, below_trans HQ.out.2.2 hb⟩
  have HB := Lib.hid hB0
  have hst := q1
  obtain ⟨c0, c1, c2, c3, c4, c5, c6, c7, c8, c9, c10⟩ := st_cells q1
  clear q1 q2 hB0 hmap hb hst
  go_wp2_with fail
  refine (hI _).mono ?_
  rintro e w2 ⟨q, rfl, hb2⟩
  have HB2 := Lib.hid (HB.out.below hb2)
  clear hb2 hI c0 c1 c2 c3 c4 c5 c6 c7 c8 c9 c10
  go_upto_region 3 with fail
  rename_i K0 hK0 K1 hK1
  have HK0 := Lib.hid hK0
  clear hK0
  go_wp2_with fail
  go_loopw [7, 17] (fun ok i wr => ∃ (k : Nat) (q : Bool), k ≤ 1 ∧ i = .int .i64 (k : Nat) ∧ ok = .bool q ∧ Hid (AfB w w.heap.size (w.heap.size + 1) gm wr)) (fun _ i _ => 1 - (intOf i).toNat)
  case atStart => exact ⟨0, q, by omega, rfl, rfl, HB2⟩
  case round =>
    obtain ⟨k, q, hk, rfl, rfl, HW⟩ := hrel
    by_cases hk1 : k < 1
    · obtain rfl : k = 0 := by omega
      have hrng := range_blk (HE.out.below HW.out.bel HE.out.lt)
      have HA := Lib.hid (HW.out.ev 1 x.err x.pA x.pn x.pc #[.int .i64 1, .int .i64 x.err, .string x.val, .slice x.pA x.pn x.pc, .int .i64 x.h.t, .int .u32 x.h.g, .int .u8 x.h.r, .int .u64 x.s0, .int .u64 x.s1, .int .u64 x.s2, .int .u64 x.s3, .int .u64 x.s4, .int .u64 x.s5, .int .u64 x.s6, .int .u64 x.s7, .int .u64 x.s8, .int .u64 x.s9, .complex .f64 x.la x.lb] rfl rfl rfl)
      have hl : w.heap.size < wr.heap.size := by obtain ⟨st, -, hb⟩ := HW.out.box; exact hb.lt
      go_upto_region 6 with (refine wpList_load_mid rfl 161 (.tmp 19) rfl ge 0 rfl _ _ hrng Tryz.underlying161 rfl infoEv ?_)
      clear hrng
      generalize wr.alloc (.cells #[.int .i64 1, .int .i64 x.err, .string x.val, .slice x.pA x.pn x.pc, .int .i64 x.h.t, .int .u32 x.h.g, .int .u8 x.h.r, .int .u64 x.s0, .int .u64 x.s1, .int .u64 x.s2, .int .u64 x.s3, .int .u64 x.s4, .int .u64 x.s5, .int .u64 x.s6, .int .u64 x.s7, .int .u64 x.s8, .int .u64 x.s9, .complex .f64 x.la x.lb] 161) = WX at HA ⊢
      have dx := HA.out.deed
      have hlk := run_lookup_intmap (P := Tryz.prog) (n := 1) HA.out.map Tryz.underlying222 Tryz.underlying33 rfl (Tryz.zeroValue225 _) false
      rw [show look Value.nilFunc 1 ctrMap = .func (.func 183) #[] #[] from rfl] at hlk
      simp only [Bool.false_eq_true, if_false] at hlk
      cases q
      · go_wp2_with (refine wpList_lookup_run rfl _ _ 222 false rfl _ _ _ rfl rfl hlk ?_)
        refine HK0.out _ _ (after_end (HA.out.out (Nat.le_succ _)))
      · obtain ⟨sA, hsA, hbA⟩ := HA.out.box
        obtain ⟨xa, xb, hcx⟩ := stOk_cx hsA
        have cx : WX.cell? ⟨w.heap.size, 10, none⟩ = some (.complex .f64 xa xb) := by rw [hbA.cell]; simpa using hcx
        have fx := hbA.frozen 10
        clear hcx hbA hsA
        have hne := fun w => run_neq_func (P := Tryz.prog) w 225 _ _ _ (.func 183) #[] #[] Tryz.underlying225
        have hee := fun w => run_eql_func (P := Tryz.prog) w 225 _ _ _ (.func 183) #[] #[] Tryz.underlying225
        go_upto_region 11 with (first
          | (refine wpList_lookup_run rfl _ _ 222 false rfl _ _ _ rfl rfl hlk ?_)
          | (go_at_call 152; refine (Next_l _ _ _ _).mono ?_; rintro e w3 ⟨x3, y3, q3, rfl, hb3⟩; have h3 := HA.out.below hb3; obtain ⟨sB, hsB, hbB⟩ := h3.box; obtain ⟨xc, xd, hcy⟩ := stOk_cx hsB; have cy : w3.cell? ⟨w.heap.size, 10, none⟩ = some (.complex .f64 xc xd) := (hbB.cell 10).trans (by simpa using hcy); have fy := hbB.frozen 10; have H3 := Lib.hid h3; clear hb3 h3 hsB hbB hcy))
        rename_i K3 hK3
        have HK3 := Lib.hid hK3
        clear hK3
        go_wp2_with fail
        refine HK3.out _ _ (after1 (H3.out.put (H3.out.box.load)) HN.out (fun s48 s49 s50 s51 s52 s53 s54 s55 s56 s57 s58 s59 s60 s61 s62 s63 s64 s65 s66 s67 s68 s69 s70 s71 s72 s73 s74 s75 s76 W4 hA4 => ?_))
        have H4 := Lib.hid hA4
        clear hA4 HK3
        dsimp only [Exit.inBlock, Exit.then]
        go_wp2_with fail
        go_roundw
        case rel => exact ⟨1, true, by omega, by go_num, rfl, Lib.hid (H4.out.out (Nat.le_succ _))⟩
        case measure => simp [intOf]
    · obtain rfl : k = 1 := by omega
      go_wp2_with fail
      refine HK0.out _ _ (after_end HW.out)
end Go.Proofs.YtkgflepgkhnclaaGreatDoor
namespace Go.Proofs.YtkgflepgkhnclaaGreatDoor
open Go.RowKit Go.Shelf
set_option linter.unusedVariables false
set_option linter.unusedSimpArgs false
attribute [local go_sem] run_store_complex

set_option maxHeartbeats 6400000 in
set_option maxRecDepth 100000 in
theorem afterE2 (st : List Value) (h : StOk st) (x : Dn) (ge : Nat) (w : World) (hev : Blk w ge 161 #[.int .i64 2, .int .i64 x.err, .string x.val, .slice x.pA x.pn x.pc, .int .i64 x.h.t, .int .u32 x.h.g, .int .u8 x.h.r, .int .u64 x.s0, .int .u64 x.s1, .int .u64 x.s2, .int .u64 x.s3, .int .u64 x.s4, .int .u64 x.s5, .int .u64 x.s6, .int .u64 x.s7, .int .u64 x.s8, .int .u64 x.s9, .complex .f64 x.la x.lb]) (hn : x.pn ≤ 9223372036854775807) : Calls Tryz.prog 93 #[.agg st.toArray, .slice (some ⟨ge, 0, none⟩) 1 1] w (SomeS w) := by
  obtain ⟨n0, n1, n2, n3, n4, n5, n6, n7, n8, n9, fa, fb, rfl⟩ := stOk_list h
  have q1 : Blk ((w.alloc (.cells #[.int .u64 n0, .int .u64 n1, .int .u64 n2, .int .u64 n3, .int .u64 n4, .int .u64 n5, .int .u64 n6, .int .u64 n7, .int .u64 n8, .int .u64 n9, .complex .f64 fa fb] 50)).alloc (.cells #[.int .u64 0, .int .u64 0, .int .u64 0, .int .u64 0, .int .u64 0, .int .u64 0, .int .u64 0, .int .u64 0, .int .u64 0, .int .u64 0, .complex .f64 0 0] 50)) w.heap.size 50 #[.int .u64 n0, .int .u64 n1, .int .u64 n2, .int .u64 n3, .int .u64 n4, .int .u64 n5, .int .u64 n6, .int .u64 n7, .int .u64 n8, .int .u64 n9, .complex .f64 fa fb] := (Blk.new w 50 _).alloc _
  have q2 : Blk ((w.alloc (.cells #[.int .u64 n0, .int .u64 n1, .int .u64 n2, .int .u64 n3, .int .u64 n4, .int .u64 n5, .int .u64 n6, .int .u64 n7, .int .u64 n8, .int .u64 n9, .complex .f64 fa fb] 50)).alloc (.cells #[.int .u64 0, .int .u64 0, .int .u64 0, .int .u64 0, .int .u64 0, .int .u64 0, .int .u64 0, .int .u64 0, .int .u64 0, .int .u64 0, .complex .f64 0 0] 50)) (w.heap.size + 1) 50 #[.int .u64 0, .int .u64 0, .int .u64 0, .int .u64 0, .int .u64 0, .int .u64 0, .int .u64 0, .int .u64 0, .int .u64 0, .int .u64 0, .complex .f64 0 0] := blk_at (by simp)
  have q3 : Below w.heap.size w ((w.alloc (.cells #[.int .u64 n0, .int .u64 n1, .int .u64 n2, .int .u64 n3, .int .u64 n4, .int .u64 n5, .int .u64 n6, .int .u64 n7, .int .u64 n8, .int .u64 n9, .complex .f64 fa fb] 50)).alloc (.cells #[.int .u64 0, .int .u64 0, .int .u64 0, .int .u64 0, .int .u64 0, .int .u64 0, .int .u64 0, .int .u64 0, .int .u64 0, .int .u64 0, .complex .f64 0 0] 50)) := below_alloc (below_box w _) _
  have HS := Lib.hid h
  have HE := Lib.hid hev
  have HQ := Lib.hid (And.intro q1 (And.intro q2 q3))
  have HN := Lib.hid hn
  have hI := Is_s _ h
  clear h hev q1 q2 q3 hn
  go_enter Tryz.func93, Tryz.ntmps93
  go_wp2_with fail
  refine (counterOf_s _).mono ?_
  rintro e w1 ⟨gm, rfl, hmap, hb⟩
  have q1 := HQ.out.1.below hb HQ.out.1.lt
  have q2 := HQ.out.2.1.below hb HQ.out.2.1.lt
  have hB0 : AfB w w.heap.size (w.heap.size + 1) gm w1 := ⟨⟨_, HS.out, q1⟩, ⟨_, q2, rfl⟩, by omega, hmap, Nat.le_refl _, Nat.le_succ _, below_trans HQ.out.2.2 hb⟩
  have HB := Lib.hid hB0
  have hst := q1
  obtain ⟨c0, c1, c2, c3, c4, c5, c6, c7, c8, c9, c10⟩ := st_cells q1
  clear q1 q2 hB0 hmap hb hst
  go_wp2_with fail
  refine (hI _).mono ?_
  rintro e w2 ⟨q, rfl, hb2⟩
  have HB2 := Lib.hid (HB.out.below hb2)
  clear hb2 hI c0 c1 c2 c3 c4 c5 c6 c7 c8 c9 c10
  go_upto_region 3 with fail
  rename_i K0 hK0 K1 hK1
  have HK0 := Lib.hid hK0
  clear hK0
  go_wp2_with fail
  go_loopw [7, 17] (fun ok i wr => ∃ (k : Nat) (q : Bool), k ≤ 1 ∧ i = .int .i64 (k : Nat) ∧ ok = .bool q ∧ Hid (AfB w w.heap.size (w.heap.size + 1) gm wr)) (fun _ i _ => 1 - (intOf i).toNat)
  case atStart => exact ⟨0, q, by omega, rfl, rfl, HB2⟩
  case round =>
    obtain ⟨k, q, hk, rfl, rfl, HW⟩ := hrel
    by_cases hk1 : k < 1
    · obtain rfl : k = 0 := by omega
      have hrng := range_blk (HE.out.below HW.out.bel HE.out.lt)
      have HA := Lib.hid (HW.out.ev 2 x.err x.pA x.pn x.pc #[.int .i64 2, .int .i64 x.err, .string x.val, .slice x.pA x.pn x.pc, .int .i64 x.h.t, .int .u32 x.h.g, .int .u8 x.h.r, .int .u64 x.s0, .int .u64 x.s1, .int .u64 x.s2, .int .u64 x.s3, .int .u64 x.s4, .int .u64 x.s5, .int .u64 x.s6, .int .u64 x.s7, .int .u64 x.s8, .int .u64 x.s9, .complex .f64 x.la x.lb] rfl rfl rfl)
      have hl : w.heap.size < wr.heap.size := by obtain ⟨st, -, hb⟩ := HW.out.box; exact hb.lt
      go_upto_region 6 with (refine wpList_load_mid rfl 161 (.tmp 19) rfl ge 0 rfl _ _ hrng Tryz.underlying161 rfl infoEv ?_)
      clear hrng
      generalize wr.alloc (.cells #[.int .i64 2, .int .i64 x.err, .string x.val, .slice x.pA x.pn x.pc, .int .i64 x.h.t, .int .u32 x.h.g, .int .u8 x.h.r, .int .u64 x.s0, .int .u64 x.s1, .int .u64 x.s2, .int .u64 x.s3, .int .u64 x.s4, .int .u64 x.s5, .int .u64 x.s6, .int .u64 x.s7, .int .u64 x.s8, .int .u64 x.s9, .complex .f64 x.la x.lb] 161) = WX at HA ⊢
      have dx := HA.out.deed
      have hlk := run_lookup_intmap (P := Tryz.prog) (n := 2) HA.out.map Tryz.underlying222 Tryz.underlying33 rfl (Tryz.zeroValue225 _) false
      rw [show look Value.nilFunc 2 ctrMap = .func (.func 184) #[] #[] from rfl] at hlk
      simp only [Bool.false_eq_true, if_false] at hlk
      cases q
      · go_wp2_with (refine wpList_lookup_run rfl _ _ 222 false rfl _ _ _ rfl rfl hlk ?_)
        refine HK0.out _ _ (after_end (HA.out.out (Nat.le_succ _)))
      · obtain ⟨sA, hsA, hbA⟩ := HA.out.box
        obtain ⟨xa, xb, hcx⟩ := stOk_cx hsA
        have cx : WX.cell? ⟨w.heap.size, 10, none⟩ = some (.complex .f64 xa xb) := by rw [hbA.cell]; simpa using hcx
        have fx := hbA.frozen 10
        clear hcx hbA hsA
        have hne := fun w => run_neq_func (P := Tryz.prog) w 225 _ _ _ (.func 184) #[] #[] Tryz.underlying225
        have hee := fun w => run_eql_func (P := Tryz.prog) w 225 _ _ _ (.func 184) #[] #[] Tryz.underlying225
        go_upto_region 11 with (first
          | (refine wpList_lookup_run rfl _ _ 222 false rfl _ _ _ rfl rfl hlk ?_)
          | (go_at_call 152; refine (Next_l _ _ _ _).mono ?_; rintro e w3 ⟨x3, y3, q3, rfl, hb3⟩; have h3 := HA.out.below hb3; obtain ⟨sB, hsB, hbB⟩ := h3.box; obtain ⟨xc, xd, hcy⟩ := stOk_cx hsB; have cy : w3.cell? ⟨w.heap.size, 10, none⟩ = some (.complex .f64 xc xd) := (hbB.cell 10).trans (by simpa using hcy); have fy := hbB.frozen 10; have H3 := Lib.hid h3; clear hb3 h3 hsB hbB hcy))
        rename_i K3 hK3
        have HK3 := Lib.hid hK3
        clear hK3
        go_wp2_with fail
        refine HK3.out _ _ (after2 (H3.out.put (H3.out.box.load)) HN.out (fun s48 s49 s50 s51 s52 s53 s54 s55 s56 s57 s58 s59 s60 s61 s62 s63 s64 s65 s66 s67 s68 s69 s70 s71 s72 s73 s74 s75 s76 W4 hA4 => ?_))
        have H4 := Lib.hid hA4
        clear hA4 HK3
        dsimp only [Exit.inBlock, Exit.then]
        go_wp2_with fail
        go_roundw
        case rel => exact ⟨1, true, by omega, by go_num, rfl, Lib.hid (H4.out.out (Nat.le_succ _))⟩
        case measure => simp [intOf]
    · obtain rfl : k = 1 := by omega
      go_wp2_with fail
      refine HK0.out _ _ (after_end HW.out)
end Go.Proofs.YtkgflepgkhnclaaGreatDoor
