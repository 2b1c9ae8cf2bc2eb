/- Layer 27: stat.After at one event (deed 0). Layer 27: stat.Next; order: Step. -/
import Derived.Test.YtkgflepgkhnclaaGreatDoorMj
import Derived.Test.YtkgflepgkhnclaaGreatDoorMk
import Derived.Test.YtkgflepgkhnclaaGreatDoorMk1
import Derived.Test.YtkgflepgkhnclaaGreatDoorMk2
namespace Go.Proofs.YtkgflepgkhnclaaGreatDoor
set_option linter.unusedVariables false
set_option linter.unusedSimpArgs false
open Go.RowKit Go.Shelf
attribute [local go_sem] run_store_complex
theorem look_ctr_no {d:Int} (hd:¬ (1 ≤ d∧d ≤ 6)):look Value.nilFunc d ctrMap=.nilFunc:=by
 unfold ctrMap
 simp only [look]
 rw [if_neg (by omega),if_neg (by omega),if_neg (by omega),if_neg (by omega),if_neg (by omega)]
set_option maxHeartbeats 6400000 in
set_option maxRecDepth 100000 in
theorem afterE0 (st:List Value) (h:StOk st) (d:Int) (hd:¬ (1 ≤ d∧d ≤ 6)) (x:Dn) (ge:Nat) (w:World) (hev:Blk w ge 161 #[.int .i64 d,.int .i64 x.err,.string x.val,.slice x.pA x.pn x.pc,.int .i64 x.h.t,.int .u32 x.h.g,.int .u8 x.h.r,.int .u64 x.s0,.int .u64 x.s1,.int .u64 x.s2,.int .u64 x.s3,.int .u64 x.s4,.int .u64 x.s5,.int .u64 x.s6,.int .u64 x.s7,.int .u64 x.s8,.int .u64 x.s9,.complex .f64 x.la x.lb]) (hn:x.pn ≤ 9223372036854775807):Calls Tryz.prog 93 #[.agg st.toArray,.slice (some ⟨ge,0,none⟩) 1 1] w (SomeS w):=by
 obtain ⟨n0,n1,n2,n3,n4,n5,n6,n7,n8,n9,fa,fb,rfl⟩:=stOk_list h
 have q1:Blk ((w.alloc (.cells #[.int .u64 n0,.int .u64 n1,.int .u64 n2,.int .u64 n3,.int .u64 n4,.int .u64 n5,.int .u64 n6,.int .u64 n7,.int .u64 n8,.int .u64 n9,.complex .f64 fa fb] 50)).alloc (.cells #[.int .u64 0,.int .u64 0,.int .u64 0,.int .u64 0,.int .u64 0,.int .u64 0,.int .u64 0,.int .u64 0,.int .u64 0,.int .u64 0,.complex .f64 0 0] 50)) w.heap.size 50 #[.int .u64 n0,.int .u64 n1,.int .u64 n2,.int .u64 n3,.int .u64 n4,.int .u64 n5,.int .u64 n6,.int .u64 n7,.int .u64 n8,.int .u64 n9,.complex .f64 fa fb]:=(Blk.new w 50 _).alloc _
 have q2:Blk ((w.alloc (.cells #[.int .u64 n0,.int .u64 n1,.int .u64 n2,.int .u64 n3,.int .u64 n4,.int .u64 n5,.int .u64 n6,.int .u64 n7,.int .u64 n8,.int .u64 n9,.complex .f64 fa fb] 50)).alloc (.cells #[.int .u64 0,.int .u64 0,.int .u64 0,.int .u64 0,.int .u64 0,.int .u64 0,.int .u64 0,.int .u64 0,.int .u64 0,.int .u64 0,.complex .f64 0 0] 50)) (w.heap.size + 1) 50 #[.int .u64 0,.int .u64 0,.int .u64 0,.int .u64 0,.int .u64 0,.int .u64 0,.int .u64 0,.int .u64 0,.int .u64 0,.int .u64 0,.complex .f64 0 0]:=blk_at (by simp)
 have q3:Below w.heap.size w ((w.alloc (.cells #[.int .u64 n0,.int .u64 n1,.int .u64 n2,.int .u64 n3,.int .u64 n4,.int .u64 n5,.int .u64 n6,.int .u64 n7,.int .u64 n8,.int .u64 n9,.complex .f64 fa fb] 50)).alloc (.cells #[.int .u64 0,.int .u64 0,.int .u64 0,.int .u64 0,.int .u64 0,.int .u64 0,.int .u64 0,.int .u64 0,.int .u64 0,.int .u64 0,.complex .f64 0 0] 50)):=below_alloc (below_box w _) _
 have HS:=Lib.hid h
 have HE:=Lib.hid hev
 have HQ:=Lib.hid (And.intro q1 (And.intro q2 q3))
 have HN:=Lib.hid hn
 have hI:=Is_s _ h
 clear h hev q1 q2 q3 hn
 go_enter Tryz.func93,Tryz.ntmps93
 go_wp2_with fail
 refine (counterOf_s _).mono ?_
 rintro e w1 ⟨gm,rfl,hmap,hb⟩
 have q1:=HQ.out.1.below hb HQ.out.1.lt
 have q2:=HQ.out.2.1.below hb HQ.out.2.1.lt
 have hB0:AfB w w.heap.size (w.heap.size + 1) gm w1:=⟨⟨_,HS.out,q1⟩,⟨_,q2,rfl⟩,by omega,hmap,Nat.le_refl _,Nat.le_succ _,below_trans HQ.out.2.2 hb⟩
 have HB:=Lib.hid hB0
 have hst:=q1
 obtain ⟨c0,c1,c2,c3,c4,c5,c6,c7,c8,c9,c10⟩:=st_cells q1
 clear q1 q2 hB0 hmap hb hst
 go_wp2_with fail
 refine (hI _).mono ?_
 rintro e w2 ⟨q,rfl,hb2⟩
 have HB2:=Lib.hid (HB.out.below hb2)
 clear hb2 hI c0 c1 c2 c3 c4 c5 c6 c7 c8 c9 c10
 go_upto_region 3 with fail
 rename_i K0 hK0 K1 hK1
 have HK0:=Lib.hid hK0
 clear hK0
 go_wp2_with fail
 go_loopw [7,17] (fun ok i wr=>∃ (k:Nat) (q:Bool),k ≤ 1∧i=.int .i64 (k:Nat)∧ok=.bool q∧Hid (AfB w w.heap.size (w.heap.size + 1) gm wr)) (fun _ i _=>1 - (intOf i).toNat)
 case atStart=>exact ⟨0,q,by omega,rfl,rfl,HB2⟩
 case round =>
  obtain ⟨k,q,hk,rfl,rfl,HW⟩:=hrel
  by_cases hk1:k < 1
  · obtain rfl:k=0:=by omega
    have hrng:=range_blk (HE.out.below HW.out.bel HE.out.lt)
    have HA:=Lib.hid (HW.out.ev d x.err x.pA x.pn x.pc #[.int .i64 d,.int .i64 x.err,.string x.val,.slice x.pA x.pn x.pc,.int .i64 x.h.t,.int .u32 x.h.g,.int .u8 x.h.r,.int .u64 x.s0,.int .u64 x.s1,.int .u64 x.s2,.int .u64 x.s3,.int .u64 x.s4,.int .u64 x.s5,.int .u64 x.s6,.int .u64 x.s7,.int .u64 x.s8,.int .u64 x.s9,.complex .f64 x.la x.lb] rfl rfl rfl)
    have hl:w.heap.size < wr.heap.size:=by obtain ⟨st,-,hb⟩:=HW.out.box;exact hb.lt
    go_upto_region 6 with (refine wpList_load_mid rfl 161 (.tmp 19) rfl ge 0 rfl _ _ hrng Tryz.underlying161 rfl infoEv ?_)
    clear hrng
    generalize wr.alloc (.cells #[.int .i64 d,.int .i64 x.err,.string x.val,.slice x.pA x.pn x.pc,.int .i64 x.h.t,.int .u32 x.h.g,.int .u8 x.h.r,.int .u64 x.s0,.int .u64 x.s1,.int .u64 x.s2,.int .u64 x.s3,.int .u64 x.s4,.int .u64 x.s5,.int .u64 x.s6,.int .u64 x.s7,.int .u64 x.s8,.int .u64 x.s9,.complex .f64 x.la x.lb] 161)=WX at HA ⊢
    have dx:=HA.out.deed
    have hlk:=run_lookup_intmap (P:=Tryz.prog) (n:=d) HA.out.map Tryz.underlying222 Tryz.underlying33 rfl (Tryz.zeroValue225 _) false
    rw [look_ctr_no hd] at hlk
    simp only [Bool.false_eq_true,if_false] at hlk
    cases q
    · go_wp2_with (refine wpList_lookup_run rfl _ _ 222 false rfl _ _ _ rfl rfl hlk ?_)
      refine HK0.out _ _ (after_end (HA.out.out (Nat.le_succ _)))
    · obtain ⟨sA,hsA,hbA⟩:=HA.out.box
      obtain ⟨xa,xb,hcx⟩:=stOk_cx hsA
      have cx:WX.cell? ⟨w.heap.size,10,none⟩=some (.complex .f64 xa xb):=by rw [hbA.cell];simpa using hcx
      have fx:=hbA.frozen 10
      clear hcx hbA hsA
      have hne:=fun w=>run_neq_func_nil (P:=Tryz.prog) w 225 _ _ _ Tryz.underlying225
      have hee:=fun w=>run_eql_func_nil (P:=Tryz.prog) w 225 _ _ _ Tryz.underlying225
      have h6:(d == 6)=false:=by simp;omega
      go_wp2_with (refine wpList_lookup_run rfl _ _ 222 false rfl _ _ _ rfl rfl hlk ?_)
      exact HK0.out _ _ (after_end (HA.out.out (Nat.le_succ _)))
  · obtain rfl:k=1:=by omega
    go_wp2_with fail
    refine HK0.out _ _ (after_end HW.out)
theorem After_any (st:List Value) (h:StOk st) (d:Int) (x:Dn) (ge:Nat) (w:World) (hev:Blk w ge 161 #[.int .i64 d,.int .i64 x.err,.string x.val,.slice x.pA x.pn x.pc,.int .i64 x.h.t,.int .u32 x.h.g,.int .u8 x.h.r,.int .u64 x.s0,.int .u64 x.s1,.int .u64 x.s2,.int .u64 x.s3,.int .u64 x.s4,.int .u64 x.s5,.int .u64 x.s6,.int .u64 x.s7,.int .u64 x.s8,.int .u64 x.s9,.complex .f64 x.la x.lb]) (hn:x.pn ≤ 9223372036854775807):Calls Tryz.prog 93 #[.agg st.toArray,.slice (some ⟨ge,0,none⟩) 1 1] w (SomeS w):=by
 by_cases hd:1 ≤ d∧d ≤ 6
 · have:d=1 ∨ d=2 ∨ d=3 ∨ d=4 ∨ d=5 ∨ d=6:=by omega
   rcases this with rfl | rfl | rfl | rfl | rfl | rfl
   · exact afterE1 st h x ge w hev hn
   · exact afterE2 st h x ge w hev hn
   · exact afterE3 st h x ge w hev hn
   · exact afterE4 st h x ge w hev hn
   · exact afterE5 st h x ge w hev hn
   · exact afterE6 st h x ge w hev hn
 · exact afterE0 st h d hd x ge w hev hn
set_option maxHeartbeats 3200000 in
set_option maxRecDepth 100000 in
theorem Next_s (st:List Value) (h:StOk st) (d:Int) (x:Dn) (w:World) (hn:x.pn ≤ 9223372036854775807):Calls Tryz.prog 48 #[.agg st.toArray,.int .i64 d,.agg x.ans.toArray] w (SomeS w):=by
 obtain ⟨n0,n1,n2,n3,n4,n5,n6,n7,n8,n9,fa,fb,rfl⟩:=stOk_list h
 have hb3:Below w.heap.size w (((w.alloc (.cells #[.int .u64 n0,.int .u64 n1,.int .u64 n2,.int .u64 n3,.int .u64 n4,.int .u64 n5,.int .u64 n6,.int .u64 n7,.int .u64 n8,.int .u64 n9,.complex .f64 fa fb] 50)).alloc (.cells #[.int .i64 x.err,.string x.val,.slice x.pA x.pn x.pc,.int .i64 x.h.t,.int .u32 x.h.g,.int .u8 x.h.r,.int .u64 x.s0,.int .u64 x.s1,.int .u64 x.s2,.int .u64 x.s3,.int .u64 x.s4,.int .u64 x.s5,.int .u64 x.s6,.int .u64 x.s7,.int .u64 x.s8,.int .u64 x.s9,.complex .f64 x.la x.lb] 52)).alloc (.cells #[.int .u64 0,.int .u64 0,.int .u64 0,.int .u64 0,.int .u64 0,.int .u64 0,.int .u64 0,.int .u64 0,.int .u64 0,.int .u64 0,.complex .f64 0 0] 50)):=below_alloc (below_alloc (below_box w _) _) _
 have q6:Blk (((w.alloc (.cells #[.int .u64 n0,.int .u64 n1,.int .u64 n2,.int .u64 n3,.int .u64 n4,.int .u64 n5,.int .u64 n6,.int .u64 n7,.int .u64 n8,.int .u64 n9,.complex .f64 fa fb] 50)).alloc (.cells #[.int .i64 x.err,.string x.val,.slice x.pA x.pn x.pc,.int .i64 x.h.t,.int .u32 x.h.g,.int .u8 x.h.r,.int .u64 x.s0,.int .u64 x.s1,.int .u64 x.s2,.int .u64 x.s3,.int .u64 x.s4,.int .u64 x.s5,.int .u64 x.s6,.int .u64 x.s7,.int .u64 x.s8,.int .u64 x.s9,.complex .f64 x.la x.lb] 52)).alloc (.cells #[.int .u64 0,.int .u64 0,.int .u64 0,.int .u64 0,.int .u64 0,.int .u64 0,.int .u64 0,.int .u64 0,.int .u64 0,.int .u64 0,.complex .f64 0 0] 50)) (w.heap.size + 2) 50 #[.int .u64 0,.int .u64 0,.int .u64 0,.int .u64 0,.int .u64 0,.int .u64 0,.int .u64 0,.int .u64 0,.int .u64 0,.int .u64 0,.complex .f64 0 0]:=blk_at (by simp)
 have hA:Calls Tryz.prog 93 #[.agg #[.int .u64 n0,.int .u64 n1,.int .u64 n2,.int .u64 n3,.int .u64 n4,.int .u64 n5,.int .u64 n6,.int .u64 n7,.int .u64 n8,.int .u64 n9,.complex .f64 fa fb],.slice (some ⟨w.heap.size + 3,0,none⟩) 1 1] ((((w.alloc (.cells #[.int .u64 n0,.int .u64 n1,.int .u64 n2,.int .u64 n3,.int .u64 n4,.int .u64 n5,.int .u64 n6,.int .u64 n7,.int .u64 n8,.int .u64 n9,.complex .f64 fa fb] 50)).alloc (.cells #[.int .i64 x.err,.string x.val,.slice x.pA x.pn x.pc,.int .i64 x.h.t,.int .u32 x.h.g,.int .u8 x.h.r,.int .u64 x.s0,.int .u64 x.s1,.int .u64 x.s2,.int .u64 x.s3,.int .u64 x.s4,.int .u64 x.s5,.int .u64 x.s6,.int .u64 x.s7,.int .u64 x.s8,.int .u64 x.s9,.complex .f64 x.la x.lb] 52)).alloc (.cells #[.int .u64 0,.int .u64 0,.int .u64 0,.int .u64 0,.int .u64 0,.int .u64 0,.int .u64 0,.int .u64 0,.int .u64 0,.int .u64 0,.complex .f64 0 0] 50)).alloc (.cells #[.int .i64 d,.int .i64 x.err,.string x.val,.slice x.pA x.pn x.pc,.int .i64 x.h.t,.int .u32 x.h.g,.int .u8 x.h.r,.int .u64 x.s0,.int .u64 x.s1,.int .u64 x.s2,.int .u64 x.s3,.int .u64 x.s4,.int .u64 x.s5,.int .u64 x.s6,.int .u64 x.s7,.int .u64 x.s8,.int .u64 x.s9,.complex .f64 x.la x.lb] 161)) (SomeS _):=After_any [.int .u64 n0,.int .u64 n1,.int .u64 n2,.int .u64 n3,.int .u64 n4,.int .u64 n5,.int .u64 n6,.int .u64 n7,.int .u64 n8,.int .u64 n9,.complex .f64 fa fb] h d x (w.heap.size + 3) _ (blk_at (by simp)) hn
 have HA:=Lib.hid hA
 have HB:=Lib.hid (And.intro (below_alloc hb3 (.cells #[.int .i64 d,.int .i64 x.err,.string x.val,.slice x.pA x.pn x.pc,.int .i64 x.h.t,.int .u32 x.h.g,.int .u8 x.h.r,.int .u64 x.s0,.int .u64 x.s1,.int .u64 x.s2,.int .u64 x.s3,.int .u64 x.s4,.int .u64 x.s5,.int .u64 x.s6,.int .u64 x.s7,.int .u64 x.s8,.int .u64 x.s9,.complex .f64 x.la x.lb] 161)) (q6.alloc (.cells #[.int .i64 d,.int .i64 x.err,.string x.val,.slice x.pA x.pn x.pc,.int .i64 x.h.t,.int .u32 x.h.g,.int .u8 x.h.r,.int .u64 x.s0,.int .u64 x.s1,.int .u64 x.s2,.int .u64 x.s3,.int .u64 x.s4,.int .u64 x.s5,.int .u64 x.s6,.int .u64 x.s7,.int .u64 x.s8,.int .u64 x.s9,.complex .f64 x.la x.lb] 161)))
 unfold Dn.ans
 clear hA h hb3 q6
 go_enter Tryz.func48,Tryz.ntmps48
 go_wp2_with fail
 refine HA.out.mono ?_
 rintro e w1 ⟨st',q,hst',rfl,hb⟩
 have r6:=HB.out.2.below hb HB.out.2.lt
 have hb1:=below_trans HB.out.1 hb
 have hth:=there_blk r6 (n:=11) (Nat.le_refl 11)
 have hsz:st'.toArray.size=11:=by simp [hst'.len]
 have h1:st'.toArray.all (·.oneCell')=true:=by
  rw [Array.all_eq_true_iff_forall_mem]
  intro v hv
  exact hst'.one v (by simpa using hv)
 have HS:=Lib.hid (And.intro hst' (And.intro r6 hb1))
 clear hb r6 hb1 HB HA
 go_wp2_with (refine wpList_store_mid rfl 50 (.tmp 6) (.tmp 14) rfl (w.heap.size + 2) 0 st'.toArray rfl rfl (by rw [hsz];exact hth) (by rw [hsz];exact infoStat) h1 ?_)
 refine bodyPost_ret (v:=.tuple #[.agg st'.toArray,.bool q]) ?_ rfl ?_
 · exact results_cell_tmp Tryz.results48 rfl rfl (blk_setAll HS.out.2.1 (by rw [hsz];rfl)) Tryz.underlying50 rfl (by rw [hsz];exact infoStat)
 · exact ⟨st',q,HS.out.1,rfl,below_sets _ (by omega) _ _ _ HS.out.2.2⟩
end Go.Proofs.YtkgflepgkhnclaaGreatDoor
