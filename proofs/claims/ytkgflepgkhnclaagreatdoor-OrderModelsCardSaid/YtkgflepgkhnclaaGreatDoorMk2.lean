/- Layer 27: stat.After at one event (deed 5). Layer 27: stat.After at one event (deed 6). -/
import Derived.Test.YtkgflepgkhnclaaGreatDoorMj
namespace Go.Proofs.YtkgflepgkhnclaaGreatDoor
set_option linter.unusedVariables false
set_option linter.unusedSimpArgs false
open Go.RowKit Go.Shelf
attribute [local go_sem] run_store_complex
set_option maxHeartbeats 6400000 in
set_option maxRecDepth 100000 in
theorem afterE5 (st:List Value) (h:StOk st) (x:Dn) (ge:Nat) (w:World) (hev:Blk w ge 161 #[.int .i64 5,.int .i64 x.err,.string x.val,.slice x.pA x.pn x.pc,.int .i64 x.h.t,.int .u32 x.h.g,.int .u8 x.h.r,.int .u64 x.s0,.int .u64 x.s1,.int .u64 x.s2,.int .u64 x.s3,.int .u64 x.s4,.int .u64 x.s5,.int .u64 x.s6,.int .u64 x.s7,.int .u64 x.s8,.int .u64 x.s9,.complex .f64 x.la x.lb]) (hn:x.pn ≤ 9223372036854775807):Calls Tryz.prog 93 #[.agg st.toArray,.slice (some ⟨ge,0,none⟩) 1 1] w (SomeS w):=by
 obtain ⟨n0,n1,n2,n3,n4,n5,n6,n7,n8,n9,fa,fb,rfl⟩:=stOk_list h
 have q1:Blk ((w.alloc (.cells #[.int .u64 n0,.int .u64 n1,.int .u64 n2,.int .u64 n3,.int .u64 n4,.int .u64 n5,.int .u64 n6,.int .u64 n7,.int .u64 n8,.int .u64 n9,.complex .f64 fa fb] 50)).alloc (.cells #[.int .u64 0,.int .u64 0,.int .u64 0,.int .u64 0,.int .u64 0,.int .u64 0,.int .u64 0,.int .u64 0,.int .u64 0,.int .u64 0,.complex .f64 0 0] 50)) w.heap.size 50 #[.int .u64 n0,.int .u64 n1,.int .u64 n2,.int .u64 n3,.int .u64 n4,.int .u64 n5,.int .u64 n6,.int .u64 n7,.int .u64 n8,.int .u64 n9,.complex .f64 fa fb]:=(Blk.new w 50 _).alloc _
 have q2:Blk ((w.alloc (.cells #[.int .u64 n0,.int .u64 n1,.int .u64 n2,.int .u64 n3,.int .u64 n4,.int .u64 n5,.int .u64 n6,.int .u64 n7,.int .u64 n8,.int .u64 n9,.complex .f64 fa fb] 50)).alloc (.cells #[.int .u64 0,.int .u64 0,.int .u64 0,.int .u64 0,.int .u64 0,.int .u64 0,.int .u64 0,.int .u64 0,.int .u64 0,.int .u64 0,.complex .f64 0 0] 50)) (w.heap.size + 1) 50 #[.int .u64 0,.int .u64 0,.int .u64 0,.int .u64 0,.int .u64 0,.int .u64 0,.int .u64 0,.int .u64 0,.int .u64 0,.int .u64 0,.complex .f64 0 0]:=blk_at (by simp)
 have q3:Below w.heap.size w ((w.alloc (.cells #[.int .u64 n0,.int .u64 n1,.int .u64 n2,.int .u64 n3,.int .u64 n4,.int .u64 n5,.int .u64 n6,.int .u64 n7,.int .u64 n8,.int .u64 n9,.complex .f64 fa fb] 50)).alloc (.cells #[.int .u64 0,.int .u64 0,.int .u64 0,.int .u64 0,.int .u64 0,.int .u64 0,.int .u64 0,.int .u64 0,.int .u64 0,.int .u64 0,.complex .f64 0 0] 50)):=below_alloc (below_box w _) _
 have HS:=Lib.hid h
 have HE:=Lib.hid hev
 have HQ:=Lib.hid (And.intro q1 (And.intro q2 q3))
 have HN:=Lib.hid hn
 have hI:=Is_s _ h
 clear h hev q1 q2 q3 hn
 go_enter Tryz.func93,Tryz.ntmps93
 go_wp2_with fail
 refine (counterOf_s _).mono ?_
 rintro e w1 ⟨gm,rfl,hmap,hb⟩
 have q1:=HQ.out.1.below hb HQ.out.1.lt
 have q2:=HQ.out.2.1.below hb HQ.out.2.1.lt
 have hB0:AfB w w.heap.size (w.heap.size + 1) gm w1:=⟨⟨_,HS.out,q1⟩,⟨_,q2,rfl⟩,by omega,hmap,Nat.le_refl _,Nat.le_succ _,below_trans HQ.out.2.2 hb⟩
 have HB:=Lib.hid hB0
 have hst:=q1
 obtain ⟨c0,c1,c2,c3,c4,c5,c6,c7,c8,c9,c10⟩:=st_cells q1
 clear q1 q2 hB0 hmap hb hst
 go_wp2_with fail
 refine (hI _).mono ?_
 rintro e w2 ⟨q,rfl,hb2⟩
 have HB2:=Lib.hid (HB.out.below hb2)
 clear hb2 hI c0 c1 c2 c3 c4 c5 c6 c7 c8 c9 c10
 go_upto_region 3 with fail
 rename_i K0 hK0 K1 hK1
 have HK0:=Lib.hid hK0
 clear hK0
 go_wp2_with fail
 go_loopw [7,17] (fun ok i wr=>∃ (k:Nat) (q:Bool),k ≤ 1∧i=.int .i64 (k:Nat)∧ok=.bool q∧Hid (AfB w w.heap.size (w.heap.size + 1) gm wr)) (fun _ i _=>1 - (intOf i).toNat)
 case atStart=>exact ⟨0,q,by omega,rfl,rfl,HB2⟩
 case round =>
  obtain ⟨k,q,hk,rfl,rfl,HW⟩:=hrel
  by_cases hk1:k < 1
  · obtain rfl:k=0:=by omega
    have hrng:=range_blk (HE.out.below HW.out.bel HE.out.lt)
    have HA:=Lib.hid (HW.out.ev 5 x.err x.pA x.pn x.pc #[.int .i64 5,.int .i64 x.err,.string x.val,.slice x.pA x.pn x.pc,.int .i64 x.h.t,.int .u32 x.h.g,.int .u8 x.h.r,.int .u64 x.s0,.int .u64 x.s1,.int .u64 x.s2,.int .u64 x.s3,.int .u64 x.s4,.int .u64 x.s5,.int .u64 x.s6,.int .u64 x.s7,.int .u64 x.s8,.int .u64 x.s9,.complex .f64 x.la x.lb] rfl rfl rfl)
    have hl:w.heap.size < wr.heap.size:=by obtain ⟨st,-,hb⟩:=HW.out.box;exact hb.lt
    go_upto_region 6 with (refine wpList_load_mid rfl 161 (.tmp 19) rfl ge 0 rfl _ _ hrng Tryz.underlying161 rfl infoEv ?_)
    clear hrng
    generalize wr.alloc (.cells #[.int .i64 5,.int .i64 x.err,.string x.val,.slice x.pA x.pn x.pc,.int .i64 x.h.t,.int .u32 x.h.g,.int .u8 x.h.r,.int .u64 x.s0,.int .u64 x.s1,.int .u64 x.s2,.int .u64 x.s3,.int .u64 x.s4,.int .u64 x.s5,.int .u64 x.s6,.int .u64 x.s7,.int .u64 x.s8,.int .u64 x.s9,.complex .f64 x.la x.lb] 161)=WX at HA ⊢
    have dx:=HA.out.deed
    have hlk:=run_lookup_intmap (P:=Tryz.prog) (n:=5) HA.out.map Tryz.underlying222 Tryz.underlying33 rfl (Tryz.zeroValue225 _) false
    rw [show look Value.nilFunc 5 ctrMap=.func (.func 187) #[] #[] from rfl] at hlk
    simp only [Bool.false_eq_true,if_false] at hlk
    cases q
    · go_wp2_with (refine wpList_lookup_run rfl _ _ 222 false rfl _ _ _ rfl rfl hlk ?_)
      refine HK0.out _ _ (after_end (HA.out.out (Nat.le_succ _)))
    · obtain ⟨sA,hsA,hbA⟩:=HA.out.box
      obtain ⟨xa,xb,hcx⟩:=stOk_cx hsA
      have cx:WX.cell? ⟨w.heap.size,10,none⟩=some (.complex .f64 xa xb):=by rw [hbA.cell];simpa using hcx
      have fx:=hbA.frozen 10
      clear hcx hbA hsA
      have hne:=fun w=>run_neq_func (P:=Tryz.prog) w 225 _ _ _ (.func 187) #[] #[] Tryz.underlying225
      have hee:=fun w=>run_eql_func (P:=Tryz.prog) w 225 _ _ _ (.func 187) #[] #[] Tryz.underlying225
      go_upto_region 11 with (first
       | (refine wpList_lookup_run rfl _ _ 222 false rfl _ _ _ rfl rfl hlk ?_)
       | (go_at_call 152;refine (Next_l _ _ _ _).mono ?_;rintro e w3 ⟨x3,y3,q3,rfl,hb3⟩;have h3:=HA.out.below hb3;obtain ⟨sB,hsB,hbB⟩:=h3.box;obtain ⟨xc,xd,hcy⟩:=stOk_cx hsB;have cy:w3.cell? ⟨w.heap.size,10,none⟩=some (.complex .f64 xc xd):=(hbB.cell 10).trans (by simpa using hcy);have fy:=hbB.frozen 10;have H3:=Lib.hid h3;clear hb3 h3 hsB hbB hcy))
      rename_i K3 hK3
      have HK3:=Lib.hid hK3
      clear hK3
      go_wp2_with fail
      refine HK3.out _ _ (after5 (H3.out.put (H3.out.box.load)) HN.out (fun s48 s49 s50 s51 s52 s53 s54 s55 s56 s57 s58 s59 s60 s61 s62 s63 s64 s65 s66 s67 s68 s69 s70 s71 s72 s73 s74 s75 s76 W4 hA4=>?_))
      have H4:=Lib.hid hA4
      clear hA4 HK3
      dsimp only [Exit.inBlock,Exit.then]
      go_wp2_with fail
      go_roundw
      case rel=>exact ⟨1,true,by omega,by go_num,rfl,Lib.hid (H4.out.out (Nat.le_succ _))⟩
      case measure=>simp [intOf]
  · obtain rfl:k=1:=by omega
    go_wp2_with fail
    refine HK0.out _ _ (after_end HW.out)
set_option maxHeartbeats 6400000 in
set_option maxRecDepth 100000 in
theorem afterE6 (st:List Value) (h:StOk st) (x:Dn) (ge:Nat) (w:World) (hev:Blk w ge 161 #[.int .i64 6,.int .i64 x.err,.string x.val,.slice x.pA x.pn x.pc,.int .i64 x.h.t,.int .u32 x.h.g,.int .u8 x.h.r,.int .u64 x.s0,.int .u64 x.s1,.int .u64 x.s2,.int .u64 x.s3,.int .u64 x.s4,.int .u64 x.s5,.int .u64 x.s6,.int .u64 x.s7,.int .u64 x.s8,.int .u64 x.s9,.complex .f64 x.la x.lb]) (hn:x.pn ≤ 9223372036854775807):Calls Tryz.prog 93 #[.agg st.toArray,.slice (some ⟨ge,0,none⟩) 1 1] w (SomeS w):=by
 obtain ⟨n0,n1,n2,n3,n4,n5,n6,n7,n8,n9,fa,fb,rfl⟩:=stOk_list h
 have q1:Blk ((w.alloc (.cells #[.int .u64 n0,.int .u64 n1,.int .u64 n2,.int .u64 n3,.int .u64 n4,.int .u64 n5,.int .u64 n6,.int .u64 n7,.int .u64 n8,.int .u64 n9,.complex .f64 fa fb] 50)).alloc (.cells #[.int .u64 0,.int .u64 0,.int .u64 0,.int .u64 0,.int .u64 0,.int .u64 0,.int .u64 0,.int .u64 0,.int .u64 0,.int .u64 0,.complex .f64 0 0] 50)) w.heap.size 50 #[.int .u64 n0,.int .u64 n1,.int .u64 n2,.int .u64 n3,.int .u64 n4,.int .u64 n5,.int .u64 n6,.int .u64 n7,.int .u64 n8,.int .u64 n9,.complex .f64 fa fb]:=(Blk.new w 50 _).alloc _
 have q2:Blk ((w.alloc (.cells #[.int .u64 n0,.int .u64 n1,.int .u64 n2,.int .u64 n3,.int .u64 n4,.int .u64 n5,.int .u64 n6,.int .u64 n7,.int .u64 n8,.int .u64 n9,.complex .f64 fa fb] 50)).alloc (.cells #[.int .u64 0,.int .u64 0,.int .u64 0,.int .u64 0,.int .u64 0,.int .u64 0,.int .u64 0,.int .u64 0,.int .u64 0,.int .u64 0,.complex .f64 0 0] 50)) (w.heap.size + 1) 50 #[.int .u64 0,.int .u64 0,.int .u64 0,.int .u64 0,.int .u64 0,.int .u64 0,.int .u64 0,.int .u64 0,.int .u64 0,.int .u64 0,.complex .f64 0 0]:=blk_at (by simp)
 have q3:Below w.heap.size w ((w.alloc (.cells #[.int .u64 n0,.int .u64 n1,.int .u64 n2,.int .u64 n3,.int .u64 n4,.int .u64 n5,.int .u64 n6,.int .u64 n7,.int .u64 n8,.int .u64 n9,.complex .f64 fa fb] 50)).alloc (.cells #[.int .u64 0,.int .u64 0,.int .u64 0,.int .u64 0,.int .u64 0,.int .u64 0,.int .u64 0,.int .u64 0,.int .u64 0,.int .u64 0,.complex .f64 0 0] 50)):=below_alloc (below_box w _) _
 have HS:=Lib.hid h
 have HE:=Lib.hid hev
 have HQ:=Lib.hid (And.intro q1 (And.intro q2 q3))
 have HN:=Lib.hid hn
 have hI:=Is_s _ h
 clear h hev q1 q2 q3 hn
 go_enter Tryz.func93,Tryz.ntmps93
 go_wp2_with fail
 refine (counterOf_s _).mono ?_
 rintro e w1 ⟨gm,rfl,hmap,hb⟩
 have q1:=HQ.out.1.below hb HQ.out.1.lt
 have q2:=HQ.out.2.1.below hb HQ.out.2.1.lt
 have hB0:AfB w w.heap.size (w.heap.size + 1) gm w1:=⟨⟨_,HS.out,q1⟩,⟨_,q2,rfl⟩,by omega,hmap,Nat.le_refl _,Nat.le_succ _,below_trans HQ.out.2.2 hb⟩
 have HB:=Lib.hid hB0
 have hst:=q1
 obtain ⟨c0,c1,c2,c3,c4,c5,c6,c7,c8,c9,c10⟩:=st_cells q1
 clear q1 q2 hB0 hmap hb hst
 go_wp2_with fail
 refine (hI _).mono ?_
 rintro e w2 ⟨q,rfl,hb2⟩
 have HB2:=Lib.hid (HB.out.below hb2)
 clear hb2 hI c0 c1 c2 c3 c4 c5 c6 c7 c8 c9 c10
 go_upto_region 3 with fail
 rename_i K0 hK0 K1 hK1
 have HK0:=Lib.hid hK0
 clear hK0
 go_wp2_with fail
 go_loopw [7,17] (fun ok i wr=>∃ (k:Nat) (q:Bool),k ≤ 1∧i=.int .i64 (k:Nat)∧ok=.bool q∧Hid (AfB w w.heap.size (w.heap.size + 1) gm wr)) (fun _ i _=>1 - (intOf i).toNat)
 case atStart=>exact ⟨0,q,by omega,rfl,rfl,HB2⟩
 case round =>
  obtain ⟨k,q,hk,rfl,rfl,HW⟩:=hrel
  by_cases hk1:k < 1
  · obtain rfl:k=0:=by omega
    have hrng:=range_blk (HE.out.below HW.out.bel HE.out.lt)
    have HA:=Lib.hid (HW.out.ev 6 x.err x.pA x.pn x.pc #[.int .i64 6,.int .i64 x.err,.string x.val,.slice x.pA x.pn x.pc,.int .i64 x.h.t,.int .u32 x.h.g,.int .u8 x.h.r,.int .u64 x.s0,.int .u64 x.s1,.int .u64 x.s2,.int .u64 x.s3,.int .u64 x.s4,.int .u64 x.s5,.int .u64 x.s6,.int .u64 x.s7,.int .u64 x.s8,.int .u64 x.s9,.complex .f64 x.la x.lb] rfl rfl rfl)
    have hl:w.heap.size < wr.heap.size:=by obtain ⟨st,-,hb⟩:=HW.out.box;exact hb.lt
    go_upto_region 6 with (refine wpList_load_mid rfl 161 (.tmp 19) rfl ge 0 rfl _ _ hrng Tryz.underlying161 rfl infoEv ?_)
    clear hrng
    generalize wr.alloc (.cells #[.int .i64 6,.int .i64 x.err,.string x.val,.slice x.pA x.pn x.pc,.int .i64 x.h.t,.int .u32 x.h.g,.int .u8 x.h.r,.int .u64 x.s0,.int .u64 x.s1,.int .u64 x.s2,.int .u64 x.s3,.int .u64 x.s4,.int .u64 x.s5,.int .u64 x.s6,.int .u64 x.s7,.int .u64 x.s8,.int .u64 x.s9,.complex .f64 x.la x.lb] 161)=WX at HA ⊢
    have dx:=HA.out.deed
    have hlk:=run_lookup_intmap (P:=Tryz.prog) (n:=6) HA.out.map Tryz.underlying222 Tryz.underlying33 rfl (Tryz.zeroValue225 _) false
    rw [show look Value.nilFunc 6 ctrMap=.nilFunc from rfl] at hlk
    simp only [Bool.false_eq_true,if_false] at hlk
    cases q
    · go_wp2_with (refine wpList_lookup_run rfl _ _ 222 false rfl _ _ _ rfl rfl hlk ?_)
      refine HK0.out _ _ (after_end (HA.out.out (Nat.le_succ _)))
    · obtain ⟨sA,hsA,hbA⟩:=HA.out.box
      obtain ⟨xa,xb,hcx⟩:=stOk_cx hsA
      have cx:WX.cell? ⟨w.heap.size,10,none⟩=some (.complex .f64 xa xb):=by rw [hbA.cell];simpa using hcx
      have fx:=hbA.frozen 10
      clear hcx hbA hsA
      have hne:=fun w=>run_neq_func_nil (P:=Tryz.prog) w 225 _ _ _ Tryz.underlying225
      have hee:=fun w=>run_eql_func_nil (P:=Tryz.prog) w 225 _ _ _ Tryz.underlying225
      go_wp2_with (first
       | (refine wpList_lookup_run rfl _ _ 222 false rfl _ _ _ rfl rfl hlk ?_)
       | (go_at_call 152;refine (Next_l _ _ _ _).mono ?_;rintro e w3 ⟨x3,y3,q3,rfl,hb3⟩;have h3:=HA.out.below hb3;obtain ⟨sB,hsB,hbB⟩:=h3.box;obtain ⟨xc,xd,hcy⟩:=stOk_cx hsB;have cy:w3.cell? ⟨w.heap.size,10,none⟩=some (.complex .f64 xc xd):=(hbB.cell 10).trans (by simpa using hcy);have fy:=hbB.frozen 10;have H3:=Lib.hid h3;clear hb3 h3 hsB hbB hcy))
      go_roundw
      case rel=>exact ⟨1,true,by omega,by go_num,rfl,Lib.hid ((H3.out.put (H3.out.box.load)).out (Nat.le_succ _))⟩
      case measure=>simp [intOf]
  · obtain rfl:k=1:=by omega
    go_wp2_with fail
    refine HK0.out _ _ (after_end HW.out)
end Go.Proofs.YtkgflepgkhnclaaGreatDoor
