/- Layer 27: OrderModels: the reference's handles; what is formed; an error alone. Layer 27: OrderModels: what is formed; an answer with an error alone. Layer 27: OrderModels: the reference's book: Put, whole. Layer 27: OrderModels: the reference's book: Delete, Swap. Layer 27: OrderModels: the reference's book: Scan. -/
import Derived.Test.YtkgflepgkhnclaaGreatDoorMc
import Derived.Test.YtkgflepgkhnclaaGreatDoorMe
import Derived.Test.YtkgflepgkhnclaaGreatDoorMh
import Derived.Lib.LaidU8
namespace Go.Proofs.YtkgflepgkhnclaaGreatDoor
set_option linter.unusedVariables false
set_option linter.unusedSimpArgs false
open Go.RowKit Go.Shelf
attribute [local go_sem] run_store_complex
set_option maxHeartbeats 1600000 in
set_option maxRecDepth 100000 in
theorem rightR_any (h:Hd) (w:World) (hr:0 ≤ h.r∧h.r ≤ 255):Calls Tryz.prog 46 #[h.v] w (BoolB h.right w):=by
 have hw:IntKind.i64.wrap h.r=h.r:=IntWalk.i64_in _ (by omega)
 unfold Hd.v Hd.right Hd.tN Hd.gN Hd.rN
 obtain ⟨t,g,r⟩:=h
 dsimp only at hr hw ⊢
 by_cases h1:1 ≤ t
 · by_cases h2:t ≤ 16
   · by_cases h3:1 ≤ g
     · by_cases h4:1 ≤ r
       · by_cases h5:r ≤ 7
         · go_enter Tryz.func46,Tryz.ntmps46
           go_wp2_with fail
           go_ret
           exact ⟨ret_bool (by simp [*] <;> omega),below_box _ _⟩
         · go_enter Tryz.func46,Tryz.ntmps46
           go_wp2_with fail
           go_ret
           exact ⟨ret_bool (by simp [*] <;> omega),below_box _ _⟩
       · go_enter Tryz.func46,Tryz.ntmps46
         go_wp2_with fail
         go_ret
         exact ⟨ret_bool (by simp [*] <;> omega),below_box _ _⟩
     · go_enter Tryz.func46,Tryz.ntmps46
       go_wp2_with fail
       go_ret
       exact ⟨ret_bool (by simp [*] <;> omega),below_box _ _⟩
   · go_enter Tryz.func46,Tryz.ntmps46
     go_wp2_with fail
     go_ret
     exact ⟨ret_bool (by simp [*] <;> omega),below_box _ _⟩
 · go_enter Tryz.func46,Tryz.ntmps46
   go_wp2_with fail
   go_ret
   exact ⟨ret_bool (by simp [*] <;> omega),below_box _ _⟩
set_option maxHeartbeats 1600000 in
set_option maxRecDepth 100000 in
theorem asksR_any (d:Int) (w:World):Calls Tryz.prog 149 #[.int .i64 d] w (fun e w'=>e=.returned (.int .i64 (asksN d).1)∧w'=w):=by
 unfold asksN
 by_cases e1:d=1
 · subst e1
   go_enter Tryz.func149,Tryz.ntmps149
   go_wp2_with fail
   go_ret
   exact ⟨by simp [*],rfl⟩
 · have b1:(d == 1)=false:=by simp [e1]
   by_cases e6:d=6
   · subst e6
     go_enter Tryz.func149,Tryz.ntmps149
     go_wp2_with fail
     go_ret
     exact ⟨by simp [*],rfl⟩
   · have b6:(d == 6)=false:=by simp [e6]
     by_cases e2:d=2
     · subst e2
       go_enter Tryz.func149,Tryz.ntmps149
       go_wp2_with fail
       go_ret
       exact ⟨by simp [*],rfl⟩
     · have b2:(d == 2)=false:=by simp [e2]
       by_cases e3:d=3
       · subst e3
         go_enter Tryz.func149,Tryz.ntmps149
         go_wp2_with fail
         go_ret
         exact ⟨by simp [*],rfl⟩
       · have b3:(d == 3)=false:=by simp [e3]
         by_cases e4:d=4
         · subst e4
           go_enter Tryz.func149,Tryz.ntmps149
           go_wp2_with fail
           go_ret
           exact ⟨by simp [*],rfl⟩
         · have b4:(d == 4)=false:=by simp [e4]
           by_cases e5:d=5
           · subst e5
             go_enter Tryz.func149,Tryz.ntmps149
             go_wp2_with fail
             go_ret
             exact ⟨by simp [*],rfl⟩
           · have b5:(d == 5)=false:=by simp [e5]
             go_enter Tryz.func149,Tryz.ntmps149
             go_wp2_with fail
             go_ret
             exact ⟨by simp [*],rfl⟩
theorem asks_of (d:Int):(asksN d=(1,true) ∨ asksN d=(2,true) ∨ asksN d=(4,true)) ∨ asksN d=(0,false):=by
 unfold asksN
 repeat' split
 all_goals simp
theorem has_div {r:Int} (h:0 ≤ r∧r ≤ 255):(∀ h0:Hd,h0.r=r→hasN h0 1=(r % 2 == 1))∧(∀ h0:Hd,h0.r=r→hasN h0 2=(r / 2 % 2 == 1))∧∀ h0:Hd,h0.r=r→hasN h0 4=(r / 4 % 2 == 1):=by
 have:∀ k:Fin 256,(hasN ⟨0,0,(k.val:Int)⟩ 1=((k.val:Int) % 2 == 1))∧(hasN ⟨0,0,(k.val:Int)⟩ 2=((k.val:Int) / 2 % 2 == 1))∧(hasN ⟨0,0,(k.val:Int)⟩ 4=((k.val:Int) / 4 % 2 == 1)):=by decide +kernel
 obtain ⟨n,rfl⟩:∃ n:Nat,r=n:=⟨r.toNat,by omega⟩
 have h3:=this ⟨n,by omega⟩
 refine ⟨fun h0 e=>?_,fun h0 e=>?_,fun h0 e=>?_⟩
 · rw [← h3.1];unfold hasN;rw [e]
 · rw [← h3.2.1];unfold hasN;rw [e]
 · rw [← h3.2.2];unfold hasN;rw [e]
set_option maxHeartbeats 1600000 in
set_option maxRecDepth 100000 in
theorem allowsR_any (h:Hd) (d:Int) (w:World) (hr:0 ≤ h.r∧h.r ≤ 255):Calls Tryz.prog 91 #[h.v,.int .i64 d] w (BoolB (allowsN h d) w):=by
 have hw:IntKind.i64.wrap h.r=h.r:=IntWalk.i64_in _ (by omega)
 have hb0:=below_box w (.cells h.cells 37)
 have HR:=Lib.hid (rightR_any h (w.alloc (.cells h.cells 37)) hr)
 have HD:=Lib.hid (has_div hr)
 have hlt:=(Blk.new w 37 h.cells).lt
 have c0:=(Blk.new w 37 h.cells).cell 0
 have c1:=(Blk.new w 37 h.cells).cell 1
 have c2:=(Blk.new w 37 h.cells).cell 2
 have HX:=Lib.hid (And.intro (Blk.new w 37 h.cells) hb0)
 unfold Hd.v at HR ⊢
 unfold Hd.cells at *
 simp at c0 c1 c2
 clear hb0
 obtain ⟨a,ab,has⟩:∃ a ab,asksN d=(a,ab):=⟨_,_,rfl⟩
 have HA:=Lib.hid (asksR_any d (w.alloc (.cells #[.int .i64 h.t,.int .u32 h.g,.int .u8 h.r] 37)))
 have hal:allowsN h d=(ab && h.right && hasN h a):=by unfold allowsN;rw [has]
 rw [has] at HA
 have hq:=asks_of d
 rw [has] at hq
 have HAL:=Lib.hid hal
 clear hal has
 cases hri:h.right with
 | false =>
   rw [hri] at HR HAL
   clear hri hq
   go_enter Tryz.func91,Tryz.ntmps91
   go_wp2_with fail
   refine HA.out.mono ?_
   rintro e w2 ⟨rfl,rfl⟩
   go_wp2_with fail
   refine HR.out.mono ?_
   rintro e w3 ⟨rfl,hb3⟩
   go_wp2_with fail
   go_ret
   exact ⟨by rw [HAL.out];simp,below_trans HX.out.2 hb3⟩
 | true =>
   rw [hri] at HR HAL
   clear hri
   rcases hq with (hq | hq | hq) | hq
   all_goals
    injection hq with hq1 hq2
    subst hq1 hq2
   · have hdv:=HD.out.1 h rfl
     have HV:=Lib.hid hdv
     generalize hgq:(h.r % 2 == 1)=bb at HV
     clear hdv
     go_enter Tryz.func91,Tryz.ntmps91
     go_wp2_with fail
     refine HA.out.mono ?_
     rintro e w2 ⟨rfl,rfl⟩
     go_wp2_with fail
     refine HR.out.mono ?_
     rintro e w3 ⟨rfl,hb3⟩
     have hk3:=HX.out.1.below hb3 hlt
     have k2:=hk3.cell 2
     rw [show (#[.int .i64 h.t,.int .u32 h.g,.int .u8 h.r]:Array Value)[2]?=some (.int .u8 h.r) from rfl] at k2
     clear hk3
     go_wp2_with fail
     go_ret
     exact ⟨ret_bool (by rw [HAL.out,HV.out];simp),below_trans HX.out.2 hb3⟩
   · have hdv:=HD.out.2.1 h rfl
     have HV:=Lib.hid hdv
     generalize hgq:(h.r / 2 % 2 == 1)=bb at HV
     clear hdv
     go_enter Tryz.func91,Tryz.ntmps91
     go_wp2_with fail
     refine HA.out.mono ?_
     rintro e w2 ⟨rfl,rfl⟩
     go_wp2_with fail
     refine HR.out.mono ?_
     rintro e w3 ⟨rfl,hb3⟩
     have hk3:=HX.out.1.below hb3 hlt
     have k2:=hk3.cell 2
     rw [show (#[.int .i64 h.t,.int .u32 h.g,.int .u8 h.r]:Array Value)[2]?=some (.int .u8 h.r) from rfl] at k2
     clear hk3
     go_wp2_with fail
     go_ret
     exact ⟨ret_bool (by rw [HAL.out,HV.out];simp),below_trans HX.out.2 hb3⟩
   · have hdv:=HD.out.2.2 h rfl
     have HV:=Lib.hid hdv
     generalize hgq:(h.r / 4 % 2 == 1)=bb at HV
     clear hdv
     go_enter Tryz.func91,Tryz.ntmps91
     go_wp2_with fail
     refine HA.out.mono ?_
     rintro e w2 ⟨rfl,rfl⟩
     go_wp2_with fail
     refine HR.out.mono ?_
     rintro e w3 ⟨rfl,hb3⟩
     have hk3:=HX.out.1.below hb3 hlt
     have k2:=hk3.cell 2
     rw [show (#[.int .i64 h.t,.int .u32 h.g,.int .u8 h.r]:Array Value)[2]?=some (.int .u8 h.r) from rfl] at k2
     clear hk3
     go_wp2_with fail
     go_ret
     exact ⟨ret_bool (by rw [HAL.out,HV.out];simp),below_trans HX.out.2 hb3⟩
   · go_enter Tryz.func91,Tryz.ntmps91
     go_wp2_with fail
     refine HA.out.mono ?_
     rintro e w2 ⟨rfl,rfl⟩
     go_wp2_with fail
     refine HR.out.mono ?_
     rintro e w3 ⟨rfl,hb3⟩
     go_wp2_with fail
     go_ret
     exact ⟨by rw [HAL.out];rfl,below_trans HX.out.2 hb3⟩
set_option maxHeartbeats 1600000 in
theorem formedR_any (r:Req) (w:World):Calls Tryz.prog 85 #[r.v] w (BoolB (formedN r) w):=by
 have hb:Below w.heap.size w (w.alloc (.cells r.row.toArray 39)):=below_box _ _
 unfold Req.row at hb
 have HB:=Lib.hid hb
 clear hb
 by_cases h1:r.key.size ≤ 16
 · have i1:(r.key.size:Int) ≤ 16:=by omega
   by_cases h2:r.val.size ≤ 32
   · have i2:(r.val.size:Int) ≤ 32:=by omega
     by_cases h3:r.old.size ≤ 32
     · have i3:(r.old.size:Int) ≤ 32:=by omega
       by_cases h4:r.deed=5
       · rw [h4] at HB
         by_cases h5:0 ≤ r.lim
         · have h5':r.lim ≥ 0:=h5
           by_cases h6:r.lim ≤ 4096
           · have HE:Hid (formedN r=true):=Lib.hid (by simp [formedN, *])
             clear h1 h2 h3 h5
             go_enter Tryz.func85,Tryz.ntmps85
             go_wp2
             go_ret
             exact ⟨by rw [HE.out];rfl,HB.out⟩
           · have HE:Hid (formedN r=false):=Lib.hid (by simp [formedN, *];try omega)
             clear h1 h2 h3 h5
             go_enter Tryz.func85,Tryz.ntmps85
             go_wp2
             go_ret
             exact ⟨by rw [HE.out];rfl,HB.out⟩
         · have h5':¬ (r.lim ≥ 0):=h5
           have HE:Hid (formedN r=false):=Lib.hid (by simp [formedN, *];try omega)
           clear h1 h2 h3 h5
           go_enter Tryz.func85,Tryz.ntmps85
           go_wp2
           go_ret
           exact ⟨by rw [HE.out];rfl,HB.out⟩
       · have HE:Hid (formedN r=true):=Lib.hid (by simp [formedN, *])
         have hbne:(r.deed != 5)=true:=by simpa using h4
         clear h1 h2 h3
         go_enter Tryz.func85,Tryz.ntmps85
         go_wp2
         go_ret
         exact ⟨by rw [HE.out];rfl,HB.out⟩
     · have i3:¬ (r.old.size:Int) ≤ 32:=by omega
       have HE:Hid (formedN r=false):=Lib.hid (by simp [formedN, *])
       clear h1 h2 h3
       go_enter Tryz.func85,Tryz.ntmps85
       go_wp2
       go_ret
       exact ⟨by rw [HE.out];rfl,HB.out⟩
   · have i2:¬ (r.val.size:Int) ≤ 32:=by omega
     have HE:Hid (formedN r=false):=Lib.hid (by simp [formedN, *])
     clear h1 h2
     go_enter Tryz.func85,Tryz.ntmps85
     go_wp2
     go_ret
     exact ⟨by rw [HE.out];rfl,HB.out⟩
 · have i1:¬ (r.key.size:Int) ≤ 16:=by omega
   have HE:Hid (formedN r=false):=Lib.hid (by simp [formedN, *])
   clear h1
   go_enter Tryz.func85,Tryz.ntmps85
   go_wp2
   go_ret
   exact ⟨by rw [HE.out];rfl,HB.out⟩
set_option maxHeartbeats 1600000 in
set_option maxRecDepth 100000 in
theorem failed_any (e:Int) (w:World):Calls Tryz.prog 41 #[.int .i64 e] w (fun en w'=>en=.returned ((errA e).v none 0)∧Below w.heap.size w w'):=by
 have hb:=Blk.new w 52 zeroA
 have hcs:((errA e).cells none 0).toArray=#[.int .i64 e,.string ⟨#[]⟩,.slice none 0 0,.int .i64 0,.int .u32 0,.int .u8 0,.int .u64 0,.int .u64 0,.int .u64 0,.int .u64 0,.int .u64 0,.int .u64 0,.int .u64 0,.int .u64 0,.int .u64 0,.int .u64 0,.complex .f64 0 0]:=rfl
 have HX:=Lib.hid (stored_new (w:=w) (t:=52) (lit:=zeroA) (cells:=((errA e).cells none 0).toArray) rfl)
 go_enter Tryz.func41,Tryz.ntmps41
 go_wp2_with (refine wpList_store_mid rfl 52 (.tmp 2) (.tmp 4) rfl w.heap.size 0 ((errA e).cells none 0).toArray rfl rfl (there_blk hb (Nat.le_refl 17)) infoAns (by simp [errA,Ans.cells,st0,Value.oneCell']) ?_)
 refine bodyPost_ret (v:=(errA e).v none 0) ?_ rfl ?_
 · exact results_cell Tryz.results41 rfl HX.out.1 Tryz.underlying52 rfl infoAns
 · exact ⟨rfl,HX.out.2⟩
end Go.Proofs.YtkgflepgkhnclaaGreatDoor
namespace Go.Proofs.YtkgflepgkhnclaaGreatDoor
set_option linter.unusedVariables false
set_option linter.unusedSimpArgs false
open Go.RowKit Go.Shelf
variable {Xa Xb Xc Xd Xe Xf Xg Xh Xi Xj Xk Xl Xm Xn Xo Xp Xq Xr Xs Xt Xu Xv Xw Xx Xy Xz Ya Yb Yc Yd Ye Yf Yg Yh Yi Yj Yk Yl Ym Yn Yo Yp Yq Yr Ys Yt Yu Yv Yw Yx Yy Yz Za Zb Zc Zd Ze Zf Zg Zh Zi Zj Zk Zl Zm Zn Zo Zp Zq Zr Zs Zt Zu Zv Zw Zx Zy Zz Ja Jb Jc Jd Je Jf Jg Jh Ji Jj Jk Jl Jm Jn Jo Jp Jq Jr Js Jt Ju Jv Jw Jy Jz Va Vb Vc Vd Ve Vf Vg Vh Vi Vj Vk Vl Vm Vn Vo Vp Vq Vr Vs Vt Vu Vv Vw Vx Vy Vz Oa Ob Oc Od Oe Og Oh Oi Oj Ok Ol Om On Oo Oq Ot Ou Ov Ox Oy Oz Ha Hb Hc He Hf Hg Hh Hi Hj Hk Hl Hm Hn Ho Hp Hq Hr Hs Ht Hu Hv Hw Hx Hy Hz Ia Ib Ic Id Ie If Ig Ih Ii Ij Ik Il Im In Io Ip Iq Ir It Iu Iv Iw Ix Iy Iz Ua Ub Uc Ud Ue Uf Ug Uh Ui Uj Uk Ul:Value}
set_option maxHeartbeats 3200000 in
set_option maxRecDepth 100000 in
theorem pt_quota {W:World} {b x:RBk} {gb gx:Nat} {Q:Exit→Act→World→Prop} (qx:Blk W gx 62 #[.slice x.A x.l.length x.c,.int .u64 x.qk,.int .u64 x.qb]) (qg:Blk W gb 62 #[.slice b.A b.l.length b.c,.int .u64 b.qk,.int .u64 b.qb]) (hx:x.at_ W) (hl:LOk x.l)
 (hQ:∀ (s45 s46 s47 s48 s49 s50 s51 s52 s53 s54 s55 s56 s57:Value) (W':World),Below W.heap.size W W'→Q .normal ⟨#[Xa,Xb,Xc,.pointer (some ⟨gb,0,none⟩),Xe,Xf,Xg,Xh,.pointer (some ⟨gx,0,none⟩),Xj,Xk,Xl,Xm,Xn,Xo,Xp,Xq,Xr,Xs,Xt,Xu,Xv,Xw,Xx,Xy,Xz,Ya,Yb,Yc,Yd,Ye,Yf,Yg,Yh,Yi,Yj,Yk,Yl,Ym,Yn,Yo,Yp,Yq,Yr,Ys,s45,s46,s47,s48,s49,s50,s51,s52,s53,s54,s55,s56,s57,.bool (decide (b.qk < (x.l.length:Int)) || decide (b.qb < (sizeL x.l:Int))),Zh,Zi],[]⟩ W') :
 Code.wp Tryz.prog (part Tryz.f87 [1,1,1,1,1,1,1,0,0]) Q ⟨#[Xa,Xb,Xc,.pointer (some ⟨gb,0,none⟩),Xe,Xf,Xg,Xh,.pointer (some ⟨gx,0,none⟩),Xj,Xk,Xl,Xm,Xn,Xo,Xp,Xq,Xr,Xs,Xt,Xu,Xv,Xw,Xx,Xy,Xz,Ya,Yb,Yc,Yd,Ye,Yf,Yg,Yh,Yi,Yj,Yk,Yl,Ym,Yn,Yo,Yp,Yq,Yr,Ys,Yt,Yu,Yv,Yw,Yx,Yy,Yz,Za,Zb,Zc,Zd,Ze,Zf,Zg,Zh,Zi],[]⟩ W:=by
 conv=>arg 2;whnf
 have HC:Hid (∀ V:World,Below W.heap.size W V→V.cell? ⟨gx,0,none⟩=some (.slice x.A x.l.length x.c)∧V.cell? ⟨gx,1,none⟩=some (.int .u64 x.qk)∧V.cell? ⟨gx,2,none⟩=some (.int .u64 x.qb)∧V.cell? ⟨gb,0,none⟩=some (.slice b.A b.l.length b.c)∧V.cell? ⟨gb,1,none⟩=some (.int .u64 b.qk)∧V.cell? ⟨gb,2,none⟩=some (.int .u64 b.qb)):=Lib.hid (fun V hb=>⟨(qx.below hb qx.lt).cell 0,(qx.below hb qx.lt).cell 1,(qx.below hb qx.lt).cell 2,(qg.below hb qg.lt).cell 0,(qg.below hb qg.lt).cell 1,(qg.below hb qg.lt).cell 2⟩)
 have HX:=Lib.hid (And.intro qx (And.intro qg (And.intro hx hl)))
 have HD:=Lib.hid ((Below.refl W.heap.size W).drew)
 have h0:=HC.out _ HD.out
 clear qx qg hx hl
 by_cases h1:b.qk < (x.l.length:Int)
 · rw [decide_eq_true h1,Bool.true_or] at hQ
   have HQ:=Lib.hid hQ
   clear hQ
   refine wp_region_noPanic ?_
   refine wp_region_held_drew (S:=(fun V:World=>V.cell? ⟨gx,0,none⟩=some (.slice x.A x.l.length x.c)∧V.cell? ⟨gx,1,none⟩=some (.int .u64 x.qk)∧V.cell? ⟨gx,2,none⟩=some (.int .u64 x.qb)∧V.cell? ⟨gb,0,none⟩=some (.slice b.A b.l.length b.c)∧V.cell? ⟨gb,1,none⟩=some (.int .u64 b.qk)∧V.cell? ⟨gb,2,none⟩=some (.int .u64 b.qb))) (by kernel_rfl) ?_ (fun hHeld0=>?_)
   · exact h0
   refine tk (i:=0) (v:=?_) rfl (Or.inl ⟨by rfl,?_⟩) hHeld0 ?_
   rotate_left
   · (intro w hSw;(try dsimp only at hSw);go_simp <;> with_reducible rfl)
   try simp only [Act.put,zD,zE,zF]
   refine tk (i:=2) (v:=?_) rfl (Or.inl ⟨by rfl,?_⟩) hHeld0 ?_
   rotate_left
   · (intro w hSw;(try dsimp only at hSw);go_simp <;> with_reducible rfl)
   try simp only [Act.put,zD,zE,zF]
   refine tk (i:=3) (v:=?_) rfl (Or.inl ⟨by rfl,?_⟩) hHeld0 ?_
   rotate_left
   · (intro w hSw;(try dsimp only at hSw);go_simp <;> with_reducible rfl)
   try simp only [Act.put,zD,zE,zF]
   refine tk (i:=4) (v:=?_) rfl (Or.inl ⟨by rfl,?_⟩) hHeld0 ?_
   rotate_left
   · (intro w hSw;(try dsimp only at hSw);go_simp <;> with_reducible rfl)
   try simp only [Act.put,zA,zB,zC,zD,zE,zF]
   refine wpAnyH_ready (rs:=[1]) (by kernel_rfl) (by simp) ?_
   refine AllReadyH.cons rfl (fun K hK=>?_) AllReadyH.nil
   go_simp
   with_reducible refine (keys_any x _ HX.out.2.2.2).mono ?_
   rintro e w1 ⟨rfl,hb1⟩
   have hB1:=below_trans HD.out hb1
   refine hK.out _ _ ?_ (fun hHeld1=>?_)
   · exact HC.out _ hB1
   clear hK K hHeld0
   try simp only [Act.put,zA,zB,zC,zD,zE,zF]
   refine tk (i:=5) (v:=?_) rfl (Or.inl ⟨by rfl,?_⟩) hHeld1 ?_
   rotate_left
   · (intro w hSw;(try dsimp only at hSw);go_simp <;> with_reducible rfl)
   try simp only [Act.put,zA,zB,zC,zD,zE,zF]
   refine tk (i:=6) (v:=?_) rfl (Or.inl ⟨by rfl,?_⟩) hHeld1 ?_
   rotate_left
   · (intro w hSw;(try dsimp only at hSw);go_simp <;> with_reducible rfl)
   try simp only [Act.put,zA,zB,zC,zD,zE,zF]
   refine tk (i:=7) (v:=undef) rfl (Or.inr ⟨by kernel_rfl,rfl⟩) hHeld1 ?_
   try simp only [Act.put,zD,zE,zF]
   refine tk (i:=8) (v:=undef) rfl (Or.inr ⟨by kernel_rfl,rfl⟩) hHeld1 ?_
   try simp only [Act.put,zD,zE,zF]
   refine tk (i:=9) (v:=undef) rfl (Or.inr ⟨by kernel_rfl,rfl⟩) hHeld1 ?_
   try simp only [Act.put,zD,zE,zF]
   refine tk (i:=10) (v:=undef) rfl (Or.inr ⟨by kernel_rfl,rfl⟩) hHeld1 ?_
   try simp only [Act.put,zD,zE,zF]
   refine tk (i:=11) (v:=undef) rfl (Or.inr ⟨by kernel_rfl,rfl⟩) hHeld1 ?_
   try simp only [Act.put,zD,zE,zF]
   refine tk (i:=12) (v:=undef) rfl (Or.inr ⟨by kernel_rfl,rfl⟩) hHeld1 ?_
   try simp only [Act.put,zA,zB,zC,zD,zE,zF]
   refine tk (i:=13) (v:=?_) rfl (Or.inl ⟨by rfl,?_⟩) hHeld1 ?_
   rotate_left
   · (intro w hSw;(try dsimp only at hSw);go_simp <;> with_reducible rfl)
   try simp only [Act.put,zA,zB,zC,zD,zE,zF]
   refine wpAnyH_done (by kernel_rfl) ?_ _
   exact NoPanic.normal (HQ.out _ _ _ _ _ _ _ _ _ _ _ _ _ _ hB1)
 · rw [decide_eq_false h1,Bool.false_or] at hQ
   have HQ:=Lib.hid hQ
   clear hQ
   refine wp_region_noPanic ?_
   refine wp_region_held_drew (S:=(fun V:World=>V.cell? ⟨gx,0,none⟩=some (.slice x.A x.l.length x.c)∧V.cell? ⟨gx,1,none⟩=some (.int .u64 x.qk)∧V.cell? ⟨gx,2,none⟩=some (.int .u64 x.qb)∧V.cell? ⟨gb,0,none⟩=some (.slice b.A b.l.length b.c)∧V.cell? ⟨gb,1,none⟩=some (.int .u64 b.qk)∧V.cell? ⟨gb,2,none⟩=some (.int .u64 b.qb))) (by kernel_rfl) ?_ (fun hHeld0=>?_)
   · exact h0
   refine tk (i:=0) (v:=?_) rfl (Or.inl ⟨by rfl,?_⟩) hHeld0 ?_
   rotate_left
   · (intro w hSw;(try dsimp only at hSw);go_simp <;> with_reducible rfl)
   try simp only [Act.put,zD,zE,zF]
   refine tk (i:=2) (v:=?_) rfl (Or.inl ⟨by rfl,?_⟩) hHeld0 ?_
   rotate_left
   · (intro w hSw;(try dsimp only at hSw);go_simp <;> with_reducible rfl)
   try simp only [Act.put,zD,zE,zF]
   refine tk (i:=3) (v:=?_) rfl (Or.inl ⟨by rfl,?_⟩) hHeld0 ?_
   rotate_left
   · (intro w hSw;(try dsimp only at hSw);go_simp <;> with_reducible rfl)
   try simp only [Act.put,zD,zE,zF]
   refine tk (i:=4) (v:=?_) rfl (Or.inl ⟨by rfl,?_⟩) hHeld0 ?_
   rotate_left
   · (intro w hSw;(try dsimp only at hSw);go_simp <;> with_reducible rfl)
   try simp only [Act.put,zA,zB,zC,zD,zE,zF]
   refine wpAnyH_ready (rs:=[1]) (by kernel_rfl) (by simp) ?_
   refine AllReadyH.cons rfl (fun K hK=>?_) AllReadyH.nil
   go_simp
   with_reducible refine (keys_any x _ HX.out.2.2.2).mono ?_
   rintro e w1 ⟨rfl,hb1⟩
   have hB1:=below_trans HD.out hb1
   refine hK.out _ _ ?_ (fun hHeld1=>?_)
   · exact HC.out _ hB1
   clear hK K hHeld0
   try simp only [Act.put,zA,zB,zC,zD,zE,zF]
   refine tk (i:=5) (v:=?_) rfl (Or.inl ⟨by rfl,?_⟩) hHeld1 ?_
   rotate_left
   · (intro w hSw;(try dsimp only at hSw);go_simp <;> with_reducible rfl)
   try simp only [Act.put,zA,zB,zC,zD,zE,zF]
   refine tk (i:=6) (v:=?_) rfl (Or.inl ⟨by rfl,?_⟩) hHeld1 ?_
   rotate_left
   · (intro w hSw;(try dsimp only at hSw);go_simp <;> with_reducible rfl)
   try simp only [Act.put,zA,zB,zC,zD,zE,zF]
   refine tk (i:=7) (v:=?_) rfl (Or.inl ⟨by kernel_rfl,?_⟩) hHeld1 ?_
   rotate_left
   · (intro w hSw;(try dsimp only at hSw);go_simp <;> with_reducible rfl)
   try simp only [Act.put,zD,zE,zF]
   refine tk (i:=9) (v:=?_) rfl (Or.inl ⟨by kernel_rfl,?_⟩) hHeld1 ?_
   rotate_left
   · (intro w hSw;(try dsimp only at hSw);go_simp <;> with_reducible rfl)
   try simp only [Act.put,zD,zE,zF]
   refine tk (i:=10) (v:=?_) rfl (Or.inl ⟨by kernel_rfl,?_⟩) hHeld1 ?_
   rotate_left
   · (intro w hSw;(try dsimp only at hSw);go_simp <;> with_reducible rfl)
   try simp only [Act.put,zD,zE,zF]
   refine tk (i:=11) (v:=?_) rfl (Or.inl ⟨by kernel_rfl,?_⟩) hHeld1 ?_
   rotate_left
   · (intro w hSw;(try dsimp only at hSw);go_simp <;> with_reducible rfl)
   try simp only [Act.put,zA,zB,zC,zD,zE,zF]
   refine wpAnyH_ready (rs:=[8]) (by kernel_rfl) (by simp) ?_
   refine AllReadyH.cons rfl (fun K hK=>?_) AllReadyH.nil
   go_simp
   with_reducible refine (bytes_any x _ (HX.out.2.2.1.below hB1) HX.out.2.2.2).mono ?_
   rintro e w2 ⟨rfl,hb2⟩
   have hB2:=below_trans hB1 hb2
   refine hK.out _ _ ?_ (fun hHeld2=>?_)
   · exact HC.out _ hB2
   clear hK K hHeld1
   try simp only [Act.put,zA,zB,zC,zD,zE,zF]
   refine tk (i:=12) (v:=?_) rfl (Or.inl ⟨by kernel_rfl,?_⟩) hHeld2 ?_
   rotate_left
   · (intro w hSw;(try dsimp only at hSw);go_simp <;> with_reducible rfl)
   try simp only [Act.put,zA,zB,zC,zD,zE,zF]
   refine tk (i:=13) (v:=?_) rfl (Or.inl ⟨by rfl,?_⟩) hHeld2 ?_
   rotate_left
   · (intro w hSw;(try dsimp only at hSw);go_simp <;> with_reducible rfl)
   try simp only [Act.put,zA,zB,zC,zD,zE,zF]
   refine wpAnyH_done (by kernel_rfl) ?_ _
   exact NoPanic.normal (HQ.out _ _ _ _ _ _ _ _ _ _ _ _ _ _ hB2)
def putR (b:RBk) (key value:ByteArray):Int × List Kv :=
 if mayN key [value]=2 then (2,b.l) else if b.qk < ((putL key value b.l).length:Int) ∨ b.qb < (sizeL (putL key value b.l):Int) then (10,b.l) else (0,putL key value b.l)
theorem lok_put {key value:ByteArray} {l:List Kv} (h:LOk l) (h1:key.size ≤ 16) (h2:value.size ≤ 32) (h3:(putL key value l).length ≤ 1000):LOk (putL key value l) :=
 ⟨sorted_putL h.keys,fun p hp=>by
  rcases mem_putL hp with rfl | hp
  · exact ⟨h1,h2⟩
  · exact h.short p hp,h3⟩
theorem may_two {key value:ByteArray}:mayN key [value]=2 ↔ 16 < key.size ∨ 32 < value.size:=by
 unfold mayN
 by_cases h:16 < key.size ∨ longS 32 [value]=true
 · rw [if_pos h]
   refine ⟨fun _=>h.imp id (fun h=>?_),fun _=>rfl⟩
   have h2:(32:Int) < (value.size:Int):=by simpa [longS] using h
   omega
 · rw [if_neg h]
   refine ⟨fun h=>(by cases h),fun h2=>absurd (h2.imp id (fun h3=>?_)) h⟩
   have h4:(32:Int) < (value.size:Int):=by omega
   simpa [longS] using h4
set_option maxHeartbeats 3200000 in
set_option maxRecDepth 100000 in
theorem put_any (b:RBk) (key value:ByteArray) (w:World) (hb:b.at_ w) (hl:LOk b.l) (hlen:b.l.length ≤ 999) (hk:key.size ≤ 9223372036854775807) (hv:value.size ≤ 9223372036854775807) :
 Calls Tryz.prog 87 #[b.v,.string key,.string value] w (RBkErr (putR b key value).1 (putR b key value).2 b w):=by
 have hb0:=below_alloc (below_box w (.cells b.cs 62)) (.cells #[.slice none 0 0,.int .u64 0,.int .u64 0] 62)
 have q1:Blk ((w.alloc (.cells b.cs 62)).alloc (.cells #[.slice none 0 0,.int .u64 0,.int .u64 0] 62)) w.heap.size 62 b.cs:=(Blk.new w _ _).alloc _
 have q2:Blk ((w.alloc (.cells b.cs 62)).alloc (.cells #[.slice none 0 0,.int .u64 0,.int .u64 0] 62)) (w.heap.size + 1) 62 #[.slice none 0 0,.int .u64 0,.int .u64 0]:=blk_at (by simp)
 have HX:=Lib.hid (And.intro hb0 (And.intro q1 (And.intro q2 hb)))
 have HL:=Lib.hid hl
 clear hb hb0 q1 q2 hl
 unfold RBk.cs at HX
 go_enter Tryz.func87,Tryz.ntmps87
 refine wp_seq_k fun K0 hK=>?_
 have HK0:=Lib.hid hK
 clear hK
 go_wp2_with fail
 refine HK0.out _ _ ?_
 clear HK0
 try simp only [Act.put]
 obtain ⟨gb,hgb⟩:∃ n,w.heap.size=n:=⟨_,rfl⟩
 have HGB:=Lib.hid hgb
 generalize hwa:(w.alloc (.cells #[.slice b.A b.l.length b.c,.int .u64 b.qk,.int .u64 b.qb] 62)).alloc (.cells #[.slice none 0 0,.int .u64 0,.int .u64 0] 62)=w1 at HX ⊢
 rw [hgb]
 have q1:=HX.out.2.1
 have q2:=HX.out.2.2.1
 rw [hgb] at q1 q2
 clear hwa hgb
 have c0:=q1.cell 0
 have c1:=q1.cell 1
 have c2:=q1.cell 2
 rw [show (#[.slice b.A b.l.length b.c,.int .u64 b.qk,.int .u64 b.qb]:Array Value)[0]?=some (.slice b.A b.l.length b.c) from rfl] at c0
 rw [show (#[.slice b.A b.l.length b.c,.int .u64 b.qk,.int .u64 b.qb]:Array Value)[1]?=some (.int .u64 b.qk) from rfl] at c1
 rw [show (#[.slice b.A b.l.length b.c,.int .u64 b.qk,.int .u64 b.qb]:Array Value)[2]?=some (.int .u64 b.qb) from rfl] at c2
 have d0:=q2.cell 0
 have d1:=q2.cell 1
 have d2:=q2.cell 2
 have f0:=q2.frozen 0
 have f1:=q2.frozen 1
 have f2:=q2.frozen 2
 simp at d0 d1 d2
 have HQ1:=Lib.hid (And.intro q1 q2)
 clear q1 q2
 by_cases hm:mayN key [value]=2
 · have hr:putR b key value=(2,b.l):=by unfold putR;rw [if_pos hm]
   have HR:=Lib.hid hr
   have hm2:=may_two.1 hm
   clear hr hm
   have HS:=Lib.hid (set3 (v0:=.slice b.A b.l.length b.c) (v1:=.int .u64 b.qk) (v2:=.int .u64 b.qb) HQ1.out.2)
   have HAT:=Lib.hid (HX.out.2.2.2.set3 (g:=gb + 1) (v0:=.slice b.A b.l.length b.c) (v1:=.int .u64 b.qk) (v2:=.int .u64 b.qb) HX.out.1 (by rw [HGB.out];omega))
   by_cases h16:16 < key.size
   · have i16:(16:Int) < (key.size:Int):=by omega
     clear hm2 h16
     go_wp2_with fail
     refine bodyPost_ret (v:=.tuple #[RBk.v b,.int .i64 2]) ?_ rfl ?_
     · exact results_cell_tmp Tryz.results87 rfl rfl HS.out.1 Tryz.underlying62 rfl infoBk
     · exact ⟨b.A,b.c,by rw [HR.out],by rw [HR.out];exact HAT.out,HS.out.2.2 _ _ HX.out.1 (by rw [HGB.out];omega)⟩
   · have i16:¬ (16:Int) < (key.size:Int):=by omega
     have i32:(32:Int) < (value.size:Int):=by omega
     clear hm2 h16
     go_wp2_with fail
     refine bodyPost_ret (v:=.tuple #[RBk.v b,.int .i64 2]) ?_ rfl ?_
     · exact results_cell_tmp Tryz.results87 rfl rfl HS.out.1 Tryz.underlying62 rfl infoBk
     · exact ⟨b.A,b.c,by rw [HR.out],by rw [HR.out];exact HAT.out,HS.out.2.2 _ _ HX.out.1 (by rw [HGB.out];omega)⟩
 · have hm2:¬ (16 < key.size ∨ 32 < value.size):=fun h=>hm (may_two.2 h)
   have i16:¬ (16:Int) < (key.size:Int):=by omega
   have i32:¬ (32:Int) < (value.size:Int):=by omega
   have HM:=Lib.hid (And.intro hm hm2)
   clear hm hm2
   refine wp_seq_k fun K0 hK=>?_
   have HK0:=Lib.hid hK
   clear hK
   go_wp2_with fail
   refine HK0.out _ _ ?_
   clear HK0 i16 i32
   try simp only [Act.put]
   refine wp_seq_k fun K0 hK=>?_
   have HK0:=Lib.hid hK
   clear hK
   go_wp2_with fail
   refine (without_any b key _ (HX.out.2.2.2.below HX.out.1) HL.out hk).mono ?_
   rintro e w2 ⟨A2,c2',rfl,hx2,hb2⟩
   generalize hxx:(⟨A2,c2',dropK key b.l,b.qk,b.qb⟩:RBk)=x at hx2 ⊢
   have hxl:x.l=dropK key b.l:=by rw [← hxx]
   have hxk:x.qk=b.qk:=by rw [← hxx]
   have hxb:x.qb=b.qb:=by rw [← hxx]
   have hlx:LOk x.l:=by rw [hxl];exact HL.out.drop
   have hxn:x.l.length ≤ 999:=by
    rw [hxl]
    exact Nat.le_trans (dropK_sub HL.out.keys).length_le hlen
   have hb3:=below_box w2 (.cells #[.slice x.A x.l.length x.c,.int .u64 x.qk,.int .u64 x.qb] 62)
   have hgx:w.heap.size ≤ w2.heap.size:=Nat.le_trans HX.out.1.size hb2.size
   have HQ2:=Lib.hid (And.intro (HQ1.out.1.below hb2 HQ1.out.1.lt) (HQ1.out.2.below hb2 HQ1.out.2.lt))
   have HW2:=Lib.hid (below_trans HX.out.1 hb2)
   have HX2:=Lib.hid (And.intro hx2 (And.intro hlx (And.intro hxl (And.intro hxk hxb))))
   clear hxx hx2 hlx hxl hxk hxb hb2 HQ1 c0 c1 c2 d0 d1 d2 f0 f1 f2
   go_wp2_with fail
   refine HK0.out _ _ ?_
   clear HK0
   try simp only [Act.put]
   obtain ⟨gx,hgxe⟩:∃ n,w2.heap.size=n:=⟨_,rfl⟩
   have qx:Blk (w2.alloc (.cells #[.slice x.A x.l.length x.c,.int .u64 x.qk,.int .u64 x.qb] 62)) w2.heap.size 62 #[.slice x.A x.l.length x.c,.int .u64 x.qk,.int .u64 x.qb]:=Blk.new w2 _ _
   have HQ3:=Lib.hid (And.intro (HQ2.out.1.below hb3 HQ2.out.1.lt) (HQ2.out.2.below hb3 HQ2.out.2.lt))
   have HW3:=Lib.hid (below_trans HW2.out hb3)
   have hx3:=HX2.out.1.below hb3
   generalize hw3:w2.alloc (.cells #[.slice x.A x.l.length x.c,.int .u64 x.qk,.int .u64 x.qb] 62)=w3 at hb3 qx HQ3 HW3 hx3 ⊢
   rw [hgxe] at qx hgx ⊢
   have HX3:=Lib.hid (And.intro hx3 (And.intro qx hgx))
   have hne:gx ≠ gb + 1∧gx ≠ gb:=by
    have h1:=HQ2.out.2.lt
    have h2:=HQ2.out.1.lt
    omega
   clear hw3 hgxe hb3 HQ2 HW2 hx3
   have c0:=qx.cell 0
   have c1:=qx.cell 1
   have c2:=qx.cell 2
   rw [show (#[.slice x.A x.l.length x.c,.int .u64 x.qk,.int .u64 x.qb]:Array Value)[0]?=some (.slice x.A x.l.length x.c) from rfl] at c0
   rw [show (#[.slice x.A x.l.length x.c,.int .u64 x.qk,.int .u64 x.qb]:Array Value)[1]?=some (.int .u64 x.qk) from rfl] at c1
   rw [show (#[.slice x.A x.l.length x.c,.int .u64 x.qk,.int .u64 x.qb]:Array Value)[2]?=some (.int .u64 x.qb) from rfl] at c2
   clear qx
   refine wp_seq_k fun K0 hK=>?_
   have HK0:=Lib.hid hK
   clear hK
   go_wp2_with fail
   refine (at_any x key _ HX3.out.1 HX2.out.2.1 hk).mono ?_
   rintro e w4 ⟨rfl,hb4⟩
   have hle:posK key (keysL x.l) ≤ x.l.length:=by have:=pos_le (x:=key) (ks:=keysL x.l);simpa using this
   have hpc:=put_cut (key:=key) (v:=value) HL.out.keys
   rw [← HX2.out.2.2.1] at hpc
   generalize posK key (keysL x.l)=n at hle hpc ⊢
   have HPC:=Lib.hid hpc
   have HX4:=Lib.hid (And.intro (HX3.out.1.below hb4) (And.intro (HX3.out.2.1.below hb4 HX3.out.2.1.lt) HX3.out.2.2))
   have HQ4:=Lib.hid (And.intro (HQ3.out.1.below hb4 HQ3.out.1.lt) (HQ3.out.2.below hb4 HQ3.out.2.lt))
   have HW4:=Lib.hid (below_trans HW3.out hb4)
   clear hpc hb4 HX3 HQ3 HW3 c0 c1 c2
   go_wp2_with fail
   refine HK0.out _ _ ?_
   clear HK0
   try simp only [Act.put]
   refine wp_seq_k fun K0 hK=>?_
   have HK0:=Lib.hid hK
   clear hK
   refine pt_head (w:=w) HX4.out.1 HX4.out.2.1 HW4.out hle (by omega) ?_
   intro s26 s27 s28 s29 s30 v5 w5 hown5 hb5
   try dsimp only [Exit.inBlock,Exit.then]
   have HX5:=Lib.hid (And.intro (HX4.out.1.below hb5) (And.intro (HX4.out.2.1.below hb5 HX4.out.2.1.lt) HX4.out.2.2))
   have HQ5:=Lib.hid (And.intro (HQ4.out.1.below hb5 HQ4.out.1.lt) (HQ4.out.2.below hb5 HQ4.out.2.lt))
   have HW5:=Lib.hid (below_trans HW4.out hb5)
   have HO5:=Lib.hid hown5
   have hs45:∀ ad,0 < x.l.length→x.A=some ad→ad.block < w4.heap.size:=fun ad h0 hA=>by
    obtain ⟨ad',h1,h2,_⟩:=HX4.out.1.rd.2 h0
    rw [hA] at h1
    injection h1 with h1
    subst h1
    exact h2
   have hb45:=hb5.size
   have hw45:=HW4.out.size
   have HS45:=Lib.hid hs45
   have hgb4:gb + 1 < w4.heap.size:=HQ4.out.2.lt
   clear hb5 HX4 HQ4 HW4 hown5 hs45
   refine HK0.out _ _ ?_
   clear HK0
   try simp only [Act.put]
   refine wp_seq_k fun K0 hK=>?_
   have HK0:=Lib.hid hK
   clear hK
   refine pt_one (w:=w) (B:=w4.heap.size) hw45 hb45 HO5.out HW5.out (by omega) ?_
   intro s32 s33 s34 s35 s36 v6 w6 hown6 hb6 hk6 hs6
   try dsimp only [Exit.inBlock,Exit.then]
   have hkb:∀ {g:Nat} {cs:Array Value},Blk w5 g 62 cs→Blk w6 g 62 cs:=fun hg=>(hk6 _ hg.lt (own_blk_ne HO5.out hg (by decide))).trans hg
   have hxa:∀ ad,0 < x.l.length→x.A=some ad→v5.ownBlock ≠ some ad.block:=fun ad h0 hA e=>by
    have h1:=HS45.out ad h0 hA
    have h2:=(own_at HO5.out e).1
    omega
   have HX6:=Lib.hid (And.intro (HX5.out.1.keep hs6 (fun ad h0 hA=>hk6 _ (by have:=HS45.out ad h0 hA;omega) (hxa ad h0 hA))) (And.intro (hkb HX5.out.2.1) HX5.out.2.2))
   have HQ6:=Lib.hid (And.intro (hkb HQ5.out.1) (hkb HQ5.out.2))
   have HO6:=Lib.hid hown6
   have HW6:=Lib.hid hb6
   clear hown6 hb6 hk6 hkb hxa HX5 HQ5 HW5 HO5
   refine HK0.out _ _ ?_
   clear HK0
   try simp only [Act.put]
   refine wp_seq_k fun K0 hK=>?_
   have HK0:=Lib.hid hK
   clear hK
   refine pt_rest (w:=w) (B:=w4.heap.size) hw45 (by omega) HX6.out.1 HX6.out.2.1 HW6.out HX6.out.2.2 hle HO6.out (by omega) (by omega) ?_
   intro s38 s39 s40 s41 s42 s43 s44 A5 k5 w7 hown7 qx7 hb7 hk7
   try dsimp only [Exit.inBlock,Exit.then]
   have hkb:∀ {g:Nat} {cs:Array Value},g ≠ gx→Blk w6 g 62 cs→Blk w7 g 62 cs:=fun hg h=>(hk7 _ h.lt hg (own_blk_ne HO6.out h (by decide))).trans h
   have HQ7:=Lib.hid (And.intro (hkb (Ne.symm hne.2) HQ6.out.1) (hkb (Ne.symm hne.1) HQ6.out.2))
   have hll:n + 1 + (x.l.length - n)=(putL key value b.l).length:=by
    rw [← HPC.out];simp;omega
   have hpp:x.l.take n ++ [(key,value)] ++ x.l.drop n=putL key value b.l:=by rw [← HPC.out];simp
   rw [hll,HX2.out.2.2.2.1,HX2.out.2.2.2.2] at qx7
   rw [hll,hpp] at hown7
   have hat7:=row_at' (b:=b) hown7 rfl
   have hyb:∀ ad,A5=some ad→w4.heap.size ≤ ad.block:=fun ad hA=>by
    rcases hown7.2 with ⟨h,_⟩ | ⟨g,cap,cur,h,hb,_⟩
    · injection h with h1
      rw [hA] at h1
      cases h1
    · injection h with h1
      rw [hA] at h1
      injection h1 with h1
      subst h1
      exact hb
   have HX7:=Lib.hid (And.intro hat7 (And.intro qx7 hb7))
   have hpl:(putL key value b.l).length ≤ 1000:=by rw [← hll];omega
   clear hown7 qx7 hb7 hk7 hkb hat7 hll hpp HX6 HQ6 HW6 HO6
   refine HK0.out _ _ ?_
   clear HK0
   try simp only [Act.put]
   have hlp:=lok_put (key:=key) (value:=value) HL.out (by have:=HM.out.2;omega) (by have:=HM.out.2;omega) hpl
   generalize hyy:(⟨A5,k5,putL key value b.l,b.qk,b.qb⟩:RBk)=y at HX7
   have hyA:∀ ad,y.A=some ad→w4.heap.size ≤ ad.block:=by rw [← hyy];exact hyb
   have HYA:=Lib.hid hyA
   clear hyA hyb
   have hyl:y.l=putL key value b.l:=by rw [← hyy]
   have HY:=Lib.hid (And.intro HX7.out.1 (show LOk y.l by rw [hyl];exact hlp))
   have qy:Blk w7 gx 62 #[.slice y.A y.l.length y.c,.int .u64 y.qk,.int .u64 y.qb]:=by rw [← hyy];exact HX7.out.2.1
   have HQY:=Lib.hid qy
   have HYY:=Lib.hid hyy
   clear hyy hlp qy hpl
   refine wp_seq_k fun K0 hK=>?_
   have HK0:=Lib.hid hK
   clear hK
   refine wp_seq_k fun K1 hK=>?_
   have HK1:=Lib.hid hK
   clear hK
   refine pt_quota (b:=b) (x:=y) HQY.out HQ7.out.1 HY.out.1 HY.out.2 ?_
   intro s45 s46 s47 s48 s49 s50 s51 s52 s53 s54 s55 s56 s57 w8 hb8
   try dsimp only [Exit.inBlock,Exit.then]
   refine HK1.out _ _ ?_
   clear HK1
   try simp only [Act.put]
   have q8:=HQ7.out.1.below hb8 HQ7.out.1.lt
   have q9:=HQ7.out.2.below hb8 HQ7.out.2.lt
   have qy:=HQY.out.below hb8 HQY.out.lt
   have HY8:=Lib.hid (HY.out.1.below hb8)
   have HW8:=Lib.hid (below_trans HX7.out.2.2 hb8)
   have hs8:w.heap.size ≤ w8.heap.size:=HW8.out.size
   have d0:=q9.cell 0
   have d1:=q9.cell 1
   have d2:=q9.cell 2
   have f0:=q9.frozen 0
   have f1:=q9.frozen 1
   have f2:=q9.frozen 2
   simp at d0 d1 d2
   have hge:w.heap.size ≤ gb + 1:=by rw [HGB.out];omega
   cases hq:(decide (b.qk < (y.l.length:Int)) || decide (b.qb < (sizeL y.l:Int))) with
   | true =>
     have hr:putR b key value=(10,b.l):=by
        unfold putR
        rw [if_neg HM.out.1,← hyl,if_pos (by simpa using hq)]
     have HR:=Lib.hid hr
     have c0:=q8.cell 0
     have c1:=q8.cell 1
     have c2:=q8.cell 2
     rw [show (#[.slice b.A b.l.length b.c,.int .u64 b.qk,.int .u64 b.qb]:Array Value)[0]?=some (.slice b.A b.l.length b.c) from rfl] at c0
     rw [show (#[.slice b.A b.l.length b.c,.int .u64 b.qk,.int .u64 b.qb]:Array Value)[1]?=some (.int .u64 b.qk) from rfl] at c1
     rw [show (#[.slice b.A b.l.length b.c,.int .u64 b.qk,.int .u64 b.qb]:Array Value)[2]?=some (.int .u64 b.qb) from rfl] at c2
     have HS:=Lib.hid (set3 (v0:=.slice b.A b.l.length b.c) (v1:=.int .u64 b.qk) (v2:=.int .u64 b.qb) q9)
     have HAT:=Lib.hid (HX.out.2.2.2.set3 (g:=gb + 1) (v0:=.slice b.A b.l.length b.c) (v1:=.int .u64 b.qk) (v2:=.int .u64 b.qb) HW8.out hge)
     clear hr hq q8 q9 qy hb8
     go_wp2_with fail
     refine bodyPost_ret (v:=.tuple #[RBk.v b,.int .i64 10]) ?_ rfl ?_
     · exact results_cell_tmp Tryz.results87 rfl rfl HS.out.1 Tryz.underlying62 rfl infoBk
     · exact ⟨b.A,b.c,by rw [HR.out],by rw [HR.out];exact HAT.out,HS.out.2.2 _ _ HW8.out hge⟩
   | false =>
     have hr:putR b key value=(0,y.l):=by
        unfold putR
        rw [if_neg HM.out.1,← hyl,if_neg (by simpa using hq)]
     have HR:=Lib.hid hr
     have c0:=qy.cell 0
     have c1:=qy.cell 1
     have c2:=qy.cell 2
     rw [show (#[.slice y.A y.l.length y.c,.int .u64 y.qk,.int .u64 y.qb]:Array Value)[0]?=some (.slice y.A y.l.length y.c) from rfl] at c0
     rw [show (#[.slice y.A y.l.length y.c,.int .u64 y.qk,.int .u64 y.qb]:Array Value)[1]?=some (.int .u64 y.qk) from rfl] at c1
     rw [show (#[.slice y.A y.l.length y.c,.int .u64 y.qk,.int .u64 y.qb]:Array Value)[2]?=some (.int .u64 y.qb) from rfl] at c2
     have HS:=Lib.hid (set3 (v0:=.slice y.A y.l.length y.c) (v1:=.int .u64 y.qk) (v2:=.int .u64 y.qb) q9)
     have HAT:=Lib.hid (HY8.out.keep (W':=((w8.setCell ⟨gb + 1,0,none⟩ (.slice y.A y.l.length y.c)).setCell ⟨gb + 1,1,none⟩ (.int .u64 y.qk)).setCell ⟨gb + 1,2,none⟩ (.int .u64 y.qb)) (by simp) (fun ad h0 hA=>HS.out.2.1 _ (by have:=HYA.out ad hA;omega)))
     have hyk:y.qk=b.qk:=by rw [← HYY.out]
     have hyq:y.qb=b.qb:=by rw [← HYY.out]
     have HYK:=Lib.hid (And.intro hyk hyq)
     clear hr hq q8 q9 qy hb8 hyk hyq hyl
     go_wp2_with fail
     refine HK0.out _ _ ?_
     clear HK0
     try simp only [Act.put]
     go_wp2_with fail
     refine bodyPost_ret (v:=.tuple #[RBk.v y,.int .i64 0]) ?_ rfl ?_
     · exact results_cell_tmp Tryz.results87 rfl rfl HS.out.1 Tryz.underlying62 rfl infoBk
     · refine ⟨y.A,y.c,?_,?_,HS.out.2.2 _ _ HW8.out hge⟩
       · rw [HR.out,← HYK.out.1,← HYK.out.2]
       · rw [HR.out,← HYK.out.1,← HYK.out.2]
         exact HAT.out
theorem RBk.at_.ne_box {b:RBk} {W:World} {g:Nat} {t:TypeId} {cs:Array Value} (h:b.at_ W) (q:Blk W g t cs) (hs:∀ (j:Nat) s,cs[j]? ≠ some (.string s)):∀ ad,0 < b.l.length→b.A=some ad→ad.block ≠ g:=by
 intro ad h0 hA he
 obtain ⟨ad',h1,h2,h3⟩:=h.rd.2 h0
 rw [hA] at h1
 injection h1 with h1
 subst h1
 have e0:∀ (l:List Kv) (h:0 < l.length),(l.flatMap pairR)[0]?=some (.string (l[0]'h).1):=fun l h=>by
  cases l with
  | nil=>simp at h
  | cons x r=>rfl
 have h4:=h3 0 (.string (b.l[0]'h0).1) (e0 b.l h0)
 obtain ⟨ag,ao,asp⟩:=ad
 simp only at he
 subst he
 rw [show (⟨ag,ao,asp⟩:Addr).add 0=⟨ag,ao,asp⟩ by simp [Addr.add]] at h4
 obtain rfl:=cell_spot h4
 rw [q.cell] at h4
 exact hs _ _ h4
theorem zero_no (j:Nat) (s:ByteArray):(#[.slice none 0 0,.int .u64 0,.int .u64 0]:Array Value)[j]? ≠ some (.string s):=by
 match j with
 | 0=>simp
 | 1=>simp
 | 2=>simp
 | j + 3=>simp
def delR (b:RBk) (key:ByteArray):Int × List Kv:=if (thereN b.l key []).2=0 then (0,dropK key b.l) else ((thereN b.l key []).2,b.l)
def swapR (b:RBk) (key old value:ByteArray):Int × List Kv :=
 if 32 < old.size ∨ 32 < value.size then (2,b.l) else if (thereN b.l key []).2=0 then (if (thereN b.l key []).1=old then putR b key value else (9,b.l)) else ((thereN b.l key []).2,b.l)
set_option maxHeartbeats 3200000 in
set_option maxRecDepth 100000 in
theorem del_any (b:RBk) (key:ByteArray) (w:World) (hb:b.at_ w) (hl:LOk b.l) (hk:key.size ≤ 9223372036854775807) :
 Calls Tryz.prog 88 #[b.v,.string key] w (RBkErr (delR b key).1 (delR b key).2 b w):=by
 have hb0:=below_alloc (below_box w (.cells b.cs 62)) (.cells #[.slice none 0 0,.int .u64 0,.int .u64 0] 62)
 have q1:Blk ((w.alloc (.cells b.cs 62)).alloc (.cells #[.slice none 0 0,.int .u64 0,.int .u64 0] 62)) w.heap.size 62 b.cs:=(Blk.new w _ _).alloc _
 have q2:Blk ((w.alloc (.cells b.cs 62)).alloc (.cells #[.slice none 0 0,.int .u64 0,.int .u64 0] 62)) (w.heap.size + 1) 62 #[.slice none 0 0,.int .u64 0,.int .u64 0]:=blk_at (by simp)
 have HX:=Lib.hid (And.intro hb0 (And.intro q1 (And.intro q2 hb)))
 have HL:=Lib.hid hl
 clear hb hb0 q1 q2 hl
 unfold RBk.cs at HX
 go_enter Tryz.func88,Tryz.ntmps88
 refine wp_seq_k fun K0 hK=>?_
 have HK0:=Lib.hid hK
 clear hK
 go_wp2_with fail
 refine HK0.out _ _ ?_
 clear HK0
 try simp only [Act.put]
 obtain ⟨gb,hgb⟩:∃ n,w.heap.size=n:=⟨_,rfl⟩
 have HGB:=Lib.hid hgb
 generalize hwa:(w.alloc (.cells #[.slice b.A b.l.length b.c,.int .u64 b.qk,.int .u64 b.qb] 62)).alloc (.cells #[.slice none 0 0,.int .u64 0,.int .u64 0] 62)=w1 at HX ⊢
 rw [hgb]
 have q1:=HX.out.2.1
 have q2:=HX.out.2.2.1
 rw [hgb] at q1 q2
 have HQ1:=Lib.hid (And.intro q1 q2)
 have hge:w.heap.size ≤ gb + 1:=by omega
 clear hwa hgb q1 q2
 have c0:=HQ1.out.1.cell 0
 have c1:=HQ1.out.1.cell 1
 have c2:=HQ1.out.1.cell 2
 rw [show (#[.slice b.A b.l.length b.c,.int .u64 b.qk,.int .u64 b.qb]:Array Value)[0]?=some (.slice b.A b.l.length b.c) from rfl] at c0
 rw [show (#[.slice b.A b.l.length b.c,.int .u64 b.qk,.int .u64 b.qb]:Array Value)[1]?=some (.int .u64 b.qk) from rfl] at c1
 rw [show (#[.slice b.A b.l.length b.c,.int .u64 b.qk,.int .u64 b.qb]:Array Value)[2]?=some (.int .u64 b.qb) from rfl] at c2
 have d0:=HQ1.out.2.cell 0
 have d1:=HQ1.out.2.cell 1
 have d2:=HQ1.out.2.cell 2
 have f0:=HQ1.out.2.frozen 0
 have f1:=HQ1.out.2.frozen 1
 have f2:=HQ1.out.2.frozen 2
 simp at d0 d1 d2
 refine wp_seq_k fun K0 hK=>?_
 have HK0:=Lib.hid hK
 clear hK
 go_wp2_with fail
 refine (get_any b key _ (HX.out.2.2.2.below HX.out.1) HL.out hk).mono ?_
 rintro e w2 ⟨rfl,hb2⟩
 have HQ2:=Lib.hid (And.intro (HQ1.out.1.below hb2 HQ1.out.1.lt) (HQ1.out.2.below hb2 HQ1.out.2.lt))
 have HW2:=Lib.hid (below_trans HX.out.1 hb2)
 obtain ⟨tv,te,htt⟩:∃ tv te,thereN b.l key []=(tv,te):=⟨_,_,rfl⟩
 have HTT:=Lib.hid htt
 rw [htt]
 dsimp only
 clear hb2 HQ1 c0 c1 c2 d0 d1 d2 f0 f1 f2 htt
 go_wp2_with fail
 refine HK0.out _ _ ?_
 clear HK0
 try simp only [Act.put]
 have c0:=HQ2.out.1.cell 0
 have c1:=HQ2.out.1.cell 1
 have c2:=HQ2.out.1.cell 2
 rw [show (#[.slice b.A b.l.length b.c,.int .u64 b.qk,.int .u64 b.qb]:Array Value)[0]?=some (.slice b.A b.l.length b.c) from rfl] at c0
 rw [show (#[.slice b.A b.l.length b.c,.int .u64 b.qk,.int .u64 b.qb]:Array Value)[1]?=some (.int .u64 b.qk) from rfl] at c1
 rw [show (#[.slice b.A b.l.length b.c,.int .u64 b.qk,.int .u64 b.qb]:Array Value)[2]?=some (.int .u64 b.qb) from rfl] at c2
 have d0:=HQ2.out.2.cell 0
 have d1:=HQ2.out.2.cell 1
 have d2:=HQ2.out.2.cell 2
 have f0:=HQ2.out.2.frozen 0
 have f1:=HQ2.out.2.frozen 1
 have f2:=HQ2.out.2.frozen 2
 simp at d0 d1 d2
 by_cases h0:te=0
 · subst h0
   have hr:delR b key=(0,dropK key b.l):=by unfold delR;rw [HTT.out,if_pos rfl]
   have HR:=Lib.hid hr
   clear hr
   refine wp_seq_k fun K0 hK=>?_
   have HK0:=Lib.hid hK
   clear hK
   go_wp2_with fail
   refine HK0.out _ _ ?_
   clear HK0
   try simp only [Act.put]
   go_wp2_with fail
   refine (without_any b key _ (HX.out.2.2.2.below HW2.out) HL.out hk).mono ?_
   rintro e w3 ⟨A3,c3,rfl,hx3,hb3⟩
   generalize hyy:(⟨A3,c3,dropK key b.l,b.qk,b.qb⟩:RBk)=y at hx3 ⊢
   have hxa:y.l=dropK key b.l:=by rw [← hyy]
   have hyk:y.qk=b.qk:=by rw [← hyy]
   have hyq:y.qb=b.qb:=by rw [← hyy]
   have q9:=HQ2.out.2.below hb3 HQ2.out.2.lt
   have HWW:=Lib.hid (below_trans HW2.out hb3)
   have d0:=q9.cell 0
   have d1:=q9.cell 1
   have d2:=q9.cell 2
   have f0:=q9.frozen 0
   have f1:=q9.frozen 1
   have f2:=q9.frozen 2
   simp at d0 d1 d2
   have HS:=Lib.hid (set3 (v0:=.slice y.A y.l.length y.c) (v1:=.int .u64 y.qk) (v2:=.int .u64 y.qb) q9)
   have HAT:=Lib.hid (hx3.keep (W':=((w3.setCell ⟨gb + 1,0,none⟩ (.slice y.A y.l.length y.c)).setCell ⟨gb + 1,1,none⟩ (.int .u64 y.qk)).setCell ⟨gb + 1,2,none⟩ (.int .u64 y.qb)) (by simp) (fun ad h0 hA=>HS.out.2.1 _ (hx3.ne_box q9 zero_no ad h0 hA)))
   have HYK:=Lib.hid (And.intro hyk (And.intro hyq hxa))
   clear hyk hyq hxa hyy hx3 hb3 q9 c0 c1 c2
   unfold RBk.v
   go_wp2_with fail
   refine bodyPost_ret (v:=.tuple #[RBk.v y,.int .i64 0]) ?_ rfl ?_
   · exact results_cell_tmp Tryz.results88 rfl rfl HS.out.1 Tryz.underlying62 rfl infoBk
   · refine ⟨y.A,y.c,?_,?_,HS.out.2.2 _ _ HWW.out hge⟩
     · rw [HR.out,← HYK.out.1,← HYK.out.2.1,← HYK.out.2.2]
     · rw [HR.out,← HYK.out.1,← HYK.out.2.1,← HYK.out.2.2]
       exact HAT.out
 · have h0b:(te != 0)=true:=by simp [h0]
   have hr:delR b key=(te,b.l):=by unfold delR;rw [HTT.out,if_neg h0]
   have HR:=Lib.hid hr
   have HS:=Lib.hid (set3 (v0:=.slice b.A b.l.length b.c) (v1:=.int .u64 b.qk) (v2:=.int .u64 b.qb) HQ2.out.2)
   have HAT:=Lib.hid (HX.out.2.2.2.set3 (g:=gb + 1) (v0:=.slice b.A b.l.length b.c) (v1:=.int .u64 b.qk) (v2:=.int .u64 b.qb) HW2.out hge)
   clear hr h0
   go_wp2_with fail
   refine bodyPost_ret (v:=.tuple #[RBk.v b,.int .i64 te]) ?_ rfl ?_
   · exact results_cell_tmp Tryz.results88 rfl rfl HS.out.1 Tryz.underlying62 rfl infoBk
   · exact ⟨b.A,b.c,by rw [HR.out],by rw [HR.out];exact HAT.out,HS.out.2.2 _ _ HW2.out hge⟩
set_option maxHeartbeats 6400000 in
set_option maxRecDepth 100000 in
theorem swap_any (b:RBk) (key old value:ByteArray) (w:World) (hb:b.at_ w) (hl:LOk b.l) (hlen:b.l.length ≤ 999) (hk:key.size ≤ 9223372036854775807) (ho:old.size ≤ 9223372036854775807) (hv:value.size ≤ 9223372036854775807) :
 Calls Tryz.prog 89 #[b.v,.string key,.string old,.string value] w (RBkErr (swapR b key old value).1 (swapR b key old value).2 b w):=by
 have hb0:=below_alloc (below_box w (.cells b.cs 62)) (.cells #[.slice none 0 0,.int .u64 0,.int .u64 0] 62)
 have q1:Blk ((w.alloc (.cells b.cs 62)).alloc (.cells #[.slice none 0 0,.int .u64 0,.int .u64 0] 62)) w.heap.size 62 b.cs:=(Blk.new w _ _).alloc _
 have q2:Blk ((w.alloc (.cells b.cs 62)).alloc (.cells #[.slice none 0 0,.int .u64 0,.int .u64 0] 62)) (w.heap.size + 1) 62 #[.slice none 0 0,.int .u64 0,.int .u64 0]:=blk_at (by simp)
 have HX:=Lib.hid (And.intro hb0 (And.intro q1 (And.intro q2 hb)))
 have HL:=Lib.hid hl
 clear hb hb0 q1 q2 hl
 unfold RBk.cs at HX
 go_enter Tryz.func89,Tryz.ntmps89
 refine wp_seq_k fun K0 hK=>?_
 have HK0:=Lib.hid hK
 clear hK
 go_wp2_with fail
 refine HK0.out _ _ ?_
 clear HK0
 try simp only [Act.put]
 obtain ⟨gb,hgb⟩:∃ n,w.heap.size=n:=⟨_,rfl⟩
 have HGB:=Lib.hid hgb
 generalize hwa:(w.alloc (.cells #[.slice b.A b.l.length b.c,.int .u64 b.qk,.int .u64 b.qb] 62)).alloc (.cells #[.slice none 0 0,.int .u64 0,.int .u64 0] 62)=w1 at HX ⊢
 rw [hgb]
 have q1:=HX.out.2.1
 have q2:=HX.out.2.2.1
 rw [hgb] at q1 q2
 have HQ1:=Lib.hid (And.intro q1 q2)
 have hge:w.heap.size ≤ gb + 1:=by omega
 clear hwa hgb q1 q2
 have c0:=HQ1.out.1.cell 0
 have c1:=HQ1.out.1.cell 1
 have c2:=HQ1.out.1.cell 2
 rw [show (#[.slice b.A b.l.length b.c,.int .u64 b.qk,.int .u64 b.qb]:Array Value)[0]?=some (.slice b.A b.l.length b.c) from rfl] at c0
 rw [show (#[.slice b.A b.l.length b.c,.int .u64 b.qk,.int .u64 b.qb]:Array Value)[1]?=some (.int .u64 b.qk) from rfl] at c1
 rw [show (#[.slice b.A b.l.length b.c,.int .u64 b.qk,.int .u64 b.qb]:Array Value)[2]?=some (.int .u64 b.qb) from rfl] at c2
 have d0:=HQ1.out.2.cell 0
 have d1:=HQ1.out.2.cell 1
 have d2:=HQ1.out.2.cell 2
 have f0:=HQ1.out.2.frozen 0
 have f1:=HQ1.out.2.frozen 1
 have f2:=HQ1.out.2.frozen 2
 simp at d0 d1 d2
 by_cases hm:32 < old.size ∨ 32 < value.size
 · have hr:swapR b key old value=(2,b.l):=by unfold swapR;rw [if_pos hm]
   have HR:=Lib.hid hr
   have HS:=Lib.hid (set3 (v0:=.slice b.A b.l.length b.c) (v1:=.int .u64 b.qk) (v2:=.int .u64 b.qb) HQ1.out.2)
   have HAT:=Lib.hid (HX.out.2.2.2.set3 (g:=gb + 1) (v0:=.slice b.A b.l.length b.c) (v1:=.int .u64 b.qk) (v2:=.int .u64 b.qb) HX.out.1 hge)
   clear hr
   by_cases h32:32 < old.size
   · have i32:(32:Int) < (old.size:Int):=by omega
     clear hm h32
     go_wp2_with fail
     refine bodyPost_ret (v:=.tuple #[RBk.v b,.int .i64 2]) ?_ rfl ?_
     · exact results_cell_tmp Tryz.results89 rfl rfl HS.out.1 Tryz.underlying62 rfl infoBk
     · exact ⟨b.A,b.c,by rw [HR.out],by rw [HR.out];exact HAT.out,HS.out.2.2 _ _ HX.out.1 hge⟩
   · have i32:¬ (32:Int) < (old.size:Int):=by omega
     have j32:(32:Int) < (value.size:Int):=by omega
     clear hm h32
     go_wp2_with fail
     refine bodyPost_ret (v:=.tuple #[RBk.v b,.int .i64 2]) ?_ rfl ?_
     · exact results_cell_tmp Tryz.results89 rfl rfl HS.out.1 Tryz.underlying62 rfl infoBk
     · exact ⟨b.A,b.c,by rw [HR.out],by rw [HR.out];exact HAT.out,HS.out.2.2 _ _ HX.out.1 hge⟩
 · have i32:¬ (32:Int) < (old.size:Int):=by omega
   have j32:¬ (32:Int) < (value.size:Int):=by omega
   have HM:=Lib.hid hm
   clear hm
   refine wp_seq_k fun K0 hK=>?_
   have HK0:=Lib.hid hK
   clear hK
   go_wp2_with fail
   refine HK0.out _ _ ?_
   clear HK0
   try simp only [Act.put]
   clear i32 j32
   refine wp_seq_k fun K0 hK=>?_
   have HK0:=Lib.hid hK
   clear hK
   go_wp2_with fail
   refine (get_any b key _ (HX.out.2.2.2.below HX.out.1) HL.out hk).mono ?_
   rintro e w2 ⟨rfl,hb2⟩
   have HQ2:=Lib.hid (And.intro (HQ1.out.1.below hb2 HQ1.out.1.lt) (HQ1.out.2.below hb2 HQ1.out.2.lt))
   have HW2:=Lib.hid (below_trans HX.out.1 hb2)
   obtain ⟨tv,te,htt⟩:∃ tv te,thereN b.l key []=(tv,te):=⟨_,_,rfl⟩
   have HTT:=Lib.hid htt
   rw [htt]
   dsimp only
   clear hb2 HQ1 c0 c1 c2 d0 d1 d2 f0 f1 f2 htt
   go_wp2_with fail
   refine HK0.out _ _ ?_
   clear HK0
   try simp only [Act.put]
   have c0:=HQ2.out.1.cell 0
   have c1:=HQ2.out.1.cell 1
   have c2:=HQ2.out.1.cell 2
   rw [show (#[.slice b.A b.l.length b.c,.int .u64 b.qk,.int .u64 b.qb]:Array Value)[0]?=some (.slice b.A b.l.length b.c) from rfl] at c0
   rw [show (#[.slice b.A b.l.length b.c,.int .u64 b.qk,.int .u64 b.qb]:Array Value)[1]?=some (.int .u64 b.qk) from rfl] at c1
   rw [show (#[.slice b.A b.l.length b.c,.int .u64 b.qk,.int .u64 b.qb]:Array Value)[2]?=some (.int .u64 b.qb) from rfl] at c2
   have d0:=HQ2.out.2.cell 0
   have d1:=HQ2.out.2.cell 1
   have d2:=HQ2.out.2.cell 2
   have f0:=HQ2.out.2.frozen 0
   have f1:=HQ2.out.2.frozen 1
   have f2:=HQ2.out.2.frozen 2
   simp at d0 d1 d2
   by_cases h0:te=0
   · subst h0
     refine wp_seq_k fun K0 hK=>?_
     have HK0:=Lib.hid hK
     clear hK
     go_wp2_with fail
     refine HK0.out _ _ ?_
     clear HK0
     try simp only [Act.put]
     by_cases hvo:tv=old
     · have hbq:(tv.toList == old.toList)=true:=by rw [hvo];simp
       have hr:swapR b key old value=putR b key value:=by unfold swapR;rw [if_neg HM.out,HTT.out,if_pos rfl,if_pos hvo]
       have HR:=Lib.hid hr
       clear hr hvo
       refine wp_seq_k fun K0 hK=>?_
       have HK0:=Lib.hid hK
       clear hK
       go_wp2_with fail
       refine HK0.out _ _ ?_
       clear HK0
       try simp only [Act.put]
       go_wp2_with fail
       refine (put_any b key value _ (HX.out.2.2.2.below HW2.out) HL.out hlen hk hv).mono ?_
       rintro e w3 ⟨A3,c3,rfl,hx3,hb3⟩
       generalize hyy:(⟨A3,c3,(putR b key value).2,b.qk,b.qb⟩:RBk)=y at hx3 ⊢
       generalize hcode:(putR b key value).1=code
       have hxa:y.l=(putR b key value).2:=by rw [← hyy]
       have hyk:y.qk=b.qk:=by rw [← hyy]
       have hyq:y.qb=b.qb:=by rw [← hyy]
       have q9:=HQ2.out.2.below hb3 HQ2.out.2.lt
       have HWW:=Lib.hid (below_trans HW2.out hb3)
       have d0:=q9.cell 0
       have d1:=q9.cell 1
       have d2:=q9.cell 2
       have f0:=q9.frozen 0
       have f1:=q9.frozen 1
       have f2:=q9.frozen 2
       simp at d0 d1 d2
       have HS:=Lib.hid (set3 (v0:=.slice y.A y.l.length y.c) (v1:=.int .u64 y.qk) (v2:=.int .u64 y.qb) q9)
       have HAT:=Lib.hid (hx3.keep (W':=((w3.setCell ⟨gb + 1,0,none⟩ (.slice y.A y.l.length y.c)).setCell ⟨gb + 1,1,none⟩ (.int .u64 y.qk)).setCell ⟨gb + 1,2,none⟩ (.int .u64 y.qb)) (by simp) (fun ad h0 hA=>HS.out.2.1 _ (hx3.ne_box q9 zero_no ad h0 hA)))
       have HYK:=Lib.hid (And.intro hyk (And.intro hyq hxa))
       have HCD:=Lib.hid hcode
       clear hyk hyq hxa hyy hx3 hb3 q9 c0 c1 c2 hcode
       unfold RBk.v
       go_wp2_with fail
       refine bodyPost_ret (v:=.tuple #[RBk.v y,.int .i64 code]) ?_ rfl ?_
       · exact results_cell_tmp Tryz.results89 rfl rfl HS.out.1 Tryz.underlying62 rfl infoBk
       · refine ⟨y.A,y.c,?_,?_,HS.out.2.2 _ _ HWW.out hge⟩
         · rw [HR.out,← HYK.out.1,← HYK.out.2.1,← HYK.out.2.2,HCD.out]
         · rw [HR.out,← HYK.out.1,← HYK.out.2.1,← HYK.out.2.2]
           exact HAT.out
     · have hbq:(tv.toList == old.toList)=false:=by
        have:¬ tv.toList=old.toList:=fun e=>hvo (bytes_ext e)
        simp [this]
       have hr:swapR b key old value=(9,b.l):=by unfold swapR;rw [if_neg HM.out,HTT.out,if_pos rfl,if_neg hvo]
       have HR:=Lib.hid hr
       have HS:=Lib.hid (set3 (v0:=.slice b.A b.l.length b.c) (v1:=.int .u64 b.qk) (v2:=.int .u64 b.qb) HQ2.out.2)
       have HAT:=Lib.hid (HX.out.2.2.2.set3 (g:=gb + 1) (v0:=.slice b.A b.l.length b.c) (v1:=.int .u64 b.qk) (v2:=.int .u64 b.qb) HW2.out hge)
       clear hr hvo
       go_wp2_with fail
       refine bodyPost_ret (v:=.tuple #[RBk.v b,.int .i64 9]) ?_ rfl ?_
       · exact results_cell_tmp Tryz.results89 rfl rfl HS.out.1 Tryz.underlying62 rfl infoBk
       · exact ⟨b.A,b.c,by rw [HR.out],by rw [HR.out];exact HAT.out,HS.out.2.2 _ _ HW2.out hge⟩
   · have h0b:(te != 0)=true:=by simp [h0]
     have hr:swapR b key old value=(te,b.l):=by unfold swapR;rw [if_neg HM.out,HTT.out,if_neg h0]
     have HR:=Lib.hid hr
     have HS:=Lib.hid (set3 (v0:=.slice b.A b.l.length b.c) (v1:=.int .u64 b.qk) (v2:=.int .u64 b.qb) HQ2.out.2)
     have HAT:=Lib.hid (HX.out.2.2.2.set3 (g:=gb + 1) (v0:=.slice b.A b.l.length b.c) (v1:=.int .u64 b.qk) (v2:=.int .u64 b.qb) HW2.out hge)
     clear hr h0
     go_wp2_with fail
     refine bodyPost_ret (v:=.tuple #[RBk.v b,.int .i64 te]) ?_ rfl ?_
     · exact results_cell_tmp Tryz.results89 rfl rfl HS.out.1 Tryz.underlying62 rfl infoBk
     · exact ⟨b.A,b.c,by rw [HR.out],by rw [HR.out];exact HAT.out,HS.out.2.2 _ _ HW2.out hge⟩
set_option maxHeartbeats 3200000 in
set_option maxRecDepth 100000 in
theorem scanR_any (b:RBk) (key:ByteArray) (limit:Int) (w:World) (hb:b.at_ w) (hl:LOk b.l) (hk:key.size ≤ 9223372036854775807) :
 Calls Tryz.prog 90 #[b.v,.string key,.int .i64 limit] w (ScanEnd (scanN b.l key limit) w):=by
 have hlen:=hl.len
 have hlc:=hb.lc
 have hcm:=hb.cm
 have hle:posK key (keysL b.l) ≤ b.l.length:=by have:=pos_le (x:=key) (ks:=keysL b.l);simpa using this
 have hb0:=below_box w (.cells b.cs 62)
 have HX:=Lib.hid (And.intro (hb.below hb0) (And.intro (Blk.new w 62 b.cs) hb0))
 have HATT:=Lib.hid (fun W (h:b.at_ W)=>at_any b key W h hl hk)
 unfold RBk.cs at HX
 clear hb hl hb0
 go_enter Tryz.func90,Tryz.ntmps90
 refine wp_seq_k fun K0 hK=>?_
 have HK0:=Lib.hid hK
 clear hK
 go_wp2_with fail
 refine HK0.out _ _ ?_
 clear HK0
 try simp only [Act.put]
 obtain ⟨gb,hgb⟩:∃ n,w.heap.size=n:=⟨_,rfl⟩
 rw [hgb] at HX
 generalize hwa:w.alloc (.cells #[.slice b.A b.l.length b.c,.int .u64 b.qk,.int .u64 b.qb] 62)=w1 at HX ⊢
 have HGB:=Lib.hid hgb
 rw [hgb]
 clear hwa hgb
 have hbad:∀ A:Option Addr,A=none→ScanEnd ([],2) w (.returned (.tuple #[.slice none 0 0,.int .i64 2])) w1:=fun A _=>⟨none,0,rfl,⟨rfl,.inl ⟨rfl,rfl⟩⟩,by rw [HGB.out];exact HX.out.2.2⟩
 have HBAD:=Lib.hid hbad
 clear hbad
 by_cases h16:16 < key.size
 · have i16:(16:Int) < (key.size:Int):=by omega
   have hr:scanN b.l key limit=([],2):=by unfold scanN mayN;rw [if_pos (by rw [if_pos (.inl h16)])]
   have HR:=Lib.hid hr
   clear hr h16
   go_wp2_with fail
   go_ret2
   rw [HR.out]
   exact HBAD.out none rfl
 · have i16:¬ (16:Int) < (key.size:Int):=by omega
   have hm:¬ mayN key []=2:=by unfold mayN;rw [if_neg (by rintro (h | h);exact h16 h;cases h)];decide
   by_cases h0:limit < 0
   · have hr:scanN b.l key limit=([],2):=by unfold scanN;rw [if_neg hm,if_pos (.inl h0)]
     have HR:=Lib.hid hr
     clear hr hm h16
     go_wp2_with fail
     go_ret2
     rw [HR.out]
     exact HBAD.out none rfl
   · by_cases h4:4096 < limit
     · have hr:scanN b.l key limit=([],2):=by unfold scanN;rw [if_neg hm,if_pos (.inr h4)]
       have HR:=Lib.hid hr
       clear hr hm h16
       go_wp2_with fail
       go_ret2
       rw [HR.out]
       exact HBAD.out none rfl
     · obtain ⟨m,rfl⟩:∃ m:Nat,limit=m:=⟨limit.toNat,by omega⟩
       have hr:scanN b.l key m=((b.l.drop (posK key (keysL b.l))).take m,0):=by unfold scanN;rw [if_neg hm,if_neg (by omega),Int.toNat_natCast]
       have HR:=Lib.hid hr
       clear hr hm h16 HBAD
       have c0:=HX.out.2.1.cell 0
       have c1:=HX.out.2.1.cell 1
       have c2:=HX.out.2.1.cell 2
       rw [show (#[.slice b.A b.l.length b.c,.int .u64 b.qk,.int .u64 b.qb]:Array Value)[0]?=some (.slice b.A b.l.length b.c) from rfl] at c0
       rw [show (#[.slice b.A b.l.length b.c,.int .u64 b.qk,.int .u64 b.qb]:Array Value)[1]?=some (.int .u64 b.qk) from rfl] at c1
       rw [show (#[.slice b.A b.l.length b.c,.int .u64 b.qk,.int .u64 b.qb]:Array Value)[2]?=some (.int .u64 b.qb) from rfl] at c2
       refine wp_seq_k fun K0 hK=>?_
       have HK0:=Lib.hid hK
       clear hK
       go_wp2_with fail
       refine HK0.out _ _ ?_
       clear HK0 i16 c0 c1 c2
       try simp only [Act.put]
       refine wp_seq_k fun K0 hK=>?_
       have HK0:=Lib.hid hK
       clear hK
       have hdr:Below w1.heap.size w1 w1.drew:=(Below.refl _ _).drew
       have HAT:=Lib.hid (HATT.out _ (HX.out.1.below hdr))
       have HC:Hid (∀ V:World,Below w1.drew.heap.size w1.drew V→V.cell? ⟨gb,0,none⟩=some (.slice b.A b.l.length b.c)∧V.cell? ⟨gb,1,none⟩=some (.int .u64 b.qk)∧V.cell? ⟨gb,2,none⟩=some (.int .u64 b.qb)):=Lib.hid (fun V hV=>by
        have hb3:Below w1.heap.size w1 V:=⟨hV.os,hV.tape,hV.output,hV.size,hV.block⟩
        have hk3:=HX.out.2.1.below hb3 HX.out.2.1.lt
        exact ⟨hk3.cell 0,hk3.cell 1,hk3.cell 2⟩)
       have H0:=HC.out _ (Below.refl _ _)
       obtain ⟨n,hpn⟩:∃ n,posK key (keysL b.l)=n:=⟨_,rfl⟩
       rw [hpn] at hle HR
       have HPN:=Lib.hid hpn
       clear hpn HATT hdr
       have i0:(0:Int) ≤ (n:Int):=by omega
       have i1:(n:Int) ≤ (b.l.length:Int):=by omega
       have i2:(n:Int) ≤ (b.c:Int):=by omega
       unfold RBk.v at HAT
       refine wp_region_noPanic ?_
       refine wp_region_held_drew (S:=(fun V:World=>V.cell? ⟨gb,0,none⟩=some (.slice b.A b.l.length b.c)∧V.cell? ⟨gb,1,none⟩=some (.int .u64 b.qk)∧V.cell? ⟨gb,2,none⟩=some (.int .u64 b.qb))) (by kernel_rfl) ?_ (fun hHeld0=>?_)
       · exact H0
       refine tk (i:=0) (v:=?_) rfl (Or.inl ⟨by rfl,?_⟩) hHeld0 ?_
       rotate_left
       · (intro w hSw;(try dsimp only at hSw);go_simp <;> with_reducible rfl)
       try simp only [Act.put,zD,zE,zF]
       refine tk (i:=1) (v:=?_) rfl (Or.inl ⟨by rfl,?_⟩) hHeld0 ?_
       rotate_left
       · (intro w hSw;(try dsimp only at hSw);go_simp <;> with_reducible rfl)
       try simp only [Act.put,zD,zE,zF]
       refine tk (i:=2) (v:=?_) rfl (Or.inl ⟨by rfl,?_⟩) hHeld0 ?_
       rotate_left
       · (intro w hSw;(try dsimp only at hSw);go_simp <;> with_reducible rfl)
       try simp only [Act.put,zD,zE,zF]
       refine tk (i:=3) (v:=?_) rfl (Or.inl ⟨by rfl,?_⟩) hHeld0 ?_
       rotate_left
       · (intro w hSw;(try dsimp only at hSw);go_simp <;> with_reducible rfl)
       try simp only [Act.put,zA,zB,zC,zD,zE,zF]
       refine wpAnyH_ready (rs:=[4]) (by kernel_rfl) (by simp) ?_
       refine AllReadyH.cons rfl (fun K hK=>?_) AllReadyH.nil
       go_simp
       with_reducible refine HAT.out.mono ?_
       rintro e w9 ⟨rfl,hb9⟩
       refine hK.out _ _ ?_ (fun hHeld1=>?_)
       · exact HC.out _ hb9
       clear hK K hHeld0
       try simp only [Act.put,zA,zB,zC,zD,zE,zF]
       rw [HPN.out]
       refine tk (i:=5) (v:=?_) rfl (Or.inl ⟨by rfl,?_⟩) hHeld1 ?_
       rotate_left
       · (intro w hSw;(try dsimp only at hSw);go_simp <;> with_reducible rfl)
       try simp only [Act.put,zA,zB,zC,zD,zE,zF]
       refine tk (i:=6) (v:=?_) rfl (Or.inl ⟨by rfl,?_⟩) hHeld1 ?_
       rotate_left
       · (intro w hSw;(try dsimp only at hSw);go_simp <;> with_reducible rfl)
       try simp only [Act.put,zA,zB,zC,zD,zE,zF]
       refine wpAnyH_done (by kernel_rfl) ?_ _
       refine NoPanic.normal (HK0.out _ _ ?_)
       clear HK0
       have hb19:Below w1.heap.size w1 w9:=⟨hb9.os,hb9.tape,hb9.output,hb9.size,hb9.block⟩
       have HB9:=Lib.hid (show Below w.heap.size w w9 from below_trans (by rw [HGB.out];exact HX.out.2.2) hb19)
       have hx9:=HX.out.1.below hb19
       have hrc:=reads_cut hx9.rd hle (Nat.le_refl _) hlc
       rw [List.take_of_length_le (by simp)] at hrc
       have hdl:(b.l.drop n).length=b.l.length - n:=by simp
       generalize (if b.c=n then b.A else Option.map (fun x=>x.add (n * 2)) b.A)=A9 at hrc ⊢
       generalize hL:b.l.drop n=L at hrc hdl HR
       have hdc:b.l.length - n ≤ b.c - n:=by omega
       have hd1000:b.l.length - n ≤ 1000:=by omega
       rw [← hdl] at hrc hdc hd1000 ⊢
       generalize b.c - n=c9 at hdc ⊢
       have HRC:=Lib.hid hrc
       obtain ⟨i3,hi3,iz0,iz1,iz2⟩:=info_parts infoPair
       clear hrc hdl hL hx9 hb9 HX HAT HC H0 hHeld1 hb19 hle hlc hcm i0 i1 i2 HPN HGB hlen h4 h0
       by_cases hmd:m ≤ L.length
       · have k1:(m:Int) ≤ (L.length:Int):=by omega
         have k2:(m:Int) ≤ (c9:Int):=by omega
         have k0:(0:Int) ≤ (m:Int):=by omega
         have hmin:min (m:Int) (L.length:Int)=(m:Int):=by omega
         have HTK:=Lib.hid (show (L.take m).length=m by simp;omega)
         go_wp2_with (first
          | (at_builtin
             refine wpList_append_any _ rfl (.tmp 26) (.tmp 32) _ rfl w9.heap.size 57 i3 _ 2 32 Tryz.underlying42 hi3 iz0 iz1 iz2 rfl (by omega) (.slice (some ⟨w9.heap.size,0,none⟩) 0 0) 0 [] rfl
              (own_empty w9 (Nat.le_refl _)) _ A9 m c9 ((L.take m).flatMap pairR) rfl (reads_take (HRC.out.keep (fun p hp=>(below_box w9 (.cells #[] 57)).cell hp)) hmd) (pairs_one _) (by unfold maxLen;omega) (by omega) (by simp) ?_
             intro v5 w5 hown5 hg5 hat5
             have hb5:Below w9.heap.size w9 w5:=below_app (below_box w9 (.cells #[] 57)) (own_empty w9 (Nat.le_refl _)) hg5 (Nat.le_refl _) (by simp)))
         rw [Nat.zero_add,List.nil_append] at hown5
         obtain ⟨A5,k5,rfl,-⟩:=own_form hown5
         clear hg5 hat5
         go_ret2
         refine ⟨A5,k5,?_,?_,below_trans HB9.out hb5⟩
         · rw [HR.out]
           show _=Ending.returned (.tuple #[.slice A5 (L.take m).length k5,.int .i64 0])
           rw [HTK.out]
           rfl
         · rw [HR.out]
           show World.ownsRow _ _ _ _ (.slice A5 (L.take m).length k5) (L.take m).length _
           rw [HTK.out]
           exact own_base hown5 HB9.out.size
       · have k1:(L.length:Int) ≤ (L.length:Int):=by omega
         have k2:(L.length:Int) ≤ (c9:Int):=by omega
         have k0:(0:Int) ≤ (L.length:Int):=by omega
         have hmin:min (m:Int) (L.length:Int)=(L.length:Int):=by omega
         have HTK:=Lib.hid (show (L.take m).length=L.length by simp;omega)
         go_wp2_with (first
          | (at_builtin
             refine wpList_append_any _ rfl (.tmp 26) (.tmp 32) _ rfl w9.heap.size 57 i3 _ 2 32 Tryz.underlying42 hi3 iz0 iz1 iz2 rfl (by omega) (.slice (some ⟨w9.heap.size,0,none⟩) 0 0) 0 [] rfl
              (own_empty w9 (Nat.le_refl _)) _ A9 L.length c9 ((L.take L.length).flatMap pairR) rfl (reads_take (HRC.out.keep (fun p hp=>(below_box w9 (.cells #[] 57)).cell hp)) (Nat.le_refl _)) (pairs_one _) (by unfold maxLen;omega) (by omega) (by simp) ?_
             intro v5 w5 hown5 hg5 hat5
             have hb5:Below w9.heap.size w9 w5:=below_app (below_box w9 (.cells #[] 57)) (own_empty w9 (Nat.le_refl _)) hg5 (Nat.le_refl _) (by simp)))
         rw [Nat.zero_add,List.nil_append,List.take_length] at hown5
         have HTL:=Lib.hid (show L.take m=L from List.take_of_length_le (by omega))
         obtain ⟨A5,k5,rfl,-⟩:=own_form hown5
         clear hg5 hat5
         go_ret2
         refine ⟨A5,k5,?_,?_,below_trans HB9.out hb5⟩
         · rw [HR.out]
           show _=Ending.returned (.tuple #[.slice A5 (L.take m).length k5,.int .i64 0])
           rw [HTK.out]
           rfl
         · rw [HR.out]
           show World.ownsRow _ _ _ _ (.slice A5 (L.take m).length k5) (L.take m).length _
           rw [HTK.out,show (((List.take m L,(0:Int)).1):List Kv)=L from HTL.out]
           exact own_base hown5 HB9.out.size
end Go.Proofs.YtkgflepgkhnclaaGreatDoor
