/- Layer 27: OrderModels: the reference's model: Scan. Layer 27: OrderModels: the reference's model: operate's end. Layer 27: OrderModels: the reference's model: plain laws; operate's end with its answer. Layer 27: OrderModels: the reference's model: operate behind its checks. Layer 27: OrderModels: the reference's model: operate. -/
import Derived.Test.YtkgflepgkhnclaaGreatDoorMl
namespace Go.Proofs.YtkgflepgkhnclaaGreatDoor
set_option linter.unusedVariables false
set_option linter.unusedSimpArgs false
open Go.RowKit Go.Shelf
attribute [local go_sem] run_store_complex
variable {Xa Xb Xc Xd Xe Xf Xg Xh Xi Xj Xk Xl Xm Xn Xo Xp Xq Xr Xs Xt Xu Xv Xw Xx Xy Xz Ya Yb Yc Yd Ye Yf Yg Yh Yi Yj Yk Yl Ym Yn Yo Yp Yq Yr Ys Yt Yu Yv Yw Yx Yy Yz Za Zb Zc Zd Ze Zf Zg Zh Zi Zj Zk Zl Zm Zn Zo Zp Zq Zr Zs Zt Zu Zv Zw Zx Zy Zz Ja Jb Jc Jd Je Jf Jg Jh Ji Jj Jk Jl Jm Jn Jo Jp Jq Jr Js Jt Ju Jv Jw Jy Jz Va Vb Vc Vd Ve Vf Vg Vh Vi Vj Vk Vl Vm Vn Vo Vp Vq Vr Vs Vt Vu Vv Vw Vx Vy Vz Oa Ob Oc Od Oe Og Oh Oi Oj Ok Ol Om On Oo Oq Ot Ou Ov Ox Oy Oz Ha Hb Hc He Hf Hg Hh Hi Hj Hk Hl Hm Hn Ho Hp Hq Hr Hs Ht Hu Hv Hw Hx Hy Hz Ia Ib Ic Id Ie If Ig Ih Ii Ij Ik Il Im In Io Ip Iq Ir It Iu Iv Iw Ix Iy Iz Ua Ub Uc Ud Ue Uf Ug Uh Ui Uj Uk Ul:Value}
set_option maxHeartbeats 6400000 in
set_option maxRecDepth 100000 in
theorem op_scan {W:World} {R:RMd} {b:RBk} {r:Req} {t gm gr g8:Nat} {Q:Exit→Act→World→Prop} (hs:∀ t,StOk (R t).st) (ht:t < 17) (hbk:(R t).bk=b) (qm:Blk W gm 66 (rcells R).toArray) (qr:Blk W gr 39 r.row.toArray) (q8:Blk W g8 52 zeroA) (hb:b.at_ W) (hl:LOk b.l) (hr:r.ok)
 (hQ:∀ (s97 s98 s99 s100 s101 s102 s103 s104 s105 s106 s107 s108 s109 s110:Value) (W':World) (A:Option Addr) (c:Nat) (l:List Kv) (er:Int),(l,er)=scanN b.l r.key r.lim→RBk.at_ ⟨A,c,l,0,0⟩ W'→Blk W' gm 66 (rcells R).toArray→Blk W' g8 52 ((zeroA.setIfInBounds 2 (.slice A l.length c)).setIfInBounds 0 (.int .i64 er))→(∀ B w,B ≤ g8→Below B w W→Below B w W')→Q .normal ⟨#[Xa,Xb,.pointer (some ⟨gm,0,none⟩),.pointer (some ⟨gr,0,none⟩),Xe,Xf,Xg,.int .i64 (t:Nat),.pointer (some ⟨g8,0,none⟩),Xj,Xk,Xl,Xm,Xn,Xo,Xp,Xq,Xr,Xs,Xt,Xu,Xv,Xw,Xx,Xy,Xz,Ya,Yb,Yc,Yd,Ye,Yf,Yg,Yh,Yi,Yj,Yk,Yl,Ym,Yn,Yo,Yp,Yq,Yr,Ys,Yt,Yu,Yv,Yw,Yx,Yy,Yz,Za,Zb,Zc,Zd,Ze,Zf,Zg,Zh,Zi,Zj,Zk,Zl,Zm,Zn,Zo,Zp,Zq,Zr,Zs,Zt,Zu,Zv,Zw,Zx,Zy,Zz,Ja,Jb,Jc,Jd,Je,Jf,Jg,Jh,Ji,Jj,Jk,Jl,Jm,Jn,Jo,Jp,Jq,Jr,Js,s97,s98,s99,s100,s101,s102,s103,s104,s105,s106,s107,s108,s109,s110,Vi,Vj],[]⟩ W') :
 Code.wp Tryz.prog (part Tryz.f39 [1,1,1,1,1,0,1,2,1,4,1,4,1,4,1,4,1,3]) Q ⟨#[Xa,Xb,.pointer (some ⟨gm,0,none⟩),.pointer (some ⟨gr,0,none⟩),Xe,Xf,Xg,.int .i64 (t:Nat),.pointer (some ⟨g8,0,none⟩),Xj,Xk,Xl,Xm,Xn,Xo,Xp,Xq,Xr,Xs,Xt,Xu,Xv,Xw,Xx,Xy,Xz,Ya,Yb,Yc,Yd,Ye,Yf,Yg,Yh,Yi,Yj,Yk,Yl,Ym,Yn,Yo,Yp,Yq,Yr,Ys,Yt,Yu,Yv,Yw,Yx,Yy,Yz,Za,Zb,Zc,Zd,Ze,Zf,Zg,Zh,Zi,Zj,Zk,Zl,Zm,Zn,Zo,Zp,Zq,Zr,Zs,Zt,Zu,Zv,Zw,Zx,Zy,Zz,Ja,Jb,Jc,Jd,Je,Jf,Jg,Jh,Ji,Jj,Jk,Jl,Jm,Jn,Jo,Jp,Jq,Jr,Js,Jt,Ju,Jv,Jw,Jy,Jz,Va,Vb,Vc,Vd,Ve,Vf,Vg,Vh,Vi,Vj],[]⟩ W:=by
 conv=>arg 2;whnf
 generalize hrs:scanN b.l r.key r.lim=rs0 at hQ
 have HQ:=Lib.hid hQ
 have HR0:=Lib.hid hrs
 have HX:=Lib.hid (And.intro qm (And.intro qr (And.intro q8 (And.intro hb (And.intro hl hr)))))
 have HC:Hid (∀ V:World,Blk V gm 66 (rcells R).toArray→Blk V gr 39 r.row.toArray→V.cell? ⟨gm,t * 16 + 2,none⟩=some (.slice b.A b.l.length b.c)∧V.cell? ⟨gm,t * 16 + 3,none⟩=some (.int .u64 b.qk)∧V.cell? ⟨gm,t * 16 + 4,none⟩=some (.int .u64 b.qb)∧V.cell? ⟨gr,4,none⟩=some (.string r.key)∧V.cell? ⟨gr,7,none⟩=some (.int .i64 r.lim)):=Lib.hid (fun V hm hq=>by
  subst hbk
  exact ⟨rblk (j:=2) hm hs ht rfl,rblk (j:=3) hm hs ht rfl,rblk (j:=4) hm hs ht rfl,hq.cell 4,hq.cell 7⟩)
 have hd:Below W.heap.size W W.drew:=(Below.refl _ _).drew
 have h0:=HC.out W.drew (qm.below hd qm.lt) (qr.below hd qr.lt)
 have HBD:=Lib.hid (hb.below hd)
 have i0:(0:Int) ≤ (t:Int):=by omega
 have i1:(t:Int) < 17:=by omega
 clear hQ hs qm qr q8 hb hd hrs
 refine wp_region_noPanic ?_
 refine wp_region_held_drew (S:=(fun V:World=>V.cell? ⟨gm,t * 16 + 2,none⟩=some (.slice b.A b.l.length b.c)∧V.cell? ⟨gm,t * 16 + 3,none⟩=some (.int .u64 b.qk)∧V.cell? ⟨gm,t * 16 + 4,none⟩=some (.int .u64 b.qb)∧V.cell? ⟨gr,4,none⟩=some (.string r.key)∧V.cell? ⟨gr,7,none⟩=some (.int .i64 r.lim))) (by kernel_rfl) ?_ (fun hHeld0=>?_)
 · exact h0
 refine tk (i:=0) (v:=?_) rfl (Or.inl ⟨by rfl,?_⟩) hHeld0 ?_
 rotate_left
 · (intro w hSw;(try dsimp only at hSw);go_simp <;> with_reducible rfl)
 try simp only [Act.put,zD,zE,zF]
 refine tk (i:=1) (v:=?_) rfl (Or.inl ⟨by rfl,?_⟩) hHeld0 ?_
 rotate_left
 · (intro w hSw;(try dsimp only at hSw);go_simp <;> with_reducible rfl)
 try simp only [Act.put,zD,zE,zF]
 refine tk (i:=2) (v:=?_) rfl (Or.inl ⟨by rfl,?_⟩) hHeld0 ?_
 rotate_left
 · (intro w hSw;(try dsimp only at hSw);go_simp <;> with_reducible rfl)
 try simp only [Act.put,zD,zE,zF]
 refine tk (i:=3) (v:=?_) rfl (Or.inl ⟨by rfl,?_⟩) hHeld0 ?_
 rotate_left
 · (intro w hSw;(try dsimp only at hSw);go_simp <;> with_reducible rfl)
 try simp only [Act.put,zD,zE,zF]
 refine tk (i:=4) (v:=?_) rfl (Or.inl ⟨by rfl,?_⟩) hHeld0 ?_
 rotate_left
 · (intro w hSw;(try dsimp only at hSw);go_simp <;> with_reducible rfl)
 try simp only [Act.put,zD,zE,zF]
 refine tk (i:=5) (v:=?_) rfl (Or.inl ⟨by rfl,?_⟩) hHeld0 ?_
 rotate_left
 · (intro w hSw;(try dsimp only at hSw);go_simp <;> with_reducible rfl)
 try simp only [Act.put,zD,zE,zF]
 refine tk (i:=6) (v:=?_) rfl (Or.inl ⟨by rfl,?_⟩) hHeld0 ?_
 rotate_left
 · (intro w hSw;(try dsimp only at hSw);go_simp <;> with_reducible rfl)
 try simp only [Act.put,zD,zE,zF]
 refine tk (i:=7) (v:=?_) rfl (Or.inl ⟨by rfl,?_⟩) hHeld0 ?_
 rotate_left
 · (intro w hSw;(try dsimp only at hSw);go_simp <;> with_reducible rfl)
 try simp only [Act.put,zA,zB,zC,zD,zE,zF]
 refine wpAnyH_ready (rs:=[8]) (by kernel_rfl) (by simp) ?_
 refine AllReadyH.cons rfl (fun K hK=>?_) AllReadyH.nil
 go_simp
 with_reducible refine (scanR_any b r.key r.lim _ HBD.out HX.out.2.2.2.2.1 HX.out.2.2.2.2.2.key).mono ?_
 rintro e w1 ⟨A2,c2,rfl,hown1,hb1⟩
 generalize hg:scanN b.l r.key r.lim=rs at hown1
 obtain ⟨l2,er⟩:=rs
 have HG:=Lib.hid hg
 clear hg
 dsimp only at hown1
 have hat1:RBk.at_ ⟨A2,c2,l2,0,0⟩ w1:=row_at' (b:=⟨none,0,[],0,0⟩) hown1 rfl
 have hb1':Below W.heap.size W w1:=⟨hb1.os,hb1.tape,hb1.output,hb1.size,hb1.block⟩
 have qm1:=HX.out.1.below hb1' HX.out.1.lt
 have qr1:=HX.out.2.1.below hb1' HX.out.2.1.lt
 have q81:=HX.out.2.2.1.below hb1' HX.out.2.2.1.lt
 have hat2:=hat1.cell (p:=⟨g8,2,none⟩) (v:=.slice A2 l2.length c2) (show w1.cell? ⟨g8,2,none⟩=some (.slice none 0 0) from q81.cell 2) (fun s h=>by cases h)
 have c80:w1.cell? ⟨g8,0,none⟩=some (.int .i64 0):=q81.cell 0
 have c81:w1.cell? ⟨g8,1,none⟩=some (.string ⟨#[]⟩):=q81.cell 1
 have c82:w1.cell? ⟨g8,2,none⟩=some (.slice none 0 0):=q81.cell 2
 have f80:=q81.frozen 0
 have f81:=q81.frozen 1
 have f82:=q81.frozen 2
 have HA:=Lib.hid hat2
 clear hat1 hat2 hown1
 refine hK.out _ _ ?_ (fun hHeld1=>?_)
 · exact HC.out w1 qm1 qr1
 clear hK K hHeld0
 try simp only [Act.put,zA,zB,zC,zD,zE,zF]
 refine tk (i:=9) (v:=?_) rfl (Or.inl ⟨by rfl,?_⟩) hHeld1 ?_
 rotate_left
 · (intro w hSw;(try dsimp only at hSw);go_simp <;> with_reducible rfl)
 try simp only [Act.put,zA,zB,zC,zD,zE,zF]
 refine tk (i:=10) (v:=?_) rfl (Or.inl ⟨by rfl,?_⟩) hHeld1 ?_
 rotate_left
 · (intro w hSw;(try dsimp only at hSw);go_simp <;> with_reducible rfl)
 try simp only [Act.put,zA,zB,zC,zD,zE,zF]
 refine tk (i:=11) (v:=?_) rfl (Or.inl ⟨by rfl,?_⟩) hHeld1 ?_
 rotate_left
 · (intro w hSw;(try dsimp only at hSw);go_simp <;> with_reducible rfl)
 try simp only [Act.put,zA,zB,zC,zD,zE,zF]
 refine tk (i:=12) (v:=?_) rfl (Or.inl ⟨by rfl,?_⟩) hHeld1 ?_
 rotate_left
 · (intro w hSw;(try dsimp only at hSw);go_simp <;> with_reducible rfl)
 try simp only [Act.put,zA,zB,zC,zD,zE,zF]
 refine wpAnyH_ready (rs:=[13]) (by kernel_rfl) (by simp) ?_
 refine AllReadyH.cons rfl (fun K hK=>?_) AllReadyH.nil
 go_simp
 refine hK.out _ _ ?_ (fun hHeld2=>?_)
 · exact HC.out _ ((Below.heap_setCell _ _ _ gm (blk_ne qm1 q81 (by decide))).trans qm1) ((Below.heap_setCell _ _ _ gr (blk_ne qr1 q81 (by decide))).trans qr1)
 clear hK K hHeld1
 try simp only [Act.put,zD,zE,zF]
 have qm2:=(Below.heap_setCell w1 ⟨g8,2,none⟩ (.slice A2 l2.length c2) gm (blk_ne qm1 q81 (by decide))).trans qm1
 have qr2:=(Below.heap_setCell w1 ⟨g8,2,none⟩ (.slice A2 l2.length c2) gr (blk_ne qr1 q81 (by decide))).trans qr1
 have q82:=q81.set_ 2 (.slice A2 l2.length c2)
 have d80:(w1.setCell ⟨g8,2,none⟩ (.slice A2 l2.length c2)).cell? ⟨g8,0,none⟩=some (.int .i64 0):=q82.cell 0
 try simp only [Act.put,zA,zB,zC,zD,zE,zF]
 refine tk (i:=14) (v:=?_) rfl (Or.inl ⟨by rfl,?_⟩) hHeld2 ?_
 rotate_left
 · (intro w hSw;(try dsimp only at hSw);go_simp <;> with_reducible rfl)
 try simp only [Act.put,zA,zB,zC,zD,zE,zF]
 refine wpAnyH_ready (rs:=[15]) (by kernel_rfl) (by simp) ?_
 refine AllReadyH.cons rfl (fun K hK=>?_) AllReadyH.nil
 go_simp
 refine hK.out _ _ ?_ (fun hHeld3=>?_)
 · exact HC.out _ ((Below.heap_setCell _ _ _ gm (blk_ne qm2 q82 (by decide))).trans qm2) ((Below.heap_setCell _ _ _ gr (blk_ne qr2 q82 (by decide))).trans qr2)
 clear hK K hHeld2
 try simp only [Act.put,zA,zB,zC,zD,zE,zF]
 refine wpAnyH_done (by kernel_rfl) ?_ _
 have q83:=q82.set_ 0 (.int .i64 er)
 have qm3:=(Below.heap_setCell (w1.setCell ⟨g8,2,none⟩ (.slice A2 l2.length c2)) ⟨g8,0,none⟩ (.int .i64 er) gm (blk_ne qm2 q82 (by decide))).trans qm2
 exact NoPanic.normal (HQ.out _ _ _ _ _ _ _ _ _ _ _ _ _ _ _ A2 c2 l2 er (HG.out.symm.trans HR0.out) (HA.out.cell d80 (fun s h=>by cases h)) qm3 q83 (fun B w h8 hb=>(((below_of (by have:=HX.out.2.2.1.lt;omega) hb hb1').setCell (p:=⟨g8,2,none⟩) h8 _).setCell (p:=⟨g8,0,none⟩) h8 _)))
set_option maxHeartbeats 3200000 in
set_option maxRecDepth 100000 in
theorem op_end {W:World} {R:RMd} {gm g4 g5 g8:Nat} {z4 z5:Array Value} {acs:List Value} {Q:Exit→Act→World→Prop} (hs:∀ t,StOk (R t).st) (qm:Blk W gm 66 (rcells R).toArray) (q4:Blk W g4 66 z4) (q5:Blk W g5 52 z5) (q8:Blk W g8 52 acs.toArray) (hz4:z4.size=272) (hz5:z5.size=17) (ha:acs.length=17) (ha1:acs.toArray.all (·.oneCell')=true) (hne:gm ≠ g4) (hne2:g8 ≠ g5)
 (hQ:∀ (s111 s112:Value) (W':World),Blk W' g4 66 (rcells R).toArray→Blk W' g5 52 acs.toArray→(∀ i,i ≠ g4→i ≠ g5→W'.heap[i]?=W.heap[i]?)→(∀ B w,B ≤ g4→B ≤ g5→Below B w W→Below B w W')→Q .normal ⟨#[Xa,Xb,.pointer (some ⟨gm,0,none⟩),Xd,.pointer (some ⟨g4,0,none⟩),.pointer (some ⟨g5,0,none⟩),Xg,Xh,.pointer (some ⟨g8,0,none⟩),Xj,Xk,Xl,Xm,Xn,Xo,Xp,Xq,Xr,Xs,Xt,Xu,Xv,Xw,Xx,Xy,Xz,Ya,Yb,Yc,Yd,Ye,Yf,Yg,Yh,Yi,Yj,Yk,Yl,Ym,Yn,Yo,Yp,Yq,Yr,Ys,Yt,Yu,Yv,Yw,Yx,Yy,Yz,Za,Zb,Zc,Zd,Ze,Zf,Zg,Zh,Zi,Zj,Zk,Zl,Zm,Zn,Zo,Zp,Zq,Zr,Zs,Zt,Zu,Zv,Zw,Zx,Zy,Zz,Ja,Jb,Jc,Jd,Je,Jf,Jg,Jh,Ji,Jj,Jk,Jl,Jm,Jn,Jo,Jp,Jq,Jr,Js,Jt,Ju,Jv,Jw,Jy,Jz,Va,Vb,Vc,Vd,Ve,Vf,Vg,Vh,s111,s112],[]⟩ W') :
 Code.wp Tryz.prog (part Tryz.f39 [1,1,1,1,1,1,0]) Q ⟨#[Xa,Xb,.pointer (some ⟨gm,0,none⟩),Xd,.pointer (some ⟨g4,0,none⟩),.pointer (some ⟨g5,0,none⟩),Xg,Xh,.pointer (some ⟨g8,0,none⟩),Xj,Xk,Xl,Xm,Xn,Xo,Xp,Xq,Xr,Xs,Xt,Xu,Xv,Xw,Xx,Xy,Xz,Ya,Yb,Yc,Yd,Ye,Yf,Yg,Yh,Yi,Yj,Yk,Yl,Ym,Yn,Yo,Yp,Yq,Yr,Ys,Yt,Yu,Yv,Yw,Yx,Yy,Yz,Za,Zb,Zc,Zd,Ze,Zf,Zg,Zh,Zi,Zj,Zk,Zl,Zm,Zn,Zo,Zp,Zq,Zr,Zs,Zt,Zu,Zv,Zw,Zx,Zy,Zz,Ja,Jb,Jc,Jd,Je,Jf,Jg,Jh,Ji,Jj,Jk,Jl,Jm,Jn,Jo,Jp,Jq,Jr,Js,Jt,Ju,Jv,Jw,Jy,Jz,Va,Vb,Vc,Vd,Ve,Vf,Vg,Vh,Vi,Vj],[]⟩ W:=by
 conv=>arg 2;whnf
 have HQ:=Lib.hid hQ
 have HRL:=Lib.hid (rcells_len hs)
 have HRO:=Lib.hid (rcells_one hs)
 have hd:Below W.heap.size W W.drew:=(Below.refl _ _).drew
 have HX:=Lib.hid (And.intro (qm.below hd qm.lt) (And.intro (q4.below hd q4.lt) (And.intro (q5.below hd q5.lt) (And.intro (q8.below hd q8.lt) (And.intro hne hne2)))))
 have HZ:=Lib.hid (And.intro hz4 (And.intro hz5 (And.intro ha ha1)))
 have h0:W.drew.rangeAt gm 0 (rcells R)∧W.drew.rangeAt g8 0 acs:=⟨range_blk HX.out.1,range_blk HX.out.2.2.2.1⟩
 clear hQ hs qm q4 q5 q8 hz4 hz5 hne hne2 ha ha1 hd
 refine wp_region_noPanic ?_
 refine wp_region_held_drew (S:=(fun V:World=>V.rangeAt gm 0 (rcells R)∧V.rangeAt g8 0 acs)) (by kernel_rfl) ?_ (fun hHeld0=>?_)
 · exact h0
 refine tk (i:=0) rfl (yieldsIf_load_mid rfl 66 (.tmp 2) rfl gm 0 rfl (rcells R) _ (fun w hw=>hw.1) Tryz.underlying66 rfl (by rw [HRL.out];exact infoRM)) hHeld0 ?_
 try simp only [Act.put,zA,zB,zC,zD,zE,zF]
 refine tk (i:=1) rfl (yieldsIf_load_mid rfl 52 (.tmp 8) rfl g8 0 rfl acs _ (fun w hw=>hw.2) Tryz.underlying52 rfl (by rw [HZ.out.2.2.1];exact infoAns)) hHeld0 ?_
 try simp only [Act.put,zA,zB,zC,zD,zE,zF]
 refine wpAnyH_ready (rs:=[2]) (by kernel_rfl) (by simp) ?_
 refine AllReadyH.cons rfl (fun K hK=>?_) AllReadyH.nil
 refine wp_store_abs 66 (.tmp 4) (.tmp 111) rfl g4 z4 (rcells R).toArray rfl rfl HX.out.2.1 (by rw [HZ.out.1,List.size_toArray,HRL.out]) (by rw [List.size_toArray,HRL.out];exact infoRM) HRO.out ?_
 intro V2 hv4 hs4 hl4
 have qm2:=(hs4 gm HX.out.2.2.2.2.1).trans HX.out.1
 have q82:=(hs4 g8 (blk_ne HX.out.2.2.2.1 HX.out.2.1 (by decide))).trans HX.out.2.2.2.1
 have q52:=(hs4 g5 (blk_ne HX.out.2.2.1 HX.out.2.1 (by decide))).trans HX.out.2.2.1
 refine hK.out _ _ ?_ (fun hHeld1=>?_)
 · exact ⟨range_blk qm2,range_blk q82⟩
 clear hK K hHeld0
 try simp only [Act.put,zA,zB,zC,zD,zE,zF]
 refine wpAnyH_ready (rs:=[3]) (by kernel_rfl) (by simp) ?_
 refine AllReadyH.cons rfl (fun K hK=>?_) AllReadyH.nil
 refine wp_store_abs 52 (.tmp 5) (.tmp 112) rfl g5 z5 acs.toArray rfl rfl q52 (by rw [HZ.out.2.1,List.size_toArray,HZ.out.2.2.1]) (by rw [List.size_toArray,HZ.out.2.2.1];exact infoAns) HZ.out.2.2.2 ?_
 intro V3 hv5 hs5 hl5
 have hv43:=(hs5 g4 (blk_ne hv4 q52 (by decide))).trans hv4
 have qm3:=(hs5 gm (blk_ne qm2 q52 (by decide))).trans qm2
 have q83:=(hs5 g8 HX.out.2.2.2.2.2).trans q82
 refine hK.out _ _ ?_ (fun hHeld2=>?_)
 · exact ⟨range_blk qm3,range_blk q83⟩
 clear hK K hHeld1
 try simp only [Act.put,zA,zB,zC,zD,zE,zF]
 refine wpAnyH_done (by kernel_rfl) ?_ _
 exact NoPanic.normal (HQ.out _ _ V3 hv43 hv5 (fun i h4 h5=>(hs5 i h5).trans (hs4 i h4)) (fun B w h4 h5 hb=>hl5 B w h5 (hl4 B w h4 hb.drew)))
theorem put_same {b:RBk} {B:Bk} {key v:ByteArray} (h1:b.l=B.l) (h2:b.qk=B.qk) (h3:b.qb=B.qb):(putB B key v).1=(putR b key v).1∧(putB B key v).2.l=(putR b key v).2∧(putB B key v).2.qk=b.qk∧(putB B key v).2.qb=b.qb:=by
 unfold putB putR
 rw [h1,h2,h3]
 split
 · exact ⟨rfl,rfl,rfl,rfl⟩
 · split
   · exact ⟨rfl,rfl,rfl,rfl⟩
   · exact ⟨rfl,rfl,rfl,rfl⟩
theorem there_some {l:List Kv} {key:ByteArray} (h:(thereN l key []).2=0):(getL key l).isSome=true:=by
 unfold thereN at h
 split at h
 · cases h
 · cases hg:getL key l with
   | none=>rw [hg] at h;cases h
   | some v=>rfl
theorem del_same {b:RBk} {B:Bk} {key:ByteArray} (h1:b.l=B.l) (h2:b.qk=B.qk) (h3:b.qb=B.qb):(delB B key).1=(delR b key).1∧(delB B key).2.l=(delR b key).2∧(delB B key).2.qk=b.qk∧(delB B key).2.qb=b.qb:=by
 unfold delB delR
 rw [h1,h2,h3]
 split
 · rename_i h
   refine ⟨rfl,?_,rfl,rfl⟩
   show delL key B.l=dropK key B.l
   unfold dropK
   rw [if_pos (there_some h)]
 · exact ⟨rfl,rfl,rfl,rfl⟩
theorem swap_same {b:RBk} {B:Bk} {key old v:ByteArray} (h1:b.l=B.l) (h2:b.qk=B.qk) (h3:b.qb=B.qb):(swapB B key old v).1=(swapR b key old v).1∧(swapB B key old v).2.l=(swapR b key old v).2∧(swapB B key old v).2.qk=b.qk∧(swapB B key old v).2.qb=b.qb:=by
 have hp:=put_same (key:=key) (v:=v) h1 h2 h3
 unfold swapB swapR
 rw [h1]
 by_cases hl:32 < old.size ∨ 32 < v.size
 · rw [if_pos hl]
   have hm:mayN key [old,v]=2:=by
    unfold mayN
    exact if_pos (.inr (by rcases hl with h | h <;> simp [longS] <;> omega))
   rw [thereN_bad hm]
   exact ⟨rfl,rfl,h2.symm,h3.symm⟩
 · rw [if_neg hl]
   have he:thereN B.l key [old,v]=thereN B.l key []:=by
    unfold thereN
    have:mayN key [old,v]=mayN key []:=by
       unfold mayN
       have e1:longS 32 [old,v]=longS 32 []:=by
        simp only [not_or] at hl
        simp [longS]
        omega
       rw [e1]
    rw [this]
   rw [he]
   split
   · split
     · exact hp
     · exact ⟨rfl,rfl,h2.symm,h3.symm⟩
   · exact ⟨rfl,rfl,h2.symm,h3.symm⟩
theorem may_len {key:ByteArray} {vs:List ByteArray} (hm:mayN key vs ≠ 2):key.size ≤ 16∧∀ v ∈ vs,v.size ≤ 32:=mayN_short ((mayN_or key vs).resolve_left hm)
theorem putR_ok {b:RBk} {key v:ByteArray} {n:Nat} (h:LOk b.l) (hn:b.l.length ≤ n) (hm:n ≤ 999):LOk (putR b key v).2∧(putR b key v).2.length ≤ n + 1:=by
 unfold putR
 split
 · exact ⟨h,by show b.l.length ≤ _;omega⟩
 · rename_i h1
   split
   · exact ⟨h,by show b.l.length ≤ _;omega⟩
   · have hl:(putL key v b.l).length ≤ b.l.length + 1:=by
        rw [len_putL h.keys]
        split <;> omega
     obtain ⟨hk,hv⟩:=may_len h1
     exact ⟨lok_put h hk (hv v (by simp)) (by omega),by show (putL key v b.l).length ≤ _;omega⟩
theorem delR_ok {b:RBk} {key:ByteArray} {n:Nat} (h:LOk b.l) (hn:b.l.length ≤ n):LOk (delR b key).2∧(delR b key).2.length ≤ n + 1:=by
 unfold delR
 split
 · refine ⟨h.drop,?_⟩
   have:=(dropK_sub (key:=key) h.keys).length_le
   show (dropK key b.l).length ≤ _
   omega
 · exact ⟨h,by show b.l.length ≤ _;omega⟩
theorem swapR_ok {b:RBk} {key old v:ByteArray} {n:Nat} (h:LOk b.l) (hn:b.l.length ≤ n) (hm:n ≤ 999):LOk (swapR b key old v).2∧(swapR b key old v).2.length ≤ n + 1:=by
 unfold swapR
 split
 · exact ⟨h,by show b.l.length ≤ _;omega⟩
 · split
   · split
     · exact putR_ok h hn hm
     · exact ⟨h,by show b.l.length ≤ _;omega⟩
   · exact ⟨h,by show b.l.length ≤ _;omega⟩
theorem RBk.at_.ne2 {b:RBk} {W:World} {g:Nat} {t:TypeId} {cs:Array Value} (h:b.at_ W) (q:Blk W g t cs) (hs:∀ (j:Nat) s s',cs[j]?=some (.string s)→cs[j + 1]? ≠ some (.string s')):∀ ad,0 < b.l.length→b.A=some ad→ad.block ≠ g:=by
 intro ad h0 hA he
 obtain ⟨ad',h1,h2,h3⟩:=h.rd.2 h0
 rw [hA] at h1
 injection h1 with h1
 subst h1
 have e0:∀ (l:List Kv) (h:0 < l.length),(l.flatMap pairR)[0]?=some (.string (l[0]'h).1)∧(l.flatMap pairR)[1]?=some (.string (l[0]'h).2):=fun l h=>by
  cases l with
  | nil=>simp at h
  | cons x r=>exact ⟨rfl,rfl⟩
 have h4:=h3 0 _ (e0 b.l h0).1
 have h5:=h3 1 _ (e0 b.l h0).2
 obtain ⟨ag,ao,asp⟩:=ad
 simp only at he
 subst he
 rw [show (⟨ag,ao,asp⟩:Addr).add 0=⟨ag,ao,asp⟩ by simp [Addr.add]] at h4
 obtain rfl:=cell_spot h4
 rw [Addr.add_mid,q.cell] at h5
 rw [q.cell] at h4
 exact hs _ _ _ h4 h5
def noStr (cs:Array Value):Bool:=cs.toList.all fun v=>match v with | .string _=>false | _=>true
theorem noStr_spec {cs:Array Value} (h:noStr cs=true):∀ (j:Nat) s s',cs[j]?=some (.string s)→cs[j + 1]? ≠ some (.string s'):=fun j s s' hj=>by
 unfold noStr at h
 rw [List.all_eq_true] at h
 have:=h (.string s) (Array.mem_toList_iff.2 (Array.mem_of_getElem? hj))
 cases this
theorem zero_size:Tryz.zeroCells66.size=272:=by kernel_rfl
theorem zero_noStr:noStr Tryz.zeroCells66=true:=by kernel_rfl
theorem zeroA_one (j:Nat) (s s':ByteArray) (h:zeroA[j]?=some (.string s)):zeroA[j + 1]? ≠ some (.string s'):=by
 rcases Nat.lt_or_ge j 17 with hj | hj
 · have hk:j=0 ∨ j=1 ∨ j=2 ∨ j=3 ∨ j=4 ∨ j=5 ∨ j=6 ∨ j=7 ∨ j=8 ∨ j=9 ∨ j=10 ∨ j=11 ∨ j=12 ∨ j=13 ∨ j=14 ∨ j=15 ∨ j=16:=by omega
   rcases hk with rfl | rfl | rfl | rfl | rfl | rfl | rfl | rfl | rfl | rfl | rfl | rfl | rfl | rfl | rfl | rfl | rfl <;> simp at h ⊢
 · rw [Array.getElem?_eq_none (by simpa using hj)] at h
   cases h
def RDoEnd (n:Nat) (r:Mdl × Ans) (w:World) (e:Ending) (w':World):Prop :=
 ∃ R A c,e=.returned (.tuple #[.agg (rcells R).toArray,r.2.v A c])∧RMAt w' n r.1 R∧RBk.at_ ⟨A,c,r.2.prs,0,0⟩ w'∧Below w.heap.size w w'
theorem RMAt.mono {W:World} {n m:Nat} {M:Mdl} {R:RMd} (h:RMAt W n M R) (hn:n ≤ m):RMAt W m M R:=⟨h.there,h.gen,h.bk,h.st,h.ok,h.at_,h.lok,fun t=>Nat.le_trans (h.len t) hn⟩
theorem RMAt.upd {W:World} {n:Nat} {M:Mdl} {R:RMd} {t:Nat} {B B':Bk} {b:RBk} (h:RMAt W n M R) (hB:(M t).bk=some B) (h1:b.l=B'.l) (h2:b.qk=B'.qk) (h3:b.qb=B'.qb) (h4:b.at_ W) (h5:LOk b.l) (h6:b.l.length ≤ n) :
 RMAt W n (updM M t { M t with bk:=some B' }) (updR R t { R t with bk:=b }):=by
 have key:∀ i,(i=t∧updM M t { M t with bk:=some B' } i={ M t with bk:=some B' }∧updR R t { R t with bk:=b } i={ R t with bk:=b }) ∨ (updM M t { M t with bk:=some B' } i=M i∧updR R t { R t with bk:=b } i=R i):=fun i=>by
  by_cases e:i=t
  · subst e;exact .inl ⟨rfl,updM_self _ _ _,updR_self⟩
  · exact .inr ⟨updM_ne e,updR_ne e⟩
 constructor
 · intro i
   rcases key i with ⟨rfl,e1,e2⟩ | ⟨e1,e2⟩ <;> rw [e1,e2]
   · have:=h.there i;rw [hB] at this;exact this
   · exact h.there i
 · intro i
   rcases key i with ⟨rfl,e1,e2⟩ | ⟨e1,e2⟩ <;> rw [e1,e2]
   · exact h.gen i
   · exact h.gen i
 · intro i B0 hB0
   rcases key i with ⟨rfl,e1,e2⟩ | ⟨e1,e2⟩ <;> rw [e1] at hB0 <;> rw [e2]
   · injection hB0 with hB0;subst hB0;exact ⟨h1,h2,h3⟩
   · exact h.bk i B0 hB0
 · intro i
   rcases key i with ⟨rfl,e1,e2⟩ | ⟨e1,e2⟩ <;> rw [e1,e2]
   · exact h.st i
   · exact h.st i
 · intro i
   rcases key i with ⟨rfl,e1,e2⟩ | ⟨e1,e2⟩ <;> rw [e2]
   · exact h.ok i
   · exact h.ok i
 · intro i
   rcases key i with ⟨rfl,e1,e2⟩ | ⟨e1,e2⟩ <;> rw [e2]
   · exact h4
   · exact h.at_ i
 · intro i
   rcases key i with ⟨rfl,e1,e2⟩ | ⟨e1,e2⟩ <;> rw [e2]
   · exact h5
   · exact h.lok i
 · intro i
   rcases key i with ⟨rfl,e1,e2⟩ | ⟨e1,e2⟩ <;> rw [e2]
   · exact h6
   · exact h.len i
theorem op_fin {w W:World} {n:Nat} {M:Mdl} {R:RMd} {a:Ans} {A:Option Addr} {c:Nat} {gm g4 g5 g8:Nat} (hm:RMAt W n M R) (hr:RBk.at_ ⟨A,c,a.prs,0,0⟩ W) (ha:a.st.length=11) (ha1:∀ v ∈ a.st,v.oneCell'=true) (qm:Blk W gm 66 (rcells R).toArray) (q4:Blk W g4 66 Tryz.zeroCells66) (q5:Blk W g5 52 zeroA) (q8:Blk W g8 52 (a.cells A c).toArray) (hne:gm ≠ g4) (hne2:g8 ≠ g5) (hb:Below w.heap.size w W) (h4:w.heap.size ≤ g4) (h5:w.heap.size ≤ g5) :
 Code.wp Tryz.prog (part Tryz.f39 [1,1,1,1,1,1]) (bodyPost Tryz.prog Tryz.f39 (RDoEnd n (M,a) w)) ⟨#[Xa,Xb,.pointer (some ⟨gm,0,none⟩),Xd,.pointer (some ⟨g4,0,none⟩),.pointer (some ⟨g5,0,none⟩),Xg,Xh,.pointer (some ⟨g8,0,none⟩),Xj,Xk,Xl,Xm,Xn,Xo,Xp,Xq,Xr,Xs,Xt,Xu,Xv,Xw,Xx,Xy,Xz,Ya,Yb,Yc,Yd,Ye,Yf,Yg,Yh,Yi,Yj,Yk,Yl,Ym,Yn,Yo,Yp,Yq,Yr,Ys,Yt,Yu,Yv,Yw,Yx,Yy,Yz,Za,Zb,Zc,Zd,Ze,Zf,Zg,Zh,Zi,Zj,Zk,Zl,Zm,Zn,Zo,Zp,Zq,Zr,Zs,Zt,Zu,Zv,Zw,Zx,Zy,Zz,Ja,Jb,Jc,Jd,Je,Jf,Jg,Jh,Ji,Jj,Jk,Jl,Jm,Jn,Jo,Jp,Jq,Jr,Js,Jt,Ju,Jv,Jw,Jy,Jz,Va,Vb,Vc,Vd,Ve,Vf,Vg,Vh,Vi,Vj],[]⟩ W:=by
 have hal:(a.cells A c).length=17:=by unfold Ans.cells;simp [ha]
 have hao:(a.cells A c).toArray.all (·.oneCell')=true:=all_oneCell_toArray fun v hv=>by
  unfold Ans.cells at hv
  rw [List.mem_append] at hv
  rcases hv with hv | hv
  · simp at hv
    rcases hv with rfl | rfl | rfl | rfl | rfl | rfl <;> rfl
  · exact ha1 v hv
 refine (show Code.wp Tryz.prog (Code.seq (part Tryz.f39 [1,1,1,1,1,1,0]) .ret) _ _ _ from ?_)
 refine wp_seq_k fun K0 hK=>?_
 refine op_end hm.ok qm q4 q5 q8 zero_size rfl hal hao hne hne2 ?_
 intro s111 s112 W' q4' q5' hk hl
 refine hK _ _ ?_
 have hs:W.heap.size ≤ W'.heap.size:=(hl 0 W (Nat.zero_le _) (Nat.zero_le _) (by constructor <;> first | rfl | exact Nat.le_refl _ | (intro i hi;rfl))).size
 have hkp:∀ b:RBk,b.at_ W→b.at_ W':=fun b hbk=>hbk.keep hs fun ad h0 hA=>hk _ (hbk.ne2 q4 (noStr_spec zero_noStr) ad h0 hA) (hbk.ne2 q5 zeroA_one ad h0 hA)
 go_wp2_with fail
 refine bodyPost_ret (v:=.tuple #[.agg (rcells R).toArray,a.v A c]) ?_ rfl ?_
 · exact results_cell2 Tryz.results39 rfl rfl q4' q5' Tryz.underlying66 rfl (by rw [List.size_toArray,rcells_len hm.ok];exact infoRM) Tryz.underlying52 rfl (by rw [List.size_toArray,hal];exact infoAns)
 · exact ⟨R,A,c,rfl,⟨hm.there,hm.gen,hm.bk,hm.st,hm.ok,fun t=>hkp _ (hm.at_ t),hm.lok,hm.len⟩,hkp _ hr,hl _ _ h4 h5 hb⟩
theorem nil_at {W:World}:RBk.at_ ⟨none,0,[],0,0⟩ W:=⟨⟨rfl,fun h=>absurd h (by decide)⟩,Nat.le_refl _,by decide,fun _=>rfl,fun _ h=>absurd h (Nat.lt_irrefl 0)⟩
theorem errA_st (e:Int):(errA e).st.length=11∧∀ v ∈ (errA e).st,v.oneCell'=true:=⟨rfl,fun v hv=>by
 simp [errA,st0] at hv
 rcases hv with rfl | rfl <;> rfl⟩
set_option maxHeartbeats 3200000 in
set_option maxRecDepth 100000 in
theorem op_tail1 {w W:World} {n t:Nat} {M:Mdl} {R:RMd} {B:Bk} {r:Req} {gm gr g4 g5:Nat} (hm0:RMAt w n M R) (hm:RMAt W n M R) (hn:n ≤ 999) (hr:r.ok) (ht:r.ten=t) (ht17:t < 17) (hB:(M t).bk=some B) (qm:Blk W gm 66 (rcells R).toArray) (qr:Blk W gr 39 r.row.toArray) (q4:Blk W g4 66 Tryz.zeroCells66) (q5:Blk W g5 52 zeroA) (hne:gm ≠ g4) (hb:Below w.heap.size w W) (hgm:w.heap.size ≤ gm) (h4:w.heap.size ≤ g4) (h5:w.heap.size ≤ g5) (hd:r.deed=1) :
 Code.wp Tryz.prog (part Tryz.f39 [1,1,1]) (bodyPost Tryz.prog Tryz.f39 (RDoEnd (n + 1) (M,{ errA (thereN B.l r.key []).2 with val:=(thereN B.l r.key []).1 }) w)) ⟨#[Xa,Xb,.pointer (some ⟨gm,0,none⟩),.pointer (some ⟨gr,0,none⟩),.pointer (some ⟨g4,0,none⟩),.pointer (some ⟨g5,0,none⟩),Xg,Xh,Xi,Xj,Xk,Xl,Xm,Xn,Xo,Xp,Xq,Xr,Xs,Xt,Xu,Xv,Xw,Xx,Xy,Xz,Ya,Yb,Yc,Yd,Ye,Yf,Yg,Yh,Yi,Yj,Yk,Yl,Ym,Yn,Yo,Yp,Yq,Yr,Ys,Yt,Yu,Yv,Yw,Yx,Yy,Yz,Za,Zb,Zc,Zd,Ze,Zf,Zg,Zh,Zi,Zj,Zk,Zl,Zm,Zn,Zo,Zp,Zq,Zr,Zs,Zt,Zu,Zv,Zw,Zx,Zy,Zz,Ja,Jb,Jc,Jd,Je,Jf,Jg,Jh,Ji,Jj,Jk,Jl,Jm,Jn,Jo,Jp,Jq,Jr,Js,Jt,Ju,Jv,Jw,Jy,Jz,Va,Vb,Vc,Vd,Ve,Vf,Vg,Vh,Vi,Vj],[]⟩ W:=by
 conv=>arg 2;whnf
 obtain ⟨c0,c1,-,-,-,-,-,-,-,-,-,-⟩:=req_cells qr
 rw [ht] at c1
 rw [hd] at c0
 have hq1:(0:Int) ≤ (t:Int):=by omega
 have hq2:(t:Int) < 17:=by omega
 have hd8:Below W.heap.size W (W.alloc (.cells zeroA 52)):=below_box _ _
 obtain ⟨hb1,hb2,hb3⟩:=hm.bk t B hB
 have HP:=Lib.hid (And.intro hm0 (And.intro (hm.below hd8) (And.intro hr hn)))
 have HB0:=Lib.hid (And.intro hB (And.intro hb1 (And.intro hb2 hb3)))
 have HQ:=Lib.hid (And.intro (qm.below hd8 qm.lt) (And.intro (qr.below hd8 qr.lt) (And.intro (q4.below hd8 q4.lt) (And.intro (q5.below hd8 q5.lt) (Blk.new W 52 zeroA)))))
 have HN:=Lib.hid (And.intro hne (And.intro (below_trans hb hd8) (And.intro hgm (And.intro h4 (And.intro h5 (And.intro hb.size (And.intro qm.lt (And.intro q4.lt q5.lt))))))))
 have HT:=Lib.hid (And.intro ht hd)
 clear hm0 hm hr hn hB hb1 hb2 hb3 qm qr q4 q5 hne hb hgm h4 h5 hd8 ht hd
 refine wp_seq_k fun K0 hK=>?_
 have HK0:=Lib.hid hK
 clear hK
 go_wp2_with fail
 refine HK0.out _ _ ?_
 clear HK0 c1
 try simp only [Act.put]
 refine wp_seq_k fun K0 hK=>?_
 have HK0:=Lib.hid hK
 clear hK
 go_wp2_with fail
 refine HK0.out _ _ ?_
 clear HK0
 try simp only [Act.put]
 generalize hg8:W.heap.size=g8 at HQ HN ⊢
 generalize W.alloc (.cells zeroA 52)=W1 at HP HQ HN ⊢
 have c0:=(req_cells HQ.out.2.1).1
 rw [HT.out.2] at c0
 clear hg8
 refine wp_seq_k fun K0 hK=>?_
 have HK0:=Lib.hid hK
 clear hK
 go_wp2_with fail
 refine op_get HP.out.2.1.ok ht17 rfl HQ.out.1 HQ.out.2.1 HQ.out.2.2.2.2 (HP.out.2.1.at_ t) (HP.out.2.1.lok t) HP.out.2.2.1 (v:=(thereN (R t).bk.l r.key []).1) (er:=(thereN (R t).bk.l r.key []).2) rfl ?_
 intro s29 s30 s31 s32 s33 s34 s35 s36 s37 s38 s39 s40 W'  qm' q8' hbl
 refine HK0.out _ _ ?_
 clear HK0
 have hbw:=hbl w.heap.size w HN.out.2.2.2.2.2.1 HN.out.2.1
 have hk:=hbl g8 W1 (Nat.le_refl _) (by constructor <;> first | rfl | exact Nat.le_refl _ | (intro i hi;rfl))
 have q4':=(hk.block g4 HN.out.2.2.2.2.2.2.2.1).trans HQ.out.2.2.1
 have q5':=(hk.block g5 HN.out.2.2.2.2.2.2.2.2).trans HQ.out.2.2.2.1
 rw [HB0.out.2.1] at q8'
 exact op_fin (a:={ errA (thereN B.l r.key []).2 with val:=(thereN B.l r.key []).1 }) ((HP.out.1.below hbw).mono (Nat.le_succ n)) nil_at (errA_st 0).1 (errA_st 0).2 qm' q4' q5' q8' HN.out.1 (Nat.ne_of_gt HN.out.2.2.2.2.2.2.2.2) hbw HN.out.2.2.2.1 HN.out.2.2.2.2.1
set_option maxHeartbeats 3200000 in
set_option maxRecDepth 100000 in
theorem op_tail2 {w W:World} {n t:Nat} {M:Mdl} {R:RMd} {B:Bk} {r:Req} {gm gr g4 g5:Nat} (hm0:RMAt w n M R) (hm:RMAt W n M R) (hn:n ≤ 999) (hr:r.ok) (ht:r.ten=t) (ht17:t < 17) (hB:(M t).bk=some B) (qm:Blk W gm 66 (rcells R).toArray) (qr:Blk W gr 39 r.row.toArray) (q4:Blk W g4 66 Tryz.zeroCells66) (q5:Blk W g5 52 zeroA) (hne:gm ≠ g4) (hb:Below w.heap.size w W) (hgm:w.heap.size ≤ gm) (h4:w.heap.size ≤ g4) (h5:w.heap.size ≤ g5) (hd:r.deed=2) :
 Code.wp Tryz.prog (part Tryz.f39 [1,1,1]) (bodyPost Tryz.prog Tryz.f39 (RDoEnd (n + 1) (updM M t { M t with bk:=some (putB B r.key r.val).2 },errA (putB B r.key r.val).1) w)) ⟨#[Xa,Xb,.pointer (some ⟨gm,0,none⟩),.pointer (some ⟨gr,0,none⟩),.pointer (some ⟨g4,0,none⟩),.pointer (some ⟨g5,0,none⟩),Xg,Xh,Xi,Xj,Xk,Xl,Xm,Xn,Xo,Xp,Xq,Xr,Xs,Xt,Xu,Xv,Xw,Xx,Xy,Xz,Ya,Yb,Yc,Yd,Ye,Yf,Yg,Yh,Yi,Yj,Yk,Yl,Ym,Yn,Yo,Yp,Yq,Yr,Ys,Yt,Yu,Yv,Yw,Yx,Yy,Yz,Za,Zb,Zc,Zd,Ze,Zf,Zg,Zh,Zi,Zj,Zk,Zl,Zm,Zn,Zo,Zp,Zq,Zr,Zs,Zt,Zu,Zv,Zw,Zx,Zy,Zz,Ja,Jb,Jc,Jd,Je,Jf,Jg,Jh,Ji,Jj,Jk,Jl,Jm,Jn,Jo,Jp,Jq,Jr,Js,Jt,Ju,Jv,Jw,Jy,Jz,Va,Vb,Vc,Vd,Ve,Vf,Vg,Vh,Vi,Vj],[]⟩ W:=by
 conv=>arg 2;whnf
 obtain ⟨c0,c1,-,-,-,-,-,-,-,-,-,-⟩:=req_cells qr
 rw [ht] at c1
 rw [hd] at c0
 have hq1:(0:Int) ≤ (t:Int):=by omega
 have hq2:(t:Int) < 17:=by omega
 have hd8:Below W.heap.size W (W.alloc (.cells zeroA 52)):=below_box _ _
 obtain ⟨hb1,hb2,hb3⟩:=hm.bk t B hB
 have HP:=Lib.hid (And.intro hm0 (And.intro (hm.below hd8) (And.intro hr hn)))
 have HB0:=Lib.hid (And.intro hB (And.intro hb1 (And.intro hb2 hb3)))
 have HQ:=Lib.hid (And.intro (qm.below hd8 qm.lt) (And.intro (qr.below hd8 qr.lt) (And.intro (q4.below hd8 q4.lt) (And.intro (q5.below hd8 q5.lt) (Blk.new W 52 zeroA)))))
 have HN:=Lib.hid (And.intro hne (And.intro (below_trans hb hd8) (And.intro hgm (And.intro h4 (And.intro h5 (And.intro hb.size (And.intro qm.lt (And.intro q4.lt q5.lt))))))))
 have HT:=Lib.hid (And.intro ht hd)
 clear hm0 hm hr hn hB hb1 hb2 hb3 qm qr q4 q5 hne hb hgm h4 h5 hd8 ht hd
 refine wp_seq_k fun K0 hK=>?_
 have HK0:=Lib.hid hK
 clear hK
 go_wp2_with fail
 refine HK0.out _ _ ?_
 clear HK0 c1
 try simp only [Act.put]
 refine wp_seq_k fun K0 hK=>?_
 have HK0:=Lib.hid hK
 clear hK
 go_wp2_with fail
 refine HK0.out _ _ ?_
 clear HK0
 try simp only [Act.put]
 generalize hg8:W.heap.size=g8 at HQ HN ⊢
 generalize W.alloc (.cells zeroA 52)=W1 at HP HQ HN ⊢
 have c0:=(req_cells HQ.out.2.1).1
 rw [HT.out.2] at c0
 clear hg8
 refine wp_seq_k fun K0 hK=>?_
 have HK0:=Lib.hid hK
 clear hK
 go_wp2_with fail
 refine op_put HP.out.2.1.ok ht17 rfl HQ.out.1 HQ.out.2.1 HQ.out.2.2.2.2 (HP.out.2.1.at_ t) (HP.out.2.1.lok t) HP.out.2.2.1 (Nat.le_trans (HP.out.2.1.len t) HP.out.2.2.2) ?_
 intro s43 s44 s45 s46 s47 s48 s49 s50 s51 s52 s53 s54 s55 s56 s57 s58 W' b' er her hqk hqb hat qm' q8' hbl hk
 refine HK0.out _ _ ?_
 clear HK0
 have hbw:=hbl w.heap.size w HN.out.2.2.2.2.2.1 HN.out.2.2.1 HN.out.2.1
 have q4':=(hk g4 HQ.out.2.2.1.lt (Ne.symm HN.out.1) (Nat.ne_of_lt HN.out.2.2.2.2.2.2.2.1)).trans HQ.out.2.2.1
 have q5':=(hk g5 HQ.out.2.2.2.1.lt (blk_ne HQ.out.2.2.2.1 HQ.out.1 (by decide)) (Nat.ne_of_lt HN.out.2.2.2.2.2.2.2.2)).trans HQ.out.2.2.2.1
 obtain ⟨e1,e2,e3,e4⟩:=put_same (key:=r.key) (v:=r.val) HB0.out.2.1 HB0.out.2.2.1 HB0.out.2.2.2
 obtain ⟨o1,o2⟩:=putR_ok (key:=r.key) (v:=r.val) (HP.out.2.1.lok t) (HP.out.2.1.len t) HP.out.2.2.2
 rw [← her] at e1 e2 o1 o2
 dsimp only at e1 e2 o1 o2
 rw [← e1] at q8'
 exact op_fin (a:=errA (putB B r.key r.val).1) (((HP.out.1.below hbw).mono (Nat.le_succ n)).upd HB0.out.1 e2.symm (hqk.trans e3.symm) (hqb.trans e4.symm) hat o1 o2) nil_at (errA_st 0).1 (errA_st 0).2 qm' q4' q5' q8' HN.out.1 (Nat.ne_of_gt HN.out.2.2.2.2.2.2.2.2) hbw HN.out.2.2.2.1 HN.out.2.2.2.2.1
set_option maxHeartbeats 3200000 in
set_option maxRecDepth 100000 in
theorem op_tail3 {w W:World} {n t:Nat} {M:Mdl} {R:RMd} {B:Bk} {r:Req} {gm gr g4 g5:Nat} (hm0:RMAt w n M R) (hm:RMAt W n M R) (hn:n ≤ 999) (hr:r.ok) (ht:r.ten=t) (ht17:t < 17) (hB:(M t).bk=some B) (qm:Blk W gm 66 (rcells R).toArray) (qr:Blk W gr 39 r.row.toArray) (q4:Blk W g4 66 Tryz.zeroCells66) (q5:Blk W g5 52 zeroA) (hne:gm ≠ g4) (hb:Below w.heap.size w W) (hgm:w.heap.size ≤ gm) (h4:w.heap.size ≤ g4) (h5:w.heap.size ≤ g5) (hd:r.deed=3) :
 Code.wp Tryz.prog (part Tryz.f39 [1,1,1]) (bodyPost Tryz.prog Tryz.f39 (RDoEnd (n + 1) (updM M t { M t with bk:=some (delB B r.key).2 },errA (delB B r.key).1) w)) ⟨#[Xa,Xb,.pointer (some ⟨gm,0,none⟩),.pointer (some ⟨gr,0,none⟩),.pointer (some ⟨g4,0,none⟩),.pointer (some ⟨g5,0,none⟩),Xg,Xh,Xi,Xj,Xk,Xl,Xm,Xn,Xo,Xp,Xq,Xr,Xs,Xt,Xu,Xv,Xw,Xx,Xy,Xz,Ya,Yb,Yc,Yd,Ye,Yf,Yg,Yh,Yi,Yj,Yk,Yl,Ym,Yn,Yo,Yp,Yq,Yr,Ys,Yt,Yu,Yv,Yw,Yx,Yy,Yz,Za,Zb,Zc,Zd,Ze,Zf,Zg,Zh,Zi,Zj,Zk,Zl,Zm,Zn,Zo,Zp,Zq,Zr,Zs,Zt,Zu,Zv,Zw,Zx,Zy,Zz,Ja,Jb,Jc,Jd,Je,Jf,Jg,Jh,Ji,Jj,Jk,Jl,Jm,Jn,Jo,Jp,Jq,Jr,Js,Jt,Ju,Jv,Jw,Jy,Jz,Va,Vb,Vc,Vd,Ve,Vf,Vg,Vh,Vi,Vj],[]⟩ W:=by
 conv=>arg 2;whnf
 obtain ⟨c0,c1,-,-,-,-,-,-,-,-,-,-⟩:=req_cells qr
 rw [ht] at c1
 rw [hd] at c0
 have hq1:(0:Int) ≤ (t:Int):=by omega
 have hq2:(t:Int) < 17:=by omega
 have hd8:Below W.heap.size W (W.alloc (.cells zeroA 52)):=below_box _ _
 obtain ⟨hb1,hb2,hb3⟩:=hm.bk t B hB
 have HP:=Lib.hid (And.intro hm0 (And.intro (hm.below hd8) (And.intro hr hn)))
 have HB0:=Lib.hid (And.intro hB (And.intro hb1 (And.intro hb2 hb3)))
 have HQ:=Lib.hid (And.intro (qm.below hd8 qm.lt) (And.intro (qr.below hd8 qr.lt) (And.intro (q4.below hd8 q4.lt) (And.intro (q5.below hd8 q5.lt) (Blk.new W 52 zeroA)))))
 have HN:=Lib.hid (And.intro hne (And.intro (below_trans hb hd8) (And.intro hgm (And.intro h4 (And.intro h5 (And.intro hb.size (And.intro qm.lt (And.intro q4.lt q5.lt))))))))
 have HT:=Lib.hid (And.intro ht hd)
 clear hm0 hm hr hn hB hb1 hb2 hb3 qm qr q4 q5 hne hb hgm h4 h5 hd8 ht hd
 refine wp_seq_k fun K0 hK=>?_
 have HK0:=Lib.hid hK
 clear hK
 go_wp2_with fail
 refine HK0.out _ _ ?_
 clear HK0 c1
 try simp only [Act.put]
 refine wp_seq_k fun K0 hK=>?_
 have HK0:=Lib.hid hK
 clear hK
 go_wp2_with fail
 refine HK0.out _ _ ?_
 clear HK0
 try simp only [Act.put]
 generalize hg8:W.heap.size=g8 at HQ HN ⊢
 generalize W.alloc (.cells zeroA 52)=W1 at HP HQ HN ⊢
 have c0:=(req_cells HQ.out.2.1).1
 rw [HT.out.2] at c0
 clear hg8
 refine wp_seq_k fun K0 hK=>?_
 have HK0:=Lib.hid hK
 clear hK
 go_wp2_with fail
 refine op_del HP.out.2.1.ok ht17 rfl HQ.out.1 HQ.out.2.1 HQ.out.2.2.2.2 (HP.out.2.1.at_ t) (HP.out.2.1.lok t) HP.out.2.2.1 (Nat.le_trans (HP.out.2.1.len t) HP.out.2.2.2) ?_
 intro s61 s62 s63 s64 s65 s66 s67 s68 s69 s70 s71 s72 s73 s74 W' b' er her hqk hqb hat qm' q8' hbl hk
 refine HK0.out _ _ ?_
 clear HK0
 have hbw:=hbl w.heap.size w HN.out.2.2.2.2.2.1 HN.out.2.2.1 HN.out.2.1
 have q4':=(hk g4 HQ.out.2.2.1.lt (Ne.symm HN.out.1) (Nat.ne_of_lt HN.out.2.2.2.2.2.2.2.1)).trans HQ.out.2.2.1
 have q5':=(hk g5 HQ.out.2.2.2.1.lt (blk_ne HQ.out.2.2.2.1 HQ.out.1 (by decide)) (Nat.ne_of_lt HN.out.2.2.2.2.2.2.2.2)).trans HQ.out.2.2.2.1
 obtain ⟨e1,e2,e3,e4⟩:=del_same (key:=r.key) HB0.out.2.1 HB0.out.2.2.1 HB0.out.2.2.2
 obtain ⟨o1,o2⟩:=delR_ok (key:=r.key) (HP.out.2.1.lok t) (HP.out.2.1.len t)
 rw [← her] at e1 e2 o1 o2
 dsimp only at e1 e2 o1 o2
 rw [← e1] at q8'
 exact op_fin (a:=errA (delB B r.key).1) (((HP.out.1.below hbw).mono (Nat.le_succ n)).upd HB0.out.1 e2.symm (hqk.trans e3.symm) (hqb.trans e4.symm) hat o1 o2) nil_at (errA_st 0).1 (errA_st 0).2 qm' q4' q5' q8' HN.out.1 (Nat.ne_of_gt HN.out.2.2.2.2.2.2.2.2) hbw HN.out.2.2.2.1 HN.out.2.2.2.2.1
set_option maxHeartbeats 3200000 in
set_option maxRecDepth 100000 in
theorem op_tail4 {w W:World} {n t:Nat} {M:Mdl} {R:RMd} {B:Bk} {r:Req} {gm gr g4 g5:Nat} (hm0:RMAt w n M R) (hm:RMAt W n M R) (hn:n ≤ 999) (hr:r.ok) (ht:r.ten=t) (ht17:t < 17) (hB:(M t).bk=some B) (qm:Blk W gm 66 (rcells R).toArray) (qr:Blk W gr 39 r.row.toArray) (q4:Blk W g4 66 Tryz.zeroCells66) (q5:Blk W g5 52 zeroA) (hne:gm ≠ g4) (hb:Below w.heap.size w W) (hgm:w.heap.size ≤ gm) (h4:w.heap.size ≤ g4) (h5:w.heap.size ≤ g5) (hd:r.deed=4) :
 Code.wp Tryz.prog (part Tryz.f39 [1,1,1]) (bodyPost Tryz.prog Tryz.f39 (RDoEnd (n + 1) (updM M t { M t with bk:=some (swapB B r.key r.old r.val).2 },errA (swapB B r.key r.old r.val).1) w)) ⟨#[Xa,Xb,.pointer (some ⟨gm,0,none⟩),.pointer (some ⟨gr,0,none⟩),.pointer (some ⟨g4,0,none⟩),.pointer (some ⟨g5,0,none⟩),Xg,Xh,Xi,Xj,Xk,Xl,Xm,Xn,Xo,Xp,Xq,Xr,Xs,Xt,Xu,Xv,Xw,Xx,Xy,Xz,Ya,Yb,Yc,Yd,Ye,Yf,Yg,Yh,Yi,Yj,Yk,Yl,Ym,Yn,Yo,Yp,Yq,Yr,Ys,Yt,Yu,Yv,Yw,Yx,Yy,Yz,Za,Zb,Zc,Zd,Ze,Zf,Zg,Zh,Zi,Zj,Zk,Zl,Zm,Zn,Zo,Zp,Zq,Zr,Zs,Zt,Zu,Zv,Zw,Zx,Zy,Zz,Ja,Jb,Jc,Jd,Je,Jf,Jg,Jh,Ji,Jj,Jk,Jl,Jm,Jn,Jo,Jp,Jq,Jr,Js,Jt,Ju,Jv,Jw,Jy,Jz,Va,Vb,Vc,Vd,Ve,Vf,Vg,Vh,Vi,Vj],[]⟩ W:=by
 conv=>arg 2;whnf
 obtain ⟨c0,c1,-,-,-,-,-,-,-,-,-,-⟩:=req_cells qr
 rw [ht] at c1
 rw [hd] at c0
 have hq1:(0:Int) ≤ (t:Int):=by omega
 have hq2:(t:Int) < 17:=by omega
 have hd8:Below W.heap.size W (W.alloc (.cells zeroA 52)):=below_box _ _
 obtain ⟨hb1,hb2,hb3⟩:=hm.bk t B hB
 have HP:=Lib.hid (And.intro hm0 (And.intro (hm.below hd8) (And.intro hr hn)))
 have HB0:=Lib.hid (And.intro hB (And.intro hb1 (And.intro hb2 hb3)))
 have HQ:=Lib.hid (And.intro (qm.below hd8 qm.lt) (And.intro (qr.below hd8 qr.lt) (And.intro (q4.below hd8 q4.lt) (And.intro (q5.below hd8 q5.lt) (Blk.new W 52 zeroA)))))
 have HN:=Lib.hid (And.intro hne (And.intro (below_trans hb hd8) (And.intro hgm (And.intro h4 (And.intro h5 (And.intro hb.size (And.intro qm.lt (And.intro q4.lt q5.lt))))))))
 have HT:=Lib.hid (And.intro ht hd)
 clear hm0 hm hr hn hB hb1 hb2 hb3 qm qr q4 q5 hne hb hgm h4 h5 hd8 ht hd
 refine wp_seq_k fun K0 hK=>?_
 have HK0:=Lib.hid hK
 clear hK
 go_wp2_with fail
 refine HK0.out _ _ ?_
 clear HK0 c1
 try simp only [Act.put]
 refine wp_seq_k fun K0 hK=>?_
 have HK0:=Lib.hid hK
 clear hK
 go_wp2_with fail
 refine HK0.out _ _ ?_
 clear HK0
 try simp only [Act.put]
 generalize hg8:W.heap.size=g8 at HQ HN ⊢
 generalize W.alloc (.cells zeroA 52)=W1 at HP HQ HN ⊢
 have c0:=(req_cells HQ.out.2.1).1
 rw [HT.out.2] at c0
 clear hg8
 refine wp_seq_k fun K0 hK=>?_
 have HK0:=Lib.hid hK
 clear hK
 go_wp2_with fail
 refine op_swap HP.out.2.1.ok ht17 rfl HQ.out.1 HQ.out.2.1 HQ.out.2.2.2.2 (HP.out.2.1.at_ t) (HP.out.2.1.lok t) HP.out.2.2.1 (Nat.le_trans (HP.out.2.1.len t) HP.out.2.2.2) ?_
 intro s77 s78 s79 s80 s81 s82 s83 s84 s85 s86 s87 s88 s89 s90 s91 s92 s93 s94 W' b' er her hqk hqb hat qm' q8' hbl hk
 refine HK0.out _ _ ?_
 clear HK0
 have hbw:=hbl w.heap.size w HN.out.2.2.2.2.2.1 HN.out.2.2.1 HN.out.2.1
 have q4':=(hk g4 HQ.out.2.2.1.lt (Ne.symm HN.out.1) (Nat.ne_of_lt HN.out.2.2.2.2.2.2.2.1)).trans HQ.out.2.2.1
 have q5':=(hk g5 HQ.out.2.2.2.1.lt (blk_ne HQ.out.2.2.2.1 HQ.out.1 (by decide)) (Nat.ne_of_lt HN.out.2.2.2.2.2.2.2.2)).trans HQ.out.2.2.2.1
 obtain ⟨e1,e2,e3,e4⟩:=swap_same (key:=r.key) (old:=r.old) (v:=r.val) HB0.out.2.1 HB0.out.2.2.1 HB0.out.2.2.2
 obtain ⟨o1,o2⟩:=swapR_ok (key:=r.key) (old:=r.old) (v:=r.val) (HP.out.2.1.lok t) (HP.out.2.1.len t) HP.out.2.2.2
 rw [← her] at e1 e2 o1 o2
 dsimp only at e1 e2 o1 o2
 rw [← e1] at q8'
 exact op_fin (a:=errA (swapB B r.key r.old r.val).1) (((HP.out.1.below hbw).mono (Nat.le_succ n)).upd HB0.out.1 e2.symm (hqk.trans e3.symm) (hqb.trans e4.symm) hat o1 o2) nil_at (errA_st 0).1 (errA_st 0).2 qm' q4' q5' q8' HN.out.1 (Nat.ne_of_gt HN.out.2.2.2.2.2.2.2.2) hbw HN.out.2.2.2.1 HN.out.2.2.2.2.1
set_option maxHeartbeats 3200000 in
set_option maxRecDepth 100000 in
theorem op_tail5 {w W:World} {n t:Nat} {M:Mdl} {R:RMd} {B:Bk} {r:Req} {gm gr g4 g5:Nat} (hm0:RMAt w n M R) (hm:RMAt W n M R) (hn:n ≤ 999) (hr:r.ok) (ht:r.ten=t) (ht17:t < 17) (hB:(M t).bk=some B) (qm:Blk W gm 66 (rcells R).toArray) (qr:Blk W gr 39 r.row.toArray) (q4:Blk W g4 66 Tryz.zeroCells66) (q5:Blk W g5 52 zeroA) (hne:gm ≠ g4) (hb:Below w.heap.size w W) (hgm:w.heap.size ≤ gm) (h4:w.heap.size ≤ g4) (h5:w.heap.size ≤ g5) (hd:r.deed=5) :
 Code.wp Tryz.prog (part Tryz.f39 [1,1,1]) (bodyPost Tryz.prog Tryz.f39 (RDoEnd (n + 1) (M,{ errA (scanN B.l r.key r.lim).2 with prs:=(scanN B.l r.key r.lim).1 }) w)) ⟨#[Xa,Xb,.pointer (some ⟨gm,0,none⟩),.pointer (some ⟨gr,0,none⟩),.pointer (some ⟨g4,0,none⟩),.pointer (some ⟨g5,0,none⟩),Xg,Xh,Xi,Xj,Xk,Xl,Xm,Xn,Xo,Xp,Xq,Xr,Xs,Xt,Xu,Xv,Xw,Xx,Xy,Xz,Ya,Yb,Yc,Yd,Ye,Yf,Yg,Yh,Yi,Yj,Yk,Yl,Ym,Yn,Yo,Yp,Yq,Yr,Ys,Yt,Yu,Yv,Yw,Yx,Yy,Yz,Za,Zb,Zc,Zd,Ze,Zf,Zg,Zh,Zi,Zj,Zk,Zl,Zm,Zn,Zo,Zp,Zq,Zr,Zs,Zt,Zu,Zv,Zw,Zx,Zy,Zz,Ja,Jb,Jc,Jd,Je,Jf,Jg,Jh,Ji,Jj,Jk,Jl,Jm,Jn,Jo,Jp,Jq,Jr,Js,Jt,Ju,Jv,Jw,Jy,Jz,Va,Vb,Vc,Vd,Ve,Vf,Vg,Vh,Vi,Vj],[]⟩ W:=by
 conv=>arg 2;whnf
 obtain ⟨c0,c1,-,-,-,-,-,-,-,-,-,-⟩:=req_cells qr
 rw [ht] at c1
 rw [hd] at c0
 have hq1:(0:Int) ≤ (t:Int):=by omega
 have hq2:(t:Int) < 17:=by omega
 have hd8:Below W.heap.size W (W.alloc (.cells zeroA 52)):=below_box _ _
 obtain ⟨hb1,hb2,hb3⟩:=hm.bk t B hB
 have HP:=Lib.hid (And.intro hm0 (And.intro (hm.below hd8) (And.intro hr hn)))
 have HB0:=Lib.hid (And.intro hB (And.intro hb1 (And.intro hb2 hb3)))
 have HQ:=Lib.hid (And.intro (qm.below hd8 qm.lt) (And.intro (qr.below hd8 qr.lt) (And.intro (q4.below hd8 q4.lt) (And.intro (q5.below hd8 q5.lt) (Blk.new W 52 zeroA)))))
 have HN:=Lib.hid (And.intro hne (And.intro (below_trans hb hd8) (And.intro hgm (And.intro h4 (And.intro h5 (And.intro hb.size (And.intro qm.lt (And.intro q4.lt q5.lt))))))))
 have HT:=Lib.hid (And.intro ht hd)
 clear hm0 hm hr hn hB hb1 hb2 hb3 qm qr q4 q5 hne hb hgm h4 h5 hd8 ht hd
 refine wp_seq_k fun K0 hK=>?_
 have HK0:=Lib.hid hK
 clear hK
 go_wp2_with fail
 refine HK0.out _ _ ?_
 clear HK0 c1
 try simp only [Act.put]
 refine wp_seq_k fun K0 hK=>?_
 have HK0:=Lib.hid hK
 clear hK
 go_wp2_with fail
 refine HK0.out _ _ ?_
 clear HK0
 try simp only [Act.put]
 generalize hg8:W.heap.size=g8 at HQ HN ⊢
 generalize W.alloc (.cells zeroA 52)=W1 at HP HQ HN ⊢
 have c0:=(req_cells HQ.out.2.1).1
 rw [HT.out.2] at c0
 clear hg8
 refine wp_seq_k fun K0 hK=>?_
 have HK0:=Lib.hid hK
 clear hK
 go_wp2_with fail
 refine op_scan HP.out.2.1.ok ht17 rfl HQ.out.1 HQ.out.2.1 HQ.out.2.2.2.2 (HP.out.2.1.at_ t) (HP.out.2.1.lok t) HP.out.2.2.1  ?_
 intro s97 s98 s99 s100 s101 s102 s103 s104 s105 s106 s107 s108 s109 s110 W' A c l er hsc hat qm' q8' hbl
 refine HK0.out _ _ ?_
 clear HK0
 have hbw:=hbl w.heap.size w HN.out.2.2.2.2.2.1 HN.out.2.1
 have hk:=hbl g8 W1 (Nat.le_refl _) (by constructor <;> first | rfl | exact Nat.le_refl _ | (intro i hi;rfl))
 have q4':=(hk.block g4 HN.out.2.2.2.2.2.2.2.1).trans HQ.out.2.2.1
 have q5':=(hk.block g5 HN.out.2.2.2.2.2.2.2.2).trans HQ.out.2.2.2.1
 rw [HB0.out.2.1] at hsc
 rw [← hsc]
 exact op_fin (a:={ errA er with prs:=l }) ((HP.out.1.below hbw).mono (Nat.le_succ n)) hat (errA_st 0).1 (errA_st 0).2 qm' q4' q5' q8' HN.out.1 (Nat.ne_of_gt HN.out.2.2.2.2.2.2.2.2) hbw HN.out.2.2.2.1 HN.out.2.2.2.2.1
theorem rdo_same {w W:World} {n:Nat} {M:Mdl} {R:RMd} (hm:RMAt w n M R) (hb:Below w.heap.size w W) (e:Int):RDoEnd (n + 1) (M,errA e) w (.returned (.tuple #[.agg (rcells R).toArray,(errA e).v none 0])) W :=
 ⟨R,none,0,rfl,(hm.below hb).mono (Nat.le_succ n),nil_at,hb⟩
set_option maxHeartbeats 6400000 in
set_option maxRecDepth 100000 in
theorem operateR_any {w:World} {n:Nat} {M:Mdl} {R:RMd} (hm:RMAt w n M R) (hn:n ≤ 999) (r:Req) (hr:r.ok) (hd:1 ≤ r.deed∧r.deed ≤ 5):Calls Tryz.prog 39 #[.agg (rcells R).toArray,r.v] w (RDoEnd (n + 1) (operateN M r) w):=by
 have hb0:Below w.heap.size w ((((w.alloc (.cells (rcells R).toArray 66)).alloc (.cells #[.int .i64 r.deed,.int .i64 r.ten,.int .u32 r.gen,.int .u8 r.rig,.string r.key,.string r.val,.string r.old,.int .i64 r.lim,.int .i64 r.tenant,.int .u64 r.qk,.int .u64 r.qb,.int .u8 r.rights] 39)).alloc (.cells Tryz.zeroCells66 66)).alloc (.cells zeroA 52)):=below_alloc (below_alloc (below_alloc (below_box w (.cells (rcells R).toArray 66)) (.cells #[.int .i64 r.deed,.int .i64 r.ten,.int .u32 r.gen,.int .u8 r.rig,.string r.key,.string r.val,.string r.old,.int .i64 r.lim,.int .i64 r.tenant,.int .u64 r.qk,.int .u64 r.qb,.int .u8 r.rights] 39)) (.cells Tryz.zeroCells66 66)) (.cells zeroA 52)
 have qm:Blk ((((w.alloc (.cells (rcells R).toArray 66)).alloc (.cells #[.int .i64 r.deed,.int .i64 r.ten,.int .u32 r.gen,.int .u8 r.rig,.string r.key,.string r.val,.string r.old,.int .i64 r.lim,.int .i64 r.tenant,.int .u64 r.qk,.int .u64 r.qb,.int .u8 r.rights] 39)).alloc (.cells Tryz.zeroCells66 66)).alloc (.cells zeroA 52)) w.heap.size 66 (rcells R).toArray:=(((Blk.new w _ _).alloc _).alloc _).alloc _
 have qr:Blk ((((w.alloc (.cells (rcells R).toArray 66)).alloc (.cells #[.int .i64 r.deed,.int .i64 r.ten,.int .u32 r.gen,.int .u8 r.rig,.string r.key,.string r.val,.string r.old,.int .i64 r.lim,.int .i64 r.tenant,.int .u64 r.qk,.int .u64 r.qb,.int .u8 r.rights] 39)).alloc (.cells Tryz.zeroCells66 66)).alloc (.cells zeroA 52)) (w.heap.size + 1) 39 r.row.toArray:=((Blk.alloc (blk_at (by simp [Req.row])) _).alloc _)
 have q4:Blk ((((w.alloc (.cells (rcells R).toArray 66)).alloc (.cells #[.int .i64 r.deed,.int .i64 r.ten,.int .u32 r.gen,.int .u8 r.rig,.string r.key,.string r.val,.string r.old,.int .i64 r.lim,.int .i64 r.tenant,.int .u64 r.qk,.int .u64 r.qb,.int .u8 r.rights] 39)).alloc (.cells Tryz.zeroCells66 66)).alloc (.cells zeroA 52)) (w.heap.size + 1 + 1) 66 Tryz.zeroCells66:=(Blk.alloc (blk_at (by simp)) _)
 have q5:Blk ((((w.alloc (.cells (rcells R).toArray 66)).alloc (.cells #[.int .i64 r.deed,.int .i64 r.ten,.int .u32 r.gen,.int .u8 r.rig,.string r.key,.string r.val,.string r.old,.int .i64 r.lim,.int .i64 r.tenant,.int .u64 r.qk,.int .u64 r.qb,.int .u8 r.rights] 39)).alloc (.cells Tryz.zeroCells66 66)).alloc (.cells zeroA 52)) (w.heap.size + 1 + 1 + 1) 52 zeroA:=blk_at (by simp)
 have HQ:=Lib.hid (And.intro qm (And.intro qr (And.intro q4 (And.intro q5 hb0))))
 have HM:=Lib.hid hm
 have HRL:=Lib.hid (rcells_len hm.ok)
 have HF:=Lib.hid (fun W=>formedR_any r W)
 have HY:=Lib.hid (fun (W:World) (h:RMAt W n M R)=>mayR_any h r hr)
 have HP:=Lib.hid (And.intro hn (And.intro hr hd))
 have HOP:Hid (formedN r=true→mayM M r ≠ 0→operateN M r=(M,errA (mayM M r))):=Lib.hid (fun h1 h2=>by unfold operateN;rw [if_neg (by rw [h1];decide),if_neg h2])
 have HOF:Hid (formedN r=false→operateN M r=(M,errA 2)):=Lib.hid (fun h1=>by unfold operateN;rw [if_pos h1])
 have HMG:=Lib.hid (fun h=>may_good (M:=M) (r:=r) h)
 have HOK:Hid (formedN r=true→mayM M r=0→∀ (t:Nat) (B:Bk),r.ten=t→(M t).bk=some B→operateN M r=if r.deed=1 then (M,{ errA (thereN B.l r.key []).2 with val:=(thereN B.l r.key []).1 })
  else if r.deed=2 then (updM M t { M t with bk:=some (putB B r.key r.val).2 },errA (putB B r.key r.val).1)
  else if r.deed=3 then (updM M t { M t with bk:=some (delB B r.key).2 },errA (delB B r.key).1)
  else if r.deed=4 then (updM M t { M t with bk:=some (swapB B r.key r.old r.val).2 },errA (swapB B r.key r.old r.val).1)
  else (M,{ errA (scanN B.l r.key r.lim).2 with prs:=(scanN B.l r.key r.lim).1 })):=Lib.hid (fun h1 h2 t B ht hB=>by
  unfold operateN
  rw [if_neg (by rw [h1];decide),if_pos h2,ht,Int.toNat_natCast,hB])
 clear qm qr q4 q5 hb0 hm hn hr hd
 go_enter Tryz.func39,Tryz.ntmps39
 refine wp_seq_k fun K0 hK=>?_
 have HK0:=Lib.hid hK
 clear hK
 go_wp2_with fail
 refine HK0.out _ _ ?_
 clear HK0
 try simp only [Act.put]
 generalize hwa:(((w.alloc (.cells (rcells R).toArray 66)).alloc (.cells #[.int .i64 r.deed,.int .i64 r.ten,.int .u32 r.gen,.int .u8 r.rig,.string r.key,.string r.val,.string r.old,.int .i64 r.lim,.int .i64 r.tenant,.int .u64 r.qk,.int .u64 r.qb,.int .u8 r.rights] 39)).alloc (.cells Tryz.zeroCells66 66)).alloc (.cells zeroA 52)=w1 at HQ ⊢
 clear hwa
 obtain ⟨gm,hgm⟩:∃ g,w.heap.size=g:=⟨_,rfl⟩
 have HGM:=Lib.hid hgm
 obtain ⟨q1,q2,q3,q4,q5⟩:=HQ.out
 rw [hgm] at q1 q2 q3 q4 ⊢
 have HQ1:=Lib.hid (And.intro q1 (And.intro q2 (And.intro q3 (And.intro q4 q5))))
 clear q1 q2 q3 q4 q5 HQ hgm
 refine wp_seq_k fun K0 hK=>?_
 have HK0:=Lib.hid hK
 clear hK
 obtain ⟨c0,c1,c2,c3,c4,c5,c6,c7,c8,c9,c10,c11⟩:=req_cells HQ1.out.2.1
 go_wp2_with fail
 refine (HF.out _).mono ?_
 rintro e w2 ⟨rfl,hb2⟩
 have HB2:=Lib.hid (And.intro (HQ1.out.1.below hb2 HQ1.out.1.lt) (And.intro (HQ1.out.2.1.below hb2 HQ1.out.2.1.lt) (And.intro (HQ1.out.2.2.1.below hb2 HQ1.out.2.2.1.lt) (And.intro (HQ1.out.2.2.2.1.below hb2 HQ1.out.2.2.2.1.lt) (below_trans HQ1.out.2.2.2.2 hb2)))))
 clear hb2 HQ1 c0 c1 c2 c3 c4 c5 c6 c7 c8 c9 c10 c11
 cases hf:formedN r with
 | false =>
   have HE:=Lib.hid (HOF.out hf)
   clear hf HOF HOK HOP HMG HY
   go_wp2_with fail
   refine op_bad HM.out.ok HB2.out.1 HB2.out.2.2.1 HB2.out.2.2.2.1 zero_size rfl (by omega) ?_
   intro s12 s13 W' q4' q5' hl
   go_wp2_with fail
   refine bodyPost_ret (v:=.tuple #[.agg (rcells R).toArray,(errA 2).v none 0]) ?_ rfl ?_
   · exact results_cell2 Tryz.results39 rfl rfl q4' q5' Tryz.underlying66 rfl (by rw [List.size_toArray,HRL.out];exact infoRM) Tryz.underlying52 rfl infoAns
   · rw [HE.out]
     exact rdo_same HM.out (hl _ _ (by rw [HGM.out];omega) (by rw [HGM.out];omega) HB2.out.2.2.2.2) 2
 | true =>
   have HFT:=Lib.hid hf
   clear hf HOF
   obtain ⟨c0,c1,c2,c3,c4,c5,c6,c7,c8,c9,c10,c11⟩:=req_cells HB2.out.2.1
   go_wp2_with fail
   refine HK0.out _ _ ?_
   clear HK0
   try simp only [Act.put]
   refine wp_seq_k fun K0 hK=>?_
   have HK0:=Lib.hid hK
   clear hK
   have HYW:=Lib.hid (HY.out w2 (HM.out.below HB2.out.2.2.2.2))
   clear HY
   go_wp2_with (refine wpList_load_mid rfl 66 (.tmp 2) rfl gm 0 rfl _ _ (range_blk HB2.out.1) Tryz.underlying66 rfl (by rw [HRL.out];exact infoRM) ?_)
   refine HYW.out.mono ?_
   rintro e w3 ⟨rfl,hb3⟩
   have HB3:=Lib.hid (And.intro (HB2.out.1.below hb3 HB2.out.1.lt) (And.intro (HB2.out.2.1.below hb3 HB2.out.2.1.lt) (And.intro (HB2.out.2.2.1.below hb3 HB2.out.2.2.1.lt) (And.intro (HB2.out.2.2.2.1.below hb3 HB2.out.2.2.2.1.lt) (below_trans HB2.out.2.2.2.2 hb3)))))
   clear hb3 HB2 HYW c0 c1 c2 c3 c4 c5 c6 c7 c8 c9 c10 c11
   generalize hmm:mayM M r=mm
   have HMM:=Lib.hid hmm
   by_cases h0:mm=0
   · subst h0
     obtain ⟨t,B,ht,ht1,ht2,hB⟩:=HMG.out hmm
     have HE:=Lib.hid (HOK.out HFT.out hmm t B ht hB)
     clear hmm
     go_wp2_with fail
     refine HK0.out _ _ ?_
     clear HK0
     try simp only [Act.put]
     rw [HE.out]
     obtain ⟨hn,hr,hd1,hd5⟩:=HP.out
     have hm3:=HM.out.below HB3.out.2.2.2.2
     by_cases k1:r.deed=1
     · rw [if_pos k1]
       exact op_tail1 HM.out hm3 hn hr ht (by omega) hB HB3.out.1 HB3.out.2.1 HB3.out.2.2.1 HB3.out.2.2.2.1 (by omega) HB3.out.2.2.2.2 (by rw [HGM.out];omega) (by rw [HGM.out];omega) (by rw [HGM.out];omega) k1
     rw [if_neg k1]
     by_cases k2:r.deed=2
     · rw [if_pos k2]
       exact op_tail2 HM.out hm3 hn hr ht (by omega) hB HB3.out.1 HB3.out.2.1 HB3.out.2.2.1 HB3.out.2.2.2.1 (by omega) HB3.out.2.2.2.2 (by rw [HGM.out];omega) (by rw [HGM.out];omega) (by rw [HGM.out];omega) k2
     rw [if_neg k2]
     by_cases k3:r.deed=3
     · rw [if_pos k3]
       exact op_tail3 HM.out hm3 hn hr ht (by omega) hB HB3.out.1 HB3.out.2.1 HB3.out.2.2.1 HB3.out.2.2.2.1 (by omega) HB3.out.2.2.2.2 (by rw [HGM.out];omega) (by rw [HGM.out];omega) (by rw [HGM.out];omega) k3
     rw [if_neg k3]
     by_cases k4:r.deed=4
     · rw [if_pos k4]
       exact op_tail4 HM.out hm3 hn hr ht (by omega) hB HB3.out.1 HB3.out.2.1 HB3.out.2.2.1 HB3.out.2.2.2.1 (by omega) HB3.out.2.2.2.2 (by rw [HGM.out];omega) (by rw [HGM.out];omega) (by rw [HGM.out];omega) k4
     rw [if_neg k4]
     exact op_tail5 HM.out hm3 hn hr ht (by omega) hB HB3.out.1 HB3.out.2.1 HB3.out.2.2.1 HB3.out.2.2.2.1 (by omega) HB3.out.2.2.2.2 (by rw [HGM.out];omega) (by rw [HGM.out];omega) (by rw [HGM.out];omega) (by omega)
   · have HE:=Lib.hid (HOP.out HFT.out (by rw [hmm];exact h0))
     clear hmm HMG HOK HOP
     go_wp2_with fail
     refine op_err HM.out.ok HB3.out.1 HB3.out.2.2.1 HB3.out.2.2.2.1 zero_size rfl (by omega) ?_
     intro s19 s20 s21 W' q4' q5' hl
     go_wp2_with fail
     refine bodyPost_ret (v:=.tuple #[.agg (rcells R).toArray,(errA mm).v none 0]) ?_ rfl ?_
     · exact results_cell2 Tryz.results39 rfl rfl q4' q5' Tryz.underlying66 rfl (by rw [List.size_toArray,HRL.out];exact infoRM) Tryz.underlying52 rfl infoAns
     · rw [HE.out,HMM.out]
       exact rdo_same HM.out (hl _ _ (by rw [HGM.out];omega) (by rw [HGM.out];omega) HB3.out.2.2.2.2) mm
end Go.Proofs.YtkgflepgkhnclaaGreatDoor
