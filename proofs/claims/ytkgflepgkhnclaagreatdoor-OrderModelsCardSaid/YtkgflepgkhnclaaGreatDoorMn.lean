/- Layer 27: OrderModels: the reference's model: Do's regions. Layer 27: OrderModels: the reference's model: Do's tails, deeds 7 to 10. -/
import Derived.Test.YtkgflepgkhnclaaGreatDoorMm
namespace Go.Proofs.YtkgflepgkhnclaaGreatDoor
set_option linter.unusedVariables false
set_option linter.unusedSimpArgs false
open Go.RowKit Go.Shelf
attribute [local go_sem] run_store_complex
variable {Xa Xb Xc Xd Xe Xf Xg Xh Xi Xj Xk Xl Xm Xn Xo Xp Xq Xr Xs Xt Xu Xv Xw Xx Xy Xz Ya Yb Yc Yd Ye Yf Yg Yh Yi Yj Yk Yl Ym Yn Yo Yp Yq Yr Ys Yt Yu Yv Yw Yx Yy Yz Za Zb Zc Zd Ze Zf Zg Zh Zi Zj Zk Zl Zm Zn Zo Zp Zq Zr Zs Zt Zu Zv Zw Zx Zy Zz Ja Jb Jc Jd Je Jf Jg Jh Ji Jj Jk Jl Jm Jn Jo Jp Jq Jr Js Jt Ju Jv Jw Jy Jz Va Vb Vc Vd Ve Vf Vg Vh Vi Vj Vk Vl Vm Vn Vo Vp Vq Vr Vs Vt Vu Vv Vw Vx Vy Vz Oa Ob Oc Od Oe Og Oh Oi Oj Ok Ol Om On Oo Oq Ot Ou Ov Ox Oy Oz Ha Hb Hc He Hf Hg Hh Hi Hj Hk Hl Hm Hn Ho Hp Hq Hr Hs Ht Hu Hv Hw Hx Hy Hz Ia Ib Ic Id Ie If Ig Ih Ii Ij Ik Il Im In Io Ip Iq Ir It Iu Iv Iw Ix Iy Iz Ua Ub Uc Ud Ue Uf Ug Uh Ui Uj Uk Ul:Value}
theorem infoStR:(Tryz.prog.info? 50).map (·.size)=some 11:=by kernel_rfl
theorem infoRT:(Tryz.prog.info? 64).map (·.size)=some 16:=by kernel_rfl
theorem set_at {W:World} {g t j:Nat} {R:RMd} {b:RTen} {v:Value} (h:Blk W g 66 (rcells R).toArray) (hs:∀ t,StOk (R t).st) (ht:t < 17) (hj:j < 16) (hb:b.cells=(R t).cells.set j v) (hbs:StOk b.st) :
 Blk (W.setCell ⟨g,t * 16 + j,none⟩ v) g 66 (rcells (updR R t b)).toArray:=by
 have hl:(rcells R).toArray.size=272:=by rw [List.size_toArray,rcells_len hs]
 have hs2:∀ i,StOk (updR R t b i).st:=fun i=>by
  by_cases e:i=t
  · subst e;rw [updR_self];exact hbs
  · rw [updR_ne e];exact hs i
 refine rcells_of (h.set_ (t * 16 + j) v) (by simp [rcells_len hs]) hs2 (fun i k u hi hu=>?_)
 have hk:k < 16:=by
  have:=(List.getElem?_eq_some_iff.1 hu).1
  rwa [RTen.len (hs2 i)] at this
 have hold:(rcells R).toArray[i * 16 + k]?=((R i).cells)[k]?:=by rw [List.getElem?_toArray,rcell hs hi hk]
 by_cases e:i=t
 · subst e
   rw [updR_self,hb] at hu
   by_cases e2:j=k
   · subst e2
     rw [List.getElem?_set_self (by rw [RTen.len (hs i)];exact hj)] at hu
     rw [Array.getElem?_setIfInBounds_self_of_lt (by rw [hl];omega)]
     exact hu
   · rw [List.getElem?_set_ne e2] at hu
     rw [Array.getElem?_setIfInBounds_ne (by omega),hold]
     exact hu
 · rw [updR_ne e] at hu
   rw [Array.getElem?_setIfInBounds_ne (by omega),hold]
   exact hu
theorem ten_set {W:World} {g t:Nat} {R:RMd} {b:RTen} (h:Blk W g 66 (rcells R).toArray) (hs:∀ t,StOk (R t).st) (ht:t < 17) (hbs:StOk b.st) :
 Blk (W.setCells g (t * 16) b.cells) g 66 (rcells (updR R t b)).toArray:=by
 have hl:(rcells R).toArray.size=272:=by rw [List.size_toArray,rcells_len hs]
 have hs2:∀ i,StOk (updR R t b i).st:=fun i=>by
  by_cases e:i=t
  · subst e;rw [updR_self];exact hbs
  · rw [updR_ne e];exact hs i
 obtain ⟨cs',hb',hs'⟩:=h.sets b.cells (t * 16)
 have hbl:b.cells.length=16:=RTen.len hbs
 refine rcells_of hb' (by rw [hs',hl]) hs2 (fun i k u hi hu=>?_)
 have hk:k < 16:=by
  have:=(List.getElem?_eq_some_iff.1 hu).1
  rwa [RTen.len (hs2 i)] at this
 rw [← hb'.cell]
 by_cases e:i=t
 · subst e
   rw [updR_self] at hu
   have h1:=World.cell?_setCells_in g b.cells (i * 16) W (fun j hj=>by rw [h.cell,Array.getElem?_eq_getElem (by rw [hl];omega)];rfl) k (by omega)
   rw [h1,← hu,List.getElem?_eq_getElem]
 · rw [updR_ne e] at hu
   rw [World.cell?_setCells_out g b.cells (t * 16) W ⟨g,i * 16 + k,none⟩ (fun _ _=>by rw [hbl];show i * 16 + k < t * 16 ∨ t * 16 + 16 ≤ i * 16 + k;omega),h.cell,List.getElem?_toArray,rcell hs hi hk]
   exact hu
set_option maxHeartbeats 3200000 in
set_option maxRecDepth 100000 in
theorem do_err {W:World} {R:RMd} {gm g4 g5:Nat} {z4 z5:Array Value} {e:Int} {Q:Exit→Act→World→Prop} (hs:∀ t,StOk (R t).st) (qm:Blk W gm 66 (rcells R).toArray) (q4:Blk W g4 66 z4) (q5:Blk W g5 52 z5) (hz4:z4.size=272) (hz5:z5.size=17) (hne:gm ≠ g4)
 (hQ:∀ (s31 s32 s33:Value) (W':World),Blk W' g4 66 (rcells R).toArray→Blk W' g5 52 ((errA e).cells none 0).toArray→(∀ B w,B ≤ g4→B ≤ g5→Below B w W→Below B w W')→Q .normal ⟨#[Xa,Xb,.pointer (some ⟨gm,0,none⟩),Xd,.pointer (some ⟨g4,0,none⟩),.pointer (some ⟨g5,0,none⟩),Xg,.int .i64 e,Xi,Xj,Xk,Xl,Xm,Xn,Xo,Xp,Xq,Xr,Xs,Xt,Xu,Xv,Xw,Xx,Xy,Xz,Ya,Yb,Yc,Yd,Ye,s31,s32,s33,Yi,Yj,Yk,Yl,Ym,Yn,Yo,Yp,Yq,Yr,Ys,Yt,Yu,Yv,Yw,Yx,Yy,Yz,Za,Zb,Zc,Zd,Ze,Zf,Zg,Zh,Zi,Zj,Zk,Zl,Zm,Zn,Zo,Zp,Zq,Zr,Zs,Zt,Zu,Zv,Zw,Zx,Zy,Zz,Ja,Jb,Jc,Jd,Je,Jf,Jg,Jh,Ji,Jj,Jk,Jl,Jm,Jn,Jo,Jp,Jq,Jr,Js,Jt,Ju,Jv,Jw,Jy,Jz,Va,Vb,Vc,Vd,Ve,Vf,Vg,Vh,Vi,Vj,Vk,Vl,Vm,Vn,Vo,Vp,Vq,Vr,Vs,Vt,Vu,Vv,Vw,Vx,Vy,Vz,Oa,Ob,Oc,Od,Oe,Og,Oh,Oi,Oj,Ok,Ol,Om,On,Oo,Oq,Ot],[]⟩ W') :
 Code.wp Tryz.prog (part Tryz.f17 [1,1,1,0,1,3,0,1,1,3,0]) Q ⟨#[Xa,Xb,.pointer (some ⟨gm,0,none⟩),Xd,.pointer (some ⟨g4,0,none⟩),.pointer (some ⟨g5,0,none⟩),Xg,.int .i64 e,Xi,Xj,Xk,Xl,Xm,Xn,Xo,Xp,Xq,Xr,Xs,Xt,Xu,Xv,Xw,Xx,Xy,Xz,Ya,Yb,Yc,Yd,Ye,Yf,Yg,Yh,Yi,Yj,Yk,Yl,Ym,Yn,Yo,Yp,Yq,Yr,Ys,Yt,Yu,Yv,Yw,Yx,Yy,Yz,Za,Zb,Zc,Zd,Ze,Zf,Zg,Zh,Zi,Zj,Zk,Zl,Zm,Zn,Zo,Zp,Zq,Zr,Zs,Zt,Zu,Zv,Zw,Zx,Zy,Zz,Ja,Jb,Jc,Jd,Je,Jf,Jg,Jh,Ji,Jj,Jk,Jl,Jm,Jn,Jo,Jp,Jq,Jr,Js,Jt,Ju,Jv,Jw,Jy,Jz,Va,Vb,Vc,Vd,Ve,Vf,Vg,Vh,Vi,Vj,Vk,Vl,Vm,Vn,Vo,Vp,Vq,Vr,Vs,Vt,Vu,Vv,Vw,Vx,Vy,Vz,Oa,Ob,Oc,Od,Oe,Og,Oh,Oi,Oj,Ok,Ol,Om,On,Oo,Oq,Ot],[]⟩ W:=by
 conv=>arg 2;whnf
 have HQ:=Lib.hid hQ
 have HRL:=Lib.hid (rcells_len hs)
 have HRO:=Lib.hid (rcells_one hs)
 have HX:=Lib.hid (And.intro qm (And.intro q4 (And.intro q5 hne)))
 have HZ:=Lib.hid (And.intro hz4 hz5)
 have h0:W.drew.rangeAt gm 0 (rcells R):=range_blk (qm.below (show Below W.heap.size W W.drew from (Below.refl _ _).drew) qm.lt)
 clear hQ hs qm q4 q5 hz4 hz5 hne
 refine wp_region_noPanic ?_
 refine wp_region_held_drew (S:=(fun V:World=>V.rangeAt gm 0 (rcells R))) (by kernel_rfl) ?_ (fun hHeld0=>?_)
 · exact h0
 refine tk (i:=0) rfl (yieldsIf_load_mid rfl 66 (.tmp 2) rfl gm 0 rfl (rcells R) _ (fun w hw=>hw) Tryz.underlying66 rfl (by rw [HRL.out];exact infoRM)) hHeld0 ?_
 try simp only [Act.put,zD,zE,zF]
 refine tk (i:=1) (v:=?_) rfl (Or.inl ⟨by rfl,?_⟩) hHeld0 ?_
 rotate_left
 · (intro w hSw;(try dsimp only at hSw);go_simp <;> with_reducible rfl)
 try simp only [Act.put,zA,zB,zC,zD,zE,zF]
 refine wpAnyH_ready (rs:=[2]) (by kernel_rfl) (by simp) ?_
 refine AllReadyH.cons rfl (fun K hK=>?_) AllReadyH.nil
 go_simp
 with_reducible refine (failed_any _ _).mono ?_
 rintro en w1 ⟨rfl,hb1⟩
 have hb1':Below W.heap.size W w1:=⟨hb1.os,hb1.tape,hb1.output,hb1.size,hb1.block⟩
 have qm1:=HX.out.1.below hb1' HX.out.1.lt
 have q41:=HX.out.2.1.below hb1' HX.out.2.1.lt
 have q51:=HX.out.2.2.1.below hb1' HX.out.2.2.1.lt
 refine hK.out _ _ ?_ (fun hHeld1=>?_)
 · exact range_blk qm1
 clear hK K hHeld0
 try simp only [Act.put,zA,zB,zC,zD,zE,zF]
 refine wpAnyH_ready (rs:=[3]) (by kernel_rfl) (by simp) ?_
 refine AllReadyH.cons rfl (fun K hK=>?_) AllReadyH.nil
 refine wp_store_abs 66 (.tmp 4) (.tmp 31) rfl g4 z4 (rcells R).toArray rfl rfl q41 (by rw [HZ.out.1,List.size_toArray,HRL.out]) (by rw [List.size_toArray,HRL.out];exact infoRM) HRO.out ?_
 intro V2 hv4 hs4 hl4
 have qm2:=(hs4 gm HX.out.2.2.2).trans qm1
 have q52:=(hs4 g5 (blk_ne q51 q41 (by decide))).trans q51
 refine hK.out _ _ ?_ (fun hHeld2=>?_)
 · exact range_blk qm2
 clear hK K hHeld1
 try simp only [Act.put,zA,zB,zC,zD,zE,zF]
 refine wpAnyH_ready (rs:=[4]) (by kernel_rfl) (by simp) ?_
 refine AllReadyH.cons rfl (fun K hK=>?_) AllReadyH.nil
 refine wp_store_abs 52 (.tmp 5) (.tmp 33) rfl g5 z5 ((errA e).cells none 0).toArray rfl rfl q52 (by rw [HZ.out.2];rfl) infoAns (err_one _) ?_
 intro V3 hv5 hs5 hl5
 have hv43:=(hs5 g4 (blk_ne hv4 q52 (by decide))).trans hv4
 have qm3:=(hs5 gm (blk_ne qm2 q52 (by decide))).trans qm2
 refine hK.out _ _ ?_ (fun hHeld3=>?_)
 · exact range_blk qm3
 clear hK K hHeld2
 try simp only [Act.put,zA,zB,zC,zD,zE,zF]
 refine wpAnyH_done (by kernel_rfl) ?_ _
 exact NoPanic.normal (HQ.out _ _ _ V3 hv43 hv5 (fun B w h4 h5 hb=>hl5 B w h5 (hl4 B w h4 (below_of (by have:=HX.out.2.1.lt;omega) hb hb1'))))
set_option maxHeartbeats 3200000 in
set_option maxRecDepth 100000 in
theorem do_bad {W:World} {R:RMd} {gm g4 g5:Nat} {z4 z5:Array Value} {Q:Exit→Act→World→Prop} (hs:∀ t,StOk (R t).st) (qm:Blk W gm 66 (rcells R).toArray) (q4:Blk W g4 66 z4) (q5:Blk W g5 52 z5) (hz4:z4.size=272) (hz5:z5.size=17) (hne:gm ≠ g4)
 (hQ:∀ (s82 s83:Value) (W':World),Blk W' g4 66 (rcells R).toArray→Blk W' g5 52 ((errA (2)).cells none 0).toArray→(∀ B w,B ≤ g4→B ≤ g5→Below B w W→Below B w W')→Q .normal ⟨#[Xa,Xb,.pointer (some ⟨gm,0,none⟩),Xd,.pointer (some ⟨g4,0,none⟩),.pointer (some ⟨g5,0,none⟩),Xg,Xh,Xi,Xj,Xk,Xl,Xm,Xn,Xo,Xp,Xq,Xr,Xs,Xt,Xu,Xv,Xw,Xx,Xy,Xz,Ya,Yb,Yc,Yd,Ye,Yf,Yg,Yh,Yi,Yj,Yk,Yl,Ym,Yn,Yo,Yp,Yq,Yr,Ys,Yt,Yu,Yv,Yw,Yx,Yy,Yz,Za,Zb,Zc,Zd,Ze,Zf,Zg,Zh,Zi,Zj,Zk,Zl,Zm,Zn,Zo,Zp,Zq,Zr,Zs,Zt,Zu,Zv,Zw,Zx,Zy,Zz,Ja,Jb,Jc,Jd,s82,s83,Jg,Jh,Ji,Jj,Jk,Jl,Jm,Jn,Jo,Jp,Jq,Jr,Js,Jt,Ju,Jv,Jw,Jy,Jz,Va,Vb,Vc,Vd,Ve,Vf,Vg,Vh,Vi,Vj,Vk,Vl,Vm,Vn,Vo,Vp,Vq,Vr,Vs,Vt,Vu,Vv,Vw,Vx,Vy,Vz,Oa,Ob,Oc,Od,Oe,Og,Oh,Oi,Oj,Ok,Ol,Om,On,Oo,Oq,Ot],[]⟩ W') :
 Code.wp Tryz.prog (part Tryz.f17 [1,1,1,1,1,0,1,3,0]) Q ⟨#[Xa,Xb,.pointer (some ⟨gm,0,none⟩),Xd,.pointer (some ⟨g4,0,none⟩),.pointer (some ⟨g5,0,none⟩),Xg,Xh,Xi,Xj,Xk,Xl,Xm,Xn,Xo,Xp,Xq,Xr,Xs,Xt,Xu,Xv,Xw,Xx,Xy,Xz,Ya,Yb,Yc,Yd,Ye,Yf,Yg,Yh,Yi,Yj,Yk,Yl,Ym,Yn,Yo,Yp,Yq,Yr,Ys,Yt,Yu,Yv,Yw,Yx,Yy,Yz,Za,Zb,Zc,Zd,Ze,Zf,Zg,Zh,Zi,Zj,Zk,Zl,Zm,Zn,Zo,Zp,Zq,Zr,Zs,Zt,Zu,Zv,Zw,Zx,Zy,Zz,Ja,Jb,Jc,Jd,Je,Jf,Jg,Jh,Ji,Jj,Jk,Jl,Jm,Jn,Jo,Jp,Jq,Jr,Js,Jt,Ju,Jv,Jw,Jy,Jz,Va,Vb,Vc,Vd,Ve,Vf,Vg,Vh,Vi,Vj,Vk,Vl,Vm,Vn,Vo,Vp,Vq,Vr,Vs,Vt,Vu,Vv,Vw,Vx,Vy,Vz,Oa,Ob,Oc,Od,Oe,Og,Oh,Oi,Oj,Ok,Ol,Om,On,Oo,Oq,Ot],[]⟩ W:=by
 conv=>arg 2;whnf
 have HQ:=Lib.hid hQ
 have HRL:=Lib.hid (rcells_len hs)
 have HRO:=Lib.hid (rcells_one hs)
 have HX:=Lib.hid (And.intro qm (And.intro q4 (And.intro q5 hne)))
 have HZ:=Lib.hid (And.intro hz4 hz5)
 have h0:W.drew.rangeAt gm 0 (rcells R):=range_blk (qm.below (show Below W.heap.size W W.drew from (Below.refl _ _).drew) qm.lt)
 clear hQ hs qm q4 q5 hz4 hz5 hne
 refine wp_region_noPanic ?_
 refine wp_region_held_drew (S:=(fun V:World=>V.rangeAt gm 0 (rcells R))) (by kernel_rfl) ?_ (fun hHeld0=>?_)
 · exact h0
 refine tk (i:=0) rfl (yieldsIf_load_mid rfl 66 (.tmp 2) rfl gm 0 rfl (rcells R) _ (fun w hw=>hw) Tryz.underlying66 rfl (by rw [HRL.out];exact infoRM)) hHeld0 ?_
 try simp only [Act.put,zA,zB,zC,zD,zE,zF]
 refine wpAnyH_ready (rs:=[1]) (by kernel_rfl) (by simp) ?_
 refine AllReadyH.cons rfl (fun K hK=>?_) AllReadyH.nil
 go_simp
 with_reducible refine (failed_any _ _).mono ?_
 rintro en w1 ⟨rfl,hb1⟩
 have hb1':Below W.heap.size W w1:=⟨hb1.os,hb1.tape,hb1.output,hb1.size,hb1.block⟩
 have qm1:=HX.out.1.below hb1' HX.out.1.lt
 have q41:=HX.out.2.1.below hb1' HX.out.2.1.lt
 have q51:=HX.out.2.2.1.below hb1' HX.out.2.2.1.lt
 refine hK.out _ _ ?_ (fun hHeld1=>?_)
 · exact range_blk qm1
 clear hK K hHeld0
 try simp only [Act.put,zA,zB,zC,zD,zE,zF]
 refine wpAnyH_ready (rs:=[2]) (by kernel_rfl) (by simp) ?_
 refine AllReadyH.cons rfl (fun K hK=>?_) AllReadyH.nil
 refine wp_store_abs 66 (.tmp 4) (.tmp 82) rfl g4 z4 (rcells R).toArray rfl rfl q41 (by rw [HZ.out.1,List.size_toArray,HRL.out]) (by rw [List.size_toArray,HRL.out];exact infoRM) HRO.out ?_
 intro V2 hv4 hs4 hl4
 have qm2:=(hs4 gm HX.out.2.2.2).trans qm1
 have q52:=(hs4 g5 (blk_ne q51 q41 (by decide))).trans q51
 refine hK.out _ _ ?_ (fun hHeld2=>?_)
 · exact range_blk qm2
 clear hK K hHeld1
 try simp only [Act.put,zA,zB,zC,zD,zE,zF]
 refine wpAnyH_ready (rs:=[3]) (by kernel_rfl) (by simp) ?_
 refine AllReadyH.cons rfl (fun K hK=>?_) AllReadyH.nil
 refine wp_store_abs 52 (.tmp 5) (.tmp 83) rfl g5 z5 ((errA (2)).cells none 0).toArray rfl rfl q52 (by rw [HZ.out.2];rfl) infoAns (err_one _) ?_
 intro V3 hv5 hs5 hl5
 have hv43:=(hs5 g4 (blk_ne hv4 q52 (by decide))).trans hv4
 have qm3:=(hs5 gm (blk_ne qm2 q52 (by decide))).trans qm2
 refine hK.out _ _ ?_ (fun hHeld3=>?_)
 · exact range_blk qm3
 clear hK K hHeld2
 try simp only [Act.put,zA,zB,zC,zD,zE,zF]
 refine wpAnyH_done (by kernel_rfl) ?_ _
 exact NoPanic.normal (HQ.out _ _ V3 hv43 hv5 (fun B w h4 h5 hb=>hl5 B w h5 (hl4 B w h4 (below_of (by have:=HX.out.2.1.lt;omega) hb hb1'))))
set_option maxHeartbeats 3200000 in
set_option maxRecDepth 100000 in
theorem do_twice {W:World} {R:RMd} {gm g4 g5:Nat} {z4 z5:Array Value} {Q:Exit→Act→World→Prop} (hs:∀ t,StOk (R t).st) (qm:Blk W gm 66 (rcells R).toArray) (q4:Blk W g4 66 z4) (q5:Blk W g5 52 z5) (hz4:z4.size=272) (hz5:z5.size=17) (hne:gm ≠ g4)
 (hQ:∀ (s90 s91:Value) (W':World),Blk W' g4 66 (rcells R).toArray→Blk W' g5 52 ((errA (8)).cells none 0).toArray→(∀ B w,B ≤ g4→B ≤ g5→Below B w W→Below B w W')→Q .normal ⟨#[Xa,Xb,.pointer (some ⟨gm,0,none⟩),Xd,.pointer (some ⟨g4,0,none⟩),.pointer (some ⟨g5,0,none⟩),Xg,Xh,Xi,Xj,Xk,Xl,Xm,Xn,Xo,Xp,Xq,Xr,Xs,Xt,Xu,Xv,Xw,Xx,Xy,Xz,Ya,Yb,Yc,Yd,Ye,Yf,Yg,Yh,Yi,Yj,Yk,Yl,Ym,Yn,Yo,Yp,Yq,Yr,Ys,Yt,Yu,Yv,Yw,Yx,Yy,Yz,Za,Zb,Zc,Zd,Ze,Zf,Zg,Zh,Zi,Zj,Zk,Zl,Zm,Zn,Zo,Zp,Zq,Zr,Zs,Zt,Zu,Zv,Zw,Zx,Zy,Zz,Ja,Jb,Jc,Jd,Je,Jf,Jg,Jh,Ji,Jj,Jk,Jl,s90,s91,Jo,Jp,Jq,Jr,Js,Jt,Ju,Jv,Jw,Jy,Jz,Va,Vb,Vc,Vd,Ve,Vf,Vg,Vh,Vi,Vj,Vk,Vl,Vm,Vn,Vo,Vp,Vq,Vr,Vs,Vt,Vu,Vv,Vw,Vx,Vy,Vz,Oa,Ob,Oc,Od,Oe,Og,Oh,Oi,Oj,Ok,Ol,Om,On,Oo,Oq,Ot],[]⟩ W') :
 Code.wp Tryz.prog (part Tryz.f17 [1,1,1,1,1,1,0,1,3,0,1,3,0]) Q ⟨#[Xa,Xb,.pointer (some ⟨gm,0,none⟩),Xd,.pointer (some ⟨g4,0,none⟩),.pointer (some ⟨g5,0,none⟩),Xg,Xh,Xi,Xj,Xk,Xl,Xm,Xn,Xo,Xp,Xq,Xr,Xs,Xt,Xu,Xv,Xw,Xx,Xy,Xz,Ya,Yb,Yc,Yd,Ye,Yf,Yg,Yh,Yi,Yj,Yk,Yl,Ym,Yn,Yo,Yp,Yq,Yr,Ys,Yt,Yu,Yv,Yw,Yx,Yy,Yz,Za,Zb,Zc,Zd,Ze,Zf,Zg,Zh,Zi,Zj,Zk,Zl,Zm,Zn,Zo,Zp,Zq,Zr,Zs,Zt,Zu,Zv,Zw,Zx,Zy,Zz,Ja,Jb,Jc,Jd,Je,Jf,Jg,Jh,Ji,Jj,Jk,Jl,Jm,Jn,Jo,Jp,Jq,Jr,Js,Jt,Ju,Jv,Jw,Jy,Jz,Va,Vb,Vc,Vd,Ve,Vf,Vg,Vh,Vi,Vj,Vk,Vl,Vm,Vn,Vo,Vp,Vq,Vr,Vs,Vt,Vu,Vv,Vw,Vx,Vy,Vz,Oa,Ob,Oc,Od,Oe,Og,Oh,Oi,Oj,Ok,Ol,Om,On,Oo,Oq,Ot],[]⟩ W:=by
 conv=>arg 2;whnf
 have HQ:=Lib.hid hQ
 have HRL:=Lib.hid (rcells_len hs)
 have HRO:=Lib.hid (rcells_one hs)
 have HX:=Lib.hid (And.intro qm (And.intro q4 (And.intro q5 hne)))
 have HZ:=Lib.hid (And.intro hz4 hz5)
 have h0:W.drew.rangeAt gm 0 (rcells R):=range_blk (qm.below (show Below W.heap.size W W.drew from (Below.refl _ _).drew) qm.lt)
 clear hQ hs qm q4 q5 hz4 hz5 hne
 refine wp_region_noPanic ?_
 refine wp_region_held_drew (S:=(fun V:World=>V.rangeAt gm 0 (rcells R))) (by kernel_rfl) ?_ (fun hHeld0=>?_)
 · exact h0
 refine tk (i:=0) rfl (yieldsIf_load_mid rfl 66 (.tmp 2) rfl gm 0 rfl (rcells R) _ (fun w hw=>hw) Tryz.underlying66 rfl (by rw [HRL.out];exact infoRM)) hHeld0 ?_
 try simp only [Act.put,zA,zB,zC,zD,zE,zF]
 refine wpAnyH_ready (rs:=[1]) (by kernel_rfl) (by simp) ?_
 refine AllReadyH.cons rfl (fun K hK=>?_) AllReadyH.nil
 go_simp
 with_reducible refine (failed_any _ _).mono ?_
 rintro en w1 ⟨rfl,hb1⟩
 have hb1':Below W.heap.size W w1:=⟨hb1.os,hb1.tape,hb1.output,hb1.size,hb1.block⟩
 have qm1:=HX.out.1.below hb1' HX.out.1.lt
 have q41:=HX.out.2.1.below hb1' HX.out.2.1.lt
 have q51:=HX.out.2.2.1.below hb1' HX.out.2.2.1.lt
 refine hK.out _ _ ?_ (fun hHeld1=>?_)
 · exact range_blk qm1
 clear hK K hHeld0
 try simp only [Act.put,zA,zB,zC,zD,zE,zF]
 refine wpAnyH_ready (rs:=[2]) (by kernel_rfl) (by simp) ?_
 refine AllReadyH.cons rfl (fun K hK=>?_) AllReadyH.nil
 refine wp_store_abs 66 (.tmp 4) (.tmp 90) rfl g4 z4 (rcells R).toArray rfl rfl q41 (by rw [HZ.out.1,List.size_toArray,HRL.out]) (by rw [List.size_toArray,HRL.out];exact infoRM) HRO.out ?_
 intro V2 hv4 hs4 hl4
 have qm2:=(hs4 gm HX.out.2.2.2).trans qm1
 have q52:=(hs4 g5 (blk_ne q51 q41 (by decide))).trans q51
 refine hK.out _ _ ?_ (fun hHeld2=>?_)
 · exact range_blk qm2
 clear hK K hHeld1
 try simp only [Act.put,zA,zB,zC,zD,zE,zF]
 refine wpAnyH_ready (rs:=[3]) (by kernel_rfl) (by simp) ?_
 refine AllReadyH.cons rfl (fun K hK=>?_) AllReadyH.nil
 refine wp_store_abs 52 (.tmp 5) (.tmp 91) rfl g5 z5 ((errA (8)).cells none 0).toArray rfl rfl q52 (by rw [HZ.out.2];rfl) infoAns (err_one _) ?_
 intro V3 hv5 hs5 hl5
 have hv43:=(hs5 g4 (blk_ne hv4 q52 (by decide))).trans hv4
 have qm3:=(hs5 gm (blk_ne qm2 q52 (by decide))).trans qm2
 refine hK.out _ _ ?_ (fun hHeld3=>?_)
 · exact range_blk qm3
 clear hK K hHeld2
 try simp only [Act.put,zA,zB,zC,zD,zE,zF]
 refine wpAnyH_done (by kernel_rfl) ?_ _
 exact NoPanic.normal (HQ.out _ _ V3 hv43 hv5 (fun B w h4 h5 hb=>hl5 B w h5 (hl4 B w h4 (below_of (by have:=HX.out.2.1.lt;omega) hb hb1'))))
set_option maxHeartbeats 3200000 in
set_option maxRecDepth 100000 in
theorem do_none {W:World} {R:RMd} {gm g4 g5:Nat} {z4 z5:Array Value} {Q:Exit→Act→World→Prop} (hs:∀ t,StOk (R t).st) (qm:Blk W gm 66 (rcells R).toArray) (q4:Blk W g4 66 z4) (q5:Blk W g5 52 z5) (hz4:z4.size=272) (hz5:z5.size=17) (hne:gm ≠ g4)
 (hQ:∀ (s110 s111:Value) (W':World),Blk W' g4 66 (rcells R).toArray→Blk W' g5 52 ((errA (5)).cells none 0).toArray→(∀ B w,B ≤ g4→B ≤ g5→Below B w W→Below B w W')→Q .normal ⟨#[Xa,Xb,.pointer (some ⟨gm,0,none⟩),Xd,.pointer (some ⟨g4,0,none⟩),.pointer (some ⟨g5,0,none⟩),Xg,Xh,Xi,Xj,Xk,Xl,Xm,Xn,Xo,Xp,Xq,Xr,Xs,Xt,Xu,Xv,Xw,Xx,Xy,Xz,Ya,Yb,Yc,Yd,Ye,Yf,Yg,Yh,Yi,Yj,Yk,Yl,Ym,Yn,Yo,Yp,Yq,Yr,Ys,Yt,Yu,Yv,Yw,Yx,Yy,Yz,Za,Zb,Zc,Zd,Ze,Zf,Zg,Zh,Zi,Zj,Zk,Zl,Zm,Zn,Zo,Zp,Zq,Zr,Zs,Zt,Zu,Zv,Zw,Zx,Zy,Zz,Ja,Jb,Jc,Jd,Je,Jf,Jg,Jh,Ji,Jj,Jk,Jl,Jm,Jn,Jo,Jp,Jq,Jr,Js,Jt,Ju,Jv,Jw,Jy,Jz,Va,Vb,Vc,Vd,Ve,Vf,Vg,s110,s111,Vj,Vk,Vl,Vm,Vn,Vo,Vp,Vq,Vr,Vs,Vt,Vu,Vv,Vw,Vx,Vy,Vz,Oa,Ob,Oc,Od,Oe,Og,Oh,Oi,Oj,Ok,Ol,Om,On,Oo,Oq,Ot],[]⟩ W') :
 Code.wp Tryz.prog (part Tryz.f17 [1,1,1,1,1,1,1,0,1,3,0]) Q ⟨#[Xa,Xb,.pointer (some ⟨gm,0,none⟩),Xd,.pointer (some ⟨g4,0,none⟩),.pointer (some ⟨g5,0,none⟩),Xg,Xh,Xi,Xj,Xk,Xl,Xm,Xn,Xo,Xp,Xq,Xr,Xs,Xt,Xu,Xv,Xw,Xx,Xy,Xz,Ya,Yb,Yc,Yd,Ye,Yf,Yg,Yh,Yi,Yj,Yk,Yl,Ym,Yn,Yo,Yp,Yq,Yr,Ys,Yt,Yu,Yv,Yw,Yx,Yy,Yz,Za,Zb,Zc,Zd,Ze,Zf,Zg,Zh,Zi,Zj,Zk,Zl,Zm,Zn,Zo,Zp,Zq,Zr,Zs,Zt,Zu,Zv,Zw,Zx,Zy,Zz,Ja,Jb,Jc,Jd,Je,Jf,Jg,Jh,Ji,Jj,Jk,Jl,Jm,Jn,Jo,Jp,Jq,Jr,Js,Jt,Ju,Jv,Jw,Jy,Jz,Va,Vb,Vc,Vd,Ve,Vf,Vg,Vh,Vi,Vj,Vk,Vl,Vm,Vn,Vo,Vp,Vq,Vr,Vs,Vt,Vu,Vv,Vw,Vx,Vy,Vz,Oa,Ob,Oc,Od,Oe,Og,Oh,Oi,Oj,Ok,Ol,Om,On,Oo,Oq,Ot],[]⟩ W:=by
 conv=>arg 2;whnf
 have HQ:=Lib.hid hQ
 have HRL:=Lib.hid (rcells_len hs)
 have HRO:=Lib.hid (rcells_one hs)
 have HX:=Lib.hid (And.intro qm (And.intro q4 (And.intro q5 hne)))
 have HZ:=Lib.hid (And.intro hz4 hz5)
 have h0:W.drew.rangeAt gm 0 (rcells R):=range_blk (qm.below (show Below W.heap.size W W.drew from (Below.refl _ _).drew) qm.lt)
 clear hQ hs qm q4 q5 hz4 hz5 hne
 refine wp_region_noPanic ?_
 refine wp_region_held_drew (S:=(fun V:World=>V.rangeAt gm 0 (rcells R))) (by kernel_rfl) ?_ (fun hHeld0=>?_)
 · exact h0
 refine tk (i:=0) rfl (yieldsIf_load_mid rfl 66 (.tmp 2) rfl gm 0 rfl (rcells R) _ (fun w hw=>hw) Tryz.underlying66 rfl (by rw [HRL.out];exact infoRM)) hHeld0 ?_
 try simp only [Act.put,zA,zB,zC,zD,zE,zF]
 refine wpAnyH_ready (rs:=[1]) (by kernel_rfl) (by simp) ?_
 refine AllReadyH.cons rfl (fun K hK=>?_) AllReadyH.nil
 go_simp
 with_reducible refine (failed_any _ _).mono ?_
 rintro en w1 ⟨rfl,hb1⟩
 have hb1':Below W.heap.size W w1:=⟨hb1.os,hb1.tape,hb1.output,hb1.size,hb1.block⟩
 have qm1:=HX.out.1.below hb1' HX.out.1.lt
 have q41:=HX.out.2.1.below hb1' HX.out.2.1.lt
 have q51:=HX.out.2.2.1.below hb1' HX.out.2.2.1.lt
 refine hK.out _ _ ?_ (fun hHeld1=>?_)
 · exact range_blk qm1
 clear hK K hHeld0
 try simp only [Act.put,zA,zB,zC,zD,zE,zF]
 refine wpAnyH_ready (rs:=[2]) (by kernel_rfl) (by simp) ?_
 refine AllReadyH.cons rfl (fun K hK=>?_) AllReadyH.nil
 refine wp_store_abs 66 (.tmp 4) (.tmp 110) rfl g4 z4 (rcells R).toArray rfl rfl q41 (by rw [HZ.out.1,List.size_toArray,HRL.out]) (by rw [List.size_toArray,HRL.out];exact infoRM) HRO.out ?_
 intro V2 hv4 hs4 hl4
 have qm2:=(hs4 gm HX.out.2.2.2).trans qm1
 have q52:=(hs4 g5 (blk_ne q51 q41 (by decide))).trans q51
 refine hK.out _ _ ?_ (fun hHeld2=>?_)
 · exact range_blk qm2
 clear hK K hHeld1
 try simp only [Act.put,zA,zB,zC,zD,zE,zF]
 refine wpAnyH_ready (rs:=[3]) (by kernel_rfl) (by simp) ?_
 refine AllReadyH.cons rfl (fun K hK=>?_) AllReadyH.nil
 refine wp_store_abs 52 (.tmp 5) (.tmp 111) rfl g5 z5 ((errA (5)).cells none 0).toArray rfl rfl q52 (by rw [HZ.out.2];rfl) infoAns (err_one _) ?_
 intro V3 hv5 hs5 hl5
 have hv43:=(hs5 g4 (blk_ne hv4 q52 (by decide))).trans hv4
 have qm3:=(hs5 gm (blk_ne qm2 q52 (by decide))).trans qm2
 refine hK.out _ _ ?_ (fun hHeld3=>?_)
 · exact range_blk qm3
 clear hK K hHeld2
 try simp only [Act.put,zA,zB,zC,zD,zE,zF]
 refine wpAnyH_done (by kernel_rfl) ?_ _
 exact NoPanic.normal (HQ.out _ _ V3 hv43 hv5 (fun B w h4 h5 hb=>hl5 B w h5 (hl4 B w h4 (below_of (by have:=HX.out.2.1.lt;omega) hb hb1'))))
set_option maxHeartbeats 3200000 in
set_option maxRecDepth 100000 in
theorem do_handle {W:World} {R:RMd} {gm g4 g5:Nat} {z4 z5:Array Value} {Q:Exit→Act→World→Prop} {t gr:Nat} {gn:Int} {r:Req} (ht:t < 17) (hgn:(R t).gen=gn) (qr:Blk W gr 39 r.row.toArray) (hgr:gr ≠ g4) (hs:∀ t,StOk (R t).st) (qm:Blk W gm 66 (rcells R).toArray) (q4:Blk W g4 66 z4) (q5:Blk W g5 52 z5) (hz4:z4.size=272) (hz5:z5.size=17) (hne:gm ≠ g4)
 (hQ:∀ (s124 s125 s126 s127 s128 s129 s130 s131 s132 s133:Value) (W':World),Blk W' g4 66 (rcells R).toArray→Blk W' g5 52 (({ errA 0 with h:=⟨(t:Nat),gn,r.rights⟩ }:Ans).cells none 0).toArray→(∀ B w,B ≤ g4→B ≤ g5→Below B w W→Below B w W')→Q .normal ⟨#[Xa,Xb,.pointer (some ⟨gm,0,none⟩),.pointer (some ⟨gr,0,none⟩),.pointer (some ⟨g4,0,none⟩),.pointer (some ⟨g5,0,none⟩),Xg,Xh,Xi,Xj,.int .i64 (t:Nat),Xl,Xm,Xn,Xo,Xp,Xq,Xr,Xs,Xt,Xu,Xv,Xw,Xx,Xy,Xz,Ya,Yb,Yc,Yd,Ye,Yf,Yg,Yh,Yi,Yj,Yk,Yl,Ym,Yn,Yo,Yp,Yq,Yr,Ys,Yt,Yu,Yv,Yw,Yx,Yy,Yz,Za,Zb,Zc,Zd,Ze,Zf,Zg,Zh,Zi,Zj,Zk,Zl,Zm,Zn,Zo,Zp,Zq,Zr,Zs,Zt,Zu,Zv,Zw,Zx,Zy,Zz,Ja,Jb,Jc,Jd,Je,Jf,Jg,Jh,Ji,Jj,Jk,Jl,Jm,Jn,Jo,Jp,Jq,Jr,Js,Jt,Ju,Jv,Jw,Jy,Jz,Va,Vb,Vc,Vd,Ve,Vf,Vg,Vh,Vi,Vj,Vk,Vl,Vm,Vn,Vo,Vp,Vq,Vr,Vs,Vt,Vu,s124,s125,s126,s127,s128,s129,s130,s131,s132,s133,Og,Oh,Oi,Oj,Ok,Ol,Om,On,Oo,Oq,Ot],[]⟩ W') :
 Code.wp Tryz.prog (part Tryz.f17 [1,1,1,1,1,1,1,1,0,1,2,1,4,1,3,0]) Q ⟨#[Xa,Xb,.pointer (some ⟨gm,0,none⟩),.pointer (some ⟨gr,0,none⟩),.pointer (some ⟨g4,0,none⟩),.pointer (some ⟨g5,0,none⟩),Xg,Xh,Xi,Xj,.int .i64 (t:Nat),Xl,Xm,Xn,Xo,Xp,Xq,Xr,Xs,Xt,Xu,Xv,Xw,Xx,Xy,Xz,Ya,Yb,Yc,Yd,Ye,Yf,Yg,Yh,Yi,Yj,Yk,Yl,Ym,Yn,Yo,Yp,Yq,Yr,Ys,Yt,Yu,Yv,Yw,Yx,Yy,Yz,Za,Zb,Zc,Zd,Ze,Zf,Zg,Zh,Zi,Zj,Zk,Zl,Zm,Zn,Zo,Zp,Zq,Zr,Zs,Zt,Zu,Zv,Zw,Zx,Zy,Zz,Ja,Jb,Jc,Jd,Je,Jf,Jg,Jh,Ji,Jj,Jk,Jl,Jm,Jn,Jo,Jp,Jq,Jr,Js,Jt,Ju,Jv,Jw,Jy,Jz,Va,Vb,Vc,Vd,Ve,Vf,Vg,Vh,Vi,Vj,Vk,Vl,Vm,Vn,Vo,Vp,Vq,Vr,Vs,Vt,Vu,Vv,Vw,Vx,Vy,Vz,Oa,Ob,Oc,Od,Oe,Og,Oh,Oi,Oj,Ok,Ol,Om,On,Oo,Oq,Ot],[]⟩ W:=by
 conv=>arg 2;whnf
 have HQ:=Lib.hid hQ
 have HRL:=Lib.hid (rcells_len hs)
 have HRO:=Lib.hid (rcells_one hs)
 have hd:Below W.heap.size W W.drew:=(Below.refl _ _).drew
 have HX:=Lib.hid (And.intro (qm.below hd qm.lt) (And.intro (q4.below hd q4.lt) (And.intro (q5.below hd q5.lt) hne)))
 have HZ:=Lib.hid (And.intro hz4 hz5)
 have hc1:∀ V,Blk V gm 66 (rcells R).toArray→V.cell? ⟨gm,t * 16 + 1,none⟩=some (.int .u32 gn):=fun V hV=>by
  subst hgn
  exact rblk (j:=1) hV hs ht rfl
 have qr0:=qr.below hd qr.lt
 have hne5:gr ≠ g5:=blk_ne qr q5 (by decide)
 have hne4:gr ≠ g4:=hgr
 have h0:W.drew.rangeAt gm 0 (rcells R)∧W.drew.cell? ⟨gm,t * 16 + 1,none⟩=some (.int .u32 gn)∧W.drew.cell? ⟨gr,11,none⟩=some (.int .u8 r.rights):=⟨range_blk HX.out.1,hc1 _ HX.out.1,qr0.cell 11⟩
 have i0:(0:Int) ≤ (t:Int):=by omega
 have i1:(t:Int) < 17:=by omega
 have HK1:=Lib.hid hc1
 have HR:=Lib.hid (And.intro qr0 (And.intro hne4 hne5))
 clear hQ hs qm q4 q5 hz4 hz5 hne qr hgr hgn hc1 hd qr0 hne4 hne5
 refine wp_region_noPanic ?_
 refine wp_region_held_drew (S:=(fun V:World=>V.rangeAt gm 0 (rcells R)∧V.cell? ⟨gm,t * 16 + 1,none⟩=some (.int .u32 gn)∧V.cell? ⟨gr,11,none⟩=some (.int .u8 r.rights))) (by kernel_rfl) ?_ (fun hHeld0=>?_)
 · exact h0
 refine tk (i:=0) rfl (yieldsIf_load_mid rfl 66 (.tmp 2) rfl gm 0 rfl (rcells R) _ (fun w hw=>hw.1) Tryz.underlying66 rfl (by rw [HRL.out];exact infoRM)) hHeld0 ?_
 try simp only [Act.put,zA,zB,zC,zD,zE,zF]
 refine tk (i:=1) (v:=?_) rfl (Or.inl ⟨by rfl,?_⟩) hHeld0 ?_
 rotate_left
 · (intro w hSw;(try dsimp only at hSw);go_simp <;> with_reducible rfl)
 try simp only [Act.put,zA,zB,zC,zD,zE,zF]
 refine tk (i:=2) (v:=?_) rfl (Or.inl ⟨by rfl,?_⟩) hHeld0 ?_
 rotate_left
 · (intro w hSw;(try dsimp only at hSw);go_simp <;> with_reducible rfl)
 try simp only [Act.put,zA,zB,zC,zD,zE,zF]
 refine tk (i:=3) (v:=?_) rfl (Or.inl ⟨by rfl,?_⟩) hHeld0 ?_
 rotate_left
 · (intro w hSw;(try dsimp only at hSw);go_simp <;> with_reducible rfl)
 try simp only [Act.put,zA,zB,zC,zD,zE,zF]
 refine tk (i:=4) (v:=?_) rfl (Or.inl ⟨by rfl,?_⟩) hHeld0 ?_
 rotate_left
 · (intro w hSw;(try dsimp only at hSw);go_simp <;> with_reducible rfl)
 try simp only [Act.put,zA,zB,zC,zD,zE,zF]
 refine tk (i:=5) (v:=?_) rfl (Or.inl ⟨by rfl,?_⟩) hHeld0 ?_
 rotate_left
 · (intro w hSw;(try dsimp only at hSw);go_simp <;> with_reducible rfl)
 try simp only [Act.put,zA,zB,zC,zD,zE,zF]
 refine tk (i:=6) (v:=?_) rfl (Or.inl ⟨by rfl,?_⟩) hHeld0 ?_
 rotate_left
 · (intro w hSw;(try dsimp only at hSw);go_simp <;> with_reducible rfl)
 try simp only [Act.put,zA,zB,zC,zD,zE,zF]
 refine tk (i:=7) (v:=?_) rfl (Or.inl ⟨by rfl,?_⟩) hHeld0 ?_
 rotate_left
 · (intro w hSw;(try dsimp only at hSw);go_simp <;> with_reducible rfl)
 try simp only [Act.put,zA,zB,zC,zD,zE,zF]
 refine tk (i:=8) (v:=?_) rfl (Or.inl ⟨by rfl,?_⟩) hHeld0 ?_
 rotate_left
 · (intro w hSw;(try dsimp only at hSw);go_simp <;> with_reducible rfl)
 try simp only [Act.put,zA,zB,zC,zD,zE,zF]
 refine tk (i:=9) (v:=?_) rfl (Or.inl ⟨by rfl,?_⟩) hHeld0 ?_
 rotate_left
 · (intro w hSw;(try dsimp only at hSw);go_simp <;> with_reducible rfl)
 try simp only [Act.put,zA,zB,zC,zD,zE,zF]
 refine wpAnyH_ready (rs:=[10]) (by kernel_rfl) (by simp) ?_
 refine AllReadyH.cons rfl (fun K hK=>?_) AllReadyH.nil
 refine wp_store_abs 66 (.tmp 4) (.tmp 124) rfl g4 z4 (rcells R).toArray rfl rfl HX.out.2.1 (by rw [HZ.out.1,List.size_toArray,HRL.out]) (by rw [List.size_toArray,HRL.out];exact infoRM) HRO.out ?_
 intro V2 hv4 hs4 hl4
 have qm2:=(hs4 gm HX.out.2.2.2).trans HX.out.1
 have q52:=(hs4 g5 (blk_ne HX.out.2.2.1 HX.out.2.1 (by decide))).trans HX.out.2.2.1
 refine hK.out _ _ ?_ (fun hHeld1=>?_)
 · exact ⟨range_blk qm2,HK1.out _ qm2,(show Blk V2 gr 39 r.row.toArray from (hs4 gr HR.out.2.1).trans HR.out.1).cell 11⟩
 clear hK K hHeld0
 try simp only [Act.put,zA,zB,zC,zD,zE,zF]
 refine wpAnyH_ready (rs:=[11]) (by kernel_rfl) (by simp) ?_
 refine AllReadyH.cons rfl (fun K hK=>?_) AllReadyH.nil
 refine wp_store_abs 52 (.tmp 5) (.tmp 133) rfl g5 z5 (({ errA 0 with h:=⟨(t:Nat),gn,r.rights⟩ }:Ans).cells none 0).toArray rfl rfl q52 (by rw [HZ.out.2];rfl) infoAns (by simp [errA,Ans.cells,st0,Value.oneCell']) ?_
 intro V3 hv5 hs5 hl5
 have hv43:=(hs5 g4 (blk_ne hv4 q52 (by decide))).trans hv4
 have qm3:=(hs5 gm (blk_ne qm2 q52 (by decide))).trans qm2
 refine hK.out _ _ ?_ (fun hHeld2=>?_)
 · exact ⟨range_blk qm3,HK1.out _ qm3,(show Blk V3 gr 39 r.row.toArray from (hs5 gr HR.out.2.2).trans ((hs4 gr HR.out.2.1).trans HR.out.1)).cell 11⟩
 clear hK K hHeld1
 try simp only [Act.put,zA,zB,zC,zD,zE,zF]
 refine wpAnyH_done (by kernel_rfl) ?_ _
 exact NoPanic.normal (HQ.out _ _ _ _ _ _ _ _ _ _ V3 hv43 hv5 (fun B w h4 h5 hb=>hl5 B w h5 (hl4 B w h4 hb.drew)))
set_option maxHeartbeats 3200000 in
set_option maxRecDepth 100000 in
theorem do_stat {W:World} {R:RMd} {gm g4 g5:Nat} {z4 z5:Array Value} {Q:Exit→Act→World→Prop} {g9:Nat} {n0 n1 n2 n3 n4 n5 n6 n7 n8 n9:Int} {fa fb:Nat} (qs:Blk W g9 50 ([.int .u64 n0,.int .u64 n1,.int .u64 n2,.int .u64 n3,.int .u64 n4,.int .u64 n5,.int .u64 n6,.int .u64 n7,.int .u64 n8,.int .u64 n9,.complex .f64 fa fb]:List Value).toArray) (hs:∀ t,StOk (R t).st) (qm:Blk W gm 66 (rcells R).toArray) (q4:Blk W g4 66 z4) (q5:Blk W g5 52 z5) (hz4:z4.size=272) (hz5:z5.size=17) (hne:gm ≠ g4)
 (hQ:∀ (s49 s50 s51:Value) (W':World),Blk W' g4 66 (rcells R).toArray→Blk W' g5 52 (({ errA 0 with st:=[.int .u64 n0,.int .u64 n1,.int .u64 n2,.int .u64 n3,.int .u64 n4,.int .u64 n5,.int .u64 n6,.int .u64 n7,.int .u64 n8,.int .u64 n9,.complex .f64 fa fb] }:Ans).cells none 0).toArray→(∀ B w,B ≤ g4→B ≤ g5→Below B w W→Below B w W')→Q .normal ⟨#[Xa,Xb,.pointer (some ⟨gm,0,none⟩),Xd,.pointer (some ⟨g4,0,none⟩),.pointer (some ⟨g5,0,none⟩),Xg,Xh,Xi,.pointer (some ⟨g9,0,none⟩),Xk,Xl,Xm,Xn,Xo,Xp,Xq,Xr,Xs,Xt,Xu,Xv,Xw,Xx,Xy,Xz,Ya,Yb,Yc,Yd,Ye,Yf,Yg,Yh,Yi,Yj,Yk,Yl,Ym,Yn,Yo,Yp,Yq,Yr,Ys,Yt,Yu,Yv,Yw,s49,s50,s51,Za,Zb,Zc,Zd,Ze,Zf,Zg,Zh,Zi,Zj,Zk,Zl,Zm,Zn,Zo,Zp,Zq,Zr,Zs,Zt,Zu,Zv,Zw,Zx,Zy,Zz,Ja,Jb,Jc,Jd,Je,Jf,Jg,Jh,Ji,Jj,Jk,Jl,Jm,Jn,Jo,Jp,Jq,Jr,Js,Jt,Ju,Jv,Jw,Jy,Jz,Va,Vb,Vc,Vd,Ve,Vf,Vg,Vh,Vi,Vj,Vk,Vl,Vm,Vn,Vo,Vp,Vq,Vr,Vs,Vt,Vu,Vv,Vw,Vx,Vy,Vz,Oa,Ob,Oc,Od,Oe,Og,Oh,Oi,Oj,Ok,Ol,Om,On,Oo,Oq,Ot],[]⟩ W') :
 Code.wp Tryz.prog (part Tryz.f17 [1,1,1,0,1,3,1,1,1,1,1,0]) Q ⟨#[Xa,Xb,.pointer (some ⟨gm,0,none⟩),Xd,.pointer (some ⟨g4,0,none⟩),.pointer (some ⟨g5,0,none⟩),Xg,Xh,Xi,.pointer (some ⟨g9,0,none⟩),Xk,Xl,Xm,Xn,Xo,Xp,Xq,Xr,Xs,Xt,Xu,Xv,Xw,Xx,Xy,Xz,Ya,Yb,Yc,Yd,Ye,Yf,Yg,Yh,Yi,Yj,Yk,Yl,Ym,Yn,Yo,Yp,Yq,Yr,Ys,Yt,Yu,Yv,Yw,Yx,Yy,Yz,Za,Zb,Zc,Zd,Ze,Zf,Zg,Zh,Zi,Zj,Zk,Zl,Zm,Zn,Zo,Zp,Zq,Zr,Zs,Zt,Zu,Zv,Zw,Zx,Zy,Zz,Ja,Jb,Jc,Jd,Je,Jf,Jg,Jh,Ji,Jj,Jk,Jl,Jm,Jn,Jo,Jp,Jq,Jr,Js,Jt,Ju,Jv,Jw,Jy,Jz,Va,Vb,Vc,Vd,Ve,Vf,Vg,Vh,Vi,Vj,Vk,Vl,Vm,Vn,Vo,Vp,Vq,Vr,Vs,Vt,Vu,Vv,Vw,Vx,Vy,Vz,Oa,Ob,Oc,Od,Oe,Og,Oh,Oi,Oj,Ok,Ol,Om,On,Oo,Oq,Ot],[]⟩ W:=by
 conv=>arg 2;whnf
 have HQ:=Lib.hid hQ
 have HRL:=Lib.hid (rcells_len hs)
 have HRO:=Lib.hid (rcells_one hs)
 have hd:Below W.heap.size W W.drew:=(Below.refl _ _).drew
 have HX:=Lib.hid (And.intro (qm.below hd qm.lt) (And.intro (q4.below hd q4.lt) (And.intro (q5.below hd q5.lt) hne)))
 have HZ:=Lib.hid (And.intro hz4 hz5)
 have qs0:=qs.below hd qs.lt
 have h0:W.drew.rangeAt gm 0 (rcells R)∧W.drew.rangeAt g9 0 [.int .u64 n0,.int .u64 n1,.int .u64 n2,.int .u64 n3,.int .u64 n4,.int .u64 n5,.int .u64 n6,.int .u64 n7,.int .u64 n8,.int .u64 n9,.complex .f64 fa fb]:=⟨range_blk HX.out.1,range_blk qs0⟩
 have HR:=Lib.hid (And.intro qs0 (And.intro (blk_ne qs q4 (by decide)) (blk_ne qs q5 (by decide))))
 clear hQ hs qm q4 q5 hz4 hz5 hne qs hd qs0
 refine wp_region_noPanic ?_
 refine wp_region_held_drew (S:=(fun V:World=>V.rangeAt gm 0 (rcells R)∧V.rangeAt g9 0 [.int .u64 n0,.int .u64 n1,.int .u64 n2,.int .u64 n3,.int .u64 n4,.int .u64 n5,.int .u64 n6,.int .u64 n7,.int .u64 n8,.int .u64 n9,.complex .f64 fa fb])) (by kernel_rfl) ?_ (fun hHeld0=>?_)
 · exact h0
 refine tk (i:=0) rfl (yieldsIf_load_mid rfl 66 (.tmp 2) rfl gm 0 rfl (rcells R) _ (fun w hw=>hw.1) Tryz.underlying66 rfl (by rw [HRL.out];exact infoRM)) hHeld0 ?_
 try simp only [Act.put,zA,zB,zC,zD,zE,zF]
 refine tk (i:=1) rfl (yieldsIf_load_mid rfl 50 (.tmp 9) rfl g9 0 rfl [.int .u64 n0,.int .u64 n1,.int .u64 n2,.int .u64 n3,.int .u64 n4,.int .u64 n5,.int .u64 n6,.int .u64 n7,.int .u64 n8,.int .u64 n9,.complex .f64 fa fb] _ (fun w hw=>hw.2) Tryz.underlying50 rfl infoStR) hHeld0 ?_
 try simp only [Act.put,zA,zB,zC,zD,zE,zF]
 refine tk (i:=2) (v:=?_) rfl (Or.inl ⟨by rfl,?_⟩) hHeld0 ?_
 rotate_left
 · (intro w hSw;(try dsimp only at hSw);go_simp <;> with_reducible rfl)
 try simp only [Act.put,zA,zB,zC,zD,zE,zF]
 refine wpAnyH_ready (rs:=[3]) (by kernel_rfl) (by simp) ?_
 refine AllReadyH.cons rfl (fun K hK=>?_) AllReadyH.nil
 refine wp_store_abs 66 (.tmp 4) (.tmp 49) rfl g4 z4 (rcells R).toArray rfl rfl HX.out.2.1 (by rw [HZ.out.1,List.size_toArray,HRL.out]) (by rw [List.size_toArray,HRL.out];exact infoRM) HRO.out ?_
 intro V2 hv4 hs4 hl4
 have qm2:=(hs4 gm HX.out.2.2.2).trans HX.out.1
 have q52:=(hs4 g5 (blk_ne HX.out.2.2.1 HX.out.2.1 (by decide))).trans HX.out.2.2.1
 refine hK.out _ _ ?_ (fun hHeld1=>?_)
 · exact ⟨range_blk qm2,range_blk ((hs4 g9 HR.out.2.1).trans HR.out.1)⟩
 clear hK K hHeld0
 try simp only [Act.put,zA,zB,zC,zD,zE,zF]
 refine wpAnyH_ready (rs:=[4]) (by kernel_rfl) (by simp) ?_
 refine AllReadyH.cons rfl (fun K hK=>?_) AllReadyH.nil
 refine wp_store_abs 52 (.tmp 5) (.tmp 51) rfl g5 z5 (({ errA 0 with st:=[.int .u64 n0,.int .u64 n1,.int .u64 n2,.int .u64 n3,.int .u64 n4,.int .u64 n5,.int .u64 n6,.int .u64 n7,.int .u64 n8,.int .u64 n9,.complex .f64 fa fb] }:Ans).cells none 0).toArray rfl rfl q52 (by rw [HZ.out.2];rfl) infoAns (by simp [errA,Ans.cells,st0,Value.oneCell']) ?_
 intro V3 hv5 hs5 hl5
 have hv43:=(hs5 g4 (blk_ne hv4 q52 (by decide))).trans hv4
 have qm3:=(hs5 gm (blk_ne qm2 q52 (by decide))).trans qm2
 refine hK.out _ _ ?_ (fun hHeld2=>?_)
 · exact ⟨range_blk qm3,range_blk ((hs5 g9 HR.out.2.2).trans ((hs4 g9 HR.out.2.1).trans HR.out.1))⟩
 clear hK K hHeld1
 try simp only [Act.put,zA,zB,zC,zD,zE,zF]
 refine wpAnyH_done (by kernel_rfl) ?_ _
 exact NoPanic.normal (HQ.out _ _ _ V3 hv43 hv5 (fun B w h4 h5 hb=>hl5 B w h5 (hl4 B w h4 hb.drew)))
set_option maxHeartbeats 3200000 in
set_option maxRecDepth 100000 in
theorem do_make {W:World} {R:RMd} {gm gr t:Nat} {gn:Int} {r:Req} {Q:Exit→Act→World→Prop} (hs:∀ t,StOk (R t).st) (ht:t < 17) (hgn:(R t).gen=gn) (qm:Blk W gm 66 (rcells R).toArray) (qr:Blk W gr 39 r.row.toArray)
 (hQ:∀ (s92 s93 s94 s95 s96 s97 s98 s99 s100 s101 s102:Value) (W':World),Blk W' gm 66 (rcells (updR R t ⟨true,IntKind.u32.wrap (gn + 1),⟨none,0,[],r.qk,r.qb⟩,st0⟩)).toArray→(∀ B w,B ≤ gm→Below B w W→Below B w W')→(∀ i,i ≠ gm→W'.heap[i]?=W.heap[i]?)→Q .normal ⟨#[Xa,Xb,.pointer (some ⟨gm,0,none⟩),.pointer (some ⟨gr,0,none⟩),Xe,Xf,Xg,Xh,Xi,Xj,.int .i64 (t:Nat),Xl,Xm,Xn,Xo,Xp,Xq,Xr,Xs,Xt,Xu,Xv,Xw,Xx,Xy,Xz,Ya,Yb,Yc,Yd,Ye,Yf,Yg,Yh,Yi,Yj,Yk,Yl,Ym,Yn,Yo,Yp,Yq,Yr,Ys,Yt,Yu,Yv,Yw,Yx,Yy,Yz,Za,Zb,Zc,Zd,Ze,Zf,Zg,Zh,Zi,Zj,Zk,Zl,Zm,Zn,Zo,Zp,Zq,Zr,Zs,Zt,Zu,Zv,Zw,Zx,Zy,Zz,Ja,Jb,Jc,Jd,Je,Jf,Jg,Jh,Ji,Jj,Jk,Jl,Jm,Jn,s92,s93,s94,s95,s96,s97,s98,s99,s100,s101,s102,Va,Vb,Vc,Vd,Ve,Vf,Vg,Vh,Vi,Vj,Vk,Vl,Vm,Vn,Vo,Vp,Vq,Vr,Vs,Vt,Vu,Vv,Vw,Vx,Vy,Vz,Oa,Ob,Oc,Od,Oe,Og,Oh,Oi,Oj,Ok,Ol,Om,On,Oo,Oq,Ot],[]⟩ W') :
 Code.wp Tryz.prog (part Tryz.f17 [1,1,1,1,1,1,0,1,3,1,0]) Q ⟨#[Xa,Xb,.pointer (some ⟨gm,0,none⟩),.pointer (some ⟨gr,0,none⟩),Xe,Xf,Xg,Xh,Xi,Xj,.int .i64 (t:Nat),Xl,Xm,Xn,Xo,Xp,Xq,Xr,Xs,Xt,Xu,Xv,Xw,Xx,Xy,Xz,Ya,Yb,Yc,Yd,Ye,Yf,Yg,Yh,Yi,Yj,Yk,Yl,Ym,Yn,Yo,Yp,Yq,Yr,Ys,Yt,Yu,Yv,Yw,Yx,Yy,Yz,Za,Zb,Zc,Zd,Ze,Zf,Zg,Zh,Zi,Zj,Zk,Zl,Zm,Zn,Zo,Zp,Zq,Zr,Zs,Zt,Zu,Zv,Zw,Zx,Zy,Zz,Ja,Jb,Jc,Jd,Je,Jf,Jg,Jh,Ji,Jj,Jk,Jl,Jm,Jn,Jo,Jp,Jq,Jr,Js,Jt,Ju,Jv,Jw,Jy,Jz,Va,Vb,Vc,Vd,Ve,Vf,Vg,Vh,Vi,Vj,Vk,Vl,Vm,Vn,Vo,Vp,Vq,Vr,Vs,Vt,Vu,Vv,Vw,Vx,Vy,Vz,Oa,Ob,Oc,Od,Oe,Og,Oh,Oi,Oj,Ok,Ol,Om,On,Oo,Oq,Ot],[]⟩ W:=by
 conv=>arg 2;whnf
 have HQ:=Lib.hid hQ
 have HS:=Lib.hid hs
 have HRL:=Lib.hid (rcells_len hs)
 have hd:Below W.heap.size W W.drew:=(Below.refl _ _).drew
 have HX:=Lib.hid (qm.below hd qm.lt)
 have qr0:=qr.below hd qr.lt
 have h0:W.drew.cell? ⟨gm,t * 16 + 1,none⟩=some (.int .u32 gn)∧W.drew.cell? ⟨gr,9,none⟩=some (.int .u64 r.qk)∧W.drew.cell? ⟨gr,10,none⟩=some (.int .u64 r.qb):=⟨by subst hgn;exact rblk (j:=1) HX.out hs ht rfl,qr0.cell 9,qr0.cell 10⟩
 have i0:(0:Int) ≤ (t:Int):=by omega
 have i1:(t:Int) < 17:=by omega
 clear hQ hs qm qr hd qr0 hgn
 refine wp_region_noPanic ?_
 have hHeld0:=h0
 refine wp_region_L 11 (fun V:World=>V.cell? ⟨gm,t * 16 + 1,none⟩=some (.int .u32 gn)∧V.cell? ⟨gr,9,none⟩=some (.int .u64 r.qk)∧V.cell? ⟨gr,10,none⟩=some (.int .u64 r.qb)) (by kernel_rfl) ?_
 refine wpAnyL_take (i:=0) (v:=?_) rfl (by kernel_rfl) (by kernel_rfl) (by kernel_rfl) (by kernel_rfl) (fun _ _ _ h=>h) (Or.inl ⟨by rfl,?_⟩) hHeld0 ?_
 rotate_left
 · (intro w hSw;(try dsimp only at hSw);go_simp <;> with_reducible rfl)
 try simp only [Act.put,zA,zB,zC,zD,zE,zF]
 refine wpAnyL_take (i:=1) (v:=?_) rfl (by kernel_rfl) (by kernel_rfl) (by kernel_rfl) (by kernel_rfl) (fun _ _ _ h=>h) (Or.inl ⟨by rfl,?_⟩) hHeld0 ?_
 rotate_left
 · (intro w hSw;(try dsimp only at hSw);go_simp <;> with_reducible rfl)
 try simp only [Act.put,zA,zB,zC,zD,zE,zF]
 refine wpAnyL_take (i:=2) (v:=?_) rfl (by kernel_rfl) (by kernel_rfl) (by kernel_rfl) (by kernel_rfl) (fun _ _ _ h=>h) (Or.inl ⟨by rfl,?_⟩) hHeld0 ?_
 rotate_left
 · (intro w hSw;(try dsimp only at hSw);go_simp <;> with_reducible rfl)
 try simp only [Act.put,zA,zB,zC,zD,zE,zF]
 refine wpAnyL_take (i:=3) (v:=?_) rfl (by kernel_rfl) (by kernel_rfl) (by kernel_rfl) (by kernel_rfl) (fun _ _ _ h=>h) (Or.inl ⟨by rfl,?_⟩) hHeld0 ?_
 rotate_left
 · (intro w hSw;(try dsimp only at hSw);go_simp <;> with_reducible rfl)
 try simp only [Act.put,zA,zB,zC,zD,zE,zF]
 refine wpAnyL_take (i:=4) (v:=?_) rfl (by kernel_rfl) (by kernel_rfl) (by kernel_rfl) (by kernel_rfl) (fun _ _ _ h=>h) (Or.inl ⟨by rfl,?_⟩) hHeld0 ?_
 rotate_left
 · (intro w hSw;(try dsimp only at hSw);go_simp <;> with_reducible rfl)
 try simp only [Act.put,zA,zB,zC,zD,zE,zF]
 refine wpAnyL_take (i:=5) (v:=?_) rfl (by kernel_rfl) (by kernel_rfl) (by kernel_rfl) (by kernel_rfl) (fun _ _ _ h=>h) (Or.inl ⟨by rfl,?_⟩) hHeld0 ?_
 rotate_left
 · (intro w hSw;(try dsimp only at hSw);go_simp <;> with_reducible rfl)
 try simp only [Act.put,zA,zB,zC,zD,zE,zF]
 refine wpAnyL_take (i:=6) (v:=?_) rfl (by kernel_rfl) (by kernel_rfl) (by kernel_rfl) (by kernel_rfl) (fun _ _ _ h=>h) (Or.inl ⟨by rfl,?_⟩) hHeld0 ?_
 rotate_left
 · (intro w hSw;(try dsimp only at hSw);go_simp <;> with_reducible rfl)
 try simp only [Act.put,zA,zB,zC,zD,zE,zF]
 refine wpAnyL_take (i:=7) (v:=?_) rfl (by kernel_rfl) (by kernel_rfl) (by kernel_rfl) (by kernel_rfl) (fun _ _ _ h=>h) (Or.inl ⟨by rfl,?_⟩) hHeld0 ?_
 rotate_left
 · (intro w hSw;(try dsimp only at hSw);go_simp <;> with_reducible rfl)
 try simp only [Act.put,zA,zB,zC,zD,zE,zF]
 refine wpAnyL_take (i:=8) (v:=?_) rfl (by kernel_rfl) (by kernel_rfl) (by kernel_rfl) (by kernel_rfl) (fun _ _ _ h=>h) (Or.inl ⟨by rfl,?_⟩) hHeld0 ?_
 rotate_left
 · (intro w hSw;(try dsimp only at hSw);go_simp <;> with_reducible rfl)
 try simp only [Act.put,zA,zB,zC,zD,zE,zF]
 refine wpAnyL_take (i:=9) (v:=?_) rfl (by kernel_rfl) (by kernel_rfl) (by kernel_rfl) (by kernel_rfl) (fun _ _ _ h=>h) (Or.inl ⟨by rfl,?_⟩) hHeld0 ?_
 rotate_left
 · (intro w hSw;(try dsimp only at hSw);go_simp <;> with_reducible rfl)
 try simp only [Act.put,zA,zB,zC,zD,zE,zF]
 refine wpAnyL_take (i:=10) (v:=?_) rfl (by kernel_rfl) (by kernel_rfl) (by kernel_rfl) (by kernel_rfl) (fun _ _ _ h=>h) (Or.inl ⟨by rfl,?_⟩) hHeld0 ?_
 rotate_left
 · (intro w hSw;(try dsimp only at hSw);go_simp <;> with_reducible rfl)
 try simp only [Act.put,zA,zB,zC,zD,zE,zF]
 refine wpAnyL_ready (rs:=[11]) (by kernel_rfl) (by simp) ?_
 refine AllL.cons rfl (fun K hK=>?_) AllL.nil
 rw [if_pos (by kernel_rfl)]
 refine wp_store_mid 64 (.tmp 102) (.tmp 101) rfl gm (t * 16) (RTen.cells ⟨true,IntKind.u32.wrap (gn + 1),⟨none,0,[],r.qk,r.qb⟩,st0⟩).toArray rfl rfl (there_mid HX.out (by rw [show (rcells R).toArray.size=272 by rw [List.size_toArray,HRL.out]];show t * 16 + 16 ≤ 272;omega)) infoRT (by simp [RTen.cells,st0,Value.oneCell']) ?_
 refine hK.out _ _ (fun h=>Bool.noConfusion (show true=false from h)) ?_
 clear hK K
 try simp only [Act.put,zD,zE,zF]
 refine wpAnyL_done (by kernel_rfl) ?_ _
 exact NoPanic.normal (HQ.out _ _ _ _ _ _ _ _ _ _ _ _ (ten_set HX.out HS.out ht st0_ok) (fun B w hB hb=>below_sets gm hB _ _ _ hb.drew) (fun i hi=>(sets_same gm _ (t * 16) W.drew).2.2.2.2 i hi))
theorem wpList_store_abs {P:Program} {ops:Array Oper} {rest:List Oper} {op:Oper} {a:Act} {w:World} {Q:Exit→Act→World→Prop} (hgd:op.guard=none) (ty:TypeId) (x y:Operand) (ho:op.op=.store ty x y) (b:Nat) (cs cells:Array Value) (hx:a.eval x=.pointer (some ⟨b,0,none⟩)) (hy:a.eval y=.agg cells)
 (hb:Blk w b ty cs) (hs:cs.size=cells.size) (hi:(P.info? ty).map (·.size)=some cells.size) (h1:cells.all (·.oneCell')=true)
 (h:∀ V,Blk V b ty cells→(∀ i,i ≠ b→V.heap[i]?=w.heap[i]?)→(∀ B W,B ≤ b→Below B W w→Below B W V)→wpList P ops Q rest (a.put op.dst undef) V):wpList P ops Q (op :: rest) a w :=
 wpList_plain hgd fun _ hK=>wp_store_abs ty x y ho b cs cells hx hy hb hs hi h1 (fun V a b c=>hK _ _ (h V a b c))
theorem nilq_at {W:World} (qk qb:Int):RBk.at_ ⟨none,0,[],qk,qb⟩ W:=⟨⟨rfl,fun h=>absurd h (Nat.lt_irrefl 0)⟩,Nat.le_refl _,Nat.zero_le _,fun _=>rfl,fun _ h=>absurd h (Nat.lt_irrefl 0)⟩
theorem lok_nil:LOk []:=⟨List.Pairwise.nil,by simp,by simp⟩
theorem RMAt.updT {W:World} {n:Nat} {M:Mdl} {R:RMd} {t:Nat} {b:RTen} {T:Ten} (h:RMAt W n M R) (h1:b.there=T.bk.isSome) (h2:b.gen=T.gen) (h3:∀ B,T.bk=some B→b.bk.l=B.l∧b.bk.qk=B.qk∧b.bk.qb=B.qb) (h4:b.st=T.st) (h5:StOk b.st) (h6:b.bk.at_ W) (h7:LOk b.bk.l) (h8:b.bk.l.length ≤ n) :
 RMAt W n (updM M t T) (updR R t b):=by
 have key:∀ i,(i=t∧updM M t T i=T∧updR R t b i=b) ∨ (updM M t T i=M i∧updR R t b i=R i):=fun i=>by
  by_cases e:i=t
  · subst e;exact .inl ⟨rfl,updM_self _ _ _,updR_self⟩
  · exact .inr ⟨updM_ne e,updR_ne e⟩
 constructor
 · intro i
   rcases key i with ⟨-,e1,e2⟩ | ⟨e1,e2⟩ <;> rw [e1,e2]
   · exact h1
   · exact h.there i
 · intro i
   rcases key i with ⟨-,e1,e2⟩ | ⟨e1,e2⟩ <;> rw [e1,e2]
   · exact h2
   · exact h.gen i
 · intro i B0 hB0
   rcases key i with ⟨-,e1,e2⟩ | ⟨e1,e2⟩ <;> rw [e1] at hB0 <;> rw [e2]
   · exact h3 B0 hB0
   · exact h.bk i B0 hB0
 · intro i
   rcases key i with ⟨-,e1,e2⟩ | ⟨e1,e2⟩ <;> rw [e1,e2]
   · exact h4
   · exact h.st i
 · intro i
   rcases key i with ⟨-,e1,e2⟩ | ⟨e1,e2⟩ <;> rw [e2]
   · exact h5
   · exact h.ok i
 · intro i
   rcases key i with ⟨-,e1,e2⟩ | ⟨e1,e2⟩ <;> rw [e2]
   · exact h6
   · exact h.at_ i
 · intro i
   rcases key i with ⟨-,e1,e2⟩ | ⟨e1,e2⟩ <;> rw [e2]
   · exact h7
   · exact h.lok i
 · intro i
   rcases key i with ⟨-,e1,e2⟩ | ⟨e1,e2⟩ <;> rw [e2]
   · exact h8
   · exact h.len i
set_option maxHeartbeats 3200000 in
set_option maxRecDepth 100000 in
theorem do_ok7 {w W:World} {n:Nat} {M:Mdl} {R:RMd} {X:Mdl × Ans} {K9:Act→World→Prop} {gm g4 g5:Nat} (hX:X=(M,errA 0)) (hm:RMAt w n M R) (qm:Blk W gm 66 (rcells R).toArray) (q4:Blk W g4 66 Tryz.zeroCells66) (q5:Blk W g5 52 zeroA) (hne:gm ≠ g4) (hb:Below w.heap.size w W) (h4:w.heap.size ≤ g4) (h5:w.heap.size ≤ g5) :
 Code.wp Tryz.prog (part Tryz.f17 [1,1,1,1,1,1,0,1,3,1,1]) (Exit.then K9 (bodyPost Tryz.prog Tryz.f17 (RDoEnd n X w))) ⟨#[Xa,Xb,.pointer (some ⟨gm,0,none⟩),Xd,.pointer (some ⟨g4,0,none⟩),.pointer (some ⟨g5,0,none⟩),Xg,Xh,Xi,Xj,Xk,Xl,Xm,Xn,Xo,Xp,Xq,Xr,Xs,Xt,Xu,Xv,Xw,Xx,Xy,Xz,Ya,Yb,Yc,Yd,Ye,Yf,Yg,Yh,Yi,Yj,Yk,Yl,Ym,Yn,Yo,Yp,Yq,Yr,Ys,Yt,Yu,Yv,Yw,Yx,Yy,Yz,Za,Zb,Zc,Zd,Ze,Zf,Zg,Zh,Zi,Zj,Zk,Zl,Zm,Zn,Zo,Zp,Zq,Zr,Zs,Zt,Zu,Zv,Zw,Zx,Zy,Zz,Ja,Jb,Jc,Jd,Je,Jf,Jg,Jh,Ji,Jj,Jk,Jl,Jm,Jn,Jo,Jp,Jq,Jr,Js,Jt,Ju,Jv,Jw,Jy,Jz,Va,Vb,Vc,Vd,Ve,Vf,Vg,Vh,Vi,Vj,Vk,Vl,Vm,Vn,Vo,Vp,Vq,Vr,Vs,Vt,Vu,Vv,Vw,Vx,Vy,Vz,Oa,Ob,Oc,Od,Oe,Og,Oh,Oi,Oj,Ok,Ol,Om,On,Oo,Oq,Ot],[]⟩ W:=by
 conv=>arg 2;whnf
 have HRL:=Lib.hid (rcells_len hm.ok)
 have HRO:=Lib.hid (rcells_one hm.ok)
 have HX:=Lib.hid (And.intro hX (And.intro hm (And.intro qm (And.intro q4 (And.intro q5 (And.intro hne (And.intro hb (And.intro h4 h5))))))))
 clear hX hm qm q4 q5 hne hb h4 h5
 refine wp_seq_k fun K0 hK=>?_
 have HK0:=Lib.hid hK
 clear hK
 go_wp2_with (first
  | (refine wpList_load_mid rfl 66 (.tmp 2) rfl gm 0 rfl _ _ (range_blk HX.out.2.2.1) Tryz.underlying66 rfl (by rw [HRL.out];exact infoRM) ?_)
  | (refine wpList_store_abs rfl 66 (.tmp 4) (.tmp 103) rfl g4 Tryz.zeroCells66 (rcells R).toArray rfl rfl HX.out.2.2.2.1 (by rw [zero_size,List.size_toArray,HRL.out]) (by rw [List.size_toArray,HRL.out];exact infoRM) HRO.out ?_
     intro V2 hv4 hs4 hl4)
  | (refine wpList_store_abs rfl 52 (.tmp 5) (.tmp 104) rfl g5 zeroA zeroA rfl rfl ((hs4 g5 (blk_ne HX.out.2.2.2.2.1 HX.out.2.2.2.1 (by decide))).trans HX.out.2.2.2.2.1) rfl infoAns (by simp [Value.oneCell']) ?_
     intro V3 hv5 hs5 hl5))
 refine HK0.out _ _ ?_
 clear HK0
 have hv43:=(hs5 g4 (blk_ne HX.out.2.2.2.1 HX.out.2.2.2.2.1 (by decide))).trans hv4
 have hbe:=hl5 _ w HX.out.2.2.2.2.2.2.2.2 (hl4 _ w HX.out.2.2.2.2.2.2.2.1 HX.out.2.2.2.2.2.2.1)
 go_wp2_with fail
 refine bodyPost_ret (v:=.tuple #[.agg (rcells R).toArray,(errA 0).v none 0]) ?_ rfl ?_
 · exact results_cell2 Tryz.results17 rfl rfl hv43 hv5 Tryz.underlying66 rfl (by rw [List.size_toArray,HRL.out];exact infoRM) Tryz.underlying52 rfl infoAns
 · rw [HX.out.1]
   exact ⟨R,none,0,rfl,HX.out.2.1.below hbe,nil_at,hbe⟩
set_option maxHeartbeats 3200000 in
set_option maxRecDepth 100000 in
theorem do_ok {w W:World} {n:Nat} {M:Mdl} {R:RMd} {X:Mdl × Ans} {K9:Act→World→Prop} {gm g4 g5:Nat} (hX:X=(M,errA 0)) (hm:RMAt w n M R) (qm:Blk W gm 66 (rcells R).toArray) (q4:Blk W g4 66 Tryz.zeroCells66) (q5:Blk W g5 52 zeroA) (hne:gm ≠ g4) (hb:Below w.heap.size w W) (h4:w.heap.size ≤ g4) (h5:w.heap.size ≤ g5) :
 Code.wp Tryz.prog (part Tryz.f17 [1,1,1,1,1,1,1,1,1]) (bodyPost Tryz.prog Tryz.f17 (RDoEnd n X w)) ⟨#[Xa,Xb,.pointer (some ⟨gm,0,none⟩),Xd,.pointer (some ⟨g4,0,none⟩),.pointer (some ⟨g5,0,none⟩),Xg,Xh,Xi,Xj,Xk,Xl,Xm,Xn,Xo,Xp,Xq,Xr,Xs,Xt,Xu,Xv,Xw,Xx,Xy,Xz,Ya,Yb,Yc,Yd,Ye,Yf,Yg,Yh,Yi,Yj,Yk,Yl,Ym,Yn,Yo,Yp,Yq,Yr,Ys,Yt,Yu,Yv,Yw,Yx,Yy,Yz,Za,Zb,Zc,Zd,Ze,Zf,Zg,Zh,Zi,Zj,Zk,Zl,Zm,Zn,Zo,Zp,Zq,Zr,Zs,Zt,Zu,Zv,Zw,Zx,Zy,Zz,Ja,Jb,Jc,Jd,Je,Jf,Jg,Jh,Ji,Jj,Jk,Jl,Jm,Jn,Jo,Jp,Jq,Jr,Js,Jt,Ju,Jv,Jw,Jy,Jz,Va,Vb,Vc,Vd,Ve,Vf,Vg,Vh,Vi,Vj,Vk,Vl,Vm,Vn,Vo,Vp,Vq,Vr,Vs,Vt,Vu,Vv,Vw,Vx,Vy,Vz,Oa,Ob,Oc,Od,Oe,Og,Oh,Oi,Oj,Ok,Ol,Om,On,Oo,Oq,Ot],[]⟩ W:=by
 conv=>arg 2;whnf
 have HRL:=Lib.hid (rcells_len hm.ok)
 have HRO:=Lib.hid (rcells_one hm.ok)
 have HX:=Lib.hid (And.intro hX (And.intro hm (And.intro qm (And.intro q4 (And.intro q5 (And.intro hne (And.intro hb (And.intro h4 h5))))))))
 clear hX hm qm q4 q5 hne hb h4 h5
 refine wp_seq_k fun K0 hK=>?_
 have HK0:=Lib.hid hK
 clear hK
 go_wp2_with (first
  | (refine wpList_load_mid rfl 66 (.tmp 2) rfl gm 0 rfl _ _ (range_blk HX.out.2.2.1) Tryz.underlying66 rfl (by rw [HRL.out];exact infoRM) ?_)
  | (refine wpList_store_abs rfl 66 (.tmp 4) (.tmp 143) rfl g4 Tryz.zeroCells66 (rcells R).toArray rfl rfl HX.out.2.2.2.1 (by rw [zero_size,List.size_toArray,HRL.out]) (by rw [List.size_toArray,HRL.out];exact infoRM) HRO.out ?_
     intro V2 hv4 hs4 hl4)
  | (refine wpList_store_abs rfl 52 (.tmp 5) (.tmp 144) rfl g5 zeroA zeroA rfl rfl ((hs4 g5 (blk_ne HX.out.2.2.2.2.1 HX.out.2.2.2.1 (by decide))).trans HX.out.2.2.2.2.1) rfl infoAns (by simp [Value.oneCell']) ?_
     intro V3 hv5 hs5 hl5))
 refine HK0.out _ _ ?_
 clear HK0
 have hv43:=(hs5 g4 (blk_ne HX.out.2.2.2.1 HX.out.2.2.2.2.1 (by decide))).trans hv4
 have hbe:=hl5 _ w HX.out.2.2.2.2.2.2.2.2 (hl4 _ w HX.out.2.2.2.2.2.2.2.1 HX.out.2.2.2.2.2.2.1)
 go_wp2_with fail
 refine bodyPost_ret (v:=.tuple #[.agg (rcells R).toArray,(errA 0).v none 0]) ?_ rfl ?_
 · exact results_cell2 Tryz.results17 rfl rfl hv43 hv5 Tryz.underlying66 rfl (by rw [List.size_toArray,HRL.out];exact infoRM) Tryz.underlying52 rfl infoAns
 · rw [HX.out.1]
   exact ⟨R,none,0,rfl,HX.out.2.1.below hbe,nil_at,hbe⟩
end Go.Proofs.YtkgflepgkhnclaaGreatDoor
