/- Layer 27: OrderModels: the pieces of a round. Layer 27: OrderModels: the answers are compared. Layer 27: OrderModels: a round of the first loop. Layer 27: OrderModels: a round of the second loop. Layer 27: OrderModels: the first loop. Layer 27: OrderModels: the walk. Layer 27: order: replay, a round's request and answer. -/
import Derived.Test.YtkgflepgkhnclaaGreatDoorMo3
import Derived.Test.YtkgflepgkhnclaaGreatDoorMo
import Derived.Test.YtkgflepgkhnclaaGreatDoorMl
namespace Go.Proofs.YtkgflepgkhnclaaGreatDoor
set_option linter.unusedVariables false
set_option linter.unusedSimpArgs false
open Go.RowKit Go.Shelf
attribute [local go_sem] run_store_complex
variable {Xa Xb Xc Xd Xe Xf Xg Xh Xi Xj Xk Xl Xm Xn Xo Xp Xq Xr Xs Xt Xu Xv Xw Xx Xy Xz Ya Yb Yc Yd Ye Yf Yg Yh Yi Yj Yk Yl Ym Yn Yo Yp Yq Yr Ys Yt Yu Yv Yw Yx Yy Yz Za Zb Zc Zd Ze Zf Zg Zh Zi Zj Zk Zl Zm Zn Zo Zp Zq Zr Zs Zt Zu Zv Zw Zx Zy Zz Ja Jb Jc Jd Je Jf Jg Jh Ji Jj Jk Jl Jm Jn Jo Jp Jq Jr Js Jt Ju Jv Jw Jy Jz Va Vb Vc Vd Ve Vf Vg Vh Vi Vj Vk Vl Vm Vn Vo Vp Vq Vr Vs Vt Vu Vv Vw Vx Vy Vz Oa Ob Oc Od Oe Og Oh Oi Oj Ok Ol Om On Oo Oq Ot Ou Ov Ox Oy Oz Ha Hb Hc He Hf Hg Hh Hi Hj Hk Hl Hm Hn Ho Hp Hq Hr Hs Ht Hu Hv Hw Hx Hy Hz Ia Ib Ic Id Ie If Ig Ih Ii Ij Ik Il Im In Io Ip Iq Ir It Iu Iv Iw Ix Iy Iz Ua Ub Uc Ud Ue Uf Ug Uh Ui Uj Uk Ul:Value}
theorem infoHd3:(Tryz.prog.info? 37).map (·.size)=some 3:=by kernel_rfl
theorem infoRq:(Tryz.prog.info? 39).map (·.size)=some 12:=by kernel_rfl
theorem row_one (r:Req):r.row.toArray.all (·.oneCell')=true:=by simp [Req.row,Value.oneCell']
set_option maxHeartbeats 6400000 in
set_option maxRecDepth 100000 in
theorem om_load {W:World} {Q:Exit→Act→World→Prop} {gl ol nl cl i:Nat} {r:Req} (hi:i < nl) (hr:W.rangeAt gl (ol + i * 12) r.row)
 (hQ:∀ (s36 s37 s38:Value) (W':World) (gx:Nat),Below W.heap.size W W'→gx=W.heap.size→Blk W' gx 39 r.row.toArray→Q .normal ⟨#[Xa,Xb,Xc,Xd,Xe,Xf,Xg,Xh,Xi,Xj,Xk,Xl,.int .i64 (i:Nat),.pointer (some ⟨gx,0,none⟩),Xo,Xp,Xq,Xr,Xs,Xt,Xu,Xv,Xw,Xx,Xy,Xz,Ya,Yb,Yc,Yd,Ye,Yf,.slice (some ⟨gl,ol,none⟩) nl cl,Yh,.int .i64 (i:Nat),Yj,s36,s37,s38,Yn,Yo,Yp,Yq,Yr,Ys,Yt,Yu,Yv,Yw,Yx,Yy,Yz,Za,Zb,Zc,Zd,Ze,Zf,Zg,Zh,Zi,Zj,Zk,Zl,Zm,Zn,Zo,Zp,Zq,Zr,Zs,Zt,Zu,Zv,Zw,Zx,Zy,Zz,Ja,Jb,Jc,Jd,Je,Jf,Jg,Jh,Ji,Jj,Jk,Jl,Jm,Jn,Jo,Jp,Jq,Jr,Js,Jt,Ju,Jv,Jw,Jy,Jz,Va,Vb,Vc,Vd,Ve,Vf,Vg,Vh,Vi,Vj,Vk,Vl,Vm,Vn,Vo,Vp,Vq,Vr,Vs,Vt,Vu,Vv,Vw,Vx,Vy,Vz,Oa,Ob,Oc,Od,Oe,Og,Oh,Oi,Oj,Ok,Ol,Om,On,Oo,Oq,Ot],[]⟩ W') :
 Code.wp Tryz.prog (part Tryz.f4 [1,1,1,1,1,1,0,1,2,2,1,1,0,2,0]) Q ⟨#[Xa,Xb,Xc,Xd,Xe,Xf,Xg,Xh,Xi,Xj,Xk,Xl,Xm,Xn,Xo,Xp,Xq,Xr,Xs,Xt,Xu,Xv,Xw,Xx,Xy,Xz,Ya,Yb,Yc,Yd,Ye,Yf,.slice (some ⟨gl,ol,none⟩) nl cl,Yh,.int .i64 (i:Nat),Yj,Yk,Yl,Ym,Yn,Yo,Yp,Yq,Yr,Ys,Yt,Yu,Yv,Yw,Yx,Yy,Yz,Za,Zb,Zc,Zd,Ze,Zf,Zg,Zh,Zi,Zj,Zk,Zl,Zm,Zn,Zo,Zp,Zq,Zr,Zs,Zt,Zu,Zv,Zw,Zx,Zy,Zz,Ja,Jb,Jc,Jd,Je,Jf,Jg,Jh,Ji,Jj,Jk,Jl,Jm,Jn,Jo,Jp,Jq,Jr,Js,Jt,Ju,Jv,Jw,Jy,Jz,Va,Vb,Vc,Vd,Ve,Vf,Vg,Vh,Vi,Vj,Vk,Vl,Vm,Vn,Vo,Vp,Vq,Vr,Vs,Vt,Vu,Vv,Vw,Vx,Vy,Vz,Oa,Ob,Oc,Od,Oe,Og,Oh,Oi,Oj,Ok,Ol,Om,On,Oo,Oq,Ot],[]⟩ W:=by
 conv=>arg 2;whnf
 have HQ:=Lib.hid hQ
 clear hQ
 have HR:=Lib.hid hr
 have HO:=Lib.hid (row_one r)
 have HS:=Lib.hid (show r.row.toArray.size=12 from rfl)
 clear hr
 have i1:(0:Int) ≤ (i:Int):=by omega
 have i2:(i:Int) < (nl:Int):=by omega
 go_wp2_with (first
  | (refine wpList_load_mid rfl 39 (.tmp 37) rfl gl (ol + i * 12) rfl r.row _ HR.out Tryz.underlying39 rfl infoRq ?_)
  | (refine wpList_alloc_abs rfl 39 #[.int .i64 0,.int .i64 0,.int .u32 0,.int .u8 0,.string ⟨#[]⟩,.string ⟨#[]⟩,.string ⟨#[]⟩,.int .i64 0,.int .i64 0,.int .u64 0,.int .u64 0,.int .u8 0] rfl (fun w=>Tryz.zeroValue39 w) ?_
     intro V1 hb1 hq1)
  | (refine wpList_store_abs rfl 39 (.tmp 13) (.tmp 38) rfl W.heap.size #[.int .i64 0,.int .i64 0,.int .u32 0,.int .u8 0,.string ⟨#[]⟩,.string ⟨#[]⟩,.string ⟨#[]⟩,.int .i64 0,.int .i64 0,.int .u64 0,.int .u64 0,.int .u8 0] r.row.toArray rfl rfl hq1 (by rw [HS.out];rfl) (by rw [HS.out];exact infoRq) HO.out ?_
     intro V2 hq2 hh2 hl2))
 exact HQ.out _ _ _ V2 _ (hl2 _ _ (Nat.le_refl _) hb1) rfl hq2
theorem ans_cells2 {a:Ans} (h:∃ k b,a.st=stKB k b) (A:Option Addr) (c:Nat):(a.cells A c).toArray.size=17∧(a.cells A c).toArray.all (·.oneCell')=true:=by
 obtain ⟨k,b,h⟩:=h
 unfold Ans.cells
 rw [h]
 simp [stKB,Value.oneCell']
theorem DidK.below {w W W':World} (h:DidK w W) (hb:Below W.heap.size W W'):DidK w W' :=
 ⟨fun b k=>(h.at_ b k).below hb,fun i cs k=>(h.req i cs k).below hb (h.req i cs k).lt,fun i cs k=>(h.ans i cs k).below hb (h.ans i cs k).lt,fun i cs k=>(h.mdl i cs k).below hb (h.mdl i cs k).lt,fun n M R k=>(h.rm n M R k).below hb⟩
theorem OmW.sizes {w0 W:World} {b4 b8 b9 p q n:Nat} {hd:Hd} {M Mr Mk:Mdl} {R Rk:RMd} {T Tk:Ows} (h:OmW w0 b4 b8 b9 p q hd M Mr R T n Mk Rk Tk W):(rcells R).toArray.size=272∧(rcells Rk).toArray.size=272∧(rcells R).toArray.all (·.oneCell')=true :=
 ⟨by rw [List.size_toArray,rcells_len h.r.ok],by rw [List.size_toArray,rcells_len h.rk.ok],rcells_one h.r.ok⟩
set_option maxHeartbeats 6400000 in
set_option maxRecDepth 100000 in
theorem om_keep {w0:World} {b4 b8 b9 p q n:Nat} {hd:Hd} {M Mk:Mdl} {R Rk:RMd} {T Tk:Ows} {W:World} {Q:Exit→Act→World→Prop} {k:Int} {i gx:Nat} {r:Req} (hx:Blk W gx 39 r.row.toArray) (hW:OmW w0 b4 b8 b9 p q hd M M R T n Mk Rk Tk W) (hn:n ≤ 40)
 (hQ:∀ (s39 s40 s41 s42 s43 s44:Value) (W':World) (q2:Nat) (Mk2:Mdl) (Rk2:RMd) (Tk2:Ows),OmW w0 b4 b8 b9 p q2 hd M M R T n Mk2 Rk2 Tk2 W'→Blk W' gx 39 r.row.toArray→Q .normal ⟨#[Xa,Xb,Xc,Xd,Xe,Xf,Xg,.pointer (some ⟨p,0,none⟩),.pointer (some ⟨b8,0,none⟩),.pointer (some ⟨b9,0,none⟩),.pointer (some ⟨q2,0,none⟩),.int .i64 k,.int .i64 (i:Nat),.pointer (some ⟨gx,0,none⟩),Xo,Xp,Xq,Xr,Xs,Xt,Xu,Xv,Xw,Xx,Xy,Xz,Ya,Yb,Yc,Yd,Ye,Yf,Yg,Yh,Yi,Yj,Yk,Yl,Ym,s39,s40,s41,s42,s43,s44,Yt,Yu,Yv,Yw,Yx,Yy,Yz,Za,Zb,Zc,Zd,Ze,Zf,Zg,Zh,Zi,Zj,Zk,Zl,Zm,Zn,Zo,Zp,Zq,Zr,Zs,Zt,Zu,Zv,Zw,Zx,Zy,Zz,Ja,Jb,Jc,Jd,Je,Jf,Jg,Jh,Ji,Jj,Jk,Jl,Jm,Jn,Jo,Jp,Jq,Jr,Js,Jt,Ju,Jv,Jw,Jy,Jz,Va,Vb,Vc,Vd,Ve,Vf,Vg,Vh,Vi,Vj,Vk,Vl,Vm,Vn,Vo,Vp,Vq,Vr,Vs,Vt,Vu,Vv,Vw,Vx,Vy,Vz,Oa,Ob,Oc,Od,Oe,Og,Oh,Oi,Oj,Ok,Ol,Om,On,Oo,Oq,Ot],[]⟩ W') :
 Code.wp Tryz.prog (part Tryz.f4 [1,1,1,1,1,1,0,1,2,2,1,1,0,2,1,0]) Q ⟨#[Xa,Xb,Xc,Xd,Xe,Xf,Xg,.pointer (some ⟨p,0,none⟩),.pointer (some ⟨b8,0,none⟩),.pointer (some ⟨b9,0,none⟩),.pointer (some ⟨q,0,none⟩),.int .i64 k,.int .i64 (i:Nat),.pointer (some ⟨gx,0,none⟩),Xo,Xp,Xq,Xr,Xs,Xt,Xu,Xv,Xw,Xx,Xy,Xz,Ya,Yb,Yc,Yd,Ye,Yf,Yg,Yh,Yi,Yj,Yk,Yl,Ym,Yn,Yo,Yp,Yq,Yr,Ys,Yt,Yu,Yv,Yw,Yx,Yy,Yz,Za,Zb,Zc,Zd,Ze,Zf,Zg,Zh,Zi,Zj,Zk,Zl,Zm,Zn,Zo,Zp,Zq,Zr,Zs,Zt,Zu,Zv,Zw,Zx,Zy,Zz,Ja,Jb,Jc,Jd,Je,Jf,Jg,Jh,Ji,Jj,Jk,Jl,Jm,Jn,Jo,Jp,Jq,Jr,Js,Jt,Ju,Jv,Jw,Jy,Jz,Va,Vb,Vc,Vd,Ve,Vf,Vg,Vh,Vi,Vj,Vk,Vl,Vm,Vn,Vo,Vp,Vq,Vr,Vs,Vt,Vu,Vv,Vw,Vx,Vy,Vz,Oa,Ob,Oc,Od,Oe,Og,Oh,Oi,Oj,Ok,Ol,Om,On,Oo,Oq,Ot],[]⟩ W:=by
 conv=>arg 2;whnf
 have HQ:=Lib.hid hQ
 clear hQ
 have HW:=Lib.hid hW
 have HN:=Lib.hid hn
 have HN1:=Lib.hid (show n ≤ 1000 by omega)
 clear hW hn
 have HREQ:=Lib.hid (fun V (hb:Below W.heap.size W V)=>hx.below hb hx.lt)
 have HX0:=Lib.hid hx
 clear hx
 refine wp_seq_k fun K0 hK=>?_
 have HK0:=Lib.hid hK
 clear hK
 by_cases hik:i=k
 · have hdk:((i:Int) == k)=true:=by simp [hik]
   clear hik
   go_wp2_with fail
   refine HK0.out _ _ ?_
   clear HK0
   try simp only [Act.put]
   go_wp2_with fail
   have HWd:=HW.out.below (Below.refl _ _).drew
   clear HW
   have HW:=Lib.hid HWd
   clear HWd
   have HC:=Lib.hid (Copy_m HW.out.m (HW.out.r.small HN1.out))
   have HRL:=Lib.hid HW.out.sizes
   refine wp_region_noPanic ?_
   refine wp_region_held_drew (S:=(fun V:World=>Blk V b8 66 (rcells R).toArray)) (by kernel_rfl) ?_ (fun hHeld0=>?_)
   · exact HW.out.x8
   refine tk (i:=0) (v:=?_) rfl (Or.inl ⟨by rfl,?_⟩) hHeld0 ?_
   rotate_left
   · (intro w hSw;(try dsimp only at hSw);go_simp <;> with_reducible rfl)
   try simp only [Act.put,zA,zB,zC,zD,zE,zF]
   refine tk (i:=2) rfl (yieldsIf_load_mid rfl 66 (.tmp 8) rfl b8 0 rfl (rcells R) _ (fun w hw=>range_blk hw) Tryz.underlying66 rfl (by rw [← List.size_toArray,HRL.out.1];exact infoRM)) hHeld0 ?_
   try simp only [Act.put,zA,zB,zC,zD,zE,zF]
   refine wpAnyH_ready (rs:=[1]) (by kernel_rfl) (by simp) ?_
   refine AllReadyH.cons (Array.getElem?_eq_getElem (by decide)) (fun K hK=>?_) AllReadyH.nil
   simp only [List.getElem_toArray,List.getElem_cons_succ,List.getElem_cons_zero]
   rw [if_pos (by kernel_rfl)]
   go_simp
   with_reducible refine HC.out.mono ?_
   rintro e w1 ⟨g,O,rfl,hg,hown,hb1⟩
   have hq1:=HW.out.x8.below hb1 HW.out.x8.lt
   have hx1:=HW.out.x9.below hb1 HW.out.x9.lt
   have hr1:=HREQ.out w1 (below_trans (Below.refl _ _).drew hb1)
   refine hK.out _ _ ?_ (fun hHeld1=>?_)
   · exact hq1
   clear hK K hHeld0
   try simp only [Act.put,zA,zB,zC,zD,zE,zF]
   refine tk (i:=3) (v:=?_) rfl (Or.inl ⟨by rfl,?_⟩) hHeld1 ?_
   rotate_left
   · (intro w hSw;(try dsimp only at hSw);go_simp <;> with_reducible rfl)
   try simp only [Act.put,zA,zB,zC,zD,zE,zF]
   refine wpAnyH_ready (rs:=[4]) (by kernel_rfl) (by simp) ?_
   refine AllReadyH.cons (Array.getElem?_eq_getElem (by decide)) (fun K hK=>?_) AllReadyH.nil
   simp only [List.getElem_toArray,List.getElem_cons_succ,List.getElem_cons_zero]
   rw [if_pos (by kernel_rfl)]
   refine wp_store_abs 66 (.tmp 9) (.tmp 44) rfl b9 (rcells Rk).toArray (rcells R).toArray rfl rfl hx1 (by rw [HRL.out.1,HRL.out.2.1]) (by rw [HRL.out.1];exact infoRM) HRL.out.2.2 ?_
   intro V2 hv2 hs2 hl2
   have hq2:=(hs2 b8 HW.out.ne).trans hq1
   refine hK.out _ _ ?_ (fun hHeld2=>?_)
   · exact hq2
   clear hK K hHeld1
   try simp only [Act.put,zA,zB,zC,zD,zE,zF]
   refine wpAnyH_done (by kernel_rfl) ?_ _
   obtain ⟨O2,hO2⟩:=HW.out.set9 HN.out ⟨_,⟨g,O,rfl,hg,hown,hb1⟩,rfl⟩ hv2 hs2 hl2
   exact NoPanic.normal (HQ.out _ _ _ _ _ _ V2 g M R O2 hO2 ((fun a b=>(a gx (blk_ne b hx1 (by decide))).trans b) hs2 hr1))
 · have hdk:((i:Int) == k)=false:=by simp [hik]
   clear hik
   go_wp2_with fail
   refine HK0.out _ _ ?_
   clear HK0
   try simp only [Act.put]
   go_wp2_with fail
   exact HQ.out _ _ _ _ _ _ W q Mk Rk Tk HW.out HX0.out
set_option maxHeartbeats 6400000 in
set_option maxRecDepth 100000 in
theorem om_ref {w0:World} {b4 b8 b9 p q n:Nat} {hd:Hd} {M Mk:Mdl} {R Rk:RMd} {T Tk:Ows} {W:World} {Q:Exit→Act→World→Prop} {gx:Nat} {r:Req} (hW:OmW w0 b4 b8 b9 p q hd M M R T n Mk Rk Tk W) (hn:n ≤ 40) (hx:Blk W gx 39 r.row.toArray) (hr:r.ok)
 (hQ:∀ (s45 s46 s47 s48 s49 s50:Value) (W':World) (g14 g15:Nat) (R2:RMd) (A:Option Addr) (c:Nat),Below W.heap.size W W'→Blk W' g14 66 (rcells R2).toArray→Blk W' g15 52 ((doN M r).2.cells A c).toArray→W.heap.size ≤ g14→RMAt W' (n + 1) (doN M r).1 R2→RBk.at_ ⟨A,c,(doN M r).2.prs,0,0⟩ W'→Q .normal ⟨#[Xa,Xb,Xc,Xd,Xe,Xf,Xg,Xh,.pointer (some ⟨b8,0,none⟩),Xj,Xk,Xl,Xm,.pointer (some ⟨gx,0,none⟩),.pointer (some ⟨g14,0,none⟩),.pointer (some ⟨g15,0,none⟩),Xq,Xr,Xs,Xt,Xu,Xv,Xw,Xx,Xy,Xz,Ya,Yb,Yc,Yd,Ye,Yf,Yg,Yh,Yi,Yj,Yk,Yl,Ym,Yn,Yo,Yp,Yq,Yr,Ys,s45,s46,s47,s48,s49,s50,Yz,Za,Zb,Zc,Zd,Ze,Zf,Zg,Zh,Zi,Zj,Zk,Zl,Zm,Zn,Zo,Zp,Zq,Zr,Zs,Zt,Zu,Zv,Zw,Zx,Zy,Zz,Ja,Jb,Jc,Jd,Je,Jf,Jg,Jh,Ji,Jj,Jk,Jl,Jm,Jn,Jo,Jp,Jq,Jr,Js,Jt,Ju,Jv,Jw,Jy,Jz,Va,Vb,Vc,Vd,Ve,Vf,Vg,Vh,Vi,Vj,Vk,Vl,Vm,Vn,Vo,Vp,Vq,Vr,Vs,Vt,Vu,Vv,Vw,Vx,Vy,Vz,Oa,Ob,Oc,Od,Oe,Og,Oh,Oi,Oj,Ok,Ol,Om,On,Oo,Oq,Ot],[]⟩ W') :
 Code.wp Tryz.prog (part Tryz.f4 [1,1,1,1,1,1,0,1,2,2,1,1,0,2,1,1,0]) Q ⟨#[Xa,Xb,Xc,Xd,Xe,Xf,Xg,Xh,.pointer (some ⟨b8,0,none⟩),Xj,Xk,Xl,Xm,.pointer (some ⟨gx,0,none⟩),Xo,Xp,Xq,Xr,Xs,Xt,Xu,Xv,Xw,Xx,Xy,Xz,Ya,Yb,Yc,Yd,Ye,Yf,Yg,Yh,Yi,Yj,Yk,Yl,Ym,Yn,Yo,Yp,Yq,Yr,Ys,Yt,Yu,Yv,Yw,Yx,Yy,Yz,Za,Zb,Zc,Zd,Ze,Zf,Zg,Zh,Zi,Zj,Zk,Zl,Zm,Zn,Zo,Zp,Zq,Zr,Zs,Zt,Zu,Zv,Zw,Zx,Zy,Zz,Ja,Jb,Jc,Jd,Je,Jf,Jg,Jh,Ji,Jj,Jk,Jl,Jm,Jn,Jo,Jp,Jq,Jr,Js,Jt,Ju,Jv,Jw,Jy,Jz,Va,Vb,Vc,Vd,Ve,Vf,Vg,Vh,Vi,Vj,Vk,Vl,Vm,Vn,Vo,Vp,Vq,Vr,Vs,Vt,Vu,Vv,Vw,Vx,Vy,Vz,Oa,Ob,Oc,Od,Oe,Og,Oh,Oi,Oj,Ok,Ol,Om,On,Oo,Oq,Ot],[]⟩ W:=by
 conv=>arg 2;whnf
 have HQ:=Lib.hid hQ
 clear hQ
 have HW:=Lib.hid hW
 have HX:=Lib.hid hx
 have HRL:=Lib.hid hW.sizes
 have HD:=Lib.hid (DoR_any hW.r (by omega) r hr)
 have HST:=Lib.hid (pl_st hW.pl r)
 clear hW hn hx hr
 obtain ⟨X,hX⟩:∃ X,doN M r=X:=⟨_,rfl⟩
 rw [hX] at HD HQ HST
 clear hX
 go_wp2_with (first
  | (refine wpList_load_mid rfl 66 (.tmp 8) rfl b8 0 rfl (rcells R) _ (range_blk HW.out.x8) Tryz.underlying66 rfl (by rw [← List.size_toArray,HRL.out.1];exact infoRM) ?_)
  | (refine wpList_load_mid rfl 39 (.tmp 13) rfl gx 0 rfl _ _ (range_blk HX.out) Tryz.underlying39 rfl infoRq ?_))
 refine HD.out.mono ?_
 rintro e w2 ⟨R2,A,c,rfl,hr2,hat,hb2⟩
 have HY:=Lib.hid (And.intro hr2 (And.intro hat hb2))
 have HRL2:=Lib.hid (show (rcells R2).toArray.size=272 by rw [List.size_toArray,rcells_len hr2.ok])
 have HRO2:=Lib.hid (rcells_one hr2.ok)
 have HAL:=Lib.hid (ans_cells2 HST.out A c)
 clear hr2 hat hb2
 go_wp2_with (first
  | (refine wpList_alloc_abs rfl 66 Tryz.zeroCells66 rfl (fun w=>Tryz.zeroValue66 w) ?_
     intro V1 hb1 hq1)
  | (refine wpList_alloc_abs rfl 52 zeroA rfl (fun w=>Tryz.zeroValue52 w) ?_
     intro V2 hb2 hq2)
  | (refine wpList_store_abs rfl 66 (.tmp 14) (.tmp 49) rfl w2.heap.size Tryz.zeroCells66 (rcells R2).toArray rfl rfl (hq1.below hb2 hq1.lt) (by rw [zero_size,HRL2.out]) (by rw [HRL2.out];exact infoRM) HRO2.out ?_
     intro V3 hq3 hh3 hl3)
  | (refine wpList_store_abs rfl 52 (.tmp 15) (.tmp 50) rfl V1.heap.size zeroA (X.2.cells A c).toArray rfl rfl ((hh3 _ (blk_ne hq2 (hq1.below hb2 hq1.lt) (by decide))).trans hq2) (by rw [HAL.out.1];rfl) (by rw [HAL.out.1];exact infoAns) HAL.out.2 ?_
     intro V4 hq4 hh4 hl4))
 have hbe:=hl4 _ w2 hb1.size (hl3 _ w2 (Nat.le_refl _) (below_trans hb1 hb2))
 exact HQ.out _ _ _ _ _ _ V4 _ _ R2 A c (below_trans HY.out.2.2 hbe) ((hh4 _ (blk_ne hq3 ((hh3 _ (blk_ne hq2 (hq1.below hb2 hq1.lt) (by decide))).trans hq2) (by decide))).trans hq3) hq4 HY.out.2.2.size (HY.out.1.below hbe) (HY.out.2.1.below hbe)
set_option maxHeartbeats 6400000 in
set_option maxRecDepth 100000 in
theorem om_do {w0:World} {b4 b8 b9 p q n:Nat} {hd:Hd} {M Mk:Mdl} {R Rk:RMd} {T Tk:Ows} {W:World} {Q:Exit→Act→World→Prop} {gx:Nat} {r:Req} (hW:OmW w0 b4 b8 b9 p q hd M M R T n Mk Rk Tk W) (hn:n ≤ 40) (hx:Blk W gx 39 r.row.toArray) (hr:r.ok)
 (hQ:∀ (s51 s52 s53:Value) (W':World) (g16:Nat) (T2:Ows) (A:Option Addr) (c:Nat),OmW w0 b4 b8 b9 p q hd (doN M r).1 M R T2 n Mk Rk Tk W'→DidK W W'→Blk W' g16 52 ((doN M r).2.cells A c).toArray→RBk.at_ ⟨A,c,(doN M r).2.prs,0,0⟩ W'→Q .normal ⟨#[Xa,Xb,Xc,Xd,Xe,Xf,Xg,.pointer (some ⟨p,0,none⟩),Xi,Xj,Xk,Xl,Xm,.pointer (some ⟨gx,0,none⟩),Xo,Xp,.pointer (some ⟨g16,0,none⟩),Xr,Xs,Xt,Xu,Xv,Xw,Xx,Xy,Xz,Ya,Yb,Yc,Yd,Ye,Yf,Yg,Yh,Yi,Yj,Yk,Yl,Ym,Yn,Yo,Yp,Yq,Yr,Ys,Yt,Yu,Yv,Yw,Yx,Yy,s51,s52,s53,Zc,Zd,Ze,Zf,Zg,Zh,Zi,Zj,Zk,Zl,Zm,Zn,Zo,Zp,Zq,Zr,Zs,Zt,Zu,Zv,Zw,Zx,Zy,Zz,Ja,Jb,Jc,Jd,Je,Jf,Jg,Jh,Ji,Jj,Jk,Jl,Jm,Jn,Jo,Jp,Jq,Jr,Js,Jt,Ju,Jv,Jw,Jy,Jz,Va,Vb,Vc,Vd,Ve,Vf,Vg,Vh,Vi,Vj,Vk,Vl,Vm,Vn,Vo,Vp,Vq,Vr,Vs,Vt,Vu,Vv,Vw,Vx,Vy,Vz,Oa,Ob,Oc,Od,Oe,Og,Oh,Oi,Oj,Ok,Ol,Om,On,Oo,Oq,Ot],[]⟩ W') :
 Code.wp Tryz.prog (part Tryz.f4 [1,1,1,1,1,1,0,1,2,2,1,1,0,2,1,1,1,0]) Q ⟨#[Xa,Xb,Xc,Xd,Xe,Xf,Xg,.pointer (some ⟨p,0,none⟩),Xi,Xj,Xk,Xl,Xm,.pointer (some ⟨gx,0,none⟩),Xo,Xp,Xq,Xr,Xs,Xt,Xu,Xv,Xw,Xx,Xy,Xz,Ya,Yb,Yc,Yd,Ye,Yf,Yg,Yh,Yi,Yj,Yk,Yl,Ym,Yn,Yo,Yp,Yq,Yr,Ys,Yt,Yu,Yv,Yw,Yx,Yy,Yz,Za,Zb,Zc,Zd,Ze,Zf,Zg,Zh,Zi,Zj,Zk,Zl,Zm,Zn,Zo,Zp,Zq,Zr,Zs,Zt,Zu,Zv,Zw,Zx,Zy,Zz,Ja,Jb,Jc,Jd,Je,Jf,Jg,Jh,Ji,Jj,Jk,Jl,Jm,Jn,Jo,Jp,Jq,Jr,Js,Jt,Ju,Jv,Jw,Jy,Jz,Va,Vb,Vc,Vd,Ve,Vf,Vg,Vh,Vi,Vj,Vk,Vl,Vm,Vn,Vo,Vp,Vq,Vr,Vs,Vt,Vu,Vv,Vw,Vx,Vy,Vz,Oa,Ob,Oc,Od,Oe,Og,Oh,Oi,Oj,Ok,Ol,Om,On,Oo,Oq,Ot],[]⟩ W:=by
 conv=>arg 2;whnf
 have HQ:=Lib.hid hQ
 clear hQ
 have HW:=Lib.hid hW
 have HX:=Lib.hid hx
 have HD:=Lib.hid (Do_m hW.m r hr (hW.r.small (by omega)))
 have HST:=Lib.hid (pl_st hW.pl r)
 have HPL:=Lib.hid (pl_do hW.pl r)
 clear hW hn hx hr
 obtain ⟨X,hX⟩:∃ X,doN M r=X:=⟨_,rfl⟩
 rw [hX] at HD HQ HST HPL
 clear hX
 go_wp2_with (first
  | (refine wpList_load_mid rfl 39 (.tmp 13) rfl gx 0 rfl _ _ (range_blk HX.out) Tryz.underlying39 rfl infoRq ?_))
 refine HD.out.mono ?_
 intro e w2 hde
 obtain ⟨A,c,T2,rfl,hW2,hat,hdk⟩:=HW.out.did hde HPL.out
 have HY:=Lib.hid (And.intro hW2 (And.intro hat hdk))
 have HAL:=Lib.hid (ans_cells2 HST.out A c)
 clear hW2 hat hdk hde
 go_wp2_with (first
  | (refine wpList_alloc_abs rfl 52 zeroA rfl (fun w=>Tryz.zeroValue52 w) ?_
     intro V2 hb2 hq2)
  | (refine wpList_store_abs rfl 52 (.tmp 16) (.tmp 53) rfl w2.heap.size zeroA (X.2.cells A c).toArray rfl rfl hq2 (by rw [HAL.out.1];rfl) (by rw [HAL.out.1];exact infoAns) HAL.out.2 ?_
     intro V4 hq4 hh4 hl4))
 have hbe:=hl4 _ w2 (Nat.le_refl _) hb2
 exact HQ.out _ _ _ V4 _ T2 A c (HY.out.1.below hbe) (HY.out.2.2.below hbe) hq4 (HY.out.2.1.below hbe)
set_option maxHeartbeats 6400000 in
set_option maxRecDepth 100000 in
theorem om_next {w0:World} {b4 b8 b9 p q n:Nat} {hd:Hd} {M Mr Mk:Mdl} {R Rk:RMd} {T Tk:Ows} {W:World} {Q:Exit→Act→World→Prop} {g14 n2:Nat} {M2:Mdl} {R2:RMd} (hW:OmW w0 b4 b8 b9 p q hd M Mr R T n Mk Rk Tk W) (hx:Blk W g14 66 (rcells R2).toArray) (h2:RMAt W n2 M2 R2)
 (hQ:∀ (s54:Value) (W':World),OmW w0 b4 b8 b9 p q hd M M2 R2 T n2 Mk Rk Tk W'→(∀ i,i ≠ b8→W'.heap[i]?=W.heap[i]?)→W.heap.size ≤ W'.heap.size→Q .normal ⟨#[Xa,Xb,Xc,Xd,Xe,Xf,Xg,Xh,.pointer (some ⟨b8,0,none⟩),Xj,Xk,Xl,Xm,Xn,.pointer (some ⟨g14,0,none⟩),Xp,Xq,Xr,Xs,Xt,Xu,Xv,Xw,Xx,Xy,Xz,Ya,Yb,Yc,Yd,Ye,Yf,Yg,Yh,Yi,Yj,Yk,Yl,Ym,Yn,Yo,Yp,Yq,Yr,Ys,Yt,Yu,Yv,Yw,Yx,Yy,Yz,Za,Zb,s54,Zd,Ze,Zf,Zg,Zh,Zi,Zj,Zk,Zl,Zm,Zn,Zo,Zp,Zq,Zr,Zs,Zt,Zu,Zv,Zw,Zx,Zy,Zz,Ja,Jb,Jc,Jd,Je,Jf,Jg,Jh,Ji,Jj,Jk,Jl,Jm,Jn,Jo,Jp,Jq,Jr,Js,Jt,Ju,Jv,Jw,Jy,Jz,Va,Vb,Vc,Vd,Ve,Vf,Vg,Vh,Vi,Vj,Vk,Vl,Vm,Vn,Vo,Vp,Vq,Vr,Vs,Vt,Vu,Vv,Vw,Vx,Vy,Vz,Oa,Ob,Oc,Od,Oe,Og,Oh,Oi,Oj,Ok,Ol,Om,On,Oo,Oq,Ot],[]⟩ W') :
 Code.wp Tryz.prog (part Tryz.f4 [1,1,1,1,1,1,0,1,2,2,1,1,0,2,1,1,1,1,0]) Q ⟨#[Xa,Xb,Xc,Xd,Xe,Xf,Xg,Xh,.pointer (some ⟨b8,0,none⟩),Xj,Xk,Xl,Xm,Xn,.pointer (some ⟨g14,0,none⟩),Xp,Xq,Xr,Xs,Xt,Xu,Xv,Xw,Xx,Xy,Xz,Ya,Yb,Yc,Yd,Ye,Yf,Yg,Yh,Yi,Yj,Yk,Yl,Ym,Yn,Yo,Yp,Yq,Yr,Ys,Yt,Yu,Yv,Yw,Yx,Yy,Yz,Za,Zb,Zc,Zd,Ze,Zf,Zg,Zh,Zi,Zj,Zk,Zl,Zm,Zn,Zo,Zp,Zq,Zr,Zs,Zt,Zu,Zv,Zw,Zx,Zy,Zz,Ja,Jb,Jc,Jd,Je,Jf,Jg,Jh,Ji,Jj,Jk,Jl,Jm,Jn,Jo,Jp,Jq,Jr,Js,Jt,Ju,Jv,Jw,Jy,Jz,Va,Vb,Vc,Vd,Ve,Vf,Vg,Vh,Vi,Vj,Vk,Vl,Vm,Vn,Vo,Vp,Vq,Vr,Vs,Vt,Vu,Vv,Vw,Vx,Vy,Vz,Oa,Ob,Oc,Od,Oe,Og,Oh,Oi,Oj,Ok,Ol,Om,On,Oo,Oq,Ot],[]⟩ W:=by
 conv=>arg 2;whnf
 have HQ:=Lib.hid hQ
 clear hQ
 have HW:=Lib.hid hW
 have HX:=Lib.hid hx
 have H2:=Lib.hid h2
 have HRL:=Lib.hid hW.sizes
 have HRL2:=Lib.hid (show (rcells R2).toArray.size=272 by rw [List.size_toArray,rcells_len h2.ok])
 have HRO2:=Lib.hid (rcells_one h2.ok)
 clear hW hx h2
 go_wp2_with (first
  | (refine wpList_load_mid rfl 66 (.tmp 14) rfl g14 0 rfl (rcells R2) _ (range_blk HX.out) Tryz.underlying66 rfl (by rw [← List.size_toArray,HRL2.out];exact infoRM) ?_)
  | (refine wpList_store_abs rfl 66 (.tmp 8) (.tmp 54) rfl b8 (rcells R).toArray (rcells R2).toArray rfl rfl HW.out.x8 (by rw [HRL.out.1,HRL2.out]) (by rw [HRL2.out];exact infoRM) HRO2.out ?_
     intro V4 hq4 hh4 hl4))
 exact HQ.out _ V4 (HW.out.set8 hq4 hh4 hl4 H2.out) hh4 (hl4 0 W (Nat.zero_le _) (by constructor <;> first | rfl | exact Nat.le_refl _ | (intro i hi;rfl))).size
theorem req_h_range {r:Req} {W:World} {g:Nat} {t:TypeId} (h:Blk W g t r.row.toArray):W.rangeAt g 1 r.h.cells.toList:=fun j v hj=>by
 have hc:=req_cells h
 match j,hj with
 | 0,hj=>simp [Req.h,Hd.cells] at hj;subst hj;exact hc.2.1
 | 1,hj=>simp [Req.h,Hd.cells] at hj;subst hj;exact hc.2.2.1
 | 2,hj=>simp [Req.h,Hd.cells] at hj;subst hj;exact hc.2.2.2.1
 | j + 3,hj=>simp [Req.h,Hd.cells] at hj
set_option maxHeartbeats 6400000 in
set_option maxRecDepth 100000 in
theorem om_cmp {w0:World} {b4 b8 b9 p q n:Nat} {hd:Hd} {M Mk:Mdl} {R Rk:RMd} {T Tk:Ows} {W:World} {Q:Exit→Act→World→Prop} {gx g15 g16 c c2:Nat} {r:Req} {X:Mdl × Ans} {A A2:Option Addr} (hW:OmW w0 b4 b8 b9 p q hd M M R T n Mk Rk Tk W) (hn:n ≤ 40) (hst:∃ k b,X.2.st=stKB k b) (hl:X.2.prs.length ≤ 1000000) (q16:Blk W g16 52 (X.2.cells A2 c2).toArray) (q15:Blk W g15 52 (X.2.cells A c).toArray) (a16:RBk.at_ ⟨A2,c2,X.2.prs,0,0⟩ W) (a15:RBk.at_ ⟨A,c,X.2.prs,0,0⟩ W) (qx:Blk W gx 39 r.row.toArray) (hr:r.ok) (hhd:0 ≤ hd.r∧hd.r ≤ 255)
 (hQ:∀ (s55 s56 s57 s58 s59 s60 s61 s62 s63 s64 s65 s66 s67 s68 s69 s70 s71 s72 s73 s74 s75 s76 s77 s78:Value) (W':World),OmW w0 b4 b8 b9 p q hd M M R T n Mk Rk Tk W'→W.heap.size ≤ W'.heap.size→Q .normal ⟨#[Xa,Xb,Xc,Xd,.pointer (some ⟨b4,0,none⟩),Xf,Xg,.pointer (some ⟨p,0,none⟩),.pointer (some ⟨b8,0,none⟩),Xj,Xk,Xl,Xm,.pointer (some ⟨gx,0,none⟩),Xo,.pointer (some ⟨g15,0,none⟩),.pointer (some ⟨g16,0,none⟩),Xr,Xs,Xt,Xu,Xv,Xw,Xx,Xy,Xz,Ya,Yb,Yc,Yd,Ye,Yf,Yg,Yh,Yi,Yj,Yk,Yl,Ym,Yn,Yo,Yp,Yq,Yr,Ys,Yt,Yu,Yv,Yw,Yx,Yy,Yz,Za,Zb,Zc,s55,s56,s57,s58,s59,s60,s61,s62,s63,s64,s65,s66,s67,s68,s69,s70,s71,s72,s73,s74,s75,s76,s77,s78,Jb,Jc,Jd,Je,Jf,Jg,Jh,Ji,Jj,Jk,Jl,Jm,Jn,Jo,Jp,Jq,Jr,Js,Jt,Ju,Jv,Jw,Jy,Jz,Va,Vb,Vc,Vd,Ve,Vf,Vg,Vh,Vi,Vj,Vk,Vl,Vm,Vn,Vo,Vp,Vq,Vr,Vs,Vt,Vu,Vv,Vw,Vx,Vy,Vz,Oa,Ob,Oc,Od,Oe,Og,Oh,Oi,Oj,Ok,Ol,Om,On,Oo,Oq,Ot],[]⟩ W') :
 Code.wp Tryz.prog (part Tryz.f4 [1,1,1,1,1,1,0,1,2,2,1,1,0,2,1,1,1,1,1]) Q ⟨#[Xa,Xb,Xc,Xd,.pointer (some ⟨b4,0,none⟩),Xf,Xg,.pointer (some ⟨p,0,none⟩),.pointer (some ⟨b8,0,none⟩),Xj,Xk,Xl,Xm,.pointer (some ⟨gx,0,none⟩),Xo,.pointer (some ⟨g15,0,none⟩),.pointer (some ⟨g16,0,none⟩),Xr,Xs,Xt,Xu,Xv,Xw,Xx,Xy,Xz,Ya,Yb,Yc,Yd,Ye,Yf,Yg,Yh,Yi,Yj,Yk,Yl,Ym,Yn,Yo,Yp,Yq,Yr,Ys,Yt,Yu,Yv,Yw,Yx,Yy,Yz,Za,Zb,Zc,Zd,Ze,Zf,Zg,Zh,Zi,Zj,Zk,Zl,Zm,Zn,Zo,Zp,Zq,Zr,Zs,Zt,Zu,Zv,Zw,Zx,Zy,Zz,Ja,Jb,Jc,Jd,Je,Jf,Jg,Jh,Ji,Jj,Jk,Jl,Jm,Jn,Jo,Jp,Jq,Jr,Js,Jt,Ju,Jv,Jw,Jy,Jz,Va,Vb,Vc,Vd,Ve,Vf,Vg,Vh,Vi,Vj,Vk,Vl,Vm,Vn,Vo,Vp,Vq,Vr,Vs,Vt,Vu,Vv,Vw,Vx,Vy,Vz,Oa,Ob,Oc,Od,Oe,Og,Oh,Oi,Oj,Ok,Ol,Om,On,Oo,Oq,Ot],[]⟩ W:=by
 conv=>arg 2;whnf
 have HQ:=Lib.hid hQ
 clear hQ
 have HAL:=Lib.hid (fun A c=>ans_cells2 hst A c)
 have HRL:=Lib.hid hW.sizes
 have HP:=Lib.hid (And.intro hhd (And.intro hr.rig.1 hr.rig.2))
 have HX:Hid (∀ V,Below W.heap.size W V→OmW w0 b4 b8 b9 p q hd M M R T n Mk Rk Tk V∧Blk V g15 52 (X.2.cells A c).toArray∧Blk V g16 52 (X.2.cells A2 c2).toArray∧RBk.at_ ⟨A2,c2,X.2.prs,0,0⟩ V∧RBk.at_ ⟨A,c,X.2.prs,0,0⟩ V∧Blk V gx 39 r.row.toArray) :=
  Lib.hid (fun V hb=>⟨hW.below hb,q15.below hb q15.lt,q16.below hb q16.lt,a16.below hb,a15.below hb,qx.below hb qx.lt⟩)
 have HSA:Hid (∀ V,Below W.heap.size W V→Calls Tryz.prog 18 #[X.2.v A2 c2,X.2.v A c] V (BoolB true V)) :=
  Lib.hid (fun V hb=>same_ans hst hl (HX.out V hb).2.2.2.1 (HX.out V hb).2.2.2.2.1)
 have HG:Hid (∀ V,Below W.heap.size W V→∀ x:Hd,Calls Tryz.prog 9 #[.pointer (some ⟨p,0,none⟩),x.v] V (BoolB (goodN M x) V)) :=
  Lib.hid (fun V hb x=>good_m (HX.out V hb).1.m x)
 have HGR:Hid (∀ V,Below W.heap.size W V→∀ x:Hd,0 ≤ x.r∧x.r ≤ 255→Calls Tryz.prog 19 #[.agg (rcells R).toArray,x.v] V (BoolB (goodN M x) V)) :=
  Lib.hid (fun V hb x hx=>goodR_any (HX.out V hb).1.r x hx)
 have H0:Below W.heap.size W W.drew:=(Below.refl _ _).drew
 clear hW hn hst hl q16 q15 a16 a15 qx hr hhd
 refine wp_seq_k fun K0 hK=>?_
 have HK0:=Lib.hid hK
 clear hK
 refine wp_region_noPanic ?_
 refine wp_region_held_drew (S:=(fun V:World=>Below W.heap.size W V)) (by kernel_rfl) ?_ (fun hHeld0=>?_)
 · exact H0
 refine tk (i:=0) rfl (yieldsIf_load_mid rfl 52 (.tmp 16) rfl g16 0 rfl (X.2.cells A2 c2) _ (fun V hV=>range_blk (HX.out V hV).2.2.1) Tryz.underlying52 rfl (by rw [← List.size_toArray];exact (congrArg some (HAL.out A2 c2).1 ▸ infoAns))) hHeld0 ?_
 try simp only [Act.put,zA,zB,zC,zD,zE,zF]
 refine tk (i:=1) rfl (yieldsIf_load_mid rfl 52 (.tmp 15) rfl g15 0 rfl (X.2.cells A c) _ (fun V hV=>range_blk (HX.out V hV).2.1) Tryz.underlying52 rfl (by rw [← List.size_toArray];exact (congrArg some (HAL.out A c).1 ▸ infoAns))) hHeld0 ?_
 try simp only [Act.put,zA,zB,zC,zD,zE,zF]
 refine wpAnyH_ready (rs:=[2]) (by kernel_rfl) (by simp) ?_
 refine AllReadyH.cons (Array.getElem?_eq_getElem (by decide)) (fun K hK=>?_) AllReadyH.nil
 simp only [List.getElem_toArray,List.getElem_cons_succ,List.getElem_cons_zero]
 rw [if_pos (by kernel_rfl)]
 go_simp
 refine (HSA.out _ H0).mono ?_
 rintro e w1 ⟨rfl,hb⟩
 have H1:=below_trans H0 hb
 clear hb
 refine hK.out _ _ ?_ (fun hHeld1=>?_)
 · exact H1
 clear hK K hHeld0
 try simp only [Act.put,zA,zB,zC,zD,zE,zF]
 refine tk (i:=3) (v:=?_) rfl (Or.inl ⟨by rfl,?_⟩) hHeld1 ?_
 rotate_left
 · (intro w hSw;(try dsimp only at hSw);go_simp <;> with_reducible rfl)
 try simp only [Act.put,zA,zB,zC,zD,zE,zF]
 refine tk (i:=4) (v:=?_) rfl (Or.inl ⟨by rfl,?_⟩) hHeld1 ?_
 rotate_left
 · (intro w hSw;(try dsimp only at hSw);go_simp <;> with_reducible rfl)
 try simp only [Act.put,zA,zB,zC,zD,zE,zF]
 refine tk (i:=5) (v:=?_) rfl (Or.inl ⟨by kernel_rfl,?_⟩) hHeld1 ?_
 rotate_left
 · (intro w hSw;(try dsimp only at hSw);go_simp <;> with_reducible rfl)
 try simp only [Act.put,zA,zB,zC,zD,zE,zF]
 refine tk (i:=6) rfl (yieldsIf_load_mid (by kernel_rfl) 37 (.tmp 4) rfl b4 0 rfl hd.cells.toList _ (fun V hV=>range_blk (HX.out V hV).1.x4) Tryz.underlying37 rfl infoHd3) hHeld1 ?_
 try simp only [Act.put,zA,zB,zC,zD,zE,zF]
 refine tk (i:=8) rfl (yieldsIf_load_mid (by kernel_rfl) 66 (.tmp 8) rfl b8 0 rfl (rcells R) _ (fun V hV=>range_blk (HX.out V hV).1.x8) Tryz.underlying66 rfl (by rw [← List.size_toArray,HRL.out.1];exact infoRM)) hHeld1 ?_
 try simp only [Act.put,zA,zB,zC,zD,zE,zF]
 refine tk (i:=9) rfl (yieldsIf_load_mid (by kernel_rfl) 37 (.tmp 4) rfl b4 0 rfl hd.cells.toList _ (fun V hV=>range_blk (HX.out V hV).1.x4) Tryz.underlying37 rfl infoHd3) hHeld1 ?_
 try simp only [Act.put,zA,zB,zC,zD,zE,zF]
 refine wpAnyH_ready (rs:=[7]) (by kernel_rfl) (by simp) ?_
 refine AllReadyH.cons (Array.getElem?_eq_getElem (by decide)) (fun K hK=>?_) AllReadyH.nil
 simp only [List.getElem_toArray,List.getElem_cons_succ,List.getElem_cons_zero]
 rw [if_pos (by kernel_rfl)]
 go_simp
 refine (HG.out _ H1 hd).mono ?_
 rintro e w2 ⟨rfl,hb⟩
 have H2:=below_trans H1 hb
 clear hb
 refine hK.out _ _ ?_ (fun hHeld2=>?_)
 · exact H2
 clear hK K hHeld1
 try simp only [Act.put,zA,zB,zC,zD,zE,zF]
 refine wpAnyH_ready (rs:=[10]) (by kernel_rfl) (by simp) ?_
 refine AllReadyH.cons (Array.getElem?_eq_getElem (by decide)) (fun K hK=>?_) AllReadyH.nil
 simp only [List.getElem_toArray,List.getElem_cons_succ,List.getElem_cons_zero]
 rw [if_pos (by kernel_rfl)]
 go_simp
 refine (HGR.out _ H2 hd HP.out.1).mono ?_
 rintro e w3 ⟨rfl,hb⟩
 have H3:=below_trans H2 hb
 clear hb
 refine hK.out _ _ ?_ (fun hHeld3=>?_)
 · exact H3
 clear hK K hHeld2
 try simp only [Act.put,zA,zB,zC,zD,zE,zF]
 refine tk (i:=11) (v:=?_) rfl (Or.inl ⟨by kernel_rfl,?_⟩) hHeld3 ?_
 rotate_left
 · (intro w hSw;(try dsimp only at hSw);go_simp <;> with_reducible rfl)
 try simp only [Act.put,zA,zB,zC,zD,zE,zF]
 try simp only [bne_self_eq_false,ne_eq,not_true_eq_false,decide_false,bne,beq_self_eq_true,Bool.not_true]
 refine tk (i:=12) (v:=?_) rfl (Or.inl ⟨by rfl,?_⟩) hHeld3 ?_
 rotate_left
 · (intro w hSw;(try dsimp only at hSw);go_simp <;> with_reducible rfl)
 try simp only [Act.put,zA,zB,zC,zD,zE,zF]
 refine tk (i:=13) (v:=?_) rfl (Or.inl ⟨by rfl,?_⟩) hHeld3 ?_
 rotate_left
 · (intro w hSw;(try dsimp only at hSw);go_simp <;> with_reducible rfl)
 try simp only [Act.put,zA,zB,zC,zD,zE,zF]
 refine tk (i:=14) (v:=?_) rfl (Or.inl ⟨by kernel_rfl,?_⟩) hHeld3 ?_
 rotate_left
 · (intro w hSw;(try dsimp only at hSw);go_simp <;> with_reducible rfl)
 try simp only [Act.put,zA,zB,zC,zD,zE,zF]
 refine tk (i:=15) (v:=?_) rfl (Or.inl ⟨by kernel_rfl,?_⟩) hHeld3 ?_
 rotate_left
 · (intro w hSw;(try dsimp only at hSw);go_simp <;> with_reducible rfl)
 try simp only [Act.put,zA,zB,zC,zD,zE,zF]
 refine tk (i:=16) rfl (yieldsIf_load_mid (by kernel_rfl) 37 (.tmp 70) rfl gx 1 rfl r.h.cells.toList _ (fun V hV=>req_h_range (HX.out V hV).2.2.2.2.2) Tryz.underlying37 rfl infoHd3) hHeld3 ?_
 try simp only [Act.put,zA,zB,zC,zD,zE,zF]
 refine tk (i:=18) rfl (yieldsIf_load_mid (by kernel_rfl) 66 (.tmp 8) rfl b8 0 rfl (rcells R) _ (fun V hV=>range_blk (HX.out V hV).1.x8) Tryz.underlying66 rfl (by rw [← List.size_toArray,HRL.out.1];exact infoRM)) hHeld3 ?_
 try simp only [Act.put,zA,zB,zC,zD,zE,zF]
 refine tk (i:=19) (v:=?_) rfl (Or.inl ⟨by kernel_rfl,?_⟩) hHeld3 ?_
 rotate_left
 · (intro w hSw;(try dsimp only at hSw);go_simp <;> with_reducible rfl)
 try simp only [Act.put,zA,zB,zC,zD,zE,zF]
 refine tk (i:=20) rfl (yieldsIf_load_mid (by kernel_rfl) 37 (.tmp 74) rfl gx 1 rfl r.h.cells.toList _ (fun V hV=>req_h_range (HX.out V hV).2.2.2.2.2) Tryz.underlying37 rfl infoHd3) hHeld3 ?_
 try simp only [Act.put,zA,zB,zC,zD,zE,zF]
 refine wpAnyH_ready (rs:=[17]) (by kernel_rfl) (by simp) ?_
 refine AllReadyH.cons (Array.getElem?_eq_getElem (by decide)) (fun K hK=>?_) AllReadyH.nil
 simp only [List.getElem_toArray,List.getElem_cons_succ,List.getElem_cons_zero]
 rw [if_pos (by kernel_rfl)]
 go_simp
 refine (HG.out _ H3 r.h).mono ?_
 rintro e w4 ⟨rfl,hb⟩
 have H4:=below_trans H3 hb
 clear hb
 refine hK.out _ _ ?_ (fun hHeld4=>?_)
 · exact H4
 clear hK K hHeld3
 try simp only [Act.put,zA,zB,zC,zD,zE,zF]
 refine wpAnyH_ready (rs:=[21]) (by kernel_rfl) (by simp) ?_
 refine AllReadyH.cons (Array.getElem?_eq_getElem (by decide)) (fun K hK=>?_) AllReadyH.nil
 simp only [List.getElem_toArray,List.getElem_cons_succ,List.getElem_cons_zero]
 rw [if_pos (by kernel_rfl)]
 go_simp
 refine (HGR.out _ H4 r.h HP.out.2).mono ?_
 rintro e w5 ⟨rfl,hb⟩
 have H5:=below_trans H4 hb
 clear hb
 refine hK.out _ _ ?_ (fun hHeld5=>?_)
 · exact H5
 clear hK K hHeld4
 try simp only [Act.put,zA,zB,zC,zD,zE,zF]
 refine tk (i:=22) (v:=?_) rfl (Or.inl ⟨by kernel_rfl,?_⟩) hHeld5 ?_
 rotate_left
 · (intro w hSw;(try dsimp only at hSw);go_simp <;> with_reducible rfl)
 try simp only [Act.put,zA,zB,zC,zD,zE,zF]
 try simp only [bne_self_eq_false,ne_eq,not_true_eq_false,decide_false,bne,beq_self_eq_true,Bool.not_true]
 refine tk (i:=23) (v:=?_) rfl (Or.inl ⟨by rfl,?_⟩) hHeld5 ?_
 rotate_left
 · (intro w hSw;(try dsimp only at hSw);go_simp <;> with_reducible rfl)
 try simp only [Act.put,zA,zB,zC,zD,zE,zF]
 refine wpAnyH_done (by kernel_rfl) ?_ _
 refine NoPanic.normal (HK0.out _ _ ?_)
 try simp only [Act.put]
 go_wp2_with fail
 exact HQ.out _ _ _ _ _ _ _ _ _ _ _ _ _ _ _ _ _ _ _ _ _ _ _ _ _ (HX.out _ H5).1 (H5.size)
end Go.Proofs.YtkgflepgkhnclaaGreatDoor
namespace Go.Proofs.YtkgflepgkhnclaaGreatDoor
set_option linter.unusedVariables false
set_option linter.unusedSimpArgs false
open Go.RowKit Go.Shelf
variable {Xa Xb Xc Xd Xe Xf Xg Xh Xi Xj Xk Xl Xm Xn Xo Xp Xq Xr Xs Xt Xu Xv Xw Xx Xy Xz Ya Yb Yc Yd Ye Yf Yg Yh Yi Yj Yk Yl Ym Yn Yo Yp Yq Yr Ys Yt Yu Yv Yw Yx Yy Yz Za Zb Zc Zd Ze Zf Zg Zh Zi Zj Zk Zl Zm Zn Zo Zp Zq Zr Zs Zt Zu Zv Zw Zx Zy Zz Ja Jb Jc Jd Je Jf Jg Jh Ji Jj Jk Jl Jm Jn Jo Jp Jq Jr Js Jt Ju Jv Jw Jy Jz Va Vb Vc Vd Ve Vf Vg Vh Vi Vj Vk Vl Vm Vn Vo Vp Vq Vr Vs Vt Vu Vv Vw Vx Vy Vz Oa Ob Oc Od Oe Og Oh Oi Oj Ok Ol Om On Oo Oq Ot Ou Ov Ox Oy Oz Ha Hb Hc He Hf Hg Hh Hi Hj Hk Hl Hm Hn Ho Hp Hq Hr Hs Ht Hu Hv Hw Hx Hy Hz Ia Ib Ic Id Ie If Ig Ih Ii Ij Ik Il Im In Io Ip Iq Ir It Iu Iv Iw Ix Iy Iz Ua Ub Uc Ud Ue Uf Ug Uh Ui Uj Uk Ul:Value}
theorem at_other {b:RBk} {W V:World} {g:Nat} {cs:Array Value} (h:b.at_ W) (q:Blk W g 66 cs) (hh:∀ i,i ≠ g→V.heap[i]?=W.heap[i]?) (hs:W.heap.size ≤ V.heap.size):b.at_ V :=
 h.keep hs (fun ad h0 hA=>by
  obtain ⟨cs',hq⟩:=h.ty ad h0 hA
  exact hh _ (blk_ne hq q (by decide)))
set_option maxHeartbeats 6400000 in
set_option maxRecDepth 100000 in
theorem om_round {w0:World} {b4 b8 b9 p q n:Nat} {hd:Hd} {M Mk:Mdl} {R Rk:RMd} {T Tk:Ows} {W:World} {Q:Exit→Act→World→Prop} {k:Int} {gl ol nl cl i:Nat} {r:Req} (hW:OmW w0 b4 b8 b9 p q hd M M R T n Mk Rk Tk W) (hn:n ≤ 39) (hi:i < nl) (hrow:W.rangeAt gl (ol + i * 12) r.row) (hr:r.ok) (hhd:0 ≤ hd.r∧hd.r ≤ 255)
 (hQ:∀ (s12 s13 s14 s15 s16 s36 s37 s38 s39 s40 s41 s42 s43 s44 s45 s46 s47 s48 s49 s50 s51 s52 s53 s54 s55 s56 s57 s58 s59 s60 s61 s62 s63 s64 s65 s66 s67 s68 s69 s70 s71 s72 s73 s74 s75 s76 s77 s78:Value) (W':World) (q2:Nat) (R2:RMd) (T2:Ows) (Mk2:Mdl) (Rk2:RMd) (Tk2:Ows),OmW w0 b4 b8 b9 p q2 hd (doN M r).1 (doN M r).1 R2 T2 (n + 1) Mk2 Rk2 Tk2 W'→Q .normal ⟨#[Xa,Xb,Xc,Xd,.pointer (some ⟨b4,0,none⟩),Xf,Xg,.pointer (some ⟨p,0,none⟩),.pointer (some ⟨b8,0,none⟩),.pointer (some ⟨b9,0,none⟩),.pointer (some ⟨q2,0,none⟩),.int .i64 k,s12,s13,s14,s15,s16,Xr,Xs,Xt,Xu,Xv,Xw,Xx,Xy,Xz,Ya,Yb,Yc,Yd,Ye,Yf,.slice (some ⟨gl,ol,none⟩) nl cl,Yh,.int .i64 (i:Nat),Yj,s36,s37,s38,s39,s40,s41,s42,s43,s44,s45,s46,s47,s48,s49,s50,s51,s52,s53,s54,s55,s56,s57,s58,s59,s60,s61,s62,s63,s64,s65,s66,s67,s68,s69,s70,s71,s72,s73,s74,s75,s76,s77,s78,Jb,Jc,Jd,Je,Jf,Jg,Jh,Ji,Jj,Jk,Jl,Jm,Jn,Jo,Jp,Jq,Jr,Js,Jt,Ju,Jv,Jw,Jy,Jz,Va,Vb,Vc,Vd,Ve,Vf,Vg,Vh,Vi,Vj,Vk,Vl,Vm,Vn,Vo,Vp,Vq,Vr,Vs,Vt,Vu,Vv,Vw,Vx,Vy,Vz,Oa,Ob,Oc,Od,Oe,Og,Oh,Oi,Oj,Ok,Ol,Om,On,Oo,Oq,Ot],[]⟩ W') :
 Code.wp Tryz.prog (part Tryz.f4 [1,1,1,1,1,1,0,1,2,2,1,1,0,2]) Q ⟨#[Xa,Xb,Xc,Xd,.pointer (some ⟨b4,0,none⟩),Xf,Xg,.pointer (some ⟨p,0,none⟩),.pointer (some ⟨b8,0,none⟩),.pointer (some ⟨b9,0,none⟩),.pointer (some ⟨q,0,none⟩),.int .i64 k,Xm,Xn,Xo,Xp,Xq,Xr,Xs,Xt,Xu,Xv,Xw,Xx,Xy,Xz,Ya,Yb,Yc,Yd,Ye,Yf,.slice (some ⟨gl,ol,none⟩) nl cl,Yh,.int .i64 (i:Nat),Yj,Yk,Yl,Ym,Yn,Yo,Yp,Yq,Yr,Ys,Yt,Yu,Yv,Yw,Yx,Yy,Yz,Za,Zb,Zc,Zd,Ze,Zf,Zg,Zh,Zi,Zj,Zk,Zl,Zm,Zn,Zo,Zp,Zq,Zr,Zs,Zt,Zu,Zv,Zw,Zx,Zy,Zz,Ja,Jb,Jc,Jd,Je,Jf,Jg,Jh,Ji,Jj,Jk,Jl,Jm,Jn,Jo,Jp,Jq,Jr,Js,Jt,Ju,Jv,Jw,Jy,Jz,Va,Vb,Vc,Vd,Ve,Vf,Vg,Vh,Vi,Vj,Vk,Vl,Vm,Vn,Vo,Vp,Vq,Vr,Vs,Vt,Vu,Vv,Vw,Vx,Vy,Vz,Oa,Ob,Oc,Od,Oe,Og,Oh,Oi,Oj,Ok,Ol,Om,On,Oo,Oq,Ot],[]⟩ W:=by
 conv=>arg 2;whnf
 have HQ:=Lib.hid hQ
 clear hQ
 have HW:=Lib.hid hW
 have HP:=Lib.hid (And.intro hn (And.intro hr hhd))
 have HPR:=Lib.hid (prs_len (hW.r.small (by omega)) r)
 have HST:=Lib.hid (pl_st hW.pl r)
 clear hW hn hr hhd
 refine wp_seq_k fun K0 hK=>?_
 have HK0:=Lib.hid hK
 clear hK
 refine om_load hi hrow (fun s36 s37 s38 W1 gx hb1 hgx hq1=>?_)
 refine HK0.out _ _ ?_
 clear HK0
 have HW1:=Lib.hid (HW.out.below hb1)
 clear HW hb1 hgx
 refine wp_seq_k fun K0 hK=>?_
 have HK0:=Lib.hid hK
 clear hK
 refine om_keep hq1 HW1.out (by have:=HP.out.1;omega) (fun s39 s40 s41 s42 s43 s44 W2 q2 Mk2 Rk2 Tk2 hW2 hq2=>?_)
 refine HK0.out _ _ ?_
 clear HK0
 have HW2:=Lib.hid (And.intro hW2 hq2)
 clear HW1 hW2 hq1 hq2
 refine wp_seq_k fun K0 hK=>?_
 have HK0:=Lib.hid hK
 clear hK
 refine om_ref HW2.out.1 (by have:=HP.out.1;omega) HW2.out.2 HP.out.2.1 (fun s45 s46 s47 s48 s49 s50 W3 g14 g15 R2 A c hb3 hq14 hq15 hg14 hr2 hat=>?_)
 refine HK0.out _ _ ?_
 clear HK0
 have HW3:=Lib.hid (And.intro (HW2.out.1.below hb3) (And.intro (HW2.out.2.below hb3 HW2.out.2.lt) (And.intro hq14 (And.intro hq15 (And.intro hr2 hat)))))
 clear HW2 hb3 hq14 hq15 hg14 hr2 hat
 refine wp_seq_k fun K0 hK=>?_
 have HK0:=Lib.hid hK
 clear hK
 refine om_do HW3.out.1 (by have:=HP.out.1;omega) HW3.out.2.1 HP.out.2.1 (fun s51 s52 s53 W4 g16 T2 A2 c2 hW4 hdk hq16 hat16=>?_)
 refine HK0.out _ _ ?_
 clear HK0
 obtain ⟨-,x1,x2,x3,x4,x5⟩:=HW3.out
 have HW4:=Lib.hid (And.intro hW4 (And.intro (hdk.req _ _ x1) (And.intro (hdk.mdl _ _ x2) (And.intro (hdk.ans _ _ x3) (And.intro (hdk.rm _ _ _ x4) (And.intro (hdk.at_ _ x5) (And.intro hq16 hat16)))))))
 clear HW3 hW4 hdk hq16 hat16 x1 x2 x3 x4 x5
 refine wp_seq_k fun K0 hK=>?_
 have HK0:=Lib.hid hK
 clear hK
 refine om_next HW4.out.1 HW4.out.2.2.1 HW4.out.2.2.2.2.1 (fun s54 W5 hW5 hh hs=>?_)
 refine HK0.out _ _ ?_
 clear HK0
 obtain ⟨hw4,x1,x2,x3,x4,x5,x6,x7⟩:=HW4.out
 refine om_cmp hW5 (by have:=HP.out.1;omega) HST.out HPR.out ((hh _ (blk_ne x6 hw4.x8 (by decide))).trans x6) ((hh _ (blk_ne x3 hw4.x8 (by decide))).trans x3) (at_other x7 hw4.x8 hh hs) (at_other x5 hw4.x8 hh hs) ((hh _ (blk_ne x1 hw4.x8 (by decide))).trans x1) HP.out.2.1 HP.out.2.2 (fun s55 s56 s57 s58 s59 s60 s61 s62 s63 s64 s65 s66 s67 s68 s69 s70 s71 s72 s73 s74 s75 s76 s77 s78 W6 hW6 _=>?_)
 exact HQ.out _ _ _ _ _ _ _ _ _ _ _ _ _ _ _ _ _ _ _ _ _ _ _ _ _ _ _ _ _ _ _ _ _ _ _ _ _ _ _ _ _ _ _ _ _ _ _ _ W6 q2 R2 T2 Mk2 Rk2 Tk2 hW6
end Go.Proofs.YtkgflepgkhnclaaGreatDoor
namespace Go.Proofs.YtkgflepgkhnclaaGreatDoor
set_option linter.unusedVariables false
set_option linter.unusedSimpArgs false
open Go.RowKit Go.Shelf
attribute [local go_sem] run_store_complex
variable {Xa Xb Xc Xd Xe Xf Xg Xh Xi Xj Xk Xl Xm Xn Xo Xp Xq Xr Xs Xt Xu Xv Xw Xx Xy Xz Ya Yb Yc Yd Ye Yf Yg Yh Yi Yj Yk Yl Ym Yn Yo Yp Yq Yr Ys Yt Yu Yv Yw Yx Yy Yz Za Zb Zc Zd Ze Zf Zg Zh Zi Zj Zk Zl Zm Zn Zo Zp Zq Zr Zs Zt Zu Zv Zw Zx Zy Zz Ja Jb Jc Jd Je Jf Jg Jh Ji Jj Jk Jl Jm Jn Jo Jp Jq Jr Js Jt Ju Jv Jw Jy Jz Va Vb Vc Vd Ve Vf Vg Vh Vi Vj Vk Vl Vm Vn Vo Vp Vq Vr Vs Vt Vu Vv Vw Vx Vy Vz Oa Ob Oc Od Oe Og Oh Oi Oj Ok Ol Om On Oo Oq Ot Ou Ov Ox Oy Oz Ha Hb Hc He Hf Hg Hh Hi Hj Hk Hl Hm Hn Ho Hp Hq Hr Hs Ht Hu Hv Hw Hx Hy Hz Ia Ib Ic Id Ie If Ig Ih Ii Ij Ik Il Im In Io Ip Iq Ir It Iu Iv Iw Ix Iy Iz Ua Ub Uc Ud Ue Uf Ug Uh Ui Uj Uk Ul:Value}
set_option maxHeartbeats 6400000 in
set_option maxRecDepth 100000 in
theorem om_two {b4:Nat} {hd:Hd} {W:World} {Q:Exit→Act→World→Prop} {v:Value} (hN:NoM W v) (h4:Blk W b4 37 hd.cells)
 (hQ:∀ (s19 s105 s106 s107 s108 s109 s110 s111 s112 s113 s114 s115 s116 s117 s118 s119 s120 s121 s122 s123 s124 s125 s126 s127 s128 s129 s130 s131 s132 s133 s134 s135 s136 s137 s138 s139 s140 s141 s142:Value) (W':World),Below W.heap.size W W'→Q .normal ⟨#[Xa,Xb,Xc,Xd,.pointer (some ⟨b4,0,none⟩),Xf,Xg,Xh,Xi,Xj,Xk,Xl,Xm,Xn,Xo,Xp,Xq,Xr,v,s19,Xu,Xv,Xw,Xx,Xy,Xz,Ya,Yb,Yc,Yd,Ye,Yf,Yg,Yh,Yi,Yj,Yk,Yl,Ym,Yn,Yo,Yp,Yq,Yr,Ys,Yt,Yu,Yv,Yw,Yx,Yy,Yz,Za,Zb,Zc,Zd,Ze,Zf,Zg,Zh,Zi,Zj,Zk,Zl,Zm,Zn,Zo,Zp,Zq,Zr,Zs,Zt,Zu,Zv,Zw,Zx,Zy,Zz,Ja,Jb,Jc,Jd,Je,Jf,Jg,Jh,Ji,Jj,Jk,Jl,Jm,Jn,Jo,Jp,Jq,Jr,Js,Jt,Ju,Jv,Jw,Jy,Jz,Va,Vb,s105,s106,s107,s108,s109,s110,s111,s112,s113,s114,s115,s116,s117,s118,s119,s120,s121,s122,s123,s124,s125,s126,s127,s128,s129,s130,s131,s132,s133,s134,s135,s136,s137,s138,s139,s140,s141,s142,Oq,Ot],[]⟩ W') :
 Code.wp Tryz.prog (part Tryz.f4 [1,1,1,1,1,1,1,1,1,0,1,2,2,1,1,0,2,1]) Q ⟨#[Xa,Xb,Xc,Xd,.pointer (some ⟨b4,0,none⟩),Xf,Xg,Xh,Xi,Xj,Xk,Xl,Xm,Xn,Xo,Xp,Xq,Xr,v,Xt,Xu,Xv,Xw,Xx,Xy,Xz,Ya,Yb,Yc,Yd,Ye,Yf,Yg,Yh,Yi,Yj,Yk,Yl,Ym,Yn,Yo,Yp,Yq,Yr,Ys,Yt,Yu,Yv,Yw,Yx,Yy,Yz,Za,Zb,Zc,Zd,Ze,Zf,Zg,Zh,Zi,Zj,Zk,Zl,Zm,Zn,Zo,Zp,Zq,Zr,Zs,Zt,Zu,Zv,Zw,Zx,Zy,Zz,Ja,Jb,Jc,Jd,Je,Jf,Jg,Jh,Ji,Jj,Jk,Jl,Jm,Jn,Jo,Jp,Jq,Jr,Js,Jt,Ju,Jv,Jw,Jy,Jz,Va,Vb,Vc,Vd,Ve,Vf,Vg,Vh,Vi,Vj,Vk,Vl,Vm,Vn,Vo,Vp,Vq,Vr,Vs,Vt,Vu,Vv,Vw,Vx,Vy,Vz,Oa,Ob,Oc,Od,Oe,Og,Oh,Oi,Oj,Ok,Ol,Om,On,Oo,Oq,Ot],[]⟩ W:=by
 conv=>arg 2;whnf
 have HQ:=Lib.hid hQ
 clear hQ
 have HN:=Lib.hid hN
 have H4:=Lib.hid h4
 obtain ⟨ht,hg,hr⟩:=hd
 have c0:=h4.cell 0
 have c1:=h4.cell 1
 have c2:=h4.cell 2
 simp [Hd.cells] at c0 c1 c2
 clear hN h4
 refine wp_seq_k fun K0 hK=>?_
 have HK0:=Lib.hid hK
 clear hK
 go_wp2_with fail
 refine (ended_u HN.out ⟨1,ht,hg,hr,⟨#[]⟩,⟨#[]⟩,⟨#[]⟩,0,0,0,0,0⟩).mono ?_
 rintro e w1 ⟨rfl,hb1⟩
 have HB1:=Lib.hid hb1
 clear hb1 c0 c1 c2
 go_wp2_with fail
 refine HK0.out _ _ ?_
 clear HK0
 try simp only [Act.put]
 refine wp_seq_k fun K0 hK=>?_
 have HK0:=Lib.hid hK
 clear hK
 go_wp2_with fail
 refine (do_u (HN.out.below HB1.out) ⟨7,0,0,0,⟨#[]⟩,⟨#[]⟩,⟨#[]⟩,0,1,0,0,0⟩).mono ?_
 rintro e w2 ⟨rfl,hb2⟩
 have HB2:=Lib.hid (below_trans HB1.out hb2)
 clear hb2 HB1
 go_wp2_with (first
  | (refine wpList_alloc_abs rfl 52 zeroA rfl (fun w=>Tryz.zeroValue52 w) ?_
     intro V2 hb2 hq2)
  | (refine wpList_store_abs rfl 52 (.tmp 19) (.tmp 112) rfl w2.heap.size zeroA ((errA 1).cells none 0).toArray rfl rfl hq2 rfl infoAns (by simp [errA,Ans.cells,st0,Value.oneCell']) ?_
     intro V4 hq4 hh4 hl4))
 refine HK0.out _ _ ?_
 clear HK0
 try simp only [Act.put]
 have HQ4:=Lib.hid (And.intro hq4 (below_trans HB2.out (hl4 _ w2 (Nat.le_refl _) hb2)))
 clear hq4 hh4 hl4 hb2 hq2 HB2
 obtain ⟨g,hg2⟩:∃ g,w2.heap.size=g:=⟨_,rfl⟩
 rw [hg2] at HQ4 ⊢
 clear hg2
 refine wp_seq_k fun K0 hK=>?_
 have HK0:=Lib.hid hK
 clear hK
 go_wp2_with (first
  | (refine wpList_load_mid rfl 52 (.tmp 19) rfl g 0 rfl _ _ (range_blk HQ4.out.1) Tryz.underlying52 rfl infoAns ?_))
 refine (sameAns_any 1 ⟨#[]⟩ [] ⟨0,0,0⟩ 0 0 none none 0 0 V4 (by simp) nil_at nil_at).mono ?_
 rintro e w5 ⟨rfl,hb5⟩
 have HB5:=Lib.hid (And.intro (below_trans HQ4.out.2 hb5) (HQ4.out.1.below hb5 HQ4.out.1.lt))
 clear hb5 HQ4
 go_wp2_with (first
  | (refine wpList_load_on (by kernel_rfl) 37 (.tmp 4) rfl b4 0 rfl _ _ (range_blk (H4.out.below HB5.out.1 H4.out.lt)) Tryz.underlying37 rfl infoHd3 ?_))
 refine (good_u (HN.out.below HB5.out.1) ⟨ht,hg,hr⟩).mono ?_
 rintro e w6 ⟨rfl,hb6⟩
 have HB6:=Lib.hid (And.intro (below_trans HB5.out.1 hb6) (HB5.out.2.below hb6 HB5.out.2.lt))
 clear hb6 HB5
 go_wp2_with (first
  | (refine wpList_load_on (by kernel_rfl) 52 (.tmp 19) rfl g 0 rfl _ _ (range_blk HB6.out.2) Tryz.underlying52 rfl infoAns ?_))
 refine (step_u (HN.out.below HB6.out.1) ⟨7,0,0,0,⟨#[]⟩,⟨#[]⟩,⟨#[]⟩,0,1,0,0,0⟩).mono ?_
 rintro e w7 ⟨rfl,hb7⟩
 have HB7:=Lib.hid (below_trans HB6.out.1 hb7)
 clear hb7 HB6
 go_wp2_with (first
  | (go_at_call 23;refine (tenants_u (HN.out.below HB7.out)).mono ?_;rintro e w8 ⟨rfl,rfl⟩)
  | (go_at_call 8;refine (pairs_u (HN.out.below HB7.out) 1).mono ?_;rintro e w9 ⟨rfl,rfl⟩)
  | (go_at_call 15;refine (copy_u (HN.out.below HB7.out)).mono ?_;rintro e w9 ⟨rfl,rfl⟩))
 refine HK0.out _ _ ?_
 clear HK0
 try simp only [Act.put]
 go_wp2_with fail
 exact HQ.out _ _ _ _ _ _ _ _ _ _ _ _ _ _ _ _ _ _ _ _ _ _ _ _ _ _ _ _ _ _ _ _ _ _ _ _ _ _ _ _ HB7.out
theorem row_range {W:World} {B gl ol:Nat} {sp:Option Nat} {rs:List Req} (h:Reads W B 12 (some ⟨gl,ol,none⟩) rs.length (rs.flatMap Req.row)) {i:Nat} (hi:i < rs.length):W.rangeAt gl (ol + i * 12) (rs[i].row):=by
 obtain ⟨ad,hA,-,hc⟩:=h.2 (by omega)
 injection hA with hA
 subst hA
 intro j v hj
 have hj12:j < 12:=(List.getElem?_eq_some_iff.1 hj).1
 have h1:=hc (i * 12 + j) v (by rw [flat_at (f:=Req.row) (m:=12) (fun _=>rfl) rs i j hi hj12];exact hj)
 rw [Addr.add_mid,← Nat.add_assoc] at h1
 exact h1
theorem row_spot {W:World} {B gl ol:Nat} {sp:Option Nat} {rs:List Req} (h:Reads W B 12 (some ⟨gl,ol,sp⟩) rs.length (rs.flatMap Req.row)) (hn:0 < rs.length):sp=none:=by
 obtain ⟨ad,hA,-,hc⟩:=h.2 hn
 injection hA with hA
 subst hA
 have h1:=hc 0 _ (by rw [show (0:Nat)=0 * 12 + 0 from rfl,flat_at (f:=Req.row) (m:=12) (fun _=>rfl) rs 0 0 hn (by decide)];rfl)
 rw [show (⟨gl,ol,sp⟩:Addr).add 0=⟨gl,ol,sp⟩ by simp [Addr.add]] at h1
 exact cell_spot h1
set_option maxHeartbeats 6400000 in
set_option maxRecDepth 100000 in
theorem om_loop {w0:World} {b4 b8 b9 p q:Nat} {hd:Hd} {M Mk:Mdl} {R Rk:RMd} {T Tk:Ows} {W:World} {Q:Exit→Act→World→Prop} {k:Int} {cl:Nat} {A:Option Addr} {rs:List Req} (hW:OmW w0 b4 b8 b9 p q hd M M R T 0 Mk Rk Tk W) (hrows:∀ V,Below w0.heap.size w0 V→Reads V V.heap.size 12 A rs.length (rs.flatMap Req.row)) (hok:∀ r ∈ rs,r.ok) (hn:rs.length ≤ 30) (hhd:0 ≤ hd.r∧hd.r ≤ 255)
 (hQ:∀ (s6 s12 s13 s14 s15 s16 s34 s35 s36 s37 s38 s39 s40 s41 s42 s43 s44 s45 s46 s47 s48 s49 s50 s51 s52 s53 s54 s55 s56 s57 s58 s59 s60 s61 s62 s63 s64 s65 s66 s67 s68 s69 s70 s71 s72 s73 s74 s75 s76 s77 s78 s79:Value) (W':World) (q2:Nat) (M2:Mdl) (R2:RMd) (T2:Ows) (Mk2:Mdl) (Rk2:RMd) (Tk2:Ows),OmW w0 b4 b8 b9 p q2 hd M2 M2 R2 T2 rs.length Mk2 Rk2 Tk2 W'→Q .normal ⟨#[Xa,Xb,Xc,Xd,.pointer (some ⟨b4,0,none⟩),Xf,s6,.pointer (some ⟨p,0,none⟩),.pointer (some ⟨b8,0,none⟩),.pointer (some ⟨b9,0,none⟩),.pointer (some ⟨q2,0,none⟩),.int .i64 k,s12,s13,s14,s15,s16,Xr,Xs,Xt,Xu,Xv,Xw,Xx,Xy,Xz,Ya,Yb,Yc,Yd,Ye,Yf,.slice A rs.length cl,.int .i64 (rs.length:Nat),s34,s35,s36,s37,s38,s39,s40,s41,s42,s43,s44,s45,s46,s47,s48,s49,s50,s51,s52,s53,s54,s55,s56,s57,s58,s59,s60,s61,s62,s63,s64,s65,s66,s67,s68,s69,s70,s71,s72,s73,s74,s75,s76,s77,s78,s79,Jc,Jd,Je,Jf,Jg,Jh,Ji,Jj,Jk,Jl,Jm,Jn,Jo,Jp,Jq,Jr,Js,Jt,Ju,Jv,Jw,Jy,Jz,Va,Vb,Vc,Vd,Ve,Vf,Vg,Vh,Vi,Vj,Vk,Vl,Vm,Vn,Vo,Vp,Vq,Vr,Vs,Vt,Vu,Vv,Vw,Vx,Vy,Vz,Oa,Ob,Oc,Od,Oe,Og,Oh,Oi,Oj,Ok,Ol,Om,On,Oo,Oq,Ot],[]⟩ W') :
 Code.wp Tryz.prog (part Tryz.f4 [1,1,1,1,1,1,0,1]) Q ⟨#[Xa,Xb,Xc,Xd,.pointer (some ⟨b4,0,none⟩),Xf,Xg,.pointer (some ⟨p,0,none⟩),.pointer (some ⟨b8,0,none⟩),.pointer (some ⟨b9,0,none⟩),.pointer (some ⟨q,0,none⟩),.int .i64 k,Xm,Xn,Xo,Xp,Xq,Xr,Xs,Xt,Xu,Xv,Xw,Xx,Xy,Xz,Ya,Yb,Yc,Yd,Ye,Yf,.slice A rs.length cl,.int .i64 (rs.length:Nat),.int .i64 0,Yj,Yk,Yl,Ym,Yn,Yo,Yp,Yq,Yr,Ys,Yt,Yu,Yv,Yw,Yx,Yy,Yz,Za,Zb,Zc,Zd,Ze,Zf,Zg,Zh,Zi,Zj,Zk,Zl,Zm,Zn,Zo,Zp,Zq,Zr,Zs,Zt,Zu,Zv,Zw,Zx,Zy,Zz,Ja,Jb,Jc,Jd,Je,Jf,Jg,Jh,Ji,Jj,Jk,Jl,Jm,Jn,Jo,Jp,Jq,Jr,Js,Jt,Ju,Jv,Jw,Jy,Jz,Va,Vb,Vc,Vd,Ve,Vf,Vg,Vh,Vi,Vj,Vk,Vl,Vm,Vn,Vo,Vp,Vq,Vr,Vs,Vt,Vu,Vv,Vw,Vx,Vy,Vz,Oa,Ob,Oc,Od,Oe,Og,Oh,Oi,Oj,Ok,Ol,Om,On,Oo,Oq,Ot],[]⟩ W:=by
 conv=>arg 2;whnf
 have HQ:=Lib.hid hQ
 clear hQ
 have HW:=Lib.hid hW
 have HR:=Lib.hid hrows
 have HP:=Lib.hid (And.intro hok (And.intro hn hhd))
 have hn30:=hn
 clear hW hrows hok hn hhd
 go_wp2_with fail
 go_loopw [10,34] (fun v i wr=>∃ (j q:Nat) (M:Mdl) (R:RMd) (T:Ows) (Mk:Mdl) (Rk:RMd) (Tk:Ows),j ≤ rs.length∧v=.pointer (some ⟨q,0,none⟩)∧i=.int .i64 (j:Nat)∧Hid (OmW w0 b4 b8 b9 p q hd M M R T j Mk Rk Tk wr)) (fun _ i _=>rs.length - (intOf i).toNat)
 case atStart=>exact ⟨0,q,M,R,T,Mk,Rk,Tk,by omega,rfl,rfl,HW⟩
 case round =>
  obtain ⟨j,qj,Mj,Rj,Tj,Mkj,Rkj,Tkj,hj,rfl,rfl,HJ⟩:=hrel
  by_cases hlt:j < rs.length
  · have i1:(0:Int) ≤ (j:Int):=by omega
    have i2:(j:Int) < (rs.length:Int):=by omega
    refine wp_seq_k fun K0 hK=>?_
    have HK0:=Lib.hid hK
    clear hK
    go_wp2_with fail
    refine HK0.out _ _ ?_
    clear HK0
    refine wp_seq_k fun K0 hK=>?_
    have HK0:=Lib.hid hK
    clear hK
    go_wp2_with fail
    refine HK0.out _ _ ?_
    clear HK0
    refine wp_seq_k fun K0 hK=>?_
    have HK0:=Lib.hid hK
    clear hK
    refine wp_block ?_
    have hrd:=HR.out _ HJ.out.bel
    obtain ⟨ad,hA,-,-⟩:=hrd.2 (by omega)
    obtain ⟨gl,ol,sp⟩:=ad
    subst hA
    obtain rfl:=row_spot hrd (by omega)
    have hrg:=row_range (sp:=none) hrd hlt
    refine om_round HJ.out (by have:=HP.out.2.1;omega) hlt hrg (HP.out.1 _ (List.getElem_mem _)) HP.out.2.2 ?_
    intro _ _ _ _ _ _ _ _ _ _ _ _ _ _ _ _ _ _ _ _ _ _ _ _ _ _ _ _ _ _ _ _ _ _ _ _ _ _ _ _ _ _ _ _ _ _ _ _ W2 q2 R2 T2 Mk2 Rk2 Tk2 hW2
    have HW2:=Lib.hid hW2
    clear hW2 hrg hrd
    refine HK0.out _ _ ?_
    go_wp2_with fail
    go_roundw
    case rel=>exact ⟨j + 1,q2,_,R2,T2,Mk2,Rk2,Tk2,by omega,rfl,by go_num,HW2⟩
    case measure=>simp [intOf];omega
  · obtain rfl:j=rs.length:=by omega
    go_wp2_with fail
    exact HQ.out _ _ _ _ _ _ _ _ _ _ _ _ _ _ _ _ _ _ _ _ _ _ _ _ _ _ _ _ _ _ _ _ _ _ _ _ _ _ _ _ _ _ _ _ _ _ _ _ _ _ _ _ _ qj Mj Rj Tj Mkj Rkj Tkj HJ.out
set_option maxHeartbeats 6400000 in
set_option maxRecDepth 100000 in
theorem om_keep2 {w0:World} {b4 b8 b9 p q n:Nat} {hd:Hd} {M Mk:Mdl} {R Rk:RMd} {T Tk:Ows} {W:World} {Q:Exit→Act→World→Prop} {k:Int} {nl cl:Nat} {A:Option Addr} (hW:OmW w0 b4 b8 b9 p q hd M M R T n Mk Rk Tk W) (hn:n ≤ 40)
 (hQ:∀ (s80 s81 s82 s83 s84 s85 s86:Value) (W':World) (q2:Nat) (Mk2:Mdl) (Rk2:RMd) (Tk2:Ows),OmW w0 b4 b8 b9 p q2 hd M M R T n Mk2 Rk2 Tk2 W'→Q .normal ⟨#[.slice A nl cl,Xb,Xc,Xd,Xe,Xf,Xg,.pointer (some ⟨p,0,none⟩),.pointer (some ⟨b8,0,none⟩),.pointer (some ⟨b9,0,none⟩),.pointer (some ⟨q2,0,none⟩),.int .i64 k,Xm,Xn,Xo,Xp,Xq,Xr,Xs,Xt,Xu,Xv,Xw,Xx,Xy,Xz,Ya,Yb,Yc,Yd,Ye,Yf,Yg,Yh,Yi,Yj,Yk,Yl,Ym,Yn,Yo,Yp,Yq,Yr,Ys,Yt,Yu,Yv,Yw,Yx,Yy,Yz,Za,Zb,Zc,Zd,Ze,Zf,Zg,Zh,Zi,Zj,Zk,Zl,Zm,Zn,Zo,Zp,Zq,Zr,Zs,Zt,Zu,Zv,Zw,Zx,Zy,Zz,Ja,Jb,s80,s81,s82,s83,s84,s85,s86,Jj,Jk,Jl,Jm,Jn,Jo,Jp,Jq,Jr,Js,Jt,Ju,Jv,Jw,Jy,Jz,Va,Vb,Vc,Vd,Ve,Vf,Vg,Vh,Vi,Vj,Vk,Vl,Vm,Vn,Vo,Vp,Vq,Vr,Vs,Vt,Vu,Vv,Vw,Vx,Vy,Vz,Oa,Ob,Oc,Od,Oe,Og,Oh,Oi,Oj,Ok,Ol,Om,On,Oo,Oq,Ot],[]⟩ W') :
 Code.wp Tryz.prog (part Tryz.f4 [1,1,1,1,1,1,1,0]) Q ⟨#[.slice A nl cl,Xb,Xc,Xd,Xe,Xf,Xg,.pointer (some ⟨p,0,none⟩),.pointer (some ⟨b8,0,none⟩),.pointer (some ⟨b9,0,none⟩),.pointer (some ⟨q,0,none⟩),.int .i64 k,Xm,Xn,Xo,Xp,Xq,Xr,Xs,Xt,Xu,Xv,Xw,Xx,Xy,Xz,Ya,Yb,Yc,Yd,Ye,Yf,Yg,Yh,Yi,Yj,Yk,Yl,Ym,Yn,Yo,Yp,Yq,Yr,Ys,Yt,Yu,Yv,Yw,Yx,Yy,Yz,Za,Zb,Zc,Zd,Ze,Zf,Zg,Zh,Zi,Zj,Zk,Zl,Zm,Zn,Zo,Zp,Zq,Zr,Zs,Zt,Zu,Zv,Zw,Zx,Zy,Zz,Ja,Jb,Jc,Jd,Je,Jf,Jg,Jh,Ji,Jj,Jk,Jl,Jm,Jn,Jo,Jp,Jq,Jr,Js,Jt,Ju,Jv,Jw,Jy,Jz,Va,Vb,Vc,Vd,Ve,Vf,Vg,Vh,Vi,Vj,Vk,Vl,Vm,Vn,Vo,Vp,Vq,Vr,Vs,Vt,Vu,Vv,Vw,Vx,Vy,Vz,Oa,Ob,Oc,Od,Oe,Og,Oh,Oi,Oj,Ok,Ol,Om,On,Oo,Oq,Ot],[]⟩ W:=by
 conv=>arg 2;whnf
 have HQ:=Lib.hid hQ
 clear hQ
 have HW:=Lib.hid hW
 have HN:=Lib.hid hn
 have HN1:=Lib.hid (show n ≤ 1000 by omega)
 clear hW hn
 have HREQ:=Lib.hid (fun (V:World) (hb:Below W.heap.size W V)=>True.intro)
 refine wp_seq_k fun K0 hK=>?_
 have HK0:=Lib.hid hK
 clear hK
 by_cases hik:k=(nl:Int)
 · have hdk:((k:Int) == (nl:Int))=true:=by simp [hik]
   clear hik
   go_wp2_with fail
   refine HK0.out _ _ ?_
   clear HK0
   try simp only [Act.put]
   go_wp2_with fail
   have HWd:=HW.out.below (Below.refl _ _).drew
   clear HW
   have HW:=Lib.hid HWd
   clear HWd
   have HC:=Lib.hid (Copy_m HW.out.m (HW.out.r.small HN1.out))
   have HRL:=Lib.hid HW.out.sizes
   refine wp_region_noPanic ?_
   refine wp_region_held_drew (S:=(fun V:World=>Blk V b8 66 (rcells R).toArray)) (by kernel_rfl) ?_ (fun hHeld0=>?_)
   · exact HW.out.x8
   refine tk (i:=0) (v:=?_) rfl (Or.inl ⟨by rfl,?_⟩) hHeld0 ?_
   rotate_left
   · (intro w hSw;(try dsimp only at hSw);go_simp <;> with_reducible rfl)
   try simp only [Act.put,zA,zB,zC,zD,zE,zF]
   refine tk (i:=2) rfl (yieldsIf_load_mid rfl 66 (.tmp 8) rfl b8 0 rfl (rcells R) _ (fun w hw=>range_blk hw) Tryz.underlying66 rfl (by rw [← List.size_toArray,HRL.out.1];exact infoRM)) hHeld0 ?_
   try simp only [Act.put,zA,zB,zC,zD,zE,zF]
   refine wpAnyH_ready (rs:=[1]) (by kernel_rfl) (by simp) ?_
   refine AllReadyH.cons (Array.getElem?_eq_getElem (by decide)) (fun K hK=>?_) AllReadyH.nil
   simp only [List.getElem_toArray,List.getElem_cons_succ,List.getElem_cons_zero]
   rw [if_pos (by kernel_rfl)]
   go_simp
   with_reducible refine HC.out.mono ?_
   rintro e w1 ⟨g,O,rfl,hg,hown,hb1⟩
   have hq1:=HW.out.x8.below hb1 HW.out.x8.lt
   have hx1:=HW.out.x9.below hb1 HW.out.x9.lt
   have hr1:=HREQ.out w1 (below_trans (Below.refl _ _).drew hb1)
   refine hK.out _ _ ?_ (fun hHeld1=>?_)
   · exact hq1
   clear hK K hHeld0
   try simp only [Act.put,zA,zB,zC,zD,zE,zF]
   refine tk (i:=3) (v:=?_) rfl (Or.inl ⟨by rfl,?_⟩) hHeld1 ?_
   rotate_left
   · (intro w hSw;(try dsimp only at hSw);go_simp <;> with_reducible rfl)
   try simp only [Act.put,zA,zB,zC,zD,zE,zF]
   refine wpAnyH_ready (rs:=[4]) (by kernel_rfl) (by simp) ?_
   refine AllReadyH.cons (Array.getElem?_eq_getElem (by decide)) (fun K hK=>?_) AllReadyH.nil
   simp only [List.getElem_toArray,List.getElem_cons_succ,List.getElem_cons_zero]
   rw [if_pos (by kernel_rfl)]
   refine wp_store_abs 66 (.tmp 9) (.tmp 86) rfl b9 (rcells Rk).toArray (rcells R).toArray rfl rfl hx1 (by rw [HRL.out.1,HRL.out.2.1]) (by rw [HRL.out.1];exact infoRM) HRL.out.2.2 ?_
   intro V2 hv2 hs2 hl2
   have hq2:=(hs2 b8 HW.out.ne).trans hq1
   refine hK.out _ _ ?_ (fun hHeld2=>?_)
   · exact hq2
   clear hK K hHeld1
   try simp only [Act.put,zA,zB,zC,zD,zE,zF]
   refine wpAnyH_done (by kernel_rfl) ?_ _
   obtain ⟨O2,hO2⟩:=HW.out.set9 HN.out ⟨_,⟨g,O,rfl,hg,hown,hb1⟩,rfl⟩ hv2 hs2 hl2
   exact NoPanic.normal (HQ.out _ _ _ _ _ _ _ V2 g M R O2 hO2)
 · have hdk:((k:Int) == (nl:Int))=false:=by simp [hik]
   clear hik
   go_wp2_with fail
   refine HK0.out _ _ ?_
   clear HK0
   try simp only [Act.put]
   go_wp2_with fail
   exact HQ.out _ _ _ _ _ _ _ W q Mk Rk Tk HW.out
set_option maxHeartbeats 6400000 in
set_option maxRecDepth 100000 in
theorem om_alike {w0:World} {b4 b8 b9 p q n:Nat} {hd:Hd} {M Mk:Mdl} {R Rk:RMd} {T Tk:Ows} {W:World} {Q:Exit→Act→World→Prop} (hW:OmW w0 b4 b8 b9 p q hd M M R T n Mk Rk Tk W) (hn:n ≤ 40)
 (hQ:∀ (s87 s88 s89 s90 s91 s92 s93 s94 s95 s96:Value) (W':World),Below W.heap.size W W'→Q .normal ⟨#[Xa,Xb,Xc,Xd,Xe,Xf,Xg,.pointer (some ⟨p,0,none⟩),.pointer (some ⟨b8,0,none⟩),.pointer (some ⟨b9,0,none⟩),.pointer (some ⟨q,0,none⟩),Xl,Xm,Xn,Xo,Xp,Xq,Xr,Xs,Xt,Xu,Xv,Xw,Xx,Xy,Xz,Ya,Yb,Yc,Yd,Ye,Yf,Yg,Yh,Yi,Yj,Yk,Yl,Ym,Yn,Yo,Yp,Yq,Yr,Ys,Yt,Yu,Yv,Yw,Yx,Yy,Yz,Za,Zb,Zc,Zd,Ze,Zf,Zg,Zh,Zi,Zj,Zk,Zl,Zm,Zn,Zo,Zp,Zq,Zr,Zs,Zt,Zu,Zv,Zw,Zx,Zy,Zz,Ja,Jb,Jc,Jd,Je,Jf,Jg,Jh,Ji,s87,s88,s89,s90,s91,s92,s93,s94,s95,s96,Jt,Ju,Jv,Jw,Jy,Jz,Va,Vb,Vc,Vd,Ve,Vf,Vg,Vh,Vi,Vj,Vk,Vl,Vm,Vn,Vo,Vp,Vq,Vr,Vs,Vt,Vu,Vv,Vw,Vx,Vy,Vz,Oa,Ob,Oc,Od,Oe,Og,Oh,Oi,Oj,Ok,Ol,Om,On,Oo,Oq,Ot],[]⟩ W') :
 Code.wp Tryz.prog (part Tryz.f4 [1,1,1,1,1,1,1,1,0]) Q ⟨#[Xa,Xb,Xc,Xd,Xe,Xf,Xg,.pointer (some ⟨p,0,none⟩),.pointer (some ⟨b8,0,none⟩),.pointer (some ⟨b9,0,none⟩),.pointer (some ⟨q,0,none⟩),Xl,Xm,Xn,Xo,Xp,Xq,Xr,Xs,Xt,Xu,Xv,Xw,Xx,Xy,Xz,Ya,Yb,Yc,Yd,Ye,Yf,Yg,Yh,Yi,Yj,Yk,Yl,Ym,Yn,Yo,Yp,Yq,Yr,Ys,Yt,Yu,Yv,Yw,Yx,Yy,Yz,Za,Zb,Zc,Zd,Ze,Zf,Zg,Zh,Zi,Zj,Zk,Zl,Zm,Zn,Zo,Zp,Zq,Zr,Zs,Zt,Zu,Zv,Zw,Zx,Zy,Zz,Ja,Jb,Jc,Jd,Je,Jf,Jg,Jh,Ji,Jj,Jk,Jl,Jm,Jn,Jo,Jp,Jq,Jr,Js,Jt,Ju,Jv,Jw,Jy,Jz,Va,Vb,Vc,Vd,Ve,Vf,Vg,Vh,Vi,Vj,Vk,Vl,Vm,Vn,Vo,Vp,Vq,Vr,Vs,Vt,Vu,Vv,Vw,Vx,Vy,Vz,Oa,Ob,Oc,Od,Oe,Og,Oh,Oi,Oj,Ok,Ol,Om,On,Oo,Oq,Ot],[]⟩ W:=by
 conv=>arg 2;whnf
 have HQ:=Lib.hid hQ
 clear hQ
 have HW:=Lib.hid hW
 have HN:=Lib.hid (show n ≤ 1000 by omega)
 have HRL:=Lib.hid hW.sizes
 clear hW hn
 refine wp_seq_k fun K0 hK=>?_
 have HK0:=Lib.hid hK
 clear hK
 go_wp2_with (first
  | (refine wpList_load_mid rfl 66 (.tmp 8) rfl b8 0 rfl (rcells R) _ (range_blk HW.out.x8) Tryz.underlying66 rfl (by rw [← List.size_toArray,HRL.out.1];exact infoRM) ?_))
 refine (alike_any HW.out.m HW.out.r HN.out HW.out.pl.z).mono ?_
 rintro e w2 ⟨rfl,hb2⟩
 have HW2:=Lib.hid (And.intro (HW.out.below hb2) hb2)
 clear hb2 HW
 go_wp2_with (first
  | (refine wpList_load_on (by kernel_rfl) 66 (.tmp 9) rfl b9 0 rfl (rcells Rk) _ (range_blk HW2.out.1.x9) Tryz.underlying66 rfl (by rw [← List.size_toArray,HRL.out.2.1];exact infoRM) ?_))
 refine (alike_any HW2.out.1.k HW2.out.1.rk (by omega) HW2.out.1.plk.z).mono ?_
 rintro e w3 ⟨rfl,hb3⟩
 have HB3:=Lib.hid (below_trans HW2.out.2 hb3)
 clear hb3
 go_wp2_with fail
 refine HK0.out _ _ ?_
 clear HK0
 try simp only [Act.put]
 go_wp2_with fail
 exact HQ.out _ _ _ _ _ _ _ _ _ _ _ HB3.out
theorem zeroM_real:Tryz.zeroCells78[0]?=some (.bool false):=by kernel_rfl
set_option maxHeartbeats 6400000 in
set_option maxRecDepth 100000 in
theorem om_twos {b4:Nat} {hd:Hd} {W:World} {Q:Exit→Act→World→Prop} (h4:Blk W b4 37 hd.cells)
 (hQ:∀ (s6 s18 s19 s97 s98 s99 s100 s101 s102 s103 s104 s105 s106 s107 s108 s109 s110 s111 s112 s113 s114 s115 s116 s117 s118 s119 s120 s121 s122 s123 s124 s125 s126 s127 s128 s129 s130 s131 s132 s133 s134 s135 s136 s137 s138 s139 s140 s141 s142 s143:Value) (W':World),Below W.heap.size W W'→Q .normal ⟨#[Xa,Xb,Xc,Xd,.pointer (some ⟨b4,0,none⟩),Xf,s6,Xh,Xi,Xj,Xk,Xl,Xm,Xn,Xo,Xp,Xq,Xr,s18,s19,Xu,Xv,Xw,Xx,Xy,Xz,Ya,Yb,Yc,Yd,Ye,Yf,Yg,Yh,Yi,Yj,Yk,Yl,Ym,Yn,Yo,Yp,Yq,Yr,Ys,Yt,Yu,Yv,Yw,Yx,Yy,Yz,Za,Zb,Zc,Zd,Ze,Zf,Zg,Zh,Zi,Zj,Zk,Zl,Zm,Zn,Zo,Zp,Zq,Zr,Zs,Zt,Zu,Zv,Zw,Zx,Zy,Zz,Ja,Jb,Jc,Jd,Je,Jf,Jg,Jh,Ji,Jj,Jk,Jl,Jm,Jn,Jo,Jp,Jq,Jr,Js,s97,s98,s99,s100,s101,s102,s103,s104,s105,s106,s107,s108,s109,s110,s111,s112,s113,s114,s115,s116,s117,s118,s119,s120,s121,s122,s123,s124,s125,s126,s127,s128,s129,s130,s131,s132,s133,s134,s135,s136,s137,s138,s139,s140,s141,s142,s143,Ot],[]⟩ W') :
 Code.wp Tryz.prog (part Tryz.f4 [1,1,1,1,1,1,1,1,1,0]) Q ⟨#[Xa,Xb,Xc,Xd,.pointer (some ⟨b4,0,none⟩),Xf,Xg,Xh,Xi,Xj,Xk,Xl,Xm,Xn,Xo,Xp,Xq,Xr,Xs,Xt,Xu,Xv,Xw,Xx,Xy,Xz,Ya,Yb,Yc,Yd,Ye,Yf,Yg,Yh,Yi,Yj,Yk,Yl,Ym,Yn,Yo,Yp,Yq,Yr,Ys,Yt,Yu,Yv,Yw,Yx,Yy,Yz,Za,Zb,Zc,Zd,Ze,Zf,Zg,Zh,Zi,Zj,Zk,Zl,Zm,Zn,Zo,Zp,Zq,Zr,Zs,Zt,Zu,Zv,Zw,Zx,Zy,Zz,Ja,Jb,Jc,Jd,Je,Jf,Jg,Jh,Ji,Jj,Jk,Jl,Jm,Jn,Jo,Jp,Jq,Jr,Js,Jt,Ju,Jv,Jw,Jy,Jz,Va,Vb,Vc,Vd,Ve,Vf,Vg,Vh,Vi,Vj,Vk,Vl,Vm,Vn,Vo,Vp,Vq,Vr,Vs,Vt,Vu,Vv,Vw,Vx,Vy,Vz,Oa,Ob,Oc,Od,Oe,Og,Oh,Oi,Oj,Ok,Ol,Om,On,Oo,Oq,Ot],[]⟩ W:=by
 conv=>arg 2;whnf
 have HQ:=Lib.hid hQ
 clear hQ
 have H4:=Lib.hid h4
 clear h4
 refine wp_seq_k fun K0 hK=>?_
 have HK0:=Lib.hid hK
 clear hK
 go_wp2_with fail
 refine HK0.out _ _ ?_
 clear HK0
 try simp only [Act.put]
 have hz:Blk ((W.alloc (.cells Tryz.zeroCells78 78)).alloc (.cells #[.pointer none,.pointer (some ⟨W.heap.size,0,none⟩)] 23)) W.heap.size 78 Tryz.zeroCells78:=(Blk.new W _ _).alloc _
 have hs:Blk ((W.alloc (.cells Tryz.zeroCells78 78)).alloc (.cells #[.pointer none,.pointer (some ⟨W.heap.size,0,none⟩)] 23)) (W.heap.size + 1) 23 #[.pointer none,.pointer (some ⟨W.heap.size,0,none⟩)]:=blk_at (by simp)
 have hb:Below W.heap.size W ((W.alloc (.cells Tryz.zeroCells78 78)).alloc (.cells #[.pointer none,.pointer (some ⟨W.heap.size,0,none⟩)] 23)):=below_alloc (below_box _ _) _
 have h4':=Lib.hid (H4.out.below hb H4.out.lt)
 generalize (W.alloc (.cells Tryz.zeroCells78 78)).alloc (.cells #[.pointer none,.pointer (some ⟨W.heap.size,0,none⟩)] 23)=W2 at hz hs hb h4' ⊢
 have HB:=Lib.hid hb
 obtain ⟨gs,hgs⟩:∃ g,W.heap.size + 1=g:=⟨_,rfl⟩
 obtain ⟨gz,hgz⟩:∃ g,W.heap.size=g:=⟨_,rfl⟩
 rw [hgs] at hs ⊢
 rw [hgz] at hs hz
 have HC:=Lib.hid (And.intro (hs.cell 0) (And.intro (hs.cell 1) (And.intro hz hs.lt)))
 clear hz hs hb hgs hgz
 go_wp2_with fail
 go_loopw [18,101] (fun v i wr=>∃ (j:Nat),j ≤ 2∧i=.int .i64 (j:Nat)∧Hid (Below W2.heap.size W2 wr)) (fun _ i _=>2 - (intOf i).toNat)
 case atStart=>exact ⟨0,by omega,rfl,Lib.hid (Below.refl _ _)⟩
 case round =>
  obtain ⟨j,hj,rfl,HJ⟩:=hrel
  have h3:j=0 ∨ j=1 ∨ j=2:=by omega
  rcases h3 with rfl | rfl | rfl
  · skip
    refine wp_seq_k fun K0 hK=>?_
    have HK0:=Lib.hid hK
    clear hK
    go_wp2_with fail
    refine HK0.out _ _ ?_
    clear HK0
    refine wp_seq_k fun K0 hK=>?_
    have HK0:=Lib.hid hK
    clear hK
    go_wp2_with fail
    refine HK0.out _ _ ?_
    clear HK0
    refine wp_seq_k fun K0 hK=>?_
    have HK0:=Lib.hid hK
    clear hK
    refine wp_block ?_
    refine wp_seq_k fun K1 hK=>?_
    have HK1:=Lib.hid hK
    clear hK
    have cj:=(HJ.out.cell (p:=⟨gs,0,none⟩) HC.out.2.2.2).trans HC.out.1
    go_wp2_with fail
    refine HK1.out _ _ ?_
    clear HK1
    refine om_two (v:=.pointer none) (hd:=hd) (b4:=b4) (.inl rfl) (h4'.out.below HJ.out h4'.out.lt) ?_
    intro _ _ _ _ _ _ _ _ _ _ _ _ _ _ _ _ _ _ _ _ _ _ _ _ _ _ _ _ _ _ _ _ _ _ _ _ _ _ _ W3 hb3
    have H3:=Lib.hid (below_trans HJ.out hb3)
    clear hb3 cj
    refine HK0.out _ _ ?_
    go_wp2_with fail
    go_roundw
    case rel=>exact ⟨1,by omega,by go_num,H3⟩
    case measure=>simp [intOf]
  · skip
    refine wp_seq_k fun K0 hK=>?_
    have HK0:=Lib.hid hK
    clear hK
    go_wp2_with fail
    refine HK0.out _ _ ?_
    clear HK0
    refine wp_seq_k fun K0 hK=>?_
    have HK0:=Lib.hid hK
    clear hK
    go_wp2_with fail
    refine HK0.out _ _ ?_
    clear HK0
    refine wp_seq_k fun K0 hK=>?_
    have HK0:=Lib.hid hK
    clear hK
    refine wp_block ?_
    refine wp_seq_k fun K1 hK=>?_
    have HK1:=Lib.hid hK
    clear hK
    have cj:=(HJ.out.cell (p:=⟨gs,1,none⟩) HC.out.2.2.2).trans HC.out.2.1
    go_wp2_with fail
    refine HK1.out _ _ ?_
    clear HK1
    refine om_two (v:=.pointer (some ⟨gz,0,none⟩)) (hd:=hd) (b4:=b4) (NoM.below (.inr ⟨gz,_,rfl,HC.out.2.2.1,zeroM_real⟩) HJ.out) (h4'.out.below HJ.out h4'.out.lt) ?_
    intro _ _ _ _ _ _ _ _ _ _ _ _ _ _ _ _ _ _ _ _ _ _ _ _ _ _ _ _ _ _ _ _ _ _ _ _ _ _ _ W3 hb3
    have H3:=Lib.hid (below_trans HJ.out hb3)
    clear hb3 cj
    refine HK0.out _ _ ?_
    go_wp2_with fail
    go_roundw
    case rel=>exact ⟨2,by omega,by go_num,H3⟩
    case measure=>simp [intOf]
  · go_wp2_with fail
    exact HQ.out _ _ _ _ _ _ _ _ _ _ _ _ _ _ _ _ _ _ _ _ _ _ _ _ _ _ _ _ _ _ _ _ _ _ _ _ _ _ _ _ _ _ _ _ _ _ _ _ _ _ _ (below_trans HB.out HJ.out)
theorem om_start {W w1 V1 V2 w3:World} {b4 g:Nat} {hd:Hd} {O:Ows} (x4:Blk w1 b4 37 hd.cells) (g4:W.heap.size ≤ b4) {p:Nat} (hp:W.heap.size ≤ p) (hm:ModelAt w1 p mdl0 ows0) (hb1:Below W.heap.size W w1)
 (hv1:Below w1.heap.size w1 V1) (q8:Blk V1 w1.heap.size 66 Tryz.zeroCells66) (hv2:Below V1.heap.size V1 V2) (q9:Blk V2 V1.heap.size 66 Tryz.zeroCells66) (hg:ModelAt w3 g mdl0 O) (hown:∀ i,mown g mdl0 O i→V2.heap.size ≤ i) (hb3:Below V2.heap.size V2 w3) :
 OmW W b4 w1.heap.size V1.heap.size p g hd mdl0 mdl0 rmd0 ows0 0 mdl0 rmd0 O w3:=by
 have a1:Below w1.heap.size w1 w3:=below_trans (below_trans hv1 hv2) hb3
 have a2:Below V1.heap.size V1 w3:=below_trans hv2 hb3
 rw [rmd0_cells] at q8 q9
 have hpw:p < V2.heap.size:=Nat.lt_of_lt_of_le hm.blk.lt (below_trans hv1 hv2).size
 have hmo:∀ j,mown p mdl0 ows0 j→j=p:=fun j hj=>by
  rcases hj with h | ⟨t,_,hs,_⟩
  · exact h
  · cases hs
 refine ⟨hm.below a1,rmd0_at _ _,pl0,x4.below a1 x4.lt,q8.below a2 q8.lt,q9.below hb3 q9.lt,hg,rmd0_at _ _,pl0,fun j hj=>?_,fun j hj=>?_,fun j hj hk=>?_,below_trans hb1 a1,g4,hb1.size,Nat.le_trans hb1.size hv1.size,?_⟩
 · rw [hmo j hj];exact hp
 · exact Nat.le_trans (below_trans hb1 (below_trans hv1 hv2)).size (hown j hj)
 · have:=hmo j hj;have:=hown j hk;omega
 · have:=q8.lt;omega
set_option maxHeartbeats 6400000 in
set_option maxRecDepth 100000 in
theorem models_of (rs:List Req) (A:Option Addr) (cap:Nat) (hd:Hd) (x:Int) (W:World) (haw:∀ W2,Below W.heap.size W W2→Calls Tryz.prog 14 #[] W2 (BoolB true W2)) (hA:Reads W W.heap.size 12 A rs.length (rs.flatMap Req.row)) (hok:∀ r ∈ rs,r.ok) (hl:rs.length ≤ cap) (hc:cap ≤ 9223372036854775807)
 (hhd:0 ≤ hd.r∧hd.r ≤ 255) (hx:I64 x):Calls Tryz.prog 4 #[.slice A rs.length cap,hd.v,.int .i64 x] W (BoolB true W):=by
 have HR:=Lib.hid (fun (V:World) (hb:Below W.heap.size W V)=>(hA.below hb).more hb.size)
 have HAW:=Lib.hid haw
 have HP:=Lib.hid (And.intro hok (And.intro hhd hx))
 have hb0:=below_box W (.cells hd.cells 37)
 have q4:=Blk.new W 37 hd.cells
 have H4:=Lib.hid (And.intro hb0 q4)
 clear haw hA hok hhd hx hb0 q4
 unfold Hd.v
 unfold Hd.cells at H4
 go_enter Tryz.func4,Tryz.ntmps4
 refine wp_seq_k fun K0 hK=>?_
 have HK0:=Lib.hid hK
 clear hK
 go_wp2_with fail
 refine HK0.out _ _ ?_
 clear HK0
 try simp only [Act.put]
 generalize hw0:W.alloc (.cells #[.int .i64 hd.t,.int .u32 hd.g,.int .u8 hd.r] 37)=W1 at H4 ⊢
 clear hw0
 obtain ⟨b4,hb4⟩:∃ g,W.heap.size=g:=⟨_,rfl⟩
 have HB4:=Lib.hid (Nat.le_of_eq hb4)
 obtain ⟨h40,h41⟩:=H4.out
 rw [hb4] at h41 ⊢
 have HX4:=Lib.hid (And.intro h40 h41)
 clear hb4 h40 h41 H4
 by_cases h30:rs.length ≤ 30
 · have i1:(rs.length:Int) ≤ 30:=by omega
   refine wp_seq_k fun K0 hK=>?_
   have HK0:=Lib.hid hK
   clear hK
   go_wp2_with fail
   refine HK0.out _ _ ?_
   clear HK0
   try simp only [Act.put]
   refine wp_seq_k fun K0 hK=>?_
   have HK0:=Lib.hid hK
   clear hK
   go_wp2_with fail
   refine (new_m W1).mono ?_
   rintro e w1 ⟨rfl,hm,hb1⟩
   go_wp2_with fail
   refine HK0.out _ _ ?_
   clear HK0
   try simp only [Act.put]
   have H1:=Lib.hid (And.intro hm (And.intro hb1 (HX4.out.2.below hb1 HX4.out.2.lt)))
   clear hm hb1
   refine wp_seq_k fun K0 hK=>?_
   have HK0:=Lib.hid hK
   clear hK
   go_wp2_with (first
    | (refine wpList_alloc_abs rfl 66 Tryz.zeroCells66 rfl (fun w=>Tryz.zeroValue66 w) ?_
       intro V2 hv2 q9)
    | fail)
   rename_i V1 hv1 q8
   refine HK0.out _ _ ?_
   clear HK0
   try simp only [Act.put]
   have H2:=Lib.hid (And.intro hv1 (And.intro q8 (And.intro hv2 q9)))
   clear hv1 q8 hv2 q9
   refine wp_seq_k fun K0 hK=>?_
   have HK0:=Lib.hid hK
   clear hK
   go_wp2_with fail
   refine (Copy_m (H1.out.1.below (below_trans H2.out.1 H2.out.2.2.1)) ((rmd0_at V2 0).small (by omega))).mono ?_
   rintro e w3 ⟨g,O,rfl,hg,hown,hb3⟩
   go_wp2_with fail
   refine HK0.out _ _ ?_
   clear HK0
   try simp only [Act.put]
   have H3:=Lib.hid (om_start H1.out.2.2 HB4.out HX4.out.1.size H1.out.1 (below_trans HX4.out.1 H1.out.2.1) H2.out.1 H2.out.2.1 H2.out.2.2.1 H2.out.2.2.2 hg hown hb3)
   clear hg hown hb3 H1 H2
   obtain ⟨p,hp⟩:∃ p,W1.heap.size=p:=⟨_,rfl⟩
   obtain ⟨b8,hb8⟩:∃ p,w1.heap.size=p:=⟨_,rfl⟩
   obtain ⟨b9,hb9⟩:∃ p,V1.heap.size=p:=⟨_,rfl⟩
   rw [hp,hb8,hb9] at H3 ⊢
   clear hp hb8 hb9
   refine wp_seq_k fun K0 hK=>?_
   have HK0:=Lib.hid hK
   clear hK
   have hwr:IntKind.i64.wrap ((rs.length:Int) + 1)=(rs.length:Int) + 1:=IntWalk.i64_in _ (by omega)
   go_wp2_with fail
   refine (pickM_any x (rs.length + 1) w3 HP.out.2.2 (by omega)).mono ?_
   rintro e w4 ⟨rfl,rfl⟩
   go_wp2_with fail
   refine HK0.out _ _ ?_
   clear HK0
   try simp only [Act.put]
   generalize bringM x (rs.length + 1)=k
   refine wp_seq_k fun K0 hK=>?_
   have HK0:=Lib.hid hK
   clear hK
   refine wp_seq_k fun K1 hK=>?_
   have HK1:=Lib.hid hK
   clear hK
   go_wp2_with fail
   refine HK1.out _ _ ?_
   clear HK1
   try simp only [Act.put]
   refine om_loop H3.out HR.out HP.out.1 h30 HP.out.2.1 ?_
   intro _ _ _ _ _ _ _ _ _ _ _ _ _ _ _ _ _ _ _ _ _ _ _ _ _ _ _ _ _ _ _ _ _ _ _ _ _ _ _ _ _ _ _ _ _ _ _ _ _ _ _ _ W5 q5 M5 R5 T5 Mk5 Rk5 Tk5 hW5
   refine HK0.out _ _ ?_
   clear HK0
   try simp only [Act.put]
   clear H3
   refine wp_seq_k fun K0 hK=>?_
   have HK0:=Lib.hid hK
   clear hK
   refine om_keep2 hW5 (by omega) ?_
   intro _ _ _ _ _ _ _ W6 q6 Mk6 Rk6 Tk6 hW6
   refine HK0.out _ _ ?_
   clear HK0
   try simp only [Act.put]
   refine wp_seq_k fun K0 hK=>?_
   have HK0:=Lib.hid hK
   clear hK
   refine om_alike hW6 (by omega) ?_
   intro _ _ _ _ _ _ _ _ _ _ W7 hb7
   refine HK0.out _ _ ?_
   clear HK0
   try simp only [Act.put]
   refine wp_seq_k fun K0 hK=>?_
   have HK0:=Lib.hid hK
   clear hK
   have hW7:=hW6.below hb7
   refine om_twos (hd:=hd) hW7.x4 ?_
   intro _ _ _ _ _ _ _ _ _ _ _ _ _ _ _ _ _ _ _ _ _ _ _ _ _ _ _ _ _ _ _ _ _ _ _ _ _ _ _ _ _ _ _ _ _ _ _ _ _ _ W8 hb8
   have HB8:=Lib.hid (below_trans hW7.bel hb8)
   clear hW5 hW6 hW7 hb7 hb8
   refine HK0.out _ _ ?_
   clear HK0
   try simp only [Act.put]
   go_wp2_with fail
   refine (HAW.out W8 HB8.out).mono ?_
   rintro e w9 ⟨rfl,hb9⟩
   go_wp2_with fail
   go_ret
   exact ⟨rfl,below_trans HB8.out hb9⟩
 · have i1:¬ (rs.length:Int) ≤ 30:=by omega
   have i2:(rs.length:Int) > 30:=by omega
   go_wp2_with fail
   refine (HAW.out W1 HX4.out.1).mono ?_
   rintro e w9 ⟨rfl,hb9⟩
   go_wp2_with fail
   go_ret
   exact ⟨rfl,below_trans HX4.out.1 hb9⟩
theorem infoReq:(Tryz.prog.info? 39).map (·.size)=some 12:=by kernel_rfl
theorem rp_keep {W V V':World} {gx gd ge od oe i j:Nat} {x:Dn} {r:Req} (h:Below W.heap.size W V∧V.cell? ⟨gx,1,none⟩=some (.int .i64 (i:Nat))∧V.cell? ⟨gd,od + i * 21,none⟩=some (.int .i64 (j:Nat))∧V.cell? ⟨gd,od + i * 21 + 4,none⟩=some (.int .i64 x.err)∧V.cell? ⟨gd,od + i * 21 + 5,none⟩=some (.string x.val)∧V.cell? ⟨gd,od + i * 21 + 6,none⟩=some (.slice x.pA x.pn x.pc)∧V.cell? ⟨gd,od + i * 21 + 7,none⟩=some (.int .i64 x.h.t)∧V.cell? ⟨gd,od + i * 21 + 8,none⟩=some (.int .u32 x.h.g)∧V.cell? ⟨gd,od + i * 21 + 9,none⟩=some (.int .u8 x.h.r)∧V.cell? ⟨gd,od + i * 21 + 10,none⟩=some (.int .u64 x.s0)∧V.cell? ⟨gd,od + i * 21 + 11,none⟩=some (.int .u64 x.s1)∧V.cell? ⟨gd,od + i * 21 + 12,none⟩=some (.int .u64 x.s2)∧V.cell? ⟨gd,od + i * 21 + 13,none⟩=some (.int .u64 x.s3)∧V.cell? ⟨gd,od + i * 21 + 14,none⟩=some (.int .u64 x.s4)∧V.cell? ⟨gd,od + i * 21 + 15,none⟩=some (.int .u64 x.s5)∧V.cell? ⟨gd,od + i * 21 + 16,none⟩=some (.int .u64 x.s6)∧V.cell? ⟨gd,od + i * 21 + 17,none⟩=some (.int .u64 x.s7)∧V.cell? ⟨gd,od + i * 21 + 18,none⟩=some (.int .u64 x.s8)∧V.cell? ⟨gd,od + i * 21 + 19,none⟩=some (.int .u64 x.s9)∧V.cell? ⟨gd,od + i * 21 + 20,none⟩=some (.complex .f64 x.la x.lb)∧V.cell? ⟨ge,oe + j * 13 + 1,none⟩=some (.int .i64 r.deed)∧V.cell? ⟨ge,oe + j * 13 + 2,none⟩=some (.int .i64 r.ten)∧V.cell? ⟨ge,oe + j * 13 + 3,none⟩=some (.int .u32 r.gen)∧V.cell? ⟨ge,oe + j * 13 + 4,none⟩=some (.int .u8 r.rig)∧V.cell? ⟨ge,oe + j * 13 + 5,none⟩=some (.string r.key)∧V.cell? ⟨ge,oe + j * 13 + 6,none⟩=some (.string r.val)∧V.cell? ⟨ge,oe + j * 13 + 7,none⟩=some (.string r.old)∧V.cell? ⟨ge,oe + j * 13 + 8,none⟩=some (.int .i64 r.lim)∧V.cell? ⟨ge,oe + j * 13 + 9,none⟩=some (.int .i64 r.tenant)∧V.cell? ⟨ge,oe + j * 13 + 10,none⟩=some (.int .u64 r.qk)∧V.cell? ⟨ge,oe + j * 13 + 11,none⟩=some (.int .u64 r.qb)∧V.cell? ⟨ge,oe + j * 13 + 12,none⟩=some (.int .u8 r.rights)) (hc:∀ y:Addr,y.block < W.heap.size→V'.cell? y=V.cell? y) (hb:Below W.heap.size W V') (lx:gx < W.heap.size) (ld:gd < W.heap.size) (le:ge < W.heap.size):Below W.heap.size W V'∧V'.cell? ⟨gx,1,none⟩=some (.int .i64 (i:Nat))∧V'.cell? ⟨gd,od + i * 21,none⟩=some (.int .i64 (j:Nat))∧V'.cell? ⟨gd,od + i * 21 + 4,none⟩=some (.int .i64 x.err)∧V'.cell? ⟨gd,od + i * 21 + 5,none⟩=some (.string x.val)∧V'.cell? ⟨gd,od + i * 21 + 6,none⟩=some (.slice x.pA x.pn x.pc)∧V'.cell? ⟨gd,od + i * 21 + 7,none⟩=some (.int .i64 x.h.t)∧V'.cell? ⟨gd,od + i * 21 + 8,none⟩=some (.int .u32 x.h.g)∧V'.cell? ⟨gd,od + i * 21 + 9,none⟩=some (.int .u8 x.h.r)∧V'.cell? ⟨gd,od + i * 21 + 10,none⟩=some (.int .u64 x.s0)∧V'.cell? ⟨gd,od + i * 21 + 11,none⟩=some (.int .u64 x.s1)∧V'.cell? ⟨gd,od + i * 21 + 12,none⟩=some (.int .u64 x.s2)∧V'.cell? ⟨gd,od + i * 21 + 13,none⟩=some (.int .u64 x.s3)∧V'.cell? ⟨gd,od + i * 21 + 14,none⟩=some (.int .u64 x.s4)∧V'.cell? ⟨gd,od + i * 21 + 15,none⟩=some (.int .u64 x.s5)∧V'.cell? ⟨gd,od + i * 21 + 16,none⟩=some (.int .u64 x.s6)∧V'.cell? ⟨gd,od + i * 21 + 17,none⟩=some (.int .u64 x.s7)∧V'.cell? ⟨gd,od + i * 21 + 18,none⟩=some (.int .u64 x.s8)∧V'.cell? ⟨gd,od + i * 21 + 19,none⟩=some (.int .u64 x.s9)∧V'.cell? ⟨gd,od + i * 21 + 20,none⟩=some (.complex .f64 x.la x.lb)∧V'.cell? ⟨ge,oe + j * 13 + 1,none⟩=some (.int .i64 r.deed)∧V'.cell? ⟨ge,oe + j * 13 + 2,none⟩=some (.int .i64 r.ten)∧V'.cell? ⟨ge,oe + j * 13 + 3,none⟩=some (.int .u32 r.gen)∧V'.cell? ⟨ge,oe + j * 13 + 4,none⟩=some (.int .u8 r.rig)∧V'.cell? ⟨ge,oe + j * 13 + 5,none⟩=some (.string r.key)∧V'.cell? ⟨ge,oe + j * 13 + 6,none⟩=some (.string r.val)∧V'.cell? ⟨ge,oe + j * 13 + 7,none⟩=some (.string r.old)∧V'.cell? ⟨ge,oe + j * 13 + 8,none⟩=some (.int .i64 r.lim)∧V'.cell? ⟨ge,oe + j * 13 + 9,none⟩=some (.int .i64 r.tenant)∧V'.cell? ⟨ge,oe + j * 13 + 10,none⟩=some (.int .u64 r.qk)∧V'.cell? ⟨ge,oe + j * 13 + 11,none⟩=some (.int .u64 r.qb)∧V'.cell? ⟨ge,oe + j * 13 + 12,none⟩=some (.int .u8 r.rights) :=
 ⟨hb,(hc _ lx).trans h.2.1,(hc _ ld).trans h.2.2.1,(hc _ ld).trans h.2.2.2.1,(hc _ ld).trans h.2.2.2.2.1,(hc _ ld).trans h.2.2.2.2.2.1,(hc _ ld).trans h.2.2.2.2.2.2.1,(hc _ ld).trans h.2.2.2.2.2.2.2.1,(hc _ ld).trans h.2.2.2.2.2.2.2.2.1,(hc _ ld).trans h.2.2.2.2.2.2.2.2.2.1,(hc _ ld).trans h.2.2.2.2.2.2.2.2.2.2.1,(hc _ ld).trans h.2.2.2.2.2.2.2.2.2.2.2.1,(hc _ ld).trans h.2.2.2.2.2.2.2.2.2.2.2.2.1,(hc _ ld).trans h.2.2.2.2.2.2.2.2.2.2.2.2.2.1,(hc _ ld).trans h.2.2.2.2.2.2.2.2.2.2.2.2.2.2.1,(hc _ ld).trans h.2.2.2.2.2.2.2.2.2.2.2.2.2.2.2.1,(hc _ ld).trans h.2.2.2.2.2.2.2.2.2.2.2.2.2.2.2.2.1,(hc _ ld).trans h.2.2.2.2.2.2.2.2.2.2.2.2.2.2.2.2.2.1,(hc _ ld).trans h.2.2.2.2.2.2.2.2.2.2.2.2.2.2.2.2.2.2.1,(hc _ ld).trans h.2.2.2.2.2.2.2.2.2.2.2.2.2.2.2.2.2.2.2.1,(hc _ le).trans h.2.2.2.2.2.2.2.2.2.2.2.2.2.2.2.2.2.2.2.2.1,(hc _ le).trans h.2.2.2.2.2.2.2.2.2.2.2.2.2.2.2.2.2.2.2.2.2.1,(hc _ le).trans h.2.2.2.2.2.2.2.2.2.2.2.2.2.2.2.2.2.2.2.2.2.2.1,(hc _ le).trans h.2.2.2.2.2.2.2.2.2.2.2.2.2.2.2.2.2.2.2.2.2.2.2.1,(hc _ le).trans h.2.2.2.2.2.2.2.2.2.2.2.2.2.2.2.2.2.2.2.2.2.2.2.2.1,(hc _ le).trans h.2.2.2.2.2.2.2.2.2.2.2.2.2.2.2.2.2.2.2.2.2.2.2.2.2.1,(hc _ le).trans h.2.2.2.2.2.2.2.2.2.2.2.2.2.2.2.2.2.2.2.2.2.2.2.2.2.2.1,(hc _ le).trans h.2.2.2.2.2.2.2.2.2.2.2.2.2.2.2.2.2.2.2.2.2.2.2.2.2.2.2.1,(hc _ le).trans h.2.2.2.2.2.2.2.2.2.2.2.2.2.2.2.2.2.2.2.2.2.2.2.2.2.2.2.2.1,(hc _ le).trans h.2.2.2.2.2.2.2.2.2.2.2.2.2.2.2.2.2.2.2.2.2.2.2.2.2.2.2.2.2.1,(hc _ le).trans h.2.2.2.2.2.2.2.2.2.2.2.2.2.2.2.2.2.2.2.2.2.2.2.2.2.2.2.2.2.2.1,(hc _ le).trans h.2.2.2.2.2.2.2.2.2.2.2.2.2.2.2.2.2.2.2.2.2.2.2.2.2.2.2.2.2.2.2⟩
set_option maxHeartbeats 6400000 in
set_option maxRecDepth 100000 in
theorem rp_load {W:World} {gx gd ge od oe i j ne nd ce cd:Nat} {x:Dn} {r:Req} {Q:Exit→Act→World→Prop} (hS:W.cell? ⟨gx,1,none⟩=some (.int .i64 (i:Nat))∧W.cell? ⟨gd,od + i * 21,none⟩=some (.int .i64 (j:Nat))∧W.cell? ⟨gd,od + i * 21 + 4,none⟩=some (.int .i64 x.err)∧W.cell? ⟨gd,od + i * 21 + 5,none⟩=some (.string x.val)∧W.cell? ⟨gd,od + i * 21 + 6,none⟩=some (.slice x.pA x.pn x.pc)∧W.cell? ⟨gd,od + i * 21 + 7,none⟩=some (.int .i64 x.h.t)∧W.cell? ⟨gd,od + i * 21 + 8,none⟩=some (.int .u32 x.h.g)∧W.cell? ⟨gd,od + i * 21 + 9,none⟩=some (.int .u8 x.h.r)∧W.cell? ⟨gd,od + i * 21 + 10,none⟩=some (.int .u64 x.s0)∧W.cell? ⟨gd,od + i * 21 + 11,none⟩=some (.int .u64 x.s1)∧W.cell? ⟨gd,od + i * 21 + 12,none⟩=some (.int .u64 x.s2)∧W.cell? ⟨gd,od + i * 21 + 13,none⟩=some (.int .u64 x.s3)∧W.cell? ⟨gd,od + i * 21 + 14,none⟩=some (.int .u64 x.s4)∧W.cell? ⟨gd,od + i * 21 + 15,none⟩=some (.int .u64 x.s5)∧W.cell? ⟨gd,od + i * 21 + 16,none⟩=some (.int .u64 x.s6)∧W.cell? ⟨gd,od + i * 21 + 17,none⟩=some (.int .u64 x.s7)∧W.cell? ⟨gd,od + i * 21 + 18,none⟩=some (.int .u64 x.s8)∧W.cell? ⟨gd,od + i * 21 + 19,none⟩=some (.int .u64 x.s9)∧W.cell? ⟨gd,od + i * 21 + 20,none⟩=some (.complex .f64 x.la x.lb)∧W.cell? ⟨ge,oe + j * 13 + 1,none⟩=some (.int .i64 r.deed)∧W.cell? ⟨ge,oe + j * 13 + 2,none⟩=some (.int .i64 r.ten)∧W.cell? ⟨ge,oe + j * 13 + 3,none⟩=some (.int .u32 r.gen)∧W.cell? ⟨ge,oe + j * 13 + 4,none⟩=some (.int .u8 r.rig)∧W.cell? ⟨ge,oe + j * 13 + 5,none⟩=some (.string r.key)∧W.cell? ⟨ge,oe + j * 13 + 6,none⟩=some (.string r.val)∧W.cell? ⟨ge,oe + j * 13 + 7,none⟩=some (.string r.old)∧W.cell? ⟨ge,oe + j * 13 + 8,none⟩=some (.int .i64 r.lim)∧W.cell? ⟨ge,oe + j * 13 + 9,none⟩=some (.int .i64 r.tenant)∧W.cell? ⟨ge,oe + j * 13 + 10,none⟩=some (.int .u64 r.qk)∧W.cell? ⟨ge,oe + j * 13 + 11,none⟩=some (.int .u64 r.qb)∧W.cell? ⟨ge,oe + j * 13 + 12,none⟩=some (.int .u8 r.rights)) (lx:gx < W.heap.size) (ld:gd < W.heap.size) (le:ge < W.heap.size) (hi:i < nd) (hj:j < ne)
 (hQ:∀ (s43 s44 s45 s46 s47 s48 s49 s50 s51 s52 s53 s54 s55 s56 s57 s58:Value) (b13 b14:Nat) (W':World),Blk W' b13 39 r.row.toArray→Blk W' b14 52 x.ans.toArray→Below W.heap.size W W'→Q .normal ⟨#[.slice (some ⟨ge,oe,none⟩) ne ce,.slice (some ⟨gd,od,none⟩) nd cd,Xc,Xd,Xe,Xf,Xg,Xh,Xi,Xj,Xk,Xl,.pointer (some ⟨gx,0,none⟩),.pointer (some ⟨b13,0,none⟩),.pointer (some ⟨b14,0,none⟩),Xp,Xq,Xr,Xs,Xt,Xu,Xv,Xw,Xx,Xy,Xz,Ya,Yb,Yc,Yd,Ye,Yf,Yg,Yh,Yi,Yj,Yk,Yl,Ym,Yn,Yo,Yp,Yq,s43,s44,s45,s46,s47,s48,s49,s50,s51,s52,s53,s54,s55,s56,s57,s58,Zh,Zi,Zj,Zk,Zl,Zm,Zn,Zo,Zp,Zq,Zr,Zs,Zt,Zu,Zv,Zw,Zx,Zy,Zz,Ja,Jb,Jc],[]⟩ W') :
 Code.wp Tryz.prog (part Tryz.f76 [1,1,1,1,1,0,1,2,2,1,1,0,2,1,0]) Q ⟨#[.slice (some ⟨ge,oe,none⟩) ne ce,.slice (some ⟨gd,od,none⟩) nd cd,Xc,Xd,Xe,Xf,Xg,Xh,Xi,Xj,Xk,Xl,.pointer (some ⟨gx,0,none⟩),Xn,Xo,Xp,Xq,Xr,Xs,Xt,Xu,Xv,Xw,Xx,Xy,Xz,Ya,Yb,Yc,Yd,Ye,Yf,Yg,Yh,Yi,Yj,Yk,Yl,Ym,Yn,Yo,Yp,Yq,Yr,Ys,Yt,Yu,Yv,Yw,Yx,Yy,Yz,Za,Zb,Zc,Zd,Ze,Zf,Zg,Zh,Zi,Zj,Zk,Zl,Zm,Zn,Zo,Zp,Zq,Zr,Zs,Zt,Zu,Zv,Zw,Zx,Zy,Zz,Ja,Jb,Jc],[]⟩ W:=by
 conv=>arg 2;whnf
 have HQ:=Lib.hid hQ
 have i1:(0:Int) ≤ (i:Int):=by omega
 have i2:(i:Int) < (nd:Int):=by omega
 have j1:(0:Int) ≤ (j:Int):=by omega
 have j2:(j:Int) < (ne:Int):=by omega
 have H0:Below W.heap.size W W.drew∧W.drew.cell? ⟨gx,1,none⟩=some (.int .i64 (i:Nat))∧W.drew.cell? ⟨gd,od + i * 21,none⟩=some (.int .i64 (j:Nat))∧W.drew.cell? ⟨gd,od + i * 21 + 4,none⟩=some (.int .i64 x.err)∧W.drew.cell? ⟨gd,od + i * 21 + 5,none⟩=some (.string x.val)∧W.drew.cell? ⟨gd,od + i * 21 + 6,none⟩=some (.slice x.pA x.pn x.pc)∧W.drew.cell? ⟨gd,od + i * 21 + 7,none⟩=some (.int .i64 x.h.t)∧W.drew.cell? ⟨gd,od + i * 21 + 8,none⟩=some (.int .u32 x.h.g)∧W.drew.cell? ⟨gd,od + i * 21 + 9,none⟩=some (.int .u8 x.h.r)∧W.drew.cell? ⟨gd,od + i * 21 + 10,none⟩=some (.int .u64 x.s0)∧W.drew.cell? ⟨gd,od + i * 21 + 11,none⟩=some (.int .u64 x.s1)∧W.drew.cell? ⟨gd,od + i * 21 + 12,none⟩=some (.int .u64 x.s2)∧W.drew.cell? ⟨gd,od + i * 21 + 13,none⟩=some (.int .u64 x.s3)∧W.drew.cell? ⟨gd,od + i * 21 + 14,none⟩=some (.int .u64 x.s4)∧W.drew.cell? ⟨gd,od + i * 21 + 15,none⟩=some (.int .u64 x.s5)∧W.drew.cell? ⟨gd,od + i * 21 + 16,none⟩=some (.int .u64 x.s6)∧W.drew.cell? ⟨gd,od + i * 21 + 17,none⟩=some (.int .u64 x.s7)∧W.drew.cell? ⟨gd,od + i * 21 + 18,none⟩=some (.int .u64 x.s8)∧W.drew.cell? ⟨gd,od + i * 21 + 19,none⟩=some (.int .u64 x.s9)∧W.drew.cell? ⟨gd,od + i * 21 + 20,none⟩=some (.complex .f64 x.la x.lb)∧W.drew.cell? ⟨ge,oe + j * 13 + 1,none⟩=some (.int .i64 r.deed)∧W.drew.cell? ⟨ge,oe + j * 13 + 2,none⟩=some (.int .i64 r.ten)∧W.drew.cell? ⟨ge,oe + j * 13 + 3,none⟩=some (.int .u32 r.gen)∧W.drew.cell? ⟨ge,oe + j * 13 + 4,none⟩=some (.int .u8 r.rig)∧W.drew.cell? ⟨ge,oe + j * 13 + 5,none⟩=some (.string r.key)∧W.drew.cell? ⟨ge,oe + j * 13 + 6,none⟩=some (.string r.val)∧W.drew.cell? ⟨ge,oe + j * 13 + 7,none⟩=some (.string r.old)∧W.drew.cell? ⟨ge,oe + j * 13 + 8,none⟩=some (.int .i64 r.lim)∧W.drew.cell? ⟨ge,oe + j * 13 + 9,none⟩=some (.int .i64 r.tenant)∧W.drew.cell? ⟨ge,oe + j * 13 + 10,none⟩=some (.int .u64 r.qk)∧W.drew.cell? ⟨ge,oe + j * 13 + 11,none⟩=some (.int .u64 r.qb)∧W.drew.cell? ⟨ge,oe + j * 13 + 12,none⟩=some (.int .u8 r.rights):=⟨(Below.refl _ _).drew,hS⟩
 clear hQ hS
 refine wp_region_noPanic ?_
 refine wp_region_held_drew (S:=(fun V:World=>Below W.heap.size W V∧V.cell? ⟨gx,1,none⟩=some (.int .i64 (i:Nat))∧V.cell? ⟨gd,od + i * 21,none⟩=some (.int .i64 (j:Nat))∧V.cell? ⟨gd,od + i * 21 + 4,none⟩=some (.int .i64 x.err)∧V.cell? ⟨gd,od + i * 21 + 5,none⟩=some (.string x.val)∧V.cell? ⟨gd,od + i * 21 + 6,none⟩=some (.slice x.pA x.pn x.pc)∧V.cell? ⟨gd,od + i * 21 + 7,none⟩=some (.int .i64 x.h.t)∧V.cell? ⟨gd,od + i * 21 + 8,none⟩=some (.int .u32 x.h.g)∧V.cell? ⟨gd,od + i * 21 + 9,none⟩=some (.int .u8 x.h.r)∧V.cell? ⟨gd,od + i * 21 + 10,none⟩=some (.int .u64 x.s0)∧V.cell? ⟨gd,od + i * 21 + 11,none⟩=some (.int .u64 x.s1)∧V.cell? ⟨gd,od + i * 21 + 12,none⟩=some (.int .u64 x.s2)∧V.cell? ⟨gd,od + i * 21 + 13,none⟩=some (.int .u64 x.s3)∧V.cell? ⟨gd,od + i * 21 + 14,none⟩=some (.int .u64 x.s4)∧V.cell? ⟨gd,od + i * 21 + 15,none⟩=some (.int .u64 x.s5)∧V.cell? ⟨gd,od + i * 21 + 16,none⟩=some (.int .u64 x.s6)∧V.cell? ⟨gd,od + i * 21 + 17,none⟩=some (.int .u64 x.s7)∧V.cell? ⟨gd,od + i * 21 + 18,none⟩=some (.int .u64 x.s8)∧V.cell? ⟨gd,od + i * 21 + 19,none⟩=some (.int .u64 x.s9)∧V.cell? ⟨gd,od + i * 21 + 20,none⟩=some (.complex .f64 x.la x.lb)∧V.cell? ⟨ge,oe + j * 13 + 1,none⟩=some (.int .i64 r.deed)∧V.cell? ⟨ge,oe + j * 13 + 2,none⟩=some (.int .i64 r.ten)∧V.cell? ⟨ge,oe + j * 13 + 3,none⟩=some (.int .u32 r.gen)∧V.cell? ⟨ge,oe + j * 13 + 4,none⟩=some (.int .u8 r.rig)∧V.cell? ⟨ge,oe + j * 13 + 5,none⟩=some (.string r.key)∧V.cell? ⟨ge,oe + j * 13 + 6,none⟩=some (.string r.val)∧V.cell? ⟨ge,oe + j * 13 + 7,none⟩=some (.string r.old)∧V.cell? ⟨ge,oe + j * 13 + 8,none⟩=some (.int .i64 r.lim)∧V.cell? ⟨ge,oe + j * 13 + 9,none⟩=some (.int .i64 r.tenant)∧V.cell? ⟨ge,oe + j * 13 + 10,none⟩=some (.int .u64 r.qk)∧V.cell? ⟨ge,oe + j * 13 + 11,none⟩=some (.int .u64 r.qb)∧V.cell? ⟨ge,oe + j * 13 + 12,none⟩=some (.int .u8 r.rights))) (by kernel_rfl) ?_ (fun hHeld0=>?_)
 · exact H0
 refine tk (i:=0) (v:=?_) rfl (Or.inl ⟨by rfl,?_⟩) hHeld0 ?_
 rotate_left
 · (intro w hSw;(try dsimp only at hSw);go_simp <;> with_reducible rfl)
 try simp only [Act.put,zD,zE,zF]
 refine tk (i:=1) (v:=?_) rfl (Or.inl ⟨by rfl,?_⟩) hHeld0 ?_
 rotate_left
 · (intro w hSw;(try dsimp only at hSw);go_simp <;> with_reducible rfl)
 try simp only [Act.put,zD,zE,zF]
 refine tk (i:=2) (v:=?_) rfl (Or.inl ⟨by rfl,?_⟩) hHeld0 ?_
 rotate_left
 · (intro w hSw;(try dsimp only at hSw);go_simp <;> with_reducible rfl)
 try simp only [Act.put,zD,zE,zF]
 refine tk (i:=3) (v:=?_) rfl (Or.inl ⟨by rfl,?_⟩) hHeld0 ?_
 rotate_left
 · (intro w hSw;(try dsimp only at hSw);go_simp <;> with_reducible rfl)
 try simp only [Act.put,zD,zE,zF]
 refine tk (i:=4) (v:=?_) rfl (Or.inl ⟨by rfl,?_⟩) hHeld0 ?_
 rotate_left
 · (intro w hSw;(try dsimp only at hSw);go_simp <;> with_reducible rfl)
 try simp only [Act.put,zD,zE,zF]
 refine tk (i:=5) (v:=?_) rfl (Or.inl ⟨by rfl,?_⟩) hHeld0 ?_
 rotate_left
 · (intro w hSw;(try dsimp only at hSw);go_simp <;> with_reducible rfl)
 try simp only [Act.put,zD,zE,zF]
 refine tk (i:=6) (v:=?_) rfl (Or.inl ⟨by rfl,?_⟩) hHeld0 ?_
 rotate_left
 · (intro w hSw;(try dsimp only at hSw);go_simp <;> with_reducible rfl)
 try simp only [Act.put,zD,zE,zF]
 refine tk (i:=7) (v:=?_) rfl (Or.inl ⟨by rfl,?_⟩) hHeld0 ?_
 rotate_left
 · (intro w hSw;(try dsimp only at hSw);go_simp <;> with_reducible rfl)
 try simp only [Act.put,zD,zE,zF]
 refine tk (i:=8) (v:=?_) rfl (Or.inl ⟨by rfl,?_⟩) hHeld0 ?_
 rotate_left
 · (intro w hSw;(try dsimp only at hSw);go_simp <;> with_reducible rfl)
 try simp only [Act.put,zD,zE,zF]
 refine tk (i:=9) (v:=?_) rfl (Or.inl ⟨by rfl,?_⟩) hHeld0 ?_
 rotate_left
 · (intro w hSw;(try dsimp only at hSw);go_simp <;> with_reducible rfl)
 try simp only [Act.put,zD,zE,zF]
 refine tk (i:=10) (v:=?_) rfl (Or.inl ⟨by rfl,?_⟩) hHeld0 ?_
 rotate_left
 · (intro w hSw;(try dsimp only at hSw);go_simp <;> with_reducible rfl)
 try simp only [Act.put,zD,zE,zF]
 refine tk (i:=11) (v:=?_) rfl (Or.inl ⟨by rfl,?_⟩) hHeld0 ?_
 rotate_left
 · (intro w hSw;(try dsimp only at hSw);go_simp <;> with_reducible rfl)
 try simp only [Act.put,zD,zE,zF]
 refine tk (i:=12) (v:=?_) rfl (Or.inl ⟨by rfl,?_⟩) hHeld0 ?_
 rotate_left
 · (intro w hSw;(try dsimp only at hSw);go_simp <;> with_reducible rfl)
 try simp only [Act.put,zD,zE,zF]
 refine tk (i:=13) (v:=?_) rfl (Or.inl ⟨by rfl,?_⟩) hHeld0 ?_
 rotate_left
 · (intro w hSw;(try dsimp only at hSw);go_simp <;> with_reducible rfl)
 try simp only [Act.put,zD,zE,zF]
 refine tk (i:=14) (v:=?_) rfl (Or.inl ⟨by rfl,?_⟩) hHeld0 ?_
 rotate_left
 · (intro w hSw;(try dsimp only at hSw);go_simp <;> with_reducible rfl)
 try simp only [Act.put,zD,zE,zF]
 refine tk (i:=15) (v:=?_) rfl (Or.inl ⟨by rfl,?_⟩) hHeld0 ?_
 rotate_left
 · (intro w hSw;(try dsimp only at hSw);go_simp <;> with_reducible rfl)
 try simp only [Act.put,zA,zB,zC,zD,zE,zF]
 refine wpAnyH_ready (rs:=[16,17]) (by kernel_rfl) (by simp) ?_
 refine AllReadyH.cons rfl (fun K hK=>?_) ?_
 · refine wp_alloc_abs 39 #[.int .i64 0,.int .i64 0,.int .u32 0,.int .u8 0,.string ⟨#[]⟩,.string ⟨#[]⟩,.string ⟨#[]⟩,.int .i64 0,.int .i64 0,.int .u64 0,.int .u64 0,.int .u8 0] rfl Tryz.zeroValue39 ?_
   intro V2 hq3 hb4
   have hS1:=rp_keep H0 (fun y hy=>hq3.cell (Nat.lt_of_lt_of_le hy H0.1.size)) (below_trans H0.1 hq3) lx ld le
   have hg5:W.heap.size ≤ W.drew.heap.size:=H0.1.size
   refine hK.out _ _ ?_ (fun hHeld1=>?_)
   · exact hS1
   clear hK K hHeld0
   try simp only [Act.put,zD,zE,zF]
   refine wpAnyH_ready (rs:=[17]) (by kernel_rfl) (by simp) ?_
   refine AllReadyH.cons rfl (fun K hK=>?_) AllReadyH.nil
   refine wp_alloc_abs 52 #[.int .i64 0,.string ⟨#[]⟩,.slice none 0 0,.int .i64 0,.int .u32 0,.int .u8 0,.int .u64 0,.int .u64 0,.int .u64 0,.int .u64 0,.int .u64 0,.int .u64 0,.int .u64 0,.int .u64 0,.int .u64 0,.int .u64 0,.complex .f64 0 0] rfl Tryz.zeroValue52 ?_
   intro V7 hq8 hb9
   have hS6:=rp_keep hS1 (fun y hy=>hq8.cell (Nat.lt_of_lt_of_le hy hS1.1.size)) (below_trans hS1.1 hq8) lx ld le
   have hb10:=hb4.below hq8 hb4.lt
   have hne:=hb4.lt
   have hg11:W.heap.size ≤ V2.heap.size:=hS1.1.size
   refine hK.out _ _ ?_ (fun hHeld2=>?_)
   · exact hS6
   clear hK K hHeld1
   try simp only [Act.put,zA,zB,zC,zD,zE,zF]
   refine wpAnyH_ready (rs:=[18]) (by kernel_rfl) (by simp) ?_
   refine AllReadyH.cons rfl (fun K hK=>?_) AllReadyH.nil
   refine wp_store_abs 39 (.tmp 13) (.tmp 52) rfl (W.drew.heap.size) #[.int .i64 0,.int .i64 0,.int .u32 0,.int .u8 0,.string ⟨#[]⟩,.string ⟨#[]⟩,.string ⟨#[]⟩,.int .i64 0,.int .i64 0,.int .u64 0,.int .u64 0,.int .u8 0] #[.int .i64 r.deed,.int .i64 r.ten,.int .u32 r.gen,.int .u8 r.rig,.string r.key,.string r.val,.string r.old,.int .i64 r.lim,.int .i64 r.tenant,.int .u64 r.qk,.int .u64 r.qb,.int .u8 r.rights] rfl rfl hb10 rfl infoReq (by simp [Value.oneCell']) ?_
   intro V13 hb15 hs16 hl17
   have hS12:=rp_keep hS6 (fun y hy=>World.cell?_of_block (hs16 y.block (by omega))) (hl17 _ _ hg5 hS6.1) lx ld le
   have hb18:=(hs16 _ (by omega)).trans hb9
   refine hK.out _ _ ?_ (fun hHeld3=>?_)
   · exact hS12
   clear hK K hHeld2
   try simp only [Act.put,zA,zB,zC,zD,zE,zF]
   refine wpAnyH_ready (rs:=[19]) (by kernel_rfl) (by simp) ?_
   refine AllReadyH.cons rfl (fun K hK=>?_) AllReadyH.nil
   refine wp_store_abs 52 (.tmp 14) (.tmp 58) rfl (V2.heap.size) #[.int .i64 0,.string ⟨#[]⟩,.slice none 0 0,.int .i64 0,.int .u32 0,.int .u8 0,.int .u64 0,.int .u64 0,.int .u64 0,.int .u64 0,.int .u64 0,.int .u64 0,.int .u64 0,.int .u64 0,.int .u64 0,.int .u64 0,.complex .f64 0 0] #[.int .i64 x.err,.string x.val,.slice x.pA x.pn x.pc,.int .i64 x.h.t,.int .u32 x.h.g,.int .u8 x.h.r,.int .u64 x.s0,.int .u64 x.s1,.int .u64 x.s2,.int .u64 x.s3,.int .u64 x.s4,.int .u64 x.s5,.int .u64 x.s6,.int .u64 x.s7,.int .u64 x.s8,.int .u64 x.s9,.complex .f64 x.la x.lb] rfl rfl hb18 rfl infoAns (by simp [Value.oneCell']) ?_
   intro V20 hb22 hs23 hl24
   have hS19:=rp_keep hS12 (fun y hy=>World.cell?_of_block (hs23 y.block (by omega))) (hl24 _ _ hg11 hS12.1) lx ld le
   have hb25:=(hs23 _ (by omega)).trans hb15
   refine hK.out _ _ ?_ (fun hHeld4=>?_)
   · exact hS19
   clear hK K hHeld3
   try simp only [Act.put,zA,zB,zC,zD,zE,zF]
   try simp only [Act.put,zA,zB,zC,zD,zE,zF]
   refine wpAnyH_done (by kernel_rfl) ?_ _
   exact NoPanic.normal (HQ.out _ _ _ _ _ _ _ _ _ _ _ _ _ _ _ _ _ _ _ hb25 hb22 hS19.1)
 refine AllReadyH.cons rfl (fun K hK=>?_) ?_
 · refine wp_alloc_abs 52 #[.int .i64 0,.string ⟨#[]⟩,.slice none 0 0,.int .i64 0,.int .u32 0,.int .u8 0,.int .u64 0,.int .u64 0,.int .u64 0,.int .u64 0,.int .u64 0,.int .u64 0,.int .u64 0,.int .u64 0,.int .u64 0,.int .u64 0,.complex .f64 0 0] rfl Tryz.zeroValue52 ?_
   intro V27 hq28 hb29
   have hS26:=rp_keep H0 (fun y hy=>hq28.cell (Nat.lt_of_lt_of_le hy H0.1.size)) (below_trans H0.1 hq28) lx ld le
   have hg30:W.heap.size ≤ W.drew.heap.size:=H0.1.size
   refine hK.out _ _ ?_ (fun hHeld1=>?_)
   · exact hS26
   clear hK K hHeld0
   try simp only [Act.put,zD,zE,zF]
   refine wpAnyH_ready (rs:=[16]) (by kernel_rfl) (by simp) ?_
   refine AllReadyH.cons rfl (fun K hK=>?_) AllReadyH.nil
   refine wp_alloc_abs 39 #[.int .i64 0,.int .i64 0,.int .u32 0,.int .u8 0,.string ⟨#[]⟩,.string ⟨#[]⟩,.string ⟨#[]⟩,.int .i64 0,.int .i64 0,.int .u64 0,.int .u64 0,.int .u8 0] rfl Tryz.zeroValue39 ?_
   intro V32 hq33 hb34
   have hS31:=rp_keep hS26 (fun y hy=>hq33.cell (Nat.lt_of_lt_of_le hy hS26.1.size)) (below_trans hS26.1 hq33) lx ld le
   have hb35:=hb29.below hq33 hb29.lt
   have hne:=hb29.lt
   have hg36:W.heap.size ≤ V27.heap.size:=hS26.1.size
   refine hK.out _ _ ?_ (fun hHeld2=>?_)
   · exact hS31
   clear hK K hHeld1
   try simp only [Act.put,zA,zB,zC,zD,zE,zF]
   refine wpAnyH_ready (rs:=[18]) (by kernel_rfl) (by simp) ?_
   refine AllReadyH.cons rfl (fun K hK=>?_) AllReadyH.nil
   refine wp_store_abs 39 (.tmp 13) (.tmp 52) rfl (V27.heap.size) #[.int .i64 0,.int .i64 0,.int .u32 0,.int .u8 0,.string ⟨#[]⟩,.string ⟨#[]⟩,.string ⟨#[]⟩,.int .i64 0,.int .i64 0,.int .u64 0,.int .u64 0,.int .u8 0] #[.int .i64 r.deed,.int .i64 r.ten,.int .u32 r.gen,.int .u8 r.rig,.string r.key,.string r.val,.string r.old,.int .i64 r.lim,.int .i64 r.tenant,.int .u64 r.qk,.int .u64 r.qb,.int .u8 r.rights] rfl rfl hb34 rfl infoReq (by simp [Value.oneCell']) ?_
   intro V38 hb40 hs41 hl42
   have hS37:=rp_keep hS31 (fun y hy=>World.cell?_of_block (hs41 y.block (by omega))) (hl42 _ _ hg36 hS31.1) lx ld le
   have hb43:=(hs41 _ (by omega)).trans hb35
   refine hK.out _ _ ?_ (fun hHeld3=>?_)
   · exact hS37
   clear hK K hHeld2
   try simp only [Act.put,zA,zB,zC,zD,zE,zF]
   refine wpAnyH_ready (rs:=[19]) (by kernel_rfl) (by simp) ?_
   refine AllReadyH.cons rfl (fun K hK=>?_) AllReadyH.nil
   refine wp_store_abs 52 (.tmp 14) (.tmp 58) rfl (W.drew.heap.size) #[.int .i64 0,.string ⟨#[]⟩,.slice none 0 0,.int .i64 0,.int .u32 0,.int .u8 0,.int .u64 0,.int .u64 0,.int .u64 0,.int .u64 0,.int .u64 0,.int .u64 0,.int .u64 0,.int .u64 0,.int .u64 0,.int .u64 0,.complex .f64 0 0] #[.int .i64 x.err,.string x.val,.slice x.pA x.pn x.pc,.int .i64 x.h.t,.int .u32 x.h.g,.int .u8 x.h.r,.int .u64 x.s0,.int .u64 x.s1,.int .u64 x.s2,.int .u64 x.s3,.int .u64 x.s4,.int .u64 x.s5,.int .u64 x.s6,.int .u64 x.s7,.int .u64 x.s8,.int .u64 x.s9,.complex .f64 x.la x.lb] rfl rfl hb43 rfl infoAns (by simp [Value.oneCell']) ?_
   intro V45 hb47 hs48 hl49
   have hS44:=rp_keep hS37 (fun y hy=>World.cell?_of_block (hs48 y.block (by omega))) (hl49 _ _ hg30 hS37.1) lx ld le
   have hb50:=(hs48 _ (by omega)).trans hb40
   refine hK.out _ _ ?_ (fun hHeld4=>?_)
   · exact hS44
   clear hK K hHeld3
   try simp only [Act.put,zA,zB,zC,zD,zE,zF]
   try simp only [Act.put,zA,zB,zC,zD,zE,zF]
   refine wpAnyH_done (by kernel_rfl) ?_ _
   exact NoPanic.normal (HQ.out _ _ _ _ _ _ _ _ _ _ _ _ _ _ _ _ _ _ _ hb50 hb47 hS44.1)
 exact AllReadyH.nil
end Go.Proofs.YtkgflepgkhnclaaGreatDoor
