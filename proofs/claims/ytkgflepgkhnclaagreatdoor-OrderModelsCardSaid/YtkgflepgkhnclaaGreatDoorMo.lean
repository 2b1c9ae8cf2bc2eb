/- Layer 27: OrderModels: the reference's model: Do's tails, deeds 7 to 10. Layer 27: OrderModels: the reference's model: Do's tails, deeds 7 to 10 at a tenant. Layer 27: OrderModels: the reference's model: Do's deed 6. Layer 27: OrderModels: the reference's model: Do. -/
import Derived.Test.YtkgflepgkhnclaaGreatDoorMn
namespace Go.Proofs.YtkgflepgkhnclaaGreatDoor
set_option linter.unusedVariables false
set_option linter.unusedSimpArgs false
open Go.RowKit Go.Shelf
attribute [local go_sem] run_store_complex
variable {Xa Xb Xc Xd Xe Xf Xg Xh Xi Xj Xk Xl Xm Xn Xo Xp Xq Xr Xs Xt Xu Xv Xw Xx Xy Xz Ya Yb Yc Yd Ye Yf Yg Yh Yi Yj Yk Yl Ym Yn Yo Yp Yq Yr Ys Yt Yu Yv Yw Yx Yy Yz Za Zb Zc Zd Ze Zf Zg Zh Zi Zj Zk Zl Zm Zn Zo Zp Zq Zr Zs Zt Zu Zv Zw Zx Zy Zz Ja Jb Jc Jd Je Jf Jg Jh Ji Jj Jk Jl Jm Jn Jo Jp Jq Jr Js Jt Ju Jv Jw Jy Jz Va Vb Vc Vd Ve Vf Vg Vh Vi Vj Vk Vl Vm Vn Vo Vp Vq Vr Vs Vt Vu Vv Vw Vx Vy Vz Oa Ob Oc Od Oe Og Oh Oi Oj Ok Ol Om On Oo Oq Ot Ou Ov Ox Oy Oz Ha Hb Hc He Hf Hg Hh Hi Hj Hk Hl Hm Hn Ho Hp Hq Hr Hs Ht Hu Hv Hw Hx Hy Hz Ia Ib Ic Id Ie If Ig Ih Ii Ij Ik Il Im In Io Ip Iq Ir It Iu Iv Iw Ix Iy Iz Ua Ub Uc Ud Ue Uf Ug Uh Ui Uj Uk Ul:Value}
set_option maxHeartbeats 6400000 in
set_option maxRecDepth 100000 in
theorem do_low7 {w W:World} {n:Nat} {M:Mdl} {R:RMd} {r:Req} {gm gr g4 g5:Nat} (hm:RMAt w n M R) (hr:r.ok) (qm:Blk W gm 66 (rcells R).toArray) (qr:Blk W gr 39 r.row.toArray) (q4:Blk W g4 66 Tryz.zeroCells66) (q5:Blk W g5 52 zeroA) (hne:gm ≠ g4) (hne2:gr ≠ g4) (hb:Below w.heap.size w W) (hgm:w.heap.size ≤ gm) (h4:w.heap.size ≤ g4) (h5:w.heap.size ≤ g5)(ht:r.tenant < 1) :
 Code.wp Tryz.prog (part Tryz.f17 [1,1,1,1]) (bodyPost Tryz.prog Tryz.f17 (RDoEnd n (M,errA 2) w)) ⟨#[Xa,Xb,.pointer (some ⟨gm,0,none⟩),.pointer (some ⟨gr,0,none⟩),.pointer (some ⟨g4,0,none⟩),.pointer (some ⟨g5,0,none⟩),.int .i64 7,Xh,Xi,Xj,Xk,Xl,Xm,Xn,Xo,Xp,Xq,Xr,Xs,Xt,Xu,Xv,Xw,Xx,Xy,Xz,Ya,Yb,Yc,Yd,Ye,Yf,Yg,Yh,Yi,Yj,Yk,Yl,Ym,Yn,Yo,Yp,Yq,Yr,Ys,Yt,Yu,Yv,Yw,Yx,Yy,Yz,Za,Zb,Zc,Zd,Ze,Zf,Zg,Zh,Zi,Zj,Zk,Zl,Zm,Zn,Zo,Zp,Zq,Zr,Zs,Zt,Zu,Zv,Zw,Zx,Zy,Zz,Ja,Jb,Jc,Jd,Je,Jf,Jg,Jh,Ji,Jj,Jk,Jl,Jm,Jn,Jo,Jp,Jq,Jr,Js,Jt,Ju,Jv,Jw,Jy,Jz,Va,Vb,Vc,Vd,Ve,Vf,Vg,Vh,Vi,Vj,Vk,Vl,Vm,Vn,Vo,Vp,Vq,Vr,Vs,Vt,Vu,Vv,Vw,Vx,Vy,Vz,Oa,Ob,Oc,Od,Oe,Og,Oh,Oi,Oj,Ok,Ol,Om,On,Oo,Oq,Ot],[]⟩ W:=by
 conv=>arg 2;whnf
 have HRL:=Lib.hid (rcells_len hm.ok)
 have HX:=Lib.hid (And.intro hm (And.intro hr (And.intro qm (And.intro qr (And.intro q4 (And.intro q5 (And.intro hne (And.intro hne2 (And.intro hb (And.intro hgm (And.intro h4 h5)))))))))))
 obtain ⟨c0,c1,c2,c3,c4,c5,c6,c7,c8,c9,c10,c11⟩:=req_cells qr
 clear hm hr qm qr q4 q5 hne hne2 hb hgm h4 h5
 refine wp_seq_k fun K0 hK=>?_
 have HK0:=Lib.hid hK
 clear hK
 go_wp2_with fail
 refine HK0.out _ _ ?_
 clear HK0
 try simp only [Act.put]
 refine wp_seq_k fun K0 hK=>?_
 have HK0:=Lib.hid hK
 clear hK
 go_wp2_with fail
 refine do_bad HX.out.1.ok HX.out.2.2.1 HX.out.2.2.2.2.1 HX.out.2.2.2.2.2.1 zero_size rfl HX.out.2.2.2.2.2.2.1 ?_
 intro x0 x1 W' q4' q5' hl
 go_wp2_with fail
 refine bodyPost_ret (v:=.tuple #[.agg (rcells R).toArray,(errA 2).v none 0]) ?_ rfl ?_
 · exact results_cell2 Tryz.results17 rfl rfl q4' q5' Tryz.underlying66 rfl (by rw [List.size_toArray,HRL.out];exact infoRM) Tryz.underlying52 rfl infoAns
 · exact ⟨R,none,0,rfl,HX.out.1.below (hl _ _ HX.out.2.2.2.2.2.2.2.2.2.2.1 HX.out.2.2.2.2.2.2.2.2.2.2.2 HX.out.2.2.2.2.2.2.2.2.1),nil_at,hl _ _ HX.out.2.2.2.2.2.2.2.2.2.2.1 HX.out.2.2.2.2.2.2.2.2.2.2.2 HX.out.2.2.2.2.2.2.2.2.1⟩
set_option maxHeartbeats 6400000 in
set_option maxRecDepth 100000 in
theorem do_high7 {w W:World} {n:Nat} {M:Mdl} {R:RMd} {r:Req} {gm gr g4 g5:Nat} (hm:RMAt w n M R) (hr:r.ok) (qm:Blk W gm 66 (rcells R).toArray) (qr:Blk W gr 39 r.row.toArray) (q4:Blk W g4 66 Tryz.zeroCells66) (q5:Blk W g5 52 zeroA) (hne:gm ≠ g4) (hne2:gr ≠ g4) (hb:Below w.heap.size w W) (hgm:w.heap.size ≤ gm) (h4:w.heap.size ≤ g4) (h5:w.heap.size ≤ g5)(ht:16 < r.tenant) :
 Code.wp Tryz.prog (part Tryz.f17 [1,1,1,1]) (bodyPost Tryz.prog Tryz.f17 (RDoEnd n (M,errA 2) w)) ⟨#[Xa,Xb,.pointer (some ⟨gm,0,none⟩),.pointer (some ⟨gr,0,none⟩),.pointer (some ⟨g4,0,none⟩),.pointer (some ⟨g5,0,none⟩),.int .i64 7,Xh,Xi,Xj,Xk,Xl,Xm,Xn,Xo,Xp,Xq,Xr,Xs,Xt,Xu,Xv,Xw,Xx,Xy,Xz,Ya,Yb,Yc,Yd,Ye,Yf,Yg,Yh,Yi,Yj,Yk,Yl,Ym,Yn,Yo,Yp,Yq,Yr,Ys,Yt,Yu,Yv,Yw,Yx,Yy,Yz,Za,Zb,Zc,Zd,Ze,Zf,Zg,Zh,Zi,Zj,Zk,Zl,Zm,Zn,Zo,Zp,Zq,Zr,Zs,Zt,Zu,Zv,Zw,Zx,Zy,Zz,Ja,Jb,Jc,Jd,Je,Jf,Jg,Jh,Ji,Jj,Jk,Jl,Jm,Jn,Jo,Jp,Jq,Jr,Js,Jt,Ju,Jv,Jw,Jy,Jz,Va,Vb,Vc,Vd,Ve,Vf,Vg,Vh,Vi,Vj,Vk,Vl,Vm,Vn,Vo,Vp,Vq,Vr,Vs,Vt,Vu,Vv,Vw,Vx,Vy,Vz,Oa,Ob,Oc,Od,Oe,Og,Oh,Oi,Oj,Ok,Ol,Om,On,Oo,Oq,Ot],[]⟩ W:=by
 conv=>arg 2;whnf
 have HRL:=Lib.hid (rcells_len hm.ok)
 have HX:=Lib.hid (And.intro hm (And.intro hr (And.intro qm (And.intro qr (And.intro q4 (And.intro q5 (And.intro hne (And.intro hne2 (And.intro hb (And.intro hgm (And.intro h4 h5)))))))))))
 obtain ⟨c0,c1,c2,c3,c4,c5,c6,c7,c8,c9,c10,c11⟩:=req_cells qr
 have ht1:¬ r.tenant < 1:=by omega
 clear hm hr qm qr q4 q5 hne hne2 hb hgm h4 h5
 refine wp_seq_k fun K0 hK=>?_
 have HK0:=Lib.hid hK
 clear hK
 go_wp2_with fail
 refine HK0.out _ _ ?_
 clear HK0
 try simp only [Act.put]
 refine wp_seq_k fun K0 hK=>?_
 have HK0:=Lib.hid hK
 clear hK
 go_wp2_with fail
 refine do_bad HX.out.1.ok HX.out.2.2.1 HX.out.2.2.2.2.1 HX.out.2.2.2.2.2.1 zero_size rfl HX.out.2.2.2.2.2.2.1 ?_
 intro x0 x1 W' q4' q5' hl
 go_wp2_with fail
 refine bodyPost_ret (v:=.tuple #[.agg (rcells R).toArray,(errA 2).v none 0]) ?_ rfl ?_
 · exact results_cell2 Tryz.results17 rfl rfl q4' q5' Tryz.underlying66 rfl (by rw [List.size_toArray,HRL.out];exact infoRM) Tryz.underlying52 rfl infoAns
 · exact ⟨R,none,0,rfl,HX.out.1.below (hl _ _ HX.out.2.2.2.2.2.2.2.2.2.2.1 HX.out.2.2.2.2.2.2.2.2.2.2.2 HX.out.2.2.2.2.2.2.2.2.1),nil_at,hl _ _ HX.out.2.2.2.2.2.2.2.2.2.2.1 HX.out.2.2.2.2.2.2.2.2.2.2.2 HX.out.2.2.2.2.2.2.2.2.1⟩
set_option maxHeartbeats 6400000 in
set_option maxRecDepth 100000 in
theorem do_low8 {w W:World} {n:Nat} {M:Mdl} {R:RMd} {r:Req} {gm gr g4 g5:Nat} (hm:RMAt w n M R) (hr:r.ok) (qm:Blk W gm 66 (rcells R).toArray) (qr:Blk W gr 39 r.row.toArray) (q4:Blk W g4 66 Tryz.zeroCells66) (q5:Blk W g5 52 zeroA) (hne:gm ≠ g4) (hne2:gr ≠ g4) (hb:Below w.heap.size w W) (hgm:w.heap.size ≤ gm) (h4:w.heap.size ≤ g4) (h5:w.heap.size ≤ g5)(ht:r.tenant < 1) :
 Code.wp Tryz.prog (part Tryz.f17 [1,1,1,1]) (bodyPost Tryz.prog Tryz.f17 (RDoEnd n (M,errA 2) w)) ⟨#[Xa,Xb,.pointer (some ⟨gm,0,none⟩),.pointer (some ⟨gr,0,none⟩),.pointer (some ⟨g4,0,none⟩),.pointer (some ⟨g5,0,none⟩),.int .i64 8,Xh,Xi,Xj,Xk,Xl,Xm,Xn,Xo,Xp,Xq,Xr,Xs,Xt,Xu,Xv,Xw,Xx,Xy,Xz,Ya,Yb,Yc,Yd,Ye,Yf,Yg,Yh,Yi,Yj,Yk,Yl,Ym,Yn,Yo,Yp,Yq,Yr,Ys,Yt,Yu,Yv,Yw,Yx,Yy,Yz,Za,Zb,Zc,Zd,Ze,Zf,Zg,Zh,Zi,Zj,Zk,Zl,Zm,Zn,Zo,Zp,Zq,Zr,Zs,Zt,Zu,Zv,Zw,Zx,Zy,Zz,Ja,Jb,Jc,Jd,Je,Jf,Jg,Jh,Ji,Jj,Jk,Jl,Jm,Jn,Jo,Jp,Jq,Jr,Js,Jt,Ju,Jv,Jw,Jy,Jz,Va,Vb,Vc,Vd,Ve,Vf,Vg,Vh,Vi,Vj,Vk,Vl,Vm,Vn,Vo,Vp,Vq,Vr,Vs,Vt,Vu,Vv,Vw,Vx,Vy,Vz,Oa,Ob,Oc,Od,Oe,Og,Oh,Oi,Oj,Ok,Ol,Om,On,Oo,Oq,Ot],[]⟩ W:=by
 conv=>arg 2;whnf
 have HRL:=Lib.hid (rcells_len hm.ok)
 have HX:=Lib.hid (And.intro hm (And.intro hr (And.intro qm (And.intro qr (And.intro q4 (And.intro q5 (And.intro hne (And.intro hne2 (And.intro hb (And.intro hgm (And.intro h4 h5)))))))))))
 obtain ⟨c0,c1,c2,c3,c4,c5,c6,c7,c8,c9,c10,c11⟩:=req_cells qr
 clear hm hr qm qr q4 q5 hne hne2 hb hgm h4 h5
 refine wp_seq_k fun K0 hK=>?_
 have HK0:=Lib.hid hK
 clear hK
 go_wp2_with fail
 refine HK0.out _ _ ?_
 clear HK0
 try simp only [Act.put]
 refine wp_seq_k fun K0 hK=>?_
 have HK0:=Lib.hid hK
 clear hK
 go_wp2_with fail
 refine do_bad HX.out.1.ok HX.out.2.2.1 HX.out.2.2.2.2.1 HX.out.2.2.2.2.2.1 zero_size rfl HX.out.2.2.2.2.2.2.1 ?_
 intro x0 x1 W' q4' q5' hl
 go_wp2_with fail
 refine bodyPost_ret (v:=.tuple #[.agg (rcells R).toArray,(errA 2).v none 0]) ?_ rfl ?_
 · exact results_cell2 Tryz.results17 rfl rfl q4' q5' Tryz.underlying66 rfl (by rw [List.size_toArray,HRL.out];exact infoRM) Tryz.underlying52 rfl infoAns
 · exact ⟨R,none,0,rfl,HX.out.1.below (hl _ _ HX.out.2.2.2.2.2.2.2.2.2.2.1 HX.out.2.2.2.2.2.2.2.2.2.2.2 HX.out.2.2.2.2.2.2.2.2.1),nil_at,hl _ _ HX.out.2.2.2.2.2.2.2.2.2.2.1 HX.out.2.2.2.2.2.2.2.2.2.2.2 HX.out.2.2.2.2.2.2.2.2.1⟩
set_option maxHeartbeats 6400000 in
set_option maxRecDepth 100000 in
theorem do_high8 {w W:World} {n:Nat} {M:Mdl} {R:RMd} {r:Req} {gm gr g4 g5:Nat} (hm:RMAt w n M R) (hr:r.ok) (qm:Blk W gm 66 (rcells R).toArray) (qr:Blk W gr 39 r.row.toArray) (q4:Blk W g4 66 Tryz.zeroCells66) (q5:Blk W g5 52 zeroA) (hne:gm ≠ g4) (hne2:gr ≠ g4) (hb:Below w.heap.size w W) (hgm:w.heap.size ≤ gm) (h4:w.heap.size ≤ g4) (h5:w.heap.size ≤ g5)(ht:16 < r.tenant) :
 Code.wp Tryz.prog (part Tryz.f17 [1,1,1,1]) (bodyPost Tryz.prog Tryz.f17 (RDoEnd n (M,errA 2) w)) ⟨#[Xa,Xb,.pointer (some ⟨gm,0,none⟩),.pointer (some ⟨gr,0,none⟩),.pointer (some ⟨g4,0,none⟩),.pointer (some ⟨g5,0,none⟩),.int .i64 8,Xh,Xi,Xj,Xk,Xl,Xm,Xn,Xo,Xp,Xq,Xr,Xs,Xt,Xu,Xv,Xw,Xx,Xy,Xz,Ya,Yb,Yc,Yd,Ye,Yf,Yg,Yh,Yi,Yj,Yk,Yl,Ym,Yn,Yo,Yp,Yq,Yr,Ys,Yt,Yu,Yv,Yw,Yx,Yy,Yz,Za,Zb,Zc,Zd,Ze,Zf,Zg,Zh,Zi,Zj,Zk,Zl,Zm,Zn,Zo,Zp,Zq,Zr,Zs,Zt,Zu,Zv,Zw,Zx,Zy,Zz,Ja,Jb,Jc,Jd,Je,Jf,Jg,Jh,Ji,Jj,Jk,Jl,Jm,Jn,Jo,Jp,Jq,Jr,Js,Jt,Ju,Jv,Jw,Jy,Jz,Va,Vb,Vc,Vd,Ve,Vf,Vg,Vh,Vi,Vj,Vk,Vl,Vm,Vn,Vo,Vp,Vq,Vr,Vs,Vt,Vu,Vv,Vw,Vx,Vy,Vz,Oa,Ob,Oc,Od,Oe,Og,Oh,Oi,Oj,Ok,Ol,Om,On,Oo,Oq,Ot],[]⟩ W:=by
 conv=>arg 2;whnf
 have HRL:=Lib.hid (rcells_len hm.ok)
 have HX:=Lib.hid (And.intro hm (And.intro hr (And.intro qm (And.intro qr (And.intro q4 (And.intro q5 (And.intro hne (And.intro hne2 (And.intro hb (And.intro hgm (And.intro h4 h5)))))))))))
 obtain ⟨c0,c1,c2,c3,c4,c5,c6,c7,c8,c9,c10,c11⟩:=req_cells qr
 have ht1:¬ r.tenant < 1:=by omega
 clear hm hr qm qr q4 q5 hne hne2 hb hgm h4 h5
 refine wp_seq_k fun K0 hK=>?_
 have HK0:=Lib.hid hK
 clear hK
 go_wp2_with fail
 refine HK0.out _ _ ?_
 clear HK0
 try simp only [Act.put]
 refine wp_seq_k fun K0 hK=>?_
 have HK0:=Lib.hid hK
 clear hK
 go_wp2_with fail
 refine do_bad HX.out.1.ok HX.out.2.2.1 HX.out.2.2.2.2.1 HX.out.2.2.2.2.2.1 zero_size rfl HX.out.2.2.2.2.2.2.1 ?_
 intro x0 x1 W' q4' q5' hl
 go_wp2_with fail
 refine bodyPost_ret (v:=.tuple #[.agg (rcells R).toArray,(errA 2).v none 0]) ?_ rfl ?_
 · exact results_cell2 Tryz.results17 rfl rfl q4' q5' Tryz.underlying66 rfl (by rw [List.size_toArray,HRL.out];exact infoRM) Tryz.underlying52 rfl infoAns
 · exact ⟨R,none,0,rfl,HX.out.1.below (hl _ _ HX.out.2.2.2.2.2.2.2.2.2.2.1 HX.out.2.2.2.2.2.2.2.2.2.2.2 HX.out.2.2.2.2.2.2.2.2.1),nil_at,hl _ _ HX.out.2.2.2.2.2.2.2.2.2.2.1 HX.out.2.2.2.2.2.2.2.2.2.2.2 HX.out.2.2.2.2.2.2.2.2.1⟩
set_option maxHeartbeats 6400000 in
set_option maxRecDepth 100000 in
theorem do_low9 {w W:World} {n:Nat} {M:Mdl} {R:RMd} {r:Req} {gm gr g4 g5:Nat} (hm:RMAt w n M R) (hr:r.ok) (qm:Blk W gm 66 (rcells R).toArray) (qr:Blk W gr 39 r.row.toArray) (q4:Blk W g4 66 Tryz.zeroCells66) (q5:Blk W g5 52 zeroA) (hne:gm ≠ g4) (hne2:gr ≠ g4) (hb:Below w.heap.size w W) (hgm:w.heap.size ≤ gm) (h4:w.heap.size ≤ g4) (h5:w.heap.size ≤ g5)(ht:r.tenant < 1) :
 Code.wp Tryz.prog (part Tryz.f17 [1,1,1,1]) (bodyPost Tryz.prog Tryz.f17 (RDoEnd n (M,errA 2) w)) ⟨#[Xa,Xb,.pointer (some ⟨gm,0,none⟩),.pointer (some ⟨gr,0,none⟩),.pointer (some ⟨g4,0,none⟩),.pointer (some ⟨g5,0,none⟩),.int .i64 9,Xh,Xi,Xj,Xk,Xl,Xm,Xn,Xo,Xp,Xq,Xr,Xs,Xt,Xu,Xv,Xw,Xx,Xy,Xz,Ya,Yb,Yc,Yd,Ye,Yf,Yg,Yh,Yi,Yj,Yk,Yl,Ym,Yn,Yo,Yp,Yq,Yr,Ys,Yt,Yu,Yv,Yw,Yx,Yy,Yz,Za,Zb,Zc,Zd,Ze,Zf,Zg,Zh,Zi,Zj,Zk,Zl,Zm,Zn,Zo,Zp,Zq,Zr,Zs,Zt,Zu,Zv,Zw,Zx,Zy,Zz,Ja,Jb,Jc,Jd,Je,Jf,Jg,Jh,Ji,Jj,Jk,Jl,Jm,Jn,Jo,Jp,Jq,Jr,Js,Jt,Ju,Jv,Jw,Jy,Jz,Va,Vb,Vc,Vd,Ve,Vf,Vg,Vh,Vi,Vj,Vk,Vl,Vm,Vn,Vo,Vp,Vq,Vr,Vs,Vt,Vu,Vv,Vw,Vx,Vy,Vz,Oa,Ob,Oc,Od,Oe,Og,Oh,Oi,Oj,Ok,Ol,Om,On,Oo,Oq,Ot],[]⟩ W:=by
 conv=>arg 2;whnf
 have HRL:=Lib.hid (rcells_len hm.ok)
 have HX:=Lib.hid (And.intro hm (And.intro hr (And.intro qm (And.intro qr (And.intro q4 (And.intro q5 (And.intro hne (And.intro hne2 (And.intro hb (And.intro hgm (And.intro h4 h5)))))))))))
 obtain ⟨c0,c1,c2,c3,c4,c5,c6,c7,c8,c9,c10,c11⟩:=req_cells qr
 clear hm hr qm qr q4 q5 hne hne2 hb hgm h4 h5
 refine wp_seq_k fun K0 hK=>?_
 have HK0:=Lib.hid hK
 clear hK
 go_wp2_with fail
 refine HK0.out _ _ ?_
 clear HK0
 try simp only [Act.put]
 refine wp_seq_k fun K0 hK=>?_
 have HK0:=Lib.hid hK
 clear hK
 go_wp2_with fail
 refine do_bad HX.out.1.ok HX.out.2.2.1 HX.out.2.2.2.2.1 HX.out.2.2.2.2.2.1 zero_size rfl HX.out.2.2.2.2.2.2.1 ?_
 intro x0 x1 W' q4' q5' hl
 go_wp2_with fail
 refine bodyPost_ret (v:=.tuple #[.agg (rcells R).toArray,(errA 2).v none 0]) ?_ rfl ?_
 · exact results_cell2 Tryz.results17 rfl rfl q4' q5' Tryz.underlying66 rfl (by rw [List.size_toArray,HRL.out];exact infoRM) Tryz.underlying52 rfl infoAns
 · exact ⟨R,none,0,rfl,HX.out.1.below (hl _ _ HX.out.2.2.2.2.2.2.2.2.2.2.1 HX.out.2.2.2.2.2.2.2.2.2.2.2 HX.out.2.2.2.2.2.2.2.2.1),nil_at,hl _ _ HX.out.2.2.2.2.2.2.2.2.2.2.1 HX.out.2.2.2.2.2.2.2.2.2.2.2 HX.out.2.2.2.2.2.2.2.2.1⟩
set_option maxHeartbeats 6400000 in
set_option maxRecDepth 100000 in
theorem do_high9 {w W:World} {n:Nat} {M:Mdl} {R:RMd} {r:Req} {gm gr g4 g5:Nat} (hm:RMAt w n M R) (hr:r.ok) (qm:Blk W gm 66 (rcells R).toArray) (qr:Blk W gr 39 r.row.toArray) (q4:Blk W g4 66 Tryz.zeroCells66) (q5:Blk W g5 52 zeroA) (hne:gm ≠ g4) (hne2:gr ≠ g4) (hb:Below w.heap.size w W) (hgm:w.heap.size ≤ gm) (h4:w.heap.size ≤ g4) (h5:w.heap.size ≤ g5)(ht:16 < r.tenant) :
 Code.wp Tryz.prog (part Tryz.f17 [1,1,1,1]) (bodyPost Tryz.prog Tryz.f17 (RDoEnd n (M,errA 2) w)) ⟨#[Xa,Xb,.pointer (some ⟨gm,0,none⟩),.pointer (some ⟨gr,0,none⟩),.pointer (some ⟨g4,0,none⟩),.pointer (some ⟨g5,0,none⟩),.int .i64 9,Xh,Xi,Xj,Xk,Xl,Xm,Xn,Xo,Xp,Xq,Xr,Xs,Xt,Xu,Xv,Xw,Xx,Xy,Xz,Ya,Yb,Yc,Yd,Ye,Yf,Yg,Yh,Yi,Yj,Yk,Yl,Ym,Yn,Yo,Yp,Yq,Yr,Ys,Yt,Yu,Yv,Yw,Yx,Yy,Yz,Za,Zb,Zc,Zd,Ze,Zf,Zg,Zh,Zi,Zj,Zk,Zl,Zm,Zn,Zo,Zp,Zq,Zr,Zs,Zt,Zu,Zv,Zw,Zx,Zy,Zz,Ja,Jb,Jc,Jd,Je,Jf,Jg,Jh,Ji,Jj,Jk,Jl,Jm,Jn,Jo,Jp,Jq,Jr,Js,Jt,Ju,Jv,Jw,Jy,Jz,Va,Vb,Vc,Vd,Ve,Vf,Vg,Vh,Vi,Vj,Vk,Vl,Vm,Vn,Vo,Vp,Vq,Vr,Vs,Vt,Vu,Vv,Vw,Vx,Vy,Vz,Oa,Ob,Oc,Od,Oe,Og,Oh,Oi,Oj,Ok,Ol,Om,On,Oo,Oq,Ot],[]⟩ W:=by
 conv=>arg 2;whnf
 have HRL:=Lib.hid (rcells_len hm.ok)
 have HX:=Lib.hid (And.intro hm (And.intro hr (And.intro qm (And.intro qr (And.intro q4 (And.intro q5 (And.intro hne (And.intro hne2 (And.intro hb (And.intro hgm (And.intro h4 h5)))))))))))
 obtain ⟨c0,c1,c2,c3,c4,c5,c6,c7,c8,c9,c10,c11⟩:=req_cells qr
 have ht1:¬ r.tenant < 1:=by omega
 clear hm hr qm qr q4 q5 hne hne2 hb hgm h4 h5
 refine wp_seq_k fun K0 hK=>?_
 have HK0:=Lib.hid hK
 clear hK
 go_wp2_with fail
 refine HK0.out _ _ ?_
 clear HK0
 try simp only [Act.put]
 refine wp_seq_k fun K0 hK=>?_
 have HK0:=Lib.hid hK
 clear hK
 go_wp2_with fail
 refine do_bad HX.out.1.ok HX.out.2.2.1 HX.out.2.2.2.2.1 HX.out.2.2.2.2.2.1 zero_size rfl HX.out.2.2.2.2.2.2.1 ?_
 intro x0 x1 W' q4' q5' hl
 go_wp2_with fail
 refine bodyPost_ret (v:=.tuple #[.agg (rcells R).toArray,(errA 2).v none 0]) ?_ rfl ?_
 · exact results_cell2 Tryz.results17 rfl rfl q4' q5' Tryz.underlying66 rfl (by rw [List.size_toArray,HRL.out];exact infoRM) Tryz.underlying52 rfl infoAns
 · exact ⟨R,none,0,rfl,HX.out.1.below (hl _ _ HX.out.2.2.2.2.2.2.2.2.2.2.1 HX.out.2.2.2.2.2.2.2.2.2.2.2 HX.out.2.2.2.2.2.2.2.2.1),nil_at,hl _ _ HX.out.2.2.2.2.2.2.2.2.2.2.1 HX.out.2.2.2.2.2.2.2.2.2.2.2 HX.out.2.2.2.2.2.2.2.2.1⟩
set_option maxHeartbeats 6400000 in
set_option maxRecDepth 100000 in
theorem do_low10 {w W:World} {n:Nat} {M:Mdl} {R:RMd} {r:Req} {gm gr g4 g5:Nat} (hm:RMAt w n M R) (hr:r.ok) (qm:Blk W gm 66 (rcells R).toArray) (qr:Blk W gr 39 r.row.toArray) (q4:Blk W g4 66 Tryz.zeroCells66) (q5:Blk W g5 52 zeroA) (hne:gm ≠ g4) (hne2:gr ≠ g4) (hb:Below w.heap.size w W) (hgm:w.heap.size ≤ gm) (h4:w.heap.size ≤ g4) (h5:w.heap.size ≤ g5)(ht:r.tenant < 1) :
 Code.wp Tryz.prog (part Tryz.f17 [1,1,1,1]) (bodyPost Tryz.prog Tryz.f17 (RDoEnd n (M,errA 2) w)) ⟨#[Xa,Xb,.pointer (some ⟨gm,0,none⟩),.pointer (some ⟨gr,0,none⟩),.pointer (some ⟨g4,0,none⟩),.pointer (some ⟨g5,0,none⟩),.int .i64 10,Xh,Xi,Xj,Xk,Xl,Xm,Xn,Xo,Xp,Xq,Xr,Xs,Xt,Xu,Xv,Xw,Xx,Xy,Xz,Ya,Yb,Yc,Yd,Ye,Yf,Yg,Yh,Yi,Yj,Yk,Yl,Ym,Yn,Yo,Yp,Yq,Yr,Ys,Yt,Yu,Yv,Yw,Yx,Yy,Yz,Za,Zb,Zc,Zd,Ze,Zf,Zg,Zh,Zi,Zj,Zk,Zl,Zm,Zn,Zo,Zp,Zq,Zr,Zs,Zt,Zu,Zv,Zw,Zx,Zy,Zz,Ja,Jb,Jc,Jd,Je,Jf,Jg,Jh,Ji,Jj,Jk,Jl,Jm,Jn,Jo,Jp,Jq,Jr,Js,Jt,Ju,Jv,Jw,Jy,Jz,Va,Vb,Vc,Vd,Ve,Vf,Vg,Vh,Vi,Vj,Vk,Vl,Vm,Vn,Vo,Vp,Vq,Vr,Vs,Vt,Vu,Vv,Vw,Vx,Vy,Vz,Oa,Ob,Oc,Od,Oe,Og,Oh,Oi,Oj,Ok,Ol,Om,On,Oo,Oq,Ot],[]⟩ W:=by
 conv=>arg 2;whnf
 have HRL:=Lib.hid (rcells_len hm.ok)
 have HX:=Lib.hid (And.intro hm (And.intro hr (And.intro qm (And.intro qr (And.intro q4 (And.intro q5 (And.intro hne (And.intro hne2 (And.intro hb (And.intro hgm (And.intro h4 h5)))))))))))
 obtain ⟨c0,c1,c2,c3,c4,c5,c6,c7,c8,c9,c10,c11⟩:=req_cells qr
 clear hm hr qm qr q4 q5 hne hne2 hb hgm h4 h5
 refine wp_seq_k fun K0 hK=>?_
 have HK0:=Lib.hid hK
 clear hK
 go_wp2_with fail
 refine HK0.out _ _ ?_
 clear HK0
 try simp only [Act.put]
 refine wp_seq_k fun K0 hK=>?_
 have HK0:=Lib.hid hK
 clear hK
 go_wp2_with fail
 refine do_bad HX.out.1.ok HX.out.2.2.1 HX.out.2.2.2.2.1 HX.out.2.2.2.2.2.1 zero_size rfl HX.out.2.2.2.2.2.2.1 ?_
 intro x0 x1 W' q4' q5' hl
 go_wp2_with fail
 refine bodyPost_ret (v:=.tuple #[.agg (rcells R).toArray,(errA 2).v none 0]) ?_ rfl ?_
 · exact results_cell2 Tryz.results17 rfl rfl q4' q5' Tryz.underlying66 rfl (by rw [List.size_toArray,HRL.out];exact infoRM) Tryz.underlying52 rfl infoAns
 · exact ⟨R,none,0,rfl,HX.out.1.below (hl _ _ HX.out.2.2.2.2.2.2.2.2.2.2.1 HX.out.2.2.2.2.2.2.2.2.2.2.2 HX.out.2.2.2.2.2.2.2.2.1),nil_at,hl _ _ HX.out.2.2.2.2.2.2.2.2.2.2.1 HX.out.2.2.2.2.2.2.2.2.2.2.2 HX.out.2.2.2.2.2.2.2.2.1⟩
set_option maxHeartbeats 6400000 in
set_option maxRecDepth 100000 in
theorem do_high10 {w W:World} {n:Nat} {M:Mdl} {R:RMd} {r:Req} {gm gr g4 g5:Nat} (hm:RMAt w n M R) (hr:r.ok) (qm:Blk W gm 66 (rcells R).toArray) (qr:Blk W gr 39 r.row.toArray) (q4:Blk W g4 66 Tryz.zeroCells66) (q5:Blk W g5 52 zeroA) (hne:gm ≠ g4) (hne2:gr ≠ g4) (hb:Below w.heap.size w W) (hgm:w.heap.size ≤ gm) (h4:w.heap.size ≤ g4) (h5:w.heap.size ≤ g5)(ht:16 < r.tenant) :
 Code.wp Tryz.prog (part Tryz.f17 [1,1,1,1]) (bodyPost Tryz.prog Tryz.f17 (RDoEnd n (M,errA 2) w)) ⟨#[Xa,Xb,.pointer (some ⟨gm,0,none⟩),.pointer (some ⟨gr,0,none⟩),.pointer (some ⟨g4,0,none⟩),.pointer (some ⟨g5,0,none⟩),.int .i64 10,Xh,Xi,Xj,Xk,Xl,Xm,Xn,Xo,Xp,Xq,Xr,Xs,Xt,Xu,Xv,Xw,Xx,Xy,Xz,Ya,Yb,Yc,Yd,Ye,Yf,Yg,Yh,Yi,Yj,Yk,Yl,Ym,Yn,Yo,Yp,Yq,Yr,Ys,Yt,Yu,Yv,Yw,Yx,Yy,Yz,Za,Zb,Zc,Zd,Ze,Zf,Zg,Zh,Zi,Zj,Zk,Zl,Zm,Zn,Zo,Zp,Zq,Zr,Zs,Zt,Zu,Zv,Zw,Zx,Zy,Zz,Ja,Jb,Jc,Jd,Je,Jf,Jg,Jh,Ji,Jj,Jk,Jl,Jm,Jn,Jo,Jp,Jq,Jr,Js,Jt,Ju,Jv,Jw,Jy,Jz,Va,Vb,Vc,Vd,Ve,Vf,Vg,Vh,Vi,Vj,Vk,Vl,Vm,Vn,Vo,Vp,Vq,Vr,Vs,Vt,Vu,Vv,Vw,Vx,Vy,Vz,Oa,Ob,Oc,Od,Oe,Og,Oh,Oi,Oj,Ok,Ol,Om,On,Oo,Oq,Ot],[]⟩ W:=by
 conv=>arg 2;whnf
 have HRL:=Lib.hid (rcells_len hm.ok)
 have HX:=Lib.hid (And.intro hm (And.intro hr (And.intro qm (And.intro qr (And.intro q4 (And.intro q5 (And.intro hne (And.intro hne2 (And.intro hb (And.intro hgm (And.intro h4 h5)))))))))))
 obtain ⟨c0,c1,c2,c3,c4,c5,c6,c7,c8,c9,c10,c11⟩:=req_cells qr
 have ht1:¬ r.tenant < 1:=by omega
 clear hm hr qm qr q4 q5 hne hne2 hb hgm h4 h5
 refine wp_seq_k fun K0 hK=>?_
 have HK0:=Lib.hid hK
 clear hK
 go_wp2_with fail
 refine HK0.out _ _ ?_
 clear HK0
 try simp only [Act.put]
 refine wp_seq_k fun K0 hK=>?_
 have HK0:=Lib.hid hK
 clear hK
 go_wp2_with fail
 refine do_bad HX.out.1.ok HX.out.2.2.1 HX.out.2.2.2.2.1 HX.out.2.2.2.2.2.1 zero_size rfl HX.out.2.2.2.2.2.2.1 ?_
 intro x0 x1 W' q4' q5' hl
 go_wp2_with fail
 refine bodyPost_ret (v:=.tuple #[.agg (rcells R).toArray,(errA 2).v none 0]) ?_ rfl ?_
 · exact results_cell2 Tryz.results17 rfl rfl q4' q5' Tryz.underlying66 rfl (by rw [List.size_toArray,HRL.out];exact infoRM) Tryz.underlying52 rfl infoAns
 · exact ⟨R,none,0,rfl,HX.out.1.below (hl _ _ HX.out.2.2.2.2.2.2.2.2.2.2.1 HX.out.2.2.2.2.2.2.2.2.2.2.2 HX.out.2.2.2.2.2.2.2.2.1),nil_at,hl _ _ HX.out.2.2.2.2.2.2.2.2.2.2.1 HX.out.2.2.2.2.2.2.2.2.2.2.2 HX.out.2.2.2.2.2.2.2.2.1⟩
set_option maxHeartbeats 6400000 in
set_option maxRecDepth 100000 in
theorem do_less {w W:World} {n:Nat} {M:Mdl} {R:RMd} {r:Req} {gm gr g4 g5:Nat} (hm:RMAt w n M R) (hr:r.ok) (qm:Blk W gm 66 (rcells R).toArray) (qr:Blk W gr 39 r.row.toArray) (q4:Blk W g4 66 Tryz.zeroCells66) (q5:Blk W g5 52 zeroA) (hne:gm ≠ g4) (hne2:gr ≠ g4) (hb:Below w.heap.size w W) (hgm:w.heap.size ≤ gm) (h4:w.heap.size ≤ g4) (h5:w.heap.size ≤ g5)(hd:r.deed < 7) :
 Code.wp Tryz.prog (part Tryz.f17 [1,1,1,1]) (bodyPost Tryz.prog Tryz.f17 (RDoEnd n (M,errA 2) w)) ⟨#[Xa,Xb,.pointer (some ⟨gm,0,none⟩),.pointer (some ⟨gr,0,none⟩),.pointer (some ⟨g4,0,none⟩),.pointer (some ⟨g5,0,none⟩),.int .i64 r.deed,Xh,Xi,Xj,Xk,Xl,Xm,Xn,Xo,Xp,Xq,Xr,Xs,Xt,Xu,Xv,Xw,Xx,Xy,Xz,Ya,Yb,Yc,Yd,Ye,Yf,Yg,Yh,Yi,Yj,Yk,Yl,Ym,Yn,Yo,Yp,Yq,Yr,Ys,Yt,Yu,Yv,Yw,Yx,Yy,Yz,Za,Zb,Zc,Zd,Ze,Zf,Zg,Zh,Zi,Zj,Zk,Zl,Zm,Zn,Zo,Zp,Zq,Zr,Zs,Zt,Zu,Zv,Zw,Zx,Zy,Zz,Ja,Jb,Jc,Jd,Je,Jf,Jg,Jh,Ji,Jj,Jk,Jl,Jm,Jn,Jo,Jp,Jq,Jr,Js,Jt,Ju,Jv,Jw,Jy,Jz,Va,Vb,Vc,Vd,Ve,Vf,Vg,Vh,Vi,Vj,Vk,Vl,Vm,Vn,Vo,Vp,Vq,Vr,Vs,Vt,Vu,Vv,Vw,Vx,Vy,Vz,Oa,Ob,Oc,Od,Oe,Og,Oh,Oi,Oj,Ok,Ol,Om,On,Oo,Oq,Ot],[]⟩ W:=by
 conv=>arg 2;whnf
 have HRL:=Lib.hid (rcells_len hm.ok)
 have HX:=Lib.hid (And.intro hm (And.intro hr (And.intro qm (And.intro qr (And.intro q4 (And.intro q5 (And.intro hne (And.intro hne2 (And.intro hb (And.intro hgm (And.intro h4 h5)))))))))))
 obtain ⟨c0,c1,c2,c3,c4,c5,c6,c7,c8,c9,c10,c11⟩:=req_cells qr
 have HD:=Lib.hid hd
 clear hm hr qm qr q4 q5 hne hne2 hb hgm h4 h5
 refine wp_seq_k fun K0 hK=>?_
 have HK0:=Lib.hid hK
 clear hK
 go_wp2_with fail
 refine HK0.out _ _ ?_
 clear HK0
 try simp only [Act.put]
 refine wp_seq_k fun K0 hK=>?_
 have HK0:=Lib.hid hK
 clear hK
 go_wp2_with fail
 refine do_bad HX.out.1.ok HX.out.2.2.1 HX.out.2.2.2.2.1 HX.out.2.2.2.2.2.1 zero_size rfl HX.out.2.2.2.2.2.2.1 ?_
 intro x0 x1 W' q4' q5' hl
 go_wp2_with fail
 refine bodyPost_ret (v:=.tuple #[.agg (rcells R).toArray,(errA 2).v none 0]) ?_ rfl ?_
 · exact results_cell2 Tryz.results17 rfl rfl q4' q5' Tryz.underlying66 rfl (by rw [List.size_toArray,HRL.out];exact infoRM) Tryz.underlying52 rfl infoAns
 · exact ⟨R,none,0,rfl,HX.out.1.below (hl _ _ HX.out.2.2.2.2.2.2.2.2.2.2.1 HX.out.2.2.2.2.2.2.2.2.2.2.2 HX.out.2.2.2.2.2.2.2.2.1),nil_at,hl _ _ HX.out.2.2.2.2.2.2.2.2.2.2.1 HX.out.2.2.2.2.2.2.2.2.2.2.2 HX.out.2.2.2.2.2.2.2.2.1⟩
set_option maxHeartbeats 6400000 in
set_option maxRecDepth 100000 in
theorem do_more {w W:World} {n:Nat} {M:Mdl} {R:RMd} {r:Req} {gm gr g4 g5:Nat} (hm:RMAt w n M R) (hr:r.ok) (qm:Blk W gm 66 (rcells R).toArray) (qr:Blk W gr 39 r.row.toArray) (q4:Blk W g4 66 Tryz.zeroCells66) (q5:Blk W g5 52 zeroA) (hne:gm ≠ g4) (hne2:gr ≠ g4) (hb:Below w.heap.size w W) (hgm:w.heap.size ≤ gm) (h4:w.heap.size ≤ g4) (h5:w.heap.size ≤ g5)(hd:10 < r.deed) :
 Code.wp Tryz.prog (part Tryz.f17 [1,1,1,1]) (bodyPost Tryz.prog Tryz.f17 (RDoEnd n (M,errA 2) w)) ⟨#[Xa,Xb,.pointer (some ⟨gm,0,none⟩),.pointer (some ⟨gr,0,none⟩),.pointer (some ⟨g4,0,none⟩),.pointer (some ⟨g5,0,none⟩),.int .i64 r.deed,Xh,Xi,Xj,Xk,Xl,Xm,Xn,Xo,Xp,Xq,Xr,Xs,Xt,Xu,Xv,Xw,Xx,Xy,Xz,Ya,Yb,Yc,Yd,Ye,Yf,Yg,Yh,Yi,Yj,Yk,Yl,Ym,Yn,Yo,Yp,Yq,Yr,Ys,Yt,Yu,Yv,Yw,Yx,Yy,Yz,Za,Zb,Zc,Zd,Ze,Zf,Zg,Zh,Zi,Zj,Zk,Zl,Zm,Zn,Zo,Zp,Zq,Zr,Zs,Zt,Zu,Zv,Zw,Zx,Zy,Zz,Ja,Jb,Jc,Jd,Je,Jf,Jg,Jh,Ji,Jj,Jk,Jl,Jm,Jn,Jo,Jp,Jq,Jr,Js,Jt,Ju,Jv,Jw,Jy,Jz,Va,Vb,Vc,Vd,Ve,Vf,Vg,Vh,Vi,Vj,Vk,Vl,Vm,Vn,Vo,Vp,Vq,Vr,Vs,Vt,Vu,Vv,Vw,Vx,Vy,Vz,Oa,Ob,Oc,Od,Oe,Og,Oh,Oi,Oj,Ok,Ol,Om,On,Oo,Oq,Ot],[]⟩ W:=by
 conv=>arg 2;whnf
 have HRL:=Lib.hid (rcells_len hm.ok)
 have HX:=Lib.hid (And.intro hm (And.intro hr (And.intro qm (And.intro qr (And.intro q4 (And.intro q5 (And.intro hne (And.intro hne2 (And.intro hb (And.intro hgm (And.intro h4 h5)))))))))))
 obtain ⟨c0,c1,c2,c3,c4,c5,c6,c7,c8,c9,c10,c11⟩:=req_cells qr
 have hd1:¬ r.deed < 7:=by omega
 clear hm hr qm qr q4 q5 hne hne2 hb hgm h4 h5
 refine wp_seq_k fun K0 hK=>?_
 have HK0:=Lib.hid hK
 clear hK
 go_wp2_with fail
 refine HK0.out _ _ ?_
 clear HK0
 try simp only [Act.put]
 refine wp_seq_k fun K0 hK=>?_
 have HK0:=Lib.hid hK
 clear hK
 go_wp2_with fail
 refine do_bad HX.out.1.ok HX.out.2.2.1 HX.out.2.2.2.2.1 HX.out.2.2.2.2.2.1 zero_size rfl HX.out.2.2.2.2.2.2.1 ?_
 intro x0 x1 W' q4' q5' hl
 go_wp2_with fail
 refine bodyPost_ret (v:=.tuple #[.agg (rcells R).toArray,(errA 2).v none 0]) ?_ rfl ?_
 · exact results_cell2 Tryz.results17 rfl rfl q4' q5' Tryz.underlying66 rfl (by rw [List.size_toArray,HRL.out];exact infoRM) Tryz.underlying52 rfl infoAns
 · exact ⟨R,none,0,rfl,HX.out.1.below (hl _ _ HX.out.2.2.2.2.2.2.2.2.2.2.1 HX.out.2.2.2.2.2.2.2.2.2.2.2 HX.out.2.2.2.2.2.2.2.2.1),nil_at,hl _ _ HX.out.2.2.2.2.2.2.2.2.2.2.1 HX.out.2.2.2.2.2.2.2.2.2.2.2 HX.out.2.2.2.2.2.2.2.2.1⟩
set_option maxHeartbeats 6400000 in
set_option maxRecDepth 100000 in
theorem do_rlow {w W:World} {n:Nat} {M:Mdl} {R:RMd} {r:Req} {gm gr g4 g5:Nat} (hm:RMAt w n M R) (hr:r.ok) (qm:Blk W gm 66 (rcells R).toArray) (qr:Blk W gr 39 r.row.toArray) (q4:Blk W g4 66 Tryz.zeroCells66) (q5:Blk W g5 52 zeroA) (hne:gm ≠ g4) (hne2:gr ≠ g4) (hb:Below w.heap.size w W) (hgm:w.heap.size ≤ gm) (h4:w.heap.size ≤ g4) (h5:w.heap.size ≤ g5)(ht:1 ≤ r.tenant∧r.tenant ≤ 16) (hg:r.rights < 1) :
 Code.wp Tryz.prog (part Tryz.f17 [1,1,1,1]) (bodyPost Tryz.prog Tryz.f17 (RDoEnd n (M,errA 2) w)) ⟨#[Xa,Xb,.pointer (some ⟨gm,0,none⟩),.pointer (some ⟨gr,0,none⟩),.pointer (some ⟨g4,0,none⟩),.pointer (some ⟨g5,0,none⟩),.int .i64 9,Xh,Xi,Xj,Xk,Xl,Xm,Xn,Xo,Xp,Xq,Xr,Xs,Xt,Xu,Xv,Xw,Xx,Xy,Xz,Ya,Yb,Yc,Yd,Ye,Yf,Yg,Yh,Yi,Yj,Yk,Yl,Ym,Yn,Yo,Yp,Yq,Yr,Ys,Yt,Yu,Yv,Yw,Yx,Yy,Yz,Za,Zb,Zc,Zd,Ze,Zf,Zg,Zh,Zi,Zj,Zk,Zl,Zm,Zn,Zo,Zp,Zq,Zr,Zs,Zt,Zu,Zv,Zw,Zx,Zy,Zz,Ja,Jb,Jc,Jd,Je,Jf,Jg,Jh,Ji,Jj,Jk,Jl,Jm,Jn,Jo,Jp,Jq,Jr,Js,Jt,Ju,Jv,Jw,Jy,Jz,Va,Vb,Vc,Vd,Ve,Vf,Vg,Vh,Vi,Vj,Vk,Vl,Vm,Vn,Vo,Vp,Vq,Vr,Vs,Vt,Vu,Vv,Vw,Vx,Vy,Vz,Oa,Ob,Oc,Od,Oe,Og,Oh,Oi,Oj,Ok,Ol,Om,On,Oo,Oq,Ot],[]⟩ W:=by
 conv=>arg 2;whnf
 have HRL:=Lib.hid (rcells_len hm.ok)
 have HX:=Lib.hid (And.intro hm (And.intro hr (And.intro qm (And.intro qr (And.intro q4 (And.intro q5 (And.intro hne (And.intro hne2 (And.intro hb (And.intro hgm (And.intro h4 h5)))))))))))
 obtain ⟨c0,c1,c2,c3,c4,c5,c6,c7,c8,c9,c10,c11⟩:=req_cells qr
 have ht1:¬ r.tenant < 1:=by omega
 have ht2:¬ 16 < r.tenant:=by omega
 clear hm hr qm qr q4 q5 hne hne2 hb hgm h4 h5
 refine wp_seq_k fun K0 hK=>?_
 have HK0:=Lib.hid hK
 clear hK
 go_wp2_with fail
 refine HK0.out _ _ ?_
 clear HK0
 try simp only [Act.put]
 refine wp_seq_k fun K0 hK=>?_
 have HK0:=Lib.hid hK
 clear hK
 go_wp2_with fail
 refine do_bad HX.out.1.ok HX.out.2.2.1 HX.out.2.2.2.2.1 HX.out.2.2.2.2.2.1 zero_size rfl HX.out.2.2.2.2.2.2.1 ?_
 intro x0 x1 W' q4' q5' hl
 go_wp2_with fail
 refine bodyPost_ret (v:=.tuple #[.agg (rcells R).toArray,(errA 2).v none 0]) ?_ rfl ?_
 · exact results_cell2 Tryz.results17 rfl rfl q4' q5' Tryz.underlying66 rfl (by rw [List.size_toArray,HRL.out];exact infoRM) Tryz.underlying52 rfl infoAns
 · exact ⟨R,none,0,rfl,HX.out.1.below (hl _ _ HX.out.2.2.2.2.2.2.2.2.2.2.1 HX.out.2.2.2.2.2.2.2.2.2.2.2 HX.out.2.2.2.2.2.2.2.2.1),nil_at,hl _ _ HX.out.2.2.2.2.2.2.2.2.2.2.1 HX.out.2.2.2.2.2.2.2.2.2.2.2 HX.out.2.2.2.2.2.2.2.2.1⟩
set_option maxHeartbeats 6400000 in
set_option maxRecDepth 100000 in
theorem do_rhigh {w W:World} {n:Nat} {M:Mdl} {R:RMd} {r:Req} {gm gr g4 g5:Nat} (hm:RMAt w n M R) (hr:r.ok) (qm:Blk W gm 66 (rcells R).toArray) (qr:Blk W gr 39 r.row.toArray) (q4:Blk W g4 66 Tryz.zeroCells66) (q5:Blk W g5 52 zeroA) (hne:gm ≠ g4) (hne2:gr ≠ g4) (hb:Below w.heap.size w W) (hgm:w.heap.size ≤ gm) (h4:w.heap.size ≤ g4) (h5:w.heap.size ≤ g5)(ht:1 ≤ r.tenant∧r.tenant ≤ 16) (hg:7 < r.rights) :
 Code.wp Tryz.prog (part Tryz.f17 [1,1,1,1]) (bodyPost Tryz.prog Tryz.f17 (RDoEnd n (M,errA 2) w)) ⟨#[Xa,Xb,.pointer (some ⟨gm,0,none⟩),.pointer (some ⟨gr,0,none⟩),.pointer (some ⟨g4,0,none⟩),.pointer (some ⟨g5,0,none⟩),.int .i64 9,Xh,Xi,Xj,Xk,Xl,Xm,Xn,Xo,Xp,Xq,Xr,Xs,Xt,Xu,Xv,Xw,Xx,Xy,Xz,Ya,Yb,Yc,Yd,Ye,Yf,Yg,Yh,Yi,Yj,Yk,Yl,Ym,Yn,Yo,Yp,Yq,Yr,Ys,Yt,Yu,Yv,Yw,Yx,Yy,Yz,Za,Zb,Zc,Zd,Ze,Zf,Zg,Zh,Zi,Zj,Zk,Zl,Zm,Zn,Zo,Zp,Zq,Zr,Zs,Zt,Zu,Zv,Zw,Zx,Zy,Zz,Ja,Jb,Jc,Jd,Je,Jf,Jg,Jh,Ji,Jj,Jk,Jl,Jm,Jn,Jo,Jp,Jq,Jr,Js,Jt,Ju,Jv,Jw,Jy,Jz,Va,Vb,Vc,Vd,Ve,Vf,Vg,Vh,Vi,Vj,Vk,Vl,Vm,Vn,Vo,Vp,Vq,Vr,Vs,Vt,Vu,Vv,Vw,Vx,Vy,Vz,Oa,Ob,Oc,Od,Oe,Og,Oh,Oi,Oj,Ok,Ol,Om,On,Oo,Oq,Ot],[]⟩ W:=by
 conv=>arg 2;whnf
 have HRL:=Lib.hid (rcells_len hm.ok)
 have HX:=Lib.hid (And.intro hm (And.intro hr (And.intro qm (And.intro qr (And.intro q4 (And.intro q5 (And.intro hne (And.intro hne2 (And.intro hb (And.intro hgm (And.intro h4 h5)))))))))))
 obtain ⟨c0,c1,c2,c3,c4,c5,c6,c7,c8,c9,c10,c11⟩:=req_cells qr
 have ht1:¬ r.tenant < 1:=by omega
 have ht2:¬ 16 < r.tenant:=by omega
 have hg1:¬ r.rights < 1:=by omega
 clear hm hr qm qr q4 q5 hne hne2 hb hgm h4 h5
 refine wp_seq_k fun K0 hK=>?_
 have HK0:=Lib.hid hK
 clear hK
 go_wp2_with fail
 refine HK0.out _ _ ?_
 clear HK0
 try simp only [Act.put]
 refine wp_seq_k fun K0 hK=>?_
 have HK0:=Lib.hid hK
 clear hK
 go_wp2_with fail
 refine do_bad HX.out.1.ok HX.out.2.2.1 HX.out.2.2.2.2.1 HX.out.2.2.2.2.2.1 zero_size rfl HX.out.2.2.2.2.2.2.1 ?_
 intro x0 x1 W' q4' q5' hl
 go_wp2_with fail
 refine bodyPost_ret (v:=.tuple #[.agg (rcells R).toArray,(errA 2).v none 0]) ?_ rfl ?_
 · exact results_cell2 Tryz.results17 rfl rfl q4' q5' Tryz.underlying66 rfl (by rw [List.size_toArray,HRL.out];exact infoRM) Tryz.underlying52 rfl infoAns
 · exact ⟨R,none,0,rfl,HX.out.1.below (hl _ _ HX.out.2.2.2.2.2.2.2.2.2.2.1 HX.out.2.2.2.2.2.2.2.2.2.2.2 HX.out.2.2.2.2.2.2.2.2.1),nil_at,hl _ _ HX.out.2.2.2.2.2.2.2.2.2.2.1 HX.out.2.2.2.2.2.2.2.2.2.2.2 HX.out.2.2.2.2.2.2.2.2.1⟩
set_option maxHeartbeats 6400000 in
set_option maxRecDepth 100000 in
theorem do7_twice {w W:World} {n:Nat} {M:Mdl} {R:RMd} {r:Req} {gm gr g4 g5:Nat} (hm:RMAt w n M R) (hr:r.ok) (qm:Blk W gm 66 (rcells R).toArray) (qr:Blk W gr 39 r.row.toArray) (q4:Blk W g4 66 Tryz.zeroCells66) (q5:Blk W g5 52 zeroA) (hne:gm ≠ g4) (hne2:gr ≠ g4) (hb:Below w.heap.size w W) (hgm:w.heap.size ≤ gm) (h4:w.heap.size ≤ g4) (h5:w.heap.size ≤ g5){t:Nat} (ht:r.tenant=t) (ht1:1 ≤ t) (ht16:t ≤ 16) (hth:(R t).there=true) :
 Code.wp Tryz.prog (part Tryz.f17 [1,1,1,1]) (bodyPost Tryz.prog Tryz.f17 (RDoEnd n (M,errA 8) w)) ⟨#[Xa,Xb,.pointer (some ⟨gm,0,none⟩),.pointer (some ⟨gr,0,none⟩),.pointer (some ⟨g4,0,none⟩),.pointer (some ⟨g5,0,none⟩),.int .i64 7,Xh,Xi,Xj,Xk,Xl,Xm,Xn,Xo,Xp,Xq,Xr,Xs,Xt,Xu,Xv,Xw,Xx,Xy,Xz,Ya,Yb,Yc,Yd,Ye,Yf,Yg,Yh,Yi,Yj,Yk,Yl,Ym,Yn,Yo,Yp,Yq,Yr,Ys,Yt,Yu,Yv,Yw,Yx,Yy,Yz,Za,Zb,Zc,Zd,Ze,Zf,Zg,Zh,Zi,Zj,Zk,Zl,Zm,Zn,Zo,Zp,Zq,Zr,Zs,Zt,Zu,Zv,Zw,Zx,Zy,Zz,Ja,Jb,Jc,Jd,Je,Jf,Jg,Jh,Ji,Jj,Jk,Jl,Jm,Jn,Jo,Jp,Jq,Jr,Js,Jt,Ju,Jv,Jw,Jy,Jz,Va,Vb,Vc,Vd,Ve,Vf,Vg,Vh,Vi,Vj,Vk,Vl,Vm,Vn,Vo,Vp,Vq,Vr,Vs,Vt,Vu,Vv,Vw,Vx,Vy,Vz,Oa,Ob,Oc,Od,Oe,Og,Oh,Oi,Oj,Ok,Ol,Om,On,Oo,Oq,Ot],[]⟩ W:=by
 conv=>arg 2;whnf
 have HRL:=Lib.hid (rcells_len hm.ok)
 have HX:=Lib.hid (And.intro hm (And.intro hr (And.intro qm (And.intro qr (And.intro q4 (And.intro q5 (And.intro hne (And.intro hne2 (And.intro hb (And.intro hgm (And.intro h4 h5)))))))))))
 obtain ⟨c0,c1,c2,c3,c4,c5,c6,c7,c8,c9,c10,c11⟩:=req_cells qr
 have ht17:t < 17:=by omega
 have i0:(0:Int) ≤ (t:Int):=by omega
 have i1:(t:Int) < 17:=by omega
 have i2:¬ (t:Int) < 1:=by omega
 have i3:¬ 16 < (t:Int):=by omega
 have m0:W.cell? ⟨gm,t * 16,none⟩=some (.bool (R t).there):=rblk (j:=0) qm hm.ok ht17 rfl
 rw [hth] at m0
 rw [ht] at c8
 clear hm hr qm qr q4 q5 hne hne2 hb hgm h4 h5
 refine wp_seq_k fun K0 hK=>?_
 have HK0:=Lib.hid hK
 clear hK
 go_wp2_with fail
 refine HK0.out _ _ ?_
 clear HK0
 try simp only [Act.put]
 refine wp_seq_k fun K0 hK=>?_
 have HK0:=Lib.hid hK
 clear hK
 go_wp2_with fail
 refine HK0.out _ _ ?_
 clear HK0
 try simp only [Act.put]
 refine wp_seq_k fun K0 hK=>?_
 have HK0:=Lib.hid hK
 clear hK
 go_wp2_with fail
 refine do_twice HX.out.1.ok HX.out.2.2.1 HX.out.2.2.2.2.1 HX.out.2.2.2.2.2.1 zero_size rfl HX.out.2.2.2.2.2.2.1 ?_
 intro x0 x1 W' q4' q5' hl
 go_wp2_with fail
 refine bodyPost_ret (v:=.tuple #[.agg (rcells R).toArray,(errA 8).v none 0]) ?_ rfl ?_
 · exact results_cell2 Tryz.results17 rfl rfl q4' q5' Tryz.underlying66 rfl (by rw [List.size_toArray,HRL.out];exact infoRM) Tryz.underlying52 rfl infoAns
 · exact ⟨R,none,0,rfl,HX.out.1.below (hl _ _ HX.out.2.2.2.2.2.2.2.2.2.2.1 HX.out.2.2.2.2.2.2.2.2.2.2.2 HX.out.2.2.2.2.2.2.2.2.1),nil_at,hl _ _ HX.out.2.2.2.2.2.2.2.2.2.2.1 HX.out.2.2.2.2.2.2.2.2.2.2.2 HX.out.2.2.2.2.2.2.2.2.1⟩
set_option maxHeartbeats 6400000 in
set_option maxRecDepth 100000 in
theorem do8_none {w W:World} {n:Nat} {M:Mdl} {R:RMd} {r:Req} {gm gr g4 g5:Nat} (hm:RMAt w n M R) (hr:r.ok) (qm:Blk W gm 66 (rcells R).toArray) (qr:Blk W gr 39 r.row.toArray) (q4:Blk W g4 66 Tryz.zeroCells66) (q5:Blk W g5 52 zeroA) (hne:gm ≠ g4) (hne2:gr ≠ g4) (hb:Below w.heap.size w W) (hgm:w.heap.size ≤ gm) (h4:w.heap.size ≤ g4) (h5:w.heap.size ≤ g5){t:Nat} (ht:r.tenant=t) (ht1:1 ≤ t) (ht16:t ≤ 16) (hth:(R t).there=false) :
 Code.wp Tryz.prog (part Tryz.f17 [1,1,1,1]) (bodyPost Tryz.prog Tryz.f17 (RDoEnd n (M,errA 5) w)) ⟨#[Xa,Xb,.pointer (some ⟨gm,0,none⟩),.pointer (some ⟨gr,0,none⟩),.pointer (some ⟨g4,0,none⟩),.pointer (some ⟨g5,0,none⟩),.int .i64 8,Xh,Xi,Xj,Xk,Xl,Xm,Xn,Xo,Xp,Xq,Xr,Xs,Xt,Xu,Xv,Xw,Xx,Xy,Xz,Ya,Yb,Yc,Yd,Ye,Yf,Yg,Yh,Yi,Yj,Yk,Yl,Ym,Yn,Yo,Yp,Yq,Yr,Ys,Yt,Yu,Yv,Yw,Yx,Yy,Yz,Za,Zb,Zc,Zd,Ze,Zf,Zg,Zh,Zi,Zj,Zk,Zl,Zm,Zn,Zo,Zp,Zq,Zr,Zs,Zt,Zu,Zv,Zw,Zx,Zy,Zz,Ja,Jb,Jc,Jd,Je,Jf,Jg,Jh,Ji,Jj,Jk,Jl,Jm,Jn,Jo,Jp,Jq,Jr,Js,Jt,Ju,Jv,Jw,Jy,Jz,Va,Vb,Vc,Vd,Ve,Vf,Vg,Vh,Vi,Vj,Vk,Vl,Vm,Vn,Vo,Vp,Vq,Vr,Vs,Vt,Vu,Vv,Vw,Vx,Vy,Vz,Oa,Ob,Oc,Od,Oe,Og,Oh,Oi,Oj,Ok,Ol,Om,On,Oo,Oq,Ot],[]⟩ W:=by
 conv=>arg 2;whnf
 have HRL:=Lib.hid (rcells_len hm.ok)
 have HX:=Lib.hid (And.intro hm (And.intro hr (And.intro qm (And.intro qr (And.intro q4 (And.intro q5 (And.intro hne (And.intro hne2 (And.intro hb (And.intro hgm (And.intro h4 h5)))))))))))
 obtain ⟨c0,c1,c2,c3,c4,c5,c6,c7,c8,c9,c10,c11⟩:=req_cells qr
 have ht17:t < 17:=by omega
 have i0:(0:Int) ≤ (t:Int):=by omega
 have i1:(t:Int) < 17:=by omega
 have i2:¬ (t:Int) < 1:=by omega
 have i3:¬ 16 < (t:Int):=by omega
 have m0:W.cell? ⟨gm,t * 16,none⟩=some (.bool (R t).there):=rblk (j:=0) qm hm.ok ht17 rfl
 rw [hth] at m0
 rw [ht] at c8
 clear hm hr qm qr q4 q5 hne hne2 hb hgm h4 h5
 refine wp_seq_k fun K0 hK=>?_
 have HK0:=Lib.hid hK
 clear hK
 go_wp2_with fail
 refine HK0.out _ _ ?_
 clear HK0
 try simp only [Act.put]
 refine wp_seq_k fun K0 hK=>?_
 have HK0:=Lib.hid hK
 clear hK
 go_wp2_with fail
 refine HK0.out _ _ ?_
 clear HK0
 try simp only [Act.put]
 refine wp_seq_k fun K0 hK=>?_
 have HK0:=Lib.hid hK
 clear hK
 go_wp2_with fail
 refine HK0.out _ _ ?_
 clear HK0
 try simp only [Act.put]
 refine wp_seq_k fun K0 hK=>?_
 have HK0:=Lib.hid hK
 clear hK
 go_wp2_with fail
 refine do_none HX.out.1.ok HX.out.2.2.1 HX.out.2.2.2.2.1 HX.out.2.2.2.2.2.1 zero_size rfl HX.out.2.2.2.2.2.2.1 ?_
 intro x0 x1 W' q4' q5' hl
 go_wp2_with fail
 refine bodyPost_ret (v:=.tuple #[.agg (rcells R).toArray,(errA 5).v none 0]) ?_ rfl ?_
 · exact results_cell2 Tryz.results17 rfl rfl q4' q5' Tryz.underlying66 rfl (by rw [List.size_toArray,HRL.out];exact infoRM) Tryz.underlying52 rfl infoAns
 · exact ⟨R,none,0,rfl,HX.out.1.below (hl _ _ HX.out.2.2.2.2.2.2.2.2.2.2.1 HX.out.2.2.2.2.2.2.2.2.2.2.2 HX.out.2.2.2.2.2.2.2.2.1),nil_at,hl _ _ HX.out.2.2.2.2.2.2.2.2.2.2.1 HX.out.2.2.2.2.2.2.2.2.2.2.2 HX.out.2.2.2.2.2.2.2.2.1⟩
set_option maxHeartbeats 6400000 in
set_option maxRecDepth 100000 in
theorem do9_none {w W:World} {n:Nat} {M:Mdl} {R:RMd} {r:Req} {gm gr g4 g5:Nat} (hm:RMAt w n M R) (hr:r.ok) (qm:Blk W gm 66 (rcells R).toArray) (qr:Blk W gr 39 r.row.toArray) (q4:Blk W g4 66 Tryz.zeroCells66) (q5:Blk W g5 52 zeroA) (hne:gm ≠ g4) (hne2:gr ≠ g4) (hb:Below w.heap.size w W) (hgm:w.heap.size ≤ gm) (h4:w.heap.size ≤ g4) (h5:w.heap.size ≤ g5){t:Nat} (ht:r.tenant=t) (ht1:1 ≤ t) (ht16:t ≤ 16) (hth:(R t).there=false) (hg:1 ≤ r.rights∧r.rights ≤ 7) :
 Code.wp Tryz.prog (part Tryz.f17 [1,1,1,1]) (bodyPost Tryz.prog Tryz.f17 (RDoEnd n (M,errA 5) w)) ⟨#[Xa,Xb,.pointer (some ⟨gm,0,none⟩),.pointer (some ⟨gr,0,none⟩),.pointer (some ⟨g4,0,none⟩),.pointer (some ⟨g5,0,none⟩),.int .i64 9,Xh,Xi,Xj,Xk,Xl,Xm,Xn,Xo,Xp,Xq,Xr,Xs,Xt,Xu,Xv,Xw,Xx,Xy,Xz,Ya,Yb,Yc,Yd,Ye,Yf,Yg,Yh,Yi,Yj,Yk,Yl,Ym,Yn,Yo,Yp,Yq,Yr,Ys,Yt,Yu,Yv,Yw,Yx,Yy,Yz,Za,Zb,Zc,Zd,Ze,Zf,Zg,Zh,Zi,Zj,Zk,Zl,Zm,Zn,Zo,Zp,Zq,Zr,Zs,Zt,Zu,Zv,Zw,Zx,Zy,Zz,Ja,Jb,Jc,Jd,Je,Jf,Jg,Jh,Ji,Jj,Jk,Jl,Jm,Jn,Jo,Jp,Jq,Jr,Js,Jt,Ju,Jv,Jw,Jy,Jz,Va,Vb,Vc,Vd,Ve,Vf,Vg,Vh,Vi,Vj,Vk,Vl,Vm,Vn,Vo,Vp,Vq,Vr,Vs,Vt,Vu,Vv,Vw,Vx,Vy,Vz,Oa,Ob,Oc,Od,Oe,Og,Oh,Oi,Oj,Ok,Ol,Om,On,Oo,Oq,Ot],[]⟩ W:=by
 conv=>arg 2;whnf
 have HRL:=Lib.hid (rcells_len hm.ok)
 have HX:=Lib.hid (And.intro hm (And.intro hr (And.intro qm (And.intro qr (And.intro q4 (And.intro q5 (And.intro hne (And.intro hne2 (And.intro hb (And.intro hgm (And.intro h4 h5)))))))))))
 obtain ⟨c0,c1,c2,c3,c4,c5,c6,c7,c8,c9,c10,c11⟩:=req_cells qr
 have ht17:t < 17:=by omega
 have i0:(0:Int) ≤ (t:Int):=by omega
 have i1:(t:Int) < 17:=by omega
 have i2:¬ (t:Int) < 1:=by omega
 have i3:¬ 16 < (t:Int):=by omega
 have m0:W.cell? ⟨gm,t * 16,none⟩=some (.bool (R t).there):=rblk (j:=0) qm hm.ok ht17 rfl
 rw [hth] at m0
 rw [ht] at c8
 have g1:¬ r.rights < 1:=by omega
 have g2:¬ 7 < r.rights:=by omega
 clear hm hr qm qr q4 q5 hne hne2 hb hgm h4 h5
 refine wp_seq_k fun K0 hK=>?_
 have HK0:=Lib.hid hK
 clear hK
 go_wp2_with fail
 refine HK0.out _ _ ?_
 clear HK0
 try simp only [Act.put]
 refine wp_seq_k fun K0 hK=>?_
 have HK0:=Lib.hid hK
 clear hK
 go_wp2_with fail
 refine HK0.out _ _ ?_
 clear HK0
 try simp only [Act.put]
 refine wp_seq_k fun K0 hK=>?_
 have HK0:=Lib.hid hK
 clear hK
 go_wp2_with fail
 refine HK0.out _ _ ?_
 clear HK0
 try simp only [Act.put]
 refine wp_seq_k fun K0 hK=>?_
 have HK0:=Lib.hid hK
 clear hK
 go_wp2_with fail
 refine do_none HX.out.1.ok HX.out.2.2.1 HX.out.2.2.2.2.1 HX.out.2.2.2.2.2.1 zero_size rfl HX.out.2.2.2.2.2.2.1 ?_
 intro x0 x1 W' q4' q5' hl
 go_wp2_with fail
 refine bodyPost_ret (v:=.tuple #[.agg (rcells R).toArray,(errA 5).v none 0]) ?_ rfl ?_
 · exact results_cell2 Tryz.results17 rfl rfl q4' q5' Tryz.underlying66 rfl (by rw [List.size_toArray,HRL.out];exact infoRM) Tryz.underlying52 rfl infoAns
 · exact ⟨R,none,0,rfl,HX.out.1.below (hl _ _ HX.out.2.2.2.2.2.2.2.2.2.2.1 HX.out.2.2.2.2.2.2.2.2.2.2.2 HX.out.2.2.2.2.2.2.2.2.1),nil_at,hl _ _ HX.out.2.2.2.2.2.2.2.2.2.2.1 HX.out.2.2.2.2.2.2.2.2.2.2.2 HX.out.2.2.2.2.2.2.2.2.1⟩
set_option maxHeartbeats 6400000 in
set_option maxRecDepth 100000 in
theorem do10_none {w W:World} {n:Nat} {M:Mdl} {R:RMd} {r:Req} {gm gr g4 g5:Nat} (hm:RMAt w n M R) (hr:r.ok) (qm:Blk W gm 66 (rcells R).toArray) (qr:Blk W gr 39 r.row.toArray) (q4:Blk W g4 66 Tryz.zeroCells66) (q5:Blk W g5 52 zeroA) (hne:gm ≠ g4) (hne2:gr ≠ g4) (hb:Below w.heap.size w W) (hgm:w.heap.size ≤ gm) (h4:w.heap.size ≤ g4) (h5:w.heap.size ≤ g5){t:Nat} (ht:r.tenant=t) (ht1:1 ≤ t) (ht16:t ≤ 16) (hth:(R t).there=false) :
 Code.wp Tryz.prog (part Tryz.f17 [1,1,1,1]) (bodyPost Tryz.prog Tryz.f17 (RDoEnd n (M,errA 5) w)) ⟨#[Xa,Xb,.pointer (some ⟨gm,0,none⟩),.pointer (some ⟨gr,0,none⟩),.pointer (some ⟨g4,0,none⟩),.pointer (some ⟨g5,0,none⟩),.int .i64 10,Xh,Xi,Xj,Xk,Xl,Xm,Xn,Xo,Xp,Xq,Xr,Xs,Xt,Xu,Xv,Xw,Xx,Xy,Xz,Ya,Yb,Yc,Yd,Ye,Yf,Yg,Yh,Yi,Yj,Yk,Yl,Ym,Yn,Yo,Yp,Yq,Yr,Ys,Yt,Yu,Yv,Yw,Yx,Yy,Yz,Za,Zb,Zc,Zd,Ze,Zf,Zg,Zh,Zi,Zj,Zk,Zl,Zm,Zn,Zo,Zp,Zq,Zr,Zs,Zt,Zu,Zv,Zw,Zx,Zy,Zz,Ja,Jb,Jc,Jd,Je,Jf,Jg,Jh,Ji,Jj,Jk,Jl,Jm,Jn,Jo,Jp,Jq,Jr,Js,Jt,Ju,Jv,Jw,Jy,Jz,Va,Vb,Vc,Vd,Ve,Vf,Vg,Vh,Vi,Vj,Vk,Vl,Vm,Vn,Vo,Vp,Vq,Vr,Vs,Vt,Vu,Vv,Vw,Vx,Vy,Vz,Oa,Ob,Oc,Od,Oe,Og,Oh,Oi,Oj,Ok,Ol,Om,On,Oo,Oq,Ot],[]⟩ W:=by
 conv=>arg 2;whnf
 have HRL:=Lib.hid (rcells_len hm.ok)
 have HX:=Lib.hid (And.intro hm (And.intro hr (And.intro qm (And.intro qr (And.intro q4 (And.intro q5 (And.intro hne (And.intro hne2 (And.intro hb (And.intro hgm (And.intro h4 h5)))))))))))
 obtain ⟨c0,c1,c2,c3,c4,c5,c6,c7,c8,c9,c10,c11⟩:=req_cells qr
 have ht17:t < 17:=by omega
 have i0:(0:Int) ≤ (t:Int):=by omega
 have i1:(t:Int) < 17:=by omega
 have i2:¬ (t:Int) < 1:=by omega
 have i3:¬ 16 < (t:Int):=by omega
 have m0:W.cell? ⟨gm,t * 16,none⟩=some (.bool (R t).there):=rblk (j:=0) qm hm.ok ht17 rfl
 rw [hth] at m0
 rw [ht] at c8
 clear hm hr qm qr q4 q5 hne hne2 hb hgm h4 h5
 refine wp_seq_k fun K0 hK=>?_
 have HK0:=Lib.hid hK
 clear hK
 go_wp2_with fail
 refine HK0.out _ _ ?_
 clear HK0
 try simp only [Act.put]
 refine wp_seq_k fun K0 hK=>?_
 have HK0:=Lib.hid hK
 clear hK
 go_wp2_with fail
 refine HK0.out _ _ ?_
 clear HK0
 try simp only [Act.put]
 refine wp_seq_k fun K0 hK=>?_
 have HK0:=Lib.hid hK
 clear hK
 go_wp2_with fail
 refine HK0.out _ _ ?_
 clear HK0
 try simp only [Act.put]
 refine wp_seq_k fun K0 hK=>?_
 have HK0:=Lib.hid hK
 clear hK
 go_wp2_with fail
 refine do_none HX.out.1.ok HX.out.2.2.1 HX.out.2.2.2.2.1 HX.out.2.2.2.2.2.1 zero_size rfl HX.out.2.2.2.2.2.2.1 ?_
 intro x0 x1 W' q4' q5' hl
 go_wp2_with fail
 refine bodyPost_ret (v:=.tuple #[.agg (rcells R).toArray,(errA 5).v none 0]) ?_ rfl ?_
 · exact results_cell2 Tryz.results17 rfl rfl q4' q5' Tryz.underlying66 rfl (by rw [List.size_toArray,HRL.out];exact infoRM) Tryz.underlying52 rfl infoAns
 · exact ⟨R,none,0,rfl,HX.out.1.below (hl _ _ HX.out.2.2.2.2.2.2.2.2.2.2.1 HX.out.2.2.2.2.2.2.2.2.2.2.2 HX.out.2.2.2.2.2.2.2.2.1),nil_at,hl _ _ HX.out.2.2.2.2.2.2.2.2.2.2.1 HX.out.2.2.2.2.2.2.2.2.2.2.2 HX.out.2.2.2.2.2.2.2.2.1⟩
set_option maxHeartbeats 6400000 in
set_option maxRecDepth 100000 in
theorem do7_ok {w W:World} {n:Nat} {M:Mdl} {R:RMd} {r:Req} {gm gr g4 g5:Nat} (hm:RMAt w n M R) (hr:r.ok) (qm:Blk W gm 66 (rcells R).toArray) (qr:Blk W gr 39 r.row.toArray) (q4:Blk W g4 66 Tryz.zeroCells66) (q5:Blk W g5 52 zeroA) (hne:gm ≠ g4) (hne2:gr ≠ g4) (hb:Below w.heap.size w W) (hgm:w.heap.size ≤ gm) (h4:w.heap.size ≤ g4) (h5:w.heap.size ≤ g5){t:Nat} (ht:r.tenant=t) (ht1:1 ≤ t) (ht16:t ≤ 16) (hth:(R t).there=false) :
 Code.wp Tryz.prog (part Tryz.f17 [1,1,1,1]) (bodyPost Tryz.prog Tryz.f17 (RDoEnd n (updM M t (newT (M t).gen r),errA 0) w)) ⟨#[Xa,Xb,.pointer (some ⟨gm,0,none⟩),.pointer (some ⟨gr,0,none⟩),.pointer (some ⟨g4,0,none⟩),.pointer (some ⟨g5,0,none⟩),.int .i64 7,Xh,Xi,Xj,Xk,Xl,Xm,Xn,Xo,Xp,Xq,Xr,Xs,Xt,Xu,Xv,Xw,Xx,Xy,Xz,Ya,Yb,Yc,Yd,Ye,Yf,Yg,Yh,Yi,Yj,Yk,Yl,Ym,Yn,Yo,Yp,Yq,Yr,Ys,Yt,Yu,Yv,Yw,Yx,Yy,Yz,Za,Zb,Zc,Zd,Ze,Zf,Zg,Zh,Zi,Zj,Zk,Zl,Zm,Zn,Zo,Zp,Zq,Zr,Zs,Zt,Zu,Zv,Zw,Zx,Zy,Zz,Ja,Jb,Jc,Jd,Je,Jf,Jg,Jh,Ji,Jj,Jk,Jl,Jm,Jn,Jo,Jp,Jq,Jr,Js,Jt,Ju,Jv,Jw,Jy,Jz,Va,Vb,Vc,Vd,Ve,Vf,Vg,Vh,Vi,Vj,Vk,Vl,Vm,Vn,Vo,Vp,Vq,Vr,Vs,Vt,Vu,Vv,Vw,Vx,Vy,Vz,Oa,Ob,Oc,Od,Oe,Og,Oh,Oi,Oj,Ok,Ol,Om,On,Oo,Oq,Ot],[]⟩ W:=by
 conv=>arg 2;whnf
 have HRL:=Lib.hid (rcells_len hm.ok)
 have HX:=Lib.hid (And.intro hm (And.intro hr (And.intro qm (And.intro qr (And.intro q4 (And.intro q5 (And.intro hne (And.intro hne2 (And.intro hb (And.intro hgm (And.intro h4 h5)))))))))))
 obtain ⟨c0,c1,c2,c3,c4,c5,c6,c7,c8,c9,c10,c11⟩:=req_cells qr
 have ht17:t < 17:=by omega
 have i0:(0:Int) ≤ (t:Int):=by omega
 have i1:(t:Int) < 17:=by omega
 have i2:¬ (t:Int) < 1:=by omega
 have i3:¬ 16 < (t:Int):=by omega
 have m0:W.cell? ⟨gm,t * 16,none⟩=some (.bool (R t).there):=rblk (j:=0) qm hm.ok ht17 rfl
 rw [hth] at m0
 rw [ht] at c8
 clear hm hr qm qr q4 q5 hne hne2 hb hgm h4 h5
 refine wp_seq_k fun K0 hK=>?_
 have HK0:=Lib.hid hK
 clear hK
 go_wp2_with fail
 refine HK0.out _ _ ?_
 clear HK0
 try simp only [Act.put]
 refine wp_seq_k fun K0 hK=>?_
 have HK0:=Lib.hid hK
 clear hK
 go_wp2_with fail
 refine HK0.out _ _ ?_
 clear HK0
 try simp only [Act.put]
 refine wp_seq_k fun K0 hK=>?_
 have HK0:=Lib.hid hK
 clear hK
 go_wp2_with fail
 refine do_make HX.out.1.ok ht17 (HX.out.1.gen t) HX.out.2.2.1 HX.out.2.2.2.1 ?_
 intro x0 x1 x2 x3 x4 x5 x6 x7 x8 x9 x10 W' qm' hbl hk
 rename_i KK hKK
 refine hKK _ _ ?_
 clear hKK HK0
 have q4n:=(hk g4 (Ne.symm HX.out.2.2.2.2.2.2.1)).trans HX.out.2.2.2.2.1
 have q5n:=(hk g5 (blk_ne HX.out.2.2.2.2.2.1 HX.out.2.2.1 (by decide))).trans HX.out.2.2.2.2.2.1
 have hbn:=hbl _ w HX.out.2.2.2.2.2.2.2.2.2.1 HX.out.2.2.2.2.2.2.2.2.1
 exact do_ok7 rfl (HX.out.1.updT rfl rfl (fun B h=>by injection h with h;subst h;exact ⟨rfl,rfl,rfl⟩) rfl st0_ok (nilq_at _ _) lok_nil (Nat.zero_le _)) qm' q4n q5n HX.out.2.2.2.2.2.2.1 hbn HX.out.2.2.2.2.2.2.2.2.2.2.1 HX.out.2.2.2.2.2.2.2.2.2.2.2
set_option maxHeartbeats 6400000 in
set_option maxRecDepth 100000 in
theorem do8_ok {w W:World} {n:Nat} {M:Mdl} {R:RMd} {r:Req} {gm gr g4 g5:Nat} (hm:RMAt w n M R) (hr:r.ok) (qm:Blk W gm 66 (rcells R).toArray) (qr:Blk W gr 39 r.row.toArray) (q4:Blk W g4 66 Tryz.zeroCells66) (q5:Blk W g5 52 zeroA) (hne:gm ≠ g4) (hne2:gr ≠ g4) (hb:Below w.heap.size w W) (hgm:w.heap.size ≤ gm) (h4:w.heap.size ≤ g4) (h5:w.heap.size ≤ g5){t:Nat} (ht:r.tenant=t) (ht1:1 ≤ t) (ht16:t ≤ 16) (hth:(R t).there=true) :
 Code.wp Tryz.prog (part Tryz.f17 [1,1,1,1]) (bodyPost Tryz.prog Tryz.f17 (RDoEnd n (updM M t { ten0 with gen:=(M t).gen },errA 0) w)) ⟨#[Xa,Xb,.pointer (some ⟨gm,0,none⟩),.pointer (some ⟨gr,0,none⟩),.pointer (some ⟨g4,0,none⟩),.pointer (some ⟨g5,0,none⟩),.int .i64 8,Xh,Xi,Xj,Xk,Xl,Xm,Xn,Xo,Xp,Xq,Xr,Xs,Xt,Xu,Xv,Xw,Xx,Xy,Xz,Ya,Yb,Yc,Yd,Ye,Yf,Yg,Yh,Yi,Yj,Yk,Yl,Ym,Yn,Yo,Yp,Yq,Yr,Ys,Yt,Yu,Yv,Yw,Yx,Yy,Yz,Za,Zb,Zc,Zd,Ze,Zf,Zg,Zh,Zi,Zj,Zk,Zl,Zm,Zn,Zo,Zp,Zq,Zr,Zs,Zt,Zu,Zv,Zw,Zx,Zy,Zz,Ja,Jb,Jc,Jd,Je,Jf,Jg,Jh,Ji,Jj,Jk,Jl,Jm,Jn,Jo,Jp,Jq,Jr,Js,Jt,Ju,Jv,Jw,Jy,Jz,Va,Vb,Vc,Vd,Ve,Vf,Vg,Vh,Vi,Vj,Vk,Vl,Vm,Vn,Vo,Vp,Vq,Vr,Vs,Vt,Vu,Vv,Vw,Vx,Vy,Vz,Oa,Ob,Oc,Od,Oe,Og,Oh,Oi,Oj,Ok,Ol,Om,On,Oo,Oq,Ot],[]⟩ W:=by
 conv=>arg 2;whnf
 have HRL:=Lib.hid (rcells_len hm.ok)
 have HX:=Lib.hid (And.intro hm (And.intro hr (And.intro qm (And.intro qr (And.intro q4 (And.intro q5 (And.intro hne (And.intro hne2 (And.intro hb (And.intro hgm (And.intro h4 h5)))))))))))
 obtain ⟨c0,c1,c2,c3,c4,c5,c6,c7,c8,c9,c10,c11⟩:=req_cells qr
 have ht17:t < 17:=by omega
 have i0:(0:Int) ≤ (t:Int):=by omega
 have i1:(t:Int) < 17:=by omega
 have i2:¬ (t:Int) < 1:=by omega
 have i3:¬ 16 < (t:Int):=by omega
 have m0:W.cell? ⟨gm,t * 16,none⟩=some (.bool (R t).there):=rblk (j:=0) qm hm.ok ht17 rfl
 rw [hth] at m0
 rw [ht] at c8
 have m1:W.cell? ⟨gm,t * 16 + 1,none⟩=some (.int .u32 (M t).gen):=by rw [← hm.gen t];exact rblk (j:=1) qm hm.ok ht17 rfl
 clear hm hr qm qr q4 q5 hne hne2 hb hgm h4 h5
 refine wp_seq_k fun K0 hK=>?_
 have HK0:=Lib.hid hK
 clear hK
 go_wp2_with fail
 refine HK0.out _ _ ?_
 clear HK0
 try simp only [Act.put]
 refine wp_seq_k fun K0 hK=>?_
 have HK0:=Lib.hid hK
 clear hK
 go_wp2_with fail
 refine HK0.out _ _ ?_
 clear HK0
 try simp only [Act.put]
 refine wp_seq_k fun K0 hK=>?_
 have HK0:=Lib.hid hK
 clear hK
 go_wp2_with fail
 refine HK0.out _ _ ?_
 clear HK0
 try simp only [Act.put]
 refine wp_seq_k fun K0 hK=>?_
 have HK0:=Lib.hid hK
 clear hK
 go_wp2_with fail
 refine HK0.out _ _ ?_
 clear HK0
 try simp only [Act.put]
 refine wp_seq_k fun K0 hK=>?_
 have HK0:=Lib.hid hK
 clear hK
 go_wp2_with (refine wpList_store_mid rfl 64 (.tmp 121) (.tmp 120) rfl gm (t * 16) (RTen.cells ⟨false,(M t).gen,⟨none,0,[],0,0⟩,st0⟩).toArray rfl rfl (there_mid HX.out.2.2.1 (by rw [show (rcells R).toArray.size=272 by rw [List.size_toArray,HRL.out]];show t * 16 + 16 ≤ 272;omega)) infoRT (by simp [RTen.cells,st0,Value.oneCell']) ?_)
 refine HK0.out _ _ ?_
 clear HK0
 try simp only [Act.put]
 have qm':=ten_set (b:=⟨false,(M t).gen,⟨none,0,[],0,0⟩,st0⟩) HX.out.2.2.1 HX.out.1.ok ht17 st0_ok
 have hk:∀ i,i ≠ gm→(W.setCells gm (t * 16) (RTen.cells ⟨false,(M t).gen,⟨none,0,[],0,0⟩,st0⟩)).heap[i]?=W.heap[i]?:=fun i hi=>(sets_same gm _ (t * 16) W).2.2.2.2 i hi
 have hbl:∀ B w,B ≤ gm→Below B w W→Below B w (W.setCells gm (t * 16) (RTen.cells ⟨false,(M t).gen,⟨none,0,[],0,0⟩,st0⟩)):=fun B w hB hb=>below_sets gm hB _ _ _ hb
 have q4n:=(hk g4 (Ne.symm HX.out.2.2.2.2.2.2.1)).trans HX.out.2.2.2.2.1
 have q5n:=(hk g5 (blk_ne HX.out.2.2.2.2.2.1 HX.out.2.2.1 (by decide))).trans HX.out.2.2.2.2.2.1
 have hbn:=hbl _ w HX.out.2.2.2.2.2.2.2.2.2.1 HX.out.2.2.2.2.2.2.2.2.1
 exact do_ok (K9:=fun _ _=>True) rfl (HX.out.1.updT rfl rfl (fun B h=>by cases h) rfl st0_ok (nilq_at _ _) lok_nil (Nat.zero_le _)) qm' q4n q5n HX.out.2.2.2.2.2.2.1 hbn HX.out.2.2.2.2.2.2.2.2.2.2.1 HX.out.2.2.2.2.2.2.2.2.2.2.2
set_option maxHeartbeats 6400000 in
set_option maxRecDepth 100000 in
theorem do9_ok {w W:World} {n:Nat} {M:Mdl} {R:RMd} {r:Req} {gm gr g4 g5:Nat} (hm:RMAt w n M R) (hr:r.ok) (qm:Blk W gm 66 (rcells R).toArray) (qr:Blk W gr 39 r.row.toArray) (q4:Blk W g4 66 Tryz.zeroCells66) (q5:Blk W g5 52 zeroA) (hne:gm ≠ g4) (hne2:gr ≠ g4) (hb:Below w.heap.size w W) (hgm:w.heap.size ≤ gm) (h4:w.heap.size ≤ g4) (h5:w.heap.size ≤ g5){t:Nat} (ht:r.tenant=t) (ht1:1 ≤ t) (ht16:t ≤ 16) (hth:(R t).there=true) (hg:1 ≤ r.rights∧r.rights ≤ 7) :
 Code.wp Tryz.prog (part Tryz.f17 [1,1,1,1]) (bodyPost Tryz.prog Tryz.f17 (RDoEnd n (M,{ errA 0 with h:=⟨r.tenant,(M t).gen,r.rights⟩ }) w)) ⟨#[Xa,Xb,.pointer (some ⟨gm,0,none⟩),.pointer (some ⟨gr,0,none⟩),.pointer (some ⟨g4,0,none⟩),.pointer (some ⟨g5,0,none⟩),.int .i64 9,Xh,Xi,Xj,Xk,Xl,Xm,Xn,Xo,Xp,Xq,Xr,Xs,Xt,Xu,Xv,Xw,Xx,Xy,Xz,Ya,Yb,Yc,Yd,Ye,Yf,Yg,Yh,Yi,Yj,Yk,Yl,Ym,Yn,Yo,Yp,Yq,Yr,Ys,Yt,Yu,Yv,Yw,Yx,Yy,Yz,Za,Zb,Zc,Zd,Ze,Zf,Zg,Zh,Zi,Zj,Zk,Zl,Zm,Zn,Zo,Zp,Zq,Zr,Zs,Zt,Zu,Zv,Zw,Zx,Zy,Zz,Ja,Jb,Jc,Jd,Je,Jf,Jg,Jh,Ji,Jj,Jk,Jl,Jm,Jn,Jo,Jp,Jq,Jr,Js,Jt,Ju,Jv,Jw,Jy,Jz,Va,Vb,Vc,Vd,Ve,Vf,Vg,Vh,Vi,Vj,Vk,Vl,Vm,Vn,Vo,Vp,Vq,Vr,Vs,Vt,Vu,Vv,Vw,Vx,Vy,Vz,Oa,Ob,Oc,Od,Oe,Og,Oh,Oi,Oj,Ok,Ol,Om,On,Oo,Oq,Ot],[]⟩ W:=by
 conv=>arg 2;whnf
 have HRL:=Lib.hid (rcells_len hm.ok)
 have HX:=Lib.hid (And.intro hm (And.intro hr (And.intro qm (And.intro qr (And.intro q4 (And.intro q5 (And.intro hne (And.intro hne2 (And.intro hb (And.intro hgm (And.intro h4 h5)))))))))))
 obtain ⟨c0,c1,c2,c3,c4,c5,c6,c7,c8,c9,c10,c11⟩:=req_cells qr
 have ht17:t < 17:=by omega
 have i0:(0:Int) ≤ (t:Int):=by omega
 have i1:(t:Int) < 17:=by omega
 have i2:¬ (t:Int) < 1:=by omega
 have i3:¬ 16 < (t:Int):=by omega
 have m0:W.cell? ⟨gm,t * 16,none⟩=some (.bool (R t).there):=rblk (j:=0) qm hm.ok ht17 rfl
 rw [hth] at m0
 rw [ht] at c8
 have m1:W.cell? ⟨gm,t * 16 + 1,none⟩=some (.int .u32 (M t).gen):=by rw [← hm.gen t];exact rblk (j:=1) qm hm.ok ht17 rfl
 have g1:¬ r.rights < 1:=by omega
 have g2:¬ 7 < r.rights:=by omega
 clear hm hr qm qr q4 q5 hne hne2 hb hgm h4 h5
 refine wp_seq_k fun K0 hK=>?_
 have HK0:=Lib.hid hK
 clear hK
 go_wp2_with fail
 refine HK0.out _ _ ?_
 clear HK0
 try simp only [Act.put]
 refine wp_seq_k fun K0 hK=>?_
 have HK0:=Lib.hid hK
 clear hK
 go_wp2_with fail
 refine HK0.out _ _ ?_
 clear HK0
 try simp only [Act.put]
 refine wp_seq_k fun K0 hK=>?_
 have HK0:=Lib.hid hK
 clear hK
 go_wp2_with fail
 refine HK0.out _ _ ?_
 clear HK0
 try simp only [Act.put]
 refine wp_seq_k fun K0 hK=>?_
 have HK0:=Lib.hid hK
 clear hK
 go_wp2_with fail
 refine HK0.out _ _ ?_
 clear HK0
 try simp only [Act.put]
 refine wp_seq_k fun K0 hK=>?_
 have HK0:=Lib.hid hK
 clear hK
 go_wp2_with fail
 refine do_handle ht17 (HX.out.1.gen t) HX.out.2.2.2.1 HX.out.2.2.2.2.2.2.2.1 HX.out.1.ok HX.out.2.2.1 HX.out.2.2.2.2.1 HX.out.2.2.2.2.2.1 zero_size rfl HX.out.2.2.2.2.2.2.1 ?_
 intro x0 x1 x2 x3 x4 x5 x6 x7 x8 x9 W' q4' q5' hl
 go_wp2_with fail
 refine bodyPost_ret (v:=.tuple #[.agg (rcells R).toArray,({ errA 0 with h:=⟨(t:Nat),(M t).gen,r.rights⟩ }:Ans).v none 0]) ?_ rfl ?_
 · exact results_cell2 Tryz.results17 rfl rfl q4' q5' Tryz.underlying66 rfl (by rw [List.size_toArray,HRL.out];exact infoRM) Tryz.underlying52 rfl infoAns
 · exact ⟨R,none,0,rfl,HX.out.1.below (hl _ _ HX.out.2.2.2.2.2.2.2.2.2.2.1 HX.out.2.2.2.2.2.2.2.2.2.2.2 HX.out.2.2.2.2.2.2.2.2.1),nil_at,hl _ _ HX.out.2.2.2.2.2.2.2.2.2.2.1 HX.out.2.2.2.2.2.2.2.2.2.2.2 HX.out.2.2.2.2.2.2.2.2.1⟩
set_option maxHeartbeats 6400000 in
set_option maxRecDepth 100000 in
theorem do10_ok {w W:World} {n:Nat} {M:Mdl} {R:RMd} {r:Req} {gm gr g4 g5:Nat} (hm:RMAt w n M R) (hr:r.ok) (qm:Blk W gm 66 (rcells R).toArray) (qr:Blk W gr 39 r.row.toArray) (q4:Blk W g4 66 Tryz.zeroCells66) (q5:Blk W g5 52 zeroA) (hne:gm ≠ g4) (hne2:gr ≠ g4) (hb:Below w.heap.size w W) (hgm:w.heap.size ≤ gm) (h4:w.heap.size ≤ g4) (h5:w.heap.size ≤ g5){t:Nat} (ht:r.tenant=t) (ht1:1 ≤ t) (ht16:t ≤ 16) (hth:(R t).there=true) :
 Code.wp Tryz.prog (part Tryz.f17 [1,1,1,1]) (bodyPost Tryz.prog Tryz.f17 (RDoEnd n (updM M t { M t with gen:=IntKind.u32.wrap ((M t).gen + 1) },errA 0) w)) ⟨#[Xa,Xb,.pointer (some ⟨gm,0,none⟩),.pointer (some ⟨gr,0,none⟩),.pointer (some ⟨g4,0,none⟩),.pointer (some ⟨g5,0,none⟩),.int .i64 10,Xh,Xi,Xj,Xk,Xl,Xm,Xn,Xo,Xp,Xq,Xr,Xs,Xt,Xu,Xv,Xw,Xx,Xy,Xz,Ya,Yb,Yc,Yd,Ye,Yf,Yg,Yh,Yi,Yj,Yk,Yl,Ym,Yn,Yo,Yp,Yq,Yr,Ys,Yt,Yu,Yv,Yw,Yx,Yy,Yz,Za,Zb,Zc,Zd,Ze,Zf,Zg,Zh,Zi,Zj,Zk,Zl,Zm,Zn,Zo,Zp,Zq,Zr,Zs,Zt,Zu,Zv,Zw,Zx,Zy,Zz,Ja,Jb,Jc,Jd,Je,Jf,Jg,Jh,Ji,Jj,Jk,Jl,Jm,Jn,Jo,Jp,Jq,Jr,Js,Jt,Ju,Jv,Jw,Jy,Jz,Va,Vb,Vc,Vd,Ve,Vf,Vg,Vh,Vi,Vj,Vk,Vl,Vm,Vn,Vo,Vp,Vq,Vr,Vs,Vt,Vu,Vv,Vw,Vx,Vy,Vz,Oa,Ob,Oc,Od,Oe,Og,Oh,Oi,Oj,Ok,Ol,Om,On,Oo,Oq,Ot],[]⟩ W:=by
 conv=>arg 2;whnf
 have HRL:=Lib.hid (rcells_len hm.ok)
 have HX:=Lib.hid (And.intro hm (And.intro hr (And.intro qm (And.intro qr (And.intro q4 (And.intro q5 (And.intro hne (And.intro hne2 (And.intro hb (And.intro hgm (And.intro h4 h5)))))))))))
 obtain ⟨c0,c1,c2,c3,c4,c5,c6,c7,c8,c9,c10,c11⟩:=req_cells qr
 have ht17:t < 17:=by omega
 have i0:(0:Int) ≤ (t:Int):=by omega
 have i1:(t:Int) < 17:=by omega
 have i2:¬ (t:Int) < 1:=by omega
 have i3:¬ 16 < (t:Int):=by omega
 have m0:W.cell? ⟨gm,t * 16,none⟩=some (.bool (R t).there):=rblk (j:=0) qm hm.ok ht17 rfl
 rw [hth] at m0
 rw [ht] at c8
 have m1:W.cell? ⟨gm,t * 16 + 1,none⟩=some (.int .u32 (M t).gen):=by rw [← hm.gen t];exact rblk (j:=1) qm hm.ok ht17 rfl
 have f1:=qm.frozen (t * 16 + 1)
 clear hm hr qm qr q4 q5 hne hne2 hb hgm h4 h5
 refine wp_seq_k fun K0 hK=>?_
 have HK0:=Lib.hid hK
 clear hK
 go_wp2_with fail
 refine HK0.out _ _ ?_
 clear HK0
 try simp only [Act.put]
 refine wp_seq_k fun K0 hK=>?_
 have HK0:=Lib.hid hK
 clear hK
 go_wp2_with fail
 refine HK0.out _ _ ?_
 clear HK0
 try simp only [Act.put]
 refine wp_seq_k fun K0 hK=>?_
 have HK0:=Lib.hid hK
 clear hK
 go_wp2_with fail
 refine HK0.out _ _ ?_
 clear HK0
 try simp only [Act.put]
 refine wp_seq_k fun K0 hK=>?_
 have HK0:=Lib.hid hK
 clear hK
 go_wp2_with fail
 refine HK0.out _ _ ?_
 clear HK0
 try simp only [Act.put]
 refine wp_seq_k fun K0 hK=>?_
 have HK0:=Lib.hid hK
 clear hK
 go_wp2_with fail
 refine HK0.out _ _ ?_
 clear HK0
 try simp only [Act.put]
 have qm':=set_at (t:=t) (j:=1) (b:={ R t with gen:=((M t).gen + 1) % 4294967296 }) (v:=.int .u32 (((M t).gen + 1) % 4294967296)) HX.out.2.2.1 HX.out.1.ok ht17 (by decide) rfl (HX.out.1.ok t)
 have hk:∀ i,i ≠ gm→(W.setCell ⟨gm,t * 16 + 1,none⟩ (.int .u32 (((M t).gen + 1) % 4294967296))).heap[i]?=W.heap[i]?:=fun i hi=>Below.heap_setCell _ _ _ i hi
 have hbl:∀ B w,B ≤ gm→Below B w W→Below B w (W.setCell ⟨gm,t * 16 + 1,none⟩ (.int .u32 (((M t).gen + 1) % 4294967296))):=fun B w hB hb=>hb.setCell (p:=⟨gm,t * 16 + 1,none⟩) hB _
 have q4n:=(hk g4 (Ne.symm HX.out.2.2.2.2.2.2.1)).trans HX.out.2.2.2.2.1
 have q5n:=(hk g5 (blk_ne HX.out.2.2.2.2.2.1 HX.out.2.2.1 (by decide))).trans HX.out.2.2.2.2.2.1
 have hbn:=hbl _ w HX.out.2.2.2.2.2.2.2.2.2.1 HX.out.2.2.2.2.2.2.2.2.1
 exact do_ok (K9:=fun _ _=>True) rfl (HX.out.1.updT (b:={ R t with gen:=((M t).gen + 1) % 4294967296 }) (HX.out.1.there t) (show ((M t).gen + 1) % 4294967296=IntKind.u32.wrap ((M t).gen + 1) from by first | rfl | simp [IntKind.wrap]) (fun B h=>HX.out.1.bk t B h) (HX.out.1.st t) (HX.out.1.ok t) (HX.out.1.at_ t) (HX.out.1.lok t) (HX.out.1.len t)) qm' q4n q5n HX.out.2.2.2.2.2.2.1 hbn HX.out.2.2.2.2.2.2.2.2.2.2.1 HX.out.2.2.2.2.2.2.2.2.2.2.2
theorem infoBkR:(Tryz.prog.info? 62).map (·.size)=some 3:=by kernel_rfl
theorem range_ten {W:World} {g t:Nat} {R:RMd} (h:Blk W g 66 (rcells R).toArray) (hs:∀ t,StOk (R t).st) (ht:t < 17):W.rangeAt g (t * 16) (R t).cells:=fun j v hv=>rblk h hs ht hv
set_option maxHeartbeats 6400000 in
set_option maxRecDepth 100000 in
theorem do6_err {w W:World} {n:Nat} {M:Mdl} {R:RMd} {r:Req} {gm gr g4 g5:Nat} (hm:RMAt w n M R) (hr:r.ok) (qm:Blk W gm 66 (rcells R).toArray) (qr:Blk W gr 39 r.row.toArray) (q4:Blk W g4 66 Tryz.zeroCells66) (q5:Blk W g5 52 zeroA) (hne:gm ≠ g4) (hne2:gr ≠ g4) (hb:Below w.heap.size w W) (hgm:w.heap.size ≤ gm) (h4:w.heap.size ≤ g4) (h5:w.heap.size ≤ g5)(h0:mayM M r ≠ 0) :
 Code.wp Tryz.prog (part Tryz.f17 [1,1,1]) (bodyPost Tryz.prog Tryz.f17 (RDoEnd n (M,errA (mayM M r)) w)) ⟨#[Xa,Xb,.pointer (some ⟨gm,0,none⟩),.pointer (some ⟨gr,0,none⟩),.pointer (some ⟨g4,0,none⟩),.pointer (some ⟨g5,0,none⟩),.int .i64 6,Xh,Xi,Xj,Xk,Xl,Xm,Xn,Xo,Xp,Xq,Xr,Xs,Xt,Xu,Xv,Xw,Xx,Xy,Xz,Ya,Yb,Yc,Yd,Ye,Yf,Yg,Yh,Yi,Yj,Yk,Yl,Ym,Yn,Yo,Yp,Yq,Yr,Ys,Yt,Yu,Yv,Yw,Yx,Yy,Yz,Za,Zb,Zc,Zd,Ze,Zf,Zg,Zh,Zi,Zj,Zk,Zl,Zm,Zn,Zo,Zp,Zq,Zr,Zs,Zt,Zu,Zv,Zw,Zx,Zy,Zz,Ja,Jb,Jc,Jd,Je,Jf,Jg,Jh,Ji,Jj,Jk,Jl,Jm,Jn,Jo,Jp,Jq,Jr,Js,Jt,Ju,Jv,Jw,Jy,Jz,Va,Vb,Vc,Vd,Ve,Vf,Vg,Vh,Vi,Vj,Vk,Vl,Vm,Vn,Vo,Vp,Vq,Vr,Vs,Vt,Vu,Vv,Vw,Vx,Vy,Vz,Oa,Ob,Oc,Od,Oe,Og,Oh,Oi,Oj,Ok,Ol,Om,On,Oo,Oq,Ot],[]⟩ W:=by
 conv=>arg 2;whnf
 have HRL:=Lib.hid (rcells_len hm.ok)
 have HX:=Lib.hid (And.intro hm (And.intro hr (And.intro qm (And.intro qr (And.intro q4 (And.intro q5 (And.intro hne (And.intro hne2 (And.intro hb (And.intro hgm (And.intro h4 h5)))))))))))
 have HMY:=Lib.hid (mayR_any (hm.below hb) r hr)
 obtain ⟨c0,c1,c2,c3,c4,c5,c6,c7,c8,c9,c10,c11⟩:=req_cells qr
 generalize hmm:mayM M r=mm at HMY h0 ⊢
 clear hmm
 clear hm hr qm qr q4 q5 hne hne2 hb hgm h4 h5
 refine wp_seq_k fun K0 hK=>?_
 have HK0:=Lib.hid hK
 clear hK
 go_wp2_with (first | (refine wpList_load_mid rfl 66 (.tmp 2) rfl gm 0 rfl _ _ (range_blk HX.out.2.2.1) Tryz.underlying66 rfl (by rw [HRL.out];exact infoRM) ?_))
 refine HMY.out.mono ?_
 rintro e W2 ⟨rfl,hb2⟩
 have HY:=Lib.hid (And.intro (HX.out.2.2.1.below hb2 HX.out.2.2.1.lt) (And.intro (HX.out.2.2.2.2.1.below hb2 HX.out.2.2.2.2.1.lt) (And.intro (HX.out.2.2.2.2.2.1.below hb2 HX.out.2.2.2.2.2.1.lt) (below_trans HX.out.2.2.2.2.2.2.2.2.1 hb2))))
 clear hb2 c0 c1 c2 c3 c4 c5 c6 c7 c8 c9 c10 c11
 go_wp2_with fail
 refine do_err HX.out.1.ok HY.out.1 HY.out.2.1 HY.out.2.2.1 zero_size rfl HX.out.2.2.2.2.2.2.1 ?_
 intro x0 x1 x2 W' q4' q5' hl
 go_wp2_with fail
 refine bodyPost_ret (v:=.tuple #[.agg (rcells R).toArray,(errA mm).v none 0]) ?_ rfl ?_
 · exact results_cell2 Tryz.results17 rfl rfl q4' q5' Tryz.underlying66 rfl (by rw [List.size_toArray,HRL.out];exact infoRM) Tryz.underlying52 rfl infoAns
 · exact ⟨R,none,0,rfl,HX.out.1.below (hl _ _ HX.out.2.2.2.2.2.2.2.2.2.2.1 HX.out.2.2.2.2.2.2.2.2.2.2.2 HY.out.2.2.2),nil_at,hl _ _ HX.out.2.2.2.2.2.2.2.2.2.2.1 HX.out.2.2.2.2.2.2.2.2.2.2.2 HY.out.2.2.2⟩
set_option maxHeartbeats 6400000 in
set_option maxRecDepth 100000 in
theorem do6_ok {w W:World} {n:Nat} {M:Mdl} {R:RMd} {r:Req} {gm gr g4 g5:Nat} (hm:RMAt w n M R) (hr:r.ok) (qm:Blk W gm 66 (rcells R).toArray) (qr:Blk W gr 39 r.row.toArray) (q4:Blk W g4 66 Tryz.zeroCells66) (q5:Blk W g5 52 zeroA) (hne:gm ≠ g4) (hne2:gr ≠ g4) (hb:Below w.heap.size w W) (hgm:w.heap.size ≤ gm) (h4:w.heap.size ≤ g4) (h5:w.heap.size ≤ g5){t:Nat} {B:Bk} (h0:mayM M r=0) (ht:r.ten=t) (ht16:t ≤ 16) (hB:(M t).bk=some B) :
 Code.wp Tryz.prog (part Tryz.f17 [1,1,1]) (bodyPost Tryz.prog Tryz.f17 (RDoEnd n (M,{ errA 0 with st:=withN (M t).st (B.l.length:Nat) (sizeL B.l:Nat) }) w)) ⟨#[Xa,Xb,.pointer (some ⟨gm,0,none⟩),.pointer (some ⟨gr,0,none⟩),.pointer (some ⟨g4,0,none⟩),.pointer (some ⟨g5,0,none⟩),.int .i64 6,Xh,Xi,Xj,Xk,Xl,Xm,Xn,Xo,Xp,Xq,Xr,Xs,Xt,Xu,Xv,Xw,Xx,Xy,Xz,Ya,Yb,Yc,Yd,Ye,Yf,Yg,Yh,Yi,Yj,Yk,Yl,Ym,Yn,Yo,Yp,Yq,Yr,Ys,Yt,Yu,Yv,Yw,Yx,Yy,Yz,Za,Zb,Zc,Zd,Ze,Zf,Zg,Zh,Zi,Zj,Zk,Zl,Zm,Zn,Zo,Zp,Zq,Zr,Zs,Zt,Zu,Zv,Zw,Zx,Zy,Zz,Ja,Jb,Jc,Jd,Je,Jf,Jg,Jh,Ji,Jj,Jk,Jl,Jm,Jn,Jo,Jp,Jq,Jr,Js,Jt,Ju,Jv,Jw,Jy,Jz,Va,Vb,Vc,Vd,Ve,Vf,Vg,Vh,Vi,Vj,Vk,Vl,Vm,Vn,Vo,Vp,Vq,Vr,Vs,Vt,Vu,Vv,Vw,Vx,Vy,Vz,Oa,Ob,Oc,Od,Oe,Og,Oh,Oi,Oj,Ok,Ol,Om,On,Oo,Oq,Ot],[]⟩ W:=by
 conv=>arg 2;whnf
 have HRL:=Lib.hid (rcells_len hm.ok)
 have HX:=Lib.hid (And.intro hm (And.intro hr (And.intro qm (And.intro qr (And.intro q4 (And.intro q5 (And.intro hne (And.intro hne2 (And.intro hb (And.intro hgm (And.intro h4 h5)))))))))))
 have HMY:=Lib.hid (mayR_any (hm.below hb) r hr)
 obtain ⟨c0,c1,c2,c3,c4,c5,c6,c7,c8,c9,c10,c11⟩:=req_cells qr
 rw [h0] at HMY
 obtain ⟨n0,n1,n2,n3,n4,n5,n6,n7,n8,n9,fa,fb,hst⟩:=stOk_list (hm.ok t)
 have ht17:t < 17:=by omega
 have i0:(0:Int) ≤ (t:Int):=by omega
 have i1:(t:Int) < 17:=by omega
 obtain ⟨hb1,hb2,hb3⟩:=hm.bk t B hB
 have hcs:(R t).cells=[.bool (R t).there,.int .u32 (R t).gen,.slice (R t).bk.A (R t).bk.l.length (R t).bk.c,.int .u64 (R t).bk.qk,.int .u64 (R t).bk.qb] ++ [.int .u64 n0,.int .u64 n1,.int .u64 n2,.int .u64 n3,.int .u64 n4,.int .u64 n5,.int .u64 n6,.int .u64 n7,.int .u64 n8,.int .u64 n9,.complex .f64 fa fb]:=by
  unfold RTen.cells
  rw [hst]
 have HN:Hid (withN (M t).st (B.l.length:Nat) (sizeL B.l:Nat)=[.int .u64 ((R t).bk.l.length:Nat),.int .u64 (sizeL (R t).bk.l:Nat),.int .u64 n2,.int .u64 n3,.int .u64 n4,.int .u64 n5,.int .u64 n6,.int .u64 n7,.int .u64 n8,.int .u64 n9,.complex .f64 fa fb]):=Lib.hid (by rw [← hm.st t,hst,hb1];rfl)
 have HK:=Lib.hid (fun (V:World)=>keys_any (R t).bk V (hm.lok t))
 have HBY:=Lib.hid (fun (V:World) (h:(R t).bk.at_ V)=>bytes_any (R t).bk V h (hm.lok t))
 have HRG:=Lib.hid (fun (V:World) (h:Blk V gm 66 (rcells R).toArray)=>range_ten h hm.ok ht17)
 rw [hcs] at HRG
 have HAT:=Lib.hid (hm.at_ t)
 unfold RBk.v at HK HBY
 generalize (R t).bk=b at HN HK HBY HRG HAT
 generalize (R t).there=thr at HRG
 generalize (R t).gen=gnr at HRG
 have HT:=Lib.hid ht
 clear hst hb1 hb2 hb3 hcs h0 hB ht
 clear hm hr qm qr q4 q5 hne hne2 hb hgm h4 h5
 refine wp_seq_k fun K0 hK=>?_
 have HK0:=Lib.hid hK
 clear hK
 go_wp2_with (first | (refine wpList_load_mid rfl 66 (.tmp 2) rfl gm 0 rfl _ _ (range_blk HX.out.2.2.1) Tryz.underlying66 rfl (by rw [HRL.out];exact infoRM) ?_))
 refine HMY.out.mono ?_
 rintro e W2 ⟨rfl,hb2⟩
 have HY:=Lib.hid (And.intro (HX.out.2.2.1.below hb2 HX.out.2.2.1.lt) (And.intro (HX.out.2.2.2.2.1.below hb2 HX.out.2.2.2.2.1.lt) (And.intro (HX.out.2.2.2.2.2.1.below hb2 HX.out.2.2.2.2.2.1.lt) (And.intro (below_trans HX.out.2.2.2.2.2.2.2.2.1 hb2) (HX.out.2.2.2.1.below hb2 HX.out.2.2.2.1.lt)))))
 clear hb2 c0 c1 c2 c3 c4 c5 c6 c7 c8 c9 c10 c11 HMY
 obtain ⟨c0,c1,c2,c3,c4,c5,c6,c7,c8,c9,c10,c11⟩:=req_cells HY.out.2.2.2.2
 rw [HT.out] at c1
 clear c0 c2 c3 c4 c5 c6 c7 c8 c9 c10 c11
 have HB3:Hid (∀ V:World,Blk V W2.heap.size 64 ([.bool thr,.int .u32 gnr,.slice b.A b.l.length b.c,.int .u64 b.qk,.int .u64 b.qb] ++ [.int .u64 n0,.int .u64 n1,.int .u64 n2,.int .u64 n3,.int .u64 n4,.int .u64 n5,.int .u64 n6,.int .u64 n7,.int .u64 n8,.int .u64 n9,.complex .f64 fa fb]:List Value).toArray→V.rangeAt W2.heap.size 2 [.slice b.A b.l.length b.c,.int .u64 b.qk,.int .u64 b.qb]):=Lib.hid (fun V h j v hv=>by
  rw [h.cell]
  match j,hv with
  | 0,hv=>exact hv
  | 1,hv=>exact hv
  | 2,hv=>exact hv)
 go_wp2_with (first
  | (refine wpList_load_mid rfl 64 (.tmp 37) rfl gm (t * 16) rfl ([.bool thr,.int .u32 gnr,.slice b.A b.l.length b.c,.int .u64 b.qk,.int .u64 b.qb] ++ [.int .u64 n0,.int .u64 n1,.int .u64 n2,.int .u64 n3,.int .u64 n4,.int .u64 n5,.int .u64 n6,.int .u64 n7,.int .u64 n8,.int .u64 n9,.complex .f64 fa fb]:List Value) _ (HRG.out W2 HY.out.1) Tryz.underlying64 rfl (by simp only [List.length_append,List.length_cons,List.length_nil];exact infoRT) ?_)
  | (refine wpList_store_abs rfl 64 (.tmp 8) (.tmp 38) rfl W2.heap.size _ ([.bool thr,.int .u32 gnr,.slice b.A b.l.length b.c,.int .u64 b.qk,.int .u64 b.qb] ++ [.int .u64 n0,.int .u64 n1,.int .u64 n2,.int .u64 n3,.int .u64 n4,.int .u64 n5,.int .u64 n6,.int .u64 n7,.int .u64 n8,.int .u64 n9,.complex .f64 fa fb]:List Value).toArray rfl rfl (Blk.new W2 _ _) rfl (by simp only [List.size_toArray,List.length_append,List.length_cons,List.length_nil];exact infoRT) (by simp [Value.oneCell']) ?_
     intro V3 hv3 hs3 hl3)
  | (refine wpList_load_mid rfl 50 (.tmp 39) rfl W2.heap.size 5 rfl [.int .u64 n0,.int .u64 n1,.int .u64 n2,.int .u64 n3,.int .u64 n4,.int .u64 n5,.int .u64 n6,.int .u64 n7,.int .u64 n8,.int .u64 n9,.complex .f64 fa fb] _ (fun j v hv=>by rw [Blk.cell hv3];rw [List.getElem?_toArray,List.getElem?_append_right (by simp)];simpa using hv) Tryz.underlying50 rfl infoStR ?_)
  | (refine wpList_store_abs rfl 50 (.tmp 9) (.tmp 40) rfl V3.heap.size _ ([.int .u64 n0,.int .u64 n1,.int .u64 n2,.int .u64 n3,.int .u64 n4,.int .u64 n5,.int .u64 n6,.int .u64 n7,.int .u64 n8,.int .u64 n9,.complex .f64 fa fb]:List Value).toArray rfl rfl (Blk.new V3 _ _) rfl infoStR (by simp [Value.oneCell']) ?_
     intro V5 hv5 hs5 hl5)
  | (refine wpList_load_mid rfl 62 (.tmp 41) rfl W2.heap.size 2 rfl [.slice b.A b.l.length b.c,.int .u64 b.qk,.int .u64 b.qb] _ (HB3.out _ ((hs5 _ (Nat.ne_of_lt hv3.lt)).trans (hv3.alloc _))) Tryz.underlying62 rfl infoBkR ?_))
 have g3:W2.heap.size < V3.heap.size:=hv3.lt
 have hbx3:Below W2.heap.size W2 V3:=hl3 _ W2 (Nat.le_refl _) (below_box _ _)
 have hbx5:Below V3.heap.size V3 V5:=hl5 _ V3 (Nat.le_refl _) (below_box _ _)
 have hb5:=below_trans (below_trans HY.out.2.2.2.1 hbx3) hbx5
 have HV:=Lib.hid (And.intro (((HY.out.1.below hbx3 HY.out.1.lt)).below hbx5 (HY.out.1.below hbx3 HY.out.1.lt).lt) (And.intro (((HY.out.2.1.below hbx3 HY.out.2.1.lt)).below hbx5 (HY.out.2.1.below hbx3 HY.out.2.1.lt).lt) (And.intro (((HY.out.2.2.1.below hbx3 HY.out.2.2.1.lt)).below hbx5 (HY.out.2.2.1.below hbx3 HY.out.2.2.1.lt).lt) (And.intro hb5 (And.intro (show Blk V5 W2.heap.size _ _ from (hs5 _ (Nat.ne_of_lt hv3.lt)).trans (hv3.alloc _)) (And.intro hv5 (Nat.ne_of_lt g3)))))))
 have HG9:=Lib.hid (show w.heap.size ≤ V3.heap.size from Nat.le_trans HY.out.2.2.2.1.size (Nat.le_of_lt g3))
 clear hbx3 hbx5 hb5 hv3 hs3 hl3 hs5 hl5 g3
 have HATT:=Lib.hid (fun (V:World) (h:Below w.heap.size w V)=>HAT.out.below h)
 refine (HK.out _).mono ?_
 rintro e V6 ⟨rfl,hb6⟩
 have q9:=hv5.below hb6 hv5.lt
 have HV6:=Lib.hid (And.intro (HV.out.1.below hb6 HV.out.1.lt) (And.intro (HV.out.2.1.below hb6 HV.out.2.1.lt) (And.intro (HV.out.2.2.1.below hb6 HV.out.2.2.1.lt) (And.intro (below_trans HV.out.2.2.2.1 hb6) (And.intro (HV.out.2.2.2.2.1.below hb6 HV.out.2.2.2.2.1.lt) q9)))))
 have HNE:=Lib.hid HV.out.2.2.2.2.2.2
 clear hb6 hv5 HV
 have e0:V6.cell? ⟨V3.heap.size,0,none⟩=some (.int .u64 n0):=q9.cell 0
 have f0:=q9.frozen 0
 clear q9
 generalize hK9:V3.heap.size=g9 at *
 generalize W2.heap.size=g8 at *
 clear hK9
 go_wp2_with (first
  | (refine wpList_load_mid rfl 62 (.tmp 45) rfl g8 2 rfl [.slice b.A b.l.length b.c,.int .u64 b.qk,.int .u64 b.qb] _ (HB3.out _ ((Below.heap_setCell _ _ _ g8 HNE.out).trans HV6.out.2.2.2.2.1)) Tryz.underlying62 rfl infoBkR ?_))
 have hbs:Below w.heap.size w (V6.setCell ⟨g9,0,none⟩ (.int .u64 (b.l.length:Nat))):=HV6.out.2.2.2.1.setCell (p:=⟨g9,0,none⟩) HG9.out _
 have HV7:=Lib.hid (And.intro (show Blk (V6.setCell ⟨g9,0,none⟩ (.int .u64 (b.l.length:Nat))) gm 66 _ from (Below.heap_setCell _ _ _ gm (blk_ne HV6.out.1 HV6.out.2.2.2.2.2 (by decide))).trans HV6.out.1) (And.intro (show Blk (V6.setCell ⟨g9,0,none⟩ (.int .u64 (b.l.length:Nat))) g4 66 _ from (Below.heap_setCell _ _ _ g4 (blk_ne HV6.out.2.1 HV6.out.2.2.2.2.2 (by decide))).trans HV6.out.2.1) (And.intro (show Blk (V6.setCell ⟨g9,0,none⟩ (.int .u64 (b.l.length:Nat))) g5 52 _ from (Below.heap_setCell _ _ _ g5 (blk_ne HV6.out.2.2.1 HV6.out.2.2.2.2.2 (by decide))).trans HV6.out.2.2.1) (And.intro hbs (HV6.out.2.2.2.2.2.set_ 0 (.int .u64 (b.l.length:Nat)))))))
 clear hbs e0 f0 HV6
 generalize V6.setCell ⟨g9,0,none⟩ (.int .u64 (b.l.length:Nat))=V7 at *
 refine (HBY.out _ (HATT.out _ HV7.out.2.2.2.1)).mono ?_
 rintro e V8 ⟨rfl,hb8⟩
 have q9:=HV7.out.2.2.2.2.below hb8 HV7.out.2.2.2.2.lt
 have HV8:=Lib.hid (And.intro (HV7.out.1.below hb8 HV7.out.1.lt) (And.intro (HV7.out.2.1.below hb8 HV7.out.2.1.lt) (And.intro (HV7.out.2.2.1.below hb8 HV7.out.2.2.1.lt) (And.intro (below_trans HV7.out.2.2.2.1 hb8) q9))))
 clear hb8 HV7
 have e1:V8.cell? ⟨g9,1,none⟩=some (.int .u64 n1):=q9.cell 1
 have f1:=q9.frozen 1
 clear q9
 go_wp2_with fail
 have hbs:Below w.heap.size w (V8.setCell ⟨g9,1,none⟩ (.int .u64 (sizeL b.l:Nat))):=HV8.out.2.2.2.1.setCell (p:=⟨g9,1,none⟩) HG9.out _
 refine do_stat (n0:=(b.l.length:Nat)) (n1:=(sizeL b.l:Nat)) (show Blk (V8.setCell ⟨g9,1,none⟩ (.int .u64 (sizeL b.l:Nat))) g9 50 _ from HV8.out.2.2.2.2.set_ 1 (.int .u64 (sizeL b.l:Nat))) HX.out.1.ok ((Below.heap_setCell _ _ _ gm (blk_ne HV8.out.1 HV8.out.2.2.2.2 (by decide))).trans HV8.out.1) ((Below.heap_setCell _ _ _ g4 (blk_ne HV8.out.2.1 HV8.out.2.2.2.2 (by decide))).trans HV8.out.2.1) ((Below.heap_setCell _ _ _ g5 (blk_ne HV8.out.2.2.1 HV8.out.2.2.2.2 (by decide))).trans HV8.out.2.2.1) zero_size rfl HX.out.2.2.2.2.2.2.1 ?_
 intro x0 x1 x2 W' q4' q5' hl
 go_wp2_with fail
 refine bodyPost_ret (v:=.tuple #[.agg (rcells R).toArray,({ errA 0 with st:=withN (M t).st (B.l.length:Nat) (sizeL B.l:Nat) }:Ans).v none 0]) ?_ rfl ?_
 · rw [HN.out]
   exact results_cell2 Tryz.results17 rfl rfl q4' q5' Tryz.underlying66 rfl (by rw [List.size_toArray,HRL.out];exact infoRM) Tryz.underlying52 rfl infoAns
 · exact ⟨R,none,0,rfl,HX.out.1.below (hl _ _ HX.out.2.2.2.2.2.2.2.2.2.2.1 HX.out.2.2.2.2.2.2.2.2.2.2.2 hbs),nil_at,hl _ _ HX.out.2.2.2.2.2.2.2.2.2.2.1 HX.out.2.2.2.2.2.2.2.2.2.2.2 hbs⟩
theorem rm_keep {W W':World} {n g4 g5:Nat} {M:Mdl} {R:RMd} (hm:RMAt W n M R) (q4:Blk W g4 66 Tryz.zeroCells66) (q5:Blk W g5 52 zeroA) (hk:∀ i,i ≠ g4→i ≠ g5→W'.heap[i]?=W.heap[i]?) (hs:W.heap.size ≤ W'.heap.size) :
 RMAt W' n M R∧∀ b:RBk,b.at_ W→b.at_ W':=by
 have hkp:∀ b:RBk,b.at_ W→b.at_ W':=fun b hbk=>hbk.keep hs fun ad h0 hA=>hk _ (hbk.ne2 q4 (noStr_spec zero_noStr) ad h0 hA) (hbk.ne2 q5 zeroA_one ad h0 hA)
 exact ⟨⟨hm.there,hm.gen,hm.bk,hm.st,hm.ok,fun t=>hkp _ (hm.at_ t),hm.lok,hm.len⟩,hkp⟩
theorem ans_ok (M:Mdl) (r:Req):(operateN M r).2.st=st0:=by
 unfold operateN
 split
 · rfl
 · split
   · split
     · rfl
     · repeat' (first | rfl | split)
   · rfl
set_option maxHeartbeats 3200000 in
set_option maxRecDepth 100000 in
theorem do_op {w W:World} {n:Nat} {M:Mdl} {R:RMd} {r:Req} {gm gr g4 g5:Nat} (hm:RMAt w n M R) (hr:r.ok) (qm:Blk W gm 66 (rcells R).toArray) (qr:Blk W gr 39 r.row.toArray) (q4:Blk W g4 66 Tryz.zeroCells66) (q5:Blk W g5 52 zeroA) (hne:gm ≠ g4) (hne2:gr ≠ g4) (hb:Below w.heap.size w W) (hgm:w.heap.size ≤ gm) (h4:w.heap.size ≤ g4) (h5:w.heap.size ≤ g5) (hn:n ≤ 999) (hd:1 ≤ r.deed∧r.deed ≤ 5) :
 Code.wp Tryz.prog (part Tryz.f17 [1,1]) (bodyPost Tryz.prog Tryz.f17 (RDoEnd (n + 1) (operateN M r) w)) ⟨#[Xa,Xb,.pointer (some ⟨gm,0,none⟩),.pointer (some ⟨gr,0,none⟩),.pointer (some ⟨g4,0,none⟩),.pointer (some ⟨g5,0,none⟩),.int .i64 r.deed,Xh,Xi,Xj,Xk,Xl,Xm,Xn,Xo,Xp,Xq,Xr,Xs,Xt,Xu,Xv,Xw,Xx,Xy,Xz,Ya,Yb,Yc,Yd,Ye,Yf,Yg,Yh,Yi,Yj,Yk,Yl,Ym,Yn,Yo,Yp,Yq,Yr,Ys,Yt,Yu,Yv,Yw,Yx,Yy,Yz,Za,Zb,Zc,Zd,Ze,Zf,Zg,Zh,Zi,Zj,Zk,Zl,Zm,Zn,Zo,Zp,Zq,Zr,Zs,Zt,Zu,Zv,Zw,Zx,Zy,Zz,Ja,Jb,Jc,Jd,Je,Jf,Jg,Jh,Ji,Jj,Jk,Jl,Jm,Jn,Jo,Jp,Jq,Jr,Js,Jt,Ju,Jv,Jw,Jy,Jz,Va,Vb,Vc,Vd,Ve,Vf,Vg,Vh,Vi,Vj,Vk,Vl,Vm,Vn,Vo,Vp,Vq,Vr,Vs,Vt,Vu,Vv,Vw,Vx,Vy,Vz,Oa,Ob,Oc,Od,Oe,Og,Oh,Oi,Oj,Ok,Ol,Om,On,Oo,Oq,Ot],[]⟩ W:=by
 conv=>arg 2;whnf
 have HRL:=Lib.hid (rcells_len hm.ok)
 have HX:=Lib.hid (And.intro hm (And.intro hr (And.intro qm (And.intro qr (And.intro q4 (And.intro q5 (And.intro hne (And.intro hne2 (And.intro hb (And.intro hgm (And.intro h4 h5)))))))))))
 have HOP:=Lib.hid (operateR_any (hm.below hb) hn r hr hd)
 have HST:=Lib.hid (ans_ok M r)
 obtain ⟨d1,d2⟩:=hd
 obtain ⟨c0,c1,c2,c3,c4,c5,c6,c7,c8,c9,c10,c11⟩:=req_cells qr
 generalize operateN M r=X at HOP HST ⊢
 clear hm hr qm qr q4 q5 hne hne2 hb hgm h4 h5
 refine wp_seq_k fun K0 hK=>?_
 have HK0:=Lib.hid hK
 clear hK
 go_wp2_with (first
  | (refine wpList_load_mid rfl 66 (.tmp 2) rfl gm 0 rfl _ _ (range_blk HX.out.2.2.1) Tryz.underlying66 rfl (by rw [HRL.out];exact infoRM) ?_))
 refine HOP.out.mono ?_
 rintro e W2 ⟨R',A,c,rfl,hm2,hat2,hb2⟩
 have HRL2:=Lib.hid (rcells_len hm2.ok)
 have HRO2:=Lib.hid (rcells_one hm2.ok)
 have hal:(X.2.cells A c).toArray.size=17:=by
  rw [List.size_toArray]
  unfold Ans.cells
  rw [HST.out]
  rfl
 have hao:(X.2.cells A c).toArray.all (·.oneCell')=true:=all_oneCell_toArray fun v hv=>by
  unfold Ans.cells at hv
  rw [HST.out,List.mem_append] at hv
  rcases hv with hv | hv
  · simp at hv
    rcases hv with rfl | rfl | rfl | rfl | rfl | rfl <;> rfl
  · exact st0_ok.one v hv
 have HAL:=Lib.hid (And.intro hal hao)
 have HY:=Lib.hid (And.intro hm2 (And.intro hat2 (And.intro (HX.out.2.2.2.2.1.below hb2 HX.out.2.2.2.2.1.lt) (And.intro (HX.out.2.2.2.2.2.1.below hb2 HX.out.2.2.2.2.2.1.lt) (below_trans HX.out.2.2.2.2.2.2.2.2.1 hb2)))))
 clear hal hao hm2 hat2 hb2 c0 c1 c2 c3 c4 c5 c6 c7 c8 c9 c10 c11
 unfold Ans.v
 go_wp2_with (first
  | (refine wpList_store_abs rfl 66 (.tmp 4) (.tmp 22) rfl g4 Tryz.zeroCells66 (rcells R').toArray rfl rfl HY.out.2.2.1 (by rw [zero_size,List.size_toArray,HRL2.out]) (by rw [List.size_toArray,HRL2.out];exact infoRM) HRO2.out ?_
     intro V2 hv4 hs4 hl4)
  | (refine wpList_store_abs rfl 52 (.tmp 5) (.tmp 23) rfl g5 zeroA (X.2.cells A c).toArray rfl rfl ((hs4 g5 (blk_ne HY.out.2.2.2.1 HY.out.2.2.1 (by decide))).trans HY.out.2.2.2.1) (by rw [HAL.out.1];rfl) (by rw [HAL.out.1];exact infoAns) HAL.out.2 ?_
     intro V3 hv5 hs5 hl5))
 have hv43:=(hs5 g4 (blk_ne HY.out.2.2.1 HY.out.2.2.2.1 (by decide))).trans hv4
 have hbe:=hl5 _ w HX.out.2.2.2.2.2.2.2.2.2.2.2 (hl4 _ w HX.out.2.2.2.2.2.2.2.2.2.2.1 HY.out.2.2.2.2)
 have hk:∀ i,i ≠ g4→i ≠ g5→V3.heap[i]?=W2.heap[i]?:=fun i h4 h5=>(hs5 i h5).trans (hs4 i h4)
 have hsz:W2.heap.size ≤ V3.heap.size:=(hl5 0 W2 (Nat.zero_le _) (hl4 0 W2 (Nat.zero_le _) (by constructor <;> first | rfl | exact Nat.le_refl _ | (intro i hi;rfl)))).size
 obtain ⟨k1,k2⟩:=rm_keep HY.out.1 HY.out.2.2.1 HY.out.2.2.2.1 hk hsz
 refine bodyPost_ret (v:=.tuple #[.agg (rcells R').toArray,X.2.v A c]) ?_ rfl ?_
 · exact results_cell2 Tryz.results17 rfl rfl hv43 hv5 Tryz.underlying66 rfl (by rw [List.size_toArray,HRL2.out];exact infoRM) Tryz.underlying52 rfl (by rw [HAL.out.1];exact infoAns)
 · exact ⟨R',A,c,rfl,k1,k2 _ HY.out.2.1,hbe⟩
set_option maxHeartbeats 6400000 in
set_option maxRecDepth 100000 in
theorem DoR_any {w:World} {n:Nat} {M:Mdl} {R:RMd} (hm:RMAt w n M R) (hn:n ≤ 999) (r:Req) (hr:r.ok):Calls Tryz.prog 17 #[.agg (rcells R).toArray,r.v] w (RDoEnd (n + 1) (doN M r) w):=by
 have hb0:Below w.heap.size w ((((w.alloc (.cells (rcells R).toArray 66)).alloc (.cells #[.int .i64 r.deed,.int .i64 r.ten,.int .u32 r.gen,.int .u8 r.rig,.string r.key,.string r.val,.string r.old,.int .i64 r.lim,.int .i64 r.tenant,.int .u64 r.qk,.int .u64 r.qb,.int .u8 r.rights] 39)).alloc (.cells Tryz.zeroCells66 66)).alloc (.cells zeroA 52)):=below_alloc (below_alloc (below_alloc (below_box w (.cells (rcells R).toArray 66)) (.cells #[.int .i64 r.deed,.int .i64 r.ten,.int .u32 r.gen,.int .u8 r.rig,.string r.key,.string r.val,.string r.old,.int .i64 r.lim,.int .i64 r.tenant,.int .u64 r.qk,.int .u64 r.qb,.int .u8 r.rights] 39)) (.cells Tryz.zeroCells66 66)) (.cells zeroA 52)
 have qm:Blk ((((w.alloc (.cells (rcells R).toArray 66)).alloc (.cells #[.int .i64 r.deed,.int .i64 r.ten,.int .u32 r.gen,.int .u8 r.rig,.string r.key,.string r.val,.string r.old,.int .i64 r.lim,.int .i64 r.tenant,.int .u64 r.qk,.int .u64 r.qb,.int .u8 r.rights] 39)).alloc (.cells Tryz.zeroCells66 66)).alloc (.cells zeroA 52)) w.heap.size 66 (rcells R).toArray:=(((Blk.new w _ _).alloc _).alloc _).alloc _
 have qr:Blk ((((w.alloc (.cells (rcells R).toArray 66)).alloc (.cells #[.int .i64 r.deed,.int .i64 r.ten,.int .u32 r.gen,.int .u8 r.rig,.string r.key,.string r.val,.string r.old,.int .i64 r.lim,.int .i64 r.tenant,.int .u64 r.qk,.int .u64 r.qb,.int .u8 r.rights] 39)).alloc (.cells Tryz.zeroCells66 66)).alloc (.cells zeroA 52)) (w.heap.size + 1) 39 r.row.toArray:=((Blk.alloc (blk_at (by simp [Req.row])) _).alloc _)
 have q4:Blk ((((w.alloc (.cells (rcells R).toArray 66)).alloc (.cells #[.int .i64 r.deed,.int .i64 r.ten,.int .u32 r.gen,.int .u8 r.rig,.string r.key,.string r.val,.string r.old,.int .i64 r.lim,.int .i64 r.tenant,.int .u64 r.qk,.int .u64 r.qb,.int .u8 r.rights] 39)).alloc (.cells Tryz.zeroCells66 66)).alloc (.cells zeroA 52)) (w.heap.size + 1 + 1) 66 Tryz.zeroCells66:=(Blk.alloc (blk_at (by simp)) _)
 have q5:Blk ((((w.alloc (.cells (rcells R).toArray 66)).alloc (.cells #[.int .i64 r.deed,.int .i64 r.ten,.int .u32 r.gen,.int .u8 r.rig,.string r.key,.string r.val,.string r.old,.int .i64 r.lim,.int .i64 r.tenant,.int .u64 r.qk,.int .u64 r.qb,.int .u8 r.rights] 39)).alloc (.cells Tryz.zeroCells66 66)).alloc (.cells zeroA 52)) (w.heap.size + 1 + 1 + 1) 52 zeroA:=blk_at (by simp)
 have HQ:=Lib.hid (And.intro qm (And.intro qr (And.intro q4 (And.intro q5 hb0))))
 have HM:=Lib.hid hm
 have HP:=Lib.hid (And.intro hn hr)
 clear qm qr q4 q5 hb0 hm hn hr
 go_enter Tryz.func17,Tryz.ntmps17
 refine wp_seq_k fun K0 hK=>?_
 have HK0:=Lib.hid hK
 clear hK
 go_wp2_with fail
 refine HK0.out _ _ ?_
 clear HK0
 try simp only [Act.put]
 generalize hwa:(((w.alloc (.cells (rcells R).toArray 66)).alloc (.cells #[.int .i64 r.deed,.int .i64 r.ten,.int .u32 r.gen,.int .u8 r.rig,.string r.key,.string r.val,.string r.old,.int .i64 r.lim,.int .i64 r.tenant,.int .u64 r.qk,.int .u64 r.qb,.int .u8 r.rights] 39)).alloc (.cells Tryz.zeroCells66 66)).alloc (.cells zeroA 52)=w1 at HQ ⊢
 clear hwa
 obtain ⟨gm,hgm⟩:∃ g,w.heap.size=g:=⟨_,rfl⟩
 have HGM:=Lib.hid hgm
 obtain ⟨q1,q2,q3,q4,q5⟩:=HQ.out
 rw [hgm] at q1 q2 q3 q4 ⊢
 have HQ1:=Lib.hid (And.intro q1 (And.intro q2 (And.intro q3 (And.intro q4 q5))))
 have c0:=(req_cells q2).1
 clear q1 q2 q3 q4 q5 HQ hgm
 refine wp_seq_k fun K0 hK=>?_
 have HK0:=Lib.hid hK
 clear hK
 go_wp2_with fail
 refine HK0.out _ _ ?_
 clear HK0
 try simp only [Act.put]
 obtain ⟨hn,hr⟩:=HP.out
 obtain ⟨q1,q2,q3,q4,q5⟩:=HQ1.out
 have hgw:=HGM.out
 have b1:w.heap.size ≤ gm:=by omega
 have b2:w.heap.size ≤ gm + 1 + 1:=by omega
 have b3:w.heap.size ≤ gm + 1 + 1 + 1:=by omega
 have n1:gm ≠ gm + 1 + 1:=by omega
 have n2:gm + 1 ≠ gm + 1 + 1:=by omega
 have hm1:RMAt w (n + 1) M R:=HM.out.mono (Nat.le_succ n)
 by_cases d15:1 ≤ r.deed∧r.deed ≤ 5
 · rw [show doN M r=operateN M r from by unfold doN;rw [if_pos d15]]
   exact do_op HM.out hr q1 q2 q3 q4 n1 n2 q5 b1 b2 b3 hn d15
 by_cases d6:r.deed=6
 · rw [show doN M r=tellN M r from by unfold doN;rw [if_neg d15,if_pos d6]]
   rw [d6]
   clear d15 HQ1 c0
   have HKQ:=Lib.hid (And.intro hm1 (And.intro hr (And.intro q1 (And.intro q2 (And.intro q3 (And.intro q4 (And.intro n1 (And.intro n2 (And.intro q5 (And.intro b1 (And.intro b2 b3)))))))))))
   clear hm1 hr q1 q2 q3 q4 n1 n2 q5 b1 b2 b3
   refine wp_seq_k fun K0 hK=>?_
   have HK0:=Lib.hid hK
   clear hK
   go_wp2_with fail
   refine HK0.out _ _ ?_
   clear HK0
   try simp only [Act.put]
   obtain ⟨hm1,hr,q1,q2,q3,q4,n1,n2,q5,b1,b2,b3⟩:=HKQ.out
   by_cases h0:mayM M r=0
   · obtain ⟨t,B,ht,ht1,ht2,hB⟩:=may_good h0
     rw [show tellN M r=(M,{ errA 0 with st:=withN (M t).st (B.l.length:Nat) (sizeL B.l:Nat) }) from by unfold tellN;rw [if_pos h0,ht,Int.toNat_natCast,hB]]
     exact do6_ok hm1 hr q1 q2 q3 q4 n1 n2 q5 b1 b2 b3 h0 ht ht2 hB
   · rw [show tellN M r=(M,errA (mayM M r)) from by unfold tellN;rw [if_neg h0]]
     exact do6_err hm1 hr q1 q2 q3 q4 n1 n2 q5 b1 b2 b3 h0
 by_cases d7:r.deed=7
 · rw [show doN M r=createN M r from by unfold doN;rw [if_neg d15,if_neg (show ¬ r.deed=6 by omega),if_pos d7]]
   rw [d7]
   clear d15 d6 HQ1 c0
   have HKQ:=Lib.hid (And.intro hm1 (And.intro hr (And.intro q1 (And.intro q2 (And.intro q3 (And.intro q4 (And.intro n1 (And.intro n2 (And.intro q5 (And.intro b1 (And.intro b2 b3)))))))))))
   clear hm1 hr q1 q2 q3 q4 n1 n2 q5 b1 b2 b3
   refine wp_seq_k fun K0 hK=>?_
   have HK0:=Lib.hid hK
   clear hK
   go_wp2_with fail
   refine HK0.out _ _ ?_
   clear HK0
   try simp only [Act.put]
   refine wp_seq_k fun K0 hK=>?_
   have HK0:=Lib.hid hK
   clear hK
   go_wp2_with fail
   refine HK0.out _ _ ?_
   clear HK0
   try simp only [Act.put]
   obtain ⟨hm1,hr,q1,q2,q3,q4,n1,n2,q5,b1,b2,b3⟩:=HKQ.out
   by_cases t1:r.tenant < 1
   · rw [show createN M r=(M,errA 2) from by unfold createN;rw [if_pos (by omega)]]
     exact do_low7 hm1 hr q1 q2 q3 q4 n1 n2 q5 b1 b2 b3 t1
   by_cases t2:16 < r.tenant
   · rw [show createN M r=(M,errA 2) from by unfold createN;rw [if_pos (by omega)]]
     exact do_high7 hm1 hr q1 q2 q3 q4 n1 n2 q5 b1 b2 b3 t2
   obtain ⟨t,ht⟩:∃ t:Nat,r.tenant=t:=⟨r.tenant.toNat,by omega⟩
   have hthr:=hm1.there t
   cases hb:(M t).bk with
   | some B =>
     rw [hb] at hthr
     rw [show createN M r=(M,errA 8) from by unfold createN;rw [if_neg (by omega),ht,Int.toNat_natCast,if_pos (by rw [hb];rfl)]]
     exact do7_twice hm1 hr q1 q2 q3 q4 n1 n2 q5 b1 b2 b3 ht (by omega) (by omega) hthr
   | none =>
     rw [hb] at hthr
     rw [show createN M r=(updM M t (newT (M t).gen r),errA 0) from by unfold createN;rw [if_neg (by omega),ht,Int.toNat_natCast,if_neg (by rw [hb];decide)]]
     exact do7_ok hm1 hr q1 q2 q3 q4 n1 n2 q5 b1 b2 b3 ht (by omega) (by omega) hthr
 by_cases d8:r.deed=8
 · rw [show doN M r=removeN M r from by unfold doN;rw [if_neg d15,if_neg (show ¬ r.deed=6 by omega),if_neg (show ¬ r.deed=7 by omega),if_pos d8]]
   rw [d8]
   clear d15 d6 HQ1 c0
   have HKQ:=Lib.hid (And.intro hm1 (And.intro hr (And.intro q1 (And.intro q2 (And.intro q3 (And.intro q4 (And.intro n1 (And.intro n2 (And.intro q5 (And.intro b1 (And.intro b2 b3)))))))))))
   clear hm1 hr q1 q2 q3 q4 n1 n2 q5 b1 b2 b3
   refine wp_seq_k fun K0 hK=>?_
   have HK0:=Lib.hid hK
   clear hK
   go_wp2_with fail
   refine HK0.out _ _ ?_
   clear HK0
   try simp only [Act.put]
   refine wp_seq_k fun K0 hK=>?_
   have HK0:=Lib.hid hK
   clear hK
   go_wp2_with fail
   refine HK0.out _ _ ?_
   clear HK0
   try simp only [Act.put]
   obtain ⟨hm1,hr,q1,q2,q3,q4,n1,n2,q5,b1,b2,b3⟩:=HKQ.out
   by_cases t1:r.tenant < 1
   · rw [show removeN M r=(M,errA 2) from by unfold removeN;rw [show thereM 0 M r=(none,2) from by unfold thereM;rw [if_pos (.inl (by omega))],if_neg (by decide)]]
     exact do_low8 hm1 hr q1 q2 q3 q4 n1 n2 q5 b1 b2 b3 t1
   by_cases t2:16 < r.tenant
   · rw [show removeN M r=(M,errA 2) from by unfold removeN;rw [show thereM 0 M r=(none,2) from by unfold thereM;rw [if_pos (.inl (by omega))],if_neg (by decide)]]
     exact do_high8 hm1 hr q1 q2 q3 q4 n1 n2 q5 b1 b2 b3 t2
   obtain ⟨t,ht⟩:∃ t:Nat,r.tenant=t:=⟨r.tenant.toNat,by omega⟩
   have hthr:=hm1.there t
   cases hb:(M t).bk with
   | none =>
     rw [hb] at hthr
     rw [show removeN M r=(M,errA 5) from by unfold removeN;rw [show thereM 0 M r=(none,5) from by unfold thereM;rw [if_neg (by intro h;rcases h with h | h <;> omega),ht,Int.toNat_natCast,if_pos hb],if_neg (by decide)]]
     exact do8_none hm1 hr q1 q2 q3 q4 n1 n2 q5 b1 b2 b3 ht (by omega) (by omega) hthr
   | some B =>
     rw [hb] at hthr
     rw [show removeN M r=(updM M t { ten0 with gen:=(M t).gen },errA 0) from by unfold removeN;rw [show thereM 0 M r=(some ⟨0,1 + t * 15,none⟩,0) from by unfold thereM;rw [if_neg (by intro h;rcases h with h | h <;> omega),ht,Int.toNat_natCast,if_neg (by rw [hb];exact fun h=>by cases h)],if_pos rfl,ht,Int.toNat_natCast]]
     exact do8_ok hm1 hr q1 q2 q3 q4 n1 n2 q5 b1 b2 b3 ht (by omega) (by omega) hthr
 by_cases d9:r.deed=9
 · rw [show doN M r=issueN M r from by unfold doN;rw [if_neg d15,if_neg (show ¬ r.deed=6 by omega),if_neg (show ¬ r.deed=7 by omega),if_neg (show ¬ r.deed=8 by omega),if_pos d9]]
   rw [d9]
   clear d15 d6 HQ1 c0
   have HKQ:=Lib.hid (And.intro hm1 (And.intro hr (And.intro q1 (And.intro q2 (And.intro q3 (And.intro q4 (And.intro n1 (And.intro n2 (And.intro q5 (And.intro b1 (And.intro b2 b3)))))))))))
   clear hm1 hr q1 q2 q3 q4 n1 n2 q5 b1 b2 b3
   refine wp_seq_k fun K0 hK=>?_
   have HK0:=Lib.hid hK
   clear hK
   go_wp2_with fail
   refine HK0.out _ _ ?_
   clear HK0
   try simp only [Act.put]
   refine wp_seq_k fun K0 hK=>?_
   have HK0:=Lib.hid hK
   clear hK
   go_wp2_with fail
   refine HK0.out _ _ ?_
   clear HK0
   try simp only [Act.put]
   obtain ⟨hm1,hr,q1,q2,q3,q4,n1,n2,q5,b1,b2,b3⟩:=HKQ.out
   by_cases t1:r.tenant < 1
   · rw [show issueN M r=(M,errA 2) from by unfold issueN;rw [show thereM 0 M r=(none,2) from by unfold thereM;rw [if_pos (.inl (by omega))],if_neg (by decide)]]
     exact do_low9 hm1 hr q1 q2 q3 q4 n1 n2 q5 b1 b2 b3 t1
   by_cases t2:16 < r.tenant
   · rw [show issueN M r=(M,errA 2) from by unfold issueN;rw [show thereM 0 M r=(none,2) from by unfold thereM;rw [if_pos (.inl (by omega))],if_neg (by decide)]]
     exact do_high9 hm1 hr q1 q2 q3 q4 n1 n2 q5 b1 b2 b3 t2
   obtain ⟨t,ht⟩:∃ t:Nat,r.tenant=t:=⟨r.tenant.toNat,by omega⟩
   by_cases g1:r.rights < 1
   · rw [show issueN M r=(M,errA 2) from by unfold issueN;rw [show thereM 0 M r=(none,2) from by unfold thereM;rw [if_pos (.inr ⟨d9,by omega⟩)],if_neg (by decide)]]
     exact do_rlow hm1 hr q1 q2 q3 q4 n1 n2 q5 b1 b2 b3 (by omega) g1
   by_cases g2:7 < r.rights
   · rw [show issueN M r=(M,errA 2) from by unfold issueN;rw [show thereM 0 M r=(none,2) from by unfold thereM;rw [if_pos (.inr ⟨d9,by omega⟩)],if_neg (by decide)]]
     exact do_rhigh hm1 hr q1 q2 q3 q4 n1 n2 q5 b1 b2 b3 (by omega) g2
   have hthr:=hm1.there t
   cases hb:(M t).bk with
   | none =>
     rw [hb] at hthr
     rw [show issueN M r=(M,errA 5) from by unfold issueN;rw [show thereM 0 M r=(none,5) from by unfold thereM;rw [if_neg (by intro h;rcases h with h | h <;> omega),ht,Int.toNat_natCast,if_pos hb],if_neg (by decide)]]
     exact do9_none hm1 hr q1 q2 q3 q4 n1 n2 q5 b1 b2 b3 ht (by omega) (by omega) hthr (by omega)
   | some B =>
     rw [hb] at hthr
     rw [show issueN M r=(M,{ errA 0 with h:=⟨r.tenant,(M t).gen,r.rights⟩ }) from by unfold issueN;rw [show thereM 0 M r=(some ⟨0,1 + t * 15,none⟩,0) from by unfold thereM;rw [if_neg (by intro h;rcases h with h | h <;> omega),ht,Int.toNat_natCast,if_neg (by rw [hb];exact fun h=>by cases h)],if_pos rfl,show (r.tenant.toNat)=t from by rw [ht,Int.toNat_natCast]]]
     exact do9_ok hm1 hr q1 q2 q3 q4 n1 n2 q5 b1 b2 b3 ht (by omega) (by omega) hthr (by omega)
 by_cases d10:r.deed=10
 · rw [show doN M r=revokeN M r from by unfold doN;rw [if_neg d15,if_neg (show ¬ r.deed=6 by omega),if_neg (show ¬ r.deed=7 by omega),if_neg (show ¬ r.deed=8 by omega),if_neg (show ¬ r.deed=9 by omega),if_pos d10]]
   rw [d10]
   clear d15 d6 HQ1 c0
   have HKQ:=Lib.hid (And.intro hm1 (And.intro hr (And.intro q1 (And.intro q2 (And.intro q3 (And.intro q4 (And.intro n1 (And.intro n2 (And.intro q5 (And.intro b1 (And.intro b2 b3)))))))))))
   clear hm1 hr q1 q2 q3 q4 n1 n2 q5 b1 b2 b3
   refine wp_seq_k fun K0 hK=>?_
   have HK0:=Lib.hid hK
   clear hK
   go_wp2_with fail
   refine HK0.out _ _ ?_
   clear HK0
   try simp only [Act.put]
   refine wp_seq_k fun K0 hK=>?_
   have HK0:=Lib.hid hK
   clear hK
   go_wp2_with fail
   refine HK0.out _ _ ?_
   clear HK0
   try simp only [Act.put]
   obtain ⟨hm1,hr,q1,q2,q3,q4,n1,n2,q5,b1,b2,b3⟩:=HKQ.out
   by_cases t1:r.tenant < 1
   · rw [show revokeN M r=(M,errA 2) from by unfold revokeN;rw [show thereM 0 M r=(none,2) from by unfold thereM;rw [if_pos (.inl (by omega))],if_neg (by decide)]]
     exact do_low10 hm1 hr q1 q2 q3 q4 n1 n2 q5 b1 b2 b3 t1
   by_cases t2:16 < r.tenant
   · rw [show revokeN M r=(M,errA 2) from by unfold revokeN;rw [show thereM 0 M r=(none,2) from by unfold thereM;rw [if_pos (.inl (by omega))],if_neg (by decide)]]
     exact do_high10 hm1 hr q1 q2 q3 q4 n1 n2 q5 b1 b2 b3 t2
   obtain ⟨t,ht⟩:∃ t:Nat,r.tenant=t:=⟨r.tenant.toNat,by omega⟩
   have hthr:=hm1.there t
   cases hb:(M t).bk with
   | none =>
     rw [hb] at hthr
     rw [show revokeN M r=(M,errA 5) from by unfold revokeN;rw [show thereM 0 M r=(none,5) from by unfold thereM;rw [if_neg (by intro h;rcases h with h | h <;> omega),ht,Int.toNat_natCast,if_pos hb],if_neg (by decide)]]
     exact do10_none hm1 hr q1 q2 q3 q4 n1 n2 q5 b1 b2 b3 ht (by omega) (by omega) hthr
   | some B =>
     rw [hb] at hthr
     rw [show revokeN M r=(updM M t { M t with gen:=IntKind.u32.wrap ((M t).gen + 1) },errA 0) from by unfold revokeN;rw [show thereM 0 M r=(some ⟨0,1 + t * 15,none⟩,0) from by unfold thereM;rw [if_neg (by intro h;rcases h with h | h <;> omega),ht,Int.toNat_natCast,if_neg (by rw [hb];exact fun h=>by cases h)],if_pos rfl,ht,Int.toNat_natCast]]
     exact do10_ok hm1 hr q1 q2 q3 q4 n1 n2 q5 b1 b2 b3 ht (by omega) (by omega) hthr
 rw [show doN M r=(M,errA 2) from by unfold doN;rw [if_neg d15,if_neg d6,if_neg d7,if_neg d8,if_neg d9,if_neg d10]]
 by_cases dl:r.deed < 7
 · have e1:¬ 1 ≤ r.deed:=by omega
   clear d15 d7 d8 d9 d10 HQ1 c0
   have HKQ:=Lib.hid (And.intro hm1 (And.intro hr (And.intro q1 (And.intro q2 (And.intro q3 (And.intro q4 (And.intro n1 (And.intro n2 (And.intro q5 (And.intro b1 (And.intro b2 b3)))))))))))
   clear hm1 hr q1 q2 q3 q4 n1 n2 q5 b1 b2 b3
   refine wp_seq_k fun K0 hK=>?_
   have HK0:=Lib.hid hK
   clear hK
   go_wp2_with fail
   refine HK0.out _ _ ?_
   clear HK0
   try simp only [Act.put]
   refine wp_seq_k fun K0 hK=>?_
   have HK0:=Lib.hid hK
   clear hK
   go_wp2_with fail
   refine HK0.out _ _ ?_
   clear HK0
   try simp only [Act.put]
   obtain ⟨hm1,hr,q1,q2,q3,q4,n1,n2,q5,b1,b2,b3⟩:=HKQ.out
   exact do_less hm1 hr q1 q2 q3 q4 n1 n2 q5 b1 b2 b3 dl
 · have e1:1 ≤ r.deed:=by omega
   have e2:¬ r.deed ≤ 5:=by omega
   have e3:10 < r.deed:=by omega
   clear d15 d7 d8 d9 d10 HQ1 c0
   have HKQ:=Lib.hid (And.intro hm1 (And.intro hr (And.intro q1 (And.intro q2 (And.intro q3 (And.intro q4 (And.intro n1 (And.intro n2 (And.intro q5 (And.intro b1 (And.intro b2 b3)))))))))))
   clear hm1 hr q1 q2 q3 q4 n1 n2 q5 b1 b2 b3
   refine wp_seq_k fun K0 hK=>?_
   have HK0:=Lib.hid hK
   clear hK
   go_wp2_with fail
   refine HK0.out _ _ ?_
   clear HK0
   try simp only [Act.put]
   refine wp_seq_k fun K0 hK=>?_
   have HK0:=Lib.hid hK
   clear hK
   go_wp2_with fail
   refine HK0.out _ _ ?_
   clear HK0
   try simp only [Act.put]
   obtain ⟨hm1,hr,q1,q2,q3,q4,n1,n2,q5,b1,b2,b3⟩:=HKQ.out
   exact do_more hm1 hr q1 q2 q3 q4 n1 n2 q5 b1 b2 b3 e3
end Go.Proofs.YtkgflepgkhnclaaGreatDoor
