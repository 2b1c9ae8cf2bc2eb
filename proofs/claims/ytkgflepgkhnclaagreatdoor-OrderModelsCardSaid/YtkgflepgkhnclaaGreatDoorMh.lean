/- Layer 27: stat.After: the counters of an event are raised. Layer 27: maps by numbers and by strings whose entries are stored by 'm[k] = v'. Over any program. Layer 27: order: Dones; before. Layer 27: stat.Is, stat.After at one event, stat.Next. Layer 27: OrderModels: the reference's book: Put. Layer 27: OrderModels: SameAnswer on the same answer. -/
import Derived.Test.YtkgflepgkhnclaaGreatDoorMg
import Derived.Test.YtkgflepgkhnclaaGreatDoorMe
import Derived.Test.YtkgflepgkhnclaaGreatDoorMa
namespace Go.Proofs.YtkgflepgkhnclaaGreatDoor
set_option linter.unusedVariables false
set_option linter.unusedSimpArgs false
open Go.RowKit Go.Shelf
attribute [local go_sem] run_store_complex
variable {Xa Xb Xc Xd Xe Xf Xg Xh Xi Xj Xk Xl Xm Xn Xo Xp Xq Xr Xs Xt Xu Xv Xw Xx Xy Xz Ya Yb Yc Yd Ye Yf Yg Yh Yi Yj Yk Yl Ym Yn Yo Yp Yq Yr Ys Yt Yu Yv Yw Yx Yy Yz Za Zb Zc Zd Ze Zf Zg Zh Zi Zj Zk Zl Zm Zn Zo Zp Zq Zr Zs Zt Zu Zv Zw Zx Zy Zz Ja Jb Jc Jd Je Jf Jg Jh Ji Jj Jk Jl Jm Jn Jo Jp Jq Jr Js Jt Ju Jv Jw Jy Jz Va Vb Vc Vd Ve Vf Vg Vh Vi Vj Vk Vl Vm Vn Vo Vp Vq Vr Vs Vt Vu Vv Vw Vx Vy Vz Oa Ob Oc Od Oe Og Oh Oi Oj Ok Ol Om On Oo Oq Ot Ou Ov Ox Oy Oz Ha Hb Hc He Hf Hg Hh Hi Hj Hk Hl Hm Hn Ho Hp Hq Hr Hs Ht Hu Hv Hw Hx Hy Hz Ia Ib Ic Id Ie If Ig Ih Ii Ij Ik Il Im In Io Ip Iq Ir It Iu Iv Iw Ix Iy Iz Ua Ub Uc Ud Ue Uf Ug Uh Ui Uj Uk Ul:Value}
def StBox (W:World) (g:Nat):Prop:=∃ st,StOk st∧Blk W g 50 st.toArray
theorem stOk_ctr {st:List Value} (h:StOk st) {k:Nat} (hk:k < 10):∃ n,st[k]?=some (.int .u64 n)∧OkU n:=by
 obtain ⟨ns,a,b,hl,rfl,hn⟩:=h
 have hk2:k < ns.length:=by omega
 refine ⟨ns[k],?_,hn _ (List.getElem_mem hk2)⟩
 rw [List.getElem?_append_left (by simpa using hk2),List.getElem?_map,List.getElem?_eq_getElem hk2]
 rfl
theorem stOk_set {st:List Value} (h:StOk st) {k:Nat} (hk:k < 10) {r:Int} (hr:OkU r):StOk (st.set k (.int .u64 r)):=by
 obtain ⟨ns,a,b,hl,rfl,hn⟩:=h
 refine ⟨ns.set k r,a,b,by simpa using hl,?_,fun n hm=>?_⟩
 · rw [List.set_append_left _ _ (by simpa [hl] using hk),List.map_set]
 · rcases List.mem_or_eq_of_mem_set hm with h | rfl
   · exact hn _ h
   · exact hr
theorem stOk_load {st:List Value} (h:StOk st) (x y:Nat):StOk (st.set 10 (.complex .f64 x y)):=by
 obtain ⟨ns,a,b,hl,rfl,hn⟩:=h
 refine ⟨ns,x,y,hl,?_,hn⟩
 rw [List.set_append_right _ _ (by simp [hl])]
 simp [hl]
theorem StBox.set {W:World} {g k:Nat} {r:Int} (h:StBox W g) (hk:k < 10) (hr:OkU r):StBox (W.setCell ⟨g,k,none⟩ (.int .u64 r)) g:=by
 obtain ⟨st,h1,h2⟩:=h
 refine ⟨_,stOk_set h1 hk hr,?_⟩
 have:=h2.set_ k (.int .u64 r)
 rwa [List.setIfInBounds_toArray] at this
theorem StBox.load {W:World} {g x y:Nat} (h:StBox W g):StBox (W.setCell ⟨g,10,none⟩ (.complex .f64 x y)) g:=by
 obtain ⟨st,h1,h2⟩:=h
 refine ⟨_,stOk_load h1 x y,?_⟩
 have:=h2.set_ 10 (.complex .f64 x y)
 rwa [List.setIfInBounds_toArray] at this
structure AfW (w:World) (g2 g4 gm gx:Nat) (d err:Int) (A:Option Addr) (n c:Nat) (W:World):Prop where
 box:StBox W g2
 res:∃ cs,Blk W g4 50 cs∧cs.size=11
 ne:g4 ≠ g2
 ev:∃ cs,Blk W gx 161 cs∧cs[0]?=some (.int .i64 d)∧cs[1]?=some (.int .i64 err)∧cs[3]?=some (.slice A n c)
 map:IntMap .i64 W gm ctrMap
 ge:w.heap.size ≤ g2
 bel:Below w.heap.size w W
section
variable {w W:World} {g2 g4 gm gx:Nat} {d err:Int} {A:Option Addr} {n c:Nat}
theorem AfW.put (h:AfW w g2 g4 gm gx d err A n c W) {k:Nat} {u:Value} (hb:StBox (W.setCell ⟨g2,k,none⟩ u) g2):AfW w g2 g4 gm gx d err A n c (W.setCell ⟨g2,k,none⟩ u):=by
 obtain ⟨cs,r1,r2⟩:=h.res
 obtain ⟨es,e1,e2⟩:=h.ev
 obtain ⟨st,-,hb0⟩:=h.box
 have hx:gx ≠ g2:=blk_ne e1 hb0 (by decide)
 have hm:gm ≠ g2:=fun e=>by
  obtain ⟨es,ck,hm,_⟩:=h.map
  subst e
  unfold Blk at hb0
  rw [hb0] at hm
  injection hm with hm
  cases hm
 exact ⟨hb,⟨cs,r1.far (p:=⟨g2,k,none⟩) h.ne u,r2⟩,h.ne,⟨es,e1.far (p:=⟨g2,k,none⟩) hx u,e2⟩,by
  obtain ⟨es,ck,hm1,hm2⟩:=h.map
  exact ⟨es,ck,(Below.heap_setCell W _ u gm hm).trans hm1,hm2⟩,h.ge,h.bel.setCell (p:=⟨g2,k,none⟩) h.ge u⟩
theorem AfW.below {W':World} (h:AfW w g2 g4 gm gx d err A n c W) (hb:Below W.heap.size W W'):AfW w g2 g4 gm gx d err A n c W':=by
 obtain ⟨cs,r1,r2⟩:=h.res
 obtain ⟨es,e1,e2⟩:=h.ev
 obtain ⟨st,s1,s2⟩:=h.box
 exact ⟨⟨st,s1,s2.below hb s2.lt⟩,⟨cs,r1.below hb r1.lt,r2⟩,h.ne,⟨es,e1.below hb e1.lt,e2⟩,h.map.below hb h.map.lt,h.ge,below_trans h.bel hb⟩
theorem count_a (h:AfW w g2 g4 gm gx d err A n c W) {k:Nat} (hk:k < 10) (m:Int) (hm:0 ≤ m∧m ≤ 9223372036854775807) :
 Calls Tryz.prog 153 #[.pointer (some ⟨g2,k,none⟩),.int .i64 m] W (fun e w'=>e=.returned (.tuple #[])∧AfW w g2 g4 gm gx d err A n c w'):=by
 obtain ⟨st,s1,s2⟩:=h.box
 obtain ⟨x,hx1,hx2⟩:=stOk_ctr s1 hk
 refine (count_s g2 k x m _ W s2 (by rw [List.getElem?_toArray];exact hx1) hx2 hm).mono ?_
 rintro e w' ⟨rfl,r,hr,rfl⟩
 exact ⟨rfl,h.put (h.box.set hk hr)⟩
theorem AfW.deed (h:AfW w g2 g4 gm gx d err A n c W):W.cell? ⟨gx,0,none⟩=some (.int .i64 d):=by
 obtain ⟨es,e1,e2,_⟩:=h.ev
 rw [e1.cell];exact e2
theorem AfW.errc (h:AfW w g2 g4 gm gx d err A n c W):W.cell? ⟨gx,1,none⟩=some (.int .i64 err):=by
 obtain ⟨es,e1,_,e2,_⟩:=h.ev
 rw [e1.cell];exact e2
theorem AfW.prs (h:AfW w g2 g4 gm gx d err A n c W):W.cell? ⟨gx,3,none⟩=some (.slice A n c):=by
 obtain ⟨es,e1,_,_,e2⟩:=h.ev
 rw [e1.cell];exact e2
end
set_option maxHeartbeats 3200000 in
set_option maxRecDepth 100000 in
theorem after1 {w W:World} {g2 g4 gm gx:Nat} {err:Int} {A:Option Addr} {n c:Nat} {Q:Exit→Act→World→Prop} (h:AfW w g2 g4 gm gx 1 err A n c W) (hn:n ≤ 9223372036854775807)
 (hQ:∀ (s48 s49 s50 s51 s52 s53 s54 s55 s56 s57 s58 s59 s60 s61 s62 s63 s64 s65 s66 s67 s68 s69 s70 s71 s72 s73 s74 s75 s76:Value) (W':World),AfW w g2 g4 gm gx 1 err A n c W'→Q .normal ⟨#[Xa,Xb,.pointer (some ⟨g2,0,none⟩),Xd,Xe,Xf,Xg,Xh,Xi,.pointer (some ⟨gx,0,none⟩),.func (.func 183) #[] #[],.func (.func 153) #[] #[],Xm,Xn,Xo,Xp,Xq,Xr,Xs,Xt,Xu,Xv,Xw,Xx,Xy,Xz,Ya,Yb,Yc,Yd,Ye,Yf,Yg,Yh,Yi,Yj,Yk,Yl,Ym,Yn,Yo,Yp,Yq,Yr,Ys,Yt,Yu,Yv,s48,s49,s50,s51,s52,s53,s54,s55,s56,s57,s58,s59,s60,s61,s62,s63,s64,s65,s66,s67,s68,s69,s70,s71,s72,s73,s74,s75,s76,Zz,Ja,Jb,Jc,Jd],[]⟩ W') :
 Code.wp Tryz.prog (part Tryz.f93 [1,1,1,0,1,2,2,1,1,0,2,1,1,1,1,1,1,1]) Q ⟨#[Xa,Xb,.pointer (some ⟨g2,0,none⟩),Xd,Xe,Xf,Xg,Xh,Xi,.pointer (some ⟨gx,0,none⟩),.func (.func 183) #[] #[],.func (.func 153) #[] #[],Xm,Xn,Xo,Xp,Xq,Xr,Xs,Xt,Xu,Xv,Xw,Xx,Xy,Xz,Ya,Yb,Yc,Yd,Ye,Yf,Yg,Yh,Yi,Yj,Yk,Yl,Ym,Yn,Yo,Yp,Yq,Yr,Ys,Yt,Yu,Yv,Yw,Yx,Yy,Yz,Za,Zb,Zc,Zd,Ze,Zf,Zg,Zh,Zi,Zj,Zk,Zl,Zm,Zn,Zo,Zp,Zq,Zr,Zs,Zt,Zu,Zv,Zw,Zx,Zy,Zz,Ja,Jb,Jc,Jd],[]⟩ W:=by
 conv=>arg 2;whnf
 have HQ:=Lib.hid hQ
 have HA:=Lib.hid h
 have hn0:(0:Int) ≤ (n:Int)∧(n:Int) ≤ 9223372036854775807:=by omega
 have HN:=Lib.hid hn0
 clear hQ h hn hn0
 go_wp2_with fail
 refine (ctr1_s g2 W).mono ?_
 rintro e w1 ⟨rfl,rfl⟩
 go_wp2_with fail
 refine (count_a HA.out (k:=2) (by decide) 1 ⟨by decide,by decide⟩).mono ?_
 rintro e W1 ⟨rfl,h1⟩
 have H1:=Lib.hid h1
 have e1:=h1.errc
 clear h1
 have cases4:err=0 ∨ err=10 ∨ err=11 ∨ err=12 ∨ (err ≠ 0∧err ≠ 10∧err ≠ 11∧err ≠ 12):=by omega
 rcases cases4 with rfl | rfl | rfl | rfl | ⟨x0,x1,x2,x3⟩
 · go_wp2_with fail
   refine (count_a H1.out (k:=7) (by decide) 1 ⟨by decide,by decide⟩).mono ?_
   rintro e W2 ⟨rfl,h2⟩
   have H2:=Lib.hid h2
   have d2:=h2.deed
   have p2:=h2.prs
   clear h2
   go_wp2_with fail
   exact HQ.out _ _ _ _ _ _ _ _ _ _ _ _ _ _ _ _ _ _ _ _ _ _ _ _ _ _ _ _ _ _ H2.out
 · go_wp2_with fail
   refine (count_a H1.out (k:=8) (by decide) 1 ⟨by decide,by decide⟩).mono ?_
   rintro e W2 ⟨rfl,h2⟩
   have H2:=Lib.hid h2
   have d2:=h2.deed
   have p2:=h2.prs
   clear h2
   go_wp2_with fail
   exact HQ.out _ _ _ _ _ _ _ _ _ _ _ _ _ _ _ _ _ _ _ _ _ _ _ _ _ _ _ _ _ _ H2.out
 · go_wp2_with fail
   refine (count_a H1.out (k:=8) (by decide) 1 ⟨by decide,by decide⟩).mono ?_
   rintro e W2 ⟨rfl,h2⟩
   have H2:=Lib.hid h2
   have d2:=h2.deed
   have p2:=h2.prs
   clear h2
   go_wp2_with fail
   exact HQ.out _ _ _ _ _ _ _ _ _ _ _ _ _ _ _ _ _ _ _ _ _ _ _ _ _ _ _ _ _ _ H2.out
 · go_wp2_with fail
   refine (count_a H1.out (k:=8) (by decide) 1 ⟨by decide,by decide⟩).mono ?_
   rintro e W2 ⟨rfl,h2⟩
   have H2:=Lib.hid h2
   have d2:=h2.deed
   have p2:=h2.prs
   clear h2
   go_wp2_with fail
   exact HQ.out _ _ _ _ _ _ _ _ _ _ _ _ _ _ _ _ _ _ _ _ _ _ _ _ _ _ _ _ _ _ H2.out
 · have z0:(err == 0)=false:=by simpa using x0
   have z1:(err == 10)=false:=by simpa using x1
   have z2:(err == 11)=false:=by simpa using x2
   have z3:(err == 12)=false:=by simpa using x3
   have d2:=H1.out.deed
   have p2:=H1.out.prs
   clear x0 x1 x2 x3
   go_wp2_with fail
   exact HQ.out _ _ _ _ _ _ _ _ _ _ _ _ _ _ _ _ _ _ _ _ _ _ _ _ _ _ _ _ _ _ H1.out
set_option maxHeartbeats 3200000 in
set_option maxRecDepth 100000 in
theorem after2 {w W:World} {g2 g4 gm gx:Nat} {err:Int} {A:Option Addr} {n c:Nat} {Q:Exit→Act→World→Prop} (h:AfW w g2 g4 gm gx 2 err A n c W) (hn:n ≤ 9223372036854775807)
 (hQ:∀ (s48 s49 s50 s51 s52 s53 s54 s55 s56 s57 s58 s59 s60 s61 s62 s63 s64 s65 s66 s67 s68 s69 s70 s71 s72 s73 s74 s75 s76:Value) (W':World),AfW w g2 g4 gm gx 2 err A n c W'→Q .normal ⟨#[Xa,Xb,.pointer (some ⟨g2,0,none⟩),Xd,Xe,Xf,Xg,Xh,Xi,.pointer (some ⟨gx,0,none⟩),.func (.func 184) #[] #[],.func (.func 153) #[] #[],Xm,Xn,Xo,Xp,Xq,Xr,Xs,Xt,Xu,Xv,Xw,Xx,Xy,Xz,Ya,Yb,Yc,Yd,Ye,Yf,Yg,Yh,Yi,Yj,Yk,Yl,Ym,Yn,Yo,Yp,Yq,Yr,Ys,Yt,Yu,Yv,s48,s49,s50,s51,s52,s53,s54,s55,s56,s57,s58,s59,s60,s61,s62,s63,s64,s65,s66,s67,s68,s69,s70,s71,s72,s73,s74,s75,s76,Zz,Ja,Jb,Jc,Jd],[]⟩ W') :
 Code.wp Tryz.prog (part Tryz.f93 [1,1,1,0,1,2,2,1,1,0,2,1,1,1,1,1,1,1]) Q ⟨#[Xa,Xb,.pointer (some ⟨g2,0,none⟩),Xd,Xe,Xf,Xg,Xh,Xi,.pointer (some ⟨gx,0,none⟩),.func (.func 184) #[] #[],.func (.func 153) #[] #[],Xm,Xn,Xo,Xp,Xq,Xr,Xs,Xt,Xu,Xv,Xw,Xx,Xy,Xz,Ya,Yb,Yc,Yd,Ye,Yf,Yg,Yh,Yi,Yj,Yk,Yl,Ym,Yn,Yo,Yp,Yq,Yr,Ys,Yt,Yu,Yv,Yw,Yx,Yy,Yz,Za,Zb,Zc,Zd,Ze,Zf,Zg,Zh,Zi,Zj,Zk,Zl,Zm,Zn,Zo,Zp,Zq,Zr,Zs,Zt,Zu,Zv,Zw,Zx,Zy,Zz,Ja,Jb,Jc,Jd],[]⟩ W:=by
 conv=>arg 2;whnf
 have HQ:=Lib.hid hQ
 have HA:=Lib.hid h
 have hn0:(0:Int) ≤ (n:Int)∧(n:Int) ≤ 9223372036854775807:=by omega
 have HN:=Lib.hid hn0
 clear hQ h hn hn0
 go_wp2_with fail
 refine (ctr2_s g2 W).mono ?_
 rintro e w1 ⟨rfl,rfl⟩
 go_wp2_with fail
 refine (count_a HA.out (k:=3) (by decide) 1 ⟨by decide,by decide⟩).mono ?_
 rintro e W1 ⟨rfl,h1⟩
 have H1:=Lib.hid h1
 have e1:=h1.errc
 clear h1
 have cases4:err=0 ∨ err=10 ∨ err=11 ∨ err=12 ∨ (err ≠ 0∧err ≠ 10∧err ≠ 11∧err ≠ 12):=by omega
 rcases cases4 with rfl | rfl | rfl | rfl | ⟨x0,x1,x2,x3⟩
 · go_wp2_with fail
   refine (count_a H1.out (k:=7) (by decide) 1 ⟨by decide,by decide⟩).mono ?_
   rintro e W2 ⟨rfl,h2⟩
   have H2:=Lib.hid h2
   have d2:=h2.deed
   have p2:=h2.prs
   clear h2
   go_wp2_with fail
   exact HQ.out _ _ _ _ _ _ _ _ _ _ _ _ _ _ _ _ _ _ _ _ _ _ _ _ _ _ _ _ _ _ H2.out
 · go_wp2_with fail
   refine (count_a H1.out (k:=8) (by decide) 1 ⟨by decide,by decide⟩).mono ?_
   rintro e W2 ⟨rfl,h2⟩
   have H2:=Lib.hid h2
   have d2:=h2.deed
   have p2:=h2.prs
   clear h2
   go_wp2_with fail
   exact HQ.out _ _ _ _ _ _ _ _ _ _ _ _ _ _ _ _ _ _ _ _ _ _ _ _ _ _ _ _ _ _ H2.out
 · go_wp2_with fail
   refine (count_a H1.out (k:=8) (by decide) 1 ⟨by decide,by decide⟩).mono ?_
   rintro e W2 ⟨rfl,h2⟩
   have H2:=Lib.hid h2
   have d2:=h2.deed
   have p2:=h2.prs
   clear h2
   go_wp2_with fail
   exact HQ.out _ _ _ _ _ _ _ _ _ _ _ _ _ _ _ _ _ _ _ _ _ _ _ _ _ _ _ _ _ _ H2.out
 · go_wp2_with fail
   refine (count_a H1.out (k:=8) (by decide) 1 ⟨by decide,by decide⟩).mono ?_
   rintro e W2 ⟨rfl,h2⟩
   have H2:=Lib.hid h2
   have d2:=h2.deed
   have p2:=h2.prs
   clear h2
   go_wp2_with fail
   exact HQ.out _ _ _ _ _ _ _ _ _ _ _ _ _ _ _ _ _ _ _ _ _ _ _ _ _ _ _ _ _ _ H2.out
 · have z0:(err == 0)=false:=by simpa using x0
   have z1:(err == 10)=false:=by simpa using x1
   have z2:(err == 11)=false:=by simpa using x2
   have z3:(err == 12)=false:=by simpa using x3
   have d2:=H1.out.deed
   have p2:=H1.out.prs
   clear x0 x1 x2 x3
   go_wp2_with fail
   exact HQ.out _ _ _ _ _ _ _ _ _ _ _ _ _ _ _ _ _ _ _ _ _ _ _ _ _ _ _ _ _ _ H1.out
set_option maxHeartbeats 3200000 in
set_option maxRecDepth 100000 in
theorem after3 {w W:World} {g2 g4 gm gx:Nat} {err:Int} {A:Option Addr} {n c:Nat} {Q:Exit→Act→World→Prop} (h:AfW w g2 g4 gm gx 3 err A n c W) (hn:n ≤ 9223372036854775807)
 (hQ:∀ (s48 s49 s50 s51 s52 s53 s54 s55 s56 s57 s58 s59 s60 s61 s62 s63 s64 s65 s66 s67 s68 s69 s70 s71 s72 s73 s74 s75 s76:Value) (W':World),AfW w g2 g4 gm gx 3 err A n c W'→Q .normal ⟨#[Xa,Xb,.pointer (some ⟨g2,0,none⟩),Xd,Xe,Xf,Xg,Xh,Xi,.pointer (some ⟨gx,0,none⟩),.func (.func 185) #[] #[],.func (.func 153) #[] #[],Xm,Xn,Xo,Xp,Xq,Xr,Xs,Xt,Xu,Xv,Xw,Xx,Xy,Xz,Ya,Yb,Yc,Yd,Ye,Yf,Yg,Yh,Yi,Yj,Yk,Yl,Ym,Yn,Yo,Yp,Yq,Yr,Ys,Yt,Yu,Yv,s48,s49,s50,s51,s52,s53,s54,s55,s56,s57,s58,s59,s60,s61,s62,s63,s64,s65,s66,s67,s68,s69,s70,s71,s72,s73,s74,s75,s76,Zz,Ja,Jb,Jc,Jd],[]⟩ W') :
 Code.wp Tryz.prog (part Tryz.f93 [1,1,1,0,1,2,2,1,1,0,2,1,1,1,1,1,1,1]) Q ⟨#[Xa,Xb,.pointer (some ⟨g2,0,none⟩),Xd,Xe,Xf,Xg,Xh,Xi,.pointer (some ⟨gx,0,none⟩),.func (.func 185) #[] #[],.func (.func 153) #[] #[],Xm,Xn,Xo,Xp,Xq,Xr,Xs,Xt,Xu,Xv,Xw,Xx,Xy,Xz,Ya,Yb,Yc,Yd,Ye,Yf,Yg,Yh,Yi,Yj,Yk,Yl,Ym,Yn,Yo,Yp,Yq,Yr,Ys,Yt,Yu,Yv,Yw,Yx,Yy,Yz,Za,Zb,Zc,Zd,Ze,Zf,Zg,Zh,Zi,Zj,Zk,Zl,Zm,Zn,Zo,Zp,Zq,Zr,Zs,Zt,Zu,Zv,Zw,Zx,Zy,Zz,Ja,Jb,Jc,Jd],[]⟩ W:=by
 conv=>arg 2;whnf
 have HQ:=Lib.hid hQ
 have HA:=Lib.hid h
 have hn0:(0:Int) ≤ (n:Int)∧(n:Int) ≤ 9223372036854775807:=by omega
 have HN:=Lib.hid hn0
 clear hQ h hn hn0
 go_wp2_with fail
 refine (ctr3_s g2 W).mono ?_
 rintro e w1 ⟨rfl,rfl⟩
 go_wp2_with fail
 refine (count_a HA.out (k:=4) (by decide) 1 ⟨by decide,by decide⟩).mono ?_
 rintro e W1 ⟨rfl,h1⟩
 have H1:=Lib.hid h1
 have e1:=h1.errc
 clear h1
 have cases4:err=0 ∨ err=10 ∨ err=11 ∨ err=12 ∨ (err ≠ 0∧err ≠ 10∧err ≠ 11∧err ≠ 12):=by omega
 rcases cases4 with rfl | rfl | rfl | rfl | ⟨x0,x1,x2,x3⟩
 · go_wp2_with fail
   refine (count_a H1.out (k:=7) (by decide) 1 ⟨by decide,by decide⟩).mono ?_
   rintro e W2 ⟨rfl,h2⟩
   have H2:=Lib.hid h2
   have d2:=h2.deed
   have p2:=h2.prs
   clear h2
   go_wp2_with fail
   exact HQ.out _ _ _ _ _ _ _ _ _ _ _ _ _ _ _ _ _ _ _ _ _ _ _ _ _ _ _ _ _ _ H2.out
 · go_wp2_with fail
   refine (count_a H1.out (k:=8) (by decide) 1 ⟨by decide,by decide⟩).mono ?_
   rintro e W2 ⟨rfl,h2⟩
   have H2:=Lib.hid h2
   have d2:=h2.deed
   have p2:=h2.prs
   clear h2
   go_wp2_with fail
   exact HQ.out _ _ _ _ _ _ _ _ _ _ _ _ _ _ _ _ _ _ _ _ _ _ _ _ _ _ _ _ _ _ H2.out
 · go_wp2_with fail
   refine (count_a H1.out (k:=8) (by decide) 1 ⟨by decide,by decide⟩).mono ?_
   rintro e W2 ⟨rfl,h2⟩
   have H2:=Lib.hid h2
   have d2:=h2.deed
   have p2:=h2.prs
   clear h2
   go_wp2_with fail
   exact HQ.out _ _ _ _ _ _ _ _ _ _ _ _ _ _ _ _ _ _ _ _ _ _ _ _ _ _ _ _ _ _ H2.out
 · go_wp2_with fail
   refine (count_a H1.out (k:=8) (by decide) 1 ⟨by decide,by decide⟩).mono ?_
   rintro e W2 ⟨rfl,h2⟩
   have H2:=Lib.hid h2
   have d2:=h2.deed
   have p2:=h2.prs
   clear h2
   go_wp2_with fail
   exact HQ.out _ _ _ _ _ _ _ _ _ _ _ _ _ _ _ _ _ _ _ _ _ _ _ _ _ _ _ _ _ _ H2.out
 · have z0:(err == 0)=false:=by simpa using x0
   have z1:(err == 10)=false:=by simpa using x1
   have z2:(err == 11)=false:=by simpa using x2
   have z3:(err == 12)=false:=by simpa using x3
   have d2:=H1.out.deed
   have p2:=H1.out.prs
   clear x0 x1 x2 x3
   go_wp2_with fail
   exact HQ.out _ _ _ _ _ _ _ _ _ _ _ _ _ _ _ _ _ _ _ _ _ _ _ _ _ _ _ _ _ _ H1.out
set_option maxHeartbeats 3200000 in
set_option maxRecDepth 100000 in
theorem after4 {w W:World} {g2 g4 gm gx:Nat} {err:Int} {A:Option Addr} {n c:Nat} {Q:Exit→Act→World→Prop} (h:AfW w g2 g4 gm gx 4 err A n c W) (hn:n ≤ 9223372036854775807)
 (hQ:∀ (s48 s49 s50 s51 s52 s53 s54 s55 s56 s57 s58 s59 s60 s61 s62 s63 s64 s65 s66 s67 s68 s69 s70 s71 s72 s73 s74 s75 s76:Value) (W':World),AfW w g2 g4 gm gx 4 err A n c W'→Q .normal ⟨#[Xa,Xb,.pointer (some ⟨g2,0,none⟩),Xd,Xe,Xf,Xg,Xh,Xi,.pointer (some ⟨gx,0,none⟩),.func (.func 186) #[] #[],.func (.func 153) #[] #[],Xm,Xn,Xo,Xp,Xq,Xr,Xs,Xt,Xu,Xv,Xw,Xx,Xy,Xz,Ya,Yb,Yc,Yd,Ye,Yf,Yg,Yh,Yi,Yj,Yk,Yl,Ym,Yn,Yo,Yp,Yq,Yr,Ys,Yt,Yu,Yv,s48,s49,s50,s51,s52,s53,s54,s55,s56,s57,s58,s59,s60,s61,s62,s63,s64,s65,s66,s67,s68,s69,s70,s71,s72,s73,s74,s75,s76,Zz,Ja,Jb,Jc,Jd],[]⟩ W') :
 Code.wp Tryz.prog (part Tryz.f93 [1,1,1,0,1,2,2,1,1,0,2,1,1,1,1,1,1,1]) Q ⟨#[Xa,Xb,.pointer (some ⟨g2,0,none⟩),Xd,Xe,Xf,Xg,Xh,Xi,.pointer (some ⟨gx,0,none⟩),.func (.func 186) #[] #[],.func (.func 153) #[] #[],Xm,Xn,Xo,Xp,Xq,Xr,Xs,Xt,Xu,Xv,Xw,Xx,Xy,Xz,Ya,Yb,Yc,Yd,Ye,Yf,Yg,Yh,Yi,Yj,Yk,Yl,Ym,Yn,Yo,Yp,Yq,Yr,Ys,Yt,Yu,Yv,Yw,Yx,Yy,Yz,Za,Zb,Zc,Zd,Ze,Zf,Zg,Zh,Zi,Zj,Zk,Zl,Zm,Zn,Zo,Zp,Zq,Zr,Zs,Zt,Zu,Zv,Zw,Zx,Zy,Zz,Ja,Jb,Jc,Jd],[]⟩ W:=by
 conv=>arg 2;whnf
 have HQ:=Lib.hid hQ
 have HA:=Lib.hid h
 have hn0:(0:Int) ≤ (n:Int)∧(n:Int) ≤ 9223372036854775807:=by omega
 have HN:=Lib.hid hn0
 clear hQ h hn hn0
 go_wp2_with fail
 refine (ctr4_s g2 W).mono ?_
 rintro e w1 ⟨rfl,rfl⟩
 go_wp2_with fail
 refine (count_a HA.out (k:=5) (by decide) 1 ⟨by decide,by decide⟩).mono ?_
 rintro e W1 ⟨rfl,h1⟩
 have H1:=Lib.hid h1
 have e1:=h1.errc
 clear h1
 have cases4:err=0 ∨ err=10 ∨ err=11 ∨ err=12 ∨ (err ≠ 0∧err ≠ 10∧err ≠ 11∧err ≠ 12):=by omega
 rcases cases4 with rfl | rfl | rfl | rfl | ⟨x0,x1,x2,x3⟩
 · go_wp2_with fail
   refine (count_a H1.out (k:=7) (by decide) 1 ⟨by decide,by decide⟩).mono ?_
   rintro e W2 ⟨rfl,h2⟩
   have H2:=Lib.hid h2
   have d2:=h2.deed
   have p2:=h2.prs
   clear h2
   go_wp2_with fail
   exact HQ.out _ _ _ _ _ _ _ _ _ _ _ _ _ _ _ _ _ _ _ _ _ _ _ _ _ _ _ _ _ _ H2.out
 · go_wp2_with fail
   refine (count_a H1.out (k:=8) (by decide) 1 ⟨by decide,by decide⟩).mono ?_
   rintro e W2 ⟨rfl,h2⟩
   have H2:=Lib.hid h2
   have d2:=h2.deed
   have p2:=h2.prs
   clear h2
   go_wp2_with fail
   exact HQ.out _ _ _ _ _ _ _ _ _ _ _ _ _ _ _ _ _ _ _ _ _ _ _ _ _ _ _ _ _ _ H2.out
 · go_wp2_with fail
   refine (count_a H1.out (k:=8) (by decide) 1 ⟨by decide,by decide⟩).mono ?_
   rintro e W2 ⟨rfl,h2⟩
   have H2:=Lib.hid h2
   have d2:=h2.deed
   have p2:=h2.prs
   clear h2
   go_wp2_with fail
   exact HQ.out _ _ _ _ _ _ _ _ _ _ _ _ _ _ _ _ _ _ _ _ _ _ _ _ _ _ _ _ _ _ H2.out
 · go_wp2_with fail
   refine (count_a H1.out (k:=8) (by decide) 1 ⟨by decide,by decide⟩).mono ?_
   rintro e W2 ⟨rfl,h2⟩
   have H2:=Lib.hid h2
   have d2:=h2.deed
   have p2:=h2.prs
   clear h2
   go_wp2_with fail
   exact HQ.out _ _ _ _ _ _ _ _ _ _ _ _ _ _ _ _ _ _ _ _ _ _ _ _ _ _ _ _ _ _ H2.out
 · have z0:(err == 0)=false:=by simpa using x0
   have z1:(err == 10)=false:=by simpa using x1
   have z2:(err == 11)=false:=by simpa using x2
   have z3:(err == 12)=false:=by simpa using x3
   have d2:=H1.out.deed
   have p2:=H1.out.prs
   clear x0 x1 x2 x3
   go_wp2_with fail
   exact HQ.out _ _ _ _ _ _ _ _ _ _ _ _ _ _ _ _ _ _ _ _ _ _ _ _ _ _ _ _ _ _ H1.out
set_option maxHeartbeats 3200000 in
set_option maxRecDepth 100000 in
theorem after5 {w W:World} {g2 g4 gm gx:Nat} {err:Int} {A:Option Addr} {n c:Nat} {Q:Exit→Act→World→Prop} (h:AfW w g2 g4 gm gx 5 err A n c W) (hn:n ≤ 9223372036854775807)
 (hQ:∀ (s48 s49 s50 s51 s52 s53 s54 s55 s56 s57 s58 s59 s60 s61 s62 s63 s64 s65 s66 s67 s68 s69 s70 s71 s72 s73 s74 s75 s76:Value) (W':World),AfW w g2 g4 gm gx 5 err A n c W'→Q .normal ⟨#[Xa,Xb,.pointer (some ⟨g2,0,none⟩),Xd,Xe,Xf,Xg,Xh,Xi,.pointer (some ⟨gx,0,none⟩),.func (.func 187) #[] #[],.func (.func 153) #[] #[],Xm,Xn,Xo,Xp,Xq,Xr,Xs,Xt,Xu,Xv,Xw,Xx,Xy,Xz,Ya,Yb,Yc,Yd,Ye,Yf,Yg,Yh,Yi,Yj,Yk,Yl,Ym,Yn,Yo,Yp,Yq,Yr,Ys,Yt,Yu,Yv,s48,s49,s50,s51,s52,s53,s54,s55,s56,s57,s58,s59,s60,s61,s62,s63,s64,s65,s66,s67,s68,s69,s70,s71,s72,s73,s74,s75,s76,Zz,Ja,Jb,Jc,Jd],[]⟩ W') :
 Code.wp Tryz.prog (part Tryz.f93 [1,1,1,0,1,2,2,1,1,0,2,1,1,1,1,1,1,1]) Q ⟨#[Xa,Xb,.pointer (some ⟨g2,0,none⟩),Xd,Xe,Xf,Xg,Xh,Xi,.pointer (some ⟨gx,0,none⟩),.func (.func 187) #[] #[],.func (.func 153) #[] #[],Xm,Xn,Xo,Xp,Xq,Xr,Xs,Xt,Xu,Xv,Xw,Xx,Xy,Xz,Ya,Yb,Yc,Yd,Ye,Yf,Yg,Yh,Yi,Yj,Yk,Yl,Ym,Yn,Yo,Yp,Yq,Yr,Ys,Yt,Yu,Yv,Yw,Yx,Yy,Yz,Za,Zb,Zc,Zd,Ze,Zf,Zg,Zh,Zi,Zj,Zk,Zl,Zm,Zn,Zo,Zp,Zq,Zr,Zs,Zt,Zu,Zv,Zw,Zx,Zy,Zz,Ja,Jb,Jc,Jd],[]⟩ W:=by
 conv=>arg 2;whnf
 have HQ:=Lib.hid hQ
 have HA:=Lib.hid h
 have hn0:(0:Int) ≤ (n:Int)∧(n:Int) ≤ 9223372036854775807:=by omega
 have HN:=Lib.hid hn0
 clear hQ h hn hn0
 go_wp2_with fail
 refine (ctr5_s g2 W).mono ?_
 rintro e w1 ⟨rfl,rfl⟩
 go_wp2_with fail
 refine (count_a HA.out (k:=6) (by decide) 1 ⟨by decide,by decide⟩).mono ?_
 rintro e W1 ⟨rfl,h1⟩
 have H1:=Lib.hid h1
 have e1:=h1.errc
 clear h1
 have cases4:err=0 ∨ err=10 ∨ err=11 ∨ err=12 ∨ (err ≠ 0∧err ≠ 10∧err ≠ 11∧err ≠ 12):=by omega
 rcases cases4 with rfl | rfl | rfl | rfl | ⟨x0,x1,x2,x3⟩
 · go_wp2_with fail
   refine (count_a H1.out (k:=7) (by decide) 1 ⟨by decide,by decide⟩).mono ?_
   rintro e W2 ⟨rfl,h2⟩
   have H2:=Lib.hid h2
   have d2:=h2.deed
   have p2:=h2.prs
   clear h2
   go_wp2_with fail
   refine (count_a H2.out (k:=9) (by decide) n HN.out).mono ?_
   rintro e W3 ⟨rfl,h3⟩
   have H3:=Lib.hid h3
   clear h3
   go_wp2_with fail
   exact HQ.out _ _ _ _ _ _ _ _ _ _ _ _ _ _ _ _ _ _ _ _ _ _ _ _ _ _ _ _ _ _ H3.out
 · go_wp2_with fail
   refine (count_a H1.out (k:=8) (by decide) 1 ⟨by decide,by decide⟩).mono ?_
   rintro e W2 ⟨rfl,h2⟩
   have H2:=Lib.hid h2
   have d2:=h2.deed
   have p2:=h2.prs
   clear h2
   go_wp2_with fail
   refine (count_a H2.out (k:=9) (by decide) n HN.out).mono ?_
   rintro e W3 ⟨rfl,h3⟩
   have H3:=Lib.hid h3
   clear h3
   go_wp2_with fail
   exact HQ.out _ _ _ _ _ _ _ _ _ _ _ _ _ _ _ _ _ _ _ _ _ _ _ _ _ _ _ _ _ _ H3.out
 · go_wp2_with fail
   refine (count_a H1.out (k:=8) (by decide) 1 ⟨by decide,by decide⟩).mono ?_
   rintro e W2 ⟨rfl,h2⟩
   have H2:=Lib.hid h2
   have d2:=h2.deed
   have p2:=h2.prs
   clear h2
   go_wp2_with fail
   refine (count_a H2.out (k:=9) (by decide) n HN.out).mono ?_
   rintro e W3 ⟨rfl,h3⟩
   have H3:=Lib.hid h3
   clear h3
   go_wp2_with fail
   exact HQ.out _ _ _ _ _ _ _ _ _ _ _ _ _ _ _ _ _ _ _ _ _ _ _ _ _ _ _ _ _ _ H3.out
 · go_wp2_with fail
   refine (count_a H1.out (k:=8) (by decide) 1 ⟨by decide,by decide⟩).mono ?_
   rintro e W2 ⟨rfl,h2⟩
   have H2:=Lib.hid h2
   have d2:=h2.deed
   have p2:=h2.prs
   clear h2
   go_wp2_with fail
   refine (count_a H2.out (k:=9) (by decide) n HN.out).mono ?_
   rintro e W3 ⟨rfl,h3⟩
   have H3:=Lib.hid h3
   clear h3
   go_wp2_with fail
   exact HQ.out _ _ _ _ _ _ _ _ _ _ _ _ _ _ _ _ _ _ _ _ _ _ _ _ _ _ _ _ _ _ H3.out
 · have z0:(err == 0)=false:=by simpa using x0
   have z1:(err == 10)=false:=by simpa using x1
   have z2:(err == 11)=false:=by simpa using x2
   have z3:(err == 12)=false:=by simpa using x3
   have d2:=H1.out.deed
   have p2:=H1.out.prs
   clear x0 x1 x2 x3
   go_wp2_with fail
   refine (count_a H1.out (k:=9) (by decide) n HN.out).mono ?_
   rintro e W3 ⟨rfl,h3⟩
   have H3:=Lib.hid h3
   clear h3
   go_wp2_with fail
   exact HQ.out _ _ _ _ _ _ _ _ _ _ _ _ _ _ _ _ _ _ _ _ _ _ _ _ _ _ _ _ _ _ H3.out
end Go.Proofs.YtkgflepgkhnclaaGreatDoor
namespace Go.Proofs.YtkgflepgkhnclaaGreatDoor
set_option linter.unusedVariables false
set_option linter.unusedSimpArgs false
open Go.RowKit Go.MapKept Go.ChangeMaps
def putI (n:Int) (v:Value):List (Int × Value)→List (Int × Value)
 | []=>[(n,v)]
 | p :: r=>if p.1=n then (p.1,v) :: r else p :: putI n v r
theorem look_putI {z:Value} {n m:Int} {v:Value}:∀ {kvs:List (Int × Value)},look z m (putI n v kvs)=if m=n then v else look z m kvs
 | []=>by
   by_cases h:m=n
   · subst h;simp [putI,look]
   · simp [putI,look,h];intro e;exact absurd e.symm h
 | p :: r=>by
   have ih:=look_putI (z:=z) (n:=n) (m:=m) (v:=v) (kvs:=r)
   by_cases hp:p.1=n
   · rw [putI,if_pos hp]
     by_cases h:m=n
     · rw [if_pos h,look,if_pos (by rw [h];exact hp)]
     · rw [if_neg h,look,look,if_neg (fun e=>h (by rw [← e];exact hp)),if_neg (fun e=>h (by rw [← e];exact hp))]
   · rw [putI,if_neg hp,look]
     by_cases hm:p.1=m
     · rw [if_pos hm,look,if_pos hm,if_neg (fun e=>hp (by rw [hm,e]))]
     · rw [if_neg hm,ih,look,if_neg hm]
theorem hasKey_putI {n m:Int} {v:Value}:∀ {kvs:List (Int × Value)},hasKey m (putI n v kvs)=(decide (m=n) || hasKey m kvs)
 | []=>by
   by_cases h:m=n
   · subst h;simp [putI,hasKey]
   · have h2:¬ n=m:=fun e=>h e.symm
     simp [putI,hasKey,h,h2]
 | p :: r=>by
   have ih:=hasKey_putI (n:=n) (m:=m) (v:=v) (kvs:=r)
   by_cases hp:p.1=n
   · rw [putI,if_pos hp]
     by_cases h:m=n
     · simp [hasKey,h,hp]
     · simp [hasKey,h]
   · rw [putI,if_neg hp]
     simp only [hasKey,List.any_cons] at ih ⊢
     rw [ih]
     cases (p.1 == m) <;> cases decide (m=n) <;> rfl
theorem putI_new {n:Int} {v:Value}:∀ {kvs:List (Int × Value)},hasKey n kvs=false→putI n v kvs=kvs ++ [(n,v)]
 | [],_=>rfl
 | p :: r,h=>by
   simp only [hasKey,List.any_cons,Bool.or_eq_false_iff,beq_eq_false_iff_ne] at h
   rw [putI,if_neg h.1,putI_new (by exact h.2)]
   rfl
theorem findAt_int {kd q:IntKind} {n:Int}:∀ (l:List MapEntry) (kvs:List (Int × Value)) (i:Nat),l.map (fun e=>(e.key,e.val))=kvs.map (fun p=>(Value.int kd p.1,p.2))→hasKey n kvs=true →
 ∃ j e0,Instr.findNow (.int q) (.int kd n) l i=some (some (i + j,e0.val))∧l[j]?=some e0∧e0.key=.int kd n ∧
   ∀ (v:Value) (f:MapEntry→MapEntry),(∀ e,(f e).key=.int kd n∧(f e).val=v)→(l.modify j f).map (fun e=>(e.key,e.val))=(putI n v kvs).map (fun p=>(Value.int kd p.1,p.2))
 | [],[],i,_,h=>by cases h
 | [],_ :: _,_,h,_=>by simp at h
 | _ :: _,[],_,h,_=>by simp at h
 | e :: l,p :: kvs,i,h,hk=>by
   simp only [List.map_cons,List.cons.injEq,Prod.mk.injEq] at h
   obtain ⟨⟨hkk,hv⟩,hr⟩:=h
   by_cases hp:p.1=n
   · refine ⟨0,e,by simp [Instr.findNow,hkk,Instr.sameNow,hp],rfl,by rw [hkk,hp],fun v f hf=>?_⟩
     simp [putI,hp,hf e,hr]
   · have hk':hasKey n kvs=true:=by simpa [hasKey,hp] using hk
     obtain ⟨j,e0,h1,h2,h3,h4⟩:=findAt_int (q:=q) l kvs (i + 1) hr hk'
     have hne:(n == p.1)=false:=by simp;exact fun h=>hp h.symm
     refine ⟨j + 1,e0,by rw [show i + (j + 1)=i + 1 + j by omega];simpa [Instr.findNow,hkk,Instr.sameNow,hne] using h1,by simpa using h2,h3,fun v f hf=>?_⟩
     simp [putI,hp,hkk,hv,h4 v f hf]
section
variable {P:Program} {w:World}
theorem update_intmap {kd q:IntKind} {b:Nat} {kvs:List (Int × Value)} {t k e:TypeId} {n:Int} {v:Value} (h:IntMap kd w b kvs) (ht:P.underlying t=some (.map k e)) (hk:P.underlying k=some (.int q)) (hq:q=kd) :
 ∃ w',(Instr.mapUpdate t (.map (some b)) (.int kd n) v).run P w=.ok () w'∧IntMap kd w' b (putI n v kvs)∧w.grownBy w' (some b):=by
 cases hn:hasKey n kvs with
 | false=>rw [putI_new hn];exact insert_intmap h ht hk hq hn
 | true =>
   obtain ⟨es,ck,hb,he⟩:=h
   subst hq
   obtain ⟨j,e0,h1,h2,h3,h4⟩:=findAt_int (q:=q) es.toList kvs 0 he hn
   simp only [Nat.zero_add] at h1
   have hkey:IsKey (.int q) (.int q n):=by simp [IsKey]
   have hfk:=run_findKey (P:=P) (w:=w) hk h1
   have hck:=run_checkKey (P:=P) (w:=w) hk hkey false 9999
   have h5':es[j]?=some e0:=by rw [← Array.getElem?_toList];exact h2
   have hsb:Instr.sameBits 10000 (.int q n) (.int q n)=true:=by simp [Instr.sameBits]
   refine ⟨setBlock w b (.map (es.modify j fun e=>{ e with key:=.int q n,val:=v }) ck),?_,⟨_,_,heap_setBlock_same hb _,?_⟩,
    ⟨rfl,rfl,rfl,by simp [setBlock],fun i _ hi=>heap_setBlock_other hb _ (fun e=>hi (by rw [e]))⟩⟩
   · unfold Instr.mapUpdate
     simp only [Sem.run_bind,run_underlying ht,Result.andThen,Go.MapKept.run_getObj_map hb,hck,hfk,h5',Option.map_some,Option.getD_some,h3,Instr.keyThatStays,hsb,if_true,Sem.run_pure,Go.MapKept.run_setObj_map _ hb]
     rfl
   · rw [Array.toList_modify]
     exact h4 v (fun e=>{ e with key:=.int q n,val:=v }) (fun e=>⟨rfl,rfl⟩)
theorem wpList_update_intmap {ops:Array Oper} {rest:List Oper} {o:Oper} {a:Act} {Q:Exit→Act→World→Prop} (hg:o.guard=none) (m x v:Operand) (t:TypeId) (hop:o.op=Op.mapUpdate t m x v)
 (k e:TypeId) (kd q:IntKind) (ht:P.underlying t=some (.map k e)) (hk:P.underlying k=some (.int q)) (hq:q=kd) (b:Nat) (kvs:List (Int × Value)) (hm:a.eval m=.map (some b)) (h:IntMap kd w b kvs)
 (n:Int) (hx:a.eval x=.int kd n) (val:Value) (hv:a.eval v=val)
 (hK:∀ w',IntMap kd w' b (putI n val kvs)→w.grownBy w' (some b)→wpList P ops Q rest (a.put o.dst undef) w'):wpList P ops Q (o :: rest) a w:=by
 refine wpList_plain hg fun K' hK'=>?_
 obtain ⟨w',hrun,r1,r2⟩:=update_intmap (P:=P) (v:=val) h ht hk hq
 unfold Oper.wp
 simp [execOp,hop,hm,hx,hv,Result.andThen]
 rw [hrun]
 exact hK' _ _ (hK w' r1 r2)
theorem update_strmap {b:Nat} {kvs:Kvs} {t k e:TypeId} {x:ByteArray} {v:Value} (h:StrMap w b kvs) (ht:P.underlying t=some (.map k e)) (hk:P.underlying k=some .string) :
 ∃ w',(Instr.mapUpdate t (.map (some b)) (.string x) v).run P w=.ok () w'∧StrMap w' b (putS x v kvs)∧w.grownBy w' (some b):=by
 obtain ⟨es,ck,hb,he,hn,hlt,hnk⟩:=h
 obtain ⟨r,h1,h2,h3⟩:=findNow_str (k:=x) es.toList kvs 0 he
 have hkey:IsKey .string (.string x):=by simp [IsKey]
 have hfk:=run_findKey (P:=P) (w:=w) hk h1
 have hck:=run_checkKey (P:=P) (w:=w) hk hkey false 9999
 cases hg:getS x kvs with
 | none =>
   obtain rfl:=h2 hg
   refine ⟨setBlock w b (.map (es.push { key:=.string x,val:=v,born:=ck }) (ck + 1)),?_,⟨_,_,heap_setBlock_same hb _,?_,?_,?_,nodup_putS hnk⟩,
    ⟨rfl,rfl,rfl,by simp [setBlock],fun i _ hi=>heap_setBlock_other hb _ (fun e=>hi (by rw [e]))⟩⟩
   · unfold Instr.mapUpdate
     simp only [Sem.run_bind,run_underlying ht,Result.andThen,Go.MapKept.run_getObj_map hb,hck,hfk,Go.MapKept.run_setObj_map _ hb,Sem.run_pure]
     rfl
   · rw [Array.toList_push,List.map_append,putS_new hg,List.map_append,he]
     rfl
   · rw [Array.toList_push,List.map_append,List.nodup_append]
     refine ⟨hn,by simp,fun a ha c hc=>?_⟩
     simp only [List.map_cons,List.map_nil,List.mem_singleton] at hc
     simp only [List.mem_map] at ha
     obtain ⟨e',he',rfl⟩:=ha
     have:=hlt e' he'
     omega
   · intro e' he'
     rw [Array.toList_push,List.mem_append,List.mem_singleton] at he'
     rcases he' with he' | rfl
     · have:=hlt e' he';omega
     · exact Nat.lt_succ_self _
 | some v0 =>
   obtain ⟨j,e0,rfl,h5,h6,h7,h8⟩:=h3 v0 hg
   simp only [Nat.zero_add] at hfk h1
   have h5':es[j]?=some e0:=by rw [← Array.getElem?_toList];exact h5
   have hsb:Instr.sameBits 10000 (.string x) (.string x)=true:=by simp [Instr.sameBits,bytes_beq]
   have hm2:es.modify j (fun e=>{ e with key:=Value.string x,val:=v })=es.modify j (fun e=>{ e with val:=v }):=by
    apply Array.toList_inj.1
    rw [Array.toList_modify,Array.toList_modify]
    refine List.ext_getElem? fun i=>?_
    rw [List.getElem?_modify,List.getElem?_modify]
    by_cases hi:j=i
    · subst hi
      rw [h5]
      simp [← h6]
    · simp [hi]
   refine ⟨setBlock w b (.map (es.modify j fun e=>{ e with val:=v }) ck),?_,⟨_,_,heap_setBlock_same hb _,?_,?_,?_,nodup_putS hnk⟩,⟨rfl,rfl,rfl,by simp [setBlock],fun i _ hi=>heap_setBlock_other hb _ (fun e=>hi (by rw [e]))⟩⟩
   · unfold Instr.mapUpdate
     simp only [Sem.run_bind,run_underlying ht,Result.andThen,Go.MapKept.run_getObj_map hb,hck,hfk,h5',Option.map_some,Option.getD_some,h6,Instr.keyThatStays,hsb,if_true,Sem.run_pure,hm2,Go.MapKept.run_setObj_map _ hb]
     rfl
   · rw [Array.toList_modify];exact putS_old he hg h8 ⟨e0,h5,h6⟩
   · rw [Array.toList_modify,map_born_modify (f:=fun e=>{ e with val:=v }) (fun _=>rfl)];exact hn
   · intro e he
     have:e.born ∈ es.toList.map (·.born):=by
        rw [← map_born_modify (f:=fun e=>{ e with val:=v }) (fun _=>rfl) es.toList j,← Array.toList_modify]
        exact List.mem_map_of_mem he
     obtain ⟨e',h1,h2⟩:=List.mem_map.1 this
     have:=hlt e' h1
     omega
theorem wpList_update_strmap {ops:Array Oper} {rest:List Oper} {o:Oper} {a:Act} {Q:Exit→Act→World→Prop} (hg:o.guard=none) (m x v:Operand) (t:TypeId) (hop:o.op=Op.mapUpdate t m x v)
 (k e:TypeId) (ht:P.underlying t=some (.map k e)) (hk:P.underlying k=some .string) (b:Nat) (kvs:Kvs) (hm:a.eval m=.map (some b)) (h:StrMap w b kvs)
 (n:ByteArray) (hx:a.eval x=.string n) (val:Value) (hv:a.eval v=val)
 (hK:∀ w',StrMap w' b (putS n val kvs)→w.grownBy w' (some b)→wpList P ops Q rest (a.put o.dst undef) w'):wpList P ops Q (o :: rest) a w:=by
 refine wpList_plain hg fun K' hK'=>?_
 obtain ⟨w',hrun,r1,r2⟩:=update_strmap (P:=P) (v:=val) h ht hk
 unfold Oper.wp
 simp [execOp,hop,hm,hx,hv,Result.andThen]
 rw [hrun]
 exact hK' _ _ (hK w' r1 r2)
end
end Go.Proofs.YtkgflepgkhnclaaGreatDoor
namespace Go.Proofs.YtkgflepgkhnclaaGreatDoor
set_option linter.unusedVariables false
set_option linter.unusedSimpArgs false
open Go.RowKit Go.Shelf
structure Dn where
 e:Int
 f:Int
 a:Int
 t:Int
 err:Int
 val:ByteArray
 pA:Option Addr
 pn:Nat
 pc:Nat
 h:Hd
 s0:Int
 s1:Int
 s2:Int
 s3:Int
 s4:Int
 s5:Int
 s6:Int
 s7:Int
 s8:Int
 s9:Int
 la:Nat
 lb:Nat
def Dn.ans (d:Dn):List Value:=[.int .i64 d.err,.string d.val,.slice d.pA d.pn d.pc,.int .i64 d.h.t,.int .u32 d.h.g,.int .u8 d.h.r,.int .u64 d.s0,.int .u64 d.s1,.int .u64 d.s2,.int .u64 d.s3,.int .u64 d.s4,.int .u64 d.s5,.int .u64 d.s6,.int .u64 d.s7,.int .u64 d.s8,.int .u64 d.s9,.complex .f64 d.la d.lb]
def Dn.row (d:Dn):List Value:=[.int .i64 d.e,.int .i64 d.f,.int .i64 d.a,.int .i64 d.t,.int .i64 d.err,.string d.val,.slice d.pA d.pn d.pc,.int .i64 d.h.t,.int .u32 d.h.g,.int .u8 d.h.r,.int .u64 d.s0,.int .u64 d.s1,.int .u64 d.s2,.int .u64 d.s3,.int .u64 d.s4,.int .u64 d.s5,.int .u64 d.s6,.int .u64 d.s7,.int .u64 d.s8,.int .u64 d.s9,.complex .f64 d.la d.lb]
theorem Dn.row_len (d:Dn):d.row.length=21:=rfl
theorem dn_one (d:Dn):∀ u ∈ d.row,u.oneCell'=true:=by simp [Dn.row,Value.oneCell']
def befN (es:List Ent) (s:Int):Nat→Int
 | 0=>-1
 | k + 1=>if (es[k]?).map (·.ses)=some s then k else befN es s k
theorem ent_ses {w:World} {B k:Nat} {A:Option Addr} {es:List Ent} (h:Reads w B 13 A es.length (es.flatMap Ent.row)) (hk:k < es.length):∃ ad,A=some ad∧ad.block < B∧w.cell? (ad.add (k * 13))=some (.int .i64 es[k].ses):=by
 obtain ⟨ad,rfl,hab,hc⟩:=row_cells Ent.row_len h rfl hk
 exact ⟨ad,rfl,hab,by have:=hc 0 _ rfl;rwa [add_of_add] at this⟩
set_option maxHeartbeats 3200000 in
theorem before_any (es:List Ent) (A:Option Addr) (c n:Nat) (w:World) (hA:Reads w w.heap.size 13 A es.length (es.flatMap Ent.row)) (hn:n < es.length) (hl:es.length ≤ 9223372036854775807) :
 Calls Tryz.prog 101 #[.slice A es.length c,.int .i64 n] w (fun e w'=>e=.returned (.int .i64 (befN es es[n].ses n))∧Below w.heap.size w w'):=by
 have hw1:IntKind.i64.wrap ((n:Int) - 1)=(n:Int) - 1:=IntWalk.i64_in _ (by omega)
 obtain ⟨ad,rfl,hab,hcn⟩:=ent_ses hA hn
 have HA:=Lib.hid hA
 have hn0:(0:Int) ≤ (n:Int):=by omega
 have hni:(n:Int) < (es.length:Int):=by omega
 generalize hs:es[n].ses=s at hcn ⊢
 clear hs hA
 go_enter Tryz.func101,Tryz.ntmps101
 go_wp2
 go_loopw [5] (fun i wr=>∃ k:Nat,k ≤ n∧i=.int .i64 ((k:Int) - 1)∧befN es s n=befN es s k∧Below w.heap.size w wr) (fun i _=>((intOf i) + 1).toNat)
 case atStart=>exact ⟨n,Nat.le_refl _,rfl,rfl,Below.refl _ _⟩
 case round =>
  obtain ⟨k,hk,rfl,hbef,hbel⟩:=hrel
  have HB:=Lib.hid hbel
  have HF:=Lib.hid hbef
  have cn:=(hbel.cell (p:=ad.add (n * 13)) (by rw [block_of_add];exact hab)).trans hcn
  clear hbel hbef
  cases k with
  | zero =>
    go_wp2
    go_ret
    refine ⟨by rw [HF.out];rfl,HB.out⟩
  | succ k =>
    have hkl:k < es.length:=by omega
    obtain ⟨ad2,h2,hab2,hck⟩:=ent_ses HA.out hkl
    injection h2 with h2
    subst h2
    have ck:=(HB.out.cell (p:=ad.add (k * 13)) (by rw [block_of_add];exact hab)).trans hck
    have hw2:IntKind.i64.wrap ((k:Int) - 1)=(k:Int) - 1:=IntWalk.i64_in _ (by omega)
    have e1:((k + 1:Nat):Int) - 1=(k:Int):=by omega
    rw [e1]
    have i1:(0:Int) ≤ (k:Int):=by omega
    have i2:(k:Int) < (es.length:Int):=by omega
    have hf:befN es s (k + 1)=if es[k].ses=s then (k:Int) else befN es s k:=by
        rw [befN,List.getElem?_eq_getElem hkl,Option.map_some]
        simp only [Option.some.injEq]
    have HF2:=Lib.hid hf
    generalize es[k].ses=s2 at *
    clear hck hab2 hf
    go_wp2
    go_region
    by_cases hq:s2=s
    · have hqb:(s2 == s)=true:=by simp [hq]
      go_wp2
      go_ret
      refine ⟨?_,HB.out.drew⟩
      rw [HF.out,HF2.out,if_pos hq]
      rfl
    · have hqb:(s2 == s)=false:=by simp [hq]
      go_wp2
      go_roundw
      case rel=>exact ⟨k,by omega,rfl,by rw [HF.out,HF2.out,if_neg hq],HB.out.drew⟩
      case measure=>simp [intOf]
end Go.Proofs.YtkgflepgkhnclaaGreatDoor
namespace Go.Proofs.YtkgflepgkhnclaaGreatDoor
set_option linter.unusedVariables false
set_option linter.unusedSimpArgs false
open Go.RowKit Go.Shelf
attribute [local go_sem] run_store_complex
theorem results_cell_tmp {P:Program} {w:World} {fn:Func} {tmps:Array Value} {i j:Nat} {t tt:TypeId} {g:Nat} {cs:Array Value} {d:TypeDesc} {v:Value} (hres:fn.results=#[.cell i t,.tmp j]) (ha:tmps.getD i undef=.pointer (some ⟨g,0,none⟩)) (hv:tmps.getD j undef=v) (hb:Blk w g tt cs)
 (hu:P.underlying t=some d) (hd:d.isRow=true) (hi:(P.info? t).map (·.size)=some cs.size):(results fn tmps).run P w=.ok (.tuple #[.agg cs,v]) w:=by
 have hl:=run_loadVar_mid (P:=P) w g 0 t cs.toList d (fun j v hv=>by rw [Nat.zero_add,hb.cell];simpa using hv) hu hd (by simpa using hi)
 have hp:asAddr (.pointer (some ⟨g,0,none⟩))=pure ⟨g,0,none⟩:=rfl
 simp only [Array.toArray_toList] at hl
 rw [Array.getD_eq_getD_getElem?] at ha hv
 simp [results,hres,ha,hv,hp,hl,Result.andThen]
theorem Is_s (st:List Value) (h:StOk st) (w:World):Calls Tryz.prog 151 #[.agg st.toArray] w (SomeB w):=by
 obtain ⟨n0,n1,n2,n3,n4,n5,n6,n7,n8,n9,fa,fb,rfl⟩:=stOk_list h
 have hb1:=below_box w (.cells #[.int .u64 n0,.int .u64 n1,.int .u64 n2,.int .u64 n3,.int .u64 n4,.int .u64 n5,.int .u64 n6,.int .u64 n7,.int .u64 n8,.int .u64 n9,.complex .f64 fa fb] 50)
 clear h
 go_enter Tryz.func151,Tryz.ntmps151
 go_wp2_with fail
 refine (Is_l fa fb _).mono ?_
 rintro e w1 ⟨⟨q,rfl⟩,rfl⟩
 go_wp2_with fail
 go_ret
 exact ⟨q,rfl,hb1⟩
structure AfB (w:World) (g2 g4 gm:Nat) (W:World):Prop where
 box:StBox W g2
 res:∃ cs,Blk W g4 50 cs∧cs.size=11
 ne:g4 ≠ g2
 map:IntMap .i64 W gm ctrMap
 ge:w.heap.size ≤ g2
 ge4:w.heap.size ≤ g4
 bel:Below w.heap.size w W
theorem AfW.out {w W:World} {g2 g4 gm gx:Nat} {d err:Int} {A:Option Addr} {n c:Nat} (h:AfW w g2 g4 gm gx d err A n c W) (h4:w.heap.size ≤ g4):AfB w g2 g4 gm W:=⟨h.box,h.res,h.ne,h.map,h.ge,h4,h.bel⟩
theorem AfB.below {w W W':World} {g2 g4 gm:Nat} (h:AfB w g2 g4 gm W) (hb:Below W.heap.size W W'):AfB w g2 g4 gm W':=by
 obtain ⟨cs,r1,r2⟩:=h.res
 obtain ⟨st,s1,s2⟩:=h.box
 exact ⟨⟨st,s1,s2.below hb s2.lt⟩,⟨cs,r1.below hb r1.lt,r2⟩,h.ne,h.map.below hb h.map.lt,h.ge,h.ge4,below_trans h.bel hb⟩
theorem AfB.ev {w W:World} {g2 g4 gm:Nat} (h:AfB w g2 g4 gm W) (d err:Int) (A:Option Addr) (n c:Nat) (cs:Array Value) (h0:cs[0]?=some (.int .i64 d)) (h1:cs[1]?=some (.int .i64 err)) (h3:cs[3]?=some (.slice A n c)) :
 AfW w g2 g4 gm W.heap.size d err A n c (W.alloc (.cells cs 161)):=by
 have hb:=h.below (W':=W.alloc (.cells cs 161)) (below_box _ _)
 exact ⟨hb.box,hb.res,hb.ne,⟨cs,Blk.new _ _ _,h0,h1,h3⟩,hb.map,hb.ge,hb.bel⟩
def SomeS (w:World) (e:Ending) (w':World):Prop:=∃ st q,StOk st∧e=.returned (.tuple #[.agg st.toArray,.bool q])∧Below w.heap.size w w'
theorem run_eql_func {P:Program} (w:World) (t:TypeId) (ps rs:Array TypeId) (vd:Bool) (f:Fn) (x y:Array Value) (h:P.underlying t=some (.func ps rs vd)):(binOp .eql t (.func f x y) .nilFunc).run P w=.ok (.bool false) w:=by
 have h1:∀ d,(Op.equalIn (d + 1) t (.func f x y) .nilFunc).run P w=.ok false w:=fun d=>by simp [Op.equalIn,run_underlying h]
 simp only [binOp]
 simp [Op.equal,Op.maxDepth,h1 9999]
theorem run_eql_func_nil {P:Program} (w:World) (t:TypeId) (ps rs:Array TypeId) (vd:Bool) (h:P.underlying t=some (.func ps rs vd)):(binOp .eql t .nilFunc .nilFunc).run P w=.ok (.bool true) w:=by
 have h1:∀ d,(Op.equalIn (d + 1) t .nilFunc .nilFunc).run P w=.ok true w:=fun d=>by simp [Op.equalIn,run_underlying h]
 simp only [binOp]
 simp [Op.equal,Op.maxDepth,h1 9999]
theorem stOk_cx {st:List Value} (h:StOk st):∃ a b,st[10]?=some (.complex .f64 a b):=by
 obtain ⟨ns,a,b,hl,rfl,hn⟩:=h
 exact ⟨a,b,by rw [List.getElem?_append_right (by simp [hl])];simp [hl]⟩
end Go.Proofs.YtkgflepgkhnclaaGreatDoor
namespace Go.Proofs.YtkgflepgkhnclaaGreatDoor
set_option linter.unusedVariables false
set_option linter.unusedSimpArgs false
open Go.RowKit Go.Shelf
variable {Xa Xb Xc Xd Xe Xf Xg Xh Xi Xj Xk Xl Xm Xn Xo Xp Xq Xr Xs Xt Xu Xv Xw Xx Xy Xz Ya Yb Yc Yd Ye Yf Yg Yh Yi Yj Yk Yl Ym Yn Yo Yp Yq Yr Ys Yt Yu Yv Yw Yx Yy Yz Za Zb Zc Zd Ze Zf Zg Zh Zi Zj Zk Zl Zm Zn Zo Zp Zq Zr Zs Zt Zu Zv Zw Zx Zy Zz Ja Jb Jc Jd Je Jf Jg Jh Ji Jj Jk Jl Jm Jn Jo Jp Jq Jr Js Jt Ju Jv Jw Jy Jz Va Vb Vc Vd Ve Vf Vg Vh Vi Vj Vk Vl Vm Vn Vo Vp Vq Vr Vs Vt Vu Vv Vw Vx Vy Vz Oa Ob Oc Od Oe Og Oh Oi Oj Ok Ol Om On Oo Oq Ot Ou Ov Ox Oy Oz Ha Hb Hc He Hf Hg Hh Hi Hj Hk Hl Hm Hn Ho Hp Hq Hr Hs Ht Hu Hv Hw Hx Hy Hz Ia Ib Ic Id Ie If Ig Ih Ii Ij Ik Il Im In Io Ip Iq Ir It Iu Iv Iw Ix Iy Iz Ua Ub Uc Ud Ue Uf Ug Uh Ui Uj Uk Ul:Value}
def RBkErr (r:Int) (l:List Kv) (b:RBk) (w:World) (e:Ending) (w':World):Prop :=
 ∃ A c,e=.returned (.tuple #[RBk.v ⟨A,c,l,b.qk,b.qb⟩,.int .i64 r])∧RBk.at_ ⟨A,c,l,b.qk,b.qb⟩ w'∧Below w.heap.size w w'
theorem set3 {W:World} {g:Nat} {t:TypeId} {x0 x1 x2 v0 v1 v2:Value} (h:Blk W g t #[x0,x1,x2]):Blk (((W.setCell ⟨g,0,none⟩ v0).setCell ⟨g,1,none⟩ v1).setCell ⟨g,2,none⟩ v2) g t #[v0,v1,v2]∧(∀ i,i ≠ g→(((W.setCell ⟨g,0,none⟩ v0).setCell ⟨g,1,none⟩ v1).setCell ⟨g,2,none⟩ v2).heap[i]?=W.heap[i]?) ∧
 ∀ B w,Below B w W→B ≤ g→Below B w (((W.setCell ⟨g,0,none⟩ v0).setCell ⟨g,1,none⟩ v1).setCell ⟨g,2,none⟩ v2) :=
 ⟨((h.set_ 0 v0).set_ 1 v1).set_ 2 v2,fun i hi=>(Below.heap_setCell _ _ _ i hi).trans ((Below.heap_setCell _ _ _ i hi).trans (Below.heap_setCell _ _ _ i hi)),fun B w hb hg=>((hb.setCell (p:=⟨g,0,none⟩) hg v0).setCell (p:=⟨g,1,none⟩) hg v1).setCell (p:=⟨g,2,none⟩) hg v2⟩
structure RBk.off (b:RBk) (W:World) (g:Nat):Prop where
 ne:∀ ad,0 < b.l.length→b.A=some ad→ad.block ≠ g
theorem RBk.at_.keep {b:RBk} {W W':World} (h:b.at_ W) (hs:W.heap.size ≤ W'.heap.size) (hk:∀ ad,0 < b.l.length→b.A=some ad→W'.heap[ad.block]?=W.heap[ad.block]?):b.at_ W' :=
 ⟨⟨h.rd.1,fun h0=>by
   obtain ⟨ad,h1,h2,h3⟩:=h.rd.2 h0
   exact ⟨ad,h1,Nat.lt_of_lt_of_le h2 hs,fun j u hu=>(World.cell?_of_block (w:=W) (by rw [block_of_add];exact hk ad h0 h1)).trans (h3 j u hu)⟩⟩,h.lc,h.cm,h.nl,fun ad h0 hA=>(h.ty ad h0 hA).imp fun cs hc=>(hk ad h0 hA).trans hc⟩
theorem RBk.at_.set3 {b:RBk} {w W:World} {g:Nat} {v0 v1 v2:Value} (h:b.at_ w) (hb:Below w.heap.size w W) (hg:w.heap.size ≤ g):b.at_ (((W.setCell ⟨g,0,none⟩ v0).setCell ⟨g,1,none⟩ v1).setCell ⟨g,2,none⟩ v2) :=
 h.below (((hb.setCell (p:=⟨g,0,none⟩) hg v0).setCell (p:=⟨g,1,none⟩) hg v1).setCell (p:=⟨g,2,none⟩) hg v2)
theorem row_at' {W:World} {A:Option Addr} {B n c:Nat} {l:List Kv} {b:RBk} (hown:W.ownsRow B 57 2 (.slice A n c) n (l.flatMap pairR)) (hn:n=l.length):RBk.at_ ⟨A,c,l,b.qk,b.qb⟩ W:=by
 subst hn
 obtain ⟨A',c',he,h1,h2,h3⟩:=own_form hown
 injection he with e1 e2 e3
 subst e1 e3
 unfold maxLen at h3
 exact ⟨Reads.of_own hown,h2,h3,fun h=>(h1 h).2,own_ty hown⟩
set_option maxHeartbeats 3200000 in
set_option maxRecDepth 100000 in
theorem pt_head {Q:Exit→Act→World→Prop} {w W:World} {x:RBk} {gx n:Nat} (hx:x.at_ W) (q:Blk W gx 62 #[.slice x.A x.l.length x.c,.int .u64 x.qk,.int .u64 x.qb]) (hbel:Below w.heap.size w W) (hle:n ≤ x.l.length) (hlen:x.l.length ≤ 1000)
 (hQ:∀ (s26 s27 s28 s29 s30:Value) (v3:Value) (W':World),W'.ownsRow W.heap.size 57 2 v3 n ((x.l.take n).flatMap pairR)→Below W.heap.size W W'→Q .normal ⟨#[Xa,Xb,Xc,Xd,Xe,Xf,Xg,Xh,.pointer (some ⟨gx,0,none⟩),.int .i64 (n:Nat),v3,Xl,Xm,Xn,Xo,Xp,Xq,Xr,Xs,Xt,Xu,Xv,Xw,Xx,Xy,Xz,s26,s27,s28,s29,s30,v3,Yg,Yh,Yi,Yj,Yk,Yl,Ym,Yn,Yo,Yp,Yq,Yr,Ys,Yt,Yu,Yv,Yw,Yx,Yy,Yz,Za,Zb,Zc,Zd,Ze,Zf,Zg,Zh,Zi],[]⟩ W') :
 Code.wp Tryz.prog (part Tryz.f87 [1,1,1,1,0]) Q ⟨#[Xa,Xb,Xc,Xd,Xe,Xf,Xg,Xh,.pointer (some ⟨gx,0,none⟩),.int .i64 (n:Nat),Xk,Xl,Xm,Xn,Xo,Xp,Xq,Xr,Xs,Xt,Xu,Xv,Xw,Xx,Xy,Xz,Ya,Yb,Yc,Yd,Ye,Yf,Yg,Yh,Yi,Yj,Yk,Yl,Ym,Yn,Yo,Yp,Yq,Yr,Ys,Yt,Yu,Yv,Yw,Yx,Yy,Yz,Za,Zb,Zc,Zd,Ze,Zf,Zg,Zh,Zi],[]⟩ W:=by
 conv=>arg 2;whnf
 have HQ:=Lib.hid hQ
 clear hQ
 have c0:=q.cell 0
 rw [show (#[.slice x.A x.l.length x.c,.int .u64 x.qk,.int .u64 x.qb]:Array Value)[0]?=some (.slice x.A x.l.length x.c) from rfl] at c0
 have c1:=q.cell 1
 rw [show (#[.slice x.A x.l.length x.c,.int .u64 x.qk,.int .u64 x.qb]:Array Value)[1]?=some (.int .u64 x.qk) from rfl] at c1
 have c2:=q.cell 2
 rw [show (#[.slice x.A x.l.length x.c,.int .u64 x.qk,.int .u64 x.qb]:Array Value)[2]?=some (.int .u64 x.qb) from rfl] at c2
 have HX:=Lib.hid (And.intro hx (And.intro q hbel))
 have hle':=hle
 have hxc:=hx.cm
 have hxl:=hx.lc
 have i0:(0:Int) ≤ (n:Int):=by omega
 have i1:(n:Int) ≤ (x.l.length:Int):=by omega
 have i2:(n:Int) ≤ (x.c:Int):=by omega
 have l2:gx < W.heap.size:=q.lt
 obtain ⟨i3,hi3,iz0,iz1,iz2⟩:=info_parts infoPair
 clear hx q hbel
 go_wp2_with (first
  | (at_builtin
     refine wpList_append_any _ rfl (.tmp 26) (.tmp 30) _ rfl W.heap.size 57 i3 _ 2 32 Tryz.underlying42 hi3 iz0 iz1 iz2 rfl (by omega) (.slice (some ⟨W.heap.size,0,none⟩) 0 0) 0 [] rfl
      (own_empty W (Nat.le_refl _)) _ x.A n x.c ((x.l.take n).flatMap pairR) rfl (reads_take (HX.out.1.below (below_box W (.cells #[] 57))).rd hle) (pairs_one _) (by unfold maxLen;omega) (by omega) (by simp) ?_
     intro v3 w3 hown3 hg3 hat3
     have hb3:Below W.heap.size W w3:=below_app (below_box W (.cells #[] 57)) (own_empty W (Nat.le_refl _)) hg3 (Nat.le_refl _) (by simp)))
 rw [Nat.zero_add,List.nil_append] at hown3
 exact HQ.out _ _ _ _ _ v3 w3 hown3 hb3
set_option maxHeartbeats 3200000 in
set_option maxRecDepth 100000 in
theorem pt_one {Q:Exit→Act→World→Prop} {w W:World} {key value:ByteArray} {v3:Value} {n B:Nat} {l:List Kv} (hB:w.heap.size ≤ B) (hBW:B ≤ W.heap.size) (hown:W.ownsRow B 57 2 v3 n (l.flatMap pairR)) (hbel:Below w.heap.size w W) (hn:n ≤ 1000)
 (hQ:∀ (s32 s33 s34 s35 s36:Value) (v4:Value) (W':World),W'.ownsRow B 57 2 v4 (n + 1) ((l ++ [(key,value)]).flatMap pairR)→Below w.heap.size w W'→(∀ i,i < W.heap.size→v3.ownBlock ≠ some i→W'.heap[i]?=W.heap[i]?)→W.heap.size ≤ W'.heap.size→Q .normal ⟨#[Xa,.string key,.string value,Xd,Xe,Xf,Xg,Xh,Xi,Xj,v4,Xl,Xm,Xn,Xo,Xp,Xq,Xr,Xs,Xt,Xu,Xv,Xw,Xx,Xy,Xz,Ya,Yb,Yc,Yd,Ye,Yf,s32,s33,s34,s35,s36,v4,Ym,Yn,Yo,Yp,Yq,Yr,Ys,Yt,Yu,Yv,Yw,Yx,Yy,Yz,Za,Zb,Zc,Zd,Ze,Zf,Zg,Zh,Zi],[]⟩ W') :
 Code.wp Tryz.prog (part Tryz.f87 [1,1,1,1,1,0]) Q ⟨#[Xa,.string key,.string value,Xd,Xe,Xf,Xg,Xh,Xi,Xj,v3,Xl,Xm,Xn,Xo,Xp,Xq,Xr,Xs,Xt,Xu,Xv,Xw,Xx,Xy,Xz,Ya,Yb,Yc,Yd,Ye,Yf,Yg,Yh,Yi,Yj,Yk,Yl,Ym,Yn,Yo,Yp,Yq,Yr,Ys,Yt,Yu,Yv,Yw,Yx,Yy,Yz,Za,Zb,Zc,Zd,Ze,Zf,Zg,Zh,Zi],[]⟩ W:=by
 conv=>arg 2;whnf
 have HQ:=Lib.hid hQ
 clear hQ
 obtain ⟨i3,hi3,iz0,iz1,iz2⟩:=info_parts infoPair
 have HX:=Lib.hid (And.intro hown hbel)
 clear hown hbel
 go_wp2_with (first
  | (at_builtin
     refine wpList_append_any _ rfl (.tmp 32) (.tmp 36) _ rfl B 57 i3 _ 2 32 Tryz.underlying42 hi3 iz0 iz1 iz2 rfl (by omega) v3 n (l.flatMap pairR) rfl
      (HX.out.1.alloc _) _ (some ⟨W.heap.size,0,none⟩) 1 1 [.string key,.string value] rfl (reads_of_blk (Blk.new W _ _) rfl rfl) (by simp [Value.oneCell']) (by unfold maxLen;omega) (by omega) (by simp;omega) ?_
     intro v4 w4 hown4 hg4 hat4
     have hb4:Below w.heap.size w w4:=below_app (below_alloc HX.out.2 _) (HX.out.1.alloc _) hg4 hB (by have:=HX.out.2.size;simp;omega)))
 have hown5:w4.ownsRow B 57 2 v4 (n + 1) ((l ++ [(key,value)]).flatMap pairR):=by rw [List.flatMap_append];exact hown4
 have hk4:∀ i,i < W.heap.size→v3.ownBlock ≠ some i→w4.heap[i]?=W.heap[i]?:=fun i hi hne=>(hg4.block i (by simp;omega) (fun e=>hne e.symm)).trans (Below.heap_alloc _ _ i hi)
 exact HQ.out _ _ _ _ _ v4 w4 hown5 hb4 hk4 (by have:=hg4.size;simp at this;omega)
set_option maxHeartbeats 3200000 in
set_option maxRecDepth 100000 in
theorem pt_rest {Q:Exit→Act→World→Prop} {w W:World} {x:RBk} {v4:Value} {gx n k B:Nat} {l:List Kv} (hB:w.heap.size ≤ B) (hBW:B ≤ W.heap.size) (hx:x.at_ W) (q:Blk W gx 62 #[.slice x.A x.l.length x.c,.int .u64 x.qk,.int .u64 x.qb]) (hbel:Below w.heap.size w W) (hg:w.heap.size ≤ gx) (hle:n ≤ x.l.length) (hown:W.ownsRow B 57 2 v4 k (l.flatMap pairR)) (hk:k ≤ 1001) (hlen:x.l.length ≤ 1000)
 (hQ:∀ (s38 s39 s40 s41 s42 s43 s44:Value) (A5:Option Addr) (k5:Nat) (W':World),W'.ownsRow B 57 2 (.slice A5 (k + (x.l.length - n)) k5) (k + (x.l.length - n)) ((l ++ x.l.drop n).flatMap pairR)→Blk W' gx 62 #[.slice A5 (k + (x.l.length - n)) k5,.int .u64 x.qk,.int .u64 x.qb]→Below w.heap.size w W'→(∀ i,i < W.heap.size→i ≠ gx→v4.ownBlock ≠ some i→W'.heap[i]?=W.heap[i]?)→Q .normal ⟨#[Xa,Xb,Xc,Xd,Xe,Xf,Xg,Xh,.pointer (some ⟨gx,0,none⟩),.int .i64 (n:Nat),v4,Xl,Xm,Xn,Xo,Xp,Xq,Xr,Xs,Xt,Xu,Xv,Xw,Xx,Xy,Xz,Ya,Yb,Yc,Yd,Ye,Yf,Yg,Yh,Yi,Yj,Yk,Yl,s38,s39,s40,s41,s42,s43,s44,Yt,Yu,Yv,Yw,Yx,Yy,Yz,Za,Zb,Zc,Zd,Ze,Zf,Zg,Zh,Zi],[]⟩ W') :
 Code.wp Tryz.prog (part Tryz.f87 [1,1,1,1,1,1,0]) Q ⟨#[Xa,Xb,Xc,Xd,Xe,Xf,Xg,Xh,.pointer (some ⟨gx,0,none⟩),.int .i64 (n:Nat),v4,Xl,Xm,Xn,Xo,Xp,Xq,Xr,Xs,Xt,Xu,Xv,Xw,Xx,Xy,Xz,Ya,Yb,Yc,Yd,Ye,Yf,Yg,Yh,Yi,Yj,Yk,Yl,Ym,Yn,Yo,Yp,Yq,Yr,Ys,Yt,Yu,Yv,Yw,Yx,Yy,Yz,Za,Zb,Zc,Zd,Ze,Zf,Zg,Zh,Zi],[]⟩ W:=by
 conv=>arg 2;whnf
 have HQ:=Lib.hid hQ
 clear hQ
 have c0:=q.cell 0
 rw [show (#[.slice x.A x.l.length x.c,.int .u64 x.qk,.int .u64 x.qb]:Array Value)[0]?=some (.slice x.A x.l.length x.c) from rfl] at c0
 have c1:=q.cell 1
 rw [show (#[.slice x.A x.l.length x.c,.int .u64 x.qk,.int .u64 x.qb]:Array Value)[1]?=some (.int .u64 x.qk) from rfl] at c1
 have c2:=q.cell 2
 rw [show (#[.slice x.A x.l.length x.c,.int .u64 x.qk,.int .u64 x.qb]:Array Value)[2]?=some (.int .u64 x.qb) from rfl] at c2
 have hxc:=hx.cm
 have hxl:=hx.lc
 have i0:(0:Int) ≤ (n:Int):=by omega
 have i1:(n:Int) ≤ (x.l.length:Int):=by omega
 have hrc:=reads_cut hx.rd hle (Nat.le_refl _) hx.lc
 rw [List.take_of_length_le (by simp)] at hrc
 have HX:=Lib.hid (And.intro hx (And.intro q (And.intro hbel (And.intro hg (And.intro hown hrc)))))
 obtain ⟨i3,hi3,iz0,iz1,iz2⟩:=info_parts infoPair
 clear hx q hbel hg hown hrc
 go_wp2_with (first
  | (at_builtin
     refine wpList_append_any _ rfl (.tmp 38) (.tmp 42) _ rfl B 57 i3 _ 2 32 Tryz.underlying42 hi3 iz0 iz1 iz2 rfl (by omega) v4 k (l.flatMap pairR) rfl
      HX.out.2.2.2.2.1 _ _ (x.l.length - n) _ ((x.l.drop n).flatMap pairR) rfl HX.out.2.2.2.2.2 (pairs_one _) (by unfold maxLen;omega) (by omega) hBW ?_
     intro v5 w5 hown5 hg5 hat5
     obtain ⟨A5,k5,rfl,hn5,hk5,hm5⟩:=own_form hown5
     have q5:=HX.out.2.1.grown hg5 (fun e=>own_blk_ne HX.out.2.2.2.2.1 HX.out.2.1 (by decide) e.symm)
     have c5:w5.cell? ⟨gx,0,none⟩=some (.slice x.A x.l.length x.c):=q5.cell 0
     have f5:=q5.frozen 0))
 all_goals
  have hb6:Below w.heap.size w (w5.setCell ⟨gx,0,none⟩ (.slice A5 (k + (x.l.length - n)) k5)):=(below_app HX.out.2.2.1 HX.out.2.2.2.2.1 hg5 hB HX.out.2.2.1.size).setCell (p:=⟨gx,0,none⟩) HX.out.2.2.2.1 _
  have q6:=q5.set_ 0 (.slice A5 (k + (x.l.length - n)) k5)
  rw [show (#[.slice x.A x.l.length x.c,.int .u64 x.qk,.int .u64 x.qb]:Array Value).setIfInBounds 0 (.slice A5 (k + (x.l.length - n)) k5)=#[.slice A5 (k + (x.l.length - n)) k5,.int .u64 x.qk,.int .u64 x.qb] from rfl] at q6
  have hown6:(w5.setCell ⟨gx,0,none⟩ (.slice A5 (k + (x.l.length - n)) k5)).ownsRow B 57 2 (.slice A5 (k + (x.l.length - n)) k5) (k + (x.l.length - n)) ((l ++ x.l.drop n).flatMap pairR):=by
   rw [List.flatMap_append]
   exact own_same hown5 (fun g e=>Below.heap_setCell _ _ _ g (fun e2=>own_blk_ne hown5 q5 (by decide) (by rw [e,show g=gx from e2])))
  have hk6:∀ i,i < W.heap.size→i ≠ gx→v4.ownBlock ≠ some i→(w5.setCell ⟨gx,0,none⟩ (.slice A5 (k + (x.l.length - n)) k5)).heap[i]?=W.heap[i]?:=fun i hi hne hne2=>(Below.heap_setCell _ _ _ i hne).trans (hg5.block i hi (fun e=>hne2 e.symm))
  exact HQ.out _ _ _ _ _ _ _ A5 k5 _ hown6 q6 hb6 hk6
end Go.Proofs.YtkgflepgkhnclaaGreatDoor
namespace Go.Proofs.YtkgflepgkhnclaaGreatDoor
set_option linter.unusedVariables false
set_option linter.unusedSimpArgs false
open Go.RowKit Go.Shelf
attribute [local go_sem] run_store_complex
set_option maxHeartbeats 3200000 in
set_option maxRecDepth 100000 in
theorem sameAns_any (e:Int) (v:ByteArray) (l:List Kv) (h:Hd) (k b:Int) (A B:Option Addr) (ca cb:Nat) (w:World) (hs:l.length ≤ 1000000) (hA:RBk.at_ ⟨A,ca,l,0,0⟩ w) (hB:RBk.at_ ⟨B,cb,l,0,0⟩ w) :
 Calls Tryz.prog 18 #[.agg #[.int .i64 e,.string v,.slice A l.length ca,.int .i64 h.t,.int .u32 h.g,.int .u8 h.r,.int .u64 k,.int .u64 b,.int .u64 0,.int .u64 0,.int .u64 0,.int .u64 0,.int .u64 0,.int .u64 0,.int .u64 0,.int .u64 0,.complex .f64 0 0],.agg #[.int .i64 e,.string v,.slice B l.length cb,.int .i64 h.t,.int .u32 h.g,.int .u8 h.r,.int .u64 k,.int .u64 b,.int .u64 0,.int .u64 0,.int .u64 0,.int .u64 0,.int .u64 0,.int .u64 0,.int .u64 0,.int .u64 0,.complex .f64 0 0]] w (BoolB true w):=by
 have hb0:Below w.heap.size w ((w.alloc (.cells #[.int .i64 e,.string v,.slice A l.length ca,.int .i64 h.t,.int .u32 h.g,.int .u8 h.r,.int .u64 k,.int .u64 b,.int .u64 0,.int .u64 0,.int .u64 0,.int .u64 0,.int .u64 0,.int .u64 0,.int .u64 0,.int .u64 0,.complex .f64 0 0] 52)).alloc (.cells #[.int .i64 e,.string v,.slice B l.length cb,.int .i64 h.t,.int .u32 h.g,.int .u8 h.r,.int .u64 k,.int .u64 b,.int .u64 0,.int .u64 0,.int .u64 0,.int .u64 0,.int .u64 0,.int .u64 0,.int .u64 0,.int .u64 0,.complex .f64 0 0] 52)):=below_alloc (below_box w (.cells #[.int .i64 e,.string v,.slice A l.length ca,.int .i64 h.t,.int .u32 h.g,.int .u8 h.r,.int .u64 k,.int .u64 b,.int .u64 0,.int .u64 0,.int .u64 0,.int .u64 0,.int .u64 0,.int .u64 0,.int .u64 0,.int .u64 0,.complex .f64 0 0] 52)) (.cells #[.int .i64 e,.string v,.slice B l.length cb,.int .i64 h.t,.int .u32 h.g,.int .u8 h.r,.int .u64 k,.int .u64 b,.int .u64 0,.int .u64 0,.int .u64 0,.int .u64 0,.int .u64 0,.int .u64 0,.int .u64 0,.int .u64 0,.complex .f64 0 0] 52)
 have q1:Blk ((w.alloc (.cells #[.int .i64 e,.string v,.slice A l.length ca,.int .i64 h.t,.int .u32 h.g,.int .u8 h.r,.int .u64 k,.int .u64 b,.int .u64 0,.int .u64 0,.int .u64 0,.int .u64 0,.int .u64 0,.int .u64 0,.int .u64 0,.int .u64 0,.complex .f64 0 0] 52)).alloc (.cells #[.int .i64 e,.string v,.slice B l.length cb,.int .i64 h.t,.int .u32 h.g,.int .u8 h.r,.int .u64 k,.int .u64 b,.int .u64 0,.int .u64 0,.int .u64 0,.int .u64 0,.int .u64 0,.int .u64 0,.int .u64 0,.int .u64 0,.complex .f64 0 0] 52)) w.heap.size 52 #[.int .i64 e,.string v,.slice A l.length ca,.int .i64 h.t,.int .u32 h.g,.int .u8 h.r,.int .u64 k,.int .u64 b,.int .u64 0,.int .u64 0,.int .u64 0,.int .u64 0,.int .u64 0,.int .u64 0,.int .u64 0,.int .u64 0,.complex .f64 0 0]:=(Blk.new w _ _).alloc _
 have q2:Blk ((w.alloc (.cells #[.int .i64 e,.string v,.slice A l.length ca,.int .i64 h.t,.int .u32 h.g,.int .u8 h.r,.int .u64 k,.int .u64 b,.int .u64 0,.int .u64 0,.int .u64 0,.int .u64 0,.int .u64 0,.int .u64 0,.int .u64 0,.int .u64 0,.complex .f64 0 0] 52)).alloc (.cells #[.int .i64 e,.string v,.slice B l.length cb,.int .i64 h.t,.int .u32 h.g,.int .u8 h.r,.int .u64 k,.int .u64 b,.int .u64 0,.int .u64 0,.int .u64 0,.int .u64 0,.int .u64 0,.int .u64 0,.int .u64 0,.int .u64 0,.complex .f64 0 0] 52)) (w.heap.size + 1) 52 #[.int .i64 e,.string v,.slice B l.length cb,.int .i64 h.t,.int .u32 h.g,.int .u8 h.r,.int .u64 k,.int .u64 b,.int .u64 0,.int .u64 0,.int .u64 0,.int .u64 0,.int .u64 0,.int .u64 0,.int .u64 0,.int .u64 0,.complex .f64 0 0]:=blk_at (by simp)
 have HX:=Lib.hid (And.intro q1 (And.intro q2 (And.intro hb0 (And.intro (hA.below hb0) (And.intro (hB.below hb0) hs)))))
 clear q1 q2 hb0 hA hB hs
 go_enter Tryz.func18,Tryz.ntmps18
 refine wp_seq_k fun K0 hK=>?_
 have HK0:=Lib.hid hK
 clear hK
 go_wp2_with fail
 refine HK0.out _ _ ?_
 clear HK0
 try simp only [Act.put]
 generalize hwa:(w.alloc (.cells #[.int .i64 e,.string v,.slice A l.length ca,.int .i64 h.t,.int .u32 h.g,.int .u8 h.r,.int .u64 k,.int .u64 b,.int .u64 0,.int .u64 0,.int .u64 0,.int .u64 0,.int .u64 0,.int .u64 0,.int .u64 0,.int .u64 0,.complex .f64 0 0] 52)).alloc (.cells #[.int .i64 e,.string v,.slice B l.length cb,.int .i64 h.t,.int .u32 h.g,.int .u8 h.r,.int .u64 k,.int .u64 b,.int .u64 0,.int .u64 0,.int .u64 0,.int .u64 0,.int .u64 0,.int .u64 0,.int .u64 0,.int .u64 0,.complex .f64 0 0] 52)=w1 at HX ⊢
 clear hwa
 obtain ⟨g1,hg1⟩:∃ g,w.heap.size=g:=⟨_,rfl⟩
 obtain ⟨q1,q2,q3,q4,q5,q6⟩:=HX.out
 rw [hg1] at q1 q2 ⊢
 have HY:=Lib.hid (And.intro q1 (And.intro q2 (And.intro q3 (And.intro q4 (And.intro q5 q6)))))
 clear q1 q2 q3 q4 q5 q6 HX hg1
 have a0:w1.cell? ⟨g1,0,none⟩=_:=HY.out.1.cell 0
 have b0:w1.cell? ⟨g1 + 1,0,none⟩=_:=HY.out.2.1.cell 0
 have a1:w1.cell? ⟨g1,1,none⟩=_:=HY.out.1.cell 1
 have b1:w1.cell? ⟨g1 + 1,1,none⟩=_:=HY.out.2.1.cell 1
 have a2:w1.cell? ⟨g1,2,none⟩=_:=HY.out.1.cell 2
 have b2:w1.cell? ⟨g1 + 1,2,none⟩=_:=HY.out.2.1.cell 2
 simp only [List.getElem?_toArray,List.getElem?_cons_zero,List.getElem?_cons_succ] at a0 b0 a1 b1 a2 b2
 have he1:(e == e)=true:=by simp
 have he2:(v.toList == v.toList)=true:=by simp
 have HP:=Lib.hid (same_prs A B ca cb l w1.heap.size w1.heap.size w1 HY.out.2.2.2.2.2 HY.out.2.2.2.1.rd HY.out.2.2.2.2.1.rd)
 go_wp2_with fail
 refine HP.out.mono ?_
 rintro e2 w2 ⟨rfl,n,rfl⟩
 have hd:Below w1.heap.size w1 (w1.drewN n):=drewB (Below.refl _ _) n
 have HZ:=Lib.hid (And.intro (show Blk (w1.drewN n) g1 52 #[.int .i64 e,.string v,.slice A l.length ca,.int .i64 h.t,.int .u32 h.g,.int .u8 h.r,.int .u64 k,.int .u64 b,.int .u64 0,.int .u64 0,.int .u64 0,.int .u64 0,.int .u64 0,.int .u64 0,.int .u64 0,.int .u64 0,.complex .f64 0 0] from HY.out.1.below hd HY.out.1.lt) (And.intro (show Blk (w1.drewN n) (g1 + 1) 52 #[.int .i64 e,.string v,.slice B l.length cb,.int .i64 h.t,.int .u32 h.g,.int .u8 h.r,.int .u64 k,.int .u64 b,.int .u64 0,.int .u64 0,.int .u64 0,.int .u64 0,.int .u64 0,.int .u64 0,.int .u64 0,.int .u64 0,.complex .f64 0 0] from HY.out.2.1.below hd HY.out.2.1.lt) (below_trans HY.out.2.2.1 hd)))
 clear HY HP hd he1 he2 a0 b0 a1 b1 a2 b2
 generalize w1.drewN n=w3 at HZ ⊢
 have a3:w3.cell? ⟨g1,3,none⟩=_:=HZ.out.1.cell 3
 have b3:w3.cell? ⟨g1 + 1,3,none⟩=_:=HZ.out.2.1.cell 3
 have a4:w3.cell? ⟨g1,4,none⟩=_:=HZ.out.1.cell 4
 have b4:w3.cell? ⟨g1 + 1,4,none⟩=_:=HZ.out.2.1.cell 4
 have a5:w3.cell? ⟨g1,5,none⟩=_:=HZ.out.1.cell 5
 have b5:w3.cell? ⟨g1 + 1,5,none⟩=_:=HZ.out.2.1.cell 5
 have a6:w3.cell? ⟨g1,6,none⟩=_:=HZ.out.1.cell 6
 have b6:w3.cell? ⟨g1 + 1,6,none⟩=_:=HZ.out.2.1.cell 6
 have a7:w3.cell? ⟨g1,7,none⟩=_:=HZ.out.1.cell 7
 have b7:w3.cell? ⟨g1 + 1,7,none⟩=_:=HZ.out.2.1.cell 7
 have a8:w3.cell? ⟨g1,8,none⟩=_:=HZ.out.1.cell 8
 have b8:w3.cell? ⟨g1 + 1,8,none⟩=_:=HZ.out.2.1.cell 8
 have a9:w3.cell? ⟨g1,9,none⟩=_:=HZ.out.1.cell 9
 have b9:w3.cell? ⟨g1 + 1,9,none⟩=_:=HZ.out.2.1.cell 9
 have a10:w3.cell? ⟨g1,10,none⟩=_:=HZ.out.1.cell 10
 have b10:w3.cell? ⟨g1 + 1,10,none⟩=_:=HZ.out.2.1.cell 10
 have a11:w3.cell? ⟨g1,11,none⟩=_:=HZ.out.1.cell 11
 have b11:w3.cell? ⟨g1 + 1,11,none⟩=_:=HZ.out.2.1.cell 11
 have a12:w3.cell? ⟨g1,12,none⟩=_:=HZ.out.1.cell 12
 have b12:w3.cell? ⟨g1 + 1,12,none⟩=_:=HZ.out.2.1.cell 12
 have a13:w3.cell? ⟨g1,13,none⟩=_:=HZ.out.1.cell 13
 have b13:w3.cell? ⟨g1 + 1,13,none⟩=_:=HZ.out.2.1.cell 13
 have a14:w3.cell? ⟨g1,14,none⟩=_:=HZ.out.1.cell 14
 have b14:w3.cell? ⟨g1 + 1,14,none⟩=_:=HZ.out.2.1.cell 14
 have a15:w3.cell? ⟨g1,15,none⟩=_:=HZ.out.1.cell 15
 have b15:w3.cell? ⟨g1 + 1,15,none⟩=_:=HZ.out.2.1.cell 15
 have a16:w3.cell? ⟨g1,16,none⟩=_:=HZ.out.1.cell 16
 have b16:w3.cell? ⟨g1 + 1,16,none⟩=_:=HZ.out.2.1.cell 16
 simp only [List.getElem?_toArray,List.getElem?_cons_zero,List.getElem?_cons_succ] at a3 b3 a4 b4 a5 b5 a6 b6 a7 b7 a8 b8 a9 b9 a10 b10 a11 b11 a12 b12 a13 b13 a14 b14 a15 b15 a16 b16
 have hqe:∀ W,(binOp .eql 37 (.agg #[.int .i64 h.t,.int .u32 h.g,.int .u8 h.r]) (.agg #[.int .i64 h.t,.int .u32 h.g,.int .u8 h.r])).run Tryz.prog W=.ok (.bool true) W:=fun W=>by rw [eqlHandle,decide_eq_true rfl]
 have hgd:=guardHd
 have HS:=Lib.hid (sameStat_any k b w3)
 go_wp2_with fail
 refine HS.out.mono ?_
 rintro e3 w4 ⟨rfl,hb4⟩
 have HB4:=Lib.hid (below_trans HZ.out.2.2 hb4)
 clear hb4
 go_wp2_with fail
 go_ret
 exact ⟨rfl,HB4.out⟩
end Go.Proofs.YtkgflepgkhnclaaGreatDoor
