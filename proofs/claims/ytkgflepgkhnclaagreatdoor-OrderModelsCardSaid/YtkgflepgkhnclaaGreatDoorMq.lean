/- Layer 27: order: replay, a round. Layer 27: order: replay, a round. Layer 27: order: replay, whole (for Witness). Layer 27: order: replay, whole (for Witness). Layer 27: order: Witness. Layer 27: order: deedsOf. Layer 27: order: what a search comes to; the search's inner test. Layer 27: order: a search's world. Layer 27: order: a search's closure: the inner loop, a step, the call of itself. Layer 27: order: a search's closure. Layer 27: awake: the example's entries and Dones; models whose text is short. -/
import Derived.Test.YtkgflepgkhnclaaGreatDoorMp
import Derived.Test.YtkgflepgkhnclaaGreatDoorMo2
import Derived.Deep.QuietTactic
import Derived.BigQuiet
import Derived.Test.YtkgflepgkhnclaaGreatDoorMh
import Derived.Test.YtkgflepgkhnclaaGreatDoorMo3
namespace Go.Proofs.YtkgflepgkhnclaaGreatDoor
set_option linter.unusedVariables false
set_option linter.unusedSimpArgs false
open Go.RowKit Go.Shelf Go.Sort
attribute [local go_sem] run_store_complex
def EsAt (w:World) (A:Option Addr) (es:List Ent):Prop:=0 < es.length→∃ g o,A=some ⟨g,o,none⟩∧g < w.heap.size∧w.rangeAt g o (es.flatMap Ent.row)
structure RpW (w:World) (p blk:Nat) (arr:Array Mo) (M:Mdl) (W:World):Prop where
 mdl:∃ M' T,StLike M M'∧ModelAt W p M' T∧∀ i,mown p M' T i→w.heap.size ≤ i
 q:SmQ M
 row:HoldsK Mo.row 3 W blk 0 arr
 blk:∃ cs,Blk W blk 204 cs
 bel:RowKit.Below w.heap.size w W
theorem holdsK_on {W W':World} {blk:Nat} {arr:Array Mo} (h:HoldsK Mo.row 3 W blk 0 arr) (hb:W'.heap[blk]?=W.heap[blk]?):HoldsK Mo.row 3 W' blk 0 arr:=fun j hj=>by
 have h1:=h j hj
 exact ⟨(World.cell?_of_block (w:=W) hb).trans h1.1,(World.frozen?_of_block (w:=W) hb).trans h1.2⟩
theorem RpW.below {w W W':World} {p blk:Nat} {arr:Array Mo} {M:Mdl} (h:RpW w p blk arr M W) (hb:RowKit.Below W.heap.size W W'):RpW w p blk arr M W':=by
 obtain ⟨M',T,h1,h2,h3⟩:=h.mdl
 obtain ⟨cs,h4⟩:=h.blk
 exact ⟨⟨M',T,h1,h2.below hb,h3⟩,h.q,holdsK_on h.row (hb.block _ h4.lt),⟨cs,h4.below hb h4.lt⟩,below_trans h.bel hb⟩
theorem RpW.keep {w W W':World} {p blk:Nat} {arr:Array Mo} {M N N':Mdl} {T':Ows} (h:RpW w p blk arr M W) (hk:KeepC (fun i=>i=p) W W') (hl:StLike N N') (hm:ModelAt W' p N' T') (ho:∀ i,mown p N' T' i→w.heap.size ≤ i) (hq:SmQ N):RpW w p blk arr N W':=by
 obtain ⟨M',T,h1,h2,h3⟩:=h.mdl
 obtain ⟨cs,h4⟩:=h.blk
 have hp:w.heap.size ≤ p:=h3 p (.inl rfl)
 have hne:blk ≠ p:=blk_ne h4 h2.blk (by decide)
 exact ⟨⟨N',T',hl,hm,ho⟩,hq,holdsK_on h.row (hk.block _ h4.lt (.inl hne)),⟨cs,hk.blk h4 hne⟩,⟨hk.os.trans h.bel.os,hk.tape.trans h.bel.tape,hk.output.trans h.bel.output,Nat.le_trans h.bel.size hk.size,fun i hi=>by
  rw [hk.block i (Nat.lt_of_lt_of_le hi h.bel.size) (.inl (by omega)),h.bel.block i hi]⟩⟩
structure DnOk (d:Dn) (l:List Kv):Prop where
 err:d.err ≠ 13∧d.err ≠ 14
 s:d.s0=0∧d.s1=0∧d.s2=0∧d.s3=0∧d.s4=0∧d.s5=0∧d.s6=0∧d.s7=0∧d.s8=0∧d.s9=0∧d.la=0∧d.lb=0
 pn:d.pn=l.length
 len:l.length ≤ 1000000
def rpB (M:Mdl) (r:Req) (d:Dn) (l:List Kv):Bool:=stepB r d.err (doN M r).2.err d.val (doN M r).2.val l (doN M r).2.prs d.h (doN M r).2.h
theorem w_after (i:Int) (v:Value) (W:World):Calls Tryz.prog 77 #[.int .i64 i,v] W (fun e w'=>e=.returned (.tuple #[])∧w'=W):=by
 go_enter Tryz.func77,Tryz.ntmps77
 go_wp2
 go_end0
 exact ⟨rfl,rfl⟩
theorem rp_ended {w W:World} {p blk:Nat} {arr:Array Mo} {M:Mdl} {r:Req} {d:Dn} {l:List Kv} (h:RpW w p blk arr M W) (hd:DnOk d l) :
 Calls Tryz.prog 21 #[.pointer (some ⟨p,0,none⟩),r.v,.agg d.ans.toArray] W (fun e w'=>e=.returned (.tuple #[])∧RpW w p blk arr M w'):=by
 obtain ⟨M',T,h1,h2,h3⟩:=h.mdl
 refine (Ended_m h2 r d (by rw [hd.pn];have:=hd.len;omega)).mono ?_
 rintro e w' ⟨rfl,N,hl,hm,hk⟩
 exact ⟨rfl,h.keep hk (h1.trans hl) hm (fun i hi=>h3 i (hi.imp id (fun ⟨t,ht,hs,hi⟩=>⟨t,ht,by rw [← (hl t).2.2.2];exact hs,hi⟩))) h.q⟩
theorem rp_step {w W:World} {p blk W1:Nat} {arr:Array Mo} {M:Mdl} {r:Req} {d:Dn} {l:List Kv} (h:RpW w p blk arr M W) (hd:DnOk d l) (hr:r.ok) (hq:r.qk ≤ 1000000) (h6:r.deed ≠ 6) (hA:Reads W W1 2 d.pA l.length (l.flatMap pairR)) (hW1:W1 ≤ W.heap.size) :
 Calls Tryz.prog 22 #[.pointer (some ⟨p,0,none⟩),r.v,.agg d.ans.toArray] W (fun e w'=>e=.returned (.bool (rpB M r d l))∧(rpB M r d l=true→RpW w p blk arr (doN M r).1 w')∧(rpB M r d l=false→RpW w p blk arr M w')∧KeepC (fun i=>i=p) W w'):=by
 obtain ⟨M',T,h1,h2,h3⟩:=h.mdl
 obtain ⟨e1,e2⟩:=do_like h1 r h6
 have hsm:=(h.q.like h1).small h2
 obtain ⟨R,hR⟩:∃ R,doN M' r=R:=⟨_,rfl⟩
 have hst:R.2.st=st0:=by rw [← hR];exact do_st0 M' r h6
 have hpl:R.2.prs.length ≤ 1000000:=by rw [← hR];exact prs_len hsm r
 obtain ⟨M2,a⟩:=R
 obtain ⟨ae,av,ap,ah,ast⟩:=a
 dsimp only at hst hpl
 subst hst
 have hS:=Step_m h2 hsm r hr d.err ae d.val av l ap d.h ah d.pA d.pc W1 hd.len hpl hA hW1 hR hd.err
 have hans:d.ans.toArray=#[.int .i64 d.err,.string d.val,.slice d.pA l.length d.pc,.int .i64 d.h.t,.int .u32 d.h.g,.int .u8 d.h.r,.int .u64 0,.int .u64 0,.int .u64 0,.int .u64 0,.int .u64 0,.int .u64 0,.int .u64 0,.int .u64 0,.int .u64 0,.int .u64 0,.complex .f64 0 0]:=by
  obtain ⟨s0,s1,s2,s3,s4,s5,s6,s7,s8,s9,sa,sb⟩:=hd.s
  unfold Dn.ans
  rw [hd.pn,s0,s1,s2,s3,s4,s5,s6,s7,s8,s9,sa,sb]
 rw [hans]
 rw [hR] at e1
 have hb:rpB M r d l=stepB r d.err ae d.val av l ap d.h ah:=by unfold rpB;rw [← e1]
 rw [hb]
 refine hS.mono ?_
 rintro e w' ⟨he,hf,ht⟩
 refine ⟨he,fun hx=>?_,fun hx=>h.below (hf hx),?_⟩
 rotate_left
 · rcases Bool.eq_false_or_eq_true (stepB r d.err ae d.val av l ap d.h ah) with hx | hx
   · obtain ⟨T',m,ho,hk⟩:=ht hx
     exact hk
   · exact .of_below (hf hx)
 obtain ⟨T',m,ho,hk⟩:=ht hx
 rw [hR] at e2
 have hp:w.heap.size ≤ p:=h3 p (.inl rfl)
 exact h.keep hk e2 m (fun i hi=>(ho i hi).elim (fun e=>by rw [e];exact hp) (fun hh=>Nat.le_trans h.bel.size hh)) (smQ_do h.q r hq)
end Go.Proofs.YtkgflepgkhnclaaGreatDoor
namespace Go.Proofs.YtkgflepgkhnclaaGreatDoor
set_option linter.unusedVariables false
set_option linter.unusedSimpArgs false
open Go.RowKit Go.Shelf
attribute [local go_sem] run_store_complex
variable {Xa Xb Xc Xd Xe Xf Xg Xh Xi Xj Xk Xl Xm Xn Xo Xp Xq Xr Xs Xt Xu Xv Xw Xx Xy Xz Ya Yb Yc Yd Ye Yf Yg Yh Yi Yj Yk Yl Ym Yn Yo Yp Yq Yr Ys Yt Yu Yv Yw Yx Yy Yz Za Zb Zc Zd Ze Zf Zg Zh Zi Zj Zk Zl Zm Zn Zo Zp Zq Zr Zs Zt Zu Zv Zw Zx Zy Zz Ja Jb Jc Jd Je Jf Jg Jh Ji Jj Jk Jl Jm Jn Jo Jp Jq Jr Js Jt Ju Jv Jw Jy Jz Va Vb Vc Vd Ve Vf Vg Vh Vi Vj Vk Vl Vm Vn Vo Vp Vq Vr Vs Vt Vu Vv Vw Vx Vy Vz Oa Ob Oc Od Oe Og Oh Oi Oj Ok Ol Om On Oo Oq Ot Ou Ov Ox Oy Oz Ha Hb Hc He Hf Hg Hh Hi Hj Hk Hl Hm Hn Ho Hp Hq Hr Hs Ht Hu Hv Hw Hx Hy Hz Ia Ib Ic Id Ie If Ig Ih Ii Ij Ik Il Im In Io Ip Iq Ir It Iu Iv Iw Ix Iy Iz Ua Ub Uc Ud Ue Uf Ug Uh Ui Uj Uk Ul:Value}
set_option maxHeartbeats 6400000 in
set_option maxRecDepth 100000 in
theorem rp_round {w W:World} {p blk ge oe gd od ne nd nm ce cd cm k i j W1:Nat} {arr:Array Mo} {M:Mdl} {mo:Mo} {d:Dn} {en:Ent} {l:List Kv} {Q:Exit→Act→World→Prop} (h:RpW w p blk arr M W)
 (her:w.rangeAt ge (oe + j * 13) en.row) (le0:ge < w.heap.size) (hdr:w.rangeAt gd (od + i * 21) d.row) (ld0:gd < w.heap.size) (hkn:k < nm) (hmo:W.rangeAt blk (0 + k * 3) mo.row) (hmd:mo.d=(i:Nat)) (hi:i < nd) (hdj:d.e=(j:Nat)) (hj:j < ne)
 (hd:DnOk d l) (hr:en.r.ok) (hq:en.r.qk ≤ 1000000) (h6:en.r.deed ≠ 6) (hA:Reads w W1 2 d.pA l.length (l.flatMap pairR)) (hW1:W1 ≤ w.heap.size)
 (hR:mo.e=false→rpB M en.r d l=false→∀ (s12 s13 s14 s41 s42 s43 s44 s45 s46 s47 s48 s49 s50 s51 s52 s53 s54 s55 s56 s57 s58 s59 s60 s61 s62 s63 s64 s65 s66 s67 s68 s69 s70 s71 s72 s73 s74 s75 s76 s77:Value) (W':World),Below w.heap.size w W'→Q .ret ⟨#[.slice (some ⟨ge,oe,none⟩) ne ce,.slice (some ⟨gd,od,none⟩) nd cd,.func (.func 77) #[] #[],Xd,Xe,Xf,.int .i64 (i:Nat),Xh,Xi,Xj,.pointer (some ⟨p,0,none⟩),Xl,s12,s13,s14,Xp,Xq,Xr,Xs,Xt,Xu,Xv,Xw,Xx,Xy,Xz,Ya,Yb,Yc,Yd,Ye,Yf,Yg,Yh,Yi,Yj,Yk,.slice (some ⟨blk,0,none⟩) nm cm,Ym,.int .i64 (k:Nat),Yo,s41,s42,s43,s44,s45,s46,s47,s48,s49,s50,s51,s52,s53,s54,s55,s56,s57,s58,s59,s60,s61,s62,s63,s64,s65,s66,s67,s68,s69,s70,s71,s72,s73,s74,s75,s76,s77,Ja,Jb,Jc],[]⟩ W')
 (hN:mo.e=true ∨ rpB M en.r d l=true→∀ (s12 s13 s14 s41 s42 s43 s44 s45 s46 s47 s48 s49 s50 s51 s52 s53 s54 s55 s56 s57 s58 s59 s60 s61 s62 s63 s64 s65 s66 s67 s68 s69 s70 s71 s72 s73 s74 s75 s76 s77:Value) (W':World),RpW w p blk arr (if mo.e then M else (doN M en.r).1) W'→Q .normal ⟨#[.slice (some ⟨ge,oe,none⟩) ne ce,.slice (some ⟨gd,od,none⟩) nd cd,.func (.func 77) #[] #[],Xd,Xe,Xf,Xg,Xh,Xi,Xj,.pointer (some ⟨p,0,none⟩),Xl,s12,s13,s14,Xp,Xq,Xr,Xs,Xt,Xu,Xv,Xw,Xx,Xy,Xz,Ya,Yb,Yc,Yd,Ye,Yf,Yg,Yh,Yi,Yj,Yk,.slice (some ⟨blk,0,none⟩) nm cm,Ym,.int .i64 (k:Nat),Yo,s41,s42,s43,s44,s45,s46,s47,s48,s49,s50,s51,s52,s53,s54,s55,s56,s57,s58,s59,s60,s61,s62,s63,s64,s65,s66,s67,s68,s69,s70,s71,s72,s73,s74,s75,s76,s77,Ja,Jb,Jc],[]⟩ W') :
 Code.wp Tryz.prog (part Tryz.f76 [1,1,1,1,1,0,1,2,2,1,1,0,2]) Q ⟨#[.slice (some ⟨ge,oe,none⟩) ne ce,.slice (some ⟨gd,od,none⟩) nd cd,.func (.func 77) #[] #[],Xd,Xe,Xf,Xg,Xh,Xi,Xj,.pointer (some ⟨p,0,none⟩),Xl,Xm,Xn,Xo,Xp,Xq,Xr,Xs,Xt,Xu,Xv,Xw,Xx,Xy,Xz,Ya,Yb,Yc,Yd,Ye,Yf,Yg,Yh,Yi,Yj,Yk,.slice (some ⟨blk,0,none⟩) nm cm,Ym,.int .i64 (k:Nat),Yo,Yp,Yq,Yr,Ys,Yt,Yu,Yv,Yw,Yx,Yy,Yz,Za,Zb,Zc,Zd,Ze,Zf,Zg,Zh,Zi,Zj,Zk,Zl,Zm,Zn,Zo,Zp,Zq,Zr,Zs,Zt,Zu,Zv,Zw,Zx,Zy,Zz,Ja,Jb,Jc],[]⟩ W:=by
 conv=>arg 2;whnf
 have HR:=Lib.hid hR
 have HN:=Lib.hid hN
 have hk1:(0:Int) ≤ (k:Int):=by omega
 have hk2:(k:Int) < (nm:Int):=by omega
 have m0:W.cell? ⟨blk,0 + k * 3,none⟩=some (.int .i64 mo.p):=hmo 0 _ rfl
 have m1:W.cell? ⟨blk,0 + k * 3 + 1,none⟩=some (.int .i64 mo.d):=hmo 1 _ rfl
 have m2:W.cell? ⟨blk,0 + k * 3 + 2,none⟩=some (.bool mo.e):=hmo 2 _ rfl
 obtain ⟨be,hbe⟩:∃ q,mo.e=q:=⟨_,rfl⟩
 rw [hbe] at m2
 rw [hmd] at m1
 rw [hbe] at HR HN
 rw [Nat.zero_add] at m0 m1 m2
 have hm1:=Blk.new W 204 #[.int .i64 mo.p,.int .i64 (i:Nat),.bool be]
 have H1:=Lib.hid (h.below (below_box W (.cells #[.int .i64 mo.p,.int .i64 (i:Nat),.bool be] 204)))
 have HM1:=Lib.hid hm1
 have HX:=Lib.hid (And.intro her (And.intro hdr (And.intro hd (And.intro hr (And.intro hq (And.intro h6 hA))))))
 have hsw:=h.bel.size
 clear hR hN hmo hm1 hmd hbe her hdr hd hr hq h6 hA h
 refine wp_seq_k fun K0 hK=>?_
 have HK0:=Lib.hid hK
 clear hK
 go_wp2_with fail
 refine HK0.out _ _ ?_
 clear HK0 K0 m0 m1 m2
 have hgx:W.heap.size < (W.alloc (.cells #[.int .i64 mo.p,.int .i64 (i:Nat),.bool be] 204)).heap.size:=by simp
 generalize W.alloc (.cells #[.int .i64 mo.p,.int .i64 (i:Nat),.bool be] 204)=V at H1 HM1 hgx ⊢
 refine wp_seq_k fun K0 hK=>?_
 have HK0:=Lib.hid hK
 clear hK
 have hm1:=HM1.out
 have hx:=H1.out.bel
 obtain ⟨her,hdr,-⟩:=HX.out
 have hsv:=H1.out.bel.size
 refine rp_load (x:=d) (r:=en.r) (i:=i) (j:=j) (gx:=W.heap.size) (ge:=ge) (oe:=oe) (gd:=gd) (od:=od) ⟨hm1.cell 1,(hx.cell (p:=⟨gd,od + i * 21,none⟩) (by exact ld0)).trans (by have:=hdr 0 _ rfl;rw [hdj] at this;exact this),(hx.cell (p:=⟨gd,od + i * 21 + 4,none⟩) (by exact ld0)).trans (hdr 4 _ rfl),(hx.cell (p:=⟨gd,od + i * 21 + 5,none⟩) (by exact ld0)).trans (hdr 5 _ rfl),(hx.cell (p:=⟨gd,od + i * 21 + 6,none⟩) (by exact ld0)).trans (hdr 6 _ rfl),(hx.cell (p:=⟨gd,od + i * 21 + 7,none⟩) (by exact ld0)).trans (hdr 7 _ rfl),(hx.cell (p:=⟨gd,od + i * 21 + 8,none⟩) (by exact ld0)).trans (hdr 8 _ rfl),(hx.cell (p:=⟨gd,od + i * 21 + 9,none⟩) (by exact ld0)).trans (hdr 9 _ rfl),(hx.cell (p:=⟨gd,od + i * 21 + 10,none⟩) (by exact ld0)).trans (hdr 10 _ rfl),(hx.cell (p:=⟨gd,od + i * 21 + 11,none⟩) (by exact ld0)).trans (hdr 11 _ rfl),(hx.cell (p:=⟨gd,od + i * 21 + 12,none⟩) (by exact ld0)).trans (hdr 12 _ rfl),(hx.cell (p:=⟨gd,od + i * 21 + 13,none⟩) (by exact ld0)).trans (hdr 13 _ rfl),(hx.cell (p:=⟨gd,od + i * 21 + 14,none⟩) (by exact ld0)).trans (hdr 14 _ rfl),(hx.cell (p:=⟨gd,od + i * 21 + 15,none⟩) (by exact ld0)).trans (hdr 15 _ rfl),(hx.cell (p:=⟨gd,od + i * 21 + 16,none⟩) (by exact ld0)).trans (hdr 16 _ rfl),(hx.cell (p:=⟨gd,od + i * 21 + 17,none⟩) (by exact ld0)).trans (hdr 17 _ rfl),(hx.cell (p:=⟨gd,od + i * 21 + 18,none⟩) (by exact ld0)).trans (hdr 18 _ rfl),(hx.cell (p:=⟨gd,od + i * 21 + 19,none⟩) (by exact ld0)).trans (hdr 19 _ rfl),(hx.cell (p:=⟨gd,od + i * 21 + 20,none⟩) (by exact ld0)).trans (hdr 20 _ rfl),(hx.cell (p:=⟨ge,oe + j * 13 + 1,none⟩) (by exact le0)).trans (her 1 _ rfl),(hx.cell (p:=⟨ge,oe + j * 13 + 2,none⟩) (by exact le0)).trans (her 2 _ rfl),(hx.cell (p:=⟨ge,oe + j * 13 + 3,none⟩) (by exact le0)).trans (her 3 _ rfl),(hx.cell (p:=⟨ge,oe + j * 13 + 4,none⟩) (by exact le0)).trans (her 4 _ rfl),(hx.cell (p:=⟨ge,oe + j * 13 + 5,none⟩) (by exact le0)).trans (her 5 _ rfl),(hx.cell (p:=⟨ge,oe + j * 13 + 6,none⟩) (by exact le0)).trans (her 6 _ rfl),(hx.cell (p:=⟨ge,oe + j * 13 + 7,none⟩) (by exact le0)).trans (her 7 _ rfl),(hx.cell (p:=⟨ge,oe + j * 13 + 8,none⟩) (by exact le0)).trans (her 8 _ rfl),(hx.cell (p:=⟨ge,oe + j * 13 + 9,none⟩) (by exact le0)).trans (her 9 _ rfl),(hx.cell (p:=⟨ge,oe + j * 13 + 10,none⟩) (by exact le0)).trans (her 10 _ rfl),(hx.cell (p:=⟨ge,oe + j * 13 + 11,none⟩) (by exact le0)).trans (her 11 _ rfl),(hx.cell (p:=⟨ge,oe + j * 13 + 12,none⟩) (by exact le0)).trans (her 12 _ rfl)⟩ hgx (Nat.lt_of_lt_of_le ld0 hsv) (Nat.lt_of_lt_of_le le0 hsv) hi hj (fun t43 t44 t45 t46 t47 t48 t49 t50 t51 t52 t53 t54 t55 t56 t57 t58 b13 b14 W2 q13 q14 hb2=>?_)
 refine HK0.out _ _ ?_
 clear HK0 K0 hm1 hx her hdr
 have H2:=Lib.hid (H1.out.below hb2)
 have hm2:=HM1.out.below hb2 HM1.out.lt
 have c1:=hm2.cell 1
 have c2:=hm2.cell 2
 have hgx2:=hm2.lt
 have R13:W2.rangeAt b13 0 en.r.row:=by have:=range_blk q13;simpa using this
 have R14:W2.rangeAt b14 0 d.ans:=by have:=range_blk q14;simpa using this
 have HM2:=Lib.hid hm2
 clear hm2 hb2 q13 q14 H1 HM1
 dsimp only
 obtain ⟨-,-,hd,hr,hq,h6,hA⟩:=HX.out
 cases be
 · have HS:=Lib.hid (rp_step H2.out hd hr hq h6 (hA.keep fun y hy=>H2.out.bel.cell (by omega)) (Nat.le_trans hW1 H2.out.bel.size))
   clear hd hr hq h6 hA
   go_wp2_with (first
    | (refine wpList_load_mid rfl 39 (.tmp 13) rfl b13 0 rfl _ _ R13 Tryz.underlying39 rfl infoReq ?_)
    | (refine wpList_load_mid rfl 52 (.tmp 14) rfl b14 0 rfl _ _ R14 Tryz.underlying52 rfl infoAns ?_))
   refine HS.out.mono ?_
   intro e W3 h3
   obtain ⟨rfl,ht,hf,hk3⟩:=h3
   have hgp:W.heap.size ≠ p:=by
    obtain ⟨M',T,-,hm,-⟩:=H2.out.mdl
    exact blk_ne HM2.out hm.blk (by decide)
   have d1:=(KeepC.blk HM2.out hk3 hgp).cell 1
   obtain ⟨b,hb⟩:∃ b,rpB M en.r d l=b:=⟨_,rfl⟩
   rw [hb] at ht hf ⊢
   rw [hb] at HR HN
   clear hk3 HS hgp hb c1 c2
   cases b
   · have H3:=Lib.hid (hf rfl)
     clear ht hf
     go_wp2_with fail
     exact HR.out (by simp) (by simp) _ _ _ _ _ _ _ _ _ _ _ _ _ _ _ _ _ _ _ _ _ _ _ _ _ _ _ _ _ _ _ _ _ _ _ _ _ _ _ _ _ H3.out.bel
   · have H3:=Lib.hid (ht rfl)
     clear ht hf
     go_wp2_with fail
     refine (w_after _ _ _).mono ?_
     rintro e W4 ⟨rfl,rfl⟩
     go_wp2_with fail
     exact HN.out (.inr (by simp)) _ _ _ _ _ _ _ _ _ _ _ _ _ _ _ _ _ _ _ _ _ _ _ _ _ _ _ _ _ _ _ _ _ _ _ _ _ _ _ _ _ H3.out
 · have HS:=Lib.hid (rp_ended (r:=en.r) H2.out hd)
   clear hd hr hq h6 hA
   go_wp2_with (first
    | (refine wpList_load_mid rfl 39 (.tmp 13) rfl b13 0 rfl _ _ R13 Tryz.underlying39 rfl infoReq ?_)
    | (refine wpList_load_mid rfl 52 (.tmp 14) rfl b14 0 rfl _ _ R14 Tryz.underlying52 rfl infoAns ?_))
   refine HS.out.mono ?_
   rintro e W3 ⟨rfl,h3⟩
   have H3:=Lib.hid h3
   clear h3 HS
   go_wp2_with fail
   exact HN.out (.inl (by simp)) _ _ _ _ _ _ _ _ _ _ _ _ _ _ _ _ _ _ _ _ _ _ _ _ _ _ _ _ _ _ _ _ _ _ _ _ _ _ _ _ _ H3.out
end Go.Proofs.YtkgflepgkhnclaaGreatDoor
namespace Go.Proofs.YtkgflepgkhnclaaGreatDoor
set_option linter.unusedVariables false
set_option linter.unusedSimpArgs false
open Go.RowKit Go.Shelf Go.Sort
theorem all_swp {p:Mo→Prop} {d:Array Mo} {i j:Nat} (hi:i < d.size) (hj:j < d.size) (h:∀ k,k < d.size→p d[k]!):∀ k,k < (swp d i j).size→p (swp d i j)[k]! := by
 intro k hk
 unfold swp at hk ⊢
 have hk':k < d.size:=by simpa using hk
 by_cases e1:k=j
 · subst e1
   rw [getElem!_set_same _ _ _ (by simpa using hk')]
   exact h i hi
 · rw [getElem!_set_other _ _ _ _ e1]
   by_cases e2:k=i
   · subst e2
     rw [getElem!_set_same _ _ _ hk']
     exact h j hj
   · rw [getElem!_set_other _ _ _ _ e2]
     exact h k hk'
theorem all_insInner {p:Mo→Prop} (lt:Mo→Mo→Bool) (a:Nat):∀ (j:Nat) (d:Array Mo),j < d.size→(∀ k,k < d.size→p d[k]!)→∀ k,k < (insInner lt a j d).size→p (insInner lt a j d)[k]!
 | 0,d,_,h=>h
 | j + 1,d,hj,h=>by
   unfold insInner
   split
   · exact all_insInner lt a j _ (by simp [swp];omega) (all_swp hj (by omega) h)
   · exact h
theorem all_insOuter {p:Mo→Prop} (lt:Mo→Mo→Bool) (a b:Nat):∀ (n i:Nat) (d:Array Mo),b - i=n→b ≤ d.size→(∀ k,k < d.size→p d[k]!)→∀ k,k < (insOuter lt a b i d).size→p (insOuter lt a b i d)[k]!
 | 0,i,d,h,_,hd=>by unfold insOuter;rw [if_neg (by omega)];exact hd
 | n + 1,i,d,h,hb,hd=>by
   unfold insOuter
   rw [if_pos (by omega)]
   exact all_insOuter lt a b n (i + 1) _ (by omega) (by rw [size_insInner];exact hb) (all_insInner lt a i d (by omega) hd)
theorem sortM_all {p:Mo→Prop} (l:List Mo) (h:∀ x ∈ l,p x):∀ k,k < (insertionSort (ltOf cfM) l.toArray 0 l.length).size→p (insertionSort (ltOf cfM) l.toArray 0 l.length)[k]! :=
 all_insOuter _ _ _ _ _ _ rfl (by simp) (fun k hk=>by
  have hk':k < l.length:=by simpa using hk
  rw [getElem!_pos l.toArray k hk]
  exact h _ (by simp))
theorem mosN_mem {ds:List Dn} {x:Mo} (h:x ∈ mosN ds):∃ i:Nat,i < ds.length∧x.d=i:=by
 unfold mosN at h
 rw [List.mem_flatMap] at h
 obtain ⟨⟨d,i⟩,h1,h2⟩:=h
 have:=List.snd_lt_of_mem_zipIdx h1
 simp only [List.mem_cons,List.not_mem_nil,or_false] at h2
 rcases h2 with rfl | rfl <;> exact ⟨i,by simpa using this,rfl⟩
def rpN (es:List Ent) (ds:List Dn) (P:Nat→List Kv):List Mo→Mdl→Nat
 | [],_=>ds.length
 | x :: r,M=>if x.e then rpN es ds P r M else
   match ds[x.d.toNat]? with
   | none=>0
   | some d=>match es[d.e.toNat]? with
     | none=>0
     | some en=>if rpB M en.r d (P x.d.toNat) then rpN es ds P r (doN M en.r).1 else x.d.toNat
theorem drop_arr {arr:Array Mo} {k:Nat} (hk:k < arr.size):arr.toList.drop k=arr[k]! :: arr.toList.drop (k + 1):=by
 rw [List.drop_eq_getElem_cons (by simpa using hk),getElem!_pos arr k hk,Array.getElem_toList]
theorem holdsK_range {W:World} {blk:Nat} {arr:Array Mo} (h:HoldsK Mo.row 3 W blk 0 arr) {k:Nat} (hk:k < arr.size):W.rangeAt blk (0 + k * 3) (arr[k]!).row:=fun j v hv=>by
 have hj:j < 3:=by
  have:=(List.getElem?_eq_some_iff.1 hv).1
  rwa [Mo.row_len] at this
 have ht:k * 3 + j < arr.size * 3:=by omega
 have h1:=(h (k * 3 + j) (by rw [size_flatK];exact ht)).1
 rw [get_flatK _ _ _ _ ht,show (k * 3 + j) / 3=k by omega,show (k * 3 + j) % 3=j by omega] at h1
 rw [show 0 + k * 3 + j=0 + (k * 3 + j) by omega,h1]
 have h2:=(List.getElem?_eq_some_iff.1 hv)
 obtain ⟨h3,h4⟩:=h2
 rw [getElem!_pos (arr[k]!).row j h3,h4]
 rfl
theorem holdsK_of_own {W:World} {B g cap:Nat} {l:List Mo} (h:W.ownsRow B 204 3 (.slice (some ⟨g,0,none⟩) l.length cap) l.length (l.flatMap Mo.row)):HoldsK Mo.row 3 W g 0 l.toArray:=fun t ht=>by
 rw [size_flatK,List.size_toArray] at ht
 have hb:=own_at h rfl
 obtain ⟨-,-,cs,hc⟩:=hb
 refine ⟨?_,by have:=hc.frozen (0 + t);exact this⟩
 rw [get_flatK _ _ _ _ (by rw [List.size_toArray];exact ht)]
 have hk:t / 3 < l.length:=by omega
 have hrow:=flat_at Mo.row_len l (t / 3) (t % 3) hk (by omega)
 rw [show t / 3 * 3 + t % 3=t by omega] at hrow
 have h3:t % 3 < (l[t / 3]).row.length:=by rw [Mo.row_len];omega
 rw [List.getElem?_eq_getElem h3] at hrow
 have:=h.cells (g:=g) rfl t _ hrow
 have e0:(⟨g,0,none⟩:Addr).add t=⟨g,t,none⟩:=by simp [Addr.add];intro h;omega
 rw [e0] at this
 rw [Nat.zero_add,getElem!_pos l.toArray (t / 3) (by simpa using hk)]
 rw [List.getElem_toArray,getElem!_pos (l[t / 3]).row (t % 3) h3]
 exact this
def arrM (ds:List Dn):Array Mo:=insertionSort (ltOf cfM) (mosN ds).toArray 0 (mosN ds).length
theorem arrM_size (ds:List Dn):(arrM ds).size=2 * ds.length:=by
 unfold arrM
 rw [sortM_size,List.size_toArray,mosN_len]
theorem arrM_done (ds:List Dn) {k:Nat} (hk:k < (arrM ds).size):∃ i:Nat,i < ds.length∧((arrM ds)[k]!).d=i:=sortM_all (p:=fun x=>∃ i:Nat,i < ds.length∧x.d=i) (mosN ds) (fun x hx=>mosN_mem hx) k hk
structure RpOk (w:World) (es:List Ent) (ds:List Dn) (P:Nat→List Kv) (W1:Nat):Prop where
 pos:0 < ds.length
 few:ds.length < 10
 few2:es.length ≤ 1000000
 done:∀ i (hi:i < ds.length),(∃ j:Nat,ds[i].e=j∧j < es.length)∧DnOk ds[i] (P i)∧Reads w W1 2 ds[i].pA (P i).length ((P i).flatMap pairR)
 W1:W1 ≤ w.heap.size
 ent:∀ j (hj:j < es.length),es[j].r.ok∧es[j].r.qk ≤ 1000000∧es[j].r.deed ≠ 6
set_option maxHeartbeats 6400000 in
set_option maxRecDepth 100000 in
theorem replay_w {w:World} {A D:Option Addr} {es:List Ent} {ds:List Dn} {P:Nat→List Kv} {W1 c c2:Nat} (hE:EsAt w A es) (hD:DsAt w D ds) (hok:RpOk w es ds P W1) :
 Calls Tryz.prog 76 #[.slice A es.length c,.slice D ds.length c2,.func (.func 77) #[] #[]] w (fun e w'=>e=.returned (.int .i64 (rpN es ds P (arrM ds).toList mdl0:Nat))∧RowKit.Below w.heap.size w w'):=by
 obtain ⟨j0,-,hj0⟩:=(hok.done 0 hok.pos).1
 obtain ⟨ge,oe,rfl,le0,her⟩:=hE (by omega)
 have HD0:=Lib.hid hD
 obtain ⟨gd,od,rfl,ld0,hdr⟩:=hD hok.pos
 have HX:=Lib.hid (And.intro her (And.intro hdr hok))
 have hfew:=hok.few
 have hpos:=hok.pos
 have hai:=arrM_size ds
 clear hE hD hok her hdr
 go_enter Tryz.func76,Tryz.ntmps76
 refine wp_seq_k fun K0 hK=>?_
 have HK0:=Lib.hid hK
 clear hK
 go_wp2
 refine HK0.out _ _ ?_
 clear HK0 K0
 refine wp_seq_k fun K0 hK=>?_
 have HK0:=Lib.hid hK
 clear hK
 go_wp2
 refine HK0.out _ _ ?_
 clear HK0 K0
 refine wp_seq_k fun K0 hK=>?_
 have HK0:=Lib.hid hK
 clear hK
 refine rp_first HD0.out (by omega) (fun t8 t9 t15 t16 t17 t18 t19 t20 t21 t22 t23 t24 t25 t26 t27 t28 t29 t30 t31 t32 t33 v V hown hbel=>?_)
 refine HK0.out _ _ ?_
 clear HK0 K0
 obtain ⟨blk,cap,rfl,hbg⟩:∃ blk cap,v=.slice (some ⟨blk,0,none⟩) (2 * ds.length) cap∧w.heap.size ≤ blk:=by
  rcases hown.2 with ⟨_,h0⟩ | ⟨g,cap,cur,hv,hb,_⟩
  · omega
  · exact ⟨g,cap,hv,hb⟩
 have hml:=mosN_len ds
 rw [← hml] at hown
 have hH:=holdsK_of_own hown
 obtain ⟨-,hblt,cs0,hc0⟩:=own_at hown rfl
 have HBY:=Lib.hid (by_mo (mosN ds) (by omega) V blk cap hH hblt (not_U8 hc0 (by decide)))
 rw [hml] at HBY
 have H1:=Lib.hid (And.intro hbel hc0)
 clear hown hH hbel hc0
 dsimp only
 refine wp_seq_k fun K0 hK=>?_
 have HK0:=Lib.hid hK
 clear hK
 go_wp2_with fail
 refine HBY.out.mono ?_
 rintro e V2 ⟨rfl,hk2,hH2,hB2⟩
 have hbel2:RowKit.Below w.heap.size w V2:=⟨hk2.os.trans H1.out.1.os,hk2.tape.trans H1.out.1.tape,hk2.output.trans H1.out.1.output,Nat.le_trans H1.out.1.size hk2.size,fun i hi=>by
  rw [hk2.block i (Nat.lt_of_lt_of_le hi H1.out.1.size) (.inl (by omega)),H1.out.1.block i hi]⟩
 have hblk2:∃ cs,Blk V2 blk 204 cs:=hB2 _ _ H1.out.2
 have H2:=Lib.hid (And.intro hbel2 (And.intro hH2 hblk2))
 clear hbel2 hblk2 hH2 hk2 hB2 HBY H1
 go_wp2_with fail
 refine HK0.out _ _ ?_
 clear HK0 K0
 refine wp_seq_k fun K0 hK=>?_
 have HK0:=Lib.hid hK
 clear hK
 go_wp2_with fail
 refine (new_m V2).mono ?_
 rintro e V3 ⟨rfl,hm3,hb3⟩
 have hR3:RpW w V2.heap.size blk (arrM ds) mdl0 V3:=by
  obtain ⟨cs,hc⟩:=H2.out.2.2
  refine ⟨⟨mdl0,ows0,StLike.refl _,hm3,fun i hi=>?_⟩,smQ0,holdsK_on H2.out.2.1 (hb3.block _ hc.lt),⟨cs,hc.below hb3 hc.lt⟩,below_trans H2.out.1 hb3⟩
  rcases hi with rfl | ⟨t,ht,hs,_⟩
  · exact H2.out.1.size
  · exact absurd hs (by simp [mdl0,ten0])
 have H3:=Lib.hid hR3
 clear hR3 hm3 hb3 H2
 go_wp2_with fail
 refine HK0.out _ _ ?_
 clear HK0 K0
 refine wp_seq_k fun K0 hK=>?_
 have HKE:=Lib.hid hK
 clear hK
 go_wp2
 obtain ⟨p,hp⟩:∃ p,V2.heap.size=p:=⟨_,rfl⟩
 rw [hp] at H3 ⊢
 clear hp
 go_loopw [39] (fun i wr=>∃ (k:Nat) (M:Mdl),k ≤ 2 * ds.length∧i=.int .i64 k∧Hid (rpN es ds P ((arrM ds).toList.drop k) M=rpN es ds P (arrM ds).toList mdl0)∧Hid (RpW w p blk (arrM ds) M wr)) (fun i _=>2 * ds.length - (intOf i).toNat)
 case atStart=>exact ⟨0,mdl0,Nat.zero_le _,rfl,Lib.hid rfl,H3⟩
 case round =>
  obtain ⟨k,M,hk,rfl,HCH,HW⟩:=hrel
  by_cases hlt:k < 2 * ds.length
  · have hka:k < (arrM ds).size:=by omega
    have hch:=HCH.out
    rw [drop_arr hka,rpN] at hch
    obtain ⟨i,hi,hmd⟩:=arrM_done ds hka
    have hmo:=holdsK_range HW.out.row hka
    generalize (arrM ds)[k]! = mo at hch hmd hmo
    obtain ⟨her,hdr,hok⟩:=HX.out
    obtain ⟨⟨j,hdj,hj⟩,hdn,hrd⟩:=hok.done i hi
    obtain ⟨h1,h2,h6⟩:=hok.ent j hj
    rw [hmd,Int.toNat_natCast,List.getElem?_eq_getElem hi] at hch
    simp only at hch
    rw [hdj,Int.toNat_natCast,List.getElem?_eq_getElem hj] at hch
    simp only at hch
    have hrr:w.rangeAt ge (oe + j * 13) es[j].row:=fun q v hv=>by
        have hq:q < 13:=by
         have:=(List.getElem?_eq_some_iff.1 hv).1
         rwa [Ent.row_len] at this
        rw [show oe + j * 13 + q=oe + (j * 13 + q) by omega]
        exact her _ _ (by rw [flat_at Ent.row_len es j q hj hq];exact hv)
    have hdd:w.rangeAt gd (od + i * 21) ds[i].row:=fun q v hv=>by
        have hq:q < 21:=by
         have:=(List.getElem?_eq_some_iff.1 hv).1
         rwa [Dn.row_len] at this
        rw [show od + i * 21 + q=od + (i * 21 + q) by omega]
        exact hdr _ _ (by rw [flat_at Dn.row_len ds i q hi hq];exact hv)
    have HCS:=Lib.hid hch
    have i1:(0:Int) ≤ (k:Int):=by omega
    have i2:(k:Int) < 2 * (ds.length:Int):=by omega
    have i3:(k:Int) < ((2 * ds.length:Nat):Int):=by omega
    clear hch her hdr
    refine wp_seq_k fun K1 hK1=>?_
    have HK1:=Lib.hid hK1
    clear hK1
    go_wp2
    refine HK1.out _ _ ?_
    clear HK1 K1
    refine wp_seq_k fun K1 hK1=>?_
    have HK1:=Lib.hid hK1
    clear hK1
    go_wp2
    refine HK1.out _ _ ?_
    clear HK1 K1
    refine wp_seq_k fun K3 hK3=>?_
    have HK3:=Lib.hid hK3
    clear hK3
    refine wp_block ?_
    refine rp_round (mo:=mo) (d:=ds[i]) (en:=es[j]) (l:=P i) (i:=i) (j:=j) (nm:=2 * ds.length) HW.out hrr le0 hdd ld0 hlt hmo hmd hi hdj hj hdn h1 h2 h6 hrd hok.W1 (fun e1 e2=>?_) (fun e1=>?_)
    · intro s12 s13 s14 s41 s42 s43 s44 s45 s46 s47 s48 s49 s50 s51 s52 s53 s54 s55 s56 s57 s58 s59 s60 s61 s62 s63 s64 s65 s66 s67 s68 s69 s70 s71 s72 s73 s74 s75 s76 s77 W' hb
      have hv:=HCS.out
      rw [e1,e2] at hv
      have HV:=Lib.hid hv
      have HB:=Lib.hid hb
      clear hv hb
      dsimp only [Exit.inBlock,Exit.then]
      dsimp (config:={ zetaDelta:=true }) only [Exit.inBlock,Exit.then]
      go_ret
      refine ⟨?_,HB.out⟩
      rw [← HV.out]
      rfl
    · intro s12 s13 s14 s41 s42 s43 s44 s45 s46 s47 s48 s49 s50 s51 s52 s53 s54 s55 s56 s57 s58 s59 s60 s61 s62 s63 s64 s65 s66 s67 s68 s69 s70 s71 s72 s73 s74 s75 s76 s77 W' h3
      have hv:=HCS.out
      have hv2:rpN es ds P ((arrM ds).toList.drop (k + 1)) (if mo.e then M else (doN M es[j].r).1)=rpN es ds P (arrM ds).toList mdl0:=by
       rw [← hv]
       cases hme:mo.e with
       | true=>simp
       | false =>
         rw [hme] at e1
         have e2:=e1.resolve_left (by simp)
         simp [e2]
      have HV:=Lib.hid (And.intro hv2 h3)
      clear hv hv2 h3 e1
      dsimp only [Exit.inBlock,Exit.then]
      refine HK3.out _ _ ?_
      go_wp2
      go_roundw
      case rel=>exact ⟨k + 1,_,by omega,by go_num,Lib.hid HV.out.1,Lib.hid HV.out.2⟩
      case measure=>simp [intOf];omega
  · obtain rfl:k=2 * ds.length:=by omega
    have hE:rpN es ds P (arrM ds).toList mdl0=ds.length:=by
        rw [← HCH.out,List.drop_eq_nil_of_le (by rw [Array.length_toList,arrM_size];exact Nat.le_refl _)]
        rfl
    have HE:=Lib.hid hE
    clear hE
    go_wp2
    refine HKE.out _ _ ?_
    go_wp2
    go_ret
    exact ⟨by rw [HE.out];rfl,HW.out.bel⟩
end Go.Proofs.YtkgflepgkhnclaaGreatDoor
namespace Go.Proofs.YtkgflepgkhnclaaGreatDoor
set_option linter.unusedVariables false
set_option linter.unusedSimpArgs false
open Go.RowKit Go.Shelf
theorem EsAt.reads {w:World} {A:Option Addr} {es:List Ent} (h:EsAt w A es):Reads w w.heap.size 13 A es.length (es.flatMap Ent.row):=by
 have hlen:∀ l:List Ent,(l.flatMap Ent.row).length=l.length * 13:=by
  intro l
  induction l with
  | nil=>rfl
  | cons x r ih=>rw [List.flatMap_cons,List.length_append,ih,Ent.row_len,List.length_cons];omega
 refine ⟨hlen es,fun h0=>?_⟩
 obtain ⟨g,o,rfl,h1,h2⟩:=h h0
 refine ⟨⟨g,o,none⟩,rfl,h1,fun j u hu=>?_⟩
 have e0:(⟨g,o,none⟩:Addr).add j=⟨g,o + j,none⟩:=by
  unfold Addr.add
  by_cases hj:j=0
  · simp [hj]
  · simp [hj]
 rw [e0]
 exact h2 j u hu
theorem EsAt.below {w w':World} {A:Option Addr} {es:List Ent} (h:EsAt w A es) (hb:Below w.heap.size w w'):EsAt w' A es:=fun h0=>by
 obtain ⟨g,o,h1,h2,h3⟩:=h h0
 exact ⟨g,o,h1,Nat.lt_of_lt_of_le h2 hb.size,fun j v hv=>(hb.cell (p:=⟨g,o + j,none⟩) h2).trans (h3 j v hv)⟩
theorem RpOk.below {w w':World} {es:List Ent} {ds:List Dn} {P:Nat→List Kv} {W1:Nat} (h:RpOk w es ds P W1) (hb:Below w.heap.size w w'):RpOk w' es ds P W1 :=
 ⟨h.pos,h.few,h.few2,fun i hi=>⟨(h.done i hi).1,(h.done i hi).2.1,(h.done i hi).2.2.keep fun p hp=>hb.cell (Nat.lt_of_lt_of_le hp h.W1)⟩,Nat.le_trans h.W1 hb.size,h.ent⟩
def witN (es:List Ent) (ds:List Dn) (P:Nat→List Kv):Nat × Int:=if rpN es ds P (arrM ds).toList mdl0 < ds.length then (rpN es ds P (arrM ds).toList mdl0,9) else (ds.length,0)
set_option maxHeartbeats 1600000 in
theorem witness_any {w:World} {A D:Option Addr} {es:List Ent} {ds:List Dn} {P:Nat→List Kv} {W1 c c2:Nat} (hE:EsAt w A es) (hD:DsAt w D ds) (hok:RpOk w es ds P W1) (hrd:(readyN es ds).2=0) :
 Calls Tryz.prog 35 #[.slice A es.length c,.slice D ds.length c2] w (ChkEnd (witN es ds P) w):=by
 have h1:=hok.few
 have h2:=hok.few2
 have HC:=Lib.hid (ready_any (c:=c) (c2:=c2) hE.reads hD (by omega) (by omega))
 have HR:=Lib.hid (fun (W:World) (hb:Below w.heap.size w W)=>replay_w (c:=c) (c2:=c2) (hE.below hb) (hD.below hb) (hok.below hb))
 obtain ⟨i,hi⟩:∃ i,(readyN es ds).1=i:=⟨_,rfl⟩
 have hrr:readyN es ds=(i,0):=by rw [← hi,← hrd]
 rw [hrr] at HC
 obtain ⟨n,hn⟩:∃ n,rpN es ds P (arrM ds).toList mdl0=n:=⟨_,rfl⟩
 rw [hn] at HR
 have HW:Hid (witN es ds P=if n < ds.length then (n,9) else (ds.length,0)):=Lib.hid (by unfold witN;rw [hn])
 clear hE hD hok hrd hi hrr hn
 go_enter Tryz.func35,Tryz.ntmps35
 go_wp2_with fail
 refine HC.out.mono ?_
 rintro e w1 ⟨rfl,hb⟩
 have HB:=Lib.hid hb
 clear hb
 go_wp2_with fail
 refine (HR.out _ HB.out).mono ?_
 rintro e w2 ⟨rfl,hb2⟩
 have HB2:=Lib.hid (below_trans HB.out hb2)
 clear hb2
 by_cases hl:n < ds.length
 · have hl':(n:Int) < (ds.length:Int):=by omega
   go_wp2_with fail
   go_ret2
   exact ⟨by rw [HW.out,if_pos hl];rfl,HB2.out⟩
 · have hl':¬ (n:Int) < (ds.length:Int):=by omega
   go_wp2_with fail
   go_ret2
   exact ⟨by rw [HW.out,if_neg hl];rfl,HB2.out⟩
end Go.Proofs.YtkgflepgkhnclaaGreatDoor
namespace Go.Proofs.YtkgflepgkhnclaaGreatDoor
set_option linter.unusedVariables false
set_option linter.unusedSimpArgs false
open Go.RowKit Go.Shelf
attribute [local go_sem] run_store_complex
def intV (i:Nat):Value:=.int .i64 (i:Int)
def deedD (es:List Ent) (ds:List Dn) (i:Nat):Option Int:=(ds[i]?).bind fun x=>(es[x.e.toNat]?).map (·.r.deed)
def deedsN (es:List Ent) (ds:List Dn) (k:Nat):List Nat:=(List.range k).filter fun i=>decide (deedD es ds i ≠ some 5)
theorem deedsN_yes {es:List Ent} {ds:List Dn} {k:Nat} (h:deedD es ds k ≠ some 5):deedsN es ds (k + 1)=deedsN es ds k ++ [k]:=by
 unfold deedsN
 rw [List.range_succ,List.filter_append]
 simp [h]
theorem deedsN_no {es:List Ent} {ds:List Dn} {k:Nat} (h:deedD es ds k=some 5):deedsN es ds (k + 1)=deedsN es ds k:=by
 unfold deedsN
 rw [List.range_succ,List.filter_append]
 simp [h]
theorem deedsN_len (es:List Ent) (ds:List Dn) (k:Nat):(deedsN es ds k).length ≤ k:=by
 unfold deedsN
 exact Nat.le_trans (List.length_filter_le _ _) (by simp)
def DeedsEnd (l:List Nat) (w:World) (e:Ending) (w':World):Prop:=∃ v,e=.returned v∧w'.ownsRow w.heap.size 3 1 v l.length (l.map intV)∧Below w.heap.size w w'
set_option maxHeartbeats 3200000 in
set_option maxRecDepth 100000 in
theorem deedsOf_any {w:World} {A D:Option Addr} {es:List Ent} {ds:List Dn} {c c2:Nat} (hE:EsAt w A es) (hD:DsAt w D ds) (hl:ds.length ≤ 1000000) (hl2:es.length ≤ 1000000) (hj:∀ i (hi:i < ds.length),∃ j:Nat,ds[i].e=j∧j < es.length) :
 Calls Tryz.prog 78 #[.slice A es.length c,.slice D ds.length c2] w (DeedsEnd (deedsN es ds ds.length) w):=by
 have HE:=Lib.hid hE
 have HD:=Lib.hid hD
 have HJ:=Lib.hid hj
 have hli:(ds.length:Int) ≤ 1000000:=by omega
 obtain ⟨i0,hi0,iz0,iz1,iz2⟩:=info_parts infoInt
 clear hE hD hj
 go_enter Tryz.func78,Tryz.ntmps78
 go_wp2
 go_loopw [5,10] (fun v i wr=>∃ k:Nat,k ≤ ds.length∧i=.int .i64 k∧Hid (wr.ownsRow w.heap.size 3 1 v (deedsN es ds k).length ((deedsN es ds k).map intV)∧Below w.heap.size w wr)) (fun _ i _=>ds.length - (intOf i).toNat)
 case atStart=>exact ⟨0,Nat.zero_le _,rfl,Lib.hid ⟨⟨by simp [deedsN],.inl ⟨rfl,by simp [deedsN]⟩⟩,Below.refl _ _⟩⟩
 case round =>
  obtain ⟨k,hk,rfl,HW⟩:=hrel
  by_cases hlt:k < ds.length
  · obtain ⟨j,hje,hjl⟩:=HJ.out k hlt
    obtain ⟨ge,oe,hA,hgel,her⟩:=HE.out (by omega)
    subst hA
    have hcd:w.cell? ⟨ge,oe + j * 13 + 1,none⟩=some (.int .i64 es[j].r.deed):=by
        rw [show oe + j * 13 + 1=oe + (j * 13 + 1) by omega]
        exact her _ _ (by rw [flat_at Ent.row_len es j 1 hjl (by omega)];rfl)
    have hdd:deedD es ds k=some es[j].r.deed:=by
        unfold deedD
        rw [List.getElem?_eq_getElem hlt]
        simp only [Option.bind_some]
        rw [hje,Int.toNat_natCast,List.getElem?_eq_getElem hjl]
        rfl
    obtain ⟨g,o,rfl,hgl,hrng⟩:=(HD.out.below HW.out.2).at_ hlt
    generalize es[j].r.deed=dd at hcd hdd
    generalize ds[k]=x at hrng hje
    have HDD:=Lib.hid hdd
    have hrow1:x.row.toArray.all (·.oneCell')=true:=all_oneCell_toArray (dn_one x)
    have hst:=stored_new (w:=wr) (t:=90) (lit:=#[.int .i64 0,.int .i64 0,.int .i64 0,.int .i64 0,.int .i64 0,.string ⟨#[]⟩,.slice none 0 0,.int .i64 0,.int .u32 0,.int .u8 0,.int .u64 0,.int .u64 0,.int .u64 0,.int .u64 0,.int .u64 0,.int .u64 0,.int .u64 0,.int .u64 0,.int .u64 0,.int .u64 0,.complex .f64 0 0]) (cells:=x.row.toArray) rfl
    obtain ⟨l,hlr⟩:∃ l,x.row=l:=⟨_,rfl⟩
    have hll:l.length=21:=by rw [← hlr];rfl
    have hsz:l.toArray.size=21:=by rw [List.size_toArray];exact hll
    rw [hlr] at hrng hrow1 hst
    have HL:=Lib.hid hlr
    have i1:(0:Int) ≤ (k:Int):=by omega
    have i2:(k:Int) < (ds.length:Int):=by omega
    have j1:(0:Int) ≤ (j:Int):=by omega
    have j2:(j:Int) < (es.length:Int):=by omega
    have hX0:=And.intro hst.1 (And.intro (ownsRow_below HW.out.1 hst.2 (Nat.le_refl _)) (And.intro (below_trans HW.out.2 hst.2) hst.2.size))
    rw [show l.toArray.toList=l from rfl] at hX0
    have HX1:=Lib.hid hX0
    have HCD:=Lib.hid (And.intro hcd hgel)
    have HJE:=Lib.hid hje
    clear hgl hst hlr hX0 hdd hcd her hje
    go_upto_region 5 with (first
        | (refine wpList_load_mid rfl 90 (.tmp 13) rfl g (o + k * 21) rfl _ _ hrng Tryz.underlying90 rfl (by rw [hll];exact infoDn) ?_)
        | (refine wpList_store_mid rfl 90 (.tmp 7) (.tmp 14) rfl wr.heap.size 0 l.toArray rfl rfl (by rw [hsz];exact there_blk (Blk.new wr 90 #[.int .i64 0,.int .i64 0,.int .i64 0,.int .i64 0,.int .i64 0,.string ⟨#[]⟩,.slice none 0 0,.int .i64 0,.int .u32 0,.int .u8 0,.int .u64 0,.int .u64 0,.int .u64 0,.int .u64 0,.int .u64 0,.int .u64 0,.int .u64 0,.int .u64 0,.int .u64 0,.int .u64 0,.complex .f64 0 0]) (Nat.le_refl 21)) (by rw [hsz];exact infoDn) hrow1 ?_))
    clear hrng
    generalize (wr.alloc (.cells #[.int .i64 0,.int .i64 0,.int .i64 0,.int .i64 0,.int .i64 0,.string ⟨#[]⟩,.slice none 0 0,.int .i64 0,.int .u32 0,.int .u8 0,.int .u64 0,.int .u64 0,.int .u64 0,.int .u64 0,.int .u64 0,.int .u64 0,.int .u64 0,.int .u64 0,.int .u64 0,.int .u64 0,.complex .f64 0 0] 90)).setCells wr.heap.size 0 l=W0 at HX1 ⊢
    have hb0:Blk W0 wr.heap.size 90 x.row.toArray:=by rw [HL.out];exact HX1.out.1
    have HX:=Lib.hid HX1.out.2
    clear HX1
    obtain ⟨c0,-,-,-⟩:=dn_cells hb0
    rw [HJE.out] at c0
    clear hb0
    have hs0:=HX.out.2.2
    have hcd:=(HX.out.2.1.cell (p:=⟨ge,oe + j * 13 + 1,none⟩) HCD.out.2).trans HCD.out.1
    by_cases hd5:dd=5
    · subst hd5
      have hN:=deedsN_no HDD.out
      have HN:=Lib.hid hN
      clear hN
      go_wp2
      go_roundw
      case rel=>exact ⟨k + 1,by omega,by go_num,Lib.hid (by rw [HN.out];exact ⟨HX.out.1,HX.out.2.1⟩)⟩
      case measure=>simp [intOf];omega
    · have hN:=deedsN_yes (es:=es) (ds:=ds) (k:=k) (by rw [HDD.out];simp [hd5])
      have HN:=Lib.hid hN
      have hdb:(dd != 5)=true:=by simp [hd5]
      have hln:=deedsN_len es ds k
      clear hN
      go_wp2_with (first
       | (at_builtin
          refine wpList_append_any _ rfl (.tmp 23) (.tmp 25) _ rfl w.heap.size 3 i0 _ 1 8 Tryz.underlying82 hi0 iz0 iz1 iz2 rfl (by omega) u5 (deedsN es ds k).length ((deedsN es ds k).map intV) rfl
           (HX.out.1.alloc _) _ (some ⟨W0.heap.size,0,none⟩) 1 1 [.int .i64 (k:Nat)] rfl (reads_of_blk (Blk.new W0 _ _) rfl rfl) (by simp [Value.oneCell']) (by unfold maxLen;omega) (by omega) (by have:=HX.out.2.1.size;simp;omega) ?_
          intro v2 w2 hown2 hg2 hat2
          have hbel2:Below w.heap.size w w2:=below_app (below_alloc HX.out.2.1 _) (HX.out.1.alloc _) hg2 (Nat.le_refl _) (by have:=HX.out.2.1.size;simp;omega)))
      clear hg2 hat2
      go_roundw
      case rel =>
       refine ⟨k + 1,by omega,by go_num,Lib.hid ⟨?_,hbel2⟩⟩
       rw [HN.out,List.map_append,List.length_append]
       exact hown2
      case measure=>simp [intOf];omega
  · obtain rfl:k=ds.length:=by omega
    go_wp2
    go_ret
    exact ⟨_,rfl,HW.out.1,HW.out.2⟩
end Go.Proofs.YtkgflepgkhnclaaGreatDoor
namespace Go.Proofs.YtkgflepgkhnclaaGreatDoor
set_option linter.unusedVariables false
set_option linter.unusedSimpArgs false
open Go.RowKit Go.Shelf
structure Sx where
 es:List Ent
 ds:List Dn
 P:Nat→List Kv
 all:List Nat
 T:Lib.PrintTabs
namespace Sx
def at_ (X:Sx) (k:Nat):Nat:=X.all.getD k 0
def from_ (X:Sx) (i:Nat):Int:=((X.ds[i]?).map (·.f)).getD 0
def to_ (X:Sx) (i:Nat):Int:=((X.ds[i]?).map (·.t)).getD 0
def first (X:Sx) (left j i:Nat):Bool:=!left.testBit j || decide (X.from_ i ≤ X.to_ (X.at_ j))
def okTo (X:Sx) (left k n:Nat):Bool:=left.testBit k && (List.range n).all fun j=>X.first left j (X.at_ k)
def ok (X:Sx) (left k:Nat):Bool:=X.okTo left k X.all.length
def step (X:Sx) (M:Mdl) (i:Nat):Option Mdl :=
 match X.ds[i]? with
 | none=>none
 | some x=>match X.es[x.e.toNat]? with
   | none=>none
   | some en=>if rpB M en.r x (X.P i) then some (doN M en.r).1 else none
def key (X:Sx) (M:Mdl) (left:Nat):ByteArray:=⟨(Lib.decDigits left).toArray⟩ ++ ⟨#[32]⟩ ++ ⟨(textN X.T M).toArray⟩
def loop (X:Sx) (go:Mdl→Nat→List Nat→Kvs→Option (List Nat) × Kvs) (M:Mdl) (left:Nat) (ord:List Nat):List Nat→Kvs→Option (List Nat) × Kvs
 | [],dead=>(none,putS (X.key M left) (.bool true) dead)
 | k :: ks,dead =>
   match (if X.ok left k then X.step M (X.at_ k) else none) with
   | none=>X.loop go M left ord ks dead
   | some M'=>match (go M' (left - 2 ^ k) (ord ++ [X.at_ k]) dead).1 with
     | some o=>(some o,(go M' (left - 2 ^ k) (ord ++ [X.at_ k]) dead).2)
     | none=>X.loop go M left ord ks (go M' (left - 2 ^ k) (ord ++ [X.at_ k]) dead).2
def walk (X:Sx):Nat→Mdl→Nat→List Nat→Kvs→Option (List Nat) × Kvs
 | 0,_,_,_,dead=>(none,dead)
 | f + 1,M,left,ord,dead=>if left=0 then (some ord,dead) else if (getS (X.key M left) dead).isSome then (none,dead) else X.loop (X.walk f) M left ord (List.range X.all.length) dead
end Sx
theorem okTo_succ (X:Sx) (left k n:Nat):X.okTo left k (n + 1)=(X.okTo left k n && X.first left n (X.at_ k)):=by
 unfold Sx.okTo
 rw [List.range_succ,List.all_append]
 simp [Bool.and_assoc]
theorem okTo_zero (X:Sx) (left k:Nat):X.okTo left k 0=left.testBit k:=by
 unfold Sx.okTo
 simp
theorem bit_none (left j:Nat) (hl:left < 64) (hj:j < 6):(bits BinOp.and IntKind.i64 ((left:Int) / 2 ^ j) 1 == 0)=!left.testBit j:=by
 have:∀ (l:Fin 64) (i:Fin 6),(bits BinOp.and IntKind.i64 ((l.val:Int) / 2 ^ i.val) 1 == 0)=!l.val.testBit i.val:=by decide +kernel
 exact this ⟨left,hl⟩ ⟨j,hj⟩
theorem bit_eq (left j:Nat) (hl:left < 64) (hj:j < 6):(bits BinOp.and IntKind.i64 ((left:Int) / 2 ^ j) 1 == 1)=left.testBit j:=by
 have:∀ (l:Fin 64) (i:Fin 6),(bits BinOp.and IntKind.i64 ((l.val:Int) / 2 ^ i.val) 1 == 1)=l.val.testBit i.val:=by decide +kernel
 exact this ⟨left,hl⟩ ⟨j,hj⟩
set_option maxHeartbeats 1600000 in
set_option maxRecDepth 100000 in
theorem first_any {W:World} {lb dx al ib gd od nd cd ga na ca:Nat} {left i j aj:Nat} {tt fr:Int} (h1:W.cell? ⟨lb,0,none⟩=some (.int .i64 (left:Nat))) (h2:W.cell? ⟨dx,0,none⟩=some (.slice (some ⟨gd,od,none⟩) nd cd)) (h3:W.cell? ⟨al,0,none⟩=some (.slice (some ⟨ga,0,none⟩) na ca)) (h4:W.cell? ⟨ib,0,none⟩=some (.int .i64 (i:Nat)))
 (h5:W.cell? ⟨ga,j,none⟩=some (.int .i64 (aj:Nat))) (h6:W.cell? ⟨gd,od + aj * 21 + 3,none⟩=some (.int .i64 tt)) (h7:W.cell? ⟨gd,od + i * 21 + 1,none⟩=some (.int .i64 fr)) (hj:j < na) (haj:aj < nd) (hi:i < nd) (hl:left < 64) (hj6:j < 6) :
 Calls Tryz.prog 82 #[.int .i64 (j:Nat),.pointer (some ⟨lb,0,none⟩),.pointer (some ⟨dx,0,none⟩),.pointer (some ⟨al,0,none⟩),.pointer (some ⟨ib,0,none⟩)] W (fun e w'=>e=.returned (.bool (!left.testBit j || decide (fr ≤ tt)))∧∃ n,w'=W.drewN n):=by
 have j1:(0:Int) ≤ (j:Int):=by omega
 have j2:(j:Int) < (na:Int):=by omega
 have a1:(0:Int) ≤ (aj:Int):=by omega
 have a2:(aj:Int) < (nd:Int):=by omega
 have i1:(0:Int) ≤ (i:Int):=by omega
 have i2:(i:Int) < (nd:Int):=by omega
 have hbt:=bit_none left j hl hj6
 cases hb:left.testBit j with
 | false =>
   rw [hb] at hbt
   clear hb
   go_enter Tryz.func82,Tryz.ntmps82
   go_wp2_with fail
   go_quiet (fail)
   go_wp2
   go_ret
   exact ⟨rfl,_,rfl⟩
 | true =>
   rw [hb] at hbt
   clear hb
   go_enter Tryz.func82,Tryz.ntmps82
   go_wp2_with fail
   go_quiet (fail)
   go_wp2
   go_ret
   exact ⟨rfl,_,rfl⟩
structure WB where
 dd:Nat
 al:Nat
 dx:Nat
 lx:Nat
 od:Nat
 wk:Nat
 dm:Nat
def WB.caps (b:WB):Array Value:=#[.pointer (some ⟨b.dd,0,none⟩),.pointer (some ⟨b.al,0,none⟩),.pointer (some ⟨b.dx,0,none⟩),.pointer (some ⟨b.lx,0,none⟩),.pointer (some ⟨b.od,0,none⟩),.pointer (some ⟨b.wk,0,none⟩)]
structure SxAt (w:World) (X:Sx) (ge oe gd od W1:Nat):Prop where
 es:ge < w.heap.size∧w.rangeAt ge oe (X.es.flatMap Ent.row)
 ds:gd < w.heap.size∧w.rangeAt gd od (X.ds.flatMap Dn.row)
 ok:RpOk w X.es X.ds X.P W1
 all:∀ k,k < X.all.length→X.at_ k < X.ds.length
 few:X.all.length ≤ 6
 tabs:Tabs X.T w
structure WkAt (w:World) (X:Sx) (b:WB) (vl vd va vo:Value) (ord:List Nat) (dead:Kvs) (W:World):Prop where
 dd:Blk W b.dd 140 #[.map (some b.dm)]
 dm:StrMap W b.dm dead
 al:Blk W b.al 82 #[va]
 dx:Blk W b.dx 85 #[vd]
 lx:Blk W b.lx 31 #[vl]
 od:Blk W b.od 82 #[vo]
 wk:Blk W b.wk 141 #[.func (.func 79) #[] b.caps]
 arow:W.ownsRow w.heap.size 3 1 va X.all.length (X.all.map intV)
 orow:W.ownsRow w.heap.size 3 1 vo ord.length (ord.map intV)
 apart:∀ g,vo.ownBlock=some g→va.ownBlock ≠ some g
 ne:b.al ≠ b.od
 ge:w.heap.size ≤ b.od∧w.heap.size ≤ b.dm
 bel:Below w.heap.size w W
 vals:∀ k v,getS k dead=some v→v=.bool true
def WkC (b:WB) (vo:Value) (i:Nat):Prop:=i=b.od ∨ i=b.dm ∨ vo.ownBlock=some i
def OwnNew (W:World) (vo vo':Value):Prop:=vo'.ownBlock=vo.ownBlock ∨ ∃ g,vo'.ownBlock=some g∧W.heap.size ≤ g
theorem OwnNew.refl (W:World) (vo:Value):OwnNew W vo vo:=.inl rfl
theorem OwnNew.trans {W W':World} {v v' v'':Value} (h:OwnNew W v v') (k:OwnNew W' v' v'') (hs:W.heap.size ≤ W'.heap.size):OwnNew W v v'':=by
 rcases k with k | ⟨g,k1,k2⟩
 · rcases h with h | ⟨g,h1,h2⟩
   · exact .inl (k.trans h)
   · exact .inr ⟨g,k.trans h1,h2⟩
 · exact .inr ⟨g,k1,Nat.le_trans hs k2⟩
theorem OwnNew.old {W:World} {v v':Value} (h:OwnNew W v v') {i:Nat} (hi:i < W.heap.size) (e:v'.ownBlock=some i):v.ownBlock=some i:=by
 rcases h with h | ⟨g,h1,h2⟩
 · rw [← h];exact e
 · rw [h1] at e;injection e with e;omega
theorem WkC.trans {b:WB} {v v':Value} {W W' W'':World} (h:KeepC (WkC b v) W W') (ho:OwnNew W v v') (k:KeepC (WkC b v') W' W''):KeepC (WkC b v) W W'' :=
 h.trans k (fun i hi hc=>hc.imp id (fun h=>h.imp id (fun e=>ho.old hi e)))
theorem map_no_blk {w:World} {i:Nat} {t:TypeId} {cs:Array Value} {kvs:Kvs} (h:Blk w i t cs) (k:StrMap w i kvs):False:=by
 obtain ⟨es,ck,h1,_⟩:=k
 unfold Blk at h
 rw [h] at h1
 injection h1 with h1
 cases h1
section
variable {w W W':World} {X:Sx} {b:WB} {vl vd va vo vo':Value} {ord ord':List Nat} {dead dead':Kvs}
theorem WkAt.noC (h:WkAt w X b vl vd va vo ord dead W) {i:Nat} {t:TypeId} {cs:Array Value} (hb:Blk W i t cs) (h1:t ≠ 82) (h2:t ≠ 3):¬ WkC b vo i:=by
 rintro (rfl | rfl | e)
 · exact blk_ne hb h.od h1 rfl
 · exact map_no_blk hb h.dm
 · obtain ⟨_,_,cs',h3⟩:=own_at h.orow e
   exact blk_ne hb h3 h2 rfl
theorem WkAt.alC (h:WkAt w X b vl vd va vo ord dead W):¬ WkC b vo b.al:=by
 rintro (e | e | e)
 · exact h.ne e
 · exact map_no_blk h.al (e ▸ h.dm)
 · obtain ⟨_,_,cs',h3⟩:=own_at h.orow e
   exact blk_ne h.al h3 (by decide) rfl
theorem WkAt.rowC (h:WkAt w X b vl vd va vo ord dead W) {g:Nat} (hg:va.ownBlock=some g):¬ WkC b vo g:=by
 obtain ⟨_,_,cs',h3⟩:=own_at h.arow hg
 rintro (e | e | e)
 · subst e;exact blk_ne h3 h.od (by decide) rfl
 · subst e;exact map_no_blk h3 h.dm
 · exact h.apart g e hg
theorem WkAt.geC (h:WkAt w X b vl vd va vo ord dead W) {i:Nat} (hi:WkC b vo i):w.heap.size ≤ i:=by
 rcases hi with rfl | rfl | e
 · exact h.ge.1
 · exact h.ge.2
 · exact (own_at h.orow e).1
theorem WkAt.turn (h:WkAt w X b vl vd va vo ord dead W) (k:KeepC (WkC b vo) W W') (hod:Blk W' b.od 82 #[vo']) (hrow:W'.ownsRow w.heap.size 3 1 vo' ord'.length (ord'.map intV)) (hn:OwnNew W vo vo') (hdm:StrMap W' b.dm dead') (hv:∀ k v,getS k dead'=some v→v=.bool true):WkAt w X b vl vd va vo' ord' dead' W' where
 dd:=k.blk h.dd (h.noC h.dd (by decide) (by decide))
 dm:=hdm
 al:=k.blk h.al h.alC
 dx:=k.blk h.dx (h.noC h.dx (by decide) (by decide))
 lx:=k.blk h.lx (h.noC h.lx (by decide) (by decide))
 od:=hod
 wk:=k.blk h.wk (h.noC h.wk (by decide) (by decide))
 arow:=own_same h.arow fun g hg=>k.block g (own_at h.arow hg).2.1 (.inl (h.rowC hg))
 orow:=hrow
 apart:=fun g e e2=>by
  have h2:=own_at h.arow e2
  exact h.apart g (hn.old h2.2.1 e) e2
 ne:=h.ne
 ge:=h.ge
 bel:=⟨k.os.trans h.bel.os,k.tape.trans h.bel.tape,k.output.trans h.bel.output,Nat.le_trans h.bel.size k.size,fun i hi=>by
  rw [k.block i (Nat.lt_of_lt_of_le hi h.bel.size) (.inl (fun hc=>by have:=h.geC hc;omega)),h.bel.block i hi]⟩
 vals:=hv
theorem WkAt.below (h:WkAt w X b vl vd va vo ord dead W) (hb:Below W.heap.size W W'):WkAt w X b vl vd va vo ord dead W' :=
 h.turn (.of_below hb) (h.od.below hb h.od.lt) (own_same h.orow fun g hg=>hb.block g (own_at h.orow hg).2.1) (.refl _ _) (h.dm.on (hb.block _ h.dm.lt)) h.vals
theorem WkAt.model (h:WkAt w X b vl vd va vo ord dead W) {p:Nat} {M:Mdl} {O:Ows} (hm:ModelAt W p M O) (hd:¬ mown p M O b.dm) (k:KeepC (WkC b vo) W W'):ModelAt W' p M O :=
 hm.keep k (fun i hi hc=>by
  rcases hc with rfl | rfl | e
  · exact hm.other hi h.od (by decide) (by decide) (by decide)
  · exact hd hi
  · obtain ⟨_,_,cs',h3⟩:=own_at h.orow e
    exact hm.other hi h3 (by decide) (by decide) (by decide))
theorem WkAt.set_od (h:WkAt w X b vl vd va vo ord dead W) (v:Value):Blk (W.setCell ⟨b.od,0,none⟩ v) b.od 82 #[v]:=h.od.set_ 0 v
theorem WkAt.app (h:WkAt w X b vl vd va vo ord dead W) {tmp:Obj} {W2:World} {v2:Value} {i:Nat} (hown:W2.ownsRow w.heap.size 3 1 v2 (ord.length + 1) (ord.map intV ++ [intV i])) (hg:(W.alloc tmp).grownBy W2 vo.ownBlock)
 (hat:v2.ownBlock=vo.ownBlock ∨ v2.ownBlock=some (W.alloc tmp).heap.size):Blk W2 b.od 82 #[vo]∧WkAt w X b vl vd va v2 (ord ++ [i]) dead (W2.setCell ⟨b.od,0,none⟩ v2)∧KeepC (WkC b vo) W (W2.setCell ⟨b.od,0,none⟩ v2)∧OwnNew W vo v2:=by
 have hb:=below_box W tmp
 have ha:=h.below hb
 have hod:Blk W2 b.od 82 #[vo]:=ha.od.grown hg (fun e=>own_blk_ne ha.orow ha.od (by decide) e.symm)
 have hn:OwnNew W vo v2:=hat.imp id (fun e=>⟨_,e,by simp⟩)
 have k:KeepC (WkC b vo) W (W2.setCell ⟨b.od,0,none⟩ v2) :=
  (((KeepC.of_below (C:=WkC b vo) hb).trans ((KeepC.refl (WkC b vo) _).grown hg (fun g e=>⟨fun _=>.inr (.inr e),by
    obtain ⟨_,_,cs',h3⟩:=own_at ha.orow e
    exact not_U8 h3 (by decide)⟩)) (fun _ _ h=>h))).setCell hod (by decide) (fun _=>.inl rfl) 0 v2
 refine ⟨hod,h.turn k (hod.set_ 0 v2) ?_ hn ?_ h.vals,k,hn⟩
 · rw [List.length_append,List.map_append]
   refine own_same hown (fun g e=>Below.heap_setCell W2 _ v2 g (fun e2=>?_))
   obtain ⟨_,_,cs',h3⟩:=own_at hown e
   subst e2
   exact blk_ne h3 hod (by decide) rfl
 · have hne:b.dm ≠ b.od:=fun e=>map_no_blk h.od (e ▸ h.dm)
   refine ha.dm.on ((Below.heap_setCell W2 _ v2 b.dm hne).trans (hg.block b.dm ha.dm.lt (fun e=>?_)))
   obtain ⟨_,_,cs',h3⟩:=own_at ha.orow e.symm
   exact map_no_blk h3 ha.dm
theorem own_cut {W:World} {base n:Nat} {e:TypeId} {v x:Value} {xs:List Value} (h:W.ownsRow base e 1 v (n + 1) (xs ++ [x])):∃ g cap,v=.slice (some ⟨g,0,none⟩) (n + 1) cap∧n + 1 ≤ cap∧cap ≤ maxLen∧W.ownsRow base e 1 (.slice (some ⟨g,0,none⟩) n cap) n xs:=by
 obtain ⟨h0,h | ⟨g,cap,cur,rfl,hb,hh,h1,h2,h3,h4⟩⟩:=h
 · exact absurd h.2 (by simp)
 · have hl:xs.length=n:=by simp at h0;exact h0
   refine ⟨g,cap,rfl,h1,h2,⟨by rw [hl];omega,.inr ⟨g,cap,cur,rfl,hb,hh,by omega,h2,h3,?_⟩⟩⟩
   have h5:=congrArg (List.take n) h4
   rw [List.take_take,List.take_left' hl] at h5
   rw [← h5]
   congr 1
   omega
theorem WkAt.cut {i:Nat} {g cap:Nat} (h:WkAt w X b vl vd va (.slice (some ⟨g,0,none⟩) (ord.length + 1) cap) (ord ++ [i]) dead W) (hc:W.ownsRow w.heap.size 3 1 (.slice (some ⟨g,0,none⟩) ord.length cap) ord.length (ord.map intV)) :
 WkAt w X b vl vd va (.slice (some ⟨g,0,none⟩) ord.length cap) ord dead (W.setCell ⟨b.od,0,none⟩ (.slice (some ⟨g,0,none⟩) ord.length cap))∧KeepC (WkC b (.slice (some ⟨g,0,none⟩) (ord.length + 1) cap)) W (W.setCell ⟨b.od,0,none⟩ (.slice (some ⟨g,0,none⟩) ord.length cap)):=by
 have k:KeepC (WkC b (.slice (some ⟨g,0,none⟩) (ord.length + 1) cap)) W (W.setCell ⟨b.od,0,none⟩ (.slice (some ⟨g,0,none⟩) ord.length cap)):=(KeepC.refl _ W).setCell h.od (by decide) (fun _=>.inl rfl) 0 _
 refine ⟨h.turn k (h.set_od _) ?_ (.inl rfl) ?_ h.vals,k⟩
 · refine own_same hc (fun g' e=>Below.heap_setCell W _ _ g' (fun e2=>?_))
   obtain ⟨_,_,cs',h3⟩:=own_at hc e
   subst e2
   exact blk_ne h3 h.od (by decide) rfl
 · exact h.dm.on (Below.heap_setCell W _ _ b.dm (fun e=>map_no_blk h.od (e ▸ h.dm)))
theorem getS_putS_true {dead:Kvs} (h:∀ k v,getS k dead=some v→v=.bool true) (x:ByteArray):∀ k v,getS k (putS x (.bool true) dead)=some v→v=.bool true:=by
 intro k v hv
 rw [getS_putS] at hv
 split at hv
 · injection hv with hv;exact hv.symm
 · exact h k v hv
theorem WkAt.put (h:WkAt w X b vl vd va vo ord dead W) {x:ByteArray} (hdm:StrMap W' b.dm (putS x (.bool true) dead)) (hg:W.grownBy W' (some b.dm)):WkAt w X b vl vd va vo ord (putS x (.bool true) dead) W'∧KeepC (WkC b vo) W W':=by
 have k:KeepC (WkC b vo) W W':=(KeepC.refl (WkC b vo) W).grown hg (fun g e=>by
  injection e with e
  subst e
  exact ⟨fun _=>.inr (.inl rfl),h.dm.notU8⟩)
 have ho:b.od ≠ b.dm:=fun e=>map_no_blk h.od (e ▸ h.dm)
 refine ⟨h.turn k (h.od.grown hg (fun e=>ho (by injection e))) (own_same h.orow fun g e=>hg.block g (own_at h.orow e).2.1 (fun e2=>?_)) (.refl _ _) hdm (getS_putS_true h.vals x),k⟩
 injection e2 with e2
 obtain ⟨_,_,cs',h3⟩:=own_at h.orow e
 subst e2
 exact map_no_blk h3 h.dm
end
end Go.Proofs.YtkgflepgkhnclaaGreatDoor
namespace Go.Proofs.YtkgflepgkhnclaaGreatDoor
set_option linter.unusedVariables false
set_option linter.unusedSimpArgs false
open Go.RowKit Go.Shelf
attribute [local go_sem] run_store_complex
variable {Xa Xb Xc Xd Xe Xf Xg Xh Xi Xj Xk Xl Xm Xn Xo Xp Xq Xr Xs Xt Xu Xv Xw Xx Xy Xz Ya Yb Yc Yd Ye Yf Yg Yh Yi Yj Yk Yl Ym Yn Yo Yp Yq Yr Ys Yt Yu Yv Yw Yx Yy Yz Za Zb Zc Zd Ze Zf Zg Zh Zi Zj Zk Zl Zm Zn Zo Zp Zq Zr Zs Zt Zu Zv Zw Zx Zy Zz Ja Jb Jc Jd Je Jf Jg Jh Ji Jj Jk Jl Jm Jn Jo Jp Jq Jr Js Jt Ju Jv Jw Jy Jz Va Vb Vc Vd Ve Vf Vg Vh Vi Vj Vk Vl Vm Vn Vo Vp Vq Vr Vs Vt Vu Vv Vw Vx Vy Vz Oa Ob Oc Od Oe Og Oh Oi Oj Ok Ol Om On Oo Oq Ot Ou Ov Ox Oy Oz Ha Hb Hc He Hf Hg Hh Hi Hj Hk Hl Hm Hn Ho Hp Hq Hr Hs Ht Hu Hv Hw Hx Hy Hz Ia Ib Ic Id Ie If Ig Ih Ii Ij Ik Il Im In Io Ip Iq Ir It Iu Iv Iw Ix Iy Iz Ua Ub Uc Ud Ue Uf Ug Uh Ui Uj Uk Ul:Value}
theorem clr_bit (left k:Nat) (hl:left < 64) (hk:k < 6) (hb:left.testBit k=true):bits BinOp.andNot IntKind.i64 (left:Int) (IntKind.i64.wrap (2 ^ k))=((left - 2 ^ k:Nat):Int):=by
 have:∀ (l:Fin 64) (i:Fin 6),l.val.testBit i.val=true→bits BinOp.andNot IntKind.i64 (l.val:Int) (IntKind.i64.wrap (2 ^ i.val))=((l.val - 2 ^ i.val:Nat):Int):=by decide +kernel
 exact this ⟨left,hl⟩ ⟨k,hk⟩ hb
set_option maxHeartbeats 3200000 in
set_option maxRecDepth 100000 in
theorem sr_ok {V:World} {X:Sx} {left k al lb dx ib ca:Nat} {A:Option Addr} {Q:Exit→Act→World→Prop} (hal:V.cell? ⟨al,0,none⟩=some (.slice A X.all.length ca)) (hlt:al < V.heap.size) (hfew:X.all.length ≤ 6)
 (hf:∀ j,j < X.all.length→∀ W,Below V.heap.size V W→Calls Tryz.prog 82 #[.int .i64 (j:Nat),.pointer (some ⟨lb,0,none⟩),.pointer (some ⟨dx,0,none⟩),.pointer (some ⟨al,0,none⟩),.pointer (some ⟨ib,0,none⟩)] W (fun e w'=>e=.returned (.bool (X.first left j (X.at_ k)))∧∃ n,w'=W.drewN n))
 (hQ:∀ (s16 s42 s43 s44 s45 s46 s47 s48 s49 s50 s51 s52 s53:Value) (V':World),Below V.heap.size V V'→Q .normal ⟨#[Xa,Xb,Xc,.pointer (some ⟨al,0,none⟩),Xe,Xf,Xg,Xh,Xi,Xj,Xk,Xl,Xm,Xn,.func (.func 82) #[] #[.pointer (some ⟨lb,0,none⟩),.pointer (some ⟨dx,0,none⟩),.pointer (some ⟨al,0,none⟩),.pointer (some ⟨ib,0,none⟩)],.bool (X.ok left k),s16,Xr,Xs,Xt,Xu,Xv,Xw,Xx,Xy,Xz,Ya,Yb,Yc,Yd,Ye,Yf,Yg,Yh,Yi,Yj,Yk,Yl,Ym,Yn,Yo,Yp,s42,s43,s44,s45,s46,s47,s48,s49,s50,s51,s52,s53,Zc,Zd,Ze,Zf,Zg,Zh,Zi,Zj,Zk,Zl,Zm,Zn,Zo,Zp,Zq,Zr,Zs,Zt,Zu,Zv,Zw,Zx,Zy,Zz,Ja,Jb,Jc,Jd,Je,Jf,Jg,Jh,Ji,Jj,Jk,Jl,Jm,Jn,Jo,Jp],[]⟩ V') :
 Code.wp Tryz.prog (part Tryz.f79 [1,1,1,1,0,1,2,2,1,1,0,2,1,1,1,0]) Q ⟨#[Xa,Xb,Xc,.pointer (some ⟨al,0,none⟩),Xe,Xf,Xg,Xh,Xi,Xj,Xk,Xl,Xm,Xn,.func (.func 82) #[] #[.pointer (some ⟨lb,0,none⟩),.pointer (some ⟨dx,0,none⟩),.pointer (some ⟨al,0,none⟩),.pointer (some ⟨ib,0,none⟩)],.bool (left.testBit k),Xq,Xr,Xs,Xt,Xu,Xv,Xw,Xx,Xy,Xz,Ya,Yb,Yc,Yd,Ye,Yf,Yg,Yh,Yi,Yj,Yk,Yl,Ym,Yn,Yo,Yp,Yq,Yr,Ys,Yt,Yu,Yv,Yw,Yx,Yy,Yz,Za,Zb,Zc,Zd,Ze,Zf,Zg,Zh,Zi,Zj,Zk,Zl,Zm,Zn,Zo,Zp,Zq,Zr,Zs,Zt,Zu,Zv,Zw,Zx,Zy,Zz,Ja,Jb,Jc,Jd,Je,Jf,Jg,Jh,Ji,Jj,Jk,Jl,Jm,Jn,Jo,Jp],[]⟩ V:=by
 conv=>arg 2;whnf
 have HQ:=Lib.hid hQ
 have HF:=Lib.hid hf
 have hli:(X.all.length:Int) ≤ 6:=by omega
 have HA:=Lib.hid (And.intro hal hlt)
 clear hQ hf hal hlt
 have hal:=HA.out.1
 go_wp2_with fail
 clear hal
 have H15:left.testBit k=X.okTo left k 0:=(okTo_zero X left k).symm
 rw [H15]
 clear H15
 go_loopw [15,44] (fun v i wr=>∃ j:Nat,j ≤ X.all.length∧i=.int .i64 (j:Nat)∧v=.bool (X.okTo left k j)∧Hid (Below V.heap.size V wr)) (fun _ i _=>X.all.length - (intOf i).toNat)
 case atStart=>exact ⟨0,Nat.zero_le _,rfl,rfl,Lib.hid (Below.refl _ _)⟩
 case round =>
  obtain ⟨j,hj,rfl,rfl,HW⟩:=hrel
  by_cases hjl:j < X.all.length
  · have i1:(0:Int) ≤ (j:Int):=by omega
    have i2:(j:Int) < (X.all.length:Int):=by omega
    have hs:=okTo_succ X left k j
    cases hb:X.okTo left k j with
    | false =>
      rw [hb] at hs
      have HS:=Lib.hid hs
      clear hs hb
      go_wp2_with fail
      go_roundw
      case rel=>exact ⟨j + 1,by omega,by go_num,by rw [HS.out];rfl,HW⟩
      case measure=>simp [intOf];omega
    | true =>
      rw [hb] at hs
      have HS:=Lib.hid hs
      clear hs hb
      go_wp2_with fail
      refine (HF.out j hjl _ HW.out).mono ?_
      rintro e w' ⟨rfl,n,rfl⟩
      have HW2:=Lib.hid (drewB HW.out n)
      generalize X.first left j (X.at_ k)=bb at HS ⊢
      go_wp2_with fail
      go_roundw
      case rel=>exact ⟨j + 1,by omega,by go_num,by rw [HS.out];simp,HW2⟩
      case measure=>simp [intOf];omega
  · obtain rfl:j=X.all.length:=by omega
    go_wp2_with fail
    exact HQ.out _ _ _ _ _ _ _ _ _ _ _ _ _ _ HW.out
def StFA (V:World) (lx dx ib ge oe ne ce gd od nd cd i j:Nat) (x:Dn) (r:Req):Prop:=V.cell? ⟨lx,0,none⟩=some (.slice (some ⟨ge,oe,none⟩) ne ce)∧V.cell? ⟨dx,0,none⟩=some (.slice (some ⟨gd,od,none⟩) nd cd)∧V.cell? ⟨ib,0,none⟩=some (.int .i64 (i:Nat))∧V.cell? ⟨gd,od + i * 21,none⟩=some (.int .i64 (j:Nat))∧V.cell? ⟨gd,od + i * 21 + 4,none⟩=some (.int .i64 x.err)∧V.cell? ⟨gd,od + i * 21 + 5,none⟩=some (.string x.val)∧V.cell? ⟨gd,od + i * 21 + 6,none⟩=some (.slice x.pA x.pn x.pc)∧V.cell? ⟨gd,od + i * 21 + 7,none⟩=some (.int .i64 x.h.t)∧V.cell? ⟨gd,od + i * 21 + 8,none⟩=some (.int .u32 x.h.g)∧V.cell? ⟨gd,od + i * 21 + 9,none⟩=some (.int .u8 x.h.r)∧V.cell? ⟨gd,od + i * 21 + 10,none⟩=some (.int .u64 x.s0)∧V.cell? ⟨gd,od + i * 21 + 11,none⟩=some (.int .u64 x.s1)∧V.cell? ⟨gd,od + i * 21 + 12,none⟩=some (.int .u64 x.s2)∧V.cell? ⟨gd,od + i * 21 + 13,none⟩=some (.int .u64 x.s3)∧V.cell? ⟨gd,od + i * 21 + 14,none⟩=some (.int .u64 x.s4)∧V.cell? ⟨gd,od + i * 21 + 15,none⟩=some (.int .u64 x.s5)∧V.cell? ⟨gd,od + i * 21 + 16,none⟩=some (.int .u64 x.s6)∧V.cell? ⟨gd,od + i * 21 + 17,none⟩=some (.int .u64 x.s7)∧V.cell? ⟨gd,od + i * 21 + 18,none⟩=some (.int .u64 x.s8)∧V.cell? ⟨gd,od + i * 21 + 19,none⟩=some (.int .u64 x.s9)∧V.cell? ⟨gd,od + i * 21 + 20,none⟩=some (.complex .f64 x.la x.lb)∧V.cell? ⟨ge,oe + j * 13 + 1,none⟩=some (.int .i64 r.deed)∧V.cell? ⟨ge,oe + j * 13 + 2,none⟩=some (.int .i64 r.ten)∧V.cell? ⟨ge,oe + j * 13 + 3,none⟩=some (.int .u32 r.gen)∧V.cell? ⟨ge,oe + j * 13 + 4,none⟩=some (.int .u8 r.rig)∧V.cell? ⟨ge,oe + j * 13 + 5,none⟩=some (.string r.key)∧V.cell? ⟨ge,oe + j * 13 + 6,none⟩=some (.string r.val)∧V.cell? ⟨ge,oe + j * 13 + 7,none⟩=some (.string r.old)∧V.cell? ⟨ge,oe + j * 13 + 8,none⟩=some (.int .i64 r.lim)∧V.cell? ⟨ge,oe + j * 13 + 9,none⟩=some (.int .i64 r.tenant)∧V.cell? ⟨ge,oe + j * 13 + 10,none⟩=some (.int .u64 r.qk)∧V.cell? ⟨ge,oe + j * 13 + 11,none⟩=some (.int .u64 r.qb)∧V.cell? ⟨ge,oe + j * 13 + 12,none⟩=some (.int .u8 r.rights)
set_option maxHeartbeats 6400000 in
set_option maxRecDepth 100000 in
theorem sr_step {W:World} {lx dx ib ge oe ne ce gd od nd cd i j q:Nat} {x:Dn} {r:Req} {Q:Exit→Act→World→Prop} {bb:Bool} {R:World→Prop} (h0:StFA W.drew lx dx ib ge oe ne ce gd od nd cd i j x r) (hi:i < nd) (hj:j < ne)
 (hc:Calls Tryz.prog 49 #[.pointer (some ⟨q,0,none⟩),.agg #[.int .i64 r.deed,.int .i64 r.ten,.int .u32 r.gen,.int .u8 r.rig,.string r.key,.string r.val,.string r.old,.int .i64 r.lim,.int .i64 r.tenant,.int .u64 r.qk,.int .u64 r.qb,.int .u8 r.rights],.agg #[.int .i64 x.err,.string x.val,.slice x.pA x.pn x.pc,.int .i64 x.h.t,.int .u32 x.h.g,.int .u8 x.h.r,.int .u64 x.s0,.int .u64 x.s1,.int .u64 x.s2,.int .u64 x.s3,.int .u64 x.s4,.int .u64 x.s5,.int .u64 x.s6,.int .u64 x.s7,.int .u64 x.s8,.int .u64 x.s9,.complex .f64 x.la x.lb],.bool false] W.drew (fun e w'=>e=.returned (.bool bb)∧R w')) (hk:∀ w',R w'→StFA w' lx dx ib ge oe ne ce gd od nd cd i j x r)
 (hQ:∀ (s58 s59 s60 s61 s62 s63 s64 s65 s66 s67 s68 s69 s70 s71 s72:Value) (W':World),R W'→Q .normal ⟨#[Xa,Xb,Xc,Xd,.pointer (some ⟨dx,0,none⟩),.pointer (some ⟨lx,0,none⟩),Xg,Xh,Xi,Xj,Xk,Xl,Xm,.pointer (some ⟨ib,0,none⟩),Xo,Xp,Xq,.pointer (some ⟨q,0,none⟩),Xs,Xt,Xu,Xv,Xw,Xx,Xy,Xz,Ya,Yb,Yc,Yd,Ye,Yf,Yg,Yh,Yi,Yj,Yk,Yl,Ym,Yn,Yo,Yp,Yq,Yr,Ys,Yt,Yu,Yv,Yw,Yx,Yy,Yz,Za,Zb,Zc,Zd,Ze,Zf,s58,s59,s60,s61,s62,s63,s64,s65,s66,s67,s68,s69,s70,s71,s72,.bool bb,.bool (!bb),Zx,Zy,Zz,Ja,Jb,Jc,Jd,Je,Jf,Jg,Jh,Ji,Jj,Jk,Jl,Jm,Jn,Jo,Jp],[]⟩ W') :
 Code.wp Tryz.prog (part Tryz.f79 [1,1,1,1,0,1,2,2,1,1,0,2,1,1,1,1,1,1,0,0]) Q ⟨#[Xa,Xb,Xc,Xd,.pointer (some ⟨dx,0,none⟩),.pointer (some ⟨lx,0,none⟩),Xg,Xh,Xi,Xj,Xk,Xl,Xm,.pointer (some ⟨ib,0,none⟩),Xo,Xp,Xq,.pointer (some ⟨q,0,none⟩),Xs,Xt,Xu,Xv,Xw,Xx,Xy,Xz,Ya,Yb,Yc,Yd,Ye,Yf,Yg,Yh,Yi,Yj,Yk,Yl,Ym,Yn,Yo,Yp,Yq,Yr,Ys,Yt,Yu,Yv,Yw,Yx,Yy,Yz,Za,Zb,Zc,Zd,Ze,Zf,Zg,Zh,Zi,Zj,Zk,Zl,Zm,Zn,Zo,Zp,Zq,Zr,Zs,Zt,Zu,Zv,Zw,Zx,Zy,Zz,Ja,Jb,Jc,Jd,Je,Jf,Jg,Jh,Ji,Jj,Jk,Jl,Jm,Jn,Jo,Jp],[]⟩ W:=by
 conv=>arg 2;whnf
 have HQ:=Lib.hid hQ
 have HC:=Lib.hid hc
 have HK:=Lib.hid hk
 have i1:(0:Int) ≤ (i:Int):=by omega
 have i2:(i:Int) < (nd:Int):=by omega
 have j1:(0:Int) ≤ (j:Int):=by omega
 have j2:(j:Int) < (ne:Int):=by omega
 unfold StFA at h0 HK
 clear hQ hc hk
 refine wp_region_noPanic ?_
 refine wp_region_held_drew (S:=(fun V:World=>V.cell? ⟨lx,0,none⟩=some (.slice (some ⟨ge,oe,none⟩) ne ce)∧V.cell? ⟨dx,0,none⟩=some (.slice (some ⟨gd,od,none⟩) nd cd)∧V.cell? ⟨ib,0,none⟩=some (.int .i64 (i:Nat))∧V.cell? ⟨gd,od + i * 21,none⟩=some (.int .i64 (j:Nat))∧V.cell? ⟨gd,od + i * 21 + 4,none⟩=some (.int .i64 x.err)∧V.cell? ⟨gd,od + i * 21 + 5,none⟩=some (.string x.val)∧V.cell? ⟨gd,od + i * 21 + 6,none⟩=some (.slice x.pA x.pn x.pc)∧V.cell? ⟨gd,od + i * 21 + 7,none⟩=some (.int .i64 x.h.t)∧V.cell? ⟨gd,od + i * 21 + 8,none⟩=some (.int .u32 x.h.g)∧V.cell? ⟨gd,od + i * 21 + 9,none⟩=some (.int .u8 x.h.r)∧V.cell? ⟨gd,od + i * 21 + 10,none⟩=some (.int .u64 x.s0)∧V.cell? ⟨gd,od + i * 21 + 11,none⟩=some (.int .u64 x.s1)∧V.cell? ⟨gd,od + i * 21 + 12,none⟩=some (.int .u64 x.s2)∧V.cell? ⟨gd,od + i * 21 + 13,none⟩=some (.int .u64 x.s3)∧V.cell? ⟨gd,od + i * 21 + 14,none⟩=some (.int .u64 x.s4)∧V.cell? ⟨gd,od + i * 21 + 15,none⟩=some (.int .u64 x.s5)∧V.cell? ⟨gd,od + i * 21 + 16,none⟩=some (.int .u64 x.s6)∧V.cell? ⟨gd,od + i * 21 + 17,none⟩=some (.int .u64 x.s7)∧V.cell? ⟨gd,od + i * 21 + 18,none⟩=some (.int .u64 x.s8)∧V.cell? ⟨gd,od + i * 21 + 19,none⟩=some (.int .u64 x.s9)∧V.cell? ⟨gd,od + i * 21 + 20,none⟩=some (.complex .f64 x.la x.lb)∧V.cell? ⟨ge,oe + j * 13 + 1,none⟩=some (.int .i64 r.deed)∧V.cell? ⟨ge,oe + j * 13 + 2,none⟩=some (.int .i64 r.ten)∧V.cell? ⟨ge,oe + j * 13 + 3,none⟩=some (.int .u32 r.gen)∧V.cell? ⟨ge,oe + j * 13 + 4,none⟩=some (.int .u8 r.rig)∧V.cell? ⟨ge,oe + j * 13 + 5,none⟩=some (.string r.key)∧V.cell? ⟨ge,oe + j * 13 + 6,none⟩=some (.string r.val)∧V.cell? ⟨ge,oe + j * 13 + 7,none⟩=some (.string r.old)∧V.cell? ⟨ge,oe + j * 13 + 8,none⟩=some (.int .i64 r.lim)∧V.cell? ⟨ge,oe + j * 13 + 9,none⟩=some (.int .i64 r.tenant)∧V.cell? ⟨ge,oe + j * 13 + 10,none⟩=some (.int .u64 r.qk)∧V.cell? ⟨ge,oe + j * 13 + 11,none⟩=some (.int .u64 r.qb)∧V.cell? ⟨ge,oe + j * 13 + 12,none⟩=some (.int .u8 r.rights))) (by kernel_rfl) ?_ (fun hHeld0=>?_)
 · exact h0
 refine tk (i:=0) (v:=?_) rfl (Or.inl ⟨by rfl,?_⟩) hHeld0 ?_
 rotate_left
 · (intro w hSw;(try dsimp only at hSw);go_simp <;> with_reducible rfl)
 try simp only [Act.put,zD,zE,zF]
 refine tk (i:=1) (v:=?_) rfl (Or.inl ⟨by rfl,?_⟩) hHeld0 ?_
 rotate_left
 · (intro w hSw;(try dsimp only at hSw);go_simp <;> with_reducible rfl)
 try simp only [Act.put,zD,zE,zF]
 refine tk (i:=2) (v:=?_) rfl (Or.inl ⟨by rfl,?_⟩) hHeld0 ?_
 rotate_left
 · (intro w hSw;(try dsimp only at hSw);go_simp <;> with_reducible rfl)
 try simp only [Act.put,zD,zE,zF]
 refine tk (i:=3) (v:=?_) rfl (Or.inl ⟨by rfl,?_⟩) hHeld0 ?_
 rotate_left
 · (intro w hSw;(try dsimp only at hSw);go_simp <;> with_reducible rfl)
 try simp only [Act.put,zD,zE,zF]
 refine tk (i:=4) (v:=?_) rfl (Or.inl ⟨by rfl,?_⟩) hHeld0 ?_
 rotate_left
 · (intro w hSw;(try dsimp only at hSw);go_simp <;> with_reducible rfl)
 try simp only [Act.put,zD,zE,zF]
 refine tk (i:=5) (v:=?_) rfl (Or.inl ⟨by rfl,?_⟩) hHeld0 ?_
 rotate_left
 · (intro w hSw;(try dsimp only at hSw);go_simp <;> with_reducible rfl)
 try simp only [Act.put,zD,zE,zF]
 refine tk (i:=6) (v:=?_) rfl (Or.inl ⟨by rfl,?_⟩) hHeld0 ?_
 rotate_left
 · (intro w hSw;(try dsimp only at hSw);go_simp <;> with_reducible rfl)
 try simp only [Act.put,zD,zE,zF]
 refine tk (i:=7) (v:=?_) rfl (Or.inl ⟨by rfl,?_⟩) hHeld0 ?_
 rotate_left
 · (intro w hSw;(try dsimp only at hSw);go_simp <;> with_reducible rfl)
 try simp only [Act.put,zD,zE,zF]
 refine tk (i:=8) (v:=?_) rfl (Or.inl ⟨by rfl,?_⟩) hHeld0 ?_
 rotate_left
 · (intro w hSw;(try dsimp only at hSw);go_simp <;> with_reducible rfl)
 try simp only [Act.put,zD,zE,zF]
 refine tk (i:=9) (v:=?_) rfl (Or.inl ⟨by rfl,?_⟩) hHeld0 ?_
 rotate_left
 · (intro w hSw;(try dsimp only at hSw);go_simp <;> with_reducible rfl)
 try simp only [Act.put,zD,zE,zF]
 refine tk (i:=10) (v:=?_) rfl (Or.inl ⟨by rfl,?_⟩) hHeld0 ?_
 rotate_left
 · (intro w hSw;(try dsimp only at hSw);go_simp <;> with_reducible rfl)
 try simp only [Act.put,zD,zE,zF]
 refine tk (i:=11) (v:=?_) rfl (Or.inl ⟨by rfl,?_⟩) hHeld0 ?_
 rotate_left
 · (intro w hSw;(try dsimp only at hSw);go_simp <;> with_reducible rfl)
 try simp only [Act.put,zD,zE,zF]
 refine tk (i:=12) (v:=?_) rfl (Or.inl ⟨by rfl,?_⟩) hHeld0 ?_
 rotate_left
 · (intro w hSw;(try dsimp only at hSw);go_simp <;> with_reducible rfl)
 try simp only [Act.put,zD,zE,zF]
 refine tk (i:=13) (v:=?_) rfl (Or.inl ⟨by rfl,?_⟩) hHeld0 ?_
 rotate_left
 · (intro w hSw;(try dsimp only at hSw);go_simp <;> with_reducible rfl)
 try simp only [Act.put,zD,zE,zF]
 refine tk (i:=14) (v:=?_) rfl (Or.inl ⟨by rfl,?_⟩) hHeld0 ?_
 rotate_left
 · (intro w hSw;(try dsimp only at hSw);go_simp <;> with_reducible rfl)
 try simp only [Act.put,zA,zB,zC,zD,zE,zF]
 refine wpAnyH_ready (rs:=[15]) (by kernel_rfl) (by simp) ?_
 refine AllReadyH.cons rfl (fun K hK=>?_) AllReadyH.nil
 go_simp
 try rw [hcl]
 with_reducible refine HC.out.mono ?_
 rintro e w9 ⟨rfl,h9⟩
 refine hK.out _ _ ?_ (fun hHeld1=>?_)
 · exact HK.out _ h9
 clear hK K hHeld0
 try simp only [Act.put,zA,zB,zC,zD,zE,zF]
 refine tk (i:=16) (v:=?_) rfl (Or.inl ⟨by rfl,?_⟩) hHeld1 ?_
 rotate_left
 · (intro w hSw;(try dsimp only at hSw);go_simp <;> with_reducible rfl)
 try simp only [Act.put,zA,zB,zC,zD,zE,zF]
 refine wpAnyH_done (by kernel_rfl) ?_ _
 exact NoPanic.normal (HQ.out _ _ _ _ _ _ _ _ _ _ _ _ _ _ _ w9 h9)
set_option maxHeartbeats 6400000 in
set_option maxRecDepth 100000 in
theorem sr_rec {W:World} {wk lb q left k:Nat} {b:WB} {Q:Exit→Act→World→Prop} {bb:Bool} {R:World→Prop} (h0:W.drew.cell? ⟨wk,0,none⟩=some (.func (.func 79) #[] b.caps)∧W.drew.cell? ⟨lb,0,none⟩=some (.int .i64 (left:Nat))) (hl:left < 64) (hk6:k < 6) (hbit:left.testBit k=true)
 (hc:Calls Tryz.prog 79 #[.pointer (some ⟨q,0,none⟩),.int .i64 (left - 2 ^ k:Nat),.pointer (some ⟨b.dd,0,none⟩),.pointer (some ⟨b.al,0,none⟩),.pointer (some ⟨b.dx,0,none⟩),.pointer (some ⟨b.lx,0,none⟩),.pointer (some ⟨b.od,0,none⟩),.pointer (some ⟨b.wk,0,none⟩)] W.drew (fun e w'=>e=.returned (.bool bb)∧R w')) (hk:∀ w',R w'→w'.cell? ⟨wk,0,none⟩=some (.func (.func 79) #[] b.caps)∧w'.cell? ⟨lb,0,none⟩=some (.int .i64 (left:Nat)))
 (hQ:∀ (s79 s80 s81 s82 s83 s84:Value) (W':World),R W'→Q .normal ⟨#[Xa,Xb,Xc,Xd,Xe,Xf,Xg,.pointer (some ⟨wk,0,none⟩),Xi,.pointer (some ⟨lb,0,none⟩),Xk,Xl,.int .i64 (k:Nat),Xn,Xo,Xp,Xq,.pointer (some ⟨q,0,none⟩),Xs,Xt,Xu,Xv,Xw,Xx,Xy,Xz,Ya,Yb,Yc,Yd,Ye,Yf,Yg,Yh,Yi,Yj,Yk,Yl,Ym,Yn,Yo,Yp,Yq,Yr,Ys,Yt,Yu,Yv,Yw,Yx,Yy,Yz,Za,Zb,Zc,Zd,Ze,Zf,Zg,Zh,Zi,Zj,Zk,Zl,Zm,Zn,Zo,Zp,Zq,Zr,Zs,Zt,Zu,Zv,Zw,Zx,Zy,Zz,Ja,s79,s80,s81,s82,s83,s84,.bool bb,Ji,Jj,Jk,Jl,Jm,Jn,Jo,Jp],[]⟩ W') :
 Code.wp Tryz.prog (part Tryz.f79 [1,1,1,1,0,1,2,2,1,1,0,2,1,1,1,1,1,1,1,1,0,0]) Q ⟨#[Xa,Xb,Xc,Xd,Xe,Xf,Xg,.pointer (some ⟨wk,0,none⟩),Xi,.pointer (some ⟨lb,0,none⟩),Xk,Xl,.int .i64 (k:Nat),Xn,Xo,Xp,Xq,.pointer (some ⟨q,0,none⟩),Xs,Xt,Xu,Xv,Xw,Xx,Xy,Xz,Ya,Yb,Yc,Yd,Ye,Yf,Yg,Yh,Yi,Yj,Yk,Yl,Ym,Yn,Yo,Yp,Yq,Yr,Ys,Yt,Yu,Yv,Yw,Yx,Yy,Yz,Za,Zb,Zc,Zd,Ze,Zf,Zg,Zh,Zi,Zj,Zk,Zl,Zm,Zn,Zo,Zp,Zq,Zr,Zs,Zt,Zu,Zv,Zw,Zx,Zy,Zz,Ja,Jb,Jc,Jd,Je,Jf,Jg,Jh,Ji,Jj,Jk,Jl,Jm,Jn,Jo,Jp],[]⟩ W:=by
 conv=>arg 2;whnf
 have HQ:=Lib.hid hQ
 have HC:=Lib.hid hc
 have HK:=Lib.hid hk
 have k1:(0:Int) ≤ (k:Int):=by omega
 have k2:(k:Int) < 6:=by omega
 have hcl:=clr_bit left k hl hk6 hbit
 unfold WB.caps at h0 HK
 clear hQ hc hk
 refine wp_region_noPanic ?_
 refine wp_region_held_drew (S:=(fun V:World=>V.cell? ⟨wk,0,none⟩=some (.func (.func 79) #[] #[.pointer (some ⟨b.dd,0,none⟩),.pointer (some ⟨b.al,0,none⟩),.pointer (some ⟨b.dx,0,none⟩),.pointer (some ⟨b.lx,0,none⟩),.pointer (some ⟨b.od,0,none⟩),.pointer (some ⟨b.wk,0,none⟩)])∧V.cell? ⟨lb,0,none⟩=some (.int .i64 (left:Nat)))) (by kernel_rfl) ?_ (fun hHeld0=>?_)
 · exact h0
 refine tk (i:=0) (v:=?_) rfl (Or.inl ⟨by rfl,?_⟩) hHeld0 ?_
 rotate_left
 · (intro w hSw;(try dsimp only at hSw);go_simp <;> with_reducible rfl)
 try simp only [Act.put,zD,zE,zF]
 refine tk (i:=1) (v:=?_) rfl (Or.inl ⟨by rfl,?_⟩) hHeld0 ?_
 rotate_left
 · (intro w hSw;(try dsimp only at hSw);go_simp <;> with_reducible rfl)
 try simp only [Act.put,zD,zE,zF]
 refine tk (i:=2) (v:=?_) rfl (Or.inl ⟨by rfl,?_⟩) hHeld0 ?_
 rotate_left
 · (intro w hSw;(try dsimp only at hSw);go_simp <;> with_reducible rfl)
 try simp only [Act.put,zD,zE,zF]
 refine tk (i:=3) (v:=?_) rfl (Or.inl ⟨by rfl,?_⟩) hHeld0 ?_
 rotate_left
 · (intro w hSw;(try dsimp only at hSw);go_simp <;> with_reducible rfl)
 try simp only [Act.put,zD,zE,zF]
 refine tk (i:=4) (v:=?_) rfl (Or.inl ⟨by rfl,?_⟩) hHeld0 ?_
 rotate_left
 · (intro w hSw;(try dsimp only at hSw);go_simp <;> with_reducible rfl)
 try simp only [Act.put,zD,zE,zF]
 refine tk (i:=5) (v:=?_) rfl (Or.inl ⟨by rfl,?_⟩) hHeld0 ?_
 rotate_left
 · (intro w hSw;(try dsimp only at hSw);go_simp <;> with_reducible rfl)
 try simp only [Act.put,zA,zB,zC,zD,zE,zF]
 refine wpAnyH_ready (rs:=[6]) (by kernel_rfl) (by simp) ?_
 refine AllReadyH.cons rfl (fun K hK=>?_) AllReadyH.nil
 go_simp
 try rw [hcl]
 with_reducible refine HC.out.mono ?_
 rintro e w9 ⟨rfl,h9⟩
 refine hK.out _ _ ?_ (fun hHeld1=>?_)
 · exact HK.out _ h9
 clear hK K hHeld0
 try simp only [Act.put,zA,zB,zC,zD,zE,zF]
 refine wpAnyH_done (by kernel_rfl) ?_ _
 exact NoPanic.normal (HQ.out _ _ _ _ _ _ w9 h9)
def WalkEnd (w:World) (X:Sx) (b:WB) (vl vd va vo:Value) (ord:List Nat) (r:Option (List Nat) × Kvs) (W:World) (e:Ending) (W':World):Prop :=
 e=.returned (.bool r.1.isSome)∧∃ vo',WkAt w X b vl vd va vo' (r.1.getD ord) r.2 W'∧KeepC (WkC b vo) W W'∧OwnNew W vo vo'
structure LpAt (w:World) (X:Sx) (b:WB) (vl vd va:Value) (W:World) (vo0:Value) (p:Nat) (M:Mdl) (O:Ows) (left lb:Nat) (vo:Value) (ord:List Nat) (dead:Kvs) (wr:World):Prop where
 wk:WkAt w X b vl vd va vo ord dead wr
 mdl:ModelAt wr p M O
 dm:¬ mown p M O b.dm
 lbk:Blk wr lb 3 #[.int .i64 (left:Nat)]
 vlb:vo.ownBlock ≠ some lb
 glb:W.heap.size ≤ lb
 keep:KeepC (WkC b vo0) W wr
 new:OwnNew W vo0 vo
section
variable {w W wr wr':World} {X:Sx} {b:WB} {vl vd va vo0 vo vo':Value} {p left lb:Nat} {M:Mdl} {O:Ows} {ord ord':List Nat} {dead dead':Kvs}
theorem LpAt.turn (h:LpAt w X b vl vd va W vo0 p M O left lb vo ord dead wr) (hw:WkAt w X b vl vd va vo' ord' dead' wr') (k:KeepC (WkC b vo) wr wr') (hn:OwnNew wr vo vo'):LpAt w X b vl vd va W vo0 p M O left lb vo' ord' dead' wr' where
 wk:=hw
 mdl:=h.wk.model h.mdl h.dm k
 dm:=h.dm
 lbk:=k.blk h.lbk (by
  rintro (e | e | e)
  · exact blk_ne h.lbk h.wk.od (by decide) e
  · exact map_no_blk h.lbk (e ▸ h.wk.dm)
  · exact h.vlb e)
 vlb:=fun e=>h.vlb (hn.old h.lbk.lt e)
 glb:=h.glb
 keep:=WkC.trans h.keep h.new k
 new:=h.new.trans hn h.keep.size
theorem LpAt.below (h:LpAt w X b vl vd va W vo0 p M O left lb vo ord dead wr) (hb:Below wr.heap.size wr wr'):LpAt w X b vl vd va W vo0 p M O left lb vo ord dead wr' :=
 h.turn (h.wk.below hb) (.of_below hb) (.refl _ _)
theorem LpAt.done (h:LpAt w X b vl vd va W vo0 p M O left lb vo ord dead wr) {r:Option (List Nat) × Kvs} {ord0:List Nat} (h1:r.1.getD ord0=ord) (h2:r.2=dead):WalkEnd w X b vl vd va vo0 ord0 r W (.returned (.bool r.1.isSome)) wr :=
 ⟨rfl,vo,by rw [h1,h2];exact h.wk,h.keep,h.new⟩
end
theorem loop_step {X:Sx} {go:Mdl→Nat→List Nat→Kvs→Option (List Nat) × Kvs} {M:Mdl} {left n k:Nat} {ord:List Nat} {dead:Kvs} (hk:k < n):X.loop go M left ord ((List.range n).drop k) dead =
 match (if X.ok left k then X.step M (X.at_ k) else none) with
 | none=>X.loop go M left ord ((List.range n).drop (k + 1)) dead
 | some M'=>match (go M' (left - 2 ^ k) (ord ++ [X.at_ k]) dead).1 with
   | some o=>(some o,(go M' (left - 2 ^ k) (ord ++ [X.at_ k]) dead).2)
   | none=>X.loop go M left ord ((List.range n).drop (k + 1)) (go M' (left - 2 ^ k) (ord ++ [X.at_ k]) dead).2:=by
 rw [List.drop_eq_getElem_cons (by simpa using hk),List.getElem_range]
 rfl
theorem own_slice {W:World} {base n:Nat} {e:TypeId} {v:Value} {xs:List Value} (h:W.ownsRow base e 1 v n xs) (hn:0 < n):∃ g c,v=.slice (some ⟨g,0,none⟩) n c∧g < W.heap.size∧∀ j u,xs[j]?=some u→W.cell? ⟨g,j,none⟩=some u:=by
 obtain ⟨A,c,rfl,_⟩:=own_form h
 obtain ⟨ad,rfl,h1,h2⟩:=(Reads.of_own h).2 hn
 obtain ⟨g,cap,hv,_,hlt⟩:=h.form hn
 injection hv with hv
 injection hv with hv
 subst hv
 refine ⟨g,c,rfl,hlt,fun j u hu=>?_⟩
 have:=h2 j u hu
 rwa [show (⟨g,0,none⟩:Addr).add j=⟨g,j,none⟩ by
  unfold Addr.add
  by_cases hj:j=0
  · simp [hj]
  · simp [hj]] at this
theorem row_at {α:Type} {f:α→List Value} {m:Nat} (hf:∀ x,(f x).length=m) {w:World} {g o:Nat} {l:List α} (h:w.rangeAt g o (l.flatMap f)) {k j:Nat} {u:Value} (hk:k < l.length) (hj:(f l[k])[j]?=some u):w.cell? ⟨g,o + k * m + j,none⟩=some u:=by
 have hjm:j < m:=by
  have:=(List.getElem?_eq_some_iff.1 hj).1
  rwa [hf] at this
 rw [Nat.add_assoc]
 exact h _ _ (by rw [flat_at hf l k j hk hjm];exact hj)
def StepR (bb:Bool) (q:Nat) (M':Mdl) (W W':World):Prop:=(bb=false→Below W.heap.size W W')∧(bb=true→∃ T',ModelAt W' q M' T'∧(∀ i,mown q M' T' i→i=q ∨ W.heap.size ≤ i)∧KeepC (fun i=>i=q) W W')
theorem sx_step {w W:World} {X:Sx} {ge oe gd od W1:Nat} (hX:SxAt w X ge oe gd od W1) (hb:Below w.heap.size w W) {q:Nat} {M:Mdl} {O:Ows} (hm:ModelAt W q M O) (hsm:Small M) {i j:Nat} (hi:i < X.ds.length) (hj:j < X.es.length) :
 Calls Tryz.prog 49 #[.pointer (some ⟨q,0,none⟩),X.es[j].r.v,.agg X.ds[i].ans.toArray,.bool false] W (fun e w'=>e=.returned (.bool (rpB M X.es[j].r X.ds[i] (X.P i)))∧StepR (rpB M X.es[j].r X.ds[i] (X.P i)) q (doN M X.es[j].r).1 W w'):=by
 obtain ⟨-,hd,hA⟩:=hX.ok.done i hi
 obtain ⟨hr,hq,h6⟩:=hX.ok.ent j hj
 have hA2:=hA.keep fun p hp=>hb.cell (Nat.lt_of_lt_of_le hp hX.ok.W1)
 have hW1:=Nat.le_trans hX.ok.W1 hb.size
 generalize X.es[j].r=r at hr hq h6 ⊢
 generalize X.ds[i]=d at hd hA2 ⊢
 clear hA
 have hst:(doN M r).2.st=st0:=do_st0 M r h6
 have hpl:(doN M r).2.prs.length ≤ 1000000:=prs_len hsm r
 have hans:d.ans.toArray=#[.int .i64 d.err,.string d.val,.slice d.pA (X.P i).length d.pc,.int .i64 d.h.t,.int .u32 d.h.g,.int .u8 d.h.r,.int .u64 0,.int .u64 0,.int .u64 0,.int .u64 0,.int .u64 0,.int .u64 0,.int .u64 0,.int .u64 0,.int .u64 0,.int .u64 0,.complex .f64 0 0]:=by
  obtain ⟨s0,s1,s2,s3,s4,s5,s6,s7,s8,s9,sa,sb⟩:=hd.s
  unfold Dn.ans
  rw [hd.pn,s0,s1,s2,s3,s4,s5,s6,s7,s8,s9,sa,sb]
 rw [hans]
 unfold rpB
 generalize hR:doN M r=R at hst hpl ⊢
 obtain ⟨M2,a⟩:=R
 obtain ⟨ae,av,ap,ah,ast⟩:=a
 try dsimp only at hst hpl ⊢
 subst hst
 have hl:=hd.len
 refine (step_any hm hsm r hr d.err ae d.val av (X.P i) ap d.h ah d.pA d.pc W1 hl hpl hA2 hW1 hR hd.err false).mono ?_
 rintro e w' ⟨h1,h2,h3⟩
 exact ⟨h1,h2,h3⟩
theorem stepR_below {wB W W':World} {q:Nat} {M':Mdl} {bb:Bool} (hb:Below wB.heap.size wB W) (hq:wB.heap.size ≤ q) (h:StepR bb q M' W W'):Below wB.heap.size wB W':=by
 cases bb with
 | false=>exact below_trans hb (h.1 rfl)
 | true =>
   obtain ⟨T',_,_,k⟩:=h.2 rfl
   exact ⟨k.os.trans hb.os,k.tape.trans hb.tape,k.output.trans hb.output,Nat.le_trans hb.size k.size,fun i hi=>by rw [k.block i (Nat.lt_of_lt_of_le hi hb.size) (.inl (by omega)),hb.block i hi]⟩
theorem key_eq (X:Sx) (M:Mdl) (left:Nat):(⟨(Lib.decDigits left).toArray⟩ ++ ⟨#[32]⟩ ++ ⟨(textN X.T M).toArray⟩:ByteArray)=X.key M left:=rfl
set_option maxHeartbeats 25600000 in
set_option maxRecDepth 100000 in
theorem walk_any {w:World} {X:Sx} {ge oe gd od W1 c c2:Nat} (hX:SxAt w X ge oe gd od W1) (Pm:Nat→Mdl→Prop) (hPm:∀ f M i M',Pm (f + 1) M→X.step M i=some M'→Pm f M') (hTx:∀ f M,Pm f M→∀ W p O,ModelAt W p M O→TxSmall M) (b:WB) (va:Value) :
 ∀ (f:Nat) (M:Mdl) (left:Nat) (ord:List Nat) (dead:Kvs) (vo:Value) (p:Nat) (O:Ows) (W:World),left < f→left < 64→Pm f M→ord.length + f ≤ 1000→WkAt w X b (.slice (some ⟨ge,oe,none⟩) X.es.length c) (.slice (some ⟨gd,od,none⟩) X.ds.length c2) va vo ord dead W→ModelAt W p M O→¬ mown p M O b.dm →
 Calls Tryz.prog 79 #[.pointer (some ⟨p,0,none⟩),.int .i64 (left:Nat),.pointer (some ⟨b.dd,0,none⟩),.pointer (some ⟨b.al,0,none⟩),.pointer (some ⟨b.dx,0,none⟩),.pointer (some ⟨b.lx,0,none⟩),.pointer (some ⟨b.od,0,none⟩),.pointer (some ⟨b.wk,0,none⟩)] W (WalkEnd w X b (.slice (some ⟨ge,oe,none⟩) X.es.length c) (.slice (some ⟨gd,od,none⟩) X.ds.length c2) va vo ord (X.walk f M left ord dead) W):=by
 have HX:=Lib.hid hX
 have HPm:=Lib.hid hPm
 have HTx:=Lib.hid hTx
 have hfew:=hX.few
 clear hX hPm hTx
 intro f
 induction f with
 | zero=>intro M left ord dead vo p O W hlf;omega
 | succ f ih =>
   intro M left ord dead vo p O W hlf hl6 hP hol hw hm hd
   have IH:=Lib.hid ih
   clear ih
   obtain ⟨vl,hvl⟩:∃ v:Value,Value.slice (some ⟨ge,oe,none⟩) X.es.length c=v:=⟨_,rfl⟩
   obtain ⟨vd,hvd⟩:∃ v:Value,Value.slice (some ⟨gd,od,none⟩) X.ds.length c2=v:=⟨_,rfl⟩
   rw [hvl,hvd] at hw ⊢
   rw [hvl,hvd] at IH
   have HVL:=Lib.hid hvl
   have HVD:=Lib.hid hvd
   have hb0:=below_box W (.cells #[.int .i64 (left:Nat)] 3)
   have hlp:LpAt w X b vl vd va W vo p M O left W.heap.size vo ord dead (W.alloc (.cells #[.int .i64 (left:Nat)] 3)) :=
    ⟨hw.below hb0,hm.below hb0,hd,Blk.new W _ _,fun e=>by have:=(own_at hw.orow e).2.1;omega,Nat.le_refl _,.of_below hb0,.refl _ _⟩
   have HL:=Lib.hid hlp
   have HP:=Lib.hid hP
   clear hw hm hd hlp hb0 hP hvl hvd
   go_enter Tryz.func79,Tryz.ntmps79
   refine wp_seq_k fun K0 hK=>?_
   have HK0:=Lib.hid hK
   clear hK
   go_wp2_with fail
   refine HK0.out _ _ ?_
   clear HK0
   try dsimp only at HL ⊢
   try simp only [Act.put]
   generalize hlb:W.heap.size=lb at HL ⊢
   clear hlb
   generalize W.alloc (.cells #[.int .i64 (left:Nat)] 3)=wa at HL ⊢
   have clb:=HL.out.lbk.cell 0
   rw [show (#[.int .i64 (left:Nat)]:Array Value)[0]?=some (.int .i64 (left:Nat)) from rfl] at clb
   by_cases h0:left=0
   · subst h0
     have hz:((0:Nat):Int)=0:=rfl
     rw [hz] at clb
     go_wp2_with fail
     go_ret
     have e:X.walk (f + 1) M 0 ord dead=(some ord,dead):=by rw [Sx.walk,if_pos rfl]
     rw [e]
     exact HL.out.done rfl rfl
   · have h0b:(((left:Nat):Int) == 0)=false:=by simp [h0]
     have H0:=Lib.hid h0
     clear h0
     refine wp_seq_k fun K0 hK=>?_
     have HK0:=Lib.hid hK
     clear hK
     go_wp2_with fail
     refine HK0.out _ _ ?_
     clear HK0
     refine wp_seq_k fun K0 hK=>?_
     have HK0:=Lib.hid hK
     clear hK
     clear h0b
     have hdl:=digits_le left (by omega)
     have htl:(textN X.T M).length ≤ 425000:=texts_len (HTx.out _ _ HP.out _ _ _ HL.out.mdl) 17 (Nat.le_refl _)
     have hcat1:¬ 9223372036854775807 < (Lib.decDigits left).length + 1:=by omega
     have hcat2:¬ 9223372036854775807 < (Lib.decDigits left).length + 1 + (textN X.T M).length:=by omega
     clear hdl htl
     go_wp2_with fail
     refine (lib_Itoa_small left (by omega) _).mono ?_
     rintro e w4 ⟨rfl,rfl⟩
     go_wp2_with fail
     refine (text_m HL.out.mdl (HTx.out _ _ HP.out _ _ _ HL.out.mdl) (HX.out.tabs.below HL.out.wk.bel)).mono ?_
     rintro e w5 ⟨rfl,hb5⟩
     have H5:=Lib.hid (HL.out.below hb5)
     clear HL hb5 clb hcat1
     go_wp2_with fail
     refine HK0.out _ _ ?_
     clear HK0
     clear hcat2
     try simp only [Act.put]
     rw [key_eq]
     have cdd:=H5.out.wk.dd.cell 0
     rw [show (#[.map (some b.dm)]:Array Value)[0]?=some (.map (some b.dm)) from rfl] at cdd
     have HV:=Lib.hid H5.out.wk.vals
     have hwk0:X.walk (f + 1) M left ord dead=if (getS (X.key M left) dead).isSome then (none,dead) else X.loop (X.walk f) M left ord ((List.range X.all.length).drop 0) dead:=by rw [Sx.walk,if_neg H0.out,List.drop_zero]
     generalize hky:X.key M left=ky at hwk0 ⊢
     have HKY:=Lib.hid hky
     clear hky
     cases hg:getS ky dead with
     | some v =>
       obtain rfl:=HV.out _ _ hg
       rw [hg] at hwk0
       have HW0:=Lib.hid hwk0
       have HG:=Lib.hid hg
       clear hwk0 hg HV
       go_wp2_with (refine wpList_lookup_str rfl (.tmp 26) (.tmp 27) 140 rfl 9 4 Tryz.underlying140 Tryz.underlying9 (.bool false) (Tryz.zeroValue4 _) b.dm dead rfl H5.out.wk.dm ky rfl ?_;rw [HG.out])
       go_ret
       rw [HW0.out]
       exact H5.out.done rfl rfl
     | none =>
       rw [hg] at hwk0
       have HW0:=Lib.hid hwk0
       have HG:=Lib.hid hg
       clear hwk0 hg HV
       refine wp_seq_k fun K0 hK=>?_
       have HK0:=Lib.hid hK
       clear hK
       go_wp2_with (refine wpList_lookup_str rfl (.tmp 26) (.tmp 27) 140 rfl 9 4 Tryz.underlying140 Tryz.underlying9 (.bool false) (Tryz.zeroValue4 _) b.dm dead rfl H5.out.wk.dm ky rfl ?_;rw [HG.out])
       refine HK0.out _ _ ?_
       clear HK0
       clear cdd HG
       refine wp_seq_k fun KE hK=>?_
       have HKE:=Lib.hid hK
       clear hK
       obtain ⟨A0,ca,hva,hA0⟩:∃ A0 ca,va=.slice A0 X.all.length ca∧True:=by
        obtain ⟨A,c',h1,_⟩:=own_form H5.out.wk.arow
        exact ⟨A,c',h1,trivial⟩
       clear hA0
       have cal:=H5.out.wk.al.cell 0
       rw [show (#[va]:Array Value)[0]?=some va from rfl,hva] at cal
       have HVA:=Lib.hid hva
       clear hva
       refine wp_seq_k fun K1 hK=>?_
       have HK1:=Lib.hid hK
       clear hK
       go_wp2_with fail
       refine HK1.out _ _ ?_
       clear HK1 cal
       go_wp2_with fail
       go_loopw [31] (fun i wr=>∃ (k:Nat) (vo':Value) (dead':Kvs),k ≤ X.all.length∧i=.int .i64 (k:Nat)∧Hid (X.walk (f + 1) M left ord dead=X.loop (X.walk f) M left ord ((List.range X.all.length).drop k) dead')∧Hid (LpAt w X b vl vd va W vo p M O left lb vo' ord dead' wr)) (fun i _=>X.all.length - (intOf i).toNat)
       case atStart=>exact ⟨0,vo,dead,Nat.zero_le _,rfl,HW0,H5⟩
       case round =>
        obtain ⟨k,vo',dead',hk,rfl,HR,HQ⟩:=hrel
        by_cases hkl:k < X.all.length
        · have hst:=loop_step (X:=X) (go:=X.walk f) (M:=M) (left:=left) (ord:=ord) (dead:=dead') hkl
          rw [← HR.out] at hst
          have HST:=Lib.hid hst
          clear hst
          have i1:(0:Int) ≤ (k:Int):=by omega
          have i2:(k:Int) < (X.all.length:Int):=by omega
          have hk6:k < 6:=by omega
          obtain ⟨ga,ca2,hva2,hgal,hac⟩:=own_slice HQ.out.wk.arow (by omega)
          rw [HVA.out] at hva2
          injection hva2 with hA0 hz hca
          subst hA0 hca
          have HAC:=Lib.hid hac
          have cak:wr.cell? ⟨ga,k,none⟩=some (.int .i64 (X.at_ k:Nat)):=hac k _ (by rw [List.getElem?_map,List.getElem?_eq_getElem hkl];unfold Sx.at_;rw [List.getD_eq_getElem?_getD,List.getElem?_eq_getElem hkl];rfl)
          clear hac hz
          refine wp_seq_k fun K2 hK=>?_
          have HK2:=Lib.hid hK
          clear hK
          go_wp2_with fail
          refine HK2.out _ _ ?_
          clear HK2
          refine wp_seq_k fun K2 hK=>?_
          have HK2:=Lib.hid hK
          clear hK
          go_wp2_with fail
          refine HK2.out _ _ ?_
          clear HK2
          refine wp_seq_k fun K2 hK=>?_
          have HK2:=Lib.hid hK
          clear hK
          refine wp_block ?_
          refine wp_seq_k fun K3 hK=>?_
          have HK3:=Lib.hid hK
          clear hK
          go_wp2_with fail
          refine HK3.out _ _ ?_
          clear HK3
          try simp only [Act.put]
          clear cak
          have hai:=HX.out.all k hkl
          have hbA:=below_box wr (.cells #[.int .i64 (X.at_ k:Nat)] 3)
          have hbI:=Blk.new wr 3 #[.int .i64 (X.at_ k:Nat)]
          have hnI:vo'.ownBlock ≠ some wr.heap.size:=fun e=>by have:=(own_at HQ.out.wk.orow e).2.1;omega
          have hLA:=HQ.out.below hbA
          generalize hib:wr.heap.size=ib at hbI hnI ⊢
          generalize hwA:wr.alloc (.cells #[.int .i64 (X.at_ k:Nat)] 3)=wA at hbA hbI hLA ⊢
          have HACA:Hid (∀ j u,(X.all.map intV)[j]?=some u→wA.cell? ⟨ga,j,none⟩=some u):=Lib.hid (fun j u hu=>(hbA.cell (p:=⟨ga,j,none⟩) hgal).trans (HAC.out j u hu))
          have HIB:=Lib.hid (And.intro hbI hnI)
          have HLA:=Lib.hid hLA
          have clb:=hLA.lbk.cell 0
          rw [show (#[.int .i64 (left:Nat)]:Array Value)[0]?=some (.int .i64 (left:Nat)) from rfl] at clb
          clear hbA hbI hLA hwA hib hnI HQ HAC hgal
          refine wp_seq_k fun K3 hK=>?_
          have HK3:=Lib.hid hK
          clear hK
          go_wp2_with fail
          refine HK3.out _ _ ?_
          clear HK3
          refine wp_seq_k fun K3 hK=>?_
          have HK3:=Lib.hid hK
          clear hK
          have hbt:=bit_eq left k hl6 hk6
          go_wp2_with fail
          refine HK3.out _ _ ?_
          clear HK3 hbt clb
          try simp only [Act.put]
          refine wp_seq_k fun K3 hK=>?_
          have HK3:=Lib.hid hK
          clear hK
          refine sr_ok (X:=X) (left:=left) (k:=k) (by have:=HLA.out.wk.al.cell 0;rw [HVA.out] at this;exact this) HLA.out.wk.al.lt hfew (fun j hj V hV=>?_) ?_
          · have hLV:=HLA.out.below hV
            have hbV:=HIB.out.1.below hV HIB.out.1.lt
            have haj:=HX.out.all j hj
            have hbel:=hLV.wk.bel
            have cx:=hLV.wk.dx.cell 0
            have ca':=hLV.wk.al.cell 0
            rw [← HVD.out] at cx
            rw [HVA.out] at ca'
            have hdr:=HX.out.ds
            have cell:=fun (i:Nat) (hi:i < X.ds.length) (q:Nat) (u:Value) (hu:(X.ds[i].row)[q]?=some u)=>(hbel.cell (p:=⟨gd,od + i * 21 + q,none⟩) hdr.1).trans (row_at Dn.row_len hdr.2 hi hu)
            have e1:X.first left j (X.at_ k)=(!left.testBit j || decide (X.ds[X.at_ k].f ≤ X.ds[X.at_ j].t)):=by
             unfold Sx.first Sx.from_ Sx.to_
             rw [List.getElem?_eq_getElem hai,List.getElem?_eq_getElem haj]
             rfl
            rw [e1]
            exact first_any (gd:=gd) (od:=od) (ga:=ga) (hLV.lbk.cell 0) cx ca' (hbV.cell 0) ((hV.cell (p:=⟨ga,j,none⟩) (World.block_lt_of_cell? _ _ (HACA.out j _ (by rw [List.getElem?_map,List.getElem?_eq_getElem hj];rfl)))).trans (HACA.out j _ (by rw [List.getElem?_map,List.getElem?_eq_getElem hj];unfold Sx.at_;rw [List.getD_eq_getElem?_getD,List.getElem?_eq_getElem hj];rfl))) (cell _ haj 3 _ rfl) (cell _ hai 1 _ rfl) hj haj hai hl6 (by omega)
          intro s16 s42 s43 s44 s45 s46 s47 s48 s49 s50 s51 s52 s53 wB hbB
          have hLB:=HLA.out.below hbB
          have hIB:=And.intro (HIB.out.1.below hbB HIB.out.1.lt) HIB.out.2
          have HLB:=Lib.hid hLB
          have HIBB:=Lib.hid hIB
          clear hLB hIB hbB HLA HIB HACA
          try dsimp only [Exit.inBlock,Exit.then]
          refine HK3.out _ _ ?_
          clear HK3
          cases hok:X.ok left k with
          | false =>
            have hs2:=HST.out
            rw [hok] at hs2
            have HS2:=Lib.hid hs2
            clear hs2 hok HST
            go_wp2_with fail
            refine HK2.out _ _ ?_
            clear HK2
            go_wp2_with fail
            go_roundw
            case rel=>exact ⟨k + 1,vo',dead',by omega,by go_num,Lib.hid HS2.out,HLB⟩
            case measure=>simp [intOf];omega
          | true =>
            have hs2:=HST.out
            rw [hok,if_pos rfl] at hs2
            have HS2:=Lib.hid hs2
            have hbit:left.testBit k=true:=by unfold Sx.ok Sx.okTo at hok;rw [Bool.and_eq_true] at hok;exact hok.1
            have HBIT:=Lib.hid hbit
            clear hs2 hok HST hbit
            refine wp_seq_k fun K3 hK=>?_
            have HK3:=Lib.hid hK
            clear hK
            go_wp2_with fail
            refine HK3.out _ _ ?_
            clear HK3
            refine wp_seq_k fun K3 hK=>?_
            have HK3:=Lib.hid hK
            clear hK
            go_wp2_with fail
            refine (Copy_m HLB.out.mdl (HTx.out _ _ HP.out _ _ _ HLB.out.mdl).small).mono ?_
            rintro e wC ⟨q,O2,rfl,hmq,hoq,hbC⟩
            go_wp2_with fail
            refine HK3.out _ _ ?_
            clear HK3
            try simp only [Act.put]
            have hbC':=hbC.drew
            obtain ⟨j,hje,hjl⟩:=(HX.out.ok.done _ hai).1
            have hLC:=HLB.out.below hbC'
            have hstp:X.step M (X.at_ k)=if rpB M X.es[j].r X.ds[X.at_ k] (X.P (X.at_ k)) then some (doN M X.es[j].r).1 else none:=by
             unfold Sx.step
             rw [List.getElem?_eq_getElem hai]
             simp only
             rw [hje,Int.toNat_natCast,List.getElem?_eq_getElem hjl]
            have hcall:=sx_step HX.out hLC.wk.bel (hmq.below ((Below.refl _ _).drew)) (HTx.out _ _ HP.out _ _ _ HLB.out.mdl).small hai hjl
            have HQO:=Lib.hid (fun i hi=>hoq i hi)
            have HBC:=Lib.hid hbC'
            have hqlt:q < wC.drew.heap.size:=hmq.blk.lt
            have hcell:∀ V,Below wB.heap.size wB V→StFA V b.lx b.dx ib ge oe X.es.length c gd od X.ds.length c2 (X.at_ k) j X.ds[X.at_ k] X.es[j].r:=fun V hV=>by
             have hLV:=HLB.out.below hV
             have hbel:=hLV.wk.bel
             have hbV:=HIBB.out.1.below hV HIBB.out.1.lt
             have cx:=hLV.wk.dx.cell 0
             have cl:=hLV.wk.lx.cell 0
             rw [← HVD.out] at cx
             rw [← HVL.out] at cl
             have hdr:=HX.out.ds
             have her:=HX.out.es
             have cd:=fun (q:Nat) (u:Value) (hu:(X.ds[X.at_ k].row)[q]?=some u)=>(hbel.cell (p:=⟨gd,od + X.at_ k * 21 + q,none⟩) hdr.1).trans (row_at Dn.row_len hdr.2 hai hu)
             have ce:=fun (q:Nat) (u:Value) (hu:(X.es[j].row)[q]?=some u)=>(hbel.cell (p:=⟨ge,oe + j * 13 + q,none⟩) her.1).trans (row_at Ent.row_len her.2 hjl hu)
             have c0:=cd 0 _ rfl
             rw [hje] at c0
             exact ⟨cl,cx,hbV.cell 0,c0,cd 4 _ rfl,cd 5 _ rfl,cd 6 _ rfl,cd 7 _ rfl,cd 8 _ rfl,cd 9 _ rfl,cd 10 _ rfl,cd 11 _ rfl,cd 12 _ rfl,cd 13 _ rfl,cd 14 _ rfl,cd 15 _ rfl,cd 16 _ rfl,cd 17 _ rfl,cd 18 _ rfl,cd 19 _ rfl,cd 20 _ rfl,ce 1 _ rfl,ce 2 _ rfl,ce 3 _ rfl,ce 4 _ rfl,ce 5 _ rfl,ce 6 _ rfl,ce 7 _ rfl,ce 8 _ rfl,ce 9 _ rfl,ce 10 _ rfl,ce 11 _ rfl,ce 12 _ rfl⟩
            have HCELL:=Lib.hid hcell
            clear hcell hLC
            generalize X.es[j].r=r at hcall hstp HCELL ⊢
            generalize X.ds[X.at_ k]=x at hcall hstp hje HCELL ⊢
            generalize rpB M r x (X.P (X.at_ k))=bb at hcall hstp
            unfold Dn.ans at hcall
            have HSTP:=Lib.hid hstp
            have HCALL:=Lib.hid hcall
            clear hcall hstp hje hmq hoq hbC hbC'
            refine wp_seq_k fun K3 hK=>?_
            have HK3:=Lib.hid hK
            clear hK
            refine wp_seq_k fun K4 hK=>?_
            have HK4:=Lib.hid hK
            clear hK
            refine sr_step (bb:=bb) (R:=StepR bb q (doN M r).1 wC.drew) (HCELL.out _ HBC.out) hai hjl HCALL.out (fun w' hw'=>HCELL.out _ (stepR_below HBC.out (HQO.out q (.inl rfl)) hw')) ?_
            intro s58 s59 s60 s61 s62 s63 s64 s65 s66 s67 s68 s69 s70 s71 s72 wD hD
            try dsimp only [Exit.inBlock,Exit.then]
            refine HK4.out _ _ ?_
            clear HK4
            have hbD:=stepR_below HBC.out (HQO.out q (.inl rfl)) hD
            have HLD:=Lib.hid (HLB.out.below hbD)
            have HIBD:=Lib.hid (And.intro (HIBB.out.1.below hbD HIBB.out.1.lt) HIBB.out.2)
            cases bb with
            | false =>
              have hs2:=HS2.out
              rw [HSTP.out] at hs2
              have HS3:=Lib.hid hs2
              clear hs2 HS2 hD hbD HCALL HCELL HSTP HLB HIBB
              go_wp2_with fail
              refine HK2.out _ _ ?_
              clear HK2 HK3
              go_wp2_with fail
              go_roundw
              case rel=>exact ⟨k + 1,vo',dead',by omega,by go_num,Lib.hid HS3.out,HLD⟩
              case measure=>simp [intOf];omega
            | true =>
              have hs2:=HS2.out
              rw [HSTP.out,if_pos rfl] at hs2
              have HS3:=Lib.hid hs2
              obtain ⟨T',hmD,hoD,-⟩:=hD.2 rfl
              have hPf:Pm f (doN M r).1:=HPm.out _ _ _ _ HP.out (by rw [HSTP.out,if_pos rfl])
              generalize (doN M r).1=M' at HS3 hmD hoD hPf
              have hdD:¬ mown q M' T' b.dm:=fun hc=>by
               have h1:=HLB.out.wk.dm.lt
               have h2:=HBC.out.size
               have h3:=HQO.out q (.inl rfl)
               rcases hoD _ hc with e | e
               · omega
               · omega
              have HMD:=Lib.hid (And.intro hmD (And.intro hdD hPf))
              clear hs2 HS2 hD hbD HCALL HCELL HSTP HLB HIBB hmD hoD hPf hdD HQO HBC
              go_wp2_with fail
              refine HK3.out _ _ ?_
              clear HK3
              try simp only [Act.put]
              have cod:=HLD.out.wk.od.cell 0
              rw [show (#[vo']:Array Value)[0]?=some vo' from rfl] at cod
              have cib:=HIBD.out.1.cell 0
              rw [show (#[.int .i64 (X.at_ k:Nat)]:Array Value)[0]?=some (.int .i64 (X.at_ k:Nat)) from rfl] at cib
              obtain ⟨i0,hi0,iz0,iz1,iz2⟩:=info_parts infoInt
              refine wp_seq_k fun K3 hK=>?_
              have HK3:=Lib.hid hK
              clear hK
              go_wp2_with (first
               | (at_builtin
                  refine wpList_append_any _ rfl (.tmp 75) (.tmp 77) _ rfl w.heap.size 3 i0 _ 1 8 Tryz.underlying82 hi0 iz0 iz1 iz2 rfl (by omega) vo' ord.length (ord.map intV) rfl
                   (HLD.out.wk.orow.alloc _) _ (some ⟨wD.heap.size,0,none⟩) 1 1 [.int .i64 (X.at_ k:Nat)] rfl (reads_of_blk (Blk.new wD _ _) rfl rfl) (by simp [Value.oneCell']) (by unfold maxLen;omega) (by omega) (by have:=HLD.out.wk.bel.size;simp;omega) ?_
                  intro v2 w2 hown2 hg2 hat2
                  obtain ⟨A2,c3,rfl,-⟩:=own_form hown2
                  obtain ⟨hod2,hwk2,hkp2,hnw2⟩:=HLD.out.wk.app hown2 hg2 hat2
                  have cod2:=hod2.frozen 0
                  have cod3:w2.cell? ⟨b.od,0,none⟩=some vo':=hod2.cell 0))
              refine HK3.out _ _ ?_
              clear HK3 cod cib cod2 cod3 hod2 hown2 hg2 hat2
              try simp only [Act.put]
              have hmE:=HLD.out.wk.model HMD.out.1 HMD.out.2.1 hkp2
              have hLE:=HLD.out.turn hwk2 hkp2 hnw2
              generalize w2.setCell ⟨b.od,0,none⟩ (.slice A2 (ord.length + 1) c3)=wE at hwk2 hkp2 hmE hLE ⊢
              have HME:=Lib.hid (And.intro hmE (And.intro HMD.out.2.1 HMD.out.2.2))
              have HLE:=Lib.hid hLE
              clear hmE hLE hwk2 hkp2 hnw2 HLD HMD HIBD
              have hlt2:left - 2 ^ k < left:=by have:=Nat.two_pow_pos k;have:=H0.out;omega
              have hdrE:Below wE.heap.size wE wE.drew:=(Below.refl _ _).drew
              have hcall:=IH.out M' (left - 2 ^ k) (ord ++ [X.at_ k]) dead' (.slice A2 (ord.length + 1) c3) q T' wE.drew (by omega) (by omega) HME.out.2.2 (by rw [List.length_append,List.length_singleton];omega) (HLE.out.wk.below hdrE) (HME.out.1.below hdrE) HME.out.2.1
              generalize hrr:X.walk f M' (left - 2 ^ k) (ord ++ [X.at_ k]) dead'=rr at hcall HS3
              have HCALL:=Lib.hid hcall
              clear hcall hrr
              refine wp_seq_k fun K3 hK=>?_
              have HK3:=Lib.hid hK
              clear hK
              refine wp_seq_k fun K4 hK=>?_
              have HK4:=Lib.hid hK
              clear hK
              refine sr_rec (b:=b) (bb:=rr.1.isSome) (R:=fun w'=>∃ v3,WkAt w X b vl vd va v3 (rr.1.getD (ord ++ [X.at_ k])) rr.2 w'∧KeepC (WkC b (.slice A2 (ord.length + 1) c3)) wE.drew w'∧OwnNew wE.drew (.slice A2 (ord.length + 1) c3) v3) ⟨(HLE.out.wk.below hdrE).wk.cell 0,(HLE.out.below hdrE).lbk.cell 0⟩ hl6 hk6 HBIT.out HCALL.out (fun w' ⟨v3,h1,h2,h3⟩=>⟨h1.wk.cell 0,((HLE.out.below hdrE).turn h1 h2 h3).lbk.cell 0⟩) ?_
              intro s79 s80 s81 s82 s83 s84 wF hF
              obtain ⟨v3,h1,h2,h3⟩:=hF
              have HLF:=Lib.hid ((HLE.out.below hdrE).turn h1 h2 h3)
              clear h1 h2 h3 HCALL HLE HME
              try dsimp only [Exit.inBlock,Exit.then]
              refine HK4.out _ _ ?_
              clear HK4
              obtain ⟨ro,rd⟩:=rr
              cases ro with
              | some o =>
                have hs3:=HS3.out
                try dsimp only at hs3 HLF ⊢
                have HS4:=Lib.hid hs3
                clear hs3 HS3
                go_wp2_with fail
                go_ret
                rw [HS4.out]
                exact HLF.out.done rfl rfl
              | none =>
                have hs3:=HS3.out
                try dsimp only at hs3 HLF ⊢
                have HS4:=Lib.hid hs3
                clear hs3 HS3
                go_wp2_with fail
                refine HK3.out _ _ ?_
                clear HK3
                try simp only [Act.put]
                have hro:=HLF.out.wk.orow
                rw [Option.getD_none,List.length_append,List.map_append] at hro
                obtain ⟨go_,cap,rfl,hc1,hc2,hcut⟩:=own_cut hro
                have HF2:=HLF.out
                rw [Option.getD_none] at HF2
                obtain ⟨hw4,hk4⟩:=HF2.wk.cut hcut
                have hL4:=HF2.turn hw4 hk4 (.inl rfl)
                have cod:=HF2.wk.od.cell 0
                rw [show (#[.slice (some ⟨go_,0,none⟩) (ord.length + 1) cap]:Array Value)[0]?=some (.slice (some ⟨go_,0,none⟩) (ord.length + 1) cap) from rfl] at cod
                have cof:=HF2.wk.od.frozen 0
                have HL4:=Lib.hid hL4
                clear hw4 hk4 hL4 HF2 hro hcut HLF
                have hs1:IntKind.i64.wrap (((ord.length + 1:Nat):Int) - 1)=(ord.length:Int):=by rw [IntWalk.i64_in _ (by omega)];omega
                have hs2:(ord.length:Int) ≤ (cap:Int):=by omega
                go_wp2_with fail
                refine HK2.out _ _ ?_
                clear HK2
                go_wp2_with fail
                go_roundw
                case rel=>exact ⟨k + 1,_,_,by omega,by go_num,Lib.hid HS4.out,HL4⟩
                case measure=>simp [intOf];omega
        · obtain rfl:k=X.all.length:=by omega
          have hfin:=HR.out
          rw [List.drop_eq_nil_of_le (by simp),Sx.loop,HKY.out] at hfin
          have HFIN:=Lib.hid hfin
          clear hfin
          have cdd:=HQ.out.wk.dd.cell 0
          rw [show (#[.map (some b.dm)]:Array Value)[0]?=some (.map (some b.dm)) from rfl] at cdd
          go_wp2_with fail
          refine HKE.out _ _ ?_
          clear HKE
          go_wp2_with (refine wpList_update_strmap rfl (.tmp 92) (.tmp 93) (.const (.bool true)) 140 rfl 9 4 Tryz.underlying140 Tryz.underlying9 b.dm dead' rfl HQ.out.wk.dm ky rfl (.bool true) rfl ?_;intro w6 hm6 hg6)
          obtain ⟨hw6,hk6⟩:=HQ.out.wk.put hm6 hg6
          have hL6:=HQ.out.turn hw6 hk6 (.refl _ _)
          go_ret
          rw [HFIN.out]
          exact hL6.done rfl rfl
end Go.Proofs.YtkgflepgkhnclaaGreatDoor
namespace Go.Proofs.YtkgflepgkhnclaaGreatDoor
set_option linter.unusedVariables false
set_option linter.unusedSimpArgs false
open Go.RowKit Go.Shelf
structure QuM (f:Nat) (M:Mdl):Prop where
 le:f ≤ 20
 gen:∀ t,0 ≤ (M t).gen∧(M t).gen ≤ 20 - f
 qk:∀ t,0 ≤ (M t).qk∧(M t).qk ≤ 50
 qb:∀ t,0 ≤ (M t).qb∧(M t).qb ≤ 50
 bk:∀ t B,(M t).bk=some B→B.qk ≤ 50
 few:∀ t,17 ≤ t→(M t).bk=none
theorem QuM.upd {f:Nat} {M:Mdl} (h:QuM (f + 1) M) {n:Nat} (hn:n ≤ 16) {t:Ten} (hg:0 ≤ t.gen∧t.gen ≤ 20 - f) (hk:0 ≤ t.qk∧t.qk ≤ 50) (hb:0 ≤ t.qb∧t.qb ≤ 50) (hB:∀ B,t.bk=some B→B.qk ≤ 50):QuM f (updM M n t):=by
 have hf:=h.le
 refine ⟨by omega,fun i=>?_,fun i=>?_,fun i=>?_,fun i B=>?_,fun i hi=>?_⟩
 · by_cases e:i=n
   · subst e;rw [updM_self];exact hg
   · rw [updM_ne e];have:=h.gen i;omega
 · by_cases e:i=n
   · subst e;rw [updM_self];exact hk
   · rw [updM_ne e];exact h.qk i
 · by_cases e:i=n
   · subst e;rw [updM_self];exact hb
   · rw [updM_ne e];exact h.qb i
 · by_cases e:i=n
   · subst e;rw [updM_self];exact hB B
   · rw [updM_ne e];exact h.bk i B
 · rw [updM_ne (by omega)];exact h.few i hi
theorem QuM.less {f:Nat} {M:Mdl} (h:QuM (f + 1) M):QuM f M :=
 ⟨by have:=h.le;omega,fun t=>by have:=h.gen t;omega,h.qk,h.qb,h.bk,h.few⟩
theorem quM_do {f:Nat} {M:Mdl} (h:QuM (f + 1) M) (r:Req) (hk:0 ≤ r.qk∧r.qk ≤ 50) (hb:0 ≤ r.qb∧r.qb ≤ 50):QuM f (doN M r).1:=by
 have hw:∀ n,0 ≤ IntKind.u32.wrap ((M n).gen + 1)∧IntKind.u32.wrap ((M n).gen + 1) ≤ 20 - f:=fun n=>by
  have h1:=h.gen n
  have h2:=h.le
  have e:IntKind.u32.wrap ((M n).gen + 1)=(M n).gen + 1:=IntWalk.u32_in _ (by omega)
  rw [e]
  omega
 rcases doN_fx M r with ⟨e,_⟩ | ⟨n,h1,h2,_,_,_,_,e⟩ | ⟨n,h1,h2,_,_,_,e⟩ | ⟨n,h1,h2,_,_,_,e⟩ | ⟨n,B,B',_,_,h1,h2,hbk,hq,_,_,e⟩
 · rw [e];exact h.less
 · rw [e];exact h.upd h2 (hw n) hk hb (fun B hB=>by injection hB with hB;rw [← hB];exact hk.2)
 · rw [e];exact h.upd h2 (h.less.gen n) (show (0:Int) ≤ 0∧(0:Int) ≤ 50 by omega) (show (0:Int) ≤ 0∧(0:Int) ≤ 50 by omega) (fun B hB=>by cases hB)
 · rw [e];exact h.upd h2 (hw n) (h.qk n) (h.qb n) (fun B hB=>h.bk n B hB)
 · rw [e];exact h.upd h2 (h.less.gen n) (h.qk n) (h.qb n) (fun C hC=>by injection hC with hC;rw [← hC,hq];exact h.bk n B hbk)
theorem quM0 {f:Nat} (hf:f ≤ 20):QuM f mdl0 :=
 ⟨hf,fun t=>show (0:Int) ≤ 0∧(0:Int) ≤ 20 - f by omega,fun t=>show (0:Int) ≤ 0∧(0:Int) ≤ 50 by omega,fun t=>show (0:Int) ≤ 0∧(0:Int) ≤ 50 by omega,fun t B h=>(by cases h),fun t _=>rfl⟩
theorem QuM.tx {f:Nat} {M:Mdl} (h:QuM f M) {W:World} {p:Nat} {O:Ows} (hm:ModelAt W p M O):TxSmall M where
 gen:=fun t=>by have:=h.gen t;omega
 qk:=fun t=>by have:=h.qk t;omega
 qb:=fun t=>by have:=h.qb t;omega
 bk:=fun t B hB=>by
  have h17:t < 17:=by
   rcases Nat.lt_or_ge t 17 with h1 | h1
   · exact h1
   · rw [h.few t h1] at hB;cases hB
  have hw:=(hm.bk t B h17 hB).wf
  have h3:=hw.nk
  have h5:=h.bk t B hB
  exact ⟨by omega,hw.short⟩
theorem quM_step {X:Sx} (hq:∀ j (hj:j < X.es.length),(0 ≤ X.es[j].r.qk∧X.es[j].r.qk ≤ 50)∧(0 ≤ X.es[j].r.qb∧X.es[j].r.qb ≤ 50)):∀ f M i M',QuM (f + 1) M→X.step M i=some M'→QuM f M':=by
 intro f M i M' h hs
 unfold Sx.step at hs
 split at hs
 · cases hs
 · split at hs
   · cases hs
   · rename_i x _ en he
     split at hs
     · injection hs with hs
       subst hs
       obtain ⟨h1,h2⟩:=List.getElem?_eq_some_iff.1 he
       have:=hq _ h1
       rw [h2] at this
       exact quM_do h _ this.1 this.2
     · cases hs
end Go.Proofs.YtkgflepgkhnclaaGreatDoor
