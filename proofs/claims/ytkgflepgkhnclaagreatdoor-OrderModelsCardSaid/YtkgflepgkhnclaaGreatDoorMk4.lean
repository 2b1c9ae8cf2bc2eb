/- Layer 27: order: same, at any answers with empty statistics. Layer 27: order: step, up to the comparison. Layer 27: order: step. Layer 27: order: step, whole. Layer 27: order: Ended. Layer 27: order: replay's plain laws. -/
import Derived.Test.YtkgflepgkhnclaaGreatDoorMe
import Derived.Test.YtkgflepgkhnclaaGreatDoorMf
import Derived.Test.YtkgflepgkhnclaaGreatDoorMk3
import Derived.Test.YtkgflepgkhnclaaGreatDoorMj
namespace Go.Proofs.YtkgflepgkhnclaaGreatDoor
set_option linter.unusedVariables false
set_option linter.unusedSimpArgs false
open Go.RowKit Go.Shelf
attribute [local go_sem] run_store_complex
variable {Xa Xb Xc Xd Xe Xf Xg Xh Xi Xj Xk Xl Xm Xn Xo Xp Xq Xr Xs Xt Xu Xv Xw Xx Xy Xz Ya Yb Yc Yd Ye Yf Yg Yh Yi Yj Yk Yl Ym Yn Yo Yp Yq Yr Ys Yt Yu Yv Yw Yx Yy Yz Za Zb Zc Zd Ze Zf Zg Zh Zi Zj Zk Zl Zm Zn Zo Zp Zq Zr Zs Zt Zu Zv Zw Zx Zy Zz Ja Jb Jc Jd Je Jf Jg Jh Ji Jj Jk Jl Jm Jn Jo Jp Jq Jr Js Jt Ju Jv Jw Jy Jz Va Vb Vc Vd Ve Vf Vg Vh Vi Vj Vk Vl Vm Vn Vo Vp Vq Vr Vs Vt Vu Vv Vw Vx Vy Vz Oa Ob Oc Od Oe Og Oh Oi Oj Ok Ol Om On Oo Oq Ot Ou Ov Ox Oy Oz Ha Hb Hc He Hf Hg Hh Hi Hj Hk Hl Hm Hn Ho Hp Hq Hr Hs Ht Hu Hv Hw Hx Hy Hz Ia Ib Ic Id Ie If Ig Ih Ii Ij Ik Il Im In Io Ip Iq Ir It Iu Iv Iw Ix Iy Iz Ua Ub Uc Ud Ue Uf Ug Uh Ui Uj Uk Ul:Value}
def sameN (e1 e2:Int) (v1 v2:ByteArray) (l1 l2:List Kv) (h1 h2:Hd):Bool:=decide (e1=e2) && (decide (v1=v2) && (decide (l1=l2) && decide (h1=h2)))
set_option maxHeartbeats 3200000 in
set_option maxRecDepth 100000 in
theorem same_any (w:World) (e1 e2:Int) (v1 v2:ByteArray) (A1 A2:Option Addr) (l1 l2:List Kv) (c1 c2 W1 W2:Nat) (h1 h2:Hd) (hl1:l1.length ≤ 1000000) (hl2:l2.length ≤ 1000000) (hA:Reads w W1 2 A1 l1.length (l1.flatMap pairR)) (hB:Reads w W2 2 A2 l2.length (l2.flatMap pairR)) (hW1:W1 ≤ w.heap.size) (hW2:W2 ≤ w.heap.size) :
 Calls Tryz.prog 94 #[.agg #[.int .i64 e1,.string v1,.slice A1 l1.length c1,.int .i64 h1.t,.int .u32 h1.g,.int .u8 h1.r,.int .u64 0,.int .u64 0,.int .u64 0,.int .u64 0,.int .u64 0,.int .u64 0,.int .u64 0,.int .u64 0,.int .u64 0,.int .u64 0,.complex .f64 0 0],.agg #[.int .i64 e2,.string v2,.slice A2 l2.length c2,.int .i64 h2.t,.int .u32 h2.g,.int .u8 h2.r,.int .u64 0,.int .u64 0,.int .u64 0,.int .u64 0,.int .u64 0,.int .u64 0,.int .u64 0,.int .u64 0,.int .u64 0,.int .u64 0,.complex .f64 0 0]] w (BoolB (sameN e1 e2 v1 v2 l1 l2 h1 h2) w):=by
 have hb:Below w.heap.size w ((w.alloc (.cells #[.int .i64 e1,.string v1,.slice A1 l1.length c1,.int .i64 h1.t,.int .u32 h1.g,.int .u8 h1.r,.int .u64 0,.int .u64 0,.int .u64 0,.int .u64 0,.int .u64 0,.int .u64 0,.int .u64 0,.int .u64 0,.int .u64 0,.int .u64 0,.complex .f64 0 0] 52)).alloc (.cells #[.int .i64 e2,.string v2,.slice A2 l2.length c2,.int .i64 h2.t,.int .u32 h2.g,.int .u8 h2.r,.int .u64 0,.int .u64 0,.int .u64 0,.int .u64 0,.int .u64 0,.int .u64 0,.int .u64 0,.int .u64 0,.int .u64 0,.int .u64 0,.complex .f64 0 0] 52)):=below_alloc (below_box _ _) _
 have HB:=Lib.hid hb
 have HE:=Lib.hid (pairs_eq A1 A2 c1 c2 l1 l2 W1 W2 ((w.alloc (.cells #[.int .i64 e1,.string v1,.slice A1 l1.length c1,.int .i64 h1.t,.int .u32 h1.g,.int .u8 h1.r,.int .u64 0,.int .u64 0,.int .u64 0,.int .u64 0,.int .u64 0,.int .u64 0,.int .u64 0,.int .u64 0,.int .u64 0,.int .u64 0,.complex .f64 0 0] 52)).alloc (.cells #[.int .i64 e2,.string v2,.slice A2 l2.length c2,.int .i64 h2.t,.int .u32 h2.g,.int .u8 h2.r,.int .u64 0,.int .u64 0,.int .u64 0,.int .u64 0,.int .u64 0,.int .u64 0,.int .u64 0,.int .u64 0,.int .u64 0,.int .u64 0,.complex .f64 0 0] 52)) hl1 hl2 (hA.keep fun p hp=>hb.cell (by omega)) (hB.keep fun p hp=>hb.cell (by omega)))
 have hh:∀ W,(binOp .eql 37 (.agg #[.int .i64 h1.t,.int .u32 h1.g,.int .u8 h1.r]) (.agg #[.int .i64 h2.t,.int .u32 h2.g,.int .u8 h2.r])).run Tryz.prog W=.ok (.bool (decide (h1=h2))) W:=fun W=>by rw [eqlHandle]
 have hs:=eqlStat
 have g1:=guardHd
 have g2:=guardStat
 clear hb hA hB
 by_cases he:e1=e2
 · have hz:(e1 == e2)=true:=by simpa using he
   by_cases hv:v1=v2
   · have hvz:(v1.toList == v2.toList)=true:=by rw [hv];simp
     by_cases hl:l1=l2
     · rw [decide_eq_true hl] at HE
       by_cases hhd:h1=h2
       · rw [decide_eq_true hhd] at hh
         have HN:=Lib.hid (show sameN e1 e2 v1 v2 l1 l2 h1 h2=true by simp [sameN,he,hv,hl,hhd])
         clear he hv hl hhd
         go_enter Tryz.func94,Tryz.ntmps94
         go_wp2_with fail
         refine HE.out.mono ?_
         rintro e W ⟨rfl,n,rfl⟩
         go_wp2_with fail
         go_ret
         exact ⟨by rw [HN.out];rfl,drewB HB.out n⟩
       · rw [decide_eq_false hhd] at hh
         have HN:=Lib.hid (show sameN e1 e2 v1 v2 l1 l2 h1 h2=false by simp [sameN,hhd])
         clear he hv hl hhd
         go_enter Tryz.func94,Tryz.ntmps94
         go_wp2_with fail
         refine HE.out.mono ?_
         rintro e W ⟨rfl,n,rfl⟩
         go_wp2_with fail
         go_ret
         exact ⟨by rw [HN.out];rfl,drewB HB.out n⟩
     · rw [decide_eq_false hl] at HE
       have HN:=Lib.hid (show sameN e1 e2 v1 v2 l1 l2 h1 h2=false by simp [sameN,hl])
       clear he hv hl
       go_enter Tryz.func94,Tryz.ntmps94
       go_wp2_with fail
       refine HE.out.mono ?_
       rintro e W ⟨rfl,n,rfl⟩
       go_wp2_with fail
       go_ret
       exact ⟨by rw [HN.out];rfl,drewB HB.out n⟩
   · have hvz:(v1.toList == v2.toList)=false:=by simpa using fun h=>hv (bytes_ext h)
     have HN:=Lib.hid (show sameN e1 e2 v1 v2 l1 l2 h1 h2=false by simp [sameN,hv])
     clear he hv
     go_enter Tryz.func94,Tryz.ntmps94
     go_wp2
     go_ret
     exact ⟨by rw [HN.out];rfl,HB.out⟩
 · have hz:(e1 == e2)=false:=by simpa using he
   have HN:=Lib.hid (show sameN e1 e2 v1 v2 l1 l2 h1 h2=false by simp [sameN,he])
   clear he
   go_enter Tryz.func94,Tryz.ntmps94
   go_wp2
   go_ret
   exact ⟨by rw [HN.out];rfl,HB.out⟩
theorem stat_one:(#[.int .u64 0,.int .u64 0,.int .u64 0,.int .u64 0,.int .u64 0,.int .u64 0,.int .u64 0,.int .u64 0,.int .u64 0,.int .u64 0,.complex .f64 0 0]:Array Value).all (·.oneCell')=true:=by simp [Value.oneCell']
def setsA (cs:Array Value):Nat→List Value→Array Value
 | _,[]=>cs
 | o,v :: r=>setsA (cs.setIfInBounds o v) (o + 1) r
theorem Blk.setsAt {b:Nat} {t:TypeId}:∀ (vs:List Value) (o:Nat) {w:World} {cs:Array Value},Blk w b t cs→Blk (w.setCells b o vs) b t (setsA cs o vs)
 | [],_,_,_,h=>h
 | v :: r,o,w,cs,h=>Blk.setsAt r (o + 1) (h.set_ o v)
def StepEnd (b:Bool) (p:Nat) (M':Mdl) (w:World) (e:Ending) (w':World):Prop :=
 e=.returned (.bool b)∧(b=false→Below w.heap.size w w')∧(b=true→∃ T',ModelAt w' p M' T'∧(∀ i,mown p M' T' i→i=p ∨ w.heap.size ≤ i)∧KeepC (fun i=>i=p) w w')
def stepB (r:Req) (e1 e2:Int) (v1 v2:ByteArray) (l1 l2:List Kv) (h1 h2:Hd):Bool:=sameN e1 e2 v1 v2 (if r.deed=5∧e1=0 then l2 else l1) l2 h1 h2
theorem ans_cells17 {w:World} {g n c:Nat} {t:TypeId} {e:Int} {v:ByteArray} {A:Option Addr} {h:Hd} (H:Blk w g t #[.int .i64 e,.string v,.slice A n c,.int .i64 h.t,.int .u32 h.g,.int .u8 h.r,.int .u64 0,.int .u64 0,.int .u64 0,.int .u64 0,.int .u64 0,.int .u64 0,.int .u64 0,.int .u64 0,.int .u64 0,.int .u64 0,.complex .f64 0 0]) :
 w.cell? ⟨g,0,none⟩=some (.int .i64 e)∧w.cell? ⟨g,1,none⟩=some (.string v)∧w.cell? ⟨g,2,none⟩=some (.slice A n c)∧w.cell? ⟨g,3,none⟩=some (.int .i64 h.t)∧w.cell? ⟨g,4,none⟩=some (.int .u32 h.g)∧w.cell? ⟨g,5,none⟩=some (.int .u8 h.r)∧w.cell? ⟨g,6,none⟩=some (.int .u64 0)∧w.cell? ⟨g,7,none⟩=some (.int .u64 0)∧w.cell? ⟨g,8,none⟩=some (.int .u64 0)∧w.cell? ⟨g,9,none⟩=some (.int .u64 0)∧w.cell? ⟨g,10,none⟩=some (.int .u64 0)∧w.cell? ⟨g,11,none⟩=some (.int .u64 0)∧w.cell? ⟨g,12,none⟩=some (.int .u64 0)∧w.cell? ⟨g,13,none⟩=some (.int .u64 0)∧w.cell? ⟨g,14,none⟩=some (.int .u64 0)∧w.cell? ⟨g,15,none⟩=some (.int .u64 0)∧w.cell? ⟨g,16,none⟩=some (.complex .f64 0 0):=⟨H.cell 0,H.cell 1,H.cell 2,H.cell 3,H.cell 4,H.cell 5,H.cell 6,H.cell 7,H.cell 8,H.cell 9,H.cell 10,H.cell 11,H.cell 12,H.cell 13,H.cell 14,H.cell 15,H.cell 16⟩
theorem there_mid {w:World} {g o n:Nat} {t:TypeId} {cs:Array Value} (h:Blk w g t cs) (hn:o + n ≤ cs.size):w.there g o n:=fun j hj=>⟨cell_some h (by omega),h.frozen (o + j)⟩
structure StM (w:World) (r:Req) (g j:Nat) (a1 a2:Array Value) (M':Mdl) (O':Ows) (A:Option Addr) (c:Nat) (l2:List Kv) (W:World):Prop where
 b5:Blk W w.heap.size 39 r.row.toArray
 b6:Blk W (w.heap.size + 1) 52 a1
 b10:Blk W j 52 a2
 ne:j ≠ w.heap.size + 1
 mdl:ModelAt W g M' O'
 own:∀ i,mown g M' O' i→w.heap.size ≤ i
 bel:Below w.heap.size w W
 row:W.ownsRow w.heap.size 57 2 (.slice A l2.length c) l2.length (l2.flatMap pairR)
theorem StM.set6 {w:World} {r:Req} {g j:Nat} {a1 a2:Array Value} {M':Mdl} {O':Ows} {A:Option Addr} {c:Nat} {l2:List Kv} {W:World} (h:StM w r g j a1 a2 M' O' A c l2 W) (o:Nat) (vs:List Value):StM w r g j (setsA a1 o vs) a2 M' O' A c l2 (W.setCells (w.heap.size + 1) o vs):=by
 have hs:=(sets_same (w.heap.size + 1) vs o W).2.2.2.2
 have hn:w.heap.size ≠ w.heap.size + 1:=by omega
 refine ⟨(hs _ hn).trans h.b5,h.b6.setsAt vs o,(hs _ h.ne).trans h.b10,h.ne,h.mdl.keep (C:=fun i=>i=w.heap.size + 1) ((KeepC.refl (fun i=>i=w.heap.size + 1) W).sets h.b6 (by decide) (fun _=>rfl) o vs) (fun i hi e=>by subst e;exact h.mdl.far h.b6 (by simp [TnT]) hi),h.own,below_sets _ (Nat.le_succ _) vs o _ h.bel,own_same h.row fun i hi=>hs i fun e=>?_⟩
 subst e
 exact own_blk_ne h.row h.b6 (by decide) hi
theorem StM.below {w:World} {r:Req} {g j:Nat} {a1 a2:Array Value} {M':Mdl} {O':Ows} {A:Option Addr} {c:Nat} {l2:List Kv} {W W':World} (h:StM w r g j a1 a2 M' O' A c l2 W) (hb:Below W.heap.size W W'):StM w r g j a1 a2 M' O' A c l2 W' :=
 ⟨h.b5.below hb h.b5.lt,h.b6.below hb h.b6.lt,h.b10.below hb h.b10.lt,h.ne,h.mdl.below hb,h.own,below_trans h.bel hb,ownsRow_below h.row hb (Nat.le_refl _)⟩
theorem StM.done {w:World} {p:Nat} {r:Req} {g j:Nat} {a1 a2:Array Value} {M M':Mdl} {T O':Ows} {A:Option Addr} {c:Nat} {l2:List Kv} {W:World} (hm:ModelAt w p M T) (h:StM w r g j a1 a2 M' O' A c l2 W):StepEnd true p M' w (.returned (.bool true)) (W.setCells p 0 (mcells M' O')):=by
 have hp:=hm.blk.below h.bel hm.blk.lt
 have hk:KeepC (fun i=>i=p) W (W.setCells p 0 (mcells M' O')):=(KeepC.refl (fun i=>i=p) W).sets hp (by decide) (fun _=>rfl) 0 _
 have hb:=blk_setAll (cells:=(mcells M' O').toArray) hp (by simp [mcells_len hm.ok,mcells_len h.mdl.ok])
 refine ⟨rfl,fun h=>by (cases h),fun _=>⟨O',⟨hb,h.mdl.ok,fun t B ht hB=>(h.mdl.bk t B ht hB).keep hk fun i hi e=>?_,h.mdl.apart⟩,fun i hi=>?_,(KeepC.of_below h.bel).trans hk (fun i _ hi=>hi)⟩⟩
 · have:=h.own i (.inr ⟨t,ht,by rw [hB];rfl,hi⟩)
   have:=hm.blk.lt
   omega
 · rcases hi with rfl | hi
   · exact .inl rfl
   · exact .inr (h.own i (.inr hi))
set_option maxHeartbeats 6400000 in
set_option maxRecDepth 100000 in
theorem step_cmp {w W:World} {p g j:Nat} {M M':Mdl} {T O':Ows} {r:Req} {e1 e2:Int} {v1 v2:ByteArray} {l1 l2:List Kv} {h1 h2:Hd} {A1 A:Option Addr} {c1 c W1:Nat} (hm:ModelAt w p M T) (hS:StM w r g j #[.int .i64 e1,.string v1,.slice A1 l1.length c1,.int .i64 h1.t,.int .u32 h1.g,.int .u8 h1.r,.int .u64 0,.int .u64 0,.int .u64 0,.int .u64 0,.int .u64 0,.int .u64 0,.int .u64 0,.int .u64 0,.int .u64 0,.int .u64 0,.complex .f64 0 0] #[.int .i64 e2,.string v2,.slice A l2.length c,.int .i64 h2.t,.int .u32 h2.g,.int .u8 h2.r,.int .u64 0,.int .u64 0,.int .u64 0,.int .u64 0,.int .u64 0,.int .u64 0,.int .u64 0,.int .u64 0,.int .u64 0,.int .u64 0,.complex .f64 0 0] M' O' A c l2 W) (hl1:l1.length ≤ 1000000) (hl2:l2.length ≤ 1000000) (hA:Reads W W1 2 A1 l1.length (l1.flatMap pairR)) (hW1:W1 ≤ W.heap.size) :
 Code.wp Tryz.prog (part Tryz.f49 [1,1,1,1,1,1,1]) (bodyPost Tryz.prog Tryz.f49 (StepEnd (sameN e1 e2 v1 v2 l1 l2 h1 h2) p M' w)) ⟨#[.pointer (some ⟨p,0,none⟩),Xb,Xc,Xd,Xe,.pointer (some ⟨w.heap.size,0,none⟩),.pointer (some ⟨w.heap.size + 1,0,none⟩),Xh,Xi,.pointer (some ⟨g,0,none⟩),.pointer (some ⟨j,0,none⟩),Xl,Xm,Xn,Xo,Xp,Xq,Xr,Xs,Xt,Xu,Xv,Xw,Xx,Xy,Xz,Ya,Yb,Yc,Yd,Ye,Yf,Yg,Yh,Yi,Yj,Yk,Yl,Ym,Yn,Yo,Yp,Yq,Yr,Ys,Yt,Yu,Yv,Yw,Yx,Yy,Yz,Za,Zb,Zc,Zd,Ze,Zf,Zg,Zh,Zi,Zj,Zk,Zl,Zm,Zn,Zo,Zp,Zq,Zr,Zs,Zt,Zu,Zv,Zw,Zx,Zy,Zz,Ja,Jb,Jc,Jd,Je,Jf],[]⟩ W:=by
 conv=>arg 2;whnf
 obtain ⟨a0,a1,a2,a3,a4,a5,a6,a7,a8,a9,a10,a11,a12,a13,a14,a15,a16⟩:=ans_cells17 hS.b6
 obtain ⟨b0,b1,b2,b3,b4,b5,b6,b7,b8,b9,b10,b11,b12,b13,b14,b15,b16⟩:=ans_cells17 hS.b10
 have HC:=Lib.hid (same_any W e1 e2 v1 v2 A1 A l1 l2 c1 c W1 W.heap.size h1 h2 hl1 hl2 hA (Reads.of_own hS.row) hW1 (Nat.le_refl _))
 have HS:=Lib.hid hS
 have HM:=Lib.hid hm
 clear hS hm hA
 go_wp2_with fail
 refine HC.out.mono ?_
 rintro e W2 ⟨rfl,hb⟩
 have HS2:=Lib.hid (HS.out.below hb)
 generalize sameN e1 e2 v1 v2 l1 l2 h1 h2=b at *
 cases b
 · go_wp2_with fail
   go_ret
   exact ⟨rfl,fun _=>HS2.out.bel,fun h=>by (cases h)⟩
 · have hR:=range_blk HS2.out.mdl.blk
   have hP:=HM.out.blk.below HS2.out.bel HM.out.blk.lt
   go_wp2_with (first
    | (refine wpList_load_mid rfl 78 (.tmp 81) rfl g 0 rfl _ _ hR Tryz.underlying78 rfl (by rw [Array.length_toList,List.size_toArray,mcells_len HS2.out.mdl.ok];exact infoMdl) ?_)
    | (refine wpList_store_mid rfl 78 (.tmp 83) (.tmp 82) rfl p 0 (mcells M' O').toArray rfl rfl (there_blk hP (by rw [List.size_toArray,List.size_toArray,mcells_len HS2.out.mdl.ok,mcells_len HM.out.ok];exact Nat.le_refl 256)) (by rw [List.size_toArray,mcells_len HS2.out.mdl.ok];exact infoMdl) (mcells_one HS2.out.mdl.ok) ?_))
   go_ret
   exact HS2.out.done HM.out
set_option maxHeartbeats 6400000 in
set_option maxRecDepth 100000 in
theorem step_tail {w W:World} {p g j:Nat} {M M':Mdl} {T O':Ows} {r:Req} {e1 e2:Int} {v1 v2:ByteArray} {l1 l2:List Kv} {h1 h2:Hd} {A1 A:Option Addr} {c1 c W1:Nat} (hm:ModelAt w p M T) (hS:StM w r g j #[.int .i64 e1,.string v1,.slice A1 l1.length c1,.int .i64 h1.t,.int .u32 h1.g,.int .u8 h1.r,.int .u64 0,.int .u64 0,.int .u64 0,.int .u64 0,.int .u64 0,.int .u64 0,.int .u64 0,.int .u64 0,.int .u64 0,.int .u64 0,.complex .f64 0 0] #[.int .i64 e2,.string v2,.slice A l2.length c,.int .i64 h2.t,.int .u32 h2.g,.int .u8 h2.r,.int .u64 0,.int .u64 0,.int .u64 0,.int .u64 0,.int .u64 0,.int .u64 0,.int .u64 0,.int .u64 0,.int .u64 0,.int .u64 0,.complex .f64 0 0] M' O' A c l2 W) (hl1:l1.length ≤ 1000000) (hl2:l2.length ≤ 1000000) (hA:Reads W W1 2 A1 l1.length (l1.flatMap pairR)) (hW1:W1 ≤ W.heap.size) (he:e1 ≠ 13∧e1 ≠ 14) :
 Code.wp Tryz.prog (part Tryz.f49 [1,1,1,1,1]) (bodyPost Tryz.prog Tryz.f49 (StepEnd (stepB r e1 e2 v1 v2 l1 l2 h1 h2) p M' w)) ⟨#[.pointer (some ⟨p,0,none⟩),Xb,Xc,Xd,Xe,.pointer (some ⟨w.heap.size,0,none⟩),.pointer (some ⟨w.heap.size + 1,0,none⟩),Xh,Xi,.pointer (some ⟨g,0,none⟩),.pointer (some ⟨j,0,none⟩),Xl,Xm,Xn,Xo,Xp,Xq,Xr,Xs,Xt,Xu,Xv,Xw,Xx,Xy,Xz,Ya,Yb,Yc,Yd,Ye,Yf,Yg,Yh,Yi,Yj,Yk,Yl,Ym,Yn,Yo,Yp,Yq,Yr,Ys,Yt,Yu,Yv,Yw,Yx,Yy,Yz,Za,Zb,Zc,Zd,Ze,Zf,Zg,Zh,Zi,Zj,Zk,Zl,Zm,Zn,Zo,Zp,Zq,Zr,Zs,Zt,Zu,Zv,Zw,Zx,Zy,Zz,Ja,Jb,Jc,Jd,Je,Jf],[]⟩ W:=by
 conv=>arg 2;whnf
 obtain ⟨a0,a1,a2,a3,a4,a5,a6,a7,a8,a9,a10,a11,a12,a13,a14,a15,a16⟩:=ans_cells17 hS.b6
 obtain ⟨b0,b1,b2,b3,b4,b5,b6,b7,b8,b9,b10,b11,b12,b13,b14,b15,b16⟩:=ans_cells17 hS.b10
 obtain ⟨r0,r1,r2,r3,r4,r5,r6,r7,r8,r9,r10,r11⟩:=req_cells (r:=r) hS.b5
 have hz13:(e1 == 13)=false:=by simpa using he.1
 have hz14:(e1 == 14)=false:=by simpa using he.2
 have HS:=Lib.hid hS
 have HM:=Lib.hid hm
 have HA:=Lib.hid hA
 have hf:=hS.b6.frozen 2
 clear hS hm hA he
 refine wp_seq_k fun K0 hK=>?_
 have HK0:=Lib.hid hK
 clear hK
 go_wp2
 refine HK0.out _ _ ?_
 clear HK0
 refine wp_seq_k fun K0 hK=>?_
 have HK0:=Lib.hid hK
 clear hK
 by_cases hd:r.deed=5
 · have hz5:(r.deed == 5)=true:=by simpa using hd
   by_cases h0:e1=0
   · have hz0:(e1 == 0)=true:=by simpa using h0
     have HB:Hid (stepB r e1 e2 v1 v2 l1 l2 h1 h2=sameN e1 e2 v1 v2 l2 l2 h1 h2):=Lib.hid (by unfold stepB;rw [if_pos ⟨hd,h0⟩])
     rw [HB.out] at HK0
     clear hd h0
     go_wp2
     have h6:=HS.out.set6 2 [.slice A l2.length c]
     exact HK0.out _ _ (step_cmp HM.out h6 hl2 hl2 (Reads.of_own h6.row) (Nat.le_refl _))
   · have hz0:(e1 == 0)=false:=by simpa using h0
     have HB:Hid (stepB r e1 e2 v1 v2 l1 l2 h1 h2=sameN e1 e2 v1 v2 l1 l2 h1 h2):=Lib.hid (by unfold stepB;rw [if_neg (fun h=>h0 h.2)])
     rw [HB.out] at HK0
     clear hd h0
     go_wp2
     exact HK0.out _ _ (step_cmp HM.out HS.out hl1 hl2 HA.out hW1)
 · have hz5:(r.deed == 5)=false:=by simpa using hd
   have HB:Hid (stepB r e1 e2 v1 v2 l1 l2 h1 h2=sameN e1 e2 v1 v2 l1 l2 h1 h2):=Lib.hid (by unfold stepB;rw [if_neg (fun h=>hd h.1)])
   rw [HB.out] at HK0
   clear hd
   go_wp2
   exact HK0.out _ _ (step_cmp HM.out HS.out hl1 hl2 HA.out hW1)
theorem sets_st (e:Int) (v:ByteArray) (A:Option Addr) (n c:Nat) (h:Hd):setsA #[.int .i64 e,.string v,.slice A n c,.int .i64 h.t,.int .u32 h.g,.int .u8 h.r,.int .u64 0,.int .u64 0,.int .u64 0,.int .u64 0,.int .u64 0,.int .u64 0,.int .u64 0,.int .u64 0,.int .u64 0,.int .u64 0,.complex .f64 0 0] 6 [.int .u64 0,.int .u64 0,.int .u64 0,.int .u64 0,.int .u64 0,.int .u64 0,.int .u64 0,.int .u64 0,.int .u64 0,.int .u64 0,.complex .f64 0 0]=#[.int .i64 e,.string v,.slice A n c,.int .i64 h.t,.int .u32 h.g,.int .u8 h.r,.int .u64 0,.int .u64 0,.int .u64 0,.int .u64 0,.int .u64 0,.int .u64 0,.int .u64 0,.int .u64 0,.int .u64 0,.int .u64 0,.complex .f64 0 0]:=by simp [setsA]
set_option maxHeartbeats 1600000 in
set_option maxRecDepth 100000 in
theorem step_any {w:World} {p:Nat} {M M':Mdl} {T:Ows} (hm:ModelAt w p M T) (hsm:Small M) (r:Req) (hr:r.ok) (e1 e2:Int) (v1 v2:ByteArray) (l1 l2:List Kv) (h1 h2:Hd) (A1:Option Addr) (c1 W1:Nat) (hl1:l1.length ≤ 1000000) (hl2:l2.length ≤ 1000000) (hA:Reads w W1 2 A1 l1.length (l1.flatMap pairR)) (hW1:W1 ≤ w.heap.size)
 (hw:doN M r=(M',⟨e2,v2,l2,h2,st0⟩)) (he:e1 ≠ 13∧e1 ≠ 14) (s:Bool) :
 Calls Tryz.prog 49 #[.pointer (some ⟨p,0,none⟩),r.v,.agg #[.int .i64 e1,.string v1,.slice A1 l1.length c1,.int .i64 h1.t,.int .u32 h1.g,.int .u8 h1.r,.int .u64 0,.int .u64 0,.int .u64 0,.int .u64 0,.int .u64 0,.int .u64 0,.int .u64 0,.int .u64 0,.int .u64 0,.int .u64 0,.complex .f64 0 0],.bool s] w (StepEnd (stepB r e1 e2 v1 v2 l1 l2 h1 h2) p M' w):=by
 have hb1:Below w.heap.size w ((w.alloc (.cells r.row.toArray 39)).alloc (.cells #[.int .i64 e1,.string v1,.slice A1 l1.length c1,.int .i64 h1.t,.int .u32 h1.g,.int .u8 h1.r,.int .u64 0,.int .u64 0,.int .u64 0,.int .u64 0,.int .u64 0,.int .u64 0,.int .u64 0,.int .u64 0,.int .u64 0,.int .u64 0,.complex .f64 0 0] 52)):=below_alloc (below_box _ _) _
 have q5:Blk ((w.alloc (.cells r.row.toArray 39)).alloc (.cells #[.int .i64 e1,.string v1,.slice A1 l1.length c1,.int .i64 h1.t,.int .u32 h1.g,.int .u8 h1.r,.int .u64 0,.int .u64 0,.int .u64 0,.int .u64 0,.int .u64 0,.int .u64 0,.int .u64 0,.int .u64 0,.int .u64 0,.int .u64 0,.complex .f64 0 0] 52)) w.heap.size 39 r.row.toArray:=(Blk.new w 39 r.row.toArray).alloc _
 have q6:Blk ((w.alloc (.cells r.row.toArray 39)).alloc (.cells #[.int .i64 e1,.string v1,.slice A1 l1.length c1,.int .i64 h1.t,.int .u32 h1.g,.int .u8 h1.r,.int .u64 0,.int .u64 0,.int .u64 0,.int .u64 0,.int .u64 0,.int .u64 0,.int .u64 0,.int .u64 0,.int .u64 0,.int .u64 0,.complex .f64 0 0] 52)) (w.heap.size + 1) 52 #[.int .i64 e1,.string v1,.slice A1 l1.length c1,.int .i64 h1.t,.int .u32 h1.g,.int .u8 h1.r,.int .u64 0,.int .u64 0,.int .u64 0,.int .u64 0,.int .u64 0,.int .u64 0,.int .u64 0,.int .u64 0,.int .u64 0,.int .u64 0,.complex .f64 0 0]:=blk_at (by simp)
 have HN:=Lib.hid (none_m (hm.below hb1))
 have HB:=Lib.hid (And.intro hb1 (And.intro q5 q6))
 have HM:=Lib.hid hm
 have HC:=Lib.hid (Copy_m (hm.below hb1) hsm)
 have HWN:=Lib.hid hw
 have HA:=Lib.hid hA
 have hz13:(e1 == 13)=false:=by simpa using he.1
 have hz14:(e1 == 14)=false:=by simpa using he.2
 unfold Req.row at HN HB HC
 have HE13:=Lib.hid he
 clear hb1 q5 q6 hm hw he hA hz13 hz14
 go_enter Tryz.func49,Tryz.ntmps49
 go_wp2_with fail
 refine HN.out.mono ?_
 rintro e w1 ⟨rfl,rfl⟩
 go_wp2_with fail
 refine HC.out.mono ?_
 rintro e w2 ⟨g,O,rfl,hmg,hog,hb2⟩
 have Q5:=HB.out.2.1.below hb2 HB.out.2.1.lt
 have Q6:=HB.out.2.2.below hb2 HB.out.2.2.lt
 have BW:=below_trans HB.out.1 hb2
 have hs1:=HB.out.1.size
 have HD:=Lib.hid (Do_m hmg r hr hsm)
 have HQ:=Lib.hid (And.intro Q5 (And.intro Q6 (And.intro BW hog)))
 obtain ⟨r0,r1,r2,r3,r4,r5,r6,r7,r8,r9,r10,r11⟩:=req_cells (r:=r) Q5
 clear Q5 Q6 BW hog hb2 HC HN
 go_upto_region 4 with fail
 rename_i K0 hK
 have HK0:=Lib.hid hK
 clear hK
 go_wp2_with fail
 refine HD.out.mono ?_
 intro e w3 hE
 rw [HWN.out] at hE
 obtain ⟨A,c,O',rfl,hm3,hrw3,ho3,hk3⟩:=hE
 have hno:∀ {i:Nat} {t:TypeId} {cs:Array Value},Blk w2 i t cs→TnT t→¬ mown g M O i:=fun hb ht=>hmg.far hb ht
 have R5:=hk3.blk HQ.out.1 (hno HQ.out.1 (by simp [TnT]))
 have R6:=hk3.blk HQ.out.2.1 (hno HQ.out.2.1 (by simp [TnT]))
 have BWS:=HQ.out.2.2.1.size
 have BW3:Below w.heap.size w w3:=⟨hk3.os.trans HQ.out.2.2.1.os,hk3.tape.trans HQ.out.2.2.1.tape,hk3.output.trans HQ.out.2.2.1.output,Nat.le_trans HQ.out.2.2.1.size hk3.size,fun i hi=>by
  rw [hk3.block i (Nat.lt_of_lt_of_le hi HQ.out.2.2.1.size) (.inl (fun hc=>by have:=HQ.out.2.2.2 i hc;omega)),HQ.out.2.2.1.block i hi]⟩
 have own3:∀ i,mown g M' O' i→w.heap.size ≤ i:=fun i hi=>(ho3 i hi).elim (fun h=>by have:=HQ.out.2.2.2 i h;omega) (fun h=>Nat.le_trans HQ.out.2.2.1.size h)
 have hne6:g ≠ w.heap.size + 1:=fun e=>by have h1:=hm3.blk;subst e;have h2:=R6;unfold Blk at h1 h2;rw [h1] at h2;injection h2 with h2;injection h2 with _ h2 _;exact absurd h2 (by decide)
 have hj:w3.heap.size ≠ w.heap.size + 1:=by have:=R6.lt;omega
 have H3:Hid (StM w r g w3.heap.size #[.int .i64 e1,.string v1,.slice A1 l1.length c1,.int .i64 h1.t,.int .u32 h1.g,.int .u8 h1.r,.int .u64 0,.int .u64 0,.int .u64 0,.int .u64 0,.int .u64 0,.int .u64 0,.int .u64 0,.int .u64 0,.int .u64 0,.int .u64 0,.complex .f64 0 0] #[.int .i64 e2,.string v2,.slice A l2.length c,.int .i64 h2.t,.int .u32 h2.g,.int .u8 h2.r,.int .u64 0,.int .u64 0,.int .u64 0,.int .u64 0,.int .u64 0,.int .u64 0,.int .u64 0,.int .u64 0,.int .u64 0,.int .u64 0,.complex .f64 0 0] M' O' A c l2 (w3.alloc (.cells #[.int .i64 e2,.string v2,.slice A l2.length c,.int .i64 h2.t,.int .u32 h2.g,.int .u8 h2.r,.int .u64 0,.int .u64 0,.int .u64 0,.int .u64 0,.int .u64 0,.int .u64 0,.int .u64 0,.int .u64 0,.int .u64 0,.int .u64 0,.complex .f64 0 0] 52))):=Lib.hid ⟨R5.alloc _,R6.alloc _,Blk.new w3 _ _,hj,hm3.below (below_box _ _),own3,below_alloc BW3 _,(own_base hrw3 BWS).alloc _⟩
 clear R5 R6 BW3 hm3 own3 hno ho3 hk3 hmg HD HQ hrw3 HB hne6 BWS
 unfold Ans.v Ans.cells st0
 dsimp only [List.cons_append,List.nil_append]
 go_wp2_with fail
 refine HK0.out _ _ ?_
 clear HK0 K0
 generalize w3.alloc (.cells #[.int .i64 e2,.string v2,.slice A l2.length c,.int .i64 h2.t,.int .u32 h2.g,.int .u8 h2.r,.int .u64 0,.int .u64 0,.int .u64 0,.int .u64 0,.int .u64 0,.int .u64 0,.int .u64 0,.int .u64 0,.int .u64 0,.int .u64 0,.complex .f64 0 0] 52)=W0 at H3 ⊢
 refine wp_seq_k fun K0 hK=>?_
 have HK0:=Lib.hid hK
 clear hK
 have hAW:Reads W0 W1 2 A1 l1.length (l1.flatMap pairR):=HA.out.keep fun p hp=>H3.out.bel.cell (by omega)
 have hWW:=Nat.le_trans hW1 H3.out.bel.size
 cases s
 · have hth:=there_mid H3.out.b6 (o:=6) (n:=11) (Nat.le_refl 17)
   obtain ⟨b0,b1,b2,b3,b4,b5,b6,b7,b8,b9,b10,b11,b12,b13,b14,b15,b16⟩:=ans_cells17 H3.out.b10
   go_wp2_with (refine wpList_store_mid rfl 50 (.tmp 22) (.tmp 21) rfl (w.heap.size + 1) 6 #[.int .u64 0,.int .u64 0,.int .u64 0,.int .u64 0,.int .u64 0,.int .u64 0,.int .u64 0,.int .u64 0,.int .u64 0,.int .u64 0,.complex .f64 0 0] rfl rfl hth infoStat stat_one ?_)
   have h6:=H3.out.set6 6 [.int .u64 0,.int .u64 0,.int .u64 0,.int .u64 0,.int .u64 0,.int .u64 0,.int .u64 0,.int .u64 0,.int .u64 0,.int .u64 0,.complex .f64 0 0]
   rw [sets_st] at h6
   generalize W0.setCells (w.heap.size + 1) 6 [.int .u64 0,.int .u64 0,.int .u64 0,.int .u64 0,.int .u64 0,.int .u64 0,.int .u64 0,.int .u64 0,.int .u64 0,.int .u64 0,.complex .f64 0 0]=W6 at h6 ⊢
   have hA6:Reads W6 W1 2 A1 l1.length (l1.flatMap pairR):=HA.out.keep fun p hp=>h6.bel.cell (by omega)
   have hW6:=Nat.le_trans hW1 h6.bel.size
   exact HK0.out _ _ (step_tail HM.out h6 hl1 hl2 hA6 hW6 (And.intro HE13.out.1 HE13.out.2))
 · go_wp2
   exact HK0.out _ _ (step_tail HM.out H3.out hl1 hl2 hAW hWW (And.intro HE13.out.1 HE13.out.2))
def StLike (M M':Mdl):Prop:=∀ t,(M' t).gen=(M t).gen∧(M' t).qk=(M t).qk∧(M' t).qb=(M t).qb∧(M' t).bk=(M t).bk
theorem StLike.refl (M:Mdl):StLike M M:=fun _=>⟨rfl,rfl,rfl,rfl⟩
theorem StLike.trans {A B C:Mdl} (h:StLike A B) (k:StLike B C):StLike A C:=fun t=>⟨(k t).1.trans (h t).1,(k t).2.1.trans (h t).2.1,(k t).2.2.1.trans (h t).2.2.1,(k t).2.2.2.trans (h t).2.2.2⟩
def EndedE (p:Nat) (M:Mdl) (T:Ows) (w:World) (e:Ending) (w':World):Prop:=e=.returned (.tuple #[])∧∃ M',StLike M M'∧ModelAt w' p M' T∧KeepC (fun i=>i=p) w w'
theorem stOk_one {st:List Value} (h:StOk st):st.toArray.all (·.oneCell')=true:=by
 rw [Array.all_eq_true_iff_forall_mem]
 intro v hv
 exact h.one v (by simpa using hv)
set_option maxHeartbeats 3200000 in
set_option maxRecDepth 100000 in
theorem ended_tail {w W:World} {p n gb:Nat} {M:Mdl} {T:Ows} {q:Bool} {st':List Value} (hm:ModelAt w p M T) (hn:n < 17) (hM:ModelAt W p M T) (hb:Blk W gb 50 st'.toArray) (hst:StOk st') (hbel:Below w.heap.size w W) :
 Code.wp Tryz.prog (part Tryz.f21 [1,1,1,1]) (bodyPost Tryz.prog Tryz.f21 (EndedE p M T w)) ⟨#[Xa,Xb,Xc,Xd,Xe,Xf,.pointer (some ⟨p,1 + n * 15,none⟩),.pointer (some ⟨gb,0,none⟩),.bool q,Xj,Xk,Xl,Xm,Xn,Xo,Xp,Xq,Xr,Xs,Xt,Xu,Xv,Xw,Xx,Xy,Xz,Ya,Yb,Yc,Yd,Ye,Yf,Yg,Yh,Yi,Yj,Yk],[]⟩ W:=by
 conv=>arg 2;whnf
 have hsz:st'.toArray.size=11:=by simp [hst.len]
 have hrng:W.rangeAt gb 0 st':=by have:=range_blk hb;simpa using this
 have hth:W.there p (1 + n * 15 + 4) 11:=there_mid hM.blk (by rw [List.size_toArray,mcells_len hM.ok];omega)
 have HS:=Lib.hid (And.intro hst (And.intro hM (And.intro hb hbel)))
 have HM:=Lib.hid hm
 have h11:st'.length=11:=hst.len
 clear hst hM hb hbel hm
 cases q
 · go_wp2
   go_end0
   exact ⟨rfl,M,StLike.refl M,HS.out.2.1,.of_below HS.out.2.2.2⟩
 · go_wp2_with (first
    | (refine wpList_load_mid rfl 50 (.tmp 7) rfl gb 0 rfl _ _ hrng Tryz.underlying50 rfl (by rw [h11];exact infoStat) ?_)
    | (refine wpList_store_mid rfl 50 (.tmp 36) (.tmp 34) rfl p (1 + n * 15 + 4) st'.toArray rfl rfl (by rw [hsz];exact hth) (by rw [hsz];exact infoStat) (stOk_one HS.out.1) ?_))
   go_end0
   have hM:=HS.out.2.1
   have hok:=hM.ok n
   obtain ⟨m1,k1⟩:=hM.wrote (t:={ M n with st:=st' }) (o:=T n) (off:=4) (vs:=st') (w':=W.setCells p (1 + n * 15 + 4) st') hn ⟨hok.gen,hok.qk,hok.qb,HS.out.1⟩ rfl (by rw [h11];exact Nat.le_refl 15)
    (fun j v hv=>by
        unfold Ten.cells at hv ⊢
        refine ⟨fun hj=>?_,fun h4 h15=>?_⟩
        · rcases hj with hj | hj
          · rw [List.getElem?_append_left (by exact hj)] at hv ⊢
            exact hv
          · rw [List.getElem?_eq_none (by simp [h11];omega)] at hv
            cases hv
        · rw [List.getElem?_append_right (by exact h4)] at hv
          exact hv)
    (fun B hB=>hM.bk n B hn hB) (fun hs s i hs17 hne hsb hi=>hM.apart n s i hn hs17 (fun e=>hne e.symm) hs hsb hi) (fun hs i hi=>hM.ne hn hs hi)
   have hT:updO T n (T n)=T:=by
    funext i
    unfold updO
    split
    · rename_i e;rw [e]
    · rfl
   rw [hT] at m1
   refine ⟨rfl,_,fun t=>?_,m1,(KeepC.of_below HS.out.2.2.2).trans k1 (fun i _ hi=>hi)⟩
   by_cases e:t=n
   · subst e;rw [updM_self];exact ⟨rfl,rfl,rfl,rfl⟩
   · rw [updM_ne e];exact ⟨rfl,rfl,rfl,rfl⟩
theorem en_keep {w w1 V V':World} {p n:Nat} {r:Req} {x:Dn} {n0 n1 n2 n3 n4 n5 n6 n7 n8 n9:Int} {fa fb:Nat} (h:Below w1.heap.size w1 V∧V.cell? ⟨w.heap.size,0,none⟩=some (.int .i64 r.deed)∧V.cell? ⟨p,1 + n * 15 + 4,none⟩=some (.int .u64 n0)∧V.cell? ⟨p,1 + n * 15 + 5,none⟩=some (.int .u64 n1)∧V.cell? ⟨p,1 + n * 15 + 6,none⟩=some (.int .u64 n2)∧V.cell? ⟨p,1 + n * 15 + 7,none⟩=some (.int .u64 n3)∧V.cell? ⟨p,1 + n * 15 + 8,none⟩=some (.int .u64 n4)∧V.cell? ⟨p,1 + n * 15 + 9,none⟩=some (.int .u64 n5)∧V.cell? ⟨p,1 + n * 15 + 10,none⟩=some (.int .u64 n6)∧V.cell? ⟨p,1 + n * 15 + 11,none⟩=some (.int .u64 n7)∧V.cell? ⟨p,1 + n * 15 + 12,none⟩=some (.int .u64 n8)∧V.cell? ⟨p,1 + n * 15 + 13,none⟩=some (.int .u64 n9)∧V.cell? ⟨p,1 + n * 15 + 14,none⟩=some (.complex .f64 fa fb)∧V.cell? ⟨w.heap.size + 1,0,none⟩=some (.int .i64 x.err)∧V.cell? ⟨w.heap.size + 1,1,none⟩=some (.string x.val)∧V.cell? ⟨w.heap.size + 1,2,none⟩=some (.slice x.pA x.pn x.pc)∧V.cell? ⟨w.heap.size + 1,3,none⟩=some (.int .i64 x.h.t)∧V.cell? ⟨w.heap.size + 1,4,none⟩=some (.int .u32 x.h.g)∧V.cell? ⟨w.heap.size + 1,5,none⟩=some (.int .u8 x.h.r)∧V.cell? ⟨w.heap.size + 1,6,none⟩=some (.int .u64 x.s0)∧V.cell? ⟨w.heap.size + 1,7,none⟩=some (.int .u64 x.s1)∧V.cell? ⟨w.heap.size + 1,8,none⟩=some (.int .u64 x.s2)∧V.cell? ⟨w.heap.size + 1,9,none⟩=some (.int .u64 x.s3)∧V.cell? ⟨w.heap.size + 1,10,none⟩=some (.int .u64 x.s4)∧V.cell? ⟨w.heap.size + 1,11,none⟩=some (.int .u64 x.s5)∧V.cell? ⟨w.heap.size + 1,12,none⟩=some (.int .u64 x.s6)∧V.cell? ⟨w.heap.size + 1,13,none⟩=some (.int .u64 x.s7)∧V.cell? ⟨w.heap.size + 1,14,none⟩=some (.int .u64 x.s8)∧V.cell? ⟨w.heap.size + 1,15,none⟩=some (.int .u64 x.s9)∧V.cell? ⟨w.heap.size + 1,16,none⟩=some (.complex .f64 x.la x.lb)) (hc:∀ y:Addr,y.block < w1.heap.size→V'.cell? y=V.cell? y) (hb:Below w1.heap.size w1 V') (l5:w.heap.size < w1.heap.size) (l6:w.heap.size + 1 < w1.heap.size) (lp:p < w1.heap.size):Below w1.heap.size w1 V'∧V'.cell? ⟨w.heap.size,0,none⟩=some (.int .i64 r.deed)∧V'.cell? ⟨p,1 + n * 15 + 4,none⟩=some (.int .u64 n0)∧V'.cell? ⟨p,1 + n * 15 + 5,none⟩=some (.int .u64 n1)∧V'.cell? ⟨p,1 + n * 15 + 6,none⟩=some (.int .u64 n2)∧V'.cell? ⟨p,1 + n * 15 + 7,none⟩=some (.int .u64 n3)∧V'.cell? ⟨p,1 + n * 15 + 8,none⟩=some (.int .u64 n4)∧V'.cell? ⟨p,1 + n * 15 + 9,none⟩=some (.int .u64 n5)∧V'.cell? ⟨p,1 + n * 15 + 10,none⟩=some (.int .u64 n6)∧V'.cell? ⟨p,1 + n * 15 + 11,none⟩=some (.int .u64 n7)∧V'.cell? ⟨p,1 + n * 15 + 12,none⟩=some (.int .u64 n8)∧V'.cell? ⟨p,1 + n * 15 + 13,none⟩=some (.int .u64 n9)∧V'.cell? ⟨p,1 + n * 15 + 14,none⟩=some (.complex .f64 fa fb)∧V'.cell? ⟨w.heap.size + 1,0,none⟩=some (.int .i64 x.err)∧V'.cell? ⟨w.heap.size + 1,1,none⟩=some (.string x.val)∧V'.cell? ⟨w.heap.size + 1,2,none⟩=some (.slice x.pA x.pn x.pc)∧V'.cell? ⟨w.heap.size + 1,3,none⟩=some (.int .i64 x.h.t)∧V'.cell? ⟨w.heap.size + 1,4,none⟩=some (.int .u32 x.h.g)∧V'.cell? ⟨w.heap.size + 1,5,none⟩=some (.int .u8 x.h.r)∧V'.cell? ⟨w.heap.size + 1,6,none⟩=some (.int .u64 x.s0)∧V'.cell? ⟨w.heap.size + 1,7,none⟩=some (.int .u64 x.s1)∧V'.cell? ⟨w.heap.size + 1,8,none⟩=some (.int .u64 x.s2)∧V'.cell? ⟨w.heap.size + 1,9,none⟩=some (.int .u64 x.s3)∧V'.cell? ⟨w.heap.size + 1,10,none⟩=some (.int .u64 x.s4)∧V'.cell? ⟨w.heap.size + 1,11,none⟩=some (.int .u64 x.s5)∧V'.cell? ⟨w.heap.size + 1,12,none⟩=some (.int .u64 x.s6)∧V'.cell? ⟨w.heap.size + 1,13,none⟩=some (.int .u64 x.s7)∧V'.cell? ⟨w.heap.size + 1,14,none⟩=some (.int .u64 x.s8)∧V'.cell? ⟨w.heap.size + 1,15,none⟩=some (.int .u64 x.s9)∧V'.cell? ⟨w.heap.size + 1,16,none⟩=some (.complex .f64 x.la x.lb) :=
 ⟨hb,(hc _ l5).trans h.2.1,(hc _ lp).trans h.2.2.1,(hc _ lp).trans h.2.2.2.1,(hc _ lp).trans h.2.2.2.2.1,(hc _ lp).trans h.2.2.2.2.2.1,(hc _ lp).trans h.2.2.2.2.2.2.1,(hc _ lp).trans h.2.2.2.2.2.2.2.1,(hc _ lp).trans h.2.2.2.2.2.2.2.2.1,(hc _ lp).trans h.2.2.2.2.2.2.2.2.2.1,(hc _ lp).trans h.2.2.2.2.2.2.2.2.2.2.1,(hc _ lp).trans h.2.2.2.2.2.2.2.2.2.2.2.1,(hc _ lp).trans h.2.2.2.2.2.2.2.2.2.2.2.2.1,(hc _ l6).trans h.2.2.2.2.2.2.2.2.2.2.2.2.2.1,(hc _ l6).trans h.2.2.2.2.2.2.2.2.2.2.2.2.2.2.1,(hc _ l6).trans h.2.2.2.2.2.2.2.2.2.2.2.2.2.2.2.1,(hc _ l6).trans h.2.2.2.2.2.2.2.2.2.2.2.2.2.2.2.2.1,(hc _ l6).trans h.2.2.2.2.2.2.2.2.2.2.2.2.2.2.2.2.2.1,(hc _ l6).trans h.2.2.2.2.2.2.2.2.2.2.2.2.2.2.2.2.2.2.1,(hc _ l6).trans h.2.2.2.2.2.2.2.2.2.2.2.2.2.2.2.2.2.2.2.1,(hc _ l6).trans h.2.2.2.2.2.2.2.2.2.2.2.2.2.2.2.2.2.2.2.2.1,(hc _ l6).trans h.2.2.2.2.2.2.2.2.2.2.2.2.2.2.2.2.2.2.2.2.2.1,(hc _ l6).trans h.2.2.2.2.2.2.2.2.2.2.2.2.2.2.2.2.2.2.2.2.2.2.1,(hc _ l6).trans h.2.2.2.2.2.2.2.2.2.2.2.2.2.2.2.2.2.2.2.2.2.2.2.1,(hc _ l6).trans h.2.2.2.2.2.2.2.2.2.2.2.2.2.2.2.2.2.2.2.2.2.2.2.2.1,(hc _ l6).trans h.2.2.2.2.2.2.2.2.2.2.2.2.2.2.2.2.2.2.2.2.2.2.2.2.2.1,(hc _ l6).trans h.2.2.2.2.2.2.2.2.2.2.2.2.2.2.2.2.2.2.2.2.2.2.2.2.2.2.1,(hc _ l6).trans h.2.2.2.2.2.2.2.2.2.2.2.2.2.2.2.2.2.2.2.2.2.2.2.2.2.2.2.1,(hc _ l6).trans h.2.2.2.2.2.2.2.2.2.2.2.2.2.2.2.2.2.2.2.2.2.2.2.2.2.2.2.2.1,(hc _ l6).trans h.2.2.2.2.2.2.2.2.2.2.2.2.2.2.2.2.2.2.2.2.2.2.2.2.2.2.2.2.2⟩
set_option maxHeartbeats 6400000 in
set_option maxRecDepth 100000 in
theorem Ended_m {w:World} {p:Nat} {M:Mdl} {T:Ows} (hm:ModelAt w p M T) (r:Req) (x:Dn) (hn:x.pn ≤ 9223372036854775807) :
 Calls Tryz.prog 21 #[.pointer (some ⟨p,0,none⟩),r.v,.agg x.ans.toArray] w (EndedE p M T w):=by
 have hb1:Below w.heap.size w ((w.alloc (.cells r.row.toArray 39)).alloc (.cells x.ans.toArray 52)):=below_alloc (below_box _ _) _
 have q5:Blk ((w.alloc (.cells r.row.toArray 39)).alloc (.cells x.ans.toArray 52)) w.heap.size 39 r.row.toArray:=(Blk.new w 39 r.row.toArray).alloc _
 have q6:Blk ((w.alloc (.cells r.row.toArray 39)).alloc (.cells x.ans.toArray 52)) (w.heap.size + 1) 52 x.ans.toArray:=blk_at (by simp)
 have HG:=Lib.hid (good_m (hm.below hb1) r.h)
 have HB:=Lib.hid (And.intro hb1 (And.intro q5 q6))
 have HM:=Lib.hid hm
 have HN:=Lib.hid hn
 obtain ⟨g,hg⟩:∃ g,goodN M r.h=g:=⟨_,rfl⟩
 rw [hg] at HG
 have HGG:=Lib.hid hg
 unfold Req.row Dn.ans at HG HB
 unfold Dn.ans
 unfold Req.h Hd.v at HG
 clear hb1 q5 q6 hm hn hg
 go_enter Tryz.func21,Tryz.ntmps21
 go_wp2_with fail
 refine HG.out.mono ?_
 rintro e w1 ⟨rfl,hb⟩
 cases g
 · go_wp2_with fail
   go_end0
   exact ⟨rfl,M,StLike.refl M,(HM.out.below HB.out.1).below hb,.of_below (below_trans HB.out.1 hb)⟩
 · obtain ⟨n,hn,hn1,hn2,hsome,-,-⟩:=good_gen HGG.out
   have hrt:r.ten=(n:Int):=hn
   have M1:=(HM.out.below HB.out.1).below hb
   have Q5:=HB.out.2.1.below hb HB.out.2.1.lt
   have Q6:=HB.out.2.2.below hb HB.out.2.2.lt
   have HB1:=Lib.hid (below_trans HB.out.1 hb)
   obtain ⟨r0,r1,-⟩:=req_cells Q5
   rw [hrt] at r1
   have hq1:(0:Int) ≤ (n:Int):=by omega
   have hq2:(n:Int) < 17:=by omega
   have hmix:Tryz.prog.follows .mixedOrders=true:=by kernel_rfl
   have HX:=Lib.hid (And.intro M1 (And.intro Q5 Q6))
   clear hb M1 Q5 Q6 hn hsome r0
   go_wp2_with fail
   go_region
   go_wp2_with fail
   obtain ⟨n0,n1,n2,n3,n4,n5,n6,n7,n8,n9,fa,fb,hst⟩:=stOk_list (HX.out.1.ok n).st
   have hn17:n < 17:=by omega
   have hr15:=HX.out.1.range hn17
   unfold Ten.cells at hr15
   rw [hst] at hr15
   have hx15:=range15 hr15
   have hNX:=fun (W:World)=>Next_s [.int .u64 n0,.int .u64 n1,.int .u64 n2,.int .u64 n3,.int .u64 n4,.int .u64 n5,.int .u64 n6,.int .u64 n7,.int .u64 n8,.int .u64 n9,.complex .f64 fa fb] (by rw [← hst];exact (HX.out.1.ok n).st) r.deed x W HN.out
   dsimp only [Dn.ans] at hNX
   have HNX:=Lib.hid hNX
   clear hNX
   have hg5:=HX.out.2.1.lt
   have hg6:=HX.out.2.2.lt
   have hgp:=HX.out.1.blk.lt
   have q5:=HX.out.2.1
   have q6:=HX.out.2.2
   have H0:Below w1.heap.size w1 w1.drew.drew∧w1.drew.drew.cell? ⟨w.heap.size,0,none⟩=some (.int .i64 r.deed)∧w1.drew.drew.cell? ⟨p,1 + n * 15 + 4,none⟩=some (.int .u64 n0)∧w1.drew.drew.cell? ⟨p,1 + n * 15 + 5,none⟩=some (.int .u64 n1)∧w1.drew.drew.cell? ⟨p,1 + n * 15 + 6,none⟩=some (.int .u64 n2)∧w1.drew.drew.cell? ⟨p,1 + n * 15 + 7,none⟩=some (.int .u64 n3)∧w1.drew.drew.cell? ⟨p,1 + n * 15 + 8,none⟩=some (.int .u64 n4)∧w1.drew.drew.cell? ⟨p,1 + n * 15 + 9,none⟩=some (.int .u64 n5)∧w1.drew.drew.cell? ⟨p,1 + n * 15 + 10,none⟩=some (.int .u64 n6)∧w1.drew.drew.cell? ⟨p,1 + n * 15 + 11,none⟩=some (.int .u64 n7)∧w1.drew.drew.cell? ⟨p,1 + n * 15 + 12,none⟩=some (.int .u64 n8)∧w1.drew.drew.cell? ⟨p,1 + n * 15 + 13,none⟩=some (.int .u64 n9)∧w1.drew.drew.cell? ⟨p,1 + n * 15 + 14,none⟩=some (.complex .f64 fa fb)∧w1.drew.drew.cell? ⟨w.heap.size + 1,0,none⟩=some (.int .i64 x.err)∧w1.drew.drew.cell? ⟨w.heap.size + 1,1,none⟩=some (.string x.val)∧w1.drew.drew.cell? ⟨w.heap.size + 1,2,none⟩=some (.slice x.pA x.pn x.pc)∧w1.drew.drew.cell? ⟨w.heap.size + 1,3,none⟩=some (.int .i64 x.h.t)∧w1.drew.drew.cell? ⟨w.heap.size + 1,4,none⟩=some (.int .u32 x.h.g)∧w1.drew.drew.cell? ⟨w.heap.size + 1,5,none⟩=some (.int .u8 x.h.r)∧w1.drew.drew.cell? ⟨w.heap.size + 1,6,none⟩=some (.int .u64 x.s0)∧w1.drew.drew.cell? ⟨w.heap.size + 1,7,none⟩=some (.int .u64 x.s1)∧w1.drew.drew.cell? ⟨w.heap.size + 1,8,none⟩=some (.int .u64 x.s2)∧w1.drew.drew.cell? ⟨w.heap.size + 1,9,none⟩=some (.int .u64 x.s3)∧w1.drew.drew.cell? ⟨w.heap.size + 1,10,none⟩=some (.int .u64 x.s4)∧w1.drew.drew.cell? ⟨w.heap.size + 1,11,none⟩=some (.int .u64 x.s5)∧w1.drew.drew.cell? ⟨w.heap.size + 1,12,none⟩=some (.int .u64 x.s6)∧w1.drew.drew.cell? ⟨w.heap.size + 1,13,none⟩=some (.int .u64 x.s7)∧w1.drew.drew.cell? ⟨w.heap.size + 1,14,none⟩=some (.int .u64 x.s8)∧w1.drew.drew.cell? ⟨w.heap.size + 1,15,none⟩=some (.int .u64 x.s9)∧w1.drew.drew.cell? ⟨w.heap.size + 1,16,none⟩=some (.complex .f64 x.la x.lb):=⟨(Below.refl _ _).drew.drew,q5.cell 0,hx15.2.2.2.2.1,hx15.2.2.2.2.2.1,hx15.2.2.2.2.2.2.1,hx15.2.2.2.2.2.2.2.1,hx15.2.2.2.2.2.2.2.2.1,hx15.2.2.2.2.2.2.2.2.2.1,hx15.2.2.2.2.2.2.2.2.2.2.1,hx15.2.2.2.2.2.2.2.2.2.2.2.1,hx15.2.2.2.2.2.2.2.2.2.2.2.2.1,hx15.2.2.2.2.2.2.2.2.2.2.2.2.2.1,hx15.2.2.2.2.2.2.2.2.2.2.2.2.2.2,q6.cell 0,q6.cell 1,q6.cell 2,q6.cell 3,q6.cell 4,q6.cell 5,q6.cell 6,q6.cell 7,q6.cell 8,q6.cell 9,q6.cell 10,q6.cell 11,q6.cell 12,q6.cell 13,q6.cell 14,q6.cell 15,q6.cell 16⟩
   clear hr15 hst hx15 q5 q6 r1
   refine wp_region_held_drew (S:=(fun V:World=>Below w1.heap.size w1 V∧V.cell? ⟨w.heap.size,0,none⟩=some (.int .i64 r.deed)∧V.cell? ⟨p,1 + n * 15 + 4,none⟩=some (.int .u64 n0)∧V.cell? ⟨p,1 + n * 15 + 5,none⟩=some (.int .u64 n1)∧V.cell? ⟨p,1 + n * 15 + 6,none⟩=some (.int .u64 n2)∧V.cell? ⟨p,1 + n * 15 + 7,none⟩=some (.int .u64 n3)∧V.cell? ⟨p,1 + n * 15 + 8,none⟩=some (.int .u64 n4)∧V.cell? ⟨p,1 + n * 15 + 9,none⟩=some (.int .u64 n5)∧V.cell? ⟨p,1 + n * 15 + 10,none⟩=some (.int .u64 n6)∧V.cell? ⟨p,1 + n * 15 + 11,none⟩=some (.int .u64 n7)∧V.cell? ⟨p,1 + n * 15 + 12,none⟩=some (.int .u64 n8)∧V.cell? ⟨p,1 + n * 15 + 13,none⟩=some (.int .u64 n9)∧V.cell? ⟨p,1 + n * 15 + 14,none⟩=some (.complex .f64 fa fb)∧V.cell? ⟨w.heap.size + 1,0,none⟩=some (.int .i64 x.err)∧V.cell? ⟨w.heap.size + 1,1,none⟩=some (.string x.val)∧V.cell? ⟨w.heap.size + 1,2,none⟩=some (.slice x.pA x.pn x.pc)∧V.cell? ⟨w.heap.size + 1,3,none⟩=some (.int .i64 x.h.t)∧V.cell? ⟨w.heap.size + 1,4,none⟩=some (.int .u32 x.h.g)∧V.cell? ⟨w.heap.size + 1,5,none⟩=some (.int .u8 x.h.r)∧V.cell? ⟨w.heap.size + 1,6,none⟩=some (.int .u64 x.s0)∧V.cell? ⟨w.heap.size + 1,7,none⟩=some (.int .u64 x.s1)∧V.cell? ⟨w.heap.size + 1,8,none⟩=some (.int .u64 x.s2)∧V.cell? ⟨w.heap.size + 1,9,none⟩=some (.int .u64 x.s3)∧V.cell? ⟨w.heap.size + 1,10,none⟩=some (.int .u64 x.s4)∧V.cell? ⟨w.heap.size + 1,11,none⟩=some (.int .u64 x.s5)∧V.cell? ⟨w.heap.size + 1,12,none⟩=some (.int .u64 x.s6)∧V.cell? ⟨w.heap.size + 1,13,none⟩=some (.int .u64 x.s7)∧V.cell? ⟨w.heap.size + 1,14,none⟩=some (.int .u64 x.s8)∧V.cell? ⟨w.heap.size + 1,15,none⟩=some (.int .u64 x.s9)∧V.cell? ⟨w.heap.size + 1,16,none⟩=some (.complex .f64 x.la x.lb))) (by kernel_rfl) ?_ (fun hHeld0=>?_)
   · exact H0
   refine tk (i:=0) (v:=?_) rfl (Or.inl ⟨by rfl,?_⟩) hHeld0 ?_
   rotate_left
   · (intro w hSw;(try dsimp only at hSw);go_simp <;> with_reducible rfl)
   try simp only [Act.put,zD,zE,zF]
   refine tk (i:=1) (v:=?_) rfl (Or.inl ⟨by rfl,?_⟩) hHeld0 ?_
   rotate_left
   · (intro w hSw;(try dsimp only at hSw);go_simp <;> with_reducible rfl)
   try simp only [Act.put,zD,zE,zF]
   refine tk (i:=2) (v:=?_) rfl (Or.inl ⟨by rfl,?_⟩) hHeld0 ?_
   rotate_left
   · (intro w hSw;(try dsimp only at hSw);go_simp <;> with_reducible rfl)
   try simp only [Act.put,zD,zE,zF]
   refine tk (i:=3) (v:=?_) rfl (Or.inl ⟨by rfl,?_⟩) hHeld0 ?_
   rotate_left
   · (intro w hSw;(try dsimp only at hSw);go_simp <;> with_reducible rfl)
   try simp only [Act.put,zD,zE,zF]
   refine tk (i:=4) (v:=?_) rfl (Or.inl ⟨by rfl,?_⟩) hHeld0 ?_
   rotate_left
   · (intro w hSw;(try dsimp only at hSw);go_simp <;> with_reducible rfl)
   try simp only [Act.put,zD,zE,zF]
   refine tk (i:=5) (v:=?_) rfl (Or.inl ⟨by rfl,?_⟩) hHeld0 ?_
   rotate_left
   · (intro w hSw;(try dsimp only at hSw);go_simp <;> with_reducible rfl)
   try simp only [Act.put,zD,zE,zF]
   refine tk (i:=6) (v:=?_) rfl (Or.inl ⟨by rfl,?_⟩) hHeld0 ?_
   rotate_left
   · (intro w hSw;(try dsimp only at hSw);go_simp <;> with_reducible rfl)
   try simp only [Act.put,zA,zB,zC,zD,zE,zF]
   refine wpAnyH_ready (rs:=[7,11]) (by kernel_rfl) (by simp) ?_
   refine AllReadyH.cons rfl (fun K hK=>?_) ?_
   · go_simp
     with_reducible refine (HNX.out _).mono ?_
     rintro e wn ⟨st',q,hst',rfl,hb2⟩
     have hS2:=en_keep H0 (fun y hy=>hb2.cell (Nat.lt_of_lt_of_le hy H0.1.size)) (below_trans H0.1 hb2) hg5 hg6 hgp
     have hsz:st'.toArray.size=11:=by simp [hst'.len]
     refine hK.out _ _ ?_ (fun hHeld1=>?_)
     · exact hS2
     clear hK K hHeld0
     try simp only [Act.put,zD,zE,zF]
     refine tk (i:=8) (v:=?_) rfl (Or.inl ⟨by rfl,?_⟩) hHeld1 ?_
     rotate_left
     · (intro w hSw;(try dsimp only at hSw);go_simp <;> with_reducible rfl)
     try simp only [Act.put,zD,zE,zF]
     refine tk (i:=9) (v:=?_) rfl (Or.inl ⟨by rfl,?_⟩) hHeld1 ?_
     rotate_left
     · (intro w hSw;(try dsimp only at hSw);go_simp <;> with_reducible rfl)
     try simp only [Act.put,zD,zE,zF]
     refine tk (i:=10) (v:=?_) rfl (Or.inl ⟨by rfl,?_⟩) hHeld1 ?_
     rotate_left
     · (intro w hSw;(try dsimp only at hSw);go_simp <;> with_reducible rfl)
     try simp only [Act.put,zA,zB,zC,zD,zE,zF]
     have hS3:=en_keep hS2 (fun y hy=>World.cell?_alloc_lt _ _ y (Nat.lt_of_lt_of_le hy hS2.1.size)) (below_alloc hS2.1 (.cells #[.int .u64 0,.int .u64 0,.int .u64 0,.int .u64 0,.int .u64 0,.int .u64 0,.int .u64 0,.int .u64 0,.int .u64 0,.int .u64 0,.complex .f64 0 0] 50)) hg5 hg6 hgp
     refine wpAnyH_ready (rs:=[11]) (by kernel_rfl) (by simp) ?_
     refine AllReadyH.cons rfl (fun K hK=>?_) AllReadyH.nil
     go_simp
     refine hK.out _ _ ?_ (fun hHeld2=>?_)
     · exact hS3
     clear hK K hHeld1
     try simp only [Act.put,zD,zE,zF]
     have hbx:=Blk.new wn 50 #[.int .u64 0,.int .u64 0,.int .u64 0,.int .u64 0,.int .u64 0,.int .u64 0,.int .u64 0,.int .u64 0,.int .u64 0,.int .u64 0,.complex .f64 0 0]
     refine wpAnyH_ready (rs:=[12]) (by kernel_rfl) (by simp) ?_
     refine AllReadyH.cons rfl (fun K hK=>?_) AllReadyH.nil
     refine wp_store_mid 50 (.tmp 7) (.tmp 30) rfl wn.heap.size 0 st'.toArray rfl rfl (by rw [hsz];exact there_blk hbx (Nat.le_refl 11)) (by rw [hsz];exact infoStat) (stOk_one hst') ?_
     refine hK.out _ _ ?_ (fun hHeld3=>?_)
     · exact en_keep hS3 (fun y hy=>World.cell?_of_block ((sets_same wn.heap.size _ 0 _).2.2.2.2 y.block (by have:=hS2.1.size;omega))) (below_sets _ (hS2.1.size) _ _ _ hS3.1) hg5 hg6 hgp
     clear hK K hHeld2
     try simp only [Act.put,zD,zE,zF]
     refine tk (i:=13) (v:=?_) rfl (Or.inl ⟨by rfl,?_⟩) hHeld3 ?_
     rotate_left
     · (intro w hSw;(try dsimp only at hSw);go_simp <;> with_reducible rfl)
     try simp only [Act.put,zA,zB,zC,zD,zE,zF]
     have hBW:=below_sets wn.heap.size (hS2.1.size) st' 0 _ hS3.1
     have hbz:=blk_setAll (cells:=st'.toArray) hbx (by rw [hsz];rfl)
     refine wpAnyH_done (by kernel_rfl) ?_ _
     exact (‹∀ (a:Act) (w:World),Code.wp Tryz.prog _ _ a w→_›) _ _ (ended_tail HM.out hn17 (HX.out.1.below hBW) hbz hst' (below_trans HB1.out hBW))
   refine AllReadyH.cons rfl (fun K hK=>?_) ?_
   · have hSa:=en_keep H0 (fun y hy=>World.cell?_alloc_lt _ _ y (Nat.lt_of_lt_of_le hy H0.1.size)) (below_alloc H0.1 (.cells #[.int .u64 0,.int .u64 0,.int .u64 0,.int .u64 0,.int .u64 0,.int .u64 0,.int .u64 0,.int .u64 0,.int .u64 0,.int .u64 0,.complex .f64 0 0] 50)) hg5 hg6 hgp
     go_simp
     refine hK.out _ _ ?_ (fun hHeld1=>?_)
     · exact hSa
     clear hK K hHeld0
     try simp only [Act.put,zD,zE,zF]
     refine wpAnyH_ready (rs:=[7]) (by kernel_rfl) (by simp) ?_
     refine AllReadyH.cons rfl (fun K hK=>?_) AllReadyH.nil
     go_simp
     with_reducible refine (HNX.out _).mono ?_
     rintro e wn ⟨st',q,hst',rfl,hb2⟩
     have hS2:=en_keep hSa (fun y hy=>hb2.cell (Nat.lt_of_lt_of_le hy hSa.1.size)) (below_trans hSa.1 hb2) hg5 hg6 hgp
     have hsz:st'.toArray.size=11:=by simp [hst'.len]
     have hbx:=(Blk.new w1.drew.drew 50 #[.int .u64 0,.int .u64 0,.int .u64 0,.int .u64 0,.int .u64 0,.int .u64 0,.int .u64 0,.int .u64 0,.int .u64 0,.int .u64 0,.complex .f64 0 0]).below hb2 (by simp)
     refine hK.out _ _ ?_ (fun hHeld2=>?_)
     · exact hS2
     clear hK K hHeld1
     try simp only [Act.put,zD,zE,zF]
     refine tk (i:=8) (v:=?_) rfl (Or.inl ⟨by rfl,?_⟩) hHeld2 ?_
     rotate_left
     · (intro w hSw;(try dsimp only at hSw);go_simp <;> with_reducible rfl)
     try simp only [Act.put,zD,zE,zF]
     refine tk (i:=9) (v:=?_) rfl (Or.inl ⟨by rfl,?_⟩) hHeld2 ?_
     rotate_left
     · (intro w hSw;(try dsimp only at hSw);go_simp <;> with_reducible rfl)
     try simp only [Act.put,zD,zE,zF]
     refine tk (i:=10) (v:=?_) rfl (Or.inl ⟨by rfl,?_⟩) hHeld2 ?_
     rotate_left
     · (intro w hSw;(try dsimp only at hSw);go_simp <;> with_reducible rfl)
     try simp only [Act.put,zA,zB,zC,zD,zE,zF]
     refine wpAnyH_ready (rs:=[12]) (by kernel_rfl) (by simp) ?_
     refine AllReadyH.cons rfl (fun K hK=>?_) AllReadyH.nil
     refine wp_store_mid 50 (.tmp 7) (.tmp 30) rfl w1.heap.size 0 st'.toArray rfl rfl (by rw [hsz];exact there_blk hbx (Nat.le_refl 11)) (by rw [hsz];exact infoStat) (stOk_one hst') ?_
     refine hK.out _ _ ?_ (fun hHeld3=>?_)
     · exact en_keep hS2 (fun y hy=>World.cell?_of_block ((sets_same w1.heap.size _ 0 _).2.2.2.2 y.block (by have:=Nat.le_refl w1.heap.size;omega))) (below_sets _ (Nat.le_refl w1.heap.size) _ _ _ hS2.1) hg5 hg6 hgp
     clear hK K hHeld2
     try simp only [Act.put,zD,zE,zF]
     refine tk (i:=13) (v:=?_) rfl (Or.inl ⟨by rfl,?_⟩) hHeld3 ?_
     rotate_left
     · (intro w hSw;(try dsimp only at hSw);go_simp <;> with_reducible rfl)
     try simp only [Act.put,zA,zB,zC,zD,zE,zF]
     have hBW:=below_sets w1.heap.size (Nat.le_refl w1.heap.size) st' 0 _ hS2.1
     have hbz:=blk_setAll (cells:=st'.toArray) hbx (by rw [hsz];rfl)
     refine wpAnyH_done (by kernel_rfl) ?_ _
     exact (‹∀ (a:Act) (w:World),Code.wp Tryz.prog _ _ a w→_›) _ _ (ended_tail HM.out hn17 (HX.out.1.below hBW) hbz hst' (below_trans HB1.out hBW))
   exact AllReadyH.nil
end Go.Proofs.YtkgflepgkhnclaaGreatDoor
namespace Go.Proofs.YtkgflepgkhnclaaGreatDoor
set_option linter.unusedVariables false
set_option linter.unusedSimpArgs false
open Go.RowKit Go.Shelf
def SmQ (M:Mdl):Prop:=(∀ t B,(M t).bk=some B→B.qk ≤ 1000000)∧∀ t,17 ≤ t→(M t).bk=none
theorem smQ_upd {M:Mdl} (h:SmQ M) {n:Nat} (hn:n ≤ 16) (t:Ten) (ht:∀ B,t.bk=some B→B.qk ≤ 1000000):SmQ (updM M n t):=by
 refine ⟨fun i B hB=>?_,fun i hi=>?_⟩
 · by_cases e:i=n
   · subst e;rw [updM_self] at hB;exact ht B hB
   · rw [updM_ne e] at hB;exact h.1 i B hB
 · rw [updM_ne (by omega)];exact h.2 i hi
theorem smQ_do {M:Mdl} (h:SmQ M) (r:Req) (hr:r.qk ≤ 1000000):SmQ (doN M r).1:=by
 rcases doN_fx M r with ⟨e,_⟩ | ⟨n,h1,h2,_,_,_,_,e⟩ | ⟨n,h1,h2,_,_,_,e⟩ | ⟨n,h1,h2,_,_,_,e⟩ | ⟨n,B,B',_,_,h1,h2,hb,hq,_,_,e⟩
 · rw [e];exact h
 · rw [e];exact smQ_upd h h2 _ (fun B hB=>by injection hB with hB;rw [← hB];exact hr)
 · rw [e];exact smQ_upd h h2 _ (fun B hB=>by cases hB)
 · rw [e];exact smQ_upd h h2 _ (fun B hB=>h.1 n B hB)
 · rw [e];exact smQ_upd h h2 _ (fun C hC=>by injection hC with hC;rw [← hC,hq];exact h.1 n B hb)
theorem SmQ.small {M:Mdl} (h:SmQ M) {w:World} {p:Nat} {T:Ows} (hm:ModelAt w p M T):Small M:=fun t B hB=>by
 have h17:t < 17:=by
  rcases Nat.lt_or_ge t 17 with h1 | h1
  · exact h1
  · rw [h.2 t h1] at hB;cases hB
 have h3:=(hm.bk t B h17 hB).wf.nk
 have h5:=h.1 t B hB
 omega
theorem SmQ.like {M M':Mdl} (h:SmQ M) (hl:StLike M M'):SmQ M':=⟨fun t B hB=>h.1 t B (by rw [← (hl t).2.2.2];exact hB),fun t ht=>by rw [(hl t).2.2.2];exact h.2 t ht⟩
theorem smQ0:SmQ mdl0:=⟨fun t B hB=>by (cases hB),fun t _=>rfl⟩
theorem good_like {M M':Mdl} (h:StLike M M') (x:Hd):goodN M' x=goodN M x:=by
 unfold goodN
 rw [(h _).2.2.2,(h _).1]
theorem may_like {M M':Mdl} (h:StLike M M') (r:Req):mayM M' r=mayM M r:=by
 unfold mayM
 rw [good_like h]
theorem there_like {M M':Mdl} (h:StLike M M') (p:Nat) (r:Req):thereM p M' r=thereM p M r:=by
 unfold thereM
 rw [(h _).2.2.2]
theorem upd_like {M M':Mdl} (h:StLike M M') (n:Nat) {t t':Ten} (ht:t'.gen=t.gen∧t'.qk=t.qk∧t'.qb=t.qb∧t'.bk=t.bk):StLike (updM M n t) (updM M' n t'):=fun i=>by
 by_cases e:i=n
 · subst e;rw [updM_self,updM_self];exact ht
 · rw [updM_ne e,updM_ne e];exact h i
theorem do_like {M M':Mdl} (h:StLike M M') (r:Req) (hd:r.deed ≠ 6):(doN M' r).2=(doN M r).2∧StLike (doN M r).1 (doN M' r).1:=by
 unfold doN
 rw [if_neg hd,if_neg hd]
 split
 · unfold operateN
   rw [may_like h,(h _).2.2.2]
   split
   · exact ⟨rfl,h⟩
   · split
     · split
       · exact ⟨rfl,h⟩
       · rename_i B hB
         split
         · exact ⟨rfl,h⟩
         · split
           · exact ⟨rfl,upd_like h _ ⟨(h _).1,(h _).2.1,(h _).2.2.1,rfl⟩⟩
           · split
             · exact ⟨rfl,upd_like h _ ⟨(h _).1,(h _).2.1,(h _).2.2.1,rfl⟩⟩
             · split
               · exact ⟨rfl,upd_like h _ ⟨(h _).1,(h _).2.1,(h _).2.2.1,rfl⟩⟩
               · exact ⟨rfl,h⟩
     · exact ⟨rfl,h⟩
 · split
   · unfold createN
     rw [(h _).2.2.2,(h _).1]
     split
     · exact ⟨rfl,h⟩
     · split
       · exact ⟨rfl,h⟩
       · exact ⟨rfl,upd_like h _ ⟨rfl,rfl,rfl,rfl⟩⟩
   · split
     · unfold removeN
       rw [there_like h,(h _).1]
       split
       · exact ⟨rfl,upd_like h _ ⟨rfl,rfl,rfl,rfl⟩⟩
       · exact ⟨rfl,h⟩
     · split
       · unfold issueN
         rw [there_like h,(h _).1]
         split
         · exact ⟨rfl,h⟩
         · exact ⟨rfl,h⟩
       · split
         · unfold revokeN
           rw [there_like h]
           split
           · refine ⟨rfl,upd_like h _ ⟨?_,(h _).2.1,(h _).2.2.1,(h _).2.2.2⟩⟩
             dsimp only
             rw [(h _).1]
           · exact ⟨rfl,h⟩
         · exact ⟨rfl,h⟩
theorem do_st0 (M:Mdl) (r:Req) (hd:r.deed ≠ 6):(doN M r).2.st=st0:=by
 unfold doN
 rw [if_neg hd]
 split
 · unfold operateN
   split
   · rfl
   · split
     · split
       · rfl
       · split
         · rfl
         · split
           · rfl
           · split
             · rfl
             · split <;> rfl
     · rfl
 · split
   · unfold createN;split
     · rfl
     · split <;> rfl
   · split
     · unfold removeN;split <;> rfl
     · split
       · unfold issueN;split <;> rfl
       · split
         · unfold revokeN;split <;> rfl
         · rfl
theorem scan_len (l:List Kv) (k:ByteArray) (n:Int):(scanN l k n).1.length ≤ l.length:=by
 unfold scanN
 split
 · exact Nat.zero_le _
 · split
   · exact Nat.zero_le _
   · simp only [List.length_take,List.length_drop];omega
theorem prs_len {M:Mdl} (h:Small M) (r:Req):(doN M r).2.prs.length ≤ 1000000:=by
 have hz:∀ e,(errA e).prs.length ≤ 1000000:=fun e=>by simp [errA]
 unfold doN
 split
 · unfold operateN
   split
   · exact Nat.zero_le _
   · split
     · split
       · exact Nat.zero_le _
       · rename_i B hB
         split
         · exact Nat.zero_le _
         · split
           · exact Nat.zero_le _
           · split
             · exact Nat.zero_le _
             · split
               · exact Nat.zero_le _
               · exact Nat.le_trans (scan_len _ _ _) (h _ B hB)
     · exact Nat.zero_le _
 · split
   · unfold tellN
     split
     · split
       · exact Nat.zero_le _
       · exact Nat.zero_le _
     · exact Nat.zero_le _
   · split
     · unfold createN;split
       · exact Nat.zero_le _
       · split <;> exact Nat.zero_le _
     · split
       · unfold removeN;split <;> exact Nat.zero_le _
       · split
         · unfold issueN;split <;> exact Nat.zero_le _
         · split
           · unfold revokeN;split <;> exact Nat.zero_le _
           · exact Nat.zero_le _
end Go.Proofs.YtkgflepgkhnclaaGreatDoor
