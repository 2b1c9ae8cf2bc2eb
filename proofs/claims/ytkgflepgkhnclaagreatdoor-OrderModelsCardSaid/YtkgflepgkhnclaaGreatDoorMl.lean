/- Layer 27: order: Step; replay's first loop. Layer 27: an alloc and a store whose worlds are letters. Layer 27: OrderModels: the reference's model: may; errors. Layer 27: OrderModels: the reference's model: errors. Layer 27: OrderModels: the reference's model: what the deeds do. A held walk with an end (HeldL): an operation that needs nothing of what is held. Layer 27: OrderModels: the reference's model: Put, Delete, Swap. -/
import Derived.Test.YtkgflepgkhnclaaGreatDoorMk4
import Derived.Test.YtkgflepgkhnclaaGreatDoorMf
import Derived.Test.YtkgflepgkhnclaaGreatDoorMj
import Derived.Test.YtkgflepgkhnclaaGreatDoorMc
namespace Go.Proofs.YtkgflepgkhnclaaGreatDoor
set_option linter.unusedVariables false
set_option linter.unusedSimpArgs false
open Go.RowKit Go.Shelf
attribute [local go_sem] run_store_complex
variable {Xa Xb Xc Xd Xe Xf Xg Xh Xi Xj Xk Xl Xm Xn Xo Xp Xq Xr Xs Xt Xu Xv Xw Xx Xy Xz Ya Yb Yc Yd Ye Yf Yg Yh Yi Yj Yk Yl Ym Yn Yo Yp Yq Yr Ys Yt Yu Yv Yw Yx Yy Yz Za Zb Zc Zd Ze Zf Zg Zh Zi Zj Zk Zl Zm Zn Zo Zp Zq Zr Zs Zt Zu Zv Zw Zx Zy Zz Ja Jb Jc Jd Je Jf Jg Jh Ji Jj Jk Jl Jm Jn Jo Jp Jq Jr Js Jt Ju Jv Jw Jy Jz Va Vb Vc Vd Ve Vf Vg Vh Vi Vj Vk Vl Vm Vn Vo Vp Vq Vr Vs Vt Vu Vv Vw Vx Vy Vz Oa Ob Oc Od Oe Og Oh Oi Oj Ok Ol Om On Oo Oq Ot Ou Ov Ox Oy Oz Ha Hb Hc He Hf Hg Hh Hi Hj Hk Hl Hm Hn Ho Hp Hq Hr Hs Ht Hu Hv Hw Hx Hy Hz Ia Ib Ic Id Ie If Ig Ih Ii Ij Ik Il Im In Io Ip Iq Ir It Iu Iv Iw Ix Iy Iz Ua Ub Uc Ud Ue Uf Ug Uh Ui Uj Uk Ul:Value}
theorem StepEnd.up {b:Bool} {p:Nat} {M':Mdl} {w W:World} {e:Ending} {w':World} (h:StepEnd b p M' W e w') (hb:Below w.heap.size w W):StepEnd b p M' w e w':=by
 obtain ⟨h1,h2,h3⟩:=h
 refine ⟨h1,fun h=>below_trans hb (h2 h),fun h=>?_⟩
 obtain ⟨T',m,ho,hk⟩:=h3 h
 exact ⟨T',m,fun i hi=>(ho i hi).imp id (fun h=>Nat.le_trans hb.size h),(KeepC.of_below hb).trans hk (fun i _ h=>h)⟩
set_option maxHeartbeats 1600000 in
set_option maxRecDepth 100000 in
theorem Step_m {w:World} {p:Nat} {M M':Mdl} {T:Ows} (hm:ModelAt w p M T) (hsm:Small M) (r:Req) (hr:r.ok) (e1 e2:Int) (v1 v2:ByteArray) (l1 l2:List Kv) (h1 h2:Hd) (A1:Option Addr) (c1 W1:Nat) (hl1:l1.length ≤ 1000000) (hl2:l2.length ≤ 1000000) (hA:Reads w W1 2 A1 l1.length (l1.flatMap pairR)) (hW1:W1 ≤ w.heap.size)
 (hw:doN M r=(M',⟨e2,v2,l2,h2,st0⟩)) (he:e1 ≠ 13∧e1 ≠ 14) :
 Calls Tryz.prog 22 #[.pointer (some ⟨p,0,none⟩),r.v,.agg #[.int .i64 e1,.string v1,.slice A1 l1.length c1,.int .i64 h1.t,.int .u32 h1.g,.int .u8 h1.r,.int .u64 0,.int .u64 0,.int .u64 0,.int .u64 0,.int .u64 0,.int .u64 0,.int .u64 0,.int .u64 0,.int .u64 0,.int .u64 0,.complex .f64 0 0]] w (StepEnd (stepB r e1 e2 v1 v2 l1 l2 h1 h2) p M' w):=by
 have hb1:Below w.heap.size w ((w.alloc (.cells r.row.toArray 39)).alloc (.cells #[.int .i64 e1,.string v1,.slice A1 l1.length c1,.int .i64 h1.t,.int .u32 h1.g,.int .u8 h1.r,.int .u64 0,.int .u64 0,.int .u64 0,.int .u64 0,.int .u64 0,.int .u64 0,.int .u64 0,.int .u64 0,.int .u64 0,.int .u64 0,.complex .f64 0 0] 52)):=below_alloc (below_box _ _) _
 have hS:=(step_any (hm.below hb1) hsm r hr e1 e2 v1 v2 l1 l2 h1 h2 A1 c1 W1 hl1 hl2 (hA.keep fun q hq=>hb1.cell (by omega)) (Nat.le_trans hW1 hb1.size) hw he true)
 have HS:=Lib.hid hS
 have HB:=Lib.hid hb1
 unfold Req.v Req.row at HS
 unfold Req.row at HB
 unfold Req.v
 clear hS hb1 hm hA hw
 go_enter Tryz.func22,Tryz.ntmps22
 go_wp2_with fail
 refine HS.out.mono ?_
 intro e w1 h
 have HE:=Lib.hid (h.up HB.out)
 obtain ⟨rfl,-⟩:=h
 go_wp2_with fail
 go_ret
 exact HE.out
def mosN (ds:List Dn):List Mo:=ds.zipIdx.flatMap fun p=>[⟨p.1.a,p.2,false⟩,⟨p.1.t,p.2,true⟩]
theorem mosN_len (ds:List Dn):(mosN ds).length=2 * ds.length:=by
 unfold mosN
 rw [List.length_flatMap]
 have:∀ l:List (Dn × Nat),(l.map fun p=>([⟨p.1.a,p.2,false⟩,⟨p.1.t,p.2,true⟩]:List Mo).length).sum=2 * l.length:=by
  intro l
  induction l with
  | nil=>rfl
  | cons x r ih=>rw [List.map_cons,List.sum_cons,ih];simp;omega
 rw [this,List.length_zipIdx]
theorem mosN_snoc (ds:List Dn) (x:Dn):mosN (ds ++ [x])=mosN ds ++ [⟨x.a,ds.length,false⟩,⟨x.t,ds.length,true⟩]:=by
 unfold mosN
 rw [List.zipIdx_append,List.flatMap_append]
 simp
theorem infoMo:(Tryz.prog.info? 204).map (fun i=>(i.zero,i.size,i.bytes))=some (some (.agg #[.int .i64 0,.int .i64 0,.bool false]),3,24):=by kernel_rfl
set_option maxHeartbeats 3200000 in
set_option maxRecDepth 100000 in
theorem rp_first {w:World} {D:Option Addr} {ds:List Dn} {c2:Nat} {Q:Exit→Act→World→Prop} (hD:DsAt w D ds) (hl:ds.length ≤ 1000000)
 (hQ:∀ (s8 s9 s15 s16 s17 s18 s19 s20 s21 s22 s23 s24 s25 s26 s27 s28 s29 s30 s31 s32 s33:Value) (v:Value) (W':World),W'.ownsRow w.heap.size 204 3 v (2 * ds.length) ((mosN ds).flatMap Mo.row)→Below w.heap.size w W'→Q .normal ⟨#[Xa,.slice D ds.length c2,Xc,Xd,Xe,Xf,Xg,v,s8,s9,Xk,Xl,Xm,Xn,Xo,s15,s16,s17,s18,s19,s20,s21,s22,s23,s24,s25,s26,s27,s28,s29,s30,s31,s32,s33,Yi,Yj,Yk,Yl,Ym,Yn,Yo,Yp,Yq,Yr,Ys,Yt,Yu,Yv,Yw,Yx,Yy,Yz,Za,Zb,Zc,Zd,Ze,Zf,Zg,Zh,Zi,Zj,Zk,Zl,Zm,Zn,Zo,Zp,Zq,Zr,Zs,Zt,Zu,Zv,Zw,Zx,Zy,Zz,Ja,Jb,Jc],[]⟩ W') :
 Code.wp Tryz.prog (part Tryz.f76 [1,1,0]) Q ⟨#[Xa,.slice D ds.length c2,Xc,Xd,Xe,Xf,Xg,.slice none 0 0,Xi,Xj,Xk,Xl,Xm,Xn,Xo,Xp,Xq,Xr,Xs,Xt,Xu,Xv,Xw,Xx,Xy,Xz,Ya,Yb,Yc,Yd,Ye,Yf,Yg,Yh,Yi,Yj,Yk,Yl,Ym,Yn,Yo,Yp,Yq,Yr,Ys,Yt,Yu,Yv,Yw,Yx,Yy,Yz,Za,Zb,Zc,Zd,Ze,Zf,Zg,Zh,Zi,Zj,Zk,Zl,Zm,Zn,Zo,Zp,Zq,Zr,Zs,Zt,Zu,Zv,Zw,Zx,Zy,Zz,Ja,Jb,Jc],[]⟩ w:=by
 conv=>arg 2;whnf
 have HQ:=Lib.hid hQ
 have HD:=Lib.hid hD
 have hli:(ds.length:Int) ≤ 1000000:=by omega
 obtain ⟨i0,hi0,iz0,iz1,iz2⟩:=info_parts infoMo
 clear hQ hD
 go_wp2
 go_loopw [7,17] (fun v i wr=>∃ k:Nat,k ≤ ds.length∧i=.int .i64 k∧Hid (wr.ownsRow w.heap.size 204 3 v (2 * k) ((mosN (ds.take k)).flatMap Mo.row)∧Below w.heap.size w wr)) (fun _ i _=>ds.length - (intOf i).toNat)
 case atStart=>exact ⟨0,Nat.zero_le _,rfl,Lib.hid ⟨⟨by simp [mosN],.inl ⟨rfl,rfl⟩⟩,Below.refl _ _⟩⟩
 case round =>
  obtain ⟨k,hk,rfl,HW⟩:=hrel
  by_cases hlt:k < ds.length
  · obtain ⟨g,o,rfl,hgl,hrng⟩:=(HD.out.below HW.out.2).at_ hlt
    have htk:mosN (ds.take (k + 1))=_:=(congrArg mosN (List.take_succ_eq_append_getElem hlt)).trans (mosN_snoc (ds.take k) ds[k])
    rw [List.length_take,Nat.min_eq_left hk] at htk
    generalize ds[k]=x at hrng htk
    have HT:=Lib.hid htk
    have hrow1:x.row.toArray.all (·.oneCell')=true:=all_oneCell_toArray (dn_one x)
    have hst:=stored_new (w:=wr) (t:=90) (lit:=#[.int .i64 0,.int .i64 0,.int .i64 0,.int .i64 0,.int .i64 0,.string ⟨#[]⟩,.slice none 0 0,.int .i64 0,.int .u32 0,.int .u8 0,.int .u64 0,.int .u64 0,.int .u64 0,.int .u64 0,.int .u64 0,.int .u64 0,.int .u64 0,.int .u64 0,.int .u64 0,.int .u64 0,.complex .f64 0 0]) (cells:=x.row.toArray) rfl
    obtain ⟨l,hlr⟩:∃ l,x.row=l:=⟨_,rfl⟩
    have hll:l.length=21:=by rw [← hlr];rfl
    have hsz:l.toArray.size=21:=by rw [List.size_toArray];exact hll
    rw [hlr] at hrng hrow1 hst
    have HL:=Lib.hid hlr
    have i1:(0:Int) ≤ (k:Int):=by omega
    have i2:(k:Int) < (ds.length:Int):=by omega
    have hX0:=And.intro hst.1 (And.intro (ownsRow_below HW.out.1 hst.2 (Nat.le_refl _)) (And.intro (below_trans HW.out.2 hst.2) hst.2.size))
    rw [show l.toArray.toList=l from rfl] at hX0
    have HX1:=Lib.hid hX0
    clear htk hgl hst hlr hX0
    go_upto_region 5 with (first
        | (refine wpList_load_mid rfl 90 (.tmp 20) rfl g (o + k * 21) rfl _ _ hrng Tryz.underlying90 rfl (by rw [hll];exact infoDn) ?_)
        | (refine wpList_store_mid rfl 90 (.tmp 9) (.tmp 21) rfl wr.heap.size 0 l.toArray rfl rfl (by rw [hsz];exact there_blk (Blk.new wr 90 #[.int .i64 0,.int .i64 0,.int .i64 0,.int .i64 0,.int .i64 0,.string ⟨#[]⟩,.slice none 0 0,.int .i64 0,.int .u32 0,.int .u8 0,.int .u64 0,.int .u64 0,.int .u64 0,.int .u64 0,.int .u64 0,.int .u64 0,.int .u64 0,.int .u64 0,.int .u64 0,.int .u64 0,.complex .f64 0 0]) (Nat.le_refl 21)) (by rw [hsz];exact infoDn) hrow1 ?_))
    clear hrng
    generalize (wr.alloc (.cells #[.int .i64 0,.int .i64 0,.int .i64 0,.int .i64 0,.int .i64 0,.string ⟨#[]⟩,.slice none 0 0,.int .i64 0,.int .u32 0,.int .u8 0,.int .u64 0,.int .u64 0,.int .u64 0,.int .u64 0,.int .u64 0,.int .u64 0,.int .u64 0,.int .u64 0,.int .u64 0,.int .u64 0,.complex .f64 0 0] 90)).setCells wr.heap.size 0 l=W0 at HX1 ⊢
    have hb0:Blk W0 wr.heap.size 90 x.row.toArray:=by rw [HL.out];exact HX1.out.1
    have HX:=Lib.hid HX1.out.2
    clear HX1
    obtain ⟨c0,c1,c2',c3⟩:=dn_cells hb0
    clear hb0
    have hs0:=HX.out.2.2
    go_wp2_with (first
        | (at_builtin
           refine wpList_append_any _ rfl (.tmp 22) (.tmp 31) _ rfl w.heap.size 204 i0 _ 3 24 Tryz.underlying202 hi0 iz0 iz1 iz2 rfl (by omega) u7 (2 * k) ((mosN (ds.take k)).flatMap Mo.row) rfl
            (HX.out.1.alloc _) _ (some ⟨W0.heap.size,0,none⟩) 2 2 [.int .i64 x.a,.int .i64 (k:Nat),.bool false,.int .i64 x.t,.int .i64 (k:Nat),.bool true] rfl (reads_of_blk (Blk.new W0 _ _) rfl rfl) (by simp [Value.oneCell']) (by unfold maxLen;omega) (by omega) (by have:=HX.out.2.1.size;simp;omega) ?_
           intro v2 w2 hown2 hg2 hat2
           have hbel2:Below w.heap.size w w2:=below_app (below_alloc HX.out.2.1 _) (HX.out.1.alloc _) hg2 (Nat.le_refl _) (by have:=HX.out.2.1.size;simp;omega)))
    clear hg2 hat2
    go_roundw
    case rel =>
        refine ⟨k + 1,by omega,by go_num,Lib.hid ⟨?_,hbel2⟩⟩
        rw [HT.out,List.flatMap_append]
        exact hown2
    case measure=>simp [intOf];omega
  · obtain rfl:k=ds.length:=by omega
    rw [List.take_length] at HW
    go_wp2
    exact HQ.out _ _ _ _ _ _ _ _ _ _ _ _ _ _ _ _ _ _ _ _ _ _ _ HW.out.1 HW.out.2
end Go.Proofs.YtkgflepgkhnclaaGreatDoor
namespace Go.Proofs.YtkgflepgkhnclaaGreatDoor
set_option linter.unusedVariables false
set_option linter.unusedSimpArgs false
open Go.RowKit Go.Shelf
theorem wp_alloc_abs {P:Program} {op:Oper} {a:Act} {w:World} {K:Act→World→Prop} {Q:Exit→Act→World→Prop} (t:TypeId) (Z:Array Value) (hop:op.op=.alloc t) (hz:∀ w,(zeroValue t).run P w=.ok (.agg Z) w) 
 (h:∀ V,Below w.heap.size w V→Blk V w.heap.size t Z→K (a.put op.dst (.pointer (some ⟨w.heap.size,0,none⟩))) V):op.wp P a w K Q:=by
 unfold Oper.wp
 simp [execOp,hop,Instr.alloc,hz,Result.andThen,newVar,newRow,Value.cells]
 exact h _ (below_box _ _) (Blk.new _ _ _)
theorem wp_store_abs {P:Program} {op:Oper} {a:Act} {w:World} {K:Act→World→Prop} {Q:Exit→Act→World→Prop} (ty:TypeId) (x y:Operand) (ho:op.op=.store ty x y) (b:Nat) (cs cells:Array Value) (hx:a.eval x=.pointer (some ⟨b,0,none⟩)) (hy:a.eval y=.agg cells)
 (hb:Blk w b ty cs) (hs:cs.size=cells.size) (hi:(P.info? ty).map (·.size)=some cells.size) (h1:cells.all (·.oneCell')=true)
 (h:∀ V,Blk V b ty cells→(∀ i,i ≠ b→V.heap[i]?=w.heap[i]?)→(∀ B W,B ≤ b→Below B W w→Below B W V)→K (a.put op.dst undef) V):op.wp P a w K Q :=
 wp_store_mid ty x y ho b 0 cells hx hy (there_blk hb (by omega)) hi h1 (h _ (blk_setAll hb hs) (fun i hi=>(sets_same b _ 0 w).2.2.2.2 i hi) (fun B W hB hW=>below_sets b hB _ _ _ hW))
end Go.Proofs.YtkgflepgkhnclaaGreatDoor
namespace Go.Proofs.YtkgflepgkhnclaaGreatDoor
set_option linter.unusedVariables false
set_option linter.unusedSimpArgs false
open Go.RowKit Go.Shelf
attribute [local go_sem] run_store_complex
variable {Xa Xb Xc Xd Xe Xf Xg Xh Xi Xj Xk Xl Xm Xn Xo Xp Xq Xr Xs Xt Xu Xv Xw Xx Xy Xz Ya Yb Yc Yd Ye Yf Yg Yh Yi Yj Yk Yl Ym Yn Yo Yp Yq Yr Ys Yt Yu Yv Yw Yx Yy Yz Za Zb Zc Zd Ze Zf Zg Zh Zi Zj Zk Zl Zm Zn Zo Zp Zq Zr Zs Zt Zu Zv Zw Zx Zy Zz Ja Jb Jc Jd Je Jf Jg Jh Ji Jj Jk Jl Jm Jn Jo Jp Jq Jr Js Jt Ju Jv Jw Jy Jz Va Vb Vc Vd Ve Vf Vg Vh Vi Vj Vk Vl Vm Vn Vo Vp Vq Vr Vs Vt Vu Vv Vw Vx Vy Vz Oa Ob Oc Od Oe Og Oh Oi Oj Ok Ol Om On Oo Oq Ot Ou Ov Ox Oy Oz Ha Hb Hc He Hf Hg Hh Hi Hj Hk Hl Hm Hn Ho Hp Hq Hr Hs Ht Hu Hv Hw Hx Hy Hz Ia Ib Ic Id Ie If Ig Ih Ii Ij Ik Il Im In Io Ip Iq Ir It Iu Iv Iw Ix Iy Iz Ua Ub Uc Ud Ue Uf Ug Uh Ui Uj Uk Ul:Value}
theorem results_cell2 {P:Program} {w:World} {fn:Func} {tmps:Array Value} {i j:Nat} {t t2 tt tt2:TypeId} {g g2:Nat} {cs cs2:Array Value} {d d2:TypeDesc} (hres:fn.results=#[.cell i t,.cell j t2]) (ha:tmps.getD i undef=.pointer (some ⟨g,0,none⟩)) (hv:tmps.getD j undef=.pointer (some ⟨g2,0,none⟩)) (hb:Blk w g tt cs) (hb2:Blk w g2 tt2 cs2)
 (hu:P.underlying t=some d) (hd:d.isRow=true) (hi:(P.info? t).map (·.size)=some cs.size) (hu2:P.underlying t2=some d2) (hd2:d2.isRow=true) (hi2:(P.info? t2).map (·.size)=some cs2.size):(results fn tmps).run P w=.ok (.tuple #[.agg cs,.agg cs2]) w:=by
 have hl:=run_loadVar_mid (P:=P) w g 0 t cs.toList d (fun j v hv=>by rw [Nat.zero_add,hb.cell];simpa using hv) hu hd (by simpa using hi)
 have hl2:=run_loadVar_mid (P:=P) w g2 0 t2 cs2.toList d2 (fun j v hv=>by rw [Nat.zero_add,hb2.cell];simpa using hv) hu2 hd2 (by simpa using hi2)
 have hp:asAddr (.pointer (some ⟨g,0,none⟩))=pure ⟨g,0,none⟩:=rfl
 have hp2:asAddr (.pointer (some ⟨g2,0,none⟩))=pure ⟨g2,0,none⟩:=rfl
 simp only [Array.toArray_toList] at hl hl2
 rw [Array.getD_eq_getD_getElem?] at ha hv
 simp [results,hres,ha,hv,hp,hl,hp2,hl2,Result.andThen]
set_option maxHeartbeats 3200000 in
set_option maxRecDepth 100000 in
theorem mayR_any {w:World} {n:Nat} {M:Mdl} {R:RMd} (hm:RMAt w n M R) (r:Req) (hr:r.ok):Calls Tryz.prog 40 #[.agg (rcells R).toArray,r.v] w (IntB (mayM M r) w):=by
 have hb0:=below_alloc (below_box w (.cells (rcells R).toArray 66)) (.cells r.row.toArray 39)
 have qm:Blk ((w.alloc (.cells (rcells R).toArray 66)).alloc (.cells r.row.toArray 39)) w.heap.size 66 (rcells R).toArray:=(Blk.new w _ _).alloc _
 have qr:Blk ((w.alloc (.cells (rcells R).toArray 66)).alloc (.cells r.row.toArray 39)) (w.heap.size + 1) 39 r.row.toArray:=blk_at (by simp)
 have hrl:=rcells_len hm.ok
 have HM:=Lib.hid (fun W (hb:Below w.heap.size w W)=>goodR_any (hm.below hb) r.h hr.rig)
 have HA:=Lib.hid (fun W=>allowsR_any r.h r.deed W hr.rig)
 have hmm:mayM M r=if goodN M r.h=false then 11 else if allowsN r.h r.deed=false then 12 else 0:=rfl
 have HMM:=Lib.hid hmm
 have HQ:=Lib.hid (And.intro qm (And.intro qr hb0))
 have HRL:=Lib.hid hrl
 unfold Req.row at HQ
 unfold Req.h Hd.v at HM HA
 clear hb0 qm qr hm hr hmm hrl
 obtain ⟨gd,hgd⟩:∃ b,goodN M r.h=b:=⟨_,rfl⟩
 obtain ⟨al,hal⟩:∃ b,allowsN r.h r.deed=b:=⟨_,rfl⟩
 unfold Req.h at hgd hal
 rw [hgd] at HM
 rw [hal] at HA
 have HMN:Hid (mayM M r=if gd=false then 11 else if al=false then 12 else 0):=Lib.hid (by rw [HMM.out];unfold Req.h;rw [hgd,hal])
 clear hgd hal HMM
 dsimp only at HM HA
 go_enter Tryz.func40,Tryz.ntmps40
 refine wp_seq_k fun K0 hK=>?_
 have HK0:=Lib.hid hK
 clear hK
 go_wp2_with fail
 refine HK0.out _ _ ?_
 clear HK0
 try simp only [Act.put]
 try dsimp only at HQ
 generalize hwa:(w.alloc (.cells (rcells R).toArray 66)).alloc (.cells #[.int .i64 r.deed,.int .i64 r.ten,.int .u32 r.gen,.int .u8 r.rig,.string r.key,.string r.val,.string r.old,.int .i64 r.lim,.int .i64 r.tenant,.int .u64 r.qk,.int .u64 r.qb,.int .u8 r.rights] 39)=w1 at HQ ⊢
 clear hwa
 obtain ⟨gm,hgm⟩:∃ g,w.heap.size=g:=⟨_,rfl⟩
 have HGM:=Lib.hid hgm
 obtain ⟨q1,q2,q3⟩:=HQ.out
 rw [hgm] at q1 q2 ⊢
 have HQ1:=Lib.hid (And.intro q1 (And.intro q2 q3))
 have c0:=q2.cell 0
 have c1:=q2.cell 1
 have c2:=q2.cell 2
 have c3:=q2.cell 3
 simp at c0 c1 c2 c3
 have HG:=Lib.hid (HM.out _ q3)
 clear q1 q2 q3 HQ hgm
 refine wp_seq_k fun K0 hK=>?_
 have HK0:=Lib.hid hK
 clear hK
 go_wp2_with (refine wpList_load_mid rfl 66 (.tmp 2) rfl gm 0 rfl _ _ (range_blk HQ1.out.1) Tryz.underlying66 rfl (by rw [HRL.out];exact infoRM) ?_)
 refine HG.out.mono ?_
 rintro e w2 ⟨rfl,hb2⟩
 have HB2:=Lib.hid (below_trans HQ1.out.2.2 hb2)
 have q2:=HQ1.out.2.1.below hb2 HQ1.out.2.1.lt
 clear hb2 c0 c1 c2 c3
 cases gd with
 | false =>
   clear q2
   go_wp2_with fail
   go_ret
   exact ⟨by rw [HMN.out];rfl,HB2.out⟩
 | true =>
   have c0:=q2.cell 0
   have c1:=q2.cell 1
   have c2:=q2.cell 2
   have c3:=q2.cell 3
   simp at c0 c1 c2 c3
   clear q2
   go_wp2_with fail
   refine HK0.out _ _ ?_
   clear HK0
   go_wp2_with fail
   refine (HA.out _).mono ?_
   rintro e w3 ⟨rfl,hb3⟩
   have HB3:=Lib.hid (below_trans HB2.out hb3)
   clear hb3
   cases al with
   | false =>
     go_wp2_with fail
     go_ret
     exact ⟨by rw [HMN.out];rfl,HB3.out⟩
   | true =>
     go_wp2_with fail
     go_ret
     exact ⟨by rw [HMN.out];rfl,HB3.out⟩
theorem err_one (e:Int):(((errA e).cells none 0).toArray).all (·.oneCell')=true:=by simp [errA,Ans.cells,st0,Value.oneCell']
theorem below_of {B:Nat} {w W V:World} (hB:B ≤ W.heap.size) (hb:Below B w W) (h:Below W.heap.size W V):Below B w V :=
 ⟨h.os.trans hb.os,h.tape.trans hb.tape,h.output.trans hb.output,Nat.le_trans hb.size h.size,fun i hi=>(h.block i (by omega)).trans (hb.block i hi)⟩
set_option maxHeartbeats 3200000 in
set_option maxRecDepth 100000 in
theorem op_bad {W:World} {R:RMd} {gm g4 g5:Nat} {z4 z5:Array Value} {Q:Exit→Act→World→Prop} (hs:∀ t,StOk (R t).st) (qm:Blk W gm 66 (rcells R).toArray) (q4:Blk W g4 66 z4) (q5:Blk W g5 52 z5) (hz4:z4.size=272) (hz5:z5.size=17) (hne:gm ≠ g4)
 (hQ:∀ (s12 s13:Value) (W':World),Blk W' g4 66 (rcells R).toArray→Blk W' g5 52 ((errA (2)).cells none 0).toArray→(∀ B w,B ≤ g4→B ≤ g5→Below B w W→Below B w W')→Q .normal ⟨#[Xa,Xb,.pointer (some ⟨gm,0,none⟩),Xd,.pointer (some ⟨g4,0,none⟩),.pointer (some ⟨g5,0,none⟩),Xg,Xh,Xi,Xj,Xk,Xl,s12,s13,Xo,Xp,Xq,Xr,Xs,Xt,Xu,Xv,Xw,Xx,Xy,Xz,Ya,Yb,Yc,Yd,Ye,Yf,Yg,Yh,Yi,Yj,Yk,Yl,Ym,Yn,Yo,Yp,Yq,Yr,Ys,Yt,Yu,Yv,Yw,Yx,Yy,Yz,Za,Zb,Zc,Zd,Ze,Zf,Zg,Zh,Zi,Zj,Zk,Zl,Zm,Zn,Zo,Zp,Zq,Zr,Zs,Zt,Zu,Zv,Zw,Zx,Zy,Zz,Ja,Jb,Jc,Jd,Je,Jf,Jg,Jh,Ji,Jj,Jk,Jl,Jm,Jn,Jo,Jp,Jq,Jr,Js,Jt,Ju,Jv,Jw,Jy,Jz,Va,Vb,Vc,Vd,Ve,Vf,Vg,Vh,Vi,Vj],[]⟩ W') :
 Code.wp Tryz.prog (part Tryz.f39 [1,0,1,3,0]) Q ⟨#[Xa,Xb,.pointer (some ⟨gm,0,none⟩),Xd,.pointer (some ⟨g4,0,none⟩),.pointer (some ⟨g5,0,none⟩),Xg,Xh,Xi,Xj,Xk,Xl,Xm,Xn,Xo,Xp,Xq,Xr,Xs,Xt,Xu,Xv,Xw,Xx,Xy,Xz,Ya,Yb,Yc,Yd,Ye,Yf,Yg,Yh,Yi,Yj,Yk,Yl,Ym,Yn,Yo,Yp,Yq,Yr,Ys,Yt,Yu,Yv,Yw,Yx,Yy,Yz,Za,Zb,Zc,Zd,Ze,Zf,Zg,Zh,Zi,Zj,Zk,Zl,Zm,Zn,Zo,Zp,Zq,Zr,Zs,Zt,Zu,Zv,Zw,Zx,Zy,Zz,Ja,Jb,Jc,Jd,Je,Jf,Jg,Jh,Ji,Jj,Jk,Jl,Jm,Jn,Jo,Jp,Jq,Jr,Js,Jt,Ju,Jv,Jw,Jy,Jz,Va,Vb,Vc,Vd,Ve,Vf,Vg,Vh,Vi,Vj],[]⟩ W:=by
 conv=>arg 2;whnf
 have HQ:=Lib.hid hQ
 have HRL:=Lib.hid (rcells_len hs)
 have HRO:=Lib.hid (rcells_one hs)
 have HX:=Lib.hid (And.intro qm (And.intro q4 (And.intro q5 hne)))
 have HZ:=Lib.hid (And.intro hz4 hz5)
 have h0:W.drew.rangeAt gm 0 (rcells R):=range_blk (qm.below (show Below W.heap.size W W.drew from (Below.refl _ _).drew) qm.lt)
 clear hQ hs qm q4 q5 hz4 hz5 hne
 refine wp_region_noPanic ?_
 refine wp_region_held_drew (S:=(fun V:World=>V.rangeAt gm 0 (rcells R))) (by kernel_rfl) ?_ (fun hHeld0=>?_)
 · exact h0
 refine tk (i:=0) rfl (yieldsIf_load_mid rfl 66 (.tmp 2) rfl gm 0 rfl (rcells R) _ (fun w hw=>hw) Tryz.underlying66 rfl (by rw [HRL.out];exact infoRM)) hHeld0 ?_
 try simp only [Act.put,zA,zB,zC,zD,zE,zF]
 refine wpAnyH_ready (rs:=[1]) (by kernel_rfl) (by simp) ?_
 refine AllReadyH.cons rfl (fun K hK=>?_) AllReadyH.nil
 go_simp
 with_reducible refine (failed_any _ _).mono ?_
 rintro en w1 ⟨rfl,hb1⟩
 have hb1':Below W.heap.size W w1:=⟨hb1.os,hb1.tape,hb1.output,hb1.size,hb1.block⟩
 have qm1:=HX.out.1.below hb1' HX.out.1.lt
 have q41:=HX.out.2.1.below hb1' HX.out.2.1.lt
 have q51:=HX.out.2.2.1.below hb1' HX.out.2.2.1.lt
 refine hK.out _ _ ?_ (fun hHeld1=>?_)
 · exact range_blk qm1
 clear hK K hHeld0
 try simp only [Act.put,zA,zB,zC,zD,zE,zF]
 refine wpAnyH_ready (rs:=[2]) (by kernel_rfl) (by simp) ?_
 refine AllReadyH.cons rfl (fun K hK=>?_) AllReadyH.nil
 refine wp_store_abs 66 (.tmp 4) (.tmp 12) rfl g4 z4 (rcells R).toArray rfl rfl q41 (by rw [HZ.out.1,List.size_toArray,HRL.out]) (by rw [List.size_toArray,HRL.out];exact infoRM) HRO.out ?_
 intro V2 hv4 hs4 hl4
 have qm2:=(hs4 gm HX.out.2.2.2).trans qm1
 have q52:=(hs4 g5 (blk_ne q51 q41 (by decide))).trans q51
 refine hK.out _ _ ?_ (fun hHeld2=>?_)
 · exact range_blk qm2
 clear hK K hHeld1
 try simp only [Act.put,zA,zB,zC,zD,zE,zF]
 refine wpAnyH_ready (rs:=[3]) (by kernel_rfl) (by simp) ?_
 refine AllReadyH.cons rfl (fun K hK=>?_) AllReadyH.nil
 refine wp_store_abs 52 (.tmp 5) (.tmp 13) rfl g5 z5 ((errA (2)).cells none 0).toArray rfl rfl q52 (by rw [HZ.out.2];rfl) infoAns (err_one _) ?_
 intro V3 hv5 hs5 hl5
 have hv43:=(hs5 g4 (blk_ne hv4 q52 (by decide))).trans hv4
 have qm3:=(hs5 gm (blk_ne qm2 q52 (by decide))).trans qm2
 refine hK.out _ _ ?_ (fun hHeld3=>?_)
 · exact range_blk qm3
 clear hK K hHeld2
 try simp only [Act.put,zA,zB,zC,zD,zE,zF]
 refine wpAnyH_done (by kernel_rfl) ?_ _
 exact NoPanic.normal (HQ.out _ _ V3 hv43 hv5 (fun B w h4 h5 hb=>hl5 B w h5 (hl4 B w h4 (below_of (by have:=HX.out.2.1.lt;omega) hb hb1'))))
set_option maxHeartbeats 3200000 in
set_option maxRecDepth 100000 in
theorem op_err {W:World} {R:RMd} {gm g4 g5:Nat} {z4 z5:Array Value} {e:Int} {Q:Exit→Act→World→Prop} (hs:∀ t,StOk (R t).st) (qm:Blk W gm 66 (rcells R).toArray) (q4:Blk W g4 66 z4) (q5:Blk W g5 52 z5) (hz4:z4.size=272) (hz5:z5.size=17) (hne:gm ≠ g4)
 (hQ:∀ (s19 s20 s21:Value) (W':World),Blk W' g4 66 (rcells R).toArray→Blk W' g5 52 ((errA e).cells none 0).toArray→(∀ B w,B ≤ g4→B ≤ g5→Below B w W→Below B w W')→Q .normal ⟨#[Xa,Xb,.pointer (some ⟨gm,0,none⟩),Xd,.pointer (some ⟨g4,0,none⟩),.pointer (some ⟨g5,0,none⟩),.int .i64 e,Xh,Xi,Xj,Xk,Xl,Xm,Xn,Xo,Xp,Xq,Xr,Xs,s19,s20,s21,Xw,Xx,Xy,Xz,Ya,Yb,Yc,Yd,Ye,Yf,Yg,Yh,Yi,Yj,Yk,Yl,Ym,Yn,Yo,Yp,Yq,Yr,Ys,Yt,Yu,Yv,Yw,Yx,Yy,Yz,Za,Zb,Zc,Zd,Ze,Zf,Zg,Zh,Zi,Zj,Zk,Zl,Zm,Zn,Zo,Zp,Zq,Zr,Zs,Zt,Zu,Zv,Zw,Zx,Zy,Zz,Ja,Jb,Jc,Jd,Je,Jf,Jg,Jh,Ji,Jj,Jk,Jl,Jm,Jn,Jo,Jp,Jq,Jr,Js,Jt,Ju,Jv,Jw,Jy,Jz,Va,Vb,Vc,Vd,Ve,Vf,Vg,Vh,Vi,Vj],[]⟩ W') :
 Code.wp Tryz.prog (part Tryz.f39 [1,1,0,1,1,3,0]) Q ⟨#[Xa,Xb,.pointer (some ⟨gm,0,none⟩),Xd,.pointer (some ⟨g4,0,none⟩),.pointer (some ⟨g5,0,none⟩),.int .i64 e,Xh,Xi,Xj,Xk,Xl,Xm,Xn,Xo,Xp,Xq,Xr,Xs,Xt,Xu,Xv,Xw,Xx,Xy,Xz,Ya,Yb,Yc,Yd,Ye,Yf,Yg,Yh,Yi,Yj,Yk,Yl,Ym,Yn,Yo,Yp,Yq,Yr,Ys,Yt,Yu,Yv,Yw,Yx,Yy,Yz,Za,Zb,Zc,Zd,Ze,Zf,Zg,Zh,Zi,Zj,Zk,Zl,Zm,Zn,Zo,Zp,Zq,Zr,Zs,Zt,Zu,Zv,Zw,Zx,Zy,Zz,Ja,Jb,Jc,Jd,Je,Jf,Jg,Jh,Ji,Jj,Jk,Jl,Jm,Jn,Jo,Jp,Jq,Jr,Js,Jt,Ju,Jv,Jw,Jy,Jz,Va,Vb,Vc,Vd,Ve,Vf,Vg,Vh,Vi,Vj],[]⟩ W:=by
 conv=>arg 2;whnf
 have HQ:=Lib.hid hQ
 have HRL:=Lib.hid (rcells_len hs)
 have HRO:=Lib.hid (rcells_one hs)
 have HX:=Lib.hid (And.intro qm (And.intro q4 (And.intro q5 hne)))
 have HZ:=Lib.hid (And.intro hz4 hz5)
 have h0:W.drew.rangeAt gm 0 (rcells R):=range_blk (qm.below (show Below W.heap.size W W.drew from (Below.refl _ _).drew) qm.lt)
 clear hQ hs qm q4 q5 hz4 hz5 hne
 refine wp_region_noPanic ?_
 refine wp_region_held_drew (S:=(fun V:World=>V.rangeAt gm 0 (rcells R))) (by kernel_rfl) ?_ (fun hHeld0=>?_)
 · exact h0
 refine tk (i:=0) rfl (yieldsIf_load_mid rfl 66 (.tmp 2) rfl gm 0 rfl (rcells R) _ (fun w hw=>hw) Tryz.underlying66 rfl (by rw [HRL.out];exact infoRM)) hHeld0 ?_
 try simp only [Act.put,zD,zE,zF]
 refine tk (i:=1) (v:=?_) rfl (Or.inl ⟨by rfl,?_⟩) hHeld0 ?_
 rotate_left
 · (intro w hSw;(try dsimp only at hSw);go_simp <;> with_reducible rfl)
 try simp only [Act.put,zA,zB,zC,zD,zE,zF]
 refine wpAnyH_ready (rs:=[2]) (by kernel_rfl) (by simp) ?_
 refine AllReadyH.cons rfl (fun K hK=>?_) AllReadyH.nil
 go_simp
 with_reducible refine (failed_any _ _).mono ?_
 rintro en w1 ⟨rfl,hb1⟩
 have hb1':Below W.heap.size W w1:=⟨hb1.os,hb1.tape,hb1.output,hb1.size,hb1.block⟩
 have qm1:=HX.out.1.below hb1' HX.out.1.lt
 have q41:=HX.out.2.1.below hb1' HX.out.2.1.lt
 have q51:=HX.out.2.2.1.below hb1' HX.out.2.2.1.lt
 refine hK.out _ _ ?_ (fun hHeld1=>?_)
 · exact range_blk qm1
 clear hK K hHeld0
 try simp only [Act.put,zA,zB,zC,zD,zE,zF]
 refine wpAnyH_ready (rs:=[3]) (by kernel_rfl) (by simp) ?_
 refine AllReadyH.cons rfl (fun K hK=>?_) AllReadyH.nil
 refine wp_store_abs 66 (.tmp 4) (.tmp 19) rfl g4 z4 (rcells R).toArray rfl rfl q41 (by rw [HZ.out.1,List.size_toArray,HRL.out]) (by rw [List.size_toArray,HRL.out];exact infoRM) HRO.out ?_
 intro V2 hv4 hs4 hl4
 have qm2:=(hs4 gm HX.out.2.2.2).trans qm1
 have q52:=(hs4 g5 (blk_ne q51 q41 (by decide))).trans q51
 refine hK.out _ _ ?_ (fun hHeld2=>?_)
 · exact range_blk qm2
 clear hK K hHeld1
 try simp only [Act.put,zA,zB,zC,zD,zE,zF]
 refine wpAnyH_ready (rs:=[4]) (by kernel_rfl) (by simp) ?_
 refine AllReadyH.cons rfl (fun K hK=>?_) AllReadyH.nil
 refine wp_store_abs 52 (.tmp 5) (.tmp 21) rfl g5 z5 ((errA e).cells none 0).toArray rfl rfl q52 (by rw [HZ.out.2];rfl) infoAns (err_one _) ?_
 intro V3 hv5 hs5 hl5
 have hv43:=(hs5 g4 (blk_ne hv4 q52 (by decide))).trans hv4
 have qm3:=(hs5 gm (blk_ne qm2 q52 (by decide))).trans qm2
 refine hK.out _ _ ?_ (fun hHeld3=>?_)
 · exact range_blk qm3
 clear hK K hHeld2
 try simp only [Act.put,zA,zB,zC,zD,zE,zF]
 refine wpAnyH_done (by kernel_rfl) ?_ _
 exact NoPanic.normal (HQ.out _ _ _ V3 hv43 hv5 (fun B w h4 h5 hb=>hl5 B w h5 (hl4 B w h4 (below_of (by have:=HX.out.2.1.lt;omega) hb hb1'))))
theorem rcells_of {W:World} {g:Nat} {cs:Array Value} {R:RMd} (h:Blk W g 66 cs) (hs:cs.size=272) (hok:∀ t,StOk (R t).st) (hc:∀ t j v,t < 17→((R t).cells)[j]?=some v→cs[t * 16 + j]?=some v):Blk W g 66 (rcells R).toArray:=by
 have e:cs=(rcells R).toArray:=by
  apply Array.ext
  · rw [hs,List.size_toArray,rcells_len hok]
  · intro k h1 h2
    have hk:k < 272:=by omega
    have hq:k / 16 < 17:=by omega
    have hr:k % 16 < 16:=Nat.mod_lt _ (by omega)
    have hkk:k / 16 * 16 + k % 16=k:=by omega
    have hlen:=RTen.len (hok (k / 16))
    have hv:((R (k / 16)).cells)[k % 16]?=some ((R (k / 16)).cells[k % 16]'(by omega)):=List.getElem?_eq_getElem (by omega)
    have h3:=hc (k / 16) (k % 16) _ hq hv
    have h4:=rcell hok hq hr
    rw [hkk] at h3 h4
    rw [hv] at h4
    have h5:cs[k]?=(rcells R).toArray[k]?:=by rw [h3,List.getElem?_toArray,h4]
    rw [Array.getElem?_eq_getElem h1,Array.getElem?_eq_getElem h2] at h5
    injection h5
 rw [← e]
 exact h
def updR (R:RMd) (t:Nat) (b:RTen):RMd:=fun i=>if i=t then b else R i
theorem updR_self {R:RMd} {t:Nat} {b:RTen}:updR R t b t=b:=if_pos rfl
theorem updR_ne {R:RMd} {t i:Nat} {b:RTen} (h:i ≠ t):updR R t b i=R i:=if_neg h
theorem book_set {W:World} {g t:Nat} {R:RMd} {b:RBk} (h:Blk W g 66 (rcells R).toArray) (hs:∀ t,StOk (R t).st) (ht:t < 17) :
 Blk (((W.setCell ⟨g,t * 16 + 2,none⟩ (.slice b.A b.l.length b.c)).setCell ⟨g,t * 16 + 3,none⟩ (.int .u64 b.qk)).setCell ⟨g,t * 16 + 4,none⟩ (.int .u64 b.qb)) g 66 (rcells (updR R t { R t with bk:=b })).toArray:=by
 have h1:=((h.set_ (t * 16 + 2) (.slice b.A b.l.length b.c)).set_ (t * 16 + 3) (.int .u64 b.qk)).set_ (t * 16 + 4) (.int .u64 b.qb)
 have hl:(rcells R).toArray.size=272:=by rw [List.size_toArray,rcells_len hs]
 have hs2:∀ i,StOk (updR R t { R t with bk:=b } i).st:=fun i=>by
  by_cases e:i=t
  · subst e;rw [updR_self];exact hs i
  · rw [updR_ne e];exact hs i
 refine rcells_of h1 (by simp [hl,rcells_len hs]) hs2 (fun i j v hi hv=>?_)
 have hj:j < 16:=by
  have:=(List.getElem?_eq_some_iff.1 hv).1
  rwa [RTen.len (hs2 i)] at this
 by_cases e:i=t
 · subst e
   rw [updR_self] at hv
   have hold:∀ j,j < 16→(rcells R).toArray[i * 16 + j]?=((R i).cells)[j]?:=fun j hj=>by rw [List.getElem?_toArray,rcell hs hi hj]
   unfold RTen.cells at hv
   match j,hj with
   | 0,_ =>
     rw [Array.getElem?_setIfInBounds_ne (by omega),Array.getElem?_setIfInBounds_ne (by omega),Array.getElem?_setIfInBounds_ne (by omega),hold 0 (by omega)]
     exact hv
   | 1,_ =>
     rw [Array.getElem?_setIfInBounds_ne (by omega),Array.getElem?_setIfInBounds_ne (by omega),Array.getElem?_setIfInBounds_ne (by omega),hold 1 (by omega)]
     exact hv
   | 2,_ =>
     rw [Array.getElem?_setIfInBounds_ne (by omega),Array.getElem?_setIfInBounds_ne (by omega),Array.getElem?_setIfInBounds_self_of_lt (by rw [hl];omega)]
     exact hv
   | 3,_ =>
     rw [Array.getElem?_setIfInBounds_ne (by omega),Array.getElem?_setIfInBounds_self_of_lt (by simp [rcells_len hs];omega)]
     exact hv
   | 4,_ =>
     rw [Array.getElem?_setIfInBounds_self_of_lt (by simp [rcells_len hs];omega)]
     exact hv
   | j + 5,hj =>
     rw [Array.getElem?_setIfInBounds_ne (by omega),Array.getElem?_setIfInBounds_ne (by omega),Array.getElem?_setIfInBounds_ne (by omega),hold (j + 5) hj]
     exact hv
 · rw [updR_ne e] at hv
   rw [Array.getElem?_setIfInBounds_ne (by omega),Array.getElem?_setIfInBounds_ne (by omega),Array.getElem?_setIfInBounds_ne (by omega),List.getElem?_toArray,rcell hs hi hj]
   exact hv
set_option maxHeartbeats 6400000 in
set_option maxRecDepth 100000 in
theorem op_get {W:World} {R:RMd} {b:RBk} {r:Req} {t gm gr g8:Nat} {Q:Exit→Act→World→Prop} (hs:∀ t,StOk (R t).st) (ht:t < 17) (hbk:(R t).bk=b) (qm:Blk W gm 66 (rcells R).toArray) (qr:Blk W gr 39 r.row.toArray) (q8:Blk W g8 52 zeroA) (hb:b.at_ W) (hl:LOk b.l) (hr:r.ok) {v:ByteArray} {er:Int} (hve:thereN b.l r.key []=(v,er))
 (hQ:∀ (s29 s30 s31 s32 s33 s34 s35 s36 s37 s38 s39 s40:Value) (W':World),Blk W' gm 66 (rcells R).toArray→Blk W' g8 52 ((zeroA.setIfInBounds 1 (.string v)).setIfInBounds 0 (.int .i64 er))→(∀ B w,B ≤ g8→Below B w W→Below B w W')→Q .normal ⟨#[Xa,Xb,.pointer (some ⟨gm,0,none⟩),.pointer (some ⟨gr,0,none⟩),Xe,Xf,Xg,.int .i64 (t:Nat),.pointer (some ⟨g8,0,none⟩),Xj,Xk,Xl,Xm,Xn,Xo,Xp,Xq,Xr,Xs,Xt,Xu,Xv,Xw,Xx,Xy,Xz,Ya,Yb,Yc,s29,s30,s31,s32,s33,s34,s35,s36,s37,s38,s39,s40,Yp,Yq,Yr,Ys,Yt,Yu,Yv,Yw,Yx,Yy,Yz,Za,Zb,Zc,Zd,Ze,Zf,Zg,Zh,Zi,Zj,Zk,Zl,Zm,Zn,Zo,Zp,Zq,Zr,Zs,Zt,Zu,Zv,Zw,Zx,Zy,Zz,Ja,Jb,Jc,Jd,Je,Jf,Jg,Jh,Ji,Jj,Jk,Jl,Jm,Jn,Jo,Jp,Jq,Jr,Js,Jt,Ju,Jv,Jw,Jy,Jz,Va,Vb,Vc,Vd,Ve,Vf,Vg,Vh,Vi,Vj],[]⟩ W') :
 Code.wp Tryz.prog (part Tryz.f39 [1,1,1,1,1,0,1,2,1,3]) Q ⟨#[Xa,Xb,.pointer (some ⟨gm,0,none⟩),.pointer (some ⟨gr,0,none⟩),Xe,Xf,Xg,.int .i64 (t:Nat),.pointer (some ⟨g8,0,none⟩),Xj,Xk,Xl,Xm,Xn,Xo,Xp,Xq,Xr,Xs,Xt,Xu,Xv,Xw,Xx,Xy,Xz,Ya,Yb,Yc,Yd,Ye,Yf,Yg,Yh,Yi,Yj,Yk,Yl,Ym,Yn,Yo,Yp,Yq,Yr,Ys,Yt,Yu,Yv,Yw,Yx,Yy,Yz,Za,Zb,Zc,Zd,Ze,Zf,Zg,Zh,Zi,Zj,Zk,Zl,Zm,Zn,Zo,Zp,Zq,Zr,Zs,Zt,Zu,Zv,Zw,Zx,Zy,Zz,Ja,Jb,Jc,Jd,Je,Jf,Jg,Jh,Ji,Jj,Jk,Jl,Jm,Jn,Jo,Jp,Jq,Jr,Js,Jt,Ju,Jv,Jw,Jy,Jz,Va,Vb,Vc,Vd,Ve,Vf,Vg,Vh,Vi,Vj],[]⟩ W:=by
 conv=>arg 2;whnf
 have HQ:=Lib.hid hQ
 have HS:=Lib.hid hs
 have HX:=Lib.hid (And.intro qm (And.intro qr (And.intro q8 (And.intro hb (And.intro hl hr)))))
 have HC:Hid (∀ V:World,Blk V gm 66 (rcells R).toArray→Blk V gr 39 r.row.toArray→V.cell? ⟨gm,t * 16 + 2,none⟩=some (.slice b.A b.l.length b.c)∧V.cell? ⟨gm,t * 16 + 3,none⟩=some (.int .u64 b.qk)∧V.cell? ⟨gm,t * 16 + 4,none⟩=some (.int .u64 b.qb)∧V.cell? ⟨gr,4,none⟩=some (.string r.key)):=Lib.hid (fun V hm hq=>by
  subst hbk
  exact ⟨rblk (j:=2) hm hs ht rfl,rblk (j:=3) hm hs ht rfl,rblk (j:=4) hm hs ht rfl,hq.cell 4⟩)
 have hd:Below W.heap.size W W.drew:=(Below.refl _ _).drew
 have h0:=HC.out W.drew (qm.below hd qm.lt) (qr.below hd qr.lt)
 have HBD:=Lib.hid (hb.below hd)
 have i0:(0:Int) ≤ (t:Int):=by omega
 have i1:(t:Int) < 17:=by omega
 clear hQ hs qm qr q8 hb hd
 refine wp_region_noPanic ?_
 refine wp_region_held_drew (S:=(fun V:World=>V.cell? ⟨gm,t * 16 + 2,none⟩=some (.slice b.A b.l.length b.c)∧V.cell? ⟨gm,t * 16 + 3,none⟩=some (.int .u64 b.qk)∧V.cell? ⟨gm,t * 16 + 4,none⟩=some (.int .u64 b.qb)∧V.cell? ⟨gr,4,none⟩=some (.string r.key))) (by kernel_rfl) ?_ (fun hHeld0=>?_)
 · exact h0
 refine tk (i:=0) (v:=?_) rfl (Or.inl ⟨by rfl,?_⟩) hHeld0 ?_
 rotate_left
 · (intro w hSw;(try dsimp only at hSw);go_simp <;> with_reducible rfl)
 try simp only [Act.put,zD,zE,zF]
 refine tk (i:=1) (v:=?_) rfl (Or.inl ⟨by rfl,?_⟩) hHeld0 ?_
 rotate_left
 · (intro w hSw;(try dsimp only at hSw);go_simp <;> with_reducible rfl)
 try simp only [Act.put,zD,zE,zF]
 refine tk (i:=2) (v:=?_) rfl (Or.inl ⟨by rfl,?_⟩) hHeld0 ?_
 rotate_left
 · (intro w hSw;(try dsimp only at hSw);go_simp <;> with_reducible rfl)
 try simp only [Act.put,zD,zE,zF]
 refine tk (i:=3) (v:=?_) rfl (Or.inl ⟨by rfl,?_⟩) hHeld0 ?_
 rotate_left
 · (intro w hSw;(try dsimp only at hSw);go_simp <;> with_reducible rfl)
 try simp only [Act.put,zD,zE,zF]
 refine tk (i:=4) (v:=?_) rfl (Or.inl ⟨by rfl,?_⟩) hHeld0 ?_
 rotate_left
 · (intro w hSw;(try dsimp only at hSw);go_simp <;> with_reducible rfl)
 try simp only [Act.put,zD,zE,zF]
 refine tk (i:=5) (v:=?_) rfl (Or.inl ⟨by rfl,?_⟩) hHeld0 ?_
 rotate_left
 · (intro w hSw;(try dsimp only at hSw);go_simp <;> with_reducible rfl)
 try simp only [Act.put,zA,zB,zC,zD,zE,zF]
 refine wpAnyH_ready (rs:=[6]) (by kernel_rfl) (by simp) ?_
 refine AllReadyH.cons rfl (fun K hK=>?_) AllReadyH.nil
 go_simp
 with_reducible refine (get_any b r.key _ HBD.out HX.out.2.2.2.2.1 HX.out.2.2.2.2.2.key).mono ?_
 rintro e w1 ⟨rfl,hb1⟩
 rw [hve]
 have hb1':Below W.heap.size W w1:=⟨hb1.os,hb1.tape,hb1.output,hb1.size,hb1.block⟩
 have qm1:=HX.out.1.below hb1' HX.out.1.lt
 have qr1:=HX.out.2.1.below hb1' HX.out.2.1.lt
 have q81:=HX.out.2.2.1.below hb1' HX.out.2.2.1.lt
 have c80:w1.cell? ⟨g8,0,none⟩=some (.int .i64 0):=q81.cell 0
 have c81:w1.cell? ⟨g8,1,none⟩=some (.string ⟨#[]⟩):=q81.cell 1
 have c82:w1.cell? ⟨g8,2,none⟩=some (.slice none 0 0):=q81.cell 2
 have f80:=q81.frozen 0
 have f81:=q81.frozen 1
 have f82:=q81.frozen 2
 refine hK.out _ _ ?_ (fun hHeld1=>?_)
 · exact HC.out w1 qm1 qr1
 clear hK K hHeld0
 try simp only [Act.put,zA,zB,zC,zD,zE,zF]
 refine tk (i:=7) (v:=?_) rfl (Or.inl ⟨by rfl,?_⟩) hHeld1 ?_
 rotate_left
 · (intro w hSw;(try dsimp only at hSw);go_simp <;> with_reducible rfl)
 try simp only [Act.put,zA,zB,zC,zD,zE,zF]
 refine tk (i:=8) (v:=?_) rfl (Or.inl ⟨by rfl,?_⟩) hHeld1 ?_
 rotate_left
 · (intro w hSw;(try dsimp only at hSw);go_simp <;> with_reducible rfl)
 try simp only [Act.put,zA,zB,zC,zD,zE,zF]
 refine tk (i:=9) (v:=?_) rfl (Or.inl ⟨by rfl,?_⟩) hHeld1 ?_
 rotate_left
 · (intro w hSw;(try dsimp only at hSw);go_simp <;> with_reducible rfl)
 try simp only [Act.put,zA,zB,zC,zD,zE,zF]
 refine tk (i:=10) (v:=?_) rfl (Or.inl ⟨by rfl,?_⟩) hHeld1 ?_
 rotate_left
 · (intro w hSw;(try dsimp only at hSw);go_simp <;> with_reducible rfl)
 try simp only [Act.put,zA,zB,zC,zD,zE,zF]
 refine wpAnyH_ready (rs:=[11]) (by kernel_rfl) (by simp) ?_
 refine AllReadyH.cons rfl (fun K hK=>?_) AllReadyH.nil
 go_simp
 refine hK.out _ _ ?_ (fun hHeld2=>?_)
 · exact HC.out _ ((Below.heap_setCell _ _ _ gm (blk_ne qm1 q81 (by decide))).trans qm1) ((Below.heap_setCell _ _ _ gr (blk_ne qr1 q81 (by decide))).trans qr1)
 clear hK K hHeld1
 try simp only [Act.put,zD,zE,zF]
 have qm2:=(Below.heap_setCell w1 ⟨g8,1,none⟩ (.string v) gm (blk_ne qm1 q81 (by decide))).trans qm1
 have qr2:=(Below.heap_setCell w1 ⟨g8,1,none⟩ (.string v) gr (blk_ne qr1 q81 (by decide))).trans qr1
 have q82:=q81.set_ 1 (.string v)
 try simp only [Act.put,zA,zB,zC,zD,zE,zF]
 refine tk (i:=12) (v:=?_) rfl (Or.inl ⟨by rfl,?_⟩) hHeld2 ?_
 rotate_left
 · (intro w hSw;(try dsimp only at hSw);go_simp <;> with_reducible rfl)
 try simp only [Act.put,zA,zB,zC,zD,zE,zF]
 refine wpAnyH_ready (rs:=[13]) (by kernel_rfl) (by simp) ?_
 refine AllReadyH.cons rfl (fun K hK=>?_) AllReadyH.nil
 go_simp
 refine hK.out _ _ ?_ (fun hHeld3=>?_)
 · exact HC.out _ ((Below.heap_setCell _ _ _ gm (blk_ne qm2 q82 (by decide))).trans qm2) ((Below.heap_setCell _ _ _ gr (blk_ne qr2 q82 (by decide))).trans qr2)
 clear hK K hHeld2
 try simp only [Act.put,zA,zB,zC,zD,zE,zF]
 refine wpAnyH_done (by kernel_rfl) ?_ _
 have q83:=q82.set_ 0 (.int .i64 er)
 have qm3:=(Below.heap_setCell (w1.setCell ⟨g8,1,none⟩ (.string v)) ⟨g8,0,none⟩ (.int .i64 er) gm (blk_ne qm2 q82 (by decide))).trans qm2
 exact NoPanic.normal (HQ.out _ _ _ _ _ _ _ _ _ _ _ _ _ qm3 q83 (fun B w h8 hb=>(((below_of (by have:=HX.out.2.2.1.lt;omega) hb hb1').setCell (p:=⟨g8,1,none⟩) h8 _).setCell (p:=⟨g8,0,none⟩) h8 _)))
end Go.Proofs.YtkgflepgkhnclaaGreatDoor
namespace Go.Proofs.YtkgflepgkhnclaaGreatDoor
set_option linter.unusedVariables false
set_option linter.unusedSimpArgs false
open Go.RowKit Go.Shelf
section
variable {P:Program} {md:Region.Mode} {ops:Array Oper} {Q:Exit→Act→World→Prop} {k0:Nat} {S:World→Prop}
theorem wpAnyL_first0 {i:Nat} {oi:Oper} {v:Value} (hi:ops[i]?=some oi) (hsel:∀ (j:Nat) (o:Oper) cs b,ops[j]?=some o→o.op ≠ .select cs b)
 (hQ:∀ c a w,Q (.panic c) (a.put oi.dst v) w→Q (.panic c) a w) (hne:i ≠ k0) :
 ∀ (fuel:Nat) (listed:Array Bool) (a:Act) (w:World),
   (∀ j oj,ops[j]?=some oj→j ≠ i→listed.getD j true=false→(∀ e ∈ oj.after,Region.binds md e=true→e.on ≠ i)→oi.apart ops oj=true) →
   i ∈ Region.ready md ops listed→YieldsIf P ops (fun _=>True) oi v a→(listed.getD k0 false=false→S w) →
   wpAnyL P md ops Q k0 S fuel (listed.setIfInBounds i true) (a.put oi.dst v) w→wpAnyL P md ops Q k0 S (fuel + 1) listed a w:=by
 intro fuel
 induction fuel with
 | zero =>
   intro listed a w _ hr hy hS H
   refine ⟨fun h=>(by rw [h] at hr;cases hr),fun j hj=>?_⟩
   by_cases hji:j=i
   · subst hji;exact hy.wpOp hi trivial ⟨fun h=>hS (by rw [getD_set_ne false hne] at h;exact h),H⟩
   · have:=ready_mono hj hji
     rw [H.1] at this
     cases this
 | succ fuel ih =>
   intro listed a w hfree hr hy hS H
   refine ⟨fun h=>(by rw [h] at hr;cases hr),fun j hj=>?_⟩
   by_cases hji:j=i
   · subst hji;exact hy.wpOp hi trivial ⟨fun h=>hS (by rw [getD_set_ne false hne] at h;exact h),H⟩
   · have h1:=H.2 j (ready_mono hj hji)
     obtain ⟨hjun,oj,hoj,hall⟩:=mem_ready.1 hj
     have hnot:∀ e ∈ oj.after,Region.binds md e=true→e.on ≠ i:=fun e he hb heq=>by
        have h1:=hall e he hb
        have h0:=(mem_ready.1 hr).1
        rw [heq] at h1
        rcases Nat.lt_or_ge i listed.size with h' | h'
        · simp [h'] at h0 h1;rw [h0] at h1;cases h1
        · simp [Array.getElem?_eq_none h'] at h1
     have h2:=wpOp_putIf hoj (hfree j oj hoj hji hjun hnot) (fun cs b=>hsel i oi cs b hi) (fun cs b=>hsel j oj cs b hoj) hQ hy h1
     have hfree':∀ k ok,ops[k]?=some ok→k ≠ i→(listed.setIfInBounds j true).getD k true=false →
      (∀ e ∈ ok.after,Region.binds md e=true→e.on ≠ i)→oi.apart ops ok=true:=fun k ok hk hki hun hno=>by
        refine hfree k ok hk hki ?_ hno
        by_cases hjk:j=k
        · subst hjk;exact hjun
        · rw [getD_set_ne true hjk] at hun;exact hun
     refine wpOp_mono (fun a' w' h3=>?_) h2
     have hS':(listed.setIfInBounds j true).getD k0 false=false→S w':=fun h=>h3.2.1 (by
        rw [Array.setIfInBounds_comm _ _ (Ne.symm hji),getD_set_ne false hne]
        by_cases hjk:j=k0
        · subst hjk
          have hlt:j < listed.size:=by
           rcases Nat.lt_or_ge j listed.size with h' | h'
           · exact h'
           · simp [h'] at hjun
          simp [hlt] at h
        · exact h)
     refine ⟨hS',ih (listed.setIfInBounds j true) a' w' hfree' (ready_mono hr (Ne.symm hji)) h3.1 hS' ?_⟩
     rw [Array.setIfInBounds_comm _ _ hji]
     exact h3.2.2
theorem wpAnyL_free {i:Nat} {oi:Oper} {v:Value} {fuel:Nat} {listed:Array Bool} {a:Act} {w:World} (hi:ops[i]?=some oi)
 (hs:Region.noSelect ops=true) (hf:Region.free md ops listed i=true) (hr:(Region.ready md ops listed).contains i=true) (hne:(i != k0)=true)
 (hQ:∀ c a w,Q (.panic c) (a.put oi.dst v) w→Q (.panic c) a w) (hy:YieldsIf P ops (fun _=>True) oi v a) (hS:listed.getD k0 false=false→S w)
 (h:wpAnyL P md ops Q k0 S fuel (listed.setIfInBounds i true) (a.put oi.dst v) w):wpAnyL P md ops Q k0 S (fuel + 1) listed a w:=by
 rw [bne_iff_ne] at hne
 exact wpAnyL_first0 hi (Region.noSelect_spec hs) hQ hne fuel listed a w (Region.free_spec hi hf) (by simpa using hr) hy hS h
end
end Go.Proofs.YtkgflepgkhnclaaGreatDoor
namespace Go.Proofs.YtkgflepgkhnclaaGreatDoor
set_option linter.unusedVariables false
set_option linter.unusedSimpArgs false
open Go.RowKit Go.Shelf
attribute [local go_sem] run_store_complex
variable {Xa Xb Xc Xd Xe Xf Xg Xh Xi Xj Xk Xl Xm Xn Xo Xp Xq Xr Xs Xt Xu Xv Xw Xx Xy Xz Ya Yb Yc Yd Ye Yf Yg Yh Yi Yj Yk Yl Ym Yn Yo Yp Yq Yr Ys Yt Yu Yv Yw Yx Yy Yz Za Zb Zc Zd Ze Zf Zg Zh Zi Zj Zk Zl Zm Zn Zo Zp Zq Zr Zs Zt Zu Zv Zw Zx Zy Zz Ja Jb Jc Jd Je Jf Jg Jh Ji Jj Jk Jl Jm Jn Jo Jp Jq Jr Js Jt Ju Jv Jw Jy Jz Va Vb Vc Vd Ve Vf Vg Vh Vi Vj Vk Vl Vm Vn Vo Vp Vq Vr Vs Vt Vu Vv Vw Vx Vy Vz Oa Ob Oc Od Oe Og Oh Oi Oj Ok Ol Om On Oo Oq Ot Ou Ov Ox Oy Oz Ha Hb Hc He Hf Hg Hh Hi Hj Hk Hl Hm Hn Ho Hp Hq Hr Hs Ht Hu Hv Hw Hx Hy Hz Ia Ib Ic Id Ie If Ig Ih Ii Ij Ik Il Im In Io Ip Iq Ir It Iu Iv Iw Ix Iy Iz Ua Ub Uc Ud Ue Uf Ug Uh Ui Uj Uk Ul:Value}
theorem infoBk1:(Tryz.prog.info? 62).map (·.size)=some 3:=by kernel_rfl
theorem cell_off {w:World} {g i j:Nat} {u v:Value} (hij:i ≠ j) (h:w.cell? ⟨g,j,none⟩=some u):(w.setCell ⟨g,i,none⟩ v).cell? ⟨g,j,none⟩=some u :=
 (World.cell?_setCell_other w ⟨g,i,none⟩ ⟨g,j,none⟩ v (fun e=>hij (by injection e))).trans h
theorem set_ty {W:World} {p:Addr} {v:Value} {g:Nat} {t:TypeId} {cs:Array Value} (h:Blk W g t cs):∃ cs',Blk (W.setCell p v) g t cs':=by
 by_cases e:g=p.block
 · obtain ⟨b,o,s⟩:=p
   simp only at e
   subst e
   cases s with
   | none=>exact ⟨_,h.set_ o v⟩
   | some s=>exact ⟨cs,by unfold Blk World.setCell at *;simp [Array.getElem?_modify,h]⟩
 · exact ⟨cs,(Below.heap_setCell _ _ _ g e).trans h⟩
theorem RBk.at_.cell {b:RBk} {W:World} {p:Addr} {u v:Value} (h:b.at_ W) (hp:W.cell? p=some u) (hu:∀ s,u ≠ .string s):b.at_ (W.setCell p v):=by
 refine ⟨⟨h.rd.1,fun h0=>?_⟩,h.lc,h.cm,h.nl,fun ad h0 hA=>(h.ty ad h0 hA).elim fun cs hc=>set_ty hc⟩
 obtain ⟨ad,h1,h2,h3⟩:=h.rd.2 h0
 refine ⟨ad,h1,by rw [World.size_setCell];exact h2,fun j x hx=>?_⟩
 have h4:=h3 j x hx
 by_cases e:p=ad.add j
 · rw [← e,hp] at h4
   injection h4 with h4
   subst h4
   have hm:=List.mem_of_getElem? hx
   obtain ⟨y,_,hy⟩:=List.mem_flatMap.1 hm
   simp only [pairR,List.mem_cons,List.mem_nil_iff,or_false] at hy
   rcases hy with rfl | rfl
   · exact absurd rfl (hu _)
   · exact absurd rfl (hu _)
 · exact (World.cell?_setCell_other W p (ad.add j) v e).trans h4
set_option maxHeartbeats 6400000 in
set_option maxRecDepth 100000 in
theorem op_put {W:World} {R:RMd} {b:RBk} {r:Req} {t gm gr g8:Nat} {Q:Exit→Act→World→Prop} (hs:∀ t,StOk (R t).st) (ht:t < 17) (hbk:(R t).bk=b) (qm:Blk W gm 66 (rcells R).toArray) (qr:Blk W gr 39 r.row.toArray) (q8:Blk W g8 52 zeroA) (hb:b.at_ W) (hl:LOk b.l) (hr:r.ok) (hn:b.l.length ≤ 999)
 (hQ:∀ (s43 s44 s45 s46 s47 s48 s49 s50 s51 s52 s53 s54 s55 s56 s57 s58:Value) (W':World) (b':RBk) (er:Int),(er,b'.l)=(putR b r.key r.val)→b'.qk=b.qk→b'.qb=b.qb→b'.at_ W'→Blk W' gm 66 (rcells (updR R t { R t with bk:=b' })).toArray→Blk W' g8 52 (zeroA.setIfInBounds 0 (.int .i64 er))→(∀ B w,B ≤ g8→B ≤ gm→Below B w W→Below B w W')→(∀ i,i < W.heap.size→i ≠ gm→i ≠ g8→W'.heap[i]?=W.heap[i]?)→Q .normal ⟨#[Xa,Xb,.pointer (some ⟨gm,0,none⟩),.pointer (some ⟨gr,0,none⟩),Xe,Xf,Xg,.int .i64 (t:Nat),.pointer (some ⟨g8,0,none⟩),Xj,Xk,Xl,Xm,Xn,Xo,Xp,Xq,Xr,Xs,Xt,Xu,Xv,Xw,Xx,Xy,Xz,Ya,Yb,Yc,Yd,Ye,Yf,Yg,Yh,Yi,Yj,Yk,Yl,Ym,Yn,Yo,Yp,Yq,s43,s44,s45,s46,s47,s48,s49,s50,s51,s52,s53,s54,s55,s56,s57,s58,Zh,Zi,Zj,Zk,Zl,Zm,Zn,Zo,Zp,Zq,Zr,Zs,Zt,Zu,Zv,Zw,Zx,Zy,Zz,Ja,Jb,Jc,Jd,Je,Jf,Jg,Jh,Ji,Jj,Jk,Jl,Jm,Jn,Jo,Jp,Jq,Jr,Js,Jt,Ju,Jv,Jw,Jy,Jz,Va,Vb,Vc,Vd,Ve,Vf,Vg,Vh,Vi,Vj],[]⟩ W') :
 Code.wp Tryz.prog (part Tryz.f39 [1,1,1,1,1,0,1,2,1,4,1,3]) Q ⟨#[Xa,Xb,.pointer (some ⟨gm,0,none⟩),.pointer (some ⟨gr,0,none⟩),Xe,Xf,Xg,.int .i64 (t:Nat),.pointer (some ⟨g8,0,none⟩),Xj,Xk,Xl,Xm,Xn,Xo,Xp,Xq,Xr,Xs,Xt,Xu,Xv,Xw,Xx,Xy,Xz,Ya,Yb,Yc,Yd,Ye,Yf,Yg,Yh,Yi,Yj,Yk,Yl,Ym,Yn,Yo,Yp,Yq,Yr,Ys,Yt,Yu,Yv,Yw,Yx,Yy,Yz,Za,Zb,Zc,Zd,Ze,Zf,Zg,Zh,Zi,Zj,Zk,Zl,Zm,Zn,Zo,Zp,Zq,Zr,Zs,Zt,Zu,Zv,Zw,Zx,Zy,Zz,Ja,Jb,Jc,Jd,Je,Jf,Jg,Jh,Ji,Jj,Jk,Jl,Jm,Jn,Jo,Jp,Jq,Jr,Js,Jt,Ju,Jv,Jw,Jy,Jz,Va,Vb,Vc,Vd,Ve,Vf,Vg,Vh,Vi,Vj],[]⟩ W:=by
 conv=>arg 2;whnf
 generalize hrs:(putR b r.key r.val)=rs0 at hQ
 have HQ:=Lib.hid hQ
 have HR0:=Lib.hid hrs
 have HS:=Lib.hid hs
 have HX:=Lib.hid (And.intro qm (And.intro qr (And.intro q8 (And.intro hb (And.intro hl (And.intro hr hn))))))
 have HC:Hid (∀ V:World,Blk V gm 66 (rcells R).toArray→Blk V gr 39 r.row.toArray→V.cell? ⟨gm,t * 16 + 2,none⟩=some (.slice b.A b.l.length b.c)∧V.cell? ⟨gm,t * 16 + 3,none⟩=some (.int .u64 b.qk)∧V.cell? ⟨gm,t * 16 + 4,none⟩=some (.int .u64 b.qb)∧V.cell? ⟨gr,4,none⟩=some (.string r.key)∧V.cell? ⟨gr,5,none⟩=some (.string r.val)):=Lib.hid (fun V hm hq=>by
  subst hbk
  exact ⟨rblk (j:=2) hm hs ht rfl,rblk (j:=3) hm hs ht rfl,rblk (j:=4) hm hs ht rfl,hq.cell 4,hq.cell 5⟩)
 have hd:Below W.heap.size W W.drew:=(Below.refl _ _).drew
 have h0:=HC.out W.drew (qm.below hd qm.lt) (qr.below hd qr.lt)
 have HBD:=Lib.hid (hb.below hd)
 have i0:(0:Int) ≤ (t:Int):=by omega
 have i1:(t:Int) < 17:=by omega
 clear hQ hs qm qr q8 hb hd hrs
 refine wp_region_noPanic ?_
 have hHeld0:=h0
 refine wp_region_L 15 (fun V:World=>V.cell? ⟨gm,t * 16 + 2,none⟩=some (.slice b.A b.l.length b.c)∧V.cell? ⟨gm,t * 16 + 3,none⟩=some (.int .u64 b.qk)∧V.cell? ⟨gm,t * 16 + 4,none⟩=some (.int .u64 b.qb)∧V.cell? ⟨gr,4,none⟩=some (.string r.key)∧V.cell? ⟨gr,5,none⟩=some (.string r.val)) (by kernel_rfl) ?_
 refine wpAnyL_take (i:=0) (v:=?_) rfl (by kernel_rfl) (by kernel_rfl) (by kernel_rfl) (by kernel_rfl) (fun _ _ _ h=>h) (Or.inl ⟨by rfl,?_⟩) hHeld0 ?_
 rotate_left
 · (intro w hSw;(try dsimp only at hSw);go_simp <;> with_reducible rfl)
 try simp only [Act.put,zD,zE,zF]
 refine wpAnyL_take (i:=1) (v:=?_) rfl (by kernel_rfl) (by kernel_rfl) (by kernel_rfl) (by kernel_rfl) (fun _ _ _ h=>h) (Or.inl ⟨by rfl,?_⟩) hHeld0 ?_
 rotate_left
 · (intro w hSw;(try dsimp only at hSw);go_simp <;> with_reducible rfl)
 try simp only [Act.put,zD,zE,zF]
 refine wpAnyL_take (i:=2) (v:=?_) rfl (by kernel_rfl) (by kernel_rfl) (by kernel_rfl) (by kernel_rfl) (fun _ _ _ h=>h) (Or.inl ⟨by rfl,?_⟩) hHeld0 ?_
 rotate_left
 · (intro w hSw;(try dsimp only at hSw);go_simp <;> with_reducible rfl)
 try simp only [Act.put,zD,zE,zF]
 refine wpAnyL_take (i:=3) (v:=?_) rfl (by kernel_rfl) (by kernel_rfl) (by kernel_rfl) (by kernel_rfl) (fun _ _ _ h=>h) (Or.inl ⟨by rfl,?_⟩) hHeld0 ?_
 rotate_left
 · (intro w hSw;(try dsimp only at hSw);go_simp <;> with_reducible rfl)
 try simp only [Act.put,zD,zE,zF]
 refine wpAnyL_take (i:=4) (v:=?_) rfl (by kernel_rfl) (by kernel_rfl) (by kernel_rfl) (by kernel_rfl) (fun _ _ _ h=>h) (Or.inl ⟨by rfl,?_⟩) hHeld0 ?_
 rotate_left
 · (intro w hSw;(try dsimp only at hSw);go_simp <;> with_reducible rfl)
 try simp only [Act.put,zD,zE,zF]
 refine wpAnyL_take (i:=5) (v:=?_) rfl (by kernel_rfl) (by kernel_rfl) (by kernel_rfl) (by kernel_rfl) (fun _ _ _ h=>h) (Or.inl ⟨by rfl,?_⟩) hHeld0 ?_
 rotate_left
 · (intro w hSw;(try dsimp only at hSw);go_simp <;> with_reducible rfl)
 try simp only [Act.put,zD,zE,zF]
 refine wpAnyL_take (i:=6) (v:=?_) rfl (by kernel_rfl) (by kernel_rfl) (by kernel_rfl) (by kernel_rfl) (fun _ _ _ h=>h) (Or.inl ⟨by rfl,?_⟩) hHeld0 ?_
 rotate_left
 · (intro w hSw;(try dsimp only at hSw);go_simp <;> with_reducible rfl)
 try simp only [Act.put,zD,zE,zF]
 refine wpAnyL_take (i:=7) (v:=?_) rfl (by kernel_rfl) (by kernel_rfl) (by kernel_rfl) (by kernel_rfl) (fun _ _ _ h=>h) (Or.inl ⟨by rfl,?_⟩) hHeld0 ?_
 rotate_left
 · (intro w hSw;(try dsimp only at hSw);go_simp <;> with_reducible rfl)
 try simp only [Act.put,zD,zE,zF]
 refine wpAnyL_take (i:=8) (v:=?_) rfl (by kernel_rfl) (by kernel_rfl) (by kernel_rfl) (by kernel_rfl) (fun _ _ _ h=>h) (Or.inl ⟨by rfl,?_⟩) hHeld0 ?_
 rotate_left
 · (intro w hSw;(try dsimp only at hSw);go_simp <;> with_reducible rfl)
 try simp only [Act.put,zA,zB,zC,zD,zE,zF]
 refine wpAnyL_ready (rs:=[9]) (by kernel_rfl) (by simp) ?_
 refine AllL.cons rfl (fun K hK=>?_) AllL.nil
 go_simp
 with_reducible refine (put_any b r.key r.val _ HBD.out HX.out.2.2.2.2.1 HX.out.2.2.2.2.2.2 HX.out.2.2.2.2.2.1.key HX.out.2.2.2.2.2.1.val).mono ?_
 rintro e w1 ⟨A2,c2,rfl,hat1,hb1⟩
 generalize hg:(putR b r.key r.val)=rs at hat1
 obtain ⟨er,l2⟩:=rs
 have HG:=Lib.hid hg
 clear hg
 dsimp only [RBk.v] at hat1
 have hb1':Below W.heap.size W w1:=⟨hb1.os,hb1.tape,hb1.output,hb1.size,hb1.block⟩
 have qm1:=HX.out.1.below hb1' HX.out.1.lt
 have qr1:=HX.out.2.1.below hb1' HX.out.2.1.lt
 have q81:=HX.out.2.2.1.below hb1' HX.out.2.2.1.lt
 dsimp only [RBk.v]
 have hHeld1:=HC.out w1 qm1 qr1
 refine hK.out _ _ (fun _=>hHeld1) ?_
 clear hK K
 try simp only [Act.put,zA,zB,zC,zD,zE,zF]
 refine wpAnyL_take (i:=10) (v:=?_) rfl (by kernel_rfl) (by kernel_rfl) (by kernel_rfl) (by kernel_rfl) (fun _ _ _ h=>h) (Or.inl ⟨by rfl,?_⟩) hHeld1 ?_
 rotate_left
 · (intro w hSw;(try dsimp only at hSw);go_simp <;> with_reducible rfl)
 try simp only [Act.put,zA,zB,zC,zD,zE,zF]
 refine wpAnyL_take (i:=11) (v:=?_) rfl (by kernel_rfl) (by kernel_rfl) (by kernel_rfl) (by kernel_rfl) (fun _ _ _ h=>h) (Or.inl ⟨by rfl,?_⟩) hHeld1 ?_
 rotate_left
 · (intro w hSw;(try dsimp only at hSw);go_simp <;> with_reducible rfl)
 try simp only [Act.put,zA,zB,zC,zD,zE,zF]
 refine wpAnyL_free (i:=12) (v:=?_) rfl (by kernel_rfl) (by kernel_rfl) (by kernel_rfl) (by kernel_rfl) (fun _ _ _ h=>h) (Or.inl ⟨by rfl,?_⟩) (fun _=>hHeld1) ?_
 rotate_left
 · (intro w hSw;go_simp <;> with_reducible rfl)
 try simp only [Act.put,zA,zB,zC,zD,zE,zF]
 refine wpAnyL_take (i:=13) (v:=?_) rfl (by kernel_rfl) (by kernel_rfl) (by kernel_rfl) (by kernel_rfl) (fun _ _ _ h=>h) (Or.inl ⟨by rfl,?_⟩) hHeld1 ?_
 rotate_left
 · (intro w hSw;(try dsimp only at hSw);go_simp <;> with_reducible rfl)
 try simp only [Act.put,zA,zB,zC,zD,zE,zF]
 refine wpAnyL_take (i:=14) (v:=?_) rfl (by kernel_rfl) (by kernel_rfl) (by kernel_rfl) (by kernel_rfl) (fun _ _ _ h=>h) (Or.inl ⟨by rfl,?_⟩) hHeld1 ?_
 rotate_left
 · (intro w hSw;(try dsimp only at hSw);go_simp <;> with_reducible rfl)
 try simp only [Act.put,zA,zB,zC,zD,zE,zF]
 refine wpAnyL_ready (rs:=[15]) (by kernel_rfl) (by simp) ?_
 refine AllL.cons rfl (fun K hK=>?_) AllL.nil
 rw [if_pos (by kernel_rfl)]
 refine wp_store_mid 62 (.tmp 57) (.tmp 54) rfl gm (t * 16 + 2) #[.slice A2 l2.length c2,.int .u64 b.qk,.int .u64 b.qb] rfl rfl (there_mid qm1 (by rw [show (rcells R).toArray.size=272 by rw [List.size_toArray,rcells_len HS.out]];show t * 16 + 2 + 3 ≤ 272;omega)) infoBk1 (by simp [Value.oneCell']) ?_
 refine hK.out _ _ (fun h=>Bool.noConfusion (show true=false from h)) ?_
 clear hK K
 try simp only [Act.put,zD,zE,zF]
 have qm2:Blk (w1.setCells gm (t * 16 + 2) [.slice A2 l2.length c2,.int .u64 b.qk,.int .u64 b.qb]) gm 66 (rcells (updR R t { R t with bk:=⟨A2,c2,l2,b.qk,b.qb⟩ })).toArray:=book_set (b:=⟨A2,c2,l2,b.qk,b.qb⟩) qm1 HS.out (by omega)
 have hm1:=HC.out w1 qm1 qr1
 have hat2:RBk.at_ ⟨A2,c2,l2,b.qk,b.qb⟩ (w1.setCells gm (t * 16 + 2) [.slice A2 l2.length c2,.int .u64 b.qk,.int .u64 b.qb]):=by
  have e1:=hat1.cell (v:=.slice A2 l2.length c2) hm1.1 (fun s h=>by cases h)
  have e2:=e1.cell (p:=⟨gm,t * 16 + 3,none⟩) (v:=.int .u64 b.qk) (cell_off (by omega) hm1.2.1) (fun s h=>by cases h)
  exact e2.cell (p:=⟨gm,t * 16 + 4,none⟩) (v:=.int .u64 b.qb) (cell_off (by omega) (cell_off (by omega) hm1.2.2.1)) (fun s h=>by cases h)
 have hne:g8 ≠ gm:=Ne.symm (blk_ne qm1 q81 (by decide))
 have q82:Blk (w1.setCells gm (t * 16 + 2) [.slice A2 l2.length c2,.int .u64 b.qk,.int .u64 b.qb]) g8 52 zeroA:=(Below.heap_setCell _ _ _ g8 hne).trans ((Below.heap_setCell _ _ _ g8 hne).trans ((Below.heap_setCell _ _ _ g8 hne).trans q81))
 have hbw:∀ B w,B ≤ g8→B ≤ gm→Below B w W→Below B w (w1.setCells gm (t * 16 + 2) [.slice A2 l2.length c2,.int .u64 b.qk,.int .u64 b.qb]):=fun B w h8 hm hb=>(((below_of (by have:=HX.out.2.2.1.lt;omega) hb hb1').setCell (p:=⟨gm,t * 16 + 2,none⟩) hm _).setCell (p:=⟨gm,t * 16 + 3,none⟩) hm _).setCell (p:=⟨gm,t * 16 + 4,none⟩) hm _
 have hkw:∀ i,i < W.heap.size→i ≠ gm→(w1.setCells gm (t * 16 + 2) [.slice A2 l2.length c2,.int .u64 b.qk,.int .u64 b.qb]).heap[i]?=W.heap[i]?:=fun i hi hm=>(Below.heap_setCell _ _ _ i hm).trans ((Below.heap_setCell _ _ _ i hm).trans ((Below.heap_setCell _ _ _ i hm).trans (hb1'.block i hi)))
 have HE:=Lib.hid (And.intro qm2 (And.intro hat2 (And.intro hbw hkw)))
 clear qm2 hat2 hbw hm1 hat1 hkw
 generalize w1.setCells gm (t * 16 + 2) [.slice A2 l2.length c2,.int .u64 b.qk,.int .u64 b.qb]=w2 at HE q82 ⊢
 have c80:w2.cell? ⟨g8,0,none⟩=some (.int .i64 0):=q82.cell 0
 have f80:=q82.frozen 0
 try simp only [Act.put,zA,zB,zC,zD,zE,zF]
 refine wpAnyL_free (i:=16) (v:=?_) rfl (by kernel_rfl) (by kernel_rfl) (by kernel_rfl) (by kernel_rfl) (fun _ _ _ h=>h) (Or.inl ⟨by rfl,?_⟩) (fun h=>Bool.noConfusion (show true=false from h)) ?_
 rotate_left
 · (intro w hSw;go_simp <;> with_reducible rfl)
 try simp only [Act.put,zA,zB,zC,zD,zE,zF]
 refine wpAnyL_ready (rs:=[17]) (by kernel_rfl) (by simp) ?_
 refine AllL.cons rfl (fun K hK=>?_) AllL.nil
 go_simp
 refine hK.out _ _ (fun h=>Bool.noConfusion (show true=false from h)) ?_
 clear hK K
 try simp only [Act.put,zA,zB,zC,zD,zE,zF]
 refine wpAnyL_done (by kernel_rfl) ?_ _
 have q83:=q82.set_ 0 (.int .i64 er)
 have qm3:=(Below.heap_setCell w2 ⟨g8,0,none⟩ (.int .i64 er) gm (blk_ne HE.out.1 q82 (by decide))).trans HE.out.1
 exact NoPanic.normal (HQ.out _ _ _ _ _ _ _ _ _ _ _ _ _ _ _ _ _ ⟨A2,c2,l2,b.qk,b.qb⟩ er (HG.out.symm.trans HR0.out) rfl rfl (HE.out.2.1.cell c80 (fun s h=>by cases h)) qm3 q83 (fun B w h8 hm hb=>(HE.out.2.2.1 B w h8 hm hb).setCell (p:=⟨g8,0,none⟩) h8 _) (fun i hi hm h8=>(Below.heap_setCell _ _ _ i h8).trans (HE.out.2.2.2 i hi hm)))
set_option maxHeartbeats 6400000 in
set_option maxRecDepth 100000 in
theorem op_del {W:World} {R:RMd} {b:RBk} {r:Req} {t gm gr g8:Nat} {Q:Exit→Act→World→Prop} (hs:∀ t,StOk (R t).st) (ht:t < 17) (hbk:(R t).bk=b) (qm:Blk W gm 66 (rcells R).toArray) (qr:Blk W gr 39 r.row.toArray) (q8:Blk W g8 52 zeroA) (hb:b.at_ W) (hl:LOk b.l) (hr:r.ok) (hn:b.l.length ≤ 999)
 (hQ:∀ (s61 s62 s63 s64 s65 s66 s67 s68 s69 s70 s71 s72 s73 s74:Value) (W':World) (b':RBk) (er:Int),(er,b'.l)=(delR b r.key)→b'.qk=b.qk→b'.qb=b.qb→b'.at_ W'→Blk W' gm 66 (rcells (updR R t { R t with bk:=b' })).toArray→Blk W' g8 52 (zeroA.setIfInBounds 0 (.int .i64 er))→(∀ B w,B ≤ g8→B ≤ gm→Below B w W→Below B w W')→(∀ i,i < W.heap.size→i ≠ gm→i ≠ g8→W'.heap[i]?=W.heap[i]?)→Q .normal ⟨#[Xa,Xb,.pointer (some ⟨gm,0,none⟩),.pointer (some ⟨gr,0,none⟩),Xe,Xf,Xg,.int .i64 (t:Nat),.pointer (some ⟨g8,0,none⟩),Xj,Xk,Xl,Xm,Xn,Xo,Xp,Xq,Xr,Xs,Xt,Xu,Xv,Xw,Xx,Xy,Xz,Ya,Yb,Yc,Yd,Ye,Yf,Yg,Yh,Yi,Yj,Yk,Yl,Ym,Yn,Yo,Yp,Yq,Yr,Ys,Yt,Yu,Yv,Yw,Yx,Yy,Yz,Za,Zb,Zc,Zd,Ze,Zf,Zg,Zh,Zi,s61,s62,s63,s64,s65,s66,s67,s68,s69,s70,s71,s72,s73,s74,Zx,Zy,Zz,Ja,Jb,Jc,Jd,Je,Jf,Jg,Jh,Ji,Jj,Jk,Jl,Jm,Jn,Jo,Jp,Jq,Jr,Js,Jt,Ju,Jv,Jw,Jy,Jz,Va,Vb,Vc,Vd,Ve,Vf,Vg,Vh,Vi,Vj],[]⟩ W') :
 Code.wp Tryz.prog (part Tryz.f39 [1,1,1,1,1,0,1,2,1,4,1,4,1,3]) Q ⟨#[Xa,Xb,.pointer (some ⟨gm,0,none⟩),.pointer (some ⟨gr,0,none⟩),Xe,Xf,Xg,.int .i64 (t:Nat),.pointer (some ⟨g8,0,none⟩),Xj,Xk,Xl,Xm,Xn,Xo,Xp,Xq,Xr,Xs,Xt,Xu,Xv,Xw,Xx,Xy,Xz,Ya,Yb,Yc,Yd,Ye,Yf,Yg,Yh,Yi,Yj,Yk,Yl,Ym,Yn,Yo,Yp,Yq,Yr,Ys,Yt,Yu,Yv,Yw,Yx,Yy,Yz,Za,Zb,Zc,Zd,Ze,Zf,Zg,Zh,Zi,Zj,Zk,Zl,Zm,Zn,Zo,Zp,Zq,Zr,Zs,Zt,Zu,Zv,Zw,Zx,Zy,Zz,Ja,Jb,Jc,Jd,Je,Jf,Jg,Jh,Ji,Jj,Jk,Jl,Jm,Jn,Jo,Jp,Jq,Jr,Js,Jt,Ju,Jv,Jw,Jy,Jz,Va,Vb,Vc,Vd,Ve,Vf,Vg,Vh,Vi,Vj],[]⟩ W:=by
 conv=>arg 2;whnf
 generalize hrs:(delR b r.key)=rs0 at hQ
 have HQ:=Lib.hid hQ
 have HR0:=Lib.hid hrs
 have HS:=Lib.hid hs
 have HX:=Lib.hid (And.intro qm (And.intro qr (And.intro q8 (And.intro hb (And.intro hl (And.intro hr hn))))))
 have HC:Hid (∀ V:World,Blk V gm 66 (rcells R).toArray→Blk V gr 39 r.row.toArray→V.cell? ⟨gm,t * 16 + 2,none⟩=some (.slice b.A b.l.length b.c)∧V.cell? ⟨gm,t * 16 + 3,none⟩=some (.int .u64 b.qk)∧V.cell? ⟨gm,t * 16 + 4,none⟩=some (.int .u64 b.qb)∧V.cell? ⟨gr,4,none⟩=some (.string r.key)):=Lib.hid (fun V hm hq=>by
  subst hbk
  exact ⟨rblk (j:=2) hm hs ht rfl,rblk (j:=3) hm hs ht rfl,rblk (j:=4) hm hs ht rfl,hq.cell 4⟩)
 have hd:Below W.heap.size W W.drew:=(Below.refl _ _).drew
 have h0:=HC.out W.drew (qm.below hd qm.lt) (qr.below hd qr.lt)
 have HBD:=Lib.hid (hb.below hd)
 have i0:(0:Int) ≤ (t:Int):=by omega
 have i1:(t:Int) < 17:=by omega
 clear hQ hs qm qr q8 hb hd hrs
 refine wp_region_noPanic ?_
 have hHeld0:=h0
 refine wp_region_L 13 (fun V:World=>V.cell? ⟨gm,t * 16 + 2,none⟩=some (.slice b.A b.l.length b.c)∧V.cell? ⟨gm,t * 16 + 3,none⟩=some (.int .u64 b.qk)∧V.cell? ⟨gm,t * 16 + 4,none⟩=some (.int .u64 b.qb)∧V.cell? ⟨gr,4,none⟩=some (.string r.key)) (by kernel_rfl) ?_
 refine wpAnyL_take (i:=0) (v:=?_) rfl (by kernel_rfl) (by kernel_rfl) (by kernel_rfl) (by kernel_rfl) (fun _ _ _ h=>h) (Or.inl ⟨by rfl,?_⟩) hHeld0 ?_
 rotate_left
 · (intro w hSw;(try dsimp only at hSw);go_simp <;> with_reducible rfl)
 try simp only [Act.put,zD,zE,zF]
 refine wpAnyL_take (i:=1) (v:=?_) rfl (by kernel_rfl) (by kernel_rfl) (by kernel_rfl) (by kernel_rfl) (fun _ _ _ h=>h) (Or.inl ⟨by rfl,?_⟩) hHeld0 ?_
 rotate_left
 · (intro w hSw;(try dsimp only at hSw);go_simp <;> with_reducible rfl)
 try simp only [Act.put,zD,zE,zF]
 refine wpAnyL_take (i:=2) (v:=?_) rfl (by kernel_rfl) (by kernel_rfl) (by kernel_rfl) (by kernel_rfl) (fun _ _ _ h=>h) (Or.inl ⟨by rfl,?_⟩) hHeld0 ?_
 rotate_left
 · (intro w hSw;(try dsimp only at hSw);go_simp <;> with_reducible rfl)
 try simp only [Act.put,zD,zE,zF]
 refine wpAnyL_take (i:=3) (v:=?_) rfl (by kernel_rfl) (by kernel_rfl) (by kernel_rfl) (by kernel_rfl) (fun _ _ _ h=>h) (Or.inl ⟨by rfl,?_⟩) hHeld0 ?_
 rotate_left
 · (intro w hSw;(try dsimp only at hSw);go_simp <;> with_reducible rfl)
 try simp only [Act.put,zD,zE,zF]
 refine wpAnyL_take (i:=4) (v:=?_) rfl (by kernel_rfl) (by kernel_rfl) (by kernel_rfl) (by kernel_rfl) (fun _ _ _ h=>h) (Or.inl ⟨by rfl,?_⟩) hHeld0 ?_
 rotate_left
 · (intro w hSw;(try dsimp only at hSw);go_simp <;> with_reducible rfl)
 try simp only [Act.put,zD,zE,zF]
 refine wpAnyL_take (i:=5) (v:=?_) rfl (by kernel_rfl) (by kernel_rfl) (by kernel_rfl) (by kernel_rfl) (fun _ _ _ h=>h) (Or.inl ⟨by rfl,?_⟩) hHeld0 ?_
 rotate_left
 · (intro w hSw;(try dsimp only at hSw);go_simp <;> with_reducible rfl)
 try simp only [Act.put,zD,zE,zF]
 refine wpAnyL_take (i:=6) (v:=?_) rfl (by kernel_rfl) (by kernel_rfl) (by kernel_rfl) (by kernel_rfl) (fun _ _ _ h=>h) (Or.inl ⟨by rfl,?_⟩) hHeld0 ?_
 rotate_left
 · (intro w hSw;(try dsimp only at hSw);go_simp <;> with_reducible rfl)
 try simp only [Act.put,zA,zB,zC,zD,zE,zF]
 refine wpAnyL_ready (rs:=[7]) (by kernel_rfl) (by simp) ?_
 refine AllL.cons rfl (fun K hK=>?_) AllL.nil
 go_simp
 with_reducible refine (del_any b r.key _ HBD.out HX.out.2.2.2.2.1 HX.out.2.2.2.2.2.1.key).mono ?_
 rintro e w1 ⟨A2,c2,rfl,hat1,hb1⟩
 generalize hg:(delR b r.key)=rs at hat1
 obtain ⟨er,l2⟩:=rs
 have HG:=Lib.hid hg
 clear hg
 dsimp only [RBk.v] at hat1
 have hb1':Below W.heap.size W w1:=⟨hb1.os,hb1.tape,hb1.output,hb1.size,hb1.block⟩
 have qm1:=HX.out.1.below hb1' HX.out.1.lt
 have qr1:=HX.out.2.1.below hb1' HX.out.2.1.lt
 have q81:=HX.out.2.2.1.below hb1' HX.out.2.2.1.lt
 dsimp only [RBk.v]
 have hHeld1:=HC.out w1 qm1 qr1
 refine hK.out _ _ (fun _=>hHeld1) ?_
 clear hK K
 try simp only [Act.put,zA,zB,zC,zD,zE,zF]
 refine wpAnyL_take (i:=8) (v:=?_) rfl (by kernel_rfl) (by kernel_rfl) (by kernel_rfl) (by kernel_rfl) (fun _ _ _ h=>h) (Or.inl ⟨by rfl,?_⟩) hHeld1 ?_
 rotate_left
 · (intro w hSw;(try dsimp only at hSw);go_simp <;> with_reducible rfl)
 try simp only [Act.put,zA,zB,zC,zD,zE,zF]
 refine wpAnyL_take (i:=9) (v:=?_) rfl (by kernel_rfl) (by kernel_rfl) (by kernel_rfl) (by kernel_rfl) (fun _ _ _ h=>h) (Or.inl ⟨by rfl,?_⟩) hHeld1 ?_
 rotate_left
 · (intro w hSw;(try dsimp only at hSw);go_simp <;> with_reducible rfl)
 try simp only [Act.put,zA,zB,zC,zD,zE,zF]
 refine wpAnyL_free (i:=10) (v:=?_) rfl (by kernel_rfl) (by kernel_rfl) (by kernel_rfl) (by kernel_rfl) (fun _ _ _ h=>h) (Or.inl ⟨by rfl,?_⟩) (fun _=>hHeld1) ?_
 rotate_left
 · (intro w hSw;go_simp <;> with_reducible rfl)
 try simp only [Act.put,zA,zB,zC,zD,zE,zF]
 refine wpAnyL_take (i:=11) (v:=?_) rfl (by kernel_rfl) (by kernel_rfl) (by kernel_rfl) (by kernel_rfl) (fun _ _ _ h=>h) (Or.inl ⟨by rfl,?_⟩) hHeld1 ?_
 rotate_left
 · (intro w hSw;(try dsimp only at hSw);go_simp <;> with_reducible rfl)
 try simp only [Act.put,zA,zB,zC,zD,zE,zF]
 refine wpAnyL_take (i:=12) (v:=?_) rfl (by kernel_rfl) (by kernel_rfl) (by kernel_rfl) (by kernel_rfl) (fun _ _ _ h=>h) (Or.inl ⟨by rfl,?_⟩) hHeld1 ?_
 rotate_left
 · (intro w hSw;(try dsimp only at hSw);go_simp <;> with_reducible rfl)
 try simp only [Act.put,zA,zB,zC,zD,zE,zF]
 refine wpAnyL_ready (rs:=[13]) (by kernel_rfl) (by simp) ?_
 refine AllL.cons rfl (fun K hK=>?_) AllL.nil
 rw [if_pos (by kernel_rfl)]
 refine wp_store_mid 62 (.tmp 73) (.tmp 70) rfl gm (t * 16 + 2) #[.slice A2 l2.length c2,.int .u64 b.qk,.int .u64 b.qb] rfl rfl (there_mid qm1 (by rw [show (rcells R).toArray.size=272 by rw [List.size_toArray,rcells_len HS.out]];show t * 16 + 2 + 3 ≤ 272;omega)) infoBk1 (by simp [Value.oneCell']) ?_
 refine hK.out _ _ (fun h=>Bool.noConfusion (show true=false from h)) ?_
 clear hK K
 try simp only [Act.put,zD,zE,zF]
 have qm2:Blk (w1.setCells gm (t * 16 + 2) [.slice A2 l2.length c2,.int .u64 b.qk,.int .u64 b.qb]) gm 66 (rcells (updR R t { R t with bk:=⟨A2,c2,l2,b.qk,b.qb⟩ })).toArray:=book_set (b:=⟨A2,c2,l2,b.qk,b.qb⟩) qm1 HS.out (by omega)
 have hm1:=HC.out w1 qm1 qr1
 have hat2:RBk.at_ ⟨A2,c2,l2,b.qk,b.qb⟩ (w1.setCells gm (t * 16 + 2) [.slice A2 l2.length c2,.int .u64 b.qk,.int .u64 b.qb]):=by
  have e1:=hat1.cell (v:=.slice A2 l2.length c2) hm1.1 (fun s h=>by cases h)
  have e2:=e1.cell (p:=⟨gm,t * 16 + 3,none⟩) (v:=.int .u64 b.qk) (cell_off (by omega) hm1.2.1) (fun s h=>by cases h)
  exact e2.cell (p:=⟨gm,t * 16 + 4,none⟩) (v:=.int .u64 b.qb) (cell_off (by omega) (cell_off (by omega) hm1.2.2.1)) (fun s h=>by cases h)
 have hne:g8 ≠ gm:=Ne.symm (blk_ne qm1 q81 (by decide))
 have q82:Blk (w1.setCells gm (t * 16 + 2) [.slice A2 l2.length c2,.int .u64 b.qk,.int .u64 b.qb]) g8 52 zeroA:=(Below.heap_setCell _ _ _ g8 hne).trans ((Below.heap_setCell _ _ _ g8 hne).trans ((Below.heap_setCell _ _ _ g8 hne).trans q81))
 have hbw:∀ B w,B ≤ g8→B ≤ gm→Below B w W→Below B w (w1.setCells gm (t * 16 + 2) [.slice A2 l2.length c2,.int .u64 b.qk,.int .u64 b.qb]):=fun B w h8 hm hb=>(((below_of (by have:=HX.out.2.2.1.lt;omega) hb hb1').setCell (p:=⟨gm,t * 16 + 2,none⟩) hm _).setCell (p:=⟨gm,t * 16 + 3,none⟩) hm _).setCell (p:=⟨gm,t * 16 + 4,none⟩) hm _
 have hkw:∀ i,i < W.heap.size→i ≠ gm→(w1.setCells gm (t * 16 + 2) [.slice A2 l2.length c2,.int .u64 b.qk,.int .u64 b.qb]).heap[i]?=W.heap[i]?:=fun i hi hm=>(Below.heap_setCell _ _ _ i hm).trans ((Below.heap_setCell _ _ _ i hm).trans ((Below.heap_setCell _ _ _ i hm).trans (hb1'.block i hi)))
 have HE:=Lib.hid (And.intro qm2 (And.intro hat2 (And.intro hbw hkw)))
 clear qm2 hat2 hbw hm1 hat1 hkw
 generalize w1.setCells gm (t * 16 + 2) [.slice A2 l2.length c2,.int .u64 b.qk,.int .u64 b.qb]=w2 at HE q82 ⊢
 have c80:w2.cell? ⟨g8,0,none⟩=some (.int .i64 0):=q82.cell 0
 have f80:=q82.frozen 0
 try simp only [Act.put,zA,zB,zC,zD,zE,zF]
 refine wpAnyL_free (i:=14) (v:=?_) rfl (by kernel_rfl) (by kernel_rfl) (by kernel_rfl) (by kernel_rfl) (fun _ _ _ h=>h) (Or.inl ⟨by rfl,?_⟩) (fun h=>Bool.noConfusion (show true=false from h)) ?_
 rotate_left
 · (intro w hSw;go_simp <;> with_reducible rfl)
 try simp only [Act.put,zA,zB,zC,zD,zE,zF]
 refine wpAnyL_ready (rs:=[15]) (by kernel_rfl) (by simp) ?_
 refine AllL.cons rfl (fun K hK=>?_) AllL.nil
 go_simp
 refine hK.out _ _ (fun h=>Bool.noConfusion (show true=false from h)) ?_
 clear hK K
 try simp only [Act.put,zA,zB,zC,zD,zE,zF]
 refine wpAnyL_done (by kernel_rfl) ?_ _
 have q83:=q82.set_ 0 (.int .i64 er)
 have qm3:=(Below.heap_setCell w2 ⟨g8,0,none⟩ (.int .i64 er) gm (blk_ne HE.out.1 q82 (by decide))).trans HE.out.1
 exact NoPanic.normal (HQ.out _ _ _ _ _ _ _ _ _ _ _ _ _ _ _ ⟨A2,c2,l2,b.qk,b.qb⟩ er (HG.out.symm.trans HR0.out) rfl rfl (HE.out.2.1.cell c80 (fun s h=>by cases h)) qm3 q83 (fun B w h8 hm hb=>(HE.out.2.2.1 B w h8 hm hb).setCell (p:=⟨g8,0,none⟩) h8 _) (fun i hi hm h8=>(Below.heap_setCell _ _ _ i h8).trans (HE.out.2.2.2 i hi hm)))
set_option maxHeartbeats 6400000 in
set_option maxRecDepth 100000 in
theorem op_swap {W:World} {R:RMd} {b:RBk} {r:Req} {t gm gr g8:Nat} {Q:Exit→Act→World→Prop} (hs:∀ t,StOk (R t).st) (ht:t < 17) (hbk:(R t).bk=b) (qm:Blk W gm 66 (rcells R).toArray) (qr:Blk W gr 39 r.row.toArray) (q8:Blk W g8 52 zeroA) (hb:b.at_ W) (hl:LOk b.l) (hr:r.ok) (hn:b.l.length ≤ 999)
 (hQ:∀ (s77 s78 s79 s80 s81 s82 s83 s84 s85 s86 s87 s88 s89 s90 s91 s92 s93 s94:Value) (W':World) (b':RBk) (er:Int),(er,b'.l)=(swapR b r.key r.old r.val)→b'.qk=b.qk→b'.qb=b.qb→b'.at_ W'→Blk W' gm 66 (rcells (updR R t { R t with bk:=b' })).toArray→Blk W' g8 52 (zeroA.setIfInBounds 0 (.int .i64 er))→(∀ B w,B ≤ g8→B ≤ gm→Below B w W→Below B w W')→(∀ i,i < W.heap.size→i ≠ gm→i ≠ g8→W'.heap[i]?=W.heap[i]?)→Q .normal ⟨#[Xa,Xb,.pointer (some ⟨gm,0,none⟩),.pointer (some ⟨gr,0,none⟩),Xe,Xf,Xg,.int .i64 (t:Nat),.pointer (some ⟨g8,0,none⟩),Xj,Xk,Xl,Xm,Xn,Xo,Xp,Xq,Xr,Xs,Xt,Xu,Xv,Xw,Xx,Xy,Xz,Ya,Yb,Yc,Yd,Ye,Yf,Yg,Yh,Yi,Yj,Yk,Yl,Ym,Yn,Yo,Yp,Yq,Yr,Ys,Yt,Yu,Yv,Yw,Yx,Yy,Yz,Za,Zb,Zc,Zd,Ze,Zf,Zg,Zh,Zi,Zj,Zk,Zl,Zm,Zn,Zo,Zp,Zq,Zr,Zs,Zt,Zu,Zv,Zw,Zx,Zy,s77,s78,s79,s80,s81,s82,s83,s84,s85,s86,s87,s88,s89,s90,s91,s92,s93,s94,Jr,Js,Jt,Ju,Jv,Jw,Jy,Jz,Va,Vb,Vc,Vd,Ve,Vf,Vg,Vh,Vi,Vj],[]⟩ W') :
 Code.wp Tryz.prog (part Tryz.f39 [1,1,1,1,1,0,1,2,1,4,1,4,1,4,1,3]) Q ⟨#[Xa,Xb,.pointer (some ⟨gm,0,none⟩),.pointer (some ⟨gr,0,none⟩),Xe,Xf,Xg,.int .i64 (t:Nat),.pointer (some ⟨g8,0,none⟩),Xj,Xk,Xl,Xm,Xn,Xo,Xp,Xq,Xr,Xs,Xt,Xu,Xv,Xw,Xx,Xy,Xz,Ya,Yb,Yc,Yd,Ye,Yf,Yg,Yh,Yi,Yj,Yk,Yl,Ym,Yn,Yo,Yp,Yq,Yr,Ys,Yt,Yu,Yv,Yw,Yx,Yy,Yz,Za,Zb,Zc,Zd,Ze,Zf,Zg,Zh,Zi,Zj,Zk,Zl,Zm,Zn,Zo,Zp,Zq,Zr,Zs,Zt,Zu,Zv,Zw,Zx,Zy,Zz,Ja,Jb,Jc,Jd,Je,Jf,Jg,Jh,Ji,Jj,Jk,Jl,Jm,Jn,Jo,Jp,Jq,Jr,Js,Jt,Ju,Jv,Jw,Jy,Jz,Va,Vb,Vc,Vd,Ve,Vf,Vg,Vh,Vi,Vj],[]⟩ W:=by
 conv=>arg 2;whnf
 generalize hrs:(swapR b r.key r.old r.val)=rs0 at hQ
 have HQ:=Lib.hid hQ
 have HR0:=Lib.hid hrs
 have HS:=Lib.hid hs
 have HX:=Lib.hid (And.intro qm (And.intro qr (And.intro q8 (And.intro hb (And.intro hl (And.intro hr hn))))))
 have HC:Hid (∀ V:World,Blk V gm 66 (rcells R).toArray→Blk V gr 39 r.row.toArray→V.cell? ⟨gm,t * 16 + 2,none⟩=some (.slice b.A b.l.length b.c)∧V.cell? ⟨gm,t * 16 + 3,none⟩=some (.int .u64 b.qk)∧V.cell? ⟨gm,t * 16 + 4,none⟩=some (.int .u64 b.qb)∧V.cell? ⟨gr,4,none⟩=some (.string r.key)∧V.cell? ⟨gr,6,none⟩=some (.string r.old)∧V.cell? ⟨gr,5,none⟩=some (.string r.val)):=Lib.hid (fun V hm hq=>by
  subst hbk
  exact ⟨rblk (j:=2) hm hs ht rfl,rblk (j:=3) hm hs ht rfl,rblk (j:=4) hm hs ht rfl,hq.cell 4,hq.cell 6,hq.cell 5⟩)
 have hd:Below W.heap.size W W.drew:=(Below.refl _ _).drew
 have h0:=HC.out W.drew (qm.below hd qm.lt) (qr.below hd qr.lt)
 have HBD:=Lib.hid (hb.below hd)
 have i0:(0:Int) ≤ (t:Int):=by omega
 have i1:(t:Int) < 17:=by omega
 clear hQ hs qm qr q8 hb hd hrs
 refine wp_region_noPanic ?_
 have hHeld0:=h0
 refine wp_region_L 17 (fun V:World=>V.cell? ⟨gm,t * 16 + 2,none⟩=some (.slice b.A b.l.length b.c)∧V.cell? ⟨gm,t * 16 + 3,none⟩=some (.int .u64 b.qk)∧V.cell? ⟨gm,t * 16 + 4,none⟩=some (.int .u64 b.qb)∧V.cell? ⟨gr,4,none⟩=some (.string r.key)∧V.cell? ⟨gr,6,none⟩=some (.string r.old)∧V.cell? ⟨gr,5,none⟩=some (.string r.val)) (by kernel_rfl) ?_
 refine wpAnyL_take (i:=0) (v:=?_) rfl (by kernel_rfl) (by kernel_rfl) (by kernel_rfl) (by kernel_rfl) (fun _ _ _ h=>h) (Or.inl ⟨by rfl,?_⟩) hHeld0 ?_
 rotate_left
 · (intro w hSw;(try dsimp only at hSw);go_simp <;> with_reducible rfl)
 try simp only [Act.put,zD,zE,zF]
 refine wpAnyL_take (i:=1) (v:=?_) rfl (by kernel_rfl) (by kernel_rfl) (by kernel_rfl) (by kernel_rfl) (fun _ _ _ h=>h) (Or.inl ⟨by rfl,?_⟩) hHeld0 ?_
 rotate_left
 · (intro w hSw;(try dsimp only at hSw);go_simp <;> with_reducible rfl)
 try simp only [Act.put,zD,zE,zF]
 refine wpAnyL_take (i:=2) (v:=?_) rfl (by kernel_rfl) (by kernel_rfl) (by kernel_rfl) (by kernel_rfl) (fun _ _ _ h=>h) (Or.inl ⟨by rfl,?_⟩) hHeld0 ?_
 rotate_left
 · (intro w hSw;(try dsimp only at hSw);go_simp <;> with_reducible rfl)
 try simp only [Act.put,zD,zE,zF]
 refine wpAnyL_take (i:=3) (v:=?_) rfl (by kernel_rfl) (by kernel_rfl) (by kernel_rfl) (by kernel_rfl) (fun _ _ _ h=>h) (Or.inl ⟨by rfl,?_⟩) hHeld0 ?_
 rotate_left
 · (intro w hSw;(try dsimp only at hSw);go_simp <;> with_reducible rfl)
 try simp only [Act.put,zD,zE,zF]
 refine wpAnyL_take (i:=4) (v:=?_) rfl (by kernel_rfl) (by kernel_rfl) (by kernel_rfl) (by kernel_rfl) (fun _ _ _ h=>h) (Or.inl ⟨by rfl,?_⟩) hHeld0 ?_
 rotate_left
 · (intro w hSw;(try dsimp only at hSw);go_simp <;> with_reducible rfl)
 try simp only [Act.put,zD,zE,zF]
 refine wpAnyL_take (i:=5) (v:=?_) rfl (by kernel_rfl) (by kernel_rfl) (by kernel_rfl) (by kernel_rfl) (fun _ _ _ h=>h) (Or.inl ⟨by rfl,?_⟩) hHeld0 ?_
 rotate_left
 · (intro w hSw;(try dsimp only at hSw);go_simp <;> with_reducible rfl)
 try simp only [Act.put,zD,zE,zF]
 refine wpAnyL_take (i:=6) (v:=?_) rfl (by kernel_rfl) (by kernel_rfl) (by kernel_rfl) (by kernel_rfl) (fun _ _ _ h=>h) (Or.inl ⟨by rfl,?_⟩) hHeld0 ?_
 rotate_left
 · (intro w hSw;(try dsimp only at hSw);go_simp <;> with_reducible rfl)
 try simp only [Act.put,zD,zE,zF]
 refine wpAnyL_take (i:=7) (v:=?_) rfl (by kernel_rfl) (by kernel_rfl) (by kernel_rfl) (by kernel_rfl) (fun _ _ _ h=>h) (Or.inl ⟨by rfl,?_⟩) hHeld0 ?_
 rotate_left
 · (intro w hSw;(try dsimp only at hSw);go_simp <;> with_reducible rfl)
 try simp only [Act.put,zD,zE,zF]
 refine wpAnyL_take (i:=8) (v:=?_) rfl (by kernel_rfl) (by kernel_rfl) (by kernel_rfl) (by kernel_rfl) (fun _ _ _ h=>h) (Or.inl ⟨by rfl,?_⟩) hHeld0 ?_
 rotate_left
 · (intro w hSw;(try dsimp only at hSw);go_simp <;> with_reducible rfl)
 try simp only [Act.put,zD,zE,zF]
 refine wpAnyL_take (i:=9) (v:=?_) rfl (by kernel_rfl) (by kernel_rfl) (by kernel_rfl) (by kernel_rfl) (fun _ _ _ h=>h) (Or.inl ⟨by rfl,?_⟩) hHeld0 ?_
 rotate_left
 · (intro w hSw;(try dsimp only at hSw);go_simp <;> with_reducible rfl)
 try simp only [Act.put,zD,zE,zF]
 refine wpAnyL_take (i:=10) (v:=?_) rfl (by kernel_rfl) (by kernel_rfl) (by kernel_rfl) (by kernel_rfl) (fun _ _ _ h=>h) (Or.inl ⟨by rfl,?_⟩) hHeld0 ?_
 rotate_left
 · (intro w hSw;(try dsimp only at hSw);go_simp <;> with_reducible rfl)
 try simp only [Act.put,zA,zB,zC,zD,zE,zF]
 refine wpAnyL_ready (rs:=[11]) (by kernel_rfl) (by simp) ?_
 refine AllL.cons rfl (fun K hK=>?_) AllL.nil
 go_simp
 with_reducible refine (swap_any b r.key r.old r.val _ HBD.out HX.out.2.2.2.2.1 HX.out.2.2.2.2.2.2 HX.out.2.2.2.2.2.1.key HX.out.2.2.2.2.2.1.old HX.out.2.2.2.2.2.1.val).mono ?_
 rintro e w1 ⟨A2,c2,rfl,hat1,hb1⟩
 generalize hg:(swapR b r.key r.old r.val)=rs at hat1
 obtain ⟨er,l2⟩:=rs
 have HG:=Lib.hid hg
 clear hg
 dsimp only [RBk.v] at hat1
 have hb1':Below W.heap.size W w1:=⟨hb1.os,hb1.tape,hb1.output,hb1.size,hb1.block⟩
 have qm1:=HX.out.1.below hb1' HX.out.1.lt
 have qr1:=HX.out.2.1.below hb1' HX.out.2.1.lt
 have q81:=HX.out.2.2.1.below hb1' HX.out.2.2.1.lt
 dsimp only [RBk.v]
 have hHeld1:=HC.out w1 qm1 qr1
 refine hK.out _ _ (fun _=>hHeld1) ?_
 clear hK K
 try simp only [Act.put,zA,zB,zC,zD,zE,zF]
 refine wpAnyL_take (i:=12) (v:=?_) rfl (by kernel_rfl) (by kernel_rfl) (by kernel_rfl) (by kernel_rfl) (fun _ _ _ h=>h) (Or.inl ⟨by rfl,?_⟩) hHeld1 ?_
 rotate_left
 · (intro w hSw;(try dsimp only at hSw);go_simp <;> with_reducible rfl)
 try simp only [Act.put,zA,zB,zC,zD,zE,zF]
 refine wpAnyL_take (i:=13) (v:=?_) rfl (by kernel_rfl) (by kernel_rfl) (by kernel_rfl) (by kernel_rfl) (fun _ _ _ h=>h) (Or.inl ⟨by rfl,?_⟩) hHeld1 ?_
 rotate_left
 · (intro w hSw;(try dsimp only at hSw);go_simp <;> with_reducible rfl)
 try simp only [Act.put,zA,zB,zC,zD,zE,zF]
 refine wpAnyL_free (i:=14) (v:=?_) rfl (by kernel_rfl) (by kernel_rfl) (by kernel_rfl) (by kernel_rfl) (fun _ _ _ h=>h) (Or.inl ⟨by rfl,?_⟩) (fun _=>hHeld1) ?_
 rotate_left
 · (intro w hSw;go_simp <;> with_reducible rfl)
 try simp only [Act.put,zA,zB,zC,zD,zE,zF]
 refine wpAnyL_take (i:=15) (v:=?_) rfl (by kernel_rfl) (by kernel_rfl) (by kernel_rfl) (by kernel_rfl) (fun _ _ _ h=>h) (Or.inl ⟨by rfl,?_⟩) hHeld1 ?_
 rotate_left
 · (intro w hSw;(try dsimp only at hSw);go_simp <;> with_reducible rfl)
 try simp only [Act.put,zA,zB,zC,zD,zE,zF]
 refine wpAnyL_take (i:=16) (v:=?_) rfl (by kernel_rfl) (by kernel_rfl) (by kernel_rfl) (by kernel_rfl) (fun _ _ _ h=>h) (Or.inl ⟨by rfl,?_⟩) hHeld1 ?_
 rotate_left
 · (intro w hSw;(try dsimp only at hSw);go_simp <;> with_reducible rfl)
 try simp only [Act.put,zA,zB,zC,zD,zE,zF]
 refine wpAnyL_ready (rs:=[17]) (by kernel_rfl) (by simp) ?_
 refine AllL.cons rfl (fun K hK=>?_) AllL.nil
 rw [if_pos (by kernel_rfl)]
 refine wp_store_mid 62 (.tmp 93) (.tmp 90) rfl gm (t * 16 + 2) #[.slice A2 l2.length c2,.int .u64 b.qk,.int .u64 b.qb] rfl rfl (there_mid qm1 (by rw [show (rcells R).toArray.size=272 by rw [List.size_toArray,rcells_len HS.out]];show t * 16 + 2 + 3 ≤ 272;omega)) infoBk1 (by simp [Value.oneCell']) ?_
 refine hK.out _ _ (fun h=>Bool.noConfusion (show true=false from h)) ?_
 clear hK K
 try simp only [Act.put,zD,zE,zF]
 have qm2:Blk (w1.setCells gm (t * 16 + 2) [.slice A2 l2.length c2,.int .u64 b.qk,.int .u64 b.qb]) gm 66 (rcells (updR R t { R t with bk:=⟨A2,c2,l2,b.qk,b.qb⟩ })).toArray:=book_set (b:=⟨A2,c2,l2,b.qk,b.qb⟩) qm1 HS.out (by omega)
 have hm1:=HC.out w1 qm1 qr1
 have hat2:RBk.at_ ⟨A2,c2,l2,b.qk,b.qb⟩ (w1.setCells gm (t * 16 + 2) [.slice A2 l2.length c2,.int .u64 b.qk,.int .u64 b.qb]):=by
  have e1:=hat1.cell (v:=.slice A2 l2.length c2) hm1.1 (fun s h=>by cases h)
  have e2:=e1.cell (p:=⟨gm,t * 16 + 3,none⟩) (v:=.int .u64 b.qk) (cell_off (by omega) hm1.2.1) (fun s h=>by cases h)
  exact e2.cell (p:=⟨gm,t * 16 + 4,none⟩) (v:=.int .u64 b.qb) (cell_off (by omega) (cell_off (by omega) hm1.2.2.1)) (fun s h=>by cases h)
 have hne:g8 ≠ gm:=Ne.symm (blk_ne qm1 q81 (by decide))
 have q82:Blk (w1.setCells gm (t * 16 + 2) [.slice A2 l2.length c2,.int .u64 b.qk,.int .u64 b.qb]) g8 52 zeroA:=(Below.heap_setCell _ _ _ g8 hne).trans ((Below.heap_setCell _ _ _ g8 hne).trans ((Below.heap_setCell _ _ _ g8 hne).trans q81))
 have hbw:∀ B w,B ≤ g8→B ≤ gm→Below B w W→Below B w (w1.setCells gm (t * 16 + 2) [.slice A2 l2.length c2,.int .u64 b.qk,.int .u64 b.qb]):=fun B w h8 hm hb=>(((below_of (by have:=HX.out.2.2.1.lt;omega) hb hb1').setCell (p:=⟨gm,t * 16 + 2,none⟩) hm _).setCell (p:=⟨gm,t * 16 + 3,none⟩) hm _).setCell (p:=⟨gm,t * 16 + 4,none⟩) hm _
 have hkw:∀ i,i < W.heap.size→i ≠ gm→(w1.setCells gm (t * 16 + 2) [.slice A2 l2.length c2,.int .u64 b.qk,.int .u64 b.qb]).heap[i]?=W.heap[i]?:=fun i hi hm=>(Below.heap_setCell _ _ _ i hm).trans ((Below.heap_setCell _ _ _ i hm).trans ((Below.heap_setCell _ _ _ i hm).trans (hb1'.block i hi)))
 have HE:=Lib.hid (And.intro qm2 (And.intro hat2 (And.intro hbw hkw)))
 clear qm2 hat2 hbw hm1 hat1 hkw
 generalize w1.setCells gm (t * 16 + 2) [.slice A2 l2.length c2,.int .u64 b.qk,.int .u64 b.qb]=w2 at HE q82 ⊢
 have c80:w2.cell? ⟨g8,0,none⟩=some (.int .i64 0):=q82.cell 0
 have f80:=q82.frozen 0
 try simp only [Act.put,zA,zB,zC,zD,zE,zF]
 refine wpAnyL_free (i:=18) (v:=?_) rfl (by kernel_rfl) (by kernel_rfl) (by kernel_rfl) (by kernel_rfl) (fun _ _ _ h=>h) (Or.inl ⟨by rfl,?_⟩) (fun h=>Bool.noConfusion (show true=false from h)) ?_
 rotate_left
 · (intro w hSw;go_simp <;> with_reducible rfl)
 try simp only [Act.put,zA,zB,zC,zD,zE,zF]
 refine wpAnyL_ready (rs:=[19]) (by kernel_rfl) (by simp) ?_
 refine AllL.cons rfl (fun K hK=>?_) AllL.nil
 go_simp
 refine hK.out _ _ (fun h=>Bool.noConfusion (show true=false from h)) ?_
 clear hK K
 try simp only [Act.put,zA,zB,zC,zD,zE,zF]
 refine wpAnyL_done (by kernel_rfl) ?_ _
 have q83:=q82.set_ 0 (.int .i64 er)
 have qm3:=(Below.heap_setCell w2 ⟨g8,0,none⟩ (.int .i64 er) gm (blk_ne HE.out.1 q82 (by decide))).trans HE.out.1
 exact NoPanic.normal (HQ.out _ _ _ _ _ _ _ _ _ _ _ _ _ _ _ _ _ _ _ ⟨A2,c2,l2,b.qk,b.qb⟩ er (HG.out.symm.trans HR0.out) rfl rfl (HE.out.2.1.cell c80 (fun s h=>by cases h)) qm3 q83 (fun B w h8 hm hb=>(HE.out.2.2.1 B w h8 hm hb).setCell (p:=⟨g8,0,none⟩) h8 _) (fun i hi hm h8=>(Below.heap_setCell _ _ _ i h8).trans (HE.out.2.2.2 i hi hm)))
end Go.Proofs.YtkgflepgkhnclaaGreatDoor
