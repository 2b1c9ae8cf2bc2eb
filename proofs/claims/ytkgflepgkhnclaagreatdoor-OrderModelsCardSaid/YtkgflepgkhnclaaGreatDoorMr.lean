/- Layer 27: order: Search. Layer 27: slices.Equal at equal rows of ints. Layer 27: awake: the chapter's example. Layer 27: awake. Layer 27: awake, whole. Layer 27: the ten tables of the library, as the card lays them. Layer 27: a slice of codes that came in. Layer 27: OrderModels: what the arguments hold. OrderModels: for every input the call returns true, and what was there stays as it was. The card ties what the package variable holds to the program's text. No other condition. -/
import Derived.Test.YtkgflepgkhnclaaGreatDoorMq
import Derived.Test.YtkgflepgkhnclaaGreatDoorMd
import Derived.Lib.PrintData
import Derived.Test.YtkgflepgkhnclaaGreatDoorMo2
import Derived.Lib.LaidIn
import Derived.Lib.LaidSlice
import Derived.Lib.LaidPrint
import Derived.LaidMore
import Derived.ProofKit
import Derived.OpenShut
import Derived.Stop.Joined
import Derived.Test.YtkgflepgkhnclaaGreatDoorMe
import Derived.Test.YtkgflepgkhnclaaGreatDoorMc
import Derived.Test.YtkgflepgkhnclaaGreatDoorMp
import Derived.Test.YtkgflepgkhnclaaGreatDoorCards
import Derived.Test.YtkgflepgkhnclaaGreatDoorTie
import Derived.SevenTiedAt
namespace Go.Proofs.YtkgflepgkhnclaaGreatDoor
set_option linter.unusedVariables false
set_option linter.unusedSimpArgs false
open Go.RowKit Go.Shelf
attribute [local go_sem] run_store_complex
variable {Xa Xb Xc Xd Xe Xf Xg Xh Xi Xj Xk Xl Xm Xn Xo Xp Xq Xr Xs Xt Xu Xv Xw Xx Xy Xz Ya Yb Yc Yd Ye Yf Yg Yh Yi Yj Yk Yl Ym Yn Yo Yp Yq Yr Ys Yt Yu Yv Yw Yx Yy Yz Za Zb Zc Zd Ze Zf Zg Zh Zi Zj Zk Zl Zm Zn Zo Zp Zq Zr Zs Zt Zu Zv Zw Zx Zy Zz Ja Jb Jc Jd Je Jf Jg Jh Ji Jj Jk Jl Jm Jn Jo Jp Jq Jr Js Jt Ju Jv Jw Jy Jz Va Vb Vc Vd Ve Vf Vg Vh Vi Vj Vk Vl Vm Vn Vo Vp Vq Vr Vs Vt Vu Vv Vw Vx Vy Vz Oa Ob Oc Od Oe Og Oh Oi Oj Ok Ol Om On Oo Oq Ot Ou Ov Ox Oy Oz Ha Hb Hc He Hf Hg Hh Hi Hj Hk Hl Hm Hn Ho Hp Hq Hr Hs Ht Hu Hv Hw Hx Hy Hz Ia Ib Ic Id Ie If Ig Ih Ii Ij Ik Il Im In Io Ip Iq Ir It Iu Iv Iw Ix Iy Iz Ua Ub Uc Ud Ue Uf Ug Uh Ui Uj Uk Ul:Value}
theorem run_store_fn {P:Program} {w:World} (a:Addr) (m:Mode) (f:Fn) (ts cs:Array Value):(store a (.func f ts cs) m).run P w=stored P w a (.func f ts cs) m:=run_store P w a _ m rfl
attribute [local go_sem] run_store_fn
theorem all_bits {n:Nat} (hn:n ≤ 6):IntKind.i64.wrap (IntKind.i64.wrap (2 ^ n) - 1)=((2 ^ n - 1:Nat):Int):=by
 have:∀ k:Fin 7,IntKind.i64.wrap (IntKind.i64.wrap (2 ^ k.val) - 1)=((2 ^ k.val - 1:Nat):Int):=by decide +kernel
 exact this ⟨n,by omega⟩
set_option maxHeartbeats 6400000 in
set_option maxRecDepth 100000 in
theorem se_run {W:World} {wk al n ca:Nat} {A:Option Addr} {b:WB} {Q:Exit→Act→World→Prop} {bb:Bool} {R:World→Prop} (h0:W.cell? ⟨wk,0,none⟩=some (.func (.func 79) #[] #[.pointer (some ⟨b.dd,0,none⟩),.pointer (some ⟨b.al,0,none⟩),.pointer (some ⟨b.dx,0,none⟩),.pointer (some ⟨b.lx,0,none⟩),.pointer (some ⟨b.od,0,none⟩),.pointer (some ⟨b.wk,0,none⟩)])∧W.cell? ⟨al,0,none⟩=some (.slice A n ca)) (h1:wk < W.heap.size) (h2:al < W.heap.size) (hn:n ≤ 6)
 (hc:∀ (q:Nat) (V:World),Below W.heap.size W V→ModelAt V q mdl0 ows0→W.heap.size ≤ q→Calls Tryz.prog 79 #[.pointer (some ⟨q,0,none⟩),.int .i64 (2 ^ n - 1:Nat),.pointer (some ⟨b.dd,0,none⟩),.pointer (some ⟨b.al,0,none⟩),.pointer (some ⟨b.dx,0,none⟩),.pointer (some ⟨b.lx,0,none⟩),.pointer (some ⟨b.od,0,none⟩),.pointer (some ⟨b.wk,0,none⟩)] V (fun e w'=>e=.returned (.bool bb)∧R w')) (hk:∀ w',R w'→w'.cell? ⟨wk,0,none⟩=some (.func (.func 79) #[] #[.pointer (some ⟨b.dd,0,none⟩),.pointer (some ⟨b.al,0,none⟩),.pointer (some ⟨b.dx,0,none⟩),.pointer (some ⟨b.lx,0,none⟩),.pointer (some ⟨b.od,0,none⟩),.pointer (some ⟨b.wk,0,none⟩)])∧w'.cell? ⟨al,0,none⟩=some (.slice A n ca))
 (hQ:∀ (s29 s30 s31 s32 s33 s34 s35:Value) (W':World),R W'→Q .normal ⟨#[Xa,Xb,Xc,Xd,Xe,Xf,Xg,Xh,.pointer (some ⟨al,0,none⟩),Xj,Xk,.pointer (some ⟨wk,0,none⟩),Xm,Xn,Xo,Xp,Xq,Xr,Xs,Xt,Xu,Xv,Xw,Xx,Xy,Xz,Ya,Yb,Yc,s29,s30,s31,s32,s33,s34,s35,.bool (!bb),Yl],[]⟩ W') :
 Code.wp Tryz.prog (part Tryz.f36 [1,1,1,1,1,1,1,1,0,0]) Q ⟨#[Xa,Xb,Xc,Xd,Xe,Xf,Xg,Xh,.pointer (some ⟨al,0,none⟩),Xj,Xk,.pointer (some ⟨wk,0,none⟩),Xm,Xn,Xo,Xp,Xq,Xr,Xs,Xt,Xu,Xv,Xw,Xx,Xy,Xz,Ya,Yb,Yc,Yd,Ye,Yf,Yg,Yh,Yi,Yj,Yk,Yl],[]⟩ W:=by
 conv=>arg 2;whnf
 have HQ:=Lib.hid hQ
 have HC:=Lib.hid hc
 have HK:=Lib.hid hk
 have HF:Hid (∀ V:World,Below W.heap.size W V→V.cell? ⟨wk,0,none⟩=some (.func (.func 79) #[] #[.pointer (some ⟨b.dd,0,none⟩),.pointer (some ⟨b.al,0,none⟩),.pointer (some ⟨b.dx,0,none⟩),.pointer (some ⟨b.lx,0,none⟩),.pointer (some ⟨b.od,0,none⟩),.pointer (some ⟨b.wk,0,none⟩)])∧V.cell? ⟨al,0,none⟩=some (.slice A n ca)):=Lib.hid (fun V hb=>⟨(hb.cell (p:=⟨wk,0,none⟩) h1).trans h0.1,(hb.cell (p:=⟨al,0,none⟩) h2).trans h0.2⟩)
 have HD:=Lib.hid ((Below.refl W.heap.size W).drew)
 have h0:=HF.out _ HD.out
 have n1:(0:Int) ≤ (n:Int):=by omega
 have n2:(n:Int) ≤ 6:=by omega
 have hab:=all_bits hn
 clear hQ hc hk
 refine wp_region_noPanic ?_
 refine wp_region_held_drew (S:=(fun V:World=>V.cell? ⟨wk,0,none⟩=some (.func (.func 79) #[] #[.pointer (some ⟨b.dd,0,none⟩),.pointer (some ⟨b.al,0,none⟩),.pointer (some ⟨b.dx,0,none⟩),.pointer (some ⟨b.lx,0,none⟩),.pointer (some ⟨b.od,0,none⟩),.pointer (some ⟨b.wk,0,none⟩)])∧V.cell? ⟨al,0,none⟩=some (.slice A n ca))) (by kernel_rfl) ?_ (fun hHeld0=>?_)
 · exact h0
 refine tk (i:=0) (v:=?_) rfl (Or.inl ⟨by rfl,?_⟩) hHeld0 ?_
 rotate_left
 · (intro w hSw;(try dsimp only at hSw);go_simp <;> with_reducible rfl)
 try simp only [Act.put,zD,zE,zF]
 refine tk (i:=2) (v:=?_) rfl (Or.inl ⟨by rfl,?_⟩) hHeld0 ?_
 rotate_left
 · (intro w hSw;(try dsimp only at hSw);go_simp <;> with_reducible rfl)
 try simp only [Act.put,zD,zE,zF]
 refine tk (i:=3) (v:=?_) rfl (Or.inl ⟨by rfl,?_⟩) hHeld0 ?_
 rotate_left
 · (intro w hSw;(try dsimp only at hSw);go_simp <;> with_reducible rfl)
 try simp only [Act.put,zD,zE,zF]
 refine tk (i:=4) (v:=?_) rfl (Or.inl ⟨by rfl,?_⟩) hHeld0 ?_
 rotate_left
 · (intro w hSw;(try dsimp only at hSw);go_simp <;> with_reducible rfl)
 try simp only [Act.put,zD,zE,zF]
 refine tk (i:=5) (v:=?_) rfl (Or.inl ⟨by rfl,?_⟩) hHeld0 ?_
 rotate_left
 · (intro w hSw;(try dsimp only at hSw);go_simp <;> with_reducible rfl)
 try simp only [Act.put,zA,zB,zC,zD,zE,zF]
 refine wpAnyH_ready (rs:=[1]) (by kernel_rfl) (by simp) ?_
 refine AllReadyH.cons rfl (fun K hK=>?_) AllReadyH.nil
 go_simp
 with_reducible refine (new_m _).mono ?_
 rintro e w8 ⟨rfl,hm8,hb8⟩
 have hb8':=below_trans HD.out hb8
 have hm9:ModelAt w8 W.heap.size mdl0 ows0:=hm8
 refine hK.out _ _ ?_ (fun hHeld1=>?_)
 · exact HF.out _ hb8'
 clear hK K hHeld0
 try simp only [Act.put,zA,zB,zC,zD,zE,zF]
 refine wpAnyH_ready (rs:=[6]) (by kernel_rfl) (by simp) ?_
 refine AllReadyH.cons rfl (fun K hK=>?_) AllReadyH.nil
 go_simp
 try rw [hab]
 with_reducible refine (HC.out W.heap.size _ hb8' hm9 (Nat.le_refl _)).mono ?_
 rintro e w9 ⟨rfl,h9⟩
 refine hK.out _ _ ?_ (fun hHeld2=>?_)
 · exact HK.out _ h9
 clear hK K hHeld1
 try simp only [Act.put,zA,zB,zC,zD,zE,zF]
 refine tk (i:=7) (v:=?_) rfl (Or.inl ⟨by rfl,?_⟩) hHeld2 ?_
 rotate_left
 · (intro w hSw;(try dsimp only at hSw);go_simp <;> with_reducible rfl)
 try simp only [Act.put,zA,zB,zC,zD,zE,zF]
 refine wpAnyH_done (by kernel_rfl) ?_ _
 exact NoPanic.normal (HQ.out _ _ _ _ _ _ _ w9 h9)
theorem wk_new {w w4:World} {X:Sx} {vl vd va:Value} {lx:Nat} (hb:Below w.heap.size w w4) (q2:Blk w4 lx 31 #[vl]) (q3:Blk w4 (lx + 1) 85 #[vd]) (ho:w4.ownsRow w.heap.size 3 1 va X.all.length (X.all.map intV)) :
 WkAt w X ⟨w4.heap.size + 1 + 1,w4.heap.size,lx + 1,lx,w4.heap.size + 1 + 1 + 1,w4.heap.size + 1 + 1 + 1 + 1,w4.heap.size + 1⟩ vl vd va (.slice none 0 0) [] [] (((((w4.alloc (.cells #[va] 82)).alloc (.map #[] 0)).alloc (.cells #[.map (some (w4.heap.size + 1))] 140)).alloc (.cells #[.slice none 0 0] 82)).alloc (.cells #[.func (.func 79) #[] #[.pointer (some ⟨w4.heap.size + 1 + 1,0,none⟩),.pointer (some ⟨w4.heap.size,0,none⟩),.pointer (some ⟨lx + 1,0,none⟩),.pointer (some ⟨lx,0,none⟩),.pointer (some ⟨w4.heap.size + 1 + 1 + 1,0,none⟩),.pointer (some ⟨w4.heap.size + 1 + 1 + 1 + 1,0,none⟩)]] 141)) where
 dd:=by
  have h:Blk (((w4.alloc (.cells #[va] 82)).alloc (.map #[] 0)).alloc (.cells #[.map (some (w4.heap.size + 1))] 140)) (w4.heap.size + 1 + 1) 140 #[.map (some (w4.heap.size + 1))]:=blk_at (by simp)
  exact (h.alloc _).alloc _
 dm:=by
  have h1:=StrMap.made (w4.alloc (.cells #[va] 82))
  have h2:=((h1.alloc (.cells #[.map (some (w4.heap.size + 1))] 140)).alloc (.cells #[.slice none 0 0] 82)).alloc (.cells #[.func (.func 79) #[] #[.pointer (some ⟨w4.heap.size + 1 + 1,0,none⟩),.pointer (some ⟨w4.heap.size,0,none⟩),.pointer (some ⟨lx + 1,0,none⟩),.pointer (some ⟨lx,0,none⟩),.pointer (some ⟨w4.heap.size + 1 + 1 + 1,0,none⟩),.pointer (some ⟨w4.heap.size + 1 + 1 + 1 + 1,0,none⟩)]] 141)
  rw [show (w4.alloc (.cells #[va] 82)).heap.size=w4.heap.size + 1 by simp] at h2
  exact h2
 al:=(((((Blk.new w4 82 #[va]).alloc _).alloc _).alloc _).alloc _)
 dx:=(((((q3.alloc _).alloc _).alloc _).alloc _).alloc _)
 lx:=(((((q2.alloc _).alloc _).alloc _).alloc _).alloc _)
 od:=by
  have h:Blk ((((w4.alloc (.cells #[va] 82)).alloc (.map #[] 0)).alloc (.cells #[.map (some (w4.heap.size + 1))] 140)).alloc (.cells #[.slice none 0 0] 82)) (w4.heap.size + 1 + 1 + 1) 82 #[.slice none 0 0]:=blk_at (by simp)
  exact h.alloc _
 wk:=by
  show Blk _ (w4.heap.size + 1 + 1 + 1 + 1) _ _
  unfold WB.caps
  exact blk_at (by simp)
 arow:=(((((ho.alloc _).alloc _).alloc _).alloc _).alloc _)
 orow:=⟨by simp,.inl ⟨rfl,by simp⟩⟩
 apart:=fun g e=>by cases e
 ne:=by show w4.heap.size ≠ w4.heap.size + 1 + 1 + 1;omega
 ge:=⟨by show w.heap.size ≤ w4.heap.size + 1 + 1 + 1;have:=hb.size;omega,by show w.heap.size ≤ w4.heap.size + 1;have:=hb.size;omega⟩
 bel:=below_alloc (below_alloc (below_alloc (below_alloc (below_alloc hb _) _) _) _) _
 vals:=fun k v h=>by cases h
def SearchEnd (o:Option (List Nat)) (w:World) (e:Ending) (w':World):Prop :=
 Below w.heap.size w w'∧(o=none→e=.returned (.tuple #[.slice none 0 0,.int .i64 5]))∧∀ l,o=some l→∃ v,e=.returned (.tuple #[v,.int .i64 0])∧w'.ownsRow w.heap.size 3 1 v l.length (l.map intV)
set_option maxHeartbeats 400000 in
set_option maxRecDepth 100000 in
theorem search_any {w:World} {X:Sx} {ge oe gd od W1 c c2:Nat} (hX:SxAt w X ge oe gd od W1) (Pm:Nat→Mdl→Prop) (hPm:∀ f M i M',Pm (f + 1) M→X.step M i=some M'→Pm f M') (hTx:∀ f M,Pm f M→∀ W p O,ModelAt W p M O→TxSmall M) (hall:X.all=deedsN X.es X.ds X.ds.length) (hch:(checkN X.es X.ds).2=0)
 (f:Nat) (hf:2 ^ X.all.length - 1 < f) (hf2:f ≤ 1000) (hP:Pm f mdl0) :
 Calls Tryz.prog 36 #[.slice (some ⟨ge,oe,none⟩) X.es.length c,.slice (some ⟨gd,od,none⟩) X.ds.length c2] w (SearchEnd (X.walk f mdl0 (2 ^ X.all.length - 1) [] []).1 w):=by
 have HX:=Lib.hid hX
 have hE:EsAt w (some ⟨ge,oe,none⟩) X.es:=fun _=>⟨ge,oe,rfl,hX.es.1,hX.es.2⟩
 have hD:DsAt w (some ⟨gd,od,none⟩) X.ds:=fun _=>⟨gd,od,rfl,hX.ds.1,hX.ds.2⟩
 have hfew:=hX.few
 have hl1:=hX.ok.few2
 have hl2:=hX.ok.few
 have HE:=Lib.hid hE
 have HD:=Lib.hid hD
 obtain ⟨ci,hci⟩:∃ i,(checkN X.es X.ds).1=i:=⟨_,rfl⟩
 have hcc:checkN X.es X.ds=(ci,0):=by rw [← hci,← hch]
 have HCC:=Lib.hid hcc
 have HWK:=Lib.hid (fun (b:WB) (va:Value)=>walk_any (c:=c) (c2:=c2) hX Pm hPm hTx b va f mdl0)
 have HALL:=Lib.hid hall
 have HF:=Lib.hid (And.intro hf (And.intro hf2 hP))
 have h64:2 ^ X.all.length - 1 < 64:=by
  have:2 ^ X.all.length ≤ 2 ^ 6:=Nat.pow_le_pow_right (by omega) hfew
  omega
 have H64:=Lib.hid h64
 obtain ⟨rr,hrr⟩:∃ rr,X.walk f mdl0 (2 ^ X.all.length - 1) [] []=rr:=⟨_,rfl⟩
 rw [hrr]
 have HRR:=Lib.hid hrr
 clear hX hE hD hci hcc hch hPm hTx hall hf hf2 hP hrr h64
 go_enter Tryz.func36,Tryz.ntmps36
 refine wp_seq_k fun K0 hK=>?_
 have HK0:=Lib.hid hK
 clear hK
 go_wp2_with fail
 refine HK0.out _ _ ?_
 clear HK0
 try simp only [Act.put]
 have hb1:=below_alloc (below_box w (.cells #[.slice (some ⟨ge,oe,none⟩) X.es.length c] 31)) (.cells #[.slice (some ⟨gd,od,none⟩) X.ds.length c2] 85)
 have q2:Blk ((w.alloc (.cells #[.slice (some ⟨ge,oe,none⟩) X.es.length c] 31)).alloc (.cells #[.slice (some ⟨gd,od,none⟩) X.ds.length c2] 85)) w.heap.size 31 #[.slice (some ⟨ge,oe,none⟩) X.es.length c]:=(Blk.new w _ _).alloc _
 have q3:Blk ((w.alloc (.cells #[.slice (some ⟨ge,oe,none⟩) X.es.length c] 31)).alloc (.cells #[.slice (some ⟨gd,od,none⟩) X.ds.length c2] 85)) (w.heap.size + 1) 85 #[.slice (some ⟨gd,od,none⟩) X.ds.length c2]:=blk_at (by simp)
 obtain ⟨lx,hlx⟩:∃ n,w.heap.size=n:=⟨_,rfl⟩
 generalize hwa:(w.alloc (.cells #[.slice (some ⟨ge,oe,none⟩) X.es.length c] 31)).alloc (.cells #[.slice (some ⟨gd,od,none⟩) X.ds.length c2] 85)=wa at hb1 q2 q3 ⊢
 rw [hlx] at q2 q3 ⊢
 have HLX:=Lib.hid hlx
 clear hwa hlx
 have HB1:=Lib.hid (And.intro hb1 (And.intro q2 q3))
 have c2':=q2.cell 0
 rw [show (#[.slice (some ⟨ge,oe,none⟩) X.es.length c]:Array Value)[0]?=some (.slice (some ⟨ge,oe,none⟩) X.es.length c) from rfl] at c2'
 have c3':=q3.cell 0
 rw [show (#[.slice (some ⟨gd,od,none⟩) X.ds.length c2]:Array Value)[0]?=some (.slice (some ⟨gd,od,none⟩) X.ds.length c2) from rfl] at c3'
 clear hb1 q2 q3
 refine wp_seq_k fun K0 hK=>?_
 have HK0:=Lib.hid hK
 clear hK
 have hck:=Check_any (c:=c) (c2:=c2) (HE.out.below HB1.out.1).reads (HD.out.below HB1.out.1) (by omega) (by omega)
 rw [HCC.out] at hck
 have HCK:=Lib.hid hck
 clear hck
 go_wp2_with fail
 refine HCK.out.mono ?_
 rintro e w3 ⟨rfl,hb3⟩
 have HB3:=Lib.hid (below_trans HB1.out.1 hb3)
 have HQ3:=Lib.hid (And.intro (HB1.out.2.1.below hb3 HB1.out.2.1.lt) (HB1.out.2.2.below hb3 HB1.out.2.2.lt))
 clear HB1 c2' c3' hb3
 have c2':=HQ3.out.1.cell 0
 rw [show (#[.slice (some ⟨ge,oe,none⟩) X.es.length c]:Array Value)[0]?=some (.slice (some ⟨ge,oe,none⟩) X.es.length c) from rfl] at c2'
 have c3':=HQ3.out.2.cell 0
 rw [show (#[.slice (some ⟨gd,od,none⟩) X.ds.length c2]:Array Value)[0]?=some (.slice (some ⟨gd,od,none⟩) X.ds.length c2) from rfl] at c3'
 go_wp2_with fail
 refine HK0.out _ _ ?_
 clear HK0
 try simp only [Act.put]
 refine wp_seq_k fun K0 hK=>?_
 have HK0:=Lib.hid hK
 clear hK
 go_wp2_with fail
 refine (deedsOf_any (HE.out.below HB3.out) (HD.out.below HB3.out) (by omega) hl1 (fun i hi=>(HX.out.ok.done i hi).1)).mono ?_
 rintro e w4 ⟨va,rfl,hown,hb4⟩
 rw [← HALL.out] at hown
 obtain ⟨A4,ca,rfl,-⟩:=own_form hown
 have hown2:=own_base hown (HB3.out.size)
 have HB4:=Lib.hid (below_trans HB3.out hb4)
 have HQ4:=Lib.hid (And.intro (HQ3.out.1.below hb4 HQ3.out.1.lt) (HQ3.out.2.below hb4 HQ3.out.2.lt))
 clear HB3 HQ3 c2' c3' hb4 hown
 have HO4:=Lib.hid hown2
 clear hown2
 go_wp2_with fail
 refine HK0.out _ _ ?_
 clear HK0
 try simp only [Act.put]
 have c8:=(Blk.new w4 82 #[.slice A4 X.all.length ca]).cell 0
 rw [show (#[.slice A4 X.all.length ca]:Array Value)[0]?=some (.slice A4 X.all.length ca) from rfl] at c8
 have hn6:(X.all.length:Int) ≤ 6:=by omega
 have hmm:=@run_makeMap Tryz.prog
 refine wp_seq_k fun K0 hK=>?_
 have HK0:=Lib.hid hK
 clear hK
 go_wp2_with fail
 refine HK0.out _ _ ?_
 clear HK0
 try simp only [Act.put]
 refine wp_seq_k fun K0 hK=>?_
 have HK0:=Lib.hid hK
 clear hK
 go_wp2_with fail
 refine HK0.out _ _ ?_
 clear HK0
 try simp only [Act.put]
 refine wp_seq_k fun K0 hK=>?_
 have HK0:=Lib.hid hK
 clear hK
 go_wp2_with fail
 refine HK0.out _ _ ?_
 clear HK0
 try simp only [Act.put]
 refine wp_seq_k fun K0 hK=>?_
 have HK0:=Lib.hid hK
 clear hK
 go_wp2_with fail
 refine HK0.out _ _ ?_
 clear HK0
 try simp only [Act.put]
 refine wp_seq_k fun K0 hK=>?_
 have HK0:=Lib.hid hK
 clear hK
 go_wp2_with fail
 refine HK0.out _ _ ?_
 clear HK0
 try simp only [Act.put]
 have hwk:=wk_new (X:=X) HB4.out HQ4.out.1 HQ4.out.2 HO4.out
 have HW:=Lib.hid hwk
 clear hwk c8 hmm
 refine wp_seq_k fun K0 hK=>?_
 have HK0:=Lib.hid hK
 clear hK
 refine wp_seq_k fun K1 hK=>?_
 have HK1:=Lib.hid hK
 clear hK
 have hwl:=HW.out.wk.lt
 have hal:=HW.out.al.lt
 refine se_run (n:=X.all.length) (bb:=rr.1.isSome) (b:=(⟨w4.heap.size + 1 + 1,w4.heap.size,lx + 1,lx,w4.heap.size + 1 + 1 + 1,w4.heap.size + 1 + 1 + 1 + 1,w4.heap.size + 1⟩:WB)) (R:=fun w'=>∃ vo',WkAt w X (⟨w4.heap.size + 1 + 1,w4.heap.size,lx + 1,lx,w4.heap.size + 1 + 1 + 1,w4.heap.size + 1 + 1 + 1 + 1,w4.heap.size + 1⟩:WB) (.slice (some ⟨ge,oe,none⟩) X.es.length c) (.slice (some ⟨gd,od,none⟩) X.ds.length c2) (.slice A4 X.all.length ca) vo' (rr.1.getD []) rr.2 w') ⟨HW.out.wk.cell 0,HW.out.al.cell 0⟩ hwl hal hfew (fun q V hV hm hq=>?_) (fun w' ⟨v,h⟩=>⟨h.wk.cell 0,h.al.cell 0⟩) ?_
 · have hc:=HWK.out _ _ (2 ^ X.all.length - 1) [] [] (.slice none 0 0) q ows0 V HF.out.1 H64.out HF.out.2.2 (by simp;exact HF.out.2.1) (HW.out.below hV) hm (fun hc=>?_)
   · rw [HRR.out] at hc
     refine hc.mono ?_
     rintro e w' ⟨h1,v,h2,_⟩
     exact ⟨h1,v,h2⟩
   · rcases hc with e | ⟨t,_,hs,_⟩
     · have h1:w4.heap.size + 1=q:=e
       have h2:(((((w4.alloc (.cells #[.slice A4 X.all.length ca] 82)).alloc (.map #[] 0)).alloc (.cells #[.map (some (w4.heap.size + 1))] 140)).alloc (.cells #[.slice none 0 0] 82)).alloc (.cells #[.func (.func 79) #[] #[.pointer (some ⟨w4.heap.size + 1 + 1,0,none⟩),.pointer (some ⟨w4.heap.size,0,none⟩),.pointer (some ⟨lx + 1,0,none⟩),.pointer (some ⟨lx,0,none⟩),.pointer (some ⟨w4.heap.size + 1 + 1 + 1,0,none⟩),.pointer (some ⟨w4.heap.size + 1 + 1 + 1 + 1,0,none⟩)]] 141)).heap.size=w4.heap.size + 1 + 1 + 1 + 1 + 1:=by simp
       rw [h2] at hq
       omega
     · simp [mdl0,ten0] at hs
 intro s29 s30 s31 s32 s33 s34 s35 wF hF
 obtain ⟨vo,hF⟩:=hF
 have HFF:=Lib.hid hF
 clear hF
 try dsimp only [Exit.inBlock,Exit.then]
 refine HK1.out _ _ ?_
 clear HK1
 obtain ⟨ro,rd⟩:=rr
 cases ro with
 | none =>
   go_wp2_with fail
   go_ret2
   exact ⟨HFF.out.bel,fun _=>rfl,fun l h=>(by cases h)⟩
 | some o =>
   go_wp2_with fail
   refine HK0.out _ _ ?_
   clear HK0
   have cod:=HFF.out.od.cell 0
   rw [show (#[vo]:Array Value)[0]?=some vo from rfl] at cod
   go_wp2_with fail
   go_ret2
   refine ⟨HFF.out.bel,fun h=>(by cases h),fun l h=>?_⟩
   injection h with h
   subst h
   exact ⟨vo,rfl,HFF.out.orow⟩
end Go.Proofs.YtkgflepgkhnclaaGreatDoor
namespace Go.Proofs.YtkgflepgkhnclaaGreatDoor
set_option linter.unusedVariables false
set_option linter.unusedSimpArgs false
open Go.RowKit Go.Shelf
set_option maxHeartbeats 1600000 in
theorem ints_same (l:List Nat) (A B:Option Addr) (ca cb W1 W2:Nat) (w:World) (hl:l.length ≤ 1000000) (hA:Reads w W1 1 A l.length (l.map intV)) (hB:Reads w W2 1 B l.length (l.map intV)) :
 Calls Tryz.prog 37 #[.slice A l.length ca,.slice B l.length cb] w (SameEnd true w):=by
 have HA:=Lib.hid hA
 have HB:=Lib.hid hB
 clear hA hB
 have hlb:((l.length:Int) != (l.length:Int))=false:=by simp
 go_enter Tryz.func37,Tryz.ntmps37
 go_wp2_with fail
 clear hlb
 go_loopw [13] (fun i wr=>∃ (k:Nat) (n:Nat),k ≤ l.length∧i=.int .i64 k∧Hid (wr=w.drewN n)) (fun i _=>l.length - (intOf i).toNat)
 case atStart=>exact ⟨0,0,by omega,rfl,Lib.hid rfl⟩
 case round =>
  obtain ⟨k,n,hk,rfl,hw⟩:=hrel
  by_cases hlt:k < l.length
  · obtain ⟨ad,rfl,hab,hc⟩:=HA.out.2 (by omega)
    obtain ⟨bd,rfl,hbb,hd⟩:=HB.out.2 (by omega)
    have q0:wr.cell? (ad.add k)=some (.int .i64 (l[k]:Nat)):=by rw [hw.out];exact hc k _ (by simp [hlt,intV])
    have p0:wr.cell? (bd.add k)=some (.int .i64 (l[k]:Nat)):=by rw [hw.out];exact hd k _ (by simp [hlt,intV])
    have i1:(0:Int) ≤ (k:Int):=by omega
    have i2:(k:Int) < (l.length:Int):=by omega
    generalize l[k]=x at q0 p0
    have hxx:((x:Int) != (x:Int))=false:=by simp
    clear hc hd
    go_wp2_with fail
    go_quiet (fail)
    go_wp2
    go_roundw
    case rel=>exact ⟨k + 1,_,by omega,by go_num,Lib.hid (by rw [hw.out,World.drewN_drewN])⟩
    case measure=>simp [intOf];omega
  · obtain rfl:k=l.length:=by omega
    go_wp2
    go_ret
    exact ⟨rfl,n,hw.out⟩
end Go.Proofs.YtkgflepgkhnclaaGreatDoor
namespace Go.Proofs.YtkgflepgkhnclaaGreatDoor
set_option linter.unusedVariables false
set_option linter.unusedSimpArgs false
open Go.RowKit Go.Shelf
attribute [local go_sem] run_store_complex
def sA:ByteArray:=⟨#[97]⟩
def sX:ByteArray:=⟨#[120]⟩
def s0:ByteArray:=⟨#[]⟩
def exE:List Ent:=[⟨0,⟨7,0,0,0,s0,s0,s0,0,1,1,9,0⟩⟩,⟨0,⟨2,1,1,7,sA,sX,s0,0,0,0,0,0⟩⟩,⟨1,⟨1,1,1,7,sA,s0,s0,0,0,0,0,0⟩⟩]
def exDn (e f a t:Int) (v:ByteArray):Dn:=⟨e,f,a,t,0,v,none,0,0,⟨0,0,0⟩,0,0,0,0,0,0,0,0,0,0,0,0⟩
def exD (f1 a1 t1 f2 a2 t2:Int):List Dn:=[exDn 0 0 0 0 s0,exDn 1 f1 a1 t1 s0,exDn 2 f2 a2 t2 sX]
abbrev noP:Nat→List Kv:=fun _=>[]
def exX (f1 a1 t1 f2 a2 t2:Int):Sx:=⟨exE,exD f1 a1 t1 f2 a2 t2,noP,[0,1,2],Lib.goPrintTabs⟩
theorem ex_i64 {n:Int} (h1:-100 ≤ n) (h2:n ≤ 100):I64 n:=⟨by omega,by omega⟩
theorem ex_req {r:Req} (h:r ∈ exE.map (·.r)):r.ok∧r.qk ≤ 50∧r.qb ≤ 50∧r.deed ≠ 6:=by
 have hs:s0.size=0∧sA.size=1∧sX.size=1:=⟨rfl,rfl,rfl⟩
 simp only [exE,List.map_cons,List.map_nil,List.mem_cons,List.mem_nil_iff,or_false] at h
 rcases h with rfl | rfl | rfl
 all_goals
  refine ⟨⟨ex_i64 (by decide) (by decide),ex_i64 (by decide) (by decide),by decide,by decide,?_,?_,?_,ex_i64 (by decide) (by decide),ex_i64 (by decide) (by decide),by decide,by decide,by decide⟩,by decide,by decide,by decide⟩
 all_goals dsimp only
 all_goals first
  | (rw [hs.1];omega)
  | (rw [hs.2.1];omega)
  | (rw [hs.2.2];omega)
theorem ex_ent (j:Nat) (hj:j < exE.length):exE[j].r.ok∧exE[j].r.qk ≤ 50∧exE[j].r.qb ≤ 50∧exE[j].r.deed ≠ 6:=ex_req (List.mem_map_of_mem (List.getElem_mem hj))
theorem ex_rp {w:World} (f1 a1 t1 f2 a2 t2:Int):RpOk w exE (exD f1 a1 t1 f2 a2 t2) noP 0 where
 pos:=by simp [exD]
 few:=by simp [exD]
 few2:=by simp [exE]
 done:=fun i hi=>by
  have rd:∀ A:Option Addr,Reads w 0 2 A 0 []:=fun A=>⟨rfl,fun h=>absurd h (by omega)⟩
  have dk:∀ e f a t v,DnOk (exDn e f a t v) []:=fun e f a t v=>⟨⟨by simp [exDn],by simp [exDn]⟩,by simp [exDn],rfl,by simp⟩
  match i,hi with
  | 0,_=>exact ⟨⟨0,rfl,by simp [exE]⟩,dk _ _ _ _ _,rd _⟩
  | 1,_=>exact ⟨⟨1,rfl,by simp [exE]⟩,dk _ _ _ _ _,rd _⟩
  | 2,_=>exact ⟨⟨2,rfl,by simp [exE]⟩,dk _ _ _ _ _,rd _⟩
 W1:=Nat.zero_le _
 ent:=fun j hj=>by
  obtain ⟨h1,h2,_,h4⟩:=ex_ent j hj
  exact ⟨h1,by omega,h4⟩
theorem exX_all (f1 a1 t1 f2 a2 t2:Int):(exX f1 a1 t1 f2 a2 t2).all=deedsN exE (exD f1 a1 t1 f2 a2 t2) (exD f1 a1 t1 f2 a2 t2).length:=by
 show [0,1,2]=deedsN exE (exD f1 a1 t1 f2 a2 t2) 3
 unfold deedsN
 simp [List.range_succ,deedD,exD,exE,exDn]
theorem exX_at {w:World} {f1 a1 t1 f2 a2 t2:Int} {gE gD:Nat} (ht:Tabs Lib.goPrintTabs w) (hE:Blk w gE 41 (exE.flatMap Ent.row).toArray) (hD:Blk w gD 90 ((exD f1 a1 t1 f2 a2 t2).flatMap Dn.row).toArray):SxAt w (exX f1 a1 t1 f2 a2 t2) gE 0 gD 0 0 where
 es:=⟨hE.lt,range_blk hE⟩
 ds:=⟨hD.lt,range_blk hD⟩
 ok:=ex_rp f1 a1 t1 f2 a2 t2
 all:=fun k hk=>by
  match k,hk with
  | 0,_=>show 0 < 3;omega
  | 1,_=>show 1 < 3;omega
  | 2,_=>show 2 < 3;omega
 few:=by show 3 ≤ 6;omega
 tabs:=ht
theorem ev_w1:witN exE (exD 1 6 12 2 7 13) noP=(3,0):=by decide +kernel
theorem ev_w2:witN exE (exD 1 6 12 2 4 13) noP=(2,9):=by decide +kernel
theorem ev_r1:(readyN exE (exD 1 6 12 2 7 13)).2=0:=by decide +kernel
theorem ev_r2:(readyN exE (exD 1 6 12 2 4 13)).2=0:=by decide +kernel
theorem ev_c1:(checkN exE (exD 1 6 12 2 7 13)).2=0:=by decide +kernel
theorem ev_c2:(checkN exE (exD 4 9 15 1 2 3)).2=0:=by decide +kernel
theorem ev_s1:((exX 1 6 12 2 7 13).walk 8 mdl0 7 [] []).1=some [0,1,2]:=by kernel_rfl
theorem ev_s2:((exX 4 9 15 1 2 3).walk 8 mdl0 7 [] []).1=none:=by kernel_rfl
def ExEnd (w:World) (e:Ending) (w':World):Prop :=
 ∃ gE gD,e=.returned (.tuple #[.slice (some ⟨gE,0,none⟩) 3 3,.slice (some ⟨gD,0,none⟩) 3 3])∧Blk w' gE 41 (exE.flatMap Ent.row).toArray∧Blk w' gD 90 ((exD 1 6 12 2 7 13).flatMap Dn.row).toArray∧Below w.heap.size w w'∧w.heap.size ≤ gD∧gE ≠ gD
set_option maxHeartbeats 3200000 in
set_option maxRecDepth 100000 in
theorem example_any (w:World):Calls Tryz.prog 24 #[] w (ExEnd w):=by
 go_enter Tryz.func24,Tryz.ntmps24
 go_wp2_with fail
 go_ret2
 refine ⟨w.heap.size + 1,w.heap.size + 1 + 1,rfl,?_,?_,below_alloc (below_alloc (below_box _ _) _) _,by omega,by omega⟩
 · refine Blk.alloc ?_ _
   exact blk_at (by simp)
 · exact blk_at (by simp)
structure AwAt (w:World) (gE gD:Nat) (d:List Dn) (W:World):Prop where
 e:Blk W gE 41 (exE.flatMap Ent.row).toArray
 d:Blk W gD 90 (d.flatMap Dn.row).toArray
 tabs:Tabs Lib.goPrintTabs w
 bel:Below w.heap.size w W
 ge:w.heap.size ≤ gD
 ne:gE ≠ gD
theorem AwAt.below {w W W':World} {gE gD:Nat} {d:List Dn} (h:AwAt w gE gD d W) (hb:Below W.heap.size W W'):AwAt w gE gD d W' :=
 ⟨h.e.below hb h.e.lt,h.d.below hb h.d.lt,h.tabs,below_trans h.bel hb,h.ge,h.ne⟩
theorem AwAt.es {w W:World} {gE gD:Nat} {d:List Dn} (h:AwAt w gE gD d W):EsAt W (some ⟨gE,0,none⟩) exE:=fun _=>⟨gE,0,rfl,h.e.lt,range_blk h.e⟩
theorem AwAt.ds {w W:World} {gE gD:Nat} {d:List Dn} (h:AwAt w gE gD d W):DsAt W (some ⟨gD,0,none⟩) d:=fun _=>⟨gD,0,rfl,h.d.lt,range_blk h.d⟩
theorem aw_wit {w W:World} {gE gD c c2:Nat} {f1 a1 t1 f2 a2 t2:Int} {r:Nat × Int} (h:AwAt w gE gD (exD f1 a1 t1 f2 a2 t2) W) (h1:(readyN exE (exD f1 a1 t1 f2 a2 t2)).2=0) (h2:witN exE (exD f1 a1 t1 f2 a2 t2) noP=r) :
 Calls Tryz.prog 35 #[.slice (some ⟨gE,0,none⟩) 3 c,.slice (some ⟨gD,0,none⟩) 3 c2] W (ChkEnd r W):=by
 have:=witness_any (c:=c) (c2:=c2) h.es h.ds (ex_rp f1 a1 t1 f2 a2 t2) h1
 rw [h2] at this
 exact this
theorem aw_sea {w W:World} {gE gD c c2:Nat} {f1 a1 t1 f2 a2 t2:Int} {o:Option (List Nat)} (h:AwAt w gE gD (exD f1 a1 t1 f2 a2 t2) W) (h1:(checkN exE (exD f1 a1 t1 f2 a2 t2)).2=0) (h2:((exX f1 a1 t1 f2 a2 t2).walk 8 mdl0 7 [] []).1=o) :
 Calls Tryz.prog 36 #[.slice (some ⟨gE,0,none⟩) 3 c,.slice (some ⟨gD,0,none⟩) 3 c2] W (SearchEnd o W):=by
 have:=search_any (c:=c) (c2:=c2) (exX_at (h.tabs.below h.bel) h.e h.d) QuM (quM_step (fun j hj=>by
  obtain ⟨a,b,c,_⟩:=ex_ent j hj
  exact ⟨⟨a.qk.1,b⟩,⟨a.qb.1,c⟩⟩)) (fun f M h W p O hm=>h.tx hm) (exX_all f1 a1 t1 f2 a2 t2) h1 8 (by show 2 ^ 3 - 1 < 8;omega) (by omega) (quM0 (by omega))
 rw [show 2 ^ (exX f1 a1 t1 f2 a2 t2).all.length - 1=7 from rfl,h2] at this
 exact this
theorem AwAt.set {w W:World} {gE gD:Nat} {d d':List Dn} (h:AwAt w gE gD d W) (j:Nat) (v:Value) (hd:(d.flatMap Dn.row).toArray.setIfInBounds j v=(d'.flatMap Dn.row).toArray):AwAt w gE gD d' (W.setCell ⟨gD,j,none⟩ v) :=
 ⟨(Below.heap_setCell W _ v gE h.ne).trans h.e,by rw [← hd];exact h.d.set_ j v,h.tabs,h.bel.setCell (p:=⟨gD,j,none⟩) h.ge v,h.ge,h.ne⟩
theorem st_1:((exD 1 6 12 2 7 13).flatMap Dn.row).toArray.setIfInBounds 44 (.int .i64 4)=((exD 1 6 12 2 4 13).flatMap Dn.row).toArray:=rfl
theorem st_2:(((((((exD 1 6 12 2 4 13).flatMap Dn.row).toArray.setIfInBounds 43 (.int .i64 1))))))=((exD 1 6 12 1 4 13).flatMap Dn.row).toArray:=rfl
theorem st_3:((exD 1 6 12 1 4 13).flatMap Dn.row).toArray.setIfInBounds 44 (.int .i64 2)=((exD 1 6 12 1 2 13).flatMap Dn.row).toArray:=rfl
theorem st_4:((exD 1 6 12 1 2 13).flatMap Dn.row).toArray.setIfInBounds 45 (.int .i64 3)=((exD 1 6 12 1 2 3).flatMap Dn.row).toArray:=rfl
theorem st_5:((exD 1 6 12 1 2 3).flatMap Dn.row).toArray.setIfInBounds 22 (.int .i64 4)=((exD 4 6 12 1 2 3).flatMap Dn.row).toArray:=rfl
theorem st_6:((exD 4 6 12 1 2 3).flatMap Dn.row).toArray.setIfInBounds 23 (.int .i64 9)=((exD 4 9 12 1 2 3).flatMap Dn.row).toArray:=rfl
theorem st_7:((exD 4 9 12 1 2 3).flatMap Dn.row).toArray.setIfInBounds 24 (.int .i64 15)=((exD 4 9 15 1 2 3).flatMap Dn.row).toArray:=rfl
structure LvAt (w:World) (gE gD:Nat) (d:List Dn) (B:Nat) (A:Option Addr) (ca:Nat) (W:World):Prop where
 aw:AwAt w gE gD d W
 own:W.ownsRow B 3 1 (.slice A 3 ca) 3 ([0,1,2].map intV)
 ne:∀ g,(Value.slice A 3 ca).ownBlock=some g→g ≠ gD
section
variable {w W W':World} {gE gD B ca:Nat} {d d':List Dn} {A:Option Addr}
theorem LvAt.below (h:LvAt w gE gD d B A ca W) (hb:Below W.heap.size W W'):LvAt w gE gD d B A ca W' :=
 ⟨h.aw.below hb,own_same h.own fun g e=>hb.block g (own_at h.own e).2.1,h.ne⟩
theorem LvAt.set (h:LvAt w gE gD d B A ca W) (j:Nat) (v:Value) (hd:(d.flatMap Dn.row).toArray.setIfInBounds j v=(d'.flatMap Dn.row).toArray):LvAt w gE gD d' B A ca (W.setCell ⟨gD,j,none⟩ v) :=
 ⟨h.aw.set j v hd,own_same h.own fun g e=>Below.heap_setCell W _ v g (h.ne g e),h.ne⟩
end
set_option maxHeartbeats 1600000 in
set_option maxRecDepth 100000 in
theorem awake_any (w:World) (ht:Tabs Lib.goPrintTabs w):Calls Tryz.prog 14 #[] w (BoolB true w):=by
 have HT:=Lib.hid ht
 clear ht
 go_enter Tryz.func14,Tryz.ntmps14
 refine wp_seq_k fun K0 hK=>?_
 have HK0:=Lib.hid hK
 clear hK
 go_wp2_with fail
 refine HK0.out _ _ ?_
 clear HK0
 refine wp_seq_k fun K0 hK=>?_
 have HK0:=Lib.hid hK
 clear hK
 go_wp2_with fail
 refine (example_any _).mono ?_
 rintro e w1 ⟨gE,gD,rfl,hE,hD,hb1,hg,hne⟩
 have H1:Hid (AwAt w gE gD (exD 1 6 12 2 7 13) w1):=Lib.hid ⟨hE,hD,HT.out,hb1,hg,hne⟩
 clear hE hD hb1 hg hne
 go_wp2_with fail
 refine HK0.out _ _ ?_
 clear HK0
 try simp only [Act.put]
 refine wp_seq_k fun K0 hK=>?_
 have HK0:=Lib.hid hK
 clear hK
 go_wp2_with fail
 refine (aw_wit H1.out ev_r1 ev_w1).mono ?_
 rintro e w2 ⟨rfl,hb2⟩
 have H2:=Lib.hid (H1.out.below hb2)
 clear hb2 H1
 go_wp2_with fail
 refine HK0.out _ _ ?_
 clear HK0
 try simp only [Act.put]
 refine wp_seq_k fun K0 hK=>?_
 have HK0:=Lib.hid hK
 clear hK
 go_wp2_with fail
 refine (aw_sea H2.out ev_c1 ev_s1).mono ?_
 rintro e w3 ⟨hb3,-,hs⟩
 obtain ⟨v,rfl,hv⟩:=hs _ rfl
 obtain ⟨A,ca,rfl,-⟩:=own_form hv
 have hlt:=H2.out.d.lt
 have hgv:∀ g,(Value.slice A 3 ca).ownBlock=some g→g ≠ gD:=fun g e=>by have:=(own_at hv e).1;omega
 have H3:Hid (LvAt w gE gD (exD 1 6 12 2 7 13) w2.heap.size A ca w3):=Lib.hid ⟨H2.out.below hb3,hv,hgv⟩
 clear hb3 hs hv H2 hlt hgv
 go_wp2_with fail
 refine HK0.out _ _ ?_
 clear HK0
 try simp only [Act.put]
 have c44:_=some (Value.int .i64 7):=H3.out.aw.d.cell 44
 have f44:=H3.out.aw.d.frozen 44
 refine wp_seq_k fun K0 hK=>?_
 have HK0:=Lib.hid hK
 clear hK
 go_wp2_with fail
 refine HK0.out _ _ ?_
 clear HK0
 try simp only [Act.put]
 have H4:Hid (LvAt w gE gD (exD 1 6 12 2 4 13) w2.heap.size A ca (w3.setCell ⟨gD,44,none⟩ (.int .i64 4))):=Lib.hid (H3.out.set 44 _ st_1)
 clear c44 f44 H3
 generalize w3.setCell ⟨gD,44,none⟩ (.int .i64 4)=w4 at H4 ⊢
 refine wp_seq_k fun K0 hK=>?_
 have HK0:=Lib.hid hK
 clear hK
 go_wp2_with fail
 refine (aw_wit H4.out.aw ev_r2 ev_w2).mono ?_
 rintro e w5 ⟨rfl,hb5⟩
 have H5:=Lib.hid (H4.out.below hb5)
 clear hb5 H4
 go_wp2_with fail
 refine HK0.out _ _ ?_
 clear HK0
 try simp only [Act.put]
 have c43:_=some (Value.int .i64 2):=H5.out.aw.d.cell 43
 have f43:=H5.out.aw.d.frozen 43
 have c44:_=some (Value.int .i64 4):=H5.out.aw.d.cell 44
 have f44:=H5.out.aw.d.frozen 44
 have c45:_=some (Value.int .i64 13):=H5.out.aw.d.cell 45
 have f45:=H5.out.aw.d.frozen 45
 refine wp_seq_k fun K0 hK=>?_
 have HK0:=Lib.hid hK
 clear hK
 go_wp2_with fail
 refine HK0.out _ _ ?_
 clear HK0
 try simp only [Act.put]
 have H6:Hid (LvAt w gE gD (exD 1 6 12 1 2 3) w2.heap.size A ca (((w5.setCell ⟨gD,43,none⟩ (.int .i64 1)).setCell ⟨gD,44,none⟩ (.int .i64 2)).setCell ⟨gD,45,none⟩ (.int .i64 3))):=Lib.hid (((H5.out.set 43 _ st_2).set 44 _ st_3).set 45 _ st_4)
 clear c43 f43 c44 f44 c45 f45 H5
 generalize ((w5.setCell ⟨gD,43,none⟩ (.int .i64 1)).setCell ⟨gD,44,none⟩ (.int .i64 2)).setCell ⟨gD,45,none⟩ (.int .i64 3)=w6 at H6 ⊢
 have c22:_=some (Value.int .i64 1):=H6.out.aw.d.cell 22
 have f22:=H6.out.aw.d.frozen 22
 have c23:_=some (Value.int .i64 6):=H6.out.aw.d.cell 23
 have f23:=H6.out.aw.d.frozen 23
 have c24:_=some (Value.int .i64 12):=H6.out.aw.d.cell 24
 have f24:=H6.out.aw.d.frozen 24
 refine wp_seq_k fun K0 hK=>?_
 have HK0:=Lib.hid hK
 clear hK
 go_wp2_with fail
 refine HK0.out _ _ ?_
 clear HK0
 try simp only [Act.put]
 have H7:Hid (LvAt w gE gD (exD 4 9 15 1 2 3) w2.heap.size A ca (((w6.setCell ⟨gD,22,none⟩ (.int .i64 4)).setCell ⟨gD,23,none⟩ (.int .i64 9)).setCell ⟨gD,24,none⟩ (.int .i64 15))):=Lib.hid (((H6.out.set 22 _ st_5).set 23 _ st_6).set 24 _ st_7)
 clear c22 f22 c23 f23 c24 f24 H6
 generalize ((w6.setCell ⟨gD,22,none⟩ (.int .i64 4)).setCell ⟨gD,23,none⟩ (.int .i64 9)).setCell ⟨gD,24,none⟩ (.int .i64 15)=w7 at H7 ⊢
 refine wp_seq_k fun K0 hK=>?_
 have HK0:=Lib.hid hK
 clear hK
 go_wp2_with fail
 refine (aw_sea H7.out.aw ev_c2 ev_s2).mono ?_
 rintro e w8 ⟨hb8,hs,-⟩
 obtain rfl:=hs rfl
 have H8:=Lib.hid (H7.out.below hb8)
 clear hb8 H7 hs
 go_wp2_with fail
 refine HK0.out _ _ ?_
 clear HK0
 try simp only [Act.put]
 refine wp_seq_k fun K0 hK=>?_
 have HK0:=Lib.hid hK
 clear hK
 go_wp2_with fail
 have H9:=Lib.hid (H8.out.below (below_box w8 (.cells #[.int .i64 0,.int .i64 1,.int .i64 2] 3)))
 refine (ints_same [0,1,2] A (some ⟨w8.heap.size,0,none⟩) ca 3 _ _ _ (by simp) (Reads.of_own H9.out.own) (reads_of_blk (Blk.new w8 _ _) rfl rfl)).mono ?_
 rintro e w10 ⟨rfl,n,rfl⟩
 have H10:=Lib.hid (drewB H9.out.aw.bel n)
 go_wp2_with fail
 refine HK0.out _ _ ?_
 clear HK0
 try simp only [Act.put]
 go_wp2_with fail
 go_ret
 exact ⟨rfl,H10.out⟩
end Go.Proofs.YtkgflepgkhnclaaGreatDoor
namespace Go.Proofs.YtkgflepgkhnclaaGreatDoor
set_option linter.unusedVariables false
set_option linter.unusedSimpArgs false
open Go.ChangeShapes Go.WideShapes Go.ChangeAt Go.RowKit Go.Lib Go.Shelf
set_option maxRecDepth 100000
set_option linter.unusedSimpArgs false
abbrev tenLaid : List (String × DataW Unit) := [("math/bits.deBruijn32tab", Rows.laid_math_bits_deBruijn32tab), ("math/bits.deBruijn64tab", Rows.laid_math_bits_deBruijn64tab), ("internal/strconv.uint64pow10", Rows.laid_internal_strconv_uint64pow10), ("unicode/utf8.acceptRanges", Rows.laid_unicode_utf8_acceptRanges), ("strconv.isGraphic", Rows.laid_strconv_isGraphic), ("strconv.isNotPrint16", Rows.laid_strconv_isNotPrint16), ("strconv.isNotPrint32", Rows.laid_strconv_isNotPrint32), ("strconv.isPrint16", Rows.laid_strconv_isPrint16), ("strconv.isPrint32", Rows.laid_strconv_isPrint32), ("unicode/utf8.first", Rows.laid_unicode_utf8_first)]
theorem e_p16:Rows.laid_strconv_isPrint16=Lib.sliceData .u16 Lib.goPrintTabs.p16:=by kernel_rfl
theorem e_n16:Rows.laid_strconv_isNotPrint16=Lib.sliceData .u16 Lib.goPrintTabs.n16:=by kernel_rfl
theorem e_p32:Rows.laid_strconv_isPrint32=Lib.sliceData .u32 Lib.goPrintTabs.p32:=by kernel_rfl
theorem e_n32:Rows.laid_strconv_isNotPrint32=Lib.sliceData .u16 Lib.goPrintTabs.n32:=by kernel_rfl
theorem e_first:Rows.laid_unicode_utf8_first=Lib.firstData:=by kernel_rfl
theorem e_acc:(Rows.laid_unicode_utf8_acceptRanges:DataW Unit)=Lib.acceptData:=by kernel_rfl
theorem tabs_of_laid {W:World} (h:laidMetH Tryz.prog tenLaid W):Tabs Lib.goPrintTabs W:=by
 rw [MakeChecks.laidMetH_plain _ _ _ (by kernel_rfl)] at h
 have r:∀ n d,(n,d) ∈ tenLaid→Lib.VarReads Tryz.prog W n d:=fun n d hm=>Lib.laidMet.reads h hm
 refine ⟨?_,?_⟩
 · refine printTabs_of_reads (ρ:=lays177_ren) { lays177 with } ⟨by kernel_rfl,by kernel_rfl,by kernel_rfl,by kernel_rfl,by kernel_rfl,by kernel_rfl,by kernel_rfl,by kernel_rfl,by kernel_rfl,by kernel_rfl⟩ ?_ ?_ ?_ ?_
   · rw [← e_p16];exact r _ _ (by simp)
   · rw [← e_n16];exact r _ _ (by simp)
   · rw [← e_p32];exact r _ _ (by simp)
   · rw [← e_n32];exact r _ _ (by simp)
 · refine utf8Tabs_of_reads (ρ:=lays177_ren) { lays177 with } ⟨by kernel_rfl,by kernel_rfl,by kernel_rfl,by kernel_rfl,by kernel_rfl,by kernel_rfl,by kernel_rfl⟩ ?_ ?_
   · rw [← e_first];exact r _ _ (by simp)
   · rw [← e_acc];exact r _ _ (by simp)
def litV:DataW Unit→Value
 | .lit (.int k n)=>.int k n
 | _=>.bool false
def aggV:DataW Unit→List Value
 | .agg l=>l.flatMap fun d=>match d with
   | .agg l2=>l2.map litV
   | d=>[litV d]
 | _=>[]
def litN:DataW Unit→Nat
 | .lit (.int _ n)=>n.toNat
 | _=>0
def sliceN:DataW Unit→List Nat
 | .slice l _=>l.map litN
 | _=>[]
def graphN:List Nat:=sliceN Rows.laid_strconv_isGraphic
theorem e_gr:Rows.laid_strconv_isGraphic=Lib.sliceData .u16 graphN:=by kernel_rfl
noncomputable def laidWorld (os:Os):World :=
 let N:=(World.settled Tryz.prog os).heap.size
 let T:=Lib.goPrintTabs
 let w0:=World.holding Tryz.prog os ⟨#[.cells (intCellsOf .u16 graphN) 333,.cells (intCellsOf .u16 T.n16) 333,.cells (intCellsOf .u16 T.n32) 333,.cells (intCellsOf .u16 T.p16) 333,.cells (intCellsOf .u32 T.p32) 34],#[],[]⟩
 let put (h:Array Obj) (g:Nat) (cs:Array Value):Array Obj:=h.modify g fun
  | .cells _ t frozen=>.cells cs t frozen
  | o=>o
 let h0:=put w0.heap 1 (aggV Rows.laid_math_bits_deBruijn32tab).toArray
 let h1:=put h0 2 (aggV Rows.laid_math_bits_deBruijn64tab).toArray
 let h2:=put h1 0 (aggV Rows.laid_internal_strconv_uint64pow10).toArray
 let h3:=put h2 4 (aggV Rows.laid_unicode_utf8_acceptRanges).toArray
 let h4:=put h3 9 #[.slice (some ⟨N,0,none⟩) graphN.length graphN.length]
 let h5:=put h4 6 #[.slice (some ⟨N + 1,0,none⟩) T.n16.length T.n16.length]
 let h6:=put h5 8 #[.slice (some ⟨N + 2,0,none⟩) T.n32.length T.n32.length]
 let h7:=put h6 5 #[.slice (some ⟨N + 3,0,none⟩) T.p16.length T.p16.length]
 let h8:=put h7 7 #[.slice (some ⟨N + 4,0,none⟩) T.p32.length T.p32.length]
 let h9:=put h8 3 (aggV Rows.laid_unicode_utf8_first).toArray
 { w0 with heap:=h9 }
noncomputable abbrev N0:Nat:=(World.settled Tryz.prog default).heap.size
noncomputable abbrev laidW (os:Os) (args:Array Value):World:=((laidWorld os).forCall (fun _ _=>0) ⟨#[],args,[]⟩).memory
theorem piece0 (os:Os) (args:Array Value):LaidIn Tryz.prog (laidW os args) (tenLaid.take 4) [1,2,0,4] :=
 LaidIn.of_run _ 8 (by kernel_rfl) (by kernel_rfl) (by kernel_rfl) (by kernel_rfl)
theorem piece1 (os : Os) (args : Array Value) : LaidIn Tryz.prog (laidW os args) [("strconv.isGraphic", Lib.sliceData .u16 graphN)] [9, N0] :=
 laidIn_slice (t:=334) (e:=333) (te:=333) graphN N0 (by kernel_rfl) (by kernel_rfl) (by kernel_rfl) (by kernel_rfl) (by kernel_rfl) (by kernel_rfl) (by kernel_rfl) (by kernel_rfl) (of_decide_eq_true (by kernel_rfl)) (of_decide_eq_true (by kernel_rfl))
theorem piece2 (os : Os) (args : Array Value) : LaidIn Tryz.prog (laidW os args) [("strconv.isNotPrint16", Lib.sliceData .u16 Lib.goPrintTabs.n16)] [6, N0 + 1] :=
 laidIn_slice (t:=334) (e:=333) (te:=333) Lib.goPrintTabs.n16 (N0 + 1) (by kernel_rfl) (by kernel_rfl) (by kernel_rfl) (by kernel_rfl) (by kernel_rfl) (by kernel_rfl) (by kernel_rfl) (by kernel_rfl) (of_decide_eq_true (by kernel_rfl)) (of_decide_eq_true (by kernel_rfl))
theorem piece3 (os : Os) (args : Array Value) : LaidIn Tryz.prog (laidW os args) [("strconv.isNotPrint32", Lib.sliceData .u16 Lib.goPrintTabs.n32)] [8, N0 + 2] :=
 laidIn_slice (t:=334) (e:=333) (te:=333) Lib.goPrintTabs.n32 (N0 + 2) (by kernel_rfl) (by kernel_rfl) (by kernel_rfl) (by kernel_rfl) (by kernel_rfl) (by kernel_rfl) (by kernel_rfl) (by kernel_rfl) (of_decide_eq_true (by kernel_rfl)) (of_decide_eq_true (by kernel_rfl))
theorem piece4 (os : Os) (args : Array Value) : LaidIn Tryz.prog (laidW os args) [("strconv.isPrint16", Lib.sliceData .u16 Lib.goPrintTabs.p16)] [5, N0 + 3] :=
 laidIn_slice (t:=334) (e:=333) (te:=333) Lib.goPrintTabs.p16 (N0 + 3) (by kernel_rfl) (by kernel_rfl) (by kernel_rfl) (by kernel_rfl) (by kernel_rfl) (by kernel_rfl) (by kernel_rfl) (by kernel_rfl) (of_decide_eq_true (by kernel_rfl)) (of_decide_eq_true (by kernel_rfl))
theorem piece5 (os : Os) (args : Array Value) : LaidIn Tryz.prog (laidW os args) [("strconv.isPrint32", Lib.sliceData .u32 Lib.goPrintTabs.p32)] [7, N0 + 4] :=
 laidIn_slice (t:=336) (e:=34) (te:=34) Lib.goPrintTabs.p32 (N0 + 4) (by kernel_rfl) (by kernel_rfl) (by kernel_rfl) (by kernel_rfl) (by kernel_rfl) (by kernel_rfl) (by kernel_rfl) (by kernel_rfl) (of_decide_eq_true (by kernel_rfl)) (of_decide_eq_true (by kernel_rfl))
theorem piece6 (os : Os) (args : Array Value) : LaidIn Tryz.prog (laidW os args) [("unicode/utf8.first", Rows.laid_unicode_utf8_first)] [3] :=
 LaidIn.of_run _ 8 (by kernel_rfl) (by kernel_rfl) (by kernel_rfl) (by kernel_rfl)
theorem laid_met (os:Os) (args:Array Value):laidMetH Tryz.prog tenLaid (laidW os args):=by
 rw [MakeChecks.laidMetH_plain _ _ _ (by kernel_rfl)]
 have h:=(((((((piece0 os args).append (piece1 os args) (by kernel_rfl)).append (piece2 os args) (by kernel_rfl)).append (piece3 os args) (by kernel_rfl)).append (piece4 os args) (by kernel_rfl)).append (piece5 os args) (by kernel_rfl)).append (piece6 os args) (by kernel_rfl)).met
 rw [← e_gr,← e_n16,← e_n32,← e_p16,← e_p32] at h
 exact h
end Go.Proofs.YtkgflepgkhnclaaGreatDoor
namespace Go.Proofs.YtkgflepgkhnclaaGreatDoor
set_option linter.unusedVariables false
set_option linter.unusedSimpArgs false
open Go.ChangeShapes Go.WideShapes Go.ChangeAt Go.RowKit
theorem flatten_at {sz:Nat}:∀ (rows:List (List Value)) (j:Nat) (u:Value),(∀ r ∈ rows,r.length=sz)→rows.flatten[j]?=some u→∃ i cs r,rows[i]?=some cs∧cs[r]?=some u∧j=i * sz + r
 | [],j,u,_,h=>by simp at h
 | r :: rows,j,u,hl,h=>by
   have hr:=hl r (by simp)
   rw [List.flatten_cons,List.getElem?_append] at h
   split at h
   · exact ⟨0,r,j,by simp,h,by omega⟩
   · rename_i hj
     obtain ⟨i,cs,k,h1,h2,h3⟩:=flatten_at rows (j - r.length) u (fun x hx=>hl x (by simp [hx])) h
     exact ⟨i + 1,cs,k,by simpa using h1,h2,by rw [Nat.add_mul];omega⟩
theorem flatten_len {sz:Nat}:∀ (rows:List (List Value)),(∀ r ∈ rows,r.length=sz)→rows.flatten.length=rows.length * sz
 | [],_=>by simp
 | r :: rows,hl=>by
   rw [List.flatten_cons,List.length_append,hl r (by simp),flatten_len rows (fun x hx=>hl x (by simp [hx])),List.length_cons,Nat.add_mul];omega
theorem SliceRows.reads {w:World} {A:Option Addr} {n cap sz:Nat} {rows:List (List Value)} (h:SliceRows w A n cap sz rows):Reads w w.heap.size sz A n rows.flatten:=by
 obtain ⟨h1,h2,h3,h4,h5,h6⟩:=h
 refine ⟨by rw [flatten_len rows h4,h1],fun hn=>?_⟩
 obtain ⟨a,ha,hb,hc⟩:=h6 0 rows[0] (List.getElem?_eq_getElem (by omega))
 refine ⟨a,ha,hb,fun j u hu=>?_⟩
 obtain ⟨i,cs,r,e1,e2,e3⟩:=flatten_at rows j u h4 hu
 obtain ⟨a',ha',_,hc'⟩:=h6 i cs e1
 rw [ha] at ha'
 simp only [Option.some.injEq] at ha'
 subst ha'
 rw [e3]
 exact hc' r u e2
section
variable {H:Type} {enc:TypeId × Value→H} {P:Program} {w:World} {base:Nat} {spare:Nat→Bool} {held:Bool}
theorem open_rows {r:Reach} {b0:Nat} {t e:TypeId} {ls:List L0} {v:Value} {d:DataW H} {p:List MemPlace} (ht:P.underlying t=some (.slice e)) (hls:leaves P 9 e=some ls) (hC:P.cellsOf e=ls.length) (hpos:0 < ls.length)
 (hv:Value.okWide P w r b0 t v) (h:DataW.Trod enc P w base spare held t v d p) :
 ∃ (A:Option Addr) (n cap:Nat) (rows:List (List Value)),v=.slice A n cap∧rows.length=n∧Reads w w.heap.size ls.length A n rows.flatten∧(∀ r ∈ rows,Flat ls r)∧n ≤ cap∧cap ≤ 9223372036854775807:=by
 obtain ⟨a,len,cap,rfl⟩:=okWide_slice ht hv
 obtain ⟨fuel,hf⟩:=h
 obtain ⟨A,n,cap',rows,hc,hs,hfl,_⟩:=open_flat_slice ht hls hC hpos hf
 simp only [Value.cells,List.cons.injEq,Value.slice.injEq,and_true] at hc
 obtain ⟨rfl,rfl,rfl⟩:=hc
 have h2:=hs.2.2.1
 unfold maxLen at h2
 exact ⟨_,_,_,rows,rfl,hs.1,hs.reads,hfl,hs.2.1,by omega⟩
end
section
variable {H:Type} {enc:TypeId × Value→H} {w:World} {base:Nat} {spare:Nat→Bool} {held:Bool}
end
theorem reqs_of_rows:∀ (rows:List (List Value)),(∀ r ∈ rows,Flat reqLeaves r)→∃ rs:List Req,(∀ r ∈ rs,r.ok)∧rs.length=rows.length∧rows.flatten=rs.flatMap Req.row
 | [],_=>⟨[],by simp,rfl,rfl⟩
 | r :: rows,h=>by
   obtain ⟨q,hq,rfl⟩:=req_of_flat (h r (by simp))
   obtain ⟨rs,h1,h2,h3⟩:=reqs_of_rows rows (fun x hx=>h x (by simp [hx]))
   refine ⟨q :: rs,?_,by simp [h2],by simp [h3]⟩
   intro x hx
   rcases List.mem_cons.1 hx with rfl | hx
   · exact hq
   · exact h1 x hx
theorem hd_of_flat {cs:List Value} (h:Flat [.int .i64,.int .u32,.int .u8] cs):∃ x:Hd,(I64 x.t∧(0 ≤ x.g∧x.g ≤ 4294967295)∧0 ≤ x.r∧x.r ≤ 255)∧cs=[.int .i64 x.t,.int .u32 x.g,.int .u8 x.r]:=by
 obtain ⟨v1,c1,rfl,⟨n1,rfl,k1⟩,g1⟩:=Flat.cons_inv h
 obtain ⟨v2,c2,rfl,⟨n2,rfl,k2⟩,g2⟩:=Flat.cons_inv g1
 obtain ⟨v3,c3,rfl,⟨n3,rfl,k3⟩,g3⟩:=Flat.cons_inv g2
 obtain rfl:=g3.nil_inv
 exact ⟨⟨n1,n2,n3⟩,⟨wf_i64 k1,wf_u32 k2,wf_u8 k3⟩,rfl⟩
section
variable {H:Type} {enc:TypeId × Value→H} {w:World} {base:Nat} {spare:Nat→Bool} {held:Bool}
set_option maxRecDepth 100000 in
theorem open_reqs {r:Reach} {b0:Nat} {v:Value} {d:DataW H} {p:List MemPlace} (hv:Value.okWide Tryz.prog w r b0 60 v) (h:DataW.Trod enc Tryz.prog w base spare held 60 v d p) :
 ∃ (A:Option Addr) (cap:Nat) (rs:List Req),v=.slice A rs.length cap∧Reads w w.heap.size 12 A rs.length (rs.flatMap Req.row)∧(∀ r ∈ rs,r.ok)∧rs.length ≤ cap∧cap ≤ 9223372036854775807:=by
 obtain ⟨A,n,cap,rows,rfl,hn,hr,hf,h1,h2⟩:=open_rows (ls:=reqLeaves) Tryz.underlying60 (by kernel_rfl) (by kernel_rfl) (by decide) hv h
 obtain ⟨cs,g1,g2,g3⟩:=reqs_of_rows rows hf
 rw [g3] at hr
 obtain rfl:cs.length=n:=by omega
 exact ⟨A,cap,cs,rfl,hr,g1,h1,h2⟩
end
end Go.Proofs.YtkgflepgkhnclaaGreatDoor
namespace Go.Proofs.YtkgflepgkhnclaaGreatDoor.orderModelsLaw
set_option linter.unusedVariables false
set_option linter.unusedSimpArgs false
open Go.ChangeShapes Go.WideShapes Go.ChangeAt Go.RowKit
theorem own:ownKnob Tryz.prog.godebug=none:=by kernel_rfl
theorem laid:laidOutB Tryz.prog=true:=by kernel_rfl
set_option maxRecDepth 100000 in
theorem lifted (os:Os) (started:os.Started) (H:Type) (enc:TypeId × Value→H) :
 ReturnsInHanded {} Tryz.checked os 4 .any (fun w args=>(Rows.orderModelsSpec.pre enc Tryz.prog Tryz.f4 [] false w args∧laidMetH Tryz.prog tenLaid w)∧sizedMet enc Tryz.prog Tryz.f4 (OpenSpec.ofChange Rows.orderModelsSpec) false w args)
  (Rows.orderModelsSpec.post enc Tryz.prog Tryz.f4 false true false false):=by
 refine returnsInHanded_of_change_and (C:=Tryz.checked) (X:=fun w _=>laidMetH Tryz.prog tenLaid w) (fun _ _ _ hh h=>h.of_heap hh) own started (by kernel_rfl) Tryz.func4
  (ChangeSpec.witness_shaped (enc:=enc) (C:=Tryz.checked) (os:=os) (X:=fun w _=>laidMetH Tryz.prog tenLaid w) false (laidWorld os) #[.slice none 0 0,.agg #[.int .i64 0,.int .u32 0,.int .u8 0],.int .i64 0] 8 rfl (World.shaped_of_RefB (by kernel_rfl) (by kernel_rfl)) (by kernel_rfl) (by kernel_rfl) (by kernel_rfl) (laid_met os _)) ?_
 intro W base args ds gs before hval0 hW _ _ hL _
 refine law_post (fn:=Tryz.f4) (s:=Rows.orderModelsSpec) (n:=4) (tb:=4) laid rfl rfl Tryz.underlying4 (by kernel_rfl) (fun h=>?_) hW ?_
 · match ds,h with
   | [d0,d1,d2],_=>rfl
 · have hval:∀ (j:Nat) t v,Tryz.f4.params[j]?=some t→args[j]?=some v→Value.okWide Tryz.prog W .any base t v:=hval0
   obtain ⟨p,q,hA0,hV,rfl,hfz,hnd⟩:=hW
   have hA:DataW.TrodAll enc Tryz.prog W 0 (fun _=>true) true Tryz.f4.params.toList args.toList ds p:=hA0
   rw [Tryz.params4] at hA hval
   obtain ⟨v0,vs0,d0,ds0,p0,q0,hargs,rfl,rfl,h0,r0⟩:=trodAll_cons hA
   obtain ⟨v1,vs1,d1,ds1,p1,q1,rfl,rfl,rfl,h1,r1⟩:=trodAll_cons r0
   obtain ⟨v2,vs2,d2,ds2,p2,q2,rfl,rfl,rfl,h2,r2⟩:=trodAll_cons r1
   obtain ⟨rfl,rfl,rfl⟩:=trodAll_nil r2
   obtain rfl:args=#[v0,v1,v2]:=by cases args;simp_all
   clear hA0 hval0
   obtain ⟨A0,k0,rs0,rfl,hr0,ho0,hl0,hc0⟩:=open_reqs (hval 0 60 v0 rfl rfl) h0
   obtain ⟨cs1,rfl,hf1⟩:=open_flat_agg (ls:=[.int .i64,.int .u32,.int .u8]) Tryz.underlying37 (by kernel_rfl) (by kernel_rfl) (hval 1 37 v1 rfl rfl) h1
   obtain ⟨hd1,ok1,rfl⟩:=hd_of_flat hf1
   obtain ⟨n2,rfl,rfl,rfl,wf2⟩:=open_int Tryz.underlying3 (hval 2 3 v2 rfl rfl) h2
   exact models_of rs0 A0 k0 hd1 n2 W (fun W2 hb=>awake_any W2 ((tabs_of_laid hL).below hb)) hr0 ho0 hl0 (by omega) ok1.2.2 (wf_i64 wf2)
theorem over:Rows.orderModelsRow.holds Tryz.pinned (OpenSpec.ofChange Rows.orderModelsSpec) :=
 OpenClaim.holds_of_wide 4 Tryz.f4 rfl rfl rfl rfl rfl rfl rfl ⟨rfl,rfl,rfl,rfl,rfl⟩ rfl rfl rfl rfl rfl (by kernel_rfl) Tryz.func4 (by kernel_rfl)
  (of_decide_eq_true (by kernel_rfl)) (by unfold Func.isWrapper;first | (rw [if_pos (by decide +kernel)];kernel_rfl) | (rw [if_neg (by decide +kernel)];exact ⟨rfl,rfl⟩))
  (fun os started H enc _=>lifted os started H enc)
theorem proved:Rows.OrderModelsCardSaid :=
 Claim7.holds_tied_plain_at .later [] [.data, .data, .data, .data, .pinned, .pinned, .pinned, .pinned, .pinned, .pinned] true (true, "3203c62b31f7452b18a8b4b2e724ae355659998d6ce7e64de5debc33216c8404") true
  over (fun _ h=>by cases h) (by kernel_rfl) (fun _ h=>by cases h) orderModels_row_tie rfl ⟨rfl,rfl⟩ (by kernel_rfl) rfl
  (fun f fn hf hfn=>by
    obtain rfl : f = 4 := Option.some.inj ((show Tryz.prog.funcNamed "burgage/burgagelaw27.OrderModels" = some 4 by kernel_rfl).symm.trans hf) |>.symm
    obtain rfl:fn=Tryz.f4:=(Option.some.inj (Tryz.func4.symm.trans hfn)).symm
    refine ⟨by kernel_rfl,fun j t ht=>?_⟩
    rw [Tryz.params4] at ht
    have h3:t=60 ∨ t=37 ∨ t=3:=by
        match j,ht with
        | 0,ht=>have e:=Option.some.inj ht;subst e;simp
        | 1,ht=>have e:=Option.some.inj ht;subst e;simp
        | 2,ht=>have e:=Option.some.inj ht;subst e;simp
        | j + 3,ht=>simp at ht
    rcases h3 with rfl | rfl | rfl
    · exact (show Tryz.prog.wantsStandIn 60=false by kernel_rfl)
    · exact (show Tryz.prog.wantsStandIn 37=false by kernel_rfl)
    · exact (show Tryz.prog.wantsStandIn 3=false by kernel_rfl))
  (by kernel_rfl)
#print axioms proved
end Go.Proofs.YtkgflepgkhnclaaGreatDoor.orderModelsLaw
