/- Layer 27: order: operate. Layer 27: order: operate. Layer 27: order: operate. Layer 27: order: operate. Layer 27: order: operate. Layer 27: order: deeds, Do. Layer 27: order: Do, New. Layer 27: order: the range of Pairs. Layer 27: order: Pairs. Layer 27: slices.Equal on pairs; slices.Contains, slices.ContainsFunc on handles. -/
import Derived.Test.YtkgflepgkhnclaaGreatDoorMc
import Derived.Shelf.Abstract
import Derived.Laws.StructEq
import Derived.Deep.QuietTactic
namespace Go.Proofs.YtkgflepgkhnclaaGreatDoor
set_option linter.unusedVariables false
set_option linter.unusedSimpArgs false
open Go.RowKit Go.Shelf
attribute [local go_sem] run_store_complex
structure AnsW (w:World) (p:Nat) (M:Mdl) (T:Ows) (M':Mdl) (T':Ows) (g:Nat) (arr:Array Value) (v:Value) (n:Nat) (xs:List Value) (W:World):Prop where
 ge:w.heap.size ≤ g
 mdl:ModelAt W p M' T'
 box:Blk W g 52 arr
 keep:KeepC (mown p M T) w W
 own:∀ i,mown p M' T' i→mown p M T i ∨ w.heap.size ≤ i
 row:W.ownsRow w.heap.size 57 2 v n xs
section
variable {w W:World} {p g n:Nat} {M M':Mdl} {T T':Ows} {arr:Array Value} {v:Value} {xs:List Value}
theorem row_apart (h:W.ownsRow w.heap.size 57 2 v n xs) (hb:Blk W g 52 arr):v.ownBlock=none ∨ v.ownBlock ≠ some g:=by
 rcases h.2 with ⟨rfl,_⟩ | ⟨g',cap,cs,rfl,_,h1,_⟩
 · exact .inl rfl
 · refine .inr (fun e=>?_)
   have e':g'=g:=by simpa [Value.ownBlock] using e
   subst e'
   unfold Blk at hb
   rw [h1] at hb
   injection hb with hb
   injection hb with _ hb _
   exact absurd hb (by decide)
theorem grown_sets (b o:Nat) (vs:List Value) (w:World):w.grownBy (w.setCells b o vs) (some b):=by
 obtain ⟨h1,h2,h3,h4,h5⟩:=sets_same b vs o w
 exact ⟨h1,h2,h3,by omega,fun i _ hi=>h5 i (fun e=>hi (by rw [e]))⟩
theorem AnsW.set (h:AnsW w p M T M' T' g arr v n xs W) (i:Nat) (u:Value):AnsW w p M T M' T' g (arr.setIfInBounds i u) v n xs (W.setCell ⟨g,i,none⟩ u) :=
 ⟨h.ge,h.mdl.keep (C:=fun j=>j=g) ((KeepC.refl (fun j=>j=g) W).setCell h.box (by decide) (fun _=>rfl) _ _) (fun j hj e=>by subst e;exact h.mdl.other hj h.box (by decide) (by decide) (by decide)),
  h.box.set_ i u,h.keep.setCell h.box (by decide) (fun hg=>by have:=h.ge;omega) _ _,h.own,h.row.kept (grownBy_setCell' W g u |> fun k=>⟨k.os,k.tape,k.output,by simp,fun j hj hn=>Below.heap_setCell W _ u j (fun e=>hn (by rw [e]))⟩) (row_apart h.row h.box)⟩
theorem AnsW.below {W':World} (h:AnsW w p M T M' T' g arr v n xs W) (hb:Below W.heap.size W W'):AnsW w p M T M' T' g arr v n xs W' :=
 ⟨h.ge,h.mdl.below hb,h.box.below hb h.box.lt,h.keep.below hb,h.own,ownsRow_below h.row hb (Nat.le_refl _)⟩
theorem AnsW.rows {v':Value} {n':Nat} {xs':List Value} (h:AnsW w p M T M' T' g arr v n xs W) (hr:W.ownsRow w.heap.size 57 2 v' n' xs'):AnsW w p M T M' T' g arr v' n' xs' W :=
 ⟨h.ge,h.mdl,h.box,h.keep,h.own,hr⟩
theorem AnsW.op {W':World} {M2:Mdl} {T2:Ows} (h:AnsW w p M T M T g arr (.slice none 0 0) 0 [] W) (m:ModelAt W' p M2 T2) (ho:∀ i,mown p M2 T2 i→mown p M T i ∨ W.drew.heap.size ≤ i) (k:KeepC (mown p M T) W.drew W'):AnsW w p M T M2 T2 g arr (.slice none 0 0) 0 [] W' :=
 ⟨h.ge,m,(h.keep.drew.trans k (fun _ _ h=>h) |> fun _=>k.blk h.box.drew (fun hc=>h.mdl.other hc h.box (by decide) (by decide) (by decide))),h.keep.drew.trans k (fun _ _ h=>h),fun i hi=>(ho i hi).imp id (fun e=>Nat.le_trans h.keep.size e),own_nil _ _⟩
theorem AnsW.done {a:Ans} {A:Option Addr} {c:Nat} (h:AnsW w p M T M' T' g (a.cells A c).toArray (.slice A a.prs.length c) a.prs.length (a.prs.flatMap pairR) W):DoEnd p M T (M',a) w (.returned (a.v A c)) (W.setCells g 0 (a.cells A c)):=by
 have hq:KeepC (fun i=>i=g) W (W.setCells g 0 (a.cells A c)):=(KeepC.refl (fun i=>i=g) W).sets h.box (by decide) (fun _=>rfl) _ _
 refine ⟨A,c,T',rfl,h.mdl.keep hq (fun i hi e=>?_),h.row.kept (grown_sets g 0 _ W) (row_apart h.row h.box),h.own,h.keep.sets h.box (by decide) (fun hg=>by have:=h.ge;omega) _ _⟩
 subst e
 exact h.mdl.other hi h.box (by decide) (by decide) (by decide)
end
abbrev ansC (e:Int) (x:ByteArray) (A:Option Addr) (n c:Nat):Array Value:=#[.int .i64 e,.string x,.slice A n c,.int .i64 0,.int .u32 0,.int .u8 0,.int .u64 0,.int .u64 0,.int .u64 0,.int .u64 0,.int .u64 0,.int .u64 0,.int .u64 0,.int .u64 0,.int .u64 0,.int .u64 0,.complex .f64 0 0]
theorem ansC_one (e:Int) (x:ByteArray) (A:Option Addr) (n c:Nat):(ansC e x A n c).all (·.oneCell')=true:=by simp [ansC,Value.oneCell']
theorem range_blk {w:World} {g:Nat} {t:TypeId} {cs:Array Value} (h:Blk w g t cs):w.rangeAt g 0 cs.toList:=fun j v hj=>by rw [Nat.zero_add,h.cell];simpa using hj
def operateN (M:Mdl) (r:Req):Mdl × Ans :=
 if formedN r=false then (M,errA 2) else if mayM M r=0 then (match (M r.ten.toNat).bk with
    | none=>(M,errA 0)
    | some B=>if r.deed=1 then (M,{ errA (thereN B.l r.key []).2 with val:=(thereN B.l r.key []).1 })
      else if r.deed=2 then (updM M r.ten.toNat { M r.ten.toNat with bk:=some (putB B r.key r.val).2 },errA (putB B r.key r.val).1)
      else if r.deed=3 then (updM M r.ten.toNat { M r.ten.toNat with bk:=some (delB B r.key).2 },errA (delB B r.key).1)
      else if r.deed=4 then (updM M r.ten.toNat { M r.ten.toNat with bk:=some (swapB B r.key r.old r.val).2 },errA (swapB B r.key r.old r.val).1)
      else (M,{ errA (scanN B.l r.key r.lim).2 with prs:=(scanN B.l r.key r.lim).1 })) else (M,errA (mayM M r))
set_option maxHeartbeats 6400000 in
set_option maxRecDepth 100000 in
theorem operate1_m {w:World} {p:Nat} {M:Mdl} {T:Ows} (hm:ModelAt w p M T) (r:Req) (hr:r.ok) (hd:r.deed=1) (hsm:Small M):Calls Tryz.prog 69 #[.pointer (some ⟨p,0,none⟩),r.v] w (DoEnd p M T (operateN M r) w):=by
 obtain ⟨deed,ten,gen,rig,key,val,old,lim,tenant,qk,qb,rights⟩:=r
 dsimp only at hd
 subst hd
 have hb0:Below w.heap.size w (w.alloc (.cells (Req.row ⟨1,ten,gen,rig,key,val,old,lim,tenant,qk,qb,rights⟩).toArray 39)):=below_box _ _
 have hq0:=Blk.new w 39 (Req.row ⟨1,ten,gen,rig,key,val,old,lim,tenant,qk,qb,rights⟩).toArray
 have hb1:=below_alloc hb0 (.cells zeroA 52)
 have hbq:=hq0.alloc (.cells zeroA 52)
 have hbx:Blk ((w.alloc (.cells (Req.row ⟨1,ten,gen,rig,key,val,old,lim,tenant,qk,qb,rights⟩).toArray 39)).alloc (.cells zeroA 52)) (w.heap.size + 1) 52 zeroA:=blk_at (by simp)
 have HF:=Lib.hid (formed_r ⟨1,ten,gen,rig,key,val,old,lim,tenant,qk,qb,rights⟩ ((w.alloc (.cells (Req.row ⟨1,ten,gen,rig,key,val,old,lim,tenant,qk,qb,rights⟩).toArray 39)).alloc (.cells zeroA 52)))
 have HM:=Lib.hid hm
 have HB:=Lib.hid (And.intro hb1 (And.intro hbx hbq))
 unfold Req.row at HF HB
 dsimp only [Req.v] at HF ⊢
 clear hb0 hb1 hbx hm hq0 hbq
 by_cases hf:formedN ⟨1,ten,gen,rig,key,val,old,lim,tenant,qk,qb,rights⟩=false
 · have HE:Hid (operateN M ⟨1,ten,gen,rig,key,val,old,lim,tenant,qk,qb,rights⟩=(M,errA 2)):=Lib.hid (by unfold operateN;rw [if_pos hf])
   rw [hf] at HF
   clear hf
   go_enter Tryz.func69,Tryz.ntmps69
   go_wp2_with fail
   refine HF.out.mono ?_
   rintro e w1 ⟨rfl,hb⟩
   have BX:=Lib.hid (HB.out.2.1.below hb HB.out.2.1.lt)
   have HB1:=Lib.hid (HB.out.1.trans (hb.mono HB.out.1.size))
   clear hb
   go_wp2_with (refine wpList_store_mid rfl 52 (.tmp 4) (.tmp 9) rfl (w.heap.size + 1) 0 (errC 2) rfl rfl (there_blk BX.out (Nat.le_refl 17)) infoAns (errC_one _) ?_)
   refine bodyPost_ret (v:=(errA 2).v none 0) ?_ rfl ?_
   · exact results_cell Tryz.results69 rfl (blk_setAll BX.out rfl) Tryz.underlying52 rfl infoAns
   rw [HE.out]
   exact doEnd_store (HM.out.below HB1.out) (.of_below HB1.out) (fun i hi=>.inl hi) (Nat.le_succ _) BX.out rfl
 · rw [Bool.not_eq_false] at hf
   rw [hf] at HF
   have HFE:=Lib.hid hf
   clear hf
   by_cases h0:mayM M ⟨1,ten,gen,rig,key,val,old,lim,tenant,qk,qb,rights⟩=0
   · obtain ⟨n,B,hn,hn1,hn2,hbk⟩:=may_good h0
     dsimp only at hn
     subst hn
     have hn17:n < 17:=by omega
     have HE:Hid (operateN M ⟨1,(n:Int),gen,rig,key,val,old,lim,tenant,qk,qb,rights⟩=(M,{ errA (thereN B.l key []).2 with val:=(thereN B.l key []).1 })):=Lib.hid (by unfold operateN;rw [if_neg (by rw [HFE.out];decide),if_pos h0];dsimp only;rw [Int.toNat_natCast,hbk];rfl)
     have HBK:=Lib.hid hbk
     have hlB:=hsm n B hbk
     have HY:=Lib.hid (fun (W:World) (h:ModelAt W p M T)=>may_m h ⟨1,(n:Int),gen,rig,key,val,old,lim,tenant,qk,qb,rights⟩)
     rw [h0] at HY
     dsimp only [Req.v] at HY
     have HR:=Lib.hid hr
     clear h0 hbk hsm hr
     have hq1:(0:Int) ≤ (n:Int):=by omega
     have hq2:(n:Int) < 17:=by omega
     go_enter Tryz.func69,Tryz.ntmps69
     go_wp2_with fail
     refine HF.out.mono ?_
     rintro e w1 ⟨rfl,hb⟩
     have BX1:=Lib.hid (HB.out.2.1.below hb HB.out.2.1.lt)
     have BQ1:=Lib.hid (HB.out.2.2.below hb HB.out.2.2.lt)
     have HB1:=Lib.hid (HB.out.1.trans (hb.mono HB.out.1.size))
     clear hb
     obtain ⟨c0,c1,c2,c3,c4,c5,c6,c7,c8,c9,c10,c11⟩:=req_cells (r:=⟨1,(n:Int),gen,rig,key,val,old,lim,tenant,qk,qb,rights⟩) BQ1.out
     go_wp2_with fail
     refine (HY.out w1 (HM.out.below HB1.out)).mono ?_
     rintro e w2 ⟨rfl,hb⟩
     have BX2:=Lib.hid (Blk.below BX1.out hb BX1.out.lt)
     have BQ2:=Lib.hid (Blk.below BQ1.out hb BQ1.out.lt)
     have HB2:=Lib.hid (below_trans HB1.out hb)
     clear hb c0 c1 c2 c3 c4 c5 c6 c7 c8 c9 c10 c11
     have m2:=HM.out.below HB2.out
     have A0:AnsW w p M T M T (w.heap.size + 1) zeroA (.slice none 0 0) 0 [] w2:=⟨Nat.le_succ _,m2,BX2.out,.of_below HB2.out,fun i hi=>.inl hi,own_nil _ _⟩
     have A1:=A0.set 0 (.int .i64 0)
     have e0:w2.cell? ⟨w.heap.size + 1,0,none⟩=some (.int .i64 0):=BX2.out.cell 0
     have f0:=BX2.out.frozen 0
     have hne:w.heap.size + 1 ≠ w.heap.size:=by omega
     obtain ⟨w3,hw3⟩:∃ w3,w2.setCell ⟨w.heap.size + 1,0,none⟩ (.int .i64 0)=w3:=⟨_,rfl⟩
     rw [hw3] at A1
     have BQ3:Blk w3 w.heap.size 39 (Req.row ⟨1,(n:Int),gen,rig,key,val,old,lim,tenant,qk,qb,rights⟩).toArray:=by rw [← hw3];exact BQ2.out.far (p:=⟨w.heap.size + 1,0,none⟩) (by simp) _
     obtain ⟨c0,c1,c2,c3,c4,c5,c6,c7,c8,c9,c10,c11⟩:=req_cells BQ3
     have x3:=A1.mdl.ptr hn17
     unfold Ten.ptr at x3
     rw [HBK.out] at x3
     simp only [Option.map_some] at x3
     have g0:=A1.box.cell 0
     simp at g0
     have HA1:=Lib.hid A1
     have HBQ3:=Lib.hid BQ3
     have HW3:=Lib.hid hw3
     clear A0 A1 m2 BQ3 hw3
     go_wp2_with fail
     rw [HW3.out]
     go_region
     go_wp2_with fail
     have hb3:=(HA1.out.mdl.bk n B hn17 HBK.out).below ((Below.refl _ _).drew:Below w3.heap.size w3 w3.drew)
     have HG:=Lib.hid (get_b hb3 key)
     generalize thereN B.l key []=q at HG HE
     obtain ⟨q1,q2⟩:=q
     refine HG.out.mono ?_
     rintro e w4 ⟨rfl,hb4⟩
     have A2:=HA1.out.below ((Below.refl _ _).drew.trans hb4)
     have A3:=(A2.set 1 (.string q1)).set 0 (.int .i64 q2)
     have y1:=A2.box.cell 1
     have z1:=A2.box.frozen 1
     simp at y1
     have y0:=A2.box.cell 0
     have z0:=A2.box.frozen 0
     simp at y0
     have hA3:=A3.box
     simp only [zeroA,List.setIfInBounds_toArray,List.set_cons_zero,List.set_cons_succ] at A3 hA3
     have HA3:=Lib.hid A3
     have hr3:=range_blk hA3
     have ht3:=there_blk hA3 (Nat.le_refl 17)
     clear A2 A3 c0 c1 c2 c3 c4 c5 c6 c7 c8 c9 c10 c11 x3 g0 e0 f0
     go_wp2_with (first
       | (refine wpList_load_mid rfl 52 (.tmp 4) rfl (w.heap.size + 1) 0 rfl _ _ hr3 Tryz.underlying52 rfl infoAns ?_)
       | (refine wpList_store_mid rfl 52 (.tmp 4) (.tmp 80) rfl (w.heap.size + 1) 0 (ansC q2 q1 none 0 0) rfl rfl ht3 infoAns (ansC_one _ _ _ _ _) ?_))
     refine bodyPost_ret (v:=({ errA q2 with val:=q1 }:Ans).v none 0) ?_ rfl ?_
     · exact results_cell Tryz.results69 rfl (blk_setAll hA3 rfl) Tryz.underlying52 rfl infoAns
     rw [HE.out]
     exact AnsW.done HA3.out
   · have HE:Hid (operateN M ⟨1,ten,gen,rig,key,val,old,lim,tenant,qk,qb,rights⟩=(M,errA (mayM M ⟨1,ten,gen,rig,key,val,old,lim,tenant,qk,qb,rights⟩))):=Lib.hid (by unfold operateN;rw [if_neg (by rw [HFE.out];decide),if_neg h0])
     have HY:=Lib.hid (fun (W:World) (h:ModelAt W p M T)=>may_m h ⟨1,ten,gen,rig,key,val,old,lim,tenant,qk,qb,rights⟩)
     generalize mayM M ⟨1,ten,gen,rig,key,val,old,lim,tenant,qk,qb,rights⟩=q2 at HY h0 HE
     dsimp only [Req.v] at HY
     go_enter Tryz.func69,Tryz.ntmps69
     go_wp2_with fail
     refine HF.out.mono ?_
     rintro e w1 ⟨rfl,hb⟩
     have BX1:=Lib.hid (HB.out.2.1.below hb HB.out.2.1.lt)
     have BQ1:=Lib.hid (HB.out.2.2.below hb HB.out.2.2.lt)
     have HB1:=Lib.hid (HB.out.1.trans (hb.mono HB.out.1.size))
     clear hb
     obtain ⟨c0,c1,c2,c3,c4,c5,c6,c7,c8,c9,c10,c11⟩:=req_cells (r:=⟨1,ten,gen,rig,key,val,old,lim,tenant,qk,qb,rights⟩) BQ1.out
     go_wp2_with fail
     refine (HY.out w1 (HM.out.below HB1.out)).mono ?_
     rintro e w2 ⟨rfl,hb⟩
     have BX2:=Lib.hid (Blk.below BX1.out hb BX1.out.lt)
     have HB2:=Lib.hid (below_trans HB1.out hb)
     clear hb c0 c1 c2 c3 c4 c5 c6 c7 c8 c9 c10 c11
     have m2:=HM.out.below HB2.out
     have A0:AnsW w p M T M T (w.heap.size + 1) zeroA (.slice none 0 0) 0 [] w2:=⟨Nat.le_succ _,m2,BX2.out,.of_below HB2.out,fun i hi=>.inl hi,own_nil _ _⟩
     have A1:=A0.set 0 (.int .i64 q2)
     have e0:w2.cell? ⟨w.heap.size + 1,0,none⟩=some (.int .i64 0):=BX2.out.cell 0
     have f0:=BX2.out.frozen 0
     have hA3:=A1.box
     simp only [zeroA,List.setIfInBounds_toArray,List.set_cons_zero,List.set_cons_succ] at A1 hA3
     have HA3:=Lib.hid A1
     have hr3:=range_blk hA3
     have ht3:=there_blk hA3 (Nat.le_refl 17)
     clear A0 A1 m2
     go_wp2_with (first
       | (refine wpList_load_mid rfl 52 (.tmp 4) rfl (w.heap.size + 1) 0 rfl _ _ hr3 Tryz.underlying52 rfl infoAns ?_)
       | (refine wpList_store_mid rfl 52 (.tmp 4) (.tmp 17) rfl (w.heap.size + 1) 0 (ansC q2 ⟨#[]⟩ none 0 0) rfl rfl ht3 infoAns (ansC_one _ _ _ _ _) ?_))
     refine bodyPost_ret (v:=(errA q2).v none 0) ?_ rfl ?_
     · exact results_cell Tryz.results69 rfl (blk_setAll hA3 rfl) Tryz.underlying52 rfl infoAns
     rw [HE.out]
     exact AnsW.done HA3.out
set_option maxHeartbeats 6400000 in
set_option maxRecDepth 100000 in
theorem operate2_m {w:World} {p:Nat} {M:Mdl} {T:Ows} (hm:ModelAt w p M T) (r:Req) (hr:r.ok) (hd:r.deed=2) (hsm:Small M):Calls Tryz.prog 69 #[.pointer (some ⟨p,0,none⟩),r.v] w (DoEnd p M T (operateN M r) w):=by
 obtain ⟨deed,ten,gen,rig,key,val,old,lim,tenant,qk,qb,rights⟩:=r
 dsimp only at hd
 subst hd
 have hb0:Below w.heap.size w (w.alloc (.cells (Req.row ⟨2,ten,gen,rig,key,val,old,lim,tenant,qk,qb,rights⟩).toArray 39)):=below_box _ _
 have hq0:=Blk.new w 39 (Req.row ⟨2,ten,gen,rig,key,val,old,lim,tenant,qk,qb,rights⟩).toArray
 have hb1:=below_alloc hb0 (.cells zeroA 52)
 have hbq:=hq0.alloc (.cells zeroA 52)
 have hbx:Blk ((w.alloc (.cells (Req.row ⟨2,ten,gen,rig,key,val,old,lim,tenant,qk,qb,rights⟩).toArray 39)).alloc (.cells zeroA 52)) (w.heap.size + 1) 52 zeroA:=blk_at (by simp)
 have HF:=Lib.hid (formed_r ⟨2,ten,gen,rig,key,val,old,lim,tenant,qk,qb,rights⟩ ((w.alloc (.cells (Req.row ⟨2,ten,gen,rig,key,val,old,lim,tenant,qk,qb,rights⟩).toArray 39)).alloc (.cells zeroA 52)))
 have HM:=Lib.hid hm
 have HB:=Lib.hid (And.intro hb1 (And.intro hbx hbq))
 unfold Req.row at HF HB
 dsimp only [Req.v] at HF ⊢
 clear hb0 hb1 hbx hm hq0 hbq
 by_cases hf:formedN ⟨2,ten,gen,rig,key,val,old,lim,tenant,qk,qb,rights⟩=false
 · have HE:Hid (operateN M ⟨2,ten,gen,rig,key,val,old,lim,tenant,qk,qb,rights⟩=(M,errA 2)):=Lib.hid (by unfold operateN;rw [if_pos hf])
   rw [hf] at HF
   clear hf
   go_enter Tryz.func69,Tryz.ntmps69
   go_wp2_with fail
   refine HF.out.mono ?_
   rintro e w1 ⟨rfl,hb⟩
   have BX:=Lib.hid (HB.out.2.1.below hb HB.out.2.1.lt)
   have HB1:=Lib.hid (HB.out.1.trans (hb.mono HB.out.1.size))
   clear hb
   go_wp2_with (refine wpList_store_mid rfl 52 (.tmp 4) (.tmp 9) rfl (w.heap.size + 1) 0 (errC 2) rfl rfl (there_blk BX.out (Nat.le_refl 17)) infoAns (errC_one _) ?_)
   refine bodyPost_ret (v:=(errA 2).v none 0) ?_ rfl ?_
   · exact results_cell Tryz.results69 rfl (blk_setAll BX.out rfl) Tryz.underlying52 rfl infoAns
   rw [HE.out]
   exact doEnd_store (HM.out.below HB1.out) (.of_below HB1.out) (fun i hi=>.inl hi) (Nat.le_succ _) BX.out rfl
 · rw [Bool.not_eq_false] at hf
   rw [hf] at HF
   have HFE:=Lib.hid hf
   clear hf
   by_cases h0:mayM M ⟨2,ten,gen,rig,key,val,old,lim,tenant,qk,qb,rights⟩=0
   · obtain ⟨n,B,hn,hn1,hn2,hbk⟩:=may_good h0
     dsimp only at hn
     subst hn
     have hn17:n < 17:=by omega
     have HE:Hid (operateN M ⟨2,(n:Int),gen,rig,key,val,old,lim,tenant,qk,qb,rights⟩=(updM M n { M n with bk:=some (putB B key val).2 },errA (putB B key val).1)):=Lib.hid (by unfold operateN;rw [if_neg (by rw [HFE.out];decide),if_pos h0];dsimp only;rw [Int.toNat_natCast,hbk];rfl)
     have HBK:=Lib.hid hbk
     have hlB:=hsm n B hbk
     have HY:=Lib.hid (fun (W:World) (h:ModelAt W p M T)=>may_m h ⟨2,(n:Int),gen,rig,key,val,old,lim,tenant,qk,qb,rights⟩)
     rw [h0] at HY
     dsimp only [Req.v] at HY
     have HR:=Lib.hid hr
     clear h0 hbk hsm hr
     have hq1:(0:Int) ≤ (n:Int):=by omega
     have hq2:(n:Int) < 17:=by omega
     go_enter Tryz.func69,Tryz.ntmps69
     go_wp2_with fail
     refine HF.out.mono ?_
     rintro e w1 ⟨rfl,hb⟩
     have BX1:=Lib.hid (HB.out.2.1.below hb HB.out.2.1.lt)
     have BQ1:=Lib.hid (HB.out.2.2.below hb HB.out.2.2.lt)
     have HB1:=Lib.hid (HB.out.1.trans (hb.mono HB.out.1.size))
     clear hb
     obtain ⟨c0,c1,c2,c3,c4,c5,c6,c7,c8,c9,c10,c11⟩:=req_cells (r:=⟨2,(n:Int),gen,rig,key,val,old,lim,tenant,qk,qb,rights⟩) BQ1.out
     go_wp2_with fail
     refine (HY.out w1 (HM.out.below HB1.out)).mono ?_
     rintro e w2 ⟨rfl,hb⟩
     have BX2:=Lib.hid (Blk.below BX1.out hb BX1.out.lt)
     have BQ2:=Lib.hid (Blk.below BQ1.out hb BQ1.out.lt)
     have HB2:=Lib.hid (below_trans HB1.out hb)
     clear hb c0 c1 c2 c3 c4 c5 c6 c7 c8 c9 c10 c11
     have m2:=HM.out.below HB2.out
     have A0:AnsW w p M T M T (w.heap.size + 1) zeroA (.slice none 0 0) 0 [] w2:=⟨Nat.le_succ _,m2,BX2.out,.of_below HB2.out,fun i hi=>.inl hi,own_nil _ _⟩
     have A1:=A0.set 0 (.int .i64 0)
     have e0:w2.cell? ⟨w.heap.size + 1,0,none⟩=some (.int .i64 0):=BX2.out.cell 0
     have f0:=BX2.out.frozen 0
     have hne:w.heap.size + 1 ≠ w.heap.size:=by omega
     obtain ⟨w3,hw3⟩:∃ w3,w2.setCell ⟨w.heap.size + 1,0,none⟩ (.int .i64 0)=w3:=⟨_,rfl⟩
     rw [hw3] at A1
     have BQ3:Blk w3 w.heap.size 39 (Req.row ⟨2,(n:Int),gen,rig,key,val,old,lim,tenant,qk,qb,rights⟩).toArray:=by rw [← hw3];exact BQ2.out.far (p:=⟨w.heap.size + 1,0,none⟩) (by simp) _
     obtain ⟨c0,c1,c2,c3,c4,c5,c6,c7,c8,c9,c10,c11⟩:=req_cells BQ3
     have x3:=A1.mdl.ptr hn17
     unfold Ten.ptr at x3
     rw [HBK.out] at x3
     simp only [Option.map_some] at x3
     have g0:=A1.box.cell 0
     simp at g0
     have HA1:=Lib.hid A1
     have HBQ3:=Lib.hid BQ3
     have HW3:=Lib.hid hw3
     clear A0 A1 m2 BQ3 hw3
     go_wp2_with fail
     rw [HW3.out]
     go_region
     go_wp2_with fail
     have hb3:=(HA1.out.mdl.bk n B hn17 HBK.out).below ((Below.refl _ _).drew:Below w3.heap.size w3 w3.drew)
     have HG:=Lib.hid (put_b hb3 key val hlB)
     unfold PutEnd at HG
     generalize putB B key val=q at HG HE
     obtain ⟨q2,B2⟩:=q
     refine HG.out.mono ?_
     rintro e w4 ⟨rfl,ok,hb4,hok4,hk4⟩
     obtain ⟨m4,ho4,k4⟩:=(HA1.out.mdl.below ((Below.refl _ _).drew:Below w3.heap.size w3 w3.drew)).book hn17 HBK.out hb4 hok4 hk4
     have A2:=HA1.out.op m4 ho4 k4
     have A3:=A2.set 0 (.int .i64 q2)
     have y0:=A2.box.cell 0
     have z0:=A2.box.frozen 0
     simp at y0
     have hA3:=A3.box
     simp only [zeroA,List.setIfInBounds_toArray,List.set_cons_zero,List.set_cons_succ] at A3 hA3
     have HA3:=Lib.hid A3
     have hr3:=range_blk hA3
     have ht3:=there_blk hA3 (Nat.le_refl 17)
     clear A2 A3 c0 c1 c2 c3 c4 c5 c6 c7 c8 c9 c10 c11 x3 g0 e0 f0
     go_wp2_with (first
       | (refine wpList_load_mid rfl 52 (.tmp 4) rfl (w.heap.size + 1) 0 rfl _ _ hr3 Tryz.underlying52 rfl infoAns ?_)
       | (refine wpList_store_mid rfl 52 (.tmp 4) (.tmp 80) rfl (w.heap.size + 1) 0 (ansC q2 ⟨#[]⟩ none 0 0) rfl rfl ht3 infoAns (ansC_one _ _ _ _ _) ?_))
     refine bodyPost_ret (v:=(errA q2:Ans).v none 0) ?_ rfl ?_
     · exact results_cell Tryz.results69 rfl (blk_setAll hA3 rfl) Tryz.underlying52 rfl infoAns
     rw [HE.out]
     exact AnsW.done HA3.out
   · have HE:Hid (operateN M ⟨2,ten,gen,rig,key,val,old,lim,tenant,qk,qb,rights⟩=(M,errA (mayM M ⟨2,ten,gen,rig,key,val,old,lim,tenant,qk,qb,rights⟩))):=Lib.hid (by unfold operateN;rw [if_neg (by rw [HFE.out];decide),if_neg h0])
     have HY:=Lib.hid (fun (W:World) (h:ModelAt W p M T)=>may_m h ⟨2,ten,gen,rig,key,val,old,lim,tenant,qk,qb,rights⟩)
     generalize mayM M ⟨2,ten,gen,rig,key,val,old,lim,tenant,qk,qb,rights⟩=q2 at HY h0 HE
     dsimp only [Req.v] at HY
     go_enter Tryz.func69,Tryz.ntmps69
     go_wp2_with fail
     refine HF.out.mono ?_
     rintro e w1 ⟨rfl,hb⟩
     have BX1:=Lib.hid (HB.out.2.1.below hb HB.out.2.1.lt)
     have BQ1:=Lib.hid (HB.out.2.2.below hb HB.out.2.2.lt)
     have HB1:=Lib.hid (HB.out.1.trans (hb.mono HB.out.1.size))
     clear hb
     obtain ⟨c0,c1,c2,c3,c4,c5,c6,c7,c8,c9,c10,c11⟩:=req_cells (r:=⟨2,ten,gen,rig,key,val,old,lim,tenant,qk,qb,rights⟩) BQ1.out
     go_wp2_with fail
     refine (HY.out w1 (HM.out.below HB1.out)).mono ?_
     rintro e w2 ⟨rfl,hb⟩
     have BX2:=Lib.hid (Blk.below BX1.out hb BX1.out.lt)
     have HB2:=Lib.hid (below_trans HB1.out hb)
     clear hb c0 c1 c2 c3 c4 c5 c6 c7 c8 c9 c10 c11
     have m2:=HM.out.below HB2.out
     have A0:AnsW w p M T M T (w.heap.size + 1) zeroA (.slice none 0 0) 0 [] w2:=⟨Nat.le_succ _,m2,BX2.out,.of_below HB2.out,fun i hi=>.inl hi,own_nil _ _⟩
     have A1:=A0.set 0 (.int .i64 q2)
     have e0:w2.cell? ⟨w.heap.size + 1,0,none⟩=some (.int .i64 0):=BX2.out.cell 0
     have f0:=BX2.out.frozen 0
     have hA3:=A1.box
     simp only [zeroA,List.setIfInBounds_toArray,List.set_cons_zero,List.set_cons_succ] at A1 hA3
     have HA3:=Lib.hid A1
     have hr3:=range_blk hA3
     have ht3:=there_blk hA3 (Nat.le_refl 17)
     clear A0 A1 m2
     go_wp2_with (first
       | (refine wpList_load_mid rfl 52 (.tmp 4) rfl (w.heap.size + 1) 0 rfl _ _ hr3 Tryz.underlying52 rfl infoAns ?_)
       | (refine wpList_store_mid rfl 52 (.tmp 4) (.tmp 17) rfl (w.heap.size + 1) 0 (ansC q2 ⟨#[]⟩ none 0 0) rfl rfl ht3 infoAns (ansC_one _ _ _ _ _) ?_))
     refine bodyPost_ret (v:=(errA q2).v none 0) ?_ rfl ?_
     · exact results_cell Tryz.results69 rfl (blk_setAll hA3 rfl) Tryz.underlying52 rfl infoAns
     rw [HE.out]
     exact AnsW.done HA3.out
set_option maxHeartbeats 6400000 in
set_option maxRecDepth 100000 in
theorem operate3_m {w:World} {p:Nat} {M:Mdl} {T:Ows} (hm:ModelAt w p M T) (r:Req) (hr:r.ok) (hd:r.deed=3) (hsm:Small M):Calls Tryz.prog 69 #[.pointer (some ⟨p,0,none⟩),r.v] w (DoEnd p M T (operateN M r) w):=by
 obtain ⟨deed,ten,gen,rig,key,val,old,lim,tenant,qk,qb,rights⟩:=r
 dsimp only at hd
 subst hd
 have hb0:Below w.heap.size w (w.alloc (.cells (Req.row ⟨3,ten,gen,rig,key,val,old,lim,tenant,qk,qb,rights⟩).toArray 39)):=below_box _ _
 have hq0:=Blk.new w 39 (Req.row ⟨3,ten,gen,rig,key,val,old,lim,tenant,qk,qb,rights⟩).toArray
 have hb1:=below_alloc hb0 (.cells zeroA 52)
 have hbq:=hq0.alloc (.cells zeroA 52)
 have hbx:Blk ((w.alloc (.cells (Req.row ⟨3,ten,gen,rig,key,val,old,lim,tenant,qk,qb,rights⟩).toArray 39)).alloc (.cells zeroA 52)) (w.heap.size + 1) 52 zeroA:=blk_at (by simp)
 have HF:=Lib.hid (formed_r ⟨3,ten,gen,rig,key,val,old,lim,tenant,qk,qb,rights⟩ ((w.alloc (.cells (Req.row ⟨3,ten,gen,rig,key,val,old,lim,tenant,qk,qb,rights⟩).toArray 39)).alloc (.cells zeroA 52)))
 have HM:=Lib.hid hm
 have HB:=Lib.hid (And.intro hb1 (And.intro hbx hbq))
 unfold Req.row at HF HB
 dsimp only [Req.v] at HF ⊢
 clear hb0 hb1 hbx hm hq0 hbq
 by_cases hf:formedN ⟨3,ten,gen,rig,key,val,old,lim,tenant,qk,qb,rights⟩=false
 · have HE:Hid (operateN M ⟨3,ten,gen,rig,key,val,old,lim,tenant,qk,qb,rights⟩=(M,errA 2)):=Lib.hid (by unfold operateN;rw [if_pos hf])
   rw [hf] at HF
   clear hf
   go_enter Tryz.func69,Tryz.ntmps69
   go_wp2_with fail
   refine HF.out.mono ?_
   rintro e w1 ⟨rfl,hb⟩
   have BX:=Lib.hid (HB.out.2.1.below hb HB.out.2.1.lt)
   have HB1:=Lib.hid (HB.out.1.trans (hb.mono HB.out.1.size))
   clear hb
   go_wp2_with (refine wpList_store_mid rfl 52 (.tmp 4) (.tmp 9) rfl (w.heap.size + 1) 0 (errC 2) rfl rfl (there_blk BX.out (Nat.le_refl 17)) infoAns (errC_one _) ?_)
   refine bodyPost_ret (v:=(errA 2).v none 0) ?_ rfl ?_
   · exact results_cell Tryz.results69 rfl (blk_setAll BX.out rfl) Tryz.underlying52 rfl infoAns
   rw [HE.out]
   exact doEnd_store (HM.out.below HB1.out) (.of_below HB1.out) (fun i hi=>.inl hi) (Nat.le_succ _) BX.out rfl
 · rw [Bool.not_eq_false] at hf
   rw [hf] at HF
   have HFE:=Lib.hid hf
   clear hf
   by_cases h0:mayM M ⟨3,ten,gen,rig,key,val,old,lim,tenant,qk,qb,rights⟩=0
   · obtain ⟨n,B,hn,hn1,hn2,hbk⟩:=may_good h0
     dsimp only at hn
     subst hn
     have hn17:n < 17:=by omega
     have HE:Hid (operateN M ⟨3,(n:Int),gen,rig,key,val,old,lim,tenant,qk,qb,rights⟩=(updM M n { M n with bk:=some (delB B key).2 },errA (delB B key).1)):=Lib.hid (by unfold operateN;rw [if_neg (by rw [HFE.out];decide),if_pos h0];dsimp only;rw [Int.toNat_natCast,hbk];rfl)
     have HBK:=Lib.hid hbk
     have hlB:=hsm n B hbk
     have HY:=Lib.hid (fun (W:World) (h:ModelAt W p M T)=>may_m h ⟨3,(n:Int),gen,rig,key,val,old,lim,tenant,qk,qb,rights⟩)
     rw [h0] at HY
     dsimp only [Req.v] at HY
     have HR:=Lib.hid hr
     clear h0 hbk hsm hr
     have hq1:(0:Int) ≤ (n:Int):=by omega
     have hq2:(n:Int) < 17:=by omega
     go_enter Tryz.func69,Tryz.ntmps69
     go_wp2_with fail
     refine HF.out.mono ?_
     rintro e w1 ⟨rfl,hb⟩
     have BX1:=Lib.hid (HB.out.2.1.below hb HB.out.2.1.lt)
     have BQ1:=Lib.hid (HB.out.2.2.below hb HB.out.2.2.lt)
     have HB1:=Lib.hid (HB.out.1.trans (hb.mono HB.out.1.size))
     clear hb
     obtain ⟨c0,c1,c2,c3,c4,c5,c6,c7,c8,c9,c10,c11⟩:=req_cells (r:=⟨3,(n:Int),gen,rig,key,val,old,lim,tenant,qk,qb,rights⟩) BQ1.out
     go_wp2_with fail
     refine (HY.out w1 (HM.out.below HB1.out)).mono ?_
     rintro e w2 ⟨rfl,hb⟩
     have BX2:=Lib.hid (Blk.below BX1.out hb BX1.out.lt)
     have BQ2:=Lib.hid (Blk.below BQ1.out hb BQ1.out.lt)
     have HB2:=Lib.hid (below_trans HB1.out hb)
     clear hb c0 c1 c2 c3 c4 c5 c6 c7 c8 c9 c10 c11
     have m2:=HM.out.below HB2.out
     have A0:AnsW w p M T M T (w.heap.size + 1) zeroA (.slice none 0 0) 0 [] w2:=⟨Nat.le_succ _,m2,BX2.out,.of_below HB2.out,fun i hi=>.inl hi,own_nil _ _⟩
     have A1:=A0.set 0 (.int .i64 0)
     have e0:w2.cell? ⟨w.heap.size + 1,0,none⟩=some (.int .i64 0):=BX2.out.cell 0
     have f0:=BX2.out.frozen 0
     have hne:w.heap.size + 1 ≠ w.heap.size:=by omega
     obtain ⟨w3,hw3⟩:∃ w3,w2.setCell ⟨w.heap.size + 1,0,none⟩ (.int .i64 0)=w3:=⟨_,rfl⟩
     rw [hw3] at A1
     have BQ3:Blk w3 w.heap.size 39 (Req.row ⟨3,(n:Int),gen,rig,key,val,old,lim,tenant,qk,qb,rights⟩).toArray:=by rw [← hw3];exact BQ2.out.far (p:=⟨w.heap.size + 1,0,none⟩) (by simp) _
     obtain ⟨c0,c1,c2,c3,c4,c5,c6,c7,c8,c9,c10,c11⟩:=req_cells BQ3
     have x3:=A1.mdl.ptr hn17
     unfold Ten.ptr at x3
     rw [HBK.out] at x3
     simp only [Option.map_some] at x3
     have g0:=A1.box.cell 0
     simp at g0
     have HA1:=Lib.hid A1
     have HBQ3:=Lib.hid BQ3
     have HW3:=Lib.hid hw3
     clear A0 A1 m2 BQ3 hw3
     go_wp2_with fail
     rw [HW3.out]
     go_region
     go_wp2_with fail
     have hb3:=(HA1.out.mdl.bk n B hn17 HBK.out).below ((Below.refl _ _).drew:Below w3.heap.size w3 w3.drew)
     have HG:=Lib.hid (del_b hb3 key hlB)
     generalize delB B key=q at HG HE
     obtain ⟨q2,B2⟩:=q
     refine HG.out.mono ?_
     rintro e w4 ⟨rfl,ok,hb4,hok4,hk4⟩
     obtain ⟨m4,ho4,k4⟩:=(HA1.out.mdl.below ((Below.refl _ _).drew:Below w3.heap.size w3 w3.drew)).book hn17 HBK.out hb4 hok4 hk4
     have A2:=HA1.out.op m4 ho4 k4
     have A3:=A2.set 0 (.int .i64 q2)
     have y0:=A2.box.cell 0
     have z0:=A2.box.frozen 0
     simp at y0
     have hA3:=A3.box
     simp only [zeroA,List.setIfInBounds_toArray,List.set_cons_zero,List.set_cons_succ] at A3 hA3
     have HA3:=Lib.hid A3
     have hr3:=range_blk hA3
     have ht3:=there_blk hA3 (Nat.le_refl 17)
     clear A2 A3 c0 c1 c2 c3 c4 c5 c6 c7 c8 c9 c10 c11 x3 g0 e0 f0
     go_wp2_with (first
       | (refine wpList_load_mid rfl 52 (.tmp 4) rfl (w.heap.size + 1) 0 rfl _ _ hr3 Tryz.underlying52 rfl infoAns ?_)
       | (refine wpList_store_mid rfl 52 (.tmp 4) (.tmp 80) rfl (w.heap.size + 1) 0 (ansC q2 ⟨#[]⟩ none 0 0) rfl rfl ht3 infoAns (ansC_one _ _ _ _ _) ?_))
     refine bodyPost_ret (v:=(errA q2:Ans).v none 0) ?_ rfl ?_
     · exact results_cell Tryz.results69 rfl (blk_setAll hA3 rfl) Tryz.underlying52 rfl infoAns
     rw [HE.out]
     exact AnsW.done HA3.out
   · have HE:Hid (operateN M ⟨3,ten,gen,rig,key,val,old,lim,tenant,qk,qb,rights⟩=(M,errA (mayM M ⟨3,ten,gen,rig,key,val,old,lim,tenant,qk,qb,rights⟩))):=Lib.hid (by unfold operateN;rw [if_neg (by rw [HFE.out];decide),if_neg h0])
     have HY:=Lib.hid (fun (W:World) (h:ModelAt W p M T)=>may_m h ⟨3,ten,gen,rig,key,val,old,lim,tenant,qk,qb,rights⟩)
     generalize mayM M ⟨3,ten,gen,rig,key,val,old,lim,tenant,qk,qb,rights⟩=q2 at HY h0 HE
     dsimp only [Req.v] at HY
     go_enter Tryz.func69,Tryz.ntmps69
     go_wp2_with fail
     refine HF.out.mono ?_
     rintro e w1 ⟨rfl,hb⟩
     have BX1:=Lib.hid (HB.out.2.1.below hb HB.out.2.1.lt)
     have BQ1:=Lib.hid (HB.out.2.2.below hb HB.out.2.2.lt)
     have HB1:=Lib.hid (HB.out.1.trans (hb.mono HB.out.1.size))
     clear hb
     obtain ⟨c0,c1,c2,c3,c4,c5,c6,c7,c8,c9,c10,c11⟩:=req_cells (r:=⟨3,ten,gen,rig,key,val,old,lim,tenant,qk,qb,rights⟩) BQ1.out
     go_wp2_with fail
     refine (HY.out w1 (HM.out.below HB1.out)).mono ?_
     rintro e w2 ⟨rfl,hb⟩
     have BX2:=Lib.hid (Blk.below BX1.out hb BX1.out.lt)
     have HB2:=Lib.hid (below_trans HB1.out hb)
     clear hb c0 c1 c2 c3 c4 c5 c6 c7 c8 c9 c10 c11
     have m2:=HM.out.below HB2.out
     have A0:AnsW w p M T M T (w.heap.size + 1) zeroA (.slice none 0 0) 0 [] w2:=⟨Nat.le_succ _,m2,BX2.out,.of_below HB2.out,fun i hi=>.inl hi,own_nil _ _⟩
     have A1:=A0.set 0 (.int .i64 q2)
     have e0:w2.cell? ⟨w.heap.size + 1,0,none⟩=some (.int .i64 0):=BX2.out.cell 0
     have f0:=BX2.out.frozen 0
     have hA3:=A1.box
     simp only [zeroA,List.setIfInBounds_toArray,List.set_cons_zero,List.set_cons_succ] at A1 hA3
     have HA3:=Lib.hid A1
     have hr3:=range_blk hA3
     have ht3:=there_blk hA3 (Nat.le_refl 17)
     clear A0 A1 m2
     go_wp2_with (first
       | (refine wpList_load_mid rfl 52 (.tmp 4) rfl (w.heap.size + 1) 0 rfl _ _ hr3 Tryz.underlying52 rfl infoAns ?_)
       | (refine wpList_store_mid rfl 52 (.tmp 4) (.tmp 17) rfl (w.heap.size + 1) 0 (ansC q2 ⟨#[]⟩ none 0 0) rfl rfl ht3 infoAns (ansC_one _ _ _ _ _) ?_))
     refine bodyPost_ret (v:=(errA q2).v none 0) ?_ rfl ?_
     · exact results_cell Tryz.results69 rfl (blk_setAll hA3 rfl) Tryz.underlying52 rfl infoAns
     rw [HE.out]
     exact AnsW.done HA3.out
set_option maxHeartbeats 6400000 in
set_option maxRecDepth 100000 in
theorem operate4_m {w:World} {p:Nat} {M:Mdl} {T:Ows} (hm:ModelAt w p M T) (r:Req) (hr:r.ok) (hd:r.deed=4) (hsm:Small M):Calls Tryz.prog 69 #[.pointer (some ⟨p,0,none⟩),r.v] w (DoEnd p M T (operateN M r) w):=by
 obtain ⟨deed,ten,gen,rig,key,val,old,lim,tenant,qk,qb,rights⟩:=r
 dsimp only at hd
 subst hd
 have hb0:Below w.heap.size w (w.alloc (.cells (Req.row ⟨4,ten,gen,rig,key,val,old,lim,tenant,qk,qb,rights⟩).toArray 39)):=below_box _ _
 have hq0:=Blk.new w 39 (Req.row ⟨4,ten,gen,rig,key,val,old,lim,tenant,qk,qb,rights⟩).toArray
 have hb1:=below_alloc hb0 (.cells zeroA 52)
 have hbq:=hq0.alloc (.cells zeroA 52)
 have hbx:Blk ((w.alloc (.cells (Req.row ⟨4,ten,gen,rig,key,val,old,lim,tenant,qk,qb,rights⟩).toArray 39)).alloc (.cells zeroA 52)) (w.heap.size + 1) 52 zeroA:=blk_at (by simp)
 have HF:=Lib.hid (formed_r ⟨4,ten,gen,rig,key,val,old,lim,tenant,qk,qb,rights⟩ ((w.alloc (.cells (Req.row ⟨4,ten,gen,rig,key,val,old,lim,tenant,qk,qb,rights⟩).toArray 39)).alloc (.cells zeroA 52)))
 have HM:=Lib.hid hm
 have HB:=Lib.hid (And.intro hb1 (And.intro hbx hbq))
 unfold Req.row at HF HB
 dsimp only [Req.v] at HF ⊢
 clear hb0 hb1 hbx hm hq0 hbq
 by_cases hf:formedN ⟨4,ten,gen,rig,key,val,old,lim,tenant,qk,qb,rights⟩=false
 · have HE:Hid (operateN M ⟨4,ten,gen,rig,key,val,old,lim,tenant,qk,qb,rights⟩=(M,errA 2)):=Lib.hid (by unfold operateN;rw [if_pos hf])
   rw [hf] at HF
   clear hf
   go_enter Tryz.func69,Tryz.ntmps69
   go_wp2_with fail
   refine HF.out.mono ?_
   rintro e w1 ⟨rfl,hb⟩
   have BX:=Lib.hid (HB.out.2.1.below hb HB.out.2.1.lt)
   have HB1:=Lib.hid (HB.out.1.trans (hb.mono HB.out.1.size))
   clear hb
   go_wp2_with (refine wpList_store_mid rfl 52 (.tmp 4) (.tmp 9) rfl (w.heap.size + 1) 0 (errC 2) rfl rfl (there_blk BX.out (Nat.le_refl 17)) infoAns (errC_one _) ?_)
   refine bodyPost_ret (v:=(errA 2).v none 0) ?_ rfl ?_
   · exact results_cell Tryz.results69 rfl (blk_setAll BX.out rfl) Tryz.underlying52 rfl infoAns
   rw [HE.out]
   exact doEnd_store (HM.out.below HB1.out) (.of_below HB1.out) (fun i hi=>.inl hi) (Nat.le_succ _) BX.out rfl
 · rw [Bool.not_eq_false] at hf
   rw [hf] at HF
   have HFE:=Lib.hid hf
   clear hf
   by_cases h0:mayM M ⟨4,ten,gen,rig,key,val,old,lim,tenant,qk,qb,rights⟩=0
   · obtain ⟨n,B,hn,hn1,hn2,hbk⟩:=may_good h0
     dsimp only at hn
     subst hn
     have hn17:n < 17:=by omega
     have HE:Hid (operateN M ⟨4,(n:Int),gen,rig,key,val,old,lim,tenant,qk,qb,rights⟩=(updM M n { M n with bk:=some (swapB B key old val).2 },errA (swapB B key old val).1)):=Lib.hid (by unfold operateN;rw [if_neg (by rw [HFE.out];decide),if_pos h0];dsimp only;rw [Int.toNat_natCast,hbk];rfl)
     have HBK:=Lib.hid hbk
     have hlB:=hsm n B hbk
     have HY:=Lib.hid (fun (W:World) (h:ModelAt W p M T)=>may_m h ⟨4,(n:Int),gen,rig,key,val,old,lim,tenant,qk,qb,rights⟩)
     rw [h0] at HY
     dsimp only [Req.v] at HY
     have HR:=Lib.hid hr
     clear h0 hbk hsm hr
     have hq1:(0:Int) ≤ (n:Int):=by omega
     have hq2:(n:Int) < 17:=by omega
     go_enter Tryz.func69,Tryz.ntmps69
     go_wp2_with fail
     refine HF.out.mono ?_
     rintro e w1 ⟨rfl,hb⟩
     have BX1:=Lib.hid (HB.out.2.1.below hb HB.out.2.1.lt)
     have BQ1:=Lib.hid (HB.out.2.2.below hb HB.out.2.2.lt)
     have HB1:=Lib.hid (HB.out.1.trans (hb.mono HB.out.1.size))
     clear hb
     obtain ⟨c0,c1,c2,c3,c4,c5,c6,c7,c8,c9,c10,c11⟩:=req_cells (r:=⟨4,(n:Int),gen,rig,key,val,old,lim,tenant,qk,qb,rights⟩) BQ1.out
     go_wp2_with fail
     refine (HY.out w1 (HM.out.below HB1.out)).mono ?_
     rintro e w2 ⟨rfl,hb⟩
     have BX2:=Lib.hid (Blk.below BX1.out hb BX1.out.lt)
     have BQ2:=Lib.hid (Blk.below BQ1.out hb BQ1.out.lt)
     have HB2:=Lib.hid (below_trans HB1.out hb)
     clear hb c0 c1 c2 c3 c4 c5 c6 c7 c8 c9 c10 c11
     have m2:=HM.out.below HB2.out
     have A0:AnsW w p M T M T (w.heap.size + 1) zeroA (.slice none 0 0) 0 [] w2:=⟨Nat.le_succ _,m2,BX2.out,.of_below HB2.out,fun i hi=>.inl hi,own_nil _ _⟩
     have A1:=A0.set 0 (.int .i64 0)
     have e0:w2.cell? ⟨w.heap.size + 1,0,none⟩=some (.int .i64 0):=BX2.out.cell 0
     have f0:=BX2.out.frozen 0
     have hne:w.heap.size + 1 ≠ w.heap.size:=by omega
     obtain ⟨w3,hw3⟩:∃ w3,w2.setCell ⟨w.heap.size + 1,0,none⟩ (.int .i64 0)=w3:=⟨_,rfl⟩
     rw [hw3] at A1
     have BQ3:Blk w3 w.heap.size 39 (Req.row ⟨4,(n:Int),gen,rig,key,val,old,lim,tenant,qk,qb,rights⟩).toArray:=by rw [← hw3];exact BQ2.out.far (p:=⟨w.heap.size + 1,0,none⟩) (by simp) _
     obtain ⟨c0,c1,c2,c3,c4,c5,c6,c7,c8,c9,c10,c11⟩:=req_cells BQ3
     have x3:=A1.mdl.ptr hn17
     unfold Ten.ptr at x3
     rw [HBK.out] at x3
     simp only [Option.map_some] at x3
     have g0:=A1.box.cell 0
     simp at g0
     have HA1:=Lib.hid A1
     have HBQ3:=Lib.hid BQ3
     have HW3:=Lib.hid hw3
     clear A0 A1 m2 BQ3 hw3
     go_wp2_with fail
     rw [HW3.out]
     go_region
     go_wp2_with fail
     have hb3:=(HA1.out.mdl.bk n B hn17 HBK.out).below ((Below.refl _ _).drew:Below w3.heap.size w3 w3.drew)
     have HG:=Lib.hid (swap_b hb3 key old val hlB)
     generalize swapB B key old val=q at HG HE
     obtain ⟨q2,B2⟩:=q
     refine HG.out.mono ?_
     rintro e w4 ⟨rfl,ok,hb4,hok4,hk4⟩
     obtain ⟨m4,ho4,k4⟩:=(HA1.out.mdl.below ((Below.refl _ _).drew:Below w3.heap.size w3 w3.drew)).book hn17 HBK.out hb4 hok4 hk4
     have A2:=HA1.out.op m4 ho4 k4
     have A3:=A2.set 0 (.int .i64 q2)
     have y0:=A2.box.cell 0
     have z0:=A2.box.frozen 0
     simp at y0
     have hA3:=A3.box
     simp only [zeroA,List.setIfInBounds_toArray,List.set_cons_zero,List.set_cons_succ] at A3 hA3
     have HA3:=Lib.hid A3
     have hr3:=range_blk hA3
     have ht3:=there_blk hA3 (Nat.le_refl 17)
     clear A2 A3 c0 c1 c2 c3 c4 c5 c6 c7 c8 c9 c10 c11 x3 g0 e0 f0
     go_wp2_with (first
       | (refine wpList_load_mid rfl 52 (.tmp 4) rfl (w.heap.size + 1) 0 rfl _ _ hr3 Tryz.underlying52 rfl infoAns ?_)
       | (refine wpList_store_mid rfl 52 (.tmp 4) (.tmp 80) rfl (w.heap.size + 1) 0 (ansC q2 ⟨#[]⟩ none 0 0) rfl rfl ht3 infoAns (ansC_one _ _ _ _ _) ?_))
     refine bodyPost_ret (v:=(errA q2:Ans).v none 0) ?_ rfl ?_
     · exact results_cell Tryz.results69 rfl (blk_setAll hA3 rfl) Tryz.underlying52 rfl infoAns
     rw [HE.out]
     exact AnsW.done HA3.out
   · have HE:Hid (operateN M ⟨4,ten,gen,rig,key,val,old,lim,tenant,qk,qb,rights⟩=(M,errA (mayM M ⟨4,ten,gen,rig,key,val,old,lim,tenant,qk,qb,rights⟩))):=Lib.hid (by unfold operateN;rw [if_neg (by rw [HFE.out];decide),if_neg h0])
     have HY:=Lib.hid (fun (W:World) (h:ModelAt W p M T)=>may_m h ⟨4,ten,gen,rig,key,val,old,lim,tenant,qk,qb,rights⟩)
     generalize mayM M ⟨4,ten,gen,rig,key,val,old,lim,tenant,qk,qb,rights⟩=q2 at HY h0 HE
     dsimp only [Req.v] at HY
     go_enter Tryz.func69,Tryz.ntmps69
     go_wp2_with fail
     refine HF.out.mono ?_
     rintro e w1 ⟨rfl,hb⟩
     have BX1:=Lib.hid (HB.out.2.1.below hb HB.out.2.1.lt)
     have BQ1:=Lib.hid (HB.out.2.2.below hb HB.out.2.2.lt)
     have HB1:=Lib.hid (HB.out.1.trans (hb.mono HB.out.1.size))
     clear hb
     obtain ⟨c0,c1,c2,c3,c4,c5,c6,c7,c8,c9,c10,c11⟩:=req_cells (r:=⟨4,ten,gen,rig,key,val,old,lim,tenant,qk,qb,rights⟩) BQ1.out
     go_wp2_with fail
     refine (HY.out w1 (HM.out.below HB1.out)).mono ?_
     rintro e w2 ⟨rfl,hb⟩
     have BX2:=Lib.hid (Blk.below BX1.out hb BX1.out.lt)
     have HB2:=Lib.hid (below_trans HB1.out hb)
     clear hb c0 c1 c2 c3 c4 c5 c6 c7 c8 c9 c10 c11
     have m2:=HM.out.below HB2.out
     have A0:AnsW w p M T M T (w.heap.size + 1) zeroA (.slice none 0 0) 0 [] w2:=⟨Nat.le_succ _,m2,BX2.out,.of_below HB2.out,fun i hi=>.inl hi,own_nil _ _⟩
     have A1:=A0.set 0 (.int .i64 q2)
     have e0:w2.cell? ⟨w.heap.size + 1,0,none⟩=some (.int .i64 0):=BX2.out.cell 0
     have f0:=BX2.out.frozen 0
     have hA3:=A1.box
     simp only [zeroA,List.setIfInBounds_toArray,List.set_cons_zero,List.set_cons_succ] at A1 hA3
     have HA3:=Lib.hid A1
     have hr3:=range_blk hA3
     have ht3:=there_blk hA3 (Nat.le_refl 17)
     clear A0 A1 m2
     go_wp2_with (first
       | (refine wpList_load_mid rfl 52 (.tmp 4) rfl (w.heap.size + 1) 0 rfl _ _ hr3 Tryz.underlying52 rfl infoAns ?_)
       | (refine wpList_store_mid rfl 52 (.tmp 4) (.tmp 17) rfl (w.heap.size + 1) 0 (ansC q2 ⟨#[]⟩ none 0 0) rfl rfl ht3 infoAns (ansC_one _ _ _ _ _) ?_))
     refine bodyPost_ret (v:=(errA q2).v none 0) ?_ rfl ?_
     · exact results_cell Tryz.results69 rfl (blk_setAll hA3 rfl) Tryz.underlying52 rfl infoAns
     rw [HE.out]
     exact AnsW.done HA3.out
set_option maxHeartbeats 6400000 in
set_option maxRecDepth 100000 in
theorem operate5_m {w:World} {p:Nat} {M:Mdl} {T:Ows} (hm:ModelAt w p M T) (r:Req) (hr:r.ok) (hd:r.deed=5) (hsm:Small M):Calls Tryz.prog 69 #[.pointer (some ⟨p,0,none⟩),r.v] w (DoEnd p M T (operateN M r) w):=by
 obtain ⟨deed,ten,gen,rig,key,val,old,lim,tenant,qk,qb,rights⟩:=r
 dsimp only at hd
 subst hd
 have hb0:Below w.heap.size w (w.alloc (.cells (Req.row ⟨5,ten,gen,rig,key,val,old,lim,tenant,qk,qb,rights⟩).toArray 39)):=below_box _ _
 have hq0:=Blk.new w 39 (Req.row ⟨5,ten,gen,rig,key,val,old,lim,tenant,qk,qb,rights⟩).toArray
 have hb1:=below_alloc hb0 (.cells zeroA 52)
 have hbq:=hq0.alloc (.cells zeroA 52)
 have hbx:Blk ((w.alloc (.cells (Req.row ⟨5,ten,gen,rig,key,val,old,lim,tenant,qk,qb,rights⟩).toArray 39)).alloc (.cells zeroA 52)) (w.heap.size + 1) 52 zeroA:=blk_at (by simp)
 have HF:=Lib.hid (formed_r ⟨5,ten,gen,rig,key,val,old,lim,tenant,qk,qb,rights⟩ ((w.alloc (.cells (Req.row ⟨5,ten,gen,rig,key,val,old,lim,tenant,qk,qb,rights⟩).toArray 39)).alloc (.cells zeroA 52)))
 have HM:=Lib.hid hm
 have HB:=Lib.hid (And.intro hb1 (And.intro hbx hbq))
 unfold Req.row at HF HB
 dsimp only [Req.v] at HF ⊢
 clear hb0 hb1 hbx hm hq0 hbq
 by_cases hf:formedN ⟨5,ten,gen,rig,key,val,old,lim,tenant,qk,qb,rights⟩=false
 · have HE:Hid (operateN M ⟨5,ten,gen,rig,key,val,old,lim,tenant,qk,qb,rights⟩=(M,errA 2)):=Lib.hid (by unfold operateN;rw [if_pos hf])
   rw [hf] at HF
   clear hf
   go_enter Tryz.func69,Tryz.ntmps69
   go_wp2_with fail
   refine HF.out.mono ?_
   rintro e w1 ⟨rfl,hb⟩
   have BX:=Lib.hid (HB.out.2.1.below hb HB.out.2.1.lt)
   have HB1:=Lib.hid (HB.out.1.trans (hb.mono HB.out.1.size))
   clear hb
   go_wp2_with (refine wpList_store_mid rfl 52 (.tmp 4) (.tmp 9) rfl (w.heap.size + 1) 0 (errC 2) rfl rfl (there_blk BX.out (Nat.le_refl 17)) infoAns (errC_one _) ?_)
   refine bodyPost_ret (v:=(errA 2).v none 0) ?_ rfl ?_
   · exact results_cell Tryz.results69 rfl (blk_setAll BX.out rfl) Tryz.underlying52 rfl infoAns
   rw [HE.out]
   exact doEnd_store (HM.out.below HB1.out) (.of_below HB1.out) (fun i hi=>.inl hi) (Nat.le_succ _) BX.out rfl
 · rw [Bool.not_eq_false] at hf
   rw [hf] at HF
   have HFE:=Lib.hid hf
   clear hf
   by_cases h0:mayM M ⟨5,ten,gen,rig,key,val,old,lim,tenant,qk,qb,rights⟩=0
   · obtain ⟨n,B,hn,hn1,hn2,hbk⟩:=may_good h0
     dsimp only at hn
     subst hn
     have hn17:n < 17:=by omega
     have HE:Hid (operateN M ⟨5,(n:Int),gen,rig,key,val,old,lim,tenant,qk,qb,rights⟩=(M,{ errA (scanN B.l key lim).2 with prs:=(scanN B.l key lim).1 })):=Lib.hid (by unfold operateN;rw [if_neg (by rw [HFE.out];decide),if_pos h0];dsimp only;rw [Int.toNat_natCast,hbk];rfl)
     have HBK:=Lib.hid hbk
     have hlB:=hsm n B hbk
     have HY:=Lib.hid (fun (W:World) (h:ModelAt W p M T)=>may_m h ⟨5,(n:Int),gen,rig,key,val,old,lim,tenant,qk,qb,rights⟩)
     rw [h0] at HY
     dsimp only [Req.v] at HY
     have HR:=Lib.hid hr
     clear h0 hbk hsm hr
     have hq1:(0:Int) ≤ (n:Int):=by omega
     have hq2:(n:Int) < 17:=by omega
     go_enter Tryz.func69,Tryz.ntmps69
     go_wp2_with fail
     refine HF.out.mono ?_
     rintro e w1 ⟨rfl,hb⟩
     have BX1:=Lib.hid (HB.out.2.1.below hb HB.out.2.1.lt)
     have BQ1:=Lib.hid (HB.out.2.2.below hb HB.out.2.2.lt)
     have HB1:=Lib.hid (HB.out.1.trans (hb.mono HB.out.1.size))
     clear hb
     obtain ⟨c0,c1,c2,c3,c4,c5,c6,c7,c8,c9,c10,c11⟩:=req_cells (r:=⟨5,(n:Int),gen,rig,key,val,old,lim,tenant,qk,qb,rights⟩) BQ1.out
     go_wp2_with fail
     refine (HY.out w1 (HM.out.below HB1.out)).mono ?_
     rintro e w2 ⟨rfl,hb⟩
     have BX2:=Lib.hid (Blk.below BX1.out hb BX1.out.lt)
     have BQ2:=Lib.hid (Blk.below BQ1.out hb BQ1.out.lt)
     have HB2:=Lib.hid (below_trans HB1.out hb)
     clear hb c0 c1 c2 c3 c4 c5 c6 c7 c8 c9 c10 c11
     have m2:=HM.out.below HB2.out
     have A0:AnsW w p M T M T (w.heap.size + 1) zeroA (.slice none 0 0) 0 [] w2:=⟨Nat.le_succ _,m2,BX2.out,.of_below HB2.out,fun i hi=>.inl hi,own_nil _ _⟩
     have A1:=A0.set 0 (.int .i64 0)
     have e0:w2.cell? ⟨w.heap.size + 1,0,none⟩=some (.int .i64 0):=BX2.out.cell 0
     have f0:=BX2.out.frozen 0
     have hne:w.heap.size + 1 ≠ w.heap.size:=by omega
     obtain ⟨w3,hw3⟩:∃ w3,w2.setCell ⟨w.heap.size + 1,0,none⟩ (.int .i64 0)=w3:=⟨_,rfl⟩
     rw [hw3] at A1
     have BQ3:Blk w3 w.heap.size 39 (Req.row ⟨5,(n:Int),gen,rig,key,val,old,lim,tenant,qk,qb,rights⟩).toArray:=by rw [← hw3];exact BQ2.out.far (p:=⟨w.heap.size + 1,0,none⟩) (by simp) _
     obtain ⟨c0,c1,c2,c3,c4,c5,c6,c7,c8,c9,c10,c11⟩:=req_cells BQ3
     have x3:=A1.mdl.ptr hn17
     unfold Ten.ptr at x3
     rw [HBK.out] at x3
     simp only [Option.map_some] at x3
     have g0:=A1.box.cell 0
     simp at g0
     have HA1:=Lib.hid A1
     have HBQ3:=Lib.hid BQ3
     have HW3:=Lib.hid hw3
     clear A0 A1 m2 BQ3 hw3
     go_wp2_with fail
     rw [HW3.out]
     go_region
     go_wp2_with fail
     have hb3:=(HA1.out.mdl.bk n B hn17 HBK.out).below ((Below.refl _ _).drew:Below w3.heap.size w3 w3.drew)
     have HG:=Lib.hid (scan_b hb3 key lim hlB HR.out.lim)
     generalize scanN B.l key lim=q at HG HE
     obtain ⟨q1,q2⟩:=q
     refine HG.out.mono ?_
     rintro e w4 ⟨A4,c4,rfl,hrow4,hb4⟩
     have A2:=(HA1.out.below ((Below.refl _ _).drew.trans hb4)).rows (own_base hrow4 HA1.out.keep.size)
     have A3:=(A2.set 2 (.slice A4 q1.length c4)).set 0 (.int .i64 q2)
     have y2:=A2.box.cell 2
     have z2:=A2.box.frozen 2
     simp at y2
     have y0:=A2.box.cell 0
     have z0:=A2.box.frozen 0
     simp at y0
     have hA3:=A3.box
     simp only [zeroA,List.setIfInBounds_toArray,List.set_cons_zero,List.set_cons_succ] at A3 hA3
     have HA3:=Lib.hid A3
     have hr3:=range_blk hA3
     have ht3:=there_blk hA3 (Nat.le_refl 17)
     clear A2 A3 c0 c1 c2 c3 c5 c6 c7 c8 c9 c10 c11 x3 g0 e0 f0
     go_wp2_with (first
       | (refine wpList_load_mid rfl 52 (.tmp 4) rfl (w.heap.size + 1) 0 rfl _ _ hr3 Tryz.underlying52 rfl infoAns ?_)
       | (refine wpList_store_mid rfl 52 (.tmp 4) (.tmp 80) rfl (w.heap.size + 1) 0 (ansC q2 ⟨#[]⟩ A4 q1.length c4) rfl rfl ht3 infoAns (ansC_one _ _ _ _ _) ?_))
     refine bodyPost_ret (v:=({ errA q2 with prs:=q1 }:Ans).v A4 c4) ?_ rfl ?_
     · exact results_cell Tryz.results69 rfl (blk_setAll hA3 rfl) Tryz.underlying52 rfl infoAns
     rw [HE.out]
     exact AnsW.done HA3.out
   · have HE:Hid (operateN M ⟨5,ten,gen,rig,key,val,old,lim,tenant,qk,qb,rights⟩=(M,errA (mayM M ⟨5,ten,gen,rig,key,val,old,lim,tenant,qk,qb,rights⟩))):=Lib.hid (by unfold operateN;rw [if_neg (by rw [HFE.out];decide),if_neg h0])
     have HY:=Lib.hid (fun (W:World) (h:ModelAt W p M T)=>may_m h ⟨5,ten,gen,rig,key,val,old,lim,tenant,qk,qb,rights⟩)
     generalize mayM M ⟨5,ten,gen,rig,key,val,old,lim,tenant,qk,qb,rights⟩=q2 at HY h0 HE
     dsimp only [Req.v] at HY
     go_enter Tryz.func69,Tryz.ntmps69
     go_wp2_with fail
     refine HF.out.mono ?_
     rintro e w1 ⟨rfl,hb⟩
     have BX1:=Lib.hid (HB.out.2.1.below hb HB.out.2.1.lt)
     have BQ1:=Lib.hid (HB.out.2.2.below hb HB.out.2.2.lt)
     have HB1:=Lib.hid (HB.out.1.trans (hb.mono HB.out.1.size))
     clear hb
     obtain ⟨c0,c1,c2,c3,c4,c5,c6,c7,c8,c9,c10,c11⟩:=req_cells (r:=⟨5,ten,gen,rig,key,val,old,lim,tenant,qk,qb,rights⟩) BQ1.out
     go_wp2_with fail
     refine (HY.out w1 (HM.out.below HB1.out)).mono ?_
     rintro e w2 ⟨rfl,hb⟩
     have BX2:=Lib.hid (Blk.below BX1.out hb BX1.out.lt)
     have HB2:=Lib.hid (below_trans HB1.out hb)
     clear hb c0 c1 c2 c3 c4 c5 c6 c7 c8 c9 c10 c11
     have m2:=HM.out.below HB2.out
     have A0:AnsW w p M T M T (w.heap.size + 1) zeroA (.slice none 0 0) 0 [] w2:=⟨Nat.le_succ _,m2,BX2.out,.of_below HB2.out,fun i hi=>.inl hi,own_nil _ _⟩
     have A1:=A0.set 0 (.int .i64 q2)
     have e0:w2.cell? ⟨w.heap.size + 1,0,none⟩=some (.int .i64 0):=BX2.out.cell 0
     have f0:=BX2.out.frozen 0
     have hA3:=A1.box
     simp only [zeroA,List.setIfInBounds_toArray,List.set_cons_zero,List.set_cons_succ] at A1 hA3
     have HA3:=Lib.hid A1
     have hr3:=range_blk hA3
     have ht3:=there_blk hA3 (Nat.le_refl 17)
     clear A0 A1 m2
     go_wp2_with (first
       | (refine wpList_load_mid rfl 52 (.tmp 4) rfl (w.heap.size + 1) 0 rfl _ _ hr3 Tryz.underlying52 rfl infoAns ?_)
       | (refine wpList_store_mid rfl 52 (.tmp 4) (.tmp 17) rfl (w.heap.size + 1) 0 (ansC q2 ⟨#[]⟩ none 0 0) rfl rfl ht3 infoAns (ansC_one _ _ _ _ _) ?_))
     refine bodyPost_ret (v:=(errA q2).v none 0) ?_ rfl ?_
     · exact results_cell Tryz.results69 rfl (blk_setAll hA3 rfl) Tryz.underlying52 rfl infoAns
     rw [HE.out]
     exact AnsW.done HA3.out
section
variable {P:Program}
theorem run_neq_func (w:World) (t:TypeId) (ps rs:Array TypeId) (vd:Bool) (f:Fn) (x y:Array Value) (h:P.underlying t=some (.func ps rs vd)):(binOp .neq t (.func f x y) .nilFunc).run P w=.ok (.bool true) w:=by
 have h1:∀ d,(Op.equalIn (d + 1) t (.func f x y) .nilFunc).run P w=.ok false w:=fun d=>by simp [Op.equalIn,run_underlying h]
 simp only [binOp]
 simp [Op.equal,Op.maxDepth,h1 9999]
theorem run_neq_func_nil (w:World) (t:TypeId) (ps rs:Array TypeId) (vd:Bool) (h:P.underlying t=some (.func ps rs vd)):(binOp .neq t .nilFunc .nilFunc).run P w=.ok (.bool false) w:=by
 have h1:∀ d,(Op.equalIn (d + 1) t .nilFunc .nilFunc).run P w=.ok true w:=fun d=>by simp [Op.equalIn,run_underlying h]
 simp only [binOp]
 simp [Op.equal,Op.maxDepth,h1 9999]
end
def deedsMap:List (Int × Value):=[(1,.func (.func 69) #[] #[]),(2,.func (.func 69) #[] #[]),(3,.func (.func 69) #[] #[]),(4,.func (.func 69) #[] #[]),(5,.func (.func 69) #[] #[]),(6,.func (.func 70) #[] #[]),(7,.func (.func 71) #[] #[]),(8,.func (.func 72) #[] #[]),(9,.func (.func 73) #[] #[]),(10,.func (.func 74) #[] #[])]
set_option maxHeartbeats 1600000 in
set_option maxRecDepth 100000 in
theorem deeds_m (w:World):Calls Tryz.prog 33 #[] w fun e w'=>∃ b,e=.returned (.map (some b))∧IntMap .i64 w' b deedsMap∧Below w.heap.size w w':=by
 have hmm:=@run_makeMap Tryz.prog
 have m0:=IntMap.made .i64 w
 have b0:Below w.heap.size w (w.alloc (.map #[] 0)):=(Below.refl _ _).alloc (Nat.le_refl _) _
 go_enter Tryz.func33,Tryz.ntmps33
 go_wp2_with (refine wpList_insert_lit w w.heap.size rfl _ _ _ _ rfl 33 102 .i64 .i64 Tryz.underlying103 Tryz.underlying33 rfl _ _ rfl (by assumption) (by assumption) (Nat.le_refl _) _ rfl (by rfl) _ rfl ?_;intro wa ma ba)
 go_ret
 exact ⟨_,rfl,ma,ba⟩
def doN (M:Mdl) (r:Req):Mdl × Ans :=
 if 1 ≤ r.deed∧r.deed ≤ 5 then operateN M r else if r.deed=6 then tellN M r else if r.deed=7 then createN M r else if r.deed=8 then removeN M r else if r.deed=9 then issueN M r else if r.deed=10 then revokeN M r else (M,errA 2)
theorem doEnd_pass {w w1 w4:World} {p g:Nat} {M:Mdl} {T:Ows} {cur:Array Value} {R:Mdl × Ans} {e:Ending} (hm:ModelAt w p M T) (hb:Below w.heap.size w w1) (hx:Blk w1 g 52 cur) (hg:w.heap.size ≤ g) (h:DoEnd p M T R w1 e w4) :
 ∃ A c,e=.returned (R.2.v A c)∧Blk w4 g 52 cur∧DoEnd p M T R w (.returned (R.2.v A c)) (w4.setCells g 0 (R.2.cells A c)):=by
 obtain ⟨A,c,T',rfl,hm4,hrow,hown,hk⟩:=h
 have hng:¬ mown p M T g:=fun hh=>by have:=hm.own_lt hh;omega
 have hx4:=hk.blk hx hng
 refine ⟨A,c,rfl,hx4,A,c,T',rfl,?_,?_,?_,?_⟩
 · have hq:KeepC (fun i=>i=g) w4 (w4.setCells g 0 (R.2.cells A c)):=(KeepC.refl (fun i=>i=g) w4).sets hx4 (by decide) (fun _=>rfl) _ _
   refine hm4.keep hq (fun i hi e=>?_)
   subst e
   exact hm4.other hi hx4 (by decide) (by decide) (by decide)
 · exact (own_base hrow hb.size).kept (grown_sets g 0 _ w4) (row_apart (own_base hrow hb.size) hx4)
 · exact fun i hi=>(hown i hi).imp id (fun h=>Nat.le_trans hb.size h)
 · exact ((KeepC.of_below hb).trans hk (fun _ _ h=>h)).sets hx4 (by decide) (fun hh=>by omega) _ _
theorem ans_one {a:Ans} (h:StOk a.st) (A:Option Addr) (c:Nat):(a.cells A c).toArray.all (·.oneCell')=true:=by
 rw [List.all_toArray,List.all_eq_true]
 intro v hv
 unfold Ans.cells at hv
 rw [List.mem_append] at hv
 rcases hv with hv | hv
 · simp at hv
   rcases hv with rfl | rfl | rfl | rfl | rfl | rfl <;> rfl
 · exact h.one v hv
theorem ans_len {a:Ans} (h:StOk a.st) (A:Option Addr) (c:Nat):(a.cells A c).toArray.size=17:=by
 rw [List.size_toArray]
 unfold Ans.cells
 rw [List.length_append,h.len]
 rfl
set_option maxHeartbeats 1600000 in
set_option maxRecDepth 100000 in
theorem do_operate {w:World} {p:Nat} {M:Mdl} {T:Ows} (hm:ModelAt w p M T) (r:Req) (R:Mdl × Ans) (hl:look .nilFunc r.deed deedsMap=.func (.func 69) #[] #[]) (hR:StOk R.2.st)
 (hF:∀ W,ModelAt W p M T→Calls Tryz.prog 69 #[.pointer (some ⟨p,0,none⟩),r.v] W (DoEnd p M T R W)):Calls Tryz.prog 11 #[.pointer (some ⟨p,0,none⟩),r.v] w (DoEnd p M T R w):=by
 have hb0:Below w.heap.size w (w.alloc (.cells r.row.toArray 39)):=below_box _ _
 have hq0:=Blk.new w 39 r.row.toArray
 have hb1:=below_alloc hb0 (.cells zeroA 52)
 have hbq:=hq0.alloc (.cells zeroA 52)
 have hbx:Blk ((w.alloc (.cells r.row.toArray 39)).alloc (.cells zeroA 52)) (w.heap.size + 1) 52 zeroA:=blk_at (by simp)
 have HN:=Lib.hid (none_m (hm.below hb1))
 have HM:=Lib.hid hm
 have HB:=Lib.hid (And.intro hb1 (And.intro hbx hbq))
 have HF:=Lib.hid hF
 have HL:=Lib.hid hl
 have HD:=Lib.hid (fun W=>deeds_m W)
 have hne:=fun w=>run_neq_func (P:=Tryz.prog) w 102 _ _ _ (.func 69) #[] #[] Tryz.underlying102
 unfold Req.row at HN HB
 clear hb0 hb1 hbx hm hq0 hbq hl hF
 go_enter Tryz.func11,Tryz.ntmps11
 go_wp2_with fail
 refine HN.out.mono ?_
 rintro e w1 ⟨rfl,rfl⟩
 have hcs:=req_cells HB.out.2.2
 have c0:=hcs.1
 generalize hw1:(w.alloc (.cells #[.int .i64 r.deed,.int .i64 r.ten,.int .u32 r.gen,.int .u8 r.rig,.string r.key,.string r.val,.string r.old,.int .i64 r.lim,.int .i64 r.tenant,.int .u64 r.qk,.int .u64 r.qb,.int .u8 r.rights] 39)).alloc (.cells zeroA 52)=w1 at *
 clear hw1
 go_wp2_with fail
 go_region_held3 (fun V=>Below w1.heap.size w1 V∧V.cell? ⟨w.heap.size,0,none⟩=some (.int .i64 r.deed))
  (first
    | exact ⟨(Below.refl _ _).drew,c0⟩
    | exact hSN)
  (first
    | (go_at_call 33
       have hH:=‹Below w1.heap.size w1 _∧_›
       refine (HD.out _).mono ?_
       rintro e wn ⟨b,rfl,hmap,hb2⟩
       have hSN:Below w1.heap.size w1 wn∧wn.cell? ⟨w.heap.size,0,none⟩=some (.int .i64 r.deed):=⟨below_trans hH.1 hb2,(hb2.cell (Nat.lt_of_lt_of_le HB.out.2.2.lt hH.1.size)).trans hH.2⟩
       have hlk:=run_lookup_intmap (P:=Tryz.prog) (n:=r.deed) hmap Tryz.underlying103 Tryz.underlying33 rfl (Tryz.zeroValue102 wn) false
       rw [HL.out] at hlk
       simp only [Bool.false_eq_true,if_false] at hlk
       clear hmap))
 have hH:=‹Below w1.heap.size w1 _∧_›
 obtain ⟨c0,c1,c2,c3,c4,c5,c6,c7,c8,c9,c10,c11⟩:=req_cells (HB.out.2.2.below hH.1 HB.out.2.2.lt)
 go_wp2_with fail
 have hbn:=below_trans HB.out.1 hH.1
 refine (HF.out _ (HM.out.below hbn)).mono ?_
 intro e w4 hE
 obtain ⟨A,c,rfl,hx4,hdone⟩:=doEnd_pass HM.out hbn (HB.out.2.1.below hH.1 HB.out.2.1.lt) (Nat.le_succ _) hE
 clear c0 c1 c2 c3 c4 c5 c6 c7 c8 c9 c10 c11
 go_wp2_with (refine wpList_store_mid rfl 52 (.tmp 4) (.tmp 18) rfl (w.heap.size + 1) 0 (R.2.cells A c).toArray rfl rfl (by rw [ans_len hR];exact there_blk hx4 (Nat.le_refl 17)) (by rw [ans_len hR];exact infoAns) (ans_one hR _ _) ?_)
 refine bodyPost_ret (v:=R.2.v A c) ?_ rfl ?_
 · exact results_cell Tryz.results11 rfl (blk_setAll hx4 (ans_len hR A c).symm) Tryz.underlying52 rfl (by rw [ans_len hR];exact infoAns)
 exact hdone
set_option maxHeartbeats 1600000 in
set_option maxRecDepth 100000 in
theorem do_tell {w:World} {p:Nat} {M:Mdl} {T:Ows} (hm:ModelAt w p M T) (r:Req) (R:Mdl × Ans) (hl:look .nilFunc r.deed deedsMap=.func (.func 70) #[] #[]) (hR:StOk R.2.st)
 (hF:∀ W,ModelAt W p M T→Calls Tryz.prog 70 #[.pointer (some ⟨p,0,none⟩),r.v] W (DoEnd p M T R W)):Calls Tryz.prog 11 #[.pointer (some ⟨p,0,none⟩),r.v] w (DoEnd p M T R w):=by
 have hb0:Below w.heap.size w (w.alloc (.cells r.row.toArray 39)):=below_box _ _
 have hq0:=Blk.new w 39 r.row.toArray
 have hb1:=below_alloc hb0 (.cells zeroA 52)
 have hbq:=hq0.alloc (.cells zeroA 52)
 have hbx:Blk ((w.alloc (.cells r.row.toArray 39)).alloc (.cells zeroA 52)) (w.heap.size + 1) 52 zeroA:=blk_at (by simp)
 have HN:=Lib.hid (none_m (hm.below hb1))
 have HM:=Lib.hid hm
 have HB:=Lib.hid (And.intro hb1 (And.intro hbx hbq))
 have HF:=Lib.hid hF
 have HL:=Lib.hid hl
 have HD:=Lib.hid (fun W=>deeds_m W)
 have hne:=fun w=>run_neq_func (P:=Tryz.prog) w 102 _ _ _ (.func 70) #[] #[] Tryz.underlying102
 unfold Req.row at HN HB
 clear hb0 hb1 hbx hm hq0 hbq hl hF
 go_enter Tryz.func11,Tryz.ntmps11
 go_wp2_with fail
 refine HN.out.mono ?_
 rintro e w1 ⟨rfl,rfl⟩
 have hcs:=req_cells HB.out.2.2
 have c0:=hcs.1
 generalize hw1:(w.alloc (.cells #[.int .i64 r.deed,.int .i64 r.ten,.int .u32 r.gen,.int .u8 r.rig,.string r.key,.string r.val,.string r.old,.int .i64 r.lim,.int .i64 r.tenant,.int .u64 r.qk,.int .u64 r.qb,.int .u8 r.rights] 39)).alloc (.cells zeroA 52)=w1 at *
 clear hw1
 go_wp2_with fail
 go_region_held3 (fun V=>Below w1.heap.size w1 V∧V.cell? ⟨w.heap.size,0,none⟩=some (.int .i64 r.deed))
  (first
    | exact ⟨(Below.refl _ _).drew,c0⟩
    | exact hSN)
  (first
    | (go_at_call 33
       have hH:=‹Below w1.heap.size w1 _∧_›
       refine (HD.out _).mono ?_
       rintro e wn ⟨b,rfl,hmap,hb2⟩
       have hSN:Below w1.heap.size w1 wn∧wn.cell? ⟨w.heap.size,0,none⟩=some (.int .i64 r.deed):=⟨below_trans hH.1 hb2,(hb2.cell (Nat.lt_of_lt_of_le HB.out.2.2.lt hH.1.size)).trans hH.2⟩
       have hlk:=run_lookup_intmap (P:=Tryz.prog) (n:=r.deed) hmap Tryz.underlying103 Tryz.underlying33 rfl (Tryz.zeroValue102 wn) false
       rw [HL.out] at hlk
       simp only [Bool.false_eq_true,if_false] at hlk
       clear hmap))
 have hH:=‹Below w1.heap.size w1 _∧_›
 obtain ⟨c0,c1,c2,c3,c4,c5,c6,c7,c8,c9,c10,c11⟩:=req_cells (HB.out.2.2.below hH.1 HB.out.2.2.lt)
 go_wp2_with fail
 have hbn:=below_trans HB.out.1 hH.1
 refine (HF.out _ (HM.out.below hbn)).mono ?_
 intro e w4 hE
 obtain ⟨A,c,rfl,hx4,hdone⟩:=doEnd_pass HM.out hbn (HB.out.2.1.below hH.1 HB.out.2.1.lt) (Nat.le_succ _) hE
 clear c0 c1 c2 c3 c4 c5 c6 c7 c8 c9 c10 c11
 go_wp2_with (refine wpList_store_mid rfl 52 (.tmp 4) (.tmp 18) rfl (w.heap.size + 1) 0 (R.2.cells A c).toArray rfl rfl (by rw [ans_len hR];exact there_blk hx4 (Nat.le_refl 17)) (by rw [ans_len hR];exact infoAns) (ans_one hR _ _) ?_)
 refine bodyPost_ret (v:=R.2.v A c) ?_ rfl ?_
 · exact results_cell Tryz.results11 rfl (blk_setAll hx4 (ans_len hR A c).symm) Tryz.underlying52 rfl (by rw [ans_len hR];exact infoAns)
 exact hdone
set_option maxHeartbeats 1600000 in
set_option maxRecDepth 100000 in
theorem do_create {w:World} {p:Nat} {M:Mdl} {T:Ows} (hm:ModelAt w p M T) (r:Req) (R:Mdl × Ans) (hl:look .nilFunc r.deed deedsMap=.func (.func 71) #[] #[]) (hR:StOk R.2.st)
 (hF:∀ W,ModelAt W p M T→Calls Tryz.prog 71 #[.pointer (some ⟨p,0,none⟩),r.v] W (DoEnd p M T R W)):Calls Tryz.prog 11 #[.pointer (some ⟨p,0,none⟩),r.v] w (DoEnd p M T R w):=by
 have hb0:Below w.heap.size w (w.alloc (.cells r.row.toArray 39)):=below_box _ _
 have hq0:=Blk.new w 39 r.row.toArray
 have hb1:=below_alloc hb0 (.cells zeroA 52)
 have hbq:=hq0.alloc (.cells zeroA 52)
 have hbx:Blk ((w.alloc (.cells r.row.toArray 39)).alloc (.cells zeroA 52)) (w.heap.size + 1) 52 zeroA:=blk_at (by simp)
 have HN:=Lib.hid (none_m (hm.below hb1))
 have HM:=Lib.hid hm
 have HB:=Lib.hid (And.intro hb1 (And.intro hbx hbq))
 have HF:=Lib.hid hF
 have HL:=Lib.hid hl
 have HD:=Lib.hid (fun W=>deeds_m W)
 have hne:=fun w=>run_neq_func (P:=Tryz.prog) w 102 _ _ _ (.func 71) #[] #[] Tryz.underlying102
 unfold Req.row at HN HB
 clear hb0 hb1 hbx hm hq0 hbq hl hF
 go_enter Tryz.func11,Tryz.ntmps11
 go_wp2_with fail
 refine HN.out.mono ?_
 rintro e w1 ⟨rfl,rfl⟩
 have hcs:=req_cells HB.out.2.2
 have c0:=hcs.1
 generalize hw1:(w.alloc (.cells #[.int .i64 r.deed,.int .i64 r.ten,.int .u32 r.gen,.int .u8 r.rig,.string r.key,.string r.val,.string r.old,.int .i64 r.lim,.int .i64 r.tenant,.int .u64 r.qk,.int .u64 r.qb,.int .u8 r.rights] 39)).alloc (.cells zeroA 52)=w1 at *
 clear hw1
 go_wp2_with fail
 go_region_held3 (fun V=>Below w1.heap.size w1 V∧V.cell? ⟨w.heap.size,0,none⟩=some (.int .i64 r.deed))
  (first
    | exact ⟨(Below.refl _ _).drew,c0⟩
    | exact hSN)
  (first
    | (go_at_call 33
       have hH:=‹Below w1.heap.size w1 _∧_›
       refine (HD.out _).mono ?_
       rintro e wn ⟨b,rfl,hmap,hb2⟩
       have hSN:Below w1.heap.size w1 wn∧wn.cell? ⟨w.heap.size,0,none⟩=some (.int .i64 r.deed):=⟨below_trans hH.1 hb2,(hb2.cell (Nat.lt_of_lt_of_le HB.out.2.2.lt hH.1.size)).trans hH.2⟩
       have hlk:=run_lookup_intmap (P:=Tryz.prog) (n:=r.deed) hmap Tryz.underlying103 Tryz.underlying33 rfl (Tryz.zeroValue102 wn) false
       rw [HL.out] at hlk
       simp only [Bool.false_eq_true,if_false] at hlk
       clear hmap))
 have hH:=‹Below w1.heap.size w1 _∧_›
 obtain ⟨c0,c1,c2,c3,c4,c5,c6,c7,c8,c9,c10,c11⟩:=req_cells (HB.out.2.2.below hH.1 HB.out.2.2.lt)
 go_wp2_with fail
 have hbn:=below_trans HB.out.1 hH.1
 refine (HF.out _ (HM.out.below hbn)).mono ?_
 intro e w4 hE
 obtain ⟨A,c,rfl,hx4,hdone⟩:=doEnd_pass HM.out hbn (HB.out.2.1.below hH.1 HB.out.2.1.lt) (Nat.le_succ _) hE
 clear c0 c1 c2 c3 c4 c5 c6 c7 c8 c9 c10 c11
 go_wp2_with (refine wpList_store_mid rfl 52 (.tmp 4) (.tmp 18) rfl (w.heap.size + 1) 0 (R.2.cells A c).toArray rfl rfl (by rw [ans_len hR];exact there_blk hx4 (Nat.le_refl 17)) (by rw [ans_len hR];exact infoAns) (ans_one hR _ _) ?_)
 refine bodyPost_ret (v:=R.2.v A c) ?_ rfl ?_
 · exact results_cell Tryz.results11 rfl (blk_setAll hx4 (ans_len hR A c).symm) Tryz.underlying52 rfl (by rw [ans_len hR];exact infoAns)
 exact hdone
set_option maxHeartbeats 1600000 in
set_option maxRecDepth 100000 in
theorem do_remove {w:World} {p:Nat} {M:Mdl} {T:Ows} (hm:ModelAt w p M T) (r:Req) (R:Mdl × Ans) (hl:look .nilFunc r.deed deedsMap=.func (.func 72) #[] #[]) (hR:StOk R.2.st)
 (hF:∀ W,ModelAt W p M T→Calls Tryz.prog 72 #[.pointer (some ⟨p,0,none⟩),r.v] W (DoEnd p M T R W)):Calls Tryz.prog 11 #[.pointer (some ⟨p,0,none⟩),r.v] w (DoEnd p M T R w):=by
 have hb0:Below w.heap.size w (w.alloc (.cells r.row.toArray 39)):=below_box _ _
 have hq0:=Blk.new w 39 r.row.toArray
 have hb1:=below_alloc hb0 (.cells zeroA 52)
 have hbq:=hq0.alloc (.cells zeroA 52)
 have hbx:Blk ((w.alloc (.cells r.row.toArray 39)).alloc (.cells zeroA 52)) (w.heap.size + 1) 52 zeroA:=blk_at (by simp)
 have HN:=Lib.hid (none_m (hm.below hb1))
 have HM:=Lib.hid hm
 have HB:=Lib.hid (And.intro hb1 (And.intro hbx hbq))
 have HF:=Lib.hid hF
 have HL:=Lib.hid hl
 have HD:=Lib.hid (fun W=>deeds_m W)
 have hne:=fun w=>run_neq_func (P:=Tryz.prog) w 102 _ _ _ (.func 72) #[] #[] Tryz.underlying102
 unfold Req.row at HN HB
 clear hb0 hb1 hbx hm hq0 hbq hl hF
 go_enter Tryz.func11,Tryz.ntmps11
 go_wp2_with fail
 refine HN.out.mono ?_
 rintro e w1 ⟨rfl,rfl⟩
 have hcs:=req_cells HB.out.2.2
 have c0:=hcs.1
 generalize hw1:(w.alloc (.cells #[.int .i64 r.deed,.int .i64 r.ten,.int .u32 r.gen,.int .u8 r.rig,.string r.key,.string r.val,.string r.old,.int .i64 r.lim,.int .i64 r.tenant,.int .u64 r.qk,.int .u64 r.qb,.int .u8 r.rights] 39)).alloc (.cells zeroA 52)=w1 at *
 clear hw1
 go_wp2_with fail
 go_region_held3 (fun V=>Below w1.heap.size w1 V∧V.cell? ⟨w.heap.size,0,none⟩=some (.int .i64 r.deed))
  (first
    | exact ⟨(Below.refl _ _).drew,c0⟩
    | exact hSN)
  (first
    | (go_at_call 33
       have hH:=‹Below w1.heap.size w1 _∧_›
       refine (HD.out _).mono ?_
       rintro e wn ⟨b,rfl,hmap,hb2⟩
       have hSN:Below w1.heap.size w1 wn∧wn.cell? ⟨w.heap.size,0,none⟩=some (.int .i64 r.deed):=⟨below_trans hH.1 hb2,(hb2.cell (Nat.lt_of_lt_of_le HB.out.2.2.lt hH.1.size)).trans hH.2⟩
       have hlk:=run_lookup_intmap (P:=Tryz.prog) (n:=r.deed) hmap Tryz.underlying103 Tryz.underlying33 rfl (Tryz.zeroValue102 wn) false
       rw [HL.out] at hlk
       simp only [Bool.false_eq_true,if_false] at hlk
       clear hmap))
 have hH:=‹Below w1.heap.size w1 _∧_›
 obtain ⟨c0,c1,c2,c3,c4,c5,c6,c7,c8,c9,c10,c11⟩:=req_cells (HB.out.2.2.below hH.1 HB.out.2.2.lt)
 go_wp2_with fail
 have hbn:=below_trans HB.out.1 hH.1
 refine (HF.out _ (HM.out.below hbn)).mono ?_
 intro e w4 hE
 obtain ⟨A,c,rfl,hx4,hdone⟩:=doEnd_pass HM.out hbn (HB.out.2.1.below hH.1 HB.out.2.1.lt) (Nat.le_succ _) hE
 clear c0 c1 c2 c3 c4 c5 c6 c7 c8 c9 c10 c11
 go_wp2_with (refine wpList_store_mid rfl 52 (.tmp 4) (.tmp 18) rfl (w.heap.size + 1) 0 (R.2.cells A c).toArray rfl rfl (by rw [ans_len hR];exact there_blk hx4 (Nat.le_refl 17)) (by rw [ans_len hR];exact infoAns) (ans_one hR _ _) ?_)
 refine bodyPost_ret (v:=R.2.v A c) ?_ rfl ?_
 · exact results_cell Tryz.results11 rfl (blk_setAll hx4 (ans_len hR A c).symm) Tryz.underlying52 rfl (by rw [ans_len hR];exact infoAns)
 exact hdone
set_option maxHeartbeats 1600000 in
set_option maxRecDepth 100000 in
theorem do_issue {w:World} {p:Nat} {M:Mdl} {T:Ows} (hm:ModelAt w p M T) (r:Req) (R:Mdl × Ans) (hl:look .nilFunc r.deed deedsMap=.func (.func 73) #[] #[]) (hR:StOk R.2.st)
 (hF:∀ W,ModelAt W p M T→Calls Tryz.prog 73 #[.pointer (some ⟨p,0,none⟩),r.v] W (DoEnd p M T R W)):Calls Tryz.prog 11 #[.pointer (some ⟨p,0,none⟩),r.v] w (DoEnd p M T R w):=by
 have hb0:Below w.heap.size w (w.alloc (.cells r.row.toArray 39)):=below_box _ _
 have hq0:=Blk.new w 39 r.row.toArray
 have hb1:=below_alloc hb0 (.cells zeroA 52)
 have hbq:=hq0.alloc (.cells zeroA 52)
 have hbx:Blk ((w.alloc (.cells r.row.toArray 39)).alloc (.cells zeroA 52)) (w.heap.size + 1) 52 zeroA:=blk_at (by simp)
 have HN:=Lib.hid (none_m (hm.below hb1))
 have HM:=Lib.hid hm
 have HB:=Lib.hid (And.intro hb1 (And.intro hbx hbq))
 have HF:=Lib.hid hF
 have HL:=Lib.hid hl
 have HD:=Lib.hid (fun W=>deeds_m W)
 have hne:=fun w=>run_neq_func (P:=Tryz.prog) w 102 _ _ _ (.func 73) #[] #[] Tryz.underlying102
 unfold Req.row at HN HB
 clear hb0 hb1 hbx hm hq0 hbq hl hF
 go_enter Tryz.func11,Tryz.ntmps11
 go_wp2_with fail
 refine HN.out.mono ?_
 rintro e w1 ⟨rfl,rfl⟩
 have hcs:=req_cells HB.out.2.2
 have c0:=hcs.1
 generalize hw1:(w.alloc (.cells #[.int .i64 r.deed,.int .i64 r.ten,.int .u32 r.gen,.int .u8 r.rig,.string r.key,.string r.val,.string r.old,.int .i64 r.lim,.int .i64 r.tenant,.int .u64 r.qk,.int .u64 r.qb,.int .u8 r.rights] 39)).alloc (.cells zeroA 52)=w1 at *
 clear hw1
 go_wp2_with fail
 go_region_held3 (fun V=>Below w1.heap.size w1 V∧V.cell? ⟨w.heap.size,0,none⟩=some (.int .i64 r.deed))
  (first
    | exact ⟨(Below.refl _ _).drew,c0⟩
    | exact hSN)
  (first
    | (go_at_call 33
       have hH:=‹Below w1.heap.size w1 _∧_›
       refine (HD.out _).mono ?_
       rintro e wn ⟨b,rfl,hmap,hb2⟩
       have hSN:Below w1.heap.size w1 wn∧wn.cell? ⟨w.heap.size,0,none⟩=some (.int .i64 r.deed):=⟨below_trans hH.1 hb2,(hb2.cell (Nat.lt_of_lt_of_le HB.out.2.2.lt hH.1.size)).trans hH.2⟩
       have hlk:=run_lookup_intmap (P:=Tryz.prog) (n:=r.deed) hmap Tryz.underlying103 Tryz.underlying33 rfl (Tryz.zeroValue102 wn) false
       rw [HL.out] at hlk
       simp only [Bool.false_eq_true,if_false] at hlk
       clear hmap))
 have hH:=‹Below w1.heap.size w1 _∧_›
 obtain ⟨c0,c1,c2,c3,c4,c5,c6,c7,c8,c9,c10,c11⟩:=req_cells (HB.out.2.2.below hH.1 HB.out.2.2.lt)
 go_wp2_with fail
 have hbn:=below_trans HB.out.1 hH.1
 refine (HF.out _ (HM.out.below hbn)).mono ?_
 intro e w4 hE
 obtain ⟨A,c,rfl,hx4,hdone⟩:=doEnd_pass HM.out hbn (HB.out.2.1.below hH.1 HB.out.2.1.lt) (Nat.le_succ _) hE
 clear c0 c1 c2 c3 c4 c5 c6 c7 c8 c9 c10 c11
 go_wp2_with (refine wpList_store_mid rfl 52 (.tmp 4) (.tmp 18) rfl (w.heap.size + 1) 0 (R.2.cells A c).toArray rfl rfl (by rw [ans_len hR];exact there_blk hx4 (Nat.le_refl 17)) (by rw [ans_len hR];exact infoAns) (ans_one hR _ _) ?_)
 refine bodyPost_ret (v:=R.2.v A c) ?_ rfl ?_
 · exact results_cell Tryz.results11 rfl (blk_setAll hx4 (ans_len hR A c).symm) Tryz.underlying52 rfl (by rw [ans_len hR];exact infoAns)
 exact hdone
set_option maxHeartbeats 1600000 in
set_option maxRecDepth 100000 in
theorem do_revoke {w:World} {p:Nat} {M:Mdl} {T:Ows} (hm:ModelAt w p M T) (r:Req) (R:Mdl × Ans) (hl:look .nilFunc r.deed deedsMap=.func (.func 74) #[] #[]) (hR:StOk R.2.st)
 (hF:∀ W,ModelAt W p M T→Calls Tryz.prog 74 #[.pointer (some ⟨p,0,none⟩),r.v] W (DoEnd p M T R W)):Calls Tryz.prog 11 #[.pointer (some ⟨p,0,none⟩),r.v] w (DoEnd p M T R w):=by
 have hb0:Below w.heap.size w (w.alloc (.cells r.row.toArray 39)):=below_box _ _
 have hq0:=Blk.new w 39 r.row.toArray
 have hb1:=below_alloc hb0 (.cells zeroA 52)
 have hbq:=hq0.alloc (.cells zeroA 52)
 have hbx:Blk ((w.alloc (.cells r.row.toArray 39)).alloc (.cells zeroA 52)) (w.heap.size + 1) 52 zeroA:=blk_at (by simp)
 have HN:=Lib.hid (none_m (hm.below hb1))
 have HM:=Lib.hid hm
 have HB:=Lib.hid (And.intro hb1 (And.intro hbx hbq))
 have HF:=Lib.hid hF
 have HL:=Lib.hid hl
 have HD:=Lib.hid (fun W=>deeds_m W)
 have hne:=fun w=>run_neq_func (P:=Tryz.prog) w 102 _ _ _ (.func 74) #[] #[] Tryz.underlying102
 unfold Req.row at HN HB
 clear hb0 hb1 hbx hm hq0 hbq hl hF
 go_enter Tryz.func11,Tryz.ntmps11
 go_wp2_with fail
 refine HN.out.mono ?_
 rintro e w1 ⟨rfl,rfl⟩
 have hcs:=req_cells HB.out.2.2
 have c0:=hcs.1
 generalize hw1:(w.alloc (.cells #[.int .i64 r.deed,.int .i64 r.ten,.int .u32 r.gen,.int .u8 r.rig,.string r.key,.string r.val,.string r.old,.int .i64 r.lim,.int .i64 r.tenant,.int .u64 r.qk,.int .u64 r.qb,.int .u8 r.rights] 39)).alloc (.cells zeroA 52)=w1 at *
 clear hw1
 go_wp2_with fail
 go_region_held3 (fun V=>Below w1.heap.size w1 V∧V.cell? ⟨w.heap.size,0,none⟩=some (.int .i64 r.deed))
  (first
    | exact ⟨(Below.refl _ _).drew,c0⟩
    | exact hSN)
  (first
    | (go_at_call 33
       have hH:=‹Below w1.heap.size w1 _∧_›
       refine (HD.out _).mono ?_
       rintro e wn ⟨b,rfl,hmap,hb2⟩
       have hSN:Below w1.heap.size w1 wn∧wn.cell? ⟨w.heap.size,0,none⟩=some (.int .i64 r.deed):=⟨below_trans hH.1 hb2,(hb2.cell (Nat.lt_of_lt_of_le HB.out.2.2.lt hH.1.size)).trans hH.2⟩
       have hlk:=run_lookup_intmap (P:=Tryz.prog) (n:=r.deed) hmap Tryz.underlying103 Tryz.underlying33 rfl (Tryz.zeroValue102 wn) false
       rw [HL.out] at hlk
       simp only [Bool.false_eq_true,if_false] at hlk
       clear hmap))
 have hH:=‹Below w1.heap.size w1 _∧_›
 obtain ⟨c0,c1,c2,c3,c4,c5,c6,c7,c8,c9,c10,c11⟩:=req_cells (HB.out.2.2.below hH.1 HB.out.2.2.lt)
 go_wp2_with fail
 have hbn:=below_trans HB.out.1 hH.1
 refine (HF.out _ (HM.out.below hbn)).mono ?_
 intro e w4 hE
 obtain ⟨A,c,rfl,hx4,hdone⟩:=doEnd_pass HM.out hbn (HB.out.2.1.below hH.1 HB.out.2.1.lt) (Nat.le_succ _) hE
 clear c0 c1 c2 c3 c4 c5 c6 c7 c8 c9 c10 c11
 go_wp2_with (refine wpList_store_mid rfl 52 (.tmp 4) (.tmp 18) rfl (w.heap.size + 1) 0 (R.2.cells A c).toArray rfl rfl (by rw [ans_len hR];exact there_blk hx4 (Nat.le_refl 17)) (by rw [ans_len hR];exact infoAns) (ans_one hR _ _) ?_)
 refine bodyPost_ret (v:=R.2.v A c) ?_ rfl ?_
 · exact results_cell Tryz.results11 rfl (blk_setAll hx4 (ans_len hR A c).symm) Tryz.underlying52 rfl (by rw [ans_len hR];exact infoAns)
 exact hdone
set_option maxHeartbeats 1600000 in
set_option maxRecDepth 100000 in
theorem do_not {w:World} {p:Nat} {M:Mdl} {T:Ows} (hm:ModelAt w p M T) (r:Req) (hl:look .nilFunc r.deed deedsMap=.nilFunc):Calls Tryz.prog 11 #[.pointer (some ⟨p,0,none⟩),r.v] w (DoEnd p M T (M,errA 2) w):=by
 have hb0:Below w.heap.size w (w.alloc (.cells r.row.toArray 39)):=below_box _ _
 have hq0:=Blk.new w 39 r.row.toArray
 have hb1:=below_alloc hb0 (.cells zeroA 52)
 have hbq:=hq0.alloc (.cells zeroA 52)
 have hbx:Blk ((w.alloc (.cells r.row.toArray 39)).alloc (.cells zeroA 52)) (w.heap.size + 1) 52 zeroA:=blk_at (by simp)
 have HN:=Lib.hid (none_m (hm.below hb1))
 have HM:=Lib.hid hm
 have HB:=Lib.hid (And.intro hb1 (And.intro hbx hbq))
 have HL:=Lib.hid hl
 have HD:=Lib.hid (fun W=>deeds_m W)
 have hne:=fun w=>run_neq_func_nil (P:=Tryz.prog) w 102 _ _ _ Tryz.underlying102
 unfold Req.row at HN HB
 clear hb0 hb1 hbx hm hq0 hbq hl
 go_enter Tryz.func11,Tryz.ntmps11
 go_wp2_with fail
 refine HN.out.mono ?_
 rintro e w1 ⟨rfl,rfl⟩
 have hcs:=req_cells HB.out.2.2
 have c0:=hcs.1
 generalize hw1:(w.alloc (.cells #[.int .i64 r.deed,.int .i64 r.ten,.int .u32 r.gen,.int .u8 r.rig,.string r.key,.string r.val,.string r.old,.int .i64 r.lim,.int .i64 r.tenant,.int .u64 r.qk,.int .u64 r.qb,.int .u8 r.rights] 39)).alloc (.cells zeroA 52)=w1 at *
 clear hw1
 go_wp2_with fail
 go_region_held3 (fun V=>Below w1.heap.size w1 V∧V.cell? ⟨w.heap.size,0,none⟩=some (.int .i64 r.deed))
  (first
    | exact ⟨(Below.refl _ _).drew,c0⟩
    | exact hSN)
  (first
    | (go_at_call 33
       have hH:=‹Below w1.heap.size w1 _∧_›
       refine (HD.out _).mono ?_
       rintro e wn ⟨b,rfl,hmap,hb2⟩
       have hSN:Below w1.heap.size w1 wn∧wn.cell? ⟨w.heap.size,0,none⟩=some (.int .i64 r.deed):=⟨below_trans hH.1 hb2,(hb2.cell (Nat.lt_of_lt_of_le HB.out.2.2.lt hH.1.size)).trans hH.2⟩
       have hlk:=run_lookup_intmap (P:=Tryz.prog) (n:=r.deed) hmap Tryz.underlying103 Tryz.underlying33 rfl (Tryz.zeroValue102 wn) false
       rw [HL.out] at hlk
       simp only [Bool.false_eq_true,if_false] at hlk
       clear hmap))
 have hH:=‹Below w1.heap.size w1 _∧_›
 have BX:=Lib.hid (HB.out.2.1.below hH.1 HB.out.2.1.lt)
 have HB1:=Lib.hid (below_trans HB.out.1 hH.1)
 go_wp2_with (refine wpList_store_mid rfl 52 (.tmp 4) (.tmp 19) rfl (w.heap.size + 1) 0 (errC 2) rfl rfl (there_blk BX.out (Nat.le_refl 17)) infoAns (errC_one _) ?_)
 refine bodyPost_ret (v:=(errA 2).v none 0) ?_ rfl ?_
 · exact results_cell Tryz.results11 rfl (blk_setAll BX.out rfl) Tryz.underlying52 rfl infoAns
 exact doEnd_store (HM.out.below HB1.out) (.of_below HB1.out) (fun i hi=>.inl hi) (Nat.le_succ _) BX.out rfl
theorem operateN_st (M:Mdl) (r:Req):StOk (operateN M r).2.st:=by
 unfold operateN
 split
 · exact st0_ok
 · split
   · split
     · exact st0_ok
     · split
       · exact st0_ok
       · split
         · exact st0_ok
         · split
           · exact st0_ok
           · split <;> exact st0_ok
   · exact st0_ok
theorem tellN_st {w:World} {p:Nat} {M:Mdl} {T:Ows} (hm:ModelAt w p M T) (r:Req):StOk (tellN M r).2.st:=by
 unfold tellN
 split
 · rename_i h0
   obtain ⟨n,B,hn,h1,h2,hB⟩:=may_good h0
   have hn':r.ten.toNat=n:=by omega
   rw [hn',hB]
   have hw:=(hm.bk n B (by omega) hB).wf
   have h1:=hw.qk
   have h2:=hw.qb
   have h3:=hw.nk
   have h4:=hw.nb
   exact withN_ok (hm.ok n).st (by omega) (by omega)
 · exact st0_ok
theorem createN_st (M:Mdl) (r:Req):StOk (createN M r).2.st:=by
 unfold createN
 split
 · exact st0_ok
 · split <;> exact st0_ok
theorem removeN_st (M:Mdl) (r:Req):StOk (removeN M r).2.st:=by unfold removeN;split <;> exact st0_ok
theorem issueN_st (M:Mdl) (r:Req):StOk (issueN M r).2.st:=by unfold issueN;split <;> exact st0_ok
theorem revokeN_st (M:Mdl) (r:Req):StOk (revokeN M r).2.st:=by unfold revokeN;split <;> exact st0_ok
theorem deed_not {d:Int} (h:¬ (1 ≤ d∧d ≤ 5)) (h6:d ≠ 6) (h7:d ≠ 7) (h8:d ≠ 8) (h9:d ≠ 9) (h10:d ≠ 10):look .nilFunc d deedsMap=.nilFunc:=by
 simp only [look,deedsMap]
 rw [if_neg (by omega),if_neg (by omega),if_neg (by omega),if_neg (by omega),if_neg (by omega),if_neg (by omega),if_neg (by omega),if_neg (by omega),if_neg (by omega),if_neg (by omega)]
theorem Do_m {w:World} {p:Nat} {M:Mdl} {T:Ows} (hm:ModelAt w p M T) (r:Req) (hr:r.ok) (hsm:Small M):Calls Tryz.prog 11 #[.pointer (some ⟨p,0,none⟩),r.v] w (DoEnd p M T (doN M r) w):=by
 unfold doN
 by_cases h1:1 ≤ r.deed∧r.deed ≤ 5
 · rw [if_pos h1]
   have h2:r.deed=1 ∨ r.deed=2 ∨ r.deed=3 ∨ r.deed=4 ∨ r.deed=5:=by omega
   refine do_operate hm r _ ?_ (operateN_st M r) (fun W hW=>?_)
   · rcases h2 with h | h | h | h | h <;> (rw [h];rfl)
   · rcases h2 with h | h | h | h | h
     · exact operate1_m hW r hr h hsm
     · exact operate2_m hW r hr h hsm
     · exact operate3_m hW r hr h hsm
     · exact operate4_m hW r hr h hsm
     · exact operate5_m hW r hr h hsm
 rw [if_neg h1]
 by_cases h6:r.deed=6
 · rw [if_pos h6]
   exact do_tell hm r _ (by rw [h6];rfl) (tellN_st hm r) (fun W hW=>tell_m hW r hsm)
 rw [if_neg h6]
 by_cases h7:r.deed=7
 · rw [if_pos h7]
   exact do_create hm r _ (by rw [h7];rfl) (createN_st M r) (fun W hW=>create_m hW r hr)
 rw [if_neg h7]
 by_cases h8:r.deed=8
 · rw [if_pos h8]
   exact do_remove hm r _ (by rw [h8];rfl) (removeN_st M r) (fun W hW=>remove_m hW r)
 rw [if_neg h8]
 by_cases h9:r.deed=9
 · rw [if_pos h9]
   exact do_issue hm r _ (by rw [h9];rfl) (issueN_st M r) (fun W hW=>issue_m hW r)
 rw [if_neg h9]
 by_cases h10:r.deed=10
 · rw [if_pos h10]
   exact do_revoke hm r _ (by rw [h10];rfl) (revokeN_st M r) (fun W hW=>revoke_m hW r)
 rw [if_neg h10]
 exact do_not hm r (deed_not h1 h6 h7 h8 h9 h10)
def mdl0:Mdl:=fun _=>ten0
def ows0:Ows:=fun _=>⟨0,0,none⟩
def NewM (w:World) (e:Ending) (w':World):Prop:=e=.returned (.pointer (some ⟨w.heap.size,0,none⟩))∧ModelAt w' w.heap.size mdl0 ows0∧Below w.heap.size w w'
set_option maxHeartbeats 1600000 in
set_option maxRecDepth 100000 in
theorem new_m (w:World):Calls Tryz.prog 6 #[] w (NewM w):=by
 go_enter Tryz.func6,Tryz.ntmps6
 go_wp2_with fail
 go_ret
 refine ⟨rfl,⟨blk_at (by rfl),fun _=>ten0_ok,fun t B _ h=>(by cases h),fun t s i _ _ _ h _ _=>(by cases h)⟩,(Below.refl _ _).alloc (Nat.le_refl _) _⟩
end Go.Proofs.YtkgflepgkhnclaaGreatDoor
namespace Go.Proofs.YtkgflepgkhnclaaGreatDoor
set_option linter.unusedVariables false
set_option linter.unusedSimpArgs false
open Go.RowKit Go.Shelf
attribute [local go_sem] Oper.semAt_some
variable {Xa Xb Xc Xd Xe Xf Xg Xh Xi Xj Xk Xl Xm Xn Xo Xp Xq Xr Xs Xt Xu Xv Xw Xx Xy Xz Ya Yb Yc Yd Ye Yf Yg Yh Yi Yj Yk Yl Ym Yn Yo Yp Yq Yr Ys Yt Yu Yv Yw Yx Yy Yz Za Zb Zc Zd Ze Zf Zg Zh Zi Zj Zk Zl Zm Zn Zo Zp Zq Zr Zs Zt Zu Zv Zw Zx Zy Zz Ja Jb Jc Jd Je Jf Jg Jh Ji Jj Jk Jl Jm Jn Jo Jp Jq Jr Js Jt Ju Jv Jw Jy Jz Va Vb Vc Vd Ve Vf Vg Vh Vi Vj Vk Vl Vm Vn Vo Vp Vq Vr Vs Vt Vu Vv Vw Vx Vy Vz Oa Ob Oc Od Oe Og Oh Oi Oj Ok Ol Om On Oo Oq Ot Ou Ov Ox Oy Oz Ha Hb Hc He Hf Hg Hh Hi Hj Hk Hl Hm Hn Ho Hp Hq Hr Hs Ht Hu Hv Hw Hx Hy Hz Ia Ib Ic Id Ie If Ig Ih Ii Ij Ik Il Im In Io Ip Iq Ir It Iu Iv Iw Ix Iy Iz Ua Ub Uc Ud Ue Uf Ug Uh Ui Uj Uk Ul:Value}
def sub:List Nat→Code→Code
 | [],c=>c
 | 0 :: l,.seq a _=>sub l a
 | 1 :: l,.seq _ b=>sub l b
 | 2 :: l,.block _ c=>sub l c
 | 2 :: l,.loop c=>sub l c
 | 2 :: l,.scope c=>sub l c
 | 3 :: l,.cond _ a _=>sub l a
 | 4 :: l,.cond _ _ b=>sub l b
 | _ :: _,c=>c
noncomputable def part (f:Func) (l:List Nat):Code:=sub l (f.body.getD .skip)
theorem cell_two_new (w:World) (x y:Value) (t:TypeId):∀ j u,[x,y][j]?=some u→(w.alloc (.cells #[x,y] t)).cell? ((⟨w.heap.size,0,none⟩:Addr).add j)=some u:=by
 intro j u hj
 match j,hj with
 | 0,hj=>simp at hj;subst hj;simp [Addr.add]
 | 1,hj=>simp at hj;subst hj;simp [Addr.add]
def PrI (w0:World) (lo gx:Nat) (pre:List Kv) (W:World):Prop :=
 (∃ v,Blk W gx 42 #[v]∧W.ownsRow lo 57 2 v pre.length (pre.flatMap pairR))∧Below w0.heap.size w0 W∧lo ≤ W.heap.size
theorem Blk.ownP {W W':World} {row:Option Nat} {g:Nat} {t:TypeId} {cs:Array Value} (h:Blk W g t cs) (hg:W.grownBy W' row) (hr:∀ r,row=some r→∃ o:Obj,W.heap[r]?=some o∧o.isCells=false):Blk W' g t cs :=
 (grownBy_keeps_cells hg hr h rfl).trans h
theorem ownsRow_own {W W':World} {base:Nat} {e:TypeId} {size n:Nat} {v:Value} {xs:List Value} {row:Option Nat} (h:W.ownsRow base e size v n xs) (hg:W.grownBy W' row) (hr:∀ r,row=some r→∃ o:Obj,W.heap[r]?=some o∧o.isCells=false):W'.ownsRow base e size v n xs:=by
 refine h.kept hg ?_
 rcases h.2 with ⟨rfl,_⟩ | ⟨g,cap,cur,rfl,_,hgb,_⟩
 · exact .inl rfl
 · refine .inr fun e'=>?_
   obtain ⟨o,ho,hc⟩:=hr g (by simpa [Value.ownBlock] using e'.symm)
   rw [hgb] at ho;cases ho;cases hc
theorem prI_own {w0 wx:World} {gx:Nat} (hw:w0.heap.size ≤ wx.heap.size):OwnFrom wx.heap.size (PrI w0 wx.heap.size gx):=by
 intro s W W' row hs hg hr
 obtain ⟨⟨v,h1,h2⟩,h3,h4⟩:=hs
 have hr':=fun r e=>(hr r e).2
 exact ⟨⟨v,h1.ownP hg hr',ownsRow_own h2 hg hr'⟩,ownFrom_below (β:=Unit) (Nat.le_refl _) hw () W W' row h3 hg hr,Nat.le_trans h4 hg.size⟩
theorem appendedP {W w1 w0:World} {lo gx:Nat} (hgx1:w0.heap.size ≤ gx) {v v':Value} {n:Nat} {xs ys:List Value} {tmp:Obj}
 (hv:Blk W gx 42 #[v]) (hrow:W.ownsRow lo 57 2 v n xs) (hRW:Below w0.heap.size w0 W) (hlo:lo ≤ W.heap.size) (hgx:gx < lo) (hown':w1.ownsRow lo 57 2 v' (n + 1) ys) (hgrow:(W.alloc tmp).grownBy w1 v.ownBlock) :
 Blk w1 gx 42 #[v]∧Blk (w1.setCell ⟨gx,0,none⟩ v') gx 42 #[v']∧(w1.setCell ⟨gx,0,none⟩ v').ownsRow lo 57 2 v' (n + 1) ys∧KeepsFrom lo W (w1.setCell ⟨gx,0,none⟩ v')∧KeepsT W (w1.setCell ⟨gx,0,none⟩ v')∧Below w0.heap.size w0 (w1.setCell ⟨gx,0,none⟩ v')∧lo ≤ (w1.setCell ⟨gx,0,none⟩ v').heap.size:=by
 have hlt:=hrow.lt
 have hn:some gx ≠ v.ownBlock:=fun e=>by have:=(hlt gx e.symm).1;omega
 have hv1:Blk w1 gx 42 #[v]:=(hv.alloc tmp).grown hgrow hn
 have hown:∀ g,v.ownBlock=some g→∃ cs,Blk (W.alloc tmp) g 57 cs:=by
  intro g hg
  rcases (hrow.alloc tmp).2 with ⟨rfl,_⟩ | ⟨g',cap,cur,rfl,_,hgb,_⟩
  · simp [Value.ownBlock] at hg
  · obtain rfl:g'=g:=by simpa [Value.ownBlock] using hg
    exact ⟨cur,hgb⟩
 have hs1:=hgrow.size
 simp at hs1
 refine ⟨hv1,by simpa using hv1.set_ 0 v',hown'.kept (grownBy_setCell' w1 gx v') ?_,?_,?_,?_,?_⟩
 · cases hv':v'.ownBlock with
   | none=>exact .inl rfl
   | some g=>exact .inr (fun e=>by injection e with e;subst e;have:=(hown'.lt g hv').1;omega)
 · refine (((KeepsOthers.alloc W tmp).trans (KeepsOthers.of_grownBy hgrow fun j o ej hj=>?_)).trans (KeepsOthers.setCell _ _ _)).from _
   obtain ⟨cs,hcs⟩:=hown j ej
   unfold Blk at hcs
   rw [hcs] at hj
   cases hj;rfl
 · exact ((KeepsT.of_below (below_box W tmp)).trans (KeepsT.of_grown hgrow (fun g hg=>by obtain ⟨cs,hcs⟩:=hown g hg;exact ⟨_,hcs,fun h=>h.2 rfl⟩))).trans (KeepsT.of_grown (grownBy_setCell' w1 gx v') (fun g hg=>by injection hg with hg;subst hg;exact ⟨_,hv1,fun h=>h.1 rfl⟩))
 · have hb:=(below_alloc hRW tmp).grown hgrow (Nat.le_trans hRW.size (by simp)) (fun k hk=>by have:=(hlt k hk).1;omega)
   exact hb.grown (grownBy_setCell' w1 gx v') hb.size (fun k hk=>by injection hk with hk;subst hk;exact hgx1)
 · simp [World.setCell]
   omega
theorem flat_snoc (l:List Kv) (x:Kv):(l ++ [x]).flatMap pairR=l.flatMap pairR ++ [.string x.1,.string x.2]:=by simp [pairR]
set_option maxHeartbeats 6400000 in
set_option maxRecDepth 100000 in
theorem pairs_loop (gx gb:Nat) (o:Ow) (B:Bk) (w0:World) {wx:World} {Q:Exit→Act→World→Prop} (hl:B.l.length ≤ 1000000) (hf:BkAt wx o B) (hgb:wx.cell? ⟨gb,0,none⟩=some (.pointer (some ⟨o.b,0,none⟩)))
 (hx:Blk wx gx 42 #[.slice none 0 0]) (hgx1:w0.heap.size ≤ gx) (hb0:Below w0.heap.size w0 wx)
 (hQ:∀ (D:Nat) (v:Value) (Xg Xh Yk Yl Ym Yn Yo Yp Yq Yr:Value) (W:World),wx.heap.size ≤ D→Blk W gx 42 #[v]→W.ownsRow wx.heap.size 57 2 v B.l.length (B.l.flatMap pairR)→Below w0.heap.size w0 W→W.heap[D]?=some (.deferred (some []))→Q .normal ⟨#[Xa,Xb,Xc,Xd,Xe,.pointer (some ⟨gx,0,none⟩),Xg,Xh,Xi,Xj,Xk,Xl,Xm,Xn,Xo,Xp,Xq,Xr,Xs,Xt,Xu,Xv,Xw,Xx,Xy,Xz,Ya,Yb,Yc,Yd,Ye,Yf,Yg,Yh,Yi,.func (.func 66) #[] #[.pointer (some ⟨gb,0,none⟩)],Yk,Yl,Ym,Yn,Yo,Yp,Yq,Yr,Ys],[{ target:=.collected D,args:=#[] }]⟩ W) :
 Code.wp Tryz.prog (part Tryz.f8 [1,1,1,0,1]) Q ⟨#[Xa,Xb,Xc,Xd,Xe,.pointer (some ⟨gx,0,none⟩),Xg,Xh,Xi,Xj,Xk,Xl,Xm,Xn,Xo,Xp,Xq,Xr,Xs,Xt,Xu,Xv,Xw,Xx,Xy,Xz,Ya,Yb,Yc,Yd,Ye,Yf,Yg,Yh,Yi,.func (.func 66) #[] #[.pointer (some ⟨gb,0,none⟩)],Yk,Yl,Ym,Yn,Yo,Yp,Yq,Yr,Ys],[]⟩ wx:=by
 conv=>arg 2;whnf
 obtain ⟨i0,hi,hz0,hz1,hz2⟩:=info_parts infoPair
 have HQ:=Lib.hid hQ
 have hgx:=hx.lt
 clear hQ
 refine wp_block ?_
 refine (wpIn_wide (n:=10)).1 ?_
 refine wpIn_rangeFunc_ownH rfl (by decide) (gf:=66) (lb:=#[.pointer (some ⟨gb,0,none⟩)]) rfl trivial (enters_of Tryz.func66 (by kernel_rfl) rfl)
  (all_stops gb 9 o B wx (by decide) hgb hf hl) (fun h k=>h.trans k) (fun W l o o' hl h1 h2 h3=>KeepsT.put W l o o' h1 h2 h3) (Below.refl _ _) (fun _=>rfl)
  (PrI w0 wx.heap.size gx) (fun _ pre W=>¬ (pre <+: B.l)) (prI_own hb0.size) (fun c s W W' row hs hg hr=>hs) ⟨⟨_,hx,World.ownsRow_nil _ _ _ _⟩,hb0,Nat.le_refl _⟩
  (fun x a' W=>a'=⟨#[Xa,Xb,Xc,Xd,Xe,.pointer (some ⟨gx,0,none⟩),.string x.1,.string x.2,Xi,Xj,Xk,Xl,Xm,Xn,Xo,Xp,Xq,Xr,Xs,Xt,Xu,Xv,Xw,Xx,Xy,Xz,Ya,Yb,Yc,Yd,Ye,Yf,Yg,Yh,Yi,.func (.func 66) #[] #[.pointer (some ⟨gb,0,none⟩)],.string x.1,.string x.2,Ym,Yn,Yo,Yp,Yq,Yr,Ys],[]⟩) (fun x a' s W W' row hs hg hr=>hs) ?assign ?body ?done ?stop
 case assign =>
  rintro l pre x W K hi hK
  have hfin:K ⟨#[Xa,Xb,Xc,Xd,Xe,.pointer (some ⟨gx,0,none⟩),.string x.1,.string x.2,Xi,Xj,Xk,Xl,Xm,Xn,Xo,Xp,Xq,Xr,Xs,Xt,Xu,Xv,Xw,Xx,Xy,Xz,Ya,Yb,Yc,Yd,Ye,Yf,Yg,Yh,Yi,.func (.func 66) #[] #[.pointer (some ⟨gb,0,none⟩)],.string x.1,.string x.2,Ym,Yn,Yo,Yp,Yq,Yr,Ys],[]⟩ W:=hK _ _ ((KeepsOthers.refl W).from _) (KeepsT.refl _) hi rfl
  have HF:=Lib.hid hfin
  clear hfin hK
  gi_wp2
  exact HF.out
 case body =>
  rintro l pre x a' W hl2 ⟨rec,hrec⟩ ⟨⟨v,hv,hrow⟩,hRW,hsz⟩ rfl hlen
  have ex:=hv.cell 0
  simp at ex
  have HO:=Lib.hid (And.intro hv (And.intro hrow (And.intro hRW hsz)))
  have n1:1 ≤ 8:=by decide
  obtain ⟨A,c,rfl,hA0,hnc,hcm⟩:=own_form hrow
  clear hv hrow hRW hsz
  gi_wp2_with (gi_at_builtin;refine wpListIn_append_own _ rfl _ _ 42 rfl wx.heap.size 57 i0 (.agg #[.string ⟨#[]⟩,.string ⟨#[]⟩]) 2 32 Tryz.underlying42 hi hz0 hz1 hz2 rfl (by decide) _ _ _ rfl (HO.out.2.1.alloc _) ⟨W.heap.size,0,none⟩ 1 1 [.string x.1,.string x.2] rfl rfl (cell_two_new _ _ _ _) (by simp [Value.oneCell']) (by unfold maxLen;omega) (by omega) (by have:=HO.out.2.2.2;simp;omega) ?_;intro v' w1 hown' hgrow _;obtain ⟨g',cap',rfl⟩:=ownsRow_succ hown';obtain ⟨hv1,hv2,hr2,hk2,hb2,hR2,hs2⟩:=appendedP hgx1 HO.out.1 HO.out.2.1 HO.out.2.2.1 HO.out.2.2.2 hgx hown' hgrow;have HN:=Lib.hid (And.intro hv2 (And.intro hr2 (And.intro hk2 (And.intro hb2 (And.intro hR2 hs2)))));have hc1:=hv1.cell 0;have hf1:=hv1.frozen 0;have hl1:=hv1.lt;simp at hc1;clear hv1 hv2 hr2 hk2 hb2 hR2 hs2 hown' hgrow)
  exact ⟨HN.out.2.2.1,HN.out.2.2.2.1,⟨_,HN.out.1,by rw [flat_snoc];simpa using HN.out.2.1⟩,HN.out.2.2.2.2.1,HN.out.2.2.2.2.2⟩
 case done =>
  rintro D xs W hD rfl ⟨⟨v,h1,h2⟩,h3,h4⟩ hk
  exact HQ.out D v _ _ _ _ _ _ _ _ _ _ W hD h1 h2 h3 hk
 case stop =>
  rintro D c pre W hD hsp hx hk
  exact absurd hsp hx
end Go.Proofs.YtkgflepgkhnclaaGreatDoor
namespace Go.Proofs.YtkgflepgkhnclaaGreatDoor
set_option linter.unusedVariables false
set_option linter.unusedSimpArgs false
open Go.RowKit Go.Shelf
variable {Xa Xb Xc Xd Xe Xf Xg Xh Xi Xj Xk Xl Xm Xn Xo Xp Xq Xr Xs Xt Xu Xv Xw Xx Xy Xz Ya Yb Yc Yd Ye Yf Yg Yh Yi Yj Yk Yl Ym Yn Yo Yp Yq Yr Ys Yt Yu Yv Yw Yx Yy Yz Za Zb Zc Zd Ze Zf Zg Zh Zi Zj Zk Zl Zm Zn Zo Zp Zq Zr Zs Zt Zu Zv Zw Zx Zy Zz Ja Jb Jc Jd Je Jf Jg Jh Ji Jj Jk Jl Jm Jn Jo Jp Jq Jr Js Jt Ju Jv Jw Jy Jz Va Vb Vc Vd Ve Vf Vg Vh Vi Vj Vk Vl Vm Vn Vo Vp Vq Vr Vs Vt Vu Vv Vw Vx Vy Vz Oa Ob Oc Od Oe Og Oh Oi Oj Ok Ol Om On Oo Oq Ot Ou Ov Ox Oy Oz Ha Hb Hc He Hf Hg Hh Hi Hj Hk Hl Hm Hn Ho Hp Hq Hr Hs Ht Hu Hv Hw Hx Hy Hz Ia Ib Ic Id Ie If Ig Ih Ii Ij Ik Il Im In Io Ip Iq Ir It Iu Iv Iw Ix Iy Iz Ua Ub Uc Ud Ue Uf Ug Uh Ui Uj Uk Ul:Value}
def pairsN (M:Mdl) (t:Int):List Kv:=if 1 ≤ t∧t ≤ 16 then (match (M t.toNat).bk with | some B=>B.l | none=>[]) else []
def PairsEnd (l:List Kv) (w:World) (e:Ending) (w':World):Prop :=
 ∃ A c,e=.returned (.slice A l.length c)∧w'.ownsRow w.heap.size 57 2 (.slice A l.length c) l.length (l.flatMap pairR)∧Below w.heap.size w w'
set_option maxHeartbeats 1600000 in
theorem pairs_tail (B:Bk) (w:World) (gx D lo:Nat) (v:Value) (W:World) (hD:lo ≤ D) (hlo:w.heap.size ≤ lo) (hx:Blk W gx 42 #[v])
 (hr:W.ownsRow lo 57 2 v B.l.length (B.l.flatMap pairR)) (hb:Below w.heap.size w W) (hd:W.heap[D]?=some (.deferred (some []))) :
 Code.wp Tryz.prog (part Tryz.f8 [1,1,1,1]) (bodyPostM Fence.wide 10 Tryz.prog Tryz.f8 (PairsEnd B.l w)) ⟨#[Xa,Xb,Xc,Xd,Xe,.pointer (some ⟨gx,0,none⟩),Xg,Xh,Xi,Xj,Xk,Xl,Xm,Xn,Xo,Xp,Xq,Xr,Xs,Xt,Xu,Xv,Xw,Xx,Xy,Xz,Ya,Yb,Yc,Yd,Ye,Yf,Yg,Yh,Yi,Yj,Yk,Yl,Ym,Yn,Yo,Yp,Yq,Yr,Ys],[{ target:=.collected D,args:=#[] }]⟩ W:=by
 conv=>arg 2;whnf
 obtain ⟨A,c,rfl,hA0,hnc,hcm⟩:=own_form hr
 have e0:=hx.cell 0
 simp at e0
 have HS:=Lib.hid (And.intro hr (And.intro hb hd))
 clear hr hb hd hx
 go_wp2
 obtain ⟨hr,hb,hd⟩:=HS.out
 have hown:∀ r,(some D:Option Nat)=some r→∃ o:Obj,W.heap[r]?=some o∧o.isCells=false:=fun r e=>by injection e with e;subst e;exact ⟨_,hd,rfl⟩
 have t4:=ownsRow_own hr (grownBy_putObj' W D (.deferred none)) hown
 refine ⟨by simp,.inl ⟨_,_,rfl,run_takeDeferred hd,?_⟩⟩
 refine ⟨.slice A B.l.length c,by simp [results,Tryz.results8,go_sem],A,c,rfl,own_base t4 hlo,?_⟩
 exact hb.trans ⟨rfl,rfl,rfl,by simp [World.putObj],fun k hk=>World.putObj_heap_other (by omega)⟩
set_option maxHeartbeats 3200000 in
set_option maxRecDepth 100000 in
theorem Pairs_m {w:World} {p:Nat} {M:Mdl} {T:Ows} (hm:ModelAt w p M T) (t:Int) (hsm:Small M):Calls Tryz.prog 8 #[.pointer (some ⟨p,0,none⟩),.int .i64 t] w (PairsEnd (pairsN M t) w):=by
 have HN:=Lib.hid (none_m hm)
 by_cases h1:t < 1
 · have HE:Hid (pairsN M t=[]):=Lib.hid (by unfold pairsN;rw [if_neg (by omega)])
   clear hm
   go_enter Tryz.func8,Tryz.ntmps8
   go_wp2_with fail
   refine HN.out.mono ?_
   rintro e w1 ⟨rfl,rfl⟩
   go_wp2
   go_ret
   rw [HE.out]
   exact ⟨none,0,rfl,own_nil _ _,Below.refl _ _⟩
 by_cases h2:16 < t
 · have HE:Hid (pairsN M t=[]):=Lib.hid (by unfold pairsN;rw [if_neg (by omega)])
   have h2':t > 16:=h2
   clear hm
   go_enter Tryz.func8,Tryz.ntmps8
   go_wp2_with fail
   refine HN.out.mono ?_
   rintro e w1 ⟨rfl,rfl⟩
   go_wp2
   go_ret
   rw [HE.out]
   exact ⟨none,0,rfl,own_nil _ _,Below.refl _ _⟩
 obtain ⟨n,rfl⟩:∃ n:Nat,t=n:=⟨t.toNat,by omega⟩
 have hn17:n < 17:=by omega
 have c3:=hm.ptr hn17
 have h2':¬ ((n:Int) > 16):=by omega
 have hq1:(0:Int) ≤ (n:Int):=by omega
 have hq2:(n:Int) < 17:=by omega
 unfold Ten.ptr at c3
 cases hB:(M n).bk with
 | none =>
   have HE:Hid (pairsN M (n:Int)=[]):=Lib.hid (by unfold pairsN;rw [if_pos (by omega),Int.toNat_natCast,hB])
   rw [hB] at c3
   simp only [Option.map_none] at c3
   clear hm hB
   go_enter Tryz.func8,Tryz.ntmps8
   go_wp2_with fail
   refine HN.out.mono ?_
   rintro e w1 ⟨rfl,rfl⟩
   go_wp2
   go_ret
   rw [HE.out]
   exact ⟨none,0,rfl,own_nil _ _,Below.refl _ _⟩
 | some B =>
   have HE:Hid (pairsN M (n:Int)=B.l):=Lib.hid (by unfold pairsN;rw [if_pos (by omega),Int.toNat_natCast,hB])
   have hbk:=hm.bk n B hn17 hB
   have hl:=hsm n B hB
   rw [hB] at c3
   simp only [Option.map_some] at c3
   rw [HE.out]
   have HB:=Lib.hid hbk
   clear hm hB hbk
   refine (callsIn_wide (n:=10)).1 (callsIn_of_wp_marks Tryz.func8 rfl trivial (wpIn_wide.2 ?_) rfl)
   simp only [Tryz.ntmps8,List.size_toArray,List.length_cons,List.length_nil,Nat.reduceAdd,Nat.reduceSub,Array.replicate_succ,Array.replicate_zero,List.push_toArray,List.append_toArray,List.nil_append,List.cons_append]
   refine wp_seq_k fun K0 hK=>?_
   have HK0:=Lib.hid hK
   clear hK
   go_wp2_with fail
   refine HK0.out _ _ ?_
   clear HK0
   refine wp_seq_k fun K1 hK=>?_
   have HK1:=Lib.hid hK
   clear hK
   go_wp2_with fail
   refine HN.out.mono ?_
   rintro e w1 ⟨rfl,rfl⟩
   go_wp2_with fail
   refine HK1.out _ _ ?_
   clear HK1
   refine wp_seq_k fun K2 hK=>?_
   have HK2:=Lib.hid hK
   clear hK
   go_wp2_with fail
   refine HK2.out _ _ ?_
   clear HK2
   refine wp_seq_k fun K3 hK=>?_
   have HK3:=Lib.hid hK
   clear hK
   refine wp_seq_k fun K4 hK=>?_
   have HK4:=Lib.hid hK
   clear hK
   have b1:Below w1.heap.size w1 (w1.alloc (.cells #[.slice none 0 0] 42)):=below_box _ _
   have c3':(w1.alloc (.cells #[.slice none 0 0] 42)).cell? ⟨p,1 + n * 15 + 3,none⟩=some (.pointer (some ⟨(T n).b,0,none⟩)):=(b1.cell (World.block_lt_of_cell? w1 _ c3)).trans c3
   have q5:=Blk.new w1 42 #[.slice none 0 0]
   have k1:=HB.out.below b1
   have b2:=below_alloc b1 (.cells #[.pointer (some ⟨(T n).b,0,none⟩)] 73)
   have q6:=q5.alloc (.cells #[.pointer (some ⟨(T n).b,0,none⟩)] 73)
   have k2:=HB.out.below b2
   have e9:((w1.alloc (.cells #[.slice none 0 0] 42)).alloc (.cells #[.pointer (some ⟨(T n).b,0,none⟩)] 73)).cell? ⟨w1.heap.size + 1,0,none⟩=some (.pointer (some ⟨(T n).b,0,none⟩)):=by
    simp
   have HX:=Lib.hid (And.intro b2 (And.intro q6 (And.intro k2 e9)))
   clear b1 b2 q5 q6 k1 k2 e9 c3
   go_wp2_with fail
   refine (all_b _ _).mono ?_
   rintro e w2 ⟨rfl,rfl⟩
   go_wp2_with fail
   refine HK4.out _ _ ?_
   clear HK4
   generalize (w1.alloc (.cells #[.slice none 0 0] 42)).alloc (.cells #[.pointer (some ⟨(T n).b,0,none⟩)] 73)=wx at *
   have hxx:=HX.out
   have hs1:=hxx.1.size
   have hs2:=hxx.2.1.lt
   refine pairs_loop w1.heap.size (w1.heap.size + 1) (T n) B w1 hl hxx.2.2.1 hxx.2.2.2 hxx.2.1 (Nat.le_refl _) hxx.1 ?_
   intro D v _ _ _ _ _ _ _ _ _ _ W hD z1 z2 z3 z4
   refine HK3.out _ _ ?_
   exact pairs_tail B w1 w1.heap.size D wx.heap.size v W hD (by omega) z1 z2 z3 z4
instance:DecidableEq Hd:=fun a b=>decidable_of_iff (a.t=b.t∧a.g=b.g∧a.r=b.r) ⟨fun ⟨h1,h2,h3⟩=>by cases a;cases b;simp_all,fun h=>by subst h;exact ⟨rfl,rfl,rfl⟩⟩
theorem drewB {B:Nat} {w w':World} (h:Below B w w') (n:Nat):Below B w (w'.drewN n):=⟨h.os,h.tape,h.output,h.size,h.block⟩
theorem bytes_ext {a b:ByteArray} (h:a.toList=b.toList):a=b:=by
 rw [ByteArray.toList_eq,ByteArray.toList_eq] at h
 obtain ⟨⟨x⟩⟩:=a
 obtain ⟨⟨y⟩⟩:=b
 simp only at h
 rw [h]
theorem bytes_iff {a b:ByteArray}:a.toList=b.toList ↔ a=b:=⟨bytes_ext,fun h=>by rw [h]⟩
theorem beqBytes (a b:ByteArray):(a.toList == b.toList)=decide (a=b):=by
 by_cases h:a=b
 · subst h;simp
 · rw [decide_eq_false h]
   exact beq_false_of_ne (fun e=>h (bytes_ext e))
theorem neqPair (x y:Kv) (W:World):(binOp .neq 57 (.agg #[.string x.1,.string x.2]) (.agg #[.string y.1,.string y.2])).run Tryz.prog W=.ok (.bool (decide (x ≠ y))) W:=by
 have u0:=Tryz.underlying9
 have a0:=Tryz.isAgg9
 have z0:=Tryz.sizeOf9
 have hS:Tryz.prog.underlying 57=some (.struct (Tryz.prog.fieldsOf 57)):=by kernel_rfl
 have hp:Tryz.prog.stoodInHeld 57=false:=by kernel_rfl
 rw [run_neq_struct,show (10000:Nat)=9999 + 1 from rfl,run_equalIn_agg W 9999 57 _ _ hS hp]
 clear hS
 simp only [Program.fieldsOf,Tryz.underlying57]
 go_simp
 obtain ⟨a,b⟩:=x
 obtain ⟨c,d⟩:=y
 simp only [beqBytes]
 by_cases h1:a=c <;> by_cases h2:b=d <;> simp [bytes_iff,h1,h2]
theorem eqlHandle (x y:Hd) (W:World):(binOp .eql 37 (.agg #[.int .i64 x.t,.int .u32 x.g,.int .u8 x.r]) (.agg #[.int .i64 y.t,.int .u32 y.g,.int .u8 y.r])).run Tryz.prog W=.ok (.bool (decide (x=y))) W:=by
 have u0:=Tryz.underlying3
 have a0:=Tryz.isAgg3
 have z0:=Tryz.sizeOf3
 have u1:=Tryz.underlying34
 have a1:=Tryz.isAgg34
 have z1:=Tryz.sizeOf34
 have u2:=Tryz.underlying35
 have a2:=Tryz.isAgg35
 have z2:=Tryz.sizeOf35
 have hS:Tryz.prog.underlying 37=some (.struct (Tryz.prog.fieldsOf 37)):=by kernel_rfl
 have hp:Tryz.prog.stoodInHeld 37=false:=by kernel_rfl
 rw [run_eql_struct,show (10000:Nat)=9999 + 1 from rfl,run_equalIn_agg W 9999 37 _ _ hS hp]
 clear hS
 simp only [Program.fieldsOf,Tryz.underlying37]
 go_simp
 obtain ⟨a,b,c⟩:=x
 obtain ⟨d,e,f⟩:=y
 by_cases h1:a=d <;> by_cases h2:b=e <;> by_cases h3:c=f <;> simp [h1,h2,h3]
theorem guardPair:Tryz.prog.eqGuardType Tryz.prog.depth 57=false:=by kernel_rfl
theorem guardHd:Tryz.prog.eqGuardType Tryz.prog.depth 37=false:=by kernel_rfl
def SameEnd (b:Bool) (w:World) (e:Ending) (w':World):Prop:=e=.returned (.bool b)∧∃ n,w'=w.drewN n
theorem pairR_one (x:Kv):(pairR x).length=2:=rfl
set_option maxHeartbeats 1600000 in
theorem pairs_eq (A B:Option Addr) (ca cb:Nat) (ss ts:List Kv) (W1 W2:Nat) (w:World) (hs:ss.length ≤ 1000000) (ht:ts.length ≤ 1000000) (hA:Reads w W1 2 A ss.length (ss.flatMap pairR)) (hB:Reads w W2 2 B ts.length (ts.flatMap pairR)) :
 Calls Tryz.prog 13 #[.slice A ss.length ca,.slice B ts.length cb] w (SameEnd (decide (ss=ts)) w):=by
 have HA:=Lib.hid hA
 have HB:=Lib.hid hB
 clear hA hB
 by_cases hl:ss.length=ts.length
 · have hlb:((ss.length:Int) != (ts.length:Int))=false:=by simp [hl]
   have HL:=Lib.hid hl
   have hle:ss.length ≤ ts.length:=by omega
   clear hl
   go_enter Tryz.func13,Tryz.ntmps13
   go_wp2_with fail
   clear hlb
   go_loopw [13] (fun i wr=>∃ (k:Nat) (n:Nat),k ≤ ss.length∧i=.int .i64 k∧Hid (wr=w.drewN n)∧Hid (ss.take k=ts.take k)) (fun i _=>ss.length - (intOf i).toNat)
   case atStart=>exact ⟨0,0,by omega,rfl,Lib.hid rfl,Lib.hid rfl⟩
   case round =>
    obtain ⟨k,n,hk,rfl,hw,he⟩:=hrel
    by_cases hlt:k < ss.length
    · obtain ⟨ad,rfl,hab,hc⟩:=row_cells pairR_one HA.out rfl hlt
      obtain ⟨bd,rfl,hbb,hd⟩:=row_cells pairR_one HB.out rfl (show k < ts.length by omega)
      have hsplit:=list_split HL.out hlt he.out
      have hcc:∀ j u,(pairR ss[k])[j]?=some u→wr.cell? ((ad.add (k * 2)).add j)=some u:=by rw [hw.out];exact hc
      have hdd:∀ j u,(pairR (ts[k]'(by omega)))[j]?=some u→wr.cell? ((bd.add (k * 2)).add j)=some u:=by rw [hw.out];exact hd
      clear hc hd
      generalize ss[k]=x at hcc hsplit
      generalize ts[k]'(by omega)=y at hdd hsplit
      have q0:wr.cell? (ad.add (k * 2))=_:=hcc 0 _ rfl
      have q1:wr.cell? ⟨(ad.add (k * 2)).block,(ad.add (k * 2)).off + 1,none⟩=_:=hcc 1 _ rfl
      have p0:wr.cell? (bd.add (k * 2))=_:=hdd 0 _ rfl
      have p1:wr.cell? ⟨(bd.add (k * 2)).block,(bd.add (k * 2)).off + 1,none⟩=_:=hdd 1 _ rfl
      have i1:(0:Int) ≤ (k:Int):=by omega
      have i2:(k:Int) < (ss.length:Int):=by omega
      have i3:(k:Int) < (ts.length:Int):=by omega
      have HSp:=Lib.hid hsplit
      clear hsplit hcc hdd
      have hm:=guardPair
      by_cases hxy:x=y
      · have hnq:∀ W,(binOp .neq 57 (.agg #[.string x.1,.string x.2]) (.agg #[.string y.1,.string y.2])).run Tryz.prog W=.ok (.bool false) W:=fun W=>by rw [neqPair,decide_eq_false (by simp [hxy])]
        have hT:=HSp.out.1 hxy
        have HT:=Lib.hid hT
        clear hT hxy HSp
        go_wp2_with fail
        go_quiet (fail)
        go_wp2
        go_roundw
        case rel=>exact ⟨k + 1,_,by omega,by go_num,Lib.hid (by rw [hw.out,World.drewN_drewN]),Lib.hid HT.out⟩
        case measure=>simp [intOf];omega
      · have hnq:∀ W,(binOp .neq 57 (.agg #[.string x.1,.string x.2]) (.agg #[.string y.1,.string y.2])).run Tryz.prog W=.ok (.bool true) W:=fun W=>by rw [neqPair,decide_eq_true hxy]
        have hT:=HSp.out.2 hxy
        have HT:=Lib.hid hT
        clear hT hxy HSp
        go_wp2_with fail
        go_quiet (fail)
        go_wp2
        go_ret
        exact ⟨ret_bool (by rw [decide_eq_false HT.out]),_,by rw [hw.out,World.drewN_drewN]⟩
    · obtain rfl:k=ss.length:=by omega
      have hT:ss=ts:=by
       have h1:=he.out
       rw [List.take_length,HL.out,List.take_length] at h1
       exact h1
      have HT:=Lib.hid hT
      clear hT
      go_wp2
      go_ret
      exact ⟨ret_bool (by rw [decide_eq_true HT.out]),n,hw.out⟩
 · have hlb:((ss.length:Int) != (ts.length:Int))=true:=by simp;omega
   have hT:ss ≠ ts:=fun e=>hl (by rw [e])
   have HT:=Lib.hid hT
   clear hl hT
   go_enter Tryz.func13,Tryz.ntmps13
   go_wp2
   go_ret
   exact ⟨ret_bool (by rw [decide_eq_false HT.out]),0,rfl⟩
def idxP {α:Type} (p:α→Bool) (i:Nat):List α→Int
 | []=>-1
 | x :: xs=>if p x then (i:Int) else idxP p (i + 1) xs
def hdR (h:Hd):List Value:=[.int .i64 h.t,.int .u32 h.g,.int .u8 h.r]
end Go.Proofs.YtkgflepgkhnclaaGreatDoor
