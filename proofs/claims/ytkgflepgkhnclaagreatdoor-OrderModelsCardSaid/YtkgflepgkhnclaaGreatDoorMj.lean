/- Layer 27: OrderModels: the reference's model in memory; Good. Layer 27: maps by numbers as functions; Check's plain law. Layer 27: order: Check, a Done's numbers are noted. Layer 27: order: Check, its first loop. Layer 27: order: Check, the end of a round. Layer 27: order: Check. Layer 27: order: Check, ready. Layer 27: order: moments; the sort's comparison. Layer 27: order: moments are sorted (at most nineteen). Layer 27: stat.After at one event. -/
import Derived.Test.YtkgflepgkhnclaaGreatDoorMi
import Derived.Test.YtkgflepgkhnclaaGreatDoorMh
import Derived.Test.YtkgflepgkhnclaaGreatDoorMe
import Derived.Shelf.SlSortCmp.InsertionK
namespace Go.Proofs.YtkgflepgkhnclaaGreatDoor
set_option linter.unusedVariables false
set_option linter.unusedSimpArgs false
open Go.RowKit Go.Shelf
attribute [local go_sem] run_store_complex
structure RTen where
 there:Bool
 gen:Int
 bk:RBk
 st:List Value
def RTen.cells (t:RTen):List Value:=[.bool t.there,.int .u32 t.gen,.slice t.bk.A t.bk.l.length t.bk.c,.int .u64 t.bk.qk,.int .u64 t.bk.qb] ++ t.st
abbrev RMd:=Nat→RTen
def rcells (R:RMd):List Value:=(List.range 17).flatMap fun t=>(R t).cells
theorem RTen.len {t:RTen} (h:StOk t.st):t.cells.length=16:=by
 unfold RTen.cells
 rw [List.length_append,h.len]
 rfl
theorem RTen.one {t:RTen} (h:StOk t.st):∀ v ∈ t.cells,v.oneCell'=true:=by
 intro v hv
 unfold RTen.cells at hv
 rw [List.mem_append] at hv
 rcases hv with hv | hv
 · simp at hv
   rcases hv with rfl | rfl | rfl | rfl | rfl <;> rfl
 · exact h.one v hv
theorem rcell {R:RMd} (h:∀ t,StOk (R t).st) {t j:Nat} (ht:t < 17) (hj:j < 16):(rcells R)[t * 16 + j]?=((R t).cells)[j]?:=by
 have:=flat_at (f:=fun t=>(R t).cells) (m:=16) (fun x=>RTen.len (h x)) (List.range 17) t j (by simpa using ht) hj
 rw [List.getElem_range] at this
 exact this
theorem flatL_len {α:Type} {f:α→List Value} {m:Nat} (hf:∀ x,(f x).length=m):∀ l:List α,(l.flatMap f).length=l.length * m
 | []=>by simp
 | x :: r=>by rw [List.flatMap_cons,List.length_append,hf x,flatL_len hf r,List.length_cons,Nat.succ_mul];omega
theorem rcells_len {R:RMd} (h:∀ t,StOk (R t).st):(rcells R).length=272:=by
 unfold rcells
 rw [flatL_len (m:=16) (fun x=>RTen.len (h x)),List.length_range]
theorem rcells_one {R:RMd} (h:∀ t,StOk (R t).st):(rcells R).toArray.all (·.oneCell')=true:=by
 rw [List.all_toArray,List.all_eq_true]
 intro v hv
 obtain ⟨t,_,ht⟩:=List.mem_flatMap.1 hv
 exact RTen.one (h t) v ht
theorem infoRM:(Tryz.prog.info? 66).map (·.size)=some 272:=by kernel_rfl
structure RMAt (W:World) (n:Nat) (M:Mdl) (R:RMd):Prop where
 there:∀ t,(R t).there=(M t).bk.isSome
 gen:∀ t,(R t).gen=(M t).gen
 bk:∀ t B,(M t).bk=some B→(R t).bk.l=B.l∧(R t).bk.qk=B.qk∧(R t).bk.qb=B.qb
 st:∀ t,(R t).st=(M t).st
 ok:∀ t,StOk (R t).st
 at_:∀ t,(R t).bk.at_ W
 lok:∀ t,LOk (R t).bk.l
 len:∀ t,(R t).bk.l.length ≤ n
theorem RMAt.below {W W':World} {n:Nat} {M:Mdl} {R:RMd} (h:RMAt W n M R) (hb:Below W.heap.size W W'):RMAt W' n M R :=
 ⟨h.there,h.gen,h.bk,h.st,h.ok,fun t=>(h.at_ t).below hb,h.lok,h.len⟩
theorem rblk {W:World} {g t j:Nat} {R:RMd} {v:Value} (h:Blk W g 66 (rcells R).toArray) (hs:∀ t,StOk (R t).st) (ht:t < 17) (hv:((R t).cells)[j]?=some v):W.cell? ⟨g,t * 16 + j,none⟩=some v:=by
 have hj:j < 16:=by
  have:=(List.getElem?_eq_some_iff.1 hv).1
  rwa [RTen.len (hs t)] at this
 rw [h.cell,List.getElem?_toArray,rcell hs ht hj,hv]
set_option maxHeartbeats 3200000 in
set_option maxRecDepth 100000 in
theorem goodR_any {w:World} {n:Nat} {M:Mdl} {R:RMd} (hm:RMAt w n M R) (h:Hd) (hr:0 ≤ h.r∧h.r ≤ 255):Calls Tryz.prog 19 #[.agg (rcells R).toArray,h.v] w (BoolB (goodN M h) w):=by
 have hb0:=below_alloc (below_box w (.cells (rcells R).toArray 66)) (.cells #[.int .i64 h.t,.int .u32 h.g,.int .u8 h.r] 37)
 have qm:Blk ((w.alloc (.cells (rcells R).toArray 66)).alloc (.cells #[.int .i64 h.t,.int .u32 h.g,.int .u8 h.r] 37)) w.heap.size 66 (rcells R).toArray:=(Blk.new w _ _).alloc _
 have qh:Blk ((w.alloc (.cells (rcells R).toArray 66)).alloc (.cells #[.int .i64 h.t,.int .u32 h.g,.int .u8 h.r] 37)) (w.heap.size + 1) 37 #[.int .i64 h.t,.int .u32 h.g,.int .u8 h.r]:=blk_at (by simp)
 unfold goodN
 have hthere:=hm.there h.t.toNat
 have hgen:=hm.gen h.t.toNat
 have hc0:∀ V,Blk V w.heap.size 66 (rcells R).toArray→h.t.toNat < 17→V.cell? ⟨w.heap.size,h.t.toNat * 16,none⟩=some (.bool (R h.t.toNat).there):=fun V hV ht=>rblk (j:=0) hV hm.ok ht rfl
 have hc1:∀ V,Blk V w.heap.size 66 (rcells R).toArray→h.t.toNat < 17→V.cell? ⟨w.heap.size,h.t.toNat * 16 + 1,none⟩=some (.int .u32 (R h.t.toNat).gen):=fun V hV ht=>rblk (j:=1) hV hm.ok ht rfl
 rw [← hthere,← hgen]
 generalize (R h.t.toNat).there=th at hc0 ⊢
 generalize (R h.t.toNat).gen=gn at hc1 ⊢
 have HRR:=Lib.hid (fun W=>rightR_any h W hr)
 have HX:=Lib.hid (And.intro hc0 hc1)
 have hrt:h.right=true→1 ≤ h.t∧h.t ≤ 16:=fun h=>by
  simp only [Hd.right,Hd.tN,Bool.and_eq_true,decide_eq_true_eq] at h
  exact h.1.1
 clear hc0 hc1 hthere hgen hm
 unfold Hd.v at *
 go_enter Tryz.func19,Tryz.ntmps19
 refine wp_seq_k fun K0 hK=>?_
 have HK0:=Lib.hid hK
 clear hK
 go_wp2_with fail
 refine HK0.out _ _ ?_
 clear HK0
 try simp only [Act.put]
 have HQ:=Lib.hid (And.intro qm (And.intro qh hb0))
 obtain ⟨gm,hgm⟩:∃ g,w.heap.size=g:=⟨_,rfl⟩
 generalize hwa:(w.alloc (.cells (rcells R).toArray 66)).alloc (.cells #[.int .i64 h.t,.int .u32 h.g,.int .u8 h.r] 37)=w1 at HQ ⊢
 rw [hgm] at HX ⊢
 obtain ⟨qm1,qh1,hb1⟩:=HQ.out
 rw [hgm] at qm1 qh1
 have HGM:=Lib.hid hgm
 clear hwa qm qh hb0 hgm HQ
 obtain ⟨gh,hgh⟩:∃ g,gm + 1=g:=⟨_,rfl⟩
 rw [hgh] at qh1 ⊢
 clear hgh
 have HB:Hid (∀ V,Below w1.drew.heap.size w1.drew V→Below w.heap.size w V):=Lib.hid (fun V hV=>below_trans hb1 ⟨hV.os,hV.tape,hV.output,hV.size,hV.block⟩)
 have HQ:=Lib.hid (fun V (hV:Below w1.drew.heap.size w1.drew V)=>(show Blk V gm _ _∧Blk V gh _ _ from ⟨qm1.below (show Below w1.heap.size w1 V from ⟨hV.os,hV.tape,hV.output,hV.size,hV.block⟩) qm1.lt,qh1.below (show Below w1.heap.size w1 V from ⟨hV.os,hV.tape,hV.output,hV.size,hV.block⟩) qh1.lt⟩))
 have HR:=Lib.hid (HRR.out w1.drew)
 clear hb1 qm1 qh1 HRR
 refine wp_seq_k fun K0 hK=>?_
 have HK0:=Lib.hid hK
 clear hK
 refine wp_region_noPanic ?_
 obtain ⟨t,g,r⟩:=h
 dsimp only at hr HX HQ HR hrt ⊢
 cases hri:Hd.right ⟨t,g,r⟩ with
 | false =>
   rw [hri] at HR
   have HRI:=Lib.hid hri
   have HC:Hid (∀ V:World,Below w1.drew.heap.size w1.drew V→V.cell? ⟨gh,0,none⟩=some (.int .i64 t)∧V.cell? ⟨gh,1,none⟩=some (.int .u32 g)∧V.cell? ⟨gh,2,none⟩=some (.int .u8 r)):=Lib.hid (fun V hV=>⟨(HQ.out V hV).2.cell 0,(HQ.out V hV).2.cell 1,(HQ.out V hV).2.cell 2⟩)
   have H0:=HC.out _ (Below.refl _ _)
   clear hri hrt
   refine wp_region_held_drew (S:=(fun V:World=>V.cell? ⟨gh,0,none⟩=some (.int .i64 t)∧V.cell? ⟨gh,1,none⟩=some (.int .u32 g)∧V.cell? ⟨gh,2,none⟩=some (.int .u8 r))) (by kernel_rfl) ?_ (fun hHeld0=>?_)
   · exact H0
   refine tk (i:=0) (v:=?_) rfl (Or.inl ⟨by rfl,?_⟩) hHeld0 ?_
   rotate_left
   · (intro w hSw;(try dsimp only at hSw);go_simp <;> with_reducible rfl)
   try simp only [Act.put,zA,zB,zC,zD,zE,zF]
   refine wpAnyH_ready (rs:=[1]) (by kernel_rfl) (by simp) ?_
   refine AllReadyH.cons rfl (fun K hK=>?_) AllReadyH.nil
   go_simp
   with_reducible refine HR.out.mono ?_
   rintro e w9 ⟨rfl,hb9⟩
   refine hK.out _ _ ?_ (fun hHeld1=>?_)
   · exact HC.out _ hb9
   clear hK K hHeld0
   try simp only [Act.put,zA,zB,zC,zD,zE,zF]
   refine tk (i:=2) (v:=?_) rfl (Or.inl ⟨by rfl,?_⟩) hHeld1 ?_
   rotate_left
   · (intro w hSw;(try dsimp only at hSw);go_simp <;> with_reducible rfl)
   try simp only [Act.put,zA,zB,zC,zD,zE,zF]
   refine tk (i:=3) (v:=undef) rfl (Or.inr ⟨by kernel_rfl,rfl⟩) hHeld1 ?_
   try simp only [Act.put,zD,zE,zF]
   refine tk (i:=4) (v:=undef) rfl (Or.inr ⟨by kernel_rfl,rfl⟩) hHeld1 ?_
   try simp only [Act.put,zD,zE,zF]
   refine tk (i:=5) (v:=undef) rfl (Or.inr ⟨by kernel_rfl,rfl⟩) hHeld1 ?_
   try simp only [Act.put,zD,zE,zF]
   refine tk (i:=6) (v:=undef) rfl (Or.inr ⟨by kernel_rfl,rfl⟩) hHeld1 ?_
   try simp only [Act.put,zD,zE,zF]
   refine tk (i:=7) (v:=undef) rfl (Or.inr ⟨by kernel_rfl,rfl⟩) hHeld1 ?_
   try simp only [Act.put,zD,zE,zF]
   refine tk (i:=8) (v:=?_) rfl (Or.inl ⟨by rfl,?_⟩) hHeld1 ?_
   rotate_left
   · (intro w hSw;(try dsimp only at hSw);go_simp <;> with_reducible rfl)
   try simp only [Act.put,zA,zB,zC,zD,zE,zF]
   refine tk (i:=9) (v:=?_) rfl (Or.inl ⟨by rfl,?_⟩) hHeld1 ?_
   rotate_left
   · (intro w hSw;(try dsimp only at hSw);go_simp <;> with_reducible rfl)
   try simp only [Act.put,zA,zB,zC,zD,zE,zF]
   refine tk (i:=10) (v:=undef) rfl (Or.inr ⟨by kernel_rfl,rfl⟩) hHeld1 ?_
   try simp only [Act.put,zD,zE,zF]
   refine tk (i:=11) (v:=undef) rfl (Or.inr ⟨by kernel_rfl,rfl⟩) hHeld1 ?_
   try simp only [Act.put,zD,zE,zF]
   refine tk (i:=12) (v:=undef) rfl (Or.inr ⟨by kernel_rfl,rfl⟩) hHeld1 ?_
   try simp only [Act.put,zD,zE,zF]
   refine tk (i:=13) (v:=undef) rfl (Or.inr ⟨by kernel_rfl,rfl⟩) hHeld1 ?_
   try simp only [Act.put,zD,zE,zF]
   refine tk (i:=14) (v:=undef) rfl (Or.inr ⟨by kernel_rfl,rfl⟩) hHeld1 ?_
   try simp only [Act.put,zD,zE,zF]
   refine tk (i:=15) (v:=undef) rfl (Or.inr ⟨by kernel_rfl,rfl⟩) hHeld1 ?_
   try simp only [Act.put,zD,zE,zF]
   refine tk (i:=16) (v:=undef) rfl (Or.inr ⟨by kernel_rfl,rfl⟩) hHeld1 ?_
   try simp only [Act.put,zD,zE,zF]
   refine tk (i:=17) (v:=undef) rfl (Or.inr ⟨by kernel_rfl,rfl⟩) hHeld1 ?_
   try simp only [Act.put,zA,zB,zC,zD,zE,zF]
   refine tk (i:=18) (v:=?_) rfl (Or.inl ⟨by rfl,?_⟩) hHeld1 ?_
   rotate_left
   · (intro w hSw;(try dsimp only at hSw);go_simp <;> with_reducible rfl)
   try simp only [Act.put,zA,zB,zC,zD,zE,zF]
   refine tk (i:=19) (v:=?_) rfl (Or.inl ⟨by rfl,?_⟩) hHeld1 ?_
   rotate_left
   · (intro w hSw;(try dsimp only at hSw);go_simp <;> with_reducible rfl)
   try simp only [Act.put,zA,zB,zC,zD,zE,zF]
   refine wpAnyH_done (by kernel_rfl) ?_ _
   refine NoPanic.normal (HK0.out _ _ ?_)
   go_wp2_with fail
   go_ret
   exact ⟨by rw [HRI.out];rfl,HB.out _ hb9⟩
 | true =>
   rw [hri] at HR
   have ht:=hrt hri
   have HRI:=Lib.hid hri
   obtain ⟨tn,rfl⟩:∃ k:Nat,t=k:=⟨t.toNat,by omega⟩
   rw [Int.toNat_natCast] at HX
   have HC:Hid (∀ V:World,Below w1.drew.heap.size w1.drew V→V.cell? ⟨gh,0,none⟩=some (.int .i64 (tn:Nat))∧V.cell? ⟨gh,1,none⟩=some (.int .u32 g)∧V.cell? ⟨gh,2,none⟩=some (.int .u8 r)∧V.cell? ⟨gm,tn * 16,none⟩=some (.bool th)∧V.cell? ⟨gm,tn * 16 + 1,none⟩=some (.int .u32 gn)):=Lib.hid (fun V hV=>⟨(HQ.out V hV).2.cell 0,(HQ.out V hV).2.cell 1,(HQ.out V hV).2.cell 2,HX.out.1 V (HQ.out V hV).1 (by omega),HX.out.2 V (HQ.out V hV).1 (by omega)⟩)
   have H0:=HC.out _ (Below.refl _ _)
   have i0:(0:Int) ≤ (tn:Int):=by omega
   have i1:(tn:Int) < 17:=by omega
   clear hri hrt
   cases th with
   | false =>
     refine wp_region_held_drew (S:=(fun V:World=>V.cell? ⟨gh,0,none⟩=some (.int .i64 (tn:Nat))∧V.cell? ⟨gh,1,none⟩=some (.int .u32 g)∧V.cell? ⟨gh,2,none⟩=some (.int .u8 r)∧V.cell? ⟨gm,tn * 16,none⟩=some (.bool false)∧V.cell? ⟨gm,tn * 16 + 1,none⟩=some (.int .u32 gn))) (by kernel_rfl) ?_ (fun hHeld0=>?_)
     · exact H0
     refine tk (i:=0) (v:=?_) rfl (Or.inl ⟨by rfl,?_⟩) hHeld0 ?_
     rotate_left
     · (intro w hSw;(try dsimp only at hSw);go_simp <;> with_reducible rfl)
     try simp only [Act.put,zA,zB,zC,zD,zE,zF]
     refine wpAnyH_ready (rs:=[1]) (by kernel_rfl) (by simp) ?_
     refine AllReadyH.cons rfl (fun K hK=>?_) AllReadyH.nil
     go_simp
     with_reducible refine HR.out.mono ?_
     rintro e w9 ⟨rfl,hb9⟩
     refine hK.out _ _ ?_ (fun hHeld1=>?_)
     · exact HC.out _ hb9
     clear hK K hHeld0
     try simp only [Act.put,zA,zB,zC,zD,zE,zF]
     refine tk (i:=2) (v:=?_) rfl (Or.inl ⟨by rfl,?_⟩) hHeld1 ?_
     rotate_left
     · (intro w hSw;(try dsimp only at hSw);go_simp <;> with_reducible rfl)
     try simp only [Act.put,zA,zB,zC,zD,zE,zF]
     refine tk (i:=3) (v:=?_) rfl (Or.inl ⟨by kernel_rfl,?_⟩) hHeld1 ?_
     rotate_left
     · (intro w hSw;(try dsimp only at hSw);go_simp <;> with_reducible rfl)
     try simp only [Act.put,zD,zE,zF]
     refine tk (i:=4) (v:=?_) rfl (Or.inl ⟨by kernel_rfl,?_⟩) hHeld1 ?_
     rotate_left
     · (intro w hSw;(try dsimp only at hSw);go_simp <;> with_reducible rfl)
     try simp only [Act.put,zD,zE,zF]
     refine tk (i:=5) (v:=?_) rfl (Or.inl ⟨by kernel_rfl,?_⟩) hHeld1 ?_
     rotate_left
     · (intro w hSw;(try dsimp only at hSw);go_simp <;> with_reducible rfl)
     try simp only [Act.put,zD,zE,zF]
     refine tk (i:=6) (v:=?_) rfl (Or.inl ⟨by kernel_rfl,?_⟩) hHeld1 ?_
     rotate_left
     · (intro w hSw;(try dsimp only at hSw);go_simp <;> with_reducible rfl)
     try simp only [Act.put,zD,zE,zF]
     refine tk (i:=7) (v:=?_) rfl (Or.inl ⟨by kernel_rfl,?_⟩) hHeld1 ?_
     rotate_left
     · (intro w hSw;(try dsimp only at hSw);go_simp <;> with_reducible rfl)
     try simp only [Act.put,zA,zB,zC,zD,zE,zF]
     refine tk (i:=8) (v:=?_) rfl (Or.inl ⟨by rfl,?_⟩) hHeld1 ?_
     rotate_left
     · (intro w hSw;(try dsimp only at hSw);go_simp <;> with_reducible rfl)
     try simp only [Act.put,zA,zB,zC,zD,zE,zF]
     refine tk (i:=9) (v:=?_) rfl (Or.inl ⟨by rfl,?_⟩) hHeld1 ?_
     rotate_left
     · (intro w hSw;(try dsimp only at hSw);go_simp <;> with_reducible rfl)
     try simp only [Act.put,zA,zB,zC,zD,zE,zF]
     refine tk (i:=10) (v:=undef) rfl (Or.inr ⟨by kernel_rfl,rfl⟩) hHeld1 ?_
     try simp only [Act.put,zD,zE,zF]
     refine tk (i:=11) (v:=undef) rfl (Or.inr ⟨by kernel_rfl,rfl⟩) hHeld1 ?_
     try simp only [Act.put,zD,zE,zF]
     refine tk (i:=12) (v:=undef) rfl (Or.inr ⟨by kernel_rfl,rfl⟩) hHeld1 ?_
     try simp only [Act.put,zD,zE,zF]
     refine tk (i:=13) (v:=undef) rfl (Or.inr ⟨by kernel_rfl,rfl⟩) hHeld1 ?_
     try simp only [Act.put,zD,zE,zF]
     refine tk (i:=14) (v:=undef) rfl (Or.inr ⟨by kernel_rfl,rfl⟩) hHeld1 ?_
     try simp only [Act.put,zD,zE,zF]
     refine tk (i:=15) (v:=undef) rfl (Or.inr ⟨by kernel_rfl,rfl⟩) hHeld1 ?_
     try simp only [Act.put,zD,zE,zF]
     refine tk (i:=16) (v:=undef) rfl (Or.inr ⟨by kernel_rfl,rfl⟩) hHeld1 ?_
     try simp only [Act.put,zD,zE,zF]
     refine tk (i:=17) (v:=undef) rfl (Or.inr ⟨by kernel_rfl,rfl⟩) hHeld1 ?_
     try simp only [Act.put,zA,zB,zC,zD,zE,zF]
     refine tk (i:=18) (v:=?_) rfl (Or.inl ⟨by rfl,?_⟩) hHeld1 ?_
     rotate_left
     · (intro w hSw;(try dsimp only at hSw);go_simp <;> with_reducible rfl)
     try simp only [Act.put,zA,zB,zC,zD,zE,zF]
     refine tk (i:=19) (v:=?_) rfl (Or.inl ⟨by rfl,?_⟩) hHeld1 ?_
     rotate_left
     · (intro w hSw;(try dsimp only at hSw);go_simp <;> with_reducible rfl)
     try simp only [Act.put,zA,zB,zC,zD,zE,zF]
     refine wpAnyH_done (by kernel_rfl) ?_ _
     refine NoPanic.normal (HK0.out _ _ ?_)
     go_wp2_with fail
     go_ret
     exact ⟨by first | rfl | (rw [HRI.out];rfl),HB.out _ hb9⟩
   | true =>
     generalize hqq:(gn == g)=bb
     have HQQ:=Lib.hid hqq
     have hbd:decide (gn=g)=bb:=by rw [← hqq];rfl
     have HBD:=Lib.hid hbd
     clear hbd
     refine wp_region_held_drew (S:=(fun V:World=>V.cell? ⟨gh,0,none⟩=some (.int .i64 (tn:Nat))∧V.cell? ⟨gh,1,none⟩=some (.int .u32 g)∧V.cell? ⟨gh,2,none⟩=some (.int .u8 r)∧V.cell? ⟨gm,tn * 16,none⟩=some (.bool true)∧V.cell? ⟨gm,tn * 16 + 1,none⟩=some (.int .u32 gn))) (by kernel_rfl) ?_ (fun hHeld0=>?_)
     · exact H0
     refine tk (i:=0) (v:=?_) rfl (Or.inl ⟨by rfl,?_⟩) hHeld0 ?_
     rotate_left
     · (intro w hSw;(try dsimp only at hSw);go_simp <;> with_reducible rfl)
     try simp only [Act.put,zA,zB,zC,zD,zE,zF]
     refine wpAnyH_ready (rs:=[1]) (by kernel_rfl) (by simp) ?_
     refine AllReadyH.cons rfl (fun K hK=>?_) AllReadyH.nil
     go_simp
     with_reducible refine HR.out.mono ?_
     rintro e w9 ⟨rfl,hb9⟩
     refine hK.out _ _ ?_ (fun hHeld1=>?_)
     · exact HC.out _ hb9
     clear hK K hHeld0
     try simp only [Act.put,zA,zB,zC,zD,zE,zF]
     refine tk (i:=2) (v:=?_) rfl (Or.inl ⟨by rfl,?_⟩) hHeld1 ?_
     rotate_left
     · (intro w hSw;(try dsimp only at hSw);go_simp <;> with_reducible rfl)
     try simp only [Act.put,zA,zB,zC,zD,zE,zF]
     refine tk (i:=3) (v:=?_) rfl (Or.inl ⟨by kernel_rfl,?_⟩) hHeld1 ?_
     rotate_left
     · (intro w hSw;(try dsimp only at hSw);go_simp <;> with_reducible rfl)
     try simp only [Act.put,zD,zE,zF]
     refine tk (i:=4) (v:=?_) rfl (Or.inl ⟨by kernel_rfl,?_⟩) hHeld1 ?_
     rotate_left
     · (intro w hSw;(try dsimp only at hSw);go_simp <;> with_reducible rfl)
     try simp only [Act.put,zD,zE,zF]
     refine tk (i:=5) (v:=?_) rfl (Or.inl ⟨by kernel_rfl,?_⟩) hHeld1 ?_
     rotate_left
     · (intro w hSw;(try dsimp only at hSw);go_simp <;> with_reducible rfl)
     try simp only [Act.put,zD,zE,zF]
     refine tk (i:=6) (v:=?_) rfl (Or.inl ⟨by kernel_rfl,?_⟩) hHeld1 ?_
     rotate_left
     · (intro w hSw;(try dsimp only at hSw);go_simp <;> with_reducible rfl)
     try simp only [Act.put,zD,zE,zF]
     refine tk (i:=7) (v:=?_) rfl (Or.inl ⟨by kernel_rfl,?_⟩) hHeld1 ?_
     rotate_left
     · (intro w hSw;(try dsimp only at hSw);go_simp <;> with_reducible rfl)
     try simp only [Act.put,zA,zB,zC,zD,zE,zF]
     refine tk (i:=8) (v:=?_) rfl (Or.inl ⟨by rfl,?_⟩) hHeld1 ?_
     rotate_left
     · (intro w hSw;(try dsimp only at hSw);go_simp <;> with_reducible rfl)
     try simp only [Act.put,zA,zB,zC,zD,zE,zF]
     refine tk (i:=9) (v:=?_) rfl (Or.inl ⟨by rfl,?_⟩) hHeld1 ?_
     rotate_left
     · (intro w hSw;(try dsimp only at hSw);go_simp <;> with_reducible rfl)
     try simp only [Act.put,zA,zB,zC,zD,zE,zF]
     refine tk (i:=10) (v:=?_) rfl (Or.inl ⟨by kernel_rfl,?_⟩) hHeld1 ?_
     rotate_left
     · (intro w hSw;(try dsimp only at hSw);go_simp <;> with_reducible rfl)
     try simp only [Act.put,zD,zE,zF]
     refine tk (i:=11) (v:=?_) rfl (Or.inl ⟨by kernel_rfl,?_⟩) hHeld1 ?_
     rotate_left
     · (intro w hSw;(try dsimp only at hSw);go_simp <;> with_reducible rfl)
     try simp only [Act.put,zD,zE,zF]
     refine tk (i:=12) (v:=?_) rfl (Or.inl ⟨by kernel_rfl,?_⟩) hHeld1 ?_
     rotate_left
     · (intro w hSw;(try dsimp only at hSw);go_simp <;> with_reducible rfl)
     try simp only [Act.put,zD,zE,zF]
     refine tk (i:=13) (v:=?_) rfl (Or.inl ⟨by kernel_rfl,?_⟩) hHeld1 ?_
     rotate_left
     · (intro w hSw;(try dsimp only at hSw);go_simp <;> with_reducible rfl)
     try simp only [Act.put,zD,zE,zF]
     refine tk (i:=14) (v:=?_) rfl (Or.inl ⟨by kernel_rfl,?_⟩) hHeld1 ?_
     rotate_left
     · (intro w hSw;(try dsimp only at hSw);go_simp <;> with_reducible rfl)
     try simp only [Act.put,zD,zE,zF]
     refine tk (i:=15) (v:=?_) rfl (Or.inl ⟨by kernel_rfl,?_⟩) hHeld1 ?_
     rotate_left
     · (intro w hSw;(try dsimp only at hSw);go_simp <;> with_reducible rfl)
     try simp only [Act.put,zD,zE,zF]
     refine tk (i:=16) (v:=?_) rfl (Or.inl ⟨by kernel_rfl,?_⟩) hHeld1 ?_
     rotate_left
     · (intro w hSw;(try dsimp only at hSw);go_simp <;> with_reducible rfl)
     try simp only [Act.put,zD,zE,zF]
     refine tk (i:=17) (v:=?_) rfl (Or.inl ⟨by kernel_rfl,?_⟩) hHeld1 ?_
     rotate_left
     · (intro w hSw;(try dsimp only at hSw);go_simp <;> with_reducible rfl)
     try simp only [Act.put,zA,zB,zC,zD,zE,zF]
     try simp only [Act.put,zA,zB,zC,zD,zE,zF]
     refine tk (i:=18) (v:=?_) rfl (Or.inl ⟨by rfl,?_⟩) hHeld1 ?_
     rotate_left
     · (intro w hSw;(try dsimp only at hSw);go_simp <;> with_reducible rfl)
     try simp only [Act.put,zA,zB,zC,zD,zE,zF]
     refine tk (i:=19) (v:=?_) rfl (Or.inl ⟨by rfl,?_⟩) hHeld1 ?_
     rotate_left
     · (intro w hSw;(try dsimp only at hSw);go_simp <;> with_reducible rfl)
     try simp only [Act.put,zA,zB,zC,zD,zE,zF]
     refine wpAnyH_done (by kernel_rfl) ?_ _
     refine NoPanic.normal (HK0.out _ _ ?_)
     go_wp2_with fail
     go_ret
     exact ⟨by first | (rw [HRI.out,HBD.out];rfl) | (rw [HBD.out];rfl),HB.out _ hb9⟩
end Go.Proofs.YtkgflepgkhnclaaGreatDoor
namespace Go.Proofs.YtkgflepgkhnclaaGreatDoor
set_option linter.unusedVariables false
set_option linter.unusedSimpArgs false
open Go.RowKit Go.Shelf
variable {Xa Xb Xc Xd Xe Xf Xg Xh Xi Xj Xk Xl Xm Xn Xo Xp Xq Xr Xs Xt Xu Xv Xw Xx Xy Xz Ya Yb Yc Yd Ye Yf Yg Yh Yi Yj Yk Yl Ym Yn Yo Yp Yq Yr Ys Yt Yu Yv Yw Yx Yy Yz Za Zb Zc Zd Ze Zf Zg Zh Zi Zj Zk Zl Zm Zn Zo Zp Zq Zr Zs Zt Zu Zv Zw Zx Zy Zz Ja Jb Jc Jd Je Jf Jg Jh Ji Jj Jk Jl Jm Jn Jo Jp Jq Jr Js Jt Ju Jv Jw Jy Jz Va Vb Vc Vd Ve Vf Vg Vh Vi Vj Vk Vl Vm Vn Vo Vp Vq Vr Vs Vt Vu Vv Vw Vx Vy Vz Oa Ob Oc Od Oe Og Oh Oi Oj Ok Ol Om On Oo Oq Ot Ou Ov Ox Oy Oz Ha Hb Hc He Hf Hg Hh Hi Hj Hk Hl Hm Hn Ho Hp Hq Hr Hs Ht Hu Hv Hw Hx Hy Hz Ia Ib Ic Id Ie If Ig Ih Ii Ij Ik Il Im In Io Ip Iq Ir It Iu Iv Iw Ix Iy Iz Ua Ub Uc Ud Ue Uf Ug Uh Ui Uj Uk Ul:Value}
def MapI (w:World) (b:Nat) (f:Int→Option Int):Prop:=∃ kvs,IntMap .i64 w b kvs∧∀ n,hasKey n kvs=(f n).isSome∧look (.int .i64 0) n kvs=.int .i64 ((f n).getD 0)
def MapB (w:World) (b:Nat) (f:Int→Bool):Prop:=∃ kvs,IntMap .i64 w b kvs∧∀ n,look (.bool false) n kvs=.bool (f n)
def updI (f:Int→Option Int) (n v:Int):Int→Option Int:=fun m=>if m=n then some v else f m
def updB (f:Int→Bool) (n:Int):Int→Bool:=fun m=>decide (m=n) || f m
section
variable {w w':World} {b:Nat}
theorem MapI.lt {f:Int→Option Int} (h:MapI w b f):b < w.heap.size:=h.choose_spec.1.lt
theorem MapB.lt {f:Int→Bool} (h:MapB w b f):b < w.heap.size:=h.choose_spec.1.lt
theorem MapI.on {f:Int→Option Int} (h:MapI w b f) (hb:w'.heap[b]?=w.heap[b]?):MapI w' b f:=by
 obtain ⟨kvs,⟨es,ck,h1,h2⟩,h3⟩:=h
 exact ⟨kvs,⟨es,ck,hb.trans h1,h2⟩,h3⟩
theorem MapB.on {f:Int→Bool} (h:MapB w b f) (hb:w'.heap[b]?=w.heap[b]?):MapB w' b f:=by
 obtain ⟨kvs,⟨es,ck,h1,h2⟩,h3⟩:=h
 exact ⟨kvs,⟨es,ck,hb.trans h1,h2⟩,h3⟩
theorem MapI.below {f:Int→Option Int} (h:MapI w b f) (hb:Below w.heap.size w w'):MapI w' b f:=h.on (hb.block b h.lt)
theorem MapB.below {f:Int→Bool} (h:MapB w b f) (hb:Below w.heap.size w w'):MapB w' b f:=h.on (hb.block b h.lt)
theorem MapI.made (w:World):MapI (w.alloc (.map #[] 0)) w.heap.size (fun _=>none):=⟨[],IntMap.made .i64 w,fun n=>⟨rfl,rfl⟩⟩
theorem MapB.made (w:World):MapB (w.alloc (.map #[] 0)) w.heap.size (fun _=>false):=⟨[],IntMap.made .i64 w,fun n=>rfl⟩
theorem MapI.get {f:Int→Option Int} (h:MapI w b f) (n:Int):(Instr.lookup 166 (.map (some b)) (.int .i64 n) true).run Tryz.prog w=.ok (.tuple #[.int .i64 ((f n).getD 0),.bool (f n).isSome]) w:=by
 obtain ⟨kvs,h1,h2⟩:=h
 have:=run_lookup_intmap (P:=Tryz.prog) (n:=n) h1 Tryz.underlying166 Tryz.underlying3 rfl (Tryz.zeroValue3 w) true
 rw [(h2 n).1,(h2 n).2] at this
 simpa using this
theorem MapB.get {f:Int→Bool} (h:MapB w b f) (n:Int):(Instr.lookup 168 (.map (some b)) (.int .i64 n) false).run Tryz.prog w=.ok (.bool (f n)) w:=by
 obtain ⟨kvs,h1,h2⟩:=h
 have:=run_lookup_intmap (P:=Tryz.prog) (n:=n) h1 Tryz.underlying168 Tryz.underlying3 rfl (Tryz.zeroValue4 w) false
 rw [h2 n] at this
 simpa using this
theorem wpList_updI {ops:Array Oper} {rest:List Oper} {o:Oper} {a:Act} {Q:Exit→Act→World→Prop} {f:Int→Option Int} (hg:o.guard=none) (m x v:Operand) (hop:o.op=Op.mapUpdate 166 m x v)
 (h:MapI w b f) (hm:a.eval m=.map (some b)) (n y:Int) (hx:a.eval x=.int .i64 n) (hv:a.eval v=.int .i64 y)
 (hK:∀ w',MapI w' b (updI f n y)→w.grownBy w' (some b)→wpList Tryz.prog ops Q rest (a.put o.dst undef) w'):wpList Tryz.prog ops Q (o :: rest) a w:=by
 obtain ⟨kvs,h1,h2⟩:=h
 refine wpList_update_intmap hg m x v _ hop _ _ .i64 .i64 Tryz.underlying166 Tryz.underlying3 rfl b kvs hm h1 n hx _ hv fun w' h3 h4=>hK w' ⟨_,h3,fun k=>?_⟩ h4
 rw [hasKey_putI,look_putI]
 unfold updI
 by_cases e:k=n
 · simp [e]
 · simp only [e,if_false,decide_false,Bool.false_or]
   exact h2 k
theorem wp_updB {op:Oper} {a:Act} {K:Act→World→Prop} {Q:Exit→Act→World→Prop} {f:Int→Bool} (m x v:Operand) (hop:op.op=Op.mapUpdate 168 m x v)
 (h:MapB w b f) (hm:a.eval m=.map (some b)) (n:Int) (hx:a.eval x=.int .i64 n) (hv:a.eval v=.bool true)
 (hK:∀ w',MapB w' b (updB f n)→w.grownBy w' (some b)→K (a.put op.dst undef) w'):op.wp Tryz.prog a w K Q:=by
 obtain ⟨kvs,h1,h2⟩:=h
 obtain ⟨w',hrun,r1,r2⟩:=update_intmap (P:=Tryz.prog) (n:=n) (v:=.bool true) h1 Tryz.underlying168 Tryz.underlying3 rfl
 unfold Oper.wp
 simp [execOp,hop,hm,hx,hv,Result.andThen]
 rw [hrun]
 refine hK w' ⟨_,r1,fun k=>?_⟩ r2
 rw [look_putI]
 unfold updB
 by_cases e:k=n
 · simp [e]
 · simp only [e,if_false,decide_false,Bool.false_or]
   exact h2 k
end
def toF:List Dn→Int→Option Int
 | [],_=>none
 | d :: r,n=>if d.e=n then some d.t else toF r n
theorem toF_snoc (l:List Dn) (d:Dn):toF (l ++ [d])=if (toF l d.e).isSome then toF l else updI (toF l) d.e d.t:=by
 funext n
 induction l with
 | nil=>simp [toF,updI,eq_comm]
 | cons x r ih =>
   rw [List.cons_append,toF,ih]
   by_cases h1:x.e=n
   · rw [if_pos h1]
     by_cases h2:(toF (x :: r) d.e).isSome=true
     · rw [if_pos h2,toF,if_pos h1]
     · rw [if_neg h2]
       have h3:¬ x.e=d.e:=fun e=>h2 (by rw [toF,if_pos e];rfl)
       unfold updI
       rw [if_neg (fun e=>h3 (h1.trans e)),toF,if_pos h1]
   · rw [if_neg h1]
     by_cases h3:x.e=d.e
     · rw [if_pos (show (toF (x :: r) d.e).isSome=true by rw [toF,if_pos h3];rfl),toF,if_neg h1]
       split
       · rfl
       · unfold updI
         rw [if_neg (fun e=>h1 (h3.trans e.symm))]
     · have h4:toF (x :: r) d.e=toF r d.e:=by rw [toF,if_neg h3]
       rw [h4]
       split
       · rw [toF,if_neg h1]
       · unfold updI
         rw [toF,if_neg h1]
def badD (pk:Int→Bool) (x:Dn):Bool:=decide (x.f < 0) || (decide (x.f > x.a) || (decide (x.a > x.t) || (pk x.f || (pk x.a || pk x.t))))
def lateD (tf:Int→Option Int) (k f:Int):Bool:=decide (0 ≤ k) && (!(tf k).isSome || decide ((tf k).getD 0 ≥ f))
def chkN (es:List Ent) (tf:Int→Option Int):List Dn→Nat→(Int→Bool)→(Int→Bool)→Nat × Int
 | [],i,_,_=>(i,0)
 | x :: r,i,sn,pk =>
   if x.e < 0 ∨ x.e ≥ es.length then (i,6)
   else if sn x.e then (i,8)
   else if badD pk x then (i,4)
   else if lateD tf (match es[x.e.toNat]? with | some y=>befN es y.ses x.e.toNat | none=>-1) x.f then (i,15)
   else chkN es tf r (i + 1) (updB sn x.e) (updB (updB (updB pk x.f) x.a) x.t)
def checkN (es:List Ent) (ds:List Dn):Nat × Int:=chkN es (toF ds) ds 0 (fun _=>false) (fun _=>false)
theorem dn_cells {W:World} {g:Nat} {t:TypeId} {x:Dn} (h:Blk W g t x.row.toArray):W.cell? ⟨g,0,none⟩=some (.int .i64 x.e)∧W.cell? ⟨g,1,none⟩=some (.int .i64 x.f)∧W.cell? ⟨g,2,none⟩=some (.int .i64 x.a)∧W.cell? ⟨g,3,none⟩=some (.int .i64 x.t):=⟨h.cell 0,h.cell 1,h.cell 2,h.cell 3⟩
theorem mapB_ne {W:World} {b g:Nat} {f:Int→Bool} {t:TypeId} {cs:Array Value} (h:MapB W b f) (hb:Blk W g t cs):g ≠ b:=by
 rintro rfl
 obtain ⟨_,⟨es,ck,h1,_⟩,_⟩:=h
 unfold Blk at hb
 rw [hb] at h1
 injection h1 with h1
 cases h1
theorem mapB_notU8 {W:World} {b:Nat} {f:Int→Bool} (h:MapB W b f):¬ U8 W b:=by
 obtain ⟨_,⟨es,ck,h1,_⟩,_⟩:=h
 exact not_U8_map h1
set_option maxHeartbeats 3200000 in
set_option maxRecDepth 100000 in
theorem chk_maps {W:World} {gs gp gx:Nat} {sn pk:Int→Bool} {x:Dn} {Q:Exit→Act→World→Prop} (hms:MapB W gs sn) (hmp:MapB W gp pk) (hsp:gs ≠ gp) (hb:Blk W gx 90 x.row.toArray)
 (hQ:∀ (s104 s105 s106 s107 s108 s109 s110 s111 s112 s113 s114 s115:Value) (W':World),MapB W' gs (updB sn x.e)→MapB W' gp (updB (updB (updB pk x.f) x.a) x.t)→KeepC (fun i=>i=gs ∨ i=gp) W W'→Q .normal ⟨#[Xa,Xb,Xc,Xd,Xe,Xf,Xg,Xh,Xi,Xj,Xk,.map (some gs),.map (some gp),Xn,.pointer (some ⟨gx,0,none⟩),Xp,Xq,Xr,Xs,Xt,Xu,Xv,Xw,Xx,Xy,Xz,Ya,Yb,Yc,Yd,Ye,Yf,Yg,Yh,Yi,Yj,Yk,Yl,Ym,Yn,Yo,Yp,Yq,Yr,Ys,Yt,Yu,Yv,Yw,Yx,Yy,Yz,Za,Zb,Zc,Zd,Ze,Zf,Zg,Zh,Zi,Zj,Zk,Zl,Zm,Zn,Zo,Zp,Zq,Zr,Zs,Zt,Zu,Zv,Zw,Zx,Zy,Zz,Ja,Jb,Jc,Jd,Je,Jf,Jg,Jh,Ji,Jj,Jk,Jl,Jm,Jn,Jo,Jp,Jq,Jr,Js,Jt,Ju,Jv,Jw,Jy,Jz,Va,s104,s105,s106,s107,s108,s109,s110,s111,s112,s113,s114,s115,Vn,Vo,Vp,Vq,Vr,Vs,Vt,Vu,Vv,Vw,Vx,Vy,Vz,Oa,Ob,Oc,Od,Oe,Og,Oh,Oi,Oj,Ok,Ol],[]⟩ W') :
 Code.wp Tryz.prog (part Tryz.f52 [1,1,1,1,0,1,2,2,1,1,0,2,1,1,0]) Q ⟨#[Xa,Xb,Xc,Xd,Xe,Xf,Xg,Xh,Xi,Xj,Xk,.map (some gs),.map (some gp),Xn,.pointer (some ⟨gx,0,none⟩),Xp,Xq,Xr,Xs,Xt,Xu,Xv,Xw,Xx,Xy,Xz,Ya,Yb,Yc,Yd,Ye,Yf,Yg,Yh,Yi,Yj,Yk,Yl,Ym,Yn,Yo,Yp,Yq,Yr,Ys,Yt,Yu,Yv,Yw,Yx,Yy,Yz,Za,Zb,Zc,Zd,Ze,Zf,Zg,Zh,Zi,Zj,Zk,Zl,Zm,Zn,Zo,Zp,Zq,Zr,Zs,Zt,Zu,Zv,Zw,Zx,Zy,Zz,Ja,Jb,Jc,Jd,Je,Jf,Jg,Jh,Ji,Jj,Jk,Jl,Jm,Jn,Jo,Jp,Jq,Jr,Js,Jt,Ju,Jv,Jw,Jy,Jz,Va,Vb,Vc,Vd,Ve,Vf,Vg,Vh,Vi,Vj,Vk,Vl,Vm,Vn,Vo,Vp,Vq,Vr,Vs,Vt,Vu,Vv,Vw,Vx,Vy,Vz,Oa,Ob,Oc,Od,Oe,Og,Oh,Oi,Oj,Ok,Ol],[]⟩ W:=by
 conv=>arg 2;whnf
 have HQ:=Lib.hid hQ
 have hxs:=mapB_ne hms hb
 have hxp:=mapB_ne hmp hb
 have hnp:∀ (c:List Halt),True:=fun _=>trivial
 have hS:W.drew.cell? ⟨gx,0,none⟩=some (.int .i64 x.e)∧W.drew.cell? ⟨gx,1,none⟩=some (.int .i64 x.f)∧W.drew.cell? ⟨gx,2,none⟩=some (.int .i64 x.a)∧W.drew.cell? ⟨gx,3,none⟩=some (.int .i64 x.t):=dn_cells hb
 have hB0:Blk W.drew gx 90 x.row.toArray:=hb
 have hk0:=(KeepC.refl (fun i=>i=gs ∨ i=gp) W).drew
 replace hms:MapB W.drew gs sn:=hms
 replace hmp:MapB W.drew gp pk:=hmp
 clear hQ hb
 refine wp_region_noPanic ?_
 refine wp_region_held_drew (S:=(fun V:World=>V.cell? ⟨gx,0,none⟩=some (.int .i64 x.e)∧V.cell? ⟨gx,1,none⟩=some (.int .i64 x.f)∧V.cell? ⟨gx,2,none⟩=some (.int .i64 x.a)∧V.cell? ⟨gx,3,none⟩=some (.int .i64 x.t))) (by kernel_rfl) ?_ (fun hHeld0=>?_)
 · exact hS
 refine tk (i:=0) (v:=?_) rfl (Or.inl ⟨by rfl,?_⟩) hHeld0 ?_
 rotate_left
 · (intro w hSw;(try dsimp only at hSw);go_simp <;> with_reducible rfl)
 try simp only [Act.put,zD,zE,zF]
 refine tk (i:=1) (v:=?_) rfl (Or.inl ⟨by rfl,?_⟩) hHeld0 ?_
 rotate_left
 · (intro w hSw;(try dsimp only at hSw);go_simp <;> with_reducible rfl)
 try simp only [Act.put,zD,zE,zF]
 refine tk (i:=2) (v:=?_) rfl (Or.inl ⟨by rfl,?_⟩) hHeld0 ?_
 rotate_left
 · (intro w hSw;(try dsimp only at hSw);go_simp <;> with_reducible rfl)
 try simp only [Act.put,zD,zE,zF]
 refine tk (i:=3) (v:=?_) rfl (Or.inl ⟨by rfl,?_⟩) hHeld0 ?_
 rotate_left
 · (intro w hSw;(try dsimp only at hSw);go_simp <;> with_reducible rfl)
 try simp only [Act.put,zD,zE,zF]
 refine tk (i:=4) (v:=?_) rfl (Or.inl ⟨by rfl,?_⟩) hHeld0 ?_
 rotate_left
 · (intro w hSw;(try dsimp only at hSw);go_simp <;> with_reducible rfl)
 try simp only [Act.put,zD,zE,zF]
 refine tk (i:=5) (v:=?_) rfl (Or.inl ⟨by rfl,?_⟩) hHeld0 ?_
 rotate_left
 · (intro w hSw;(try dsimp only at hSw);go_simp <;> with_reducible rfl)
 try simp only [Act.put,zD,zE,zF]
 refine tk (i:=6) (v:=?_) rfl (Or.inl ⟨by rfl,?_⟩) hHeld0 ?_
 rotate_left
 · (intro w hSw;(try dsimp only at hSw);go_simp <;> with_reducible rfl)
 try simp only [Act.put,zD,zE,zF]
 refine tk (i:=7) (v:=?_) rfl (Or.inl ⟨by rfl,?_⟩) hHeld0 ?_
 rotate_left
 · (intro w hSw;(try dsimp only at hSw);go_simp <;> with_reducible rfl)
 try simp only [Act.put,zD,zE,zF]
 refine tk (i:=8) (v:=?_) rfl (Or.inl ⟨by rfl,?_⟩) hHeld0 ?_
 rotate_left
 · (intro w hSw;(try dsimp only at hSw);go_simp <;> with_reducible rfl)
 try simp only [Act.put,zD,zE,zF]
 refine tk (i:=9) (v:=?_) rfl (Or.inl ⟨by rfl,?_⟩) hHeld0 ?_
 rotate_left
 · (intro w hSw;(try dsimp only at hSw);go_simp <;> with_reducible rfl)
 try simp only [Act.put,zD,zE,zF]
 refine tk (i:=10) (v:=?_) rfl (Or.inl ⟨by rfl,?_⟩) hHeld0 ?_
 rotate_left
 · (intro w hSw;(try dsimp only at hSw);go_simp <;> with_reducible rfl)
 try simp only [Act.put,zD,zE,zF]
 refine tk (i:=11) (v:=?_) rfl (Or.inl ⟨by rfl,?_⟩) hHeld0 ?_
 rotate_left
 · (intro w hSw;(try dsimp only at hSw);go_simp <;> with_reducible rfl)
 try simp only [Act.put,zA,zB,zC,zD,zE,zF]
 refine wpAnyH_ready (rs:=[12]) (by kernel_rfl) (by simp) ?_
 refine AllReadyH.cons rfl (fun K hK=>?_) AllReadyH.nil
 refine wp_updB (.tmp 104) (.tmp 106) (.const (.bool true)) rfl hms rfl _ rfl rfl ?_
 intro V1 hm1 hg1
 have hB1:Blk V1 gx 90 x.row.toArray:=hB0.grown hg1 (by intro e;injection e with e;exact hxs e)
 refine hK.out _ _ ?_ (fun hHeld1=>?_)
 · exact dn_cells hB1
 clear hK K hHeld0
 try simp only [Act.put,zD,zE,zF]
 have hp1:=hmp.on (hg1.block gp hmp.lt (fun e=>hsp (Option.some.inj e).symm))
 try simp only [Act.put,zA,zB,zC,zD,zE,zF]
 refine wpAnyH_ready (rs:=[13]) (by kernel_rfl) (by simp) ?_
 refine AllReadyH.cons rfl (fun K hK=>?_) AllReadyH.nil
 refine wp_updB (.tmp 107) (.tmp 109) (.const (.bool true)) rfl hp1 rfl _ rfl rfl ?_
 intro V2 hm2 hg2
 have hB2:Blk V2 gx 90 x.row.toArray:=hB1.grown hg2 (by intro e;injection e with e;exact hxp e)
 refine hK.out _ _ ?_ (fun hHeld2=>?_)
 · exact dn_cells hB2
 clear hK K hHeld1
 try simp only [Act.put,zA,zB,zC,zD,zE,zF]
 refine wpAnyH_ready (rs:=[14]) (by kernel_rfl) (by simp) ?_
 refine AllReadyH.cons rfl (fun K hK=>?_) AllReadyH.nil
 refine wp_updB (.tmp 110) (.tmp 112) (.const (.bool true)) rfl hm2 rfl _ rfl rfl ?_
 intro V3 hm3 hg3
 have hB3:Blk V3 gx 90 x.row.toArray:=hB2.grown hg3 (by intro e;injection e with e;exact hxp e)
 refine hK.out _ _ ?_ (fun hHeld3=>?_)
 · exact dn_cells hB3
 clear hK K hHeld2
 try simp only [Act.put,zA,zB,zC,zD,zE,zF]
 refine wpAnyH_ready (rs:=[15]) (by kernel_rfl) (by simp) ?_
 refine AllReadyH.cons rfl (fun K hK=>?_) AllReadyH.nil
 refine wp_updB (.tmp 113) (.tmp 115) (.const (.bool true)) rfl hm3 rfl _ rfl rfl ?_
 intro V4 hm4 hg4
 have hB4:Blk V4 gx 90 x.row.toArray:=hB3.grown hg4 (by intro e;injection e with e;exact hxp e)
 refine hK.out _ _ ?_ (fun hHeld4=>?_)
 · exact dn_cells hB4
 clear hK K hHeld3
 try simp only [Act.put,zA,zB,zC,zD,zE,zF]
 refine wpAnyH_done (by kernel_rfl) ?_ _
 have k1:=hk0.grown hg1 (fun b e=>by injection e with e;subst e;exact ⟨fun _=>.inl rfl,mapB_notU8 hms⟩)
 have k2:=k1.grown hg2 (fun b e=>by injection e with e;subst e;exact ⟨fun _=>.inr rfl,mapB_notU8 hp1⟩)
 have k3:=k2.grown hg3 (fun b e=>by injection e with e;subst e;exact ⟨fun _=>.inr rfl,mapB_notU8 hm2⟩)
 have k4:=k3.grown hg4 (fun b e=>by injection e with e;subst e;exact ⟨fun _=>.inr rfl,mapB_notU8 hm3⟩)
 have hs2:=hm1.on (hg2.block gs hm1.lt (fun e=>hsp (Option.some.inj e)))
 have hs3:=hs2.on (hg3.block gs hs2.lt (fun e=>hsp (Option.some.inj e)))
 have hs4:=hs3.on (hg4.block gs hs3.lt (fun e=>hsp (Option.some.inj e)))
 exact NoPanic.normal (HQ.out _ _ _ _ _ _ _ _ _ _ _ _ _ hs4 hm4 k4)
end Go.Proofs.YtkgflepgkhnclaaGreatDoor
namespace Go.Proofs.YtkgflepgkhnclaaGreatDoor
set_option linter.unusedVariables false
set_option linter.unusedSimpArgs false
open Go.RowKit Go.Shelf
attribute [local go_sem] run_store_complex
variable {Xa Xb Xc Xd Xe Xf Xg Xh Xi Xj Xk Xl Xm Xn Xo Xp Xq Xr Xs Xt Xu Xv Xw Xx Xy Xz Ya Yb Yc Yd Ye Yf Yg Yh Yi Yj Yk Yl Ym Yn Yo Yp Yq Yr Ys Yt Yu Yv Yw Yx Yy Yz Za Zb Zc Zd Ze Zf Zg Zh Zi Zj Zk Zl Zm Zn Zo Zp Zq Zr Zs Zt Zu Zv Zw Zx Zy Zz Ja Jb Jc Jd Je Jf Jg Jh Ji Jj Jk Jl Jm Jn Jo Jp Jq Jr Js Jt Ju Jv Jw Jy Jz Va Vb Vc Vd Ve Vf Vg Vh Vi Vj Vk Vl Vm Vn Vo Vp Vq Vr Vs Vt Vu Vv Vw Vx Vy Vz Oa Ob Oc Od Oe Og Oh Oi Oj Ok Ol Om On Oo Oq Ot Ou Ov Ox Oy Oz Ha Hb Hc He Hf Hg Hh Hi Hj Hk Hl Hm Hn Ho Hp Hq Hr Hs Ht Hu Hv Hw Hx Hy Hz Ia Ib Ic Id Ie If Ig Ih Ii Ij Ik Il Im In Io Ip Iq Ir It Iu Iv Iw Ix Iy Iz Ua Ub Uc Ud Ue Uf Ug Uh Ui Uj Uk Ul:Value}
theorem infoDn:(Tryz.prog.info? 90).map (·.size)=some 21:=by kernel_rfl
def DsAt (w:World) (D:Option Addr) (ds:List Dn):Prop:=0 < ds.length→∃ g o,D=some ⟨g,o,none⟩∧g < w.heap.size∧w.rangeAt g o (ds.flatMap Dn.row)
theorem DsAt.at_ {w:World} {D:Option Addr} {ds:List Dn} (h:DsAt w D ds) {k:Nat} (hk:k < ds.length):∃ g o,D=some ⟨g,o,none⟩∧g < w.heap.size∧w.rangeAt g (o + k * 21) ds[k].row:=by
 obtain ⟨g,o,h1,h2,h3⟩:=h (by omega)
 refine ⟨g,o,h1,h2,fun j v hv=>?_⟩
 have hj:j < 21:=by
  have:=(List.getElem?_eq_some_iff.1 hv).1
  rwa [Dn.row_len] at this
 rw [show o + k * 21 + j=o + (k * 21 + j) by omega]
 exact h3 _ _ (by rw [flat_at Dn.row_len ds k j hk hj];exact hv)
theorem DsAt.below {w w':World} {D:Option Addr} {ds:List Dn} (h:DsAt w D ds) (hb:Below w.heap.size w w'):DsAt w' D ds:=fun h0=>by
 obtain ⟨g,o,h1,h2,h3⟩:=h h0
 exact ⟨g,o,h1,Nat.lt_of_lt_of_le h2 hb.size,fun j v hv=>(hb.cell (p:=⟨g,o + j,none⟩) h2).trans (h3 j v hv)⟩
def C1 (w:World) (gm:Nat) (f:Int→Option Int) (W:World):Prop:=MapI W gm f∧w.heap.size ≤ gm∧Below w.heap.size w W
set_option maxHeartbeats 3200000 in
set_option maxRecDepth 100000 in
theorem chk_first {w W:World} {D:Option Addr} {ds:List Dn} {c2 gm:Nat} {Q:Exit→Act→World→Prop} (hD:DsAt w D ds) (hl:ds.length ≤ 9223372036854775806) (h1:C1 w gm (fun _=>none) W)
 (hQ:∀ (s8 s9 s10 s19 s20 s21 s22 s23 s24 s25 s26 s27 s28 s29 s30 s31 s32 s33 s34 s35 s36 s37 s38 s39:Value) (W':World),C1 w gm (toF ds) W'→Q .normal ⟨#[Xa,.slice D ds.length c2,Xc,Xd,Xe,Xf,.map (some gm),Xh,s8,s9,s10,Xl,Xm,Xn,Xo,Xp,Xq,Xr,Xs,s19,s20,s21,s22,s23,s24,s25,s26,s27,s28,s29,s30,s31,s32,s33,s34,s35,s36,s37,s38,s39,Yo,Yp,Yq,Yr,Ys,Yt,Yu,Yv,Yw,Yx,Yy,Yz,Za,Zb,Zc,Zd,Ze,Zf,Zg,Zh,Zi,Zj,Zk,Zl,Zm,Zn,Zo,Zp,Zq,Zr,Zs,Zt,Zu,Zv,Zw,Zx,Zy,Zz,Ja,Jb,Jc,Jd,Je,Jf,Jg,Jh,Ji,Jj,Jk,Jl,Jm,Jn,Jo,Jp,Jq,Jr,Js,Jt,Ju,Jv,Jw,Jy,Jz,Va,Vb,Vc,Vd,Ve,Vf,Vg,Vh,Vi,Vj,Vk,Vl,Vm,Vn,Vo,Vp,Vq,Vr,Vs,Vt,Vu,Vv,Vw,Vx,Vy,Vz,Oa,Ob,Oc,Od,Oe,Og,Oh,Oi,Oj,Ok,Ol],[]⟩ W') :
 Code.wp Tryz.prog (part Tryz.f52 [1,1,0]) Q ⟨#[Xa,.slice D ds.length c2,Xc,Xd,Xe,Xf,.map (some gm),Xh,Xi,Xj,Xk,Xl,Xm,Xn,Xo,Xp,Xq,Xr,Xs,Xt,Xu,Xv,Xw,Xx,Xy,Xz,Ya,Yb,Yc,Yd,Ye,Yf,Yg,Yh,Yi,Yj,Yk,Yl,Ym,Yn,Yo,Yp,Yq,Yr,Ys,Yt,Yu,Yv,Yw,Yx,Yy,Yz,Za,Zb,Zc,Zd,Ze,Zf,Zg,Zh,Zi,Zj,Zk,Zl,Zm,Zn,Zo,Zp,Zq,Zr,Zs,Zt,Zu,Zv,Zw,Zx,Zy,Zz,Ja,Jb,Jc,Jd,Je,Jf,Jg,Jh,Ji,Jj,Jk,Jl,Jm,Jn,Jo,Jp,Jq,Jr,Js,Jt,Ju,Jv,Jw,Jy,Jz,Va,Vb,Vc,Vd,Ve,Vf,Vg,Vh,Vi,Vj,Vk,Vl,Vm,Vn,Vo,Vp,Vq,Vr,Vs,Vt,Vu,Vv,Vw,Vx,Vy,Vz,Oa,Ob,Oc,Od,Oe,Og,Oh,Oi,Oj,Ok,Ol],[]⟩ W:=by
 conv=>arg 2;whnf
 have HQ:=Lib.hid hQ
 have HD:=Lib.hid hD
 have H1:=Lib.hid h1
 have hli:(ds.length:Int) ≤ 9223372036854775806:=by omega
 clear hQ hD h1
 go_wp2
 go_loopw [21] (fun i wr=>∃ k:Nat,k ≤ ds.length∧i=.int .i64 k∧Hid (C1 w gm (toF (ds.take k)) wr)) (fun i _=>ds.length - (intOf i).toNat)
 case atStart=>exact ⟨0,Nat.zero_le _,rfl,H1⟩
 case round =>
  obtain ⟨k,hk,rfl,HW⟩:=hrel
  by_cases hlt:k < ds.length
  · obtain ⟨g,o,rfl,hgl,hrng⟩:=(HD.out.below HW.out.2.2).at_ hlt
    have htk:toF (ds.take (k + 1))=_:=(congrArg toF (List.take_succ_eq_append_getElem hlt)).trans (toF_snoc (ds.take k) ds[k])
    generalize ds[k]=x at hrng htk
    have hrow1:x.row.toArray.all (·.oneCell')=true:=all_oneCell_toArray (dn_one x)
    have hst:=stored_new (w:=wr) (t:=90) (lit:=#[.int .i64 0,.int .i64 0,.int .i64 0,.int .i64 0,.int .i64 0,.string ⟨#[]⟩,.slice none 0 0,.int .i64 0,.int .u32 0,.int .u8 0,.int .u64 0,.int .u64 0,.int .u64 0,.int .u64 0,.int .u64 0,.int .u64 0,.int .u64 0,.int .u64 0,.int .u64 0,.int .u64 0,.complex .f64 0 0]) (cells:=x.row.toArray) rfl
    obtain ⟨l,hlr⟩:∃ l,x.row=l:=⟨_,rfl⟩
    have hll:l.length=21:=by rw [← hlr];rfl
    have hsz:l.toArray.size=21:=by rw [List.size_toArray];exact hll
    rw [hlr] at hrng hrow1 hst
    have HL:=Lib.hid hlr
    have HT:=Lib.hid htk
    have i1:(0:Int) ≤ (k:Int):=by omega
    have i2:(k:Int) < (ds.length:Int):=by omega
    have hX0:=And.intro hst.1 (show C1 w gm (toF (ds.take k)) _ from ⟨HW.out.1.below hst.2,HW.out.2.1,below_trans HW.out.2.2 hst.2⟩)
    rw [show l.toArray.toList=l from rfl] at hX0
    have HX1:=Lib.hid hX0
    clear htk hgl hst hlr hX0
    go_upto_region 5 with (first
        | (refine wpList_load_mid rfl 90 (.tmp 23) rfl g (o + k * 21) rfl _ _ hrng Tryz.underlying90 rfl (by rw [hll];exact infoDn) ?_)
        | (refine wpList_store_mid rfl 90 (.tmp 8) (.tmp 24) rfl wr.heap.size 0 l.toArray rfl rfl (by rw [hsz];exact there_blk (Blk.new wr 90 #[.int .i64 0,.int .i64 0,.int .i64 0,.int .i64 0,.int .i64 0,.string ⟨#[]⟩,.slice none 0 0,.int .i64 0,.int .u32 0,.int .u8 0,.int .u64 0,.int .u64 0,.int .u64 0,.int .u64 0,.int .u64 0,.int .u64 0,.int .u64 0,.int .u64 0,.int .u64 0,.int .u64 0,.complex .f64 0 0]) (Nat.le_refl 21)) (by rw [hsz];exact infoDn) hrow1 ?_))
    clear hrng
    generalize (wr.alloc (.cells #[.int .i64 0,.int .i64 0,.int .i64 0,.int .i64 0,.int .i64 0,.string ⟨#[]⟩,.slice none 0 0,.int .i64 0,.int .u32 0,.int .u8 0,.int .u64 0,.int .u64 0,.int .u64 0,.int .u64 0,.int .u64 0,.int .u64 0,.int .u64 0,.int .u64 0,.int .u64 0,.int .u64 0,.complex .f64 0 0] 90)).setCells wr.heap.size 0 l=W0 at HX1 ⊢
    have HX:Hid (Blk W0 wr.heap.size 90 x.row.toArray∧C1 w gm (toF (ds.take k)) W0):=Lib.hid (by rw [HL.out];exact HX1.out)
    clear HX1
    obtain ⟨c0,c1,c2',c3⟩:=dn_cells HX.out.1
    have hlk:=HX.out.2.1.get x.e
    have hgl:=HX.out.2.1.lt
    obtain ⟨f,hf⟩:∃ f,toF (ds.take k)=f:=⟨_,rfl⟩
    rw [hf] at hlk
    have HF:=Lib.hid hf
    clear hf
    cases hq:f x.e with
    | some v =>
      rw [hq] at hlk
      simp only [Option.isSome_some] at hlk
      have HQ2:=Lib.hid hq
      clear hq
      go_wp2_with (refine wpList_lookup_run rfl _ _ 166 true rfl _ _ _ rfl rfl hlk ?_)
      go_roundw
      case rel =>
       refine ⟨k + 1,by omega,by go_num,Lib.hid ?_⟩
       rw [HT.out,HF.out,HQ2.out]
       have:=HX.out.2
       rw [HF.out] at this
       exact this
      case measure=>simp [intOf];omega
    | none =>
      rw [hq] at hlk
      simp only [Option.isSome_none] at hlk
      have HQ2:=Lib.hid hq
      clear hq
      go_wp2_with (first
       | (refine wpList_lookup_run rfl _ _ 166 true rfl _ _ _ rfl rfl hlk ?_)
       | (refine wpList_updI rfl _ _ _ rfl HX.out.2.1 rfl _ _ rfl rfl ?_;intro W1 hm1 hg1))
      have hb1:Below w.heap.size w W1:=⟨hg1.os.trans HX.out.2.2.2.os,hg1.tape.trans HX.out.2.2.2.tape,hg1.output.trans HX.out.2.2.2.output,Nat.le_trans HX.out.2.2.2.size hg1.size,fun i hi=>by
       rw [hg1.block i (Nat.lt_of_lt_of_le hi HX.out.2.2.2.size) (fun e=>by have:=HX.out.2.2.1;have:=Option.some.inj e;omega),HX.out.2.2.2.block i hi]⟩
      go_roundw
      case rel =>
       refine ⟨k + 1,by omega,by go_num,Lib.hid ⟨?_,HX.out.2.2.1,hb1⟩⟩
       rw [HT.out,HF.out,HQ2.out]
       rw [HF.out] at hm1
       exact hm1
      case measure=>simp [intOf];omega
  · obtain rfl:k=ds.length:=by omega
    rw [List.take_length] at HW
    go_wp2
    exact HQ.out _ _ _ _ _ _ _ _ _ _ _ _ _ _ _ _ _ _ _ _ _ _ _ _ _ HW.out
structure C2 (w:World) (gm gs gp:Nat) (tf:Int→Option Int) (sn pk:Int→Bool) (W:World):Prop where
 mi:MapI W gm tf
 ms:MapB W gs sn
 mp:MapB W gp pk
 sp:gs ≠ gp
 ne:gm ≠ gs∧gm ≠ gp
 ge:w.heap.size ≤ gs∧w.heap.size ≤ gp
 bel:Below w.heap.size w W
section
variable {w W W':World} {gm gs gp:Nat} {tf:Int→Option Int} {sn pk sn' pk':Int→Bool}
theorem C2.below (h:C2 w gm gs gp tf sn pk W) (hb:Below W.heap.size W W'):C2 w gm gs gp tf sn pk W':=⟨h.mi.below hb,h.ms.below hb,h.mp.below hb,h.sp,h.ne,h.ge,below_trans h.bel hb⟩
theorem C2.keep (h:C2 w gm gs gp tf sn pk W) (hs:MapB W' gs sn') (hp:MapB W' gp pk') (hk:KeepC (fun i=>i=gs ∨ i=gp) W W'):C2 w gm gs gp tf sn' pk' W' :=
 ⟨h.mi.on (hk.block gm h.mi.lt (.inl (fun e=>e.elim h.ne.1 h.ne.2))),hs,hp,h.sp,h.ne,h.ge,⟨hk.os.trans h.bel.os,hk.tape.trans h.bel.tape,hk.output.trans h.bel.output,Nat.le_trans h.bel.size hk.size,fun i hi=>by
  rw [hk.block i (Nat.lt_of_lt_of_le hi h.bel.size) (.inl (fun e=>by have:=h.ge;rcases e with e | e <;> omega)),h.bel.block i hi]⟩⟩
end
set_option maxHeartbeats 6400000 in
set_option maxRecDepth 100000 in
theorem chk_tail {w W:World} {A:Option Addr} {es:List Ent} {c gm gs gp gx k j:Nat} {tf:Int→Option Int} {sn pk:Int→Bool} {x:Dn} {Q:Exit→Act→World→Prop} (hC:C2 w gm gs gp tf sn pk W) (hb:Blk W gx 90 x.row.toArray)
 (hA:Reads w w.heap.size 13 A es.length (es.flatMap Ent.row)) (hj:x.e=j) (hjl:j < es.length) (hl:es.length ≤ 9223372036854775807)
 (hR:lateD tf (befN es es[j].ses j) x.f=true→∀ (s15 s16 s17 s104 s105 s106 s107 s108 s109 s110 s111 s112 s113 s114 s115 s116 s117 s118 s119 s120 s121 s122 s123 s124 s125 s126 s127 s128 s129 s130 s131 s132 s133 s134 s135 s136:Value) (W':World),Below w.heap.size w W'→Q .ret ⟨#[.slice A es.length c,Xb,Xc,Xd,.int .i64 (k:Nat),.int .i64 15,.map (some gm),Xh,Xi,Xj,Xk,.map (some gs),.map (some gp),.int .i64 (k:Nat),.pointer (some ⟨gx,0,none⟩),s15,s16,s17,Xs,Xt,Xu,Xv,Xw,Xx,Xy,Xz,Ya,Yb,Yc,Yd,Ye,Yf,Yg,Yh,Yi,Yj,Yk,Yl,Ym,Yn,Yo,Yp,Yq,Yr,Ys,Yt,Yu,Yv,Yw,Yx,Yy,Yz,Za,Zb,Zc,Zd,Ze,Zf,Zg,Zh,Zi,Zj,Zk,Zl,Zm,Zn,Zo,Zp,Zq,Zr,Zs,Zt,Zu,Zv,Zw,Zx,Zy,Zz,Ja,Jb,Jc,Jd,Je,Jf,Jg,Jh,Ji,Jj,Jk,Jl,Jm,Jn,Jo,Jp,Jq,Jr,Js,Jt,Ju,Jv,Jw,Jy,Jz,Va,s104,s105,s106,s107,s108,s109,s110,s111,s112,s113,s114,s115,s116,s117,s118,s119,s120,s121,s122,s123,s124,s125,s126,s127,s128,s129,s130,s131,s132,s133,s134,s135,s136,Oj,Ok,Ol],[]⟩ W')
 (hN:lateD tf (befN es es[j].ses j) x.f=false→∀ (s15 s16 s17 s104 s105 s106 s107 s108 s109 s110 s111 s112 s113 s114 s115 s116 s117 s118 s119 s120 s121 s122 s123 s124 s125 s126 s127 s128 s129 s130 s131 s132 s133 s134 s135:Value) (W':World),C2 w gm gs gp tf (updB sn x.e) (updB (updB (updB pk x.f) x.a) x.t) W'→Q .normal ⟨#[.slice A es.length c,Xb,Xc,Xd,Xe,Xf,.map (some gm),Xh,Xi,Xj,Xk,.map (some gs),.map (some gp),.int .i64 (k:Nat),.pointer (some ⟨gx,0,none⟩),s15,s16,s17,Xs,Xt,Xu,Xv,Xw,Xx,Xy,Xz,Ya,Yb,Yc,Yd,Ye,Yf,Yg,Yh,Yi,Yj,Yk,Yl,Ym,Yn,Yo,Yp,Yq,Yr,Ys,Yt,Yu,Yv,Yw,Yx,Yy,Yz,Za,Zb,Zc,Zd,Ze,Zf,Zg,Zh,Zi,Zj,Zk,Zl,Zm,Zn,Zo,Zp,Zq,Zr,Zs,Zt,Zu,Zv,Zw,Zx,Zy,Zz,Ja,Jb,Jc,Jd,Je,Jf,Jg,Jh,Ji,Jj,Jk,Jl,Jm,Jn,Jo,Jp,Jq,Jr,Js,Jt,Ju,Jv,Jw,Jy,Jz,Va,s104,s105,s106,s107,s108,s109,s110,s111,s112,s113,s114,s115,s116,s117,s118,s119,s120,s121,s122,s123,s124,s125,s126,s127,s128,s129,s130,s131,s132,s133,s134,s135,Oi,Oj,Ok,Ol],[]⟩ W') :
 Code.wp Tryz.prog (part Tryz.f52 [1,1,1,1,0,1,2,2,1,1,0,2,1,1]) Q ⟨#[.slice A es.length c,Xb,Xc,Xd,Xe,Xf,.map (some gm),Xh,Xi,Xj,Xk,.map (some gs),.map (some gp),.int .i64 (k:Nat),.pointer (some ⟨gx,0,none⟩),Xp,Xq,Xr,Xs,Xt,Xu,Xv,Xw,Xx,Xy,Xz,Ya,Yb,Yc,Yd,Ye,Yf,Yg,Yh,Yi,Yj,Yk,Yl,Ym,Yn,Yo,Yp,Yq,Yr,Ys,Yt,Yu,Yv,Yw,Yx,Yy,Yz,Za,Zb,Zc,Zd,Ze,Zf,Zg,Zh,Zi,Zj,Zk,Zl,Zm,Zn,Zo,Zp,Zq,Zr,Zs,Zt,Zu,Zv,Zw,Zx,Zy,Zz,Ja,Jb,Jc,Jd,Je,Jf,Jg,Jh,Ji,Jj,Jk,Jl,Jm,Jn,Jo,Jp,Jq,Jr,Js,Jt,Ju,Jv,Jw,Jy,Jz,Va,Vb,Vc,Vd,Ve,Vf,Vg,Vh,Vi,Vj,Vk,Vl,Vm,Vn,Vo,Vp,Vq,Vr,Vs,Vt,Vu,Vv,Vw,Vx,Vy,Vz,Oa,Ob,Oc,Od,Oe,Og,Oh,Oi,Oj,Ok,Ol],[]⟩ W:=by
 conv=>arg 2;whnf
 have HR:=Lib.hid hR
 have HN:=Lib.hid hN
 have HA:=Lib.hid hA
 have HC:=Lib.hid hC
 have HB:=Lib.hid hb
 clear hR hN hA hC hb
 refine wp_seq_k fun K0 hK=>?_
 have HK0:=Lib.hid hK
 clear hK
 refine chk_maps HC.out.ms HC.out.mp HC.out.sp HB.out (fun t104 t105 t106 t107 t108 t109 t110 t111 t112 t113 t114 t115 W1 h1 h2 hk=>?_)
 refine HK0.out _ _ ?_
 clear HK0 K0
 have hx1:Blk W1 gx 90 x.row.toArray:=KeepC.blk HB.out hk (fun e=>e.elim (mapB_ne HC.out.ms HB.out) (mapB_ne HC.out.mp HB.out))
 have HC1:=Lib.hid (HC.out.keep h1 h2 hk)
 obtain ⟨c0,c1,c2,c3⟩:=dn_cells hx1
 have HX1:=Lib.hid hx1
 have hbf:=before_any es A c j W1 ((HA.out.below HC1.out.bel).more HC1.out.bel.size) hjl hl
 rw [hj] at c0
 have HJ:=Lib.hid hj
 clear h1 h2 hk hx1 hj
 generalize befN es es[j].ses j=kk at hbf HR HN
 have HBF:=Lib.hid hbf
 clear hbf
 dsimp only
 go_wp2_with fail
 refine HBF.out.mono ?_
 rintro e W2 ⟨rfl,hb2⟩
 have HC2:=Lib.hid (HC1.out.below hb2)
 obtain ⟨d0,d1,d2,d3⟩:=dn_cells (HX1.out.below hb2 HX1.out.lt)
 have hlk:=HC2.out.mi.get kk
 clear hb2 HBF c0 c1 c2 c3 HX1
 by_cases hk0:0 ≤ kk
 · have hk0':kk ≥ 0:=hk0
   cases hq:tf kk with
   | none =>
     have HL:Hid (lateD tf kk x.f=true):=Lib.hid (by simp [lateD,hk0,hq])
     rw [hq] at hlk
     simp only [Option.isSome_none] at hlk
     clear hq
     go_wp2_with (refine wpList_lookup_run rfl _ _ 166 true rfl _ _ _ rfl rfl hlk ?_)
     exact HR.out HL.out _ _ _ _ _ _ _ _ _ _ _ _ _ _ _ _ _ _ _ _ _ _ _ _ _ _ _ _ _ _ _ _ _ _ _ _ _ HC2.out.bel
   | some v =>
     rw [hq] at hlk
     simp only [Option.isSome_some,Option.getD_some] at hlk
     by_cases hv:v ≥ x.f
     · have HL:Hid (lateD tf kk x.f=true):=Lib.hid (by simp [lateD,hk0,hq,hv])
       clear hq
       go_wp2_with (refine wpList_lookup_run rfl _ _ 166 true rfl _ _ _ rfl rfl hlk ?_)
       exact HR.out HL.out _ _ _ _ _ _ _ _ _ _ _ _ _ _ _ _ _ _ _ _ _ _ _ _ _ _ _ _ _ _ _ _ _ _ _ _ _ HC2.out.bel
     · have HL:Hid (lateD tf kk x.f=false):=Lib.hid (by simp [lateD,hk0,hq];omega)
       clear hq
       go_wp2_with (refine wpList_lookup_run rfl _ _ 166 true rfl _ _ _ rfl rfl hlk ?_)
       exact HN.out HL.out _ _ _ _ _ _ _ _ _ _ _ _ _ _ _ _ _ _ _ _ _ _ _ _ _ _ _ _ _ _ _ _ _ _ _ _ HC2.out
 · have hk0':¬ (kk ≥ 0):=hk0
   have HL:Hid (lateD tf kk x.f=false):=Lib.hid (by simp [lateD,hk0])
   go_wp2_with fail
   exact HN.out HL.out _ _ _ _ _ _ _ _ _ _ _ _ _ _ _ _ _ _ _ _ _ _ _ _ _ _ _ _ _ _ _ _ _ _ _ _ HC2.out
def ChkEnd (r:Nat × Int) (w:World) (e:Ending) (w':World):Prop:=e=.returned (.tuple #[.int .i64 (r.1:Nat),.int .i64 r.2])∧Below w.heap.size w w'
theorem chkN_step (es:List Ent) (tf:Int→Option Int) (x:Dn) (r:List Dn) (i:Nat) (sn pk:Int→Bool):chkN es tf (x :: r) i sn pk =
 if x.e < 0 ∨ x.e ≥ es.length then (i,(6:Int)) else if sn x.e then (i,8) else if badD pk x then (i,4)
 else if lateD tf (match es[x.e.toNat]? with | some y=>befN es y.ses x.e.toNat | none=>-1) x.f then (i,15)
 else chkN es tf r (i + 1) (updB sn x.e) (updB (updB (updB pk x.f) x.a) x.t):=rfl
set_option maxHeartbeats 6400000 in
set_option maxRecDepth 100000 in
theorem chk_second {w W:World} {A D:Option Addr} {es:List Ent} {ds:List Dn} {c c2 gm gs gp:Nat} (hA:Reads w w.heap.size 13 A es.length (es.flatMap Ent.row)) (hD:DsAt w D ds) (hle:es.length ≤ 9223372036854775806) (hld:ds.length ≤ 9223372036854775806)
 (hC:C2 w gm gs gp (toF ds) (fun _=>false) (fun _=>false) W) :
 Code.wp Tryz.prog (part Tryz.f52 [1,1,1,1]) (bodyPost Tryz.prog Tryz.f52 (ChkEnd (checkN es ds) w)) ⟨#[.slice A es.length c,.slice D ds.length c2,Xc,Xd,Xe,Xf,.map (some gm),Xh,Xi,Xj,Xk,.map (some gs),.map (some gp),Xn,Xo,Xp,Xq,Xr,Xs,Xt,Xu,Xv,Xw,Xx,Xy,Xz,Ya,Yb,Yc,Yd,Ye,Yf,Yg,Yh,Yi,Yj,Yk,Yl,Ym,Yn,Yo,Yp,Yq,Yr,Ys,Yt,Yu,Yv,Yw,Yx,Yy,Yz,Za,Zb,Zc,Zd,Ze,Zf,Zg,Zh,Zi,Zj,Zk,Zl,Zm,Zn,Zo,Zp,Zq,Zr,Zs,Zt,Zu,Zv,Zw,Zx,Zy,Zz,Ja,Jb,Jc,Jd,Je,Jf,Jg,Jh,Ji,Jj,Jk,Jl,Jm,Jn,Jo,Jp,Jq,Jr,Js,Jt,Ju,Jv,Jw,Jy,Jz,Va,Vb,Vc,Vd,Ve,Vf,Vg,Vh,Vi,Vj,Vk,Vl,Vm,Vn,Vo,Vp,Vq,Vr,Vs,Vt,Vu,Vv,Vw,Vx,Vy,Vz,Oa,Ob,Oc,Od,Oe,Og,Oh,Oi,Oj,Ok,Ol],[]⟩ W:=by
 conv=>arg 2;whnf
 have HA:=Lib.hid hA
 have HD:=Lib.hid hD
 have HC:=Lib.hid hC
 have hli:(ds.length:Int) ≤ 9223372036854775806:=by omega
 have hei:(es.length:Int) ≤ 9223372036854775806:=by omega
 clear hA hD hC
 go_upto_region 10 with fail
 rename_i K0 hK K1 hK1
 have HKE:=Lib.hid hK
 clear hK
 go_wp2_with fail
 go_loopw [44] (fun i wr=>∃ (k:Nat) (sn pk:Int→Bool),k ≤ ds.length∧i=.int .i64 k∧Hid (chkN es (toF ds) (ds.drop k) k sn pk=checkN es ds)∧Hid (C2 w gm gs gp (toF ds) sn pk wr)) (fun i _=>ds.length - (intOf i).toNat)
 case atStart=>exact ⟨0,_,_,Nat.zero_le _,rfl,Lib.hid rfl,HC⟩
 case round =>
  obtain ⟨k,sn,pk,hk,rfl,HCH,HW⟩:=hrel
  by_cases hlt:k < ds.length
  · obtain ⟨g,o,rfl,hgl,hrng⟩:=(HD.out.below HW.out.bel).at_ hlt
    have hch:=HCH.out
    rw [List.drop_eq_getElem_cons hlt,chkN_step] at hch
    generalize ds[k]=x at hrng hch
    have HCS:=Lib.hid hch
    clear hch
    have hrow1:x.row.toArray.all (·.oneCell')=true:=all_oneCell_toArray (dn_one x)
    have hst:=stored_new (w:=wr) (t:=90) (lit:=#[.int .i64 0,.int .i64 0,.int .i64 0,.int .i64 0,.int .i64 0,.string ⟨#[]⟩,.slice none 0 0,.int .i64 0,.int .u32 0,.int .u8 0,.int .u64 0,.int .u64 0,.int .u64 0,.int .u64 0,.int .u64 0,.int .u64 0,.int .u64 0,.int .u64 0,.int .u64 0,.int .u64 0,.complex .f64 0 0]) (cells:=x.row.toArray) rfl
    obtain ⟨l,hlr⟩:∃ l,x.row=l:=⟨_,rfl⟩
    have hll:l.length=21:=by rw [← hlr];rfl
    have hsz:l.toArray.size=21:=by rw [List.size_toArray];exact hll
    rw [hlr] at hrng hrow1 hst
    have HL:=Lib.hid hlr
    have i1:(0:Int) ≤ (k:Int):=by omega
    have i2:(k:Int) < (ds.length:Int):=by omega
    have hX0:=And.intro hst.1 (HW.out.below hst.2)
    rw [show l.toArray.toList=l from rfl] at hX0
    have HX1:=Lib.hid hX0
    clear hgl hst hlr hX0
    go_upto_region 12 with fail
    rename_i K2 hK2
    have HK2:=Lib.hid hK2
    clear hK2
    go_wp2_with (first
        | (refine wpList_load_mid rfl 90 (.tmp 47) rfl g (o + k * 21) rfl _ _ hrng Tryz.underlying90 rfl (by rw [hll];exact infoDn) ?_)
        | (refine wpList_store_mid rfl 90 (.tmp 14) (.tmp 48) rfl wr.heap.size 0 l.toArray rfl rfl (by rw [hsz];exact there_blk (Blk.new wr 90 #[.int .i64 0,.int .i64 0,.int .i64 0,.int .i64 0,.int .i64 0,.string ⟨#[]⟩,.slice none 0 0,.int .i64 0,.int .u32 0,.int .u8 0,.int .u64 0,.int .u64 0,.int .u64 0,.int .u64 0,.int .u64 0,.int .u64 0,.int .u64 0,.int .u64 0,.int .u64 0,.int .u64 0,.complex .f64 0 0]) (Nat.le_refl 21)) (by rw [hsz];exact infoDn) hrow1 ?_))
    clear hrng
    generalize (wr.alloc (.cells #[.int .i64 0,.int .i64 0,.int .i64 0,.int .i64 0,.int .i64 0,.string ⟨#[]⟩,.slice none 0 0,.int .i64 0,.int .u32 0,.int .u8 0,.int .u64 0,.int .u64 0,.int .u64 0,.int .u64 0,.int .u64 0,.int .u64 0,.int .u64 0,.int .u64 0,.int .u64 0,.int .u64 0,.complex .f64 0 0] 90)).setCells wr.heap.size 0 l=W0 at HX1 ⊢
    have HX:Hid (Blk W0 wr.heap.size 90 x.row.toArray∧C2 w gm gs gp (toF ds) sn pk W0):=Lib.hid (by rw [HL.out];exact HX1.out)
    clear HX1
    obtain ⟨c0,c1,c2',c3⟩:=dn_cells HX.out.1
    refine HK2.out _ _ ?_
    clear HK2 K2
    refine wp_seq_k fun K3 hK3=>?_
    have HK3:=Lib.hid hK3
    clear hK3
    by_cases ha:x.e < 0
    · have HE:Hid (checkN es ds=(k,6)):=Lib.hid (by rw [← HCS.out,if_pos (.inl ha)])
      go_wp2
      go_ret2
      exact ⟨by rw [HE.out];rfl,HX.out.2.bel⟩
    · by_cases hg:x.e ≥ (es.length:Int)
      · have HE:Hid (checkN es ds=(k,6)):=Lib.hid (by rw [← HCS.out,if_pos (.inr hg)])
        go_wp2
        go_ret2
        exact ⟨by rw [HE.out];rfl,HX.out.2.bel⟩
      · have hc2:=HCS.out
        rw [if_neg (fun h=>h.elim ha hg)] at hc2
        have hsn:=HX.out.2.ms.get x.e
        obtain ⟨q,hq⟩:∃ q,sn x.e=q:=⟨_,rfl⟩
        rw [hq] at hsn hc2
        clear hq
        cases q
        · simp only [Bool.false_eq_true,if_false] at hc2
          have hpf:=HX.out.2.mp.get x.f
          have hpa:=HX.out.2.mp.get x.a
          have hpt:=HX.out.2.mp.get x.t
          by_cases b1:x.f < 0
          · have HE:Hid (checkN es ds=(k,4)):=Lib.hid (by rw [← hc2,if_pos (by simp [badD,b1])])
            clear hc2
            go_wp2_with fail
            go_ret2
            exact ⟨by rw [HE.out];rfl,HX.out.2.bel⟩
          · by_cases b2:x.f > x.a
            · have HE:Hid (checkN es ds=(k,4)):=Lib.hid (by rw [← hc2,if_pos (by simp [badD,b2])])
              clear hc2
              go_wp2_with fail
              go_ret2
              exact ⟨by rw [HE.out];rfl,HX.out.2.bel⟩
            · by_cases b3:x.a > x.t
              · have HE:Hid (checkN es ds=(k,4)):=Lib.hid (by rw [← hc2,if_pos (by simp [badD,b3])])
                clear hc2
                go_wp2_with fail
                go_ret2
                exact ⟨by rw [HE.out];rfl,HX.out.2.bel⟩
              · obtain ⟨pf,hpf2⟩:∃ q,pk x.f=q:=⟨_,rfl⟩
                obtain ⟨pa,hpa2⟩:∃ q,pk x.a=q:=⟨_,rfl⟩
                obtain ⟨pt,hpt2⟩:∃ q,pk x.t=q:=⟨_,rfl⟩
                have HP:=Lib.hid (And.intro hpf2 (And.intro hpa2 hpt2))
                rw [hpf2] at hpf
                rw [hpa2] at hpa
                rw [hpt2] at hpt
                clear hpf2 hpa2 hpt2
                cases pf
                · cases pa
                  · cases pt
                    · have hbd:badD pk x=false:=by simp [badD,HP.out.1,HP.out.2.1,HP.out.2.2];omega
                      rw [hbd] at hc2
                      simp only [Bool.false_eq_true,if_false] at hc2
                      obtain ⟨j,hj⟩:∃ j:Nat,x.e=j:=⟨x.e.toNat,by omega⟩
                      have hjl:j < es.length:=by omega
                      rw [hj,Int.toNat_natCast,List.getElem?_eq_getElem hjl] at hc2
                      simp only at hc2
                      have HC3:=Lib.hid hc2
                      have HJ:=Lib.hid hj
                      clear hc2 hj hbd
                      go_wp2_with fail
                      refine HK3.out _ _ (chk_tail HX.out.2 HX.out.1 HA.out HJ.out hjl (by omega) (fun hL=>?_) (fun hL=>?_))
                      · intro s15 s16 s17 s104 s105 s106 s107 s108 s109 s110 s111 s112 s113 s114 s115 s116 s117 s118 s119 s120 s121 s122 s123 s124 s125 s126 s127 s128 s129 s130 s131 s132 s133 s134 s135 s136 W' hb'
                        have HE:Hid (checkN es ds=(k,15)):=Lib.hid (by rw [← HC3.out,if_pos hL])
                        have HBB:=Lib.hid hb'
                        dsimp only [Exit.inBlock,Exit.then]
                        go_ret2
                        exact ⟨by rw [HE.out];rfl,HBB.out⟩
                      · intro s15 s16 s17 s104 s105 s106 s107 s108 s109 s110 s111 s112 s113 s114 s115 s116 s117 s118 s119 s120 s121 s122 s123 s124 s125 s126 s127 s128 s129 s130 s131 s132 s133 s134 s135 W' hc'
                        have h4:=HC3.out
                        rw [if_neg (by rw [hL];simp)] at h4
                        have HH:=Lib.hid (And.intro h4 hc')
                        clear hc' h4 hL
                        dsimp only [Exit.inBlock,Exit.then]
                        go_wp2_with fail
                        go_roundw
                        case rel =>
                          refine ⟨k + 1,_,_,by omega,by go_num,Lib.hid HH.out.1,Lib.hid ?_⟩
                          have h5:=HH.out.2
                          rw [HJ.out] at h5
                          exact h5
                        case measure=>simp [intOf];omega
                    · have HE:Hid (checkN es ds=(k,4)):=Lib.hid (by rw [← hc2,if_pos (by simp [badD,HP.out.2.2])])
                      clear hc2
                      go_wp2_with fail
                      go_ret2
                      exact ⟨by rw [HE.out];rfl,HX.out.2.bel⟩
                  · have HE:Hid (checkN es ds=(k,4)):=Lib.hid (by rw [← hc2,if_pos (by simp [badD,HP.out.2.1])])
                    clear hc2
                    go_wp2_with fail
                    go_ret2
                    exact ⟨by rw [HE.out];rfl,HX.out.2.bel⟩
                · have HE:Hid (checkN es ds=(k,4)):=Lib.hid (by rw [← hc2,if_pos (by simp [badD,HP.out.1])])
                  clear hc2
                  go_wp2_with fail
                  go_ret2
                  exact ⟨by rw [HE.out];rfl,HX.out.2.bel⟩
        · simp only [if_true] at hc2
          have HE:Hid (checkN es ds=(k,8)):=Lib.hid hc2.symm
          clear hc2
          go_wp2_with fail
          go_ret2
          exact ⟨by rw [HE.out];rfl,HX.out.2.bel⟩
  · obtain rfl:k=ds.length:=by omega
    have hE:checkN es ds=(ds.length,0):=by rw [← HCH.out,List.drop_length];rfl
    rw [hE] at HKE ⊢
    go_wp2
    refine HKE.out _ _ ?_
    go_wp2
    go_ret2
    exact ⟨rfl,HW.out.bel⟩
end Go.Proofs.YtkgflepgkhnclaaGreatDoor
namespace Go.Proofs.YtkgflepgkhnclaaGreatDoor
set_option linter.unusedVariables false
set_option linter.unusedSimpArgs false
open Go.RowKit Go.Shelf
set_option maxHeartbeats 6400000 in
set_option maxRecDepth 100000 in
theorem Check_any {w:World} {A D:Option Addr} {es:List Ent} {ds:List Dn} {c c2:Nat} (hA:Reads w w.heap.size 13 A es.length (es.flatMap Ent.row)) (hD:DsAt w D ds) (hle:es.length ≤ 9223372036854775806) (hld:ds.length ≤ 9223372036854775806) :
 Calls Tryz.prog 52 #[.slice A es.length c,.slice D ds.length c2] w (ChkEnd (checkN es ds) w):=by
 have hmm:=@run_makeMap Tryz.prog
 have h1:C1 w w.heap.size (fun _=>none) (w.alloc (.map #[] 0)):=⟨MapI.made w,Nat.le_refl _,below_box _ _⟩
 have H1:=Lib.hid h1
 have HA:=Lib.hid hA
 have HD:=Lib.hid hD
 clear h1 hA hD
 go_enter Tryz.func52,Tryz.ntmps52
 refine wp_seq_k fun K0 hK=>?_
 have HK0:=Lib.hid hK
 clear hK
 go_wp2
 refine HK0.out _ _ ?_
 clear HK0 K0
 refine wp_seq_k fun K0 hK=>?_
 have HK0:=Lib.hid hK
 clear hK
 go_wp2
 refine HK0.out _ _ ?_
 clear HK0 K0
 generalize w.alloc (.map #[] 0)=W0 at H1 ⊢
 refine wp_seq_k fun K0 hK=>?_
 have HK0:=Lib.hid hK
 clear hK
 refine chk_first HD.out (by omega) H1.out (fun s8 s9 s10 s19 s20 s21 s22 s23 s24 s25 s26 s27 s28 s29 s30 s31 s32 s33 s34 s35 s36 s37 s38 s39 W1 h1=>?_)
 have H2:=Lib.hid h1
 clear h1
 refine HK0.out _ _ ?_
 clear HK0 K0
 dsimp only
 refine wp_seq_k fun K0 hK=>?_
 have HK0:=Lib.hid hK
 clear hK
 go_wp2
 refine HK0.out _ _ ?_
 clear HK0 K0
 have hb1:Below W1.heap.size W1 (W1.alloc (.map #[] 0)):=below_box _ _
 have hb2:Below W1.heap.size W1 ((W1.alloc (.map #[] 0)).alloc (.map #[] 0)):=below_alloc hb1 _
 have hm:=H2.out.1.lt
 have hs:=H2.out.2.2.size
 have hC:C2 w w.heap.size W1.heap.size (W1.heap.size + 1) (toF ds) (fun _=>false) (fun _=>false) ((W1.alloc (.map #[] 0)).alloc (.map #[] 0)):=by
  refine ⟨H2.out.1.below hb2,(MapB.made W1).below (below_box _ _),?_,by omega,⟨by omega,by omega⟩,⟨hs,by omega⟩,below_trans H2.out.2.2 hb2⟩
  have:=MapB.made (W1.alloc (.map #[] 0))
  rw [World.size_alloc] at this
  exact this
 have HC:=Lib.hid hC
 clear hC hb1 hb2 hm
 exact chk_second HA.out HD.out hle hld HC.out
def readyN (es:List Ent) (ds:List Dn):Nat × Int:=if (checkN es ds).2=0∧ds.length < es.length then ((checkN es ds).1,15) else checkN es ds
set_option maxHeartbeats 1600000 in
theorem ready_any {w:World} {A D:Option Addr} {es:List Ent} {ds:List Dn} {c c2:Nat} (hA:Reads w w.heap.size 13 A es.length (es.flatMap Ent.row)) (hD:DsAt w D ds) (hle:es.length ≤ 9223372036854775806) (hld:ds.length ≤ 9223372036854775806) :
 Calls Tryz.prog 75 #[.slice A es.length c,.slice D ds.length c2] w (ChkEnd (readyN es ds) w):=by
 have HC:=Lib.hid (Check_any (c:=c) (c2:=c2) hA hD hle hld)
 have hli:(ds.length:Int) ≤ 9223372036854775806:=by omega
 have hei:(es.length:Int) ≤ 9223372036854775806:=by omega
 obtain ⟨R,hR⟩:∃ R,checkN es ds=R:=⟨_,rfl⟩
 have HR:Hid (readyN es ds=if R.2=0∧ds.length < es.length then (R.1,15) else R):=Lib.hid (by unfold readyN;rw [hR])
 rw [hR] at HC
 clear hA hD hR
 obtain ⟨i,e⟩:=R
 go_enter Tryz.func75,Tryz.ntmps75
 go_wp2_with fail
 refine HC.out.mono ?_
 rintro e' w1 ⟨rfl,hb⟩
 have HB:=Lib.hid hb
 clear hb
 by_cases h0:e=0
 · have z0:(e == 0)=true:=by simpa using h0
   by_cases hl:ds.length < es.length
   · have hl':(ds.length:Int) < (es.length:Int):=by omega
     go_wp2_with fail
     go_ret2
     exact ⟨by rw [HR.out,if_pos ⟨h0,hl⟩];rfl,HB.out⟩
   · have hl':¬ (ds.length:Int) < (es.length:Int):=by omega
     go_wp2_with fail
     go_ret2
     exact ⟨by rw [HR.out,if_neg (fun h=>hl h.2),h0];rfl,HB.out⟩
 · have z0:(e == 0)=false:=by simpa using h0
   go_wp2_with fail
   go_ret2
   exact ⟨by rw [HR.out,if_neg (fun h=>h0 h.1)];rfl,HB.out⟩
end Go.Proofs.YtkgflepgkhnclaaGreatDoor
namespace Go.Proofs.YtkgflepgkhnclaaGreatDoor
set_option linter.unusedVariables false
set_option linter.unusedSimpArgs false
open Go.RowKit Go.Shelf Go.Sort
structure Mo where
 p:Int
 d:Int
 e:Bool
instance:Inhabited Mo:=⟨⟨0,0,false⟩⟩
def Mo.row (x:Mo):List Value:=[.int .i64 x.p,.int .i64 x.d,.bool x.e]
theorem Mo.row_len (x:Mo):x.row.length=3:=rfl
theorem mo_one (x:Mo):∀ u ∈ x.row,u.oneCell'=true:=by simp [Mo.row,Value.oneCell']
def cfM (x y:Mo):Int:=IntKind.i64.wrap (x.p - y.p)
theorem key_mo (x:Mo) (W:World):Calls Tryz.prog 139 #[.agg #[.int .i64 x.p,.int .i64 x.d,.bool x.e]] W (fun e w'=>e=.returned (.int .i64 x.p)∧w'=W.alloc (.cells #[.int .i64 x.p,.int .i64 x.d,.bool x.e] 204)):=by
 go_enter Tryz.func139,Tryz.ntmps139
 go_wp2
 go_ret
 exact ⟨rfl,rfl⟩
set_option maxHeartbeats 1600000 in
set_option maxRecDepth 100000 in
theorem cmp_mo (bk:Nat) (x y:Mo) (W:World) (hc:W.cell? ⟨bk,0,none⟩=some (.func (.func 139) #[] #[])) :
 Calls Tryz.prog 178 #[.agg #[.int .i64 x.p,.int .i64 x.d,.bool x.e],.agg #[.int .i64 y.p,.int .i64 y.d,.bool y.e],.pointer (some ⟨bk,0,none⟩)] W (fun e w'=>e=.returned (.int .i64 (cfM x y))∧∃ q os',w'=grow (W.drewN q) os'):=by
 have hbk:bk < W.heap.size:=World.block_lt_of_cell? W _ hc
 have hc2:∀ o1 o2,((W.alloc o1).alloc o2).cell? ⟨bk,0,none⟩=some (.func (.func 139) #[] #[]):=fun o1 o2=>by
  rw [World.cell?_alloc_lt _ _ _ (by simp;exact Nat.lt_succ_of_lt hbk),World.cell?_alloc_lt _ _ _ hbk];exact hc
 have hB1:Blk ((W.alloc (.cells #[.int .i64 x.p,.int .i64 x.d,.bool x.e] 204)).alloc (.cells #[.int .i64 y.p,.int .i64 y.d,.bool y.e] 204)) W.heap.size 204 #[.int .i64 x.p,.int .i64 x.d,.bool x.e]:=(Blk.new W _ _).alloc _
 have hB2:Blk ((W.alloc (.cells #[.int .i64 x.p,.int .i64 x.d,.bool x.e] 204)).alloc (.cells #[.int .i64 y.p,.int .i64 y.d,.bool y.e] 204)) (W.heap.size + 1) 204 #[.int .i64 y.p,.int .i64 y.d,.bool y.e]:=blk_at (by simp)
 have H0:((W.alloc (.cells #[.int .i64 x.p,.int .i64 x.d,.bool x.e] 204)).alloc (.cells #[.int .i64 y.p,.int .i64 y.d,.bool y.e] 204)).drew.cell? ⟨bk,0,none⟩=some (.func (.func 139) #[] #[])∧((W.alloc (.cells #[.int .i64 x.p,.int .i64 x.d,.bool x.e] 204)).alloc (.cells #[.int .i64 y.p,.int .i64 y.d,.bool y.e] 204)).drew.cell? ⟨W.heap.size,0,none⟩=some (.int .i64 x.p)∧((W.alloc (.cells #[.int .i64 x.p,.int .i64 x.d,.bool x.e] 204)).alloc (.cells #[.int .i64 y.p,.int .i64 y.d,.bool y.e] 204)).drew.cell? ⟨W.heap.size,1,none⟩=some (.int .i64 x.d)∧((W.alloc (.cells #[.int .i64 x.p,.int .i64 x.d,.bool x.e] 204)).alloc (.cells #[.int .i64 y.p,.int .i64 y.d,.bool y.e] 204)).drew.cell? ⟨W.heap.size,2,none⟩=some (.bool x.e)∧((W.alloc (.cells #[.int .i64 x.p,.int .i64 x.d,.bool x.e] 204)).alloc (.cells #[.int .i64 y.p,.int .i64 y.d,.bool y.e] 204)).drew.cell? ⟨W.heap.size + 1,0,none⟩=some (.int .i64 y.p)∧((W.alloc (.cells #[.int .i64 x.p,.int .i64 x.d,.bool x.e] 204)).alloc (.cells #[.int .i64 y.p,.int .i64 y.d,.bool y.e] 204)).drew.cell? ⟨W.heap.size + 1,1,none⟩=some (.int .i64 y.d)∧((W.alloc (.cells #[.int .i64 x.p,.int .i64 x.d,.bool x.e] 204)).alloc (.cells #[.int .i64 y.p,.int .i64 y.d,.bool y.e] 204)).drew.cell? ⟨W.heap.size + 1,2,none⟩=some (.bool y.e):=⟨hc2 _ _,hB1.cell 0,hB1.cell 1,hB1.cell 2,hB2.cell 0,hB2.cell 1,hB2.cell 2⟩
 have up1:((W.alloc (.cells #[.int .i64 x.p,.int .i64 x.d,.bool x.e] 204)).alloc (.cells #[.int .i64 y.p,.int .i64 y.d,.bool y.e] 204)).drew.cell? ⟨bk,0,none⟩=some (.func (.func 139) #[] #[])∧((W.alloc (.cells #[.int .i64 x.p,.int .i64 x.d,.bool x.e] 204)).alloc (.cells #[.int .i64 y.p,.int .i64 y.d,.bool y.e] 204)).drew.cell? ⟨W.heap.size,0,none⟩=some (.int .i64 x.p)∧((W.alloc (.cells #[.int .i64 x.p,.int .i64 x.d,.bool x.e] 204)).alloc (.cells #[.int .i64 y.p,.int .i64 y.d,.bool y.e] 204)).drew.cell? ⟨W.heap.size,1,none⟩=some (.int .i64 x.d)∧((W.alloc (.cells #[.int .i64 x.p,.int .i64 x.d,.bool x.e] 204)).alloc (.cells #[.int .i64 y.p,.int .i64 y.d,.bool y.e] 204)).drew.cell? ⟨W.heap.size,2,none⟩=some (.bool x.e)∧((W.alloc (.cells #[.int .i64 x.p,.int .i64 x.d,.bool x.e] 204)).alloc (.cells #[.int .i64 y.p,.int .i64 y.d,.bool y.e] 204)).drew.cell? ⟨W.heap.size + 1,0,none⟩=some (.int .i64 y.p)∧((W.alloc (.cells #[.int .i64 x.p,.int .i64 x.d,.bool x.e] 204)).alloc (.cells #[.int .i64 y.p,.int .i64 y.d,.bool y.e] 204)).drew.cell? ⟨W.heap.size + 1,1,none⟩=some (.int .i64 y.d)∧((W.alloc (.cells #[.int .i64 x.p,.int .i64 x.d,.bool x.e] 204)).alloc (.cells #[.int .i64 y.p,.int .i64 y.d,.bool y.e] 204)).drew.cell? ⟨W.heap.size + 1,2,none⟩=some (.bool y.e)→(((W.alloc (.cells #[.int .i64 x.p,.int .i64 x.d,.bool x.e] 204)).alloc (.cells #[.int .i64 y.p,.int .i64 y.d,.bool y.e] 204)).drew.alloc (.cells #[.int .i64 x.p,.int .i64 x.d,.bool x.e] 204)).cell? ⟨bk,0,none⟩=some (.func (.func 139) #[] #[])∧(((W.alloc (.cells #[.int .i64 x.p,.int .i64 x.d,.bool x.e] 204)).alloc (.cells #[.int .i64 y.p,.int .i64 y.d,.bool y.e] 204)).drew.alloc (.cells #[.int .i64 x.p,.int .i64 x.d,.bool x.e] 204)).cell? ⟨W.heap.size,0,none⟩=some (.int .i64 x.p)∧(((W.alloc (.cells #[.int .i64 x.p,.int .i64 x.d,.bool x.e] 204)).alloc (.cells #[.int .i64 y.p,.int .i64 y.d,.bool y.e] 204)).drew.alloc (.cells #[.int .i64 x.p,.int .i64 x.d,.bool x.e] 204)).cell? ⟨W.heap.size,1,none⟩=some (.int .i64 x.d)∧(((W.alloc (.cells #[.int .i64 x.p,.int .i64 x.d,.bool x.e] 204)).alloc (.cells #[.int .i64 y.p,.int .i64 y.d,.bool y.e] 204)).drew.alloc (.cells #[.int .i64 x.p,.int .i64 x.d,.bool x.e] 204)).cell? ⟨W.heap.size,2,none⟩=some (.bool x.e)∧(((W.alloc (.cells #[.int .i64 x.p,.int .i64 x.d,.bool x.e] 204)).alloc (.cells #[.int .i64 y.p,.int .i64 y.d,.bool y.e] 204)).drew.alloc (.cells #[.int .i64 x.p,.int .i64 x.d,.bool x.e] 204)).cell? ⟨W.heap.size + 1,0,none⟩=some (.int .i64 y.p)∧(((W.alloc (.cells #[.int .i64 x.p,.int .i64 x.d,.bool x.e] 204)).alloc (.cells #[.int .i64 y.p,.int .i64 y.d,.bool y.e] 204)).drew.alloc (.cells #[.int .i64 x.p,.int .i64 x.d,.bool x.e] 204)).cell? ⟨W.heap.size + 1,1,none⟩=some (.int .i64 y.d)∧(((W.alloc (.cells #[.int .i64 x.p,.int .i64 x.d,.bool x.e] 204)).alloc (.cells #[.int .i64 y.p,.int .i64 y.d,.bool y.e] 204)).drew.alloc (.cells #[.int .i64 x.p,.int .i64 x.d,.bool x.e] 204)).cell? ⟨W.heap.size + 1,2,none⟩=some (.bool y.e):=fun h=>by
  obtain ⟨h1,h2,h3,h4,h5,h6,h7⟩:=h
  have hs:((W.alloc (.cells #[.int .i64 x.p,.int .i64 x.d,.bool x.e] 204)).alloc (.cells #[.int .i64 y.p,.int .i64 y.d,.bool y.e] 204)).drew.heap.size=W.heap.size + 1 + 1:=by simp
  refine ⟨?_,?_,?_,?_,?_,?_,?_⟩ <;> (rw [World.cell?_alloc_lt _ _ _ (by rw [hs];dsimp only;omega)];assumption)
 have up2:((W.alloc (.cells #[.int .i64 x.p,.int .i64 x.d,.bool x.e] 204)).alloc (.cells #[.int .i64 y.p,.int .i64 y.d,.bool y.e] 204)).drew.cell? ⟨bk,0,none⟩=some (.func (.func 139) #[] #[])∧((W.alloc (.cells #[.int .i64 x.p,.int .i64 x.d,.bool x.e] 204)).alloc (.cells #[.int .i64 y.p,.int .i64 y.d,.bool y.e] 204)).drew.cell? ⟨W.heap.size,0,none⟩=some (.int .i64 x.p)∧((W.alloc (.cells #[.int .i64 x.p,.int .i64 x.d,.bool x.e] 204)).alloc (.cells #[.int .i64 y.p,.int .i64 y.d,.bool y.e] 204)).drew.cell? ⟨W.heap.size,1,none⟩=some (.int .i64 x.d)∧((W.alloc (.cells #[.int .i64 x.p,.int .i64 x.d,.bool x.e] 204)).alloc (.cells #[.int .i64 y.p,.int .i64 y.d,.bool y.e] 204)).drew.cell? ⟨W.heap.size,2,none⟩=some (.bool x.e)∧((W.alloc (.cells #[.int .i64 x.p,.int .i64 x.d,.bool x.e] 204)).alloc (.cells #[.int .i64 y.p,.int .i64 y.d,.bool y.e] 204)).drew.cell? ⟨W.heap.size + 1,0,none⟩=some (.int .i64 y.p)∧((W.alloc (.cells #[.int .i64 x.p,.int .i64 x.d,.bool x.e] 204)).alloc (.cells #[.int .i64 y.p,.int .i64 y.d,.bool y.e] 204)).drew.cell? ⟨W.heap.size + 1,1,none⟩=some (.int .i64 y.d)∧((W.alloc (.cells #[.int .i64 x.p,.int .i64 x.d,.bool x.e] 204)).alloc (.cells #[.int .i64 y.p,.int .i64 y.d,.bool y.e] 204)).drew.cell? ⟨W.heap.size + 1,2,none⟩=some (.bool y.e)→((((W.alloc (.cells #[.int .i64 x.p,.int .i64 x.d,.bool x.e] 204)).alloc (.cells #[.int .i64 y.p,.int .i64 y.d,.bool y.e] 204)).drew.alloc (.cells #[.int .i64 x.p,.int .i64 x.d,.bool x.e] 204)).alloc (.cells #[.int .i64 y.p,.int .i64 y.d,.bool y.e] 204)).cell? ⟨bk,0,none⟩=some (.func (.func 139) #[] #[])∧((((W.alloc (.cells #[.int .i64 x.p,.int .i64 x.d,.bool x.e] 204)).alloc (.cells #[.int .i64 y.p,.int .i64 y.d,.bool y.e] 204)).drew.alloc (.cells #[.int .i64 x.p,.int .i64 x.d,.bool x.e] 204)).alloc (.cells #[.int .i64 y.p,.int .i64 y.d,.bool y.e] 204)).cell? ⟨W.heap.size,0,none⟩=some (.int .i64 x.p)∧((((W.alloc (.cells #[.int .i64 x.p,.int .i64 x.d,.bool x.e] 204)).alloc (.cells #[.int .i64 y.p,.int .i64 y.d,.bool y.e] 204)).drew.alloc (.cells #[.int .i64 x.p,.int .i64 x.d,.bool x.e] 204)).alloc (.cells #[.int .i64 y.p,.int .i64 y.d,.bool y.e] 204)).cell? ⟨W.heap.size,1,none⟩=some (.int .i64 x.d)∧((((W.alloc (.cells #[.int .i64 x.p,.int .i64 x.d,.bool x.e] 204)).alloc (.cells #[.int .i64 y.p,.int .i64 y.d,.bool y.e] 204)).drew.alloc (.cells #[.int .i64 x.p,.int .i64 x.d,.bool x.e] 204)).alloc (.cells #[.int .i64 y.p,.int .i64 y.d,.bool y.e] 204)).cell? ⟨W.heap.size,2,none⟩=some (.bool x.e)∧((((W.alloc (.cells #[.int .i64 x.p,.int .i64 x.d,.bool x.e] 204)).alloc (.cells #[.int .i64 y.p,.int .i64 y.d,.bool y.e] 204)).drew.alloc (.cells #[.int .i64 x.p,.int .i64 x.d,.bool x.e] 204)).alloc (.cells #[.int .i64 y.p,.int .i64 y.d,.bool y.e] 204)).cell? ⟨W.heap.size + 1,0,none⟩=some (.int .i64 y.p)∧((((W.alloc (.cells #[.int .i64 x.p,.int .i64 x.d,.bool x.e] 204)).alloc (.cells #[.int .i64 y.p,.int .i64 y.d,.bool y.e] 204)).drew.alloc (.cells #[.int .i64 x.p,.int .i64 x.d,.bool x.e] 204)).alloc (.cells #[.int .i64 y.p,.int .i64 y.d,.bool y.e] 204)).cell? ⟨W.heap.size + 1,1,none⟩=some (.int .i64 y.d)∧((((W.alloc (.cells #[.int .i64 x.p,.int .i64 x.d,.bool x.e] 204)).alloc (.cells #[.int .i64 y.p,.int .i64 y.d,.bool y.e] 204)).drew.alloc (.cells #[.int .i64 x.p,.int .i64 x.d,.bool x.e] 204)).alloc (.cells #[.int .i64 y.p,.int .i64 y.d,.bool y.e] 204)).cell? ⟨W.heap.size + 1,2,none⟩=some (.bool y.e):=fun h=>by
  obtain ⟨h1,h2,h3,h4,h5,h6,h7⟩:=up1 h
  have hs:(((W.alloc (.cells #[.int .i64 x.p,.int .i64 x.d,.bool x.e] 204)).alloc (.cells #[.int .i64 y.p,.int .i64 y.d,.bool y.e] 204)).drew.alloc (.cells #[.int .i64 x.p,.int .i64 x.d,.bool x.e] 204)).heap.size=W.heap.size + 1 + 1 + 1:=by simp
  refine ⟨?_,?_,?_,?_,?_,?_,?_⟩ <;> (rw [World.cell?_alloc_lt _ _ _ (by rw [hs];dsimp only;omega)];assumption)
 clear hc hc2 hB1 hB2
 go_enter Tryz.func178,Tryz.ntmps178
 go_wp2_with fail
 refine wp_region_held_drew (S:=(fun V:World=>V.cell? ⟨bk,0,none⟩=some (.func (.func 139) #[] #[])∧V.cell? ⟨W.heap.size,0,none⟩=some (.int .i64 x.p)∧V.cell? ⟨W.heap.size,1,none⟩=some (.int .i64 x.d)∧V.cell? ⟨W.heap.size,2,none⟩=some (.bool x.e)∧V.cell? ⟨W.heap.size + 1,0,none⟩=some (.int .i64 y.p)∧V.cell? ⟨W.heap.size + 1,1,none⟩=some (.int .i64 y.d)∧V.cell? ⟨W.heap.size + 1,2,none⟩=some (.bool y.e))) (by kernel_rfl) ?_ (fun hHeld0=>?_)
 · exact H0
 refine tk (i:=0) (v:=?_) rfl (Or.inl ⟨by rfl,?_⟩) hHeld0 ?_
 rotate_left
 · (intro w hSw;(try dsimp only at hSw);go_simp <;> with_reducible rfl)
 try simp only [Act.put,zD,zE,zF]
 refine tk (i:=1) (v:=?_) rfl (Or.inl ⟨by rfl,?_⟩) hHeld0 ?_
 rotate_left
 · (intro w hSw;(try dsimp only at hSw);go_simp <;> with_reducible rfl)
 try simp only [Act.put,zD,zE,zF]
 refine tk (i:=3) (v:=?_) rfl (Or.inl ⟨by rfl,?_⟩) hHeld0 ?_
 rotate_left
 · (intro w hSw;(try dsimp only at hSw);go_simp <;> with_reducible rfl)
 try simp only [Act.put,zD,zE,zF]
 refine tk (i:=4) (v:=?_) rfl (Or.inl ⟨by rfl,?_⟩) hHeld0 ?_
 rotate_left
 · (intro w hSw;(try dsimp only at hSw);go_simp <;> with_reducible rfl)
 try simp only [Act.put,zA,zB,zC,zD,zE,zF]
 refine wpAnyH_ready (rs:=[2]) (by kernel_rfl) (by simp) ?_
 refine AllReadyH.cons rfl (fun K hK=>?_) AllReadyH.nil
 go_simp
 with_reducible refine (key_mo x _).mono ?_
 rintro e w1 ⟨rfl,rfl⟩
 refine hK.out _ _ ?_ (fun hHeld1=>?_)
 · exact up1 H0
 clear hK K hHeld0
 try simp only [Act.put,zA,zB,zC,zD,zE,zF]
 refine wpAnyH_ready (rs:=[5]) (by kernel_rfl) (by simp) ?_
 refine AllReadyH.cons rfl (fun K hK=>?_) AllReadyH.nil
 go_simp
 with_reducible refine (key_mo y _).mono ?_
 rintro e w2 ⟨rfl,rfl⟩
 refine hK.out _ _ ?_ (fun hHeld2=>?_)
 · exact up2 H0
 clear hK K hHeld1
 try simp only [Act.put,zD,zE,zF]
 refine tk (i:=6) (v:=?_) rfl (Or.inl ⟨by rfl,?_⟩) hHeld2 ?_
 rotate_left
 · (intro w hSw;(try dsimp only at hSw);go_simp <;> with_reducible rfl)
 try simp only [Act.put,zD,zE,zF]
 refine tk (i:=7) (v:=?_) rfl (Or.inl ⟨by rfl,?_⟩) hHeld2 ?_
 rotate_left
 · (intro w hSw;(try dsimp only at hSw);go_simp <;> with_reducible rfl)
 try simp only [Act.put,zA,zB,zC,zD,zE,zF]
 refine wpAnyH_done (by kernel_rfl) ?_ _
 refine (‹∀ (a:Act) (w:World),Code.wp Tryz.prog _ _ a w→_›) _ _ ?_
 go_wp2
 go_ret
 exact ⟨rfl,1,#[.cells #[.int .i64 x.p,.int .i64 x.d,.bool x.e] 204,.cells #[.int .i64 y.p,.int .i64 y.d,.bool y.e] 204,.cells #[.int .i64 x.p,.int .i64 x.d,.bool x.e] 204,.cells #[.int .i64 y.p,.int .i64 y.d,.bool y.e] 204],by simp [alloc_eq_grow,grow_grow];rfl⟩
def lays20_ren:Go.Shelf.Ren:=⟨fun | 20=>241 | n=>n,fun | 0=>0 | 3=>3 | 4=>4 | 22=>202 | 24=>204 | 25=>249 | n=>n,fun | n=>n⟩
theorem lays20:SlLaysF0.n20 Tryz.prog lays20_ren:={
 mixed:=by kernel_rfl
 f20:=⟨Tryz.f241.name,by decide,Tryz.func241.trans (congrArg some (by kernel_rfl))⟩
 t0:=Tryz.underlying0
 a0:=Tryz.isAgg0
 z0:=Tryz.sizeOf0
 v0:=Tryz.zeroValue0
 t3:=Tryz.underlying3
 a3:=Tryz.isAgg3
 z3:=Tryz.sizeOf3
 v3:=Tryz.zeroValue3
 t4:=Tryz.underlying4
 a4:=Tryz.isAgg4
 z4:=Tryz.sizeOf4
 v4:=Tryz.zeroValue4
 t22:=Tryz.underlying202
 a22:=Tryz.isAgg202
 z22:=Tryz.sizeOf202
 v22:=Tryz.zeroValue202
 t25:=Tryz.underlying249
 a25:=Tryz.isAgg249
 z25:=Tryz.sizeOf249
 v25:=Tryz.zeroValue249 }
theorem cell_sortW {w:World} {blk off m:Nat} {d:Array Mo} {os:Array Obj} (a:Addr) (h1:a.block ≠ blk) (h2:a.block < w.heap.size):(sortWorldK Mo.row 3 w blk off m d os).cell? a=w.cell? a:=by
 unfold sortWorldK
 rw [cell?_grow _ _ _ (by unfold putRowK putRow mapBlock Sort.ahead;simp;exact h2)]
 unfold putRowK
 rw [cell?_putRow_other _ _ _ _ _ a (.inl h1)]
 rfl
def sortM (l:List Mo):List Mo:=(insertionSort (ltOf cfM) l.toArray 0 l.length).toList
def SortEnd (w:World) (blk:Nat) (l:List Mo) (e:Ending) (w':World):Prop:=e=.returned (.tuple #[])∧∃ n os,w'=sortWorldK Mo.row 3 w blk 0 n (insertionSort (ltOf cfM) l.toArray 0 l.length) os
set_option maxHeartbeats 1600000 in
theorem stable_mo (l:List Mo) (hl:l.length < 20) (w:World) (blk cap bk:Nat) (hH:HoldsK Mo.row 3 w blk 0 l.toArray) (hblk:blk < w.heap.size) (hbk:w.cell? ⟨bk,0,none⟩=some (.func (.func 139) #[] #[])) (hne:bk ≠ blk) :
 Calls Tryz.prog 214 #[.slice (some ⟨blk,0,none⟩) l.length cap,.int .i64 (l.length:Nat),.func (.func 178) #[] #[.pointer (some ⟨bk,0,none⟩)]] w (SortEnd w blk l):=by
 have hlt:=World.block_lt_of_cell? w _ hbk
 have hc:CmpLays Tryz.prog 178 #[.pointer (some ⟨bk,0,none⟩)] Mo.row 3 cfM blk 0 l.toArray.size w:=fun m os dk hs x y=>cmp_mo bk x y _ (by rw [cell_sortW _ hne hlt];exact hbk)
 have hI:=AnyQ.insertionSortCmpFunc lays20 3 Tryz.isAgg204 Tryz.sizeOf204 Mo.row Mo.row_len mo_one cfM 178 #[.pointer (some ⟨bk,0,none⟩)] blk 0 cap 0 l.length l.toArray w
  (enters_of Tryz.func178 (by kernel_rfl) rfl) hc hH hblk (Nat.zero_le _) (by simp) (by simp;omega)
 have hI2:Calls Tryz.prog 241 #[.slice (some ⟨blk,0,none⟩) l.length cap,.int .i64 0,.int .i64 (l.length:Nat),.func (.func 178) #[] #[.pointer (some ⟨bk,0,none⟩)]] w (SortEnd w blk l):=by
  have e:l.toArray.size=l.length:=List.size_toArray
  rw [e] at hI
  exact hI
 have HI:=Lib.hid hI2
 have hli:(l.length:Int) < 20:=by omega
 have h20:¬ ((20:Int) ≤ (l.length:Int)):=by omega
 have h20b:¬ ((20:Int) < (l.length:Int)):=by omega
 clear hI hI2 hc hH
 go_enter Tryz.func214,Tryz.ntmps214
 go_wp2_with fail
 go_loopw [7,8] (fun x y wr=>x=.int .i64 0∧y=.int .i64 20∧wr=w) (fun _ _ _=>0)
 case atStart=>exact ⟨rfl,rfl,rfl⟩
 case round =>
  obtain ⟨rfl,rfl,rfl⟩:=hrel
  go_wp2_with fail
  refine HI.out.mono ?_
  rintro e w1 ⟨rfl,n,os,hw1⟩
  have HW:=Lib.hid hw1
  clear hw1
  go_wp2_with fail
  go_loopw [6] (fun x wr=>x=.int .i64 20∧wr=w1) (fun _ _=>0)
  case atStart=>exact ⟨rfl,rfl⟩
  case round =>
   obtain ⟨rfl,rfl⟩:=hrel
   go_wp2_with fail
   go_end0
   exact ⟨rfl,n,os,HW.out⟩
theorem size_sortW {w:World} {blk off m:Nat} {d:Array Mo} {os:Array Obj}:w.heap.size ≤ (sortWorldK Mo.row 3 w blk off m d os).heap.size:=size_sortWorldK_c Mo.row 3 w blk off m d os
theorem block_sortW {w:World} {blk off m:Nat} {d:Array Mo} {os:Array Obj} {i:Nat} (h1:i ≠ blk) (h2:i < w.heap.size):(sortWorldK Mo.row 3 w blk off m d os).heap[i]?=w.heap[i]?:=by
 unfold sortWorldK putRowK putRow mapBlock grow Sort.ahead
 dsimp only
 rw [Array.getElem?_append_left (by simpa using h2),Array.getElem?_modify,if_neg (fun e=>h1 e.symm)]
theorem blk_sortW {w:World} {blk off m:Nat} {d:Array Mo} {os:Array Obj} {t:TypeId} {cs:Array Value} (h:Blk w blk t cs):∃ cs',Blk (sortWorldK Mo.row 3 w blk off m d os) blk t cs':=by
 have hlt:=h.lt
 unfold Blk at h ⊢
 unfold sortWorldK putRowK putRow mapBlock grow Sort.ahead
 dsimp only
 refine ⟨putCells id off (flatK Mo.row 3 d) cs,?_⟩
 rw [Array.getElem?_append_left (by simpa using hlt),Array.getElem?_modify,if_pos rfl,h]
 rfl
theorem keep_sortW {w:World} {blk off m:Nat} {d:Array Mo} {os:Array Obj} (hu:¬ U8 w blk):KeepC (fun i=>i=blk) w (sortWorldK Mo.row 3 w blk off m d os) :=
 ⟨rfl,rfl,rfl,size_sortW,fun i hi hc=>by
  by_cases e:i=blk
  · subst e
    rcases hc with hc | hc
    · exact absurd rfl hc
    · exact absurd hc hu
  · exact block_sortW e hi⟩
theorem SortEnd.keep {w w':World} {blk:Nat} {l:List Mo} {e:Ending} (h:SortEnd w blk l e w') (hu:¬ U8 w blk):KeepC (fun i=>i=blk) w w':=by
 obtain ⟨-,n,os,rfl⟩:=h
 exact keep_sortW hu
theorem size_insInner {α:Type} [Inhabited α] (lt:α→α→Bool) (a:Nat):∀ (j:Nat) (d:Array α),(insInner lt a j d).size=d.size
 | 0,d=>rfl
 | j + 1,d=>by
   unfold insInner
   split
   · rw [size_insInner lt a j];simp [swp]
   · rfl
theorem size_insOuter {α:Type} [Inhabited α] (lt:α→α→Bool) (a b:Nat):∀ (n i:Nat) (d:Array α),b - i=n→(insOuter lt a b i d).size=d.size
 | 0,i,d,h=>by unfold insOuter;rw [if_neg (by omega)]
 | n + 1,i,d,h=>by
   unfold insOuter
   rw [if_pos (by omega),size_insOuter lt a b n (i + 1) _ (by omega),size_insInner]
theorem sortM_size (l:List Mo):(insertionSort (ltOf cfM) l.toArray 0 l.length).size=l.toArray.size:=size_insOuter _ _ _ _ _ _ rfl
set_option maxHeartbeats 1600000 in
theorem sort_mo (l:List Mo) (hl:l.length < 20) (w:World) (blk cap bk:Nat) (hH:HoldsK Mo.row 3 w blk 0 l.toArray) (hblk:blk < w.heap.size) (hbk:w.cell? ⟨bk,0,none⟩=some (.func (.func 139) #[] #[])) (hne:bk ≠ blk) :
 Calls Tryz.prog 177 #[.slice (some ⟨blk,0,none⟩) l.length cap,.func (.func 178) #[] #[.pointer (some ⟨bk,0,none⟩)]] w (SortEnd w blk l):=by
 have HS:=Lib.hid (stable_mo l hl w blk cap bk hH hblk hbk hne)
 clear hH hbk
 go_enter Tryz.func177,Tryz.ntmps177
 go_wp2_with fail
 refine HS.out.mono ?_
 rintro e w1 ⟨rfl,n,os,hw1⟩
 have HW:=Lib.hid hw1
 clear hw1
 go_wp2_with fail
 go_end0
 exact ⟨rfl,n,os,HW.out⟩
def ByEnd (w:World) (blk:Nat) (l:List Mo) (e:Ending) (w':World):Prop:=e=.returned (.tuple #[])∧KeepC (fun i=>i=blk) w w'∧HoldsK Mo.row 3 w' blk 0 (insertionSort (ltOf cfM) l.toArray 0 l.length)∧∀ t cs,Blk w blk t cs→∃ cs',Blk w' blk t cs'
set_option maxHeartbeats 1600000 in
theorem by_mo (l:List Mo) (hl:l.length < 20) (w:World) (blk cap:Nat) (hH:HoldsK Mo.row 3 w blk 0 l.toArray) (hblk:blk < w.heap.size) (hu:¬ U8 w blk) :
 Calls Tryz.prog 138 #[.slice (some ⟨blk,0,none⟩) l.length cap,.func (.func 139) #[] #[]] w (ByEnd w blk l):=by
 have hb:=Blk.new w 206 #[.func (.func 139) #[] #[]]
 have hb0:=below_box w (.cells #[.func (.func 139) #[] #[]] 206)
 have hH1:HoldsK Mo.row 3 (w.alloc (.cells #[.func (.func 139) #[] #[]] 206)) blk 0 l.toArray:=fun j hj=>by
  have:=hH j hj
  refine ⟨(World.cell?_alloc_lt _ _ _ hblk).trans this.1,?_⟩
  rw [← this.2]
  exact World.frozen?_of_block (hb0.block blk hblk)
 have hu1:¬ U8 (w.alloc (.cells #[.func (.func 139) #[] #[]] 206)) blk:=fun h=>hu (by
  obtain ⟨cs,fz,h⟩:=h
  exact ⟨cs,fz,(hb0.block blk hblk).symm.trans h⟩)
 have hS:=sort_mo l hl _ blk cap w.heap.size hH1 (by simp;omega) (hb.cell 0) (by omega)
 have HS:=Lib.hid hS
 have HH:=Lib.hid (And.intro hH1 (And.intro hu1 hb0))
 clear hS hH1 hH hb hu1 hb0
 go_enter Tryz.func138,Tryz.ntmps138
 go_wp2_with fail
 refine HS.out.mono ?_
 intro e w1 h1
 have HE:=Lib.hid h1
 obtain ⟨rfl,-⟩:=h1
 go_wp2_with fail
 go_end0
 have hk:=HE.out.keep HH.out.2.1
 refine ⟨rfl,(KeepC.of_below HH.out.2.2).trans hk (fun i _ h=>h),?_⟩
 obtain ⟨-,n,os,rfl⟩:=HE.out
 exact ⟨holdsK_sortWorldK_c Mo.row 3 _ blk 0 l.toArray _ n os HH.out.1 (by simp;omega) (sortM_size l),fun t cs h=>blk_sortW (h.below HH.out.2.2 h.lt)⟩
end Go.Proofs.YtkgflepgkhnclaaGreatDoor
namespace Go.Proofs.YtkgflepgkhnclaaGreatDoor
set_option linter.unusedVariables false
set_option linter.unusedSimpArgs false
open Go.RowKit Go.Shelf
attribute [local go_sem] run_store_complex
variable {Xa Xb Xc Xd Xe Xf Xg Xh Xi Xj Xk Xl Xm Xn Xo Xp Xq Xr Xs Xt Xu Xv Xw Xx Xy Xz Ya Yb Yc Yd Ye Yf Yg Yh Yi Yj Yk Yl Ym Yn Yo Yp Yq Yr Ys Yt Yu Yv Yw Yx Yy Yz Za Zb Zc Zd Ze Zf Zg Zh Zi Zj Zk Zl Zm Zn Zo Zp Zq Zr Zs Zt Zu Zv Zw Zx Zy Zz Ja Jb Jc Jd Je Jf Jg Jh Ji Jj Jk Jl Jm Jn Jo Jp Jq Jr Js Jt Ju Jv Jw Jy Jz Va Vb Vc Vd Ve Vf Vg Vh Vi Vj Vk Vl Vm Vn Vo Vp Vq Vr Vs Vt Vu Vv Vw Vx Vy Vz Oa Ob Oc Od Oe Og Oh Oi Oj Ok Ol Om On Oo Oq Ot Ou Ov Ox Oy Oz Ha Hb Hc He Hf Hg Hh Hi Hj Hk Hl Hm Hn Ho Hp Hq Hr Hs Ht Hu Hv Hw Hx Hy Hz Ia Ib Ic Id Ie If Ig Ih Ii Ij Ik Il Im In Io Ip Iq Ir It Iu Iv Iw Ix Iy Iz Ua Ub Uc Ud Ue Uf Ug Uh Ui Uj Uk Ul:Value}
theorem st_cells {W:World} {g:Nat} {t:TypeId} {n0 n1 n2 n3 n4 n5 n6 n7 n8 n9:Int} {fa fb:Nat} (H:Blk W g t #[.int .u64 n0,.int .u64 n1,.int .u64 n2,.int .u64 n3,.int .u64 n4,.int .u64 n5,.int .u64 n6,.int .u64 n7,.int .u64 n8,.int .u64 n9,.complex .f64 fa fb]):W.cell? ⟨g,0,none⟩=some (.int .u64 n0)∧W.cell? ⟨g,1,none⟩=some (.int .u64 n1)∧W.cell? ⟨g,2,none⟩=some (.int .u64 n2)∧W.cell? ⟨g,3,none⟩=some (.int .u64 n3)∧W.cell? ⟨g,4,none⟩=some (.int .u64 n4)∧W.cell? ⟨g,5,none⟩=some (.int .u64 n5)∧W.cell? ⟨g,6,none⟩=some (.int .u64 n6)∧W.cell? ⟨g,7,none⟩=some (.int .u64 n7)∧W.cell? ⟨g,8,none⟩=some (.int .u64 n8)∧W.cell? ⟨g,9,none⟩=some (.int .u64 n9)∧W.cell? ⟨g,10,none⟩=some (.complex .f64 fa fb):=⟨H.cell 0,H.cell 1,H.cell 2,H.cell 3,H.cell 4,H.cell 5,H.cell 6,H.cell 7,H.cell 8,H.cell 9,H.cell 10⟩
theorem infoEv:(Tryz.prog.info? 161).map (·.size)=some 18:=by kernel_rfl
theorem zst_one:(#[.int .u64 0,.int .u64 0,.int .u64 0,.int .u64 0,.int .u64 0,.int .u64 0,.int .u64 0,.int .u64 0,.int .u64 0,.int .u64 0,.complex .f64 0 0]:Array Value).all (·.oneCell')=true:=by simp [Value.oneCell']
set_option maxHeartbeats 3200000 in
set_option maxRecDepth 100000 in
theorem after_end {w W:World} {gm:Nat} {q:Bool} (hB:AfB w w.heap.size (w.heap.size + 1) gm W) :
 Code.wp Tryz.prog (part Tryz.f93 [1,1,1,1]) (bodyPost Tryz.prog Tryz.f93 (SomeS w)) ⟨#[Xa,Xb,.pointer (some ⟨w.heap.size,0,none⟩),Xd,.pointer (some ⟨w.heap.size + 1,0,none⟩),Xf,Xg,.bool q,Xi,Xj,Xk,Xl,Xm,Xn,Xo,Xp,Xq,Xr,Xs,Xt,Xu,Xv,Xw,Xx,Xy,Xz,Ya,Yb,Yc,Yd,Ye,Yf,Yg,Yh,Yi,Yj,Yk,Yl,Ym,Yn,Yo,Yp,Yq,Yr,Ys,Yt,Yu,Yv,Yw,Yx,Yy,Yz,Za,Zb,Zc,Zd,Ze,Zf,Zg,Zh,Zi,Zj,Zk,Zl,Zm,Zn,Zo,Zp,Zq,Zr,Zs,Zt,Zu,Zv,Zw,Zx,Zy,Zz,Ja,Jb,Jc,Jd],[]⟩ W:=by
 conv=>arg 2;whnf
 obtain ⟨cs,r1,r2⟩:=hB.res
 obtain ⟨st,hst,hb⟩:=hB.box
 obtain ⟨n0,n1,n2,n3,n4,n5,n6,n7,n8,n9,fa,fb,rfl⟩:=stOk_list hst
 obtain ⟨c0,c1,c2,c3,c4,c5,c6,c7,c8,c9,c10⟩:=st_cells hb
 have HS:=Lib.hid hst
 have HB:=Lib.hid hB
 have HR:=Lib.hid (And.intro r1 r2)
 have hth:=there_blk r1 (n:=11) (by omega)
 clear hst hB r1 r2 hb
 cases q
 · go_wp2_with (refine wpList_store_mid rfl 50 (.tmp 4) (.tmp 80) rfl (w.heap.size + 1) 0 #[.int .u64 0,.int .u64 0,.int .u64 0,.int .u64 0,.int .u64 0,.int .u64 0,.int .u64 0,.int .u64 0,.int .u64 0,.int .u64 0,.complex .f64 0 0] rfl rfl hth infoStat zst_one ?_)
   refine bodyPost_ret (v:=.tuple #[.agg #[.int .u64 0,.int .u64 0,.int .u64 0,.int .u64 0,.int .u64 0,.int .u64 0,.int .u64 0,.int .u64 0,.int .u64 0,.int .u64 0,.complex .f64 0 0],.bool false]) ?_ rfl ?_
   · exact results_cell_tmp Tryz.results93 rfl rfl (blk_setAll HR.out.1 HR.out.2) Tryz.underlying50 rfl infoStat
   · exact ⟨st0,false,st0_ok,rfl,below_sets _ (Nat.le_succ _) _ _ _ HB.out.bel⟩
 · go_wp2_with (refine wpList_store_mid rfl 50 (.tmp 4) (.tmp 81) rfl (w.heap.size + 1) 0 #[.int .u64 n0,.int .u64 n1,.int .u64 n2,.int .u64 n3,.int .u64 n4,.int .u64 n5,.int .u64 n6,.int .u64 n7,.int .u64 n8,.int .u64 n9,.complex .f64 fa fb] rfl rfl hth infoStat (by simp [Value.oneCell']) ?_)
   refine bodyPost_ret (v:=.tuple #[.agg #[.int .u64 n0,.int .u64 n1,.int .u64 n2,.int .u64 n3,.int .u64 n4,.int .u64 n5,.int .u64 n6,.int .u64 n7,.int .u64 n8,.int .u64 n9,.complex .f64 fa fb],.bool true]) ?_ rfl ?_
   · exact results_cell_tmp Tryz.results93 rfl rfl (blk_setAll HR.out.1 HR.out.2) Tryz.underlying50 rfl infoStat
   · exact ⟨_,true,HS.out,rfl,below_sets _ (Nat.le_succ _) _ _ _ HB.out.bel⟩
end Go.Proofs.YtkgflepgkhnclaaGreatDoor
