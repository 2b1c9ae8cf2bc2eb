/- Layer 27: order: Copy. Layer 27: order: same. Layer 27: OrderModels: SamePairs, SameInts, SameStat, SameAnswer on what is the same. Layer 27: OrderModels: the reference's order of strings. Layer 27: slices.ContainsFunc on handles with a model's Good. Walks: burgagelaw27.Made. Walks: burgagelaw27.Made, handles and keys. Walks: burgagelaw27.Made, texts and numbers. Walks: burgagelaw27.Made, the switch. Walks: burgagelaw27.Made, the deed. -/
import Derived.Test.YtkgflepgkhnclaaGreatDoorMd
import Derived.Test.YtkgflepgkhnclaaGreatDoorMa
import Derived.Deep.QuietTactic
import Derived.BigQuiet
import Derived.Laws.BitsAllLaws
namespace Go.Proofs.YtkgflepgkhnclaaGreatDoor
set_option linter.unusedVariables false
set_option linter.unusedSimpArgs false
open Go.RowKit Go.Shelf
attribute [local go_sem] run_store_complex
section
variable {P:Program}
theorem run_index_agg (w:World) (t e:TypeId) (n:Nat) (cs:Array Value) (k:IntKind) (i size:Nat) (h:P.underlying t=some (.array n e)) (hi:i < n) (ha:∀ w,(isAgg e).run P w=.ok true w) (hs:∀ w,(sizeOf e).run P w=.ok size w) :
 (Instr.index t (.agg cs) (.int k (i:Int))).run P w=.ok (.agg (cs.extract (i * size) (i * size + size))) w:=by
 have h1:(0:Int) ≤ (i:Int)∧(i:Int) < (n:Int):=by omega
 unfold Instr.index
 simp [run_underlying h,hs,Go.part,asIntOf,ha,hi]
theorem wpList_index_agg {ops:Array Oper} {rest:List Oper} {op:Oper} {a:Act} {w:World} {Q:Exit→Act→World→Prop} (hgd:op.guard=none) (t:TypeId) (x y:Operand) (ho:op.op=.index t x y) (e:TypeId) (n:Nat) (cs:Array Value) (i size:Nat)
 (hx:a.eval x=.agg cs) (hy:a.eval y=.int .i64 (i:Int)) (h:P.underlying t=some (.array n e)) (hi:i < n) (ha:∀ w,(isAgg e).run P w=.ok true w) (hs:∀ w,(sizeOf e).run P w=.ok size w)
 (hK:wpList P ops Q rest (a.put op.dst (.agg (cs.extract (i * size) (i * size + size)))) w):wpList P ops Q (op :: rest) a w:=by
 refine wpList_plain hgd fun K' hK'=>?_
 unfold Oper.wp
 simp [execOp,ho,hx,hy,run_index_agg w t e n cs .i64 i size h hi ha hs,Result.andThen]
 exact hK' _ _ hK
end
def zeroM:Array Value:=(Value.bool false :: (List.range 17).flatMap (fun _=>ten0.cells ⟨0,0,none⟩)).toArray
theorem infoMdl:(Tryz.prog.info? 78).map (·.size)=some 256:=by kernel_rfl
theorem infoAll:(Tryz.prog.info? 76).map (·.size)=some 255:=by kernel_rfl
theorem mcells_one {M:Mdl} {T:Ows} (h:∀ t,(M t).ok):(mcells M T).toArray.all (·.oneCell')=true:=by
 rw [List.all_toArray,List.all_eq_true]
 intro v hv
 unfold mcells at hv
 rcases List.mem_cons.1 hv with rfl | hv
 · rfl
 · obtain ⟨t,_,ht⟩:=List.mem_flatMap.1 hv
   exact Ten.cells_one (h t) v ht
def mrow (M:Mdl) (T:Ows):List Value:=(List.range 17).flatMap (fun t=>(M t).cells (T t))
theorem mrow_len {M:Mdl} {T:Ows} (h:∀ t,(M t).ok):(mrow M T).length=255:=by
 have:=mcells_len (T:=T) h
 unfold mcells at this
 rw [List.length_cons] at this
 unfold mrow
 omega
theorem mrow_at {M:Mdl} {T:Ows} (h:∀ t,(M t).ok) {k:Nat} (hk:k < 17):(mrow M T).toArray.extract (k * 15) (k * 15 + 15)=((M k).cells (T k)).toArray:=by
 have h1:=flat_drop (f:=fun t=>(M t).cells (T t)) (m:=15) (fun x=>Ten.cells_len (h x)) (List.range 17) k (by simpa using hk)
 have ex:∀ (l:List Value) (a b:Nat),l.extract a b=(l.drop a).take (b - a):=fun _ _ _=>rfl
 rw [List.extract_toArray,ex]
 unfold mrow
 rw [h1,List.getElem_range]
 rw [show k * 15 + 15 - k * 15=((M k).cells (T k)).length by rw [Ten.cells_len (h k)];omega,List.take_left']
 rfl
theorem stored_new {w:World} {t:TypeId} {lit cells:Array Value} (hs:lit.size=cells.size):Blk ((w.alloc (.cells lit t)).setCells w.heap.size 0 cells.toList) w.heap.size t cells∧Below w.heap.size w ((w.alloc (.cells lit t)).setCells w.heap.size 0 cells.toList):=by
 refine ⟨blk_setAll (Blk.new w t lit) hs,?_⟩
 obtain ⟨h1,h2,h3,h4,h5⟩:=sets_same w.heap.size cells.toList 0 (w.alloc (.cells lit t))
 have hb:=below_box w (.cells lit t)
 exact ⟨h1.trans hb.os,h2.trans hb.tape,h3.trans hb.output,by have:=hb.size;omega,fun i hi=>(h5 i (by omega)).trans (hb.block i hi)⟩
theorem fm_congr {α β:Type} {f g:α→List β}:∀ l:List α,(∀ x ∈ l,f x=g x)→l.flatMap f=l.flatMap g
 | [],_=>rfl
 | x :: l,h=>by rw [List.flatMap_cons,List.flatMap_cons,h x (by simp),fm_congr l (fun y hy=>h y (by simp [hy]))]
def mixO (k:Nat) (O T:Ows):Ows:=fun t=>if t < k then O t else T t
structure CpI (w wr:World) (g k:Nat) (M:Mdl) (T O:Ows):Prop where
 blk:Blk wr g 78 (mcells M (mixO k O T)).toArray
 bk:∀ t B,t < k→(M t).bk=some B→BkAt wr (O t) B∧∀ i,(O t).has i→g < i∧i < wr.heap.size
 apart:∀ t s i,t < k→s < k→t ≠ s→(M t).bk.isSome→(M s).bk.isSome→(O t).has i→¬ (O s).has i
 bel:Below w.heap.size w wr
 ge:w.heap.size ≤ g
theorem cells_none {t:Ten} (h:t.bk=none) (o o':Ow):t.cells o=t.cells o':=by
 unfold Ten.cells Ten.ptr
 rw [h]
 rfl
theorem CpI.below {w wr w':World} {g k:Nat} {M:Mdl} {T O:Ows} (h:CpI w wr g k M T O) (hb:Below wr.heap.size wr w'):CpI w w' g k M T O :=
 ⟨h.blk.below hb h.blk.lt,fun t B ht hB=>⟨(h.bk t B ht hB).1.below hb,fun i hi=>⟨((h.bk t B ht hB).2 i hi).1,Nat.lt_of_lt_of_le ((h.bk t B ht hB).2 i hi).2 hb.size⟩⟩,h.apart,below_trans h.bel hb,h.ge⟩
theorem CpI.skip {w wr:World} {g k:Nat} {M:Mdl} {T O:Ows} (h:CpI w wr g k M T O) (hb:(M k).bk=none):CpI w wr g (k + 1) M T O:=by
 have e:mcells M (mixO (k + 1) O T)=mcells M (mixO k O T):=by
  unfold mcells
  congr 1
  refine fm_congr _ (fun t ht=>?_)
  by_cases e:t=k
  · subst e;exact cells_none hb _ _
  · unfold mixO
    by_cases h1:t < k
    · rw [if_pos h1,if_pos (by omega)]
    · rw [if_neg h1,if_neg (by omega)]
 have ne:∀ {t:Nat},(M t).bk.isSome→t < k + 1→t < k:=fun {t} hs ht=>by
  rcases Nat.lt_or_ge t k with h1 | h1
  · exact h1
  · obtain rfl:t=k:=by omega
    rw [hb] at hs;cases hs
 exact ⟨by rw [e];exact h.blk,fun t B ht hB=>h.bk t B (ne (by rw [hB];rfl) ht) hB,fun t s i ht hs hne h1 h2=>h.apart t s i (ne h1 ht) (ne h2 hs) hne h1 h2,h.bel,h.ge⟩
theorem CpI.take {w wr w1:World} {g k:Nat} {M:Mdl} {T O:Ows} {B:Bk} {o:Ow} (h:CpI w wr g k M T O) (hk:k < 17) (hok:∀ t,(M t).ok) (hB:(M k).bk=some B) (hb:Below wr.heap.size wr w1) (hbk:BkAt w1 o B) (ho:∀ i,o.has i→wr.heap.size ≤ i) :
 CpI w (w1.setCell ⟨g,1 + k * 15 + 3,none⟩ (.pointer (some ⟨o.b,0,none⟩))) g (k + 1) M T (updO O k o):=by
 have h1:=h.below hb
 have hgl:=h.blk.lt
 have hs:∀ i,i ≠ g→(w1.setCell ⟨g,1 + k * 15 + 3,none⟩ (.pointer (some ⟨o.b,0,none⟩))).heap[i]?=w1.heap[i]?:=fun i hi=>Below.heap_setCell w1 _ _ i hi
 have kk:KeepC (fun i=>i=g) w1 (w1.setCell ⟨g,1 + k * 15 + 3,none⟩ (.pointer (some ⟨o.b,0,none⟩))):=(KeepC.refl (fun i=>i=g) w1).setCell h1.blk (by decide) (fun _=>rfl) _ _
 have hq:=h1.blk.set_ (1 + k * 15 + 3) (.pointer (some ⟨o.b,0,none⟩))
 refine ⟨mcells_of hq (by simp [mcells_len hok]) hok ?_ ?_,fun t B' ht hB'=>?_,fun t s i ht hs' hne ht1 hs1 hti=>?_,h1.bel.setCell (p:=⟨g,1 + k * 15 + 3,none⟩) h.ge _,h.ge⟩
 · rw [hq.cell,Array.getElem?_setIfInBounds_ne (by omega)]
   rfl
 · intro t j v ht hv
   have hj:j < 15:=by
    have:=(List.getElem?_eq_some_iff.1 hv).1
    rwa [Ten.cells_len (hok t)] at this
   by_cases e:t=k∧j=3
   · obtain ⟨rfl,rfl⟩:=e
     have e2:mixO (t + 1) (updO O t o) T t=o:=by unfold mixO;rw [if_pos (by omega),updO_self]
     rw [e2] at hv
     unfold Ten.cells Ten.ptr at hv
     rw [hB] at hv
     simp at hv
     rw [hq.cell,Array.getElem?_setIfInBounds_self_of_lt (by simp [mcells_len hok];omega),← hv]
   · rw [hq.cell,Array.getElem?_setIfInBounds_ne (by
        intro e2
        have:t=k:=by omega
        subst this
        exact e ⟨rfl,by omega⟩)]
     rw [List.getElem?_toArray,mcell hok ht hj,← hv]
     by_cases e3:t=k
     · subst e3
       have hj3:j ≠ 3:=fun e4=>e ⟨rfl,e4⟩
       unfold Ten.cells
       match j,hj3 with
       | 0,_=>rfl
       | 1,_=>rfl
       | 2,_=>rfl
       | j + 4,_=>rfl
     · unfold mixO
       by_cases h2:t < k
       · rw [if_pos h2,if_pos (by omega),updO_ne e3]
       · rw [if_neg h2,if_neg (by omega)]
 · by_cases e:t=k
   · subst e
     rw [updO_self]
     rw [hB] at hB'
     injection hB' with hB'
     subst hB'
     refine ⟨hbk.keep kk (fun i hi e2=>by have:=ho i hi;omega),fun i hi=>⟨by have:=ho i hi;omega,?_⟩⟩
     have:=hbk.lt hi
     simpa using this
   · rw [updO_ne e]
     obtain ⟨a1,a2⟩:=h1.bk t B' (by omega) hB'
     exact ⟨a1.keep kk (fun i hi e2=>by have:=(a2 i hi).1;omega),fun i hi=>⟨(a2 i hi).1,by simpa using (a2 i hi).2⟩⟩
 · have old:∀ {t:Nat},t < k + 1→t ≠ k→(M t).bk.isSome→∀ i,(updO O k o t).has i→i < wr.heap.size:=fun {t} ht e hs2 i hi=>by
    rw [updO_ne e] at hi
    obtain ⟨B2,hB2⟩:=Option.isSome_iff_exists.1 hs2
    exact ((h.bk t B2 (by omega) hB2).2 i hi).2
   by_cases e1:t=k
   · subst e1
     intro hsi
     have h3:=old hs' (Ne.symm hne) hs1 i hsi
     rw [updO_self] at hti
     have:=ho i hti
     omega
   · by_cases e2:s=k
     · subst e2
       intro hsi
       have h3:=old ht e1 ht1 i hti
       rw [updO_self] at hsi
       have:=ho i hsi
       omega
     · rw [updO_ne e1] at hti
       rw [updO_ne e2]
       exact h.apart t s i (by omega) (by omega) hne ht1 hs1 hti
def CopyM (M:Mdl) (w:World) (e:Ending) (w':World):Prop :=
 ∃ g O,e=.returned (.pointer (some ⟨g,0,none⟩))∧ModelAt w' g M O∧(∀ i,mown g M O i→w.heap.size ≤ i)∧Below w.heap.size w w'
theorem CpI.done {w wr:World} {g:Nat} {M:Mdl} {T O:Ows} (h:CpI w wr g 17 M T O) (hok:∀ t,(M t).ok):CopyM M w (.returned (.pointer (some ⟨g,0,none⟩))) wr:=by
 have e:mcells M (mixO 17 O T)=mcells M O:=by
  unfold mcells
  congr 1
 refine ⟨g,O,rfl,⟨by rw [← e];exact h.blk,hok,fun t B ht hB=>(h.bk t B ht hB).1,h.apart⟩,fun i hi=>?_,h.bel⟩
 rcases hi with rfl | ⟨t,ht,hs,hi⟩
 · exact h.ge
 · obtain ⟨B,hB⟩:=Option.isSome_iff_exists.1 hs
   have h1:=((h.bk t B ht hB).2 i hi).1
   have h2:=h.ge
   omega
set_option maxHeartbeats 6400000 in
set_option maxRecDepth 100000 in
theorem Copy_m {w:World} {p:Nat} {M:Mdl} {T:Ows} (hm:ModelAt w p M T) (hsm:Small M):Calls Tryz.prog 15 #[.pointer (some ⟨p,0,none⟩)] w (CopyM M w):=by
 have HN:=Lib.hid (none_m hm)
 have HM:=Lib.hid hm
 have HS:=Lib.hid hsm
 have hok:=hm.ok
 have HOK:=Lib.hid hok
 have hrng:w.rangeAt p 0 (mcells M T):=range_blk hm.blk
 have HR:=Lib.hid hrng
 clear hm hsm hok hrng
 go_enter Tryz.func15,Tryz.ntmps15
 refine wp_seq_k fun K0 hK=>?_
 have HK0:=Lib.hid hK
 clear hK
 go_wp2_with fail
 refine HK0.out _ _ ?_
 clear HK0
 refine wp_seq_k fun K0 hK=>?_
 have HK0:=Lib.hid hK
 clear hK
 go_wp2_with fail
 refine HN.out.mono ?_
 rintro e w1 ⟨rfl,rfl⟩
 go_wp2_with fail
 refine HK0.out _ _ ?_
 clear HK0
 refine wp_seq_k fun K0 hK=>?_
 have HK0:=Lib.hid hK
 clear hK
 go_wp2_with (first
  | (refine wpList_load_mid rfl 78 (.tmp 9) rfl p 0 rfl _ _ HR.out Tryz.underlying78 rfl (by rw [mcells_len HOK.out];exact infoMdl) ?_)
  | (refine wpList_store_mid rfl 78 (.tmp 3) (.tmp 10) rfl w1.heap.size 0 (mcells M T).toArray rfl rfl (there_blk (Blk.new w1 78 _) (by rw [List.size_toArray,mcells_len HOK.out];exact Nat.le_refl 256)) (by rw [List.size_toArray,mcells_len HOK.out];exact infoMdl) (mcells_one HOK.out) ?_))
 refine HK0.out _ _ ?_
 clear HK0
 have hst:=stored_new (w:=w1) (t:=78) (lit:=Tryz.zeroCells78) (cells:=(mcells M T).toArray) (by rw [show (mcells M T).toArray.size=256 by simp [mcells_len HOK.out]];kernel_rfl)
 have HST:=Lib.hid hst
 clear hst
 try simp only [Act.put]
 dsimp only at HST ⊢
 generalize (w1.alloc (.cells Tryz.zeroCells78 78)).setCells w1.heap.size 0 (mcells M T)=W2 at HST ⊢
 have hrow:W2.rangeAt w1.heap.size 1 (mrow M T):=fun j v hj=>by
  rw [HST.out.1.cell,List.getElem?_toArray,show 1 + j=j + 1 by omega]
  unfold mcells
  rw [List.getElem?_cons_succ]
  exact hj
 have h0:CpI w1 W2 w1.heap.size 0 M T T:=by
  refine ⟨?_,fun t B ht=>by omega,fun t s i ht=>by omega,HST.out.2,Nat.le_refl _⟩
  have e:mixO 0 T T=T:=by funext t;unfold mixO;split <;> rfl
  rw [e]
  exact HST.out.1
 have HRW:=Lib.hid hrow
 have H0:=Lib.hid h0
 clear hrow h0
 refine wp_seq_k fun K0 hK=>?_
 have HK0:=Lib.hid hK
 clear hK
 refine wp_seq_k fun K1 hK=>?_
 have HK1:=Lib.hid hK
 clear hK
 go_wp2_with (refine wpList_load_mid rfl 76 (.tmp 11) rfl w1.heap.size 1 rfl _ _ HRW.out Tryz.underlying76 rfl (by rw [mrow_len HOK.out];exact infoAll) ?_)
 refine HK1.out _ _ ?_
 clear HK1
 go_wp2_with fail
 have hokk:=HOK.out
 have HG:=Lib.hid H0.out.blk.lt
 generalize w1.heap.size=g at *
 go_loopw [13] (fun i wr=>∃ (k:Nat) (O:Ows),k ≤ 17∧i=.int .i64 (k:Nat)∧Hid (CpI w1 wr g k M T O)) (fun i _=>17 - (intOf i).toNat)
 case atStart=>exact ⟨0,T,by omega,rfl,H0⟩
 case round =>
  obtain ⟨k,O,hk,rfl,hw⟩:=hrel
  by_cases hlt:k < 17
  · have i1:(0:Int) ≤ (k:Int):=by omega
    have i2:(k:Int) < 17:=by omega
    refine wp_seq_k fun K2 hK=>?_
    have HK2:=Lib.hid hK
    clear hK
    go_wp2_with fail
    refine HK2.out _ _ ?_
    clear HK2
    refine wp_seq_k fun K2 hK=>?_
    have HK2:=Lib.hid hK
    clear hK
    go_wp2_with fail
    refine HK2.out _ _ ?_
    clear HK2
    refine wp_seq_k fun K2 hK=>?_
    have HK2:=Lib.hid hK
    clear hK
    refine wp_block ?_
    refine wp_seq_k fun K3 hK=>?_
    have HK3:=Lib.hid hK
    clear hK
    go_wp2_with (first
        | (refine wpList_index_agg rfl 76 (.tmp 12) (.tmp 13) rfl 75 17 (mrow M T).toArray k 15 rfl rfl Tryz.underlying76 hlt Tryz.isAgg75 Tryz.sizeOf75 ?_;rw [mrow_at hokk hlt])
        | (refine wpList_store_mid rfl 75 (.tmp 5) (.tmp 16) rfl wr.heap.size 0 ((M k).cells (T k)).toArray rfl rfl (there_blk (Blk.new wr 75 _) (by rw [List.size_toArray,Ten.cells_len (hokk k)];exact Nat.le_refl 15)) (by rw [List.size_toArray,Ten.cells_len (hokk k)];exact infoTen) (by rw [List.all_toArray,List.all_eq_true];exact Ten.cells_one (hokk k)) ?_))
    have hst:=stored_new (w:=wr) (t:=75) (lit:=#[.int .u32 0,.int .u64 0,.int .u64 0,.pointer none,.int .u64 0,.int .u64 0,.int .u64 0,.int .u64 0,.int .u64 0,.int .u64 0,.int .u64 0,.int .u64 0,.int .u64 0,.int .u64 0,.complex .f64 0 0]) (cells:=((M k).cells (T k)).toArray) (by rw [show ((M k).cells (T k)).toArray.size=15 by simp [Ten.cells_len (hokk k)]];rfl)
    have c5:=hst.1.cell 3
    rw [List.getElem?_toArray,show ((M k).cells (T k))[3]?=some ((M k).ptr (T k)) from rfl] at c5
    have hw2:=hw.out.below hst.2
    have hbe:=hst.1
    have HBW:=Lib.hid hst.2
    clear hst
    dsimp only at hbe hw2 c5 HBW ⊢
    refine HK3.out _ _ ?_
    clear HK3
    try simp only [Act.put]
    generalize (wr.alloc (.cells #[.int .u32 0,.int .u64 0,.int .u64 0,.pointer none,.int .u64 0,.int .u64 0,.int .u64 0,.int .u64 0,.int .u64 0,.int .u64 0,.int .u64 0,.int .u64 0,.int .u64 0,.int .u64 0,.complex .f64 0 0] 75)).setCells wr.heap.size 0 ((M k).cells (T k))=W2 at hw2 hbe c5 HBW ⊢
    have HW2:=Lib.hid hw2
    unfold Ten.ptr at c5
    have hgl:=hw2.blk.lt
    have hq3:(mcells M (mixO k O T)).toArray[1 + k * 15 + 3]?=some ((M k).ptr (mixO k O T k)):=by rw [List.getElem?_toArray,mcell hokk hlt (by omega)];rfl
    have cg:=hw2.blk.cell (1 + k * 15 + 3)
    rw [hq3] at cg
    have cf:=hw2.blk.frozen (1 + k * 15 + 3)
    unfold Ten.ptr at cg
    clear hw2 hbe hq3
    cases hB:(M k).bk with
    | none =>
      rw [hB] at c5
      simp only [Option.map_none] at c5
      clear cg cf
      go_wp2_with fail
      refine HK2.out _ _ ?_
      clear HK2
      go_wp2_with fail
      go_roundw
      case rel=>exact ⟨k + 1,O,by omega,by go_num,Lib.hid (HW2.out.skip hB)⟩
      case measure=>simp [intOf];omega
    | some B =>
      rw [hB] at c5 cg
      simp only [Option.map_some] at c5 cg
      have hHB:=Lib.hid hB
      have HC:=Lib.hid (copy_b ((HM.out.bk k B hlt hB).below HW2.out.bel) (HS.out k B hB))
      clear hB
      go_wp2_with fail
      refine HC.out.mono ?_
      rintro e w5 ⟨o,rfl,hbk5,ho5,hb5⟩
      have cg5:=(hb5.cell (p:=⟨g,1 + k * 15 + 3,none⟩) hgl).trans cg
      have cf5:w5.frozen? ⟨g,1 + k * 15 + 3,none⟩=false:=(HW2.out.below hb5).blk.frozen _
      have HT:=Lib.hid (HW2.out.take hlt HOK.out hHB.out hb5 hbk5 ho5)
      have hgl5:=Nat.lt_of_lt_of_le hgl hb5.size
      clear hbk5 ho5 hb5 cg cf c5
      go_wp2_with fail
      refine HK2.out _ _ ?_
      clear HK2
      go_wp2_with fail
      go_roundw
      case rel=>exact ⟨k + 1,_,by omega,by go_num,HT⟩
      case measure=>simp [intOf];omega
  · obtain rfl:k=17:=by omega
    go_wp2_with fail
    refine HK0.out _ _ ?_
    go_wp2_with fail
    go_ret
    exact hw.out.done HOK.out
theorem run_equalIn_complex {P:Program} (w:World) (d:Nat) (t:TypeId) (k:FloatKind) (a b a' b':Nat) (h:P.underlying t=some (.complex k)):(Op.equalIn (d + 1) t (.complex k a b) (.complex k a' b')).run P w=.ok (Op.floatEq k a a' && Op.floatEq k b b') w:=by
 simp [Op.equalIn,run_underlying h]
theorem guardStat:Tryz.prog.eqGuardType Tryz.prog.depth 50=false:=by kernel_rfl
theorem eqlStat (W:World):(binOp .eql 50 (.agg #[.int .u64 0,.int .u64 0,.int .u64 0,.int .u64 0,.int .u64 0,.int .u64 0,.int .u64 0,.int .u64 0,.int .u64 0,.int .u64 0,.complex .f64 0 0]) (.agg #[.int .u64 0,.int .u64 0,.int .u64 0,.int .u64 0,.int .u64 0,.int .u64 0,.int .u64 0,.int .u64 0,.int .u64 0,.int .u64 0,.complex .f64 0 0])).run Tryz.prog W=.ok (.bool true) W:=by
 have u0:=Tryz.underlying27
 have a0:=Tryz.isAgg27
 have z0:=Tryz.sizeOf27
 have u1:=Tryz.underlying48
 have a1:=Tryz.isAgg48
 have z1:=Tryz.sizeOf48
 have hS:Tryz.prog.underlying 50=some (.struct (Tryz.prog.fieldsOf 50)):=by kernel_rfl
 have hp:Tryz.prog.stoodInHeld 50=false:=by kernel_rfl
 rw [run_eql_struct,show (10000:Nat)=9999 + 1 from rfl,run_equalIn_agg W 9999 50 _ _ hS hp]
 clear hS
 simp only [Program.fieldsOf,Tryz.underlying50]
 go_simp
 have hc:(Op.equalIn 9999 48 (.complex .f64 0 0) (.complex .f64 0 0)).run Tryz.prog W=.ok true W:=by
  have hf:Op.floatEq .f64 0 0=true:=by decide +kernel
  have:=run_equalIn_complex (P:=Tryz.prog) W 9998 48 .f64 0 0 0 0 u1
  rw [hf] at this
  exact this
 rw [hc]
 rfl
set_option maxHeartbeats 3200000 in
set_option maxRecDepth 100000 in
theorem same_prs (A B:Option Addr) (ca cb:Nat) (l:List Kv) (W1 W2:Nat) (w:World) (hs:l.length ≤ 1000000) (hA:Reads w W1 2 A l.length (l.flatMap pairR)) (hB:Reads w W2 2 B l.length (l.flatMap pairR)) :
 Calls Tryz.prog 44 #[.slice A l.length ca,.slice B l.length cb] w (SameEnd true w):=by
 have HA:=Lib.hid hA
 have HB:=Lib.hid hB
 clear hA hB
 have hlb:((l.length:Int) != (l.length:Int))=false:=by simp
 go_enter Tryz.func44,Tryz.ntmps44
 go_wp2_with fail
 clear hlb
 go_loopw [5] (fun i wr=>∃ (k:Nat) (n:Nat),k ≤ l.length∧i=.int .i64 k∧Hid (wr=w.drewN n)) (fun i _=>l.length - (intOf i).toNat)
 case atStart=>exact ⟨0,0,by omega,rfl,Lib.hid rfl⟩
 case round =>
  obtain ⟨k,n,hk,rfl,hw⟩:=hrel
  by_cases hlt:k < l.length
  · obtain ⟨ad,rfl,hab,hc⟩:=row_cells pairR_one HA.out rfl hlt
    obtain ⟨bd,rfl,hbb,hd⟩:=row_cells pairR_one HB.out rfl hlt
    have hcc:∀ j u,(pairR l[k])[j]?=some u→wr.cell? ((ad.add (k * 2)).add j)=some u:=by
        intro j u hu
        have h:=hc j u hu
        rw [hw.out,World.cell?_drewN]
        simpa only [Nat.mul_one] using h
    have hdd:∀ j u,(pairR l[k])[j]?=some u→wr.cell? ((bd.add (k * 2)).add j)=some u:=by
        intro j u hu
        have h:=hd j u hu
        rw [hw.out,World.cell?_drewN]
        simpa only [Nat.mul_one] using h
    clear hc hd
    generalize l[k]=x at hcc hdd
    have q0:wr.cell? (ad.add (k * 2))=_:=hcc 0 _ rfl
    have q1:wr.cell? ⟨(ad.add (k * 2)).block,(ad.add (k * 2)).off + 1,none⟩=_:=hcc 1 _ rfl
    have p0:wr.cell? (bd.add (k * 2))=_:=hdd 0 _ rfl
    have p1:wr.cell? ⟨(bd.add (k * 2)).block,(bd.add (k * 2)).off + 1,none⟩=_:=hdd 1 _ rfl
    have i1:(0:Int) ≤ (k:Int):=by omega
    have i2:(k:Int) < (l.length:Int):=by omega
    clear hcc hdd
    have hgd:=guardPair
    have hqe:∀ W,(binOp .neq 57 (.agg #[.string x.1,.string x.2]) (.agg #[.string x.1,.string x.2])).run Tryz.prog W=.ok (.bool false) W:=fun W=>by rw [neqPair,decide_eq_false (fun h=>h rfl)]
    go_wp2_with fail
    go_quiet (fail)
    go_wp2
    go_roundw
    case rel=>exact ⟨k + 1,_,by omega,by go_num,Lib.hid (by rw [hw.out,World.drewN_drewN])⟩
    case measure=>simp [intOf];omega
  · obtain rfl:k=l.length:=by omega
    go_wp2
    go_ret
    exact ⟨rfl,n,hw.out⟩
set_option maxHeartbeats 3200000 in
set_option maxRecDepth 100000 in
theorem same_ints1 (A B:Option Addr) (ca cb:Nat) (l:List Int) (W1 W2:Nat) (w:World) (hs:l.length ≤ 1000000) (hA:Reads w W1 1 A l.length (l.flatMap irow)) (hB:Reads w W2 1 B l.length (l.flatMap irow)) :
 Calls Tryz.prog 47 #[.slice A l.length ca,.slice B l.length cb] w (SameEnd true w):=by
 have HA:=Lib.hid hA
 have HB:=Lib.hid hB
 clear hA hB
 have hlb:((l.length:Int) != (l.length:Int))=false:=by simp
 go_enter Tryz.func47,Tryz.ntmps47
 go_wp2_with fail
 clear hlb
 go_loopw [5] (fun i wr=>∃ (k:Nat) (n:Nat),k ≤ l.length∧i=.int .i64 k∧Hid (wr=w.drewN n)) (fun i _=>l.length - (intOf i).toNat)
 case atStart=>exact ⟨0,0,by omega,rfl,Lib.hid rfl⟩
 case round =>
  obtain ⟨k,n,hk,rfl,hw⟩:=hrel
  by_cases hlt:k < l.length
  · obtain ⟨ad,rfl,hab,hc⟩:=row_cells irow_len HA.out rfl hlt
    obtain ⟨bd,rfl,hbb,hd⟩:=row_cells irow_len HB.out rfl hlt
    have hcc:∀ j u,(irow l[k])[j]?=some u→wr.cell? ((ad.add (k)).add j)=some u:=by
        intro j u hu
        have h:=hc j u hu
        rw [hw.out,World.cell?_drewN]
        simpa only [Nat.mul_one] using h
    have hdd:∀ j u,(irow l[k])[j]?=some u→wr.cell? ((bd.add (k)).add j)=some u:=by
        intro j u hu
        have h:=hd j u hu
        rw [hw.out,World.cell?_drewN]
        simpa only [Nat.mul_one] using h
    clear hc hd
    generalize l[k]=x at hcc hdd
    have q0:wr.cell? (ad.add (k))=_:=hcc 0 _ rfl
    have p0:wr.cell? (bd.add (k))=_:=hdd 0 _ rfl
    have i1:(0:Int) ≤ (k:Int):=by omega
    have i2:(k:Int) < (l.length:Int):=by omega
    clear hcc hdd
    have hqe:(x != x)=false:=by simp
    go_wp2_with fail
    go_quiet (fail)
    go_wp2
    go_roundw
    case rel=>exact ⟨k + 1,_,by omega,by go_num,Lib.hid (by rw [hw.out,World.drewN_drewN])⟩
    case measure=>simp [intOf];omega
  · obtain rfl:k=l.length:=by omega
    go_wp2
    go_ret
    exact ⟨rfl,n,hw.out⟩
theorem fe0:Op.floatEq .f64 0 0=true:=by decide +kernel
theorem part_0 (w:World):Calls Tryz.prog 92 #[.float .f64 0,.float .f64 0] w (fun e w'=>e=.returned (.bool true)∧w'=w):=by
 have hf:=fe0
 go_enter Tryz.func92,Tryz.ntmps92
 go_wp2
 go_ret
 exact ⟨rfl,rfl⟩
theorem eqlStat2 (k b:Int) (W:World):(binOp .eql 50 (.agg #[.int .u64 k,.int .u64 b,.int .u64 0,.int .u64 0,.int .u64 0,.int .u64 0,.int .u64 0,.int .u64 0,.int .u64 0,.int .u64 0,.complex .f64 0 0]) (.agg #[.int .u64 k,.int .u64 b,.int .u64 0,.int .u64 0,.int .u64 0,.int .u64 0,.int .u64 0,.int .u64 0,.int .u64 0,.int .u64 0,.complex .f64 0 0])).run Tryz.prog W=.ok (.bool true) W:=by
 have u0:=Tryz.underlying27
 have a0:=Tryz.isAgg27
 have z0:=Tryz.sizeOf27
 have u1:=Tryz.underlying48
 have a1:=Tryz.isAgg48
 have z1:=Tryz.sizeOf48
 have hS:Tryz.prog.underlying 50=some (.struct (Tryz.prog.fieldsOf 50)):=by kernel_rfl
 have hp:Tryz.prog.stoodInHeld 50=false:=by kernel_rfl
 rw [run_eql_struct,show (10000:Nat)=9999 + 1 from rfl,run_equalIn_agg W 9999 50 _ _ hS hp]
 clear hS
 simp only [Program.fieldsOf,Tryz.underlying50]
 go_simp
 have hc:(Op.equalIn 9999 48 (.complex .f64 0 0) (.complex .f64 0 0)).run Tryz.prog W=.ok true W:=by
  have:=run_equalIn_complex (P:=Tryz.prog) W 9998 48 .f64 0 0 0 0 u1
  rw [fe0] at this
  exact this
 rw [hc]
 simp
set_option maxHeartbeats 3200000 in
set_option maxRecDepth 100000 in
theorem sameStat_any (k b:Int) (w:World):Calls Tryz.prog 45 #[.agg #[.int .u64 k,.int .u64 b,.int .u64 0,.int .u64 0,.int .u64 0,.int .u64 0,.int .u64 0,.int .u64 0,.int .u64 0,.int .u64 0,.complex .f64 0 0],.agg #[.int .u64 k,.int .u64 b,.int .u64 0,.int .u64 0,.int .u64 0,.int .u64 0,.int .u64 0,.int .u64 0,.int .u64 0,.int .u64 0,.complex .f64 0 0]] w (BoolB true w):=by
 have hb0:=below_alloc (below_box w (.cells #[.int .u64 k,.int .u64 b,.int .u64 0,.int .u64 0,.int .u64 0,.int .u64 0,.int .u64 0,.int .u64 0,.int .u64 0,.int .u64 0,.complex .f64 0 0] 50)) (.cells #[.int .u64 k,.int .u64 b,.int .u64 0,.int .u64 0,.int .u64 0,.int .u64 0,.int .u64 0,.int .u64 0,.int .u64 0,.int .u64 0,.complex .f64 0 0] 50)
 have q1:Blk ((w.alloc (.cells #[.int .u64 k,.int .u64 b,.int .u64 0,.int .u64 0,.int .u64 0,.int .u64 0,.int .u64 0,.int .u64 0,.int .u64 0,.int .u64 0,.complex .f64 0 0] 50)).alloc (.cells #[.int .u64 k,.int .u64 b,.int .u64 0,.int .u64 0,.int .u64 0,.int .u64 0,.int .u64 0,.int .u64 0,.int .u64 0,.int .u64 0,.complex .f64 0 0] 50)) w.heap.size 50 #[.int .u64 k,.int .u64 b,.int .u64 0,.int .u64 0,.int .u64 0,.int .u64 0,.int .u64 0,.int .u64 0,.int .u64 0,.int .u64 0,.complex .f64 0 0]:=(Blk.new w _ _).alloc _
 have q2:Blk ((w.alloc (.cells #[.int .u64 k,.int .u64 b,.int .u64 0,.int .u64 0,.int .u64 0,.int .u64 0,.int .u64 0,.int .u64 0,.int .u64 0,.int .u64 0,.complex .f64 0 0] 50)).alloc (.cells #[.int .u64 k,.int .u64 b,.int .u64 0,.int .u64 0,.int .u64 0,.int .u64 0,.int .u64 0,.int .u64 0,.int .u64 0,.int .u64 0,.complex .f64 0 0] 50)) (w.heap.size + 1) 50 #[.int .u64 k,.int .u64 b,.int .u64 0,.int .u64 0,.int .u64 0,.int .u64 0,.int .u64 0,.int .u64 0,.int .u64 0,.int .u64 0,.complex .f64 0 0]:=blk_at (by simp)
 have HX:=Lib.hid (And.intro q1 (And.intro q2 hb0))
 clear q1 q2 hb0
 go_enter Tryz.func45,Tryz.ntmps45
 refine wp_seq_k fun K0 hK=>?_
 have HK0:=Lib.hid hK
 clear hK
 go_wp2_with fail
 refine HK0.out _ _ ?_
 clear HK0
 try simp only [Act.put]
 generalize hwa:(w.alloc (.cells #[.int .u64 k,.int .u64 b,.int .u64 0,.int .u64 0,.int .u64 0,.int .u64 0,.int .u64 0,.int .u64 0,.int .u64 0,.int .u64 0,.complex .f64 0 0] 50)).alloc (.cells #[.int .u64 k,.int .u64 b,.int .u64 0,.int .u64 0,.int .u64 0,.int .u64 0,.int .u64 0,.int .u64 0,.int .u64 0,.int .u64 0,.complex .f64 0 0] 50)=w1 at HX ⊢
 clear hwa
 obtain ⟨g1,hg1⟩:∃ g,w.heap.size=g:=⟨_,rfl⟩
 have HG:=Lib.hid hg1
 obtain ⟨q1,q2,q3⟩:=HX.out
 rw [hg1] at q1 q2 ⊢
 clear hg1 HX
 have c1:w1.cell? ⟨g1,10,none⟩=some (.complex .f64 0 0):=q1.cell 10
 have c2:w1.cell? ⟨g1 + 1,10,none⟩=some (.complex .f64 0 0):=q2.cell 10
 have HX:=Lib.hid (And.intro q1 (And.intro q2 q3))
 clear q1 q2 q3
 refine wp_seq_k fun K0 hK=>?_
 have HK0:=Lib.hid hK
 clear hK
 go_wp2_with fail
 go_quiet (fail)
 refine HK0.out _ _ ?_
 clear HK0
 try simp only [Act.put]
 have hx:∀ {V:World} {g:Nat},Blk V g 50 #[.int .u64 k,.int .u64 b,.int .u64 0,.int .u64 0,.int .u64 0,.int .u64 0,.int .u64 0,.int .u64 0,.int .u64 0,.int .u64 0,.complex .f64 0 0]→Blk (V.setCell ⟨g,10,none⟩ (.complex .f64 0 0)) g 50 #[.int .u64 k,.int .u64 b,.int .u64 0,.int .u64 0,.int .u64 0,.int .u64 0,.int .u64 0,.int .u64 0,.int .u64 0,.int .u64 0,.complex .f64 0 0]:=fun h=>by
  have:=h.set_ 10 (.complex .f64 0 0)
  exact this
 have HQE:=Lib.hid (fun W=>eqlStat2 k b W)
 have hgd:=guardStat
 have HP:=Lib.hid (fun W=>part_0 W)
 have f1:=HX.out.1.frozen 10
 have f2:=HX.out.2.1.frozen 10
 refine wp_seq_k fun K0 hK=>?_
 have HK0:=Lib.hid hK
 clear hK
 go_wp2_with fail
 refine HK0.out _ _ ?_
 clear HK0
 try simp only [Act.put]
 have hd:Below w1.heap.size w1 (w1.drewN nq):=drewB (Below.refl _ _) nq
 have q1:=hx (HX.out.1.below hd HX.out.1.lt)
 have q2:=hx ((Below.heap_setCell (w1.drewN nq) ⟨g1,10,none⟩ (.complex .f64 0 0) (g1 + 1) (by simp)).trans (HX.out.2.1.below hd HX.out.2.1.lt))
 have q1':Blk _ g1 50 #[.int .u64 k,.int .u64 b,.int .u64 0,.int .u64 0,.int .u64 0,.int .u64 0,.int .u64 0,.int .u64 0,.int .u64 0,.int .u64 0,.complex .f64 0 0]:=(Below.heap_setCell ((w1.drewN nq).setCell ⟨g1,10,none⟩ (.complex .f64 0 0)) ⟨g1 + 1,10,none⟩ (.complex .f64 0 0) g1 (by simp)).trans q1
 have hbe:Below w.heap.size w (((w1.drewN nq).setCell ⟨g1,10,none⟩ (.complex .f64 0 0)).setCell ⟨g1 + 1,10,none⟩ (.complex .f64 0 0)):=((below_trans HX.out.2.2 hd).setCell (p:=⟨g1,10,none⟩) (by rw [HG.out];exact Nat.le_refl _) _).setCell (p:=⟨g1 + 1,10,none⟩) (by rw [HG.out];exact Nat.le_succ _) _
 have HY:=Lib.hid (And.intro q1' (And.intro q2 hbe))
 clear q1 q2 q1' hbe hd c1 c2 f1 f2 hx HX
 generalize (((w1.drewN nq).setCell ⟨g1,10,none⟩ (.complex .f64 0 0)).setCell ⟨g1 + 1,10,none⟩ (.complex .f64 0 0))=w3 at HY ⊢
 have hqe:=HQE.out
 have a0:w3.cell? ⟨g1,0,none⟩=_:=HY.out.1.cell 0
 have b0:w3.cell? ⟨g1 + 1,0,none⟩=_:=HY.out.2.1.cell 0
 have a1:w3.cell? ⟨g1,1,none⟩=_:=HY.out.1.cell 1
 have b1:w3.cell? ⟨g1 + 1,1,none⟩=_:=HY.out.2.1.cell 1
 have a2:w3.cell? ⟨g1,2,none⟩=_:=HY.out.1.cell 2
 have b2:w3.cell? ⟨g1 + 1,2,none⟩=_:=HY.out.2.1.cell 2
 have a3:w3.cell? ⟨g1,3,none⟩=_:=HY.out.1.cell 3
 have b3:w3.cell? ⟨g1 + 1,3,none⟩=_:=HY.out.2.1.cell 3
 have a4:w3.cell? ⟨g1,4,none⟩=_:=HY.out.1.cell 4
 have b4:w3.cell? ⟨g1 + 1,4,none⟩=_:=HY.out.2.1.cell 4
 have a5:w3.cell? ⟨g1,5,none⟩=_:=HY.out.1.cell 5
 have b5:w3.cell? ⟨g1 + 1,5,none⟩=_:=HY.out.2.1.cell 5
 have a6:w3.cell? ⟨g1,6,none⟩=_:=HY.out.1.cell 6
 have b6:w3.cell? ⟨g1 + 1,6,none⟩=_:=HY.out.2.1.cell 6
 have a7:w3.cell? ⟨g1,7,none⟩=_:=HY.out.1.cell 7
 have b7:w3.cell? ⟨g1 + 1,7,none⟩=_:=HY.out.2.1.cell 7
 have a8:w3.cell? ⟨g1,8,none⟩=_:=HY.out.1.cell 8
 have b8:w3.cell? ⟨g1 + 1,8,none⟩=_:=HY.out.2.1.cell 8
 have a9:w3.cell? ⟨g1,9,none⟩=_:=HY.out.1.cell 9
 have b9:w3.cell? ⟨g1 + 1,9,none⟩=_:=HY.out.2.1.cell 9
 have a10:w3.cell? ⟨g1,10,none⟩=_:=HY.out.1.cell 10
 have b10:w3.cell? ⟨g1 + 1,10,none⟩=_:=HY.out.2.1.cell 10
 simp only [List.getElem?_toArray,List.getElem?_cons_zero,List.getElem?_cons_succ] at a0 b0 a1 b1 a2 b2 a3 b3 a4 b4 a5 b5 a6 b6 a7 b7 a8 b8 a9 b9 a10 b10
 go_wp2_with fail
 refine (HP.out _).mono ?_
 rintro e w4 ⟨rfl,rfl⟩
 go_wp2_with fail
 refine (HP.out _).mono ?_
 rintro e w5 ⟨rfl,rfl⟩
 go_wp2_with fail
 go_ret
 exact ⟨rfl,HY.out.2.2⟩
end Go.Proofs.YtkgflepgkhnclaaGreatDoor
namespace Go.Proofs.YtkgflepgkhnclaaGreatDoor
set_option linter.unusedVariables false
set_option linter.unusedSimpArgs false
open Go.RowKit Go.Shelf
def lessB (a b:ByteArray):Bool:=Op.bytesLess a.toList b.toList
theorem lessB_iff {a b:ByteArray}:lessB a b=true ↔ ltS a b:=Iff.rfl
def restB (a b:ByteArray) (i:Nat):Bool:=Op.bytesLess (a.data.toList.drop i) (b.data.toList.drop i)
theorem rest_zero (a b:ByteArray):restB a b 0=lessB a b:=by
 unfold restB lessB
 rw [ByteArray.toList_eq,ByteArray.toList_eq]
 rfl
theorem byte_drop {a:ByteArray} {i:Nat} (h:i < a.size):a.data.toList.drop i=a[i] :: a.data.toList.drop (i + 1):=by
 rw [List.drop_eq_getElem_cons (by rw [Array.length_toList];exact h)]
 rfl
theorem rest_same {a b:ByteArray} {i:Nat} (h1:i < a.size) (h2:i < b.size) (he:a[i]=b[i]):restB a b i=restB a b (i + 1):=by
 unfold restB
 rw [byte_drop h1,byte_drop h2,he]
 simp [Op.bytesLess]
theorem rest_diff {a b:ByteArray} {i:Nat} (h1:i < a.size) (h2:i < b.size) (he:a[i] ≠ b[i]):restB a b i=decide (a[i].toNat < b[i].toNat):=by
 unfold restB
 rw [byte_drop h1,byte_drop h2]
 have hb:(a[i] == b[i])=false:=by simp [he]
 simp only [Op.bytesLess,hb,Bool.false_and,Bool.or_false]
 rfl
theorem rest_end {a b:ByteArray} {i:Nat} (h1:i ≤ a.size) (h2:i ≤ b.size) (h:¬ (i < a.size∧i < b.size)):restB a b i=decide (a.size < b.size):=by
 unfold restB
 by_cases ha:i < a.size
 · have hb:b.data.toList.drop i=[]:=List.drop_eq_nil_of_le (by rw [Array.length_toList];show b.size ≤ i;omega)
   rw [byte_drop ha,hb,decide_eq_false (by omega)]
   rfl
 · have ha2:a.data.toList.drop i=[]:=List.drop_eq_nil_of_le (by rw [Array.length_toList];show a.size ≤ i;omega)
   rw [ha2]
   by_cases hb:i < b.size
   · rw [byte_drop hb,decide_eq_true (by omega)]
     rfl
   · have hb2:b.data.toList.drop i=[]:=List.drop_eq_nil_of_le (by rw [Array.length_toList];show b.size ≤ i;omega)
     rw [hb2,decide_eq_false (by omega)]
     rfl
set_option maxHeartbeats 1600000 in
set_option maxRecDepth 100000 in
theorem less_any (a b:ByteArray) (w:World) (ha:a.size ≤ 9223372036854775807) (hb:b.size ≤ 9223372036854775807) :
 Calls Tryz.prog 162 #[.string a,.string b] w (SameEnd (lessB a b) w):=by
 go_enter Tryz.func162,Tryz.ntmps162
 go_wp2_with fail
 go_loopw [5] (fun i wr=>∃ (k n:Nat),k ≤ a.size∧k ≤ b.size∧i=.int .i64 k∧Hid (wr=w.drewN n)∧Hid (lessB a b=restB a b k)) (fun i _=>a.size - (intOf i).toNat)
 case atStart=>exact ⟨0,0,by omega,by omega,rfl,Lib.hid rfl,Lib.hid (rest_zero a b).symm⟩
 case round =>
  obtain ⟨k,n,hk1,hk2,rfl,hw,he⟩:=hrel
  have i0:(0:Int) ≤ (k:Int):=by omega
  by_cases h1:k < a.size
  · have i1:(k:Int) < (a.size:Int):=by omega
    by_cases h2:k < b.size
    · have i2:(k:Int) < (b.size:Int):=by omega
      by_cases hx:a[k]=b[k]
      · have hr:=rest_same h1 h2 hx
        rw [← he.out] at hr
        have HR:=Lib.hid hr
        have hn:((a[k].toNat:Int) != (b[k].toNat:Int))=false:=by rw [hx];simp
        clear hr hx
        go_wp2_with fail
        go_quiet (fail)
        go_wp2_with fail
        go_roundw
        case rel=>exact ⟨k + 1,_,by omega,by omega,by go_num,Lib.hid (by rw [hw.out,World.drewN_drewN]),HR⟩
        case measure=>simp [intOf];omega
      · have hr:=rest_diff h1 h2 hx
        rw [← he.out] at hr
        have HR:=Lib.hid hr
        have hn:((a[k].toNat:Int) != (b[k].toNat:Int))=true:=by
         have:¬ a[k].toNat=b[k].toNat:=fun e=>hx (UInt8.toNat_inj.1 e)
         simp;omega
        clear hr hx
        go_wp2_with fail
        go_quiet (fail)
        go_wp2_with fail
        go_quiet (fail)
        go_wp2_with fail
        go_ret
        exact ⟨ret_bool (by rw [HR.out]),_,by rw [hw.out,World.drewN_drewN,World.drewN_drewN]⟩
    · have i2:¬ (k:Int) < (b.size:Int):=by omega
      have hr:=rest_end hk1 hk2 (by omega)
      rw [← he.out] at hr
      have HR:=Lib.hid hr
      clear hr
      go_wp2_with fail
      go_ret
      exact ⟨ret_bool (by rw [HR.out]),_,hw.out⟩
  · have i1:¬ (k:Int) < (a.size:Int):=by omega
    have hr:=rest_end hk1 hk2 (by omega)
    rw [← he.out] at hr
    have HR:=Lib.hid hr
    clear hr
    go_wp2_with fail
    go_ret
    exact ⟨ret_bool (by rw [HR.out]),_,hw.out⟩
end Go.Proofs.YtkgflepgkhnclaaGreatDoor
namespace Go.Proofs.YtkgflepgkhnclaaGreatDoor
set_option linter.unusedVariables false
set_option linter.unusedSimpArgs false
open Go.RowKit
structure Ent where
 ses:Int
 r:Req
def Ent.row (e:Ent):List Value:=.int .i64 e.ses :: e.r.row
theorem Ent.row_len (e:Ent):e.row.length=13:=rfl
theorem own_blk_ne {w:World} {base size n g:Nat} {e t:TypeId} {v:Value} {xs:List Value} {cs:Array Value} (h:w.ownsRow base e size v n xs) (hg:Blk w g t cs) (hne:e ≠ t):v.ownBlock ≠ some g:=by
 rcases h.2 with ⟨h0,_⟩ | ⟨g',cap,cur,hv,_,hh,_⟩
 · rw [h0];simp [Value.ownBlock]
 · rw [hv]
   intro he
   simp only [Value.ownBlock,Option.some.injEq] at he
   subst he
   unfold Blk at hg
   rw [hh] at hg
   simp only [Option.some.injEq,Obj.cells.injEq] at hg
   exact hne hg.2.1
structure Cod where
 s:Int
 d:Int
 k:Int
 v:Int
 h:Int
 x:Int
def Cod.row (c:Cod):List Value:=[.int .u8 c.s,.int .u8 c.d,.int .u8 c.k,.int .u8 c.v,.int .u8 c.h,.int .u8 c.x]
structure Cod.ok (c:Cod):Prop where
 s:0 ≤ c.s∧c.s ≤ 255
 d:0 ≤ c.d∧c.d ≤ 255
 k:0 ≤ c.k∧c.k ≤ 255
 v:0 ≤ c.v∧c.v ≤ 255
 h:0 ≤ c.h∧c.h ≤ 255
 x:0 ≤ c.x∧c.x ≤ 255
structure SmallR (r:Req):Prop where
 deed:1 ≤ r.deed∧r.deed ≤ 10
 ten:0 ≤ r.ten∧r.ten ≤ 2
 gen:0 ≤ r.gen∧r.gen ≤ 2
 rig:0 ≤ r.rig∧r.rig ≤ 7
 key:r.key.size ≤ 22
 val:r.val.size ≤ 2
 old:r.old.size ≤ 2
 lim:0 ≤ r.lim∧r.lim ≤ 4
 tenant:0 ≤ r.tenant∧r.tenant ≤ 2
 qk:0 ≤ r.qk∧r.qk ≤ 9
 qb:0 ≤ r.qb∧r.qb ≤ 90
 rights:0 ≤ r.rights∧r.rights ≤ 8
def kws:Array Value:=#[.string ⟨#[97]⟩,.string ⟨#[98]⟩,.string ⟨#[97,98]⟩,.string ⟨#[]⟩,.string ⟨#[97,0]⟩,.string ⟨#[97,98,99,100]⟩,.string ⟨#[97,99]⟩,.string ⟨#[98]⟩]
def M0 (w:World) (gk gc:Nat) (v:Value) (n:Nat) (xs:List Value) (c:Cod) (W:World):Prop :=
 Blk W gk 9 kws∧Blk W gc 95 c.row.toArray∧W.ownsRow w.heap.size 41 13 v n xs∧Below w.heap.size w W
def MIn (w:World) (gk gc gr:Nat) (v:Value) (n:Nat) (xs:List Value) (c:Cod) (r:Req) (W:World):Prop :=
 M0 w gk gc v n xs c W∧Blk W gr 39 r.row.toArray∧w.heap.size ≤ gr
theorem blk_ne {w:World} {g g':Nat} {t t':TypeId} {cs cs':Array Value} (h:Blk w g t cs) (h':Blk w g' t' cs') (hne:t ≠ t'):g ≠ g':=by
 rintro rfl
 unfold Blk at h h'
 rw [h] at h'
 simp only [Option.some.injEq,Obj.cells.injEq] at h'
 exact hne h'.2.1
end Go.Proofs.YtkgflepgkhnclaaGreatDoor
