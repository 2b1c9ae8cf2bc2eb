/- Layer 27: a model: tenants by their numbers, in memory. Layer 27: order: formed, operation, may, at, there. Layer 27: order: there. A held walk of a region that draws its order, where what is held must hold only until one operation has come up (a store that ends it). Over any program (layer 27's copy). Layer 27: order: answers; a model after one tenant has changed; remove, revoke, issue. Layer 27: order: revoke, remove, issue. Layer 27: order: remove, issue. Layer 27: order: create. Layer 27: stat's With; a model after one book has changed. Layer 27: order: tell. -/
import Derived.Test.YtkgflepgkhnclaaGreatDoorMb
namespace Go.Proofs.YtkgflepgkhnclaaGreatDoor
set_option linter.unusedVariables false
set_option linter.unusedSimpArgs false
open Go.RowKit Go.Shelf
theorem run_store_complex {P:Program} {w:World} (a:Addr) (m:Mode) (k:FloatKind) (x y:Nat):(store a (.complex k x y) m).run P w=stored P w a (.complex k x y) m:=run_store P w a _ m rfl
attribute [local go_sem] run_store_complex
structure Ten where
 gen:Int
 qk:Int
 qb:Int
 bk:Option Bk
 st:List Value
def StOk (l:List Value):Prop:=∃ (ns:List Int) (a b:Nat),ns.length=10∧l=ns.map (Value.int .u64) ++ [.complex .f64 a b]∧∀ n ∈ ns,0 ≤ n∧n ≤ 18446744073709551615
structure Ten.ok (t:Ten):Prop where
 gen:0 ≤ t.gen∧t.gen ≤ 4294967295
 qk:0 ≤ t.qk∧t.qk ≤ 18446744073709551615
 qb:0 ≤ t.qb∧t.qb ≤ 18446744073709551615
 st:StOk t.st
def st0:List Value:=[.int .u64 0,.int .u64 0,.int .u64 0,.int .u64 0,.int .u64 0,.int .u64 0,.int .u64 0,.int .u64 0,.int .u64 0,.int .u64 0,.complex .f64 0 0]
def ten0:Ten:=⟨0,0,0,none,st0⟩
def Ten.ptr (t:Ten) (o:Ow):Value:=.pointer (t.bk.map (fun _=>⟨o.b,0,none⟩))
def Ten.cells (t:Ten) (o:Ow):List Value:=[.int .u32 t.gen,.int .u64 t.qk,.int .u64 t.qb,t.ptr o] ++ t.st
theorem StOk.len {l:List Value} (h:StOk l):l.length=11:=by
 obtain ⟨ns,a,b,h1,rfl,_⟩:=h
 simp [h1]
theorem StOk.one {l:List Value} (h:StOk l):∀ v ∈ l,v.oneCell'=true:=by
 obtain ⟨ns,a,b,h1,rfl,_⟩:=h
 intro v hv
 rw [List.mem_append,List.mem_map,List.mem_singleton] at hv
 rcases hv with ⟨n,_,rfl⟩ | rfl <;> rfl
theorem Ten.cells_len {t:Ten} {o:Ow} (h:t.ok):(t.cells o).length=15:=by
 unfold Ten.cells
 rw [List.length_append,h.st.len]
 rfl
theorem Ten.cells_one {t:Ten} {o:Ow} (h:t.ok):∀ v ∈ t.cells o,v.oneCell'=true:=by
 intro v hv
 unfold Ten.cells at hv
 rw [List.mem_append] at hv
 rcases hv with hv | hv
 · simp at hv
   rcases hv with rfl | rfl | rfl | rfl <;> rfl
 · exact h.st.one v hv
theorem st0_ok:StOk st0:=⟨[0,0,0,0,0,0,0,0,0,0],0,0,rfl,rfl,by simp⟩
theorem ten0_ok:ten0.ok:=⟨by decide,by decide,by decide,st0_ok⟩
abbrev Mdl:=Nat→Ten
abbrev Ows:=Nat→Ow
def mcells (M:Mdl) (T:Ows):List Value:=.bool true :: (List.range 17).flatMap (fun t=>(M t).cells (T t))
structure ModelAt (w:World) (p:Nat) (M:Mdl) (T:Ows):Prop where
 blk:Blk w p 78 (mcells M T).toArray
 ok:∀ t,(M t).ok
 bk:∀ t B,t < 17→(M t).bk=some B→BkAt w (T t) B
 apart:∀ t s i,t < 17→s < 17→t ≠ s→(M t).bk.isSome→(M s).bk.isSome→(T t).has i→¬ (T s).has i
def mown (p:Nat) (M:Mdl) (T:Ows) (i:Nat):Prop:=i=p ∨ ∃ t,t < 17∧(M t).bk.isSome∧(T t).has i
theorem flat_at {α:Type} {f:α→List Value} {m:Nat} (hf:∀ x,(f x).length=m) (l:List α) (k j:Nat) (hk:k < l.length) (hj:j < m):(l.flatMap f)[k * m + j]?=(f l[k])[j]?:=by
 have h1:=flat_drop hf l k hk
 rw [← List.getElem?_drop,h1,List.getElem?_append_left (by rw [hf];exact hj)]
theorem mcell {M:Mdl} {T:Ows} (h:∀ t,(M t).ok) {t j:Nat} (ht:t < 17) (hj:j < 15):(mcells M T)[1 + t * 15 + j]?=((M t).cells (T t))[j]?:=by
 unfold mcells
 rw [show 1 + t * 15 + j=(t * 15 + j) + 1 by omega,List.getElem?_cons_succ]
 have:=flat_at (f:=fun t=>(M t).cells (T t)) (m:=15) (fun x=>Ten.cells_len (h x)) (List.range 17) t j (by simpa using ht) hj
 rw [this,List.getElem_range]
theorem mcells_len {M:Mdl} {T:Ows} (h:∀ t,(M t).ok):(mcells M T).length=256:=by
 unfold mcells
 rw [List.length_cons]
 have:∀ l:List Nat,(l.flatMap (fun t=>(M t).cells (T t))).length=l.length * 15:=by
  intro l
  induction l with
  | nil=>rfl
  | cons x l ih=>rw [List.flatMap_cons,List.length_append,ih,Ten.cells_len (h x)];simp;omega
 rw [this]
 simp
section
variable {w:World} {p:Nat} {M:Mdl} {T:Ows}
theorem ModelAt.cell (h:ModelAt w p M T) {t j:Nat} {v:Value} (ht:t < 17) (hv:((M t).cells (T t))[j]?=some v):w.cell? ⟨p,1 + t * 15 + j,none⟩=some v:=by
 have hj:j < 15:=by
  have:=(List.getElem?_eq_some_iff.1 hv).1
  rwa [Ten.cells_len (h.ok t)] at this
 rw [h.blk.cell,List.getElem?_toArray,mcell h.ok ht hj]
 exact hv
theorem ModelAt.real (h:ModelAt w p M T):w.cell? ⟨p,0,none⟩=some (.bool true):=h.blk.cell 0
theorem ModelAt.range (h:ModelAt w p M T) {t:Nat} (ht:t < 17):w.rangeAt p (1 + t * 15) ((M t).cells (T t)):=fun j v hv=>h.cell ht hv
theorem ModelAt.gen (h:ModelAt w p M T) {t:Nat} (ht:t < 17):w.cell? ⟨p,1 + t * 15,none⟩=some (.int .u32 (M t).gen):=h.cell (j:=0) ht rfl
theorem ModelAt.ptr (h:ModelAt w p M T) {t:Nat} (ht:t < 17):w.cell? ⟨p,1 + t * 15 + 3,none⟩=some ((M t).ptr (T t)):=h.cell (j:=3) ht rfl
theorem ModelAt.own_lt (h:ModelAt w p M T) {i:Nat} (hi:mown p M T i):i < w.heap.size:=by
 rcases hi with rfl | ⟨t,ht,hs,hi⟩
 · exact h.blk.lt
 · obtain ⟨B,hB⟩:=Option.isSome_iff_exists.1 hs
   exact (h.bk t B ht hB).lt hi
theorem ModelAt.ne (h:ModelAt w p M T) {t i:Nat} (ht:t < 17) (hs:(M t).bk.isSome) (hi:(T t).has i):i ≠ p:=by
 rintro rfl
 obtain ⟨B,hB⟩:=Option.isSome_iff_exists.1 hs
 have hb:=h.bk t B ht hB
 rcases hi with rfl | rfl | hi
 · obtain ⟨cs,h1⟩:=hb.blk
   have h2:=h.blk
   unfold Blk at h1 h2
   rw [h1] at h2
   injection h2 with h2
   injection h2 with _ h2 _
   exact absurd h2 (by decide)
 · obtain ⟨kvs,h1⟩:=hb.map
   exact strMap_ne h1 h.blk rfl
 · obtain ⟨A,c,_,h2⟩:=hb.row
   exact h2.ne h.blk (by decide) hi
theorem ModelAt.keep {C:Nat→Prop} {w':World} (h:ModelAt w p M T) (k:KeepC C w w') (hC:∀ i,mown p M T i→¬ C i):ModelAt w' p M T :=
 ⟨k.blk h.blk (hC p (.inl rfl)),h.ok,fun t B ht hB=>(h.bk t B ht hB).keep k (fun i hi=>hC i (.inr ⟨t,ht,by rw [hB];rfl,hi⟩)),h.apart⟩
theorem ModelAt.below {w':World} (h:ModelAt w p M T) (hb:Below w.heap.size w w'):ModelAt w' p M T:=h.keep (C:=fun _=>False) (.of_below hb) (fun _ _ h=>h)
end
theorem list10 {α:Type} {l:List α} (h:l.length=10):∃ a0 a1 a2 a3 a4 a5 a6 a7 a8 a9,l=[a0,a1,a2,a3,a4,a5,a6,a7,a8,a9]:=by
 match l,h with
 | [a0,a1,a2,a3,a4,a5,a6,a7,a8,a9],_=>exact ⟨a0,a1,a2,a3,a4,a5,a6,a7,a8,a9,rfl⟩
theorem range15 {w:World} {p o:Nat} {a0 a1 a2 a3 a4 a5 a6 a7 a8 a9 a10 a11 a12 a13 a14:Value} (h:w.rangeAt p o ([a0,a1,a2,a3] ++ [a4,a5,a6,a7,a8,a9,a10,a11,a12,a13,a14])) :
 w.cell? ⟨p,o,none⟩=some a0∧w.cell? ⟨p,o + 1,none⟩=some a1∧w.cell? ⟨p,o + 2,none⟩=some a2∧w.cell? ⟨p,o + 3,none⟩=some a3∧w.cell? ⟨p,o + 4,none⟩=some a4∧w.cell? ⟨p,o + 5,none⟩=some a5∧w.cell? ⟨p,o + 6,none⟩=some a6∧w.cell? ⟨p,o + 7,none⟩=some a7 ∧
 w.cell? ⟨p,o + 8,none⟩=some a8∧w.cell? ⟨p,o + 9,none⟩=some a9∧w.cell? ⟨p,o + 10,none⟩=some a10∧w.cell? ⟨p,o + 11,none⟩=some a11∧w.cell? ⟨p,o + 12,none⟩=some a12∧w.cell? ⟨p,o + 13,none⟩=some a13∧w.cell? ⟨p,o + 14,none⟩=some a14 :=
 ⟨h 0 _ rfl,h 1 _ rfl,h 2 _ rfl,h 3 _ rfl,h 4 _ rfl,h 5 _ rfl,h 6 _ rfl,h 7 _ rfl,h 8 _ rfl,h 9 _ rfl,h 10 _ rfl,h 11 _ rfl,h 12 _ rfl,h 13 _ rfl,h 14 _ rfl⟩
theorem none_m {w:World} {p:Nat} {M:Mdl} {T:Ows} (h:ModelAt w p M T):Calls Tryz.prog 29 #[.pointer (some ⟨p,0,none⟩)] w (StayV (.bool false) w):=by
 have c0:=h.real
 clear h
 go_enter Tryz.func29,Tryz.ntmps29
 go_wp2
 go_ret
 exact ⟨rfl,rfl⟩
def goodN (M:Mdl) (h:Hd):Bool:=h.right && ((M h.t.toNat).bk.isSome && decide ((M h.t.toNat).gen=h.g))
set_option maxHeartbeats 1600000 in
set_option maxRecDepth 100000 in
theorem good_m {w:World} {p:Nat} {M:Mdl} {T:Ows} (hm:ModelAt w p M T) (h:Hd):Calls Tryz.prog 9 #[.pointer (some ⟨p,0,none⟩),h.v] w (BoolB (goodN M h) w):=by
 have hb0:=(Below.refl w.heap.size w).alloc (Nat.le_refl _) (.cells h.cells 37)
 have hB:=Blk.new w 37 h.cells
 have HN:=Lib.hid (none_m (hm.below hb0))
 have HR:=Lib.hid (Right_h h (w.alloc (.cells h.cells 37)))
 have HB:=Lib.hid (And.intro hb0 hB)
 have HM:=Lib.hid hm
 clear hb0 hB hm
 cases hr:h.right with
 | false =>
   have HE:Hid (goodN M h=false):=Lib.hid (by unfold goodN;rw [hr];rfl)
   rw [hr] at HR
   clear hr
   unfold Hd.v Hd.cells at *
   go_enter Tryz.func9,Tryz.ntmps9
   go_wp2_with (first
    | (go_at_call 29;refine HN.out.mono ?_;rintro e w1 ⟨rfl,rfl⟩)
    | (go_at_call 31;refine HR.out.mono ?_;rintro e w2 ⟨rfl,hb⟩;have HB2:=Lib.hid (HB.out.1.trans (hb.mono HB.out.1.size));clear hb))
   go_ret
   exact ⟨by rw [HE.out];rfl,HB2.out⟩
 | true =>
   have hr2:1 ≤ h.t∧h.t ≤ 16:=by
    unfold Hd.right Hd.tN at hr
    simp at hr
    exact hr.1.1
   obtain ⟨n,hn⟩:∃ n:Nat,h.t=n:=⟨h.t.toNat,by omega⟩
   have hn1:1 ≤ n∧n ≤ 16:=by omega
   have HE:Hid (goodN M h=((M n).bk.isSome && decide ((M n).gen=h.g))):=Lib.hid (by unfold goodN;rw [hr,hn];rfl)
   rw [hr] at HR
   unfold Hd.v Hd.cells at *
   rw [hn] at HN HR HB ⊢
   clear hr hn hr2
   go_enter Tryz.func9,Tryz.ntmps9
   go_wp2_with (first
    | (go_at_call 29;refine HN.out.mono ?_;rintro e w1 ⟨rfl,rfl⟩)
    | (go_at_call 31;refine HR.out.mono ?_;rintro e w2 ⟨rfl,hb⟩;have HB2:=Lib.hid (HB.out.1.trans (hb.mono HB.out.1.size));have HB2sz:=Lib.hid hb.size;have hq:=HB.out.2.below hb HB.out.2.lt;have c0:=hq.cell 0;have c1:=hq.cell 1;simp at c0 c1;clear hq hb))
   have hM:=HM.out.below HB2.out
   have hlt2:=HM.out.blk.lt
   obtain ⟨ns,fa,fb,hl10,hst,-⟩:=(HM.out.ok n).st
   obtain ⟨n0,n1,n2,n3,n4,n5,n6,n7,n8,n9,rfl⟩:=list10 hl10
   have hr15:=hM.range (t:=n) (by omega)
   unfold Ten.cells Ten.ptr at hr15
   rw [hst] at hr15
   obtain ⟨q,hq⟩:∃ q,(M n).bk.map (fun _=>(⟨(T n).b,0,none⟩:Addr))=q:=⟨_,rfl⟩
   rw [hq] at hr15
   obtain ⟨x0,x1,x2,x3,x4,x5,x6,x7,x8,x9,x10,x11,x12,x13,x14⟩:=range15 hr15
   have hc0:(0:Int) ≤ (n:Int):=by omega
   have hc1:(n:Int) < 17:=by omega
   have hc2:(n:Int) ≤ 16:=by omega
   have hlp:p < w2.heap.size:=hM.blk.lt
   have hlw:w.heap.size < w2.heap.size:=Nat.lt_of_lt_of_le (by simp) (HB.out.2.lt |> fun _=>HB2sz.out)
   have y0:=fun o=>(World.cell?_alloc_lt w2 o ⟨p,1 + n * 15,none⟩ hlp).trans x0
   have y1:=fun o=>(World.cell?_alloc_lt w2 o ⟨p,1 + n * 15 + 1,none⟩ hlp).trans x1
   have y2:=fun o=>(World.cell?_alloc_lt w2 o ⟨p,1 + n * 15 + 2,none⟩ hlp).trans x2
   have y3:=fun o=>(World.cell?_alloc_lt w2 o ⟨p,1 + n * 15 + 3,none⟩ hlp).trans x3
   have y4:=fun o=>(World.cell?_alloc_lt w2 o ⟨p,1 + n * 15 + 4,none⟩ hlp).trans x4
   have y5:=fun o=>(World.cell?_alloc_lt w2 o ⟨p,1 + n * 15 + 5,none⟩ hlp).trans x5
   have y6:=fun o=>(World.cell?_alloc_lt w2 o ⟨p,1 + n * 15 + 6,none⟩ hlp).trans x6
   have y7:=fun o=>(World.cell?_alloc_lt w2 o ⟨p,1 + n * 15 + 7,none⟩ hlp).trans x7
   have y8:=fun o=>(World.cell?_alloc_lt w2 o ⟨p,1 + n * 15 + 8,none⟩ hlp).trans x8
   have y9:=fun o=>(World.cell?_alloc_lt w2 o ⟨p,1 + n * 15 + 9,none⟩ hlp).trans x9
   have y10:=fun o=>(World.cell?_alloc_lt w2 o ⟨p,1 + n * 15 + 10,none⟩ hlp).trans x10
   have y11:=fun o=>(World.cell?_alloc_lt w2 o ⟨p,1 + n * 15 + 11,none⟩ hlp).trans x11
   have y12:=fun o=>(World.cell?_alloc_lt w2 o ⟨p,1 + n * 15 + 12,none⟩ hlp).trans x12
   have y13:=fun o=>(World.cell?_alloc_lt w2 o ⟨p,1 + n * 15 + 13,none⟩ hlp).trans x13
   have y14:=fun o=>(World.cell?_alloc_lt w2 o ⟨p,1 + n * 15 + 14,none⟩ hlp).trans x14
   have e0:=fun o=>(World.cell?_alloc_lt w2 o ⟨w.heap.size,0,none⟩ hlw).trans c0
   have e1:=fun o=>(World.cell?_alloc_lt w2 o ⟨w.heap.size,1,none⟩ hlw).trans c1
   have HQ:=Lib.hid hq
   clear hM hr15 hst hl10 hlp hlw hq
   go_region
   all_goals
    cases q with
    | none =>
      go_wp2
      go_ret
      have hb:(M n).bk.isSome=false:=by
       have:=HQ.out
       cases hb:(M n).bk with
       | none=>rfl
       | some B=>rw [hb] at this;cases this
      exact ⟨by rw [HE.out,hb];rfl,HB2.out.trans ((((Below.refl _ w2).alloc (Nat.le_refl _) _).drew).mono HB2.out.size)⟩
    | some ad =>
      have hb:(M n).bk.isSome=true:=by
       have:=HQ.out
       cases hb:(M n).bk with
       | none=>rw [hb] at this;cases this
       | some B=>rfl
      have HE2:Hid (goodN M h=decide ((M n).gen=h.g)):=Lib.hid (by rw [HE.out,hb];rfl)
      clear hb
      go_wp2
      go_ret
      exact ⟨by rw [HE2.out];first | rfl | simp,HB2.out.trans ((((Below.refl _ w2).alloc (Nat.le_refl _) _).drew).mono HB2.out.size)⟩
end Go.Proofs.YtkgflepgkhnclaaGreatDoor
namespace Go.Proofs.YtkgflepgkhnclaaGreatDoor
set_option linter.unusedVariables false
set_option linter.unusedSimpArgs false
open Go.RowKit Go.Shelf
def Req.h (r:Req):Hd:=⟨r.ten,r.gen,r.rig⟩
def formedN (r:Req):Bool:=decide (r.key.size ≤ 16) && (decide (r.val.size ≤ 32) && (decide (r.old.size ≤ 32) && (!decide (r.deed=5) || (decide (0 ≤ r.lim) && decide (r.lim ≤ 4096)))))
set_option maxHeartbeats 1600000 in
theorem formed_r (r:Req) (w:World):Calls Tryz.prog 96 #[r.v] w (BoolB (formedN r) w):=by
 have hb:Below w.heap.size w (w.alloc (.cells r.row.toArray 39)):=below_box _ _
 unfold Req.row at hb
 have HB:=Lib.hid hb
 clear hb
 by_cases h1:r.key.size ≤ 16
 · have i1:(r.key.size:Int) ≤ 16:=by omega
   by_cases h2:r.val.size ≤ 32
   · have i2:(r.val.size:Int) ≤ 32:=by omega
     by_cases h3:r.old.size ≤ 32
     · have i3:(r.old.size:Int) ≤ 32:=by omega
       by_cases h4:r.deed=5
       · rw [h4] at HB
         by_cases h5:0 ≤ r.lim
         · have h5':r.lim ≥ 0:=h5
           by_cases h6:r.lim ≤ 4096
           · have HE:Hid (formedN r=true):=Lib.hid (by simp [formedN, *])
             clear h1 h2 h3 h5
             go_enter Tryz.func96,Tryz.ntmps96
             go_wp2
             go_ret
             exact ⟨by rw [HE.out];rfl,HB.out⟩
           · have HE:Hid (formedN r=false):=Lib.hid (by simp [formedN, *];try omega)
             clear h1 h2 h3 h5
             go_enter Tryz.func96,Tryz.ntmps96
             go_wp2
             go_ret
             exact ⟨by rw [HE.out];rfl,HB.out⟩
         · have h5':¬ (r.lim ≥ 0):=h5
           have HE:Hid (formedN r=false):=Lib.hid (by simp [formedN, *];try omega)
           clear h1 h2 h3 h5
           go_enter Tryz.func96,Tryz.ntmps96
           go_wp2
           go_ret
           exact ⟨by rw [HE.out];rfl,HB.out⟩
       · have HE:Hid (formedN r=true):=Lib.hid (by simp [formedN, *])
         have hbne:(r.deed != 5)=true:=by simpa using h4
         clear h1 h2 h3
         go_enter Tryz.func96,Tryz.ntmps96
         go_wp2
         go_ret
         exact ⟨by rw [HE.out];rfl,HB.out⟩
     · have i3:¬ (r.old.size:Int) ≤ 32:=by omega
       have HE:Hid (formedN r=false):=Lib.hid (by simp [formedN, *])
       clear h1 h2 h3
       go_enter Tryz.func96,Tryz.ntmps96
       go_wp2
       go_ret
       exact ⟨by rw [HE.out];rfl,HB.out⟩
   · have i2:¬ (r.val.size:Int) ≤ 32:=by omega
     have HE:Hid (formedN r=false):=Lib.hid (by simp [formedN, *])
     clear h1 h2
     go_enter Tryz.func96,Tryz.ntmps96
     go_wp2
     go_ret
     exact ⟨by rw [HE.out];rfl,HB.out⟩
 · have i1:¬ (r.key.size:Int) ≤ 16:=by omega
   have HE:Hid (formedN r=false):=Lib.hid (by simp [formedN, *])
   clear h1
   go_enter Tryz.func96,Tryz.ntmps96
   go_wp2
   go_ret
   exact ⟨by rw [HE.out];rfl,HB.out⟩
def operationN (d:Int):Bool:=decide (1 ≤ d) && decide (d ≤ 5)
def mayM (M:Mdl) (r:Req):Int:=if goodN M r.h=false then 11 else if allowsN r.h r.deed=false then 12 else 0
set_option maxHeartbeats 1600000 in
theorem may_m {w:World} {p:Nat} {M:Mdl} {T:Ows} (hm:ModelAt w p M T) (r:Req):Calls Tryz.prog 126 #[.pointer (some ⟨p,0,none⟩),r.v] w (IntB (mayM M r) w):=by
 have hb0:Below w.heap.size w (w.alloc (.cells r.row.toArray 39)):=below_box _ _
 have HG:=Lib.hid (good_m (hm.below hb0) r.h)
 have hq:=Blk.new w 39 r.row.toArray
 have HA:=Lib.hid (fun W=>Allows_h r.h r.deed W)
 obtain ⟨c0,c1,c2,c3,-⟩:=req_cells hq
 have HB:=Lib.hid (And.intro hb0 hq)
 unfold Hd.v Req.h at HG HA
 dsimp only at HG HA
 unfold Req.row at HB HG c0 c1 c2 c3
 clear hb0 hm hq
 cases hg:goodN M r.h with
 | false =>
   have HE:Hid (mayM M r=11):=Lib.hid (by unfold mayM;rw [if_pos hg])
   unfold Req.h at hg
   rw [hg] at HG
   clear hg
   go_enter Tryz.func126,Tryz.ntmps126
   go_wp2_with (go_at_call 9;refine HG.out.mono ?_;rintro e w1 ⟨rfl,hb⟩;have HB1:=Lib.hid (HB.out.1.trans (hb.mono HB.out.1.size));clear hb)
   go_ret
   exact ⟨by rw [HE.out];rfl,HB1.out⟩
 | true =>
   have HE0:Hid (mayM M r=if allowsN r.h r.deed=false then 12 else 0):=Lib.hid (by unfold mayM;rw [if_neg (by rw [hg];decide)])
   unfold Req.h at hg
   rw [hg] at HG
   clear hg
   cases ha:allowsN r.h r.deed with
   | false =>
     have HE:Hid (mayM M r=12):=Lib.hid (by rw [HE0.out,if_pos ha])
     unfold Req.h at ha
     rw [ha] at HA
     clear ha HE0
     go_enter Tryz.func126,Tryz.ntmps126
     go_wp2_with (first
        | (go_at_call 9;refine HG.out.mono ?_;rintro e w1 ⟨rfl,hb⟩;have HB1:=Lib.hid (HB.out.1.trans (hb.mono HB.out.1.size));have hq1:Blk w1 w.heap.size 39 r.row.toArray:=Blk.below HB.out.2 hb HB.out.2.lt;obtain ⟨d0,d1,d2,d3,-⟩:=req_cells hq1;clear hb hq1)
        | (go_at_call 170;refine (HA.out _).mono ?_;rintro e w2 ⟨rfl,hb⟩;have HB2:=Lib.hid (HB1.out.trans (hb.mono HB1.out.size));clear hb))
     go_ret
     exact ⟨by rw [HE.out];rfl,HB2.out⟩
   | true =>
     have HE:Hid (mayM M r=0):=Lib.hid (by rw [HE0.out,if_neg (by rw [ha];decide)])
     unfold Req.h at ha
     rw [ha] at HA
     clear ha HE0
     go_enter Tryz.func126,Tryz.ntmps126
     go_wp2_with (first
        | (go_at_call 9;refine HG.out.mono ?_;rintro e w1 ⟨rfl,hb⟩;have HB1:=Lib.hid (HB.out.1.trans (hb.mono HB.out.1.size));have hq1:Blk w1 w.heap.size 39 r.row.toArray:=Blk.below HB.out.2 hb HB.out.2.lt;obtain ⟨d0,d1,d2,d3,-⟩:=req_cells hq1;clear hb hq1)
        | (go_at_call 170;refine (HA.out _).mono ?_;rintro e w2 ⟨rfl,hb⟩;have HB2:=Lib.hid (HB1.out.trans (hb.mono HB1.out.size));clear hb))
     go_ret
     exact ⟨by rw [HE.out];rfl,HB2.out⟩
def atN (p:Nat) (n:Int):Option Addr:=if 1 ≤ n∧n ≤ 16 then some ⟨p,1 + n.toNat * 15,none⟩ else none
set_option maxHeartbeats 1600000 in
theorem at_m (p:Nat) (w:World) (r:Req):Calls Tryz.prog 135 #[.pointer (some ⟨p,0,none⟩),r.v] w fun e w'=>e=.returned (.pointer (atN p r.tenant))∧Below w.heap.size w w':=by
 obtain ⟨deed,ten,gen,rig,key,val,old,lim,tenant,qk,qb,rights⟩:=r
 have hb:Below w.heap.size w (w.alloc (.cells (Req.row ⟨deed,ten,gen,rig,key,val,old,lim,tenant,qk,qb,rights⟩).toArray 39)):=below_box _ _
 unfold Req.row at hb
 dsimp only at hb ⊢
 have HB:=Lib.hid hb
 clear hb
 by_cases h1:tenant < 1
 · have HE:Hid (atN p tenant=none):=Lib.hid (by unfold atN;rw [if_neg (by omega)])
   go_enter Tryz.func135,Tryz.ntmps135
   go_wp2
   go_ret
   exact ⟨by rw [HE.out];rfl,HB.out⟩
 · by_cases h2:16 < tenant
   · have HE:Hid (atN p tenant=none):=Lib.hid (by unfold atN;rw [if_neg (by omega)])
     go_enter Tryz.func135,Tryz.ntmps135
     go_wp2
     go_ret
     exact ⟨by rw [HE.out];rfl,HB.out⟩
   · obtain ⟨n,rfl⟩:∃ n:Nat,tenant=n:=⟨tenant.toNat,by omega⟩
     have HE:Hid (atN p (n:Int)=some ⟨p,1 + n * 15,none⟩):=Lib.hid (by unfold atN;rw [if_pos (by omega)];rfl)
     have g1:¬ ((n:Int) < 1):=by omega
     have g2:¬ (16 < (n:Int)):=by omega
     have g3:(0:Int) ≤ (n:Int):=by omega
     have g4:(n:Int) < 17:=by omega
     clear h1 h2
     go_enter Tryz.func135,Tryz.ntmps135
     go_wp2_with fail
     go_region
     all_goals
        go_wp2
        go_ret
        exact ⟨by rw [HE.out];rfl,HB.out.drew⟩
def thereM (p:Nat) (M:Mdl) (r:Req):Option Addr × Int :=
 if ¬ (1 ≤ r.tenant∧r.tenant ≤ 16) ∨ (r.deed=9∧(r.rights < 1 ∨ 7 < r.rights)) then (none,2)
 else if (M r.tenant.toNat).bk=none then (none,5) else (some ⟨p,1 + r.tenant.toNat * 15,none⟩,0)
def PtrErr (r:Option Addr × Int) (w:World) (e:Ending) (w':World):Prop:=e=.returned (.tuple #[.pointer r.1,.int .i64 r.2])∧Below w.heap.size w w'
set_option maxHeartbeats 3200000 in
theorem there_m {w:World} {p:Nat} {M:Mdl} {T:Ows} (hm:ModelAt w p M T) (r:Req):Calls Tryz.prog 137 #[.pointer (some ⟨p,0,none⟩),r.v] w (PtrErr (thereM p M r) w):=by
 have hb0:Below w.heap.size w (w.alloc (.cells r.row.toArray 39)):=below_box _ _
 have hq:=Blk.new w 39 r.row.toArray
 have HA:=Lib.hid (at_m p (w.alloc (.cells r.row.toArray 39)) r)
 have HM:=Lib.hid hm
 clear hm
 obtain ⟨deed,ten,gen,rig,key,val,old,lim,tenant,qk,qb,rights⟩:=r
 obtain ⟨c0,-,-,-,-,-,-,-,-,-,-,c11⟩:=req_cells hq
 have HB:=Lib.hid (And.intro hb0 hq)
 unfold Req.row at HB HA c0 c11
 dsimp only at HB HA c0 c11 ⊢
 clear hb0 hq
 have arm:∀ w1:World,Below (w.alloc (.cells (Req.row ⟨deed,ten,gen,rig,key,val,old,lim,tenant,qk,qb,rights⟩).toArray 39)).heap.size (w.alloc (.cells (Req.row ⟨deed,ten,gen,rig,key,val,old,lim,tenant,qk,qb,rights⟩).toArray 39)) w1→Below w.heap.size w w1∧w1.cell? ⟨w.heap.size,0,none⟩=some (.int .i64 deed)∧w1.cell? ⟨w.heap.size,11,none⟩=some (.int .u8 rights):=fun w1 hb =>
  ⟨HB.out.1.trans (hb.mono HB.out.1.size),(Blk.below HB.out.2 hb HB.out.2.lt).cell 0,(Blk.below HB.out.2 hb HB.out.2.lt).cell 11⟩
 have ARM:=Lib.hid arm
 clear arm
 by_cases ht:1 ≤ tenant∧tenant ≤ 16
 · obtain ⟨n,rfl⟩:∃ n:Nat,tenant=n:=⟨tenant.toNat,by omega⟩
   have hn:n < 17:=by omega
   have ha:atN p (n:Int)=some ⟨p,1 + n * 15,none⟩:=by unfold atN;rw [if_pos ht];rfl
   rw [ha] at HA
   clear ha
   by_cases hd:deed=9
   · by_cases h1:rights < 1
     · have HE:Hid (thereM p M ⟨deed,ten,gen,rig,key,val,old,lim,(n:Int),qk,qb,rights⟩=(none,2)):=Lib.hid (by unfold thereM;dsimp only;rw [if_pos (.inr ⟨hd,.inl h1⟩)])
       subst hd
       clear ht
       go_enter Tryz.func137,Tryz.ntmps137
       go_wp2_with (go_at_call 135;refine HA.out.mono ?_;rintro e w1 ⟨rfl,hb⟩;obtain ⟨hb1,e0,e11⟩:=ARM.out _ hb;have HB1:=Lib.hid hb1;clear hb hb1)
       go_ret2
       rw [HE.out]
       exact ⟨rfl,HB1.out⟩
     · by_cases h2:7 < rights
       · have HE:Hid (thereM p M ⟨deed,ten,gen,rig,key,val,old,lim,(n:Int),qk,qb,rights⟩=(none,2)):=Lib.hid (by unfold thereM;dsimp only;rw [if_pos (.inr ⟨hd,.inr h2⟩)])
         subst hd
         clear ht
         go_enter Tryz.func137,Tryz.ntmps137
         go_wp2_with (go_at_call 135;refine HA.out.mono ?_;rintro e w1 ⟨rfl,hb⟩;obtain ⟨hb1,e0,e11⟩:=ARM.out _ hb;have HB1:=Lib.hid hb1;clear hb hb1)
         go_ret2
         rw [HE.out]
         exact ⟨rfl,HB1.out⟩
       · subst hd
         cases hbk:(M n).bk with
         | none =>
           have HE:Hid (thereM p M ⟨9,ten,gen,rig,key,val,old,lim,(n:Int),qk,qb,rights⟩=(none,5)):=Lib.hid (by unfold thereM;dsimp only;rw [if_neg (by omega),if_pos (by simpa using hbk)])
           have HBK:Hid ((M n).bk.map (fun _=>(⟨(T n).b,0,none⟩:Addr))=none):=Lib.hid (by rw [hbk];rfl)
           clear hbk ht
           go_enter Tryz.func137,Tryz.ntmps137
           go_wp2_with (go_at_call 135;refine HA.out.mono ?_;rintro e w1 ⟨rfl,hb⟩;obtain ⟨hb1,e0,e11⟩:=ARM.out _ hb;have e3:w1.cell? ⟨p,1 + n * 15 + 3,none⟩=some (.pointer ((M n).bk.map (fun _=>⟨(T n).b,0,none⟩))):=(HM.out.below hb1).ptr hn;rw [HBK.out] at e3;have HB1:=Lib.hid hb1;clear hb hb1)
           go_ret2
           rw [HE.out]
           exact ⟨rfl,HB1.out⟩
         | some B =>
           have HE:Hid (thereM p M ⟨9,ten,gen,rig,key,val,old,lim,(n:Int),qk,qb,rights⟩=(some ⟨p,1 + n * 15,none⟩,0)):=Lib.hid (by unfold thereM;dsimp only;rw [if_neg (by omega),if_neg (by simp [hbk])];rfl)
           have HBK:Hid ((M n).bk.map (fun _=>(⟨(T n).b,0,none⟩:Addr))=some ⟨(T n).b,0,none⟩):=Lib.hid (by rw [hbk];rfl)
           clear hbk ht
           go_enter Tryz.func137,Tryz.ntmps137
           go_wp2_with (go_at_call 135;refine HA.out.mono ?_;rintro e w1 ⟨rfl,hb⟩;obtain ⟨hb1,e0,e11⟩:=ARM.out _ hb;have e3:w1.cell? ⟨p,1 + n * 15 + 3,none⟩=some (.pointer ((M n).bk.map (fun _=>⟨(T n).b,0,none⟩))):=(HM.out.below hb1).ptr hn;rw [HBK.out] at e3;have HB1:=Lib.hid hb1;clear hb hb1)
           go_ret2
           rw [HE.out]
           exact ⟨rfl,HB1.out⟩
   · have hd':(deed == 9)=false:=by simpa using hd
     cases hbk:(M n).bk with
     | none =>
       have HE:Hid (thereM p M ⟨deed,ten,gen,rig,key,val,old,lim,(n:Int),qk,qb,rights⟩=(none,5)):=Lib.hid (by unfold thereM;dsimp only;rw [if_neg (by omega),if_pos (by simpa using hbk)])
       have HBK:Hid ((M n).bk.map (fun _=>(⟨(T n).b,0,none⟩:Addr))=none):=Lib.hid (by rw [hbk];rfl)
       clear hbk ht
       go_enter Tryz.func137,Tryz.ntmps137
       go_wp2_with (go_at_call 135;refine HA.out.mono ?_;rintro e w1 ⟨rfl,hb⟩;obtain ⟨hb1,e0,e11⟩:=ARM.out _ hb;have e3:w1.cell? ⟨p,1 + n * 15 + 3,none⟩=some (.pointer ((M n).bk.map (fun _=>⟨(T n).b,0,none⟩))):=(HM.out.below hb1).ptr hn;rw [HBK.out] at e3;have HB1:=Lib.hid hb1;clear hb hb1)
       go_ret2
       rw [HE.out]
       exact ⟨rfl,HB1.out⟩
     | some B =>
       have HE:Hid (thereM p M ⟨deed,ten,gen,rig,key,val,old,lim,(n:Int),qk,qb,rights⟩=(some ⟨p,1 + n * 15,none⟩,0)):=Lib.hid (by unfold thereM;dsimp only;rw [if_neg (by omega),if_neg (by simp [hbk])];rfl)
       have HBK:Hid ((M n).bk.map (fun _=>(⟨(T n).b,0,none⟩:Addr))=some ⟨(T n).b,0,none⟩):=Lib.hid (by rw [hbk];rfl)
       clear hbk ht
       go_enter Tryz.func137,Tryz.ntmps137
       go_wp2_with (go_at_call 135;refine HA.out.mono ?_;rintro e w1 ⟨rfl,hb⟩;obtain ⟨hb1,e0,e11⟩:=ARM.out _ hb;have e3:w1.cell? ⟨p,1 + n * 15 + 3,none⟩=some (.pointer ((M n).bk.map (fun _=>⟨(T n).b,0,none⟩))):=(HM.out.below hb1).ptr hn;rw [HBK.out] at e3;have HB1:=Lib.hid hb1;clear hb hb1)
       go_ret2
       rw [HE.out]
       exact ⟨rfl,HB1.out⟩
 · have HE:Hid (thereM p M ⟨deed,ten,gen,rig,key,val,old,lim,tenant,qk,qb,rights⟩=(none,2)):=Lib.hid (by unfold thereM;dsimp only;rw [if_pos (.inl ht)])
   have ha:atN p tenant=none:=by unfold atN;rw [if_neg ht]
   rw [ha] at HA
   clear ha ht
   go_enter Tryz.func137,Tryz.ntmps137
   go_wp2_with (go_at_call 135;refine HA.out.mono ?_;rintro e w1 ⟨rfl,hb⟩;obtain ⟨hb1,e0,e11⟩:=ARM.out _ hb;have HB1:=Lib.hid hb1;clear hb hb1)
   go_ret2
   rw [HE.out]
   exact ⟨rfl,HB1.out⟩
section
variable {P:Program} {md:Region.Mode} {ops:Array Oper} {Q:Exit→Act→World→Prop} {k0:Nat} {S:World→Prop}
def wpAnyL (P:Program) (md:Region.Mode) (ops:Array Oper) (Q:Exit→Act→World→Prop) (k0:Nat) (S:World→Prop):Nat→Array Bool→Act→World→Prop
 | 0,listed,a,w=>Region.ready md ops listed=[]∧Q .normal a w
 | fuel + 1,listed,a,w=>(Region.ready md ops listed=[]→Q .normal a w) ∧
   ∀ i ∈ Region.ready md ops listed,wpOp P ops Q i (fun a' w'=>((listed.setIfInBounds i true).getD k0 false=false→S w')∧wpAnyL P md ops Q k0 S fuel (listed.setIfInBounds i true) a' w') a w
theorem wpAny_of_L:∀ (fuel:Nat) (listed:Array Bool) (a:Act) (w:World),wpAnyL P md ops Q k0 S fuel listed a w→wpAny P md ops Q fuel listed a w
 | 0,_,_,_,h=>h
 | fuel + 1,_,_,_,h=>⟨h.1,fun i hi=>wpOp_mono (fun a' w' k=>wpAny_of_L fuel _ a' w' k.2) (h.2 i hi)⟩
def waitsT (md:Region.Mode) (ops:Array Oper):Nat→Nat→Nat→Bool
 | 0,_,_=>false
 | n + 1,k,i=>match ops[k]? with
   | some o=>o.after.any fun e=>Region.binds md e && (e.on == i || waitsT md ops n e.on i)
   | none=>false
def Closed (md:Region.Mode) (ops:Array Oper) (listed:Array Bool):Prop:=∀ (j:Nat) (o:Oper),ops[j]?=some o→listed.getD j false=true→∀ e ∈ o.after,Region.binds md e=true→listed.getD e.on false=true
def closedB (md:Region.Mode) (ops:Array Oper) (listed:Array Bool):Bool:=(List.range ops.size).all fun j=>match ops[j]? with
 | some o=>!(listed.getD j false) || o.after.all fun e=>!(Region.binds md e) || listed.getD e.on false
 | none=>true
theorem closed_of {listed:Array Bool} (h:closedB md ops listed=true):Closed md ops listed:=by
 intro j o ho hj e he hb
 unfold closedB at h
 have hlt:j < ops.size:=(Array.getElem?_eq_some_iff.1 ho).1
 have h1:=List.all_eq_true.1 h j (List.mem_range.2 hlt)
 rw [ho] at h1
 simp only [hj,Bool.not_true,Bool.false_or] at h1
 rw [Array.all_eq_true] at h1
 obtain ⟨m,hm,rfl⟩:=Array.getElem_of_mem he
 have h2:=h1 m hm
 simpa [hb] using h2
theorem waits_listed {listed:Array Bool} (hc:Closed md ops listed):∀ (n k i:Nat),waitsT md ops n k i=true→listed.getD k false=true→listed.getD i false=true
 | 0,_,_,h,_=>by cases h
 | n + 1,k,i,h,hk=>by
   unfold waitsT at h
   cases ho:ops[k]? with
   | none=>rw [ho] at h;cases h
   | some o =>
     rw [ho] at h
     obtain ⟨m,hm,he⟩:=Array.any_eq_true.1 h
     rw [Bool.and_eq_true,Bool.or_eq_true,beq_iff_eq] at he
     have h1:=hc k o ho hk _ (Array.getElem_mem hm) he.1
     rcases he.2 with e | e
     · rw [← e];exact h1
     · exact waits_listed hc n _ i e h1
theorem waits_ready {listed:Array Bool} (hc:Closed md ops listed) {n k i:Nat} (h:waitsT md ops n k i=true) (hk:k ∈ Region.ready md ops listed):listed.getD i false=true:=by
 cases n with
 | zero=>cases h
 | succ n =>
   obtain ⟨_,o,ho,hall⟩:=mem_ready.1 hk
   unfold waitsT at h
   rw [ho] at h
   obtain ⟨m,hm,he⟩:=Array.any_eq_true.1 h
   rw [Bool.and_eq_true,Bool.or_eq_true,beq_iff_eq] at he
   have h1:=hall _ (Array.getElem_mem hm) he.1
   rcases he.2 with e | e
   · rw [← e];exact h1
   · exact waits_listed hc n _ i e h1
theorem closed_set {listed:Array Bool} (hc:Closed md ops listed) {j:Nat} (hj:j ∈ Region.ready md ops listed):Closed md ops (listed.setIfInBounds j true):=by
 intro k o ho hk e he hb
 by_cases e1:j=k
 · subst e1
   obtain ⟨_,o',ho',hall⟩:=mem_ready.1 hj
   rw [ho] at ho'
   injection ho' with ho'
   subst ho'
   exact getD_set_true (hall e he hb)
 · rw [getD_set_ne false e1] at hk
   exact getD_set_true (hc k o ho hk e he hb)
theorem ready_un {listed:Array Bool} {i:Nat} (h:i ∈ Region.ready md ops listed):listed.getD i false=false:=by
 have h0:=(mem_ready.1 h).1
 rcases Nat.lt_or_ge i listed.size with h' | h'
 · simp [h'] at h0 ⊢;exact h0
 · simp [h'] at h0 ⊢
theorem wpAnyL_first {i:Nat} {oi:Oper} {v:Value} (hi:ops[i]?=some oi) (hsel:∀ (j:Nat) (o:Oper) cs b,ops[j]?=some o→o.op ≠ .select cs b)
 (hQ:∀ c a w,Q (.panic c) (a.put oi.dst v) w→Q (.panic c) a w) {nw:Nat} (hw0:waitsT md ops nw k0 i=true) (hne:i ≠ k0) :
 ∀ (fuel:Nat) (listed:Array Bool) (a:Act) (w:World),
   (∀ j oj,ops[j]?=some oj→j ≠ i→listed.getD j true=false→(∀ e ∈ oj.after,Region.binds md e=true→e.on ≠ i)→oi.apart ops oj=true) →
   i ∈ Region.ready md ops listed→YieldsIf P ops S oi v a→S w→Closed md ops listed →
   wpAnyL P md ops Q k0 S fuel (listed.setIfInBounds i true) (a.put oi.dst v) w→wpAnyL P md ops Q k0 S (fuel + 1) listed a w:=by
 intro fuel
 induction fuel with
 | zero =>
   intro listed a w _ hr hy hS hcl H
   refine ⟨fun h=>(by rw [h] at hr;cases hr),fun j hj=>?_⟩
   by_cases hji:j=i
   · subst hji;exact hy.wpOp hi hS ⟨fun _=>hS,H⟩
   · have:=ready_mono hj hji
     rw [H.1] at this
     cases this
 | succ fuel ih =>
   intro listed a w hfree hr hy hS hcl H
   refine ⟨fun h=>(by rw [h] at hr;cases hr),fun j hj=>?_⟩
   by_cases hji:j=i
   · subst hji;exact hy.wpOp hi hS ⟨fun _=>hS,H⟩
   · have hun:=ready_un hr
     have hjk:j ≠ k0:=fun e=>by have:=waits_ready hcl hw0 (e ▸ hj);rw [hun] at this;cases this
     have hk:listed.getD k0 false=false:=by
        cases hh:listed.getD k0 false with
        | false=>rfl
        | true=>have:=waits_listed hcl nw k0 i hw0 hh;rw [hun] at this;cases this
     have h1:=H.2 j (ready_mono hj hji)
     obtain ⟨hjun,oj,hoj,hall⟩:=mem_ready.1 hj
     have hnot:∀ e ∈ oj.after,Region.binds md e=true→e.on ≠ i:=fun e he hb heq=>by
        have h1:=hall e he hb
        have h0:=(mem_ready.1 hr).1
        rw [heq] at h1
        rcases Nat.lt_or_ge i listed.size with h' | h'
        · simp [h'] at h0 h1;rw [h0] at h1;cases h1
        · simp [Array.getElem?_eq_none h'] at h1
     have hkj:∀ (l:Array Bool) (m:Nat),m ≠ k0→l.getD k0 false=false→(l.setIfInBounds m true).getD k0 false=false:=fun l m hm hl=>by
        rw [getD_set_ne false hm];exact hl
     have h2:=wpOp_putIf hoj (hfree j oj hoj hji hjun hnot) (fun cs b=>hsel i oi cs b hi) (fun cs b=>hsel j oj cs b hoj) hQ hy h1
     have hfree':∀ k ok,ops[k]?=some ok→k ≠ i→(listed.setIfInBounds j true).getD k true=false →
      (∀ e ∈ ok.after,Region.binds md e=true→e.on ≠ i)→oi.apart ops ok=true:=fun k ok hk hki hun hno=>by
        refine hfree k ok hk hki ?_ hno
        by_cases hjk:j=k
        · subst hjk;exact hjun
        · rw [getD_set_ne true hjk] at hun;exact hun
     refine wpOp_mono (fun a' w' h3=>?_) h2
     have hS':=h3.2.1 (hkj _ _ hjk (hkj _ _ hne hk))
     refine ⟨fun _=>hS',ih (listed.setIfInBounds j true) a' w' hfree' (ready_mono hr (Ne.symm hji)) h3.1 hS' (closed_set hcl hj) ?_⟩
     rw [Array.setIfInBounds_comm _ _ hji]
     exact h3.2.2
theorem wpAnyL_take {i:Nat} {oi:Oper} {v:Value} {fuel:Nat} {listed:Array Bool} {a:Act} {w:World} (hi:ops[i]?=some oi)
 (hs:Region.noSelect ops=true) (hf:Region.free md ops listed i=true) (hr:(Region.ready md ops listed).contains i=true) (hw0:(waitsT md ops 6 k0 i && (i != k0) && closedB md ops listed)=true)
 (hQ:∀ c a w,Q (.panic c) (a.put oi.dst v) w→Q (.panic c) a w) (hy:YieldsIf P ops S oi v a) (hS:S w)
 (h:wpAnyL P md ops Q k0 S fuel (listed.setIfInBounds i true) (a.put oi.dst v) w):wpAnyL P md ops Q k0 S (fuel + 1) listed a w:=by
 simp only [Bool.and_eq_true,bne_iff_ne] at hw0
 exact wpAnyL_first hi (Region.noSelect_spec hs) hQ hw0.1.1 hw0.1.2 fuel listed a w (Region.free_spec hi hf) (by simpa using hr) hy hS (closed_of hw0.2) h
theorem wpAnyL_done {listed:Array Bool} {a:Act} {w:World} (hr:Region.ready md ops listed=[]) (h:Q .normal a w):∀ fuel,wpAnyL P md ops Q k0 S fuel listed a w
 | 0=>⟨hr,h⟩
 | _ + 1=>⟨fun _=>h,by rw [hr];simp⟩
def AllL (P:Program) (md:Region.Mode) (ops:Array Oper) (Q:Exit→Act→World→Prop) (k0:Nat) (S:World→Prop) (fuel:Nat) (listed:Array Bool) (a:Act) (w:World) (rs:List Nat):Prop :=
 ∀ i ∈ rs,wpOp P ops Q i (fun a' w'=>((listed.setIfInBounds i true).getD k0 false=false→S w')∧wpAnyL P md ops Q k0 S fuel (listed.setIfInBounds i true) a' w') a w
theorem AllL.nil {fuel:Nat} {listed:Array Bool} {a:Act} {w:World}:AllL P md ops Q k0 S fuel listed a w []:=fun _ h=>by cases h
theorem AllL.cons {fuel:Nat} {listed:Array Bool} {a:Act} {w:World} {i:Nat} {o:Oper} {rs:List Nat} (ho:ops[i]?=some o)
 (h:∀ K':Act→World→Prop,Shut (∀ a w,((listed.setIfInBounds i true).getD k0 false=false→S w)→wpAnyL P md ops Q k0 S fuel (listed.setIfInBounds i true) a w→K' a w)→if Region.wanted o (yielded ops a.tmps)=true then Oper.wp P o a w K' Q else K' (a.put o.dst undef) w)
 (hs:AllL P md ops Q k0 S fuel listed a w rs):AllL P md ops Q k0 S fuel listed a w (i :: rs):=fun j hj=>by
 rcases List.mem_cons.1 hj with rfl | hj
 · exact wpOp_step ho (fun K' hK=>h K' (fun a w hS hW=>hK a w ⟨hS,hW⟩))
 · exact hs j hj
theorem wpAnyL_ready {rs:List Nat} {fuel:Nat} {listed:Array Bool} {a:Act} {w:World} (hr:Region.ready md ops listed=rs) (hne:rs ≠ [])
 (h:AllL P md ops Q k0 S fuel listed a w rs):wpAnyL P md ops Q k0 S (fuel + 1) listed a w:=⟨fun h0=>absurd (hr ▸ h0) hne,hr ▸ h⟩
theorem wp_region_L {id:Nat} {a:Act} {w:World} (k0:Nat) (S:World→Prop) (hm:P.follows .mixedOrders=true)
 (h:wpAnyL P .any ops Q k0 S ops.size (Array.replicate ops.size false) a w.drew):(Code.region id ops true).wp P Q a w :=
 wp_region_any hm (wpAny_of_L _ _ _ _ h)
end
end Go.Proofs.YtkgflepgkhnclaaGreatDoor
namespace Go.Proofs.YtkgflepgkhnclaaGreatDoor
set_option linter.unusedVariables false
set_option linter.unusedSimpArgs false
open Go.RowKit Go.Shelf
attribute [local go_sem] run_store_complex
structure Ans where
 err:Int
 val:ByteArray
 prs:List Kv
 h:Hd
 st:List Value
def Ans.cells (a:Ans) (A:Option Addr) (c:Nat):List Value:=[.int .i64 a.err,.string a.val,.slice A a.prs.length c,.int .i64 a.h.t,.int .u32 a.h.g,.int .u8 a.h.r] ++ a.st
def Ans.v (a:Ans) (A:Option Addr) (c:Nat):Value:=.agg (a.cells A c).toArray
def errA (e:Int):Ans:=⟨e,⟨#[]⟩,[],⟨0,0,0⟩,st0⟩
def DoEnd (p:Nat) (M:Mdl) (T:Ows) (r:Mdl × Ans) (w:World) (e:Ending) (w':World):Prop :=
 ∃ A c T',e=.returned (r.2.v A c)∧ModelAt w' p r.1 T'∧w'.ownsRow w.heap.size 57 2 (.slice A r.2.prs.length c) r.2.prs.length (r.2.prs.flatMap pairR) ∧
   (∀ i,mown p r.1 T' i→mown p M T i ∨ w.heap.size ≤ i)∧KeepC (mown p M T) w w'
theorem own_nil (w:World) (b:Nat):w.ownsRow b 57 2 (.slice none 0 0) 0 []:=⟨by simp,.inl ⟨rfl,rfl⟩⟩
def updM (M:Mdl) (n:Nat) (t:Ten):Mdl:=fun i=>if i=n then t else M i
def updO (T:Ows) (n:Nat) (o:Ow):Ows:=fun i=>if i=n then o else T i
theorem updM_self (M:Mdl) (n:Nat) (t:Ten):updM M n t n=t:=by simp [updM]
theorem updM_ne {M:Mdl} {n i:Nat} {t:Ten} (h:i ≠ n):updM M n t i=M i:=by simp [updM,h]
theorem updO_self (T:Ows) (n:Nat) (o:Ow):updO T n o n=o:=by simp [updO]
theorem updO_ne {T:Ows} {n i:Nat} {o:Ow} (h:i ≠ n):updO T n o i=T i:=by simp [updO,h]
theorem mcells_of {w:World} {p:Nat} {M:Mdl} {T:Ows} {cs:Array Value} (hb:Blk w p 78 cs) (hs:cs.size=256) (hok:∀ t,(M t).ok) (h0:w.cell? ⟨p,0,none⟩=some (.bool true))
 (hc:∀ t j v,t < 17→((M t).cells (T t))[j]?=some v→w.cell? ⟨p,1 + t * 15 + j,none⟩=some v):Blk w p 78 (mcells M T).toArray:=by
 have:cs=(mcells M T).toArray:=by
  apply Array.ext
  · rw [hs];simp [mcells_len hok]
  · intro i h1 h2
    have hi:i < 256:=by omega
    have h3:cs[i]?=(mcells M T)[i]?:=by
        rcases Nat.eq_zero_or_pos i with h | h
        · subst h
          rw [← hb.cell,h0]
          try rfl
        · obtain ⟨t,j,ht,hj,rfl⟩:∃ t j,t < 17∧j < 15∧i=1 + t * 15 + j:=⟨(i - 1) / 15,(i - 1) % 15,by omega,by omega,by omega⟩
          rw [mcell hok ht hj]
          have hlt:j < ((M t).cells (T t)).length:=by rw [Ten.cells_len (hok t)];exact hj
          have hv:((M t).cells (T t))[j]?=some ((M t).cells (T t))[j]:=List.getElem?_eq_getElem hlt
          rw [hv,← hb.cell]
          exact hc t j _ ht hv
    rw [Array.getElem?_eq_getElem h1,List.getElem?_eq_getElem (by simpa using h2)] at h3
    injection h3 with h3
 rw [← this]
 exact hb
theorem ModelAt.wrote {w w':World} {p n:Nat} {M:Mdl} {T:Ows} {t:Ten} {o:Ow} {off:Nat} {vs:List Value} (h:ModelAt w p M T) (hn:n < 17) (ht:t.ok) (hw:w'=w.setCells p (1 + n * 15 + off) vs) (hoff:off + vs.length ≤ 15)
 (hc:∀ j v,(t.cells o)[j]?=some v→(j < off ∨ off + vs.length ≤ j→((M n).cells (T n))[j]?=some v)∧(off ≤ j→j < off + vs.length→vs[j - off]?=some v))
 (hbk:∀ B,t.bk=some B→BkAt w o B) (hap:t.bk.isSome→∀ s i,s < 17→s ≠ n→(M s).bk.isSome→o.has i→¬ (T s).has i) (hnp:t.bk.isSome→∀ i,o.has i→i ≠ p) :
 ModelAt w' p (updM M n t) (updO T n o)∧KeepC (fun i=>i=p) w w':=by
 subst hw
 obtain ⟨cs',hb',hs'⟩:=h.blk.sets vs (1 + n * 15 + off)
 have hsz:cs'.size=256:=by rw [hs'];simp [mcells_len h.ok]
 have hsome:∀ j,j < vs.length→(w.cell? ⟨p,1 + n * 15 + off + j,none⟩).isSome=true:=fun j hj=>cell_some h.blk (by simp [mcells_len h.ok];omega)
 have hok:∀ i,(updM M n t i).ok:=fun i=>by
  by_cases e:i=n
  · subst e;rw [updM_self];exact ht
  · rw [updM_ne e];exact h.ok i
 have hk:KeepC (fun i=>i=p) w (w.setCells p (1 + n * 15 + off) vs):=(KeepC.refl (fun i=>i=p) w).sets h.blk (by decide) (fun _=>rfl) _ _
 refine ⟨⟨mcells_of hb' hsz hok ?_ ?_,hok,fun i B hi hB=>?_,fun a b i ha hb hab hsa hsb hia=>?_⟩,hk⟩
 · rw [World.cell?_setCells_out p _ _ _ _ (fun _ _=>.inl (by show 0 < _;omega))]
   exact h.real
 · intro i j v hi hv
   by_cases e:i=n
   · subst e
     rw [updM_self,updO_self] at hv
     have hj:j < 15:=by
        have:=(List.getElem?_eq_some_iff.1 hv).1
        rwa [Ten.cells_len ht] at this
     obtain ⟨k1,k2⟩:=hc j v hv
     by_cases hin:off ≤ j∧j < off + vs.length
     · have h2:=k2 hin.1 hin.2
       obtain ⟨h3,h4⟩:=List.getElem?_eq_some_iff.1 h2
       have:=World.cell?_setCells_in p vs (1 + i * 15 + off) w hsome (j - off) h3
       rw [show 1 + i * 15 + off + (j - off)=1 + i * 15 + j by omega,h4] at this
       exact this
     · rw [World.cell?_setCells_out p _ _ _ _ (fun _ _=>by show 1 + i * 15 + j < _ ∨ _ ≤ 1 + i * 15 + j;omega)]
       exact h.cell hi (k1 (by omega))
   · rw [updM_ne e,updO_ne e] at hv
     have hj:j < 15:=by
        have:=(List.getElem?_eq_some_iff.1 hv).1
        rwa [Ten.cells_len (h.ok i)] at this
     rw [World.cell?_setCells_out p _ _ _ _ (fun _ _=>by
        show 1 + i * 15 + j < _ ∨ _ ≤ 1 + i * 15 + j
        rcases Nat.lt_or_gt_of_ne e with h1 | h1
        · left;have:(i + 1) * 15 ≤ n * 15:=Nat.mul_le_mul_right _ h1;omega
        · right;have:(n + 1) * 15 ≤ i * 15:=Nat.mul_le_mul_right _ h1;omega)]
     exact h.cell hi hv
 · by_cases e:i=n
   · subst e
     rw [updM_self] at hB
     rw [updO_self]
     exact (hbk B hB).keep hk (fun x hx=>hnp (by rw [hB];rfl) x hx)
   · rw [updM_ne e] at hB
     rw [updO_ne e]
     exact (h.bk i B hi hB).keep hk (fun x hx=>h.ne hi (by rw [hB];rfl) hx)
 · by_cases ea:a=n
   · subst ea
     have eb:b ≠ a:=fun e=>hab e.symm
     rw [updM_self] at hsa
     rw [updM_ne eb] at hsb
     rw [updO_self] at hia
     rw [updO_ne eb]
     exact hap hsa b i hb eb hsb hia
   · rw [updM_ne ea] at hsa
     rw [updO_ne ea] at hia
     by_cases eb:b=n
     · subst eb
       rw [updM_self] at hsb
       rw [updO_self]
       intro hx
       exact hap hsb a i ha ea hsa hx hia
     · rw [updM_ne eb] at hsb
       rw [updO_ne eb]
       exact h.apart a b i ha hb hab hsa hsb hia
section
variable {P:Program} {w:World}
theorem results_cell {fn:Func} {tmps:Array Value} {i:Nat} {t tt:TypeId} {g:Nat} {cs:Array Value} {d:TypeDesc} (hres:fn.results=#[.cell i t]) (ha:tmps.getD i undef=.pointer (some ⟨g,0,none⟩)) (hb:Blk w g tt cs)
 (hu:P.underlying t=some d) (hd:d.isRow=true) (hi:(P.info? t).map (·.size)=some cs.size):(results fn tmps).run P w=.ok (.agg cs) w:=by
 have hl:=run_loadVar_mid (P:=P) w g 0 t cs.toList d (fun j v hv=>by rw [Nat.zero_add,hb.cell];simpa using hv) hu hd (by simpa using hi)
 have hp:asAddr (.pointer (some ⟨g,0,none⟩))=pure ⟨g,0,none⟩:=rfl
 simp only [Array.toArray_toList] at hl
 rw [Array.getD_eq_getD_getElem?] at ha
 simp [results,hres,ha,hp,hl,Result.andThen]
theorem there_blk {g n:Nat} {t:TypeId} {cs:Array Value} (h:Blk w g t cs) (hn:n ≤ cs.size):w.there g 0 n:=fun j hj=>by
 rw [Nat.zero_add]
 exact ⟨cell_some h (by omega),h.frozen j⟩
theorem blk_setAll {g:Nat} {t:TypeId} {cur cells:Array Value} (h:Blk w g t cur) (hs:cur.size=cells.size):Blk (w.setCells g 0 cells.toList) g t cells:=by
 obtain ⟨cs',hb',hs'⟩:=h.sets cells.toList 0
 have:cs'=cells:=by
  apply Array.ext
  · omega
  · intro i h1 h2
    have h3:=World.cell?_setCells_in g cells.toList 0 w (fun j hj=>by rw [Nat.zero_add];exact cell_some h (by simp at hj;omega)) i (by simpa using h2)
    rw [Nat.zero_add,hb'.cell,Array.getElem?_eq_getElem h1] at h3
    injection h3 with h3
 rw [← this]
 exact this ▸ hb'
theorem below_sets {B:Nat} {a:World} (g:Nat) (hg:B ≤ g):∀ (vs:List Value) (o:Nat) (w:World),Below B a w→Below B a (w.setCells g o vs)
 | [],_,_,h=>h
 | v :: r,o,w,h=>below_sets g hg r (o + 1) _ (h.setCell (p:=⟨g,o,none⟩) hg v)
end
theorem wrap_u32_ok (n:Int):0 ≤ IntKind.u32.wrap n∧IntKind.u32.wrap n ≤ 4294967295:=by simp [IntKind.wrap,IntKind.bits,IntKind.signed];omega
theorem infoAns:(Tryz.prog.info? 52).map (·.size)=some 17:=by kernel_rfl
theorem infoTen:(Tryz.prog.info? 75).map (·.size)=some 15:=by kernel_rfl
abbrev zeroA:Array Value:=#[.int .i64 0,.string ⟨#[]⟩,.slice none 0 0,.int .i64 0,.int .u32 0,.int .u8 0,.int .u64 0,.int .u64 0,.int .u64 0,.int .u64 0,.int .u64 0,.int .u64 0,.int .u64 0,.int .u64 0,.int .u64 0,.int .u64 0,.complex .f64 0 0]
theorem there_yes {p:Nat} {M:Mdl} {r:Req} (h:(thereM p M r).2=0):∃ n:Nat,r.tenant=n∧1 ≤ n∧n ≤ 16∧thereM p M r=(some ⟨p,1 + n * 15,none⟩,0)∧(M n).bk.isSome:=by
 unfold thereM at h ⊢
 split at h
 · cases h
 · rename_i h1
   split at h
   · cases h
   · rename_i h2
     have h3:1 ≤ r.tenant∧r.tenant ≤ 16:=Classical.byContradiction (fun h=>h1 (.inl h))
     refine ⟨r.tenant.toNat,by omega,by omega,by omega,?_,?_⟩
     · rw [if_neg h1,if_neg h2]
     · cases hb:(M r.tenant.toNat).bk with
       | none=>exact absurd hb h2
       | some B=>rfl
abbrev errC (e:Int):Array Value:=#[.int .i64 e,.string ⟨#[]⟩,.slice none 0 0,.int .i64 0,.int .u32 0,.int .u8 0,.int .u64 0,.int .u64 0,.int .u64 0,.int .u64 0,.int .u64 0,.int .u64 0,.int .u64 0,.int .u64 0,.int .u64 0,.int .u64 0,.complex .f64 0 0]
theorem errC_one (e:Int):(errC e).all (·.oneCell')=true:=by simp [errC,Value.oneCell']
theorem ModelAt.other {w:World} {p:Nat} {M:Mdl} {T:Ows} (h:ModelAt w p M T) {i:Nat} {t:TypeId} {cs:Array Value} (hi:mown p M T i) (hb:Blk w i t cs) (h1:t ≠ 78) (h2:t ≠ 134) (h3:t ≠ 9):False:=by
 have same:∀ {t':TypeId} {cs':Array Value},Blk w i t' cs'→t=t':=fun k=>by
  unfold Blk at hb k
  rw [hb] at k
  injection k with k
  injection k with _ k _
 rcases hi with rfl | ⟨n,hn,hs,hi⟩
 · exact h1 (same h.blk)
 · obtain ⟨B,hB⟩:=Option.isSome_iff_exists.1 hs
   have hk:=h.bk n B hn hB
   rcases hi with rfl | rfl | hi
   · obtain ⟨cs',h4⟩:=hk.blk
     exact h2 (same h4)
   · obtain ⟨kvs,h4⟩:=hk.map
     exact strMap_ne h4 hb rfl
   · obtain ⟨A,c,_,h4⟩:=hk.row
     exact h4.ne hb h3 hi
theorem doEnd_store {w w2:World} {p g:Nat} {M M':Mdl} {T T':Ows} {a:Ans} {cur:Array Value} (hm:ModelAt w2 p M' T') (hk:KeepC (mown p M T) w w2) (ho:∀ i,mown p M' T' i→mown p M T i ∨ w.heap.size ≤ i) (hg:w.heap.size ≤ g)
 (hb:Blk w2 g 52 cur) (ha:a.prs=[]):DoEnd p M T (M',a) w (.returned (a.v none 0)) (w2.setCells g 0 (a.cells none 0)):=by
 have hq:KeepC (fun i=>i=g) w2 (w2.setCells g 0 (a.cells none 0)):=(KeepC.refl (fun i=>i=g) w2).sets hb (by decide) (fun _=>rfl) _ _
 refine ⟨none,0,T',rfl,hm.keep hq (fun i hi e=>?_),by rw [ha];exact own_nil _ _,ho,hk.sets hb (by decide) (fun h=>by omega) _ _⟩
 subst e
 exact hm.other hi hb (by decide) (by decide) (by decide)
def revokeN (M:Mdl) (r:Req):Mdl × Ans :=
 if (thereM 0 M r).2=0 then (updM M r.tenant.toNat { M r.tenant.toNat with gen:=IntKind.u32.wrap ((M r.tenant.toNat).gen + 1) },errA 0) else (M,errA (thereM 0 M r).2)
def removeN (M:Mdl) (r:Req):Mdl × Ans :=
 if (thereM 0 M r).2=0 then (updM M r.tenant.toNat { ten0 with gen:=(M r.tenant.toNat).gen },errA 0) else (M,errA (thereM 0 M r).2)
def issueN (M:Mdl) (r:Req):Mdl × Ans :=
 if (thereM 0 M r).2=0 then (M,{ errA 0 with h:=⟨r.tenant,(M r.tenant.toNat).gen,r.rights⟩ }) else (M,errA (thereM 0 M r).2)
theorem mown_upd {p n:Nat} {M:Mdl} {T:Ows} {t:Ten} (hs:(M n).bk.isSome) {i:Nat} (h:mown p (updM M n t) T i):mown p M T i:=by
 rcases h with rfl | ⟨k,hk,hsk,hi⟩
 · exact .inl rfl
 · refine .inr ⟨k,hk,?_,hi⟩
   by_cases e:k=n
   · subst e;exact hs
   · rwa [updM_ne e] at hsk
theorem there_err (p q:Nat) (M:Mdl) (r:Req):(thereM p M r).2=(thereM q M r).2:=by
 unfold thereM
 split
 · rfl
 · split <;> rfl
set_option maxHeartbeats 3200000 in
set_option maxRecDepth 100000 in
theorem revoke_m {w:World} {p:Nat} {M:Mdl} {T:Ows} (hm:ModelAt w p M T) (r:Req):Calls Tryz.prog 74 #[.pointer (some ⟨p,0,none⟩),r.v] w (DoEnd p M T (revokeN M r) w):=by
 have hb0:Below w.heap.size w (w.alloc (.cells r.row.toArray 39)):=below_box _ _
 have hb1:=below_alloc hb0 (.cells zeroA 52)
 have hbx:Blk ((w.alloc (.cells r.row.toArray 39)).alloc (.cells zeroA 52)) (w.heap.size + 1) 52 zeroA:=blk_at (by simp)
 have HT:=Lib.hid (there_m (hm.below hb1) r)
 have HM:=Lib.hid hm
 have HB:=Lib.hid (And.intro hb1 hbx)
 unfold Req.row at HT HB
 clear hb0 hb1 hbx hm
 by_cases h0:(thereM p M r).2=0
 · obtain ⟨n,hn,hn1,hn2,ht,hsome⟩:=there_yes h0
   have HE:Hid (revokeN M r=(updM M n { M n with gen:=IntKind.u32.wrap ((M n).gen + 1) },errA 0)):=Lib.hid (by unfold revokeN;rw [if_pos (by rw [there_err 0 p];exact h0),hn];rfl)
   rw [ht] at HT
   clear h0 ht hn
   go_enter Tryz.func74,Tryz.ntmps74
   go_wp2_with fail
   refine HT.out.mono ?_
   rintro e w1 ⟨rfl,hb⟩
   have M1:=(HM.out.below HB.out.1).below hb
   have x0:=M1.gen (t:=n) (by omega)
   have f0:=M1.blk.frozen (1 + n * 15)
   have BX:=Lib.hid (HB.out.2.below hb HB.out.2.lt)
   have HB1:=Lib.hid (HB.out.1.trans (hb.mono HB.out.1.size))
   have HM1:=Lib.hid M1
   clear M1 hb
   have HW:Hid (Below w.heap.size w w1):=HB1
   have hgp:w.heap.size + 1 ≠ p:=by have:=HM.out.blk.lt;omega
   dsimp only
   go_wp2_with (refine wpList_store_mid rfl 52 (.tmp 4) (.tmp 23) rfl (w.heap.size + 1) 0 (errC 0) rfl rfl (there_blk (BX.out.far (p:=⟨p,1 + n * 15,none⟩) hgp _) (Nat.le_refl 17)) infoAns (errC_one _) ?_)
   have hb2:=BX.out.far (p:=⟨p,1 + n * 15,none⟩) hgp (.int .u32 (IntKind.u32.wrap ((M n).gen + 1)))
   refine bodyPost_ret (v:=(errA 0).v none 0) ?_ rfl ?_
   · exact results_cell Tryz.results74 rfl (blk_setAll hb2 rfl) Tryz.underlying52 rfl infoAns
   have hn17:n < 17:=by omega
   have hok:=HM.out.ok n
   obtain ⟨m1,k1⟩:=HM1.out.wrote (n:=n) (t:={ M n with gen:=IntKind.u32.wrap ((M n).gen + 1) }) (o:=T n) (off:=0) (vs:=[.int .u32 (IntKind.u32.wrap ((M n).gen + 1))]) hn17 ⟨wrap_u32_ok _,hok.qk,hok.qb,hok.st⟩ rfl (by simp)
    (fun j v hv=>⟨fun h=>by
        cases j with
        | zero=>simp at h
        | succ j=>exact hv,fun _ h=>by
        obtain rfl:j=0:=by simp at h;omega
        exact hv⟩) (fun B hB=>HM1.out.bk n B hn17 hB) (fun hs s i hs1 hne hss hi=>HM1.out.apart n s i hn17 hs1 (fun e=>hne e.symm) hs hss hi) (fun hs i hi=>HM1.out.ne hn17 hs hi)
   have hTn:updO T n (T n)=T:=by funext i;unfold updO;split <;> simp_all
   rw [hTn] at m1
   rw [HE.out]
   exact doEnd_store m1 (((KeepC.refl (mown p M T) w).below HB1.out).trans k1 (fun i _ h=>.inl h)) (fun i hi=>.inl (mown_upd hsome hi)) (Nat.le_succ _) hb2 rfl
 · have HE:Hid (revokeN M r=(M,errA (thereM p M r).2)):=Lib.hid (by unfold revokeN;rw [if_neg (by rw [there_err 0 p];exact h0),there_err 0 p])
   generalize thereM p M r=q at HT h0 HE
   obtain ⟨q1,q2⟩:=q
   dsimp only at h0 HE
   go_enter Tryz.func74,Tryz.ntmps74
   go_wp2_with fail
   refine HT.out.mono ?_
   rintro e w1 ⟨rfl,hb⟩
   have BX:=Lib.hid (HB.out.2.below hb HB.out.2.lt)
   have HB1:=Lib.hid (HB.out.1.trans (hb.mono HB.out.1.size))
   clear hb
   dsimp only
   go_wp2_with (refine wpList_store_mid rfl 52 (.tmp 4) (.tmp 23) rfl (w.heap.size + 1) 0 (errC q2) rfl rfl (there_blk BX.out (Nat.le_refl 17)) infoAns (errC_one _) ?_)
   refine bodyPost_ret (v:=(errA q2).v none 0) ?_ rfl ?_
   · exact results_cell Tryz.results74 rfl (blk_setAll BX.out rfl) Tryz.underlying52 rfl infoAns
   rw [HE.out]
   exact doEnd_store (HM.out.below HB1.out) (.of_below HB1.out) (fun i hi=>.inl hi) (Nat.le_succ _) BX.out rfl
abbrev tenC (g:Int):Array Value:=#[.int .u32 g,.int .u64 0,.int .u64 0,.pointer none,.int .u64 0,.int .u64 0,.int .u64 0,.int .u64 0,.int .u64 0,.int .u64 0,.int .u64 0,.int .u64 0,.int .u64 0,.int .u64 0,.complex .f64 0 0]
theorem tenC_one (g:Int):(tenC g).all (·.oneCell')=true:=by simp [tenC,Value.oneCell']
theorem there_mdl {w:World} {p:Nat} {M:Mdl} {T:Ows} (h:ModelAt w p M T) {n k m:Nat} (hm:n + m ≤ 256):w.there p n m:=fun j hj=>⟨cell_some h.blk (by simp [mcells_len h.ok];omega),h.blk.frozen _⟩
set_option maxHeartbeats 3200000 in
set_option maxRecDepth 100000 in
theorem remove_m {w:World} {p:Nat} {M:Mdl} {T:Ows} (hm:ModelAt w p M T) (r:Req):Calls Tryz.prog 72 #[.pointer (some ⟨p,0,none⟩),r.v] w (DoEnd p M T (removeN M r) w):=by
 have hb0:Below w.heap.size w (w.alloc (.cells r.row.toArray 39)):=below_box _ _
 have hq0:=Blk.new w 39 r.row.toArray
 have hb1:=below_alloc hb0 (.cells zeroA 52)
 have hbq:=hq0.alloc (.cells zeroA 52)
 have hbx:Blk ((w.alloc (.cells r.row.toArray 39)).alloc (.cells zeroA 52)) (w.heap.size + 1) 52 zeroA:=blk_at (by simp)
 have HT:=Lib.hid (there_m (hm.below hb1) r)
 have HM:=Lib.hid hm
 have HB:=Lib.hid (And.intro hb1 (And.intro hbx hbq))
 unfold Req.row at HT HB
 clear hb0 hb1 hbx hm hq0 hbq
 by_cases h0:(thereM p M r).2=0
 · obtain ⟨n,hn,hn1,hn2,ht,hsome⟩:=there_yes h0
   have HE:Hid (removeN M r=(updM M n { ten0 with gen:=(M n).gen },errA 0)):=Lib.hid (by unfold removeN;rw [if_pos (by rw [there_err 0 p];exact h0),hn];rfl)
   rw [ht] at HT
   clear h0 ht hn
   go_enter Tryz.func72,Tryz.ntmps72
   go_wp2_with fail
   refine HT.out.mono ?_
   rintro e w1 ⟨rfl,hb⟩
   have M1:=(HM.out.below HB.out.1).below hb
   have x0:=M1.gen (t:=n) (by omega)
   have BX:=Lib.hid (HB.out.2.1.below hb HB.out.2.1.lt)
   have BQ:Hid (Blk w1 w.heap.size 39 r.row.toArray):=Lib.hid (HB.out.2.2.below hb HB.out.2.2.lt)
   have HB1:=Lib.hid (HB.out.1.trans (hb.mono HB.out.1.size))
   have HM1:=Lib.hid M1
   clear M1 hb
   have hgp:w.heap.size + 1 ≠ p:=by have:=HM.out.blk.lt;omega
   dsimp only
   have hn17:n < 17:=by omega
   have hok:=HM.out.ok n
   obtain ⟨m1,k1⟩:=HM1.out.wrote (n:=n) (t:={ ten0 with gen:=(M n).gen }) (o:=T n) (off:=0) (vs:=(tenC (M n).gen).toList) hn17 ⟨hok.gen,ten0_ok.qk,ten0_ok.qb,ten0_ok.st⟩ rfl (by simp)
    (fun j v hv=>⟨fun h=>by
        have:=(List.getElem?_eq_some_iff.1 hv).1
        have hl:(({ ten0 with gen:=(M n).gen }:Ten).cells (T n)).length=15:=rfl
        rw [hl] at this
        simp at h
        omega,fun _ h=>by exact hv⟩) (fun B hB=>by cases hB) (fun hs=>by cases hs) (fun hs=>by cases hs)
   have hb2:Blk (w1.setCells p (1 + n * 15) (tenC (M n).gen).toList) (w.heap.size + 1) 52 zeroA:=(k1.blk BX.out hgp)
   obtain ⟨w2,hw2⟩:∃ w2,w1.setCells p (1 + n * 15) (tenC (M n).gen).toList=w2:=⟨_,rfl⟩
   rw [Nat.add_zero,hw2] at m1 k1
   rw [hw2] at hb2
   have HW2:=Lib.hid hw2
   have HK:=Lib.hid (And.intro m1 (And.intro k1 hb2))
   have hth:=there_mdl (n:=1 + n * 15) (k:=0) (m:=15) HM1.out (by omega)
   clear m1 k1 hok hw2
   go_wp2_with (first
    | (refine wpList_store_mid rfl 75 (.tmp 21) (.tmp 20) rfl p (1 + n * 15) (tenC (M n).gen) rfl rfl hth infoTen (tenC_one _) ?_;rw [HW2.out])
    | (refine wpList_store_mid rfl 52 (.tmp 4) (.tmp 23) rfl (w.heap.size + 1) 0 (errC 0) rfl rfl (there_blk hb2 (Nat.le_refl 17)) infoAns (errC_one _) ?_))
   refine bodyPost_ret (v:=(errA 0).v none 0) ?_ rfl ?_
   · exact results_cell Tryz.results72 rfl (blk_setAll hb2 rfl) Tryz.underlying52 rfl infoAns
   obtain ⟨m1,k1,-⟩:=HK.out
   have hTn:updO T n (T n)=T:=by funext i;unfold updO;split <;> simp_all
   rw [hTn] at m1
   rw [HE.out]
   exact doEnd_store m1 (((KeepC.refl (mown p M T) w).below HB1.out).trans k1 (fun i _ h=>.inl h)) (fun i hi=>.inl (mown_upd hsome hi)) (Nat.le_succ _) hb2 rfl
 · have HE:Hid (removeN M r=(M,errA (thereM p M r).2)):=Lib.hid (by unfold removeN;rw [if_neg (by rw [there_err 0 p];exact h0),there_err 0 p])
   generalize thereM p M r=q at HT h0 HE
   obtain ⟨q1,q2⟩:=q
   dsimp only at h0 HE
   go_enter Tryz.func72,Tryz.ntmps72
   go_wp2_with fail
   refine HT.out.mono ?_
   rintro e w1 ⟨rfl,hb⟩
   have BX:=Lib.hid (HB.out.2.1.below hb HB.out.2.1.lt)
   have HB1:=Lib.hid (HB.out.1.trans (hb.mono HB.out.1.size))
   clear hb
   dsimp only
   go_wp2_with (refine wpList_store_mid rfl 52 (.tmp 4) (.tmp 23) rfl (w.heap.size + 1) 0 (errC q2) rfl rfl (there_blk BX.out (Nat.le_refl 17)) infoAns (errC_one _) ?_)
   refine bodyPost_ret (v:=(errA q2).v none 0) ?_ rfl ?_
   · exact results_cell Tryz.results72 rfl (blk_setAll BX.out rfl) Tryz.underlying52 rfl infoAns
   rw [HE.out]
   exact doEnd_store (HM.out.below HB1.out) (.of_below HB1.out) (fun i hi=>.inl hi) (Nat.le_succ _) BX.out rfl
set_option maxHeartbeats 3200000 in
set_option maxRecDepth 100000 in
theorem issue_m {w:World} {p:Nat} {M:Mdl} {T:Ows} (hm:ModelAt w p M T) (r:Req):Calls Tryz.prog 73 #[.pointer (some ⟨p,0,none⟩),r.v] w (DoEnd p M T (issueN M r) w):=by
 have hb0:Below w.heap.size w (w.alloc (.cells r.row.toArray 39)):=below_box _ _
 have hq0:=Blk.new w 39 r.row.toArray
 have hb1:=below_alloc hb0 (.cells zeroA 52)
 have hbq:=hq0.alloc (.cells zeroA 52)
 have hbx:Blk ((w.alloc (.cells r.row.toArray 39)).alloc (.cells zeroA 52)) (w.heap.size + 1) 52 zeroA:=blk_at (by simp)
 have HT:=Lib.hid (there_m (hm.below hb1) r)
 have HM:=Lib.hid hm
 have HB:=Lib.hid (And.intro hb1 (And.intro hbx hbq))
 unfold Req.row at HT HB
 clear hb0 hb1 hbx hm hq0 hbq
 by_cases h0:(thereM p M r).2=0
 · obtain ⟨n,hn,hn1,hn2,ht,hsome⟩:=there_yes h0
   have HE:Hid (issueN M r=(M,{ errA 0 with h:=⟨r.tenant,(M n).gen,r.rights⟩ })):=Lib.hid (by unfold issueN;rw [if_pos (by rw [there_err 0 p];exact h0),hn];rfl)
   rw [ht] at HT
   clear h0 ht hn
   go_enter Tryz.func73,Tryz.ntmps73
   go_wp2_with fail
   refine HT.out.mono ?_
   rintro e w1 ⟨rfl,hb⟩
   have M1:=(HM.out.below HB.out.1).below hb
   have x0:=M1.gen (t:=n) (by omega)
   have BX:=Lib.hid (HB.out.2.1.below hb HB.out.2.1.lt)
   have BQ:Hid (Blk w1 w.heap.size 39 r.row.toArray):=Lib.hid (HB.out.2.2.below hb HB.out.2.2.lt)
   have HB1:=Lib.hid (HB.out.1.trans (hb.mono HB.out.1.size))
   have HM1:=Lib.hid M1
   clear M1 hb
   have hgp:w.heap.size + 1 ≠ p:=by have:=HM.out.blk.lt;omega
   dsimp only
   obtain ⟨-,-,-,-,-,-,-,-,c8,-,-,c11⟩:=req_cells BQ.out
   have hmix:Tryz.prog.follows .mixedOrders=true:=by kernel_rfl
   have HS:w1.drew.cell? ⟨w.heap.size,8,none⟩=some (.int .i64 r.tenant)∧w1.drew.cell? ⟨p,1 + n * 15,none⟩=some (.int .u32 (M n).gen)∧w1.drew.cell? ⟨w.heap.size,11,none⟩=some (.int .u8 r.rights):=⟨c8,x0,c11⟩
   go_wp2_with fail
   refine wp_region_L 10 (fun V:World=>V.cell? ⟨w.heap.size,8,none⟩=some (.int .i64 r.tenant)∧V.cell? ⟨p,1 + n * 15,none⟩=some (.int .u32 (M n).gen)∧V.cell? ⟨w.heap.size,11,none⟩=some (.int .u8 r.rights)) hmix ?_
   refine wpAnyL_take (i:=0) (v:=?_) rfl (by kernel_rfl) (by kernel_rfl) (by kernel_rfl) (by kernel_rfl) (fun _ _ _ h=>h) (Or.inl ⟨by rfl,?_⟩) HS ?_
   rotate_left
   · (intro w hSw;(try dsimp only at hSw);go_simp <;> with_reducible rfl)
   try simp only [Act.put,zA,zB,zC,zD,zE,zF]
   refine wpAnyL_take (i:=1) (v:=?_) rfl (by kernel_rfl) (by kernel_rfl) (by kernel_rfl) (by kernel_rfl) (fun _ _ _ h=>h) (Or.inl ⟨by rfl,?_⟩) HS ?_
   rotate_left
   · (intro w hSw;(try dsimp only at hSw);go_simp <;> with_reducible rfl)
   try simp only [Act.put,zA,zB,zC,zD,zE,zF]
   refine wpAnyL_take (i:=2) (v:=?_) rfl (by kernel_rfl) (by kernel_rfl) (by kernel_rfl) (by kernel_rfl) (fun _ _ _ h=>h) (Or.inl ⟨by rfl,?_⟩) HS ?_
   rotate_left
   · (intro w hSw;(try dsimp only at hSw);go_simp <;> with_reducible rfl)
   try simp only [Act.put,zA,zB,zC,zD,zE,zF]
   refine wpAnyL_take (i:=3) (v:=?_) rfl (by kernel_rfl) (by kernel_rfl) (by kernel_rfl) (by kernel_rfl) (fun _ _ _ h=>h) (Or.inl ⟨by rfl,?_⟩) HS ?_
   rotate_left
   · (intro w hSw;(try dsimp only at hSw);go_simp <;> with_reducible rfl)
   try simp only [Act.put,zA,zB,zC,zD,zE,zF]
   refine wpAnyL_take (i:=4) (v:=?_) rfl (by kernel_rfl) (by kernel_rfl) (by kernel_rfl) (by kernel_rfl) (fun _ _ _ h=>h) (Or.inl ⟨by rfl,?_⟩) HS ?_
   rotate_left
   · (intro w hSw;(try dsimp only at hSw);go_simp <;> with_reducible rfl)
   try simp only [Act.put,zA,zB,zC,zD,zE,zF]
   refine wpAnyL_take (i:=5) (v:=?_) rfl (by kernel_rfl) (by kernel_rfl) (by kernel_rfl) (by kernel_rfl) (fun _ _ _ h=>h) (Or.inl ⟨by rfl,?_⟩) HS ?_
   rotate_left
   · (intro w hSw;(try dsimp only at hSw);go_simp <;> with_reducible rfl)
   try simp only [Act.put,zA,zB,zC,zD,zE,zF]
   refine wpAnyL_take (i:=6) (v:=?_) rfl (by kernel_rfl) (by kernel_rfl) (by kernel_rfl) (by kernel_rfl) (fun _ _ _ h=>h) (Or.inl ⟨by rfl,?_⟩) HS ?_
   rotate_left
   · (intro w hSw;(try dsimp only at hSw);go_simp <;> with_reducible rfl)
   try simp only [Act.put,zA,zB,zC,zD,zE,zF]
   refine wpAnyL_take (i:=7) (v:=?_) rfl (by kernel_rfl) (by kernel_rfl) (by kernel_rfl) (by kernel_rfl) (fun _ _ _ h=>h) (Or.inl ⟨by rfl,?_⟩) HS ?_
   rotate_left
   · (intro w hSw;(try dsimp only at hSw);go_simp <;> with_reducible rfl)
   try simp only [Act.put,zA,zB,zC,zD,zE,zF]
   refine wpAnyL_take (i:=8) (v:=?_) rfl (by kernel_rfl) (by kernel_rfl) (by kernel_rfl) (by kernel_rfl) (fun _ _ _ h=>h) (Or.inl ⟨by rfl,?_⟩) HS ?_
   rotate_left
   · (intro w hSw;(try dsimp only at hSw);go_simp <;> with_reducible rfl)
   try simp only [Act.put,zA,zB,zC,zD,zE,zF]
   refine wpAnyL_take (i:=9) (v:=?_) rfl (by kernel_rfl) (by kernel_rfl) (by kernel_rfl) (by kernel_rfl) (fun _ _ _ h=>h) (Or.inl ⟨by rfl,?_⟩) HS ?_
   rotate_left
   · (intro w hSw;(try dsimp only at hSw);go_simp <;> with_reducible rfl)
   try simp only [Act.put,zA,zB,zC,zD,zE,zF]
   refine wpAnyL_ready (rs:=[10]) (by kernel_rfl) (by simp) ?_
   refine AllL.cons rfl (fun K hK=>?_) AllL.nil
   rw [if_pos (by kernel_rfl)]
   refine wp_store_mid 52 (.tmp 4) (.tmp 26) rfl (w.heap.size + 1) 0 (({ errA 0 with h:=⟨r.tenant,(M n).gen,r.rights⟩ }:Ans).cells none 0).toArray rfl rfl (there_blk BX.out.drew (Nat.le_refl 17)) infoAns (by simp [Ans.cells,errA,st0,Value.oneCell']) ?_
   refine hK.out _ _ (fun h=>Bool.noConfusion (show true=false from h)) ?_
   clear hK K
   refine wpAnyL_done (by kernel_rfl) ?_ _
   go_wp2
   refine bodyPost_ret (v:=({ errA 0 with h:=⟨r.tenant,(M n).gen,r.rights⟩ }:Ans).v none 0) ?_ rfl ?_
   · exact results_cell Tryz.results73 rfl (blk_setAll BX.out.drew rfl) Tryz.underlying52 rfl infoAns
   rw [HE.out]
   exact doEnd_store (HM.out.below HB1.out.drew) (.of_below HB1.out.drew) (fun i hi=>.inl hi) (Nat.le_succ _) BX.out.drew rfl
 · have HE:Hid (issueN M r=(M,errA (thereM p M r).2)):=Lib.hid (by unfold issueN;rw [if_neg (by rw [there_err 0 p];exact h0),there_err 0 p])
   generalize thereM p M r=q at HT h0 HE
   obtain ⟨q1,q2⟩:=q
   dsimp only at h0 HE
   go_enter Tryz.func73,Tryz.ntmps73
   go_wp2_with fail
   refine HT.out.mono ?_
   rintro e w1 ⟨rfl,hb⟩
   have BX:=Lib.hid (HB.out.2.1.below hb HB.out.2.1.lt)
   have HB1:=Lib.hid (HB.out.1.trans (hb.mono HB.out.1.size))
   clear hb
   dsimp only
   go_wp2_with (refine wpList_store_mid rfl 52 (.tmp 4) (.tmp 16) rfl (w.heap.size + 1) 0 (errC q2) rfl rfl (there_blk BX.out (Nat.le_refl 17)) infoAns (errC_one _) ?_)
   refine bodyPost_ret (v:=(errA q2).v none 0) ?_ rfl ?_
   · exact results_cell Tryz.results73 rfl (blk_setAll BX.out rfl) Tryz.underlying52 rfl infoAns
   rw [HE.out]
   exact doEnd_store (HM.out.below HB1.out) (.of_below HB1.out) (fun i hi=>.inl hi) (Nat.le_succ _) BX.out rfl
def newT (g:Int) (r:Req):Ten:=⟨IntKind.u32.wrap (g + 1),r.qk,r.qb,some ⟨[],r.qk,r.qb⟩,st0⟩
def createN (M:Mdl) (r:Req):Mdl × Ans :=
 if ¬ (1 ≤ r.tenant∧r.tenant ≤ 16) then (M,errA 2) else if (M r.tenant.toNat).bk.isSome then (M,errA 8) else (updM M r.tenant.toNat (newT (M r.tenant.toNat).gen r),errA 0)
abbrev newC (g qk qb:Int) (b:Nat):Array Value:=#[.int .u32 g,.int .u64 qk,.int .u64 qb,.pointer (some ⟨b,0,none⟩),.int .u64 0,.int .u64 0,.int .u64 0,.int .u64 0,.int .u64 0,.int .u64 0,.int .u64 0,.int .u64 0,.int .u64 0,.int .u64 0,.complex .f64 0 0]
theorem newC_one (g qk qb:Int) (b:Nat):(newC g qk qb b).all (·.oneCell')=true:=by simp [newC,Value.oneCell']
set_option maxHeartbeats 3200000 in
set_option maxRecDepth 100000 in
theorem create_m {w:World} {p:Nat} {M:Mdl} {T:Ows} (hm:ModelAt w p M T) (r:Req) (hr:r.ok):Calls Tryz.prog 71 #[.pointer (some ⟨p,0,none⟩),r.v] w (DoEnd p M T (createN M r) w):=by
 have hb0:Below w.heap.size w (w.alloc (.cells r.row.toArray 39)):=below_box _ _
 have hq0:=Blk.new w 39 r.row.toArray
 have hb1:=below_alloc hb0 (.cells zeroA 52)
 have hbq:=hq0.alloc (.cells zeroA 52)
 have hbx:Blk ((w.alloc (.cells r.row.toArray 39)).alloc (.cells zeroA 52)) (w.heap.size + 1) 52 zeroA:=blk_at (by simp)
 have HT:=Lib.hid (at_m p ((w.alloc (.cells r.row.toArray 39)).alloc (.cells zeroA 52)) r)
 have HM:=Lib.hid hm
 have HB:=Lib.hid (And.intro hb1 (And.intro hbx hbq))
 unfold Req.row at HT HB
 clear hb0 hb1 hbx hm hq0 hbq
 by_cases ht:1 ≤ r.tenant∧r.tenant ≤ 16
 · obtain ⟨n,hn⟩:∃ n:Nat,r.tenant=n:=⟨r.tenant.toNat,by omega⟩
   have hn17:n < 17:=by omega
   have ha:atN p r.tenant=some ⟨p,1 + n * 15,none⟩:=by unfold atN;rw [if_pos ht,hn];rfl
   rw [ha] at HT
   clear ha
   cases hbk:(M n).bk with
   | some B0 =>
     have HE:Hid (createN M r=(M,errA 8)):=Lib.hid (by unfold createN;rw [if_neg (fun h=>h ht),hn,Int.toNat_natCast,if_pos (by rw [hbk];rfl)])
     have HBK:=Lib.hid hbk
     clear ht hn hbk
     go_enter Tryz.func71,Tryz.ntmps71
     go_wp2_with fail
     refine HT.out.mono ?_
     rintro e w1 ⟨rfl,hb⟩
     have M1:=(HM.out.below HB.out.1).below hb
     have BX:=Lib.hid (HB.out.2.1.below hb HB.out.2.1.lt)
     have BQ:Hid (Blk w1 w.heap.size 39 r.row.toArray):=Lib.hid (HB.out.2.2.below hb HB.out.2.2.lt)
     have HB1:=Lib.hid (HB.out.1.trans (hb.mono HB.out.1.size))
     have HM1:=Lib.hid M1
     have x3:=M1.ptr hn17
     unfold Ten.ptr at x3
     rw [HBK.out] at x3
     simp only [Option.map_some] at x3
     clear M1 hb
     go_wp2_with (refine wpList_store_mid rfl 52 (.tmp 4) (.tmp 19) rfl (w.heap.size + 1) 0 (errC 8) rfl rfl (there_blk BX.out (Nat.le_refl 17)) infoAns (errC_one _) ?_)
     refine bodyPost_ret (v:=(errA 8).v none 0) ?_ rfl ?_
     · exact results_cell Tryz.results71 rfl (blk_setAll BX.out rfl) Tryz.underlying52 rfl infoAns
     rw [HE.out]
     exact doEnd_store (HM.out.below HB1.out) (.of_below HB1.out) (fun i hi=>.inl hi) (Nat.le_succ _) BX.out rfl
   | none =>
     have HE:Hid (createN M r=(updM M n (newT (M n).gen r),errA 0)):=Lib.hid (by unfold createN;rw [if_neg (fun h=>h ht),hn,Int.toNat_natCast,if_neg (by rw [hbk];decide)])
     have HBK:=Lib.hid hbk
     clear ht hn hbk
     go_enter Tryz.func71,Tryz.ntmps71
     go_wp2_with fail
     refine HT.out.mono ?_
     rintro e w1 ⟨rfl,hb⟩
     have M1:=(HM.out.below HB.out.1).below hb
     have BX:=Lib.hid (HB.out.2.1.below hb HB.out.2.1.lt)
     have BQ:Hid (Blk w1 w.heap.size 39 r.row.toArray):=Lib.hid (HB.out.2.2.below hb HB.out.2.2.lt)
     have HB1:=Lib.hid (HB.out.1.trans (hb.mono HB.out.1.size))
     have HM1:=Lib.hid M1
     have x3:=M1.ptr hn17
     unfold Ten.ptr at x3
     rw [HBK.out] at x3
     simp only [Option.map_none] at x3
     have x0:=M1.gen hn17
     obtain ⟨-,-,-,-,-,-,-,-,-,c9,c10,-⟩:=req_cells BQ.out
     have hmix:Tryz.prog.follows .mixedOrders=true:=by kernel_rfl
     have hgp:w.heap.size + 1 ≠ p:=by have:=HM.out.blk.lt;omega
     have hpl:=M1.blk.lt
     have hgl:=BQ.out.lt
     have HNEW:=Lib.hid (fun W=>new_b r.qk r.qb W hr.qk hr.qb)
     have HR:=Lib.hid hr
     clear M1 hb
     go_wp2_with fail
     have HS:w1.drew.cell? ⟨w.heap.size,9,none⟩=some (.int .u64 r.qk)∧w1.drew.cell? ⟨w.heap.size,10,none⟩=some (.int .u64 r.qb)∧w1.drew.cell? ⟨p,1 + n * 15,none⟩=some (.int .u32 (M n).gen):=⟨c9,c10,x0⟩
     clear c9 c10 x0 x3
     refine wp_region_L 13 (fun V:World=>V.cell? ⟨w.heap.size,9,none⟩=some (.int .u64 r.qk)∧V.cell? ⟨w.heap.size,10,none⟩=some (.int .u64 r.qb)∧V.cell? ⟨p,1 + n * 15,none⟩=some (.int .u32 (M n).gen)) hmix ?_
     refine wpAnyL_take (i:=0) (v:=?_) rfl (by kernel_rfl) (by kernel_rfl) (by kernel_rfl) (by kernel_rfl) (fun _ _ _ h=>h) (Or.inl ⟨by rfl,?_⟩) HS ?_
     rotate_left
     · (intro w hSw;(try dsimp only at hSw);go_simp <;> with_reducible rfl)
     try simp only [Act.put,zA,zB,zC,zD,zE,zF]
     refine wpAnyL_take (i:=1) (v:=?_) rfl (by kernel_rfl) (by kernel_rfl) (by kernel_rfl) (by kernel_rfl) (fun _ _ _ h=>h) (Or.inl ⟨by rfl,?_⟩) HS ?_
     rotate_left
     · (intro w hSw;(try dsimp only at hSw);go_simp <;> with_reducible rfl)
     try simp only [Act.put,zA,zB,zC,zD,zE,zF]
     refine wpAnyL_take (i:=2) (v:=?_) rfl (by kernel_rfl) (by kernel_rfl) (by kernel_rfl) (by kernel_rfl) (fun _ _ _ h=>h) (Or.inl ⟨by rfl,?_⟩) HS ?_
     rotate_left
     · (intro w hSw;(try dsimp only at hSw);go_simp <;> with_reducible rfl)
     try simp only [Act.put,zA,zB,zC,zD,zE,zF]
     refine wpAnyL_take (i:=3) (v:=?_) rfl (by kernel_rfl) (by kernel_rfl) (by kernel_rfl) (by kernel_rfl) (fun _ _ _ h=>h) (Or.inl ⟨by rfl,?_⟩) HS ?_
     rotate_left
     · (intro w hSw;(try dsimp only at hSw);go_simp <;> with_reducible rfl)
     try simp only [Act.put,zA,zB,zC,zD,zE,zF]
     refine wpAnyL_take (i:=4) (v:=?_) rfl (by kernel_rfl) (by kernel_rfl) (by kernel_rfl) (by kernel_rfl) (fun _ _ _ h=>h) (Or.inl ⟨by rfl,?_⟩) HS ?_
     rotate_left
     · (intro w hSw;(try dsimp only at hSw);go_simp <;> with_reducible rfl)
     try simp only [Act.put,zA,zB,zC,zD,zE,zF]
     refine wpAnyL_take (i:=5) (v:=?_) rfl (by kernel_rfl) (by kernel_rfl) (by kernel_rfl) (by kernel_rfl) (fun _ _ _ h=>h) (Or.inl ⟨by rfl,?_⟩) HS ?_
     rotate_left
     · (intro w hSw;(try dsimp only at hSw);go_simp <;> with_reducible rfl)
     try simp only [Act.put,zA,zB,zC,zD,zE,zF]
     refine wpAnyL_take (i:=6) (v:=?_) rfl (by kernel_rfl) (by kernel_rfl) (by kernel_rfl) (by kernel_rfl) (fun _ _ _ h=>h) (Or.inl ⟨by rfl,?_⟩) HS ?_
     rotate_left
     · (intro w hSw;(try dsimp only at hSw);go_simp <;> with_reducible rfl)
     try simp only [Act.put,zA,zB,zC,zD,zE,zF]
     refine wpAnyL_take (i:=7) (v:=?_) rfl (by kernel_rfl) (by kernel_rfl) (by kernel_rfl) (by kernel_rfl) (fun _ _ _ h=>h) (Or.inl ⟨by rfl,?_⟩) HS ?_
     rotate_left
     · (intro w hSw;(try dsimp only at hSw);go_simp <;> with_reducible rfl)
     try simp only [Act.put,zA,zB,zC,zD,zE,zF]
     refine wpAnyL_take (i:=8) (v:=?_) rfl (by kernel_rfl) (by kernel_rfl) (by kernel_rfl) (by kernel_rfl) (fun _ _ _ h=>h) (Or.inl ⟨by rfl,?_⟩) HS ?_
     rotate_left
     · (intro w hSw;(try dsimp only at hSw);go_simp <;> with_reducible rfl)
     try simp only [Act.put,zA,zB,zC,zD,zE,zF]
     refine wpAnyL_take (i:=9) (v:=?_) rfl (by kernel_rfl) (by kernel_rfl) (by kernel_rfl) (by kernel_rfl) (fun _ _ _ h=>h) (Or.inl ⟨by rfl,?_⟩) HS ?_
     rotate_left
     · (intro w hSw;(try dsimp only at hSw);go_simp <;> with_reducible rfl)
     try simp only [Act.put,zA,zB,zC,zD,zE,zF]
     refine wpAnyL_ready (rs:=[10]) (by kernel_rfl) (by simp) ?_
     refine AllL.cons rfl (fun K hK=>?_) AllL.nil
     go_simp
     refine (HNEW.out w1.drew).mono ?_
     rintro e w2 ⟨o2,rfl,hbk2,hge2,hb2⟩
     have HS2:w2.cell? ⟨w.heap.size,9,none⟩=some (.int .u64 r.qk)∧w2.cell? ⟨w.heap.size,10,none⟩=some (.int .u64 r.qb)∧w2.cell? ⟨p,1 + n * 15,none⟩=some (.int .u32 (M n).gen):=⟨(hb2.cell hgl).trans HS.1,(hb2.cell hgl).trans HS.2.1,(hb2.cell hpl).trans HS.2.2⟩
     have HK2:=Lib.hid (And.intro hbk2 (And.intro hge2 hb2))
     clear hbk2 hge2 hb2 HS
     refine hK.out _ _ (fun _=>HS2) ?_
     clear hK K
     try simp only [Act.put,zA,zB,zC,zD,zE,zF]
     refine wpAnyL_take (i:=11) (v:=?_) rfl (by kernel_rfl) (by kernel_rfl) (by kernel_rfl) (by kernel_rfl) (fun _ _ _ h=>h) (Or.inl ⟨by rfl,?_⟩) HS2 ?_
     rotate_left
     · (intro w hSw;(try dsimp only at hSw);go_simp <;> with_reducible rfl)
     try simp only [Act.put,zA,zB,zC,zD,zE,zF]
     refine wpAnyL_take (i:=12) (v:=?_) rfl (by kernel_rfl) (by kernel_rfl) (by kernel_rfl) (by kernel_rfl) (fun _ _ _ h=>h) (Or.inl ⟨by rfl,?_⟩) HS2 ?_
     rotate_left
     · (intro w hSw;(try dsimp only at hSw);go_simp <;> with_reducible rfl)
     try simp only [Act.put,zA,zB,zC,zD,zE,zF]
     refine wpAnyL_ready (rs:=[13]) (by kernel_rfl) (by simp) ?_
     refine AllL.cons rfl (fun K hK=>?_) AllL.nil
     rw [if_pos (by kernel_rfl)]
     have m2:ModelAt w2 p M T:=(HM1.out.below ((Below.refl w1.heap.size w1).drew)).below HK2.out.2.2
     have hth:=there_mdl (n:=1 + n * 15) (k:=0) (m:=15) m2 (by omega)
     have hwr:IntKind.u32.wrap ((M n).gen + 1)=((M n).gen + 1) % 4294967296:=by simp [IntKind.wrap,IntKind.bits,IntKind.signed]
     have hok:=HM.out.ok n
     obtain ⟨m3,k3⟩:=m2.wrote (n:=n) (t:=newT (M n).gen r) (o:=o2) (off:=0) (vs:=(newC (((M n).gen + 1) % 4294967296) r.qk r.qb o2.b).toList) hn17 ⟨wrap_u32_ok _,HR.out.qk,HR.out.qb,st0_ok⟩ rfl (by simp)
        (fun j v hv=>⟨fun h=>by
          have:=(List.getElem?_eq_some_iff.1 hv).1
          have hl:((newT (M n).gen r).cells o2).length=15:=rfl
          rw [hl] at this
          simp at h
          omega,fun _ h=>by
          have hcc:(newT (M n).gen r).cells o2=(newC (((M n).gen + 1) % 4294967296) r.qk r.qb o2.b).toList:=by unfold newT Ten.cells Ten.ptr;rw [hwr];rfl
          rw [hcc] at hv
          exact hv⟩) (fun B hB=>by injection hB with hB;subst hB;exact HK2.out.1)
        (fun _ s i hs1 hne hss hi hT=>by
          have h1:=HK2.out.2.1 i hi
          have h2:=HM1.out.own_lt (i:=i) (.inr ⟨s,hs1,hss,hT⟩)
          simp at h1
          omega)
        (fun _ i hi e=>by
          have h1:=HK2.out.2.1 i hi
          subst e
          simp at h1
          omega)
     obtain ⟨w3,hw3⟩:∃ w3,w2.setCells p (1 + n * 15) (newC (((M n).gen + 1) % 4294967296) r.qk r.qb o2.b).toList=w3:=⟨_,rfl⟩
     rw [Nat.add_zero,hw3] at m3 k3
     have HW3:=Lib.hid hw3
     clear hw3 hok
     refine wp_store_mid 75 (.tmp 32) (.tmp 31) rfl p (1 + n * 15) (newC (((M n).gen + 1) % 4294967296) r.qk r.qb o2.b) rfl rfl hth infoTen (newC_one _ _ _ _) ?_
     rw [HW3.out]
     refine hK.out _ _ (fun h=>Bool.noConfusion (show true=false from h)) ?_
     clear hK K hth m2
     refine wpAnyL_done (by kernel_rfl) ?_ _
     have hb3:Blk w3 (w.heap.size + 1) 52 zeroA:=k3.blk (BX.out.drew.below HK2.out.2.2 BX.out.lt) hgp
     have HM3:=Lib.hid (And.intro m3 k3)
     clear m3 k3 HS2
     go_wp2_with (refine wpList_store_mid rfl 52 (.tmp 4) (.tmp 33) rfl (w.heap.size + 1) 0 (errC 0) rfl rfl (there_blk hb3 (Nat.le_refl 17)) infoAns (errC_one _) ?_)
     refine bodyPost_ret (v:=(errA 0).v none 0) ?_ rfl ?_
     · exact results_cell Tryz.results71 rfl (blk_setAll hb3 rfl) Tryz.underlying52 rfl infoAns
     rw [HE.out]
     refine doEnd_store HM3.out.1 ((((KeepC.refl (mown p M T) w).below HB1.out).drew.below HK2.out.2.2).trans HM3.out.2 (fun i _ h=>.inl h)) ?_ (Nat.le_succ _) hb3 rfl
     rintro i (rfl | ⟨k,hk,hks,hki⟩)
     · exact .inl (.inl rfl)
     · by_cases e:k=n
       · subst e
         rw [updO_self] at hki
         have h1:=HK2.out.2.1 i hki
         have h2:=HB1.out.size
         simp at h1
         exact .inr (by omega)
       · rw [updM_ne e] at hks
         rw [updO_ne e] at hki
         exact .inl (.inr ⟨k,hk,hks,hki⟩)
 · have HE:Hid (createN M r=(M,errA 2)):=Lib.hid (by unfold createN;rw [if_pos ht])
   have ha:atN p r.tenant=none:=by unfold atN;rw [if_neg ht]
   rw [ha] at HT
   clear ha ht
   go_enter Tryz.func71,Tryz.ntmps71
   go_wp2_with fail
   refine HT.out.mono ?_
   rintro e w1 ⟨rfl,hb⟩
   have M1:=(HM.out.below HB.out.1).below hb
   have BX:=Lib.hid (HB.out.2.1.below hb HB.out.2.1.lt)
   have BQ:Hid (Blk w1 w.heap.size 39 r.row.toArray):=Lib.hid (HB.out.2.2.below hb HB.out.2.2.lt)
   have HB1:=Lib.hid (HB.out.1.trans (hb.mono HB.out.1.size))
   have HM1:=Lib.hid M1
   clear M1 hb
   go_wp2_with (refine wpList_store_mid rfl 52 (.tmp 4) (.tmp 12) rfl (w.heap.size + 1) 0 (errC 2) rfl rfl (there_blk BX.out (Nat.le_refl 17)) infoAns (errC_one _) ?_)
   refine bodyPost_ret (v:=(errA 2).v none 0) ?_ rfl ?_
   · exact results_cell Tryz.results71 rfl (blk_setAll BX.out rfl) Tryz.underlying52 rfl infoAns
   rw [HE.out]
   exact doEnd_store (HM.out.below HB1.out) (.of_below HB1.out) (fun i hi=>.inl hi) (Nat.le_succ _) BX.out rfl
theorem stOk_list {l:List Value} (h:StOk l):∃ n0 n1 n2 n3 n4 n5 n6 n7 n8 n9:Int,∃ a b:Nat,l=[.int .u64 n0,.int .u64 n1,.int .u64 n2,.int .u64 n3,.int .u64 n4,.int .u64 n5,.int .u64 n6,.int .u64 n7,.int .u64 n8,.int .u64 n9,.complex .f64 a b]:=by
 obtain ⟨ns,a,b,h1,rfl,_⟩:=h
 obtain ⟨n0,n1,n2,n3,n4,n5,n6,n7,n8,n9,rfl⟩:=list10 h1
 exact ⟨n0,n1,n2,n3,n4,n5,n6,n7,n8,n9,a,b,rfl⟩
theorem infoStat:(Tryz.prog.info? 50).map (·.size)=some 11:=by kernel_rfl
def withN (st:List Value) (k b:Int):List Value:=.int .u64 k :: .int .u64 b :: st.drop 2
set_option maxHeartbeats 3200000 in
set_option maxRecDepth 100000 in
theorem With_s (st:List Value) (h:StOk st) (k b:Int) (w:World):Calls Tryz.prog 132 #[.agg st.toArray,.agg #[.int .u64 k,.int .u64 b]] w fun e w'=>e=.returned (.agg (withN st k b).toArray)∧Below w.heap.size w w':=by
 obtain ⟨n0,n1,n2,n3,n4,n5,n6,n7,n8,n9,fa,fb,rfl⟩:=stOk_list h
 have hb1:=below_box w (.cells #[.int .u64 n0,.int .u64 n1,.int .u64 n2,.int .u64 n3,.int .u64 n4,.int .u64 n5,.int .u64 n6,.int .u64 n7,.int .u64 n8,.int .u64 n9,.complex .f64 fa fb] 50)
 have hb2:=below_alloc hb1 (.cells #[.int .u64 k,.int .u64 b] 29)
 have hb3:=below_alloc hb2 (.cells #[.int .u64 0,.int .u64 0,.int .u64 0,.int .u64 0,.int .u64 0,.int .u64 0,.int .u64 0,.int .u64 0,.int .u64 0,.int .u64 0,.complex .f64 0 0] 50)
 clear h
 go_enter Tryz.func132,Tryz.ntmps132
 go_wp2_with fail
 go_region
 all_goals
  go_wp2
  refine bodyPost_ret (v:=.agg #[.int .u64 k,.int .u64 b,.int .u64 n2,.int .u64 n3,.int .u64 n4,.int .u64 n5,.int .u64 n6,.int .u64 n7,.int .u64 n8,.int .u64 n9,.complex .f64 fa fb]) ?_ rfl ?_
  · exact results_cell Tryz.results132 rfl (Blk.drew (blk_at (by simp))) Tryz.underlying50 rfl infoStat
  · exact ⟨rfl,(below_alloc (below_alloc (below_box w _) _) _).drew⟩
theorem withN_ok {st:List Value} (h:StOk st) {k b:Int} (hk:0 ≤ k∧k ≤ 18446744073709551615) (hb:0 ≤ b∧b ≤ 18446744073709551615):StOk (withN st k b):=by
 obtain ⟨ns,fa,fb,h1,rfl,h2⟩:=h
 obtain ⟨n0,n1,n2,n3,n4,n5,n6,n7,n8,n9,rfl⟩:=list10 h1
 refine ⟨[k,b,n2,n3,n4,n5,n6,n7,n8,n9],fa,fb,rfl,rfl,fun n hn=>?_⟩
 simp only [List.mem_cons,List.mem_nil_iff,or_false] at hn
 rcases hn with rfl | rfl | hn
 · exact hk
 · exact hb
 · exact h2 n (by simp only [List.mem_cons,List.mem_nil_iff,or_false];exact .inr (.inr hn))
theorem ModelAt.book {w w':World} {p n:Nat} {M:Mdl} {T:Ows} {B B':Bk} {ok:Option Nat} (h:ModelAt w p M T) (hn:n < 17) (hB:(M n).bk=some B) (hb:BkAt w' ⟨(T n).b,(T n).m,ok⟩ B') (hok:ok=(T n).k ∨ ∃ g,ok=some g∧w.heap.size ≤ g)
 (k:KeepC (T n).has w w'):ModelAt w' p (updM M n { M n with bk:=some B' }) (updO T n ⟨(T n).b,(T n).m,ok⟩) ∧
   (∀ i,mown p (updM M n { M n with bk:=some B' }) (updO T n ⟨(T n).b,(T n).m,ok⟩) i→mown p M T i ∨ w.heap.size ≤ i)∧KeepC (mown p M T) w w':=by
 have hs:(M n).bk.isSome:=by rw [hB];rfl
 have hcell:∀ t,(updM M n { M n with bk:=some B' } t).cells (updO T n ⟨(T n).b,(T n).m,ok⟩ t)=(M t).cells (T t):=fun t=>by
  by_cases e:t=n
  · subst e
    rw [updM_self,updO_self]
    unfold Ten.cells Ten.ptr
    rw [hB]
    rfl
  · rw [updM_ne e,updO_ne e]
 have hmc:mcells (updM M n { M n with bk:=some B' }) (updO T n ⟨(T n).b,(T n).m,ok⟩)=mcells M T:=by
  unfold mcells
  congr 1
  exact congrArg (fun f=>(List.range 17).flatMap f) (funext hcell)
 have hhas:∀ i,(⟨(T n).b,(T n).m,ok⟩:Ow).has i→(T n).has i ∨ w.heap.size ≤ i:=fun i hi=>by
  rcases hi with rfl | rfl | hi
  · exact .inl (.inl rfl)
  · exact .inl (.inr (.inl rfl))
  · dsimp only at hi
    rcases hok with e | ⟨g,e,hg⟩
    · exact .inl (.inr (.inr (by rw [← e];exact hi)))
    · rw [e] at hi
      injection hi with hi
      exact .inr (by omega)
 have hown:∀ i,mown p (updM M n { M n with bk:=some B' }) (updO T n ⟨(T n).b,(T n).m,ok⟩) i→mown p M T i ∨ w.heap.size ≤ i:=fun i hi=>by
  rcases hi with rfl | ⟨t,ht,hst,hi⟩
  · exact .inl (.inl rfl)
  · by_cases e:t=n
    · subst e
      rw [updO_self] at hi
      exact (hhas i hi).imp (fun h=>.inr ⟨t,ht,hs,h⟩) id
    · rw [updM_ne e] at hst
      rw [updO_ne e] at hi
      exact .inl (.inr ⟨t,ht,hst,hi⟩)
 refine ⟨⟨?_,fun t=>?_,fun t C ht hC=>?_,fun t s i ht hs1 hts h1 h2 h3 h4=>?_⟩,hown,k.mono (fun i _ hi=>.inr ⟨n,hn,hs,hi⟩)⟩
 · rw [hmc]
   exact k.blk h.blk (fun hp=>h.ne hn hs hp rfl)
 · by_cases e:t=n
   · subst e;rw [updM_self];exact ⟨(h.ok t).gen,(h.ok t).qk,(h.ok t).qb,(h.ok t).st⟩
   · rw [updM_ne e];exact h.ok t
 · by_cases e:t=n
   · subst e
     rw [updM_self] at hC
     rw [updO_self]
     injection hC with hC
     subst hC
     exact hb
   · rw [updM_ne e] at hC
     rw [updO_ne e]
     exact (h.bk t C ht hC).keep k (fun i hi hi2=>h.apart t n i ht hn e (by rw [hC];rfl) hs hi hi2)
 · by_cases et:t=n
   · subst et
     have es:s ≠ t:=fun e=>hts e.symm
     rw [updM_ne es] at h2
     rw [updO_self] at h3
     rw [updO_ne es] at h4
     rcases hhas i h3 with h5 | h5
     · exact h.apart t s i ht hs1 hts hs h2 h5 h4
     · have:=h.own_lt (i:=i) (.inr ⟨s,hs1,h2,h4⟩);omega
   · rw [updM_ne et] at h1
     rw [updO_ne et] at h3
     by_cases es:s=n
     · subst es
       rw [updO_self] at h4
       rcases hhas i h4 with h5 | h5
       · exact h.apart t s i ht hs1 hts h1 hs h3 h5
       · have:=h.own_lt (i:=i) (.inr ⟨t,ht,h1,h3⟩);omega
     · rw [updM_ne es] at h2
       rw [updO_ne es] at h4
       exact h.apart t s i ht hs1 hts h1 h2 h3 h4
theorem may_good {M:Mdl} {r:Req} (h:mayM M r=0):∃ (n:Nat) (B:Bk),r.ten=n∧1 ≤ n∧n ≤ 16∧(M n).bk=some B:=by
 unfold mayM at h
 split at h
 · cases h
 · rename_i h1
   rw [Bool.not_eq_false] at h1
   unfold goodN Hd.right Hd.tN at h1
   simp only [Req.h,Bool.and_eq_true,decide_eq_true_eq] at h1
   obtain ⟨⟨⟨⟨h2,h3⟩,-⟩,-⟩,h4,-⟩:=h1
   have h2:=of_decide_eq_true h2
   have h3:=of_decide_eq_true h3
   obtain ⟨B,hB⟩:=Option.isSome_iff_exists.1 h4
   exact ⟨r.ten.toNat,B,by omega,by omega,by omega,hB⟩
def tellN (M:Mdl) (r:Req):Mdl × Ans :=
 if mayM M r=0 then (match (M r.ten.toNat).bk with
    | some B=>(M,{ errA 0 with st:=withN (M r.ten.toNat).st (B.l.length:Nat) (sizeL B.l:Nat) })
    | none=>(M,errA 0)) else (M,errA (mayM M r))
def Small (M:Mdl):Prop:=∀ t B,(M t).bk=some B→B.l.length ≤ 1000000
set_option maxHeartbeats 3200000 in
set_option maxRecDepth 100000 in
theorem tell_m {w:World} {p:Nat} {M:Mdl} {T:Ows} (hm:ModelAt w p M T) (r:Req) (hsm:Small M):Calls Tryz.prog 70 #[.pointer (some ⟨p,0,none⟩),r.v] w (DoEnd p M T (tellN M r) w):=by
 have hb0:Below w.heap.size w (w.alloc (.cells r.row.toArray 39)):=below_box _ _
 have hq0:=Blk.new w 39 r.row.toArray
 have hb1:=below_alloc hb0 (.cells zeroA 52)
 have hbq:=hq0.alloc (.cells zeroA 52)
 have hbx:Blk ((w.alloc (.cells r.row.toArray 39)).alloc (.cells zeroA 52)) (w.heap.size + 1) 52 zeroA:=blk_at (by simp)
 have HT:=Lib.hid (may_m (hm.below hb1) r)
 have HM:=Lib.hid hm
 have HB:=Lib.hid (And.intro hb1 (And.intro hbx hbq))
 unfold Req.row at HT HB
 clear hb0 hb1 hbx hm hq0 hbq
 by_cases h0:mayM M r=0
 · obtain ⟨n,B,hn,hn1,hn2,hbk⟩:=may_good h0
   have hn17:n < 17:=by omega
   have HE:Hid (tellN M r=(M,{ errA 0 with st:=withN (M n).st (B.l.length:Nat) (sizeL B.l:Nat) })):=Lib.hid (by unfold tellN;rw [if_pos h0,hn,Int.toNat_natCast,hbk])
   rw [h0] at HT
   have HBK:=Lib.hid hbk
   have hlB:=hsm n B hbk
   have HTEN:=Lib.hid hn
   clear h0 hbk hsm hn
   go_enter Tryz.func70,Tryz.ntmps70
   go_wp2_with fail
   refine HT.out.mono ?_
   rintro e w1 ⟨rfl,hb⟩
   have M1:=(HM.out.below HB.out.1).below hb
   have BX:=Lib.hid (HB.out.2.1.below hb HB.out.2.1.lt)
   have hbq1:Blk w1 w.heap.size 39 r.row.toArray:=HB.out.2.2.below hb HB.out.2.2.lt
   have HB1:=Lib.hid (HB.out.1.trans (hb.mono HB.out.1.size))
   have HM1:=Lib.hid M1
   obtain ⟨-,c1,-⟩:=req_cells hbq1
   rw [HTEN.out] at c1
   have hgl:=hbq1.lt
   have hpl:=M1.blk.lt
   obtain ⟨n0,n1,n2,n3,n4,n5,n6,n7,n8,n9,fa,fb,hst⟩:=stOk_list (M1.ok n).st
   have hr15:=M1.range hn17
   unfold Ten.cells Ten.ptr at hr15
   rw [hst,HBK.out] at hr15
   simp only [Option.map_some] at hr15
   have hx15:=range15 hr15
   have HST:=Lib.hid hst
   have hq1:(0:Int) ≤ (n:Int):=by omega
   have hq2:(n:Int) < 17:=by omega
   have hmix:Tryz.prog.follows .mixedOrders=true:=by kernel_rfl
   clear M1 hb hbq1 hr15 hst
   go_wp2_with fail
   have HS:w1.drew.cell? ⟨w.heap.size,1,none⟩=some (.int .i64 (n:Int))∧w1.drew.cell? ⟨p,1 + n * 15,none⟩=some (.int .u32 (M n).gen)∧w1.drew.cell? ⟨p,1 + n * 15 + 1,none⟩=some (.int .u64 (M n).qk)∧w1.drew.cell? ⟨p,1 + n * 15 + 2,none⟩=some (.int .u64 (M n).qb)∧w1.drew.cell? ⟨p,1 + n * 15 + 3,none⟩=some (.pointer (some ⟨(T n).b,0,none⟩))∧w1.drew.cell? ⟨p,1 + n * 15 + 4,none⟩=some (.int .u64 n0)∧w1.drew.cell? ⟨p,1 + n * 15 + 5,none⟩=some (.int .u64 n1)∧w1.drew.cell? ⟨p,1 + n * 15 + 6,none⟩=some (.int .u64 n2)∧w1.drew.cell? ⟨p,1 + n * 15 + 7,none⟩=some (.int .u64 n3)∧w1.drew.cell? ⟨p,1 + n * 15 + 8,none⟩=some (.int .u64 n4)∧w1.drew.cell? ⟨p,1 + n * 15 + 9,none⟩=some (.int .u64 n5)∧w1.drew.cell? ⟨p,1 + n * 15 + 10,none⟩=some (.int .u64 n6)∧w1.drew.cell? ⟨p,1 + n * 15 + 11,none⟩=some (.int .u64 n7)∧w1.drew.cell? ⟨p,1 + n * 15 + 12,none⟩=some (.int .u64 n8)∧w1.drew.cell? ⟨p,1 + n * 15 + 13,none⟩=some (.int .u64 n9)∧w1.drew.cell? ⟨p,1 + n * 15 + 14,none⟩=some (.complex .f64 fa fb):=⟨c1,hx15⟩
   clear c1 hx15
   refine wp_region_L 9 (fun V:World=>V.cell? ⟨w.heap.size,1,none⟩=some (.int .i64 (n:Int))∧V.cell? ⟨p,1 + n * 15,none⟩=some (.int .u32 (M n).gen)∧V.cell? ⟨p,1 + n * 15 + 1,none⟩=some (.int .u64 (M n).qk)∧V.cell? ⟨p,1 + n * 15 + 2,none⟩=some (.int .u64 (M n).qb)∧V.cell? ⟨p,1 + n * 15 + 3,none⟩=some (.pointer (some ⟨(T n).b,0,none⟩))∧V.cell? ⟨p,1 + n * 15 + 4,none⟩=some (.int .u64 n0)∧V.cell? ⟨p,1 + n * 15 + 5,none⟩=some (.int .u64 n1)∧V.cell? ⟨p,1 + n * 15 + 6,none⟩=some (.int .u64 n2)∧V.cell? ⟨p,1 + n * 15 + 7,none⟩=some (.int .u64 n3)∧V.cell? ⟨p,1 + n * 15 + 8,none⟩=some (.int .u64 n4)∧V.cell? ⟨p,1 + n * 15 + 9,none⟩=some (.int .u64 n5)∧V.cell? ⟨p,1 + n * 15 + 10,none⟩=some (.int .u64 n6)∧V.cell? ⟨p,1 + n * 15 + 11,none⟩=some (.int .u64 n7)∧V.cell? ⟨p,1 + n * 15 + 12,none⟩=some (.int .u64 n8)∧V.cell? ⟨p,1 + n * 15 + 13,none⟩=some (.int .u64 n9)∧V.cell? ⟨p,1 + n * 15 + 14,none⟩=some (.complex .f64 fa fb)) hmix ?_
   refine wpAnyL_take (i:=0) (v:=?_) rfl (by kernel_rfl) (by kernel_rfl) (by kernel_rfl) (by kernel_rfl) (fun _ _ _ h=>h) (Or.inl ⟨by rfl,?_⟩) HS ?_
   rotate_left
   · (intro w hSw;(try dsimp only at hSw);go_simp <;> with_reducible rfl)
   try simp only [Act.put,zA,zB,zC,zD,zE,zF]
   refine wpAnyL_take (i:=1) (v:=?_) rfl (by kernel_rfl) (by kernel_rfl) (by kernel_rfl) (by kernel_rfl) (fun _ _ _ h=>h) (Or.inl ⟨by rfl,?_⟩) HS ?_
   rotate_left
   · (intro w hSw;(try dsimp only at hSw);go_simp <;> with_reducible rfl)
   try simp only [Act.put,zA,zB,zC,zD,zE,zF]
   refine wpAnyL_take (i:=2) (v:=?_) rfl (by kernel_rfl) (by kernel_rfl) (by kernel_rfl) (by kernel_rfl) (fun _ _ _ h=>h) (Or.inl ⟨by rfl,?_⟩) HS ?_
   rotate_left
   · (intro w hSw;(try dsimp only at hSw);go_simp <;> with_reducible rfl)
   try simp only [Act.put,zA,zB,zC,zD,zE,zF]
   refine wpAnyL_take (i:=3) (v:=?_) rfl (by kernel_rfl) (by kernel_rfl) (by kernel_rfl) (by kernel_rfl) (fun _ _ _ h=>h) (Or.inl ⟨by rfl,?_⟩) HS ?_
   rotate_left
   · (intro w hSw;(try dsimp only at hSw);go_simp <;> with_reducible rfl)
   try simp only [Act.put,zA,zB,zC,zD,zE,zF]
   refine wpAnyL_take (i:=4) (v:=?_) rfl (by kernel_rfl) (by kernel_rfl) (by kernel_rfl) (by kernel_rfl) (fun _ _ _ h=>h) (Or.inl ⟨by rfl,?_⟩) HS ?_
   rotate_left
   · (intro w hSw;(try dsimp only at hSw);go_simp <;> with_reducible rfl)
   try simp only [Act.put,zA,zB,zC,zD,zE,zF]
   refine wpAnyL_take (i:=5) (v:=?_) rfl (by kernel_rfl) (by kernel_rfl) (by kernel_rfl) (by kernel_rfl) (fun _ _ _ h=>h) (Or.inl ⟨by rfl,?_⟩) HS ?_
   rotate_left
   · (intro w hSw;(try dsimp only at hSw);go_simp <;> with_reducible rfl)
   try simp only [Act.put,zA,zB,zC,zD,zE,zF]
   refine wpAnyL_take (i:=6) (v:=?_) rfl (by kernel_rfl) (by kernel_rfl) (by kernel_rfl) (by kernel_rfl) (fun _ _ _ h=>h) (Or.inl ⟨by rfl,?_⟩) HS ?_
   rotate_left
   · (intro w hSw;(try dsimp only at hSw);go_simp <;> with_reducible rfl)
   try simp only [Act.put,zA,zB,zC,zD,zE,zF]
   refine wpAnyL_take (i:=7) (v:=?_) rfl (by kernel_rfl) (by kernel_rfl) (by kernel_rfl) (by kernel_rfl) (fun _ _ _ h=>h) (Or.inl ⟨by rfl,?_⟩) HS ?_
   rotate_left
   · (intro w hSw;(try dsimp only at hSw);go_simp <;> with_reducible rfl)
   try simp only [Act.put,zA,zB,zC,zD,zE,zF]
   refine wpAnyL_ready (rs:=[8]) (by kernel_rfl) (by simp) ?_
   refine AllL.cons rfl (fun K hK=>?_) AllL.nil
   go_simp
   have up:∀ (x:Addr) (v:Value) (o:Obj),x.block < w1.heap.size→w1.drew.cell? x=some v→(w1.alloc o).drew.cell? x=some v:=fun x v o hx h=>(World.cell?_alloc_lt w1 o x hx).trans h
   refine hK.out _ _ (fun _=>⟨up _ _ _ hgl HS.1,up _ _ _ hpl HS.2.1,up _ _ _ hpl HS.2.2.1,up _ _ _ hpl HS.2.2.2.1,up _ _ _ hpl HS.2.2.2.2.1,up _ _ _ hpl HS.2.2.2.2.2.1,up _ _ _ hpl HS.2.2.2.2.2.2.1,up _ _ _ hpl HS.2.2.2.2.2.2.2.1,up _ _ _ hpl HS.2.2.2.2.2.2.2.2.1,up _ _ _ hpl HS.2.2.2.2.2.2.2.2.2.1,up _ _ _ hpl HS.2.2.2.2.2.2.2.2.2.2.1,up _ _ _ hpl HS.2.2.2.2.2.2.2.2.2.2.2.1,up _ _ _ hpl HS.2.2.2.2.2.2.2.2.2.2.2.2.1,up _ _ _ hpl HS.2.2.2.2.2.2.2.2.2.2.2.2.2.1,up _ _ _ hpl HS.2.2.2.2.2.2.2.2.2.2.2.2.2.2.1,up _ _ _ hpl HS.2.2.2.2.2.2.2.2.2.2.2.2.2.2.2⟩) ?_
   clear hK K up
   try simp only [Act.put,zA,zB,zC,zD,zE,zF]
   refine wpAnyL_ready (rs:=[9]) (by kernel_rfl) (by simp) ?_
   refine AllL.cons rfl (fun K hK=>?_) AllL.nil
   go_simp
   refine hK.out _ _ (fun h=>Bool.noConfusion (show true=false from h)) ?_
   clear hK K HS
   refine wpAnyL_done (by kernel_rfl) ?_ _
   have hbt:Blk ((w1.alloc (.cells #[.int .u32 (M n).gen,.int .u64 (M n).qk,.int .u64 (M n).qb,.pointer (some ⟨(T n).b,0,none⟩),.int .u64 n0,.int .u64 n1,.int .u64 n2,.int .u64 n3,.int .u64 n4,.int .u64 n5,.int .u64 n6,.int .u64 n7,.int .u64 n8,.int .u64 n9,.complex .f64 fa fb] 75)).drew) w1.heap.size 75 #[.int .u32 (M n).gen,.int .u64 (M n).qk,.int .u64 (M n).qb,.pointer (some ⟨(T n).b,0,none⟩),.int .u64 n0,.int .u64 n1,.int .u64 n2,.int .u64 n3,.int .u64 n4,.int .u64 n5,.int .u64 n6,.int .u64 n7,.int .u64 n8,.int .u64 n9,.complex .f64 fa fb]:=Blk.drew (blk_at rfl)
   have hbw:Below w1.heap.size w1 ((w1.alloc (.cells #[.int .u32 (M n).gen,.int .u64 (M n).qk,.int .u64 (M n).qb,.pointer (some ⟨(T n).b,0,none⟩),.int .u64 n0,.int .u64 n1,.int .u64 n2,.int .u64 n3,.int .u64 n4,.int .u64 n5,.int .u64 n6,.int .u64 n7,.int .u64 n8,.int .u64 n9,.complex .f64 fa fb] 75)).drew):=(below_box w1 _).drew
   generalize (w1.alloc (.cells #[.int .u32 (M n).gen,.int .u64 (M n).qk,.int .u64 (M n).qb,.pointer (some ⟨(T n).b,0,none⟩),.int .u64 n0,.int .u64 n1,.int .u64 n2,.int .u64 n3,.int .u64 n4,.int .u64 n5,.int .u64 n6,.int .u64 n7,.int .u64 n8,.int .u64 n9,.complex .f64 fa fb] 75)).drew=w2 at hbt hbw ⊢
   have hbk2:=(HM1.out.bk n B hn17 HBK.out).below hbw
   have BX2:=Lib.hid (BX.out.below hbw BX.out.lt)
   have HB2:=Lib.hid (below_trans HB1.out hbw)
   have HKY:=Lib.hid (keys_b (w:=w2.drew) (hbk2.below ((Below.refl _ _).drew)) hlB)
   have HBY:=Lib.hid (bytes_b (w:=w2.drew) (hbk2.below ((Below.refl _ _).drew)))
   have hwi:Calls Tryz.prog 132 #[.agg #[.int .u64 n0,.int .u64 n1,.int .u64 n2,.int .u64 n3,.int .u64 n4,.int .u64 n5,.int .u64 n6,.int .u64 n7,.int .u64 n8,.int .u64 n9,.complex .f64 fa fb],.agg #[.int .u64 (B.l.length:Nat),.int .u64 (sizeL B.l:Nat)]] w2.drew fun e w'=>e=.returned (.agg #[.int .u64 (B.l.length:Nat),.int .u64 (sizeL B.l:Nat),.int .u64 n2,.int .u64 n3,.int .u64 n4,.int .u64 n5,.int .u64 n6,.int .u64 n7,.int .u64 n8,.int .u64 n9,.complex .f64 fa fb])∧Below w2.drew.heap.size w2.drew w' :=
    With_s [.int .u64 n0,.int .u64 n1,.int .u64 n2,.int .u64 n3,.int .u64 n4,.int .u64 n5,.int .u64 n6,.int .u64 n7,.int .u64 n8,.int .u64 n9,.complex .f64 fa fb] (by rw [← HST.out];exact (HM.out.ok n).st) (B.l.length:Nat) (sizeL B.l:Nat) w2.drew
   have HWI:=Lib.hid hwi
   clear hwi
   have hgt:=hbt.lt
   have HS:w2.drew.cell? ⟨w1.heap.size,3,none⟩=some (.pointer (some ⟨(T n).b,0,none⟩))∧w2.drew.cell? ⟨w1.heap.size,4,none⟩=some (.int .u64 n0)∧w2.drew.cell? ⟨w1.heap.size,5,none⟩=some (.int .u64 n1)∧w2.drew.cell? ⟨w1.heap.size,6,none⟩=some (.int .u64 n2)∧w2.drew.cell? ⟨w1.heap.size,7,none⟩=some (.int .u64 n3)∧w2.drew.cell? ⟨w1.heap.size,8,none⟩=some (.int .u64 n4)∧w2.drew.cell? ⟨w1.heap.size,9,none⟩=some (.int .u64 n5)∧w2.drew.cell? ⟨w1.heap.size,10,none⟩=some (.int .u64 n6)∧w2.drew.cell? ⟨w1.heap.size,11,none⟩=some (.int .u64 n7)∧w2.drew.cell? ⟨w1.heap.size,12,none⟩=some (.int .u64 n8)∧w2.drew.cell? ⟨w1.heap.size,13,none⟩=some (.int .u64 n9)∧w2.drew.cell? ⟨w1.heap.size,14,none⟩=some (.complex .f64 fa fb):=⟨hbt.cell 3,hbt.cell 4,hbt.cell 5,hbt.cell 6,hbt.cell 7,hbt.cell 8,hbt.cell 9,hbt.cell 10,hbt.cell 11,hbt.cell 12,hbt.cell 13,hbt.cell 14⟩
   clear hbt hbw hbk2
   go_wp2_with fail
   refine wp_region_L 11 (fun V:World=>V.cell? ⟨w1.heap.size,3,none⟩=some (.pointer (some ⟨(T n).b,0,none⟩))∧V.cell? ⟨w1.heap.size,4,none⟩=some (.int .u64 n0)∧V.cell? ⟨w1.heap.size,5,none⟩=some (.int .u64 n1)∧V.cell? ⟨w1.heap.size,6,none⟩=some (.int .u64 n2)∧V.cell? ⟨w1.heap.size,7,none⟩=some (.int .u64 n3)∧V.cell? ⟨w1.heap.size,8,none⟩=some (.int .u64 n4)∧V.cell? ⟨w1.heap.size,9,none⟩=some (.int .u64 n5)∧V.cell? ⟨w1.heap.size,10,none⟩=some (.int .u64 n6)∧V.cell? ⟨w1.heap.size,11,none⟩=some (.int .u64 n7)∧V.cell? ⟨w1.heap.size,12,none⟩=some (.int .u64 n8)∧V.cell? ⟨w1.heap.size,13,none⟩=some (.int .u64 n9)∧V.cell? ⟨w1.heap.size,14,none⟩=some (.complex .f64 fa fb)) hmix ?_
   refine wpAnyL_take (i:=0) (v:=?_) rfl (by kernel_rfl) (by kernel_rfl) (by kernel_rfl) (by kernel_rfl) (fun _ _ _ h=>h) (Or.inl ⟨by rfl,?_⟩) HS ?_
   rotate_left
   · (intro w hSw;(try dsimp only at hSw);go_simp <;> with_reducible rfl)
   try simp only [Act.put,zA,zB,zC,zD,zE,zF]
   refine wpAnyL_take (i:=1) (v:=?_) rfl (by kernel_rfl) (by kernel_rfl) (by kernel_rfl) (by kernel_rfl) (fun _ _ _ h=>h) (Or.inl ⟨by rfl,?_⟩) HS ?_
   rotate_left
   · (intro w hSw;(try dsimp only at hSw);go_simp <;> with_reducible rfl)
   try simp only [Act.put,zA,zB,zC,zD,zE,zF]
   refine wpAnyL_take (i:=2) (v:=?_) rfl (by kernel_rfl) (by kernel_rfl) (by kernel_rfl) (by kernel_rfl) (fun _ _ _ h=>h) (Or.inl ⟨by rfl,?_⟩) HS ?_
   rotate_left
   · (intro w hSw;(try dsimp only at hSw);go_simp <;> with_reducible rfl)
   try simp only [Act.put,zA,zB,zC,zD,zE,zF]
   refine wpAnyL_take (i:=3) (v:=?_) rfl (by kernel_rfl) (by kernel_rfl) (by kernel_rfl) (by kernel_rfl) (fun _ _ _ h=>h) (Or.inl ⟨by rfl,?_⟩) HS ?_
   rotate_left
   · (intro w hSw;(try dsimp only at hSw);go_simp <;> with_reducible rfl)
   try simp only [Act.put,zA,zB,zC,zD,zE,zF]
   refine wpAnyL_take (i:=5) (v:=?_) rfl (by kernel_rfl) (by kernel_rfl) (by kernel_rfl) (by kernel_rfl) (fun _ _ _ h=>h) (Or.inl ⟨by rfl,?_⟩) HS ?_
   rotate_left
   · (intro w hSw;(try dsimp only at hSw);go_simp <;> with_reducible rfl)
   try simp only [Act.put,zA,zB,zC,zD,zE,zF]
   refine wpAnyL_take (i:=6) (v:=?_) rfl (by kernel_rfl) (by kernel_rfl) (by kernel_rfl) (by kernel_rfl) (fun _ _ _ h=>h) (Or.inl ⟨by rfl,?_⟩) HS ?_
   rotate_left
   · (intro w hSw;(try dsimp only at hSw);go_simp <;> with_reducible rfl)
   try simp only [Act.put,zA,zB,zC,zD,zE,zF]
   refine wpAnyL_ready (rs:=[4]) (by kernel_rfl) (by simp) ?_
   refine AllL.cons rfl (fun K hK=>?_) AllL.nil
   go_simp
   refine HKY.out.mono ?_
   rintro e w3 ⟨rfl,rfl⟩
   refine hK.out _ _ (fun _=>HS) ?_
   clear hK K
   try simp only [Act.put,zA,zB,zC,zD,zE,zF]
   refine wpAnyL_ready (rs:=[7]) (by kernel_rfl) (by simp) ?_
   refine AllL.cons rfl (fun K hK=>?_) AllL.nil
   go_simp
   refine HBY.out.mono ?_
   rintro e w3 ⟨rfl,rfl⟩
   refine hK.out _ _ (fun _=>HS) ?_
   clear hK K
   try simp only [Act.put,zA,zB,zC,zD,zE,zF]
   refine wpAnyL_take (i:=8) (v:=?_) rfl (by kernel_rfl) (by kernel_rfl) (by kernel_rfl) (by kernel_rfl) (fun _ _ _ h=>h) (Or.inl ⟨by rfl,?_⟩) HS ?_
   rotate_left
   · (intro w hSw;(try dsimp only at hSw);go_simp <;> with_reducible rfl)
   try simp only [Act.put,zA,zB,zC,zD,zE,zF]
   refine wpAnyL_ready (rs:=[9]) (by kernel_rfl) (by simp) ?_
   refine AllL.cons rfl (fun K hK=>?_) AllL.nil
   go_simp
   refine HWI.out.mono ?_
   rintro e w3 ⟨rfl,hb3⟩
   have up:∀ (x:Addr) (v:Value),x.block < w2.drew.heap.size→w2.drew.cell? x=some v→w3.cell? x=some v:=fun x v hx h=>(hb3.cell hx).trans h
   have HB3:=Lib.hid hb3
   have HS3:w3.cell? ⟨w1.heap.size,3,none⟩=some (.pointer (some ⟨(T n).b,0,none⟩))∧w3.cell? ⟨w1.heap.size,4,none⟩=some (.int .u64 n0)∧w3.cell? ⟨w1.heap.size,5,none⟩=some (.int .u64 n1)∧w3.cell? ⟨w1.heap.size,6,none⟩=some (.int .u64 n2)∧w3.cell? ⟨w1.heap.size,7,none⟩=some (.int .u64 n3)∧w3.cell? ⟨w1.heap.size,8,none⟩=some (.int .u64 n4)∧w3.cell? ⟨w1.heap.size,9,none⟩=some (.int .u64 n5)∧w3.cell? ⟨w1.heap.size,10,none⟩=some (.int .u64 n6)∧w3.cell? ⟨w1.heap.size,11,none⟩=some (.int .u64 n7)∧w3.cell? ⟨w1.heap.size,12,none⟩=some (.int .u64 n8)∧w3.cell? ⟨w1.heap.size,13,none⟩=some (.int .u64 n9)∧w3.cell? ⟨w1.heap.size,14,none⟩=some (.complex .f64 fa fb):=⟨up _ _ hgt HS.1,up _ _ hgt HS.2.1,up _ _ hgt HS.2.2.1,up _ _ hgt HS.2.2.2.1,up _ _ hgt HS.2.2.2.2.1,up _ _ hgt HS.2.2.2.2.2.1,up _ _ hgt HS.2.2.2.2.2.2.1,up _ _ hgt HS.2.2.2.2.2.2.2.1,up _ _ hgt HS.2.2.2.2.2.2.2.2.1,up _ _ hgt HS.2.2.2.2.2.2.2.2.2.1,up _ _ hgt HS.2.2.2.2.2.2.2.2.2.2.1,up _ _ hgt HS.2.2.2.2.2.2.2.2.2.2.2⟩
   refine hK.out _ _ (fun _=>HS3) ?_
   clear hK K up hb3 HS
   try simp only [Act.put,zA,zB,zC,zD,zE,zF]
   refine wpAnyL_take (i:=10) (v:=?_) rfl (by kernel_rfl) (by kernel_rfl) (by kernel_rfl) (by kernel_rfl) (fun _ _ _ h=>h) (Or.inl ⟨by rfl,?_⟩) HS3 ?_
   rotate_left
   · (intro w hSw;(try dsimp only at hSw);go_simp <;> with_reducible rfl)
   try simp only [Act.put,zA,zB,zC,zD,zE,zF]
   refine wpAnyL_ready (rs:=[11]) (by kernel_rfl) (by simp) ?_
   refine AllL.cons rfl (fun K hK=>?_) AllL.nil
   rw [if_pos (by kernel_rfl)]
   have hbx3:Blk w3 (w.heap.size + 1) 52 zeroA:=BX2.out.drew.below HB3.out BX2.out.lt
   refine wp_store_mid 52 (.tmp 4) (.tmp 32) rfl (w.heap.size + 1) 0 (({ errA 0 with st:=withN [.int .u64 n0,.int .u64 n1,.int .u64 n2,.int .u64 n3,.int .u64 n4,.int .u64 n5,.int .u64 n6,.int .u64 n7,.int .u64 n8,.int .u64 n9,.complex .f64 fa fb] (B.l.length:Nat) (sizeL B.l:Nat) }:Ans).cells none 0).toArray rfl rfl (there_blk hbx3 (Nat.le_refl 17)) infoAns (by simp [Ans.cells,errA,withN,Value.oneCell']) ?_
   refine hK.out _ _ (fun h=>Bool.noConfusion (show true=false from h)) ?_
   clear hK K HS3
   refine wpAnyL_done (by kernel_rfl) ?_ _
   go_wp2
   refine bodyPost_ret (v:=({ errA 0 with st:=withN [.int .u64 n0,.int .u64 n1,.int .u64 n2,.int .u64 n3,.int .u64 n4,.int .u64 n5,.int .u64 n6,.int .u64 n7,.int .u64 n8,.int .u64 n9,.complex .f64 fa fb] (B.l.length:Nat) (sizeL B.l:Nat) }:Ans).v none 0) ?_ rfl ?_
   · exact results_cell Tryz.results70 rfl (blk_setAll hbx3 rfl) Tryz.underlying52 rfl infoAns
   have hE:=HE.out
   rw [HST.out] at hE
   rw [hE]
   have hbw3:Below w.heap.size w w3:=below_trans HB2.out.drew HB3.out
   exact doEnd_store (HM.out.below hbw3) (.of_below hbw3) (fun i hi=>.inl hi) (Nat.le_succ _) hbx3 rfl
 · have HE:Hid (tellN M r=(M,errA (mayM M r))):=Lib.hid (by unfold tellN;rw [if_neg h0])
   generalize mayM M r=q2 at HT h0 HE
   go_enter Tryz.func70,Tryz.ntmps70
   go_wp2_with fail
   refine HT.out.mono ?_
   rintro e w1 ⟨rfl,hb⟩
   have BX:=Lib.hid (HB.out.2.1.below hb HB.out.2.1.lt)
   have HB1:=Lib.hid (HB.out.1.trans (hb.mono HB.out.1.size))
   clear hb
   go_wp2_with (refine wpList_store_mid rfl 52 (.tmp 4) (.tmp 13) rfl (w.heap.size + 1) 0 (errC q2) rfl rfl (there_blk BX.out (Nat.le_refl 17)) infoAns (errC_one _) ?_)
   refine bodyPost_ret (v:=(errA q2).v none 0) ?_ rfl ?_
   · exact results_cell Tryz.results70 rfl (blk_setAll BX.out rfl) Tryz.underlying52 rfl infoAns
   rw [HE.out]
   exact doEnd_store (HM.out.below HB1.out) (.of_below HB1.out) (fun i hi=>.inl hi) (Nat.le_succ _) BX.out rfl
end Go.Proofs.YtkgflepgkhnclaaGreatDoor
