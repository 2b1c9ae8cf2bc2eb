/- Layer 27: contracts of the library, laid at this program (strconv: Quote, Itoa; strings.Builder's String). Layer 27: strconv.Itoa at small numbers, laid at this program. Layer 27: strings.Builder at this program: copyCheck, WriteString; strconv.FormatUint of small numbers. Layer 27: strconv.FormatUint of small numbers. Layer 27: order: text: the state of the text that is being built. Layer 27: order: text: the regions that write. -/
import Derived.Test.YtkgflepgkhnclaaGreatDoorMa
import Derived.Shelf.Strings.Builder1
import Derived.Shelf.Strconv.Quote
import Derived.Shelf.LaysM
import Derived.Shelf.Strconv.Itoa3
import Derived.Test.YtkgflepgkhnclaaGreatDoorMd
import Derived.Lib.OwnKind
import Derived.Test.YtkgflepgkhnclaaGreatDoorMf
import Derived.Test.YtkgflepgkhnclaaGreatDoorMe
import Derived.Shelf.Strconv.Quoted
namespace Go.Proofs.YtkgflepgkhnclaaGreatDoor
set_option linter.unusedVariables false
set_option linter.unusedSimpArgs false
open Go.Shelf
def lays169_ren:Go.Shelf.Ren:=⟨fun | 169=>144 | n=>n,fun | 70=>207 | 9=>9 | 0=>0 | 72=>209 | 37=>135 | 127=>252 | 3=>3 | 5=>5 | n=>n,fun | n=>n⟩
theorem lays169:Go.Proofs.Lays.n169 Tryz.prog lays169_ren:={
 mixed:=by kernel_rfl
 f169:=Tryz.func144.trans (congrArg some (by kernel_rfl))
 t0:=Tryz.underlying0
 a0:=Tryz.isAgg0
 z0:=Tryz.sizeOf0
 v0:=Tryz.zeroValue0
 t3:=Tryz.underlying3
 a3:=Tryz.isAgg3
 z3:=Tryz.sizeOf3
 v3:=Tryz.zeroValue3
 t9:=Tryz.underlying9
 a9:=Tryz.isAgg9
 z9:=Tryz.sizeOf9
 v9:=Tryz.zeroValue9
 t37:=Tryz.underlying135
 a37:=Tryz.isAgg135
 z37:=Tryz.sizeOf135
 v37:=Tryz.zeroValue135
 t70:=Tryz.underlying207
 a70:=Tryz.isAgg207
 z70:=Tryz.sizeOf207
 v70:=Tryz.zeroValue207
 t72:=Tryz.underlying209
 a72:=Tryz.isAgg209
 z72:=Tryz.sizeOf209
 v72:=Tryz.zeroValue209
 t127:=Tryz.underlying252
 a127:=Tryz.isAgg252
 z127:=Tryz.sizeOf252
 v127:=Tryz.zeroValue252 }
theorem builderExtra:Builder.Extra Tryz.prog lays169_ren:={
 sizeBuilder:=by kernel_rfl
 liesBuilder:=by kernel_rfl
 t5:=Tryz.underlying5
 a5:=Tryz.isAgg5
 z5:=Tryz.sizeOf5
 v5:=Tryz.zeroValue5
 infoByte:=by kernel_rfl
 cellsByte:=by kernel_rfl
 sizeByte:=by kernel_rfl
 neB5:=by decide }
open Go.RowKit in
theorem lib_String (B b:Nat) (l:List UInt8) (w:World) (h:Lib.IsBuilder 209 5 B b (Lib.byteCells l) w) (hBw:B ≤ w.heap.size) :
 Calls Tryz.prog 144 #[.pointer (some ⟨b,0,none⟩)] w fun e w'=>e=.returned (.string ⟨l.toArray⟩)∧Below B w w':=Any.Builder_String_any lays169 builderExtra B b l w h hBw
def lays177_ren:Go.Shelf.Ren:=⟨fun | 177=>143 | 250=>182 | 289=>220 | 197=>247 | 323=>248 | 260=>261 | 339=>262 | 340=>263 | 242=>264 | 119=>265 | 345=>272 | 346=>273 | 278=>274 | n=>n,fun | 9=>9 | 5=>5 | 4=>4 | 3=>3 | 37=>135 | 21=>21 | 105=>311 | 46=>97 | 119=>329 | 0=>0 | 139=>332 | 138=>331 | 49=>333 | 234=>334 | 131=>167 | 51=>34 | 236=>336 | n=>n,fun | 3=>3 | 4=>4 | 20=>5 | 21=>6 | 22=>7 | 23=>8 | 24=>9 | n=>n⟩
theorem lays177:Go.Proofs.Lays.n177 Tryz.prog lays177_ren:={
 mixed:=by kernel_rfl
 f119:=Tryz.func265.trans (congrArg some (by kernel_rfl))
 f177:=Tryz.func143.trans (congrArg some (by kernel_rfl))
 f197:=Tryz.func247.trans (congrArg some (by kernel_rfl))
 f242:=Tryz.func264.trans (congrArg some (by kernel_rfl))
 f250:=Tryz.func182.trans (congrArg some (by kernel_rfl))
 f260:=Tryz.func261.trans (congrArg some (by kernel_rfl))
 f278:=Tryz.func274.trans (congrArg some (by kernel_rfl))
 f289:=Tryz.func220.trans (congrArg some (by kernel_rfl))
 f323:=Tryz.func248.trans (congrArg some (by kernel_rfl))
 f339:=Tryz.func262.trans (congrArg some (by kernel_rfl))
 f340:=Tryz.func263.trans (congrArg some (by kernel_rfl))
 f345:=Tryz.func272.trans (congrArg some (by kernel_rfl))
 f346:=Tryz.func273.trans (congrArg some (by kernel_rfl))
 t0:=Tryz.underlying0
 a0:=Tryz.isAgg0
 z0:=Tryz.sizeOf0
 v0:=Tryz.zeroValue0
 t3:=Tryz.underlying3
 a3:=Tryz.isAgg3
 z3:=Tryz.sizeOf3
 v3:=Tryz.zeroValue3
 t4:=Tryz.underlying4
 a4:=Tryz.isAgg4
 z4:=Tryz.sizeOf4
 v4:=Tryz.zeroValue4
 t5:=Tryz.underlying5
 a5:=Tryz.isAgg5
 z5:=Tryz.sizeOf5
 v5:=Tryz.zeroValue5
 t9:=Tryz.underlying9
 a9:=Tryz.isAgg9
 z9:=Tryz.sizeOf9
 v9:=Tryz.zeroValue9
 t21:=Tryz.underlying21
 a21:=Tryz.isAgg21
 z21:=Tryz.sizeOf21
 v21:=Tryz.zeroValue21
 t37:=Tryz.underlying135
 a37:=Tryz.isAgg135
 z37:=Tryz.sizeOf135
 v37:=Tryz.zeroValue135
 t46:=Tryz.underlying97
 a46:=Tryz.isAgg97
 z46:=Tryz.sizeOf97
 v46:=Tryz.zeroValue97
 t49:=Tryz.underlying333
 a49:=Tryz.isAgg333
 z49:=Tryz.sizeOf333
 v49:=Tryz.zeroValue333
 t51:=Tryz.underlying34
 a51:=Tryz.isAgg34
 z51:=Tryz.sizeOf34
 v51:=Tryz.zeroValue34
 t105:=Tryz.underlying311
 a105:=Tryz.isAgg311
 z105:=Tryz.sizeOf311
 v105:=Tryz.zeroValue311
 t119:=Tryz.underlying329
 a119:=Tryz.isAgg329
 z119:=Tryz.sizeOf329
 t131:=Tryz.underlying167
 a131:=Tryz.isAgg167
 z131:=Tryz.sizeOf167
 v131:=Tryz.zeroValue167
 t138:=Tryz.underlying331
 a138:=Tryz.isAgg331
 z138:=Tryz.sizeOf331
 v138:=Tryz.zeroValue331
 t139:=Tryz.underlying332
 a139:=Tryz.isAgg332
 z139:=Tryz.sizeOf332
 v139:=Tryz.zeroValue332
 t234:=Tryz.underlying334
 a234:=Tryz.isAgg334
 z234:=Tryz.sizeOf334
 v234:=Tryz.zeroValue334
 t236:=Tryz.underlying336
 a236:=Tryz.isAgg336
 z236:=Tryz.sizeOf336
 v236:=Tryz.zeroValue336
 g3:=by kernel_rfl
 g4:=by kernel_rfl
 g20:=by kernel_rfl
 g21:=by kernel_rfl
 g22:=by kernel_rfl
 g23:=by kernel_rfl
 g24:=by kernel_rfl }
open Go.RowKit in
theorem lib_Quote (T:Lib.PrintTabs) (s:ByteArray) (w:World) (hlen:10 * s.size + 12 ≤ 140737488355328) (hT:Lib.PrintTabsAt 5 6 7 8 T w) (hU:Lib.Utf8Tabs 3 4 w) :
 Calls Tryz.prog 143 #[.string s] w fun e w'=>e=.returned (.string (strOfNums (Lib.quoteZ T s)))∧Below w.heap.size w w':=Any.strconv_Quote lays177 (by kernel_rfl) T s w hlen hT hU
def lays283_ren:Go.Shelf.Ren:=⟨fun | 283=>215 | n=>n,fun | 3=>3 | 9=>9 | 4=>4 | n=>n,fun | n=>n⟩
theorem lays283:Go.Proofs.Lays.n283 Tryz.prog lays283_ren:={
 mixed:=by kernel_rfl
 f283:=Tryz.func215.trans (congrArg some (by kernel_rfl))
 t3:=Tryz.underlying3
 a3:=Tryz.isAgg3
 z3:=Tryz.sizeOf3
 v3:=Tryz.zeroValue3
 t4:=Tryz.underlying4
 a4:=Tryz.isAgg4
 z4:=Tryz.sizeOf4
 v4:=Tryz.zeroValue4
 t9:=Tryz.underlying9
 a9:=Tryz.isAgg9
 z9:=Tryz.sizeOf9
 v9:=Tryz.zeroValue9 }
open Go.Lib in
theorem lib_small (i:Nat) (h:i < 100) (w:World) :
 Calls Tryz.prog 215 #[.int .i64 i] w fun e w'=>e=.returned (.string ⟨(Lib.decDigits i).toArray⟩)∧w'=w:=Any.internal_strconv_small lays283 i h w
def laysM171_ren:Go.Shelf.Ren:=⟨fun | 171=>80 | 243=>140 | 246=>179 | 283=>215 | 284=>216 | 285=>217 | 286=>218 | 129=>207 | 317=>243 | 318=>244 | 319=>245 | 320=>246 | 337=>259 | 338=>260 | n=>n,fun | 3=>3 | 9=>9 | 2=>2 | 4=>4 | 171=>284 | 0=>0 | 53=>27 | 37=>135 | 5=>5 | 173=>286 | 212=>309 | 51=>34 | 20=>20 | 213=>310 | 46=>97 | 232=>327 | 233=>328 | n=>n,fun | 17=>0 | 18=>1 | 19=>2 | n=>n⟩
def lays171_ren:Go.Shelf.Ren:=⟨fun | 171=>80 | 243=>140 | 246=>179 | 283=>215 | 284=>216 | 285=>217 | 286=>218 | 129=>207 | 317=>243 | 318=>244 | 319=>245 | 320=>246 | 337=>259 | 338=>260 | n=>n,fun | 3=>3 | 9=>9 | 2=>2 | 4=>4 | 171=>284 | 0=>0 | 53=>27 | 37=>135 | 5=>5 | 173=>286 | 212=>309 | 51=>34 | 20=>20 | 213=>310 | 46=>97 | 232=>327 | 233=>328 | n=>n,fun | 17=>0 | 18=>1 | 19=>2 | n=>n⟩
theorem lays171:Go.Proofs.Lays.n171 Tryz.prog lays171_ren:={
 mixed:=by kernel_rfl
 f129:=Tryz.func207.trans (congrArg some (by kernel_rfl))
 f171:=Tryz.func80.trans (congrArg some (by kernel_rfl))
 f243:=Tryz.func140.trans (congrArg some (by kernel_rfl))
 f246:=Tryz.func179.trans (congrArg some (by kernel_rfl))
 f283:=Tryz.func215.trans (congrArg some (by kernel_rfl))
 f284:=Tryz.func216.trans (congrArg some (by kernel_rfl))
 f285:=Tryz.func217.trans (congrArg some (by kernel_rfl))
 f286:=Tryz.func218.trans (congrArg some (by kernel_rfl))
 f317:=Tryz.func243.trans (congrArg some (by kernel_rfl))
 f318:=Tryz.func244.trans (congrArg some (by kernel_rfl))
 f319:=Tryz.func245.trans (congrArg some (by kernel_rfl))
 f320:=Tryz.func246.trans (congrArg some (by kernel_rfl))
 f337:=Tryz.func259.trans (congrArg some (by kernel_rfl))
 f338:=Tryz.func260.trans (congrArg some (by kernel_rfl))
 t0:=Tryz.underlying0
 a0:=Tryz.isAgg0
 z0:=Tryz.sizeOf0
 v0:=Tryz.zeroValue0
 t2:=Tryz.underlying2
 a2:=Tryz.isAgg2
 z2:=Tryz.sizeOf2
 v2:=Tryz.zeroValue2
 t3:=Tryz.underlying3
 a3:=Tryz.isAgg3
 z3:=Tryz.sizeOf3
 v3:=Tryz.zeroValue3
 t4:=Tryz.underlying4
 a4:=Tryz.isAgg4
 z4:=Tryz.sizeOf4
 v4:=Tryz.zeroValue4
 t5:=Tryz.underlying5
 a5:=Tryz.isAgg5
 z5:=Tryz.sizeOf5
 v5:=Tryz.zeroValue5
 t9:=Tryz.underlying9
 a9:=Tryz.isAgg9
 z9:=Tryz.sizeOf9
 v9:=Tryz.zeroValue9
 t20:=Tryz.underlying20
 a20:=Tryz.isAgg20
 z20:=Tryz.sizeOf20
 v20:=Tryz.zeroValue20
 t37:=Tryz.underlying135
 a37:=Tryz.isAgg135
 z37:=Tryz.sizeOf135
 v37:=Tryz.zeroValue135
 t46:=Tryz.underlying97
 a46:=Tryz.isAgg97
 z46:=Tryz.sizeOf97
 v46:=Tryz.zeroValue97
 t51:=Tryz.underlying34
 a51:=Tryz.isAgg34
 z51:=Tryz.sizeOf34
 v51:=Tryz.zeroValue34
 t53:=Tryz.underlying27
 a53:=Tryz.isAgg27
 z53:=Tryz.sizeOf27
 v53:=Tryz.zeroValue27
 t171:=Tryz.underlying284
 a171:=Tryz.isAgg284
 z171:=Tryz.sizeOf284
 v171:=Tryz.zeroValue284
 t173:=Tryz.underlying286
 a173:=Tryz.isAgg286
 z173:=Tryz.sizeOf286
 v173:=Tryz.zeroValue286
 t212:=Tryz.underlying309
 a212:=Tryz.isAgg309
 z212:=Tryz.sizeOf309
 v212:=Tryz.zeroValue309
 t213:=Tryz.underlying310
 a213:=Tryz.isAgg310
 z213:=Tryz.sizeOf310
 t232:=Tryz.underlying327
 a232:=Tryz.isAgg327
 z232:=Tryz.sizeOf327
 v232:=Tryz.zeroValue327
 t233:=Tryz.underlying328
 a233:=Tryz.isAgg328
 z233:=Tryz.sizeOf328
 v233:=Tryz.zeroValue328
 g17:=by kernel_rfl
 g18:=by kernel_rfl
 g19:=by kernel_rfl }
open Go.RowKit Go.Sort Go.Lib in
theorem lib_Itoa_small (i:Nat) (hi:i < 100) (w:World) :
 Calls Tryz.prog 80 #[.int .i64 i] w fun e w'=>e=.returned (.string ⟨(Lib.decDigits i).toArray⟩)∧w'=w:=Any.strconv_Itoa_small lays171 i hi w
end Go.Proofs.YtkgflepgkhnclaaGreatDoor
namespace Go.Proofs.YtkgflepgkhnclaaGreatDoor
set_option linter.unusedVariables false
set_option linter.unusedSimpArgs false
open Go.RowKit Go.Shelf
variable {Xa Xb Xc Xd Xe Xf Xg Xh Xi Xj Xk Xl Xm Xn Xo Xp Xq Xr Xs Xt Xu Xv Xw Xx Xy Xz Ya Yb Yc Yd Ye Yf Yg Yh Yi Yj Yk Yl Ym Yn Yo Yp Yq Yr Ys Yt Yu Yv Yw Yx Yy Yz Za Zb Zc Zd Ze Zf Zg Zh Zi Zj Zk Zl Zm Zn Zo Zp Zq Zr Zs Zt Zu Zv Zw Zx Zy Zz Ja Jb Jc Jd Je Jf Jg Jh Ji Jj Jk Jl Jm Jn Jo Jp Jq Jr Js Jt Ju Jv Jw Jy Jz Va Vb Vc Vd Ve Vf Vg Vh Vi Vj Vk Vl Vm Vn Vo Vp Vq Vr Vs Vt Vu Vv Vw Vx Vy Vz Oa Ob Oc Od Oe Og Oh Oi Oj Ok Ol Om On Oo Oq Ot Ou Ov Ox Oy Oz Ha Hb Hc He Hf Hg Hh Hi Hj Hk Hl Hm Hn Ho Hp Hq Hr Hs Ht Hu Hv Hw Hx Hy Hz Ia Ib Ic Id Ie If Ig Ih Ii Ij Ik Il Im In Io Ip Iq Ir It Iu Iv Iw Ix Iy Iz Ua Ub Uc Ud Ue Uf Ug Uh Ui Uj Uk Ul:Value}
structure KeepT (b:Nat) (w w':World):Prop where
 os:w'.os=w.os
 tape:w'.tape=w.tape
 output:w'.output=w.output
 size:w.heap.size ≤ w'.heap.size
 block:∀ i,i < w.heap.size→i ≠ b→¬ U8 w i→w'.heap[i]?=w.heap[i]?
theorem KeepT.refl (b:Nat) (w:World):KeepT b w w:=⟨rfl,rfl,rfl,Nat.le_refl _,fun _ _ _ _=>rfl⟩
theorem KeepT.of_below {b:Nat} {w w':World} (h:Below w.heap.size w w'):KeepT b w w':=⟨h.os,h.tape,h.output,h.size,fun i hi _ _=>h.block i hi⟩
theorem KeepT.trans {b:Nat} {w w' w'':World} (h:KeepT b w w') (k:KeepT b w' w''):KeepT b w w'' :=
 ⟨k.os.trans h.os,k.tape.trans h.tape,k.output.trans h.output,Nat.le_trans h.size k.size,fun i hi hb hu=>by
  have h1:=h.block i hi hb hu
  rw [k.block i (Nat.lt_of_lt_of_le hi h.size) hb (fun a=>hu (a.on h1.symm)),h1]⟩
theorem KeepT.blk {b g:Nat} {t:TypeId} {cs:Array Value} {w w':World} (k:KeepT b w w') (h:Blk w g t cs) (hg:g ≠ b) (ht:t ≠ 5):Blk w' g t cs:=(k.block g h.lt hg (not_U8 h ht)).trans h
theorem KeepT.set {b:Nat} (w:World) (j:Nat) (v:Value):KeepT b w (w.setCell ⟨b,j,none⟩ v):=⟨rfl,rfl,rfl,by simp,fun i _ hi _=>Below.heap_setCell w _ v i hi⟩
theorem KeepT.grown {b:Nat} {w w':World} {row:Option Nat} (hg:w.grownBy w' row) (hr:∀ g,row=some g→U8 w g):KeepT b w w' :=
 ⟨hg.os,hg.tape,hg.output,hg.size,fun i hi _ hu=>hg.block i hi (fun e=>hu (hr i e.symm))⟩
set_option maxHeartbeats 1000000 in
set_option maxRecDepth 100000 in
theorem copyCheck_used (b:Nat) (w:World) (h0:w.cell? ⟨b,0,none⟩=some (.pointer (some ⟨b,0,none⟩))) :
 Calls Tryz.prog 180 #[.pointer (some ⟨b,0,none⟩)] w fun e w'=>e=.returned (.tuple #[])∧w'=w:=by
 obtain ⟨j,hj,_⟩:=Option.map_eq_some_iff.1 builderExtra.sizeBuilder
 have hne:∀ W:World,(binOp .neq 207 (.pointer (some ⟨b,0,none⟩)) (.pointer (some ⟨b,0,none⟩))).run Tryz.prog W=.ok (.bool false) W:=fun W=>Lib.run_neq_ptr_same W _ Tryz.underlying207 hj
 go_enter Tryz.func180,Tryz.ntmps180
 go_wp2
 go_end0
 exact ⟨rfl,rfl⟩
set_option maxHeartbeats 1000000 in
set_option maxRecDepth 100000 in
theorem copyCheck_fresh (b:Nat) (w:World) (h0:w.cell? ⟨b,0,none⟩=some (.pointer none)) (hsh:w.shape? b=some (209,2)) (hf:w.frozen? ⟨b,0,none⟩=false) :
 Calls Tryz.prog 180 #[.pointer (some ⟨b,0,none⟩)] w fun e w'=>e=.returned (.tuple #[])∧w'=w.setCell ⟨b,0,none⟩ (.pointer (some ⟨b,0,none⟩)):=by
 obtain ⟨j,hj,hjs⟩:=Option.map_eq_some_iff.1 builderExtra.sizeBuilder
 go_enter Tryz.func180,Tryz.ntmps180
 go_wp2
 rw [Lib.run_to_unsafe w ⟨b,0,none⟩ Tryz.underlying207 Tryz.underlying288 hj (by rw [hjs];decide) hsh (Nat.zero_lt_succ 1)]
 simp only [Result.andThen]
 rw [Oper.upon_value]
 go_wp2
 rw [run_callFunc_extern Tryz.func219 (by kernel_rfl) (by kernel_rfl) (by kernel_rfl) (e:=Extern.AbiNoEscape.same) (by kernel_rfl)]
 rw [Lib.run_noEscape]
 simp only [Result.andThen]
 rw [Oper.upon_value]
 go_wp2
 rw [Lib.run_from_unsafe w ⟨b,0,none⟩ Tryz.underlying288 Tryz.underlying207 hj hsh builderExtra.liesBuilder]
 simp only [Result.andThen]
 rw [Oper.upon_value]
 go_wp2
 go_end0
 exact ⟨rfl,rfl⟩
theorem copyCheck_b (B b:Nat) (bs:List Value) (w:World) (h:Lib.IsBuilder 209 5 B b bs w) :
 Calls Tryz.prog 180 #[.pointer (some ⟨b,0,none⟩)] w fun e w'=>e=.returned (.tuple #[])∧Lib.BuilderAt 209 5 B b (.pointer (some ⟨b,0,none⟩)) bs w'∧Below B w w'∧KeepT b w w':=by
 rcases h with h | h
 · refine (copyCheck_fresh b w h.cell0 h.shape h.frozen0).mono ?_
   rintro e w' ⟨rfl,rfl⟩
   exact ⟨rfl,h.used _,(Below.refl B w).setCell (p:=⟨b,0,none⟩) h.1 _,KeepT.set w 0 _⟩
 · refine (copyCheck_used b w h.cell0).mono ?_
   rintro e w' ⟨rfl,rfl⟩
   exact ⟨rfl,h,Below.refl B _,KeepT.refl b _⟩
set_option maxHeartbeats 2000000 in
set_option maxRecDepth 100000 in
theorem writeString_b (B b:Nat) (bs:List Value) (s:ByteArray) (w:World) (h:Lib.IsBuilder 209 5 B b bs w) (hlen:bs.length + s.size ≤ 140737488355328) (hBw:B ≤ w.heap.size) :
 Calls Tryz.prog 141 #[.pointer (some ⟨b,0,none⟩),.string s] w fun e w'=>e=.returned (.tuple #[.int .i64 s.size,.nilIface])∧Lib.IsBuilder 209 5 B b (bs ++ Lib.strCells s) w'∧Below B w w'∧KeepT b w w':=by
 obtain ⟨i0,hi,hz0,hz1,hz2⟩:=info_parts builderExtra.infoByte
 go_enter Tryz.func141,Tryz.ntmps141
 go_wp2_with fail
 refine (copyCheck_b B b bs _ h).mono ?_
 rintro e w1 ⟨rfl,h1,hb1,hk1⟩
 obtain ⟨hB,v,hbk,hown,hne⟩:=h1
 have c0:w1.cell? ⟨b,0,none⟩=some (.pointer (some ⟨b,0,none⟩)):=by rw [Lib.cell_of_heap hbk];rfl
 have c1:w1.cell? ⟨b,1,none⟩=some v:=by rw [Lib.cell_of_heap hbk];rfl
 go_wp2_with (at_builtin;refine Lib.wpList_append_own_string _ rfl _ _ 135 9 rfl B 5 i0 Tryz.underlying135 Tryz.underlying9 hi hz0 hz1 hz2 _ _ _ rfl hown s rfl ?c3 ?c4 ?c5 ?_)
 case c3=>unfold maxLen;omega
 case c4=>omega
 case c5=>have:=hb1.size;omega
 intro v' w2 hown' hgrow _
 have hlt:b < w1.heap.size:=by
  rcases Nat.lt_or_ge b w1.heap.size with h' | h'
  · exact h'
  · simp [Array.getElem?_eq_none h'] at hbk
 have hb2:w2.heap[b]?=some (.cells #[.pointer (some ⟨b,0,none⟩),v] 209 (0,0)):=by
  rw [hgrow.block b hlt (fun e=>hne e.symm)]
  exact hbk
 have d0:w2.cell? ⟨b,0,none⟩=some (.pointer (some ⟨b,0,none⟩)):=by rw [Lib.cell_of_heap hb2];rfl
 have d1:w2.cell? ⟨b,1,none⟩=some v:=by rw [Lib.cell_of_heap hb2];rfl
 have f1:w2.frozen? ⟨b,1,none⟩=false:=Lib.frozen_of_heap hb2 1
 obtain ⟨ao,n',cap,rfl⟩:∃ ao n' cap,v'=.slice ao n' cap:=by
  rcases hown'.2 with ⟨hv,_⟩ | ⟨g,cap,cur,hv,_⟩
  · exact ⟨_,_,_,hv⟩
  · exact ⟨_,_,_,hv⟩
 go_wp2
 go_ret2
 refine ⟨rfl,.inr ?_,?_,?_⟩
 · exact Lib.BuilderAt.put (T:=209) (e:=5) hB hb2 (bs':=bs ++ Lib.strCells s) (by simpa [Lib.strCells_length] using hown') builderExtra.neB5
 · exact (hb1.grown hgrow (by have:=hb1.size;omega) (fun k hk=>(hown.lt k hk).1)).setCell (p:=⟨b,1,none⟩) hB _
 · exact (hk1.trans (.grown hgrow (fun g hg=>Lib.ownsRow_kind hown g hg))).trans (KeepT.set _ 1 _)
theorem formatUint_i (i:Nat) (hi:i < 100) (w:World):Calls Tryz.prog 181 #[.int .u64 i,.int .i64 10] w fun e w'=>e=.returned (.string ⟨(Lib.decDigits i).toArray⟩)∧w'=w:=by
 have hs:=Lib.hid (lib_small i hi w)
 have h1:(i:Int) < 100:=by omega
 have hw:IntKind.i64.wrap (i:Int)=(i:Int):=IntWalk.i64_in _ (by omega)
 go_enter Tryz.func181,Tryz.ntmps181
 go_wp2_with fail
 refine hs.out.mono ?_
 rintro e w' ⟨rfl,rfl⟩
 go_wp2_with fail
 go_ret
 exact ⟨rfl,rfl⟩
theorem formatUint_s (i:Nat) (hi:i < 100) (w:World):Calls Tryz.prog 142 #[.int .u64 i,.int .i64 10] w fun e w'=>e=.returned (.string ⟨(Lib.decDigits i).toArray⟩)∧w'=w:=by
 have hs:=Lib.hid (formatUint_i i hi w)
 go_enter Tryz.func142,Tryz.ntmps142
 go_wp2_with fail
 refine hs.out.mono ?_
 rintro e w' ⟨rfl,rfl⟩
 go_wp2_with fail
 go_ret
 exact ⟨rfl,rfl⟩
theorem digits_le (i:Nat) (hi:i < 100):(Lib.decDigits i).length ≤ 2:=by
 have:∀ k:Fin 100,(Lib.decDigits k.val).length ≤ 2:=by decide +kernel
 exact this ⟨i,hi⟩
def Tabs (T:Lib.PrintTabs) (w:World):Prop:=Lib.PrintTabsAt 5 6 7 8 T w∧Lib.Utf8Tabs 3 4 w
theorem Tabs.below {T:Lib.PrintTabs} {w w':World} (h:Tabs T w) (hb:Below w.heap.size w w'):Tabs T w':=⟨printTabs_below h.1 hb,Utf8Tabs_below h.2 hb⟩
def TxAt (w:World) (l:List UInt8) (W:World):Prop:=Below w.heap.size w W∧Lib.IsBuilder 209 5 w.heap.size w.heap.size (Lib.byteCells l) W
theorem builder_blk {B b:Nat} {bs:List Value} {W:World} (h:Lib.IsBuilder 209 5 B b bs W):∃ p v,Blk W b 209 #[p,v]:=by
 rcases h with ⟨_,v,h,_⟩ | ⟨_,v,h,_⟩
 · exact ⟨_,v,h⟩
 · exact ⟨_,v,h⟩
theorem builder_below {B b:Nat} {bs:List Value} {W W':World} (h:Lib.IsBuilder 209 5 B b bs W) (hb:Below W.heap.size W W'):Lib.IsBuilder 209 5 B b bs W':=by
 obtain ⟨p,v,h0⟩:=builder_blk h
 have go:∀ q,Lib.BuilderAt 209 5 B b q bs W→Lib.BuilderAt 209 5 B b q bs W':=by
  rintro q ⟨h1,v,h2,h3,h4⟩
  exact ⟨h1,v,(hb.block b h0.lt).trans h2,own_same h3 (fun g hg=>hb.block g (own_at h3 hg).2.1),h4⟩
 exact h.imp (go _) (go _)
theorem TxAt.below {w W W':World} {l:List UInt8} (h:TxAt w l W) (hb:Below W.heap.size W W'):TxAt w l W' :=
 ⟨below_trans h.1 hb,builder_below h.2 hb⟩
theorem TxAt.lt {w W:World} {l:List UInt8} (h:TxAt w l W):w.heap.size < W.heap.size:=by
 obtain ⟨p,v,h0⟩:=builder_blk h.2
 exact h0.lt
theorem tx_new (w:World):TxAt w [] (w.alloc (.cells #[.pointer none,.slice none 0 0] 209)) :=
 ⟨below_box _ _,Lib.fresh_isBuilder _ _ w⟩
theorem tx_write {w W:World} {l:List UInt8} (h:TxAt w l W) (s:ByteArray) (hn:l.length + s.size ≤ 140737488355328):Calls Tryz.prog 141 #[.pointer (some ⟨w.heap.size,0,none⟩),.string s] W (fun e w'=>e=.returned (.tuple #[.int .i64 s.size,.nilIface])∧TxAt w (l ++ s.data.toList) w'∧KeepT w.heap.size W w'):=by
 obtain ⟨h1,h3⟩:=h
 refine (writeString_b _ _ _ s W h3 (by rw [Lib.byteCells_length];exact hn) h1.size).mono ?_
 rintro e w' ⟨rfl,h4,h5,h6⟩
 refine ⟨rfl,⟨⟨h5.os.trans h1.os,h5.tape.trans h1.tape,h5.output.trans h1.output,Nat.le_trans h1.size h5.size,fun i hi=>by rw [h5.block i hi,h1.block i hi]⟩,?_⟩,h6⟩
 rw [Lib.byteCells_append,← Lib.strCells_eq];exact h4
theorem KeepT.own {b base size n:Nat} {W W':World} {e:TypeId} {v:Value} {xs:List Value} {cs:Array Value} {t:TypeId} (k:KeepT b W W') (h:W.ownsRow base e size v n xs) (hb:Blk W b t cs) (ht:e ≠ t) (he:e ≠ 5):W'.ownsRow base e size v n xs :=
 own_same h fun g hg=>by
  obtain ⟨_,h1,cs',h2⟩:=own_at h hg
  exact k.block g h1 (fun e2=>own_blk_ne h hb ht (e2 ▸ hg)) (not_U8 h2 he)
def pairX (T:Lib.PrintTabs) (p:Kv):List UInt8:=(strOfNums (Lib.quoteZ T p.1)).data.toList ++ (strOfNums (Lib.quoteZ T p.2)).data.toList
def quoX (M:Mdl) (t:Nat):List UInt8:=Lib.decDigits (M t).qk.toNat ++ [44] ++ (Lib.decDigits (M t).qb.toNat ++ [44])
def tenX (T:Lib.PrintTabs) (M:Mdl) (t:Nat):List UInt8:=(Lib.decDigits (M t).gen.toNat ++ [59]) ++ (if (M t).bk.isSome then quoX M t ++ (pairsN M t).flatMap (pairX T) else [])
def textN (T:Lib.PrintTabs) (M:Mdl):List UInt8:=(List.range 17).flatMap (tenX T M)
structure TxSmall (M:Mdl):Prop where
 gen:∀ t,0 ≤ (M t).gen∧(M t).gen < 100
 qk:∀ t,0 ≤ (M t).qk∧(M t).qk < 100
 qb:∀ t,0 ≤ (M t).qb∧(M t).qb < 100
 bk:∀ t B,(M t).bk=some B→B.l.length ≤ 50∧∀ p ∈ B.l,p.1.size ≤ 16∧p.2.size ≤ 32
theorem TxSmall.small {M:Mdl} (h:TxSmall M):Small M:=fun t B hB=>by have:=(h.bk t B hB).1;omega
theorem TxSmall.pairs {M:Mdl} (h:TxSmall M) (t:Int):(pairsN M t).length ≤ 50∧∀ p ∈ pairsN M t,p.1.size ≤ 16∧p.2.size ≤ 32:=by
 unfold pairsN
 split
 · cases hB:(M t.toNat).bk with
   | none=>simp
   | some B=>exact h.bk _ B hB
 · simp
theorem quote_size (T:Lib.PrintTabs) (s:ByteArray):(strOfNums (Lib.quoteZ T s)).size ≤ 10 * s.size + 2:=by
 rw [strOfNums_size];exact Lib.quoteZ_length_le T s
theorem toList_len (s:ByteArray):s.data.toList.length=s.size:=Array.length_toList
theorem pairX_len {T:Lib.PrintTabs} {p:Kv} (h:p.1.size ≤ 16∧p.2.size ≤ 32):(pairX T p).length ≤ 484:=by
 have h1:=quote_size T p.1
 have h2:=quote_size T p.2
 unfold pairX
 rw [List.length_append,toList_len,toList_len]
 omega
theorem flat_len {α β:Type} {f:α→List β} {m:Nat}:∀ {l:List α},(∀ x ∈ l,(f x).length ≤ m)→(l.flatMap f).length ≤ l.length * m
 | [],_=>by simp
 | x :: l,h=>by
   have h1:=h x (by simp)
   have h2:=flat_len (l:=l) (fun y hy=>h y (by simp [hy]))
   rw [List.flatMap_cons,List.length_append,List.length_cons,Nat.succ_mul]
   omega
theorem pairs_take_len {T:Lib.PrintTabs} {M:Mdl} (h:TxSmall M) (t:Int) (i:Nat):(((pairsN M t).take i).flatMap (pairX T)).length ≤ 24200:=by
 obtain ⟨h1,h2⟩:=h.pairs t
 have:=flat_len (f:=pairX T) (m:=484) (l:=(pairsN M t).take i) (fun p hp=>pairX_len (h2 p (List.mem_of_mem_take hp)))
 have:((pairsN M t).take i).length ≤ 50:=by rw [List.length_take];omega
 omega
theorem quoX_len {M:Mdl} (h:TxSmall M) (t:Nat):(quoX M t).length ≤ 6:=by
 have h1:=digits_le (M t).qk.toNat (by have:=h.qk t;omega)
 have h2:=digits_le (M t).qb.toNat (by have:=h.qb t;omega)
 unfold quoX
 simp only [List.length_append,List.length_cons,List.length_nil]
 omega
theorem tenX_len {T:Lib.PrintTabs} {M:Mdl} (h:TxSmall M) (t:Nat):(tenX T M t).length ≤ 25000:=by
 have h1:=digits_le (M t).gen.toNat (by have:=h.gen t;omega)
 have h2:=quoX_len h t
 have h3:=pairs_take_len (T:=T) h t (pairsN M t).length
 rw [List.take_length] at h3
 unfold tenX
 split
 · simp only [List.length_append,List.length_cons,List.length_nil]
   omega
 · simp only [List.length_append,List.length_cons,List.length_nil]
   omega
theorem texts_len {T:Lib.PrintTabs} {M:Mdl} (h:TxSmall M) (k:Nat) (hk:k ≤ 17):((List.range k).flatMap (tenX T M)).length ≤ 425000:=by
 have:=flat_len (f:=tenX T M) (m:=25000) (l:=List.range k) (fun t _=>tenX_len h t)
 rw [List.length_range] at this
 omega
def TextEnd (T:Lib.PrintTabs) (M:Mdl) (w:World) (e:Ending) (w':World):Prop:=e=.returned (.string ⟨(textN T M).toArray⟩)∧Below w.heap.size w w'
theorem tabs_p {T:Lib.PrintTabs} {w:World} (h:Tabs T w):Lib.PrintTabsAt 5 6 7 8 T w:=And.left h
theorem tabs_u {T:Lib.PrintTabs} {w:World} (h:Tabs T w):Lib.Utf8Tabs 3 4 w:=And.right h
theorem bytes_app (a b:ByteArray):(a ++ b).data.toList=a.data.toList ++ b.data.toList:=by simp
set_option maxHeartbeats 3200000 in
set_option maxRecDepth 100000 in
theorem tx_quota {w W:World} {l:List UInt8} {g5 kq bq:Nat} {Q:Exit→Act→World→Prop} (h:TxAt w l W) (hk:kq < 100) (hb:bq < 100) (hl:l.length ≤ 1000000) {cs:Array Value} (hbl:Blk W g5 75 cs) (hne:g5 ≠ w.heap.size) (c1:cs[1]?=some (.int .u64 (kq:Nat))) (c2:cs[2]?=some (.int .u64 (bq:Nat)))
 (hQ:∀ (s25 s26 s27 s28 s29 s30 s31 s32 s33 s34 s35 s36:Value) (W':World),TxAt w (l ++ (Lib.decDigits kq ++ [44] ++ (Lib.decDigits bq ++ [44]))) W'→KeepT w.heap.size W W'→Q .normal ⟨#[Xa,Xb,Xc,.pointer (some ⟨w.heap.size,0,none⟩),Xe,.pointer (some ⟨g5,0,none⟩),Xg,Xh,Xi,Xj,Xk,Xl,Xm,Xn,Xo,Xp,Xq,Xr,Xs,Xt,Xu,Xv,Xw,Xx,Xy,s25,s26,s27,s28,s29,s30,s31,s32,s33,s34,s35,s36,Yl,Ym,Yn,Yo,Yp,Yq,Yr,Ys,Yt,Yu,Yv,Yw,Yx,Yy,Yz,Za,Zb,Zc,Zd],[]⟩ W') :
 Code.wp Tryz.prog (part Tryz.f81 [1,1,0,1,2,2,1,1,0,2,1,1,1,0]) Q ⟨#[Xa,Xb,Xc,.pointer (some ⟨w.heap.size,0,none⟩),Xe,.pointer (some ⟨g5,0,none⟩),Xg,Xh,Xi,Xj,Xk,Xl,Xm,Xn,Xo,Xp,Xq,Xr,Xs,Xt,Xu,Xv,Xw,Xx,Xy,Xz,Ya,Yb,Yc,Yd,Ye,Yf,Yg,Yh,Yi,Yj,Yk,Yl,Ym,Yn,Yo,Yp,Yq,Yr,Ys,Yt,Yu,Yv,Yw,Yx,Yy,Yz,Za,Zb,Zc,Zd],[]⟩ W:=by
 conv=>arg 2;whnf
 have HQ:=Lib.hid hQ
 have HK:=Lib.hid hk
 have HB:=Lib.hid hb
 have HL:=Lib.hid hl
 have hdr:Below W.heap.size W W.drew:=(Below.refl _ _).drew
 have HT:=Lib.hid (h.below hdr)
 have HD:=Lib.hid hdr
 have HC:Hid (∀ V:World,Blk V g5 75 cs→V.cell? ⟨g5,1,none⟩=some (.int .u64 (kq:Nat))∧V.cell? ⟨g5,2,none⟩=some (.int .u64 (bq:Nat))):=Lib.hid (fun V hV=>⟨(hV.cell 1).trans c1,(hV.cell 2).trans c2⟩)
 have H0:W.drew.cell? ⟨g5,1,none⟩=some (.int .u64 (kq:Nat))∧W.drew.cell? ⟨g5,2,none⟩=some (.int .u64 (bq:Nat)):=HC.out _ (hbl.below hdr hbl.lt)
 have HBL:=Lib.hid (And.intro (hbl.below hdr hbl.lt) hne)
 have d1:=digits_le kq hk
 have d2:=digits_le bq hb
 have hc1:¬ 9223372036854775807 < (Lib.decDigits kq).length + 1:=by omega
 have hc2:¬ 9223372036854775807 < (Lib.decDigits kq).length + 1 + (Lib.decDigits bq).length:=by omega
 have hc3:¬ 9223372036854775807 < (Lib.decDigits kq).length + 1 + (Lib.decDigits bq).length + 1:=by omega
 clear hQ hk hb hl h hdr hbl hne c1 c2 d1 d2
 refine wp_region_noPanic ?_
 refine wp_region_held_drew (S:=(fun V:World=>V.cell? ⟨g5,1,none⟩=some (.int .u64 (kq:Nat))∧V.cell? ⟨g5,2,none⟩=some (.int .u64 (bq:Nat)))) (by kernel_rfl) ?_ (fun hHeld0=>?_)
 · exact H0
 refine tk (i:=0) (v:=?_) rfl (Or.inl ⟨by rfl,?_⟩) hHeld0 ?_
 rotate_left
 · (intro w hSw;(try dsimp only at hSw);go_simp <;> with_reducible rfl)
 try simp only [Act.put,zD,zE,zF]
 refine tk (i:=1) (v:=?_) rfl (Or.inl ⟨by rfl,?_⟩) hHeld0 ?_
 rotate_left
 · (intro w hSw;(try dsimp only at hSw);go_simp <;> with_reducible rfl)
 try simp only [Act.put,zD,zE,zF]
 refine tk (i:=2) (v:=?_) rfl (Or.inl ⟨by rfl,?_⟩) hHeld0 ?_
 rotate_left
 · (intro w hSw;(try dsimp only at hSw);go_simp <;> with_reducible rfl)
 try simp only [Act.put,zD,zE,zF]
 refine tk (i:=5) (v:=?_) rfl (Or.inl ⟨by rfl,?_⟩) hHeld0 ?_
 rotate_left
 · (intro w hSw;(try dsimp only at hSw);go_simp <;> with_reducible rfl)
 try simp only [Act.put,zD,zE,zF]
 refine tk (i:=6) (v:=?_) rfl (Or.inl ⟨by rfl,?_⟩) hHeld0 ?_
 rotate_left
 · (intro w hSw;(try dsimp only at hSw);go_simp <;> with_reducible rfl)
 try simp only [Act.put,zD,zE,zF]
 refine tk (i:=7) (v:=?_) rfl (Or.inl ⟨by rfl,?_⟩) hHeld0 ?_
 rotate_left
 · (intro w hSw;(try dsimp only at hSw);go_simp <;> with_reducible rfl)
 try simp only [Act.put,zA,zB,zC,zD,zE,zF]
 refine wpAnyH_ready (rs:=[3]) (by kernel_rfl) (by simp) ?_
 refine AllReadyH.cons rfl (fun K hK=>?_) AllReadyH.nil
 go_simp
 with_reducible refine (formatUint_s kq HK.out _).mono ?_
 rintro e wkq ⟨rfl,rfl⟩
 refine hK.out _ _ ?_ (fun hHeld1=>?_)
 · exact H0
 clear hK K hHeld0
 try simp only [Act.put,zD,zE,zF]
 refine tk (i:=4) (v:=?_) rfl (Or.inl ⟨by rfl,?_⟩) hHeld1 ?_
 rotate_left
 · (intro w hSw;(try dsimp only at hSw);go_simp <;> with_reducible rfl)
 try simp only [Act.put,zA,zB,zC,zD,zE,zF]
 refine wpAnyH_ready (rs:=[8]) (by kernel_rfl) (by simp) ?_
 refine AllReadyH.cons rfl (fun K hK=>?_) AllReadyH.nil
 go_simp
 with_reducible refine (formatUint_s bq HB.out _).mono ?_
 rintro e wbq ⟨rfl,rfl⟩
 refine hK.out _ _ ?_ (fun hHeld2=>?_)
 · exact H0
 clear hK K hHeld1
 try simp only [Act.put,zD,zE,zF]
 refine tk (i:=9) (v:=?_) rfl (Or.inl ⟨by rfl,?_⟩) hHeld2 ?_
 rotate_left
 · (intro w hSw;(try dsimp only at hSw);go_simp <;> with_reducible rfl)
 try simp only [Act.put,zD,zE,zF]
 refine tk (i:=10) (v:=?_) rfl (Or.inl ⟨by rfl,?_⟩) hHeld2 ?_
 rotate_left
 · (intro w hSw;(try dsimp only at hSw);go_simp <;> with_reducible rfl)
 try simp only [Act.put,zA,zB,zC,zD,zE,zF]
 refine wpAnyH_ready (rs:=[11]) (by kernel_rfl) (by simp) ?_
 refine AllReadyH.cons rfl (fun K hK=>?_) AllReadyH.nil
 go_simp
 with_reducible refine (tx_write HT.out _ ?_).mono ?_
 · simp only [ByteArray.size_append]
   have d1:=digits_le kq HK.out
   have d2:=digits_le bq HB.out
   have e1:(⟨(Lib.decDigits kq).toArray⟩:ByteArray).size=(Lib.decDigits kq).length:=rfl
   have e2:(⟨(Lib.decDigits bq).toArray⟩:ByteArray).size=(Lib.decDigits bq).length:=rfl
   have e3:(⟨#[44]⟩:ByteArray).size=1:=rfl
   have:=HL.out
   omega
 rintro e w9 ⟨rfl,h9,k9⟩
 refine hK.out _ _ ?_ (fun hHeld3=>?_)
 · exact HC.out _ (k9.blk HBL.out.1 HBL.out.2 (by decide))
 clear hK K hHeld2
 try simp only [Act.put,zA,zB,zC,zD,zE,zF]
 refine wpAnyH_done (by kernel_rfl) ?_ _
 have e4:(⟨(Lib.decDigits kq).toArray⟩ ++ ⟨#[44]⟩ ++ ⟨(Lib.decDigits bq).toArray⟩ ++ ⟨#[44]⟩:ByteArray).data.toList=Lib.decDigits kq ++ [44] ++ (Lib.decDigits bq ++ [44]):=by simp [bytes_app]
 rw [e4] at h9
 exact NoPanic.normal (HQ.out _ _ _ _ _ _ _ _ _ _ _ _ w9 h9 ((KeepT.of_below HD.out).trans k9))
set_option maxHeartbeats 3200000 in
set_option maxRecDepth 100000 in
theorem tx_pair {w W:World} {l:List UInt8} {g7:Nat} {p:Kv} {T:Lib.PrintTabs} {Q:Exit→Act→World→Prop} (h:TxAt w l W) (ht:Tabs T W) (hs:p.1.size ≤ 16∧p.2.size ≤ 32) (hl:l.length ≤ 1000000) (hbl:Blk W g7 57 #[.string p.1,.string p.2]) (hne:g7 ≠ w.heap.size)
 (hQ:∀ (s45 s46 s47 s48 s49 s50 s51 s52:Value) (W':World),TxAt w (l ++ pairX T p) W'→KeepT w.heap.size W W'→Q .normal ⟨#[Xa,Xb,Xc,.pointer (some ⟨w.heap.size,0,none⟩),Xe,Xf,Xg,.pointer (some ⟨g7,0,none⟩),Xi,Xj,Xk,Xl,Xm,Xn,Xo,Xp,Xq,Xr,Xs,Xt,Xu,Xv,Xw,Xx,Xy,Xz,Ya,Yb,Yc,Yd,Ye,Yf,Yg,Yh,Yi,Yj,Yk,Yl,Ym,Yn,Yo,Yp,Yq,Yr,Ys,s45,s46,s47,s48,s49,s50,s51,s52,Zb,Zc,Zd],[]⟩ W') :
 Code.wp Tryz.prog (part Tryz.f81 [1,1,0,1,2,2,1,1,0,2,1,1,1,1,1,2,2,1,1,0,2,1]) Q ⟨#[Xa,Xb,Xc,.pointer (some ⟨w.heap.size,0,none⟩),Xe,Xf,Xg,.pointer (some ⟨g7,0,none⟩),Xi,Xj,Xk,Xl,Xm,Xn,Xo,Xp,Xq,Xr,Xs,Xt,Xu,Xv,Xw,Xx,Xy,Xz,Ya,Yb,Yc,Yd,Ye,Yf,Yg,Yh,Yi,Yj,Yk,Yl,Ym,Yn,Yo,Yp,Yq,Yr,Ys,Yt,Yu,Yv,Yw,Yx,Yy,Yz,Za,Zb,Zc,Zd],[]⟩ W:=by
 conv=>arg 2;whnf
 have HQ:=Lib.hid hQ
 have HS:=Lib.hid hs
 have HL:=Lib.hid hl
 have HT:=Lib.hid h
 have HTB:=Lib.hid ht
 have HD:=Lib.hid ((Below.refl W.heap.size W).drew)
 have HC:Hid (∀ V:World,Blk V g7 57 #[.string p.1,.string p.2]→V.cell? ⟨g7,0,none⟩=some (.string p.1)∧V.cell? ⟨g7,1,none⟩=some (.string p.2)):=Lib.hid (fun V hV=>⟨hV.cell 0,hV.cell 1⟩)
 have H0:W.drew.cell? ⟨g7,0,none⟩=some (.string p.1)∧W.drew.cell? ⟨g7,1,none⟩=some (.string p.2):=HC.out _ (hbl.below HD.out hbl.lt)
 have HBL:=Lib.hid (And.intro hbl hne)
 have d1:=quote_size T p.1
 have d2:=quote_size T p.2
 have hc1:¬ 9223372036854775807 < (strOfNums (Lib.quoteZ T p.fst)).size + (strOfNums (Lib.quoteZ T p.snd)).size:=by omega
 clear hQ hs hl h ht hbl hne d1 d2
 refine wp_region_noPanic ?_
 refine wp_region_held_drew (S:=(fun V:World=>V.cell? ⟨g7,0,none⟩=some (.string p.1)∧V.cell? ⟨g7,1,none⟩=some (.string p.2))) (by kernel_rfl) ?_ (fun hHeld0=>?_)
 · exact H0
 refine tk (i:=0) (v:=?_) rfl (Or.inl ⟨by rfl,?_⟩) hHeld0 ?_
 rotate_left
 · (intro w hSw;(try dsimp only at hSw);go_simp <;> with_reducible rfl)
 try simp only [Act.put,zD,zE,zF]
 refine tk (i:=1) (v:=?_) rfl (Or.inl ⟨by rfl,?_⟩) hHeld0 ?_
 rotate_left
 · (intro w hSw;(try dsimp only at hSw);go_simp <;> with_reducible rfl)
 try simp only [Act.put,zD,zE,zF]
 refine tk (i:=3) (v:=?_) rfl (Or.inl ⟨by rfl,?_⟩) hHeld0 ?_
 rotate_left
 · (intro w hSw;(try dsimp only at hSw);go_simp <;> with_reducible rfl)
 try simp only [Act.put,zD,zE,zF]
 refine tk (i:=4) (v:=?_) rfl (Or.inl ⟨by rfl,?_⟩) hHeld0 ?_
 rotate_left
 · (intro w hSw;(try dsimp only at hSw);go_simp <;> with_reducible rfl)
 try simp only [Act.put,zA,zB,zC,zD,zE,zF]
 refine wpAnyH_ready (rs:=[2]) (by kernel_rfl) (by simp) ?_
 refine AllReadyH.cons rfl (fun K hK=>?_) AllReadyH.nil
 go_simp
 with_reducible refine (lib_Quote T p.1 _ (by have:=HS.out;omega) (tabs_p (HTB.out.below HD.out)) (tabs_u (HTB.out.below HD.out))).mono ?_
 rintro e w1 ⟨rfl,b1⟩
 have hb1:=below_trans HD.out b1
 refine hK.out _ _ ?_ (fun hHeld1=>?_)
 · exact HC.out _ (HBL.out.1.below hb1 HBL.out.1.lt)
 clear hK K hHeld0
 try simp only [Act.put,zA,zB,zC,zD,zE,zF]
 refine wpAnyH_ready (rs:=[5]) (by kernel_rfl) (by simp) ?_
 refine AllReadyH.cons rfl (fun K hK=>?_) AllReadyH.nil
 go_simp
 with_reducible refine (lib_Quote T p.2 _ (by have:=HS.out;omega) (tabs_p (HTB.out.below hb1)) (tabs_u (HTB.out.below hb1))).mono ?_
 rintro e w2 ⟨rfl,b2⟩
 have hb2:=below_trans hb1 b2
 refine hK.out _ _ ?_ (fun hHeld2=>?_)
 · exact HC.out _ (HBL.out.1.below hb2 HBL.out.1.lt)
 clear hK K hHeld1
 try simp only [Act.put,zD,zE,zF]
 refine tk (i:=6) (v:=?_) rfl (Or.inl ⟨by rfl,?_⟩) hHeld2 ?_
 rotate_left
 · (intro w hSw;(try dsimp only at hSw);go_simp <;> with_reducible rfl)
 try simp only [Act.put,zA,zB,zC,zD,zE,zF]
 refine wpAnyH_ready (rs:=[7]) (by kernel_rfl) (by simp) ?_
 refine AllReadyH.cons rfl (fun K hK=>?_) AllReadyH.nil
 go_simp
 with_reducible refine (tx_write (HT.out.below hb2) _ ?_).mono ?_
 · simp only [ByteArray.size_append]
   have d1:=quote_size T p.1
   have d2:=quote_size T p.2
   have:=HS.out
   have:=HL.out
   omega
 rintro e w9 ⟨rfl,h9,k9⟩
 refine hK.out _ _ ?_ (fun hHeld3=>?_)
 · exact HC.out _ (k9.blk (HBL.out.1.below hb2 HBL.out.1.lt) HBL.out.2 (by decide))
 clear hK K hHeld2
 try simp only [Act.put,zA,zB,zC,zD,zE,zF]
 refine wpAnyH_done (by kernel_rfl) ?_ _
 have e4:l ++ pairX T p=l ++ (strOfNums (Lib.quoteZ T p.1) ++ strOfNums (Lib.quoteZ T p.2)).data.toList:=by unfold pairX;rw [bytes_app]
 rw [← e4] at h9
 exact NoPanic.normal (HQ.out _ _ _ _ _ _ _ _ w9 h9 ((KeepT.of_below hb2).trans k9))
end Go.Proofs.YtkgflepgkhnclaaGreatDoor
