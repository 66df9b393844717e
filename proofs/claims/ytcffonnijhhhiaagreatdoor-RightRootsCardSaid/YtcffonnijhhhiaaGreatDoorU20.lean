/- Part U20 of the proof: Sx Gl Co Aq. -/
import Derived.Shelf.Strconv.AtoiAll
import Derived.Shelf.LaysM
import Derived.Ground.NamesProg
import Derived.Test.YtcffonnijhhhiaaGreatDoorProg
import Derived.WalkKit
import Derived.WalkLawsBesides
import Derived.WalkSpells
import Derived.Handy
import Derived.Lib.Hide
import Derived.Great.BuildSlice
import Derived.Deep.QuietTactic
import Derived.BigQuiet
import Derived.Deep.RegionHeld3
import Derived.Deep.DeepCutAuto
import Derived.Lib.AtoiErrMem
import Derived.Test.YtcffonnijhhhiaaGreatDoorU19
import Derived.Test.YtcffonnijhhhiaaGreatDoorU15
set_option linter.all false
set_option linter.unusedSimpArgs false
set_option linter.unusedVariables false
set_option linter.unusedSectionVars false
namespace Go.Proofs
open Go.Shelf
def Tryz.laysC172_ren :Go.Shelf.Ren:=⟨fun|172=>93|244=>161|245=>162|247=>208|279=>209|280=>210|281=>211|282=>212|287=>251|316=>252|171=>86|205=>253|321=>285|322=>286|243=>157|246=>204|283=>243|284=>244|285=>245|286=>246|129=>239|317=>276|318=>277|319=>278|320=>279|337=>308|338=>309|n=>n,fun|9=>9|3=>3|75=>93|76=>94|4=>4|5=>5|167=>223|37=>179|0=>0|85=>224|2=>2|168=>226|53=>256|175=>267|46=>208|210=>271|127=>291|145=>294|143=>292|21=>21|171=>260|173=>262|212=>287|51=>254|20=>20|213=>288|232=>332|233=>333|80=>338|n=>n,fun|15=>0|16=>1|17=>2|18=>6|19=>7|n=>n⟩
theorem Tryz.laysC172 :Go.Proofs.LaysC.n172 Tryz.prog Tryz.laysC172_ren:= {
 mixed:=by kernel_rfl
 f129:=Tryz.func239.trans (congrArg some (by kernel_rfl))
 f171:=Tryz.func86.trans (congrArg some (by kernel_rfl))
 f172:=Tryz.func93.trans (congrArg some (by kernel_rfl))
 f205:=Tryz.func253.trans (congrArg some (by kernel_rfl))
 f243:=Tryz.func157.trans (congrArg some (by kernel_rfl))
 f244:=Tryz.func161.trans (congrArg some (by kernel_rfl))
 f245:=Tryz.func162.trans (congrArg some (by kernel_rfl))
 f246:=Tryz.func204.trans (congrArg some (by kernel_rfl))
 f247:=Tryz.func208.trans (congrArg some (by kernel_rfl))
 f279:=Tryz.func209.trans (congrArg some (by kernel_rfl))
 f280:=Tryz.func210.trans (congrArg some (by kernel_rfl))
 f281:=Tryz.func211.trans (congrArg some (by kernel_rfl))
 f282:=Tryz.func212.trans (congrArg some (by kernel_rfl))
 f283:=Tryz.func243.trans (congrArg some (by kernel_rfl))
 f284:=Tryz.func244.trans (congrArg some (by kernel_rfl))
 f285:=Tryz.func245.trans (congrArg some (by kernel_rfl))
 f286:=Tryz.func246.trans (congrArg some (by kernel_rfl))
 f287:=Tryz.func251.trans (congrArg some (by kernel_rfl))
 f316:=Tryz.func252.trans (congrArg some (by kernel_rfl))
 f317:=Tryz.func276.trans (congrArg some (by kernel_rfl))
 f318:=Tryz.func277.trans (congrArg some (by kernel_rfl))
 f319:=Tryz.func278.trans (congrArg some (by kernel_rfl))
 f320:=Tryz.func279.trans (congrArg some (by kernel_rfl))
 f321:=Tryz.func285.trans (congrArg some (by kernel_rfl))
 f322:=Tryz.func286.trans (congrArg some (by kernel_rfl))
 f337:=Tryz.func308.trans (congrArg some (by kernel_rfl))
 f338:=Tryz.func309.trans (congrArg some (by kernel_rfl))
 t0:=Tryz.underlying0
 a0:=Tryz.isAgg0
 z0:=Tryz.sizeOf0
 v0:=Tryz.zeroValue0
 t2:=Tryz.underlying2
 a2:=Tryz.isAgg2
 z2:=Tryz.sizeOf2
 v2:=Tryz.zeroValue2
 t3:=Tryz.underlying3
 a3:=Tryz.isAgg3
 z3:=Tryz.sizeOf3
 v3:=Tryz.zeroValue3
 t4:=Tryz.underlying4
 a4:=Tryz.isAgg4
 z4:=Tryz.sizeOf4
 v4:=Tryz.zeroValue4
 t5:=Tryz.underlying5
 a5:=Tryz.isAgg5
 z5:=Tryz.sizeOf5
 v5:=Tryz.zeroValue5
 t9:=Tryz.underlying9
 a9:=Tryz.isAgg9
 z9:=Tryz.sizeOf9
 v9:=Tryz.zeroValue9
 t20:=Tryz.underlying20
 a20:=Tryz.isAgg20
 z20:=Tryz.sizeOf20
 v20:=Tryz.zeroValue20
 t21:=Tryz.underlying21
 a21:=Tryz.isAgg21
 z21:=Tryz.sizeOf21
 v21:=Tryz.zeroValue21
 t37:=Tryz.underlying179
 a37:=Tryz.isAgg179
 z37:=Tryz.sizeOf179
 v37:=Tryz.zeroValue179
 t46:=Tryz.underlying208
 a46:=Tryz.isAgg208
 z46:=Tryz.sizeOf208
 v46:=Tryz.zeroValue208
 t51:=Tryz.underlying254
 a51:=Tryz.isAgg254
 z51:=Tryz.sizeOf254
 v51:=Tryz.zeroValue254
 t53:=Tryz.underlying256
 a53:=Tryz.isAgg256
 z53:=Tryz.sizeOf256
 v53:=Tryz.zeroValue256
 t75:=Tryz.underlying93
 a75:=Tryz.isAgg93
 z75:=Tryz.sizeOf93
 v75:=Tryz.zeroValue93
 t76:=Tryz.underlying94
 a76:=Tryz.isAgg94
 z76:=Tryz.sizeOf94
 v76:=Tryz.zeroValue94
 t85:=Tryz.underlying224
 a85:=Tryz.isAgg224
 z85:=Tryz.sizeOf224
 v85:=Tryz.zeroValue224
 t127:=Tryz.underlying291
 a127:=Tryz.isAgg291
 z127:=Tryz.sizeOf291
 v127:=Tryz.zeroValue291
 t143:=Tryz.underlying292
 a143:=Tryz.isAgg292
 z143:=Tryz.sizeOf292
 v143:=Tryz.zeroValue292
 t145:=Tryz.underlying294
 a145:=Tryz.isAgg294
 z145:=Tryz.sizeOf294
 v145:=Tryz.zeroValue294
 t167:=Tryz.underlying223
 a167:=Tryz.isAgg223
 z167:=Tryz.sizeOf223
 v167:=Tryz.zeroValue223
 t168:=Tryz.underlying226
 a168:=Tryz.isAgg226
 z168:=Tryz.sizeOf226
 v168:=Tryz.zeroValue226
 t171:=Tryz.underlying260
 a171:=Tryz.isAgg260
 z171:=Tryz.sizeOf260
 v171:=Tryz.zeroValue260
 t173:=Tryz.underlying262
 a173:=Tryz.isAgg262
 z173:=Tryz.sizeOf262
 v173:=Tryz.zeroValue262
 t175:=Tryz.underlying267
 a175:=Tryz.isAgg267
 z175:=Tryz.sizeOf267
 v175:=Tryz.zeroValue267
 t210:=Tryz.underlying271
 a210:=Tryz.isAgg271
 z210:=Tryz.sizeOf271
 v210:=Tryz.zeroValue271
 t212:=Tryz.underlying287
 a212:=Tryz.isAgg287
 z212:=Tryz.sizeOf287
 v212:=Tryz.zeroValue287
 t213:=Tryz.underlying288
 a213:=Tryz.isAgg288
 z213:=Tryz.sizeOf288
 t232:=Tryz.underlying332
 a232:=Tryz.isAgg332
 z232:=Tryz.sizeOf332
 v232:=Tryz.zeroValue332
 t233:=Tryz.underlying333
 a233:=Tryz.isAgg333
 z233:=Tryz.sizeOf333
 v233:=Tryz.zeroValue333
 g15:=by kernel_rfl
 g16:=by kernel_rfl
 g17:=by kernel_rfl
 g18:=by kernel_rfl
 g19:=by kernel_rfl
 t80:=Tryz.underlying338
 a80:=Tryz.isAgg338
 z80:=Tryz.sizeOf338
 v80:=Tryz.zeroValue338
 i0:=by kernel_rfl
 i2:=by kernel_rfl
 i3:=by kernel_rfl
 i4:=by kernel_rfl
 i5:=by kernel_rfl
 i9:=by kernel_rfl
 i20:=by kernel_rfl
 i21:=by kernel_rfl
 i37:=by kernel_rfl
 i46:=by kernel_rfl
 i51:=by kernel_rfl
 i53:=by kernel_rfl
 i75:=by kernel_rfl
 i76:=by kernel_rfl
 i80:=by kernel_rfl
 i85:=by kernel_rfl
 i127:=by kernel_rfl
 i143:=by kernel_rfl
 i145:=by kernel_rfl
 i167:=by kernel_rfl
 i168:=by kernel_rfl
 i171:=by kernel_rfl
 i173:=by kernel_rfl
 i175:=by kernel_rfl
 i210:=by kernel_rfl
 i212:=by kernel_rfl
 i232:=by kernel_rfl
 i233:=by kernel_rfl
 m15:=by kernel_rfl
 m16:=by kernel_rfl
 m17:=by kernel_rfl
 m18:=by kernel_rfl
 m19:=by kernel_rfl
 c0:=by kernel_rfl
 c2:=by kernel_rfl
 c3:=by kernel_rfl
 c4:=by kernel_rfl
 c5:=by kernel_rfl
 c9:=by kernel_rfl
 c20:=by kernel_rfl
 c21:=by kernel_rfl
 c37:=by kernel_rfl
 c46:=by kernel_rfl
 c51:=by kernel_rfl
 c53:=by kernel_rfl
 c75:=by kernel_rfl
 c76:=by kernel_rfl
 c80:=by kernel_rfl
 c85:=by kernel_rfl
 c127:=by kernel_rfl
 c143:=by kernel_rfl
 c145:=by kernel_rfl
 c167:=by kernel_rfl
 c168:=by kernel_rfl
 c171:=by kernel_rfl
 c173:=by kernel_rfl
 c175:=by kernel_rfl
 c210:=by kernel_rfl
 c212:=by kernel_rfl
 c213:=by kernel_rfl
 c232:=by kernel_rfl
 c233:=by kernel_rfl}
open Go.RowKit in
theorem Tryz.strconv_Atoi_ok (s:ByteArray)(hmax:s.size≤9223372036854775806)(v:Int)(h:Lib.atoiAll s.data.toList=.ok v)(w:World):
  Calls Tryz.prog 93 #[.string s] w fun e w'=>e=.returned (.tuple #[.int .i64 v,.nilIface])∧(w'=w∨ ∃t,w'=Lib.bytesWorld w 5 t):=Any.strconv_Atoi_ok Tryz.laysC172 s hmax v h w
open Go.RowKit in
theorem Tryz.strconv_Atoi_syntax (s:ByteArray)(hlim:s.size≤281474976710656)(h:Lib.atoiAll s.data.toList=.syntax)(ev:Value)(w:World)(hv:w.cell? ⟨0,0,none⟩=some ev)(hev:ev=.nilIface∨ ∃te pe,ev=.iface te pe):
  Calls Tryz.prog 93 #[.string s] w fun e w'=> ∃N,e=.returned (.tuple #[.int .i64 (0),.iface 226 (.pointer (some ⟨N,0,none⟩))])∧w.heap.size≤N∧w'.heap[N]?=some (.cells #[.string ⟨#[65,116,111,105]⟩,.string s,ev] 271 (0,0))∧Below w.heap.size w w':=Any.strconv_Atoi_syntax Tryz.laysC172 s hlim h ev w hv hev
open Go.RowKit in
theorem Tryz.strconv_Atoi_range (s:ByteArray)(hlim:s.size≤281474976710656)(h:Lib.atoiAll s.data.toList=.range)(ev:Value)(w:World)(hv:w.cell? ⟨1,0,none⟩=some ev)(hev:ev=.nilIface∨ ∃te pe,ev=.iface te pe):
  Calls Tryz.prog 93 #[.string s] w fun e w'=> ∃N,e=.returned (.tuple #[.int .i64 (Lib.atoiSat s.data.toList),.iface 226 (.pointer (some ⟨N,0,none⟩))])∧w.heap.size≤N∧w'.heap[N]?=some (.cells #[.string ⟨#[65,116,111,105]⟩,.string s,ev] 271 (0,0))∧Below w.heap.size w w':=Any.strconv_Atoi_range Tryz.laysC172 s hlim h ev w hv hev
end Go.Proofs
namespace Go.Proofs.YtcffonnijhhhiaaGreatDoor
open Go Go.RowKit
structure Env (w:World):Prop where
 tab:Lib.TabIs Tryz.prog w "internal/strconv.uint64pow10" .u64 Lib.pow10Tab
 maxLen: ∃m:Int,w.cell? ⟨3,0,none⟩=some (.int .i64 m)
 syn: ∃te pe,w.cell? ⟨0,0,none⟩=some (.iface te pe)
 rng: ∃te pe,w.cell? ⟨1,0,none⟩=some (.iface te pe)
 size:4≤w.heap.size
theorem Env.below {w w':World}{B:Nat}(h:Env w)(hb:Below B w w')(hB:4≤B):Env w':=by
 obtain⟨h1,⟨m,h2⟩,⟨te,pe,h3⟩,⟨tf,pf,h4⟩,h5⟩:=h
 exact⟨var?_below hb (g:=2) (by kernel_rfl) (by omega) h1,⟨m,(hb.cell (p:=⟨3,0,none⟩) (show 3<B by omega)).trans h2⟩,⟨te,pe,(hb.cell (p:=⟨0,0,none⟩) (show 0<B by omega)).trans h3⟩,
  ⟨tf,pf,(hb.cell (p:=⟨1,0,none⟩) (show 1<B by omega)).trans h4⟩,Nat.le_trans h5 hb.size⟩
theorem Env.up {w w':World}(h:Env w)(hb:Below w.heap.size w w'):Env w':=h.below hb h.size
theorem below_grow (w:World)(k:Nat)(os:Array Obj):Below w.heap.size w (Sort.grow (w.drewN k) os):=
 ⟨rfl,rfl,rfl,by simp[Sort.grow,World.drewN],fun i hi=>by
  show(w.heap++os)[i]?=_
  rw[Array.getElem?_append_left hi]⟩
theorem itoa_a (n:Int)(w:World)(hE:Env w)(h0: -9223372036854775808≤n)(h1:n≤9223372036854775807):
  Calls Tryz.prog 86 #[.int .i64 n] w fun e w'=>e=.returned (.string ⟨(Lib.itoa n).toArray⟩)∧Below w.heap.size w w':=
 (Tryz.strconv_Itoa n h0 h1 w hE.tab).mono fun _ _ ⟨he,k,os,hw⟩=>⟨he,by rw[hw];exact below_grow w k os⟩
def AtoiEnd (l:List UInt8)(n:Int)(ev:Value):Prop:=(Lib.atoiAll l=.ok n∧ev=.nilIface)∨((∀v,Lib.atoiAll l≠ .ok v)∧ ∃t p,ev=.iface t p)
theorem atoi_a (s:ByteArray)(hs:s.size≤281474976710656)(w:World)(hE:Env w):
  Calls Tryz.prog 93 #[.string s] w fun e w'=> ∃n ev,e=.returned (.tuple #[.int .i64 n,ev])∧AtoiEnd s.data.toList n ev∧Below w.heap.size w w':=by
 obtain⟨_,_,⟨te,pe,h3⟩,⟨tf,pf,h4⟩,_⟩:=hE
 rcases h:Lib.atoiAll s.data.toList with v|_|_
 ·refine(Tryz.strconv_Atoi_ok s (by omega) v h w).mono ?_
  rintro e w' ⟨rfl,rfl|⟨t,rfl⟩⟩
  ·exact⟨v,_,rfl,.inl ⟨h,rfl⟩,Below.refl _ _⟩
  ·exact⟨v,_,rfl,.inl ⟨h,rfl⟩,Lib.bytesWorld_below _ _ _⟩
 ·refine(Tryz.strconv_Atoi_syntax s hs h _ w h3 (.inr ⟨te,pe,rfl⟩)).mono ?_
  rintro e w' ⟨N,rfl,_,_,hb⟩
  exact⟨_,_,rfl,.inr ⟨fun v hv=>(by rw[h]at hv;cases hv),_,_,rfl⟩,hb⟩
 ·refine(Tryz.strconv_Atoi_range s hs h _ w h4 (.inr ⟨tf,pf,rfl⟩)).mono ?_
  rintro e w' ⟨N,rfl,_,_,hb⟩
  exact⟨_,_,rfl,.inr ⟨fun v hv=>(by rw[h]at hv;cases hv),_,_,rfl⟩,hb⟩
end Go.Proofs.YtcffonnijhhhiaaGreatDoor
namespace Go.Proofs.YtcffonnijhhhiaaGreatDoor
open Go Go.RowKit Go.Maps Mp
def OwnD (w:World)(A:Option Addr)(M:List Dp):Prop:=(∀a',A=some a'→ ∃cs,w.heap[a'.block]?=some (.cells cs 24 (0,0)))∧ ∀q∈M,∀a',A=some a'→Far a'.block q.A1 q.x.into∧Far a'.block q.A2 q.x.sizes
set_option maxRecDepth 100000 in
set_option maxHeartbeats 4000000 in
theorem copied_a (A:Option Addr)(c:Nat)(L:List Dp)(w:World)(h:Dls w w.heap.size A L)(hm:L.length≤1000000):
  Calls Tryz.prog 104 #[.slice A L.length c] w fun e w'=> ∃A' c' M,e=.returned (.slice A' L.length c')∧Dls w' w'.heap.size A' M∧dls M=dls L∧M.length=L.length∧L.length≤c'∧From w.heap.size A'∧
   (∀p∈M,From w.heap.size p.A1∧From w.heap.size p.A2)∧Below w.heap.size w w'∧OwnD w' A' M:=by
 have hcl:=cloneD_a A c L w h hm
 go_enter Tryz.func104,Tryz.ntmps104
 go_wp2_with fail
 refine hcl.mono ?_
 have H:=Lib.hid h
 clear hcl h
 rintro e w1 ⟨A',c',rfl,h1,hc1,hf1,b1,hk1,_⟩
 go_wp2
 go_loopw [9] (fun i wr=> ∃(j:Nat) (M:List Dp),j≤L.length∧i=.int .i64 j∧M.length=L.length∧Hid (dls M=dls L)∧Dls wr wr.heap.size A' M∧Hid (∀a',A'=some a'→ ∃cs,wr.heap[a'.block]?=some (.cells cs 24 (0,0)))∧
   Hid (∀(k:Nat) (p:Dp),k<j→M[k]?=some p→From w.heap.size p.A1∧From w.heap.size p.A2)∧Hid (∀q∈M,∀a',A'=some a'→Far a'.block q.A1 q.x.into∧Far a'.block q.A2 q.x.sizes)∧Below w.heap.size w wr) (fun i _=>L.length-(intOf i).toNat)
 case atStart=>exact⟨0,L,by omega,rfl,rfl,Lib.hid rfl,h1,Lib.hid hk1,Lib.hid (fun k p hk=>by omega),Lib.hid (fun q hq a' ha'=>⟨far_low (H.out.each q hq).1.into (hf1 a' ha'),far_low (H.out.each q hq).1.sizes (hf1 a' ha')⟩),b1⟩
 case round=>
  obtain⟨j,M,hj,rfl,hML,HM,hD,HK,HF,HFar,hb⟩:=hrel
  by_cases hlt:j<L.length
  ·have hjM:j<M.length:=by omega
   obtain⟨g,off,hA,hg,hc⟩:=hD.seg.at_ hjM
   obtain⟨p,hp⟩: ∃p,M[j]=p:=⟨_,rfl⟩
   rw[hp]at hc
   obtain⟨hds,hcp1,hcp2⟩:=hD.each p (hp▸List.getElem_mem hjM)
   have q9:wr.cell? ⟨g,off+j*11+9,none⟩=some (.slice p.A1 p.x.into.length p.c1):=hc 9 _ rfl
   have q10:wr.cell? ⟨g,off+j*11+10,none⟩=some (.slice p.A2 p.x.sizes.length p.c2):=hc 10 _ rfl
   obtain⟨cs,hblk⟩:=HK.out _ hA
   have hgw:w.heap.size≤g:=hf1 _ hA
   obtain⟨V0,hV0⟩: ∃V:World,V=wr.drew:=⟨_,rfl⟩
   have bd0:Below wr.heap.size wr V0:=by rw[hV0];exact below_drew (Below.refl _ _)
   have p9:V0.cell? ⟨g,off+j*11+9,none⟩=some (.slice p.A1 p.x.into.length p.c1):=by rw[hV0];exact q9
   have p10:V0.cell? ⟨g,off+j*11+10,none⟩=some (.slice p.A2 p.x.sizes.length p.c2):=by rw[hV0];exact q10
   have hds0:=hds.up bd0
   have hcl1:=cloneI_a p.A1 p.c1 p.x.into V0 hds0.into (by have:=hds.li;omega)
   have HV0:=Lib.hid hV0
   have HD:=Lib.hid hD
   have HDS:=Lib.hid hds
   have HC2:=Lib.hid (show ∀W,Below V0.heap.size V0 W→Calls Tryz.prog 94 #[.slice p.A2 p.x.sizes.length p.c2] W fun e w'=> ∃A' c',e=.returned (.slice A' p.x.sizes.length c')∧Ints w' w'.heap.size A' p.x.sizes∧p.x.sizes.length≤c'∧From W.heap.size A'∧Below W.heap.size W w' from
    fun W hW=>cloneI_a p.A2 p.c2 p.x.sizes W (hds0.up hW).sizes (by have:=hds.ls;omega))
   have hgV:g<V0.heap.size:=Nat.lt_of_lt_of_le hg bd0.size
   have hAe:=hA
   subst hA
   clear hV0 hD hds hds0 q9 q10 hc
   go_wp2
   refine wp_region_held_drew (S:=fun _=>True) (by kernel_rfl) trivial (fun hHeld=> ?_)
   rw[←HV0.out]
   refine takeH 0 (some 12) (v:= ?v1) rfl rfl (by kernel_rfl) (by kernel_rfl) (by kernel_rfl) (fun _ _ _ h=>h) (Or.inl ⟨by rfl,fun W hW=> ?hy1⟩) (by assumption) ?hr1
   case hy1=>(try dsimp only at hW);go_simp;try with_reducible rfl
   try simp only[Act.put,List.setIfInBounds_toArray,List.set_cons_zero,List.set_cons_succ]
   refine takeH 1 (some 13) (v:= ?v2) rfl rfl (by kernel_rfl) (by kernel_rfl) (by kernel_rfl) (fun _ _ _ h=>h) (Or.inl ⟨by rfl,fun W hW=> ?hy2⟩) (by assumption) ?hr2
   case hy2=>(try dsimp only at hW);go_simp;try with_reducible rfl
   try simp only[Act.put,List.setIfInBounds_toArray,List.set_cons_zero,List.set_cons_succ]
   refine takeH 2 (some 14) (v:= ?v3) rfl rfl (by kernel_rfl) (by kernel_rfl) (by kernel_rfl) (fun _ _ _ h=>h) (Or.inl ⟨by rfl,fun W hW=> ?hy3⟩) (by assumption) ?hr3
   case hy3=>(try dsimp only at hW);go_simp;try with_reducible rfl
   try simp only[Act.put,List.setIfInBounds_toArray,List.set_cons_zero,List.set_cons_succ]
   refine takeH 3 (some 15) (v:= ?v4) rfl rfl (by kernel_rfl) (by kernel_rfl) (by kernel_rfl) (fun _ _ _ h=>h) (Or.inl ⟨by rfl,fun W hW=> ?hy4⟩) (by assumption) ?hr4
   case hy4=>(try dsimp only at hW);go_simp;try with_reducible rfl
   try simp only[Act.put,List.setIfInBounds_toArray,List.set_cons_zero,List.set_cons_succ]
   refine takeH 4 (some 16) (v:= ?v5) rfl rfl (by kernel_rfl) (by kernel_rfl) (by kernel_rfl) (fun _ _ _ h=>h) (Or.inl ⟨by rfl,fun W hW=> ?hy5⟩) (by assumption) ?hr5
   case hy5=>(try dsimp only at hW);go_simp;try with_reducible rfl
   try simp only[Act.put,List.setIfInBounds_toArray,List.set_cons_zero,List.set_cons_succ]
   refine takeH 5 (some 17) (v:= ?v6) rfl rfl (by kernel_rfl) (by kernel_rfl) (by kernel_rfl) (fun _ _ _ h=>h) (Or.inl ⟨by rfl,fun W hW=> ?hy6⟩) (by assumption) ?hr6
   case hy6=>(try dsimp only at hW);go_simp;try with_reducible rfl
   try simp only[Act.put,List.setIfInBounds_toArray,List.set_cons_zero,List.set_cons_succ]
   refine takeH 6 (some 18) (v:= ?v7) rfl rfl (by kernel_rfl) (by kernel_rfl) (by kernel_rfl) (fun _ _ _ h=>h) (Or.inl ⟨by rfl,fun W hW=> ?hy7⟩) (by assumption) ?hr7
   case hy7=>(try dsimp only at hW);go_simp;try with_reducible rfl
   try simp only[Act.put,List.setIfInBounds_toArray,List.set_cons_zero,List.set_cons_succ]
   refine takeH 7 (some 19) (v:= ?v8) rfl rfl (by kernel_rfl) (by kernel_rfl) (by kernel_rfl) (fun _ _ _ h=>h) (Or.inl ⟨by rfl,fun W hW=> ?hy8⟩) (by assumption) ?hr8
   case hy8=>(try dsimp only at hW);go_simp;try with_reducible rfl
   try simp only[Act.put,List.setIfInBounds_toArray,List.set_cons_zero,List.set_cons_succ]
   refine takeH 10 (some 22) (v:= ?v9) rfl rfl (by kernel_rfl) (by kernel_rfl) (by kernel_rfl) (fun _ _ _ h=>h) (Or.inl ⟨by rfl,fun W hW=> ?hy9⟩) (by assumption) ?hr9
   case hy9=>(try dsimp only at hW);go_simp;try with_reducible rfl
   try simp only[Act.put,List.setIfInBounds_toArray,List.set_cons_zero,List.set_cons_succ]
   refine takeH 11 (some 23) (v:= ?v10) rfl rfl (by kernel_rfl) (by kernel_rfl) (by kernel_rfl) (fun _ _ _ h=>h) (Or.inl ⟨by rfl,fun W hW=> ?hy10⟩) (by assumption) ?hr10
   case hy10=>(try dsimp only at hW);go_simp;try with_reducible rfl
   try simp only[Act.put,List.setIfInBounds_toArray,List.set_cons_zero,List.set_cons_succ]
   refine takeH 12 (some 24) (v:= ?v11) rfl rfl (by kernel_rfl) (by kernel_rfl) (by kernel_rfl) (fun _ _ _ h=>h) (Or.inl ⟨by rfl,fun W hW=> ?hy11⟩) (by assumption) ?hr11
   case hy11=>(try dsimp only at hW);go_simp;try with_reducible rfl
   try simp only[Act.put,List.setIfInBounds_toArray,List.set_cons_zero,List.set_cons_succ]
   refine takeH 13 (some 25) (v:= ?v12) rfl rfl (by kernel_rfl) (by kernel_rfl) (by kernel_rfl) (fun _ _ _ h=>h) (Or.inl ⟨by rfl,fun W hW=> ?hy12⟩) (by assumption) ?hr12
   case hy12=>(try dsimp only at hW);go_simp;try with_reducible rfl
   try simp only[Act.put,List.setIfInBounds_toArray,List.set_cons_zero,List.set_cons_succ]
   refine wpAnyH_ready (rs:=[8,14]) (by kernel_rfl) (by simp) ?_
   refine readyH (some 20) rfl rfl (fun K hK=> ?_) (readyH (some 26) rfl rfl (fun K hK=> ?_) AllReadyH.nil)
   ·clear hHeld
    go_simp
    refine hK _ _ trivial (fun hHeld=> ?_)
    clear hK K
    try simp only[Act.put,List.setIfInBounds_toArray,List.set_cons_zero,List.set_cons_succ]
    refine wpAnyH_ready (rs:=[9,14]) (by kernel_rfl) (by simp) ?_
    refine readyH (some 21) rfl rfl (fun K hK=> ?_) (readyH (some 26) rfl rfl (fun K hK=> ?_) AllReadyH.nil)
    ·clear hHeld
     go_simp
     refine hcl1.mono ?_
     rintro e w5 ⟨A5,c5,rfl,hI5,hc5,hf5,b5⟩
     have p10':w5.cell? ⟨g,off+j*11+10,none⟩=some (.slice p.A2 p.x.sizes.length p.c2):=(b5.cell hgV).trans p10
     have hcl2:=HC2.out w5 b5
     refine hK _ _ trivial (fun hHeld=> ?_)
     clear hK K
     try simp only[Act.put,List.setIfInBounds_toArray,List.set_cons_zero,List.set_cons_succ]
     refine wpAnyH_ready (rs:=[14]) (by kernel_rfl) (by simp) ?_
     refine readyH (some 26) rfl rfl (fun K hK=> ?_) AllReadyH.nil
     go_simp
     refine hK _ _ trivial (fun hHeld=> ?_)
     clear hK K
     try simp only[Act.put,List.setIfInBounds_toArray,List.set_cons_zero,List.set_cons_succ]
     refine wpAnyH_ready (rs:=[15]) (by kernel_rfl) (by simp) ?_
     refine readyH (some 27) rfl rfl (fun K hK=> ?_) AllReadyH.nil
     go_simp
     refine hcl2.mono ?_
     rintro e w6 ⟨A6,c6,rfl,hI6,hc6,hf6,b6⟩
     have b06:Below V0.heap.size V0 w6:=b5.trans (b6.mono b5.size)
     have k6:w6.heap[g]?=some (.cells cs 24 (0,0)):=(b06.block g hgV).trans ((bd0.block g hg).trans hblk)
     have r9:w6.cell? ⟨g,off+j*11+9,none⟩=some (.slice p.A1 p.x.into.length p.c1):=(b06.cell hgV).trans p9
     have r10:w6.cell? ⟨g,off+j*11+10,none⟩=some (.slice p.A2 p.x.sizes.length p.c2):=(b06.cell hgV).trans p10
     have hfz:=(blk_cells k6).2
     refine hK _ _ trivial (fun hHeld=> ?_)
     clear hK K
     try simp only[Act.put,List.setIfInBounds_toArray,List.set_cons_zero,List.set_cons_succ]
     refine takeH 16 (some 28) (v:= ?v13) rfl rfl (by kernel_rfl) (by kernel_rfl) (by kernel_rfl) (fun _ _ _ h=>h) (Or.inl ⟨by rfl,fun W hW=> ?hy13⟩) (by assumption) ?hr13
     case hy13=>(try dsimp only at hW);go_simp;try with_reducible rfl
     try simp only[Act.put,List.setIfInBounds_toArray,List.set_cons_zero,List.set_cons_succ]
     refine takeH 17 (some 29) (v:= ?v14) rfl rfl (by kernel_rfl) (by kernel_rfl) (by kernel_rfl) (fun _ _ _ h=>h) (Or.inl ⟨by rfl,fun W hW=> ?hy14⟩) (by assumption) ?hr14
     case hy14=>(try dsimp only at hW);go_simp;try with_reducible rfl
     try simp only[Act.put,List.setIfInBounds_toArray,List.set_cons_zero,List.set_cons_succ]
     refine wpAnyH_ready (rs:=[18]) (by kernel_rfl) (by simp) ?_
     refine readyH none rfl rfl (fun K hK=> ?_) AllReadyH.nil
     go_simp
     obtain⟨V7,hV7⟩: ∃V:World,V=w6.setCell ⟨g,off+j*11+9,none⟩ (.slice A5 p.x.into.length c5):=⟨_,rfl⟩
     obtain⟨cs7,k7⟩: ∃cs7,V7.heap[g]?=some (.cells cs7 24 (0,0)):=⟨_,by rw[hV7];exact hsc (j:=off+j*11+9) _ k6⟩
     have s10:V7.cell? ⟨g,off+j*11+10,none⟩=some (.slice p.A2 p.x.sizes.length p.c2):=by rw[hV7];exact(World.cell?_setCell_other _ _ _ _ (by simp)).trans r10
     have hfz7:=(blk_cells k7).2
     have HV7:=Lib.hid hV7
     clear hV7 hfz
     rw[←HV7.out]
     refine hK _ _ trivial (fun hHeld=> ?_)
     clear hK K
     try simp only[Act.put,List.setIfInBounds_toArray,List.set_cons_zero,List.set_cons_succ]
     refine takeH 19 (some 30) (v:= ?v15) rfl rfl (by kernel_rfl) (by kernel_rfl) (by kernel_rfl) (fun _ _ _ h=>h) (Or.inl ⟨by rfl,fun W hW=> ?hy15⟩) (by assumption) ?hr15
     case hy15=>(try dsimp only at hW);go_simp;try with_reducible rfl
     try simp only[Act.put,List.setIfInBounds_toArray,List.set_cons_zero,List.set_cons_succ]
     refine takeH 20 (some 31) (v:= ?v16) rfl rfl (by kernel_rfl) (by kernel_rfl) (by kernel_rfl) (fun _ _ _ h=>h) (Or.inl ⟨by rfl,fun W hW=> ?hy16⟩) (by assumption) ?hr16
     case hy16=>(try dsimp only at hW);go_simp;try with_reducible rfl
     try simp only[Act.put,List.setIfInBounds_toArray,List.set_cons_zero,List.set_cons_succ]
     refine wpAnyH_ready (rs:=[21]) (by kernel_rfl) (by simp) ?_
     refine readyH none rfl rfl (fun K hK=> ?_) AllReadyH.nil
     go_simp
     refine hK _ _ trivial (fun hHeld=> ?_)
     clear hK K
     try simp only[Act.put,List.setIfInBounds_toArray,List.set_cons_zero,List.set_cons_succ]
     refine wpAnyH_done (by kernel_rfl) ?_ _
     go_wp2
     refine⟨?_,by first|(simp[intOf];done)|(simp[intOf];omega)⟩
     have bw6:=bd0.trans (b06.mono bd0.size)
     have hD6:=HD.out.up bw6
     have hs7:Seg encD 11 V7 w6.heap.size (some ⟨g,off,none⟩) (M.set j (p.into' A5 c5)):=by rw[HV7.out];exact seg_put hD6.seg hjM (by omega) (by rw[hp];exact enc_into p A5 c5)
     have hs8:=seg_put (p:=(p.into' A5 c5).sizes' A6 c6) (i:=10) (v:=.slice A6 p.x.sizes.length c6) (k:=j) hs7 (by simpa using hjM) (by omega) (by rw[List.getElem_set_self];exact enc_sizes _ A6 c6)
     rw[List.set_set]at hs8
     have z8:(V7.setCell ⟨g,off+j*11+10,none⟩ (.slice A6 p.x.sizes.length c6)).heap.size=w6.heap.size:=by rw[HV7.out];simp
     have hI5':Ints w6 w6.heap.size A5 p.x.into:=hI5.up b6
     have fr5:Far g A5 p.x.into:=far_high hf5 hgV
     have fr6:Far g A6 p.x.sizes:=far_high hf6 (Nat.lt_of_lt_of_le hgV b5.size)
     have g7:w6.grownBy V7 (some g):=by rw[HV7.out];exact gsc w6 ⟨g,_,none⟩ _
     have g8:=gsc V7 ⟨g,off+j*11+10,none⟩ (.slice A6 p.x.sizes.length c6)
     have y1:=hb.size
     have y2:=bw6.size
     have y3:=g7.size
     have y4:=bd0.size
     have y5:=b5.size
     refine⟨j+1,M.set j ((p.into' A5 c5).sizes' A6 c6),by omega,by simp,by simp[hML],Lib.hid ?_,⟨by rw[z8];exact hs8,fun q hq=> ?_⟩,Lib.hid ?_,Lib.hid ?_,Lib.hid ?_,?_⟩
     ·rw[←HM.out]
      show (M.set j _).map (·.x) = M.map (·.x)
      rw [List.map_set, show ((p.into' A5 c5).sizes' A6 c6).x = (M.map (·.x))[j]'(by simpa using hjM) from by simp [hp, Dp.into', Dp.sizes']]
      exact List.set_getElem_self _
     ·rw[z8]
      rcases List.mem_or_eq_of_mem_set hq with hq|rfl
      ·obtain⟨d,e1,e2⟩:=hD6.each q hq
       obtain⟨f1,f2⟩:=HFar.out q hq _ rfl
       exact⟨⟨by rw[HV7.out];exact seg_far (seg_far d.into f1) f1,by rw[HV7.out];exact seg_far (seg_far d.sizes f2) f2,d.li,d.ls⟩,e1,e2⟩
      ·exact⟨⟨by rw[HV7.out];exact seg_far (seg_far hI5' fr5) fr5,by rw[HV7.out];exact seg_far (seg_far hI6 fr6) fr6,HDS.out.li,HDS.out.ls⟩,hc5,hc6⟩
     ·intro a' ha'
      cases ha'
      exact⟨_,hsc (j:=off+j*11+10) _ k7⟩
     ·intro k q hk hq
      by_cases e:k=j
      ·subst e
       rw[List.getElem?_set_self hjM]at hq
       cases hq
       exact⟨fun a ha=>by have:=hf5 a ha;omega,fun a ha=>by have:=hf6 a ha;omega⟩
      ·rw[List.getElem?_set_ne (fun h=>e h.symm)]at hq
       exact HF.out k q (by omega) hq
     ·intro q hq a' ha'
      cases ha'
      rcases List.mem_or_eq_of_mem_set hq with hq|rfl
      ·exact HFar.out q hq _ rfl
      ·exact⟨fr5,fr6⟩
     ·exact((hb.trans (bw6.mono y1)).grown g7 (by omega) (by intro k e;cases e;exact hgw)).grown g8 (by omega) (by intro k e;cases e;exact hgw)
    ·clear hHeld
     go_simp
     refine hK _ _ trivial (fun hHeld=> ?_)
     clear hK K
     try simp only[Act.put,List.setIfInBounds_toArray,List.set_cons_zero,List.set_cons_succ]
     refine wpAnyH_ready (rs:=[9]) (by kernel_rfl) (by simp) ?_
     refine readyH (some 21) rfl rfl (fun K hK=> ?_) AllReadyH.nil
     go_simp
     refine hcl1.mono ?_
     rintro e w5 ⟨A5,c5,rfl,hI5,hc5,hf5,b5⟩
     have p10':w5.cell? ⟨g,off+j*11+10,none⟩=some (.slice p.A2 p.x.sizes.length p.c2):=(b5.cell hgV).trans p10
     have hcl2:=HC2.out w5 b5
     refine hK _ _ trivial (fun hHeld=> ?_)
     clear hK K
     try simp only[Act.put,List.setIfInBounds_toArray,List.set_cons_zero,List.set_cons_succ]
     refine wpAnyH_ready (rs:=[15]) (by kernel_rfl) (by simp) ?_
     refine readyH (some 27) rfl rfl (fun K hK=> ?_) AllReadyH.nil
     go_simp
     refine hcl2.mono ?_
     rintro e w6 ⟨A6,c6,rfl,hI6,hc6,hf6,b6⟩
     have b06:Below V0.heap.size V0 w6:=b5.trans (b6.mono b5.size)
     have k6:w6.heap[g]?=some (.cells cs 24 (0,0)):=(b06.block g hgV).trans ((bd0.block g hg).trans hblk)
     have r9:w6.cell? ⟨g,off+j*11+9,none⟩=some (.slice p.A1 p.x.into.length p.c1):=(b06.cell hgV).trans p9
     have r10:w6.cell? ⟨g,off+j*11+10,none⟩=some (.slice p.A2 p.x.sizes.length p.c2):=(b06.cell hgV).trans p10
     have hfz:=(blk_cells k6).2
     refine hK _ _ trivial (fun hHeld=> ?_)
     clear hK K
     try simp only[Act.put,List.setIfInBounds_toArray,List.set_cons_zero,List.set_cons_succ]
     refine takeH 16 (some 28) (v:= ?v17) rfl rfl (by kernel_rfl) (by kernel_rfl) (by kernel_rfl) (fun _ _ _ h=>h) (Or.inl ⟨by rfl,fun W hW=> ?hy17⟩) (by assumption) ?hr17
     case hy17=>(try dsimp only at hW);go_simp;try with_reducible rfl
     try simp only[Act.put,List.setIfInBounds_toArray,List.set_cons_zero,List.set_cons_succ]
     refine takeH 17 (some 29) (v:= ?v18) rfl rfl (by kernel_rfl) (by kernel_rfl) (by kernel_rfl) (fun _ _ _ h=>h) (Or.inl ⟨by rfl,fun W hW=> ?hy18⟩) (by assumption) ?hr18
     case hy18=>(try dsimp only at hW);go_simp;try with_reducible rfl
     try simp only[Act.put,List.setIfInBounds_toArray,List.set_cons_zero,List.set_cons_succ]
     refine wpAnyH_ready (rs:=[18]) (by kernel_rfl) (by simp) ?_
     refine readyH none rfl rfl (fun K hK=> ?_) AllReadyH.nil
     go_simp
     obtain⟨V7,hV7⟩: ∃V:World,V=w6.setCell ⟨g,off+j*11+9,none⟩ (.slice A5 p.x.into.length c5):=⟨_,rfl⟩
     obtain⟨cs7,k7⟩: ∃cs7,V7.heap[g]?=some (.cells cs7 24 (0,0)):=⟨_,by rw[hV7];exact hsc (j:=off+j*11+9) _ k6⟩
     have s10:V7.cell? ⟨g,off+j*11+10,none⟩=some (.slice p.A2 p.x.sizes.length p.c2):=by rw[hV7];exact(World.cell?_setCell_other _ _ _ _ (by simp)).trans r10
     have hfz7:=(blk_cells k7).2
     have HV7:=Lib.hid hV7
     clear hV7 hfz
     rw[←HV7.out]
     refine hK _ _ trivial (fun hHeld=> ?_)
     clear hK K
     try simp only[Act.put,List.setIfInBounds_toArray,List.set_cons_zero,List.set_cons_succ]
     refine takeH 19 (some 30) (v:= ?v19) rfl rfl (by kernel_rfl) (by kernel_rfl) (by kernel_rfl) (fun _ _ _ h=>h) (Or.inl ⟨by rfl,fun W hW=> ?hy19⟩) (by assumption) ?hr19
     case hy19=>(try dsimp only at hW);go_simp;try with_reducible rfl
     try simp only[Act.put,List.setIfInBounds_toArray,List.set_cons_zero,List.set_cons_succ]
     refine takeH 20 (some 31) (v:= ?v20) rfl rfl (by kernel_rfl) (by kernel_rfl) (by kernel_rfl) (fun _ _ _ h=>h) (Or.inl ⟨by rfl,fun W hW=> ?hy20⟩) (by assumption) ?hr20
     case hy20=>(try dsimp only at hW);go_simp;try with_reducible rfl
     try simp only[Act.put,List.setIfInBounds_toArray,List.set_cons_zero,List.set_cons_succ]
     refine wpAnyH_ready (rs:=[21]) (by kernel_rfl) (by simp) ?_
     refine readyH none rfl rfl (fun K hK=> ?_) AllReadyH.nil
     go_simp
     refine hK _ _ trivial (fun hHeld=> ?_)
     clear hK K
     try simp only[Act.put,List.setIfInBounds_toArray,List.set_cons_zero,List.set_cons_succ]
     refine wpAnyH_done (by kernel_rfl) ?_ _
     go_wp2
     refine⟨?_,by first|(simp[intOf];done)|(simp[intOf];omega)⟩
     have bw6:=bd0.trans (b06.mono bd0.size)
     have hD6:=HD.out.up bw6
     have hs7:Seg encD 11 V7 w6.heap.size (some ⟨g,off,none⟩) (M.set j (p.into' A5 c5)):=by rw[HV7.out];exact seg_put hD6.seg hjM (by omega) (by rw[hp];exact enc_into p A5 c5)
     have hs8:=seg_put (p:=(p.into' A5 c5).sizes' A6 c6) (i:=10) (v:=.slice A6 p.x.sizes.length c6) (k:=j) hs7 (by simpa using hjM) (by omega) (by rw[List.getElem_set_self];exact enc_sizes _ A6 c6)
     rw[List.set_set]at hs8
     have z8:(V7.setCell ⟨g,off+j*11+10,none⟩ (.slice A6 p.x.sizes.length c6)).heap.size=w6.heap.size:=by rw[HV7.out];simp
     have hI5':Ints w6 w6.heap.size A5 p.x.into:=hI5.up b6
     have fr5:Far g A5 p.x.into:=far_high hf5 hgV
     have fr6:Far g A6 p.x.sizes:=far_high hf6 (Nat.lt_of_lt_of_le hgV b5.size)
     have g7:w6.grownBy V7 (some g):=by rw[HV7.out];exact gsc w6 ⟨g,_,none⟩ _
     have g8:=gsc V7 ⟨g,off+j*11+10,none⟩ (.slice A6 p.x.sizes.length c6)
     have y1:=hb.size
     have y2:=bw6.size
     have y3:=g7.size
     have y4:=bd0.size
     have y5:=b5.size
     refine⟨j+1,M.set j ((p.into' A5 c5).sizes' A6 c6),by omega,by simp,by simp[hML],Lib.hid ?_,⟨by rw[z8];exact hs8,fun q hq=> ?_⟩,Lib.hid ?_,Lib.hid ?_,Lib.hid ?_,?_⟩
     ·rw[←HM.out]
      show (M.set j _).map (·.x) = M.map (·.x)
      rw [List.map_set, show ((p.into' A5 c5).sizes' A6 c6).x = (M.map (·.x))[j]'(by simpa using hjM) from by simp [hp, Dp.into', Dp.sizes']]
      exact List.set_getElem_self _
     ·rw[z8]
      rcases List.mem_or_eq_of_mem_set hq with hq|rfl
      ·obtain⟨d,e1,e2⟩:=hD6.each q hq
       obtain⟨f1,f2⟩:=HFar.out q hq _ rfl
       exact⟨⟨by rw[HV7.out];exact seg_far (seg_far d.into f1) f1,by rw[HV7.out];exact seg_far (seg_far d.sizes f2) f2,d.li,d.ls⟩,e1,e2⟩
      ·exact⟨⟨by rw[HV7.out];exact seg_far (seg_far hI5' fr5) fr5,by rw[HV7.out];exact seg_far (seg_far hI6 fr6) fr6,HDS.out.li,HDS.out.ls⟩,hc5,hc6⟩
     ·intro a' ha'
      cases ha'
      exact⟨_,hsc (j:=off+j*11+10) _ k7⟩
     ·intro k q hk hq
      by_cases e:k=j
      ·subst e
       rw[List.getElem?_set_self hjM]at hq
       cases hq
       exact⟨fun a ha=>by have:=hf5 a ha;omega,fun a ha=>by have:=hf6 a ha;omega⟩
      ·rw[List.getElem?_set_ne (fun h=>e h.symm)]at hq
       exact HF.out k q (by omega) hq
     ·intro q hq a' ha'
      cases ha'
      rcases List.mem_or_eq_of_mem_set hq with hq|rfl
      ·exact HFar.out q hq _ rfl
      ·exact⟨fr5,fr6⟩
     ·exact((hb.trans (bw6.mono y1)).grown g7 (by omega) (by intro k e;cases e;exact hgw)).grown g8 (by omega) (by intro k e;cases e;exact hgw)
   ·clear hHeld
    go_simp
    refine hK _ _ trivial (fun hHeld=> ?_)
    clear hK K
    try simp only[Act.put,List.setIfInBounds_toArray,List.set_cons_zero,List.set_cons_succ]
    refine wpAnyH_ready (rs:=[8]) (by kernel_rfl) (by simp) ?_
    refine readyH (some 20) rfl rfl (fun K hK=> ?_) AllReadyH.nil
    go_simp
    refine hK _ _ trivial (fun hHeld=> ?_)
    clear hK K
    try simp only[Act.put,List.setIfInBounds_toArray,List.set_cons_zero,List.set_cons_succ]
    refine wpAnyH_ready (rs:=[9]) (by kernel_rfl) (by simp) ?_
    refine readyH (some 21) rfl rfl (fun K hK=> ?_) AllReadyH.nil
    go_simp
    refine hcl1.mono ?_
    rintro e w5 ⟨A5,c5,rfl,hI5,hc5,hf5,b5⟩
    have p10':w5.cell? ⟨g,off+j*11+10,none⟩=some (.slice p.A2 p.x.sizes.length p.c2):=(b5.cell hgV).trans p10
    have hcl2:=HC2.out w5 b5
    refine hK _ _ trivial (fun hHeld=> ?_)
    clear hK K
    try simp only[Act.put,List.setIfInBounds_toArray,List.set_cons_zero,List.set_cons_succ]
    refine wpAnyH_ready (rs:=[15]) (by kernel_rfl) (by simp) ?_
    refine readyH (some 27) rfl rfl (fun K hK=> ?_) AllReadyH.nil
    go_simp
    refine hcl2.mono ?_
    rintro e w6 ⟨A6,c6,rfl,hI6,hc6,hf6,b6⟩
    have b06:Below V0.heap.size V0 w6:=b5.trans (b6.mono b5.size)
    have k6:w6.heap[g]?=some (.cells cs 24 (0,0)):=(b06.block g hgV).trans ((bd0.block g hg).trans hblk)
    have r9:w6.cell? ⟨g,off+j*11+9,none⟩=some (.slice p.A1 p.x.into.length p.c1):=(b06.cell hgV).trans p9
    have r10:w6.cell? ⟨g,off+j*11+10,none⟩=some (.slice p.A2 p.x.sizes.length p.c2):=(b06.cell hgV).trans p10
    have hfz:=(blk_cells k6).2
    refine hK _ _ trivial (fun hHeld=> ?_)
    clear hK K
    try simp only[Act.put,List.setIfInBounds_toArray,List.set_cons_zero,List.set_cons_succ]
    refine takeH 16 (some 28) (v:= ?v21) rfl rfl (by kernel_rfl) (by kernel_rfl) (by kernel_rfl) (fun _ _ _ h=>h) (Or.inl ⟨by rfl,fun W hW=> ?hy21⟩) (by assumption) ?hr21
    case hy21=>(try dsimp only at hW);go_simp;try with_reducible rfl
    try simp only[Act.put,List.setIfInBounds_toArray,List.set_cons_zero,List.set_cons_succ]
    refine takeH 17 (some 29) (v:= ?v22) rfl rfl (by kernel_rfl) (by kernel_rfl) (by kernel_rfl) (fun _ _ _ h=>h) (Or.inl ⟨by rfl,fun W hW=> ?hy22⟩) (by assumption) ?hr22
    case hy22=>(try dsimp only at hW);go_simp;try with_reducible rfl
    try simp only[Act.put,List.setIfInBounds_toArray,List.set_cons_zero,List.set_cons_succ]
    refine wpAnyH_ready (rs:=[18]) (by kernel_rfl) (by simp) ?_
    refine readyH none rfl rfl (fun K hK=> ?_) AllReadyH.nil
    go_simp
    obtain⟨V7,hV7⟩: ∃V:World,V=w6.setCell ⟨g,off+j*11+9,none⟩ (.slice A5 p.x.into.length c5):=⟨_,rfl⟩
    obtain⟨cs7,k7⟩: ∃cs7,V7.heap[g]?=some (.cells cs7 24 (0,0)):=⟨_,by rw[hV7];exact hsc (j:=off+j*11+9) _ k6⟩
    have s10:V7.cell? ⟨g,off+j*11+10,none⟩=some (.slice p.A2 p.x.sizes.length p.c2):=by rw[hV7];exact(World.cell?_setCell_other _ _ _ _ (by simp)).trans r10
    have hfz7:=(blk_cells k7).2
    have HV7:=Lib.hid hV7
    clear hV7 hfz
    rw[←HV7.out]
    refine hK _ _ trivial (fun hHeld=> ?_)
    clear hK K
    try simp only[Act.put,List.setIfInBounds_toArray,List.set_cons_zero,List.set_cons_succ]
    refine takeH 19 (some 30) (v:= ?v23) rfl rfl (by kernel_rfl) (by kernel_rfl) (by kernel_rfl) (fun _ _ _ h=>h) (Or.inl ⟨by rfl,fun W hW=> ?hy23⟩) (by assumption) ?hr23
    case hy23=>(try dsimp only at hW);go_simp;try with_reducible rfl
    try simp only[Act.put,List.setIfInBounds_toArray,List.set_cons_zero,List.set_cons_succ]
    refine takeH 20 (some 31) (v:= ?v24) rfl rfl (by kernel_rfl) (by kernel_rfl) (by kernel_rfl) (fun _ _ _ h=>h) (Or.inl ⟨by rfl,fun W hW=> ?hy24⟩) (by assumption) ?hr24
    case hy24=>(try dsimp only at hW);go_simp;try with_reducible rfl
    try simp only[Act.put,List.setIfInBounds_toArray,List.set_cons_zero,List.set_cons_succ]
    refine wpAnyH_ready (rs:=[21]) (by kernel_rfl) (by simp) ?_
    refine readyH none rfl rfl (fun K hK=> ?_) AllReadyH.nil
    go_simp
    refine hK _ _ trivial (fun hHeld=> ?_)
    clear hK K
    try simp only[Act.put,List.setIfInBounds_toArray,List.set_cons_zero,List.set_cons_succ]
    refine wpAnyH_done (by kernel_rfl) ?_ _
    go_wp2
    refine⟨?_,by first|(simp[intOf];done)|(simp[intOf];omega)⟩
    have bw6:=bd0.trans (b06.mono bd0.size)
    have hD6:=HD.out.up bw6
    have hs7:Seg encD 11 V7 w6.heap.size (some ⟨g,off,none⟩) (M.set j (p.into' A5 c5)):=by rw[HV7.out];exact seg_put hD6.seg hjM (by omega) (by rw[hp];exact enc_into p A5 c5)
    have hs8:=seg_put (p:=(p.into' A5 c5).sizes' A6 c6) (i:=10) (v:=.slice A6 p.x.sizes.length c6) (k:=j) hs7 (by simpa using hjM) (by omega) (by rw[List.getElem_set_self];exact enc_sizes _ A6 c6)
    rw[List.set_set]at hs8
    have z8:(V7.setCell ⟨g,off+j*11+10,none⟩ (.slice A6 p.x.sizes.length c6)).heap.size=w6.heap.size:=by rw[HV7.out];simp
    have hI5':Ints w6 w6.heap.size A5 p.x.into:=hI5.up b6
    have fr5:Far g A5 p.x.into:=far_high hf5 hgV
    have fr6:Far g A6 p.x.sizes:=far_high hf6 (Nat.lt_of_lt_of_le hgV b5.size)
    have g7:w6.grownBy V7 (some g):=by rw[HV7.out];exact gsc w6 ⟨g,_,none⟩ _
    have g8:=gsc V7 ⟨g,off+j*11+10,none⟩ (.slice A6 p.x.sizes.length c6)
    have y1:=hb.size
    have y2:=bw6.size
    have y3:=g7.size
    have y4:=bd0.size
    have y5:=b5.size
    refine⟨j+1,M.set j ((p.into' A5 c5).sizes' A6 c6),by omega,by simp,by simp[hML],Lib.hid ?_,⟨by rw[z8];exact hs8,fun q hq=> ?_⟩,Lib.hid ?_,Lib.hid ?_,Lib.hid ?_,?_⟩
    ·rw[←HM.out]
     show (M.set j _).map (·.x) = M.map (·.x)
     rw [List.map_set, show ((p.into' A5 c5).sizes' A6 c6).x = (M.map (·.x))[j]'(by simpa using hjM) from by simp [hp, Dp.into', Dp.sizes']]
     exact List.set_getElem_self _
    ·rw[z8]
     rcases List.mem_or_eq_of_mem_set hq with hq|rfl
     ·obtain⟨d,e1,e2⟩:=hD6.each q hq
      obtain⟨f1,f2⟩:=HFar.out q hq _ rfl
      exact⟨⟨by rw[HV7.out];exact seg_far (seg_far d.into f1) f1,by rw[HV7.out];exact seg_far (seg_far d.sizes f2) f2,d.li,d.ls⟩,e1,e2⟩
     ·exact⟨⟨by rw[HV7.out];exact seg_far (seg_far hI5' fr5) fr5,by rw[HV7.out];exact seg_far (seg_far hI6 fr6) fr6,HDS.out.li,HDS.out.ls⟩,hc5,hc6⟩
    ·intro a' ha'
     cases ha'
     exact⟨_,hsc (j:=off+j*11+10) _ k7⟩
    ·intro k q hk hq
     by_cases e:k=j
     ·subst e
      rw[List.getElem?_set_self hjM]at hq
      cases hq
      exact⟨fun a ha=>by have:=hf5 a ha;omega,fun a ha=>by have:=hf6 a ha;omega⟩
     ·rw[List.getElem?_set_ne (fun h=>e h.symm)]at hq
      exact HF.out k q (by omega) hq
    ·intro q hq a' ha'
     cases ha'
     rcases List.mem_or_eq_of_mem_set hq with hq|rfl
     ·exact HFar.out q hq _ rfl
     ·exact⟨fr5,fr6⟩
    ·exact((hb.trans (bw6.mono y1)).grown g7 (by omega) (by intro k e;cases e;exact hgw)).grown g8 (by omega) (by intro k e;cases e;exact hgw)
  ·obtain rfl:j=L.length:=by omega
   have HD:=Lib.hid hD
   clear hD
   go_wp2
   go_ret
   exact⟨A',c',M,rfl,HD.out,HM.out,hML,hc1,hf1,fun p hp=>by
    obtain⟨k,hk,rfl⟩:=List.getElem_of_mem hp
    exact HF.out k _ (by omega) (List.getElem?_eq_getElem hk),hb,HK.out,HFar.out⟩
end Go.Proofs.YtcffonnijhhhiaaGreatDoor
namespace Go.Proofs.YtcffonnijhhhiaaGreatDoor
open Go Go.RowKit Go.Maps Mp
section
variable {α : Type} {enc : α → List Value} {ST ET : TypeId} {z : Value} {size bytes : Nat}
theorem own_add (L:Lay enc ST ET z size bytes){n₀ b c:Nat}{W:World}{v:Value}{l r:List α}(hr:W.ownsRow n₀ ET size v l.length (l.flatMap enc))(hcell: ∀j u,(r.flatMap enc)[j]?=some u→W.cell? ⟨b,j,none⟩=some u)
  (hm:l.length+r.length≤1000001) (hb:bytes≤1000) (hn:n₀≤W.heap.size):
  ∃A' c' w2,(Builtin.append_ #[ST,ST] ST #[v,.slice (some ⟨b,0,none⟩) r.length c]).run Tryz.prog W=.ok (.slice A' (l.length+r.length) c') w2∧
   Seg enc size w2 w2.heap.size A' (l++r)∧l.length+r.length≤c'∧From n₀ A'∧Below n₀ W w2:=by
 obtain⟨i0,hi0,hz0,hz1,hz2⟩:=info_parts L.hi
 have hone: ∀u∈r.flatMap enc,u.oneCell'=true:=by
  intro u hu
  obtain⟨x,_,hx⟩:=List.mem_flatMap.1 hu
  exact L.hone x u hx
 obtain⟨v',w2,hrun,hown,hgrow,_,hob⟩:=run_append_own_at (P:=Tryz.prog) (w:=W) n₀ ST ST ET i0 _ size bytes L.ht hi0 hz0 hz1 hz2 L.hz L.hs v l.length (l.flatMap enc) hr ⟨b,0,none⟩ r.length c (r.flatMap enc)
  (flat_len enc size L.henc r) (fun j u hj=>by rw[Go.WideShapes.add_plain,Nat.zero_add];exact hcell j u hj) hone (by unfold maxLen;omega) (Nat.le_trans (Nat.mul_le_mul hm hb) (by decide)) hn
 rw[←List.flatMap_append,←List.length_append]at hown
 obtain⟨A',c',rfl,hs,hc',hf⟩:=own_seg L hown
 rw[List.length_append]at hrun hc'
 refine⟨A',c',w2,hrun,hs,hc',hf,(Below.refl n₀ W).grown hgrow hn fun j ej=>(hr.lt j ej).1⟩
end
end Go.Proofs.YtcffonnijhhhiaaGreatDoor
