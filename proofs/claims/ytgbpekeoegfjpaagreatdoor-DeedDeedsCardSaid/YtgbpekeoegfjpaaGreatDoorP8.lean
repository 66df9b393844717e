/- Pme, TA, TB, TC, TD, TE, TF in one text. -/
import Derived.WalkKit
import Derived.Test.YtgbpekeoegfjpaaGreatDoorProg
import Derived.WalkLawsBesides
import Derived.WalkSpells
import Derived.Handy
import Derived.Lib.Hide
import Derived.Great.BuildSlice
import Derived.Deep.QuietTactic
import Derived.BigQuiet
import Derived.Deep.RegionHeld3
import Derived.Deep.DeepCutAuto
import Derived.Laws.BytesArg
import Derived.Test.YtgbpekeoegfjpaaGreatDoorP7
import Derived.Test.YtgbpekeoegfjpaaGreatDoorP3x
import Derived.Test.YtgbpekeoegfjpaaGreatDoorZ05
namespace Go.Proofs.YtgbpekeoegfjpaaGreatDoor
namespace Pl
def measGo (out:List UInt8)(c:Int):List Unit->List UInt8
 | []=>out
 |u::us=>measGo (if c/u.1=0 then out else (if out=[]then []else out++[32])++(spelt (c/u.1)).data.toList++[32]++(word (c/u.1) u).data.toList) (c%u.1) us
theorem join_pair (x y:List UInt8)(r:List (List UInt8)):Lib.join (x::y::r) [32]=x++[32]++y++(if r=[]then []else 32::Lib.join r [32]):=by
 cases r with
 |nil=>rw[join_two,Lib.join_one];simp
 |cons z r=>rw[join_two,join_two];simp
theorem spelt_ne (k:Int):(spelt k).data.toList≠ []:=by
 unfold spelt Lib.itoa
 split
 ·simp
 ·simpa using dec_ne _
theorem measGo_eq : ∀(us:List Unit) (out:List UInt8) (c:Int),0<=c->(∀u∈us,1<=u.1)->
  measGo out c us=if namedL c us=[]then out else (if out=[]then []else out++[32])++Lib.join ((namedL c us).map (·.data.toList)) [32]
 | [],out,c,_,_=>by simp[measGo,namedL]
 | u::us,out,c,h0,hp=>by
  have g1:=hp u (by simp)
  have e2:0<=c%u.1:=Int.emod_nonneg _ (by omega)
  have e3:0<=c/u.1:=Int.ediv_nonneg h0 (by omega)
  unfold measGo
  rw[measGo_eq us _ _ e2 (fun v hv=>hp v (by simp[hv]))]
  by_cases hk:c/u.1=0
  ·rw[if_pos hk]
   have:namedL c (u::us)=namedL (c%u.1) us:=by simp[namedL,hk]
   rw[this]
  ·rw[if_neg hk]
   have hn:namedL c (u::us)=spelt (c/u.1)::word (c/u.1) u::namedL (c%u.1) us:=by
    simp only[namedL];rw[if_pos (by omega)];rfl
   rw[hn]
   have hne:(if out=[]then []else out++[32])++(spelt (c/u.1)).data.toList++[32]++(word (c/u.1) u).data.toList≠ []:=by simp
   rw[if_neg (List.cons_ne_nil _ _)]
   simp only[List.map_cons]
   rw[join_pair]
   by_cases hr:namedL (c%u.1) us=[]
   ·simp[hr]
   ·simp[hr]
theorem join_ne {x:List UInt8}{r:List (List UInt8)}(h:x≠ []):Lib.join (x::r) [32]≠ []:=by
 rw[Lib.join_cons];simp[h]
def measV (c:Int)(us:List Unit):List UInt8:=if measGo [] c us=[]then [48,32,108,105,110,107,115]else measGo [] c us
theorem measV_eq {us:List Unit} {c:Int} (h0:0<=c) (hp: ∀u∈us,1<=u.1) (hl:us.getLast?.map (·.2.2)=some ⟨#[108,105,110,107,115]⟩):(⟨(measV c us).toArray⟩:ByteArray)=named c us:=by
 unfold measV named
 rw[measGo_eq us [] c h0 hp]
 by_cases hn:namedL c us=[]
 ·rw[if_pos hn,if_pos rfl,if_pos hn,hl];rfl
 ·rw [if_neg hn,if_neg hn]
  have:(if ([]:List UInt8)=[]then []else []++[32])++Lib.join ((namedL c us).map (·.data.toList)) [32]=Lib.join ((namedL c us).map (·.data.toList)) [32]:=by simp
  rw[this,if_neg ?_]
  cases us with
  |nil=>simp[namedL]at hn
  | cons u us=>
   cases hL:namedL c (u::us)with
   |nil=>exact absurd hL hn
   | cons x r=>
    have hx:x.data.toList≠ []:=by
     have hmem: ∀(vs:List Unit) (d:Int) (y:ByteArray) (q:List ByteArray),namedL d vs=y::q->y.data.toList≠ []:=by
      intro vs
      induction vs with
      |nil=>intro d y q h;simp[namedL]at h
      | cons v vs ih=>
       intro d y q h
       unfold namedL at h
       split at h
       ·simp only[List.cons_append,List.cons.injEq]at h
        rw[<-h.1];exact spelt_ne _
       ·rw[List.nil_append]at h;exact ih _ _ _ h
     exact hmem _ _ _ _ hL
    exact join_ne hx
end Pl
end Go.Proofs.YtgbpekeoegfjpaaGreatDoor
set_option maxRecDepth 100000
namespace Go.Proofs.YtgbpekeoegfjpaaGreatDoor
open Go.RowKit
theorem digits3_negs (m:Nat)(w:World)(h0:1<=m)(h9:m<1000000000000000000):Calls Tryz.prog 95 #[.int .i64 (-(m:Int))] w fun e w'=>e=.returned (.string ⟨(45::Lib.decDigits m).toArray⟩)∧Below w.heap.size w w':=by
 induction m using Nat.strongRecOn generalizing w with
 | _ m ih=>
  by_cases h9':m<=9
  ·exact digits3_neg m w (by omega) h9'
  ·have e:Lib.decDigits m=Lib.decDigits (m/10)++Lib.decDigits (m%10):=by
    rw[Lib.decDigits_one (show m%10<10 by omega)]
    conv=>lhs;unfold Lib.decDigits
    rw[dif_neg (by omega)]
   have H:=Lib.hid e;clear e
   have l1:(Lib.decDigits (m/10)).length<=20:=by rw[Lib.decDigits_length];exact Lib.nDigits_le20 _ (by omega)
   have l2:(Lib.decDigits (m%10)).length<=20:=by rw[Lib.decDigits_length];exact Lib.nDigits_le20 _ (by omega)
   have i1:=Lib.hid fun W=>ih (m/10) (by omega) W (by omega) (by omega)
   have i2:=Lib.hid fun W=>digits3_one (m%10) W (by omega)
   have g1: -(m:Int)< -9:=by omega
   clear ih
   go_enter Tryz.func95,Tryz.ntmps95
   go_wp2_with fail
   refine(i1.out _).mono ?_
   rintro e w1 ⟨rfl,hx⟩
   have hb1:Below w.heap.size w w1:=Below.trans (by go_grown) (hx.mono (by go_size))
   have hsz1:=hb1.size
   clear hx
   go_wp2_with fail
   refine(i2.out _).mono ?_
   rintro e w2 ⟨rfl,hx⟩
   have hb2:Below w.heap.size w w2:=Below.trans (by go_grown) (hx.mono (by go_size))
   clear hx
   go_wp2
   go_ret
   exact⟨by rw[H.out];simp[ba_append],hb2⟩
theorem digits3_a (n:Int)(w:World)(h0: -100000000000000000<=n)(h1:n<1000000000000000000):Calls Tryz.prog 95 #[.int .i64 n] w fun e w'=>e=.returned (.string ⟨(Lib.itoa n).toArray⟩)∧Below w.heap.size w w':=by
 by_cases hn:0<=n
 ·obtain⟨m,rfl⟩:=Int.eq_ofNat_of_zero_le hn
  rw[Lib.itoa_nonneg]
  exact digits3_b m w (by omega)
 ·obtain⟨m,rfl⟩: ∃m:Nat,n= -(m:Int):=⟨n.natAbs,by omega⟩
  rw[Lib.itoa_neg m (by omega)]
  exact digits3_negs m w (by omega) (by omega)
theorem digits_one (n:Nat)(w:World)(h:n<10):Calls Tryz.prog 165 #[.int .i64 n] w fun e w'=>e=.returned (.string ⟨(Lib.decDigits n).toArray⟩)∧Below w.heap.size w w':=by
 have e:=Lib.decDigits_one h
 have H:=Lib.hid e;clear e
 have hconv:=run_convert_bytes_arg (P:=Tryz.prog) (w.alloc (.cells #[.int .u8 (48+(n:Int))] 5)) 152 5 Tryz.underlying152 Tryz.underlying5 w.heap.size 0 1 1 [48+(n:Int)] rfl (by
  intro i hi
  obtain rfl:i=0:=by omega
  rw[(blk_cells (heap_alloc_new _ _)).1];rfl) 9 Tryz.underlying9
 go_enter Tryz.func165,Tryz.ntmps165
 go_wp2
 go_ret
 refine⟨?_,by go_grown⟩
 rw[H.out]
 have e1:(48+(n:Int)).toNat=48+n:=by omega
 simp[strOfNums,e1]
theorem digits_b (n:Nat)(w:World)(h:n<1000000000000000000):Calls Tryz.prog 165 #[.int .i64 n] w fun e w'=>e=.returned (.string ⟨(Lib.decDigits n).toArray⟩)∧Below w.heap.size w w':=by
 induction n using Nat.strongRecOn generalizing w with
 | _ n ih=>
  by_cases h10:n<10
  ·exact digits_one n w h10
  ·have e:Lib.decDigits n=Lib.decDigits (n/10)++Lib.decDigits (n%10):=by
    rw[Lib.decDigits_one (show n%10<10 by omega)]
    conv=>lhs;unfold Lib.decDigits
    rw[dif_neg h10]
   have H:=Lib.hid e;clear e
   have l1:(Lib.decDigits (n/10)).length<=20:=by rw[Lib.decDigits_length];exact Lib.nDigits_le20 _ (by omega)
   have l2:(Lib.decDigits (n%10)).length<=20:=by rw[Lib.decDigits_length];exact Lib.nDigits_le20 _ (by omega)
   have i1:=Lib.hid fun W=>ih (n/10) (by omega) W (by omega)
   have i2:=Lib.hid fun W=>digits_one (n%10) W (by omega)
   clear ih
   go_enter Tryz.func165,Tryz.ntmps165
   go_wp2_with fail
   refine(i1.out _).mono ?_
   rintro e w1 ⟨rfl,hx⟩
   have hb1:Below w.heap.size w w1:=Below.trans (by go_grown) (hx.mono (by go_size))
   have hsz1:=hb1.size
   clear hx
   go_wp2_with fail
   refine(i2.out _).mono ?_
   rintro e w2 ⟨rfl,hx⟩
   have hb2:Below w.heap.size w w2:=Below.trans (by go_grown) (hx.mono (by go_size))
   clear hx
   go_wp2
   go_ret
   exact⟨by rw[H.out];simp[ba_append],hb2⟩
def encI (x:Int):List Value:=[.int .i64 x]
def encS (x:ByteArray):List Value:=[.string x]
abbrev IntsS := @Seg Int encI 1
abbrev StrsS := @Seg ByteArray encS 1
theorem IntsS.at1 {w:World}{B:Nat}{A:Option Addr}{l:List Int}(h:IntsS w B A l){k:Nat}(hk:k<l.length): ∃b off,A=some ⟨b,off,none⟩∧b<B∧w.cell? ⟨b,off+k,none⟩=some (.int .i64 l[k]):=by
 obtain⟨b,off,hA,hb,hc⟩:=Seg.at_ h hk
 exact⟨b,off,hA,hb,by simpa [encI]using hc 0 _ rfl⟩
theorem StrsS.at1 {w:World}{B:Nat}{A:Option Addr}{l:List ByteArray}(h:StrsS w B A l){k:Nat}(hk:k<l.length): ∃b off,A=some ⟨b,off,none⟩∧b<B∧w.cell? ⟨b,off+k,none⟩=some (.string l[k]):=by
 obtain⟨b,off,hA,hb,hc⟩:=Seg.at_ h hk
 exact⟨b,off,hA,hb,by simpa [encS]using hc 0 _ rfl⟩
theorem measGo_drop {out:List UInt8}{c:Int}{us:List Pl.Unit}{k:Nat}(hk:k<us.length):Pl.measGo out c (us.drop k)=
  Pl.measGo (if c/us[k].1=0 then out else (if out=[]then []else out++[32])++(Pl.spelt (c/us[k].1)).data.toList++[32]++(Pl.word (c/us[k].1) us[k]).data.toList) (c%us[k].1) (us.drop (k+1)):=by
 rw[List.drop_eq_getElem_cons hk];rfl
def gap (out:List UInt8):List UInt8:=if out=[]then []else out++[32]
theorem step_one {out:List UInt8}{c s:Int}{us:List Pl.Unit}{k:Nat}{one:ByteArray}(hk:k<us.length)(hs:us[k].1=s)(ho:us[k].2.1=one)(hq:c/s=1):
  Pl.measGo out c (us.drop k)=Pl.measGo (gap out++([49,32]++one.data.toList)) (c%s) (us.drop (k+1)):=by
 have e1:(Pl.spelt 1).data.toList=[49]:=by decide+kernel
 rw[measGo_drop hk,hs,hq,if_neg (by decide),e1]
 unfold Pl.word gap
 rw[if_pos rfl,ho]
 simp
theorem step_many {out:List UInt8}{c s q:Int}{us:List Pl.Unit}{k:Nat}{many:ByteArray}(hk:k<us.length)(hs:us[k].1=s)(ho:us[k].2.2=many)(hq:c/s=q)(h0:0<=q)(hq0:q≠0)(hq1:q≠1):
  Pl.measGo out c (us.drop k)=Pl.measGo (gap out++(Lib.decDigits q.toNat++([32]++many.data.toList))) (c%s) (us.drop (k+1)):=by
 have e1:(Pl.spelt q).data.toList=Lib.decDigits q.toNat:=by unfold Pl.spelt;simp[Pl.itoa_pos h0]
 rw[measGo_drop hk,hs,hq,if_neg hq0,e1]
 unfold Pl.word gap
 rw[if_neg hq1,ho]
 simp
theorem digits_h (n:Nat)(D:ByteArray)(w:World)(h:n<1000000000000000000)(hD:Hid ((⟨(Lib.decDigits n).toArray⟩:ByteArray)=D)):Calls Tryz.prog 165 #[.int .i64 n] w fun e w'=>e=.returned (.string D)∧Below w.heap.size w w':=by
 have:=digits_b n w h
 rw[hD.out]at this
 exact this
set_option maxHeartbeats 4000000 in
theorem measure_b (n:Int)(us:List Pl.Unit)(As Am Ao:Option Addr)(cs cm co:Nat)(w:World)(h0:0<=n)(h1:n<=1000000000000)(hlen:us.length<=40)(hpos: ∀u∈us,1<=u.1∧u.1<=1000000000000)(hsz: ∀u∈us,u.2.1.size<=100∧u.2.2.size<=100)
  (hs:IntsS w w.heap.size As (us.map (·.1))) (hm:StrsS w w.heap.size Am (us.map (·.2.2))) (ho:StrsS w w.heap.size Ao (us.map (·.2.1))):
  Calls Tryz.prog 163 #[.int .i64 n,.slice As us.length cs,.slice Am us.length cm,.slice Ao us.length co] w fun e w'=>e=.returned (.string ⟨(Pl.measV n us).toArray⟩)∧Below w.heap.size w w':=by
 go_enter Tryz.func163,Tryz.ntmps163
 go_wp2
 go_loopw [9,10,11] (fun o r i wr=> ∃(k:Nat) (out:List UInt8) (c:Int),k<=us.length∧i=.int .i64 k∧o=.string ⟨out.toArray⟩∧r=.int .i64 c∧0<=c∧c<=1000000000000∧out.length<=250*k∧Hid (Pl.measGo out c (us.drop k)=Pl.measGo [] n us)∧Below w.heap.size w wr) (fun _ _ i _=>us.length-(intOf i).toNat)
 case atStart=>exact⟨0,[],n,by omega,rfl,rfl,rfl,h0,h1,by simp,rfl,by go_grown⟩
 case round=>
  obtain⟨k,out,c,hk,rfl,rfl,rfl,c0,c1,hol,hg,hb⟩:=hrel
  have hszw:=hb.size
  by_cases hlt:k<us.length
  ·obtain⟨bs,ofs,rfl,hbs,q0⟩:=IntsS.at1 (hs.below hb) (k:=k) (by simpa using hlt)
   obtain⟨bm,ofm,rfl,hbm,q1⟩:=StrsS.at1 (hm.below hb) (k:=k) (by simpa using hlt)
   obtain⟨bo,ofo,rfl,hbo,q2⟩:=StrsS.at1 (ho.below hb) (k:=k) (by simpa using hlt)
   simp only[List.getElem_map]at q0 q1 q2
   obtain⟨u1,u2⟩:=hpos us[k] (List.getElem_mem hlt)
   obtain⟨z1,z2⟩:=hsz us[k] (List.getElem_mem hlt)
   have hstep:=Lib.hid (measGo_drop (out:=out) (c:=c) hlt)
   obtain⟨s,hse⟩: ∃s,us[k].1=s:=⟨_,rfl⟩
   obtain⟨one,hone⟩: ∃one,us[k].2.1=one:=⟨_,rfl⟩
   obtain⟨many,hmany⟩: ∃many,us[k].2.2=many:=⟨_,rfl⟩
   rw[hse]at q0 u1 u2
   rw[hone]at q2 z1
   rw[hmany]at q1 z2
   have HS:=Lib.hid hse;have HO:=Lib.hid hone;have HM:=Lib.hid hmany
   clear hse hone hmany
   have d0:0<=c/s:=Int.ediv_nonneg c0 (by omega)
   have d1:c/s<=c:=Int.ediv_le_self _ c0
   have m0:0<=c%s:=Int.emod_nonneg _ (by omega)
   have m1:c%s<s:=Int.emod_lt_of_pos _ (by omega)
   obtain⟨q,hq⟩: ∃q,c/s=q:=⟨_,rfl⟩
   have HQ:=Lib.hid hq
   rw[hq]at d0 d1
   by_cases hq0:q=0
   ·subst hq0
    go_wp2
    go_roundw
    case rel=>exact⟨k+1,out,c%s,by omega,by go_num,rfl,rfl,m0,by omega,by omega,by unfold Hid;rw[<-hg.out,hstep.out,HS.out,HQ.out,if_pos rfl],by go_grown⟩
    case measure=>first|(simp[intOf];done)|(simp[intOf];omega)
   ·have hq0':(q==0)=false:=by simpa using hq0
    clear hstep
    by_cases hq1:q=1
    ·subst hq1
     have hst:=Lib.hid (step_one (out:=out) hlt HS.out HO.out HQ.out)
     by_cases hout:out=[]
     ·subst hout
      go_wp2
      go_roundw
      case rel=>exact⟨k+1,gap []++([49,32]++one.data.toList),c%s,by omega,by go_num,congrArg Value.string (by apply ByteArray.ext;simp[gap]),rfl,m0,by omega,by simp[gap];omega,by unfold Hid;rw[<-hg.out,hst.out],by go_grown⟩
      case measure=>first|(simp[intOf];done)|(simp[intOf];omega)
     ·have hne:(!out.isEmpty)=true:=by cases out<;>simp_all
      go_wp2
      go_roundw
      case rel=>exact⟨k+1,gap out++([49,32]++one.data.toList),c%s,by omega,by go_num,congrArg Value.string (by apply ByteArray.ext;simp[gap,hout]),rfl,m0,by omega,by simp[gap,hout];omega,by unfold Hid;rw[<-hg.out,hst.out],by go_grown⟩
      case measure=>first|(simp[intOf];done)|(simp[intOf];omega)
    ·have hq1':(q==1)=false:=by simpa using hq1
     have hst:=Lib.hid (step_many (out:=out) hlt HS.out HM.out HQ.out d0 hq0 hq1)
     obtain⟨D,hD⟩: ∃D:ByteArray,(⟨(Lib.decDigits q.toNat).toArray⟩:ByteArray)=D:=⟨_,rfl⟩
     have hDs:D.size<=20:=by rw[<-hD];show(Lib.decDigits q.toNat).toArray.size<=20;rw[List.size_toArray,Lib.decDigits_length];exact Lib.nDigits_le20 _ (by omega)
     have hDl:Lib.decDigits q.toNat=D.data.toList:=by rw[<-hD]
     obtain⟨qn,hqn⟩: ∃qn:Nat,q=qn:=⟨q.toNat,by omega⟩
     have HD:Hid ((⟨(Lib.decDigits qn).toArray⟩:ByteArray)=D):=by unfold Hid;rw[<-hD,hqn];rfl
     have HDl:=Lib.hid hDl
     clear hD hDl
     subst hqn
     have hbm2:bm<wr.heap.size:=by omega
     by_cases hout:out=[]
     ·subst hout
      have a1: ∀W,(Op.stringOp .add ⟨#[]⟩ D).run Tryz.prog W=.ok (.string D) W:=fun W=>by rw[run_string_add W ⟨#[]⟩ D (by decide) (by omega),show(⟨#[]⟩:ByteArray)++D=D by apply ByteArray.ext;simp]
      have a2: ∀W,(Op.stringOp .add D ⟨#[32]⟩).run Tryz.prog W=.ok (.string (D++⟨#[32]⟩)) W:=fun W=>run_string_add W D ⟨#[32]⟩ (by omega) (by decide)
      have a3: ∀W,(Op.stringOp .add (D++⟨#[32]⟩) many).run Tryz.prog W=.ok (.string (D++⟨#[32]⟩++many)) W:=fun W=>run_string_add W _ many (by rw[ByteArray.size_append];show((D.size+1:Nat):Int)<=_;omega) (by omega)
      go_wp2
      go_region_held3 (fun W=>W.cell? ⟨bm,ofm+k,none⟩=some (.string many)) (assumption)
       (first|(go_at_call 165;refine(digits_h qn D _ (by omega) HD).mono ?_;rintro e w7 ⟨rfl,hx⟩;have hb7:Below w.heap.size w w7:=Below.trans (by go_grown) (hx.mono (by go_size));have hsz7:=hb7.size;have p1:=(hx.cell (p:=⟨bm,ofm+k,none⟩) hbm2).trans q1;clear hx))
      all_goals go_wp2
      go_roundw
      case rel=>exact⟨k+1,gap []++(D.data.toList++([32]++many.data.toList)),c%s,by omega,by go_num,congrArg Value.string (by apply ByteArray.ext;simp[gap]),rfl,m0,by omega,by simp[gap];omega,by unfold Hid;rw[<-hg.out,hst.out,HDl.out],by go_grown⟩
      case measure=>first|(simp[intOf];done)|(simp[intOf];omega)
     ·have hne:(!out.isEmpty)=true:=by cases out<;>simp_all
      go_wp2
      obtain⟨X,hX⟩: ∃X,((⟨out.toArray⟩:ByteArray)++⟨#[32]⟩)=X:=⟨_,rfl⟩
      have hXs:X.size<=10100:=by rw[<-hX,ByteArray.size_append];show out.toArray.size+1<=10100;rw[List.size_toArray];omega
      rw[hX]
      have HX:=Lib.hid hX;clear hX
      have a1: ∀W,(Op.stringOp .add X D).run Tryz.prog W=.ok (.string (X++D)) W:=fun W=>run_string_add W X D (by omega) (by omega)
      have a2: ∀W,(Op.stringOp .add (X++D) ⟨#[32]⟩).run Tryz.prog W=.ok (.string (X++D++⟨#[32]⟩)) W:=fun W=>run_string_add W _ ⟨#[32]⟩ (by rw[ByteArray.size_append];omega) (by decide)
      have a3: ∀W,(Op.stringOp .add (X++D++⟨#[32]⟩) many).run Tryz.prog W=.ok (.string (X++D++⟨#[32]⟩++many)) W:=fun W=>run_string_add W _ many (by rw[ByteArray.size_append,ByteArray.size_append];show((X.size+D.size+1:Nat):Int)<=_;omega) (by omega)
      go_region_held3 (fun W=>W.cell? ⟨bm,ofm+k,none⟩=some (.string many)) (assumption)
       (first|(go_at_call 165;refine(digits_h qn D _ (by omega) HD).mono ?_;rintro e w7 ⟨rfl,hx⟩;have hb7:Below w.heap.size w w7:=Below.trans (by go_grown) (hx.mono (by go_size));have hsz7:=hb7.size;have p1:=(hx.cell (p:=⟨bm,ofm+k,none⟩) hbm2).trans q1;clear hx))
      all_goals go_wp2
      go_roundw
      case rel=>exact⟨k+1,gap out++(D.data.toList++([32]++many.data.toList)),c%s,by omega,by go_num,congrArg Value.string (by apply ByteArray.ext;rw[<-HX.out];simp[gap,hout]),rfl,m0,by omega,by simp[gap,hout];omega,by unfold Hid;rw[<-hg.out,hst.out,HDl.out],by go_grown⟩
      case measure=>first|(simp[intOf];done)|(simp[intOf];omega)
  ·obtain rfl:k=us.length:=by omega
   have hfin:Pl.measGo [] n us=out:=by rw[<-hg.out,List.drop_length];rfl
   have HFIN:=Lib.hid hfin;clear hfin hg
   by_cases hout:out=[]
   ·subst hout
    go_wp2
    go_ret
    exact⟨by unfold Pl.measV;rw[HFIN.out];rfl,by go_grown⟩
   ·have hne:out.isEmpty=false:=by cases out<;>simp_all
    go_wp2
    go_ret
    exact⟨by unfold Pl.measV;rw[HFIN.out,if_neg hout];try rfl,by go_grown⟩
theorem flat1 {α:Type}{enc:α->List Value}(h1: ∀x,(enc x).length=1){l:List α}{w:World}{b B:Nat}{t:TypeId}(hb:b<B)(h:w.heap[b]?=some (.cells (l.flatMap enc).toArray t (0,0))):Seg enc 1 w B (some ⟨b,0,none⟩) l:=by
 refine .inr ⟨b,0,rfl,hb,fun k x hx j v hv=> ?_⟩
 rw[(blk_cells h).1,Nat.zero_add,<-Array.getElem?_toList]
 exact flat_at enc 1 h1 hx hv
theorem three (w:World)(o1 o2 o3:Obj):(((w.alloc o1).alloc o2).alloc o3).heap[w.heap.size]?=some o1∧(((w.alloc o1).alloc o2).alloc o3).heap[w.heap.size+1]?=some o2∧(((w.alloc o1).alloc o2).alloc o3).heap[w.heap.size+2]?=some o3:=by
 refine⟨(Below.heap_alloc _ _ _ (by simp;omega)).trans ((Below.heap_alloc _ _ _ (by simp)).trans (World.alloc_heap_new _ _)),(Below.heap_alloc _ _ _ (by simp)).trans ?_,?_⟩
 ·have:=World.alloc_heap_new (w.alloc o1) o2;rwa[World.size_alloc]at this
 ·have:=World.alloc_heap_new ((w.alloc o1).alloc o2) o3;rwa[World.size_alloc,World.size_alloc]at this
def laid3 (us:List Pl.Unit)(w:World):World:=
 ((w.alloc (.cells ((us.map (·.1)).flatMap encI).toArray 3)).alloc (.cells ((us.map (·.2.2)).flatMap encS).toArray 9)).alloc (.cells ((us.map (·.2.1)).flatMap encS).toArray 9)
theorem laid3_size (us:List Pl.Unit)(w:World):(laid3 us w).heap.size=w.heap.size+3:=by unfold laid3;simp
theorem laid3_below (us:List Pl.Unit)(w:World):Below w.heap.size w (laid3 us w):=by
 unfold laid3;exact(((Below.refl _ w).alloc (Nat.le_refl _) _).alloc (by simp) _).alloc (by simp;omega) _
theorem laid3_segs (us:List Pl.Unit)(w:World):IntsS (laid3 us w) (laid3 us w).heap.size (some ⟨w.heap.size,0,none⟩) (us.map (·.1))∧StrsS (laid3 us w) (laid3 us w).heap.size (some ⟨w.heap.size+1,0,none⟩) (us.map (·.2.2))∧StrsS (laid3 us w) (laid3 us w).heap.size (some ⟨w.heap.size+2,0,none⟩) (us.map (·.2.1)):=by
 have hz:=laid3_size us w
 obtain⟨k1,k2,k3⟩:=three w (.cells ((us.map (·.1)).flatMap encI).toArray 3) (.cells ((us.map (·.2.2)).flatMap encS).toArray 9) (.cells ((us.map (·.2.1)).flatMap encS).toArray 9)
 exact⟨flat1 (fun _=>rfl) (by omega) k1,flat1 (fun _=>rfl) (by omega) k2,flat1 (fun _=>rfl) (by omega) k3⟩
theorem meas3 (n:Int)(us:List Pl.Unit)(w:World)(h0:0<=n)(h1:n<=1000000000000)(hlen:us.length<=40)(hpos: ∀u∈us,1<=u.1∧u.1<=1000000000000)(hsz: ∀u∈us,u.2.1.size<=100∧u.2.2.size<=100):
  Calls Tryz.prog 163 #[.int .i64 n,.slice (some ⟨w.heap.size,0,none⟩) us.length us.length,.slice (some ⟨w.heap.size+1,0,none⟩) us.length us.length,.slice (some ⟨w.heap.size+2,0,none⟩) us.length us.length] (laid3 us w) fun e w'=>e=.returned (.string ⟨(Pl.measV n us).toArray⟩)∧Below w.heap.size w w':=by
 obtain⟨k1,k2,k3⟩:=laid3_segs us w
 refine(measure_b n us _ _ _ _ _ _ _ h0 h1 hlen hpos hsz k1 k2 k3).mono ?_
 rintro e w' ⟨he,hb⟩
 exact⟨he,(laid3_below us w).trans (hb.mono (by rw[laid3_size];omega))⟩
set_option maxHeartbeats 1000000 in
theorem length_b (n:Int)(w:World):Calls Tryz.prog 93 #[.int .i64 n] w fun e w'=>e=.returned (.string (Pl.lengthV n))∧Below w.heap.size w w':=by
 by_cases hn:0<=n∧n<=1000000
 ·obtain⟨h0,h1⟩:=hn
  have hv:(⟨(Pl.measV n Pl.poles).toArray⟩:ByteArray)=Pl.lengthV n:=by
   rw[Pl.lengthV_in h0 h1];exact Pl.measV_eq h0 (fun u hu=>(Pl.good_poles u hu).1) (by rfl)
  have HV:=Lib.hid hv;clear hv
  have hm:=Lib.hid (meas3 n Pl.poles w h0 (by omega) (by decide) (by decide) (by decide))
  go_enter Tryz.func93,Tryz.ntmps93
  go_wp2_with fail
  refine(Calls.mono (show Calls _ _ _ _ _ from hm.out) ?_)
  rintro e w' ⟨rfl,hb⟩
  rw[HV.out]
  go_wp2
  go_ret
  exact⟨rfl,hb⟩
 ·have hv:Pl.lengthV n=⟨#[]⟩:=by unfold Pl.lengthV;rw[if_neg hn]
  have HV:=Lib.hid hv;clear hv
  have hn':n<0∨1000000<n:=by omega
  clear hn
  go_enter Tryz.func93,Tryz.ntmps93
  go_wp2
  all_goals first
   |(exfalso;omega)
   |(go_ret;exact⟨by rw[HV.out];try rfl,by go_grown⟩)
theorem digs (m:Int)(w:World)(h0:0<=m)(h1:m<1000):Calls Tryz.prog 165 #[.int .i64 m] w fun e w'=>e=.returned (.string ⟨(Lib.decDigits m.toNat).toArray⟩)∧Below w.heap.size w w':=by
 obtain⟨n,rfl⟩:=Int.eq_ofNat_of_zero_le h0
 exact digits_b n w (by omega)
set_option maxHeartbeats 1000000 in
theorem quad_b (d:Int)(w:World):Calls Tryz.prog 94 #[.int .i64 d] w fun e w'=>e=.returned (.string ⟨(Pl.quad d).toArray⟩)∧Below w.heap.size w w':=by
 have hm:0<=d%360∧d%360<360:=by omega
 generalize hD:d%360=m at hm
 obtain⟨m0,m1⟩:=hm
 have H:=Lib.hid hD;clear hD
 by_cases h0:m=0
 ·subst h0
  go_enter Tryz.func94,Tryz.ntmps94
  go_wp2_with (go_at_call 164;refine(norm_b _ _).mono ?_;rintro e w' ⟨rfl,rfl⟩;rw[H.out])
  go_ret
  exact⟨by unfold Pl.quad;rw[H.out];rfl,by go_grown⟩
 by_cases h90:m=90
 ·subst h90
  go_enter Tryz.func94,Tryz.ntmps94
  go_wp2_with (go_at_call 164;refine(norm_b _ _).mono ?_;rintro e w' ⟨rfl,rfl⟩;rw[H.out])
  go_ret
  exact⟨by unfold Pl.quad;rw[H.out];rfl,by go_grown⟩
 by_cases h180:m=180
 ·subst h180
  go_enter Tryz.func94,Tryz.ntmps94
  go_wp2_with (go_at_call 164;refine(norm_b _ _).mono ?_;rintro e w' ⟨rfl,rfl⟩;rw[H.out])
  go_ret
  exact⟨by unfold Pl.quad;rw[H.out];rfl,by go_grown⟩
 by_cases h270:m=270
 ·subst h270
  go_enter Tryz.func94,Tryz.ntmps94
  go_wp2_with (go_at_call 164;refine(norm_b _ _).mono ?_;rintro e w' ⟨rfl,rfl⟩;rw[H.out])
  go_ret
  exact⟨by unfold Pl.quad;rw[H.out];rfl,by go_grown⟩
 by_cases q0:m<90
 ·have hl:=Pl.dec_len (n:=(m).toNat) (by omega)
  go_enter Tryz.func94,Tryz.ntmps94
  go_wp2_with (first|(go_at_call 164;refine(norm_b _ _).mono ?_;rintro e w' ⟨rfl,rfl⟩;rw[H.out])|(go_at_call 165;refine(digs _ _ (by omega) (by omega)).mono ?_;rintro e w1 ⟨rfl,hx1⟩;have hb1:Below w.heap.size w w1:=Below.trans (by go_grown) (hx1.mono (by go_size));clear hx1;have hsz1:w.heap.size<=w1.heap.size:=hb1.size))
  go_ret
  exact⟨by unfold Pl.quad Pl.quadT;rw[H.out];simp (disch:=omega) only[if_pos,if_neg];simp[Pl.north,Pl.east,ba_append],by go_grown⟩
 by_cases q1:m<180
 ·have hl:=Pl.dec_len (n:=(180-m).toNat) (by omega)
  go_enter Tryz.func94,Tryz.ntmps94
  go_wp2_with (first|(go_at_call 164;refine(norm_b _ _).mono ?_;rintro e w' ⟨rfl,rfl⟩;rw[H.out])|(go_at_call 165;refine(digs _ _ (by omega) (by omega)).mono ?_;rintro e w1 ⟨rfl,hx1⟩;have hb1:Below w.heap.size w w1:=Below.trans (by go_grown) (hx1.mono (by go_size));clear hx1;have hsz1:w.heap.size<=w1.heap.size:=hb1.size))
  go_ret
  exact⟨by unfold Pl.quad Pl.quadT;rw[H.out];simp (disch:=omega) only[if_pos,if_neg];simp[Pl.east,Pl.south,ba_append],by go_grown⟩
 by_cases q2:m<270
 ·have hl:=Pl.dec_len (n:=(m-180).toNat) (by omega)
  go_enter Tryz.func94,Tryz.ntmps94
  go_wp2_with (first|(go_at_call 164;refine(norm_b _ _).mono ?_;rintro e w' ⟨rfl,rfl⟩;rw[H.out])|(go_at_call 165;refine(digs _ _ (by omega) (by omega)).mono ?_;rintro e w1 ⟨rfl,hx1⟩;have hb1:Below w.heap.size w w1:=Below.trans (by go_grown) (hx1.mono (by go_size));clear hx1;have hsz1:w.heap.size<=w1.heap.size:=hb1.size))
  go_ret
  exact⟨by unfold Pl.quad Pl.quadT;rw[H.out];simp (disch:=omega) only[if_pos,if_neg];simp[Pl.south,Pl.west,ba_append],by go_grown⟩
 ·have hl:=Pl.dec_len (n:=(360-m).toNat) (by omega)
  go_enter Tryz.func94,Tryz.ntmps94
  go_wp2_with (first|(go_at_call 164;refine(norm_b _ _).mono ?_;rintro e w' ⟨rfl,rfl⟩;rw[H.out])|(go_at_call 165;refine(digs _ _ (by omega) (by omega)).mono ?_;rintro e w1 ⟨rfl,hx1⟩;have hb1:Below w.heap.size w w1:=Below.trans (by go_grown) (hx1.mono (by go_size));clear hx1;have hsz1:w.heap.size<=w1.heap.size:=hb1.size))
  go_ret
  exact⟨by unfold Pl.quad Pl.quadT;rw[H.out];simp (disch:=omega) only[if_neg];simp[Pl.north,Pl.west,ba_append],by go_grown⟩
end Go.Proofs.YtgbpekeoegfjpaaGreatDoor
set_option maxRecDepth 100000
namespace Go.Proofs.YtgbpekeoegfjpaaGreatDoor
open Go.RowKit
variable (A1 A2 A3 A4 : Option Addr) (c1 c2 c3 c4 : Nat) (f : Pl.Fld)
attribute [-go_sem] loadVar run_equalIn_agg
attribute [local go_sem] lv_int lv_bool lv_u8 lv_string lv_strings lv_stas
theorem verb_1 (w:World):Calls Tryz.prog 92 #[.int .u8 1] w fun e w'=>e=.returned (.string ⟨#[115,116,111,110,101]⟩)∧w=w':=by
 go_enter Tryz.func92,Tryz.ntmps92
 go_wp2
 go_ret
 exact⟨rfl,rfl⟩
theorem verb_2 (w:World):Calls Tryz.prog 92 #[.int .u8 2] w fun e w'=>e=.returned (.string ⟨#[119,105,100,116,104]⟩)∧w=w':=by
 go_enter Tryz.func92,Tryz.ntmps92
 go_wp2
 go_ret
 exact⟨rfl,rfl⟩
theorem verb_3 (w:World):Calls Tryz.prog 92 #[.int .u8 3] w fun e w'=>e=.returned (.string ⟨#[99,111,117,114,115,101]⟩)∧w=w':=by
 go_enter Tryz.func92,Tryz.ntmps92
 go_wp2
 go_ret
 exact⟨rfl,rfl⟩
theorem verb_4 (w:World):Calls Tryz.prog 92 #[.int .u8 4] w fun e w'=>e=.returned (.string ⟨#[97,108,111,110,103]⟩)∧w=w':=by
 go_enter Tryz.func92,Tryz.ntmps92
 go_wp2
 go_ret
 exact⟨rfl,rfl⟩
theorem verb_5 (w:World):Calls Tryz.prog 92 #[.int .u8 5] w fun e w'=>e=.returned (.string ⟨#[108,101,118,101,108]⟩)∧w=w':=by
 go_enter Tryz.func92,Tryz.ntmps92
 go_wp2
 go_ret
 exact⟨rfl,rfl⟩
set_option maxHeartbeats 8000000 in
theorem wc_stone (il ir:Nat)(o t z er:Int)(cr:Pl.Crs)(L1 S1 T:List UInt8)(w:World)(hf:FldS w w.heap.size A1 A2 A3 A4 f)
  (l1:il<f.li.length) (l2:ir<f.st.length) (e1:f.li[il]=⟨L1.toArray⟩) (e2:f.st[ir].1=⟨S1.toArray⟩) (b1:L1.length<=1000) (b2:S1.length<=1000) (z0: -1000000<=z∧z<=1000000) (r0: -1000000<=er∧er<=1000000)
  (hT:Hid (((((((([115,116,111,110,101]++[32])++L1)++[32])++S1)++[32])++Lib.itoa z)++[32])++Lib.itoa er=T))
  (pk: ∀W,Below w.heap.size w W->Calls Tryz.prog 68 #[.agg (fq A1 A2 A3 A4 c1 c2 c3 c4 f),.agg (kA13 1 (il:Int) o (ir:Int) t z er cr.b cr.n cr.l cr.y cr.x cr.s)] W fun e w'=>e=.returned (.int .i64 0)∧Below W.heap.size W w'):
  Calls Tryz.prog 30 #[.agg (fq A1 A2 A3 A4 c1 c2 c3 c4 f),.agg (kA13 1 (il:Int) o (ir:Int) t z er cr.b cr.n cr.l cr.y cr.x cr.s)] w fun e w'=>e=.returned (.tuple #[.string ⟨T.toArray⟩,.int .i64 0])∧Below w.heap.size w w':=by
 have kf:=heap_alloc2_old w (.cells (fq A1 A2 A3 A4 c1 c2 c3 c4 f) 28) (.cells (kA13 1 (il:Int) o (ir:Int) t z er cr.b cr.n cr.l cr.y cr.x cr.s) 48)
 have kc:=heap_alloc2_new w (.cells (fq A1 A2 A3 A4 c1 c2 c3 c4 f) 28) (.cells (kA13 1 (il:Int) o (ir:Int) t z er cr.b cr.n cr.l cr.y cr.x cr.s) 48)
 have hall:Below w.heap.size w ((w.alloc (.cells (fq A1 A2 A3 A4 c1 c2 c3 c4 f) 28)).alloc (.cells (kA13 1 (il:Int) o (ir:Int) t z er cr.b cr.n cr.l cr.y cr.x cr.s) 48)):=((Below.refl _ w).alloc (Nat.le_refl _) _).alloc (by simp) _
 have l01:=ld_row kf Tryz.underlying28 rfl info_fld
 have l02:=ld_row kc Tryz.underlying48 rfl info_cal
 obtain⟨g2,o2,hA2,hg2,u1⟩:=Nms.at1 hf.li l1
 obtain⟨g1,o1,hA1,hg1,u2,-⟩:=Stas.at2 hf.st l2
 rw[e1]at u1
 rw[e2]at u2
 subst hA1 hA2
 have j1:(0:Int)<=(il:Int):=by omega
 have j2:(il:Int)<(f.li.length:Int):=by omega
 have j3:(0:Int)<=(ir:Int):=by omega
 have j4:(ir:Int)<(f.st.length:Int):=by omega
 have hz:(Lib.itoa z).length<=21:=Lib.itoa_length_le z (by omega) (by omega)
 have her:(Lib.itoa er).length<=21:=Lib.itoa_length_le er (by omega) (by omega)
 have t1:=fun W=>addP [115,116,111,110,101] [32] (by decide) (by decide) W
 obtain⟨Q1,hQ1⟩: ∃X,([115,116,111,110,101]:List UInt8)++[32]=X:=⟨_,rfl⟩
 have y1:Q1.length<=6:=by rw[<-hQ1];decide
 rw[hQ1]at t1 hT
 have t2:=fun W=>addP Q1 L1 (by omega) (by omega) W
 obtain⟨Q2,hQ2⟩: ∃X,Q1++L1=X:=⟨_,rfl⟩
 have y2:Q2.length<=1006:=by rw[<-hQ2];simp;omega
 rw[hQ2]at t2 hT
 have t3:=fun W=>addP Q2 [32] (by omega) (by decide) W
 obtain⟨Q3,hQ3⟩: ∃X,Q2++[32]=X:=⟨_,rfl⟩
 have y3:Q3.length<=1007:=by rw[<-hQ3];simp;omega
 rw[hQ3]at t3 hT
 have t4:=fun W=>addP Q3 S1 (by omega) (by omega) W
 obtain⟨Q4,hQ4⟩: ∃X,Q3++S1=X:=⟨_,rfl⟩
 have y4:Q4.length<=2007:=by rw[<-hQ4];simp;omega
 rw[hQ4]at t4 hT
 have t5:=fun W=>addP Q4 [32] (by omega) (by decide) W
 obtain⟨Q5,hQ5⟩: ∃X,Q4++[32]=X:=⟨_,rfl⟩
 have y5:Q5.length<=2008:=by rw[<-hQ5];simp;omega
 rw[hQ5]at t5 hT
 have t6:=fun W=>addP Q5 (Lib.itoa z) (by omega) (by omega) W
 obtain⟨Q6,hQ6⟩: ∃X,Q5++Lib.itoa z=X:=⟨_,rfl⟩
 have y6:Q6.length<=2029:=by rw[<-hQ6];simp;omega
 rw[hQ6]at t6 hT
 have t7:=fun W=>addP Q6 [32] (by omega) (by decide) W
 obtain⟨Q7,hQ7⟩: ∃X,Q6++[32]=X:=⟨_,rfl⟩
 have y7:Q7.length<=2030:=by rw[<-hQ7];simp;omega
 rw[hQ7]at t7 hT
 have t8:=fun W=>addP Q7 (Lib.itoa er) (by omega) (by omega) W
 rw[hT.out]at t8
 have dz:=fun W=>digits3_a z W (by omega) (by omega)
 have de:=fun W=>digits3_a er W (by omega) (by omega)
 obtain⟨tk1,_⟩: ∃n:Nat,n=n:=⟨0,rfl⟩
 clear e1 e2 b1 b2 l1 l2 hf hT z0 r0 hQ1 y1 hQ2 y2 hQ3 y3 hQ4 y4 hQ5 y5 hQ6 y6 hQ7 y7 hz her
 go_enter Tryz.func30,Tryz.ntmps30
 go_wp2_with fail
 refine(pk _ hall).mono ?_
 rintro e w1 ⟨rfl,hx⟩
 have kf:=kE hx kf
 have kc:=kE hx kc
 have hall:Below w.heap.size w w1:=hall.trans (hx.mono hall.size)
 have kf:=(show w1.drew.heap[w.heap.size]?=_ from kf)
 have kc:=(show w1.drew.heap[w.heap.size+1]?=_ from kc)
 have hall0:=hall
 have hall:=hall.drew
 have u1:=(hall.cell (p:=⟨g2,o2+il,none⟩) hg2).trans u1
 have u2:=(hall.cell (p:=⟨g1,o1+ir*2,none⟩) hg1).trans u2
 clear l01 l02 hx pk hg1 hg2
 obtain⟨hcf,hff⟩:=blk_cells kf
 obtain⟨hcc,hfc⟩:=blk_cells kc
 go_wp2_with fail
 go_region_held3 (fun W=>W.cell? ⟨w.heap.size,1,none⟩=some (.slice (some ⟨g2,o2,none⟩) f.li.length c2)∧W.cell? ⟨w.heap.size+1,0,none⟩=some (.int .u8 1)∧W.cell? ⟨w.heap.size+1,1,none⟩=some (.int .i64 (il:Int))∧W.cell? ⟨g2,o2+il,none⟩=some (.string ⟨L1.toArray⟩)) (exact⟨hcf 1,hcc 0,hcc 1,u1⟩) (first|(go_at_call 92;refine(verb_1 _).mono ?_;rintro e w' ⟨rfl,rfl⟩))
 all_goals go_wp2
 all_goals go_region_held3 (fun W=>W.cell? ⟨w.heap.size+1,5,none⟩=some (.int .i64 z)∧W.cell? ⟨w.heap.size+1,6,none⟩=some (.int .i64 er)) (first|exact⟨hcc 5,hcc 6⟩|exact⟨hcc4 5,hcc4 6⟩|exact⟨hcc2 5,hcc2 6⟩) (first
  |(go_at_call 95;clear tk1;refine(dz _).mono ?_;rintro e w2 ⟨rfl,hx⟩;have kc2:=kE hx kc;obtain⟨hcc2,hfc2⟩:=blk_cells kc2;have hall2:Below w.heap.size w w2:=(by first|exact hall.drew.trans (hx.mono hall.size)|exact hall.trans (hx.mono hall.size));clear hx)
  |(go_at_call 95;refine(de _).mono ?_;rintro e w4 ⟨rfl,hx⟩;have kc4:=kE hx kc2;obtain⟨hcc4,hfc4⟩:=blk_cells kc4;have hall4:Below w.heap.size w w4:=hall2.trans (hx.mono hall2.size);clear hx))
 all_goals go_wp2
 all_goals go_ret2
 all_goals exact⟨rfl,hall4⟩
set_option maxHeartbeats 8000000 in
theorem wc_width (il ir io:Nat)(t z er:Int)(cr:Pl.Crs)(L1 S1 L2 T:List UInt8)(w:World)(hf:FldS w w.heap.size A1 A2 A3 A4 f)
  (l1:il<f.li.length) (l2:ir<f.st.length) (e1:f.li[il]=⟨L1.toArray⟩) (e2:f.st[ir].1=⟨S1.toArray⟩) (b1:L1.length<=1000) (b2:S1.length<=1000) (l3:io<f.li.length) (e3:f.li[io]=⟨L2.toArray⟩) (b3:L2.length<=1000) (z0: -1000000<=z∧z<=1000000) (r0: -1000000<=er∧er<=1000000)
  (hT:Hid (((((((((([119,105,100,116,104]++[32])++L1)++[32])++L2)++[32])++S1)++[32])++Lib.itoa z)++[32])++Lib.itoa er=T))
  (pk: ∀W,Below w.heap.size w W->Calls Tryz.prog 68 #[.agg (fq A1 A2 A3 A4 c1 c2 c3 c4 f),.agg (kA13 2 (il:Int) (io:Int) (ir:Int) t z er cr.b cr.n cr.l cr.y cr.x cr.s)] W fun e w'=>e=.returned (.int .i64 0)∧Below W.heap.size W w'):
  Calls Tryz.prog 30 #[.agg (fq A1 A2 A3 A4 c1 c2 c3 c4 f),.agg (kA13 2 (il:Int) (io:Int) (ir:Int) t z er cr.b cr.n cr.l cr.y cr.x cr.s)] w fun e w'=>e=.returned (.tuple #[.string ⟨T.toArray⟩,.int .i64 0])∧Below w.heap.size w w':=by
 have kf:=heap_alloc2_old w (.cells (fq A1 A2 A3 A4 c1 c2 c3 c4 f) 28) (.cells (kA13 2 (il:Int) (io:Int) (ir:Int) t z er cr.b cr.n cr.l cr.y cr.x cr.s) 48)
 have kc:=heap_alloc2_new w (.cells (fq A1 A2 A3 A4 c1 c2 c3 c4 f) 28) (.cells (kA13 2 (il:Int) (io:Int) (ir:Int) t z er cr.b cr.n cr.l cr.y cr.x cr.s) 48)
 have hall:Below w.heap.size w ((w.alloc (.cells (fq A1 A2 A3 A4 c1 c2 c3 c4 f) 28)).alloc (.cells (kA13 2 (il:Int) (io:Int) (ir:Int) t z er cr.b cr.n cr.l cr.y cr.x cr.s) 48)):=((Below.refl _ w).alloc (Nat.le_refl _) _).alloc (by simp) _
 have l01:=ld_row kf Tryz.underlying28 rfl info_fld
 have l02:=ld_row kc Tryz.underlying48 rfl info_cal
 obtain⟨g2,o2,hA2,hg2,u1⟩:=Nms.at1 hf.li l1
 obtain⟨g1,o1,hA1,hg1,u2,-⟩:=Stas.at2 hf.st l2
 rw[e1]at u1
 rw[e2]at u2
 obtain⟨g2',o2',hA2',_,u3⟩:=Nms.at1 hf.li l3
 rw[hA2]at hA2'
 obtain⟨rfl,rfl⟩:g2=g2'∧o2=o2':=by simpa using hA2'
 clear hA2'
 rw[e3]at u3
 subst hA1 hA2
 have j1:(0:Int)<=(il:Int):=by omega
 have j2:(il:Int)<(f.li.length:Int):=by omega
 have j3:(0:Int)<=(ir:Int):=by omega
 have j4:(ir:Int)<(f.st.length:Int):=by omega
 have j5:(0:Int)<=(io:Int):=by omega
 have j6:(io:Int)<(f.li.length:Int):=by omega
 have hz:(Lib.itoa z).length<=21:=Lib.itoa_length_le z (by omega) (by omega)
 have her:(Lib.itoa er).length<=21:=Lib.itoa_length_le er (by omega) (by omega)
 have t1:=fun W=>addP [119,105,100,116,104] [32] (by decide) (by decide) W
 obtain⟨Q1,hQ1⟩: ∃X,([119,105,100,116,104]:List UInt8)++[32]=X:=⟨_,rfl⟩
 have y1:Q1.length<=6:=by rw[<-hQ1];decide
 rw[hQ1]at t1 hT
 have t2:=fun W=>addP Q1 L1 (by omega) (by omega) W
 obtain⟨Q2,hQ2⟩: ∃X,Q1++L1=X:=⟨_,rfl⟩
 have y2:Q2.length<=1006:=by rw[<-hQ2];simp;omega
 rw[hQ2]at t2 hT
 have t3:=fun W=>addP Q2 [32] (by omega) (by decide) W
 obtain⟨Q3,hQ3⟩: ∃X,Q2++[32]=X:=⟨_,rfl⟩
 have y3:Q3.length<=1007:=by rw[<-hQ3];simp;omega
 rw[hQ3]at t3 hT
 have t4:=fun W=>addP Q3 L2 (by omega) (by omega) W
 obtain⟨Q4,hQ4⟩: ∃X,Q3++L2=X:=⟨_,rfl⟩
 have y4:Q4.length<=2007:=by rw[<-hQ4];simp;omega
 rw[hQ4]at t4 hT
 have t5:=fun W=>addP Q4 [32] (by omega) (by decide) W
 obtain⟨Q5,hQ5⟩: ∃X,Q4++[32]=X:=⟨_,rfl⟩
 have y5:Q5.length<=2008:=by rw[<-hQ5];simp;omega
 rw[hQ5]at t5 hT
 have t6:=fun W=>addP Q5 S1 (by omega) (by omega) W
 obtain⟨Q6,hQ6⟩: ∃X,Q5++S1=X:=⟨_,rfl⟩
 have y6:Q6.length<=3008:=by rw[<-hQ6];simp;omega
 rw[hQ6]at t6 hT
 have t7:=fun W=>addP Q6 [32] (by omega) (by decide) W
 obtain⟨Q7,hQ7⟩: ∃X,Q6++[32]=X:=⟨_,rfl⟩
 have y7:Q7.length<=3009:=by rw[<-hQ7];simp;omega
 rw[hQ7]at t7 hT
 have t8:=fun W=>addP Q7 (Lib.itoa z) (by omega) (by omega) W
 obtain⟨Q8,hQ8⟩: ∃X,Q7++Lib.itoa z=X:=⟨_,rfl⟩
 have y8:Q8.length<=3030:=by rw[<-hQ8];simp;omega
 rw[hQ8]at t8 hT
 have t9:=fun W=>addP Q8 [32] (by omega) (by decide) W
 obtain⟨Q9,hQ9⟩: ∃X,Q8++[32]=X:=⟨_,rfl⟩
 have y9:Q9.length<=3031:=by rw[<-hQ9];simp;omega
 rw[hQ9]at t9 hT
 have t10:=fun W=>addP Q9 (Lib.itoa er) (by omega) (by omega) W
 rw[hT.out]at t10
 have dz:=fun W=>digits3_a z W (by omega) (by omega)
 have de:=fun W=>digits3_a er W (by omega) (by omega)
 obtain⟨tk1,_⟩: ∃n:Nat,n=n:=⟨0,rfl⟩
 clear e1 e2 b1 b2 l1 l2 hf hT e3 b3 l3 z0 r0 hQ1 y1 hQ2 y2 hQ3 y3 hQ4 y4 hQ5 y5 hQ6 y6 hQ7 y7 hQ8 y8 hQ9 y9 hz her
 go_enter Tryz.func30,Tryz.ntmps30
 go_wp2_with fail
 refine(pk _ hall).mono ?_
 rintro e w1 ⟨rfl,hx⟩
 have kf:=kE hx kf
 have kc:=kE hx kc
 have hall:Below w.heap.size w w1:=hall.trans (hx.mono hall.size)
 have kf:=(show w1.drew.heap[w.heap.size]?=_ from kf)
 have kc:=(show w1.drew.heap[w.heap.size+1]?=_ from kc)
 have hall0:=hall
 have hall:=hall.drew
 have u1:=(hall.cell (p:=⟨g2,o2+il,none⟩) hg2).trans u1
 have u2:=(hall.cell (p:=⟨g1,o1+ir*2,none⟩) hg1).trans u2
 have u3:=(hall.cell (p:=⟨g2,o2+io,none⟩) hg2).trans u3
 clear l01 l02 hx pk hg1 hg2
 obtain⟨hcf,hff⟩:=blk_cells kf
 obtain⟨hcc,hfc⟩:=blk_cells kc
 go_wp2_with fail
 go_region_held3 (fun W=>W.cell? ⟨w.heap.size,1,none⟩=some (.slice (some ⟨g2,o2,none⟩) f.li.length c2)∧W.cell? ⟨w.heap.size+1,0,none⟩=some (.int .u8 2)∧W.cell? ⟨w.heap.size+1,1,none⟩=some (.int .i64 (il:Int))∧W.cell? ⟨g2,o2+il,none⟩=some (.string ⟨L1.toArray⟩)) (exact⟨hcf 1,hcc 0,hcc 1,u1⟩) (first|(go_at_call 92;refine(verb_2 _).mono ?_;rintro e w' ⟨rfl,rfl⟩))
 all_goals go_wp2
 all_goals go_region_held3 (fun W=>W.cell? ⟨w.heap.size+1,5,none⟩=some (.int .i64 z)∧W.cell? ⟨w.heap.size+1,6,none⟩=some (.int .i64 er)) (first|exact⟨hcc 5,hcc 6⟩|exact⟨hcc4 5,hcc4 6⟩|exact⟨hcc2 5,hcc2 6⟩) (first
  |(go_at_call 95;clear tk1;refine(dz _).mono ?_;rintro e w2 ⟨rfl,hx⟩;have kc2:=kE hx kc;obtain⟨hcc2,hfc2⟩:=blk_cells kc2;have hall2:Below w.heap.size w w2:=(by first|exact hall.drew.trans (hx.mono hall.size)|exact hall.trans (hx.mono hall.size));clear hx)
  |(go_at_call 95;refine(de _).mono ?_;rintro e w4 ⟨rfl,hx⟩;have kc4:=kE hx kc2;obtain⟨hcc4,hfc4⟩:=blk_cells kc4;have hall4:Below w.heap.size w w4:=hall2.trans (hx.mono hall2.size);clear hx))
 all_goals go_wp2
 all_goals go_ret2
 all_goals exact⟨rfl,hall4⟩
set_option maxHeartbeats 8000000 in
theorem wc_course (il ir it:Nat)(o z er:Int)(cr:Pl.Crs)(L1 S1 S2 U V T:List UInt8)(w:World)(hf:FldS w w.heap.size A1 A2 A3 A4 f)
  (l1:il<f.li.length) (l2:ir<f.st.length) (e1:f.li[il]=⟨L1.toArray⟩) (e2:f.st[ir].1=⟨S1.toArray⟩) (b1:L1.length<=1000) (b2:S1.length<=1000) (l4:it<f.st.length) (e4:f.st[it].1=⟨S2.toArray⟩) (b4:S2.length<=1000) (e5:Pl.lengthV cr.l=⟨U.toArray⟩) (b5:U.length<=1000) (e6:Pl.quadB cr.b=⟨V.toArray⟩) (b6:V.length<=1000) (n0: -1000000<=cr.n∧cr.n<=1000000) (x0: -1000000<=cr.x∧cr.x<=1000000) (s0: -1000000<=cr.s∧cr.s<=1000000)
  (hT:Hid (((((((((((((((([99,111,117,114,115,101]++[32])++L1)++[32])++S1)++[32])++S2)++[32])++U)++[32,98,121,32])++V)++[32,103,105,118,101,32])++Lib.itoa cr.n)++[32,119,101,97,114,32])++Lib.itoa cr.x)++[32,115,108,97,99,107,32])++Lib.itoa cr.s=T))
  (pk: ∀W,Below w.heap.size w W->Calls Tryz.prog 68 #[.agg (fq A1 A2 A3 A4 c1 c2 c3 c4 f),.agg (kA13 3 (il:Int) o (ir:Int) (it:Int) z er cr.b cr.n cr.l cr.y cr.x cr.s)] W fun e w'=>e=.returned (.int .i64 0)∧Below W.heap.size W w'):
  Calls Tryz.prog 30 #[.agg (fq A1 A2 A3 A4 c1 c2 c3 c4 f),.agg (kA13 3 (il:Int) o (ir:Int) (it:Int) z er cr.b cr.n cr.l cr.y cr.x cr.s)] w fun e w'=>e=.returned (.tuple #[.string ⟨T.toArray⟩,.int .i64 0])∧Below w.heap.size w w':=by
 have kf:=heap_alloc2_old w (.cells (fq A1 A2 A3 A4 c1 c2 c3 c4 f) 28) (.cells (kA13 3 (il:Int) o (ir:Int) (it:Int) z er cr.b cr.n cr.l cr.y cr.x cr.s) 48)
 have kc:=heap_alloc2_new w (.cells (fq A1 A2 A3 A4 c1 c2 c3 c4 f) 28) (.cells (kA13 3 (il:Int) o (ir:Int) (it:Int) z er cr.b cr.n cr.l cr.y cr.x cr.s) 48)
 have hall:Below w.heap.size w ((w.alloc (.cells (fq A1 A2 A3 A4 c1 c2 c3 c4 f) 28)).alloc (.cells (kA13 3 (il:Int) o (ir:Int) (it:Int) z er cr.b cr.n cr.l cr.y cr.x cr.s) 48)):=((Below.refl _ w).alloc (Nat.le_refl _) _).alloc (by simp) _
 have l01:=ld_row kf Tryz.underlying28 rfl info_fld
 have l02:=ld_row kc Tryz.underlying48 rfl info_cal
 obtain⟨g2,o2,hA2,hg2,u1⟩:=Nms.at1 hf.li l1
 obtain⟨g1,o1,hA1,hg1,u2,-⟩:=Stas.at2 hf.st l2
 rw[e1]at u1
 rw[e2]at u2
 obtain⟨g1',o1',hA1',_,u4,-⟩:=Stas.at2 hf.st l4
 rw[hA1]at hA1'
 obtain⟨rfl,rfl⟩:g1=g1'∧o1=o1':=by simpa using hA1'
 clear hA1'
 rw[e4]at u4
 subst hA1 hA2
 have j1:(0:Int)<=(il:Int):=by omega
 have j2:(il:Int)<(f.li.length:Int):=by omega
 have j3:(0:Int)<=(ir:Int):=by omega
 have j4:(ir:Int)<(f.st.length:Int):=by omega
 have j7:(0:Int)<=(it:Int):=by omega
 have j8:(it:Int)<(f.st.length:Int):=by omega
 have hn:(Lib.itoa cr.n).length<=21:=Lib.itoa_length_le cr.n (by omega) (by omega)
 have hxx:(Lib.itoa cr.x).length<=21:=Lib.itoa_length_le cr.x (by omega) (by omega)
 have hs:(Lib.itoa cr.s).length<=21:=Lib.itoa_length_le cr.s (by omega) (by omega)
 have t1:=fun W=>addP [99,111,117,114,115,101] [32] (by decide) (by decide) W
 obtain⟨Q1,hQ1⟩: ∃X,([99,111,117,114,115,101]:List UInt8)++[32]=X:=⟨_,rfl⟩
 have y1:Q1.length<=7:=by rw[<-hQ1];decide
 rw[hQ1]at t1 hT
 have t2:=fun W=>addP Q1 L1 (by omega) (by omega) W
 obtain⟨Q2,hQ2⟩: ∃X,Q1++L1=X:=⟨_,rfl⟩
 have y2:Q2.length<=1007:=by rw[<-hQ2];simp;omega
 rw[hQ2]at t2 hT
 have t3:=fun W=>addP Q2 [32] (by omega) (by decide) W
 obtain⟨Q3,hQ3⟩: ∃X,Q2++[32]=X:=⟨_,rfl⟩
 have y3:Q3.length<=1008:=by rw[<-hQ3];simp;omega
 rw[hQ3]at t3 hT
 have t4:=fun W=>addP Q3 S1 (by omega) (by omega) W
 obtain⟨Q4,hQ4⟩: ∃X,Q3++S1=X:=⟨_,rfl⟩
 have y4:Q4.length<=2008:=by rw[<-hQ4];simp;omega
 rw[hQ4]at t4 hT
 have t5:=fun W=>addP Q4 [32] (by omega) (by decide) W
 obtain⟨Q5,hQ5⟩: ∃X,Q4++[32]=X:=⟨_,rfl⟩
 have y5:Q5.length<=2009:=by rw[<-hQ5];simp;omega
 rw[hQ5]at t5 hT
 have t6:=fun W=>addP Q5 S2 (by omega) (by omega) W
 obtain⟨Q6,hQ6⟩: ∃X,Q5++S2=X:=⟨_,rfl⟩
 have y6:Q6.length<=3009:=by rw[<-hQ6];simp;omega
 rw[hQ6]at t6 hT
 have t7:=fun W=>addP Q6 [32] (by omega) (by decide) W
 obtain⟨Q7,hQ7⟩: ∃X,Q6++[32]=X:=⟨_,rfl⟩
 have y7:Q7.length<=3010:=by rw[<-hQ7];simp;omega
 rw[hQ7]at t7 hT
 have t8:=fun W=>addP Q7 U (by omega) (by omega) W
 obtain⟨Q8,hQ8⟩: ∃X,Q7++U=X:=⟨_,rfl⟩
 have y8:Q8.length<=4010:=by rw[<-hQ8];simp;omega
 rw[hQ8]at t8 hT
 have t9:=fun W=>addP Q8 [32,98,121,32] (by omega) (by decide) W
 obtain⟨Q9,hQ9⟩: ∃X,Q8++[32,98,121,32]=X:=⟨_,rfl⟩
 have y9:Q9.length<=4014:=by rw[<-hQ9];simp;omega
 rw[hQ9]at t9 hT
 have t10:=fun W=>addP Q9 V (by omega) (by omega) W
 obtain⟨Q10,hQ10⟩: ∃X,Q9++V=X:=⟨_,rfl⟩
 have y10:Q10.length<=5014:=by rw[<-hQ10];simp;omega
 rw[hQ10]at t10 hT
 have t11:=fun W=>addP Q10 [32,103,105,118,101,32] (by omega) (by decide) W
 obtain⟨Q11,hQ11⟩: ∃X,Q10++[32,103,105,118,101,32]=X:=⟨_,rfl⟩
 have y11:Q11.length<=5020:=by rw[<-hQ11];simp;omega
 rw[hQ11]at t11 hT
 have t12:=fun W=>addP Q11 (Lib.itoa cr.n) (by omega) (by omega) W
 obtain⟨Q12,hQ12⟩: ∃X,Q11++Lib.itoa cr.n=X:=⟨_,rfl⟩
 have y12:Q12.length<=5041:=by rw[<-hQ12];simp;omega
 rw[hQ12]at t12 hT
 have t13:=fun W=>addP Q12 [32,119,101,97,114,32] (by omega) (by decide) W
 obtain⟨Q13,hQ13⟩: ∃X,Q12++[32,119,101,97,114,32]=X:=⟨_,rfl⟩
 have y13:Q13.length<=5047:=by rw[<-hQ13];simp;omega
 rw[hQ13]at t13 hT
 have t14:=fun W=>addP Q13 (Lib.itoa cr.x) (by omega) (by omega) W
 obtain⟨Q14,hQ14⟩: ∃X,Q13++Lib.itoa cr.x=X:=⟨_,rfl⟩
 have y14:Q14.length<=5068:=by rw[<-hQ14];simp;omega
 rw[hQ14]at t14 hT
 have t15:=fun W=>addP Q14 [32,115,108,97,99,107,32] (by omega) (by decide) W
 obtain⟨Q15,hQ15⟩: ∃X,Q14++[32,115,108,97,99,107,32]=X:=⟨_,rfl⟩
 have y15:Q15.length<=5075:=by rw[<-hQ15];simp;omega
 rw[hQ15]at t15 hT
 have t16:=fun W=>addP Q15 (Lib.itoa cr.s) (by omega) (by omega) W
 rw[hT.out]at t16
 have dl:=fun W=>length_b cr.l W
 rw[e5]at dl
 have dq:=fun W=>quad_b cr.b W
 rw[show(⟨(Pl.quad cr.b).toArray⟩:ByteArray)=⟨V.toArray⟩ from e6]at dq
 have dn:=fun W=>digits3_a cr.n W (by omega) (by omega)
 have dx:=fun W=>digits3_a cr.x W (by omega) (by omega)
 have ds:=fun W=>digits3_a cr.s W (by omega) (by omega)
 obtain⟨tk1,_⟩: ∃n:Nat,n=n:=⟨0,rfl⟩
 obtain⟨tk2,_⟩: ∃n:Nat,n=n:=⟨0,rfl⟩
 clear e1 e2 b1 b2 l1 l2 hf hT e4 b4 l4 e5 b5 e6 b6 n0 x0 s0 hQ1 y1 hQ2 y2 hQ3 y3 hQ4 y4 hQ5 y5 hQ6 y6 hQ7 y7 hQ8 y8 hQ9 y9 hQ10 y10 hQ11 y11 hQ12 y12 hQ13 y13 hQ14 y14 hQ15 y15 hn hxx hs
 go_enter Tryz.func30,Tryz.ntmps30
 go_wp2_with fail
 refine(pk _ hall).mono ?_
 rintro e w1 ⟨rfl,hx⟩
 have kf:=kE hx kf
 have kc:=kE hx kc
 have hall:Below w.heap.size w w1:=hall.trans (hx.mono hall.size)
 have kf:=(show w1.drew.heap[w.heap.size]?=_ from kf)
 have kc:=(show w1.drew.heap[w.heap.size+1]?=_ from kc)
 have hall0:=hall
 have hall:=hall.drew
 have u1:=(hall.cell (p:=⟨g2,o2+il,none⟩) hg2).trans u1
 have u2:=(hall.cell (p:=⟨g1,o1+ir*2,none⟩) hg1).trans u2
 have u4:=(hall.cell (p:=⟨g1,o1+it*2,none⟩) hg1).trans u4
 have l03:=ld_crsC kc
 clear l01 l02 hx pk hg1 hg2
 obtain⟨hcf,hff⟩:=blk_cells kf
 obtain⟨hcc,hfc⟩:=blk_cells kc
 go_wp2_with fail
 go_region_held3 (fun W=>W.cell? ⟨w.heap.size,1,none⟩=some (.slice (some ⟨g2,o2,none⟩) f.li.length c2)∧W.cell? ⟨w.heap.size+1,0,none⟩=some (.int .u8 3)∧W.cell? ⟨w.heap.size+1,1,none⟩=some (.int .i64 (il:Int))∧W.cell? ⟨g2,o2+il,none⟩=some (.string ⟨L1.toArray⟩)) (exact⟨hcf 1,hcc 0,hcc 1,u1⟩) (first|(go_at_call 92;refine(verb_3 _).mono ?_;rintro e w' ⟨rfl,rfl⟩))
 all_goals go_wp2
 obtain⟨w5,hw5⟩: ∃W,(w1.alloc (.cells (cq cr) 46)).drew=W:=⟨_,rfl⟩
 have kx:=(show(w1.alloc (.cells (cq cr) 46)).drew.heap[w1.heap.size]?=_ from heap_alloc_new w1 (.cells (cq cr) 46))
 have hall:=(hall0.alloc hall0.size (.cells (cq cr) 46)).drew
 rw[hw5]at kx hall ⊢
 obtain⟨hcx,hfx⟩:=blk_cells kx
 go_region_held3 (fun W=>W.cell? ⟨w1.heap.size,2,none⟩=some (.int .i64 cr.l)∧W.cell? ⟨w1.heap.size,0,none⟩=some (.int .i64 cr.b)∧W.cell? ⟨w1.heap.size,1,none⟩=some (.int .i64 cr.n)∧W.cell? ⟨w1.heap.size,4,none⟩=some (.int .i64 cr.x)∧W.cell? ⟨w1.heap.size,5,none⟩=some (.int .i64 cr.s)) (first|exact⟨hcx 2,hcx 0,hcx 1,hcx 4,hcx 5⟩|exact⟨hcx10 2,hcx10 0,hcx10 1,hcx10 4,hcx10 5⟩|exact⟨hcx9 2,hcx9 0,hcx9 1,hcx9 4,hcx9 5⟩|exact⟨hcx8 2,hcx8 0,hcx8 1,hcx8 4,hcx8 5⟩|exact⟨hcx7 2,hcx7 0,hcx7 1,hcx7 4,hcx7 5⟩|exact⟨hcx6 2,hcx6 0,hcx6 1,hcx6 4,hcx6 5⟩) (first
  |(go_at_call 93;refine(dl _).mono ?_;rintro e w6 ⟨rfl,hx⟩;have kx6:=kE hx kx;obtain⟨hcx6,hfx6⟩:=blk_cells kx6;have hall6:Below w.heap.size w w6:=(by first|exact hall.drew.trans (hx.mono hall.size)|exact hall.trans (hx.mono hall.size));clear hx)
  |(go_at_call 94;refine(dq _).mono ?_;rintro e w7 ⟨rfl,hx⟩;have kx7:=kE hx kx6;obtain⟨hcx7,hfx7⟩:=blk_cells kx7;have hall7:Below w.heap.size w w7:=(by first|exact hall6.drew.trans (hx.mono hall6.size)|exact hall6.trans (hx.mono hall6.size));clear hx)
  |(go_at_call 95;clear tk1;refine(dn _).mono ?_;rintro e w8 ⟨rfl,hx⟩;have kx8:=kE hx kx7;obtain⟨hcx8,hfx8⟩:=blk_cells kx8;have hall8:Below w.heap.size w w8:=(by first|exact hall7.drew.trans (hx.mono hall7.size)|exact hall7.trans (hx.mono hall7.size));clear hx)
  |(go_at_call 95;clear tk2;refine(dx _).mono ?_;rintro e w9 ⟨rfl,hx⟩;have kx9:=kE hx kx8;obtain⟨hcx9,hfx9⟩:=blk_cells kx9;have hall9:Below w.heap.size w w9:=(by first|exact hall8.drew.trans (hx.mono hall8.size)|exact hall8.trans (hx.mono hall8.size));clear hx)
  |(go_at_call 95;refine(ds _).mono ?_;rintro e w10 ⟨rfl,hx⟩;have kx10:=kE hx kx9;obtain⟨hcx10,hfx10⟩:=blk_cells kx10;have hall10:Below w.heap.size w w10:=(by first|exact hall9.drew.trans (hx.mono hall9.size)|exact hall9.trans (hx.mono hall9.size));clear hx))
 all_goals go_wp2
 all_goals go_ret2
 all_goals exact⟨rfl,hall10⟩
set_option maxHeartbeats 8000000 in
theorem wc_along (il ir io it:Nat)(z er:Int)(cr:Pl.Crs)(L1 S1 L2 S2 T:List UInt8)(w:World)(hf:FldS w w.heap.size A1 A2 A3 A4 f)
  (l1:il<f.li.length) (l2:ir<f.st.length) (e1:f.li[il]=⟨L1.toArray⟩) (e2:f.st[ir].1=⟨S1.toArray⟩) (b1:L1.length<=1000) (b2:S1.length<=1000) (l3:io<f.li.length) (e3:f.li[io]=⟨L2.toArray⟩) (b3:L2.length<=1000) (l4:it<f.st.length) (e4:f.st[it].1=⟨S2.toArray⟩) (b4:S2.length<=1000)
  (hT:Hid (((((((([97,108,111,110,103]++[32])++L1)++[32])++L2)++[32])++S1)++[32])++S2=T))
  (pk: ∀W,Below w.heap.size w W->Calls Tryz.prog 68 #[.agg (fq A1 A2 A3 A4 c1 c2 c3 c4 f),.agg (kA13 4 (il:Int) (io:Int) (ir:Int) (it:Int) z er cr.b cr.n cr.l cr.y cr.x cr.s)] W fun e w'=>e=.returned (.int .i64 0)∧Below W.heap.size W w'):
  Calls Tryz.prog 30 #[.agg (fq A1 A2 A3 A4 c1 c2 c3 c4 f),.agg (kA13 4 (il:Int) (io:Int) (ir:Int) (it:Int) z er cr.b cr.n cr.l cr.y cr.x cr.s)] w fun e w'=>e=.returned (.tuple #[.string ⟨T.toArray⟩,.int .i64 0])∧Below w.heap.size w w':=by
 have kf:=heap_alloc2_old w (.cells (fq A1 A2 A3 A4 c1 c2 c3 c4 f) 28) (.cells (kA13 4 (il:Int) (io:Int) (ir:Int) (it:Int) z er cr.b cr.n cr.l cr.y cr.x cr.s) 48)
 have kc:=heap_alloc2_new w (.cells (fq A1 A2 A3 A4 c1 c2 c3 c4 f) 28) (.cells (kA13 4 (il:Int) (io:Int) (ir:Int) (it:Int) z er cr.b cr.n cr.l cr.y cr.x cr.s) 48)
 have hall:Below w.heap.size w ((w.alloc (.cells (fq A1 A2 A3 A4 c1 c2 c3 c4 f) 28)).alloc (.cells (kA13 4 (il:Int) (io:Int) (ir:Int) (it:Int) z er cr.b cr.n cr.l cr.y cr.x cr.s) 48)):=((Below.refl _ w).alloc (Nat.le_refl _) _).alloc (by simp) _
 have l01:=ld_row kf Tryz.underlying28 rfl info_fld
 have l02:=ld_row kc Tryz.underlying48 rfl info_cal
 obtain⟨g2,o2,hA2,hg2,u1⟩:=Nms.at1 hf.li l1
 obtain⟨g1,o1,hA1,hg1,u2,-⟩:=Stas.at2 hf.st l2
 rw[e1]at u1
 rw[e2]at u2
 obtain⟨g2',o2',hA2',_,u3⟩:=Nms.at1 hf.li l3
 rw[hA2]at hA2'
 obtain⟨rfl,rfl⟩:g2=g2'∧o2=o2':=by simpa using hA2'
 clear hA2'
 rw[e3]at u3
 obtain⟨g1',o1',hA1',_,u4,-⟩:=Stas.at2 hf.st l4
 rw[hA1]at hA1'
 obtain⟨rfl,rfl⟩:g1=g1'∧o1=o1':=by simpa using hA1'
 clear hA1'
 rw[e4]at u4
 subst hA1 hA2
 have j1:(0:Int)<=(il:Int):=by omega
 have j2:(il:Int)<(f.li.length:Int):=by omega
 have j3:(0:Int)<=(ir:Int):=by omega
 have j4:(ir:Int)<(f.st.length:Int):=by omega
 have j5:(0:Int)<=(io:Int):=by omega
 have j6:(io:Int)<(f.li.length:Int):=by omega
 have j7:(0:Int)<=(it:Int):=by omega
 have j8:(it:Int)<(f.st.length:Int):=by omega
 have t1:=fun W=>addP [97,108,111,110,103] [32] (by decide) (by decide) W
 obtain⟨Q1,hQ1⟩: ∃X,([97,108,111,110,103]:List UInt8)++[32]=X:=⟨_,rfl⟩
 have y1:Q1.length<=6:=by rw[<-hQ1];decide
 rw[hQ1]at t1 hT
 have t2:=fun W=>addP Q1 L1 (by omega) (by omega) W
 obtain⟨Q2,hQ2⟩: ∃X,Q1++L1=X:=⟨_,rfl⟩
 have y2:Q2.length<=1006:=by rw[<-hQ2];simp;omega
 rw[hQ2]at t2 hT
 have t3:=fun W=>addP Q2 [32] (by omega) (by decide) W
 obtain⟨Q3,hQ3⟩: ∃X,Q2++[32]=X:=⟨_,rfl⟩
 have y3:Q3.length<=1007:=by rw[<-hQ3];simp;omega
 rw[hQ3]at t3 hT
 have t4:=fun W=>addP Q3 L2 (by omega) (by omega) W
 obtain⟨Q4,hQ4⟩: ∃X,Q3++L2=X:=⟨_,rfl⟩
 have y4:Q4.length<=2007:=by rw[<-hQ4];simp;omega
 rw[hQ4]at t4 hT
 have t5:=fun W=>addP Q4 [32] (by omega) (by decide) W
 obtain⟨Q5,hQ5⟩: ∃X,Q4++[32]=X:=⟨_,rfl⟩
 have y5:Q5.length<=2008:=by rw[<-hQ5];simp;omega
 rw[hQ5]at t5 hT
 have t6:=fun W=>addP Q5 S1 (by omega) (by omega) W
 obtain⟨Q6,hQ6⟩: ∃X,Q5++S1=X:=⟨_,rfl⟩
 have y6:Q6.length<=3008:=by rw[<-hQ6];simp;omega
 rw[hQ6]at t6 hT
 have t7:=fun W=>addP Q6 [32] (by omega) (by decide) W
 obtain⟨Q7,hQ7⟩: ∃X,Q6++[32]=X:=⟨_,rfl⟩
 have y7:Q7.length<=3009:=by rw[<-hQ7];simp;omega
 rw[hQ7]at t7 hT
 have t8:=fun W=>addP Q7 S2 (by omega) (by omega) W
 rw[hT.out]at t8
 clear e1 e2 b1 b2 l1 l2 hf hT e3 b3 l3 e4 b4 l4 hQ1 y1 hQ2 y2 hQ3 y3 hQ4 y4 hQ5 y5 hQ6 y6 hQ7 y7
 go_enter Tryz.func30,Tryz.ntmps30
 go_wp2_with fail
 refine(pk _ hall).mono ?_
 rintro e w1 ⟨rfl,hx⟩
 have kf:=kE hx kf
 have kc:=kE hx kc
 have hall:Below w.heap.size w w1:=hall.trans (hx.mono hall.size)
 have kf:=(show w1.drew.heap[w.heap.size]?=_ from kf)
 have kc:=(show w1.drew.heap[w.heap.size+1]?=_ from kc)
 have hall0:=hall
 have hall:=hall.drew
 have u1:=(hall.cell (p:=⟨g2,o2+il,none⟩) hg2).trans u1
 have u2:=(hall.cell (p:=⟨g1,o1+ir*2,none⟩) hg1).trans u2
 have u3:=(hall.cell (p:=⟨g2,o2+io,none⟩) hg2).trans u3
 have u4:=(hall.cell (p:=⟨g1,o1+it*2,none⟩) hg1).trans u4
 clear l01 l02 hx pk hg1 hg2
 obtain⟨hcf,hff⟩:=blk_cells kf
 obtain⟨hcc,hfc⟩:=blk_cells kc
 go_wp2_with fail
 go_region_held3 (fun W=>W.cell? ⟨w.heap.size,1,none⟩=some (.slice (some ⟨g2,o2,none⟩) f.li.length c2)∧W.cell? ⟨w.heap.size+1,0,none⟩=some (.int .u8 4)∧W.cell? ⟨w.heap.size+1,1,none⟩=some (.int .i64 (il:Int))∧W.cell? ⟨g2,o2+il,none⟩=some (.string ⟨L1.toArray⟩)) (exact⟨hcf 1,hcc 0,hcc 1,u1⟩) (first|(go_at_call 92;refine(verb_4 _).mono ?_;rintro e w' ⟨rfl,rfl⟩))
 all_goals go_wp2
 all_goals go_ret2
 all_goals exact⟨rfl,by first|exact hall|exact hall.drew|(go_grown;done)⟩
set_option maxHeartbeats 8000000 in
theorem wc_level (il ir it:Nat)(o z er:Int)(cr:Pl.Crs)(L1 S1 S2 T:List UInt8)(w:World)(hf:FldS w w.heap.size A1 A2 A3 A4 f)
  (l1:il<f.li.length) (l2:ir<f.st.length) (e1:f.li[il]=⟨L1.toArray⟩) (e2:f.st[ir].1=⟨S1.toArray⟩) (b1:L1.length<=1000) (b2:S1.length<=1000) (l4:it<f.st.length) (e4:f.st[it].1=⟨S2.toArray⟩) (b4:S2.length<=1000) (z0: -1000000<=z∧z<=1000000) (r0: -1000000<=er∧er<=1000000)
  (hT:Hid (((((((((([108,101,118,101,108]++[32])++L1)++[32])++S1)++[32])++S2)++[32])++Lib.itoa z)++[32])++Lib.itoa er=T))
  (pk: ∀W,Below w.heap.size w W->Calls Tryz.prog 68 #[.agg (fq A1 A2 A3 A4 c1 c2 c3 c4 f),.agg (kA13 5 (il:Int) o (ir:Int) (it:Int) z er cr.b cr.n cr.l cr.y cr.x cr.s)] W fun e w'=>e=.returned (.int .i64 0)∧Below W.heap.size W w'):
  Calls Tryz.prog 30 #[.agg (fq A1 A2 A3 A4 c1 c2 c3 c4 f),.agg (kA13 5 (il:Int) o (ir:Int) (it:Int) z er cr.b cr.n cr.l cr.y cr.x cr.s)] w fun e w'=>e=.returned (.tuple #[.string ⟨T.toArray⟩,.int .i64 0])∧Below w.heap.size w w':=by
 have kf:=heap_alloc2_old w (.cells (fq A1 A2 A3 A4 c1 c2 c3 c4 f) 28) (.cells (kA13 5 (il:Int) o (ir:Int) (it:Int) z er cr.b cr.n cr.l cr.y cr.x cr.s) 48)
 have kc:=heap_alloc2_new w (.cells (fq A1 A2 A3 A4 c1 c2 c3 c4 f) 28) (.cells (kA13 5 (il:Int) o (ir:Int) (it:Int) z er cr.b cr.n cr.l cr.y cr.x cr.s) 48)
 have hall:Below w.heap.size w ((w.alloc (.cells (fq A1 A2 A3 A4 c1 c2 c3 c4 f) 28)).alloc (.cells (kA13 5 (il:Int) o (ir:Int) (it:Int) z er cr.b cr.n cr.l cr.y cr.x cr.s) 48)):=((Below.refl _ w).alloc (Nat.le_refl _) _).alloc (by simp) _
 have l01:=ld_row kf Tryz.underlying28 rfl info_fld
 have l02:=ld_row kc Tryz.underlying48 rfl info_cal
 obtain⟨g2,o2,hA2,hg2,u1⟩:=Nms.at1 hf.li l1
 obtain⟨g1,o1,hA1,hg1,u2,-⟩:=Stas.at2 hf.st l2
 rw[e1]at u1
 rw[e2]at u2
 obtain⟨g1',o1',hA1',_,u4,-⟩:=Stas.at2 hf.st l4
 rw[hA1]at hA1'
 obtain⟨rfl,rfl⟩:g1=g1'∧o1=o1':=by simpa using hA1'
 clear hA1'
 rw[e4]at u4
 subst hA1 hA2
 have j1:(0:Int)<=(il:Int):=by omega
 have j2:(il:Int)<(f.li.length:Int):=by omega
 have j3:(0:Int)<=(ir:Int):=by omega
 have j4:(ir:Int)<(f.st.length:Int):=by omega
 have j7:(0:Int)<=(it:Int):=by omega
 have j8:(it:Int)<(f.st.length:Int):=by omega
 have hz:(Lib.itoa z).length<=21:=Lib.itoa_length_le z (by omega) (by omega)
 have her:(Lib.itoa er).length<=21:=Lib.itoa_length_le er (by omega) (by omega)
 have t1:=fun W=>addP [108,101,118,101,108] [32] (by decide) (by decide) W
 obtain⟨Q1,hQ1⟩: ∃X,([108,101,118,101,108]:List UInt8)++[32]=X:=⟨_,rfl⟩
 have y1:Q1.length<=6:=by rw[<-hQ1];decide
 rw[hQ1]at t1 hT
 have t2:=fun W=>addP Q1 L1 (by omega) (by omega) W
 obtain⟨Q2,hQ2⟩: ∃X,Q1++L1=X:=⟨_,rfl⟩
 have y2:Q2.length<=1006:=by rw[<-hQ2];simp;omega
 rw[hQ2]at t2 hT
 have t3:=fun W=>addP Q2 [32] (by omega) (by decide) W
 obtain⟨Q3,hQ3⟩: ∃X,Q2++[32]=X:=⟨_,rfl⟩
 have y3:Q3.length<=1007:=by rw[<-hQ3];simp;omega
 rw[hQ3]at t3 hT
 have t4:=fun W=>addP Q3 S1 (by omega) (by omega) W
 obtain⟨Q4,hQ4⟩: ∃X,Q3++S1=X:=⟨_,rfl⟩
 have y4:Q4.length<=2007:=by rw[<-hQ4];simp;omega
 rw[hQ4]at t4 hT
 have t5:=fun W=>addP Q4 [32] (by omega) (by decide) W
 obtain⟨Q5,hQ5⟩: ∃X,Q4++[32]=X:=⟨_,rfl⟩
 have y5:Q5.length<=2008:=by rw[<-hQ5];simp;omega
 rw[hQ5]at t5 hT
 have t6:=fun W=>addP Q5 S2 (by omega) (by omega) W
 obtain⟨Q6,hQ6⟩: ∃X,Q5++S2=X:=⟨_,rfl⟩
 have y6:Q6.length<=3008:=by rw[<-hQ6];simp;omega
 rw[hQ6]at t6 hT
 have t7:=fun W=>addP Q6 [32] (by omega) (by decide) W
 obtain⟨Q7,hQ7⟩: ∃X,Q6++[32]=X:=⟨_,rfl⟩
 have y7:Q7.length<=3009:=by rw[<-hQ7];simp;omega
 rw[hQ7]at t7 hT
 have t8:=fun W=>addP Q7 (Lib.itoa z) (by omega) (by omega) W
 obtain⟨Q8,hQ8⟩: ∃X,Q7++Lib.itoa z=X:=⟨_,rfl⟩
 have y8:Q8.length<=3030:=by rw[<-hQ8];simp;omega
 rw[hQ8]at t8 hT
 have t9:=fun W=>addP Q8 [32] (by omega) (by decide) W
 obtain⟨Q9,hQ9⟩: ∃X,Q8++[32]=X:=⟨_,rfl⟩
 have y9:Q9.length<=3031:=by rw[<-hQ9];simp;omega
 rw[hQ9]at t9 hT
 have t10:=fun W=>addP Q9 (Lib.itoa er) (by omega) (by omega) W
 rw[hT.out]at t10
 have dz:=fun W=>digits3_a z W (by omega) (by omega)
 have de:=fun W=>digits3_a er W (by omega) (by omega)
 obtain⟨tk1,_⟩: ∃n:Nat,n=n:=⟨0,rfl⟩
 clear e1 e2 b1 b2 l1 l2 hf hT e4 b4 l4 z0 r0 hQ1 y1 hQ2 y2 hQ3 y3 hQ4 y4 hQ5 y5 hQ6 y6 hQ7 y7 hQ8 y8 hQ9 y9 hz her
 go_enter Tryz.func30,Tryz.ntmps30
 go_wp2_with fail
 refine(pk _ hall).mono ?_
 rintro e w1 ⟨rfl,hx⟩
 have kf:=kE hx kf
 have kc:=kE hx kc
 have hall:Below w.heap.size w w1:=hall.trans (hx.mono hall.size)
 have kf:=(show w1.drew.heap[w.heap.size]?=_ from kf)
 have kc:=(show w1.drew.heap[w.heap.size+1]?=_ from kc)
 have hall0:=hall
 have hall:=hall.drew
 have u1:=(hall.cell (p:=⟨g2,o2+il,none⟩) hg2).trans u1
 have u2:=(hall.cell (p:=⟨g1,o1+ir*2,none⟩) hg1).trans u2
 have u4:=(hall.cell (p:=⟨g1,o1+it*2,none⟩) hg1).trans u4
 clear l01 l02 hx pk hg1 hg2
 obtain⟨hcf,hff⟩:=blk_cells kf
 obtain⟨hcc,hfc⟩:=blk_cells kc
 go_wp2_with fail
 go_region_held3 (fun W=>W.cell? ⟨w.heap.size,1,none⟩=some (.slice (some ⟨g2,o2,none⟩) f.li.length c2)∧W.cell? ⟨w.heap.size+1,0,none⟩=some (.int .u8 5)∧W.cell? ⟨w.heap.size+1,1,none⟩=some (.int .i64 (il:Int))∧W.cell? ⟨g2,o2+il,none⟩=some (.string ⟨L1.toArray⟩)) (exact⟨hcf 1,hcc 0,hcc 1,u1⟩) (first|(go_at_call 92;refine(verb_5 _).mono ?_;rintro e w' ⟨rfl,rfl⟩))
 all_goals go_wp2
 all_goals go_region_held3 (fun W=>W.cell? ⟨w.heap.size+1,5,none⟩=some (.int .i64 z)∧W.cell? ⟨w.heap.size+1,6,none⟩=some (.int .i64 er)) (first|exact⟨hcc 5,hcc 6⟩|exact⟨hcc4 5,hcc4 6⟩|exact⟨hcc2 5,hcc2 6⟩) (first
  |(go_at_call 95;clear tk1;refine(dz _).mono ?_;rintro e w2 ⟨rfl,hx⟩;have kc2:=kE hx kc;obtain⟨hcc2,hfc2⟩:=blk_cells kc2;have hall2:Below w.heap.size w w2:=(by first|exact hall.drew.trans (hx.mono hall.size)|exact hall.trans (hx.mono hall.size));clear hx)
  |(go_at_call 95;refine(de _).mono ?_;rintro e w4 ⟨rfl,hx⟩;have kc4:=kE hx kc2;obtain⟨hcc4,hfc4⟩:=blk_cells kc4;have hall4:Below w.heap.size w w4:=hall2.trans (hx.mono hall2.size);clear hx))
 all_goals go_wp2
 all_goals go_ret2
 all_goals exact⟨rfl,hall4⟩
end Go.Proofs.YtgbpekeoegfjpaaGreatDoor
set_option maxRecDepth 100000
namespace Go.Proofs.YtgbpekeoegfjpaaGreatDoor
open Go.RowKit
variable (A1 A2 A3 A4 : Option Addr) (c1 c2 c3 c4 : Nat) (f : Pl.Fld)
attribute [-go_sem] run_equalIn_agg loadVar storeVar
attribute [local go_sem] lv_int lv_bool lv_u8 lv_string
theorem lineT_of {f:Pl.Fld}{c:Pl.Cal}{ws:List ByteArray}(h:Pl.callW f c=ws):(⟨(Lib.join (ws.map (fun x:ByteArray=>x.data.toList)) [32]).toArray⟩:ByteArray)=Pl.lineB f c:=by
 unfold Pl.lineB Pl.joinB Pl.mkB
 rw[h]
theorem endT_of {f:Pl.Fld}{c:Pl.Cal}{ws:List ByteArray}{F:FuncId}{A:Array Value}{w:World}(h:Pl.callW f c=ws)(hc:Calls Tryz.prog F A w fun e w'=>e=.returned (.tuple #[.string ⟨(Lib.join (ws.map (fun x:ByteArray=>x.data.toList)) [32]).toArray⟩,.int .i64 0])∧Below w.heap.size w w'):
  Calls Tryz.prog F A w fun e w'=>e=.returned (.tuple #[.string (Pl.lineB f c),.int .i64 0])∧Below w.heap.size w w':=by
 rw[lineT_of h]at hc
 exact hc
set_option maxHeartbeats 2000000 in
theorem writeOk_b (c:Pl.Cal)(w:World)(hf:FldS w w.heap.size A1 A2 A3 A4 f)(hF:Pl.fieldE f=0)(hC:Pl.callE f c=0)
  (pk: ∀W,Below w.heap.size w W->Calls Tryz.prog 68 #[.agg (fq A1 A2 A3 A4 c1 c2 c3 c4 f),.agg (kq c)] W fun e w'=>e=.returned (.int .i64 0)∧Below W.heap.size W w'):
  Calls Tryz.prog 30 #[.agg (fq A1 A2 A3 A4 c1 c2 c3 c4 f),.agg (kq c)] w fun e w'=>e=.returned (.tuple #[.string (Pl.lineB f c),.int .i64 0])∧Below w.heap.size w w':=by
 have hok:=Pl.fieldE_ok hF
 have ht:=Pl.callE_tab hC
 have hcr:c.kind=3->c.crs.ok=true:=fun hk=>(Pl.callE_three hC hk).1
 have hsz:=Pl.callW_size hok ht hcr
 obtain⟨ilim,hlim⟩: ∃n:Nat,c.lim=n:=⟨c.lim.toNat,by have:=ht.1;unfold Pl.inN at this;omega⟩
 have llim:ilim<f.li.length:=by have:=ht.1;unfold Pl.inN at this;omega
 obtain⟨ifr,hfr⟩: ∃n:Nat,c.fr=n:=⟨c.fr.toNat,by have:=ht.2.1;unfold Pl.inN at this;omega⟩
 have lfr:ifr<f.st.length:=by have:=ht.2.1;unfold Pl.inN at this;omega
 have a1:=liN_at hlim llim
 have a2:=stN_at hfr lfr
 have ez:(-1000000<=c.size∧c.size<=1000000)∧ -1000000<=c.er∧c.er<=1000000:=by have s:=ht.2.2;omega
 have far:c.kind=3∨c.kind=4∨c.kind=5-> ∃n:Nat,c.till=n∧n<f.st.length:=fun hk=>by
  have:=Pl.tab_far ht hk
  unfold Pl.inN at this
  exact⟨c.till.toNat,by omega,by omega⟩
 have oth:c.kind=2∨c.kind=4-> ∃n:Nat,c.oth=n∧n<f.li.length:=fun hk=>by
  have:=Pl.tab_oth ht hk
  unfold Pl.inN at this
  exact⟨c.oth.toNat,by omega,by omega⟩
 obtain⟨L1,x1,y1⟩:=ba_listP f.li[ilim]
 obtain⟨S1,x2,y2⟩:=ba_listP f.st[ifr].1
 rcases Pl.tab_kind ht with hk|hk|hk|hk|hk
 ·have e:Pl.callW f c=[Pl.wStone,f.li[ilim],f.st[ifr].1,Pl.spelt c.size,Pl.spelt c.er]:=by unfold Pl.callW;rw[if_pos hk,a1,a2]
  have v1:=hsz f.li[ilim] (by rw[e];simp)
  have v2:=hsz f.st[ifr].1 (by rw[e];simp)
  have h:=wc_stone A1 A2 A3 A4 c1 c2 c3 c4 f ilim ifr c.oth c.till c.size c.er c.crs L1 S1 w hf llim lfr x1 x2 (by omega) (by omega) ez.1 ez.2 (T:=Lib.join ([Pl.wStone,f.li[ilim],f.st[ifr].1,Pl.spelt c.size,Pl.spelt c.er].map (fun x:ByteArray=>x.data.toList)) [32]) (Lib.hid (by rw[x1,x2];simp[Lib.join_cons,Lib.joinTail,Pl.wStone,Pl.spelt])) (fun W hW=>by have:=pk W hW;rw[hk,hlim,hfr]at this;exact this)
  rw[hk,hlim,hfr]
  exact endT_of e h
 ·obtain⟨ioth,hoth,loth⟩:=oth (.inl hk)
  obtain⟨L2,x3,y3⟩:=ba_listP f.li[ioth]
  have e:Pl.callW f c=[Pl.wWidth,f.li[ilim],f.li[ioth],f.st[ifr].1,Pl.spelt c.size,Pl.spelt c.er]:=by unfold Pl.callW;rw[if_neg (by omega),if_pos hk,a1,a2,liN_at hoth loth]
  have v1:=hsz f.li[ilim] (by rw[e];simp)
  have v2:=hsz f.st[ifr].1 (by rw[e];simp)
  have v3:=hsz f.li[ioth] (by rw[e];simp)
  have h:=wc_width A1 A2 A3 A4 c1 c2 c3 c4 f ilim ifr ioth c.till c.size c.er c.crs L1 S1 L2 w hf llim lfr x1 x2 (by omega) (by omega) loth x3 (by omega) ez.1 ez.2 (T:=Lib.join ([Pl.wWidth,f.li[ilim],f.li[ioth],f.st[ifr].1,Pl.spelt c.size,Pl.spelt c.er].map (fun x:ByteArray=>x.data.toList)) [32]) (Lib.hid (by rw[x1,x2,x3];simp[Lib.join_cons,Lib.joinTail,Pl.wWidth,Pl.spelt])) (fun W hW=>by have:=pk W hW;rw[hk,hlim,hfr,hoth]at this;exact this)
  rw[hk,hlim,hfr,hoth]
  exact endT_of e h
 ·obtain⟨itill,htill,ltill⟩:=far (.inl hk)
  obtain⟨S2,x4,y4⟩:=ba_listP f.st[itill].1
  obtain⟨U,x5,y5⟩:=ba_listP (Pl.lengthV c.crs.l)
  obtain⟨V,x6,y6⟩:=ba_listP (Pl.quadB c.crs.b)
  obtain⟨⟨r0,r1⟩,⟨n0,n1⟩,⟨l0,l1⟩,_,⟨x0,x9⟩,s0,s1⟩:=Pl.Crs.ok_iff (hcr hk)
  have e:Pl.callW f c=[Pl.wCourse,f.li[ilim],f.st[ifr].1,f.st[itill].1,Pl.lengthV c.crs.l,Pl.wBy,Pl.quadB c.crs.b,Pl.wGive,Pl.spelt c.crs.n,Pl.wWear,Pl.spelt c.crs.x,Pl.wSlack,Pl.spelt c.crs.s]:=by
   unfold Pl.callW;rw[if_neg (by omega),if_neg (by omega),if_pos hk,a1,a2,stN_at htill ltill]
  have v1:=hsz f.li[ilim] (by rw[e];simp)
  have v2:=hsz f.st[ifr].1 (by rw[e];simp)
  have v4:=hsz f.st[itill].1 (by rw[e];simp)
  have v5:=hsz (Pl.lengthV c.crs.l) (by rw[e];simp)
  have v6:=hsz (Pl.quadB c.crs.b) (by rw[e];simp)
  have h:=wc_course A1 A2 A3 A4 c1 c2 c3 c4 f ilim ifr itill c.oth c.size c.er c.crs L1 S1 S2 U V w hf llim lfr x1 x2 (by omega) (by omega) ltill x4 (by omega) x5 (by omega) x6 (by omega) (by omega) (by omega) (by omega) (T:=Lib.join ([Pl.wCourse,f.li[ilim],f.st[ifr].1,f.st[itill].1,Pl.lengthV c.crs.l,Pl.wBy,Pl.quadB c.crs.b,Pl.wGive,Pl.spelt c.crs.n,Pl.wWear,Pl.spelt c.crs.x,Pl.wSlack,Pl.spelt c.crs.s].map (fun x:ByteArray=>x.data.toList)) [32]) (Lib.hid (by rw[x1,x2,x4,x5,x6];simp[Lib.join_cons,Lib.joinTail,Pl.wCourse,Pl.wBy,Pl.wGive,Pl.wWear,Pl.wSlack,Pl.spelt])) (fun W hW=>by have:=pk W hW;rw[hk,hlim,hfr,htill]at this;exact this)
  rw[hk,hlim,hfr,htill]
  exact endT_of e h
 ·obtain⟨itill,htill,ltill⟩:=far (.inr (.inl hk))
  obtain⟨ioth,hoth,loth⟩:=oth (.inr hk)
  obtain⟨L2,x3,y3⟩:=ba_listP f.li[ioth]
  obtain⟨S2,x4,y4⟩:=ba_listP f.st[itill].1
  have e:Pl.callW f c=[Pl.wAlong,f.li[ilim],f.li[ioth],f.st[ifr].1,f.st[itill].1]:=by unfold Pl.callW;rw[if_neg (by omega),if_neg (by omega),if_neg (by omega),if_pos hk,a1,a2,liN_at hoth loth,stN_at htill ltill]
  have v1:=hsz f.li[ilim] (by rw[e];simp)
  have v2:=hsz f.st[ifr].1 (by rw[e];simp)
  have v3:=hsz f.li[ioth] (by rw[e];simp)
  have v4:=hsz f.st[itill].1 (by rw[e];simp)
  have h:=wc_along A1 A2 A3 A4 c1 c2 c3 c4 f ilim ifr ioth itill c.size c.er c.crs L1 S1 L2 S2 w hf llim lfr x1 x2 (by omega) (by omega) loth x3 (by omega) ltill x4 (by omega) (T:=Lib.join ([Pl.wAlong,f.li[ilim],f.li[ioth],f.st[ifr].1,f.st[itill].1].map (fun x:ByteArray=>x.data.toList)) [32]) (Lib.hid (by rw[x1,x2,x3,x4];simp[Lib.join_cons,Lib.joinTail,Pl.wAlong])) (fun W hW=>by have:=pk W hW;rw[hk,hlim,hfr,htill,hoth]at this;exact this)
  rw[hk,hlim,hfr,htill,hoth]
  exact endT_of e h
 ·obtain⟨itill,htill,ltill⟩:=far (.inr (.inr hk))
  obtain⟨S2,x4,y4⟩:=ba_listP f.st[itill].1
  have e:Pl.callW f c=[Pl.wLevel,f.li[ilim],f.st[ifr].1,f.st[itill].1,Pl.spelt c.size,Pl.spelt c.er]:=by unfold Pl.callW;rw[if_neg (by omega),if_neg (by omega),if_neg (by omega),if_neg (by omega),a1,a2,stN_at htill ltill]
  have v1:=hsz f.li[ilim] (by rw[e];simp)
  have v2:=hsz f.st[ifr].1 (by rw[e];simp)
  have v4:=hsz f.st[itill].1 (by rw[e];simp)
  have h:=wc_level A1 A2 A3 A4 c1 c2 c3 c4 f ilim ifr itill c.oth c.size c.er c.crs L1 S1 S2 w hf llim lfr x1 x2 (by omega) (by omega) ltill x4 (by omega) ez.1 ez.2 (T:=Lib.join ([Pl.wLevel,f.li[ilim],f.st[ifr].1,f.st[itill].1,Pl.spelt c.size,Pl.spelt c.er].map (fun x:ByteArray=>x.data.toList)) [32]) (Lib.hid (by rw[x1,x2,x4];simp[Lib.join_cons,Lib.joinTail,Pl.wLevel,Pl.spelt])) (fun W hW=>by have:=pk W hW;rw[hk,hlim,hfr,htill]at this;exact this)
  rw[hk,hlim,hfr,htill]
  exact endT_of e h
set_option maxHeartbeats 4000000 in
theorem WriteCallB_a (c:Pl.Cal)(w:World)(hf:FldS w w.heap.size A1 A2 A3 A4 f)(hm:Small f)(hc:Caps c1 c2 c3 c4 f):
  Calls Tryz.prog 30 #[.agg (fq A1 A2 A3 A4 c1 c2 c3 c4 f),.agg (kq c)] w fun e w'=>e=.returned (.tuple #[.string (Pl.writeV f c),.int .i64 (Pl.checkCallE f c)])∧Below w.heap.size w w':=by
 obtain⟨E,hE⟩: ∃E,Pl.checkCallE f c=E:=⟨_,rfl⟩
 have pk:=fun W (hW:Below w.heap.size w W)=>checkCallB_h A1 A2 A3 A4 c1 c2 c3 c4 f c E W (Lib.hid hE) (hf.up hW) hm hc
 by_cases h0:E=0
 ·subst h0
  have hF:Pl.fieldE f=0:=by
   unfold Pl.checkCallE at hE
   split at hE
   ·assumption
   ·exact absurd hE ‹_›
  have hC:Pl.callE f c=0:=by
   unfold Pl.checkCallE at hE
   rw[if_pos hF]at hE
   exact hE
  have HV:Pl.writeV f c=Pl.lineB f c:=by unfold Pl.writeV;rw[if_pos hE]
  rw[HV,hE]
  exact writeOk_b A1 A2 A3 A4 c1 c2 c3 c4 f c w hf hF hC pk
 ·have kf:=heap_alloc2_old w (.cells (fq A1 A2 A3 A4 c1 c2 c3 c4 f) 28) (.cells (kq c) 48)
  have kc:=heap_alloc2_new w (.cells (fq A1 A2 A3 A4 c1 c2 c3 c4 f) 28) (.cells (kq c) 48)
  have hall:Below w.heap.size w ((w.alloc (.cells (fq A1 A2 A3 A4 c1 c2 c3 c4 f) 28)).alloc (.cells (kq c) 48)):=((Below.refl _ w).alloc (Nat.le_refl _) _).alloc (by simp) _
  have l01:=ld_row kf Tryz.underlying28 rfl info_fld
  have l02:=ld_row kc Tryz.underlying48 rfl info_cal
  have HV:Hid (Pl.writeV f c=⟨#[]⟩):=Lib.hid (by unfold Pl.writeV;rw[if_neg (by rw[hE];exact h0)])
  rw[HV.out,hE]
  have hne:(E !=0)=true:=by simpa using h0
  clear hE HV h0
  go_enter Tryz.func30,Tryz.ntmps30
  go_wp2_with (go_at_call 68;refine(pk _ hall).mono ?_;rintro e w1 ⟨rfl,hx⟩;have hall:Below w.heap.size w w1:=hall.trans (hx.mono hall.size);clear hx)
  go_ret2
  exact⟨rfl,hall⟩
end Go.Proofs.YtgbpekeoegfjpaaGreatDoor
set_option maxRecDepth 100000
namespace Go.Proofs.YtgbpekeoegfjpaaGreatDoor
open Go.RowKit
variable (A1 A2 A3 A4 : Option Addr) (c1 c2 c3 c4 : Nat) (f : Pl.Fld)
attribute [-go_sem] loadVar storeVar run_equalIn_agg
attribute [local go_sem] lv_int lv_bool lv_u8 lv_string lv_calls lv_errno
set_option maxHeartbeats 8000000 in
theorem dedB_bad (x:Pl.Ded×Option Addr×Nat)(w:World)(hf:FldS w w.heap.size A1 A2 A3 A4 f)(hm:Small f)(hc:Caps c1 c2 c3 c4 f)(_hcl:Cals w w.heap.size x.2.1 x.1.calls)(_hn:x.1.name.size<=100000)(hF:Pl.fieldE f≠0):
  Calls Tryz.prog 59 #[.agg (fq A1 A2 A3 A4 c1 c2 c3 c4 f),.agg #[.string x.1.name,.int .i64 x.1.year,.int .i64 x.1.rank,.slice x.2.1 x.1.calls.length x.2.2]] w fun e w'=>e=.returned (.int .i64 (Pl.deedE f x.1))∧Below w.heap.size w w':=by
 have kf:=heap_alloc2_old w (.cells (fq A1 A2 A3 A4 c1 c2 c3 c4 f) 28) (.cells #[.string x.1.name,.int .i64 x.1.year,.int .i64 x.1.rank,.slice x.2.1 x.1.calls.length x.2.2] 90)
 have kd:=heap_alloc2_new w (.cells (fq A1 A2 A3 A4 c1 c2 c3 c4 f) 28) (.cells #[.string x.1.name,.int .i64 x.1.year,.int .i64 x.1.rank,.slice x.2.1 x.1.calls.length x.2.2] 90)
 have hb0:Below w.heap.size w ((w.alloc (.cells (fq A1 A2 A3 A4 c1 c2 c3 c4 f) 28)).alloc (.cells #[.string x.1.name,.int .i64 x.1.year,.int .i64 x.1.rank,.slice x.2.1 x.1.calls.length x.2.2] 90)):=((Below.refl _ w).alloc (Nat.le_refl _) _).alloc (by simp) _
 have l01:=ld_row kf Tryz.underlying28 rfl info_fld
 obtain⟨E,hE⟩: ∃E,Pl.fieldE f=E:=⟨_,rfl⟩
 have HE:=Lib.hid hE
 have HV:Hid (Pl.deedE f x.1=E):=Lib.hid (by unfold Pl.deedE;rw[if_neg hF,hE])
 have hne:(E !=0)=true:=by rw[hE]at hF;simpa using hF
 clear hE hF
 go_enter Tryz.func59,Tryz.ntmps59
 go_wp2_with (go_at_call 43;refine(checkFieldB_h A1 A2 A3 A4 c1 c2 c3 c4 f E _ HE (hf.up hb0) hm hc).mono ?_;rintro e w1 ⟨rfl,hx⟩;have kf:=kE hx kf;have kd:=kE hx kd;have hb1:Below w.heap.size w w1:=hb0.trans (hx.mono hb0.size);(try clear hcd hfd hcf hff);obtain⟨hcd,hfd⟩:=blk_cells kd;clear l01)
 go_ret
 exact⟨by rw[HV.out];rfl,hb1⟩
set_option maxHeartbeats 8000000 in
theorem dedB_many (x:Pl.Ded×Option Addr×Nat)(w:World)(hf:FldS w w.heap.size A1 A2 A3 A4 f)(hm:Small f)(hc:Caps c1 c2 c3 c4 f)(hF:Pl.fieldE f=0)(_hcl:Cals w w.heap.size x.2.1 x.1.calls)(_hn:x.1.name.size<=100000)(h:20<x.1.calls.length):
  Calls Tryz.prog 59 #[.agg (fq A1 A2 A3 A4 c1 c2 c3 c4 f),.agg #[.string x.1.name,.int .i64 x.1.year,.int .i64 x.1.rank,.slice x.2.1 x.1.calls.length x.2.2]] w fun e w'=>e=.returned (.int .i64 (Pl.deedE f x.1))∧Below w.heap.size w w':=by
 have kf:=heap_alloc2_old w (.cells (fq A1 A2 A3 A4 c1 c2 c3 c4 f) 28) (.cells #[.string x.1.name,.int .i64 x.1.year,.int .i64 x.1.rank,.slice x.2.1 x.1.calls.length x.2.2] 90)
 have kd:=heap_alloc2_new w (.cells (fq A1 A2 A3 A4 c1 c2 c3 c4 f) 28) (.cells #[.string x.1.name,.int .i64 x.1.year,.int .i64 x.1.rank,.slice x.2.1 x.1.calls.length x.2.2] 90)
 have hb0:Below w.heap.size w ((w.alloc (.cells (fq A1 A2 A3 A4 c1 c2 c3 c4 f) 28)).alloc (.cells #[.string x.1.name,.int .i64 x.1.year,.int .i64 x.1.rank,.slice x.2.1 x.1.calls.length x.2.2] 90)):=((Below.refl _ w).alloc (Nat.le_refl _) _).alloc (by simp) _
 have l01:=ld_row kf Tryz.underlying28 rfl info_fld
 have HE:=Lib.hid hF
 have HV:Hid (Pl.deedE f x.1=2):=Lib.hid (by unfold Pl.deedE Pl.dedE;rw[if_pos hF,if_pos h])
 have n1:(20:Int)<(x.1.calls.length:Int):=by omega
 clear hF
 go_enter Tryz.func59,Tryz.ntmps59
 go_wp2_with (go_at_call 43;refine(checkFieldB_h A1 A2 A3 A4 c1 c2 c3 c4 f 0 _ HE (hf.up hb0) hm hc).mono ?_;rintro e w1 ⟨rfl,hx⟩;have kf:=kE hx kf;have kd:=kE hx kd;have hb1:Below w.heap.size w w1:=hb0.trans (hx.mono hb0.size);(try clear hcd hfd hcf hff);obtain⟨hcd,hfd⟩:=blk_cells kd;clear l01)
 go_ret
 exact⟨by rw[HV.out];rfl,hb1⟩
set_option maxHeartbeats 8000000 in
theorem dedB_name (x:Pl.Ded×Option Addr×Nat)(w:World)(hf:FldS w w.heap.size A1 A2 A3 A4 f)(hm:Small f)(hc:Caps c1 c2 c3 c4 f)(hF:Pl.fieldE f=0)(_hcl:Cals w w.heap.size x.2.1 x.1.calls)(hn:x.1.name.size<=100000)(h: ¬20<x.1.calls.length)(hN:Pl.isName x.1.name=false):
  Calls Tryz.prog 59 #[.agg (fq A1 A2 A3 A4 c1 c2 c3 c4 f),.agg #[.string x.1.name,.int .i64 x.1.year,.int .i64 x.1.rank,.slice x.2.1 x.1.calls.length x.2.2]] w fun e w'=>e=.returned (.int .i64 (Pl.deedE f x.1))∧Below w.heap.size w w':=by
 have kf:=heap_alloc2_old w (.cells (fq A1 A2 A3 A4 c1 c2 c3 c4 f) 28) (.cells #[.string x.1.name,.int .i64 x.1.year,.int .i64 x.1.rank,.slice x.2.1 x.1.calls.length x.2.2] 90)
 have kd:=heap_alloc2_new w (.cells (fq A1 A2 A3 A4 c1 c2 c3 c4 f) 28) (.cells #[.string x.1.name,.int .i64 x.1.year,.int .i64 x.1.rank,.slice x.2.1 x.1.calls.length x.2.2] 90)
 have hb0:Below w.heap.size w ((w.alloc (.cells (fq A1 A2 A3 A4 c1 c2 c3 c4 f) 28)).alloc (.cells #[.string x.1.name,.int .i64 x.1.year,.int .i64 x.1.rank,.slice x.2.1 x.1.calls.length x.2.2] 90)):=((Below.refl _ w).alloc (Nat.le_refl _) _).alloc (by simp) _
 have l01:=ld_row kf Tryz.underlying28 rfl info_fld
 have HE:=Lib.hid hF
 have HV:Hid (Pl.deedE f x.1=4):=Lib.hid (by unfold Pl.deedE Pl.dedE;rw[if_pos hF,if_neg h,if_pos hN])
 have n1: ¬(20:Int)<(x.1.calls.length:Int):=by omega
 have HN:=Lib.hid hN
 clear hN hF
 go_enter Tryz.func59,Tryz.ntmps59
 go_wp2_with (first|(go_at_call 43;refine(checkFieldB_h A1 A2 A3 A4 c1 c2 c3 c4 f 0 _ HE (hf.up hb0) hm hc).mono ?_;rintro e w1 ⟨rfl,hx⟩;have kf:=kE hx kf;have kd:=kE hx kd;have hb1:Below w.heap.size w w1:=hb0.trans (hx.mono hb0.size);(try clear hcd hfd hcf hff);obtain⟨hcd,hfd⟩:=blk_cells kd;clear l01)|(go_at_call 114;refine(isName_b _ _ hn).mono ?_;rintro e w' ⟨rfl,rfl⟩;rw[HN.out]))
 go_ret
 exact⟨by rw[HV.out];rfl,hb1⟩
set_option maxHeartbeats 8000000 in
theorem dedB_year (x:Pl.Ded×Option Addr×Nat)(w:World)(hf:FldS w w.heap.size A1 A2 A3 A4 f)(hm:Small f)(hc:Caps c1 c2 c3 c4 f)(hF:Pl.fieldE f=0)(_hcl:Cals w w.heap.size x.2.1 x.1.calls)(hn:x.1.name.size<=100000)(h: ¬20<x.1.calls.length)(hN:Pl.isName x.1.name=true)(hY:Pl.inB x.1.year 1 3000=false):
  Calls Tryz.prog 59 #[.agg (fq A1 A2 A3 A4 c1 c2 c3 c4 f),.agg #[.string x.1.name,.int .i64 x.1.year,.int .i64 x.1.rank,.slice x.2.1 x.1.calls.length x.2.2]] w fun e w'=>e=.returned (.int .i64 (Pl.deedE f x.1))∧Below w.heap.size w w':=by
 have kf:=heap_alloc2_old w (.cells (fq A1 A2 A3 A4 c1 c2 c3 c4 f) 28) (.cells #[.string x.1.name,.int .i64 x.1.year,.int .i64 x.1.rank,.slice x.2.1 x.1.calls.length x.2.2] 90)
 have kd:=heap_alloc2_new w (.cells (fq A1 A2 A3 A4 c1 c2 c3 c4 f) 28) (.cells #[.string x.1.name,.int .i64 x.1.year,.int .i64 x.1.rank,.slice x.2.1 x.1.calls.length x.2.2] 90)
 have hb0:Below w.heap.size w ((w.alloc (.cells (fq A1 A2 A3 A4 c1 c2 c3 c4 f) 28)).alloc (.cells #[.string x.1.name,.int .i64 x.1.year,.int .i64 x.1.rank,.slice x.2.1 x.1.calls.length x.2.2] 90)):=((Below.refl _ w).alloc (Nat.le_refl _) _).alloc (by simp) _
 have l01:=ld_row kf Tryz.underlying28 rfl info_fld
 have HE:=Lib.hid hF
 have HV:Hid (Pl.deedE f x.1=1):=Lib.hid (by unfold Pl.deedE Pl.dedE;rw[if_pos hF,if_neg h,if_neg (by rw[hN];decide),if_pos (by unfold Pl.datedB;rw[hY];rfl)])
 have n1: ¬(20:Int)<(x.1.calls.length:Int):=by omega
 have HN:=Lib.hid hN
 have HY:=Lib.hid hY
 obtain⟨tk1,_⟩: ∃n:Nat,n=n:=⟨0,rfl⟩
 clear hN hF hY
 go_enter Tryz.func59,Tryz.ntmps59
 go_wp2_with (first|(go_at_call 43;refine(checkFieldB_h A1 A2 A3 A4 c1 c2 c3 c4 f 0 _ HE (hf.up hb0) hm hc).mono ?_;rintro e w1 ⟨rfl,hx⟩;have kf:=kE hx kf;have kd:=kE hx kd;have hb1:Below w.heap.size w w1:=hb0.trans (hx.mono hb0.size);(try clear hcd hfd hcf hff);obtain⟨hcd,hfd⟩:=blk_cells kd;clear l01)|(go_at_call 114;refine(isName_b _ _ hn).mono ?_;rintro e w' ⟨rfl,rfl⟩;rw[HN.out])|(go_at_call 102;clear tk1;refine(within_b _ _ _ _).mono ?_;rintro e w' ⟨rfl,rfl⟩;rw[HY.out]))
 go_ret
 exact⟨by rw[HV.out];rfl,hb1⟩
set_option maxHeartbeats 8000000 in
theorem dedB_rank (x:Pl.Ded×Option Addr×Nat)(w:World)(hf:FldS w w.heap.size A1 A2 A3 A4 f)(hm:Small f)(hc:Caps c1 c2 c3 c4 f)(hF:Pl.fieldE f=0)(_hcl:Cals w w.heap.size x.2.1 x.1.calls)(hn:x.1.name.size<=100000)(h: ¬20<x.1.calls.length)(hN:Pl.isName x.1.name=true)(hY:Pl.inB x.1.year 1 3000=true)(hR:Pl.inB x.1.rank 0 1000=false):
  Calls Tryz.prog 59 #[.agg (fq A1 A2 A3 A4 c1 c2 c3 c4 f),.agg #[.string x.1.name,.int .i64 x.1.year,.int .i64 x.1.rank,.slice x.2.1 x.1.calls.length x.2.2]] w fun e w'=>e=.returned (.int .i64 (Pl.deedE f x.1))∧Below w.heap.size w w':=by
 have kf:=heap_alloc2_old w (.cells (fq A1 A2 A3 A4 c1 c2 c3 c4 f) 28) (.cells #[.string x.1.name,.int .i64 x.1.year,.int .i64 x.1.rank,.slice x.2.1 x.1.calls.length x.2.2] 90)
 have kd:=heap_alloc2_new w (.cells (fq A1 A2 A3 A4 c1 c2 c3 c4 f) 28) (.cells #[.string x.1.name,.int .i64 x.1.year,.int .i64 x.1.rank,.slice x.2.1 x.1.calls.length x.2.2] 90)
 have hb0:Below w.heap.size w ((w.alloc (.cells (fq A1 A2 A3 A4 c1 c2 c3 c4 f) 28)).alloc (.cells #[.string x.1.name,.int .i64 x.1.year,.int .i64 x.1.rank,.slice x.2.1 x.1.calls.length x.2.2] 90)):=((Below.refl _ w).alloc (Nat.le_refl _) _).alloc (by simp) _
 have l01:=ld_row kf Tryz.underlying28 rfl info_fld
 have HE:=Lib.hid hF
 have HV:Hid (Pl.deedE f x.1=1):=Lib.hid (by unfold Pl.deedE Pl.dedE;rw[if_pos hF,if_neg h,if_neg (by rw[hN];decide),if_pos (by unfold Pl.datedB;rw[hY,hR];rfl)])
 have n1: ¬(20:Int)<(x.1.calls.length:Int):=by omega
 have HN:=Lib.hid hN
 have HY:=Lib.hid hY
 have HR:=Lib.hid hR
 obtain⟨tk1,_⟩: ∃n:Nat,n=n:=⟨0,rfl⟩
 clear hN hF hY hR
 go_enter Tryz.func59,Tryz.ntmps59
 go_wp2_with (first|(go_at_call 43;refine(checkFieldB_h A1 A2 A3 A4 c1 c2 c3 c4 f 0 _ HE (hf.up hb0) hm hc).mono ?_;rintro e w1 ⟨rfl,hx⟩;have kf:=kE hx kf;have kd:=kE hx kd;have hb1:Below w.heap.size w w1:=hb0.trans (hx.mono hb0.size);(try clear hcd hfd hcf hff);obtain⟨hcd,hfd⟩:=blk_cells kd;clear l01)|(go_at_call 114;refine(isName_b _ _ hn).mono ?_;rintro e w' ⟨rfl,rfl⟩;rw[HN.out])|(go_at_call 102;clear tk1;refine(within_b _ _ _ _).mono ?_;rintro e w' ⟨rfl,rfl⟩;rw[HY.out])|(go_at_call 102;refine(within_b _ _ _ _).mono ?_;rintro e w' ⟨rfl,rfl⟩;rw[HR.out]))
 go_ret
 exact⟨by rw[HV.out];rfl,hb1⟩
set_option maxHeartbeats 8000000 in
theorem dedB_calls (x:Pl.Ded×Option Addr×Nat)(w:World)(hf:FldS w w.heap.size A1 A2 A3 A4 f)(hm:Small f)(hc:Caps c1 c2 c3 c4 f)(hF:Pl.fieldE f=0)(hcl:Cals w w.heap.size x.2.1 x.1.calls)(hn:x.1.name.size<=100000)(h: ¬20<x.1.calls.length)(hN:Pl.isName x.1.name=true)(hY:Pl.inB x.1.year 1 3000=true)(hR:Pl.inB x.1.rank 0 1000=true):
  Calls Tryz.prog 59 #[.agg (fq A1 A2 A3 A4 c1 c2 c3 c4 f),.agg #[.string x.1.name,.int .i64 x.1.year,.int .i64 x.1.rank,.slice x.2.1 x.1.calls.length x.2.2]] w fun e w'=>e=.returned (.int .i64 (Pl.deedE f x.1))∧Below w.heap.size w w':=by
 have kf:=heap_alloc2_old w (.cells (fq A1 A2 A3 A4 c1 c2 c3 c4 f) 28) (.cells #[.string x.1.name,.int .i64 x.1.year,.int .i64 x.1.rank,.slice x.2.1 x.1.calls.length x.2.2] 90)
 have kd:=heap_alloc2_new w (.cells (fq A1 A2 A3 A4 c1 c2 c3 c4 f) 28) (.cells #[.string x.1.name,.int .i64 x.1.year,.int .i64 x.1.rank,.slice x.2.1 x.1.calls.length x.2.2] 90)
 have hb0:Below w.heap.size w ((w.alloc (.cells (fq A1 A2 A3 A4 c1 c2 c3 c4 f) 28)).alloc (.cells #[.string x.1.name,.int .i64 x.1.year,.int .i64 x.1.rank,.slice x.2.1 x.1.calls.length x.2.2] 90)):=((Below.refl _ w).alloc (Nat.le_refl _) _).alloc (by simp) _
 have l01:=ld_row kf Tryz.underlying28 rfl info_fld
 have HE:=Lib.hid hF
 have HV:Hid (Pl.deedE f x.1=Pl.callsE f x.1.year x.1.calls):=Lib.hid (by unfold Pl.deedE Pl.dedE;rw[if_pos hF,if_neg h,if_neg (by rw[hN];decide),if_neg (by unfold Pl.datedB;rw[hY,hR];decide)])
 have n1: ¬(20:Int)<(x.1.calls.length:Int):=by omega
 have HN:=Lib.hid hN
 have HY:=Lib.hid hY
 have HR:=Lib.hid hR
 obtain⟨tk1,_⟩: ∃n:Nat,n=n:=⟨0,rfl⟩
 clear hN hY hR hF
 obtain⟨⟨nm,yr,rk,cs⟩,P,pc⟩:=x
 simp only at*
 go_enter Tryz.func59,Tryz.ntmps59
 go_wp2_with (first|(go_at_call 43;refine(checkFieldB_h A1 A2 A3 A4 c1 c2 c3 c4 f 0 _ HE (hf.up hb0) hm hc).mono ?_;rintro e w1 ⟨rfl,hx⟩;have kf:=kE hx kf;have kd:=kE hx kd;have hb1:Below w.heap.size w w1:=hb0.trans (hx.mono hb0.size);(try clear hcd hfd hcf hff);obtain⟨hcd,hfd⟩:=blk_cells kd;clear l01)|(go_at_call 114;refine(isName_b _ _ hn).mono ?_;rintro e w' ⟨rfl,rfl⟩;rw[HN.out])|(go_at_call 102;clear tk1;refine(within_b _ _ _ _).mono ?_;rintro e w' ⟨rfl,rfl⟩;rw[HY.out])|(go_at_call 102;refine(within_b _ _ _ _).mono ?_;rintro e w' ⟨rfl,rfl⟩;rw[HR.out]))
 have hal:w.heap.size+1<w1.heap.size:=lO kd
 clear hcd hfd
 obtain⟨E,hE⟩: ∃E,Pl.callsE f yr cs=E:=⟨_,rfl⟩
 rw[hE]at HV
 go_loopw [5,6] (fun ev i wr=> ∃(k:Nat),k<=cs.length∧ev=.int .i64 0∧i=.int .i64 k∧Hid (Pl.callsE f yr (cs.drop k)=E)∧Below w1.heap.size w1 wr) (fun _ i _=>cs.length-(intOf i).toNat)
 case atStart=>exact⟨0,by omega,rfl,rfl,Lib.hid (by rw[List.drop_zero];exact hE),Below.refl _ _⟩
 case round=>
  obtain⟨k,hkl,rfl,rfl,hdr,hall⟩:=hrel
  have kfr:=(hall.block _ (by omega)).trans kf
  have kdr:=(hall.block _ hal).trans kd
  clear kf kd
  obtain⟨hcd,hfd⟩:=blk_cells kdr
  have hsz:=hall.size
  have hbw:Below w.heap.size w wr:=hb1.trans (hall.mono hb1.size)
  by_cases hlt:k<cs.length
  ·obtain⟨g,o,hP,hg,u0⟩:=Cals.ld hcl hlt
   obtain⟨g',o',hP',_,u3⟩:=Seg.at_ hcl hlt
   rw[hP]at hP'
   obtain⟨rfl,rfl⟩:g=g'∧o=o':=by simpa using hP'
   have u4:=u3 10 _ rfl
   have u3:=u3 0 _ rfl
   have hdr2:Hid (Pl.callsE f yr (cs[k]::cs.drop (k+1))=E):=Lib.hid (by rw[<-List.drop_eq_getElem_cons hlt];exact hdr.out)
   obtain⟨c,hcd0⟩: ∃c,cs[k]=c:=⟨_,rfl⟩
   rw[hcd0]at u0 hdr2 u3 u4
   clear hcd0 hP'
   subst hP
   simp only[Nat.add_zero]at u3
   have e1:(0:Int)<=(k:Int):=by omega
   have e2:(k:Int)<(cs.length:Int):=by omega
   have hbd:=hbw.drew
   have had:=hall.drew
   have lfd:=ld_row (show wr.drew.heap[w.heap.size]?=_ from kfr) Tryz.underlying28 rfl info_fld
   have cd3:=(blk_cells (show wr.drew.heap[w.heap.size+1]?=_ from kdr)).1 3
   have udd:=u0 _ hbd
   obtain⟨Ec,hEc⟩: ∃E,Pl.callE f c=E:=⟨_,rfl⟩
   have HEc:=Lib.hid hEc
   have hchk:=checkCallB_a A1 A2 A3 A4 c1 c2 c3 c4 f c Ec wr.drew HEc (hf.up hbd) hm hc HE.out
   clear hEc
   by_cases h0:Ec=0
   ·subst h0
    have HR:Hid ((if c.kind=3∧c.crs.y≠yr then 1 else Pl.callsE f yr (cs.drop (k+1)))=E):=Lib.hid (by have:=hdr2.out;unfold Pl.callsE at this;rw[HEc.out,if_neg (by simp)]at this;exact this)
    by_cases h3:c.kind=3
    ·have b3:((c.kind:Int)==3)=true:=by simp;omega
     by_cases hyr:c.crs.y=yr
     ·have b4:(c.crs.y !=yr)=false:=by simpa using hyr
      have HN2:Hid (Pl.callsE f yr (cs.drop (k+1))=E):=Lib.hid (by have:=HR.out;rw[if_neg (fun h=>h.2 hyr)]at this;exact this)
      clear h3 hyr
      go_wp2
      go_region_held3 (fun W=>(loadVar 28 ⟨w.heap.size,0,none⟩).run Tryz.prog W=.ok (.agg (fq A1 A2 A3 A4 c1 c2 c3 c4 f)) W∧W.cell? ⟨w.heap.size+1,3,none⟩=some (.slice (some ⟨g,o,none⟩) cs.length pc)∧(loadVar 48 ⟨g,o+k*13,none⟩).run Tryz.prog W=.ok (.agg (kq c)) W) (first|exact⟨lfd,cd3,udd⟩|exact⟨lf2,hcd2 3,ud2⟩) (first|(go_at_call 129;refine hchk.mono ?_;rintro e w2 ⟨rfl,hy⟩;have hb2:Below w.heap.size w w2:=hbd.trans (hy.mono hbd.size);have ha2:Below w1.heap.size w1 w2:=had.trans (hy.mono hsz);have lf2:=ld_row (kE hy kfr) Tryz.underlying28 rfl info_fld;have ud2:=u0 _ hb2;have kd2:=kE hy kdr;obtain⟨hcd2,hfd2⟩:=blk_cells kd2;have v0:=(hb2.cell (p:=⟨g,o+k*13,none⟩) hg).trans u3;have v1:=(hb2.cell (p:=⟨g,o+k*13+7+3,none⟩) hg).trans u4;have v2:w2.cell? ⟨g,o+k*13+10,none⟩=some (.int .i64 c.crs.y):=v1;have v3:w2.cell? ⟨g,o+k*13+(7+3),none⟩=some (.int .i64 c.crs.y):=v1))
      all_goals go_wp2
      all_goals go_quiet (fail)
      all_goals go_wp2
      all_goals (
       go_roundw
       case rel=>exact⟨k+1,by omega,rfl,by go_num,HN2,by first|exact ha2|exact ha2.drew|(go_grown;done)|exact below_drewN ha2 _⟩
       case measure=>first|(simp[intOf];done)|(simp[intOf];omega))
     ·have b4:(c.crs.y !=yr)=true:=by simpa using hyr
      have HN2:Hid (1=E):=Lib.hid (by have:=HR.out;rw[if_pos ⟨h3,hyr⟩]at this;exact this)
      clear h3 hyr
      go_wp2
      go_region_held3 (fun W=>(loadVar 28 ⟨w.heap.size,0,none⟩).run Tryz.prog W=.ok (.agg (fq A1 A2 A3 A4 c1 c2 c3 c4 f)) W∧W.cell? ⟨w.heap.size+1,3,none⟩=some (.slice (some ⟨g,o,none⟩) cs.length pc)∧(loadVar 48 ⟨g,o+k*13,none⟩).run Tryz.prog W=.ok (.agg (kq c)) W) (first|exact⟨lfd,cd3,udd⟩|exact⟨lf2,hcd2 3,ud2⟩) (first|(go_at_call 129;refine hchk.mono ?_;rintro e w2 ⟨rfl,hy⟩;have hb2:Below w.heap.size w w2:=hbd.trans (hy.mono hbd.size);have ha2:Below w1.heap.size w1 w2:=had.trans (hy.mono hsz);have lf2:=ld_row (kE hy kfr) Tryz.underlying28 rfl info_fld;have ud2:=u0 _ hb2;have kd2:=kE hy kdr;obtain⟨hcd2,hfd2⟩:=blk_cells kd2;have v0:=(hb2.cell (p:=⟨g,o+k*13,none⟩) hg).trans u3;have v1:=(hb2.cell (p:=⟨g,o+k*13+7+3,none⟩) hg).trans u4;have v2:w2.cell? ⟨g,o+k*13+10,none⟩=some (.int .i64 c.crs.y):=v1;have v3:w2.cell? ⟨g,o+k*13+(7+3),none⟩=some (.int .i64 c.crs.y):=v1))
      all_goals go_wp2
      all_goals go_quiet (fail)
      all_goals go_wp2
      all_goals go_ret
      all_goals exact⟨by rw[HV.out,<-HN2.out];rfl,by first|exact hb2|exact hb2.drew|(go_grown;done)|exact below_drewN hb2 _⟩
    ·have b3:((c.kind:Int)==3)=false:=by simp;omega
     have HN2:Hid (Pl.callsE f yr (cs.drop (k+1))=E):=Lib.hid (by have:=HR.out;rw[if_neg (fun h=>h3 h.1)]at this;exact this)
     clear h3
     go_wp2
     go_region_held3 (fun W=>(loadVar 28 ⟨w.heap.size,0,none⟩).run Tryz.prog W=.ok (.agg (fq A1 A2 A3 A4 c1 c2 c3 c4 f)) W∧W.cell? ⟨w.heap.size+1,3,none⟩=some (.slice (some ⟨g,o,none⟩) cs.length pc)∧(loadVar 48 ⟨g,o+k*13,none⟩).run Tryz.prog W=.ok (.agg (kq c)) W) (first|exact⟨lfd,cd3,udd⟩|exact⟨lf2,hcd2 3,ud2⟩) (first|(go_at_call 129;refine hchk.mono ?_;rintro e w2 ⟨rfl,hy⟩;have hb2:Below w.heap.size w w2:=hbd.trans (hy.mono hbd.size);have ha2:Below w1.heap.size w1 w2:=had.trans (hy.mono hsz);have lf2:=ld_row (kE hy kfr) Tryz.underlying28 rfl info_fld;have ud2:=u0 _ hb2;have kd2:=kE hy kdr;obtain⟨hcd2,hfd2⟩:=blk_cells kd2;have v0:=(hb2.cell (p:=⟨g,o+k*13,none⟩) hg).trans u3;have v1:=(hb2.cell (p:=⟨g,o+k*13+7+3,none⟩) hg).trans u4;have v2:w2.cell? ⟨g,o+k*13+10,none⟩=some (.int .i64 c.crs.y):=v1;have v3:w2.cell? ⟨g,o+k*13+(7+3),none⟩=some (.int .i64 c.crs.y):=v1))
     all_goals go_wp2
     all_goals go_quiet (fail)
     all_goals go_wp2
     all_goals (
      go_roundw
      case rel=>exact⟨k+1,by omega,rfl,by go_num,HN2,by first|exact ha2|exact ha2.drew|(go_grown;done)|exact below_drewN ha2 _⟩
      case measure=>first|(simp[intOf];done)|(simp[intOf];omega))
   ·have hne:(Ec !=0)=true:=by simpa using h0
    have HR:Hid (Ec=E):=Lib.hid (by have:=hdr2.out;unfold Pl.callsE at this;rw[HEc.out,if_pos h0]at this;exact this)
    clear h0
    go_wp2
    go_region_held3 (fun W=>(loadVar 28 ⟨w.heap.size,0,none⟩).run Tryz.prog W=.ok (.agg (fq A1 A2 A3 A4 c1 c2 c3 c4 f)) W∧W.cell? ⟨w.heap.size+1,3,none⟩=some (.slice (some ⟨g,o,none⟩) cs.length pc)∧(loadVar 48 ⟨g,o+k*13,none⟩).run Tryz.prog W=.ok (.agg (kq c)) W) (first|exact⟨lfd,cd3,udd⟩|exact⟨lf2,hcd2 3,ud2⟩) (first|(go_at_call 129;refine hchk.mono ?_;rintro e w2 ⟨rfl,hy⟩;have hb2:Below w.heap.size w w2:=hbd.trans (hy.mono hbd.size);have ha2:Below w1.heap.size w1 w2:=had.trans (hy.mono hsz);have lf2:=ld_row (kE hy kfr) Tryz.underlying28 rfl info_fld;have ud2:=u0 _ hb2;have kd2:=kE hy kdr;obtain⟨hcd2,hfd2⟩:=blk_cells kd2;have v0:=(hb2.cell (p:=⟨g,o+k*13,none⟩) hg).trans u3;have v1:=(hb2.cell (p:=⟨g,o+k*13+7+3,none⟩) hg).trans u4;have v2:w2.cell? ⟨g,o+k*13+10,none⟩=some (.int .i64 c.crs.y):=v1;have v3:w2.cell? ⟨g,o+k*13+(7+3),none⟩=some (.int .i64 c.crs.y):=v1))
    all_goals go_wp2
    all_goals go_ret
    all_goals exact⟨by rw[HV.out,<-HR.out];rfl,hb2⟩
  ·have HR:Hid (0=E):=Lib.hid (by have:=hdr.out;rw[List.drop_of_length_le (by omega)]at this;exact this)
   go_wp2
   go_ret
   exact⟨by rw[HV.out,<-HR.out];rfl,hbw⟩
theorem CheckDeedB_a (x:Pl.Ded×Option Addr×Nat)(w:World)(hf:FldS w w.heap.size A1 A2 A3 A4 f)(hm:Small f)(hc:Caps c1 c2 c3 c4 f)(hcl:Cals w w.heap.size x.2.1 x.1.calls)(hn:x.1.name.size<=100000):
  Calls Tryz.prog 59 #[.agg (fq A1 A2 A3 A4 c1 c2 c3 c4 f),.agg #[.string x.1.name,.int .i64 x.1.year,.int .i64 x.1.rank,.slice x.2.1 x.1.calls.length x.2.2]] w fun e w'=>e=.returned (.int .i64 (Pl.deedE f x.1))∧Below w.heap.size w w':=by
 by_cases hF:Pl.fieldE f=0
 ·by_cases h:20<x.1.calls.length
  ·exact dedB_many A1 A2 A3 A4 c1 c2 c3 c4 f x w hf hm hc hF hcl hn h
  cases hN:Pl.isName x.1.name with
  |false=>exact dedB_name A1 A2 A3 A4 c1 c2 c3 c4 f x w hf hm hc hF hcl hn h hN
  | true=>
   cases hY:Pl.inB x.1.year 1 3000 with
   |false=>exact dedB_year A1 A2 A3 A4 c1 c2 c3 c4 f x w hf hm hc hF hcl hn h hN hY
   |true=>
    cases hR:Pl.inB x.1.rank 0 1000 with
    |false=>exact dedB_rank A1 A2 A3 A4 c1 c2 c3 c4 f x w hf hm hc hF hcl hn h hN hY hR
    |true=>exact dedB_calls A1 A2 A3 A4 c1 c2 c3 c4 f x w hf hm hc hF hcl hn h hN hY hR
 ·exact dedB_bad A1 A2 A3 A4 c1 c2 c3 c4 f x w hf hm hc hcl hn hF
set_option maxHeartbeats 8000000 in
theorem CheckDeedsB_ok (A:Option Addr) (c:Nat) (l:List (Pl.Ded×Option Addr×Nat)) (w:World) (hf:FldS w w.heap.size A1 A2 A3 A4 f) (hm:Small f) (hc:Caps c1 c2 c3 c4 f) (hD:DedS w w.heap.size A l) (hn: ∀x∈l,x.1.name.size<=100000) (hE:Pl.fieldE f=0) (hl:l.length<=60):
  Calls Tryz.prog 60 #[.agg (fq A1 A2 A3 A4 c1 c2 c3 c4 f),.slice A l.length c] w fun e w'=>e=.returned (.int .i64 (Pl.dedsGo f [] (l.map (·.1))))∧Below w.heap.size w w':=by
 have kf:=heap_alloc_new w (.cells (fq A1 A2 A3 A4 c1 c2 c3 c4 f) 28)
 have hb0:Below w.heap.size w (w.alloc (.cells (fq A1 A2 A3 A4 c1 c2 c3 c4 f) 28)):=(Below.refl _ w).alloc (Nat.le_refl _) _
 have l01:=ld_row kf Tryz.underlying28 rfl info_fld
 have HE:=Lib.hid hE
 have n1: ¬(60:Int)<(l.length:Int):=by omega
 obtain⟨E,hV⟩: ∃E,Pl.dedsGo f [] (l.map (·.1))=E:=⟨_,rfl⟩
 rw[hV]
 clear hE
 go_enter Tryz.func60,Tryz.ntmps60
 go_wp2_with (go_at_call 43;refine(checkFieldB_h A1 A2 A3 A4 c1 c2 c3 c4 f 0 _ HE (hf.up hb0) hm hc).mono ?_;rintro e w1 ⟨rfl,hx⟩;have kf:=kE hx kf;have hb1:Below w.heap.size w w1:=hb0.trans (hx.mono hb0.size);clear l01)
 have hal:w.heap.size<w1.heap.size:=lO kf
 go_loopw [5,6] (fun ev i wr=> ∃(k:Nat),k<=l.length∧ev=.int .i64 0∧i=.int .i64 k∧Hid (Pl.dedsGo f ((l.take k).map (·.1.name)) ((l.drop k).map (·.1))=E)∧Below w1.heap.size w1 wr) (fun _ i _=>l.length-(intOf i).toNat)
 case atStart=>exact⟨0,by omega,rfl,rfl,Lib.hid (by simpa using hV),Below.refl _ _⟩
 case round=>
  obtain⟨k,hkl,rfl,rfl,hdr,hall⟩:=hrel
  have kf2:=(hall.block _ hal).trans kf
  have hsz:=hall.size
  have hbw:Below w.heap.size w wr:=hb1.trans (hall.mono hb1.size)
  by_cases hlt:k<l.length
  ·obtain⟨g,o,hP,hg,u0⟩:=Dds.ld hD.row hlt
   obtain⟨g',o',hP',_,r0,_⟩:=Dds.at4 hD.row hlt
   rw[hP]at hP'
   obtain⟨rfl,rfl⟩:g=g'∧o=o':=by simpa using hP'
   have hmem:=List.getElem_mem hlt
   have hcl:=hD.own _ hmem
   have hnc:=hn _ hmem
   have hdr2:Hid (Pl.dedsGo f ((l.take k).map (·.1.name)) (l[k].1::(l.drop (k+1)).map (·.1))=E):=Lib.hid (by
    have:=hdr.out;rw[List.drop_eq_getElem_cons hlt]at this;exact this)
   have htk:(l.take (k+1)).map (·.1.name)=(l.take k).map (·.1.name)++[l[k].1.name]:=by rw[List.take_add_one,List.getElem?_eq_getElem hlt,List.map_append];rfl
   have hat: ∀m,m<k->(∃h:m<l.length,True):=fun m hm=>⟨by omega,trivial⟩
   obtain⟨x,hxd⟩: ∃x,l[k]=x:=⟨_,rfl⟩
   rw[hxd]at u0 hcl hnc hdr2 htk r0
   clear hxd hmem hP' hat
   have HTK:=Lib.hid htk
   clear htk
   have e1:(0:Int)<=(k:Int):=by omega
   have e2:(k:Int)<(l.length:Int):=by omega
   have hbd:=hbw.drew
   have had:=hall.drew
   have lfd:=ld_row (show wr.drew.heap[w.heap.size]?=_ from kf2) Tryz.underlying28 rfl info_fld
   have udd:=u0 _ hbd
   obtain⟨Ed,hEd⟩: ∃E,Pl.dedE f x.1=E:=⟨_,rfl⟩
   have HEd:=Lib.hid hEd
   have hded:=CheckDeedB_a A1 A2 A3 A4 c1 c2 c3 c4 f x wr.drew (hf.up hbd) hm hc (hcl.up hbd) hnc
   rw[show Pl.deedE f x.1=Ed by unfold Pl.deedE;rw[if_pos HE.out,hEd]]at hded
   have hDr:=hD.row
   rw[hP]at hDr
   subst hP
   clear hEd
   by_cases h0:Ed=0
   ·subst h0
    have HR:Hid ((if ((l.take k).map (·.1.name)).any (fun y=>decide (y=x.1.name))=true then 6 else Pl.dedsGo f ((l.take k).map (·.1.name)++[x.1.name]) ((l.drop (k+1)).map (·.1)))=E):=Lib.hid (by
     have:=hdr2.out;unfold Pl.dedsGo at this;rw[HEd.out,if_neg (by simp)]at this;exact this)
    go_wp2
    go_region_held3 (fun W=>(loadVar 28 ⟨w.heap.size,0,none⟩).run Tryz.prog W=.ok (.agg (fq A1 A2 A3 A4 c1 c2 c3 c4 f)) W∧(loadVar 90 ⟨g,o+k*4,none⟩).run Tryz.prog W=.ok (.agg #[.string x.1.name,.int .i64 x.1.year,.int .i64 x.1.rank,.slice x.2.1 x.1.calls.length x.2.2]) W) (first|exact⟨lfd,udd⟩|exact⟨lf2,ud2⟩) (first|(go_at_call 59;refine hded.mono ?_;rintro e w2 ⟨rfl,hy⟩;have hb2:Below w.heap.size w w2:=hbd.trans (hy.mono hbd.size);have ha2:Below w1.heap.size w1 w2:=had.trans (hy.mono hsz);have lf2:=ld_row (kE hy kf2) Tryz.underlying28 rfl info_fld;have ud2:=u0 _ hb2))
    all_goals go_wp2
    all_goals (
     go_loopw [7] (fun i wr'=> ∃(m:Nat),m<=k∧i=.int .i64 m∧Hid (((l.take m).map (·.1.name)).any (fun y=>decide (y=x.1.name))=false)∧Below w2.heap.size w2 wr') (fun i _=>k-(intOf i).toNat)
     case atStart=>exact⟨0,by omega,rfl,Lib.hid (by simp),by go_grown⟩
     case round=>
      obtain⟨m,hmk,rfl,hno,hall3⟩:=hrel
      have hsz2:=ha2.size
      have hbw3:Below w.heap.size w wr:=hb2.trans (hall3.mono hb2.size)
      have ha3:Below w1.heap.size w1 wr:=ha2.trans (hall3.mono hsz2)
      by_cases hlm:m<k
      ·obtain⟨g2,o2,hQ,hg2,p0,_⟩:=Dds.at4 (hDr.up hbw3) (show m<l.length by omega)
       obtain⟨rfl,rfl⟩:g=g2∧o=o2:=by simpa using hQ
       have htm:(l.take (m+1)).map (·.1.name)=(l.take m).map (·.1.name)++[l[m].1.name]:=by rw[List.take_add_one,List.getElem?_eq_getElem (show m<l.length by omega),List.map_append];rfl
       have hany: ∀b,((l.take m).map (·.1.name)).any b=true->((l.take k).map (·.1.name)).any b=true:=fun b h=>by
        rw[List.any_eq_true]at h ⊢
        obtain⟨y,hy1,hy2⟩:=h
        refine⟨y,?_,hy2⟩
        rw[List.mem_map]at hy1 ⊢
        obtain⟨z,hz1,hz2⟩:=hy1
        exact⟨z,List.mem_of_mem_take (i:=m) (by rw[List.take_take,Nat.min_eq_left (by omega)];exact hz1),hz2⟩
       have hmem2:l[m].1.name∈(l.take k).map (·.1.name):=by
        rw[List.mem_map]
        exact⟨l[m],List.mem_take_iff_getElem.2 ⟨m,by omega,rfl⟩,rfl⟩
       have r1:=(hbw3.cell (p:=⟨g,o+k*4,none⟩) hg).trans r0
       obtain⟨nm,hnm⟩: ∃n,l[m].1.name=n:=⟨_,rfl⟩
       rw[hnm]at p0 htm hmem2
       clear hnm hany hQ
       have HTM:=Lib.hid htm
       have HM2:=Lib.hid hmem2
       clear htm hmem2
       have e3:(0:Int)<=(m:Int):=by omega
       have e4:(m:Int)<(l.length:Int):=by omega
       have e5:(m:Int)<(k:Int):=by omega
       by_cases hnn:nm=x.1.name
       ·have hbn:(nm.toList==x.1.name.toList)=true:=by rw[str_same];exact decide_eq_true hnn
        have HR2:Hid (6=E):=Lib.hid (by have:=HR.out;rw[if_pos (by rw[List.any_eq_true];exact⟨nm,HM2.out,by simpa using hnn⟩)]at this;exact this)
        clear hnn
        go_wp2
        go_quiet (fail)
        all_goals go_wp2
        all_goals go_ret
        all_goals exact⟨by rw[<-HR2.out];rfl,by first|exact hbw3|exact hbw3.drew|(go_grown;done)|exact below_drewN hbw3 _⟩
       ·have hbn:(nm.toList==x.1.name.toList)=false:=by rw[str_same];exact decide_eq_false hnn
        have HN3:Hid (((l.take (m+1)).map (·.1.name)).any (fun y=>decide (y=x.1.name))=false):=Lib.hid (by rw[HTM.out,List.any_append,hno.out];simpa using hnn)
        clear hnn
        go_wp2
        go_quiet (fail)
        all_goals go_wp2
        all_goals (
         go_roundw
         case rel=>exact⟨m+1,by omega,by go_num,HN3,by first|exact hall3|exact hall3.drew|(go_grown;done)|exact below_drewN hall3 _⟩
         case measure=>first|(simp[intOf];done)|(simp[intOf];omega))
      ·obtain rfl:m=k:=by omega
       have e5: ¬(m:Int)<(m:Int):=by omega
       have HR2:Hid (Pl.dedsGo f ((l.take (m+1)).map (·.1.name)) ((l.drop (m+1)).map (·.1))=E):=Lib.hid (by have:=HR.out;rw[if_neg (by rw[hno.out];simp),<-HTK.out]at this;exact this)
       go_wp2
       go_roundw
       case rel=>exact⟨m+1,by omega,rfl,by go_num,HR2,ha3⟩
       case measure=>first|(simp[intOf];done)|(simp[intOf];omega))
   ·have hne:(Ed !=0)=true:=by simpa using h0
    have HR:Hid (Ed=E):=Lib.hid (by have:=hdr2.out;unfold Pl.dedsGo at this;rw[HEd.out,if_pos h0]at this;exact this)
    clear h0
    go_wp2
    go_region_held3 (fun W=>(loadVar 28 ⟨w.heap.size,0,none⟩).run Tryz.prog W=.ok (.agg (fq A1 A2 A3 A4 c1 c2 c3 c4 f)) W∧(loadVar 90 ⟨g,o+k*4,none⟩).run Tryz.prog W=.ok (.agg #[.string x.1.name,.int .i64 x.1.year,.int .i64 x.1.rank,.slice x.2.1 x.1.calls.length x.2.2]) W) (first|exact⟨lfd,udd⟩|exact⟨lf2,ud2⟩) (first|(go_at_call 59;refine hded.mono ?_;rintro e w2 ⟨rfl,hy⟩;have hb2:Below w.heap.size w w2:=hbd.trans (hy.mono hbd.size);have ha2:Below w1.heap.size w1 w2:=had.trans (hy.mono hsz);have lf2:=ld_row (kE hy kf2) Tryz.underlying28 rfl info_fld;have ud2:=u0 _ hb2))
    all_goals go_wp2
    all_goals go_ret
    all_goals exact⟨by rw[<-HR.out];rfl,hb2⟩
  ·have HR:Hid (0=E):=Lib.hid (by have:=hdr.out;rw[List.drop_of_length_le (by omega)]at this;exact this)
   go_wp2
   go_ret
   exact⟨by rw[<-HR.out];rfl,hbw⟩
set_option maxHeartbeats 8000000 in
theorem CheckDeedsB_a (A:Option Addr)(c:Nat)(l:List (Pl.Ded×Option Addr×Nat))(w:World)(hf:FldS w w.heap.size A1 A2 A3 A4 f)(hm:Small f)(hc:Caps c1 c2 c3 c4 f)(hD:DedS w w.heap.size A l)(hn: ∀x∈l,x.1.name.size<=100000):
  Calls Tryz.prog 60 #[.agg (fq A1 A2 A3 A4 c1 c2 c3 c4 f),.slice A l.length c] w fun e w'=>e=.returned (.int .i64 (Pl.deedsE f (l.map (·.1))))∧Below w.heap.size w w':=by
 have kf:=heap_alloc_new w (.cells (fq A1 A2 A3 A4 c1 c2 c3 c4 f) 28)
 have hb0:Below w.heap.size w (w.alloc (.cells (fq A1 A2 A3 A4 c1 c2 c3 c4 f) 28)):=(Below.refl _ w).alloc (Nat.le_refl _) _
 have l01:=ld_row kf Tryz.underlying28 rfl info_fld
 by_cases hE:Pl.fieldE f=0
 ·by_cases h60:60<l.length
  ·have HV:Hid (Pl.deedsE f (l.map (·.1))=2):=Lib.hid (by unfold Pl.deedsE;rw[if_pos hE,if_pos (by simpa using h60)])
   have HE:=Lib.hid hE
   have n1:(60:Int)<(l.length:Int):=by omega
   clear hE
   go_enter Tryz.func60,Tryz.ntmps60
   go_wp2_with (go_at_call 43;refine(checkFieldB_h A1 A2 A3 A4 c1 c2 c3 c4 f 0 _ HE (hf.up hb0) hm hc).mono ?_;rintro e w1 ⟨rfl,hx⟩;have kf:=kE hx kf;have hb1:Below w.heap.size w w1:=hb0.trans (hx.mono hb0.size);clear l01)
   go_ret
   exact⟨by rw[HV.out];rfl,hb1⟩
  ·have HV:Pl.deedsE f (l.map (·.1))=Pl.dedsGo f [] (l.map (·.1)):=by unfold Pl.deedsE;rw[if_pos hE,if_neg (by simpa using h60)]
   rw[HV]
   exact CheckDeedsB_ok A1 A2 A3 A4 c1 c2 c3 c4 f A c l w hf hm hc hD hn hE (by omega)
 ·obtain⟨E,he⟩: ∃E,Pl.fieldE f=E:=⟨_,rfl⟩
  have HV:Hid (Pl.deedsE f (l.map (·.1))=E):=Lib.hid (by unfold Pl.deedsE;rw[if_neg hE,he])
  rw[he]at hE
  have HE:=Lib.hid he
  have hne:(E !=0)=true:=by simpa using hE
  clear he hE
  go_enter Tryz.func60,Tryz.ntmps60
  go_wp2_with (go_at_call 43;refine(checkFieldB_h A1 A2 A3 A4 c1 c2 c3 c4 f E _ HE (hf.up hb0) hm hc).mono ?_;rintro e w1 ⟨rfl,hx⟩;have kf:=kE hx kf;have hb1:Below w.heap.size w w1:=hb0.trans (hx.mono hb0.size);clear l01)
  go_ret
  exact⟨by rw[HV.out];rfl,hb1⟩
end Go.Proofs.YtgbpekeoegfjpaaGreatDoor
set_option maxRecDepth 100000
namespace Go.Proofs.YtgbpekeoegfjpaaGreatDoor
open Go.RowKit
variable (A1 A2 A3 A4 : Option Addr) (c1 c2 c3 c4 : Nat) (f : Pl.Fld)
attribute [-go_sem] run_equalIn_agg loadVar storeVar
attribute [local go_sem] lv_int lv_bool lv_u8 lv_string lv_calls
set_option maxHeartbeats 16000000 in
theorem PrintDeedsB_ok (A:Option Addr)(c:Nat)(l:List (Pl.Ded×Option Addr×Nat))(w:World)(hf:FldS w w.heap.size A1 A2 A3 A4 f)(hm:Small f)(hc:Caps c1 c2 c3 c4 f)(hD:DedS w w.heap.size A l)(hE:Pl.deedsE f (l.map (·.1))=0):
  Calls Tryz.prog 62 #[.agg (fq A1 A2 A3 A4 c1 c2 c3 c4 f),.slice A l.length c] w fun e w'=>e=.returned (.string ⟨(Pl.deedsL f (l.map (·.1))).toArray⟩)∧Below w.heap.size w w':=by
 have hF:Pl.fieldE f=0:=by
  unfold Pl.deedsE at hE
  split at hE
  ·assumption
  ·exact absurd hE ‹_›
 have h60:l.length<=60:=by
  unfold Pl.deedsE at hE
  rw[if_pos hF]at hE
  split at hE
  ·cases hE
  ·rename_i h;simpa using h
 have hdo: ∀d∈l,Pl.DedOk f d.1:=fun d hd=>by
  unfold Pl.deedsE at hE
  rw[if_pos hF,if_neg (by simp;omega)]at hE
  exact(Pl.dedsGo_ok hE).1 d.1 (List.mem_map_of_mem hd)
 have hfo:=Pl.fieldE_ok hF
 have hn: ∀x∈l,x.1.name.size<=100000:=fun x hx=>by have:=Pl.name_size (hdo x hx).name;omega
 have hres:Hid ((l.take l.length).flatMap (fun x=>Pl.dedL f x.1)=Pl.deedsL f (l.map (·.1))):=Lib.hid (by
  rw[List.take_length,Pl.deedsL_eq (fun d hd=>by obtain⟨x,hx,rfl⟩:=List.mem_map.1 hd;exact hdo x hx),List.flatMap_map])
 obtain⟨R,hR⟩: ∃R,Pl.deedsL f (l.map (·.1))=R:=⟨_,rfl⟩
 rw[hR]at hres ⊢
 clear hR
 have kf:=heap_alloc_new w (.cells (fq A1 A2 A3 A4 c1 c2 c3 c4 f) 28)
 have hb0:Below w.heap.size w (w.alloc (.cells (fq A1 A2 A3 A4 c1 c2 c3 c4 f) 28)):=(Below.refl _ w).alloc (Nat.le_refl _) _
 have l01:=ld_row kf Tryz.underlying28 rfl info_fld
 have pk:=CheckDeedsB_a A1 A2 A3 A4 c1 c2 c3 c4 f A c l _ (hf.up hb0) hm hc (⟨hD.row.up hb0,fun x hx=>(hD.own x hx).up hb0⟩:DedS _ _ A l) hn
 rw[hE]at pk
 have HF:=Lib.hid hF
 have Hdo:=Lib.hid hdo
 have Hfo:=Lib.hid hfo
 clear hF hE hdo hfo hn
 go_enter Tryz.func62,Tryz.ntmps62
 go_wp2_with (go_at_call 60;refine pk.mono ?_;rintro e w1 ⟨rfl,hx⟩;have kf:=kE hx kf;have hall:Below w.heap.size w w1:=hb0.trans (hx.mono hb0.size);clear l01)
 clear pk hb0 hx
 go_loopw [5,6] (fun s i wr=> ∃(k:Nat),k<=l.length∧i=.int .i64 k∧s=.string ⟨((l.take k).flatMap (fun x=>Pl.dedL f x.1)).toArray⟩∧wr.heap[w.heap.size]?=some (.cells (fq A1 A2 A3 A4 c1 c2 c3 c4 f) 28 (0,0))∧Below w.heap.size w wr) (fun _ i _=>l.length-(intOf i).toNat)
 case atStart=>exact⟨0,by omega,rfl,by rw[Pl.take_zero],kf,hall⟩
 case round=>
  clear kf hall
  obtain⟨k,hkl,rfl,rfl,kf,hall⟩:=hrel
  have hsz:=hall.size
  by_cases hlt:k<l.length
  ·obtain⟨g,o,hP,hg,p0,p1,p2,p3⟩:=Dds.at4 hD.row hlt
   have hmem:=List.getElem_mem hlt
   have hcl:=hD.own _ hmem
   have hok:=Hdo.out _ hmem
   have hpre:=Pl.take_len (fun x:Pl.Ded×Option Addr×Nat=>Pl.dedL f x.1) l 70000 (fun x hx=>Pl.dedL_len Hfo.out (Hdo.out x hx)) k
   have HN:=Lib.hid (Pl.take_succ (fun x:Pl.Ded×Option Addr×Nat=>Pl.dedL f x.1) hlt)
   obtain⟨PP,hPP⟩: ∃X,(l.take k).flatMap (fun x=>Pl.dedL f x.1)=X:=⟨_,rfl⟩
   rw[hPP]at HN hpre ⊢
   have hpp:PP.length<=4200000:=Nat.le_trans hpre (by have:=Nat.mul_le_mul_right 70000 (show k<=60 by omega);omega)
   clear hPP hpre hmem
   obtain⟨⟨⟨nm,y,r,cs⟩,P,pc⟩,hbd2⟩: ∃x,l[k]=x:=⟨_,rfl⟩
   rw[hbd2]at p0 p1 p2 p3 hcl hok HN
   have hnm:=Pl.name_size hok.name
   have hy:=hok.year
   have hr:=hok.rank
   have hcs20:=hok.few
   have hcal:=hok.calls
   have h100:=Pl.dedW_len hnm hy hr
   have HQ:=Lib.hid (Pl.dedW_text ⟨nm,y,r,cs⟩).symm
   simp only[slv]at p0 p1 p2 p3 hcl hnm hy hr hcs20 hcal
   clear hbd2 hok
   obtain⟨nl,rfl,hnl⟩:=ba_listP nm
   rw[<-hnl]at hnm
   clear hnl
   obtain⟨D,hDD⟩: ∃X,Pl.lineL (Pl.dedW ⟨⟨nl.toArray⟩,y,r,cs⟩)=X:=⟨_,rfl⟩
   have HN2:Hid ((l.take (k+1)).flatMap (fun x=>Pl.dedL f x.1)=PP++(D++cs.flatMap (Pl.callL f))):=Lib.hid (by rw[HN.out];unfold Pl.dedL;rw[hDD])
   have HQ:Hid (((((((PP++[100,101,101,100,32])++nl)++[32])++Lib.itoa y)++[32])++Lib.itoa r)++[10]=PP++D):=Lib.hid (by rw[<-hDD,<-HQ.out];simp)
   rw[hDD]at h100
   clear HN hDD
   have iy:(Lib.itoa y).length<=21:=Lib.itoa_length_le y (by omega) (by omega)
   have ir:(Lib.itoa r).length<=21:=Lib.itoa_length_le r (by omega) (by omega)
   have t1:=fun W=>addP PP [100,101,101,100,32] (by omega) (by decide) W
   obtain⟨Q1,hQ1⟩: ∃X,PP++[100,101,101,100,32]=X:=⟨_,rfl⟩
   have y1:Q1.length<=4200005:=by rw[<-hQ1];simp;omega
   rw[hQ1]at t1 HQ
   have t2:=fun W=>addP Q1 nl (by omega) (by omega) W
   obtain⟨Q2,hQ2⟩: ∃X,Q1++nl=X:=⟨_,rfl⟩
   have y2:Q2.length<=4200029:=by rw[<-hQ2];simp;omega
   rw[hQ2]at t2 HQ
   have t3:=fun W=>addP Q2 [32] (by omega) (by decide) W
   obtain⟨Q3,hQ3⟩: ∃X,Q2++[32]=X:=⟨_,rfl⟩
   have y3:Q3.length<=4200030:=by rw[<-hQ3];simp;omega
   rw[hQ3]at t3 HQ
   have t4:=fun W=>addP Q3 (Lib.itoa y) (by omega) (by omega) W
   obtain⟨Q4,hQ4⟩: ∃X,Q3++(Lib.itoa y)=X:=⟨_,rfl⟩
   have y4:Q4.length<=4200051:=by rw[<-hQ4];simp;omega
   rw[hQ4]at t4 HQ
   have t5:=fun W=>addP Q4 [32] (by omega) (by decide) W
   obtain⟨Q5,hQ5⟩: ∃X,Q4++[32]=X:=⟨_,rfl⟩
   have y5:Q5.length<=4200052:=by rw[<-hQ5];simp;omega
   rw[hQ5]at t5 HQ
   have t6:=fun W=>addP Q5 (Lib.itoa r) (by omega) (by omega) W
   obtain⟨Q6,hQ6⟩: ∃X,Q5++(Lib.itoa r)=X:=⟨_,rfl⟩
   have y6:Q6.length<=4200073:=by rw[<-hQ6];simp;omega
   rw[hQ6]at t6 HQ
   have t7:=fun W=>addP Q6 [10] (by omega) (by decide) W
   rw[HQ.out]at t7
   clear hQ1 hQ2 hQ3 hQ4 hQ5 hQ6
   subst hP
   have e1:(0:Int)<=(k:Int):=by omega
   have e2:(k:Int)<(l.length:Int):=by omega
   have dy:=fun W=>digits3_a y W (by omega) (by omega)
   have dr:=fun W=>digits3_a r W (by omega) (by omega)
   obtain⟨tk1,_⟩: ∃n:Nat,n=n:=⟨0,rfl⟩
   have cel:=Lib.hid fun(W:World) (hW:Below w.heap.size w W)=>(show W.cell? ⟨g,o+k*4,none⟩=some (.string ⟨nl.toArray⟩)∧W.cell? ⟨g,o+k*4+1,none⟩=some (.int .i64 y)∧W.cell? ⟨g,o+k*4+2,none⟩=some (.int .i64 r) from⟨(hW.cell (p:=⟨g,o+k*4,none⟩) hg).trans p0,(hW.cell (p:=⟨g,o+k*4+1,none⟩) hg).trans p1,(hW.cell (p:=⟨g,o+k*4+2,none⟩) hg).trans p2⟩)
   have p3':=Lib.hid fun(W:World) (hW:Below w.heap.size w W)=>(hW.cell (p:=⟨g,o+k*4+3,none⟩) hg).trans p3
   clear p0 p1 p2 p3
   go_wp2
   go_region_held3 (fun W=>W.cell? ⟨g,o+k*4,none⟩=some (.string ⟨nl.toArray⟩)∧W.cell? ⟨g,o+k*4+1,none⟩=some (.int .i64 y)∧W.cell? ⟨g,o+k*4+2,none⟩=some (.int .i64 r)) (first|exact cel.out _ hall.drew|exact cel.out _ hall4|exact cel.out _ hall2) (first
    |(go_at_call 95;clear tk1;refine(dy _).mono ?_;rintro e w2 ⟨rfl,hx⟩;have h2:Below wr.heap.size wr w2:=Below.trans (by go_grown) (hx.mono (by go_size));have kf2:=kE h2 kf;have hall2:Below w.heap.size w w2:=hall.trans (h2.mono hall.size);clear hx)
    |(go_at_call 95;refine(dr _).mono ?_;rintro e w4 ⟨rfl,hx⟩;have h4:Below w2.heap.size w2 w4:=Below.trans (by go_grown) (hx.mono (by go_size));have kf4:=kE h4 kf2;have hall4:Below w.heap.size w w4:=hall2.trans (h4.mono hall2.size);clear hx))
   all_goals clear t1 t2 t3 t4 t5 t6 t7 HQ cel dy dr
   all_goals go_wp2
   all_goals (
    go_loopw [5,7] (fun s i wr=> ∃(j:Nat),j<=cs.length∧i=.int .i64 j∧s=.string ⟨(PP++D++(cs.take j).flatMap (Pl.callL f)).toArray⟩∧wr.heap[w.heap.size]?=some (.cells (fq A1 A2 A3 A4 c1 c2 c3 c4 f) 28 (0,0))∧Below w.heap.size w wr) (fun _ i _=>cs.length-(intOf i).toNat)
    case atStart=>exact⟨0,by omega,rfl,by rw[Pl.take_zero,List.append_nil],kf4,hall4⟩
    case round=>
     clear kf2 kf4 hall2 hall4 h2 h4 kf hall
     obtain⟨j,hj,rfl,rfl,kf,hall⟩:=hrel
     have hsz:=hall.size
     have q3:=p3'.out _ hall
     by_cases hjt:j<cs.length
     ·obtain⟨g2,o2,hP2,hg2,v0⟩:=Cals.ld hcl hjt
      have hca:=hcal _ (List.getElem_mem hjt)
      have hclen:=Pl.callL_len Hfo.out hca.1
      have hpre:=Pl.take_len (Pl.callL f) cs 3001 (fun c hc=>Pl.callL_len Hfo.out (hcal c hc).1) j
      have hjm:j*3001<=60020:=by have:=Nat.mul_le_mul_right 3001 (show j<=20 by omega);omega
      have HM:=Lib.hid (Pl.take_succ (Pl.callL f) hjt)
      obtain⟨c,hcc⟩: ∃c,cs[j]=c:=⟨_,rfl⟩
      rw[hcc]at v0 hca HM hclen
      clear hcc
      obtain⟨QQ,hQQ⟩: ∃X,PP++D++(cs.take j).flatMap (Pl.callL f)=X:=⟨_,rfl⟩
      have hqq:QQ.length<=10000000:=by rw[<-hQQ,List.length_append,List.length_append];omega
      have HM2:Hid (PP++D++(cs.take (j+1)).flatMap (Pl.callL f)=QQ++Pl.callL f c):=Lib.hid (by rw[HM.out,<-hQQ];simp)
      rw[hQQ]at ⊢
      clear HM hQQ hpre
      have hE0:Pl.checkCallE f c=0:=by unfold Pl.checkCallE;rw[if_pos HF.out];exact hca.1
      have pl:=fun W (hW:Below w.heap.size w W)=>WriteCallB_a A1 A2 A3 A4 c1 c2 c3 c4 f c W (hf.up hW) hm hc
      rw[show Pl.writeV f c=Pl.lineB f c by unfold Pl.writeV;rw[if_pos hE0],hE0]at pl
      obtain⟨u,hu⟩: ∃u,Pl.lineB f c=u:=⟨_,rfl⟩
      obtain⟨ul,rfl,hul⟩:=ba_listP u
      have hcL:Pl.callL f c=ul++[10]:=by unfold Pl.callL;rw[hu]
      rw[hcL]at hclen HM2
      have hul2:ul.length<=3001:=by simp at hclen;omega
      have t1:=fun W=>addP QQ ul (by omega) (by omega) W
      have t2:=fun W=>addP (QQ++ul) [10] (by rw[List.length_append];omega) (by decide) W
      have HM3:Hid ((QQ++ul)++[10]=PP++D++(cs.take (j+1)).flatMap (Pl.callL f)):=Lib.hid (by rw[HM2.out];simp)
      rw[HM3.out]at t2
      rw[hu]at pl
      clear hu hul hcL hca HM2 HM3 hE0
      subst hP2
      have e3:(0:Int)<=(j:Int):=by omega
      have e4:(j:Int)<(cs.length:Int):=by omega
      have hbd:=hall.drew
      have lfd:=ld_row (show wr.drew.heap[w.heap.size]?=_ from kf) Tryz.underlying28 rfl info_fld
      have q3d:=p3'.out _ hbd
      have vdd:=v0 _ hbd
      go_wp2
      go_region_held3 (fun W=>(loadVar 28 ⟨w.heap.size,0,none⟩).run Tryz.prog W=.ok (.agg (fq A1 A2 A3 A4 c1 c2 c3 c4 f)) W∧W.cell? ⟨g,o+k*4+3,none⟩=some (.slice (some ⟨g2,o2,none⟩) cs.length pc)∧(loadVar 48 ⟨g2,o2+j*13,none⟩).run Tryz.prog W=.ok (.agg (kq c)) W) (first|exact⟨lfd,q3d,vdd⟩|exact⟨lf4,q34,vd4⟩) (first
       |(go_at_call 30;refine(pl _ hbd).mono ?_;rintro e w4 ⟨rfl,hx⟩;have kf4:=kE hx kf;have hb4:Below w.heap.size w w4:=hbd.trans (hx.mono hbd.size);have lf4:=ld_row kf4 Tryz.underlying28 rfl info_fld;have q34:=p3'.out _ hb4;have vd4:=v0 _ hb4;clear hx))
      all_goals go_wp2
      all_goals (
       go_roundw
       case rel=>exact⟨j+1,by omega,by go_num,by rw[List.append_assoc],kf4,hb4⟩
       case measure=>first|(simp[intOf];done)|(simp[intOf];omega))
     ·obtain rfl:j=cs.length:=by omega
      have e3: ¬((cs.length:Int)<(cs.length:Int)):=by omega
      have HL:Hid (PP++D++(cs.take cs.length).flatMap (Pl.callL f)=(l.take (k+1)).flatMap (fun x=>Pl.dedL f x.1)):=Lib.hid (by rw[List.take_length,HN2.out];simp)
      rw[HL.out]
      go_wp2
      go_roundw
      case rel=>exact⟨k+1,by omega,by go_num,rfl,kf,hall⟩
      case measure=>first|(simp[intOf];done)|(simp[intOf];omega))
  ·obtain rfl:k=l.length:=by omega
   rw[hres.out]
   go_wp2
   go_ret
   exact⟨rfl,hall⟩
theorem PrintDeedsB_a (A:Option Addr)(c:Nat)(l:List (Pl.Ded×Option Addr×Nat))(w:World)(hf:FldS w w.heap.size A1 A2 A3 A4 f)(hm:Small f)(hc:Caps c1 c2 c3 c4 f)(hD:DedS w w.heap.size A l)(hn: ∀x∈l,x.1.name.size<=100000):
  Calls Tryz.prog 62 #[.agg (fq A1 A2 A3 A4 c1 c2 c3 c4 f),.slice A l.length c] w fun e w'=>e=.returned (.string (Pl.deedsB f (l.map (·.1))))∧Below w.heap.size w w':=by
 by_cases hE:Pl.deedsE f (l.map (·.1))=0
 ·have:=PrintDeedsB_ok A1 A2 A3 A4 c1 c2 c3 c4 f A c l w hf hm hc hD hE
  unfold Pl.deedsB Pl.mkB
  rw[if_pos hE]
  exact this
 ·unfold Pl.deedsB
  rw[if_neg hE]
  have kf:=heap_alloc_new w (.cells (fq A1 A2 A3 A4 c1 c2 c3 c4 f) 28)
  have hb0:Below w.heap.size w (w.alloc (.cells (fq A1 A2 A3 A4 c1 c2 c3 c4 f) 28)):=(Below.refl _ w).alloc (Nat.le_refl _) _
  have l01:=ld_row kf Tryz.underlying28 rfl info_fld
  have pk:=CheckDeedsB_a A1 A2 A3 A4 c1 c2 c3 c4 f A c l _ (hf.up hb0) hm hc (⟨hD.row.up hb0,fun x hx=>(hD.own x hx).up hb0⟩:DedS _ _ A l) hn
  obtain⟨E,he⟩: ∃E,Pl.deedsE f (l.map (·.1))=E:=⟨_,rfl⟩
  rw[he]at pk hE
  have hne:(E !=0)=true:=by simpa using hE
  clear he hE
  go_enter Tryz.func62,Tryz.ntmps62
  go_wp2_with (go_at_call 60;refine pk.mono ?_;rintro e w1 ⟨rfl,hx⟩;have kf:=kE hx kf;have hall:Below w.heap.size w w1:=hb0.trans (hx.mono hb0.size);clear l01)
  go_ret
  exact⟨rfl,hall⟩
end Go.Proofs.YtgbpekeoegfjpaaGreatDoor
set_option maxRecDepth 100000
namespace Go.Proofs.YtgbpekeoegfjpaaGreatDoor
open Go.RowKit
variable (A1 A2 A3 A4 : Option Addr) (c1 c2 c3 c4 : Nat) (f : Pl.Fld)
attribute [-go_sem] storeVar loadVar run_equalIn_agg
attribute [local go_sem] lv_int lv_bool lv_u8 lv_string lv_errno
set_option maxHeartbeats 8000000 in
theorem deeds_vast (Ad:Option Addr)(cd:Nat)(ds:List (Pl.Ded×Option Addr×Nat))(w:World)(hEn:Env w)(hf:FldS w w.heap.size A1 A2 A3 A4 f)(hv:Hid (Pl.vast f=true)):
  Calls Tryz.prog 13 #[.agg (fq A1 A2 A3 A4 c1 c2 c3 c4 f),.slice Ad ds.length cd] w fun e w'=>e=.returned (.bool true)∧Below w.heap.size w w':=by
 have kf:=heap_alloc_new w (.cells (fq A1 A2 A3 A4 c1 c2 c3 c4 f) 28)
 have hall:Below w.heap.size w (w.alloc (.cells (fq A1 A2 A3 A4 c1 c2 c3 c4 f) 28)):=(Below.refl _ w).alloc (Nat.le_refl _) _
 have l01:=ld_row kf Tryz.underlying28 rfl info_fld
 go_enter Tryz.func13,Tryz.ntmps13
 go_wp2_with fail
 refine(vast_a A1 A2 A3 A4 c1 c2 c3 c4 f _ (hf.up hall) true hv).mono ?_
 rintro e w1 ⟨rfl,hx⟩
 have kf:=kE hx kf
 have hall:=hall.trans (hx.mono hall.size)
 (try clear l01)
 have l01:=ld_row kf Tryz.underlying28 rfl info_fld
 clear hx
 go_wp2_with fail
 refine(spoken_a _ (hEn.up hall)).mono ?_
 rintro e w3 ⟨rfl,hx⟩
 have kf:=kE hx kf
 have hall:=hall.trans (hx.mono hall.size)
 (try clear l01)
 have l01:=ld_row kf Tryz.underlying28 rfl info_fld
 clear hx
 go_wp2_with fail
 go_ret
 exact⟨by first|rfl|(simp;done),hall⟩
set_option maxHeartbeats 8000000 in
theorem deeds_many (Ad:Option Addr)(cd:Nat)(ds:List (Pl.Ded×Option Addr×Nat))(w:World)(hEn:Env w)(hf:FldS w w.heap.size A1 A2 A3 A4 f)(hv:Hid (Pl.vast f=false))(hD:DedS w w.heap.size Ad ds)(hmy:Hid (Pl.many (ds.map (·.1))=true)):
  Calls Tryz.prog 13 #[.agg (fq A1 A2 A3 A4 c1 c2 c3 c4 f),.slice Ad ds.length cd] w fun e w'=>e=.returned (.bool true)∧Below w.heap.size w w':=by
 have kf:=heap_alloc_new w (.cells (fq A1 A2 A3 A4 c1 c2 c3 c4 f) 28)
 have hall:Below w.heap.size w (w.alloc (.cells (fq A1 A2 A3 A4 c1 c2 c3 c4 f) 28)):=(Below.refl _ w).alloc (Nat.le_refl _) _
 have l01:=ld_row kf Tryz.underlying28 rfl info_fld
 go_enter Tryz.func13,Tryz.ntmps13
 go_wp2_with fail
 refine(vast_a A1 A2 A3 A4 c1 c2 c3 c4 f _ (hf.up hall) false hv).mono ?_
 rintro e w1 ⟨rfl,hx⟩
 have kf:=kE hx kf
 have hall:=hall.trans (hx.mono hall.size)
 (try clear l01)
 have l01:=ld_row kf Tryz.underlying28 rfl info_fld
 clear hx
 go_wp2_with fail
 refine(many_a Ad cd ds true _ (hD.row.up hall) hmy).mono ?_
 rintro e w2 ⟨rfl,rfl⟩
 go_wp2_with fail
 refine(spoken_a _ (hEn.up hall)).mono ?_
 rintro e w3 ⟨rfl,hx⟩
 have kf:=kE hx kf
 have hall:=hall.trans (hx.mono hall.size)
 (try clear l01)
 have l01:=ld_row kf Tryz.underlying28 rfl info_fld
 clear hx
 go_wp2_with fail
 go_ret
 exact⟨by first|rfl|(simp;done),hall⟩
set_option maxHeartbeats 16000000 in
theorem deeds_few (Ad:Option Addr)(cd:Nat)(ds:List (Pl.Ded×Option Addr×Nat))(w:World)(hEn:Env w)(hf:FldS w w.heap.size A1 A2 A3 A4 f)(hm:Small f)(hc:Caps c1 c2 c3 c4 f)(hv:Hid (Pl.vast f=false))(hD:DedS w w.heap.size Ad ds)(hlc:ds.length<=cd)(hk: ∀x∈ds,∀c∈x.1.calls,c.kind<=255)(hn: ∀x∈ds,x.1.name.size<=100000)(h70:ds.length<=70)(hmy:Hid (Pl.many (ds.map (·.1))=false)):
  Calls Tryz.prog 13 #[.agg (fq A1 A2 A3 A4 c1 c2 c3 c4 f),.slice Ad ds.length cd] w fun e w'=>e=.returned (.bool true)∧Below w.heap.size w w':=by
 have kf:=heap_alloc_new w (.cells (fq A1 A2 A3 A4 c1 c2 c3 c4 f) 28)
 have hall:Below w.heap.size w (w.alloc (.cells (fq A1 A2 A3 A4 c1 c2 c3 c4 f) 28)):=(Below.refl _ w).alloc (Nat.le_refl _) _
 have l01:=ld_row kf Tryz.underlying28 rfl info_fld
 go_enter Tryz.func13,Tryz.ntmps13
 go_wp2_with fail
 refine(vast_a A1 A2 A3 A4 c1 c2 c3 c4 f _ (hf.up hall) false hv).mono ?_
 rintro e w1 ⟨rfl,hx⟩
 have kf:=kE hx kf
 have hall:=hall.trans (hx.mono hall.size)
 (try clear l01)
 have l01:=ld_row kf Tryz.underlying28 rfl info_fld
 clear hx
 go_wp2_with fail
 refine(many_a Ad cd ds false _ (hD.row.up hall) hmy).mono ?_
 rintro e w2 ⟨rfl,rfl⟩
 go_wp2_with fail
 have hlt0:=lO kf
 have hb0:=hall
 go_loopw [5] (fun i wr=> ∃(k:Nat),k<=ds.length∧i=.int .i64 k∧wr.heap[w.heap.size]?=some (.cells (fq A1 A2 A3 A4 c1 c2 c3 c4 f) 28 (0,0))∧Below w.heap.size w wr) (fun i _=>ds.length-(intOf i).toNat)
 case atStart=>exact⟨0,by omega,rfl,kf,hall⟩
 case round=>
  clear kf hall hb0 l01
  obtain⟨k,hkl,rfl,kf,hall⟩:=hrel
  by_cases hlt:k<ds.length
  ·obtain⟨g,o,hP,hg,u0⟩:=Dds.ld hD.row hlt
   have hmem:=List.getElem_mem hlt
   have hcl:=hD.own _ hmem
   have hkc:=hk _ hmem
   have hnc:=hn _ hmem
   obtain⟨x,hxd⟩: ∃x,ds[k]=x:=⟨_,rfl⟩
   rw[hxd]at u0 hcl hkc hnc
   clear hxd hmem
   subst hP
   have e1:(0:Int)<=(k:Int):=by omega
   have e2:(k:Int)<(ds.length:Int):=by omega
   have hbd:=hall.drew
   have lfd:=ld_row (show wr.drew.heap[w.heap.size]?=_ from kf) Tryz.underlying28 rfl info_fld
   have udd:=u0 _ hbd
   have pa:=fun W (hW:Below w.heap.size w W)=>CheckDeed_a A1 A2 A3 A4 c1 c2 c3 c4 f x W (hf.up hW) hm hc (hcl.up hW) hkc hnc
   have pb:=fun W (hW:Below w.heap.size w W)=>CheckDeedB_a A1 A2 A3 A4 c1 c2 c3 c4 f x W (hf.up hW) hm hc (hcl.up hW) hnc
   obtain⟨E,hE⟩: ∃E,Pl.deedE f x.1=E:=⟨_,rfl⟩
   rw[hE]at pa pb
   clear hE
   go_wp2
   go_region_held3 (fun W=>(loadVar 28 ⟨w.heap.size,0,none⟩).run Tryz.prog W=.ok (.agg (fq A1 A2 A3 A4 c1 c2 c3 c4 f)) W∧(loadVar 90 ⟨g,o+k*4,none⟩).run Tryz.prog W=.ok (.agg #[.string x.1.name,.int .i64 x.1.year,.int .i64 x.1.rank,.slice x.2.1 x.1.calls.length x.2.2]) W) (first|exact⟨lfd,udd⟩|exact⟨lf4,ud4⟩|exact⟨lf3,ud3⟩) (first
    |(go_at_call 58;refine(pa _ hbd).mono ?_;rintro e w3 ⟨rfl,hx⟩;have kf3:=kE hx kf;have hb3:Below w.heap.size w w3:=hbd.trans (hx.mono hbd.size);have lf3:=ld_row kf3 Tryz.underlying28 rfl info_fld;have ud3:=u0 _ hb3;clear hx)
    |(go_at_call 59;refine(pb _ hb3).mono ?_;rintro e w4 ⟨rfl,hx⟩;have kf4:=kE hx kf3;have hb4:Below w.heap.size w w4:=hb3.trans (hx.mono hb3.size);have lf4:=ld_row kf4 Tryz.underlying28 rfl info_fld;have ud4:=u0 _ hb4;clear hx))
   all_goals clear pa pb
   all_goals go_wp2
   all_goals (
    go_roundw
    case rel=>exact⟨k+1,by omega,by go_num,kf4,hb4⟩
    case measure=>first|(simp[intOf];done)|(simp[intOf];omega))
  ·have l01:=ld_row kf Tryz.underlying28 rfl info_fld
   have hcap:=Lib.hid hlc
   have hDD:=fun(W:World) (hW:Below w.heap.size w W)=>(⟨hD.row.up hW,fun x hx=>(hD.own x hx).up hW⟩:DedS W W.heap.size Ad ds)
   have p1:=fun W (hW:Below w.heap.size w W)=>CheckDeeds_a A1 A2 A3 A4 c1 c2 c3 c4 f Ad cd ds W (hf.up hW) hm hc (hDD W hW) hlc hk hn (by omega)
   have p2:=fun W (hW:Below w.heap.size w W)=>CheckDeedsB_a A1 A2 A3 A4 c1 c2 c3 c4 f Ad cd ds W (hf.up hW) hm hc (hDD W hW) hn
   have p3:=fun W (hW:Below w.heap.size w W)=>PrintDeeds_a A1 A2 A3 A4 c1 c2 c3 c4 f Ad cd ds W (hEn.up hW) (hf.up hW) hm hc (hDD W hW) hlc hk hn (by omega)
   have p4:=fun W (hW:Below w.heap.size w W)=>PrintDeedsB_a A1 A2 A3 A4 c1 c2 c3 c4 f Ad cd ds W (hf.up hW) hm hc (hDD W hW) hn
   obtain⟨E,hE⟩: ∃E,Pl.deedsE f (ds.map (·.1))=E:=⟨_,rfl⟩
   obtain⟨S,hS⟩: ∃S,Pl.deedsB f (ds.map (·.1))=S:=⟨_,rfl⟩
   rw[hE]at p1 p2
   rw[hS]at p3 p4
   clear hE hS hlc hk hn hDD
   obtain rfl:k=ds.length:=by omega
   go_wp2_with fail
   have kf:=(show wr.drew.heap[w.heap.size]?=_ from kf)
   have hall:=hall.drew
   clear l01
   have l01:=ld_row kf Tryz.underlying28 rfl info_fld
   go_region_held3 (fun W=>(loadVar 28 ⟨w.heap.size,0,none⟩).run Tryz.prog W=.ok (.agg (fq A1 A2 A3 A4 c1 c2 c3 c4 f)) W) (exact l01) (first
    |(go_at_call 18;refine(spoken_a _ (hEn.up hall)).mono ?_;rintro e w9 ⟨rfl,hx⟩;have kf:=kE hx kf;have hall:Below w.heap.size w w9:=hall.trans (hx.mono hall.size);have l01:=ld_row kf Tryz.underlying28 rfl info_fld;clear hx)
    |(go_at_call 48;refine(p1 _ hall).mono ?_;rintro e w9 ⟨rfl,hx⟩;have kf:=kE hx kf;have hall:Below w.heap.size w w9:=hall.trans (hx.mono hall.size);have l01:=ld_row kf Tryz.underlying28 rfl info_fld;clear hx p1)
    |(go_at_call 60;refine(p2 _ hall).mono ?_;rintro e w9 ⟨rfl,hx⟩;have kf:=kE hx kf;have hall:Below w.heap.size w w9:=hall.trans (hx.mono hall.size);have l01:=ld_row kf Tryz.underlying28 rfl info_fld;clear hx p2)
    |(go_at_call 61;refine(p3 _ hall).mono ?_;rintro e w9 ⟨rfl,hx⟩;have kf:=kE hx kf;have hall:Below w.heap.size w w9:=hall.trans (hx.mono hall.size);have l01:=ld_row kf Tryz.underlying28 rfl info_fld;clear hx p3)
    |(go_at_call 62;refine(p4 _ hall).mono ?_;rintro e w9 ⟨rfl,hx⟩;have kf:=kE hx kf;have hall:Below w.heap.size w w9:=hall.trans (hx.mono hall.size);have l01:=ld_row kf Tryz.underlying28 rfl info_fld;clear hx p4))
   all_goals go_wp2
   all_goals go_ret
   all_goals exact⟨by first|rfl|(simp;done),hall⟩
set_option maxHeartbeats 1000000 in
theorem deedDeeds_w (Ad:Option Addr)(cd:Nat)(ds:List (Pl.Ded×Option Addr×Nat))(w:World)(hEn:Env w)(hf:FldS w w.heap.size A1 A2 A3 A4 f)(hc:Caps c1 c2 c3 c4 f)(hD:DedS w w.heap.size Ad ds)(hlc:ds.length<=cd)(hk: ∀x∈ds,∀c∈x.1.calls,c.kind<=255):
  Calls Tryz.prog 13 #[.agg (fq A1 A2 A3 A4 c1 c2 c3 c4 f),.slice Ad ds.length cd] w fun e w'=>e=.returned (.bool true)∧Below w.heap.size w w':=by
 cases hv:Pl.vast f with
 |true=>exact deeds_vast A1 A2 A3 A4 c1 c2 c3 c4 f Ad cd ds w hEn hf (Lib.hid hv)
 | false=>
  have hm:Small f:=Pl.vast_small hv
  cases hmy:Pl.many (ds.map (·.1))with
  |true=>exact deeds_many A1 A2 A3 A4 c1 c2 c3 c4 f Ad cd ds w hEn hf (Lib.hid hv) hD (Lib.hid hmy)
  | false=>
   have hfew:=hmy
   unfold Pl.many at hfew
   rw[Bool.or_eq_false_iff]at hfew
   have h70:ds.length<=70:=by have:=hfew.1;simp at this;omega
   have hn: ∀x∈ds,x.1.name.size<=100000:=fun x hx=>by
    have:=List.any_eq_false.1 hfew.2 x.1 (List.mem_map_of_mem hx)
    unfold Pl.manyD at this
    simp at this
    omega
   exact deeds_few A1 A2 A3 A4 c1 c2 c3 c4 f Ad cd ds w hEn hf hm hc (Lib.hid hv) hD hlc hk hn h70 (Lib.hid hmy)
end Go.Proofs.YtgbpekeoegfjpaaGreatDoor
