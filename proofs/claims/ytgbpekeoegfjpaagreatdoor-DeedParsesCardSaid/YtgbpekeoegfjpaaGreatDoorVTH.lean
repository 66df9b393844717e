/- Proved: parts of the walk. -/
import Derived.Test.YtgbpekeoegfjpaaGreatDoorVTG
import Derived.Test.YtgbpekeoegfjpaaGreatDoorVRM
set_option maxRecDepth 100000
set_option maxHeartbeats 4000000
namespace Go.Proofs
open Tryz RowKit
attribute [-go_sem] Builtin.append_
theorem PN {L wv:List UInt8}{k:Nat}(hk:k<L.length):Pl.lH wv (L.drop k)=if L[k]=35 then Pl.solid [wv]else if L[k]=32 then Pl.solid [wv]++Pl.lH [] (L.drop (k+1))else Pl.lH (wv++[L[k]]) (L.drop (k+1)):=by
 rw[List.drop_eq_getElem_cons hk,Pl.lH]
theorem MZ {s:ByteArray}{k:Nat}(hk:k<s.size):s.extract k (k+1)=⟨#[s[k]]⟩:=by
 apply Pl.Gz
 rw[oh,nS (Nat.le_refl k) (by rw[eO];exact hk),nT]
 rfl
theorem M0 (s:ByteArray)(w:World)(hs:s.size<=100000):Calls prog 75 #[.string s] w (nD (Pl.aW s) w):=by
 have HL:=Lib.hid (eO s)
 go_enter func75,ntmps75
 go_wp2
 go_loopw [3,4,5] (fun o x i wr=> ∃(k:Nat) (done:List (List UInt8)) (wv:List UInt8),k<=s.size∧i=.int .i64 k∧x=.string ⟨wv.toArray⟩∧wr.ownsRow w.heap.size 9 1 o done.length ((done.map Pl.q9).flatMap fU)∧done.length<=k∧wv.length<=k∧Hid (done++Pl.lH wv (s.data.toList.drop k)=Pl.lH [] s.data.toList)∧Below w.heap.size w wr) (fun _ _ i _=>s.size-(intOf i).toNat)
 case atStart=>exact⟨0,[],[],by omega,rfl,rfl,World.ownsRow_nil _ _ _ _,by simp,by simp,Lib.hid (by simp),by go_grown⟩
 case round=>
  obtain⟨k,done,wv,hk,rfl,rfl,hown,hdl,hwl,hg,hb⟩:=hrel
  have hsz:=hb.size
  by_cases hlt:k<s.size
  ·have hat:=Lib.hid (PN (L:=s.data.toList) (wv:=wv) (k:=k) (by rw[HL.out];exact hlt))
   have HG:=Lib.hid (show s.data.toList[k]'(by rw[HL.out];exact hlt)=s[k] from rfl)
   have hu:s[k].toNat<=255:=by have:=s[k].toNat_lt;omega
   by_cases Qk:s[k]=35
   ·have V6:((s[k].toNat:Int) !=35)=false:=by rw[Qk];rfl
    have hlast:Pl.lH wv (s.data.toList.drop k)=Pl.solid [wv]:=by rw[hat.out,if_pos (by rw[HG.out];exact Qk)]
    clear Qk hat
    have hF:done++Pl.solid [wv]=Pl.kM s.data.toList:=by rw[<-Pl.xS,<-hg.out,hlast]
    by_cases hw:wv=[]
    ·subst hw
     have hl:Pl.aW s=done.map Pl.q9:=by unfold Pl.aW;rw[<-hF];simp[Pl.solid]
     have hq:done.length=(Pl.aW s).length:=by rw[hl];simp
     rw[<-hl,hq]at hown
     obtain⟨A',c',hv,hN,hc,PO⟩:=dQ gy hown
     subst hv
     clear hF hl hq hlast hg
     go_wp2
     go_ret
     exact⟨A',c',rfl,hN,hc,PO,hb⟩
    ·obtain⟨g',cap',w2,hrun,hown2,hb2⟩:=kN gy hown [Pl.q9 wv] 0 rfl #[.string ⟨wv.toArray⟩] (by simp[fU,Pl.q9]) (by unfold maxLen;omega) (by omega) hsz
     have hl:Pl.aW s=done.map Pl.q9++[Pl.q9 wv]:=by unfold Pl.aW;rw[<-hF,List.map_append];simp[Pl.solid,hw]
     have hq:done.length+1=(Pl.aW s).length:=by rw[hl];simp
     rw[<-hl]at hown2
     have hown3:w2.ownsRow w.heap.size 9 1 (.slice (some ⟨g',0,none⟩) (done.length+1) cap') (Pl.aW s).length ((Pl.aW s).flatMap fU):=by rw[<-hq];exact hown2
     obtain⟨A',c',hv,hN,hc,PO⟩:=dQ gy hown3
     have hne:(!wv.isEmpty)=true:=by cases wv with|nil=>exact absurd rfl hw|cons _ _=>rfl
     have hne2:wv.isEmpty=false:=by cases wv with|nil=>exact absurd rfl hw|cons _ _=>rfl
     clear hF hl hq hlast hg hown hown2 hown3 hw
     go_wp2
     go_ret
     exact⟨A',c',rfl,hN,hc,PO,hb.trans hb2⟩
   ·have V6:((s[k].toNat:Int) !=35)=true:=by
     have:s[k].toNat≠35:=fun h=>Qk (UInt8.toNat_inj.1 h)
     simpa using fun h:(s[k].toNat:Int)=35=>this (by omega)
    by_cases h32:s[k]=32
    ·have hc6:((s[k].toNat:Int) !=32)=false:=by rw[h32];rfl
     have PZ:((s[k].toNat:Int)==32)=true:=by rw[h32];rfl
     have hnx:Hid (Pl.lH wv (s.data.toList.drop k)=Pl.solid [wv]++Pl.lH [] (s.data.toList.drop (k+1))):=Lib.hid (by rw[hat.out,if_neg (by rw[HG.out];exact Qk),if_pos (by rw[HG.out];exact h32)])
     clear Qk h32 hat
     by_cases hw:wv=[]
     ·subst hw
      have hn2:Hid (done++Pl.lH [] (s.data.toList.drop (k+1))=Pl.lH [] s.data.toList):=Lib.hid (by rw[<-hg.out,hnx.out];simp[Pl.solid])
      clear hg hnx
      go_wp2
      go_roundw
      case rel=>exact⟨k+1,done,[],by omega,by go_num,rfl,hown,by omega,by simp,hn2,hb⟩
      case measure=>first|(simp[intOf];done)|(simp[intOf];omega)
     ·obtain⟨g',cap',w2,hrun,hown2,hb2⟩:=kN gy hown [Pl.q9 wv] 0 rfl #[.string ⟨wv.toArray⟩] (by simp[fU,Pl.q9]) (by unfold maxLen;omega) (by omega) hsz
      have hn2:Hid ((done++[wv])++Pl.lH [] (s.data.toList.drop (k+1))=Pl.lH [] s.data.toList):=Lib.hid (by rw[<-hg.out,hnx.out];simp[Pl.solid,hw])
      have hne:(!wv.isEmpty)=true:=by cases wv with|nil=>exact absurd rfl hw|cons _ _=>rfl
      have hne2:wv.isEmpty=false:=by cases wv with|nil=>exact absurd rfl hw|cons _ _=>rfl
      clear hg hnx hw hown
      go_wp2
      go_roundw
      case rel=>exact⟨k+1,done++[wv],[],by omega,by go_num,rfl,by simpa using hown2,by simp;omega,by simp,hn2,hb.trans hb2⟩
      case measure=>first|(simp[intOf];done)|(simp[intOf];omega)
    ·have hc6:((s[k].toNat:Int) !=32)=true:=by
      have:s[k].toNat≠32:=fun h=>h32 (UInt8.toNat_inj.1 h)
      simpa using fun h:(s[k].toNat:Int)=32=>this (by omega)
     have PZ:((s[k].toNat:Int)==32)=false:=by
      have:s[k].toNat≠32:=fun h=>h32 (UInt8.toNat_inj.1 h)
      simpa using fun h:(s[k].toNat:Int)=32=>this (by omega)
     have hnx:Hid (done++Pl.lH (wv++[s[k]]) (s.data.toList.drop (k+1))=Pl.lH [] s.data.toList):=Lib.hid (by rw[<-hg.out,hat.out,if_neg (by rw[HG.out];exact Qk),if_neg (by rw[HG.out];exact h32),HG.out])
     have t1:=fun W=>dV wv [s[k]] (by omega) (by simp) W
     have ex:=MZ hlt
     have t2: ∀W,(Op.stringOp .add ⟨wv.toArray⟩ (s.extract k (k+1))).run prog W=.ok (.string ⟨(wv++[s[k]]).toArray⟩) W:=fun W=>by rw[ex];exact t1 W
     clear Qk h32 hat hg ex t1
     go_wp2
     go_roundw
     case rel=>exact⟨k+1,done,wv++[s[k]],by omega,by go_num,rfl,hown,by omega,by simp;omega,hnx,hb⟩
     case measure=>first|(simp[intOf];done)|(simp[intOf];omega)
  ·obtain rfl:k=s.size:=by omega
   have hlast:Pl.lH wv (s.data.toList.drop s.size)=Pl.solid [wv]:=by rw[List.drop_eq_nil_of_le (by rw[HL.out];omega),Pl.lH]
   have hF:done++Pl.solid [wv]=Pl.kM s.data.toList:=by rw[<-Pl.xS,<-hg.out,hlast]
   by_cases hw:wv=[]
   ·subst hw
    have hl:Pl.aW s=done.map Pl.q9:=by unfold Pl.aW;rw[<-hF];simp[Pl.solid]
    have hq:done.length=(Pl.aW s).length:=by rw[hl];simp
    rw[<-hl,hq]at hown
    obtain⟨A',c',hv,hN,hc,PO⟩:=dQ gy hown
    subst hv
    clear hF hl hq hlast hg
    go_wp2
    go_ret
    exact⟨A',c',rfl,hN,hc,PO,hb⟩
   ·obtain⟨g',cap',w2,hrun,hown2,hb2⟩:=kN gy hown [Pl.q9 wv] 0 rfl #[.string ⟨wv.toArray⟩] (by simp[fU,Pl.q9]) (by unfold maxLen;omega) (by omega) hsz
    have hl:Pl.aW s=done.map Pl.q9++[Pl.q9 wv]:=by unfold Pl.aW;rw[<-hF,List.map_append];simp[Pl.solid,hw]
    have hq:done.length+1=(Pl.aW s).length:=by rw[hl];simp
    rw[<-hl]at hown2
    have hown3:w2.ownsRow w.heap.size 9 1 (.slice (some ⟨g',0,none⟩) (done.length+1) cap') (Pl.aW s).length ((Pl.aW s).flatMap fU):=by rw[<-hq];exact hown2
    obtain⟨A',c',hv,hN,hc,PO⟩:=dQ gy hown3
    have hne:(!wv.isEmpty)=true:=by cases wv with|nil=>exact absurd rfl hw|cons _ _=>rfl
    have hne2:wv.isEmpty=false:=by cases wv with|nil=>exact absurd rfl hw|cons _ _=>rfl
    clear hF hl hq hlast hg hown hown2 hown3 hw
    go_wp2
    go_ret
    exact⟨A',c',rfl,hN,hc,PO,hb.trans hb2⟩
def Pl.uF :List UInt8->List UInt8->List (List UInt8)
 |a,[]=>[a]
 |a,b::l=>if b=10 then a::Pl.uF [] l else Pl.uF (a++[b]) l
theorem Pl.M4 (l:List UInt8): ∀a:List UInt8,Pl.uF a l=match Pl.cutAt 10 l with
  | []=>[]
  |x::xs=>(a++x)::xs:=by
 induction l with
 |nil=>intro a;simp[Pl.uF,Pl.cutAt]
 | cons b l ih=>
  intro a
  unfold Pl.uF
  split
  ·rename_i h;subst h
   have e:Pl.cutAt 10 (10::l)=[]::Pl.cutAt 10 l:=by simp[Pl.cutAt]
   rw[e,ih]
   cases e2:Pl.cutAt 10 l with
   |nil=>exact absurd e2 (Pl.iH _ _)
   |cons x xs=>simp
  ·rename_i h
   obtain⟨x,xs,e1,e2⟩:=Pl.mh l h
   rw[ih,e1,e2]
   simp
theorem Pl.GV (l:List UInt8):Pl.uF [] l=Pl.rH l:=by
 rw[Pl.M4]
 unfold Pl.rH
 cases e:Pl.cutAt 10 l with
 |nil=>exact absurd e (Pl.iH _ _)
 |cons x xs=>simp
theorem PS {L:List UInt8}{f i:Nat}(h:f<=i)(hi:i<L.length):Pl.uF (stretch L f i) (L.drop i)=if L[i]=10 then stretch L f i::Pl.uF (stretch L (i+1) (i+1)) (L.drop (i+1))else Pl.uF (stretch L f (i+1)) (L.drop (i+1)):=by
 rw[List.drop_eq_getElem_cons hi,nT,nS h hi,Pl.uF]
theorem M5 (s:ByteArray)(w:World)(hs:s.size<=100000):Calls prog 74 #[.string s] w (nD (Pl.iA s) w):=by
 have HL:=Lib.hid (eO s)
 go_enter func74,ntmps74
 go_wp2
 go_loopw [3,4,5] (fun o fr i wr=> ∃(i' f:Nat) (done:List ByteArray),f<=i'∧i'<=s.size∧i=.int .i64 i'∧fr=.int .i64 f∧wr.ownsRow w.heap.size 9 1 o done.length (done.flatMap fU)∧done.length<=i'∧Hid (done.map (·.data.toList)++Pl.uF (stretch s.data.toList f i') (s.data.toList.drop i')=Pl.uF [] s.data.toList)∧Below w.heap.size w wr) (fun _ _ i _=>s.size-(intOf i).toNat)
 case atStart=>exact⟨0,0,[],by omega,by omega,rfl,rfl,World.ownsRow_nil _ _ _ _,by simp,by unfold Hid;simp[stretch],by go_grown⟩
 case round=>
  obtain⟨i,f,done,hf,hi,rfl,rfl,hown,hdl,hg,hb⟩:=hrel
  have hsz:=hb.size
  by_cases hlt:i<s.size
  ·have hcut:=Lib.hid (PS (L:=s.data.toList) hf (by rw[HL.out];exact hlt))
   have HG:=Lib.hid (show s.data.toList[i]'(by rw[HL.out];exact hlt)=s[i] from rfl)
   by_cases hc:s[i]=10
   ·have hc':((s[i].toNat:Int)==10)=true:=by rw[hc];rfl
    have HC:=Lib.hid hc;clear hc
    obtain⟨g',cap',w2,hrun,hown2,hb2⟩:=kN gy hown [s.extract f i] 0 rfl #[.string (s.extract f i)] (by simp[fU]) (by unfold maxLen;omega) (by omega) hsz
    go_wp2
    go_roundw
    case rel=>exact⟨i+1,i+1,done++[s.extract f i],by omega,by omega,by go_num,by go_num,by simpa using hown2,by simp;omega,by unfold Hid;rw[<-hg.out,hcut.out,if_pos (by rw[HG.out];exact HC.out)];simp[stretch],hb.trans hb2⟩
    case measure=>first|(simp[intOf];done)|(simp[intOf];omega)
   ·have hne: ¬s[i].toNat=10:=by intro h;apply hc;exact UInt8.toNat_inj.1 h
    have hc':((s[i].toNat:Int)==10)=false:=by simpa using fun h:(s[i].toNat:Int)=10=>hne (by omega)
    have HC:=Lib.hid hc;clear hc hne
    go_wp2
    go_roundw
    case rel=>exact⟨i+1,f,done,by omega,by omega,by go_num,rfl,hown,by omega,by unfold Hid;rw[<-hg.out,hcut.out,if_neg (by rw[HG.out];exact HC.out)],by go_grown⟩
    case measure=>first|(simp[intOf];done)|(simp[intOf];omega)
  ·obtain rfl:i=s.size:=by omega
   obtain⟨g',cap',w2,hrun,hown2,hb2⟩:=kN gy hown [s.extract f s.size] 0 rfl #[.string (s.extract f s.size)] (by simp[fU]) (by unfold maxLen;omega) (by omega) hsz
   have hfin:done++[s.extract f s.size]=Pl.iA s:=by
    apply Pl.qV
    have e:(Pl.iA s).map (·.data.toList)=Pl.rH s.data.toList:=by unfold Pl.iA;rw[List.map_map];exact List.map_id _
    rw[e,<-Pl.GV,<-hg.out,List.drop_eq_nil_of_le (by rw[HL.out];omega)]
    simp[Pl.uF,stretch]
   have hq:done.length+1=(Pl.iA s).length:=by rw[<-hfin];simp
   rw[hfin]at hown2
   have hown3:w2.ownsRow w.heap.size 9 1 (.slice (some ⟨g',0,none⟩) (done.length+1) cap') (Pl.iA s).length ((Pl.iA s).flatMap fU):=by rw[<-hq];exact hown2
   obtain⟨A',c',hv,hN,hc,PO⟩:=dQ gy hown3
   have hB:Below w.heap.size w w2:=hb.trans hb2
   clear hfin hq hown2 hown3 hown hg
   go_wp2
   go_ret
   exact⟨A',c',rfl,hN,hc,PO,hB⟩
theorem Ak {s:ByteArray}(h:s.size<1∨9<s.size):Pl.bN s=none:=by
 unfold Pl.bN Pl.yZ
 rw[if_pos]
 rw[eO]
 omega
theorem M6 (k:Nat)(h:k<=9):(10:Int)^k<=1000000000:=by
 have:(10:Nat)^k<=10^9:=Nat.pow_le_pow_right (by omega) h
 have e:((10^k:Nat):Int)=(10:Int)^k:=by rw[Int.natCast_pow];rfl
 rw[<-e];omega
theorem ng (s:ByteArray) (w:World) (hs:s.size<=100000):Calls prog 147 #[.string s] w fun e w'=>e=.returned (.tuple #[.int .i64 ((Pl.bN s).getD 0),.bool (Pl.bN s).isSome])∧w=w':=by
  have HL:=Lib.hid (eO s)
  by_cases hz:s.size<1
  · have HV:=Lib.hid (Ak (s:=s) (.inl hz))
    go_enter func147,ntmps147
    go_wp2
    all_goals first
      |(exfalso;omega)
      |(go_ret2;exact⟨by rw[HV.out];try rfl,rfl⟩)
  by_cases Xw:9<s.size
  · have HV:=Lib.hid (Ak (s:=s) (.inr Xw))
    go_enter func147,ntmps147
    go_wp2
    all_goals first
      |(exfalso;omega)
      |(go_ret2;exact⟨by rw[HV.out];try rfl,rfl⟩)
  have z1:0<s.size:=by omega
  have hd:s.data.toList.head?=some s[0]:=by
    rw[List.head?_eq_getElem?,List.getElem?_eq_getElem (by rw[HL.out];exact z1)];rfl
  have hu0:s[0].toNat<=255:=by have:=s[0].toNat_lt;omega
  have m1: ¬(s.size:Int)<1:=by omega
  have m2: ¬(9:Int)<(s.size:Int):=by omega
  by_cases hzz:s[0]=48∧1<s.size
  · have hv:Pl.bN s=none:=by
      unfold Pl.bN Pl.yZ
      rw[if_pos (.inr (.inr ⟨by rw[hd,hzz.1],by rw[HL.out];exact hzz.2⟩))]
    have HV:=Lib.hid hv
    have c0:((s[0].toNat:Int)==48)=true:=by rw[hzz.1];rfl
    have c1:(1:Int)<(s.size:Int):=by omega
    clear hv hzz hd
    go_enter func147,ntmps147
    go_wp2
    all_goals first
      |(exfalso;omega)
      |(go_ret2;exact⟨by rw[HV.out];try rfl,rfl⟩)
  · have hv : Pl.bN s=Pl.dI 0 s.data.toList:=by
      unfold Pl.bN Pl.yZ
      rw[if_neg]
      rw[HL.out,hd]
      rintro(h|h|⟨h,h2⟩)
      ·omega
      ·omega
      ·exact hzz ⟨by simpa using h,h2⟩
    have HV:=Lib.hid hv;clear hv hd
    have z9:s.size<=9:=by omega
    have c0:((s[0].toNat:Int)==48)=false∨((s[0].toNat:Int)==48)=true∧ ¬(1:Int)<(s.size:Int):=by
      by_cases h:s[0]=48
      ·exact .inr ⟨by rw[h];rfl,by have: ¬1<s.size:=fun h2=>hzz ⟨h,h2⟩;omega⟩
      · refine .inl ?_
        have:s[0].toNat≠48:=fun h'=>h (UInt8.toNat_inj.1 h')
        simpa using fun h:(s[0].toNat:Int)=48=>this (by omega)
    clear hz Xw hzz
    go_enter func147,ntmps147
    rcases c0 with c0|⟨c0,c1⟩
    all_goals go_wp2
    all_goals (
      go_loop [4,5] (fun a i=> ∃(k:Nat) (n:Int),k<=s.size∧i=.int .i64 k∧a=.int .i64 n∧0<=n∧n<10^k∧Hid (Pl.bN s=Pl.dI n (s.data.toList.drop k))) (fun _ i=>s.size-(intOf i).toNat)
      case atStart=>exact⟨0,0,by omega,rfl,rfl,by omega,by simp,HV⟩
      case round =>
        obtain⟨k,n,hk,rfl,rfl,n0,n1,hg⟩:=hrel
        by_cases hlt:k<s.size
        · have hdrop:=Lib.hid (yN (n:=n) (L:=s.data.toList) (k:=k) (by rw[HL.out];exact hlt))
          have HG:=Lib.hid (show s.data.toList[k]'(by rw[HL.out];exact hlt)=s[k] from rfl)
          have Vi:=M6 k (by omega)
          have hu:s[k].toNat<=255:=by have:=s[k].toNat_lt;omega
          by_cases hc:s[k].toNat<48∨57<s[k].toNat
          · have hn:Pl.bN s=none:=by rw[hg.out,hdrop.out,HG.out,if_pos hc]
            have HN:=Lib.hid hn;clear hn hg
            go_wp2
            all_goals first
              |(exfalso;omega)
              |(go_ret2;exact⟨by rw[HN.out];try rfl,rfl⟩)
          · have hn:Pl.bN s=Pl.dI (10*n+s[k].toNat-48) (s.data.toList.drop (k+1)):=by rw[hg.out,hdrop.out,HG.out,if_neg hc]
            have HN:=Lib.hid hn;clear hn hg
            obtain⟨p0,p1⟩:=yO (c:=s[k].toNat) n0 n1 (by omega) (by omega)
            have P1:=Lib.hid p1
            clear p1
            go_wp2
            all_goals first
              |(exfalso;omega)
              | (go_round
                 case rel=>exact⟨k+1,10*n+s[k].toNat-48,by omega,by go_num,rfl,p0,P1.out,HN⟩
                 case measure=>first|(simp[intOf];done)|(simp[intOf];omega))
        · obtain rfl:k=s.size:=by omega
          have hn:Pl.bN s=some n:=by rw[hg.out,List.drop_eq_nil_of_le (by rw[HL.out];omega)];rfl
          have HN:=Lib.hid hn;clear hn hg
          go_wp2
          go_ret2
          exact⟨by rw[HN.out];rfl,rfl⟩)
theorem jd (s:ByteArray)(o:Option Int)(w:World)(ho:Hid (Pl.bV s=o))(hs:s.size<=100000):Calls prog 147 #[.string s] w fun e w'=>e=.returned (.tuple #[.int .i64 (o.getD 0),.bool o.isSome])∧w=w':=by
 have h:=ng s w hs
 rw[Pl.IQ,ho.out]at h
 exact h
theorem Ap (s:ByteArray)(o:Option Int)(w:World)(ho:Hid (Pl.fK s=o))(hs:s.size<=100000):Calls prog 148 #[.string s] w fun e w'=>e=.returned (.tuple #[.int .i64 (o.getD 0),.bool o.isSome])∧w=w':=by
 have HL:=Lib.hid (eO s)
 have HS:Hid (Pl.gL s=o):=Lib.hid (by rw[Pl.Py];exact ho.out)
 clear ho
 by_cases h1:1<s.size
 ·have hu0:s[0].toNat<=255:=by have:=s[0].toNat_lt;omega
  have hu1:s[1].toNat<=255:=by have:=s[1].toNat_lt;omega
  have m1:(1:Int)<(s.size:Int):=by omega
  have yV:s.data.toList=s[0]::s[1]::s.data.toList.drop 2:=by
   conv=>lhs;rw[<-List.drop_zero (l:=s.data.toList)]
   rw[List.drop_eq_getElem_cons (by rw[HL.out];omega),List.drop_eq_getElem_cons (by rw[HL.out];omega)]
   rfl
  by_cases h45:s[0]=45
  ·have c0:((s[0].toNat:Int)==45)=true:=by rw[h45];rfl
   by_cases h48:s[1]=48
   ·have c1:((s[1].toNat:Int) !=48)=false:=by rw[h48];rfl
    have HV:Hid (Pl.bN s=o):=Lib.hid (by
     rw[<-HS.out];unfold Pl.gL Pl.bN
     rw[yV,h45];simp only
     rw[if_neg (by rw[h48];simp)])
    have pn:=fun W=>ng s W hs
    rw[HV.out]at pn
    clear h45 h48 yV HS HV HL
    go_enter func148,ntmps148
    go_wp2_with (go_at_call 147;refine(pn _).mono ?_;rintro e w' ⟨rfl,rfl⟩)
    go_ret2
    exact⟨rfl,rfl⟩
   ·have c1:((s[1].toNat:Int) !=48)=true:=by
     have:s[1].toNat≠48:=fun h=>h48 (UInt8.toNat_inj.1 h)
     simpa using fun h:(s[1].toNat:Int)=48=>this (by omega)
    have hx:(s.extract 1 s.size).data.toList=s[1]::s.data.toList.drop 2:=by
     rw[oh]
     unfold stretch
     rw[List.take_of_length_le (by rw[List.length_drop,HL.out];omega)]
     conv=>lhs;rw[yV]
     rfl
    have HV:Hid ((Pl.bN (s.extract 1 s.size)).map (fun v=> -v)=o):=Lib.hid (by
     rw[<-HS.out];unfold Pl.gL Pl.bN
     rw[hx,yV,h45];simp only
     rw[if_pos h48];simp)
    have hxs:(s.extract 1 s.size).size<=100000:=by rw[<-eO,hx];simp;omega
    have pn:=fun W=>ng (s.extract 1 s.size) W hxs
    have hbd: ∀v,Pl.bN (s.extract 1 s.size)=some v->0<=v∧v<=999999999:=fun v hv=>by
     rw[Pl.IQ]at hv
     have:=Pl.Ed.1 hv
     omega
    obtain⟨r,hr⟩: ∃r,Pl.bN (s.extract 1 s.size)=r:=⟨_,rfl⟩
    rw[hr]at HV hbd
    rw[hr]at pn
    clear h45 h48 yV hx HS HL hr
    cases r with
    |none=>
     obtain rfl:o=none:=by rw[<-HV.out];rfl
     go_enter func148,ntmps148
     go_wp2_with (go_at_call 147;refine(pn _).mono ?_;rintro e w' ⟨rfl,rfl⟩)
     go_ret2
     exact⟨rfl,rfl⟩
    |some v=>
     obtain rfl:o=some (-v):=by rw[<-HV.out];rfl
     obtain⟨v0,v1⟩:=hbd v rfl
     have e5:IntKind.i64.wrap (-v)= -v:=IntWalk.i64_in _ (by omega)
     go_enter func148,ntmps148
     go_wp2_with (go_at_call 147;refine(pn _).mono ?_;rintro e w' ⟨rfl,rfl⟩)
     go_ret2
     exact⟨rfl,rfl⟩
  ·have c0:((s[0].toNat:Int)==45)=false:=by
    have:s[0].toNat≠45:=fun h=>h45 (UInt8.toNat_inj.1 h)
    simpa using fun h:(s[0].toNat:Int)=45=>this (by omega)
   have HV:Hid (Pl.bN s=o):=Lib.hid (by
    rw[<-HS.out];unfold Pl.gL Pl.bN
    rw[yV]
    split
    ·rename_i e;injection e with e1 e2;exact absurd e1 h45
    ·rfl)
   have pn:=fun W=>ng s W hs
   rw[HV.out]at pn
   clear h45 yV HS HV HL
   go_enter func148,ntmps148
   go_wp2_with (go_at_call 147;refine(pn _).mono ?_;rintro e w' ⟨rfl,rfl⟩)
   go_ret2
   exact⟨rfl,rfl⟩
 ·have m1: ¬(1:Int)<(s.size:Int):=by omega
  have HV:Hid (Pl.bN s=o):=Lib.hid (by
   rw[<-HS.out];unfold Pl.gL Pl.bN
   split
   ·rename_i e;have:=congrArg List.length e;rw[HL.out]at this;simp at this;omega
   ·rfl)
  have pn:=fun W=>ng s W hs
  rw[HV.out]at pn
  clear HS HV HL
  go_enter func148,ntmps148
  go_wp2_with (go_at_call 147;refine(pn _).mono ?_;rintro e w' ⟨rfl,rfl⟩)
  go_ret2
  exact⟨rfl,rfl⟩
theorem GX (l:List ByteArray){k:Nat}(hk:k<l.length)(h0:0<k):Lib.join ((l.take (k+1)).map (fun x:ByteArray=>x.data.toList)) [32]=(Lib.join ((l.take k).map (fun x:ByteArray=>x.data.toList)) [32]++[32])++l[k].data.toList:=by
 rw[List.take_succ_eq_append_getElem hk,List.map_append,Pl.Er (by intro e;have:=congrArg List.length e;rw[List.length_map,List.length_take]at this;simp only[List.length_nil]at this;omega) (by simp),List.map_singleton,Pl.join_one]
 simp
theorem IZ (A:Option Addr)(c:Nat)(l:List ByteArray)(w:World)(hl:d9 w w.heap.size A l)(ht:Pl.tot l<=100000):Calls prog 238 #[.slice A l.length c] w fun e w'=>e=.returned (.string (Pl.eZ l))∧w=w':=by
 go_enter func238,ntmps238
 go_wp2
 go_loop [3,4] (fun o i=> ∃(k:Nat),k<=l.length∧i=.int .i64 k∧o=.string ⟨(Lib.join ((l.take k).map (fun x:ByteArray=>x.data.toList)) [32]).toArray⟩) (fun _ i=>l.length-(intOf i).toNat)
 case atStart=>exact⟨0,by omega,rfl,rfl⟩
 case round=>
  obtain⟨k,hk,rfl,rfl⟩:=hrel
  by_cases hlt:k<l.length
  ·obtain⟨b,off,rfl,mQ,u0⟩:=d9.gY hl hlt
   have hxs:=Pl.gQ (List.getElem_mem hlt)
   have hlen:=Pl.wm l
   have hl5:l.length<=100000:=by omega
   have hP:=Pl.tC l k
   have Zj:(Lib.join ((l.take k).map (fun x:ByteArray=>x.data.toList)) [32]).length<=100000:=Nat.le_trans (Pl.yU _) (Nat.le_trans hP ht)
   have hsucc:=fun h0=>GX l hlt h0
   have hone:k=0->Lib.join ((l.take (k+1)).map (fun x:ByteArray=>x.data.toList)) [32]=l[k].data.toList:=fun h0=>by
    subst h0
    rw[List.take_succ_eq_append_getElem hlt,List.take_zero,List.nil_append,List.map_singleton,Pl.join_one]
   have hz0:k=0->Lib.join ((l.take k).map (fun x:ByteArray=>x.data.toList)) [32]=[]:=fun h0=>by subst h0;rfl
   obtain⟨x,hxd⟩: ∃x,l[k]=x:=⟨_,rfl⟩
   rw[hxd]at u0 hxs hsucc hone
   clear hxd
   obtain⟨xl,rfl,hxl⟩:=iM x
   obtain⟨J,hJ⟩: ∃J,Lib.join ((l.take k).map (fun x:ByteArray=>x.data.toList)) [32]=J:=⟨_,rfl⟩
   rw[hJ]at hsucc Zj hz0 ⊢
   have g1:(0:Int)<=(k:Int):=by omega
   have g2:(k:Int)<(l.length:Int):=by omega
   by_cases h0:k=0
   ·have n0: ¬(0:Int)<(k:Int):=by omega
    have HO:=Lib.hid (hone h0)
    obtain rfl:=hz0 h0
    have t1: ∀W,(Op.stringOp .add ⟨([]:List UInt8).toArray⟩ ⟨xl.toArray⟩).run prog W=.ok (.string ⟨xl.toArray⟩) W:=fun W=>dV [] xl (by simp) (by omega) W
    clear hJ hsucc hone hz0 hP h0 ht
    go_wp2
    go_round
    case rel=>exact⟨k+1,by omega,by go_num,by rw[HO.out]⟩
    case measure=>first|(simp[intOf];done)|(simp[intOf];omega)
   ·have n0:(0:Int)<(k:Int):=by omega
    have HO:=Lib.hid (hsucc (by omega))
    have t1:=fun W=>dV J [32] (by omega) (by decide) W
    obtain⟨Q,hQ⟩: ∃Q,J++[32]=Q:=⟨_,rfl⟩
    have Ur:Q.length<=100001:=by rw[<-hQ];simp;omega
    rw[hQ]at t1 HO
    have t2:=fun W=>dV Q xl (by omega) (by omega) W
    clear hJ hsucc hone hz0 hP h0 hQ ht
    go_wp2
    go_round
    case rel=>exact⟨k+1,by omega,by go_num,by rw[HO.out]⟩
    case measure=>first|(simp[intOf];done)|(simp[intOf];omega)
  ·obtain rfl:k=l.length:=by omega
   rw[List.take_length]
   go_wp2
   go_ret
   exact⟨rfl,rfl⟩
