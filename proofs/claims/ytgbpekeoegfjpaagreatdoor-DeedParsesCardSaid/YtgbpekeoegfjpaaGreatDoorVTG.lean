/- Proved: parts of the walk. -/
import Derived.Test.YtgbpekeoegfjpaaGreatDoorVTA
set_option maxRecDepth 100000
set_option maxHeartbeats 4000000
namespace Go.Proofs
open Tryz RowKit
attribute [-go_sem] Builtin.append_
theorem app1 {n₀ k:Nat}{w1:World}{v:Value}{xs:List Value}(hr:w1.ownsRow n₀ 9 1 v k xs)(a:ByteArray)(hk:k+1<=1000000)(hn:n₀<=w1.heap.size):
  ∃g' cap' w2,(Builtin.append_ #[24,24] 24 #[v,.slice (some ⟨w1.heap.size,0,none⟩) 1 1]).run prog (w1.alloc (.cells #[.string a] 9))=.ok (.slice (some ⟨g',0,none⟩) (k+1) cap') w2∧
   w2.ownsRow n₀ 9 1 (.slice (some ⟨g',0,none⟩) (k+1) cap') (k+1) (xs++[.string a])∧Below n₀ w1 w2:=by
 obtain⟨i0,hi0,hz0,hz1,hz2⟩:=info_parts uJ
 have hml:k+1<=maxLen:=Nat.le_trans hk (by decide)
 have hcell: ∀j u,[Value.string a][j]?=some u->(w1.alloc (.cells #[.string a] 9)).cell? ((⟨w1.heap.size,0,none⟩:Addr).add j)=some u:=by
  intro j u hj
  match j,hj with
  |0,hj=>simp at hj;subst hj;simp[Addr.add]
 obtain⟨v',w2,hrun,hown,hgrow,hn2⟩:=run_append_own (P:=prog) (w:=w1.alloc (.cells #[.string a] 9)) n₀ 24 24 9 i0 _ 1 16 underlying24 hi0 hz0 hz1 hz2 rfl (by decide) v k xs (hr.alloc _) ⟨w1.heap.size,0,none⟩ 1 1 [.string a] rfl hcell (by simp[Value.oneCell']) hml (by omega) (by simp only[World.size_alloc];omega)
 obtain⟨g',cap',rfl⟩:=ownsRow_succ hown
 refine⟨g',cap',w2,hrun,hown,?_⟩
 refine(((Below.refl n₀ w1).alloc hn _).grown hgrow (by simp only[World.size_alloc];omega) fun j ej=> ?_)
 exact((hr.alloc (.cells #[.string a] 9)).lt j ej).1
def stretch (L:List UInt8)(f i:Nat):List UInt8:=(L.drop f).take (i-f)
theorem nS {L:List UInt8}{f i:Nat}(h:f<=i)(hi:i<L.length):stretch L f (i+1)=stretch L f i++[L[i]]:=by
 unfold stretch
 rw[show i+1-f=(i-f)+1 by omega,List.take_succ_eq_append_getElem (by simp;omega)]
 simp[show f+(i-f)=i by omega]
theorem nT (L:List UInt8)(f:Nat):stretch L f f=[]:=by unfold stretch;simp
theorem oh (s:ByteArray)(f i:Nat):(s.extract f i).data.toList=stretch s.data.toList f i:=Lib.extract_data s f i
theorem RP {L:List UInt8}{f i:Nat}(h:f<=i)(hi:i<L.length):Pl.jQ (stretch L f i) (L.drop i)=if L[i]=32 then stretch L f i::Pl.jQ (stretch L (i+1) (i+1)) (L.drop (i+1))else Pl.jQ (stretch L f (i+1)) (L.drop (i+1)):=by
 rw[List.drop_eq_getElem_cons hi,nT,nS h hi]
 rfl
def J_ (s:ByteArray)(w:World)(e:Ending)(w':World):Prop:=
 ∃g cap,e=.returned (.slice (some ⟨g,0,none⟩) (Pl.bU s).length cap)∧iZ w' w'.heap.size (some ⟨g,0,none⟩) (Pl.bU s)∧w.heap.size<=g∧Below w.heap.size w w'
theorem GI {w:World}{n₀ g cap:Nat}{l:List ByteArray}(h:w.ownsRow n₀ 9 1 (.slice (some ⟨g,0,none⟩) l.length cap) l.length (l.map Value.string)):iZ w w.heap.size (some ⟨g,0,none⟩) l:=by
 refine .inr ⟨g,0,rfl,(h.lt g rfl).2,fun k x hx j v hv=> ?_⟩
 have hj:j=0:=by have:=(List.getElem?_eq_some_iff.1 hv).1;simp[eSx]at this;omega
 subst hj
 simp[eSx]at hv
 subst hv
 have:=h.cells (g:=g) rfl k (.string x) (by simp[hx])
 rw[Go.WideShapes.add_plain]at this
 simpa using this
theorem IV (s:ByteArray)(w:World)(hs:s.size<=100000):Calls prog 326 #[.string s] w (J_ s w):=by
 have hL:s.data.toList.length=s.size:=eO s
 have HL:=Lib.hid hL
 have HW:=Lib.hid (Pl.nM s)
 clear hL
 go_enter func326,ntmps326
 go_wp2
 go_loopw [3,4,5] (fun o fr i wr=> ∃(i' f:Nat) (done:List ByteArray) (v:Value),f<=i'∧i'<=s.size∧i=.int .i64 i'∧fr=.int .i64 f∧o=v∧wr.ownsRow w.heap.size 9 1 v done.length (done.map Value.string)∧done.length<=i'∧Hid (done.map (·.data.toList)++Pl.jQ (stretch s.data.toList f i') (s.data.toList.drop i')=Pl.jQ [] s.data.toList)∧Below w.heap.size w wr) (fun _ _ i _=>s.size-(intOf i).toNat)
 case atStart=>exact⟨0,0,[],_,by omega,by omega,rfl,rfl,rfl,World.ownsRow_nil _ _ _ _,by simp,by unfold Hid;simp[stretch],by go_grown⟩
 case round=>
  obtain⟨i,f,done,v,hf,hi,rfl,rfl,rfl,hown,hdl,hg,hb⟩:=hrel
  have hsz:=hb.size
  by_cases hlt:i<s.size
  ·have hcut:=Lib.hid (RP (L:=s.data.toList) hf (by rw[HL.out];exact hlt))
   have hget:s.data.toList[i]'(by rw[HL.out];exact hlt)=s[i]:=rfl
   have HG:=Lib.hid hget;clear hget
   by_cases hc:s[i]=32
   ·have hc':((s[i].toNat:Int)==32)=true:=by rw[hc];rfl
    have HC:=Lib.hid hc;clear hc
    obtain⟨g',cap',w2,hrun,hown2,hb2⟩:=app1 hown (s.extract f i) (by omega) hsz
    go_wp2
    go_roundw
    case rel=>exact⟨i+1,i+1,done++[s.extract f i],_,by omega,by omega,by go_num,by go_num,rfl,by simpa using hown2,by simp;omega,by unfold Hid;rw[<-hg.out,hcut.out,if_pos (by rw[HG.out];exact HC.out)];simp[stretch],hb.trans hb2⟩
    case measure=>first|(simp[intOf];done)|(simp[intOf];omega)
   ·have hne: ¬s[i].toNat=32:=by intro h;apply hc;exact UInt8.toNat_inj.1 h
    have hc':((s[i].toNat:Int)==32)=false:=by simpa using fun h:(s[i].toNat:Int)=32=>hne (by omega)
    have HC:=Lib.hid hc;clear hc hne
    go_wp2
    go_roundw
    case rel=>exact⟨i+1,f,done,_,by omega,by omega,by go_num,rfl,rfl,hown,by omega,by unfold Hid;rw[<-hg.out,hcut.out,if_neg (by rw[HG.out];exact HC.out)],by go_grown⟩
    case measure=>first|(simp[intOf];done)|(simp[intOf];omega)
  ·obtain rfl:i=s.size:=by omega
   obtain⟨g',cap',w2,hrun,hown2,hb2⟩:=app1 hown (s.extract f s.size) (by omega) hsz
   have hfin:(done++[s.extract f s.size])=Pl.bU s:=by
    apply Pl.qV
    rw[HW.out,<-hg.out,List.drop_eq_nil_of_le (by rw[HL.out];omega)]
    simp[stretch,Pl.jQ]
   have HF:=Lib.hid hfin;clear hfin
   have HL2:Hid (done.length+1=(Pl.bU s).length):=by unfold Hid;rw[<-HF.out];simp
   have hB:Below w.heap.size w w2:=hb.trans hb2
   have hown3:w2.ownsRow w.heap.size 9 1 (.slice (some ⟨g',0,none⟩) (Pl.bU s).length cap') (Pl.bU s).length ((Pl.bU s).map Value.string):=by
    rw[<-HL2.out,<-HF.out];simpa using hown2
   go_wp2
   go_ret
   exact⟨g',cap',by rw[<-HL2.out];rfl,GI hown3,(hown3.lt g' rfl).1,hB⟩
theorem yN {n:Int}{L:List UInt8}{k:Nat}(hk:k<L.length):Pl.dI n (L.drop k)=if L[k].toNat<48∨57<L[k].toNat then none else Pl.dI (10*n+L[k].toNat-48) (L.drop (k+1)):=by
 rw[List.drop_eq_getElem_cons hk];rfl
theorem yO {n:Int}{k c:Nat}(h0:0<=n)(h1:n<10^k)(hc:48<=c)(hc2:c<=57):0<=10*n+c-48∧10*n+c-48<10^(k+1):=by
 have:(10:Int)^(k+1)=10*10^k:=by rw[Int.pow_succ];omega
 omega
theorem Aj (k:Nat)(h:k<=12):(10:Int)^k<=1000000000000:=by
 have:(10:Nat)^k<=10^12:=Nat.pow_le_pow_right (by omega) h
 have e:((10^k:Nat):Int)=(10:Int)^k:=by rw[Int.natCast_pow];rfl
 rw[<-e];omega
theorem EF (s:ByteArray) (w:World) (hs:s.size<=100000):Calls prog 327 #[.string s] w fun e w'=>e=.returned (.tuple #[.int .i64 ((Pl.nQ s).getD 0),.bool (Pl.nQ s).isSome])∧w=w':=by
  have hL:s.data.toList.length=s.size:=eO s
  have HL:=Lib.hid hL
  clear hL
  by_cases hz:s.size<1∨12<s.size
  · have hv:Pl.nQ s=none:=by unfold Pl.nQ;rw[if_pos hz]
    have HV:=Lib.hid hv;clear hv
    go_enter func327,ntmps327
    go_wp2
    all_goals first
      |(exfalso;omega)
      |(go_ret2;exact⟨by rw[HV.out];try rfl,rfl⟩)
  · have hv :Pl.nQ s=Pl.dI 0 s.data.toList:=by unfold Pl.nQ;rw[if_neg hz]
    have HV:=Lib.hid hv;clear hv
    have z1:1<=s.size:=by omega
    have z2:s.size<=12:=by omega
    clear hz
    go_enter func327,ntmps327
    go_wp2
    go_loop [4,5] (fun a i=> ∃(k:Nat) (n:Int),k<=s.size∧i=.int .i64 k∧a=.int .i64 n∧0<=n∧n<10^k∧Hid (Pl.nQ s=Pl.dI n (s.data.toList.drop k))) (fun _ i=>s.size-(intOf i).toNat)
    case atStart=>exact⟨0,0,by omega,rfl,rfl,by omega,by simp,HV⟩
    case round =>
      obtain⟨k,n,hk,rfl,rfl,n0,n1,hg⟩:=hrel
      by_cases hlt:k<s.size
      · have hdrop:=Lib.hid (yN (n:=n) (L:=s.data.toList) (k:=k) (by rw[HL.out];exact hlt))
        have hget:s.data.toList[k]'(by rw[HL.out];exact hlt)=s[k]:=rfl
        have HG:=Lib.hid hget;clear hget
        have Vi:=Aj k (by omega)
        have hu:s[k].toNat<=255:=by have:=s[k].toNat_lt;omega
        by_cases hc:s[k].toNat<48∨57<s[k].toNat
        · have hn:Pl.nQ s=none:=by rw[hg.out,hdrop.out,HG.out,if_pos hc]
          have HN:=Lib.hid hn;clear hn hg
          go_wp2
          all_goals first
            |(exfalso;omega)
            |(go_ret2;exact⟨by rw[HN.out];try rfl,rfl⟩)
        · have hn:Pl.nQ s=Pl.dI (10*n+s[k].toNat-48) (s.data.toList.drop (k+1)):=by rw[hg.out,hdrop.out,HG.out,if_neg hc]
          have HN:=Lib.hid hn;clear hn hg
          obtain⟨p0,p1⟩:=yO (c:=s[k].toNat) n0 n1 (by omega) (by omega)
          have P1:=Lib.hid p1
          clear p1
          go_wp2
          all_goals first
            |(exfalso;omega)
            | (go_round
               case rel=>exact⟨k+1,10*n+s[k].toNat-48,by omega,by go_num,rfl,p0,P1.out,HN⟩
               case measure=>first|(simp[intOf];done)|(simp[intOf];omega))
      · obtain rfl:k=s.size:=by omega
        have hn:Pl.nQ s=some n:=by rw[hg.out,List.drop_eq_nil_of_le (by rw[HL.out];omega)];rfl
        have HN:=Lib.hid hn;clear hn hg
        go_wp2
        go_ret2
        exact⟨by rw[HN.out];rfl,rfl⟩
theorem yP : ∀(s acc x:List UInt8),x∈Pl.jQ acc s->x.length<=acc.length+s.length
 | [],acc,x,h=>by simp[Pl.jQ]at h;subst h;simp
 | c::s,acc,x,h=>by
  unfold Pl.jQ at h
  split at h
  ·rcases List.mem_cons.1 h with rfl|h
   ·simp
   ·have:=yP s [] x h;simp at this ⊢;omega
  ·have:=yP s (acc++[c]) x h;simp at this ⊢;omega
theorem PI {s:ByteArray}{x:ByteArray}(h:x∈Pl.bU s):x.size<=s.size:=by
 have:=yP s.data.toList [] x.data.toList (by rw[<-Pl.nM];exact List.mem_map.2 ⟨x,h,rfl⟩)
 rw[eO,eO]at this
 simpa using this
theorem EG : ∀(l:List UInt8) (n:Int) (k:Nat) (m:Int),0<=n->n<10^k->Pl.dI n l=some m->0<=m∧m<10^(k+l.length)
 | [],n,k,m,h0,h1,h=>by simp only[Pl.dI]at h;cases h;exact⟨h0,by simpa using h1⟩
 | c::l,n,k,m,h0,h1,h=>by
  simp only[Pl.dI]at h
  split at h
  ·cases h
  ·obtain⟨p0,p1⟩:=yO (c:=c.toNat) h0 h1 (by omega) (by omega)
   have:=EG l _ (k+1) m p0 p1 h
   rw[List.length_cons,show k+(l.length+1)=k+1+l.length by omega]
   exact this
theorem PK {s:ByteArray}{m:Int}(h:Pl.nQ s=some m):0<=m∧m<1000000000000:=by
 unfold Pl.nQ at h
 split at h
 ·cases h
 ·rename_i hc
  obtain⟨h0,h1⟩:=EG _ 0 0 m (by omega) (by simp) h
  rw[eO]at h1
  have:=Aj (0+s.size) (by omega)
  omega
theorem GJ {us:List Pl.Unit}{W:List ByteArray}{n:Int}{i:Nat}(h1:i+1<W.length):Pl.pF us (W.drop i) n=
  (Pl.nQ W[i]).bind fun k=>if Pl.sizeOf W[i+1] us 0=0∨1000000000000/Pl.sizeOf W[i+1] us 0<k then none else Pl.pF us (W.drop (i+2)) (n+k*Pl.sizeOf W[i+1] us 0):=by
 rw[List.drop_eq_getElem_cons (show i<W.length by omega),List.drop_eq_getElem_cons h1]
 rfl
theorem EH {b:ByteArray}{us:List Pl.Unit}{z:Int}{j:Nat}(h:j<us.length):Pl.sizeOf b (us.drop j) z=Pl.sizeOf b (us.drop (j+1)) (if b=us[j].2.1∨b=us[j].2.2 then us[j].1 else z):=by
 rw[List.drop_eq_getElem_cons h];rfl
theorem EI (s:ByteArray)(w:World)(hs:s.size<=100000)(h:Hid (Pl.nQ s=none)):Calls prog 327 #[.string s] w fun e w'=>e=.returned (.tuple #[.int .i64 0,.bool false])∧w=w':=by
 have:=EF s w hs
 rw[h.out]at this
 exact this
theorem EJ (s:ByteArray)(k:Int)(w:World)(hs:s.size<=100000)(h:Hid (Pl.nQ s=some k)):Calls prog 327 #[.string s] w fun e w'=>e=.returned (.tuple #[.int .i64 k,.bool true])∧w=w':=by
 have:=EF s w hs
 rw[h.out]at this
 exact this
theorem qw {a b:ByteArray}:a.toList=b.toList↔a=b:=by
 rw[Go.ByteArray.toList_eq,Go.ByteArray.toList_eq]
 constructor
 ·intro h;cases a;cases b;simp only[ByteArray.mk.injEq];exact Array.toList_inj.1 h
 ·rintro rfl;rfl
theorem Ka (s:ByteArray) (us:List Pl.Unit) (As Am Ao:Option Addr) (cs cm co:Nat) (w:World) (hs:s.size<=100000) (hlen:us.length<=40) (hpos: ∀u∈us,1<=u.1∧u.1<=1000000000000)
    (hi:u7 w w.heap.size As (us.map (·.1))) (hm:iZ w w.heap.size Am (us.map (·.2.2))) (ho:iZ w w.heap.size Ao (us.map (·.2.1))):
    Calls prog 286 #[.string s,.slice As us.length cs,.slice Am us.length cm,.slice Ao us.length co] w fun e w'=>e=.returned (.tuple #[.int .i64 ((Pl.jg us s).getD 0),.bool (Pl.jg us s).isSome])∧Below w.heap.size w w':=by
  obtain⟨L,hL⟩: ∃L,(Pl.bU s).length=L:=⟨_,rfl⟩
  have Zf:L<=maxLen:=by
    have h1:(Pl.jQ [] s.data.toList).length<=s.size+1:=by
      have: ∀(l acc:List UInt8),(Pl.jQ acc l).length<=l.length+1:=by
        intro l
        induction l with
        |nil=>intro acc;simp[Pl.jQ]
        | cons c l ih => intro acc;unfold Pl.jQ;split
                         ·have:=ih [];simp;omega
                         ·have:=ih (acc++[c]);simp;omega
      have:=this s.data.toList []
      rwa[eO]at this
    rw[<-Pl.nM,List.length_map,hL]at h1
    unfold maxLen;omega
  unfold maxLen at Zf
  have HL:=Lib.hid hL
  clear hL
  by_cases hodd:L%2≠0∨8<L
  · have hv:Pl.jg us s=none:=by unfold Pl.jg;rw[HL.out,if_pos hodd]
    have HV:=Lib.hid hv;clear hv
    have Xt: ¬(L:Int)%2=0∨8<(L:Int):=by omega
    clear hodd
    go_enter func286,ntmps286
    go_wp2_with (go_at_call 326;refine(IV s _ hs).mono ?_;rintro e w1 ⟨g,cap,rfl,EK,hg1,hx⟩;rw[HL.out];have hb1:=bT (w:=w) hx;have hsz1:=hb1.size;clear hx)
    all_goals first
      |(exfalso;omega)
      |(go_ret2;exact⟨by rw[HV.out];try rfl,by go_grown⟩)
  · have hev:L%2=0:=by omega
    have h8:L<=8:=by omega
    have hv:Pl.jg us s=Pl.pF us (Pl.bU s) 0:=by unfold Pl.jg;rw[HL.out,if_neg hodd]
    have HV:=Lib.hid hv;clear hv hodd
    have HP:=Lib.hid hpos
    clear hpos
    have Zg:(L:Int)%2=0:=by omega
    go_enter func286,ntmps286
    go_wp2_with (go_at_call 326;refine(IV s _ hs).mono ?_;rintro e w1 ⟨g,cap,rfl,EK,hg1,hx⟩;rw[HL.out];have hb1:=bT (w:=w) hx;have hsz1:=hb1.size;clear hx)
    go_loopw [11,12] (fun a i wr=> ∃(p:Nat) (n:Int),2*p<=L∧i=.int .i64 ((2*p:Nat):Int)∧a=.int .i64 n∧0<=n∧n<=1000000000000*p∧Hid (Pl.jg us s=Pl.pF us ((Pl.bU s).drop (2*p)) n)∧Below w1.heap.size w1 wr) (fun _ i _=>L-(intOf i).toNat)
    case atStart=>exact⟨0,0,by omega,rfl,rfl,by omega,by omega,HV,by go_grown⟩
    case round=>
      obtain⟨p,n,hp,rfl,rfl,n0,n1,hg,hb⟩:=hrel
      have Vf:=hb.size
      have hbw:Below w.heap.size w wr:=hb1.trans (hb.mono hsz1)
      have VW:=hbw.size
      by_cases hlt:2*p<L
      · have hlt1 :2*p+1<L:=by omega
        obtain⟨bw,Zh,Uc,hbw2,q0⟩:=iZ.gY (EK.below hb) (k:=2*p) (by rw[HL.out];exact hlt)
        obtain⟨Ud,MU,EL,_,q1⟩:=iZ.gY (EK.below hb) (k:=2*p+1) (by rw[HL.out];exact hlt1)
        obtain⟨rfl,rfl⟩:g=bw∧0=Zh:=by simpa using Uc
        obtain⟨rfl,rfl⟩:g=Ud∧0=MU:=by simpa using EL
        clear Uc EL
        have Ic:=Lib.hid (GJ (us:=us) (n:=n) (W:=Pl.bU s) (i:=2*p) (by rw[HL.out];exact hlt1))
        have hs0:=PI (List.getElem_mem (l:=Pl.bU s) (n:=2*p) (by rw[HL.out];exact hlt))
        obtain⟨a,ha⟩: ∃a,(Pl.bU s)[2*p]'(by rw[HL.out];exact hlt)=a:=⟨_,rfl⟩
        obtain⟨b,hbb⟩: ∃b,(Pl.bU s)[2*p+1]'(by rw[HL.out];exact hlt1)=b:=⟨_,rfl⟩
        rw[ha]at q0 hs0
        rw[hbb]at q1
        have HA:=Lib.hid ha;have VX:=Lib.hid hbb
        clear ha hbb
        simp only[Nat.zero_add]at q0 q1
        cases BH:Pl.nQ a with
        | none=>
          have hv:Pl.jg us s=none:=by rw[hg.out,Ic.out,HA.out,BH];rfl
          have oC:=Lib.hid hv
          have HN:=Lib.hid BH
          clear BH hv
          go_wp2_with (go_at_call 327;refine(EI a _ (by omega) HN).mono ?_;rintro e w' ⟨rfl,rfl⟩)
          go_loopw [15,16] (fun zz jj wx=> ∃(j:Nat) (z:Int),j<=us.length∧jj=.int .i64 j∧zz=.int .i64 z∧Below w1.heap.size w1 wx) (fun _ jj _=>us.length-(intOf jj).toNat)
          case atStart=>exact⟨0,0,by omega,rfl,rfl,by go_grown⟩
          case round=>
            obtain⟨j,z,hj,rfl,rfl,hbx⟩:=hrel
            have VY:=hbx.size
            have GK:=hb1.trans (hbx.mono hsz1)
            clear q0 q1
            by_cases Ca:j<us.length
            · obtain⟨bs,Xm,rfl,hbs,r0⟩:=u7.gY (hi.below GK) (k:=j) (by simpa using Ca)
              obtain⟨bm,Sk,rfl,Xn,r1⟩:=iZ.gY (hm.below GK) (k:=j) (by simpa using Ca)
              obtain⟨bo,Xo,rfl,Xp,r2⟩:=iZ.gY (ho.below GK) (k:=j) (by simpa using Ca)
              obtain⟨Ud,MU,EL,_,q1⟩:=iZ.gY (EK.below hbx) (k:=2*p+1) (by rw[HL.out];exact hlt1)
              obtain⟨rfl,rfl⟩:g=Ud∧0=MU:=by simpa using EL
              clear EL
              rw[VX.out]at q1
              simp only[Nat.zero_add]at q1
              simp only[List.getElem_map]at r0 r1 r2
              obtain⟨sz,hse⟩: ∃sz,us[j].1=sz:=⟨_,rfl⟩
              obtain⟨one,hone⟩: ∃one,us[j].2.1=one:=⟨_,rfl⟩
              obtain⟨many,qK⟩: ∃many,us[j].2.2=many:=⟨_,rfl⟩
              rw[hse]at r0
              rw[hone]at r2
              rw[qK]at r1
              clear hse hone qK
              have e1:IntKind.i64.wrap (2*(p:Int)+1)=2*(p:Int)+1:=IntWalk.i64_in _ (by omega)
              have e2:(0:Int)<=2*(p:Int)+1:=by omega
              have e3:(2*(p:Int)+1).toNat=2*p+1:=by omega
              have e4:2*(p:Int)+1<(L:Int):=by omega
              have e5:(0:Int)<=(j:Int):=by omega
              have e6:(j:Int)<(us.length:Int):=by omega
              go_wp2
              all_goals (refine wp_region_quiet_lit (by kernel_rfl) (by kernel_rfl) ?_)
              repeat (any_goals (first|go_big_quiet_step (fail)|quiet_step (fail)|(refine wpQuiet_step (fun K hK=> ?_);go_simp;split<;>(refine hK _ ?_;clear hK K))))
              all_goals (refine wpQuiet_nil ?_;intro wq hw';obtain⟨nq,hw''⟩:=hw';have hbq:Below w.heap.size w wq:=by rw[hw''];exact below_drewN (by go_grown) nq)
              all_goals subst hw''
              all_goals go_wp2
              all_goals (
                go_roundw
                case rel=>exact⟨j+1,_,by omega,by go_num,rfl,by first|(go_grown;done)|exact below_drewN hbx _⟩
                case measure=>first|(simp[intOf];done)|(simp[intOf];omega))
            · obtain rfl:j=us.length:=by omega
              go_wp2
              all_goals go_ret2
              all_goals exact⟨by rw[oC.out];try rfl,by go_grown⟩
        | some k=>
          obtain⟨k0,k1⟩:=PK BH
          have HN:=Lib.hid BH
          clear BH
          go_wp2_with (go_at_call 327;refine(EJ a k _ (by omega) HN).mono ?_;rintro e w' ⟨rfl,rfl⟩)
          go_loopw [15,16] (fun zz jj wx=> ∃(j:Nat) (z:Int),j<=us.length∧jj=.int .i64 j∧zz=.int .i64 z∧0<=z∧z<=1000000000000∧Hid (Pl.sizeOf b us 0=Pl.sizeOf b (us.drop j) z)∧Below w1.heap.size w1 wx) (fun _ jj _=>us.length-(intOf jj).toNat)
          case atStart=>exact⟨0,0,by omega,rfl,rfl,by omega,by omega,rfl,by go_grown⟩
          case round=>
            obtain⟨j,z,hj,rfl,rfl,z0,z1,hz,hbx⟩:=hrel
            have VY:=hbx.size
            have GK:=hb1.trans (hbx.mono hsz1)
            clear q0 q1
            by_cases Ca:j<us.length
            · obtain⟨bs,Xm,rfl,hbs,r0⟩:=u7.gY (hi.below GK) (k:=j) (by simpa using Ca)
              obtain⟨bm,Sk,rfl,Xn,r1⟩:=iZ.gY (hm.below GK) (k:=j) (by simpa using Ca)
              obtain⟨bo,Xo,rfl,Xp,r2⟩:=iZ.gY (ho.below GK) (k:=j) (by simpa using Ca)
              obtain⟨Ud,MU,EL,_,q1⟩:=iZ.gY (EK.below hbx) (k:=2*p+1) (by rw[HL.out];exact hlt1)
              obtain⟨rfl,rfl⟩:g=Ud∧0=MU:=by simpa using EL
              clear EL
              rw[VX.out]at q1
              simp only[Nat.zero_add]at q1
              simp only[List.getElem_map]at r0 r1 r2
              have hdr:=Lib.hid (EH (b:=b) (z:=z) Ca)
              obtain⟨u1,u2⟩:=HP.out us[j] (List.getElem_mem Ca)
              obtain⟨sz,hse⟩: ∃sz,us[j].1=sz:=⟨_,rfl⟩
              obtain⟨one,hone⟩: ∃one,us[j].2.1=one:=⟨_,rfl⟩
              obtain⟨many,qK⟩: ∃many,us[j].2.2=many:=⟨_,rfl⟩
              rw[hse]at r0 u1 u2
              rw[hone]at r2
              rw[qK]at r1
              have HS:=Lib.hid hse;have HO:=Lib.hid hone;have HM:=Lib.hid qK
              clear hse hone qK
              have e1:IntKind.i64.wrap (2*(p:Int)+1)=2*(p:Int)+1:=IntWalk.i64_in _ (by omega)
              have e2:(0:Int)<=2*(p:Int)+1:=by omega
              have e3:(2*(p:Int)+1).toNat=2*p+1:=by omega
              have e4:2*(p:Int)+1<(L:Int):=by omega
              have e5:(0:Int)<=(j:Int):=by omega
              have e6:(j:Int)<(us.length:Int):=by omega
              go_wp2
              all_goals (refine wp_region_quiet_lit (by kernel_rfl) (by kernel_rfl) ?_)
              repeat (any_goals (first|go_big_quiet_step (fail)|quiet_step (fail)|(refine wpQuiet_step (fun K hK=> ?_);go_simp;split<;>(refine hK _ ?_;clear hK K))))
              all_goals (refine wpQuiet_nil ?_;intro wq hw';obtain⟨nq,hw''⟩:=hw';have hbq:Below w.heap.size w wq:=by rw[hw''];exact below_drewN (by go_grown) nq)
              all_goals subst hw''
              all_goals go_wp2
              · go_roundw
                case rel=>exact⟨j+1,sz,by omega,by go_num,rfl,by omega,by omega,by unfold Hid;rw[hz.out,hdr.out,HM.out,HO.out,HS.out,if_pos (.inr (qw.1 (by assumption)))],by first|(go_grown;done)|exact below_drewN hbx _⟩
                case measure=>first|(simp[intOf];done)|(simp[intOf];omega)
              · have hm1:= ‹¬b.toList=many.toList›
                have hm2:= ‹(b.toList==many.toList)=true∨(b.toList==one.toList)=true›
                have hb1':b=one:=by
                  rcases hm2 with h|h
                  ·exact absurd (by simpa using h) hm1
                  ·exact qw.1 (by simpa using h)
                have HB1:=Lib.hid hb1'
                go_roundw
                case rel=>exact⟨j+1,sz,by omega,by go_num,rfl,by omega,by omega,by unfold Hid;rw[hz.out,hdr.out,HM.out,HO.out,HS.out,if_pos (.inl HB1.out)],by first|(go_grown;done)|exact below_drewN hbx _⟩
                case measure=>first|(simp[intOf];done)|(simp[intOf];omega)
              · have hm1:= ‹¬b.toList=many.toList›
                have hm2:= ‹(b.toList==many.toList)=false∧(b.toList==one.toList)=false›
                have hb1': ¬(b=one∨b=many):=by
                  rintro(h|h)
                  ·have:=hm2.2;rw[h]at this;simp at this
                  ·exact hm1 (qw.2 h)
                have HB1:=Lib.hid hb1'
                clear hb1'
                go_roundw
                case rel=>exact⟨j+1,z,by omega,by go_num,rfl,by omega,by omega,by unfold Hid;rw[hz.out,hdr.out,HM.out,HO.out,if_neg HB1.out],by first|(go_grown;done)|exact below_drewN hbx _⟩
                case measure=>first|(simp[intOf];done)|(simp[intOf];omega)
            · obtain rfl:j=us.length:=by omega
              have hzz:Pl.sizeOf b us 0=z:=by rw[hz.out,List.drop_length];rfl
              have HZ:=Lib.hid hzz;clear hzz hz
              have hst:Pl.jg us s=if z=0∨1000000000000/z<k then none else Pl.pF us ((Pl.bU s).drop (2*p+2)) (n+k*z):=by
                rw[hg.out,Ic.out,HA.out,VX.out,HN.out,HZ.out];rfl
              by_cases hz0:z=0
              · subst hz0
                have hv:Pl.jg us s=none:=by rw[hst,if_pos (.inl rfl)]
                have oC:=Lib.hid hv;clear hv hst
                go_wp2
                go_ret2
                exact⟨by rw[oC.out];try rfl,by go_grown⟩
              · have hz0':(z==0)=false:=by simpa using hz0
                have hz1:1<=z:=by omega
                have Tn:0<=1000000000000/z:=Int.ediv_nonneg (by omega) (by omega)
                have q1':1000000000000/z<=1000000000000:=Int.ediv_le_self _ (by omega)
                by_cases hk:1000000000000/z<k
                · have hv:Pl.jg us s=none:=by rw[hst,if_pos (.inr hk)]
                  have oC:=Lib.hid hv;clear hv hst
                  go_wp2
                  go_ret2
                  exact⟨by rw[oC.out];try rfl,by go_grown⟩
                · have hv:Pl.jg us s=Pl.pF us ((Pl.bU s).drop (2*p+2)) (n+k*z):=by rw[hst,if_neg (by omega)]
                  obtain⟨m0,m1⟩:=Pl.Hu k0 (show 0<z by omega) (show k<=1000000000000/z by omega)
                  have oC:=Lib.hid hv;clear hv hst
                  go_wp2
                  go_roundw
                  case rel=>exact⟨_,_,_,_,⟨p+1,by omega,rfl,n+k*z,rfl,by omega,by omega,by unfold Hid;rw[oC.out];rfl⟩,rfl,rfl,rfl,congrArg (Value.int .i64) (by omega)⟩
                  case measure=>simp[intOf];omega
      · have hend:2*p=L:=by omega
        have hv:Pl.jg us s=some n:=by rw[hg.out,List.drop_eq_nil_of_le (by rw[HL.out];omega)];rfl
        have oC:=Lib.hid hv;clear hv hg
        have hge: ¬2*(p:Int)<(L:Int):=by omega
        go_wp2
        go_ret2
        exact⟨by rw[oC.out];try rfl,by go_grown⟩
theorem RQ (s:ByteArray)(us:List Pl.Unit)(w:World)(hs:s.size<=100000)(hlen:us.length<=40)(hpos: ∀u∈us,1<=u.1∧u.1<=1000000000000):
  Calls prog 286 #[.string s,.slice (some ⟨w.heap.size,0,none⟩) us.length us.length,.slice (some ⟨w.heap.size+1,0,none⟩) us.length us.length,.slice (some ⟨w.heap.size+2,0,none⟩) us.length us.length] (og us w) fun e w'=>e=.returned (.tuple #[.int .i64 ((Pl.jg us s).getD 0),.bool (Pl.jg us s).isSome])∧Below w.heap.size w w':=by
 obtain⟨k1,k2,k3⟩:=yL us w
 refine(Ka s us _ _ _ _ _ _ _ hs hlen hpos k1 k2 k3).mono ?_
 rintro e w' ⟨he,hb⟩
 exact⟨he,(u_ us w).trans (hb.mono (by rw[qZ];omega))⟩
theorem EM {a b:ByteArray}(h: ¬a=b):(a.toList==b.toList)=false:=by
 simp only[beq_eq_false_iff_ne,ne_eq];intro hh;exact h (qw.1 hh)
theorem RS (s:ByteArray)(w:World)(hs:s.size<=100000):Calls prog 237 #[.string s] w fun e w'=>e=.returned (.tuple (i2 (Pl.BU (Pl.jg Pl.cO s) Pl.aY s) (Pl.BX (Pl.jg Pl.cO s) Pl.aY s)))∧Below w.heap.size w w':=by
 have hc:=Lib.hid (RQ s Pl.cO w hs (by decide) (by decide))
 cases hv:Pl.jg Pl.cO s with
 |none=>
  have HV:=Lib.hid hv;clear hv
  go_enter func237,ntmps237
  go_wp2_with fail
  refine(Calls.mono (show Calls _ _ _ _ _ from hc.out) ?_)
  rintro e w1 ⟨rfl,hb⟩
  rw[HV.out]
  have hsz:=hb.size
  go_wp2
  go_ret2
  exact⟨rfl,hb⟩
 | some n=>
  have HV:=Lib.hid hv;clear hv
  obtain⟨t,ht⟩: ∃t,Pl.aY n=t:=⟨_,rfl⟩
  have HT:=Lib.hid ht;clear ht
  by_cases he:t=s
  ·subst he
   have hN:Hid (Pl.BU (some n) Pl.aY t=n):=by unfold Hid Pl.BU;simp[HT.out]
   have hE:Hid (Pl.BX (some n) Pl.aY t=0):=by unfold Hid Pl.BX;simp[HT.out]
   go_enter func237,ntmps237
   go_wp2_with fail
   refine(Calls.mono (show Calls _ _ _ _ _ from hc.out) ?_)
   rintro e w1 ⟨rfl,hb⟩
   rw[HV.out]
   have hsz:=hb.size
   go_wp2_with (go_at_call 93;refine(yM n _).mono ?_;rintro e w2 ⟨rfl,hx⟩;rw[HT.out];have hb2:=bT (w:=w) hx;clear hx)
   go_ret2
   exact⟨by rw[hN.out,hE.out];try rfl,hb2⟩
  ·have hN:Hid (Pl.BU (some n) Pl.aY s=0):=by unfold Hid Pl.BU;simp[HT.out,he]
   have hE:Hid (Pl.BX (some n) Pl.aY s=4):=by unfold Hid Pl.BX;simp[HT.out,he]
   have hne:=EM he
   go_enter func237,ntmps237
   go_wp2_with fail
   refine(Calls.mono (show Calls _ _ _ _ _ from hc.out) ?_)
   rintro e w1 ⟨rfl,hb⟩
   rw[HV.out]
   have hsz:=hb.size
   go_wp2_with (go_at_call 93;refine(yM n _).mono ?_;rintro e w2 ⟨rfl,hx⟩;rw[HT.out];have hb2:=bT (w:=w) hx;clear hx)
   go_ret2
   exact⟨by rw[hN.out,hE.out];try rfl,hb2⟩
theorem IW (d:Int)(t:ByteArray)(w:World)(h:Hid ((⟨(Pl.gu d).toArray⟩:ByteArray)=t)):Calls prog 94 #[.int .i64 d] w fun e w'=>e=.returned (.string t)∧Below w.heap.size w w':=by
 have:=MS d w
 rw[h.out]at this
 exact this
theorem RU (s:ByteArray)(w:World):Calls prog 239 #[.string s] w fun e w'=>e=.returned (.tuple (i2 (kJ (Pl.fQ s)) (lZ (Pl.fQ s))))∧Below w.heap.size w w':=by
 go_enter func239,ntmps239
 go_wp2
 go_loopw [4] (fun i wr=> ∃(k:Nat),k<=360∧i=.int .i64 k∧Hid (Pl.fQ s=Pl.kX s.data.toList (360-k) k)∧Below w.heap.size w wr) (fun i _=>360-(intOf i).toNat)
 case atStart=>exact⟨0,by omega,rfl,rfl,by go_grown⟩
 case round=>
  obtain⟨k,hk,rfl,hg,hb⟩:=hrel
  have hsz:=hb.size
  by_cases hlt:k<360
  ·have hst:=Lib.hid (uK s.data.toList hlt)
   obtain⟨t,ht⟩: ∃t:ByteArray,(⟨(Pl.gu (k:Int)).toArray⟩:ByteArray)=t:=⟨_,rfl⟩
   have HT:=Lib.hid ht
   by_cases he:t=s
   ·have hv:Pl.fQ s=some (k:Int):=by rw[hg.out,hst.out,if_pos (vX.2 (by rw[ht];exact he))]
    have HV:=Lib.hid hv
    clear hv ht hg hst
    subst he
    go_wp2_with (go_at_call 94;refine(IW _ t _ HT).mono ?_;rintro e w2 ⟨rfl,hx2⟩;have hb2:=bT (w:=w) hx2;clear hx2;have hsz2:w.heap.size<=w2.heap.size:=hb2.size)
    go_ret2
    exact⟨by rw[HV.out];rfl,by go_grown⟩
   ·have hv:Pl.fQ s=Pl.kX s.data.toList (360-(k+1)) (k+1):=by rw[hg.out,hst.out,if_neg (fun h=>he (by rw[<-ht];exact vX.1 h))]
    have HV:=Lib.hid hv
    have hne:=EM he
    clear hv ht hg hst
    go_wp2_with (go_at_call 94;refine(IW _ t _ HT).mono ?_;rintro e w2 ⟨rfl,hx2⟩;have hb2:=bT (w:=w) hx2;clear hx2;have hsz2:w.heap.size<=w2.heap.size:=hb2.size)
    go_roundw
    case rel=>exact⟨k+1,by omega,by go_num,HV,by go_grown⟩
    case measure=>first|(simp[intOf];done)|(simp[intOf];omega)
  ·obtain rfl:k=360:=by omega
   have hv:Pl.fQ s=none:=by rw[hg.out];rfl
   have HV:=Lib.hid hv
   clear hv hg
   go_wp2
   go_ret2
   exact⟨by rw[HV.out];rfl,by go_grown⟩
theorem EN (s:ByteArray)(w:World)(hs:s.size<=100000):Calls prog 237 #[.string s] w fun e w'=>e=.returned (.tuple (i2 (kJ (Pl.fG Pl.cO Pl.aY s)) (lZ (Pl.fG Pl.cO Pl.aY s))))∧Below w.heap.size w w':=by
 have h:=RS s w hs
 rw[(Pl.yF s).1,(Pl.yF s).2]at h
 exact h
