/- Proved: parts of the walk. -/
import Derived.Test.YtgbpekeoegfjpaaGreatDoorVShelf
import Derived.Test.YtgbpekeoegfjpaaGreatDoorVZ02
set_option maxRecDepth 100000
set_option maxHeartbeats 1000000
namespace Go.Proofs.Pl
open RowKit
variable (A1 A2 A3 A4 : Option Addr) (c1 c2 c3 c4 : Nat) (f : Pl.aL)
def dI (n:Int):List UInt8->Option Int
 | []=>some n
 |c::r=>if c.toNat<48∨57<c.toNat then none else dI (10*n+c.toNat-48) r
def kX (l:List UInt8):Nat->Nat->Option Int
 |0,_=>none
 |f+1,k=>if gu (k:Int)=l then some (k:Int)else kX l f (k+1)
def fQ (s:ByteArray):Option Int:=kX s.data.toList 360 0
theorem eT (k:Int):(spelt k).data.toList=Lib.itoa k:=by unfold spelt;simp
theorem pX (v:Int)(h0: -999999999<=v)(h1:v<=999999999):Lib.atoiAll (Lib.itoa v)=.ok v:=by
 by_cases h:v<0
 ·have e:Lib.itoa v=45::Lib.decDigits v.natAbs:=by unfold Lib.itoa;rw[if_pos h]
  rw[e]
  unfold Lib.atoiAll
  simp only[]
  rw[if_pos (by decide)]
  unfold Lib.parseMag
  rw[if_neg (oH _),zJ _ (by omega)]
  simp only[]
  rw[if_neg (by simp),if_neg (by omega),if_pos (by decide)]
  congr 1;omega
 ·rw[iI (by omega),CP _ (by omega)]
  congr 1;omega
def fK (s:ByteArray):Option Int:=
 match Lib.atoiAll s.data.toList with
 | .ok v=>if-999999999<=v∧v<=999999999∧spelt v=s then some v else none
 |_=>none
theorem kY {s:ByteArray}{v:Int}:fK s=some v↔ -999999999<=v∧v<=999999999∧spelt v=s:=by
 constructor
 ·intro h
  unfold fK at h
  split at h
  ·split at h
   ·cases h;assumption
   ·cases h
  ·cases h
 ·rintro⟨h0,h1,rfl⟩
  unfold fK
  rw[eT,pX v h0 h1]
  simp[h0,h1]
def bV (s:ByteArray):Option Int:=(fK s).bind fun v=>if 0<=v then some v else none
def yZ (l:List UInt8):Option Int:=if l.length<1∨9<l.length∨(l.head?=some 48∧1<l.length)then none else dI 0 l
def bN (s:ByteArray):Option Int:=yZ s.data.toList
def gL (s:ByteArray):Option Int:=
 match s.data.toList with
 |45::b::l=>if b≠48 then (yZ (b::l)).map (fun v=> -v)else yZ (45::b::l)
 |l=>yZ l
end Go.Proofs.Pl
namespace Go.Proofs
open Tryz
variable (A1 A2 A3 A4 : Option Addr) (c1 c2 c3 c4 : Nat) (f : Pl.aL)
namespace Pl
variable (A1 A2 A3 A4 : Option Addr) (c1 c2 c3 c4 : Nat) (f : Pl.aL)
def q9 (l:List UInt8):ByteArray:=⟨l.toArray⟩
def aW (s:ByteArray):List ByteArray:=(kM s.data.toList).map q9
def iA (s:ByteArray):List ByteArray:=(rH s.data.toList).map q9
def eU :ByteArray:=⟨#[115,116,97,116,105,111,110]⟩
def iB :ByteArray:=⟨#[108,105,109,105,116]⟩
def f_ :ByteArray:=⟨#[112,97,114,99,101,108]⟩
def dB :ByteArray:=⟨#[118,97,114,105,97,116,105,111,110]⟩
def bq :ByteArray:=⟨#[115,116,111,110,101]⟩
def bA :ByteArray:=⟨#[119,105,100,116,104]⟩
def aV :ByteArray:=⟨#[99,111,117,114,115,101]⟩
def bC :ByteArray:=⟨#[97,108,111,110,103]⟩
def bg :ByteArray:=⟨#[108,101,118,101,108]⟩
def rM :ByteArray:=⟨#[98,121]⟩
def eD :ByteArray:=⟨#[103,105,118,101]⟩
def fT :ByteArray:=⟨#[119,101,97,114]⟩
def eu :ByteArray:=⟨#[115,108,97,99,107]⟩
def CQ :ByteArray:=⟨#[100,101,101,100]⟩
def idx {α:Type}(p:α->Bool):List α->Option Nat
 | []=>none
 |a::l=>if p a then some 0 else (idx p l).map (·+1)
theorem AR {α:Type}{p:α->Bool}{l:List α}{i:Nat}(h:idx p l=some i):i<l.length:=by
 induction l generalizing i with
 |nil=>cases h
 | cons a l ih=>
  unfold idx at h
  split at h
  ·cases h;simp
  ·obtain⟨j,hj,rfl⟩:=Option.map_eq_some_iff.1 h
   have:=ih hj
   simp;omega
def aL.none :aL:=⟨[],[],[],[]⟩
inductive Item where
 |vQ (n:ByteArray) (x:Int)
 |limit (n:ByteArray)
 |oI (n s f t:ByteArray)
 |variation (y e:Int)
def item :List ByteArray->Option Item
 | [k,a]=>if k=iB∧isName a=true then some (.limit a)else Option.none
 | [k,a,b]=>
  if k=eU then (if isName a=true then (bV b).map (Item.vQ a)else Option.none)
  else if k=dB then (bV a).bind fun y=>(fK b).map (Item.variation y)
  else Option.none
 | [k,a,b,c,d]=>if k=f_∧isName a=true∧isName b=true∧isName c=true∧isName d=true then some (.oI a b c d)else Option.none
 |_=>Option.none
def added (f:aL):Item->Except Int aL
 | .vQ n x=> .ok {f with st:=f.st++[(n,x)]}
 | .limit n=> .ok {f with li:=f.li++[n]}
 | .oI n s a b=>
  match idx (fun x=>decide (x=s)) f.li,idx (fun x=>decide (x.1=a)) f.st,idx (fun x=>decide (x.1=b)) f.st with
  |some i,some j,some k=>if i+1<f.li.length then .ok {f with pa:=f.pa++[⟨n,i,j,k⟩]} else .error 1
  |_,_,_=> .error 5
 | .variation y e=> .ok {f with va:=f.va++[(y,e)]}
def bM (f:aL)(w:List ByteArray):Except Int aL:=match item w with
 |some x=>added f x
 |Option.none=> .error 4
def rO (f:aL)(n:Nat):List (List ByteArray)->aL×Int×Int
 | []=>if aR f=0 then (f,0,0)else (aL.none,aR f,0)
 |w::l=>if w=[]then rO f (n+1) l else match bM f w with
  | .ok f'=>rO f' (n+1) l
  | .error e=>(aL.none,e,(n:Int)+1)
def gU (s:ByteArray):aL×Int×Int:=if 20000<s.size then (aL.none,2,0)else rO aL.none 0 ((iA s).map aW)
structure kZ where
 kind:Nat
 lim:ByteArray
 bL:ByteArray
 fr:ByteArray
 till:ByteArray
 size:Int
 er:Int
 aB:bF
def iQ (s:ByteArray):Option Int:=(fG cO aY s).bind fun n=>if 1<=n∧n<=100000 then some n else Option.none
def eZ (l:List ByteArray):ByteArray:=q9 (Lib.join (l.map (·.data.toList)) [32])
def upTo (k:ByteArray)(most:Nat)(l:List ByteArray):Option (ByteArray×List ByteArray):=
 (idx (fun x=>decide (x=k)) l).bind fun n=>if 1<=n∧n<=most then some (eZ (l.take n),l.drop (n+1))else Option.none
def Fw (w:List ByteArray):Option bF:=
 (upTo rM 6 w).bind fun(a,r)=>(iQ a).bind fun n=>(upTo eD 3 r).bind fun(b,q)=>(fQ b).bind fun d=>
  match q with
  | [ne,we,x,sl,s]=>if we=fT∧sl=eu then (bV ne).bind fun ne=>(fK x).bind fun x=>(bV s).map fun s=>⟨d,ne,n,0,x,s⟩else Option.none
  |_=>Option.none
def form :List ByteArray->Option kZ
 | k::r=>
  if k=bq then match r with
   | [l,f,s,e]=>if isName l=true∧isName f=true then (bV s).bind fun s=>(bV e).map fun e=>⟨1,l,⟨#[]⟩,f,⟨#[]⟩,s,e,bF.zero⟩else Option.none
   |_=>Option.none
  else if k=bA then match r with
   | [l,o,f,s,e]=>if isName l=true∧isName o=true∧isName f=true then (bV s).bind fun s=>(bV e).map fun e=>⟨2,l,o,f,⟨#[]⟩,s,e,bF.zero⟩else Option.none
   |_=>Option.none
  else if k=aV then match r with
   |l::f::t::w=>if isName l=true∧isName f=true∧isName t=true then (Fw w).map fun c=>⟨3,l,⟨#[]⟩,f,t,0,0,c⟩else Option.none
   |_=>Option.none
  else if k=bC then match r with
   | [l,o,f,t]=>if isName l=true∧isName o=true∧isName f=true∧isName t=true then some ⟨4,l,o,f,t,0,0,bF.zero⟩else Option.none
   |_=>Option.none
  else if k=bg then match r with
   | [l,f,t,s,e]=>if isName l=true∧isName f=true∧isName t=true then (fK s).bind fun s=>(bV e).map fun e=>⟨5,l,⟨#[]⟩,f,t,s,e,bF.zero⟩else Option.none
   |_=>Option.none
  else Option.none
 | []=>Option.none
def eX (f:aL)(n:ByteArray):Option Nat:=idx (fun x=>decide (x=n)) f.li
def dW (f:aL)(n:ByteArray):Option Nat:=idx (fun x=>decide (x.1=n)) f.st
def looked (f:aL)(x:kZ)(year:Int):Option aZ:=
 (eX f x.lim).bind fun l=>(if x.kind=2∨x.kind=4 then eX f x.bL else some 0).bind fun o=>(dW f x.fr).bind fun s=>
  (if x.kind=3∨x.kind=4∨x.kind=5 then dW f x.till else some 0).map fun t=>⟨x.kind,l,o,s,t,x.size,x.er,if x.kind=3 then {x.aB with y:=year} else bF.zero⟩
noncomputable def jF (f:aL)(x:kZ)(year:Int):Except Int aZ:=match looked f x year with
 |some c=>if fP f c=0 then .ok c else .error (fP f c)
 |Option.none=> .error 5
structure j6 where
 name:ByteArray
 year:Int
 rank:Int
 calls:List aZ
noncomputable def dn (f:aL)(all:List j6)(w:List ByteArray):Except Int (List j6):=
 if w.head?=some CQ then match w with
  | [_,n,y,r]=>match (if isName n=true then (bV y).bind fun y=>(bV r).map fun r=>(y,r)else Option.none)with
   |some (y,r)=>if 60<=all.length then .error 2 else if ¬(1<=y∧y<=3000∧0<=r∧r<=1000)then .error 1 else if all.any (fun d=>decide (d.name=n))=true then .error 6 else .ok (all++[⟨n,y,r,[]⟩])
   |Option.none=> .error 4
  |_=> .error 4
 else match form w with
  |Option.none=> .error 4
  | some x=>match all.getLast? with
   |Option.none=> .error 4
   |some d=>if 20<=d.calls.length then .error 2 else match jF f x d.year with
    | .error e=> .error e
    | .ok c=> .ok (all.dropLast++[{d with calls:=d.calls++[c]}])
noncomputable def DJ (f:aL)(all:List j6)(n:Nat):List (List ByteArray)->List j6×Int×Int
 | []=>(all,0,0)
 |w::l=>if w=[]then DJ f all (n+1) l else match dn f all w with
  | .ok a=>DJ f a (n+1) l
  | .error e=>([],e,(n:Int)+1)
noncomputable def dz (f:aL)(s:ByteArray):List j6×Int×Int:=
 if aR f≠0 then ([],aR f,0)else if 20000<s.size then ([],2,0)else DJ f [] 0 ((iA s).map aW)
noncomputable def bJ (f:aL)(s:ByteArray)(year:Int):Except Int aZ:=
 if aR f≠0 then .error (aR f)else if ¬(1<=year∧year<=3000)then .error 1 else if (10:UInt8)∈s.data.toList then .error 4 else match form (aW s)with
  |Option.none=> .error 4
  |some x=>jF f x year
end Pl
namespace Pl
variable (A1 A2 A3 A4 : Option Addr) (c1 c2 c3 c4 : Nat) (f : Pl.aL)
theorem pY (s:ByteArray):s.data.toList.length=s.size:=by rw[Array.length_toList];rfl
theorem rP (s:ByteArray)(k:Nat)(h:k<s.size):s.data.toList[k]'(by rw[pY];exact h)=s[k]:=rfl
theorem nu {s:ByteArray}(h:s.size<1∨24<s.size):isName s=false:=by
 have:=pY s
 unfold isName
 split
 ·rfl
 ·rename_i b l hl
  rw[hl,List.length_cons]at this
  have: ¬l.length<24:=by omega
  simp[this]
theorem rQ {s:ByteArray}(h:0<s.size)(hb: ¬(97<=s[0].toNat∧s[0].toNat<=122)):isName s=false:=by
 have hg:=rP s 0 h
 unfold isName
 split
 ·rfl
 ·rename_i b l hl
  simp only[hl,List.getElem_cons_zero]at hg
  subst hg
  by_cases h1:97<=s[0].toNat
  ·have: ¬s[0].toNat<=122:=fun h2=>hb ⟨h1,h2⟩
   simp[this]
  ·simp[h1]
theorem AU {b:UInt8}(h:97<=b.toNat∧b.toNat<=122):kI b=true:=by unfold kI;simp[h.1,h.2]
theorem wC {s:ByteArray}{k:Nat}(hk:k<s.size)(h:kI s[k]=false):isName s=false:=by
 have hg:=rP s k hk
 have hn:=pY s
 unfold isName
 split
 ·rfl
 ·rename_i b l hl
  simp only[hl]at hg
  rw[hl,List.length_cons]at hn
  cases k with
  | zero=>
   simp only[List.getElem_cons_zero]at hg
   rw[<-hg]at h
   have: ¬(97<=b.toNat∧b.toNat<=122):=fun h2=>by rw[AU h2]at h;cases h
   by_cases h1:97<=b.toNat
   ·have: ¬b.toNat<=122:=fun h2=>this ⟨h1,h2⟩
    simp[this]
   ·simp[h1]
  | succ k=>
   simp only[List.getElem_cons_succ]at hg
   have hm:s[k+1]∈l:=by rw[<-hg];exact List.getElem_mem _
   have:l.all kI=false:=by
    cases e:l.all kI with
    |false=>rfl
    |true=>rw[List.all_eq_true.1 e _ hm]at h;cases h
   simp[this]
theorem uI {s:ByteArray}(h1:1<=s.size)(h2:s.size<=24)(hb:97<=s[0].toNat∧s[0].toNat<=122)(ha: ∀k (h:k<s.size),kI s[k]=true):isName s=true:=by
 have hn:=pY s
 have hg:=rP s 0 h1
 unfold isName
 split
 ·rename_i hl;rw[hl]at hn;simp at hn;omega
 ·rename_i b l hl
  simp only[hl,List.getElem_cons_zero]at hg
  subst hg
  rw[hl,List.length_cons]at hn
  have hall:l.all kI=true:=List.all_eq_true.2 fun x hx=>by
   obtain⟨j,hj,rfl⟩:=List.getElem_of_mem hx
   have:=ha (j+1) (by omega)
   have hg2:=rP s (j+1) (by omega)
   simp only[hl,List.getElem_cons_succ]at hg2
   rw[hg2];exact this
  have:l.length<24:=by omega
  simp[hb.1,hb.2,this,hall]
theorem qb (b:UInt8):kI b=true↔((97<=b.toNat∧b.toNat<=122)∨(48<=b.toNat∧b.toNat<=57)∨b.toNat=45):=by
 unfold kI
 have:b=45↔b.toNat=45:=⟨fun h=>by rw[h];rfl,fun h=>UInt8.toNat_inj.1 h⟩
 simp only[Bool.or_eq_true,Bool.and_eq_true,decide_eq_true_eq,beq_iff_eq,this,or_assoc]
theorem zK {α:Type}[DecidableEq α]{l:List α}{k:Nat}(hk:k<l.length)(h:l[k]∈l.take k):twice l=true:=by
 cases e:twice l with
 |true=>rfl
 |false=>
  exfalso
  have hn:=(mM l).1 e
  obtain⟨j,hj,hjk⟩:=List.mem_iff_getElem.1 h
  have hj2:=hj
  rw[List.length_take]at hj2
  rw[List.getElem_take]at hjk
  exact List.pairwise_iff_getElem.1 hn j k (by omega) hk (by omega) hjk
theorem wD {α:Type}[DecidableEq α]{l:List α}(h: ∀k (hk:k<l.length),l[k]∉l.take k):twice l=false:=by
 refine(mM l).2 ?_
 rw[List.nodup_iff_pairwise_ne,List.pairwise_iff_getElem]
 intro i j hi hj hij he
 exact h j hj (List.mem_iff_getElem.2 ⟨i,by rw[List.length_take];omega,by rw[List.getElem_take];exact he⟩)
def pos (o:Option Nat):Int:=match o with|some i=>(i:Int)|none=> -1
theorem iN {α:Type}{p:α->Bool}{l:List α}{k:Nat}(hk:k<l.length)(h: ∀j (hj:j<k),p (l[j]'(by omega))=false)(hp:p l[k]=true):idx p l=some k:=by
 induction l generalizing k with
 |nil=>simp at hk
 | cons a l ih=>
  unfold idx
  cases k with
  |zero=>simp only[List.getElem_cons_zero]at hp;simp[hp]
  |succ k=>
   have h0:=h 0 (by omega)
   simp only[List.getElem_cons_zero]at h0
   simp only[h0,Bool.false_eq_true,if_false]
   rw[ih (k:=k) (by simpa using hk) (fun j hj=>by have:=h (j+1) (by omega);simpa using this) (by simpa using hp)]
   rfl
theorem jX {α:Type}{p:α->Bool}{l:List α}(h: ∀j (hj:j<l.length),p l[j]=false):idx p l=none:=by
 induction l with
 |nil=>rfl
 |cons a l ih=>
  unfold idx
  have h0:=h 0 (by simp)
  simp only[List.getElem_cons_zero]at h0
  simp only[h0,Bool.false_eq_true,if_false]
  rw[ih (fun j hj=>by have:=h (j+1) (by simpa using hj);simpa using this)]
  rfl
theorem rR {α:Type}(p:α->Bool)(l:List α):(idx p l).isSome=l.any p:=by
 induction l with
 |nil=>rfl
 |cons a l ih=>
  unfold idx
  cases h:p a
  ·simp[h,ih]
  ·simp[h]
theorem wE {o:Option Nat}:decide (0<=pos o)=o.isSome:=by
 cases o with
 |none=>rfl
 |some i=>simp[pos]
end Pl
open RowKit
structure Env (w:World):Prop where
 tab:Lib.TabIs prog w "internal/strconv.uint64pow10" .u64 Lib.pow10Tab
 maxLen: ∃m:Int,w.cell? ⟨0,0,none⟩=some (.int .i64 m)
 syn: ∃te pe,w.cell? ⟨4,0,none⟩=some (.iface te pe)
 rng: ∃te pe,w.cell? ⟨5,0,none⟩=some (.iface te pe)
 size:8<=w.heap.size
theorem Env.below {w w':World}{B:Nat}(h:Env w)(hb:Below B w w')(hB:8<=B):Env w':=by
 obtain⟨h1,⟨m,h2⟩,⟨te,pe,h3⟩,⟨tf,pf,h4⟩,h5⟩:=h
 exact⟨var?_below hb (g:=1) (by kernel_rfl) (by omega) h1,⟨m,(hb.cell (p:=⟨0,0,none⟩) (show 0<B by omega)).trans h2⟩,⟨te,pe,(hb.cell (p:=⟨4,0,none⟩) (show 4<B by omega)).trans h3⟩,
  ⟨tf,pf,(hb.cell (p:=⟨5,0,none⟩) (show 5<B by omega)).trans h4⟩,Nat.le_trans h5 hb.size⟩
theorem Env.up {w w':World}(h:Env w)(hb:Below w.heap.size w w'):Env w':=h.below hb h.size
theorem below_grow (w:World)(k:Nat)(os:Array Obj):Below w.heap.size w (Sort.grow (w.drewN k) os):=
 ⟨rfl,rfl,rfl,by simp[Sort.grow,World.drewN],fun i hi=>by
  show(w.heap++os)[i]?=_
  rw[Array.getElem?_append_left hi]⟩
theorem eY (n:Int)(w:World)(hE:Env w)(h0: -9223372036854775808<=n)(h1:n<=9223372036854775807):
  Calls prog 120 #[.int .i64 n] w fun e w'=>e=.returned (.string ⟨(Lib.itoa n).toArray⟩)∧Below w.heap.size w w':=
 (Tryz.strconv_Itoa n h0 h1 w hE.tab).mono fun _ _ ⟨he,k,os,hw⟩=>⟨he,by rw[hw];exact below_grow w k os⟩
theorem ny (n:Int)(w:World)(h0:0<=n)(h1:n<100):
  Calls prog 120 #[.int .i64 n] w fun e w'=>e=.returned (.string ⟨(Lib.decDigits n.toNat).toArray⟩)∧w=w':=by
 obtain⟨m,rfl⟩:=Int.eq_ofNat_of_zero_le h0
 exact(Tryz.strconv_Itoa_small m (by omega) w).mono fun _ _ ⟨he,hw⟩=>⟨he,hw.symm⟩
def fU (b:ByteArray):List Value:=[.string b]
abbrev d9 := @Seg ByteArray fU 1
def nA (p:ByteArray×Int):List Value:=[.string p.1,.int .i64 p.2]
abbrev iJ := @Seg (ByteArray×Int) nA 2
def mG (p:Pl.oz):List Value:=[.string p.name,.int .i64 p.dH,.int .i64 p.fr,.int .i64 p.till]
abbrev om := @Seg Pl.oz mG 4
theorem d9.gY {w:World}{B:Nat}{A:Option Addr}{l:List ByteArray}(h:d9 w B A l){k:Nat}(hk:k<l.length):
  ∃b off,A=some ⟨b,off,none⟩∧b<B∧w.cell? ⟨b,off+k,none⟩=some (.string l[k]):=by
 obtain⟨b,off,hA,hb,hc⟩:=Seg.at_ h hk
 exact⟨b,off,hA,hb,by have:=hc 0 _ rfl;simpa using this⟩
theorem iJ.at2 {w:World}{B:Nat}{A:Option Addr}{l:List (ByteArray×Int)}(h:iJ w B A l){k:Nat}(hk:k<l.length):
  ∃b off,A=some ⟨b,off,none⟩∧b<B∧w.cell? ⟨b,off+k*2,none⟩=some (.string l[k].1)∧w.cell? ⟨b,off+k*2+1,none⟩=some (.int .i64 l[k].2):=by
 obtain⟨b,off,hA,hb,hc⟩:=Seg.at_ h hk
 exact⟨b,off,hA,hb,hc 0 _ rfl,hc 1 _ rfl⟩
theorem om.at4 {w:World}{B:Nat}{A:Option Addr}{l:List Pl.oz}(h:om w B A l){k:Nat}(hk:k<l.length):
  ∃b off,A=some ⟨b,off,none⟩∧b<B∧w.cell? ⟨b,off+k*4,none⟩=some (.string l[k].name)∧w.cell? ⟨b,off+k*4+1,none⟩=some (.int .i64 l[k].dH)∧
   w.cell? ⟨b,off+k*4+2,none⟩=some (.int .i64 l[k].fr)∧w.cell? ⟨b,off+k*4+3,none⟩=some (.int .i64 l[k].till):=by
 obtain⟨b,off,hA,hb,hc⟩:=Seg.at_ h hk
 exact⟨b,off,hA,hb,hc 0 _ rfl,hc 1 _ rfl,hc 2 _ rfl,hc 3 _ rfl⟩
structure bB (w:World)(B:Nat)(A1 A2 A3 A4:Option Addr)(f:Pl.aL):Prop where
 st:iJ w B A1 f.st
 li:d9 w B A2 f.li
 pa:om w B A3 f.pa
 va:Vars w B A4 f.va
theorem bB.up {w w':World}{A1 A2 A3 A4:Option Addr}{f:Pl.aL}(h:bB w w.heap.size A1 A2 A3 A4 f)(hb:Below w.heap.size w w'):bB w' w'.heap.size A1 A2 A3 A4 f:=
 ⟨h.st.up hb,h.li.up hb,h.pa.up hb,h.va.up hb⟩
structure Small (f:Pl.aL):Prop where
 st:f.st.length<=100000
 li:f.li.length<=100000
 pa:f.pa.length<=100000
 va:f.va.length<=100000
 sn: ∀s∈f.st,s.1.size<=100000
 ln: ∀s∈f.li,s.size<=100000
 pn: ∀p∈f.pa,p.name.size<=100000
theorem dP (x a b:Int)(w:World):
  Calls prog 84 (i3 x a b) w fun e w'=>e=.returned (.bool (Pl.bQ x a b))∧w=w':=by
 go_enter func84,ntmps84
 go_wp2
 all_goals go_ret
 all_goals exact⟨aD (by grind [Pl.bQ]),rfl⟩
theorem bW (x a b:Int)(w:World):
  Calls prog 102 (i3 x a b) w fun e w'=>e=.returned (.bool (Pl.bQ x a b))∧w=w':=by
 go_enter func102,ntmps102
 go_wp2
 all_goals go_ret
 all_goals exact⟨aD (by grind [Pl.bQ]),rfl⟩
theorem aAo (y r:Int)(w:World):
  Calls prog 160 (i2 y r) w fun e w'=>e=.returned (.bool (Pl.bQ y 1 3000&&Pl.bQ r 0 1000))∧w=w':=by
 cases h:Pl.bQ y 1 3000
 all_goals
  go_enter func160,ntmps160
  go_wp2_with (go_at_call 84;refine(dP _ _ _ _).mono ?_;rintro e w' ⟨rfl,rfl⟩)
  go_ret
  exact⟨rfl,rfl⟩
theorem Qr (p q:Pl.oz)(w:World)(h0: -1000000<=p.fr)(h1:p.fr<=1000000)(h2: -1000000<=p.till)(h3:p.till<=1000000)(k0: -1000000<=q.fr)(k1:q.fr<=1000000)(k2: -1000000<=q.till)(k3:q.till<=1000000):
  Calls prog 86 #[.agg #[.string p.name,.int .i64 p.dH,.int .i64 p.fr,.int .i64 p.till],.agg #[.string q.name,.int .i64 q.dH,.int .i64 q.fr,.int .i64 q.till]] w fun e w'=>e=.returned (.int .i64 (Pl.CK p q))∧Below w.heap.size w w':=by
 obtain⟨pn,ps,pf,pt⟩:=p
 obtain⟨qn,qs,qf,qt⟩:=q
 simp only at h0 h1 h2 h3 k0 k1 k2 k3
 go_enter func86,ntmps86
 go_wp2
 all_goals go_ret
 all_goals exact⟨aH (by simp only[Pl.CK];try omega),by go_grown⟩
theorem Qs (p q:Pl.oz)(w:World)(h0: -1000000<=p.fr)(h1:p.fr<=1000000)(h2: -1000000<=p.till)(h3:p.till<=1000000)(k0: -1000000<=q.fr)(k1:q.fr<=1000000)(k2: -1000000<=q.till)(k3:q.till<=1000000):
  Calls prog 127 #[.agg #[.string p.name,.int .i64 p.dH,.int .i64 p.fr,.int .i64 p.till],.agg #[.string q.name,.int .i64 q.dH,.int .i64 q.fr,.int .i64 q.till]] w fun e w'=>e=.returned (.int .i64 (max 0 (Pl.CK p q+1)))∧Below w.heap.size w w':=by
 obtain⟨pn,ps,pf,pt⟩:=p
 obtain⟨qn,qs,qf,qt⟩:=q
 simp only at h0 h1 h2 h3 k0 k1 k2 k3
 go_enter func127,ntmps127
 go_wp2
 all_goals go_ret
 all_goals exact⟨aH (by simp only[Pl.CK];try omega),by go_grown⟩
theorem KE {l S:Int}(h0:0<=l)(h1:l<=1000)(h2:0<=S)(h3:S<=100000):0<=l*S∧l*S<=100000000:=
 ⟨Int.mul_nonneg h0 h2,Int.le_trans (Int.mul_le_mul h1 h3 h2 (by omega)) (by decide)⟩
theorem rT (l s:Int)(w:World)(h0:0<=l)(h1:l<=1000)(h2:f.st.length<=100000)(h3:0<=s)(h4:s<=100000):
  Calls prog 110 #[.agg (fq A1 A2 A3 A4 c1 c2 c3 c4 f),.int .i64 l,.int .i64 s] w fun e w'=>e=.returned (.int .i64 (1+l*f.st.length+s))∧Below w.heap.size w w':=by
 obtain⟨m0,m1⟩:=KE (S:=(f.st.length:Int)) h0 h1 (by omega) (by omega)
 go_enter func110,ntmps110
 go_wp2
 all_goals go_ret
 all_goals exact⟨rfl,by go_grown⟩
theorem CR (w:World)(h1:f.li.length<=1000)(h2:f.st.length<=100000):
  Calls prog 106 #[.agg (fq A1 A2 A3 A4 c1 c2 c3 c4 f)] w fun e w'=>e=.returned (.int .i64 (1+(f.li.length:Int)*f.st.length))∧Below w.heap.size w w':=by
 obtain⟨m0,m1⟩:=KE (l:=(f.li.length:Int)) (S:=(f.st.length:Int)) (by omega) (by omega) (by omega) (by omega)
 go_enter func106,ntmps106
 go_wp2
 all_goals go_ret
 all_goals exact⟨rfl,by go_grown⟩
theorem gV (l s:Int)(w:World)(h1:f.li.length<=100000)(h2:f.st.length<=100000):
  Calls prog 126 #[.agg (fq A1 A2 A3 A4 c1 c2 c3 c4 f),.int .i64 l,.int .i64 s] w fun e w'=>e=.returned (.bool (Pl.bQ l 0 ((f.li.length:Int)-1)&&Pl.bQ s 0 ((f.st.length:Int)-1)))∧Below w.heap.size w w':=by
 cases h:Pl.bQ l 0 ((f.li.length:Int)-1)
 all_goals
  go_enter func126,ntmps126
  go_wp2_with (go_at_call 102;refine(bW _ _ _ _).mono ?_;rintro e w' ⟨rfl,rfl⟩)
  go_ret
  exact⟨rfl,by go_grown⟩
theorem dF (a b:ByteArray):(a.toList==b.toList)=decide (a=b):=by
 rw[ByteArray.toList_eq,ByteArray.toList_eq]
 by_cases h:a=b
 ·subst h;simp
 ·have: ¬a.data.toList=b.data.toList:=fun e=>h (by cases a;cases b;simp only at e;have:=Array.toList_inj.1 e;subst this;rfl)
  rw[decide_eq_false h]
  exact beq_false_of_ne this
theorem CS {α:Type}{enc:α->List Value}{size:Nat}{w:World}{B:Nat}{A:Option Addr}{l:List α}(h:Seg enc size w B A l)(k:Nat):Seg enc size w B A (l.take k):=by
 rcases h with h|⟨b,off,hA,hb,hc⟩
 ·exact .inl (by rw[h];simp)
 ·refine .inr ⟨b,off,hA,hb,fun j x hx=>hc j x ?_⟩
  rw[List.getElem?_take]at hx
  split at hx
  ·exact hx
  ·cases hx
theorem wF (s:ByteArray) (w:World) (hs:s.size<=100000):Calls prog 82 #[.string s] w fun e w'=>e=.returned (.bool (Pl.isName s))∧w=w':=by
  by_cases hz:s.size<1∨24<s.size
  · have hv:=Lib.hid (Pl.nu hz)
    have hin:Pl.bQ (s.size:Int) 1 24=false:=by unfold Pl.bQ;rcases hz with h|h<;>simp<;>omega
    clear hz
    go_enter func82,ntmps82
    go_wp2_with (go_at_call 84;refine(dP _ _ _ _).mono ?_;rintro e w' ⟨rfl,rfl⟩)
    go_ret
    exact⟨by rw[hv.out];try rfl,rfl⟩
  · have z1 : 1<=s.size:=by omega
    have z2:s.size<=24:=by omega
    have hin:Pl.bQ (s.size:Int) 1 24=true:=by unfold Pl.bQ;simp;omega
    have hu:s[0].toNat<=255:=by have:=s[0].toNat_lt;omega
    clear hz
    by_cases hb:97<=s[0].toNat∧s[0].toNat<=122
    · obtain ⟨b0,b1⟩:=hb
      go_enter func82,ntmps82
      go_wp2_with (go_at_call 84;refine(dP _ _ _ _).mono ?_;rintro e w' ⟨rfl,rfl⟩)
      go_loop [21] (fun i=> ∃(k:Nat),k<=s.size∧i=.int .i64 k∧Hid (∀j (h:j<s.size),j<k->Pl.kI s[j]=true)) (fun i=>s.size-(intOf i).toNat)
      case atStart=>exact⟨0,by omega,rfl,Lib.hid fun j _ h=>by omega⟩
      case round =>
        obtain⟨k,hk,rfl,hg⟩:=hrel
        by_cases hlt:k<s.size
        · have hu:s[k].toNat<=255:=by have:=s[k].toNat_lt;omega
          by_cases hc:(97<=s[k].toNat∧s[k].toNat<=122)∨(48<=s[k].toNat∧s[k].toNat<=57)∨s[k].toNat=45
          · have hn:=Lib.hid ((Pl.qb s[k]).2 hc)
            go_wp2
            all_goals first
              |(exfalso;omega)
              | (go_round
                 case rel=>exact⟨k+1,by omega,by go_num,Lib.hid fun j h hj=>by
                   by_cases e:j=k
                   ·subst e;exact hn.out
                   ·exact hg.out j h (by omega)⟩
                 case measure=>first|(simp[intOf];done)|(simp[intOf];omega))
          · have hn:Pl.kI s[k]=false:=by
              cases e:Pl.kI s[k]with
              |false=>rfl
              |true=>exact absurd ((Pl.qb s[k]).1 e) hc
            have hv:=Lib.hid (Pl.wC hlt hn)
            have h45:((s[k].toNat:Int) !=45)=true:=by simp;omega
            clear hn
            go_wp2
            all_goals first
              |(exfalso;omega)
              |(go_ret;exact⟨by rw[hv.out];try rfl,rfl⟩)
        · have hv:=Lib.hid (Pl.uI z1 z2 ⟨b0,b1⟩ fun j h=>hg.out j h (by omega))
          go_wp2
          go_ret
          exact⟨by rw[hv.out];try rfl,rfl⟩
    · have hv:=Lib.hid (Pl.rQ z1 hb)
      go_enter func82,ntmps82
      go_wp2_with (go_at_call 84;refine(dP _ _ _ _).mono ?_;rintro e w' ⟨rfl,rfl⟩)
      all_goals first
        |(exfalso;omega)
        |(go_ret;exact⟨by rw[hv.out];try rfl,rfl⟩)
theorem gJ (s:ByteArray) (w:World) (hs:s.size<=100000):Calls prog 114 #[.string s] w fun e w'=>e=.returned (.bool (Pl.isName s))∧w=w':=by
  by_cases hz:s.size<1∨24<s.size
  · have hv:=Lib.hid (Pl.nu hz)
    go_enter func114,ntmps114
    go_wp2
    all_goals first
      |(exfalso;omega)
      |(go_ret;exact⟨by rw[hv.out];try rfl,rfl⟩)
  · have z1 : 1<=s.size:=by omega
    have z2:s.size<=24:=by omega
    have hu:s[0].toNat<=255:=by have:=s[0].toNat_lt;omega
    clear hz
    by_cases hb:97<=s[0].toNat∧s[0].toNat<=122
    · obtain ⟨b0,b1⟩:=hb
      go_enter func114,ntmps114
      go_wp2
      go_loop [3] (fun i=> ∃(k:Nat),k<=s.size∧i=.int .i64 k∧Hid (∀j (h:j<s.size),j<k->Pl.kI s[j]=true)) (fun i=>s.size-(intOf i).toNat)
      case atStart=>exact⟨0,by omega,rfl,Lib.hid fun j _ h=>by omega⟩
      case round =>
        obtain⟨k,hk,rfl,hg⟩:=hrel
        by_cases hlt:k<s.size
        · have hu:s[k].toNat<=255:=by have:=s[k].toNat_lt;omega
          by_cases hc:(97<=s[k].toNat∧s[k].toNat<=122)∨(48<=s[k].toNat∧s[k].toNat<=57)∨s[k].toNat=45
          · have hn:=Lib.hid ((Pl.qb s[k]).2 hc)
            go_wp2
            all_goals first
              |(exfalso;omega)
              | (go_round
                 case rel=>exact⟨k+1,by omega,by go_num,Lib.hid fun j h hj=>by
                   by_cases e:j=k
                   ·subst e;exact hn.out
                   ·exact hg.out j h (by omega)⟩
                 case measure=>first|(simp[intOf];done)|(simp[intOf];omega))
          · have hn:Pl.kI s[k]=false:=by
              cases e:Pl.kI s[k]with
              |false=>rfl
              |true=>exact absurd ((Pl.qb s[k]).1 e) hc
            have hv:=Lib.hid (Pl.wC hlt hn)
            have h45:((s[k].toNat:Int) !=45)=true:=by simp;omega
            clear hn
            go_wp2
            all_goals first
              |(exfalso;omega)
              |(go_ret;exact⟨by rw[hv.out];try rfl,rfl⟩)
        · have hv:=Lib.hid (Pl.uI z1 z2 ⟨b0,b1⟩ fun j h=>hg.out j h (by omega))
          go_wp2
          go_ret
          exact⟨by rw[hv.out];try rfl,rfl⟩
    · have hv:=Lib.hid (Pl.rQ z1 hb)
      go_enter func114,ntmps114
      go_wp2
      all_goals first
        |(exfalso;omega)
        |(go_ret;exact⟨by rw[hv.out];try rfl,rfl⟩)
theorem Hw (A:Option Addr)(c:Nat)(l:List ByteArray)(s:ByteArray)(w:World)(hl:d9 w w.heap.size A l)(hm:l.length<=1000000):
  Calls prog 209 #[.slice A l.length c,.string s] w fun e w'=>e=.returned (.int .i64 (Pl.pos (Pl.idx (fun x=>decide (x=s)) l)))∧w=w':=by
 go_enter func209,ntmps209
 go_wp2
 go_loop [8] (fun i=> ∃(k:Nat),k<=l.length∧i=.int .i64 k∧Hid (∀j (h:j<l.length),j<k->decide (l[j]=s)=false)) (fun i=>l.length-(intOf i).toNat)
 case atStart=>exact⟨0,by omega,rfl,Lib.hid fun j _ h=>by omega⟩
 case round=>
  obtain⟨k,hk,rfl,hg⟩:=hrel
  by_cases hlt:k<l.length
  ·obtain⟨b,off,rfl,mQ,q0⟩:=d9.gY hl hlt
   cases hc:decide (l[k]=s)with
   |true=>
    have hv:=Lib.hid (Pl.iN (p:=fun x=>decide (x=s)) hlt (fun j hj=>hg.out j (by omega) hj) hc)
    have hq:(s.toList==l[k].toList)=true:=by rw[dF];rw[decide_eq_true_eq]at hc ⊢;exact hc.symm
    clear hc
    go_wp2
    go_ret
    exact⟨by rw[hv.out];try rfl,rfl⟩
   | false=>
    have hq:(s.toList==l[k].toList)=false:=by rw[dF];rw[decide_eq_false_iff_not]at hc ⊢;exact fun h=>hc h.symm
    have hn:=Lib.hid hc
    clear hc
    go_wp2
    go_round
    case rel=>exact⟨k+1,by omega,by go_num,Lib.hid fun j h hj=>by
     by_cases e:j=k
     ·subst e;exact hn.out
     ·exact hg.out j h (by omega)⟩
    case measure=>first|(simp[intOf];done)|(simp[intOf];omega)
  ·have hv:=Lib.hid (Pl.jX (p:=fun x=>decide (x=s)) (l:=l) fun j hj=>hg.out j hj (by omega))
   go_wp2
   go_ret
   exact⟨by rw[hv.out];try rfl,rfl⟩
theorem Fx (A:Option Addr)(c:Nat)(l:List ByteArray)(s:ByteArray)(w:World)(hl:d9 w w.heap.size A l)(hm:l.length<=1000000):
  Calls prog 155 #[.slice A l.length c,.string s] w fun e w'=>e=.returned (.bool (l.any fun x=>decide (x=s)))∧w=w':=by
 have hv:decide (0<=Pl.pos (Pl.idx (fun x=>decide (x=s)) l))=l.any fun x=>decide (x=s):=by
  rw[Pl.wE,Pl.rR]
 have HV:=Lib.hid hv
 clear hv
 go_enter func155,ntmps155
 go_wp2_with (go_at_call 209;refine(Hw _ _ l _ _ hl hm).mono ?_;rintro e w' ⟨rfl,rfl⟩)
 go_ret
 exact⟨aD (by rw[<-HV.out]),rfl⟩
theorem Hy {l:List ByteArray}{s:ByteArray}:(l.any fun x=>decide (x=s))=true↔s∈l:=by
 rw[List.any_eq_true]
 simp only[decide_eq_true_eq]
 exact⟨fun⟨x,hx,h⟩=>h▸hx,fun h=>⟨s,h,rfl⟩⟩
theorem nC (A:Option Addr)(c:Nat)(l:List ByteArray)(s:ByteArray)(w:World)(hl:d9 w w.heap.size A l)(hm:l.length<=1000000):
  Calls prog 115 #[.slice A l.length c,.string s] w fun e w'=>e=.returned (.int .i64 (Pl.pos (Pl.idx (fun x=>decide (x=s)) l)))∧w=w':=by
 go_enter func115,ntmps115
 go_wp2
 go_loop [5] (fun i=> ∃(k:Nat),k<=l.length∧i=.int .i64 k∧Hid (∀j (h:j<l.length),j<k->decide (l[j]=s)=false)) (fun i=>l.length-(intOf i).toNat)
 case atStart=>exact⟨0,by omega,rfl,Lib.hid fun j _ h=>by omega⟩
 case round=>
  obtain⟨k,hk,rfl,hg⟩:=hrel
  by_cases hlt:k<l.length
  ·obtain⟨b,off,rfl,mQ,q0⟩:=d9.gY hl hlt
   cases hc:decide (l[k]=s)with
   |true=>
    have hv:=Lib.hid (Pl.iN (p:=fun x=>decide (x=s)) hlt (fun j hj=>hg.out j (by omega) hj) hc)
    have hq:(l[k].toList==s.toList)=true:=by rw[dF];exact hc
    clear hc
    go_wp2
    go_ret
    exact⟨by rw[hv.out];try rfl,rfl⟩
   | false=>
    have hq:(l[k].toList==s.toList)=false:=by rw[dF];exact hc
    have hn:=Lib.hid hc
    clear hc
    go_wp2
    go_round
    case rel=>exact⟨k+1,by omega,by go_num,Lib.hid fun j h hj=>by
     by_cases e:j=k
     ·subst e;exact hn.out
     ·exact hg.out j h (by omega)⟩
    case measure=>first|(simp[intOf];done)|(simp[intOf];omega)
  ·have hv:=Lib.hid (Pl.jX (p:=fun x=>decide (x=s)) (l:=l) fun j hj=>hg.out j hj (by omega))
   go_wp2
   go_ret
   exact⟨by rw[hv.out];try rfl,rfl⟩
theorem NI (A:Option Addr)(c:Nat)(l:List ByteArray)(w:World)(hl:d9 w w.heap.size A l)(hm:l.length<=1000000)(hcp:l.length<=c):
  Calls prog 83 #[.slice A l.length c] w fun e w'=>e=.returned (.bool (Pl.twice l))∧w=w':=by
 go_enter func83,ntmps83
 go_wp2
 go_loop [7] (fun i=> ∃(k:Nat),k<=l.length∧i=.int .i64 k∧Hid (∀j (h:j<l.length),j<k->l[j]∉l.take j)) (fun i=>l.length-(intOf i).toNat)
 case atStart=>exact⟨0,by omega,rfl,Lib.hid fun j _ h=>by omega⟩
 case round=>
  obtain⟨k,hk,rfl,hg⟩:=hrel
  by_cases hlt:k<l.length
  ·obtain⟨b,off,rfl,mQ,q0⟩:=d9.gY hl hlt
   have htk:d9 w w.heap.size (some ⟨b,off,none⟩) (l.take k):=CS hl k
   have hcon:=Fx (some ⟨b,off,none⟩) c (l.take k) l[k] w htk (by rw[List.length_take];omega)
   rw[List.length_take,Nat.min_eq_left (by omega)]at hcon
   cases hc:(l.take k).any fun x=>decide (x=l[k])with
   |true=>
    rw[hc]at hcon
    have hv:=Lib.hid (Pl.zK hlt (Hy.1 hc))
    clear hc
    go_wp2_with (go_at_call 155;refine hcon.mono ?_;rintro e w' ⟨rfl,rfl⟩)
    go_ret
    exact⟨by rw[hv.out];try rfl,rfl⟩
   | false=>
    rw[hc]at hcon
    have hn:Hid (l[k]∉l.take k):=Lib.hid fun h=>by rw[Hy.2 h]at hc;cases hc
    clear hc
    go_wp2_with (go_at_call 155;refine hcon.mono ?_;rintro e w' ⟨rfl,rfl⟩)
    go_round
    case rel=>exact⟨k+1,by omega,by go_num,Lib.hid fun j h hj=>by
     by_cases e:j=k
     ·subst e;exact hn.out
     ·exact hg.out j h (by omega)⟩
    case measure=>first|(simp[intOf];done)|(simp[intOf];omega)
  ·have hv:=Lib.hid (Pl.wD (l:=l) fun j hj=>hg.out j hj (by omega))
   go_wp2
   go_ret
   exact⟨by rw[hv.out];try rfl,rfl⟩
end Go.Proofs
namespace Go.Proofs
open Tryz RowKit
theorem dh (a b:Array UInt8):(⟨a⟩:ByteArray)++⟨b⟩=⟨a++b⟩:=by
 apply ByteArray.ext;simp
theorem Lj (d:Int)(w:World):Calls prog 276 #[.int .i64 d] w fun e w'=>e=.returned (.string ⟨(Pl.gu d).toArray⟩)∧w=w':=by
 have hm:0<=d%360∧d%360<360:=by omega
 generalize hD:d%360=m at hm
 obtain⟨m0,m1⟩:=hm
 have H:=Lib.hid hD;clear hD
 by_cases h0:m=0
 ·subst h0
  go_enter func276,ntmps276
  go_wp2_with (go_at_call 259;refine(norm_a _ _).mono ?_;rintro e w' ⟨rfl,rfl⟩;rw[H.out])
  go_ret
  exact⟨by unfold Pl.gu;rw[H.out];rfl,rfl⟩
 by_cases QN:m=90
 ·subst QN
  go_enter func276,ntmps276
  go_wp2_with (go_at_call 259;refine(norm_a _ _).mono ?_;rintro e w' ⟨rfl,rfl⟩;rw[H.out])
  go_ret
  exact⟨by unfold Pl.gu;rw[H.out];rfl,rfl⟩
 by_cases QO:m=180
 ·subst QO
  go_enter func276,ntmps276
  go_wp2_with (go_at_call 259;refine(norm_a _ _).mono ?_;rintro e w' ⟨rfl,rfl⟩;rw[H.out])
  go_ret
  exact⟨by unfold Pl.gu;rw[H.out];rfl,rfl⟩
 by_cases QS:m=270
 ·subst QS
  go_enter func276,ntmps276
  go_wp2_with (go_at_call 259;refine(norm_a _ _).mono ?_;rintro e w' ⟨rfl,rfl⟩;rw[H.out])
  go_ret
  exact⟨by unfold Pl.gu;rw[H.out];rfl,rfl⟩
 by_cases q0:m<90
 ·have hl:=Pl.lU (n:=(m).toNat) (by omega)
  go_enter func276,ntmps276
  go_wp2_with (first|(go_at_call 259;refine(norm_a _ _).mono ?_;rintro e w' ⟨rfl,rfl⟩;rw[H.out])|(go_at_call 120;refine(ny _ _ (by omega) (by omega)).mono ?_;rintro e w' ⟨rfl,rfl⟩))
  go_ret
  exact⟨by unfold Pl.gu Pl.nX;rw[H.out];simp (disch:=omega) only[if_pos,if_neg];simp[Pl.wB,Pl.east,dh],rfl⟩
 by_cases q1:m<180
 ·have hl:=Pl.lU (n:=(180-m).toNat) (by omega)
  go_enter func276,ntmps276
  go_wp2_with (first|(go_at_call 259;refine(norm_a _ _).mono ?_;rintro e w' ⟨rfl,rfl⟩;rw[H.out])|(go_at_call 120;refine(ny _ _ (by omega) (by omega)).mono ?_;rintro e w' ⟨rfl,rfl⟩))
  go_ret
  exact⟨by unfold Pl.gu Pl.nX;rw[H.out];simp (disch:=omega) only[if_pos,if_neg];simp[Pl.east,Pl.dH,dh],rfl⟩
 by_cases q2:m<270
 ·have hl:=Pl.lU (n:=(180-(360-m)).toNat) (by omega)
  have hz:Hid (180-(360-m)=m-180):=by unfold Hid;omega
  go_enter func276,ntmps276
  go_wp2_with (first|(go_at_call 259;refine(norm_a _ _).mono ?_;rintro e w' ⟨rfl,rfl⟩;rw[H.out])|(go_at_call 120;refine(ny _ _ (by omega) (by omega)).mono ?_;rintro e w' ⟨rfl,rfl⟩))
  go_ret
  exact⟨by unfold Pl.gu Pl.nX;rw[H.out,hz.out];simp (disch:=omega) only[if_pos,if_neg];simp[Pl.dH,Pl.west,dh],rfl⟩
 ·have hl:=Pl.lU (n:=(360-m).toNat) (by omega)
  go_enter func276,ntmps276
  go_wp2_with (first|(go_at_call 259;refine(norm_a _ _).mono ?_;rintro e w' ⟨rfl,rfl⟩;rw[H.out])|(go_at_call 120;refine(ny _ _ (by omega) (by omega)).mono ?_;rintro e w' ⟨rfl,rfl⟩))
  go_ret
  exact⟨by unfold Pl.gu Pl.nX;rw[H.out];simp (disch:=omega) only[if_neg];simp[Pl.wB,Pl.west,dh],rfl⟩
open RowKit
abbrev xu :List PanicEntry:=[{v:=.iface 315 (.agg #[]),recovered:=false}]
theorem oU (w:World):Calls prog 285 #[.bool true] w fun e w'=>e=.returned (.tuple #[])∧w=w':=by
 go_enter func285,ntmps285
 go_wp2
 go_end0
 exact⟨rfl,rfl⟩
theorem jo (w:World):Calls prog 285 #[.bool false] w fun e w'=>e=.panicked xu∧Below w.heap.size w w':=by
 go_enter func285,ntmps285
 go_wp2
 exact⟨rfl,rfl,by go_grown⟩
theorem vD (bn be:Nat)(x y:Int)(w:World)(hn:w.heap[bn]?=some (.cells #[.int .i64 x] 3 (0,0)))(he:w.heap[be]?=some (.cells #[.int .i64 y] 29 (0,0)))(hne: ¬bn=be):
  CallsD prog 325 #[.pointer (some ⟨bn,0,none⟩),.pointer (some ⟨be,0,none⟩)] (.panicking xu) w fun e u' w'=>
   e=.returned (.tuple #[])∧u'=.panicking [{v:=.iface 315 (.agg #[]),recovered:=true}]∧w'=((w.setCell ⟨bn,0,none⟩ (.int .i64 0)).setCell ⟨be,0,none⟩ (.int .i64 4)).alloc (.cells #[] 315):=by
 obtain⟨hcn,hfn⟩:=ah hn
 obtain⟨hce,hfe⟩:=ah he
 have hbn:=(lO hn)
 have hbe:=(lO he)
 have hne': ¬be=bn:=fun h=>hne h.symm
 have Yb: ∀w:World,(Instr.typeAssert (.iface 315 (.agg #[])) 20 315 true).run prog w=.ok (.tuple #[.agg #[],.bool true]) w:=fun _=>by kernel_rfl
 refine callsD_of_wpS func325 rfl fun c₀ cs hu=> ?_
 apply wpS_seq
 apply wpS_region
 simp[wpOpsS,go_sem,recoverD,hu,ntmps325,Exit.thenS]
 apply wpS_seq
 apply wpS_region
 simp[wpOpsS,go_sem,Exit.thenS]
 refine wpS_cond (t:=true) (by simp[Act.eval,Array.replicate]) ?_
 simp only[if_true]
 refine wpS_of_wp ?_
 rw[show((#[Value.pointer (some ⟨bn,0,none⟩),Value.pointer (some ⟨be,0,none⟩)]++((((Array.replicate 14 undef).setIfInBounds 3 (Value.iface 315 (.agg #[]))).setIfInBounds 0 (Value.iface 315 (.agg #[]))).setIfInBounds 4 (Value.iface 315 (.agg #[]))).setIfInBounds 5 (Value.bool true)):Array Value)=
  #[.pointer (some ⟨bn,0,none⟩),.pointer (some ⟨be,0,none⟩),.iface 315 (.agg #[]),undef,undef,.iface 315 (.agg #[]),.iface 315 (.agg #[]),.bool true,undef,undef,undef,undef,undef,undef,undef,undef] from rfl]
 go_wp2
 exact⟨rfl,_,rfl,_,results_none rfl _ _ _,rfl,rfl,rfl⟩
theorem FY (bn be:Nat)(w:World):
  CallsD prog 325 #[.pointer (some ⟨bn,0,none⟩),.pointer (some ⟨be,0,none⟩)] .returning w fun e u' w'=>e=.returned (.tuple #[])∧u'=.returning∧w'=w:=by
 refine callsD_of_wpS func325 rfl fun c₀ cs hu=> ?_
 apply wpS_seq
 apply wpS_region
 simp[wpOpsS,go_sem,recoverD,hu,ntmps325,Exit.thenS]
 apply wpS_seq
 apply wpS_region
 simp[wpOpsS,go_sem,Exit.thenS]
 refine wpS_cond (t:=false) (by simp[Act.eval,Array.replicate]) ?_
 simp only[Bool.false_eq_true,if_false]
 refine wpS_of_wp (wp_skip ?_)
 cases c₀
 simp_all[bodyPostS,results,results325]
theorem xw (f:FuncId)(cap:Array Value)(n:Int)(w:World)(hen: ∀w,(callFunc f cap).run prog w=.ok (.enter f cap) w)(hdo: ∀W,Below w.heap.size w W->Calls prog f cap W fun e w'=>e=.returned (.int .i64 n)∧Below W.heap.size W w'):
  Calls prog 283 #[.func (.func f) #[] cap] w fun e w'=>e=.returned (.tuple (i2 n 0))∧Below w.heap.size w w':=by
 have Cv: ∀(fn:Fn) (first cap:Array Value) (w:World),(Instr.makeFunc fn first cap).run prog w=.ok (.func fn first cap) w:=fun _ _ _ _=>rfl
 go_enter_defers func283,ntmps283
 go_wp2_with fail
 refine(hdo _ (by go_grown)).mono ?_
 rintro e w1 ⟨rfl,hx⟩
 have hk1:=(hx.block w.heap.size (by simp;omega)).trans (heap_alloc2_old _ _ _)
 have hk2:=(hx.block (w.heap.size+1) (by simp)).trans (heap_alloc2_new _ _ _)
 obtain⟨hc1,hf1⟩:=ah hk1
 obtain⟨hc2,hf2⟩:=ah hk2
 have hb1:=bT (w:=w) hx
 have hsz:=hb1.size
 clear hx
 go_wp2
 refine leaves_cons (f:=325) (args:= #[.pointer (some ⟨w.heap.size,0,none⟩),.pointer (some ⟨w.heap.size+1,0,none⟩)]) (by simp) (by simp[go_sem]) ?_
 refine(FY _ _ _).mono ?_
 rintro e u' w'' ⟨rfl,rfl,rfl⟩
 simp[Leaves,settle,results,results283,go_sem,hc1,hc2]
 go_grown
theorem xA (f:FuncId)(cap:Array Value)(w:World)(hen: ∀w,(callFunc f cap).run prog w=.ok (.enter f cap) w)(hdo: ∀W,Below w.heap.size w W->Calls prog f cap W fun e w'=>e=.panicked xu∧Below W.heap.size W w'):
  Calls prog 283 #[.func (.func f) #[] cap] w fun e w'=>e=.returned (.tuple (i2 0 4))∧Below w.heap.size w w':=by
 have Cv: ∀(fn:Fn) (first cap:Array Value) (w:World),(Instr.makeFunc fn first cap).run prog w=.ok (.func fn first cap) w:=fun _ _ _ _=>rfl
 go_enter_defers func283,ntmps283
 go_wp2_with fail
 refine(hdo _ (by go_grown)).mono ?_
 rintro e w1 ⟨rfl,hx⟩
 have hk1:=(hx.block w.heap.size (by simp;omega)).trans (heap_alloc2_old _ _ _)
 have hk2:=(hx.block (w.heap.size+1) (by simp)).trans (heap_alloc2_new _ _ _)
 obtain⟨hc1,hf1⟩:=ah hk1
 obtain⟨hc2,hf2⟩:=ah hk2
 have hb1:=bT (w:=w) hx
 have hsz:=hb1.size
 clear hx
 go_wp2
 refine leaves_cons (f:=325) (args:= #[.pointer (some ⟨w.heap.size,0,none⟩),.pointer (some ⟨w.heap.size+1,0,none⟩)]) (by simp) (by simp[go_sem]) ?_
 refine(vD _ _ _ _ _ hk1 hk2 (by omega)).mono ?_
 rintro e u' w'' ⟨rfl,rfl,rfl⟩
 have hl1:=(lO hk1)
 have hl2:=(lO hk2)
 simp[Leaves,settle,results,results283,go_sem,hc1,hc2,hl1,hl2]
 go_grown
