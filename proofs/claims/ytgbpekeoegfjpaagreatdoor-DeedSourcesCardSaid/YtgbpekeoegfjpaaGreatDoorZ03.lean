/- Texts of mine, merged: PlU, PlI, PlJ, PlK, Env, DA, A17s, DB. -/
import Derived.Test.YtgbpekeoegfjpaaGreatDoorShelf
import Derived.Test.YtgbpekeoegfjpaaGreatDoorZ00
import Derived.Test.YtgbpekeoegfjpaaGreatDoorZ02
/- Plain law: what the reference reads and writes in units; directions. -/
set_option maxRecDepth 100000
namespace Go.Proofs.YtgbpekeoegfjpaaGreatDoor.Pl
open Go.RowKit
variable (A1 A2 A3 A4 : Option Addr) (c1 c2 c3 c4 : Nat) (f : Pl.Fld)
def numGo (n:Int):List UInt8->Option Int
 | []=>some n
 |c::r=>if c.toNat<48∨57<c.toNat then none else numGo (10*n+c.toNat-48) r
/-! ### Writing, as the reference does -/
/-! ### Directions -/
def bearGo (l:List UInt8):Nat->Nat->Option Int
 |0,_=>none
 |f+1,k=>if quad (k:Int)=l then some (k:Int)else bearGo l f (k+1)
def bearV (s:ByteArray):Option Int:=bearGo s.data.toList 360 0
end Go.Proofs.YtgbpekeoegfjpaaGreatDoor.Pl
/- Plain laws of chapter 03: numbers in words. No program. -/
namespace Go.Proofs.YtgbpekeoegfjpaaGreatDoor.Pl
open Go.RowKit
variable (A1 A2 A3 A4 : Option Addr) (c1 c2 c3 c4 : Nat) (f : Pl.Fld)
theorem spelt_list (k:Int):(spelt k).data.toList=Lib.itoa k:=by unfold spelt;simp
theorem atoi_itoa (v:Int)(h0: -999999999<=v)(h1:v<=999999999):Lib.atoiAll (Lib.itoa v)=.ok v:=by
 by_cases h:v<0
 ·have e:Lib.itoa v=45::Lib.decDigits v.natAbs:=by unfold Lib.itoa;rw[if_pos h]
  rw[e]
  unfold Lib.atoiAll
  simp only[]
  rw[if_pos (by decide)]
  unfold Lib.parseMag
  rw[if_neg (dec_ne _),parse_dec _ (by omega)]
  simp only[]
  rw[if_neg (by simp),if_neg (by omega),if_pos (by decide)]
  congr 1;omega
 ·rw[itoa_pos (by omega),atoi_dec _ (by omega)]
  congr 1;omega
def sgnV (s:ByteArray):Option Int:=
 match Lib.atoiAll s.data.toList with
 | .ok v=>if-999999999<=v∧v<=999999999∧spelt v=s then some v else none
 |_=>none
theorem sgnV_iff {s:ByteArray}{v:Int}:sgnV s=some v↔ -999999999<=v∧v<=999999999∧spelt v=s:=by
 constructor
 ·intro h
  unfold sgnV at h
  split at h
  ·split at h
   ·cases h;assumption
   ·cases h
  ·cases h
 ·rintro⟨h0,h1,rfl⟩
  unfold sgnV
  rw[spelt_list,atoi_itoa v h0 h1]
  simp[h0,h1]
def numF (s:ByteArray):Option Int:=(sgnV s).bind fun v=>if 0<=v then some v else none
def numL (l:List UInt8):Option Int:=if l.length<1∨9<l.length∨(l.head?=some 48∧1<l.length)then none else numGo 0 l
def numR (s:ByteArray):Option Int:=numL s.data.toList
def sgnR (s:ByteArray):Option Int:=
 match s.data.toList with
 |45::b::l=>if b≠48 then (numL (b::l)).map (fun v=> -v)else numL (45::b::l)
 |l=>numL l
end Go.Proofs.YtgbpekeoegfjpaaGreatDoor.Pl
/- Plain laws of chapter 03: what lines of fields and of deeds say. No program. -/
namespace Go.Proofs.YtgbpekeoegfjpaaGreatDoor
variable (A1 A2 A3 A4 : Option Addr) (c1 c2 c3 c4 : Nat) (f : Pl.Fld)
namespace Pl
variable (A1 A2 A3 A4 : Option Addr) (c1 c2 c3 c4 : Nat) (f : Pl.Fld)
def mkB (l:List UInt8):ByteArray:=⟨l.toArray⟩
def wordsB (s:ByteArray):List ByteArray:=(wordsOf s.data.toList).map mkB
def linesB (s:ByteArray):List ByteArray:=(linesOf s.data.toList).map mkB
def wStation :ByteArray:=⟨#[115,116,97,116,105,111,110]⟩
def wLimit :ByteArray:=⟨#[108,105,109,105,116]⟩
def wParcel :ByteArray:=⟨#[112,97,114,99,101,108]⟩
def wVariation :ByteArray:=⟨#[118,97,114,105,97,116,105,111,110]⟩
def wStone :ByteArray:=⟨#[115,116,111,110,101]⟩
def wWidth :ByteArray:=⟨#[119,105,100,116,104]⟩
def wCourse :ByteArray:=⟨#[99,111,117,114,115,101]⟩
def wAlong :ByteArray:=⟨#[97,108,111,110,103]⟩
def wLevel :ByteArray:=⟨#[108,101,118,101,108]⟩
def wBy :ByteArray:=⟨#[98,121]⟩
def wGive :ByteArray:=⟨#[103,105,118,101]⟩
def wWear :ByteArray:=⟨#[119,101,97,114]⟩
def wSlack :ByteArray:=⟨#[115,108,97,99,107]⟩
def wDeed :ByteArray:=⟨#[100,101,101,100]⟩
def idx {α:Type}(p:α->Bool):List α->Option Nat
 | []=>none
 |a::l=>if p a then some 0 else (idx p l).map (·+1)
theorem idx_lt {α:Type}{p:α->Bool}{l:List α}{i:Nat}(h:idx p l=some i):i<l.length:=by
 induction l generalizing i with
 |nil=>cases h
 | cons a l ih=>
  unfold idx at h
  split at h
  ·cases h;simp
  ·obtain⟨j,hj,rfl⟩:=Option.map_eq_some_iff.1 h
   have:=ih hj
   simp;omega
def Fld.none :Fld:=⟨[],[],[],[]⟩
inductive Item where
 |station (n:ByteArray) (x:Int)
 |limit (n:ByteArray)
 |parcel (n s f t:ByteArray)
 |variation (y e:Int)
def item :List ByteArray->Option Item
 | [k,a]=>if k=wLimit∧isName a=true then some (.limit a)else Option.none
 | [k,a,b]=>
  if k=wStation then (if isName a=true then (numF b).map (Item.station a)else Option.none)
  else if k=wVariation then (numF a).bind fun y=>(sgnV b).map (Item.variation y)
  else Option.none
 | [k,a,b,c,d]=>if k=wParcel∧isName a=true∧isName b=true∧isName c=true∧isName d=true then some (.parcel a b c d)else Option.none
 |_=>Option.none
def added (f:Fld):Item->Except Int Fld
 | .station n x=> .ok {f with st:=f.st++[(n,x)]}
 | .limit n=> .ok {f with li:=f.li++[n]}
 | .parcel n s a b=>
  match idx (fun x=>decide (x=s)) f.li,idx (fun x=>decide (x.1=a)) f.st,idx (fun x=>decide (x.1=b)) f.st with
  |some i,some j,some k=>if i+1<f.li.length then .ok {f with pa:=f.pa++[⟨n,i,j,k⟩]} else .error 1
  |_,_,_=> .error 5
 | .variation y e=> .ok {f with va:=f.va++[(y,e)]}
def fieldLine (f:Fld)(w:List ByteArray):Except Int Fld:=match item w with
 |some x=>added f x
 |Option.none=> .error 4
def fieldGo (f:Fld)(n:Nat):List (List ByteArray)->Fld×Int×Int
 | []=>if fieldE f=0 then (f,0,0)else (Fld.none,fieldE f,0)
 |w::l=>if w=[]then fieldGo f (n+1) l else match fieldLine f w with
  | .ok f'=>fieldGo f' (n+1) l
  | .error e=>(Fld.none,e,(n:Int)+1)
def parseField (s:ByteArray):Fld×Int×Int:=if 20000<s.size then (Fld.none,2,0)else fieldGo Fld.none 0 ((linesB s).map wordsB)
structure Frm where
 kind:Nat
 lim:ByteArray
 oth:ByteArray
 fr:ByteArray
 till:ByteArray
 size:Int
 er:Int
 crs:Crs
def linksV (s:ByteArray):Option Int:=(readV poles lengthV s).bind fun n=>if 1<=n∧n<=100000 then some n else Option.none
def joinB (l:List ByteArray):ByteArray:=mkB (Lib.join (l.map (·.data.toList)) [32])
def upTo (k:ByteArray)(most:Nat)(l:List ByteArray):Option (ByteArray×List ByteArray):=
 (idx (fun x=>decide (x=k)) l).bind fun n=>if 1<=n∧n<=most then some (joinB (l.take n),l.drop (n+1))else Option.none
def crsW (w:List ByteArray):Option Crs:=
 (upTo wBy 6 w).bind fun(a,r)=>(linksV a).bind fun n=>(upTo wGive 3 r).bind fun(b,q)=>(bearV b).bind fun d=>
  match q with
  | [ne,we,x,sl,s]=>if we=wWear∧sl=wSlack then (numF ne).bind fun ne=>(sgnV x).bind fun x=>(numF s).map fun s=>⟨d,ne,n,0,x,s⟩else Option.none
  |_=>Option.none
def form :List ByteArray->Option Frm
 | k::r=>
  if k=wStone then match r with
   | [l,f,s,e]=>if isName l=true∧isName f=true then (numF s).bind fun s=>(numF e).map fun e=>⟨1,l,⟨#[]⟩,f,⟨#[]⟩,s,e,Crs.zero⟩else Option.none
   |_=>Option.none
  else if k=wWidth then match r with
   | [l,o,f,s,e]=>if isName l=true∧isName o=true∧isName f=true then (numF s).bind fun s=>(numF e).map fun e=>⟨2,l,o,f,⟨#[]⟩,s,e,Crs.zero⟩else Option.none
   |_=>Option.none
  else if k=wCourse then match r with
   |l::f::t::w=>if isName l=true∧isName f=true∧isName t=true then (crsW w).map fun c=>⟨3,l,⟨#[]⟩,f,t,0,0,c⟩else Option.none
   |_=>Option.none
  else if k=wAlong then match r with
   | [l,o,f,t]=>if isName l=true∧isName o=true∧isName f=true∧isName t=true then some ⟨4,l,o,f,t,0,0,Crs.zero⟩else Option.none
   |_=>Option.none
  else if k=wLevel then match r with
   | [l,f,t,s,e]=>if isName l=true∧isName f=true∧isName t=true then (sgnV s).bind fun s=>(numF e).map fun e=>⟨5,l,⟨#[]⟩,f,t,s,e,Crs.zero⟩else Option.none
   |_=>Option.none
  else Option.none
 | []=>Option.none
def limOf (f:Fld)(n:ByteArray):Option Nat:=idx (fun x=>decide (x=n)) f.li
def staOf (f:Fld)(n:ByteArray):Option Nat:=idx (fun x=>decide (x.1=n)) f.st
def looked (f:Fld)(x:Frm)(year:Int):Option Cal:=
 (limOf f x.lim).bind fun l=>(if x.kind=2∨x.kind=4 then limOf f x.oth else some 0).bind fun o=>(staOf f x.fr).bind fun s=>
  (if x.kind=3∨x.kind=4∨x.kind=5 then staOf f x.till else some 0).map fun t=>⟨x.kind,l,o,s,t,x.size,x.er,if x.kind=3 then {x.crs with y:=year} else Crs.zero⟩
noncomputable def madeC (f:Fld)(x:Frm)(year:Int):Except Int Cal:=match looked f x year with
 |some c=>if callE f c=0 then .ok c else .error (callE f c)
 |Option.none=> .error 5
structure Ded where
 name:ByteArray
 year:Int
 rank:Int
 calls:List Cal
noncomputable def deedLine (f:Fld)(all:List Ded)(w:List ByteArray):Except Int (List Ded):=
 if w.head?=some wDeed then match w with
  | [_,n,y,r]=>match (if isName n=true then (numF y).bind fun y=>(numF r).map fun r=>(y,r)else Option.none)with
   |some (y,r)=>if 60<=all.length then .error 2 else if ¬(1<=y∧y<=3000∧0<=r∧r<=1000)then .error 1 else if all.any (fun d=>decide (d.name=n))=true then .error 6 else .ok (all++[⟨n,y,r,[]⟩])
   |Option.none=> .error 4
  |_=> .error 4
 else match form w with
  |Option.none=> .error 4
  | some x=>match all.getLast? with
   |Option.none=> .error 4
   |some d=>if 20<=d.calls.length then .error 2 else match madeC f x d.year with
    | .error e=> .error e
    | .ok c=> .ok (all.dropLast++[{d with calls:=d.calls++[c]}])
noncomputable def deedsGo (f:Fld)(all:List Ded)(n:Nat):List (List ByteArray)->List Ded×Int×Int
 | []=>(all,0,0)
 |w::l=>if w=[]then deedsGo f all (n+1) l else match deedLine f all w with
  | .ok a=>deedsGo f a (n+1) l
  | .error e=>([],e,(n:Int)+1)
noncomputable def parseDeeds (f:Fld)(s:ByteArray):List Ded×Int×Int:=
 if fieldE f≠0 then ([],fieldE f,0)else if 20000<s.size then ([],2,0)else deedsGo f [] 0 ((linesB s).map wordsB)
noncomputable def readCall (f:Fld)(s:ByteArray)(year:Int):Except Int Cal:=
 if fieldE f≠0 then .error (fieldE f)else if ¬(1<=year∧year<=3000)then .error 1 else if (10:UInt8)∈s.data.toList then .error 4 else match form (wordsB s)with
  |Option.none=> .error 4
  |some x=>madeC f x year
end Pl
end Go.Proofs.YtgbpekeoegfjpaaGreatDoor
/- Plain laws of chapter 03: names, repetitions, as loops find them. No program. -/
namespace Go.Proofs.YtgbpekeoegfjpaaGreatDoor
variable (A1 A2 A3 A4 : Option Addr) (c1 c2 c3 c4 : Nat) (f : Pl.Fld)
namespace Pl
variable (A1 A2 A3 A4 : Option Addr) (c1 c2 c3 c4 : Nat) (f : Pl.Fld)
theorem list_size (s:ByteArray):s.data.toList.length=s.size:=by rw[Array.length_toList];rfl
theorem list_get (s:ByteArray)(k:Nat)(h:k<s.size):s.data.toList[k]'(by rw[list_size];exact h)=s[k]:=rfl
theorem isName_short {s:ByteArray}(h:s.size<1∨24<s.size):isName s=false:=by
 have:=list_size s
 unfold isName
 split
 ·rfl
 ·rename_i b l hl
  rw[hl,List.length_cons]at this
  have: ¬l.length<24:=by omega
  simp[this]
theorem isName_first {s:ByteArray}(h:0<s.size)(hb: ¬(97<=s[0].toNat∧s[0].toNat<=122)):isName s=false:=by
 have hg:=list_get s 0 h
 unfold isName
 split
 ·rfl
 ·rename_i b l hl
  simp only[hl,List.getElem_cons_zero]at hg
  subst hg
  by_cases h1:97<=s[0].toNat
  ·have: ¬s[0].toNat<=122:=fun h2=>hb ⟨h1,h2⟩
   simp[this]
  ·simp[h1]
theorem nameC_letter {b:UInt8}(h:97<=b.toNat∧b.toNat<=122):nameC b=true:=by unfold nameC;simp[h.1,h.2]
theorem isName_bad {s:ByteArray}{k:Nat}(hk:k<s.size)(h:nameC s[k]=false):isName s=false:=by
 have hg:=list_get s k hk
 have hn:=list_size s
 unfold isName
 split
 ·rfl
 ·rename_i b l hl
  simp only[hl]at hg
  rw[hl,List.length_cons]at hn
  cases k with
  | zero=>
   simp only[List.getElem_cons_zero]at hg
   rw[<-hg]at h
   have: ¬(97<=b.toNat∧b.toNat<=122):=fun h2=>by rw[nameC_letter h2]at h;cases h
   by_cases h1:97<=b.toNat
   ·have: ¬b.toNat<=122:=fun h2=>this ⟨h1,h2⟩
    simp[this]
   ·simp[h1]
  | succ k=>
   simp only[List.getElem_cons_succ]at hg
   have hm:s[k+1]∈l:=by rw[<-hg];exact List.getElem_mem _
   have:l.all nameC=false:=by
    cases e:l.all nameC with
    |false=>rfl
    |true=>rw[List.all_eq_true.1 e _ hm]at h;cases h
   simp[this]
theorem isName_good {s:ByteArray}(h1:1<=s.size)(h2:s.size<=24)(hb:97<=s[0].toNat∧s[0].toNat<=122)(ha: ∀k (h:k<s.size),nameC s[k]=true):isName s=true:=by
 have hn:=list_size s
 have hg:=list_get s 0 h1
 unfold isName
 split
 ·rename_i hl;rw[hl]at hn;simp at hn;omega
 ·rename_i b l hl
  simp only[hl,List.getElem_cons_zero]at hg
  subst hg
  rw[hl,List.length_cons]at hn
  have hall:l.all nameC=true:=List.all_eq_true.2 fun x hx=>by
   obtain⟨j,hj,rfl⟩:=List.getElem_of_mem hx
   have:=ha (j+1) (by omega)
   have hg2:=list_get s (j+1) (by omega)
   simp only[hl,List.getElem_cons_succ]at hg2
   rw[hg2];exact this
  have:l.length<24:=by omega
  simp[hb.1,hb.2,this,hall]
theorem nameC_iff (b:UInt8):nameC b=true↔((97<=b.toNat∧b.toNat<=122)∨(48<=b.toNat∧b.toNat<=57)∨b.toNat=45):=by
 unfold nameC
 have:b=45↔b.toNat=45:=⟨fun h=>by rw[h];rfl,fun h=>UInt8.toNat_inj.1 h⟩
 simp only[Bool.or_eq_true,Bool.and_eq_true,decide_eq_true_eq,beq_iff_eq,this,or_assoc]
theorem isName_size {s:ByteArray}(h:isName s=true):1<=s.size∧s.size<=24:=by
 rcases Nat.lt_or_ge s.size 1 with h1|h1
 ·rw[isName_short (.inl h1)]at h;cases h
 ·rcases Nat.lt_or_ge 24 s.size with h2|h2
  ·rw[isName_short (.inr h2)]at h;cases h
  ·exact⟨h1,h2⟩
theorem twice_hit {α:Type}[DecidableEq α]{l:List α}{k:Nat}(hk:k<l.length)(h:l[k]∈l.take k):twice l=true:=by
 cases e:twice l with
 |true=>rfl
 |false=>
  exfalso
  have hn:=(twice_iff l).1 e
  obtain⟨j,hj,hjk⟩:=List.mem_iff_getElem.1 h
  have hj2:=hj
  rw[List.length_take]at hj2
  rw[List.getElem_take]at hjk
  exact List.pairwise_iff_getElem.1 hn j k (by omega) hk (by omega) hjk
theorem twice_none {α:Type}[DecidableEq α]{l:List α}(h: ∀k (hk:k<l.length),l[k]∉l.take k):twice l=false:=by
 refine(twice_iff l).2 ?_
 rw[List.nodup_iff_pairwise_ne,List.pairwise_iff_getElem]
 intro i j hi hj hij he
 exact h j hj (List.mem_iff_getElem.2 ⟨i,by rw[List.length_take];omega,by rw[List.getElem_take];exact he⟩)
def pos (o:Option Nat):Int:=match o with|some i=>(i:Int)|none=> -1
theorem idx_hit {α:Type}{p:α->Bool}{l:List α}{k:Nat}(hk:k<l.length)(h: ∀j (hj:j<k),p (l[j]'(by omega))=false)(hp:p l[k]=true):idx p l=some k:=by
 induction l generalizing k with
 |nil=>simp at hk
 | cons a l ih=>
  unfold idx
  cases k with
  |zero=>simp only[List.getElem_cons_zero]at hp;simp[hp]
  |succ k=>
   have h0:=h 0 (by omega)
   simp only[List.getElem_cons_zero]at h0
   simp only[h0,Bool.false_eq_true,if_false]
   rw[ih (k:=k) (by simpa using hk) (fun j hj=>by have:=h (j+1) (by omega);simpa using this) (by simpa using hp)]
   rfl
theorem idx_none {α:Type}{p:α->Bool}{l:List α}(h: ∀j (hj:j<l.length),p l[j]=false):idx p l=none:=by
 induction l with
 |nil=>rfl
 |cons a l ih=>
  unfold idx
  have h0:=h 0 (by simp)
  simp only[List.getElem_cons_zero]at h0
  simp only[h0,Bool.false_eq_true,if_false]
  rw[ih (fun j hj=>by have:=h (j+1) (by simpa using hj);simpa using this)]
  rfl
theorem idx_any {α:Type}(p:α->Bool)(l:List α):(idx p l).isSome=l.any p:=by
 induction l with
 |nil=>rfl
 |cons a l ih=>
  unfold idx
  cases h:p a
  ·simp[h,ih]
  ·simp[h]
theorem pos_ge {o:Option Nat}:decide (0<=pos o)=o.isSome:=by
 cases o with
 |none=>rfl
 |some i=>simp[pos]
end Pl
end Go.Proofs.YtgbpekeoegfjpaaGreatDoor
/- What the library's variables hold, as the walks ask it; and the library's functions in the walks' own words. -/
namespace Go.Proofs.YtgbpekeoegfjpaaGreatDoor
open Go.RowKit
variable (A1 A2 A3 A4 : Option Addr) (c1 c2 c3 c4 : Nat) (f : Pl.Fld)
structure Env (w:World):Prop where
 tab:Lib.TabIs Tryz.prog w "internal/strconv.uint64pow10" .u64 Lib.pow10Tab
 maxLen: ∃m:Int,w.cell? ⟨0,0,none⟩=some (.int .i64 m)
 syn: ∃te pe,w.cell? ⟨4,0,none⟩=some (.iface te pe)
 rng: ∃te pe,w.cell? ⟨5,0,none⟩=some (.iface te pe)
 size:8<=w.heap.size
theorem Env.below {w w':World}{B:Nat}(h:Env w)(hb:Below B w w')(hB:8<=B):Env w':=by
 obtain⟨h1,⟨m,h2⟩,⟨te,pe,h3⟩,⟨tf,pf,h4⟩,h5⟩:=h
 exact⟨var?_below hb (g:=1) (by kernel_rfl) (by omega) h1,⟨m,(hb.cell (p:=⟨0,0,none⟩) (show 0<B by omega)).trans h2⟩,⟨te,pe,(hb.cell (p:=⟨4,0,none⟩) (show 4<B by omega)).trans h3⟩,
  ⟨tf,pf,(hb.cell (p:=⟨5,0,none⟩) (show 5<B by omega)).trans h4⟩,Nat.le_trans h5 hb.size⟩
theorem Env.up {w w':World}(h:Env w)(hb:Below w.heap.size w w'):Env w':=h.below hb h.size
theorem below_grow (w:World)(k:Nat)(os:Array Obj):Below w.heap.size w (Sort.grow (w.drewN k) os):=
 ⟨rfl,rfl,rfl,by simp[Sort.grow,World.drewN],fun i hi=>by
  show(w.heap++os)[i]?=_
  rw[Array.getElem?_append_left hi]⟩
theorem itoa_lib (n:Int)(w:World)(hE:Env w)(h0: -9223372036854775808<=n)(h1:n<=9223372036854775807):
  Calls Tryz.prog 120 #[.int .i64 n] w fun e w'=>e=.returned (.string ⟨(Lib.itoa n).toArray⟩)∧Below w.heap.size w w':=
 (Tryz.strconv_Itoa n h0 h1 w hE.tab).mono fun _ _ ⟨he,k,os,hw⟩=>⟨he,by rw[hw];exact below_grow w k os⟩
theorem itoa_small (n:Int)(w:World)(h0:0<=n)(h1:n<100):
  Calls Tryz.prog 120 #[.int .i64 n] w fun e w'=>e=.returned (.string ⟨(Lib.decDigits n.toNat).toArray⟩)∧w=w':=by
 obtain⟨m,rfl⟩:=Int.eq_ofNat_of_zero_le h0
 exact(Tryz.strconv_Itoa_small m (by omega) w).mono fun _ _ ⟨he,hw⟩=>⟨he,hw.symm⟩
end Go.Proofs.YtgbpekeoegfjpaaGreatDoor
/- Walks of chapter 03: the small functions. -/
namespace Go.Proofs.YtgbpekeoegfjpaaGreatDoor
open Go.RowKit
variable (A1 A2 A3 A4 : Option Addr) (c1 c2 c3 c4 : Nat) (f : Pl.Fld)
def encNm (b:ByteArray):List Value:=[.string b]
abbrev Nms := @Seg ByteArray encNm 1
def encSta (p:ByteArray×Int):List Value:=[.string p.1,.int .i64 p.2]
abbrev Stas := @Seg (ByteArray×Int) encSta 2
def encPar (p:Pl.Par):List Value:=[.string p.name,.int .i64 p.south,.int .i64 p.fr,.int .i64 p.till]
abbrev Pars := @Seg Pl.Par encPar 4
theorem Nms.at1 {w:World}{B:Nat}{A:Option Addr}{l:List ByteArray}(h:Nms w B A l){k:Nat}(hk:k<l.length):
  ∃b off,A=some ⟨b,off,none⟩∧b<B∧w.cell? ⟨b,off+k,none⟩=some (.string l[k]):=by
 obtain⟨b,off,hA,hb,hc⟩:=Seg.at_ h hk
 exact⟨b,off,hA,hb,by have:=hc 0 _ rfl;simpa using this⟩
theorem Stas.at2 {w:World}{B:Nat}{A:Option Addr}{l:List (ByteArray×Int)}(h:Stas w B A l){k:Nat}(hk:k<l.length):
  ∃b off,A=some ⟨b,off,none⟩∧b<B∧w.cell? ⟨b,off+k*2,none⟩=some (.string l[k].1)∧w.cell? ⟨b,off+k*2+1,none⟩=some (.int .i64 l[k].2):=by
 obtain⟨b,off,hA,hb,hc⟩:=Seg.at_ h hk
 exact⟨b,off,hA,hb,hc 0 _ rfl,hc 1 _ rfl⟩
theorem Pars.at4 {w:World}{B:Nat}{A:Option Addr}{l:List Pl.Par}(h:Pars w B A l){k:Nat}(hk:k<l.length):
  ∃b off,A=some ⟨b,off,none⟩∧b<B∧w.cell? ⟨b,off+k*4,none⟩=some (.string l[k].name)∧w.cell? ⟨b,off+k*4+1,none⟩=some (.int .i64 l[k].south)∧
   w.cell? ⟨b,off+k*4+2,none⟩=some (.int .i64 l[k].fr)∧w.cell? ⟨b,off+k*4+3,none⟩=some (.int .i64 l[k].till):=by
 obtain⟨b,off,hA,hb,hc⟩:=Seg.at_ h hk
 exact⟨b,off,hA,hb,hc 0 _ rfl,hc 1 _ rfl,hc 2 _ rfl,hc 3 _ rfl⟩
structure FldS (w:World)(B:Nat)(A1 A2 A3 A4:Option Addr)(f:Pl.Fld):Prop where
 st:Stas w B A1 f.st
 li:Nms w B A2 f.li
 pa:Pars w B A3 f.pa
 va:Vars w B A4 f.va
theorem FldS.up {w w':World}{A1 A2 A3 A4:Option Addr}{f:Pl.Fld}(h:FldS w w.heap.size A1 A2 A3 A4 f)(hb:Below w.heap.size w w'):FldS w' w'.heap.size A1 A2 A3 A4 f:=
 ⟨h.st.up hb,h.li.up hb,h.pa.up hb,h.va.up hb⟩
structure Small (f:Pl.Fld):Prop where
 st:f.st.length<=100000
 li:f.li.length<=100000
 pa:f.pa.length<=100000
 va:f.va.length<=100000
 sn: ∀s∈f.st,s.1.size<=100000
 ln: ∀s∈f.li,s.size<=100000
 pn: ∀p∈f.pa,p.name.size<=100000
theorem inD_a (x a b:Int)(w:World):
  Calls Tryz.prog 84 (i3 x a b) w fun e w'=>e=.returned (.bool (Pl.inB x a b))∧w=w':=by
 go_enter Tryz.func84,Tryz.ntmps84
 go_wp2
 all_goals go_ret
 all_goals exact⟨ret_bool (by grind [Pl.inB]),rfl⟩
theorem within_b (x a b:Int)(w:World):
  Calls Tryz.prog 102 (i3 x a b) w fun e w'=>e=.returned (.bool (Pl.inB x a b))∧w=w':=by
 go_enter Tryz.func102,Tryz.ntmps102
 go_wp2
 all_goals go_ret
 all_goals exact⟨ret_bool (by grind [Pl.inB]),rfl⟩
theorem dated_a (y r:Int)(w:World):
  Calls Tryz.prog 160 (i2 y r) w fun e w'=>e=.returned (.bool (Pl.inB y 1 3000&&Pl.inB r 0 1000))∧w=w':=by
 cases h:Pl.inB y 1 3000
 all_goals
  go_enter Tryz.func160,Tryz.ntmps160
  go_wp2_with (go_at_call 84;refine(inD_a _ _ _ _).mono ?_;rintro e w' ⟨rfl,rfl⟩)
  go_ret
  exact⟨rfl,rfl⟩
theorem comD_a (p q:Pl.Par)(w:World)(h0: -1000000<=p.fr)(h1:p.fr<=1000000)(h2: -1000000<=p.till)(h3:p.till<=1000000)(k0: -1000000<=q.fr)(k1:q.fr<=1000000)(k2: -1000000<=q.till)(k3:q.till<=1000000):
  Calls Tryz.prog 86 #[.agg #[.string p.name,.int .i64 p.south,.int .i64 p.fr,.int .i64 p.till],.agg #[.string q.name,.int .i64 q.south,.int .i64 q.fr,.int .i64 q.till]] w fun e w'=>e=.returned (.int .i64 (Pl.com2 p q))∧Below w.heap.size w w':=by
 obtain⟨pn,ps,pf,pt⟩:=p
 obtain⟨qn,qs,qf,qt⟩:=q
 simp only at h0 h1 h2 h3 k0 k1 k2 k3
 go_enter Tryz.func86,Tryz.ntmps86
 go_wp2
 all_goals go_ret
 all_goals exact⟨ret_int (by simp only[Pl.com2];try omega),by go_grown⟩
theorem comD_b (p q:Pl.Par)(w:World)(h0: -1000000<=p.fr)(h1:p.fr<=1000000)(h2: -1000000<=p.till)(h3:p.till<=1000000)(k0: -1000000<=q.fr)(k1:q.fr<=1000000)(k2: -1000000<=q.till)(k3:q.till<=1000000):
  Calls Tryz.prog 127 #[.agg #[.string p.name,.int .i64 p.south,.int .i64 p.fr,.int .i64 p.till],.agg #[.string q.name,.int .i64 q.south,.int .i64 q.fr,.int .i64 q.till]] w fun e w'=>e=.returned (.int .i64 (max 0 (Pl.com2 p q+1)))∧Below w.heap.size w w':=by
 obtain⟨pn,ps,pf,pt⟩:=p
 obtain⟨qn,qs,qf,qt⟩:=q
 simp only at h0 h1 h2 h3 k0 k1 k2 k3
 go_enter Tryz.func127,Tryz.ntmps127
 go_wp2
 all_goals go_ret
 all_goals exact⟨ret_int (by simp only[Pl.com2];try omega),by go_grown⟩
theorem mul_bd {l S:Int}(h0:0<=l)(h1:l<=1000)(h2:0<=S)(h3:S<=100000):0<=l*S∧l*S<=100000000:=
 ⟨Int.mul_nonneg h0 h2,Int.le_trans (Int.mul_le_mul h1 h3 h2 (by omega)) (by decide)⟩
theorem point_a (l s:Int)(w:World)(h0:0<=l)(h1:l<=1000)(h2:f.st.length<=100000)(h3:0<=s)(h4:s<=100000):
  Calls Tryz.prog 110 #[.agg (fq A1 A2 A3 A4 c1 c2 c3 c4 f),.int .i64 l,.int .i64 s] w fun e w'=>e=.returned (.int .i64 (1+l*f.st.length+s))∧Below w.heap.size w w':=by
 obtain⟨m0,m1⟩:=mul_bd (S:=(f.st.length:Int)) h0 h1 (by omega) (by omega)
 go_enter Tryz.func110,Tryz.ntmps110
 go_wp2
 all_goals go_ret
 all_goals exact⟨rfl,by go_grown⟩
theorem point_b (l s:Int)(w:World)(h0:0<=l)(h1:l<=1000)(h2:f.st.length<=100000)(h3:0<=s)(h4:s<=100000):
  Calls Tryz.prog 111 #[.agg (fq A1 A2 A3 A4 c1 c2 c3 c4 f),.int .i64 l,.int .i64 s] w fun e w'=>e=.returned (.int .i64 (1+l*f.st.length+s))∧Below w.heap.size w w':=by
 obtain⟨m0,m1⟩:=mul_bd (S:=(f.st.length:Int)) h0 h1 (by omega) (by omega)
 go_enter Tryz.func111,Tryz.ntmps111
 go_wp2
 all_goals go_ret
 all_goals exact⟨rfl,by go_grown⟩
theorem points_a (w:World)(h1:f.li.length<=1000)(h2:f.st.length<=100000):
  Calls Tryz.prog 106 #[.agg (fq A1 A2 A3 A4 c1 c2 c3 c4 f)] w fun e w'=>e=.returned (.int .i64 (1+(f.li.length:Int)*f.st.length))∧Below w.heap.size w w':=by
 obtain⟨m0,m1⟩:=mul_bd (l:=(f.li.length:Int)) (S:=(f.st.length:Int)) (by omega) (by omega) (by omega) (by omega)
 go_enter Tryz.func106,Tryz.ntmps106
 go_wp2
 all_goals go_ret
 all_goals exact⟨rfl,by go_grown⟩
theorem isCorner_b (l s:Int)(w:World)(h1:f.li.length<=100000)(h2:f.st.length<=100000):
  Calls Tryz.prog 126 #[.agg (fq A1 A2 A3 A4 c1 c2 c3 c4 f),.int .i64 l,.int .i64 s] w fun e w'=>e=.returned (.bool (Pl.inB l 0 ((f.li.length:Int)-1)&&Pl.inB s 0 ((f.st.length:Int)-1)))∧Below w.heap.size w w':=by
 cases h:Pl.inB l 0 ((f.li.length:Int)-1)
 all_goals
  go_enter Tryz.func126,Tryz.ntmps126
  go_wp2_with (go_at_call 102;refine(within_b _ _ _ _).mono ?_;rintro e w' ⟨rfl,rfl⟩)
  go_ret
  exact⟨rfl,by go_grown⟩
end Go.Proofs.YtgbpekeoegfjpaaGreatDoor
/- Small laws on strings and lists, for the walks. -/
namespace Go.Proofs.YtgbpekeoegfjpaaGreatDoor
open Go.RowKit
variable (A1 A2 A3 A4 : Option Addr) (c1 c2 c3 c4 : Nat) (f : Pl.Fld)
theorem str_same (a b:ByteArray):(a.toList==b.toList)=decide (a=b):=by
 rw[ByteArray.toList_eq,ByteArray.toList_eq]
 by_cases h:a=b
 ·subst h;simp
 ·have: ¬a.data.toList=b.data.toList:=fun e=>h (by cases a;cases b;simp only at e;have:=Array.toList_inj.1 e;subst this;rfl)
  rw[decide_eq_false h]
  exact beq_false_of_ne this
theorem seg_take {α:Type}{enc:α->List Value}{size:Nat}{w:World}{B:Nat}{A:Option Addr}{l:List α}(h:Seg enc size w B A l)(k:Nat):Seg enc size w B A (l.take k):=by
 rcases h with h|⟨b,off,hA,hb,hc⟩
 ·exact .inl (by rw[h];simp)
 ·refine .inr ⟨b,off,hA,hb,fun j x hx=>hc j x ?_⟩
  rw[List.getElem?_take]at hx
  split at hx
  ·exact hx
  ·cases hx
end Go.Proofs.YtgbpekeoegfjpaaGreatDoor
/- Walks of chapter 03: names; where a string is in a list. -/
namespace Go.Proofs.YtgbpekeoegfjpaaGreatDoor
open Go.RowKit
variable (A1 A2 A3 A4 : Option Addr) (c1 c2 c3 c4 : Nat) (f : Pl.Fld)
set_option maxHeartbeats 1000000 in
theorem isName_a (s:ByteArray) (w:World) (hs:s.size<=100000):Calls Tryz.prog 82 #[.string s] w fun e w'=>e=.returned (.bool (Pl.isName s))∧w=w':=by
  by_cases hz:s.size<1∨24<s.size
  · have hv:=Lib.hid (Pl.isName_short hz)
    have hin:Pl.inB (s.size:Int) 1 24=false:=by unfold Pl.inB;rcases hz with h|h<;>simp<;>omega
    clear hz
    go_enter Tryz.func82,Tryz.ntmps82
    go_wp2_with (go_at_call 84;refine(inD_a _ _ _ _).mono ?_;rintro e w' ⟨rfl,rfl⟩)
    go_ret
    exact⟨by rw[hv.out];try rfl,rfl⟩
  · have z1 : 1<=s.size:=by omega
    have z2:s.size<=24:=by omega
    have hin:Pl.inB (s.size:Int) 1 24=true:=by unfold Pl.inB;simp;omega
    have hu:s[0].toNat<=255:=by have:=s[0].toNat_lt;omega
    clear hz
    by_cases hb:97<=s[0].toNat∧s[0].toNat<=122
    · obtain ⟨b0,b1⟩:=hb
      go_enter Tryz.func82,Tryz.ntmps82
      go_wp2_with (go_at_call 84;refine(inD_a _ _ _ _).mono ?_;rintro e w' ⟨rfl,rfl⟩)
      go_loop [21] (fun i=> ∃(k:Nat),k<=s.size∧i=.int .i64 k∧Hid (∀j (h:j<s.size),j<k->Pl.nameC s[j]=true)) (fun i=>s.size-(intOf i).toNat)
      case atStart=>exact⟨0,by omega,rfl,Lib.hid fun j _ h=>by omega⟩
      case round =>
        obtain⟨k,hk,rfl,hg⟩:=hrel
        by_cases hlt:k<s.size
        · have hu:s[k].toNat<=255:=by have:=s[k].toNat_lt;omega
          by_cases hc:(97<=s[k].toNat∧s[k].toNat<=122)∨(48<=s[k].toNat∧s[k].toNat<=57)∨s[k].toNat=45
          · have hn:=Lib.hid ((Pl.nameC_iff s[k]).2 hc)
            go_wp2
            all_goals first
              |(exfalso;omega)
              | (go_round
                 case rel=>exact⟨k+1,by omega,by go_num,Lib.hid fun j h hj=>by
                   by_cases e:j=k
                   ·subst e;exact hn.out
                   ·exact hg.out j h (by omega)⟩
                 case measure=>first|(simp[intOf];done)|(simp[intOf];omega))
          · have hn:Pl.nameC s[k]=false:=by
              cases e:Pl.nameC s[k]with
              |false=>rfl
              |true=>exact absurd ((Pl.nameC_iff s[k]).1 e) hc
            have hv:=Lib.hid (Pl.isName_bad hlt hn)
            have h45:((s[k].toNat:Int) !=45)=true:=by simp;omega
            clear hn
            go_wp2
            all_goals first
              |(exfalso;omega)
              |(go_ret;exact⟨by rw[hv.out];try rfl,rfl⟩)
        · have hv:=Lib.hid (Pl.isName_good z1 z2 ⟨b0,b1⟩ fun j h=>hg.out j h (by omega))
          go_wp2
          go_ret
          exact⟨by rw[hv.out];try rfl,rfl⟩
    · have hv:=Lib.hid (Pl.isName_first z1 hb)
      go_enter Tryz.func82,Tryz.ntmps82
      go_wp2_with (go_at_call 84;refine(inD_a _ _ _ _).mono ?_;rintro e w' ⟨rfl,rfl⟩)
      all_goals first
        |(exfalso;omega)
        |(go_ret;exact⟨by rw[hv.out];try rfl,rfl⟩)
set_option maxHeartbeats 1000000 in
theorem isName_b (s:ByteArray) (w:World) (hs:s.size<=100000):Calls Tryz.prog 114 #[.string s] w fun e w'=>e=.returned (.bool (Pl.isName s))∧w=w':=by
  by_cases hz:s.size<1∨24<s.size
  · have hv:=Lib.hid (Pl.isName_short hz)
    go_enter Tryz.func114,Tryz.ntmps114
    go_wp2
    all_goals first
      |(exfalso;omega)
      |(go_ret;exact⟨by rw[hv.out];try rfl,rfl⟩)
  · have z1 : 1<=s.size:=by omega
    have z2:s.size<=24:=by omega
    have hu:s[0].toNat<=255:=by have:=s[0].toNat_lt;omega
    clear hz
    by_cases hb:97<=s[0].toNat∧s[0].toNat<=122
    · obtain ⟨b0,b1⟩:=hb
      go_enter Tryz.func114,Tryz.ntmps114
      go_wp2
      go_loop [3] (fun i=> ∃(k:Nat),k<=s.size∧i=.int .i64 k∧Hid (∀j (h:j<s.size),j<k->Pl.nameC s[j]=true)) (fun i=>s.size-(intOf i).toNat)
      case atStart=>exact⟨0,by omega,rfl,Lib.hid fun j _ h=>by omega⟩
      case round =>
        obtain⟨k,hk,rfl,hg⟩:=hrel
        by_cases hlt:k<s.size
        · have hu:s[k].toNat<=255:=by have:=s[k].toNat_lt;omega
          by_cases hc:(97<=s[k].toNat∧s[k].toNat<=122)∨(48<=s[k].toNat∧s[k].toNat<=57)∨s[k].toNat=45
          · have hn:=Lib.hid ((Pl.nameC_iff s[k]).2 hc)
            go_wp2
            all_goals first
              |(exfalso;omega)
              | (go_round
                 case rel=>exact⟨k+1,by omega,by go_num,Lib.hid fun j h hj=>by
                   by_cases e:j=k
                   ·subst e;exact hn.out
                   ·exact hg.out j h (by omega)⟩
                 case measure=>first|(simp[intOf];done)|(simp[intOf];omega))
          · have hn:Pl.nameC s[k]=false:=by
              cases e:Pl.nameC s[k]with
              |false=>rfl
              |true=>exact absurd ((Pl.nameC_iff s[k]).1 e) hc
            have hv:=Lib.hid (Pl.isName_bad hlt hn)
            have h45:((s[k].toNat:Int) !=45)=true:=by simp;omega
            clear hn
            go_wp2
            all_goals first
              |(exfalso;omega)
              |(go_ret;exact⟨by rw[hv.out];try rfl,rfl⟩)
        · have hv:=Lib.hid (Pl.isName_good z1 z2 ⟨b0,b1⟩ fun j h=>hg.out j h (by omega))
          go_wp2
          go_ret
          exact⟨by rw[hv.out];try rfl,rfl⟩
    · have hv:=Lib.hid (Pl.isName_first z1 hb)
      go_enter Tryz.func114,Tryz.ntmps114
      go_wp2
      all_goals first
        |(exfalso;omega)
        |(go_ret;exact⟨by rw[hv.out];try rfl,rfl⟩)
theorem index_a (A:Option Addr) (c:Nat) (l:List ByteArray) (s:ByteArray) (w:World) (hl:Nms w w.heap.size A l) (hm:l.length<=1000000):
    Calls Tryz.prog 209 #[.slice A l.length c,.string s] w fun e w'=>e=.returned (.int .i64 (Pl.pos (Pl.idx (fun x=>decide (x=s)) l)))∧w=w':=by
  go_enter Tryz.func209,Tryz.ntmps209
  go_wp2
  go_loop [8] (fun i=> ∃(k:Nat),k<=l.length∧i=.int .i64 k∧Hid (∀j (h:j<l.length),j<k->decide (l[j]=s)=false)) (fun i=>l.length-(intOf i).toNat)
  case atStart=>exact⟨0,by omega,rfl,Lib.hid fun j _ h=>by omega⟩
  case round=>
    obtain⟨k,hk,rfl,hg⟩:=hrel
    by_cases hlt:k<l.length
    · obtain⟨b,off,rfl,hbB,q0⟩:=Nms.at1 hl hlt
      cases hc:decide (l[k]=s)with
      | true=>
        have hv:=Lib.hid (Pl.idx_hit (p:=fun x=>decide (x=s)) hlt (fun j hj=>hg.out j (by omega) hj) hc)
        have hq:(s.toList==l[k].toList)=true:=by rw[str_same];rw[decide_eq_true_eq]at hc ⊢;exact hc.symm
        clear hc
        go_wp2
        go_ret
        exact⟨by rw[hv.out];try rfl,rfl⟩
      | false=>
        have hq:(s.toList==l[k].toList)=false:=by rw[str_same];rw[decide_eq_false_iff_not]at hc ⊢;exact fun h=>hc h.symm
        have hn:=Lib.hid hc
        clear hc
        go_wp2
        go_round
        case rel=>exact⟨k+1,by omega,by go_num,Lib.hid fun j h hj=>by
          by_cases e:j=k
          ·subst e;exact hn.out
          ·exact hg.out j h (by omega)⟩
        case measure=>first|(simp[intOf];done)|(simp[intOf];omega)
    · have hv:=Lib.hid (Pl.idx_none (p:=fun x=>decide (x=s)) (l:=l) fun j hj=>hg.out j hj (by omega))
      go_wp2
      go_ret
      exact⟨by rw[hv.out];try rfl,rfl⟩
theorem contains_a (A:Option Addr)(c:Nat)(l:List ByteArray)(s:ByteArray)(w:World)(hl:Nms w w.heap.size A l)(hm:l.length<=1000000):
    Calls Tryz.prog 155 #[.slice A l.length c,.string s] w fun e w'=>e=.returned (.bool (l.any fun x=>decide (x=s)))∧w=w':=by
  have hv:decide (0<=Pl.pos (Pl.idx (fun x=>decide (x=s)) l))=l.any fun x=>decide (x=s):=by
    rw[Pl.pos_ge,Pl.idx_any]
  have HV:=Lib.hid hv
  clear hv
  go_enter Tryz.func155,Tryz.ntmps155
  go_wp2_with (go_at_call 209;refine(index_a _ _ l _ _ hl hm).mono ?_;rintro e w' ⟨rfl,rfl⟩)
  go_ret
  exact⟨ret_bool (by rw[<-HV.out]),rfl⟩
theorem any_mem {l:List ByteArray}{s:ByteArray}:(l.any fun x=>decide (x=s))=true↔s∈l:=by
  rw[List.any_eq_true]
  simp only[decide_eq_true_eq]
  exact⟨fun⟨x,hx,h⟩=>h▸hx,fun h=>⟨s,h,rfl⟩⟩
theorem place_b (A:Option Addr) (c:Nat) (l:List ByteArray) (s:ByteArray) (w:World) (hl:Nms w w.heap.size A l) (hm:l.length<=1000000):
    Calls Tryz.prog 115 #[.slice A l.length c,.string s] w fun e w'=>e=.returned (.int .i64 (Pl.pos (Pl.idx (fun x=>decide (x=s)) l)))∧w=w':=by
  go_enter Tryz.func115,Tryz.ntmps115
  go_wp2
  go_loop [5] (fun i=> ∃(k:Nat),k<=l.length∧i=.int .i64 k∧Hid (∀j (h:j<l.length),j<k->decide (l[j]=s)=false)) (fun i=>l.length-(intOf i).toNat)
  case atStart=>exact⟨0,by omega,rfl,Lib.hid fun j _ h=>by omega⟩
  case round=>
    obtain⟨k,hk,rfl,hg⟩:=hrel
    by_cases hlt:k<l.length
    · obtain⟨b,off,rfl,hbB,q0⟩:=Nms.at1 hl hlt
      cases hc:decide (l[k]=s)with
      | true=>
        have hv:=Lib.hid (Pl.idx_hit (p:=fun x=>decide (x=s)) hlt (fun j hj=>hg.out j (by omega) hj) hc)
        have hq:(l[k].toList==s.toList)=true:=by rw[str_same];exact hc
        clear hc
        go_wp2
        go_ret
        exact⟨by rw[hv.out];try rfl,rfl⟩
      | false=>
        have hq:(l[k].toList==s.toList)=false:=by rw[str_same];exact hc
        have hn:=Lib.hid hc
        clear hc
        go_wp2
        go_round
        case rel=>exact⟨k+1,by omega,by go_num,Lib.hid fun j h hj=>by
          by_cases e:j=k
          ·subst e;exact hn.out
          ·exact hg.out j h (by omega)⟩
        case measure=>first|(simp[intOf];done)|(simp[intOf];omega)
    · have hv:=Lib.hid (Pl.idx_none (p:=fun x=>decide (x=s)) (l:=l) fun j hj=>hg.out j hj (by omega))
      go_wp2
      go_ret
      exact⟨by rw[hv.out];try rfl,rfl⟩
set_option maxHeartbeats 1000000 in
theorem twice_a (A:Option Addr) (c:Nat) (l:List ByteArray) (w:World) (hl:Nms w w.heap.size A l) (hm:l.length<=1000000) (hcp:l.length<=c):
    Calls Tryz.prog 83 #[.slice A l.length c] w fun e w'=>e=.returned (.bool (Pl.twice l))∧w=w':=by
  go_enter Tryz.func83,Tryz.ntmps83
  go_wp2
  go_loop [7] (fun i=> ∃(k:Nat),k<=l.length∧i=.int .i64 k∧Hid (∀j (h:j<l.length),j<k->l[j]∉l.take j)) (fun i=>l.length-(intOf i).toNat)
  case atStart=>exact⟨0,by omega,rfl,Lib.hid fun j _ h=>by omega⟩
  case round=>
    obtain⟨k,hk,rfl,hg⟩:=hrel
    by_cases hlt:k<l.length
    · obtain⟨b,off,rfl,hbB,q0⟩:=Nms.at1 hl hlt
      have htk:Nms w w.heap.size (some ⟨b,off,none⟩) (l.take k):=seg_take hl k
      have hcon:=contains_a (some ⟨b,off,none⟩) c (l.take k) l[k] w htk (by rw[List.length_take];omega)
      rw[List.length_take,Nat.min_eq_left (by omega)]at hcon
      cases hc:(l.take k).any fun x=>decide (x=l[k])with
      | true=>
        rw[hc]at hcon
        have hv:=Lib.hid (Pl.twice_hit hlt (any_mem.1 hc))
        clear hc
        go_wp2_with (go_at_call 155;refine hcon.mono ?_;rintro e w' ⟨rfl,rfl⟩)
        go_ret
        exact⟨by rw[hv.out];try rfl,rfl⟩
      | false=>
        rw[hc]at hcon
        have hn:Hid (l[k]∉l.take k):=Lib.hid fun h=>by rw[any_mem.2 h]at hc;cases hc
        clear hc
        go_wp2_with (go_at_call 155;refine hcon.mono ?_;rintro e w' ⟨rfl,rfl⟩)
        go_round
        case rel=>exact⟨k+1,by omega,by go_num,Lib.hid fun j h hj=>by
          by_cases e:j=k
          ·subst e;exact hn.out
          ·exact hg.out j h (by omega)⟩
        case measure=>first|(simp[intOf];done)|(simp[intOf];omega)
    · have hv:=Lib.hid (Pl.twice_none (l:=l) fun j hj=>hg.out j hj (by omega))
      go_wp2
      go_ret
      exact⟨by rw[hv.out];try rfl,rfl⟩
end Go.Proofs.YtgbpekeoegfjpaaGreatDoor
