/- Proved: parts of the walk. -/
import Derived.Test.YtgbpekeoegfjpaaGreatDoorProg
import Derived.BigQuiet
import Derived.Deep.DeepCutAuto
import Derived.Deep.RegionHeld3
import Derived.Great.BuildSlice
import Derived.Handy
import Derived.Lib.Hide
import Derived.WalkLawsBesides
import Derived.WalkSpells
set_option maxRecDepth 100000
namespace Go.Proofs
open Tryz RowKit
theorem lO {α:Type}{a:Array α}{i:Nat}{x:α}(h:a[i]?=some x):i<a.size:=(Array.getElem?_eq_some_iff.1 h).1
theorem kE {n g:Nat}{x:Obj}{w0 w1 w2:World}(hx:Below n w1 w2)(k:w0.heap[g]?=some x)(h1:g<w0.heap.size->g<n:=by exact id)(h2:w1.heap[g]?=w0.heap[g]?:=by rfl):w2.heap[g]?=some x:=
 (hx.block g (h1 (lO k))).trans (h2.trans k)
theorem kB {n g:Nat}{t:TypeId}{cs:Array Value}{w0 w1 w2:World}(hx:Below n w1 w2)(k:w0.heap[g]?=some (.cells cs t (0,0)))
  (h1:g<w0.heap.size->g<n:=by intro hlt;first|exact hlt|omega|(simp;done)|(simp;omega))
  (h2:g<w0.heap.size->w1.heap[g]?=w0.heap[g]?:=by intro hlt;first|(with_reducible rfl)|exact Below.heap_alloc _ _ _ hlt|rfl):
  w2.heap[g]?=some (.cells cs t (0,0))∧(∀j,w2.cell? ⟨g,j,none⟩=cs[j]?)∧(∀j,w2.frozen? ⟨g,j,none⟩=false)∧g<w2.heap.size:=by
 have h:=(hx.block g (h1 (lO k))).trans ((h2 (lO k)).trans k)
 exact⟨h,fun j=>cell_of_row w2 g j cs t (0,0) h,fun j=>frozen_of_row w2 g j cs t h,lO h⟩
theorem q1 {α:Type}{l:List α}{i:Nat}{a:α}:l.toArray.setIfInBounds i a=(l.set i a).toArray:=List.setIfInBounds_toArray ..
theorem q2 {α:Type}{x:α}{l:List α}{a:α}:(x::l).set 0 a=a::l:=List.set_cons_zero
theorem au:(∀(a:Act)(d:Tmp)(v:Value),a.put (some d) v={a with tmps:=a.tmps.setIfInBounds d v})∧(∀(a:Act)(v:Value),a.put none v=a)∧(∀{α:Type}{l:List α}{i:Nat}{a:α},l.toArray.setIfInBounds i a=(l.set i a).toArray)∧(∀{α:Type}{x:α}{l:List α}{a:α},(x::l).set 0 a=a::l)∧∀{α:Type}{x:α}{l:List α}{n:Nat}{a:α},(x::l).set (n+1) a=x::l.set n a:=
 ⟨fun _ _ _=>rfl,fun _ _=>rfl,List.setIfInBounds_toArray ..,List.set_cons_zero,List.set_cons_succ⟩
theorem bT {w W w1:World}{n:Nat}(hx:Below n W w1)(h:Below w.heap.size w W:=by go_grown)(h2:w.heap.size<=n:=by go_size):Below w.heap.size w w1:=h.trans (hx.mono h2)
theorem q3 {α:Type}{x:α}{l:List α}{n:Nat}{a:α}:(x::l).set (n+1) a=x::l.set n a:=List.set_cons_succ
inductive CT |mk
def zf (_:Int):CT:=.mk
instance (a : Int) : CoeDep CT (zf a) (Array Value) := ⟨#[.int .u8 a,.int .i64 0,.int .i64 0,.int .i64 0,.int .i64 0,.int .i64 0,.int .i64 0,.int .i64 0,.int .i64 0,.int .i64 0,.int .i64 0,.int .i64 0,.int .i64 0,.slice none 0 0,.slice none 0 0]⟩
def i2 (_ _:Int):CT:=.mk
instance (a b : Int) : CoeDep CT (i2 a b) (Array Value) := ⟨#[.int .i64 a, .int .i64 b]⟩
def i3 (_ _ _:Int):CT:=.mk
instance (a b c : Int) : CoeDep CT (i3 a b c) (Array Value) := ⟨#[.int .i64 a, .int .i64 b, .int .i64 c]⟩
def i4 (_ _ _ _:Int):CT:=.mk
instance (a b c d : Int) : CoeDep CT (i4 a b c d) (Array Value) := ⟨#[.int .i64 a, .int .i64 b, .int .i64 c, .int .i64 d]⟩
def i5 (_ _ _ _ _:Int):CT:=.mk
instance (a b c d e : Int) : CoeDep CT (i5 a b c d e) (Array Value) := ⟨#[.int .i64 a, .int .i64 b, .int .i64 c, .int .i64 d, .int .i64 e]⟩
def i6 (_ _ _ _ _ _:Int):CT:=.mk
instance (a b c d e f : Int) : CoeDep CT (i6 a b c d e f) (Array Value) := ⟨#[.int .i64 a, .int .i64 b, .int .i64 c, .int .i64 d, .int .i64 e, .int .i64 f]⟩
def i7 (_ _ _ _ _ _ _:Int):CT:=.mk
instance (a b c d e f g : Int) : CoeDep CT (i7 a b c d e f g) (Array Value) := ⟨#[.int .i64 a, .int .i64 b, .int .i64 c, .int .i64 d, .int .i64 e, .int .i64 f, .int .i64 g]⟩
def i8 (_ _ _ _ _ _ _ _:Int):CT:=.mk
instance (a b c d e f g h : Int) : CoeDep CT (i8 a b c d e f g h) (Array Value) := ⟨#[.int .i64 a, .int .i64 b, .int .i64 c, .int .i64 d, .int .i64 e, .int .i64 f, .int .i64 g, .int .i64 h]⟩
def z6 :CT:=.mk
instance : CoeDep CT z6 (Array Value) := ⟨#[.int .i64 0, .int .i64 0, .int .i64 0, .int .i64 0, .int .i64 0, .int .i64 0]⟩
def bP :CT:=.mk
instance : CoeDep CT bP (Array Value) := ⟨#[.int .u8 0, .int .i64 0, .int .i64 0, .int .i64 0, .int .i64 0, .int .i64 0, .int .i64 0, .int .i64 0, .int .i64 0, .int .i64 0, .int .i64 0, .int .i64 0, .int .i64 0]⟩
def ka (_ _ _ _ _ _ _:Int):CT:=.mk
instance (a b c d e f g : Int) : CoeDep CT (ka a b c d e f g) (Array Value) := ⟨#[.int .u8 a, .int .i64 b, .int .i64 c, .int .i64 d, .int .i64 e, .int .i64 f, .int .i64 g, .int .i64 0, .int .i64 0, .int .i64 0, .int .i64 0, .int .i64 0, .int .i64 0]⟩
def bR (_ _ _ _ _ _ _ _ _ _ _ _ _:Int):CT:=.mk
instance (a b c d e f g h i j k l m : Int) : CoeDep CT (bR a b c d e f g h i j k l m) (Array Value) := ⟨#[.int .u8 a, .int .i64 b, .int .i64 c, .int .i64 d, .int .i64 e, .int .i64 f, .int .i64 g, .int .i64 h, .int .i64 i, .int .i64 j, .int .i64 k, .int .i64 l, .int .i64 m]⟩
namespace Pl
def bQ (x a b:Int):Bool:=decide (a<=x∧x<=b)
def err (ok:Bool):Int:=if ok then 0 else 1
def pU (x s:Int):Bool:=decide ((-500<=x∧x<=500)∧0<=s∧s<=200)
def dJ (b n l y x s:Int):Bool:=decide ((0<=b∧b<=359)∧(0<=n∧n<=30)∧(1<=l∧l<=100000)∧(1<=y∧y<=3000))&&pU x s
def tab :List Int:=[0,175,349,523,698,872,1045,1219,1392,1564,
 1736,1908,2079,2250,2419,2588,2756,2924,3090,3256,
 3420,3584,3746,3907,4067,4226,4384,4540,4695,4848,
 5000,5150,5299,5446,5592,5736,5878,6018,6157,6293,
 6428,6561,6691,6820,6947,7071,7193,7314,7431,7547,
 7660,7771,7880,7986,8090,8192,8290,8387,8480,8572,
 8660,8746,8829,8910,8988,9063,9135,9205,9272,9336,
 9397,9455,9511,9563,9613,9659,9703,9744,9781,9816,
 9848,9877,9903,9925,9945,9962,9976,9986,9994,9998,
 10000]
def oD (d:Int):Int:=if d<=90 then tab[d.toNat]?.getD 0 else tab[(180-d).toNat]?.getD 0
def sin (d:Int):Int:=if d%360<=180 then oD (d%360)else-oD (d%360-180)
def cos (d:Int):Int:=sin (d%360+90)
theorem Hl (d:Int):d.tmod 360=if 0<=d∨d%360=0 then d%360 else d%360-360:=by
 rw[Int.tmod_eq_emod]
 split<;>split<;>omega
theorem Qn (n:Nat):0<=tab[n]?.getD 0∧tab[n]?.getD 0<=10000:=by
 rcases Nat.lt_or_ge n 91 with h|h
 ·exact(by decide+kernel: ∀m:Fin 91,0<=tab[m.1]?.getD 0∧tab[m.1]?.getD 0<=10000) ⟨n,h⟩
 ·rw[List.getElem?_eq_none (by have:tab.length=91:=rfl;omega)];decide
theorem vJ (d:Int):0<=oD d∧oD d<=10000:=by unfold oD;split<;>exact Qn _
theorem wo (d:Int): -10000<=sin d∧sin d<=10000:=by
 unfold sin;split
 ·have:=vJ (d%360);omega
 ·have:=vJ (d%360-180);omega
theorem Av (d:Int): -10000<=cos d∧cos d<=10000:=wo _
def kV (n r:Int):Prop:=0<=r∧r<=3037000499∧(n<0->r=0)∧(0<=n->r*r<=n)∧(r<3037000499->n<(r+1)*(r+1))
def wu (n:Int):Nat->Int->Int->Int
 |0,low,_=>low
 |k+1,low,high=>if low<high then (if (low+(high-low+1)/2)*(low+(high-low+1)/2)<=n then wu n k (low+(high-low+1)/2) high else wu n k low (low+(high-low+1)/2-1))else low
def root (n:Int):Int:=wu n 33 0 3037000499
def gT (n:Int):Int:=if root n*root n<n then root n+1 else root n
theorem Ko {a b:Int}(h0:0<=a)(h:a<=b):a*a<=b*b:=Int.mul_le_mul h h h0 (by omega)
theorem sq_nonneg (a:Int):0<=a*a:=by
 rcases Int.le_total 0 a with h|h
 ·exact Int.mul_nonneg h h
 ·have:=Int.mul_nonneg (show 0<= -a by omega) (show 0<= -a by omega);rwa[Int.neg_mul_neg]at this
theorem Fj {a:Int}(h0:0<=a)(h:a<=3037000499):a*a<=9223372030926249001:=Ko h0 h
theorem kV.unique {n r s:Int}(h:kV n r)(k:kV n s):r=s:=by
 obtain⟨h0,h1,h2,h3,h4⟩:=h
 obtain⟨k0,k1,k2,k3,k4⟩:=k
 rcases Int.lt_or_le n 0 with hn|hn
 ·rw[h2 hn,k2 hn]
 ·rcases Int.lt_trichotomy r s with hlt|he|hgt
  ·have:=h4 (by omega);have:=Ko (show 0<=r+1 by omega) (show r+1<=s by omega);have:=k3 hn;omega
  ·exact he
  ·have:=k4 (by omega);have:=Ko (show 0<=s+1 by omega) (show s+1<=r by omega);have:=h3 hn;omega
def gN (n low high:Int):Prop:=0<=low∧low<=high∧high<=3037000499∧(n<0->low=0)∧(0<=n->low*low<=n)∧(high<3037000499->n<(high+1)*(high+1))
theorem gN.start (n:Int):gN n 0 3037000499:=⟨by omega,by omega,by omega,fun _=>rfl,fun h=>by simpa using h,fun h=>by omega⟩
theorem gN.done {n low:Int}(h:gN n low low):kV n low:=by
 obtain⟨h0,_,h2,h3,h4,h5⟩:=h;exact⟨h0,h2,h3,h4,h5⟩
theorem gN.mid {n low high:Int}(h:gN n low high)(hl:low<high):low<low+(high-low+1)/2∧low+(high-low+1)/2<=high:=by
 obtain⟨h0,h1,h2,_⟩:=h;omega
theorem gN.up {n low high m:Int}(h:gN n low high)(hl:low<m)(hm:m<=high)(hn:m*m<=n):gN n m high:=by
 obtain⟨h0,h1,h2,h3,h4,h5⟩:=h
 have:=sq_nonneg m
 exact⟨by omega,hm,h2,fun h=>by omega,fun _=>hn,h5⟩
theorem gN.down {n low high m:Int}(h:gN n low high)(hl:low<m)(hm:m<=high)(hn:n<m*m):gN n low (m-1):=by
 obtain⟨h0,h1,h2,h3,h4,h5⟩:=h
 exact⟨h0,by omega,by omega,h3,h4,fun _=>by rw[show m-1+1=m by omega];exact hn⟩
theorem I8 (n:Int)(k:Nat): ∀low high,gN n low high->high-low<2^k->kV n (wu n k low high):=by
  induction k with
  | zero => intro low high h hk;have:=h.2.1;obtain rfl:low=high:=by simp at hk;omega
            exact h.done
  | succ k ih=>
    intro low high h hk
    have hp:(2:Int)^(k+1)=2*2^k:=by rw[Int.pow_succ];omega
    unfold wu
    split
    · rename_i hl
      obtain⟨h1,h2⟩:=h.mid hl
      split
      ·rename_i hn;exact ih _ _ (h.up h1 h2 hn) (by omega)
      ·rename_i hn;exact ih _ _ (h.down h1 h2 (by omega)) (by omega)
    · have:=h.2.1;obtain rfl:low=high:=by omega
      exact h.done
theorem Ay (n:Int):kV n (root n):=I8 n 33 0 3037000499 (.start n) (by decide)
theorem Az {n r:Int}(h:kV n r):r=root n:=h.unique (Ay n)
theorem pV (n:Int):0<=root n∧root n<=3037000499∧0<=root n*root n∧root n*root n<=9223372030926249001:=by
 obtain⟨h0,h1,_⟩:=Ay n;exact⟨h0,h1,sq_nonneg _,Fj h0 h1⟩
def kW (n r:Int)(k:Nat):Prop:=0<=r∧r<=3037000499∧k<=32∧r*r<=n∧0<=n∧(r+2^k<=3037000499->n<(r+2^k)*(r+2^k))
theorem kW.start {n:Int}(h:0<=n):kW n 0 32:=⟨by omega,by omega,by omega,by simpa using h,h,fun h=>by simp at h⟩
theorem kW.done {n r:Int}(h:kW n r 0):kV n r:=by
 obtain⟨h0,h1,_,h3,h4,h5⟩:=h
 exact⟨h0,h1,fun h=>by omega,fun _=>h3,fun h=>h5 (by simp;omega)⟩
theorem kW.no {n r m:Int}{k:Nat}(h:kW n r (k+1))(hm:m=r+2^k)(h2: ¬(m<=3037000499∧m*m<=n)):kW n r k:=by
 subst hm
 obtain⟨a0,a1,a2,a3,a4,a5⟩:=h
 exact⟨a0,a1,by omega,a3,a4,fun h=>by
  rcases Int.lt_or_le n ((r+2^k)*(r+2^k))with h'|h'
  ·exact h'
  ·exact absurd ⟨h,h'⟩ h2⟩
def jH :Int->List (Int×Int)->Bool
 |_,[]=>true
 |p,q::l=>bQ q.1 (p+1) 3000&&bQ q.2 (-60) 60&&jH q.1 l
def vars (l:List (Int×Int)):Int:=if 40<l.length then 2 else err (jH 0 l)
def iy (year:Int):Int×Bool->List (Int×Int)->Int×Bool
 |s,[]=>s
 |s,q::l=>iy year (if q.1<=year then (q.2,true)else s) l
def decl (l:List (Int×Int))(year:Int):Int×Bool:=if vars l=0 then iy year (0,false) l else (0,false)
theorem uG {p:Int}{l:List (Int×Int)}{k:Nat}(hk:k<l.length):jH p (l.drop k)=(bQ l[k].1 (p+1) 3000&&bQ l[k].2 (-60) 60&&jH l[k].1 (l.drop (k+1))):=by
 rw[List.drop_eq_getElem_cons hk];rfl
theorem Cx {y:Int}{s:Int×Bool}{l:List (Int×Int)}{k:Nat}(hk:k<l.length):iy y s (l.drop k)=iy y (if l[k].1<=y then (l[k].2,true)else s) (l.drop (k+1)):=by
 rw[List.drop_eq_getElem_cons hk];rfl
def iF (l:List (Int×Int))(k:Nat):Int:=if k=0 then 0 else (l[k-1]?.getD (0,0)).1
theorem later {l:List (Int×Int)}{y:Int}{k:Nat}(hk:k<l.length)(hy:y<l[k].1)(h: ∀(j:Nat) x,k+1<=j->l[j]?=some x->y<x.1): ∀(j:Nat) x,k<=j->l[j]?=some x->y<x.1:=by
 intro j x hj hx
 rcases Nat.lt_or_eq_of_le hj with hlt|rfl
 ·exact h j x hlt hx
 ·rw[List.getElem?_eq_getElem hk]at hx;cases hx;exact hy
theorem zC : ∀(l:List (Int×Int)) (p:Int),jH p l=true-> ∀x∈l,-60<=x.2∧x.2<=60
 | [],_,_,x,hx=>by cases hx
 |q::l,p,h,x,hx=>by
  unfold jH at h
  simp only[Bool.and_eq_true]at h
  rcases List.mem_cons.1 hx with rfl|hx
  ·have:=h.1.2;unfold bQ at this;simpa using this
  ·exact zC l _ h.2 x hx
theorem zD {y:Int}: ∀(l:List (Int×Int)) (s:Int×Bool),(-60<=s.1∧s.1<=60)->(∀x∈l,-60<=x.2∧x.2<=60)-> -60<=(iy y s l).1∧(iy y s l).1<=60
 | [],_,h,_=>h
 |q::l,s,h,k=>by
  unfold iy
  refine zD l _ ?_ fun x hx=>k x (by simp[hx])
  split
  ·exact k q (by simp)
  ·exact h
theorem rz (l:List (Int×Int))(y:Int): -60<=(decl l y).1∧(decl l y).1<=60:=by
 unfold decl
 split
 ·rename_i h
  have h2:jH 0 l=true:=by
   unfold vars at h;split at h
   ·cases h
   ·unfold err at h;split at h
    ·assumption
    ·cases h
  exact zD l _ (by decide) (zC l 0 h2)
 ·decide
def jI (dx dy:Int):Bool:=decide (dx≠0∧(-100000<=dx∧dx<=100000)∧ -100000<=dy∧dy<=100000)
def near (l x s:Int):Int:=l*(10000+x-s)
def far (l x s:Int):Int:=l*(10000+x+s)
def mid (b east:Int):Int:=(b+east+90)%360-90
def UR (lo hi dx ne fa:Int):Prop:= -120<=lo∧lo<=hi∧hi<=300∧1<=dx∧dx<=100000∧0<=ne∧ne<=1070000000∧0<=fa∧fa<=1070000000
theorem fD {a b A B:Int}(h0:0<=a)(h1:a<=A)(k0:0<=b)(k1:b<=B):0<=a*b∧a*b<=A*B:=
 ⟨Int.mul_nonneg h0 k0,Int.mul_le_mul h1 k1 k0 (by omega)⟩
theorem nk {a b A B:Int}(h0: -A<=a)(h1:a<=A)(k0: -B<=b)(k1:b<=B): -(A*B)<=a*b∧a*b<=A*B:=by
 have hA:0<=A:=by omega
 have hB:0<=B:=by omega
 rcases Int.le_total 0 a with ha|ha<;>rcases Int.le_total 0 b with hb|hb
 ·have:=fD ha h1 hb k1;have:=Int.mul_nonneg hA hB;omega
 ·have:=fD ha h1 (show 0<= -b by omega) (show-b<=B by omega);rw[Int.mul_neg]at this;have:=Int.mul_nonneg hA hB;omega
 ·have:=fD (show 0<= -a by omega) (show-a<=A by omega) hb k1;rw[Int.neg_mul]at this;have:=Int.mul_nonneg hA hB;omega
 ·have:=fD (show 0<= -a by omega) (show-a<=A by omega) (show 0<= -b by omega) (show-b<=B by omega);rw[Int.neg_mul_neg]at this;have:=Int.mul_nonneg hA hB;omega
theorem Fp {l x s:Int}(h0:1<=l)(h1:l<=100000)(h2: -500<=x)(h3:x<=500)(h4:0<=s)(h5:s<=200):
  (0<=l*(10000+x-s)∧l*(10000+x-s)<=1070000000)∧(0<=l*(10000+x+s)∧l*(10000+x+s)<=1070000000):=by
 have a:=fD (show 0<=l by omega) h1 (show 0<=10000+x-s by omega) (show 10000+x-s<=10700 by omega)
 have b:=fD (show 0<=l by omega) h1 (show 0<=10000+x+s by omega) (show 10000+x+s<=10700 by omega)
 omega
structure bF where
 b:Int
 n:Int
 l:Int
 y:Int
 x:Int
 s:Int
def bF.ok (c:bF):Bool:=dJ c.b c.n c.l c.y c.x c.s
def bS (v:List (Int×Int))(cs:List bF):Int:=
 if vars v≠0 then vars v else if cs.all bF.ok then (if cs.all (fun c=>(decl v c.y).2)then 0 else 20)else 1
theorem qD {α:Type}(p:α->Bool)(l:List α)(k:Nat)(hk:k<l.length):(l.take (k+1)).all p=((l.take k).all p&&p l[k]):=by
 rw[List.take_succ_eq_append_getElem hk,List.all_append];simp
theorem Ho {α:Type}{p:α->Bool}{l:List α}{k:Nat}(hk:k<l.length)(h:p l[k]=false):l.all p=false:=by
 rw[List.all_eq_false];exact⟨l[k],List.getElem_mem hk,by rw[h];simp⟩
theorem bF.mF {c:bF}(h:c.ok=true):(0<=c.b∧c.b<=359)∧(0<=c.n∧c.n<=30)∧(1<=c.l∧c.l<=100000)∧(1<=c.y∧c.y<=3000)∧(-500<=c.x∧c.x<=500)∧0<=c.s∧c.s<=200:=by
 unfold bF.ok dJ pU at h
 simp only[Bool.and_eq_true,decide_eq_true_eq]at h
 omega
theorem Cy {a b:Int}(hb:1<=b)(h:a.tmod b<0):a.tdiv b-1=a/b:=by
 rw[Int.tmod_eq_emod]at h
 rw[Int.tdiv_eq_ediv]
 split at h
 ·have:=Int.emod_nonneg a (show b≠0 by omega);omega
 ·rename_i hc;rw[if_neg hc,Int.sign_eq_one_of_pos (by omega)];omega
theorem Cz {a b:Int}(hb:1<=b)(h: ¬a.tmod b<0):a.tdiv b=a/b:=by
 rw[Int.tmod_eq_emod]at h
 rw[Int.tdiv_eq_ediv]
 split at h
 ·rename_i hc;rw[if_pos hc];omega
 ·have:=Int.emod_lt_of_pos a (show 0<b by omega);omega
theorem rA {a b:Int}(hb:1<=b):(0<=a->0<=a.tdiv b∧a.tdiv b<=a)∧(a<=0->a<=a.tdiv b∧a.tdiv b<=0):=by
 constructor
 ·intro h;rw[Int.tdiv_eq_ediv_of_nonneg h];exact⟨Int.ediv_nonneg h (by omega),Int.ediv_le_self _ h⟩
 ·intro h
  have e:a.tdiv b= -((-a)/b):=by rw[<-Int.tdiv_eq_ediv_of_nonneg (show 0<= -a by omega),Int.neg_tdiv,Int.neg_neg]
  have h1:=Int.ediv_nonneg (show 0<= -a by omega) (show 0<=b by omega)
  have h2:=Int.ediv_le_self b (show 0<= -a by omega)
  omega
theorem AA {a b:Int}(hb:1<=b):(0<=a->0<=a/b∧a/b<=a)∧(a<=0->a<=a/b∧a/b<=0):=by
 constructor
 ·intro h;exact⟨Int.ediv_nonneg h (by omega),Int.ediv_le_self _ h⟩
 ·intro h
  refine⟨?_,?_⟩
  ·rw[Int.le_ediv_iff_mul_le (by omega)]
   have:=Int.mul_nonneg (show 0<= -a by omega) (show 0<=b-1 by omega)
   rw[Int.neg_mul,Int.mul_sub]at this;omega
  ·have:a/b<=0/b:=Int.ediv_le_ediv (by omega) h
   simpa using this
def bF.back (c:bF):bF:=⟨(c.b+180)%360,c.n,c.l,c.y,c.x,c.s⟩
def bF.lo (v:List (Int×Int))(c:bF):Int:=mid c.b (decl v c.y).1-c.n
def bF.hi (v:List (Int×Int))(c:bF):Int:=mid c.b (decl v c.y).1+c.n
def bF.ne (c:bF):Int:=near c.l c.x c.s
def bF.fa (c:bF):Int:=far c.l c.x c.s
def jW (v:List (Int×Int))(c:bF)(dx dy:Int):Int:=if bS v [c]≠0 then bS v [c]else err (jI dx dy)
theorem qL {dx dy:Int}(h:jI dx dy=true):dx≠0∧ -100000<=dx∧dx<=100000∧ -100000<=dy∧dy<=100000:=by
 unfold jI at h;simp only[decide_eq_true_eq]at h;omega
theorem Kq (b e:Int): -90<=mid b e∧mid b e<=269:=by unfold mid;omega
theorem bF.Ww {v:List (Int×Int)}{c:bF}{dx:Int}(h:c.ok=true)(h0:1<=dx)(h1:dx<=100000):UR (c.lo v) (c.hi v) dx c.ne c.fa:=by
 obtain⟨⟨g0,g1⟩,⟨g2,g3⟩,⟨g4,g5⟩,⟨g6,g7⟩,⟨g8,g9⟩,g10,g11⟩:=c.mF h
 have m:=Kq c.b (decl v c.y).1
 have l:=Fp g4 g5 g8 g9 g10 g11
 unfold UR lo hi ne fa near far
 omega
theorem bF.AB {c:bF}(h:c.ok=true):c.back.ok=true:=by
 unfold ok dJ at*
 unfold back
 simp only[Bool.and_eq_true,decide_eq_true_eq]at*
 exact⟨by omega,h.2⟩
theorem CB {v:List (Int×Int)}{c:bF}(h:bS v [c]=0):vars v=0∧c.ok=true∧(decl v c.y).2=true:=by
 unfold bS at h
 simp only[List.all_cons,List.all_nil,Bool.and_true]at h
 split at h
 ·contradiction
 ·split at h
  ·split at h
   ·exact⟨by omega,by assumption,by assumption⟩
   ·cases h
  ·cases h
def room (dx fa:Int):Int:=fa*fa/100000000-dx*dx
def short (dx ne:Int):Int:= -(-(ne*ne)/100000000)-dx*dx
def reach (dx fa:Int):Int:=min (root (room dx fa)) 100000
def qE (lo dx r:Int):Int:=if 0<lo then min r (dx*cos lo/sin lo)else r
def rC (hi dx r:Int):Int:=if hi<180 then max r (-(-(dx*cos hi)/sin hi))else r
def ends (lo hi dx ne fa:Int):Int×Int:=
 let least:=gT (short dx ne)
 let low:=rC hi dx (-reach dx fa)
 let high:=qE lo dx (reach dx fa)
 (if hi<=90 then max low least else low,if ¬hi<=90∧90<=lo then min high (-least)else high)
def jE (lo hi dx ne fa:Int):Int×Int×Bool:=
 if hi<=0∨180<=lo∨room dx fa<0∨(ends lo hi dx ne fa).2<(ends lo hi dx ne fa).1 then (0,0,false)
 else ((ends lo hi dx ne fa).1,(ends lo hi dx ne fa).2,true)
theorem vL {d:Int}(h0:0<d)(h1:d<180):1<=sin d:=by
 have key: ∀m:Fin 180,m.1=0∨1<=oD (m.1:Int):=by decide+kernel
 have e:sin d=oD d:=by unfold sin;rw[show d%360=d by omega,if_pos (by omega)]
 rw[e]
 have:=key ⟨d.toNat,by omega⟩
 simp only[Int.toNat_of_nonneg (show 0<=d by omega)]at this
 rcases this with h|h
 ·omega
 ·exact h
theorem tN (n:Int):0<=gT n∧gT n<=3037000500:=by
 obtain⟨h0,h1,_⟩:=Ay n
 unfold gT;split<;>omega
def flip (r:Int×Int×Bool):Int×Int×Bool:=(-r.2.1,-r.1,r.2.2)
def Ny (v:List (Int×Int))(c:bF)(dx:Int):Int×Int×Bool:=jE (c.lo v) (c.hi v) dx c.ne c.fa
def je (v:List (Int×Int))(c:bF)(dx:Int):Int×Int×Bool:=if dx<0 then flip (Ny v c.back (-dx))else Ny v c dx
def lQ (v:List (Int×Int))(dx:Int):Int->Int->List bF->Int×Int×Bool
 |lo,hi,[]=>(lo,hi,true)
 |lo,hi,c::cs=>if (je v c dx).2.2=false∨min hi (je v c dx).2.1<max lo (je v c dx).1 then (0,0,false)else lQ v dx (max lo (je v c dx).1) (min hi (je v c dx).2.1) cs
def jA (v:List (Int×Int))(cs:List bF)(dx:Int):Int:=
 if 40<cs.length then 2 else if cs.length=0 then 5 else if bS v cs≠0 then bS v cs else err (jI dx 0)
def com (v:List (Int×Int))(cs:List bF)(dx:Int):Int×Int×Bool:=if jA v cs dx=0 then lQ v dx (-100000) 100000 cs else (0,0,false)
theorem Fq {v:List (Int×Int)}{dx lo hi:Int}{l:List bF}{k:Nat}(hk:k<l.length):lQ v dx lo hi (l.drop k)=
  if (je v l[k] dx).2.2=false∨min hi (je v l[k] dx).2.1<max lo (je v l[k] dx).1 then (0,0,false)else lQ v dx (max lo (je v l[k] dx).1) (min hi (je v l[k] dx).2.1) (l.drop (k+1)):=by
 rw[List.drop_eq_getElem_cons hk];rfl
theorem CF (dx fa:Int):0<=reach dx fa∧reach dx fa<=100000:=by
 obtain⟨h0,_⟩:=pV (room dx fa);unfold reach;omega
theorem Kr (lo dx r:Int):qE lo dx r<=r:=by unfold qE;split<;>omega
theorem Kt (hi dx r:Int):r<=rC hi dx r:=by unfold rC;split<;>omega
theorem Nz (lo hi dx ne fa:Int): -100000<=(ends lo hi dx ne fa).1∧(ends lo hi dx ne fa).2<=100000:=by
 have h:=CF dx fa
 have a:=Kr lo dx (reach dx fa)
 have b:=Kt hi dx (-reach dx fa)
 show-100000<=(if hi<=90 then _ else _)∧(if ¬hi<=90∧90<=lo then _ else _)<=100000
 constructor
 ·split<;>omega
 ·split<;>omega
theorem AJ (lo hi dx ne fa:Int): -100000<=(jE lo hi dx ne fa).1∧(jE lo hi dx ne fa).1<=100000∧ -100000<=(jE lo hi dx ne fa).2.1∧(jE lo hi dx ne fa).2.1<=100000:=by
 have h:=Nz lo hi dx ne fa
 unfold jE
 split
 ·decide
 ·rename_i hc;simp only[];omega
theorem NA {α:Type}{p:α->Bool}{l:List α}(h:l.all p=true){k:Nat}(hk:k<l.length):p l[k]=true:=List.all_eq_true.1 h _ (List.getElem_mem hk)
theorem CG {v:List (Int×Int)}{cs:List bF}(h:bS v cs=0):vars v=0∧cs.all bF.ok=true∧cs.all (fun c=>(decl v c.y).2)=true:=by
 unfold bS at h
 split at h
 ·contradiction
 ·split at h
  ·split at h
   ·exact⟨by omega,by assumption,by assumption⟩
   ·cases h
  ·cases h
theorem Ku {b:Bool}:err b=0↔b=true:=by unfold err;cases b<;>decide
def opened (v:List (Int×Int))(c:bF)(dx dy:Int):Int:=if jW v c dx dy=0 then (decl v c.y).1 else 0
theorem Fu {v:List (Int×Int)}{c:bF}{dx dy:Int}(h:jW v c dx dy=0):bS v [c]=0∧jI dx dy=true:=by
 unfold jW at h
 split at h
 ·contradiction
 ·exact⟨by omega,Ku.1 h⟩
theorem CJ (v:List (Int×Int))(c:bF)(dx:Int):jA v [c] dx=jW v c dx 0:=by
 unfold jA jW;simp
theorem zF {lo hi dx ne fa:Int}(h:(jE lo hi dx ne fa).2.2=false):jE lo hi dx ne fa=(0,0,false):=by
 unfold jE at h ⊢;split at h
 ·rename_i hc;rw[if_pos hc]
 ·cases h
theorem Kv {lo hi dx ne fa:Int}:(jE lo hi dx ne fa).1<=(jE lo hi dx ne fa).2.1:=by
 unfold jE;split
 ·decide
 ·rename_i hc;simp only[];omega
theorem Fv {v:List (Int×Int)}{c:bF}{dx:Int}(h:(je v c dx).2.2=false):je v c dx=(0,0,false):=by
 unfold je at h ⊢;split at h
 ·rename_i hc;rw[if_pos hc]
  have:=zF (lo:=c.back.lo v) (hi:=c.back.hi v) (dx:= -dx) (ne:=c.back.ne) (fa:=c.back.fa) h
  unfold Ny;rw[this];rfl
 ·rename_i hc;rw[if_neg hc];exact zF h
theorem NC (v:List (Int×Int))(c:bF)(dx:Int): -100000<=(je v c dx).1∧(je v c dx).1<=(je v c dx).2.1∧(je v c dx).2.1<=100000:=by
 unfold je flip Ny;split
 ·have:=AJ (c.back.lo v) (c.back.hi v) (-dx) c.back.ne c.back.fa
  have:=Kv (lo:=c.back.lo v) (hi:=c.back.hi v) (dx:= -dx) (ne:=c.back.ne) (fa:=c.back.fa)
  simp only[];omega
 ·have:=AJ (c.lo v) (c.hi v) dx c.ne c.fa
  have:=Kv (lo:=c.lo v) (hi:=c.hi v) (dx:=dx) (ne:=c.ne) (fa:=c.fa)
  omega
theorem ND (v:List (Int×Int))(c:bF)(dx:Int):com v [c] dx=if jW v c dx 0=0 then je v c dx else (0,0,false):=by
 unfold com
 rw[CJ]
 split
 ·unfold lQ lQ
  obtain⟨h0,h1,h2⟩:=NC v c dx
  split
  ·rename_i h
   rcases h with h|h
   ·exact(Fv h).symm
   ·omega
  ·rename_i h
   have e:(je v c dx).2.2=true:=by
    cases hh:(je v c dx).2.2 with
    |true=>rfl
    |false=>exact absurd (Or.inl hh) h
   refine Prod.ext (by simp only[];omega) (Prod.ext (by simp only[];omega) e.symm)
 ·rfl
end Pl
theorem below_drewN {B:Nat}{a w:World}(h:Below B a w)(n:Nat):Below B a (w.drewN n):=⟨h.os,h.tape,h.output,h.size,h.block⟩
theorem Hq {W w1:World}(hb:Below W.heap.size W w1):(∀b o,b<W.heap.size->w1.cell? ⟨b,o,none⟩=W.cell? ⟨b,o,none⟩)∧(∀b o,b<W.heap.size->w1.frozen? ⟨b,o,none⟩=W.frozen? ⟨b,o,none⟩):=
 ⟨fun b o h=>hb.cell (p:=⟨b,o,none⟩) h,fun b o h=>hb.frozen (p:=⟨b,o,none⟩) h⟩
theorem ah {w:World}{g:Nat}{t:TypeId}{cs:Array Value}(h:w.heap[g]?=some (.cells cs t (0,0))):(∀j,w.cell? ⟨g,j,none⟩=cs[j]?)∧(∀j,w.frozen? ⟨g,j,none⟩=false):=
 ⟨fun j=>cell_of_row w g j cs t (0,0) h,fun j=>frozen_of_row w g j cs t h⟩
theorem bI {w:World}{o:Obj}{n:Nat}(h:w.heap.size=n):(w.alloc o).heap[n]?=some o:=by subst h;exact heap_alloc_new _ _
def Seg {α:Type}(enc:α->List Value)(size:Nat)(w:World)(B:Nat)(A:Option Addr)(l:List α):Prop:=
 l=[]∨ ∃b off,A=some ⟨b,off,none⟩∧b<B∧ ∀k x,l[k]?=some x-> ∀j v,(enc x)[j]?=some v->w.cell? ⟨b,off+k*size+j,none⟩=some v
section
variable {α : Type} {enc : α -> List Value} {size : Nat} {w w' : World} {B B' : Nat} {A : Option Addr} {l : List α}
theorem Seg.keep (h:Seg enc size w B A l)(hk: ∀p:Addr,p.block<B->w'.cell? p=w.cell? p):Seg enc size w' B A l:=by
 rcases h with h|⟨b,off,hA,hb,hc⟩
 ·exact .inl h
 ·exact .inr ⟨b,off,hA,hb,fun k x hx j v hv=>(hk _ hb).trans (hc k x hx j v hv)⟩
theorem Seg.more (h:Seg enc size w B A l)(hB:B<=B'):Seg enc size w B' A l:=by
 rcases h with h|⟨b,off,hA,hb,hc⟩
 ·exact .inl h
 ·exact .inr ⟨b,off,hA,by omega,hc⟩
theorem Seg.below (h:Seg enc size w B A l)(hb:Below B w w'):Seg enc size w' B A l:=h.keep fun _ hp=>hb.cell hp
theorem Seg.up (h:Seg enc size w w.heap.size A l)(hb:Below w.heap.size w w'):Seg enc size w' w'.heap.size A l:=(h.below hb).more hb.size
theorem Seg.at_ (h:Seg enc size w B A l){k:Nat}(hk:k<l.length): ∃b off,A=some ⟨b,off,none⟩∧b<B∧ ∀j v,(enc l[k])[j]?=some v->w.cell? ⟨b,off+k*size+j,none⟩=some v:=by
 rcases h with h|⟨b,off,hA,hb,hc⟩
 ·subst h;simp at hk
 ·exact⟨b,off,hA,hb,fun j v hv=>hc k l[k] (List.getElem?_eq_getElem hk) j v hv⟩
end
def oF (p:Int×Int):List Value:=[.int .i64 p.1,.int .i64 p.2]
abbrev Vars := @Seg (Int×Int) oF 2
theorem Vars.at2 {w:World}{B:Nat}{A:Option Addr}{l:List (Int×Int)}(h:Vars w B A l){k:Nat}(hk:k<l.length):
  ∃b off,A=some ⟨b,off,none⟩∧b<B∧w.cell? ⟨b,off+k*2,none⟩=some (.int .i64 l[k].1)∧w.cell? ⟨b,off+k*2+1,none⟩=some (.int .i64 l[k].2):=by
 obtain⟨b,off,hA,hb,hc⟩:=Seg.at_ h hk
 exact⟨b,off,hA,hb,hc 0 _ rfl,hc 1 _ rfl⟩
theorem aH {k:IntKind}{a b:Int}(h:a=b):Ending.returned (.int k a)=.returned (.int k b):=by rw[h]
theorem aD {a b:Bool}(h:a=b):Ending.returned (.bool a)=.returned (.bool b):=by rw[h]
theorem AL (x a b:Int)(w:World):
  Calls prog 149 (i3 x a b) w fun e w'=>e=.returned (.bool (Pl.bQ x a b))∧w=w':=by
 go_enter func149,ntmps149
 go_wp2
 all_goals go_ret
 all_goals exact⟨aD (by grind [Pl.bQ]),rfl⟩
theorem AO (x:Bool)(w:World):
  Calls prog 179 #[.bool x] w fun e w'=>e=.returned (.int .i64 (Pl.err x))∧w=w':=by
 cases x
 all_goals
  go_enter func179,ntmps179
  go_wp2
  go_ret
  exact⟨rfl,rfl⟩
theorem NG (x s:Int)(w:World):
  Calls prog 180 #[.agg (i2 x s)] w fun e w'=>e=.returned (.int .i64 (Pl.err (Pl.pU x s)))∧Below w.heap.size w w':=by
 go_enter func180,ntmps180
 go_wp2_with (first|(go_at_call 149;refine(AL _ _ _ _).mono ?_;rintro e w' ⟨rfl,rfl⟩)|(go_at_call 179;refine(AO _ _).mono ?_;rintro e w' ⟨rfl,rfl⟩))
 all_goals go_ret
 all_goals exact⟨aH (by grind [Pl.bQ,Pl.err,Pl.pU]),by go_grown⟩
theorem norm_a (d:Int)(w:World):
  Calls prog 259 #[.int .i64 d] w fun e w'=>e=.returned (.int .i64 (d%360))∧w=w':=by
 go_enter func259,ntmps259
 go_wp2
 go_ret
 exact⟨aH (by rw[Pl.Hl d];unfold wrap64;split<;>(rw[Int.tmod_eq_emod];split<;>omega)),rfl⟩
theorem rD (b n l y x s:Int)(w:World):
  Calls prog 109 #[.agg (i6 b n l y x s)] w fun e w'=>e=.returned (.int .i64 (Pl.err (Pl.dJ b n l y x s)))∧Below w.heap.size w w':=by
 go_enter func109,ntmps109
 go_wp2_with (first|(go_at_call 149;refine(AL _ _ _ _).mono ?_;rintro e w' ⟨rfl,rfl⟩)|(go_at_call 179;refine(AO _ _).mono ?_;rintro e w' ⟨rfl,rfl⟩)|(go_at_call 180;refine(NG _ _ _).mono ?_;rintro e w1 ⟨rfl,hx1⟩;have hb1:=bT (w:=w) hx1;clear hx1;have hsz1:w.heap.size<=w1.heap.size:=hb1.size))
 all_goals go_ret
 all_goals exact⟨aH (by grind [Pl.bQ,Pl.err,Pl.dJ]),by go_grown⟩
def wz :Array Value:=(Pl.tab.map (Value.int .i64)).toArray
theorem rE (n:Nat)(h:n<91):wz[n]?=some (.int .i64 (Pl.tab[n]?.getD 0)):=by
 have hl:Pl.tab.length=91:=by decide
 simp[wz,List.getElem?_map,List.getElem?_eq_getElem (show n<Pl.tab.length by omega)]
theorem Kw :(prog.info? 3).map (fun i=>(i.zero,i.size,i.bytes))=some (some (.int .i64 0),1,8):=by kernel_rfl
theorem vM (m:Int)(h0:0<=m)(h1:m<=90)(w:World):(Instr.index 355 (.agg wz) (.int .i64 m)).run prog w=.ok (.int .i64 (Pl.tab[m.toNat]?.getD 0)) w:=by
 obtain⟨i,hi,_,h2,_⟩:=info_parts Kw
 obtain⟨n,rfl⟩:=Int.eq_ofNat_of_zero_le h0
 have h3:=rE n (by omega)
 have h4:n<91:=by omega
 simp[Instr.index,asIntOf,part,sizeOf,typeInfo,go_sem,run_underlying underlying355,hi,h2,h3,h4]
theorem below_setRow {B:Nat}{a w:World}(h:Below B a w){g:Nat}(hg:B<=g)(cs:Array Value):Below B a (w.setRow g cs):=
 h.trans ⟨rfl,rfl,rfl,by simp,fun k hk=>by
  simp only[World.setRow,Array.getElem?_modify]
  rw[if_neg (by omega)]⟩
theorem vO (w:World):Calls prog 369 #[] w fun e w'=>e=.returned (.agg wz)∧Below w.heap.size w w':=by
 go_enter func369,ntmps369
 go_wp2_with (first
  |(refine wpList_buildFlatArr rfl 355 3 91 _ rfl .i64 Pl.tab underlying355 (by kernel_rfl) (by kernel_rfl) (by kernel_rfl) ?_)
  |(refine wpList_store_row rfl 355 _ _ rfl w.heap.size wz rfl rfl 355 _ (heap_alloc_new _ _) (by kernel_rfl) (by kernel_rfl) (by kernel_rfl) ?_))
 refine bodyPost_ret (results_cell_row rfl _ _ w.heap.size 355 wz (0,0) _ rfl (setRow_heap _ _ _ _ _ _ (heap_alloc_new _ _)) underlying355 rfl (by kernel_rfl)) rfl ⟨rfl,?_⟩
 exact below_setRow ((Below.refl _ _).alloc (Nat.le_refl _) _) (Nat.le_refl _) _
theorem Qo (d:Int)(w:World)(h0:0<=d)(h1:d<=180):Calls prog 358 #[.int .i64 d] w fun e w'=>e=.returned (.int .i64 (Pl.oD d))∧Below w.heap.size w w':=by
 have e0:d%360=d:=by omega
 have H:=Lib.hid e0;clear e0
 by_cases hd:d<=90
 ·have hix:=fun w=>vM d h0 hd w
  go_enter func358,ntmps358
  go_wp2_with (go_at_call 259;refine(norm_a _ _).mono ?_;rintro e w' ⟨rfl,rfl⟩;rw[H.out])
  go_wp2_with (go_at_call 369;refine(vO _).mono ?_;rintro e w1 ⟨rfl,hx1⟩;have hb1:=bT (w:=w) hx1;clear hx1;have hsz1:w.heap.size<=w1.heap.size:=hb1.size)
  go_ret
  exact⟨aH (by unfold Pl.oD;rw[if_pos hd]),hb1⟩
 ·have hix:=fun w=>vM (180-d) (by omega) (by omega) w
  go_enter func358,ntmps358
  go_wp2_with (go_at_call 259;refine(norm_a _ _).mono ?_;rintro e w' ⟨rfl,rfl⟩;rw[H.out])
  go_wp2_with (go_at_call 369;refine(vO _).mono ?_;rintro e w1 ⟨rfl,hx1⟩;have hb1:=bT (w:=w) hx1;clear hx1;have hsz1:w.heap.size<=w1.heap.size:=hb1.size)
  go_ret
  exact⟨aH (by unfold Pl.oD;rw[if_neg (by omega)]),hb1⟩
theorem pW (d:Int):0<=d%360∧d%360<360:=by omega
theorem Ky (d:Int)(w:World):Calls prog 358 #[.int .i64 d] w fun e w'=>e=.returned (.int .i64 (Pl.sin d))∧Below w.heap.size w w':=by
 obtain⟨h0,h1⟩:=pW d
 by_cases hd:d%360<=90
 ·have hix:=fun w=>vM (d%360) (by omega) (by omega) w
  go_enter func358,ntmps358
  go_wp2_with (first|(go_at_call 259;refine(norm_a _ _).mono ?_;rintro e w' ⟨rfl,rfl⟩)|(go_at_call 369;refine(vO _).mono ?_;rintro e w1 ⟨rfl,hx1⟩;have hb1:=bT (w:=w) hx1;clear hx1;have hsz1:w.heap.size<=w1.heap.size:=hb1.size))
  go_ret
  exact⟨aH (by unfold Pl.sin Pl.oD;rw[if_pos (by omega),if_pos hd]),hb1⟩
 by_cases hd2:d%360<=180
 ·have hix:=fun w=>vM (180-d%360) (by omega) (by omega) w
  go_enter func358,ntmps358
  go_wp2_with (first|(go_at_call 259;refine(norm_a _ _).mono ?_;rintro e w' ⟨rfl,rfl⟩)|(go_at_call 369;refine(vO _).mono ?_;rintro e w1 ⟨rfl,hx1⟩;have hb1:=bT (w:=w) hx1;clear hx1;have hsz1:w.heap.size<=w1.heap.size:=hb1.size))
  go_ret
  exact⟨aH (by unfold Pl.sin Pl.oD;rw[if_pos (by omega),if_neg (by omega)]),hb1⟩
 ·obtain⟨h2,h3⟩:=Pl.vJ (d%360-180)
  go_enter func358,ntmps358
  go_wp2_with (first|(go_at_call 259;refine(norm_a _ _).mono ?_;rintro e w' ⟨rfl,rfl⟩)|(go_at_call 358;refine(Qo _ _ (by omega) (by omega)).mono ?_;rintro e w1 ⟨rfl,hx1⟩;have hb1:=bT (w:=w) hx1;clear hx1;have hsz1:w.heap.size<=w1.heap.size:=hb1.size))
  go_ret
  exact⟨aH (by unfold Pl.sin;rw[if_neg (by omega)]),hb1⟩
theorem PY (d:Int)(w:World):Calls prog 357 #[.int .i64 d] w fun e w'=>e=.returned (.int .i64 (Pl.cos d))∧Below w.heap.size w w':=by
 obtain⟨h0,h1⟩:=pW d
 go_enter func357,ntmps357
 go_wp2_with (first|(go_at_call 259;refine(norm_a _ _).mono ?_;rintro e w' ⟨rfl,rfl⟩)|(go_at_call 358;refine(Ky _ _).mono ?_;rintro e w1 ⟨rfl,hx1⟩;have hb1:=bT (w:=w) hx1;clear hx1;have hsz1:w.heap.size<=w1.heap.size:=hb1.size))
 go_ret
 exact⟨rfl,hb1⟩
theorem Kz (n:Int)(w:World):Calls prog 356 #[.int .i64 n] w fun e w'=>e=.returned (.int .i64 (Pl.root n))∧w=w':=by
 go_enter func356,ntmps356
 go_wp2
 go_loop [3,4] (fun a b=> ∃lo hi:Int,Pl.gN n lo hi∧a=.int .i64 lo∧b=.int .i64 hi) (fun a b=>(intOf b-intOf a).toNat)
 case atStart=>exact⟨0,3037000499,.start n,rfl,rfl⟩
 case round=>
  obtain⟨lo,hi,hI,rfl,rfl⟩:=hrel
  by_cases hl:lo<hi
  ·obtain⟨m1,m2⟩:=hI.mid hl
   have b0:=hI.1
   have b1:=hI.2.2.1
   have s0:=Pl.sq_nonneg (lo+(hi-lo+1)/2)
   have s1:=Pl.Fj (show 0<=lo+(hi-lo+1)/2 by omega) (by omega)
   have H:=Lib.hid hI;clear hI
   go_wp2
   ·go_round
    case rel=>exact⟨_,_,H.out.up m1 m2 (by assumption),rfl,rfl⟩
    case measure=>first|(simp[intOf];done)|(simp[intOf];omega)
   ·go_round
    case rel=>exact⟨_,_,H.out.down m1 m2 (by omega),rfl,rfl⟩
    case measure=>first|(simp[intOf];done)|(simp[intOf];omega)
  ·obtain rfl:lo=hi:=by have:=hI.2.1;omega
   have H:=Lib.hid hI;clear hI
   go_wp2
   go_ret
   exact⟨aH (Pl.Az H.out.done),rfl⟩
theorem KA (n:Int)(w:World):Calls prog 360 #[.int .i64 n] w fun e w'=>e=.returned (.int .i64 (Pl.gT n))∧w=w':=by
 obtain⟨b0,b1,b2,b3⟩:=Pl.pV n
 go_enter func360,ntmps360
 go_wp2_with (go_at_call 356;refine(Kz _ _).mono ?_;rintro e w' ⟨rfl,rfl⟩)
 all_goals go_ret
 all_goals exact⟨aH (by grind [Pl.gT]),rfl⟩
