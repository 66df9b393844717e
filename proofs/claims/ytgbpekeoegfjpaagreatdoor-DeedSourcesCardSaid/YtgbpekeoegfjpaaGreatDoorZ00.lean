/- Texts of mine, merged: PlA, Mem, AA. -/
import Derived.Test.YtgbpekeoegfjpaaGreatDoorProg
import Derived.WalkKit
import Derived.WalkLawsBesides
import Derived.WalkSpells
import Derived.Handy
import Derived.Lib.Hide
import Derived.Great.BuildSlice
import Derived.Deep.QuietTactic
import Derived.BigQuiet
import Derived.Deep.RegionHeld3
import Derived.Deep.DeepCutAuto
set_option maxRecDepth 100000
namespace Go.Proofs.YtgbpekeoegfjpaaGreatDoor
open Go.RowKit
theorem lO {α:Type}{a:Array α}{i:Nat}{x:α}(h:a[i]?=some x):i<a.size:=(Array.getElem?_eq_some_iff.1 h).1
/-- Where a call leaves blocks below n alone, an old block stands as it stood. -/
theorem kE {n g:Nat}{x:Obj}{w0 w1 w2:World}(hx:Below n w1 w2)(k:w0.heap[g]?=some x)(h1:g<w0.heap.size->g<n:=by exact id)(h2:w1.heap[g]?=w0.heap[g]?:=by rfl):w2.heap[g]?=some x:=
 (hx.block g (h1 (lO k))).trans (h2.trans k)
theorem kB {n g:Nat}{t:TypeId}{cs:Array Value}{w0 w1 w2:World}(hx:Below n w1 w2)(k:w0.heap[g]?=some (.cells cs t (0,0)))
  (h1:g<w0.heap.size->g<n:=by intro hlt;first|exact hlt|omega|(simp;done)|(simp;omega))
  (h2:g<w0.heap.size->w1.heap[g]?=w0.heap[g]?:=by intro hlt;first|(with_reducible rfl)|exact Below.heap_alloc _ _ _ hlt|rfl):
  w2.heap[g]?=some (.cells cs t (0,0))∧(∀j,w2.cell? ⟨g,j,none⟩=cs[j]?)∧(∀j,w2.frozen? ⟨g,j,none⟩=false)∧g<w2.heap.size:=by
 have h:=(hx.block g (h1 (lO k))).trans ((h2 (lO k)).trans k)
 exact⟨h,fun j=>cell_of_row w2 g j cs t (0,0) h,fun j=>frozen_of_row w2 g j cs t h,lO h⟩
theorem q1 {α:Type}{l:List α}{i:Nat}{a:α}:l.toArray.setIfInBounds i a=(l.set i a).toArray:=List.setIfInBounds_toArray ..
theorem q2 {α:Type}{x:α}{l:List α}{a:α}:(x::l).set 0 a=a::l:=List.set_cons_zero
theorem q3 {α:Type}{x:α}{l:List α}{n:Nat}{a:α}:(x::l).set (n+1) a=x::l.set n a:=List.set_cons_succ
/-- Short names that stand for rows of cells (coercions write them out). -/
inductive CT |mk
def i2 (_ _:Int):CT:=.mk
instance (a b : Int) : CoeDep CT (i2 a b) (Array Value) := ⟨#[.int .i64 a, .int .i64 b]⟩
def i3 (_ _ _:Int):CT:=.mk
instance (a b c : Int) : CoeDep CT (i3 a b c) (Array Value) := ⟨#[.int .i64 a, .int .i64 b, .int .i64 c]⟩
def i4 (_ _ _ _:Int):CT:=.mk
instance (a b c d : Int) : CoeDep CT (i4 a b c d) (Array Value) := ⟨#[.int .i64 a, .int .i64 b, .int .i64 c, .int .i64 d]⟩
def i5 (_ _ _ _ _:Int):CT:=.mk
instance (a b c d e : Int) : CoeDep CT (i5 a b c d e) (Array Value) := ⟨#[.int .i64 a, .int .i64 b, .int .i64 c, .int .i64 d, .int .i64 e]⟩
def i6 (_ _ _ _ _ _:Int):CT:=.mk
instance (a b c d e f : Int) : CoeDep CT (i6 a b c d e f) (Array Value) := ⟨#[.int .i64 a, .int .i64 b, .int .i64 c, .int .i64 d, .int .i64 e, .int .i64 f]⟩
def i7 (_ _ _ _ _ _ _:Int):CT:=.mk
instance (a b c d e f g : Int) : CoeDep CT (i7 a b c d e f g) (Array Value) := ⟨#[.int .i64 a, .int .i64 b, .int .i64 c, .int .i64 d, .int .i64 e, .int .i64 f, .int .i64 g]⟩
def i8 (_ _ _ _ _ _ _ _:Int):CT:=.mk
instance (a b c d e f g h : Int) : CoeDep CT (i8 a b c d e f g h) (Array Value) := ⟨#[.int .i64 a, .int .i64 b, .int .i64 c, .int .i64 d, .int .i64 e, .int .i64 f, .int .i64 g, .int .i64 h]⟩
def z6 :CT:=.mk
instance : CoeDep CT z6 (Array Value) := ⟨#[.int .i64 0, .int .i64 0, .int .i64 0, .int .i64 0, .int .i64 0, .int .i64 0]⟩
def z13 :CT:=.mk
instance : CoeDep CT z13 (Array Value) := ⟨#[.int .u8 0, .int .i64 0, .int .i64 0, .int .i64 0, .int .i64 0, .int .i64 0, .int .i64 0, .int .i64 0, .int .i64 0, .int .i64 0, .int .i64 0, .int .i64 0, .int .i64 0]⟩
def ka (_ _ _ _ _ _ _:Int):CT:=.mk
instance (a b c d e f g : Int) : CoeDep CT (ka a b c d e f g) (Array Value) := ⟨#[.int .u8 a, .int .i64 b, .int .i64 c, .int .i64 d, .int .i64 e, .int .i64 f, .int .i64 g, .int .i64 0, .int .i64 0, .int .i64 0, .int .i64 0, .int .i64 0, .int .i64 0]⟩
def kA13 (_ _ _ _ _ _ _ _ _ _ _ _ _:Int):CT:=.mk
instance (a b c d e f g h i j k l m : Int) : CoeDep CT (kA13 a b c d e f g h i j k l m) (Array Value) := ⟨#[.int .u8 a, .int .i64 b, .int .i64 c, .int .i64 d, .int .i64 e, .int .i64 f, .int .i64 g, .int .i64 h, .int .i64 i, .int .i64 j, .int .i64 k, .int .i64 l, .int .i64 m]⟩
end Go.Proofs.YtgbpekeoegfjpaaGreatDoor
/- Plain words and plain laws of courses. -/
namespace Go.Proofs.YtgbpekeoegfjpaaGreatDoor
namespace Pl
def inB (x a b:Int):Bool:=decide (a<=x∧x<=b)
def err (ok:Bool):Int:=if ok then 0 else 1
def chainOk (x s:Int):Bool:=decide ((-500<=x∧x<=500)∧0<=s∧s<=200)
def courseOk (b n l y x s:Int):Bool:=decide ((0<=b∧b<=359)∧(0<=n∧n<=30)∧(1<=l∧l<=100000)∧(1<=y∧y<=3000))&&chainOk x s
def tab :List Int:=[0,175,349,523,698,872,1045,1219,1392,1564,
  1736,1908,2079,2250,2419,2588,2756,2924,3090,3256,
  3420,3584,3746,3907,4067,4226,4384,4540,4695,4848,
  5000,5150,5299,5446,5592,5736,5878,6018,6157,6293,
  6428,6561,6691,6820,6947,7071,7193,7314,7431,7547,
  7660,7771,7880,7986,8090,8192,8290,8387,8480,8572,
  8660,8746,8829,8910,8988,9063,9135,9205,9272,9336,
  9397,9455,9511,9563,9613,9659,9703,9744,9781,9816,
  9848,9877,9903,9925,9945,9962,9976,9986,9994,9998,
  10000]
def sinH (d:Int):Int:=if d<=90 then tab[d.toNat]?.getD 0 else tab[(180-d).toNat]?.getD 0
def sin (d:Int):Int:=if d%360<=180 then sinH (d%360)else-sinH (d%360-180)
def cos (d:Int):Int:=sin (d%360+90)
theorem tmod360 (d:Int):d.tmod 360=if 0<=d∨d%360=0 then d%360 else d%360-360:=by
  rw[Int.tmod_eq_emod]
  split<;>split<;>omega
theorem tab_bd (n:Nat):0<=tab[n]?.getD 0∧tab[n]?.getD 0<=10000:=by
  rcases Nat.lt_or_ge n 91 with h|h
  ·exact(by decide+kernel: ∀m:Fin 91,0<=tab[m.1]?.getD 0∧tab[m.1]?.getD 0<=10000) ⟨n,h⟩
  ·rw[List.getElem?_eq_none (by have:tab.length=91:=rfl;omega)];decide
theorem sinH_bd (d:Int):0<=sinH d∧sinH d<=10000:=by unfold sinH;split<;>exact tab_bd _
theorem sin_bd (d:Int): -10000<=sin d∧sin d<=10000:=by
  unfold sin;split
  ·have:=sinH_bd (d%360);omega
  ·have:=sinH_bd (d%360-180);omega
theorem cos_bd (d:Int): -10000<=cos d∧cos d<=10000:=sin_bd _
end Pl
namespace Pl
/-! ### Roots -/
def IsRoot (n r:Int):Prop:=0<=r∧r<=3037000499∧(n<0->r=0)∧(0<=n->r*r<=n)∧(r<3037000499->n<(r+1)*(r+1))
def rootGo (n:Int):Nat->Int->Int->Int
  |0,low,_=>low
  |k+1,low,high=>if low<high then (if (low+(high-low+1)/2)*(low+(high-low+1)/2)<=n then rootGo n k (low+(high-low+1)/2) high else rootGo n k low (low+(high-low+1)/2-1))else low
def root (n:Int):Int:=rootGo n 33 0 3037000499
def rootUp (n:Int):Int:=if root n*root n<n then root n+1 else root n
theorem sq_le {a b:Int}(h0:0<=a)(h:a<=b):a*a<=b*b:=Int.mul_le_mul h h h0 (by omega)
theorem sq_nonneg (a:Int):0<=a*a:=by
  rcases Int.le_total 0 a with h|h
  ·exact Int.mul_nonneg h h
  ·have:=Int.mul_nonneg (show 0<= -a by omega) (show 0<= -a by omega);rwa[Int.neg_mul_neg]at this
theorem sq_max {a:Int}(h0:0<=a)(h:a<=3037000499):a*a<=9223372030926249001:=sq_le h0 h
theorem IsRoot.unique {n r s:Int}(h:IsRoot n r)(k:IsRoot n s):r=s:=by
  obtain⟨h0,h1,h2,h3,h4⟩:=h
  obtain⟨k0,k1,k2,k3,k4⟩:=k
  rcases Int.lt_or_le n 0 with hn|hn
  ·rw[h2 hn,k2 hn]
  · rcases Int.lt_trichotomy r s with hlt|he|hgt
    ·have:=h4 (by omega);have:=sq_le (show 0<=r+1 by omega) (show r+1<=s by omega);have:=k3 hn;omega
    ·exact he
    ·have:=k4 (by omega);have:=sq_le (show 0<=s+1 by omega) (show s+1<=r by omega);have:=h3 hn;omega
def RootInv (n low high:Int):Prop:=0<=low∧low<=high∧high<=3037000499∧(n<0->low=0)∧(0<=n->low*low<=n)∧(high<3037000499->n<(high+1)*(high+1))
theorem RootInv.start (n:Int):RootInv n 0 3037000499:=⟨by omega,by omega,by omega,fun _=>rfl,fun h=>by simpa using h,fun h=>by omega⟩
theorem RootInv.done {n low:Int}(h:RootInv n low low):IsRoot n low:=by
  obtain⟨h0,_,h2,h3,h4,h5⟩:=h;exact⟨h0,h2,h3,h4,h5⟩
theorem RootInv.mid {n low high:Int}(h:RootInv n low high)(hl:low<high):low<low+(high-low+1)/2∧low+(high-low+1)/2<=high:=by
  obtain⟨h0,h1,h2,_⟩:=h;omega
theorem RootInv.up {n low high m:Int}(h:RootInv n low high)(hl:low<m)(hm:m<=high)(hn:m*m<=n):RootInv n m high:=by
  obtain⟨h0,h1,h2,h3,h4,h5⟩:=h
  have:=sq_nonneg m
  exact⟨by omega,hm,h2,fun h=>by omega,fun _=>hn,h5⟩
theorem RootInv.down {n low high m:Int}(h:RootInv n low high)(hl:low<m)(hm:m<=high)(hn:n<m*m):RootInv n low (m-1):=by
  obtain⟨h0,h1,h2,h3,h4,h5⟩:=h
  exact⟨h0,by omega,by omega,h3,h4,fun _=>by rw[show m-1+1=m by omega];exact hn⟩
theorem rootGo_is (n:Int)(k:Nat): ∀low high,RootInv n low high->high-low<2^k->IsRoot n (rootGo n k low high):=by
  induction k with
  | zero => intro low high h hk;have:=h.2.1;obtain rfl:low=high:=by simp at hk;omega
            exact h.done
  | succ k ih=>
    intro low high h hk
    have hp:(2:Int)^(k+1)=2*2^k:=by rw[Int.pow_succ];omega
    unfold rootGo
    split
    · rename_i hl
      obtain⟨h1,h2⟩:=h.mid hl
      split
      ·rename_i hn;exact ih _ _ (h.up h1 h2 hn) (by omega)
      ·rename_i hn;exact ih _ _ (h.down h1 h2 (by omega)) (by omega)
    · have:=h.2.1;obtain rfl:low=high:=by omega
      exact h.done
theorem root_is (n:Int):IsRoot n (root n):=rootGo_is n 33 0 3037000499 (.start n) (by decide)
theorem root_eq {n r:Int}(h:IsRoot n r):r=root n:=h.unique (root_is n)
theorem root_bd (n:Int):0<=root n∧root n<=3037000499∧0<=root n*root n∧root n*root n<=9223372030926249001:=by
  obtain⟨h0,h1,_⟩:=root_is n;exact⟨h0,h1,sq_nonneg _,sq_max h0 h1⟩
def BitInv (n r:Int)(k:Nat):Prop:=0<=r∧r<=3037000499∧k<=32∧r*r<=n∧0<=n∧(r+2^k<=3037000499->n<(r+2^k)*(r+2^k))
theorem BitInv.start {n:Int}(h:0<=n):BitInv n 0 32:=⟨by omega,by omega,by omega,by simpa using h,h,fun h=>by simp at h⟩
theorem BitInv.done {n r:Int}(h:BitInv n r 0):IsRoot n r:=by
  obtain⟨h0,h1,_,h3,h4,h5⟩:=h
  exact⟨h0,h1,fun h=>by omega,fun _=>h3,fun h=>h5 (by simp;omega)⟩
theorem BitInv.no {n r m:Int}{k:Nat}(h:BitInv n r (k+1))(hm:m=r+2^k)(h2: ¬(m<=3037000499∧m*m<=n)):BitInv n r k:=by
  subst hm
  obtain⟨a0,a1,a2,a3,a4,a5⟩:=h
  exact⟨a0,a1,by omega,a3,a4,fun h=>by
    rcases Int.lt_or_le n ((r+2^k)*(r+2^k))with h'|h'
    ·exact h'
    ·exact absurd ⟨h,h'⟩ h2⟩
end Pl
namespace Pl
def varsGo :Int->List (Int×Int)->Bool
  |_,[]=>true
  |p,q::l=>inB q.1 (p+1) 3000&&inB q.2 (-60) 60&&varsGo q.1 l
def vars (l:List (Int×Int)):Int:=if 40<l.length then 2 else err (varsGo 0 l)
def declGo (year:Int):Int×Bool->List (Int×Int)->Int×Bool
  |s,[]=>s
  |s,q::l=>declGo year (if q.1<=year then (q.2,true)else s) l
def decl (l:List (Int×Int))(year:Int):Int×Bool:=if vars l=0 then declGo year (0,false) l else (0,false)
theorem varsGo_drop {p:Int}{l:List (Int×Int)}{k:Nat}(hk:k<l.length):varsGo p (l.drop k)=(inB l[k].1 (p+1) 3000&&inB l[k].2 (-60) 60&&varsGo l[k].1 (l.drop (k+1))):=by
  rw[List.drop_eq_getElem_cons hk];rfl
theorem declGo_drop {y:Int}{s:Int×Bool}{l:List (Int×Int)}{k:Nat}(hk:k<l.length):declGo y s (l.drop k)=declGo y (if l[k].1<=y then (l[k].2,true)else s) (l.drop (k+1)):=by
  rw[List.drop_eq_getElem_cons hk];rfl
def prevYear (l:List (Int×Int))(k:Nat):Int:=if k=0 then 0 else (l[k-1]?.getD (0,0)).1
theorem later {l:List (Int×Int)}{y:Int}{k:Nat}(hk:k<l.length)(hy:y<l[k].1)(h: ∀(j:Nat) x,k+1<=j->l[j]?=some x->y<x.1): ∀(j:Nat) x,k<=j->l[j]?=some x->y<x.1:=by
  intro j x hj hx
  rcases Nat.lt_or_eq_of_le hj with hlt|rfl
  ·exact h j x hlt hx
  ·rw[List.getElem?_eq_getElem hk]at hx;cases hx;exact hy
theorem varsGo_bd : ∀(l:List (Int×Int)) (p:Int),varsGo p l=true-> ∀x∈l,-60<=x.2∧x.2<=60
  | [],_,_,x,hx=>by cases hx
  | q::l,p,h,x,hx=>by
    unfold varsGo at h
    simp only[Bool.and_eq_true]at h
    rcases List.mem_cons.1 hx with rfl|hx
    ·have:=h.1.2;unfold inB at this;simpa using this
    ·exact varsGo_bd l _ h.2 x hx
theorem declGo_bd {y:Int}: ∀(l:List (Int×Int)) (s:Int×Bool),(-60<=s.1∧s.1<=60)->(∀x∈l,-60<=x.2∧x.2<=60)-> -60<=(declGo y s l).1∧(declGo y s l).1<=60
  | [],_,h,_=>h
  | q::l,s,h,k=>by
    unfold declGo
    refine declGo_bd l _ ?_ fun x hx=>k x (by simp[hx])
    split
    ·exact k q (by simp)
    ·exact h
theorem decl_bd (l:List (Int×Int)) (y:Int): -60<=(decl l y).1∧(decl l y).1<=60:=by
  unfold decl
  split
  · rename_i h
    have h2:varsGo 0 l=true:=by
      unfold vars at h;split at h
      ·cases h
      · unfold err at h;split at h
        ·assumption
        ·cases h
    exact declGo_bd l _ (by decide) (varsGo_bd l 0 h2)
  ·decide
def stepOk (dx dy:Int):Bool:=decide (dx≠0∧(-100000<=dx∧dx<=100000)∧ -100000<=dy∧dy<=100000)
end Pl
namespace Pl
def near (l x s:Int):Int:=l*(10000+x-s)
def far (l x s:Int):Int:=l*(10000+x+s)
def mid (b east:Int):Int:=(b+east+90)%360-90
def misfit (lo hi dx ne fa dy:Int):Int:=
  if ¬(0<hi∧lo<180)then 1
  else if ¬(lo<=0∨dy*sin lo<=dx*cos lo)then 2
  else if ¬(180<=hi∨dx*cos hi<=dy*sin hi)then 3
  else if ¬(100000000*(dx*dx+dy*dy)<=fa*fa)then 4
  else if ¬(¬(hi<=90∨90<=lo)∨ne*ne<=100000000*(dx*dx+dy*dy))then 5
  else 0
def QOk (lo hi dx ne fa:Int):Prop:= -120<=lo∧lo<=hi∧hi<=300∧1<=dx∧dx<=100000∧0<=ne∧ne<=1070000000∧0<=fa∧fa<=1070000000
theorem mul_le_of {a b A B:Int}(h0:0<=a)(h1:a<=A)(k0:0<=b)(k1:b<=B):0<=a*b∧a*b<=A*B:=
  ⟨Int.mul_nonneg h0 k0,Int.mul_le_mul h1 k1 k0 (by omega)⟩
theorem mul_abs_of {a b A B:Int}(h0: -A<=a)(h1:a<=A)(k0: -B<=b)(k1:b<=B): -(A*B)<=a*b∧a*b<=A*B:=by
  have hA:0<=A:=by omega
  have hB:0<=B:=by omega
  rcases Int.le_total 0 a with ha|ha<;>rcases Int.le_total 0 b with hb|hb
  ·have:=mul_le_of ha h1 hb k1;have:=Int.mul_nonneg hA hB;omega
  ·have:=mul_le_of ha h1 (show 0<= -b by omega) (show-b<=B by omega);rw[Int.mul_neg]at this;have:=Int.mul_nonneg hA hB;omega
  ·have:=mul_le_of (show 0<= -a by omega) (show-a<=A by omega) hb k1;rw[Int.neg_mul]at this;have:=Int.mul_nonneg hA hB;omega
  ·have:=mul_le_of (show 0<= -a by omega) (show-a<=A by omega) (show 0<= -b by omega) (show-b<=B by omega);rw[Int.neg_mul_neg]at this;have:=Int.mul_nonneg hA hB;omega
theorem len_bd {l x s:Int}(h0:1<=l)(h1:l<=100000)(h2: -500<=x)(h3:x<=500)(h4:0<=s)(h5:s<=200):
    (0<=l*(10000+x-s)∧l*(10000+x-s)<=1070000000)∧(0<=l*(10000+x+s)∧l*(10000+x+s)<=1070000000):=by
  have a:=mul_le_of (show 0<=l by omega) h1 (show 0<=10000+x-s by omega) (show 10000+x-s<=10700 by omega)
  have b:=mul_le_of (show 0<=l by omega) h1 (show 0<=10000+x+s by omega) (show 10000+x+s<=10700 by omega)
  omega
end Pl
namespace Pl
structure Crs where
  b:Int
  n:Int
  l:Int
  y:Int
  x:Int
  s:Int
def Crs.ok (c:Crs):Bool:=courseOk c.b c.n c.l c.y c.x c.s
def commonE (v:List (Int×Int))(cs:List Crs):Int:=
  if vars v≠0 then vars v else if cs.all Crs.ok then (if cs.all (fun c=>(decl v c.y).2)then 0 else 20)else 1
theorem all_take_succ {α:Type}(p:α->Bool)(l:List α)(k:Nat)(hk:k<l.length):(l.take (k+1)).all p=((l.take k).all p&&p l[k]):=by
  rw[List.take_succ_eq_append_getElem hk,List.all_append];simp
theorem all_not {α:Type}{p:α->Bool}{l:List α}{k:Nat}(hk:k<l.length)(h:p l[k]=false):l.all p=false:=by
  rw[List.all_eq_false];exact⟨l[k],List.getElem_mem hk,by rw[h];simp⟩
theorem Crs.ok_iff {c:Crs}(h:c.ok=true):(0<=c.b∧c.b<=359)∧(0<=c.n∧c.n<=30)∧(1<=c.l∧c.l<=100000)∧(1<=c.y∧c.y<=3000)∧(-500<=c.x∧c.x<=500)∧0<=c.s∧c.s<=200:=by
  unfold Crs.ok courseOk chainOk at h
  simp only[Bool.and_eq_true,decide_eq_true_eq]at h
  omega
theorem floor_up {a b:Int}(hb:1<=b)(h:a.tmod b<0):a.tdiv b-1=a/b:=by
  rw[Int.tmod_eq_emod]at h
  rw[Int.tdiv_eq_ediv]
  split at h
  ·have:=Int.emod_nonneg a (show b≠0 by omega);omega
  ·rename_i hc;rw[if_neg hc,Int.sign_eq_one_of_pos (by omega)];omega
theorem floor_eq {a b:Int}(hb:1<=b)(h: ¬a.tmod b<0):a.tdiv b=a/b:=by
  rw[Int.tmod_eq_emod]at h
  rw[Int.tdiv_eq_ediv]
  split at h
  ·rename_i hc;rw[if_pos hc];omega
  ·have:=Int.emod_lt_of_pos a (show 0<b by omega);omega
theorem tdiv_bd {a b:Int}(hb:1<=b):(0<=a->0<=a.tdiv b∧a.tdiv b<=a)∧(a<=0->a<=a.tdiv b∧a.tdiv b<=0):=by
  constructor
  ·intro h;rw[Int.tdiv_eq_ediv_of_nonneg h];exact⟨Int.ediv_nonneg h (by omega),Int.ediv_le_self _ h⟩
  · intro h
    have e:a.tdiv b= -((-a)/b):=by rw[<-Int.tdiv_eq_ediv_of_nonneg (show 0<= -a by omega),Int.neg_tdiv,Int.neg_neg]
    have h1:=Int.ediv_nonneg (show 0<= -a by omega) (show 0<=b by omega)
    have h2:=Int.ediv_le_self b (show 0<= -a by omega)
    omega
theorem ediv_bd {a b:Int}(hb:1<=b):(0<=a->0<=a/b∧a/b<=a)∧(a<=0->a<=a/b∧a/b<=0):=by
  constructor
  ·intro h;exact⟨Int.ediv_nonneg h (by omega),Int.ediv_le_self _ h⟩
  · intro h
    refine⟨?_,?_⟩
    · rw[Int.le_ediv_iff_mul_le (by omega)]
      have:=Int.mul_nonneg (show 0<= -a by omega) (show 0<=b-1 by omega)
      rw[Int.neg_mul,Int.mul_sub]at this;omega
    · have:a/b<=0/b:=Int.ediv_le_ediv (by omega) h
      simpa using this
end Pl
namespace Pl
def Crs.back (c:Crs):Crs:=⟨(c.b+180)%360,c.n,c.l,c.y,c.x,c.s⟩
def Crs.lo (v:List (Int×Int))(c:Crs):Int:=mid c.b (decl v c.y).1-c.n
def Crs.hi (v:List (Int×Int))(c:Crs):Int:=mid c.b (decl v c.y).1+c.n
def Crs.ne (c:Crs):Int:=near c.l c.x c.s
def Crs.fa (c:Crs):Int:=far c.l c.x c.s
def fitE (v:List (Int×Int))(c:Crs)(dx dy:Int):Int:=misfit (c.lo v) (c.hi v) dx c.ne c.fa dy
def fitv (v:List (Int×Int))(c:Crs)(dx dy:Int):Int:=if dx<0 then fitE v c.back (-dx) (-dy)else fitE v c dx dy
def stepE (v:List (Int×Int))(c:Crs)(dx dy:Int):Int:=if commonE v [c]≠0 then commonE v [c]else err (stepOk dx dy)
def fitR (v:List (Int×Int))(c:Crs)(dx dy:Int):Int:=if stepE v c dx dy=0 then fitv v c dx dy else 0
theorem stepOk_iff {dx dy:Int}(h:stepOk dx dy=true):dx≠0∧ -100000<=dx∧dx<=100000∧ -100000<=dy∧dy<=100000:=by
  unfold stepOk at h;simp only[decide_eq_true_eq]at h;omega
theorem mid_bd (b e:Int): -90<=mid b e∧mid b e<=269:=by unfold mid;omega
theorem Crs.qok {v:List (Int×Int)}{c:Crs}{dx:Int}(h:c.ok=true)(h0:1<=dx)(h1:dx<=100000):QOk (c.lo v) (c.hi v) dx c.ne c.fa:=by
  obtain⟨⟨g0,g1⟩,⟨g2,g3⟩,⟨g4,g5⟩,⟨g6,g7⟩,⟨g8,g9⟩,g10,g11⟩:=c.ok_iff h
  have m:=mid_bd c.b (decl v c.y).1
  have l:=len_bd g4 g5 g8 g9 g10 g11
  unfold QOk lo hi ne fa near far
  omega
theorem Crs.back_ok {c:Crs}(h:c.ok=true):c.back.ok=true:=by
  unfold ok courseOk at*
  unfold back
  simp only[Bool.and_eq_true,decide_eq_true_eq]at*
  exact⟨by omega,h.2⟩
theorem commonE_one {v:List (Int×Int)}{c:Crs}(h:commonE v [c]=0):vars v=0∧c.ok=true∧(decl v c.y).2=true:=by
  unfold commonE at h
  simp only[List.all_cons,List.all_nil,Bool.and_true]at h
  split at h
  ·contradiction
  · split at h
    · split at h
      ·exact⟨by omega,by assumption,by assumption⟩
      ·cases h
    ·cases h
end Pl
namespace Pl
def room (dx fa:Int):Int:=fa*fa/100000000-dx*dx
def short (dx ne:Int):Int:= -(-(ne*ne)/100000000)-dx*dx
def reach (dx fa:Int):Int:=min (root (room dx fa)) 100000
def topBy (lo dx r:Int):Int:=if 0<lo then min r (dx*cos lo/sin lo)else r
def lowBy (hi dx r:Int):Int:=if hi<180 then max r (-(-(dx*cos hi)/sin hi))else r
def ends (lo hi dx ne fa:Int):Int×Int:=
  let least:=rootUp (short dx ne)
  let low:=lowBy hi dx (-reach dx fa)
  let high:=topBy lo dx (reach dx fa)
  (if hi<=90 then max low least else low,if ¬hi<=90∧90<=lo then min high (-least)else high)
def ivl (lo hi dx ne fa:Int):Int×Int×Bool:=
  if hi<=0∨180<=lo∨room dx fa<0∨(ends lo hi dx ne fa).2<(ends lo hi dx ne fa).1 then (0,0,false)
  else ((ends lo hi dx ne fa).1,(ends lo hi dx ne fa).2,true)
theorem sin_pos {d:Int}(h0:0<d)(h1:d<180):1<=sin d:=by
  have key: ∀m:Fin 180,m.1=0∨1<=sinH (m.1:Int):=by decide+kernel
  have e:sin d=sinH d:=by unfold sin;rw[show d%360=d by omega,if_pos (by omega)]
  rw[e]
  have:=key ⟨d.toNat,by omega⟩
  simp only[Int.toNat_of_nonneg (show 0<=d by omega)]at this
  rcases this with h|h
  ·omega
  ·exact h
theorem rootUp_bd (n:Int):0<=rootUp n∧rootUp n<=3037000500:=by
  obtain⟨h0,h1,_⟩:=root_is n
  unfold rootUp;split<;>omega
end Pl
namespace Pl
def flip (r:Int×Int×Bool):Int×Int×Bool:=(-r.2.1,-r.1,r.2.2)
def ivlE (v:List (Int×Int))(c:Crs)(dx:Int):Int×Int×Bool:=ivl (c.lo v) (c.hi v) dx c.ne c.fa
def ivlC (v:List (Int×Int))(c:Crs)(dx:Int):Int×Int×Bool:=if dx<0 then flip (ivlE v c.back (-dx))else ivlE v c dx
def comGo (v:List (Int×Int))(dx:Int):Int->Int->List Crs->Int×Int×Bool
  |lo,hi,[]=>(lo,hi,true)
  |lo,hi,c::cs=>if (ivlC v c dx).2.2=false∨min hi (ivlC v c dx).2.1<max lo (ivlC v c dx).1 then (0,0,false)else comGo v dx (max lo (ivlC v c dx).1) (min hi (ivlC v c dx).2.1) cs
def comE (v:List (Int×Int))(cs:List Crs)(dx:Int):Int:=
  if 40<cs.length then 2 else if cs.length=0 then 5 else if commonE v cs≠0 then commonE v cs else err (stepOk dx 0)
def com (v:List (Int×Int))(cs:List Crs)(dx:Int):Int×Int×Bool:=if comE v cs dx=0 then comGo v dx (-100000) 100000 cs else (0,0,false)
theorem comGo_drop {v:List (Int×Int)}{dx lo hi:Int}{l:List Crs}{k:Nat}(hk:k<l.length):comGo v dx lo hi (l.drop k)=
    if (ivlC v l[k] dx).2.2=false∨min hi (ivlC v l[k] dx).2.1<max lo (ivlC v l[k] dx).1 then (0,0,false)else comGo v dx (max lo (ivlC v l[k] dx).1) (min hi (ivlC v l[k] dx).2.1) (l.drop (k+1)):=by
  rw[List.drop_eq_getElem_cons hk];rfl
theorem reach_bd (dx fa:Int):0<=reach dx fa∧reach dx fa<=100000:=by
  obtain⟨h0,_⟩:=root_bd (room dx fa);unfold reach;omega
theorem topBy_le (lo dx r:Int):topBy lo dx r<=r:=by unfold topBy;split<;>omega
theorem lowBy_ge (hi dx r:Int):r<=lowBy hi dx r:=by unfold lowBy;split<;>omega
theorem ends_bd (lo hi dx ne fa:Int): -100000<=(ends lo hi dx ne fa).1∧(ends lo hi dx ne fa).2<=100000:=by
  have h:=reach_bd dx fa
  have a:=topBy_le lo dx (reach dx fa)
  have b:=lowBy_ge hi dx (-reach dx fa)
  show-100000<=(if hi<=90 then _ else _)∧(if ¬hi<=90∧90<=lo then _ else _)<=100000
  constructor
  ·split<;>omega
  ·split<;>omega
theorem ivl_bd (lo hi dx ne fa:Int): -100000<=(ivl lo hi dx ne fa).1∧(ivl lo hi dx ne fa).1<=100000∧ -100000<=(ivl lo hi dx ne fa).2.1∧(ivl lo hi dx ne fa).2.1<=100000:=by
  have h:=ends_bd lo hi dx ne fa
  unfold ivl
  split
  ·decide
  ·rename_i hc;simp only[];omega
theorem all_mem {α:Type}{p:α->Bool}{l:List α}(h:l.all p=true){k:Nat}(hk:k<l.length):p l[k]=true:=List.all_eq_true.1 h _ (List.getElem_mem hk)
theorem commonE_all {v:List (Int×Int)}{cs:List Crs}(h:commonE v cs=0):vars v=0∧cs.all Crs.ok=true∧cs.all (fun c=>(decl v c.y).2)=true:=by
  unfold commonE at h
  split at h
  ·contradiction
  · split at h
    · split at h
      ·exact⟨by omega,by assumption,by assumption⟩
      ·cases h
    ·cases h
end Pl
namespace Pl
def fits (v:List (Int×Int))(c:Crs)(dx dy:Int):Bool:=decide (stepE v c dx dy=0∧fitR v c dx dy=0)
def narrower (a b:Crs):Bool:=a.ok&&b.ok&&decide (a.b=b.b∧a.l=b.l∧a.y=b.y∧a.n<=b.n∧b.x-b.s<=a.x-a.s∧a.x+a.s<=b.x+b.s)
theorem err_zero {b:Bool}:err b=0↔b=true:=by unfold err;cases b<;>decide
end Pl
namespace Pl
def fitX (c:Crs)(east dx dy:Int):Int:=misfit (mid c.b east-c.n) (mid c.b east+c.n) dx c.ne c.fa dy
def fitD (c:Crs)(east dx dy:Int):Int:=if dx<0 then fitX c.back east (-dx) (-dy)else fitX c east dx dy
theorem fitv_eq (v:List (Int×Int))(c:Crs)(dx dy:Int):fitv v c dx dy=fitD c (decl v c.y).1 dx dy:=rfl
def opened (v:List (Int×Int))(c:Crs)(dx dy:Int):Int:=if stepE v c dx dy=0 then (decl v c.y).1 else 0
theorem stepE_zero {v:List (Int×Int)}{c:Crs}{dx dy:Int}(h:stepE v c dx dy=0):commonE v [c]=0∧stepOk dx dy=true:=by
  unfold stepE at h
  split at h
  ·contradiction
  ·exact⟨by omega,err_zero.1 h⟩
theorem comE_one (v:List (Int×Int))(c:Crs)(dx:Int):comE v [c] dx=stepE v c dx 0:=by
  unfold comE stepE;simp
theorem ivl_empty {lo hi dx ne fa:Int}(h:(ivl lo hi dx ne fa).2.2=false):ivl lo hi dx ne fa=(0,0,false):=by
  unfold ivl at h ⊢;split at h
  ·rename_i hc;rw[if_pos hc]
  ·cases h
theorem ivl_le {lo hi dx ne fa:Int}:(ivl lo hi dx ne fa).1<=(ivl lo hi dx ne fa).2.1:=by
  unfold ivl;split
  ·decide
  ·rename_i hc;simp only[];omega
theorem ivlC_empty {v:List (Int×Int)}{c:Crs}{dx:Int}(h:(ivlC v c dx).2.2=false):ivlC v c dx=(0,0,false):=by
  unfold ivlC at h ⊢;split at h
  · rename_i hc;rw[if_pos hc]
    have:=ivl_empty (lo:=c.back.lo v) (hi:=c.back.hi v) (dx:= -dx) (ne:=c.back.ne) (fa:=c.back.fa) h
    unfold ivlE;rw[this];rfl
  ·rename_i hc;rw[if_neg hc];exact ivl_empty h
theorem ivlC_bd (v:List (Int×Int))(c:Crs)(dx:Int): -100000<=(ivlC v c dx).1∧(ivlC v c dx).1<=(ivlC v c dx).2.1∧(ivlC v c dx).2.1<=100000:=by
  unfold ivlC flip ivlE;split
  · have:=ivl_bd (c.back.lo v) (c.back.hi v) (-dx) c.back.ne c.back.fa
    have:=ivl_le (lo:=c.back.lo v) (hi:=c.back.hi v) (dx:= -dx) (ne:=c.back.ne) (fa:=c.back.fa)
    simp only[];omega
  · have:=ivl_bd (c.lo v) (c.hi v) dx c.ne c.fa
    have:=ivl_le (lo:=c.lo v) (hi:=c.hi v) (dx:=dx) (ne:=c.ne) (fa:=c.fa)
    omega
theorem com_one (v:List (Int×Int)) (c:Crs) (dx:Int):com v [c] dx=if stepE v c dx 0=0 then ivlC v c dx else (0,0,false):=by
  unfold com
  rw[comE_one]
  split
  · unfold comGo comGo
    obtain⟨h0,h1,h2⟩:=ivlC_bd v c dx
    split
    · rename_i h
      rcases h with h|h
      ·exact(ivlC_empty h).symm
      ·omega
    · rename_i h
      have e:(ivlC v c dx).2.2=true:=by
        cases hh:(ivlC v c dx).2.2 with
        |true=>rfl
        |false=>exact absurd (Or.inl hh) h
      refine Prod.ext (by simp only[];omega) (Prod.ext (by simp only[];omega) e.symm)
  ·rfl
end Pl
namespace Pl
theorem le_floor {a b q:Int}(hb:1<=b):q<=a/b↔q*b<=a:=Int.le_ediv_iff_mul_le (by omega)
theorem ceil_le {a b q:Int}(hb:1<=b): -(-a/b)<=q↔a<=q*b:=by
  have:=le_floor (a:= -a) (b:=b) (q:= -q) hb
  rw[Int.neg_mul]at this;omega
theorem sq_le_abs {a y:Int}(h0: -a<=y)(h1:y<=a):y*y<=a*a:=by
  rcases Int.le_total 0 y with h|h
  ·exact sq_le h h1
  ·have:=sq_le (a:= -y) (b:=a) (by omega) (by omega);rwa[Int.neg_mul_neg]at this
theorem sq_ge_abs {a y:Int}(ha:0<=a)(h:a<=y∨y<= -a):a*a<=y*y:=by
  rcases h with h|h
  ·exact sq_le ha h
  ·have:=sq_le (a:=a) (b:= -y) ha (by omega);rwa[Int.neg_mul_neg]at this
theorem root_next {m:Int}(h:m<=9000000000000000000):m<(root m+1)*(root m+1):=by
  obtain⟨h0,h1,h2,h3,h4⟩:=root_is m
  rcases Int.lt_or_le m 0 with hm|hm
  ·have:=sq_nonneg (root m+1);omega
  · have h5:=h3 hm
    rcases Int.lt_or_le (root m) 3037000499 with hr|hr
    ·exact h4 hr
    · obtain e:root m=3037000499:=by omega
      rw[e]at h5;omega
theorem sq_le_iff {m y:Int}(h0:0<=m)(h1:m<=9000000000000000000):y*y<=m↔ -root m<=y∧y<=root m:=by
  have hn:=root_next h1
  obtain⟨k0,_,_,k3,_⟩:=root_is m
  constructor
  · intro h
    rcases Int.lt_or_le (root m) y with hy|hy
    ·have:=sq_ge_abs (a:=root m+1) (y:=y) (by omega) (by omega);omega
    · rcases Int.lt_or_le y (-root m)with hz|hz
      ·have:=sq_ge_abs (a:=root m+1) (y:=y) (by omega) (by omega);omega
      ·exact⟨hz,hy⟩
  · rintro⟨ha,hb⟩
    have:=sq_le_abs ha hb;have:=k3 h0;omega
theorem le_sq_iff {m y:Int} (h1:m<=9000000000000000000):m<=y*y↔rootUp m<=y∨y<= -rootUp m:=by
  have hn:=root_next h1
  obtain⟨k0,_,k2,k3,_⟩:=root_is m
  have hy0:=sq_nonneg y
  rcases Int.lt_or_le m 0 with hm|hm
  · have e:rootUp m=0:=by unfold rootUp;rw[k2 hm];split<;>omega
    rw[e];omega
  · have k4 :=k3 hm
    by_cases hlt:root m*root m<m
    · have e:rootUp m=root m+1:=by unfold rootUp;rw[if_pos hlt]
      rw[e]
      constructor
      · intro h
        by_cases hy: -root m<=y∧y<=root m
        ·have:=sq_le_abs hy.1 hy.2;omega
        ·omega
      · intro h
        have:=sq_ge_abs (a:=root m+1) (y:=y) (by omega) h;omega
    · have e:rootUp m=root m:=by unfold rootUp;rw[if_neg hlt]
      rw[e]
      constructor
      · intro h
        by_cases hy: -(root m-1)<=y∧y<=root m-1
        · have h2:=sq_le_abs hy.1 hy.2
          have h3:(root m-1)*(root m-1)=root m*root m-2*root m+1:=by
            rw[Int.sub_mul,Int.mul_sub];omega
          omega
        ·omega
      · intro h
        have:=sq_ge_abs (a:=root m) (y:=y) (by omega) h;omega
theorem cos_nonneg {d:Int}(h0:0<=d)(h1:d<=90):0<=cos d:=by
  have key: ∀m:Fin 91,0<=cos (m.1:Int):=by decide+kernel
  have:=key ⟨d.toNat,by omega⟩
  simpa only[Int.toNat_of_nonneg h0]using this
theorem cos_nonpos {d:Int}(h0:90<=d)(h1:d<=180):cos d<=0:=by
  have key: ∀m:Fin 181,m.1<90∨cos (m.1:Int)<=0:=by decide+kernel
  have:=key ⟨d.toNat,by omega⟩
  simp only[Int.toNat_of_nonneg (show 0<=d by omega)]at this
  omega
theorem misfit_zero (lo hi dx ne fa dy:Int):misfit lo hi dx ne fa dy=0↔(0<hi∧lo<180)∧(lo<=0∨dy*sin lo<=dx*cos lo)∧(180<=hi∨dx*cos hi<=dy*sin hi)∧
    100000000*(dx*dx+dy*dy)<=fa*fa∧(¬(hi<=90∨90<=lo)∨ne*ne<=100000000*(dx*dx+dy*dy)):=by
  unfold misfit
  repeat' split
  all_goals omega
theorem fit_iff {lo hi dx ne fa y:Int}(h:QOk lo hi dx ne fa)(y0: -100000<=y)(y1:y<=100000):
    misfit lo hi dx ne fa y=0↔(ivl lo hi dx ne fa).2.2=true∧(ivl lo hi dx ne fa).1<=y∧y<=(ivl lo hi dx ne fa).2.1:=by
  obtain⟨g0,g1,g2,g3,g4,g5,g6,g7,g8⟩:=h
  rw[misfit_zero]
  have hiv:((ivl lo hi dx ne fa).2.2=true∧(ivl lo hi dx ne fa).1<=y∧y<=(ivl lo hi dx ne fa).2.1)↔(0<hi∧lo<180)∧0<=room dx fa∧(ends lo hi dx ne fa).1<=y∧y<=(ends lo hi dx ne fa).2:=by
    unfold ivl
    split
    ·rename_i hc;simp only[Bool.false_eq_true,false_and,false_iff];omega
    ·rename_i hc;simp only[true_and];omega
  rw[hiv]
  by_cases h1:0<hi∧lo<180
  · have p1:=(mul_le_of g7 g8 g7 g8).2
    have p2:=sq_nonneg dx
    have p3:=(mul_le_of g5 g6 g5 g6)
    have p4:=sq_nonneg y
    have e4:100000000*(dx*dx+y*y)<=fa*fa↔y*y<=room dx fa:=by
      have:=le_floor (a:=fa*fa) (b:=100000000) (q:=dx*dx+y*y) (by omega)
      unfold room;omega
    have hr:room dx fa<=9000000000000000000:=by unfold room;omega
    have e5:ne*ne<=100000000*(dx*dx+y*y)↔short dx ne<=y*y:=by
      have:=ceil_le (a:=ne*ne) (b:=100000000) (q:=dx*dx+y*y) (by omega)
      unfold short;omega
    have hs:short dx ne<=9000000000000000000:=by unfold short;omega
    rw[e4,e5,le_sq_iff hs]
    have e2:(lo<=0∨y*sin lo<=dx*cos lo)↔(0<lo->y<=dx*cos lo/sin lo):=by
      by_cases hl:0<lo
      ·rw[le_floor (sin_pos hl h1.2)];simp[hl];omega
      ·simp[hl];omega
    have e3:(180<=hi∨dx*cos hi<=y*sin hi)↔(hi<180-> -(-(dx*cos hi)/sin hi)<=y):=by
      by_cases hl:hi<180
      ·rw[ceil_le (sin_pos h1.1 hl)];simp[hl];omega
      ·simp[hl];omega
    rw[e2,e3]
    have n3:hi<=90->0<= -(-(dx*cos hi)/sin hi):=by
      intro hh
      have hc:=Int.mul_nonneg (show 0<=dx by omega) (cos_nonneg (show 0<=hi by omega) hh)
      have:=(ediv_bd (a:= -(dx*cos hi)) (sin_pos h1.1 (by omega))).2 (by omega)
      omega
    have n2:90<=lo->dx*cos lo/sin lo<=0:=by
      intro hh
      have hc:=Int.mul_nonneg (show 0<=dx by omega) (show 0<= -cos lo by have:=cos_nonpos hh (by omega);omega)
      rw[Int.mul_neg]at hc
      have:=(ediv_bd (a:=dx*cos lo) (sin_pos (show 0<lo by omega) h1.2)).2 (by omega)
      omega
    have hu:=(rootUp_bd (short dx ne)).1
    rcases Int.lt_or_le (room dx fa) 0 with hm|hm
    · constructor
      ·rintro⟨_,_,_,h4,_⟩;omega
      ·rintro⟨_,h4,_⟩;omega
    · rw[sq_le_iff hm hr]
      have hr0:=(root_bd (room dx fa)).1
      unfold ends topBy lowBy reach
      simp only[]
      generalize dx*cos lo/sin lo=T at*
      generalize-(-(dx*cos hi)/sin hi)=L at*
      generalize root (room dx fa)=R at*
      generalize rootUp (short dx ne)=U at*
      have hp: ∃p,min R 100000=p∧p<=R∧p<=100000∧(p=R∨p=100000):=⟨_,rfl,by omega,by omega,by omega⟩
      obtain⟨p,hp,hp0,hp1,hp2⟩:=hp
      rw[hp]
      clear hp hiv e4 e5 e2 e3 p1 p2 p3 p4 hr hs
      by_cases a1:0<lo<;>by_cases a2:hi<180<;>by_cases a3:hi<=90<;>by_cases a4:90<=lo<;>simp only[a1,a2,a3,a4,if_true,if_false,Int.max_le,Int.le_min,true_or,or_true,not_true,not_false_eq_true,false_or,or_false,true_and,and_true,and_false,forall_const,false_imp_iff]at n2 n3 ⊢ <;>omega
  · constructor
    ·rintro⟨h,_⟩;exact absurd h h1
    ·rintro⟨h,_⟩;exact absurd h h1
end Pl
namespace Pl
theorem cot_falls {d:Int}(h0:1<=d)(h1:d<179):cos (d+1)*sin d<=cos d*sin (d+1):=by
  have key: ∀m:Fin 179,m.1=0∨cos ((m.1:Int)+1)*sin (m.1:Int)<=cos (m.1:Int)*sin ((m.1:Int)+1):=by decide+kernel
  have:=key ⟨d.toNat,by omega⟩
  simp only[Int.toNat_of_nonneg (show 0<=d by omega)]at this
  omega
theorem cancel {a b s:Int}(hs:1<=s)(h:a*s<=b*s):a<=b:=by
  have:=Int.le_of_mul_le_mul_right h (show 0<s by omega);exact this
theorem low_wider {lo dx y:Int}(hd:1<=dx)(hlo:lo<180)(h:lo<=0∨y*sin lo<=dx*cos lo):lo-1<=0∨y*sin (lo-1)<=dx*cos (lo-1):=by
  by_cases h1:lo-1<=0
  ·exact .inl h1
  · right
    have h':y*sin lo<=dx*cos lo:=by omega
    have p0:=sin_pos (d:=lo) (by omega) hlo
    have p1:=sin_pos (d:=lo-1) (by omega) (by omega)
    have k:=cot_falls (d:=lo-1) (by omega) (by omega)
    rw[show lo-1+1=lo by omega]at k
    refine cancel p0 ?_
    have a:=Int.mul_le_mul_of_nonneg_right h' (show 0<=sin (lo-1) by omega)
    have b:=Int.mul_le_mul_of_nonneg_left k (show 0<=dx by omega)
    have e1:y*sin (lo-1)*sin lo=y*sin lo*sin (lo-1):=Int.mul_right_comm _ _ _
    have e2:dx*cos (lo-1)*sin lo=dx*(cos (lo-1)*sin lo):=Int.mul_assoc _ _ _
    have e3:dx*cos lo*sin (lo-1)=dx*(cos lo*sin (lo-1)):=Int.mul_assoc _ _ _
    omega
theorem high_wider {hi dx y:Int}(hd:1<=dx)(hhi:0<hi)(h:180<=hi∨dx*cos hi<=y*sin hi):180<=hi+1∨dx*cos (hi+1)<=y*sin (hi+1):=by
  by_cases h1:180<=hi+1
  ·exact .inl h1
  · right
    have h':dx*cos hi<=y*sin hi:=by omega
    have p0:=sin_pos (d:=hi) hhi (by omega)
    have p1:=sin_pos (d:=hi+1) (by omega) (by omega)
    have k:=cot_falls (d:=hi) (by omega) (by omega)
    refine cancel p0 ?_
    have a:=Int.mul_le_mul_of_nonneg_right h' (show 0<=sin (hi+1) by omega)
    have b:=Int.mul_le_mul_of_nonneg_left k (show 0<=dx by omega)
    have e1:y*sin (hi+1)*sin hi=y*sin hi*sin (hi+1):=Int.mul_right_comm _ _ _
    have e2:dx*cos (hi+1)*sin hi=dx*(cos (hi+1)*sin hi):=Int.mul_assoc _ _ _
    have e3:dx*cos hi*sin (hi+1)=dx*(cos hi*sin (hi+1)):=Int.mul_assoc _ _ _
    omega
theorem wider_one {lo hi dx ne fa y:Int}(hd:1<=dx)(h:misfit lo hi dx ne fa y=0):misfit (lo-1) (hi+1) dx ne fa y=0:=by
  rw[misfit_zero]at h ⊢
  obtain⟨⟨h1,h2⟩,h3,h4,h5,h6⟩:=h
  exact⟨by omega,low_wider hd h2 h3,high_wider hd h1 h4,h5,by omega⟩
theorem wider {m dx ne fa y:Int}(hd:1<=dx)(n:Int)(k:Nat)(h:misfit (m-n) (m+n) dx ne fa y=0):misfit (m-(n+k)) (m+(n+k)) dx ne fa y=0:=by
  induction k with
  |zero=>simpa using h
  | succ k ih=>
    have:=wider_one hd ih
    rw[show m-(n+((k+1:Nat):Int))=m-(n+k)-1 by omega,show m+(n+((k+1:Nat):Int))=m+(n+k)+1 by omega]
    exact this
theorem wider_le {m dx ne fa y n k:Int}(hd:1<=dx)(hk:n<=k)(h:misfit (m-n) (m+n) dx ne fa y=0):misfit (m-k) (m+k) dx ne fa y=0:=by
  have:=wider hd n (k-n).toNat h
  rwa[show n+((k-n).toNat:Int)=k by omega]at this
theorem longer {lo hi dx ne fa ne' fa' y:Int}(h0:0<=ne')(h1:ne'<=ne)(h2:0<=fa)(h3:fa<=fa')(h:misfit lo hi dx ne fa y=0):misfit lo hi dx ne' fa' y=0:=by
  rw[misfit_zero]at h ⊢
  obtain⟨h4,h5,h6,h7,h8⟩:=h
  have a:=sq_le h0 h1
  have b:=sq_le h2 h3
  exact⟨h4,h5,h6,by omega,by omega⟩
theorem fitD_wider {a b:Crs}{east dx y:Int}(hb:a.b=b.b)(hn:a.n<=b.n)(h0:0<=b.ne)(h1:b.ne<=a.ne)(h2:0<=a.fa)(h3:a.fa<=b.fa)(hd:dx≠0)(h:fitD a east dx y=0):fitD b east dx y=0:=by
  unfold fitD fitX at h ⊢
  split at h
  · rename_i hc
    rw[if_pos hc]
    refine longer h0 h1 h2 h3 ?_
    show misfit (mid b.back.b east-b.n) (mid b.back.b east+b.n) (-dx) a.ne a.fa (-y)=0
    have e:b.back.b=a.back.b:=by unfold Crs.back;simp only[];rw[hb]
    rw[e]
    exact wider_le (by omega) hn h
  · rename_i hc
    rw[if_neg hc]
    refine longer h0 h1 h2 h3 ?_
    rw[<-hb]
    exact wider_le (by omega) hn h
theorem mul_le_left {l a b:Int}(h0:0<=l)(h:a<=b):l*a<=l*b:=Int.mul_le_mul_of_nonneg_left h h0
theorem narrower_len {a b:Crs}(hl:a.l=b.l)(h0:0<=a.l)(h1:b.x-b.s<=a.x-a.s)(h2:a.x+a.s<=b.x+b.s):b.ne<=a.ne∧a.fa<=b.fa:=by
  unfold Crs.ne Crs.fa near far
  rw[<-hl]
  exact⟨mul_le_left h0 (by omega),mul_le_left h0 (by omega)⟩
end Pl
namespace Pl
end Pl
open Go.RowKit
theorem below_drewN {B:Nat}{a w:World}(h:Below B a w)(n:Nat):Below B a (w.drewN n):=⟨h.os,h.tape,h.output,h.size,h.block⟩
theorem bcell {W w1:World}(hb:Below W.heap.size W w1):(∀b o,b<W.heap.size->w1.cell? ⟨b,o,none⟩=W.cell? ⟨b,o,none⟩)∧(∀b o,b<W.heap.size->w1.frozen? ⟨b,o,none⟩=W.frozen? ⟨b,o,none⟩):=
 ⟨fun b o h=>hb.cell (p:=⟨b,o,none⟩) h,fun b o h=>hb.frozen (p:=⟨b,o,none⟩) h⟩
theorem blk_cells {w:World}{g:Nat}{t:TypeId}{cs:Array Value}(h:w.heap[g]?=some (.cells cs t (0,0))):(∀j,w.cell? ⟨g,j,none⟩=cs[j]?)∧(∀j,w.frozen? ⟨g,j,none⟩=false):=
 ⟨fun j=>cell_of_row w g j cs t (0,0) h,fun j=>frozen_of_row w g j cs t h⟩
theorem heap_at {w:World}{o:Obj}{n:Nat}(h:w.heap.size=n):(w.alloc o).heap[n]?=some o:=by subst h;exact heap_alloc_new _ _
def Seg {α:Type}(enc:α->List Value)(size:Nat)(w:World)(B:Nat)(A:Option Addr)(l:List α):Prop:=
 l=[]∨ ∃b off,A=some ⟨b,off,none⟩∧b<B∧ ∀k x,l[k]?=some x-> ∀j v,(enc x)[j]?=some v->w.cell? ⟨b,off+k*size+j,none⟩=some v
section
variable {α : Type} {enc : α -> List Value} {size : Nat} {w w' : World} {B B' : Nat} {A : Option Addr} {l : List α}
theorem Seg.keep (h:Seg enc size w B A l)(hk: ∀p:Addr,p.block<B->w'.cell? p=w.cell? p):Seg enc size w' B A l:=by
 rcases h with h|⟨b,off,hA,hb,hc⟩
 ·exact .inl h
 ·exact .inr ⟨b,off,hA,hb,fun k x hx j v hv=>(hk _ hb).trans (hc k x hx j v hv)⟩
theorem Seg.more (h:Seg enc size w B A l)(hB:B<=B'):Seg enc size w B' A l:=by
 rcases h with h|⟨b,off,hA,hb,hc⟩
 ·exact .inl h
 ·exact .inr ⟨b,off,hA,by omega,hc⟩
theorem Seg.below (h:Seg enc size w B A l)(hb:Below B w w'):Seg enc size w' B A l:=h.keep fun _ hp=>hb.cell hp
theorem Seg.up (h:Seg enc size w w.heap.size A l)(hb:Below w.heap.size w w'):Seg enc size w' w'.heap.size A l:=(h.below hb).more hb.size
theorem Seg.at_ (h:Seg enc size w B A l){k:Nat}(hk:k<l.length): ∃b off,A=some ⟨b,off,none⟩∧b<B∧ ∀j v,(enc l[k])[j]?=some v->w.cell? ⟨b,off+k*size+j,none⟩=some v:=by
 rcases h with h|⟨b,off,hA,hb,hc⟩
 ·subst h;simp at hk
 ·exact⟨b,off,hA,hb,fun j v hv=>hc k l[k] (List.getElem?_eq_getElem hk) j v hv⟩
end
def encVar (p:Int×Int):List Value:=[.int .i64 p.1,.int .i64 p.2]
abbrev Vars := @Seg (Int×Int) encVar 2
theorem Vars.at2 {w:World}{B:Nat}{A:Option Addr}{l:List (Int×Int)}(h:Vars w B A l){k:Nat}(hk:k<l.length):
  ∃b off,A=some ⟨b,off,none⟩∧b<B∧w.cell? ⟨b,off+k*2,none⟩=some (.int .i64 l[k].1)∧w.cell? ⟨b,off+k*2+1,none⟩=some (.int .i64 l[k].2):=by
 obtain⟨b,off,hA,hb,hc⟩:=Seg.at_ h hk
 exact⟨b,off,hA,hb,hc 0 _ rfl,hc 1 _ rfl⟩
end Go.Proofs.YtgbpekeoegfjpaaGreatDoor
/- Walks of the small functions of course: checks, sines, roots. -/
namespace Go.Proofs.YtgbpekeoegfjpaaGreatDoor
open Go.RowKit
theorem ret_int {k:IntKind}{a b:Int}(h:a=b):Ending.returned (.int k a)=.returned (.int k b):=by rw[h]
theorem ret_bool {a b:Bool}(h:a=b):Ending.returned (.bool a)=.returned (.bool b):=by rw[h]
theorem in_a (x a b:Int)(w:World):
  Calls Tryz.prog 149 (i3 x a b) w fun e w'=>e=.returned (.bool (Pl.inB x a b))∧w=w':=by
 go_enter Tryz.func149,Tryz.ntmps149
 go_wp2
 all_goals go_ret
 all_goals exact⟨ret_bool (by grind [Pl.inB]),rfl⟩
theorem right_a (x:Bool)(w:World):
  Calls Tryz.prog 179 #[.bool x] w fun e w'=>e=.returned (.int .i64 (Pl.err x))∧w=w':=by
 cases x
 all_goals
  go_enter Tryz.func179,Tryz.ntmps179
  go_wp2
  go_ret
  exact⟨rfl,rfl⟩
theorem chain_a (x s:Int)(w:World):
  Calls Tryz.prog 180 #[.agg (i2 x s)] w fun e w'=>e=.returned (.int .i64 (Pl.err (Pl.chainOk x s)))∧Below w.heap.size w w':=by
 go_enter Tryz.func180,Tryz.ntmps180
 go_wp2_with (first|(go_at_call 149;refine(in_a _ _ _ _).mono ?_;rintro e w' ⟨rfl,rfl⟩)|(go_at_call 179;refine(right_a _ _).mono ?_;rintro e w' ⟨rfl,rfl⟩))
 all_goals go_ret
 all_goals exact⟨ret_int (by grind [Pl.inB,Pl.err,Pl.chainOk]),by go_grown⟩
theorem norm_a (d:Int)(w:World):
  Calls Tryz.prog 259 #[.int .i64 d] w fun e w'=>e=.returned (.int .i64 (d%360))∧w=w':=by
 go_enter Tryz.func259,Tryz.ntmps259
 go_wp2
 go_ret
 exact⟨ret_int (by rw[Pl.tmod360 d];unfold wrap64;split<;>(rw[Int.tmod_eq_emod];split<;>omega)),rfl⟩
theorem course_a (b n l y x s:Int)(w:World):
  Calls Tryz.prog 109 #[.agg (i6 b n l y x s)] w fun e w'=>e=.returned (.int .i64 (Pl.err (Pl.courseOk b n l y x s)))∧Below w.heap.size w w':=by
 go_enter Tryz.func109,Tryz.ntmps109
 go_wp2_with (first|(go_at_call 149;refine(in_a _ _ _ _).mono ?_;rintro e w' ⟨rfl,rfl⟩)|(go_at_call 179;refine(right_a _ _).mono ?_;rintro e w' ⟨rfl,rfl⟩)|(go_at_call 180;refine(chain_a _ _ _).mono ?_;rintro e w1 ⟨rfl,hx1⟩;have hb1:Below w.heap.size w w1:=Below.trans (by go_grown) (hx1.mono (by go_size));clear hx1;have hsz1:w.heap.size<=w1.heap.size:=hb1.size))
 all_goals go_ret
 all_goals exact⟨ret_int (by grind [Pl.inB,Pl.err,Pl.courseOk]),by go_grown⟩
open Go.RowKit
def tabV :Array Value:=(Pl.tab.map (Value.int .i64)).toArray
theorem tabV_at (n:Nat)(h:n<91):tabV[n]?=some (.int .i64 (Pl.tab[n]?.getD 0)):=by
 have hl:Pl.tab.length=91:=by decide
 simp[tabV,List.getElem?_map,List.getElem?_eq_getElem (show n<Pl.tab.length by omega)]
theorem info_int :(Tryz.prog.info? 3).map (fun i=>(i.zero,i.size,i.bytes))=some (some (.int .i64 0),1,8):=by kernel_rfl
theorem idx_tab (m:Int)(h0:0<=m)(h1:m<=90)(w:World):(Instr.index 355 (.agg tabV) (.int .i64 m)).run Tryz.prog w=.ok (.int .i64 (Pl.tab[m.toNat]?.getD 0)) w:=by
 obtain⟨i,hi,_,h2,_⟩:=info_parts info_int
 obtain⟨n,rfl⟩:=Int.eq_ofNat_of_zero_le h0
 have h3:=tabV_at n (by omega)
 have h4:n<91:=by omega
 simp[Instr.index,asIntOf,part,sizeOf,typeInfo,go_sem,run_underlying Tryz.underlying355,hi,h2,h3,h4]
theorem below_setRow {B:Nat}{a w:World}(h:Below B a w){g:Nat}(hg:B<=g)(cs:Array Value):Below B a (w.setRow g cs):=
 h.trans ⟨rfl,rfl,rfl,by simp,fun k hk=>by
  simp only[World.setRow,Array.getElem?_modify]
  rw[if_neg (by omega)]⟩
theorem sines_a (w:World):Calls Tryz.prog 369 #[] w fun e w'=>e=.returned (.agg tabV)∧Below w.heap.size w w':=by
 go_enter Tryz.func369,Tryz.ntmps369
 go_wp2_with (first
  |(refine wpList_buildFlatArr rfl 355 3 91 _ rfl .i64 Pl.tab Tryz.underlying355 (by kernel_rfl) (by kernel_rfl) (by kernel_rfl) ?_)
  |(refine wpList_store_row rfl 355 _ _ rfl w.heap.size tabV rfl rfl 355 _ (heap_alloc_new _ _) (by kernel_rfl) (by kernel_rfl) (by kernel_rfl) ?_))
 refine bodyPost_ret (results_cell_row rfl _ _ w.heap.size 355 tabV (0,0) _ rfl (setRow_heap _ _ _ _ _ _ (heap_alloc_new _ _)) Tryz.underlying355 rfl (by kernel_rfl)) rfl ⟨rfl,?_⟩
 exact below_setRow ((Below.refl _ _).alloc (Nat.le_refl _) _) (Nat.le_refl _) _
theorem sinh_a (d:Int)(w:World)(h0:0<=d)(h1:d<=180):Calls Tryz.prog 358 #[.int .i64 d] w fun e w'=>e=.returned (.int .i64 (Pl.sinH d))∧Below w.heap.size w w':=by
 have e0:d%360=d:=by omega
 have H:=Lib.hid e0;clear e0
 by_cases hd:d<=90
 ·have hix:=fun w=>idx_tab d h0 hd w
  go_enter Tryz.func358,Tryz.ntmps358
  go_wp2_with (go_at_call 259;refine(norm_a _ _).mono ?_;rintro e w' ⟨rfl,rfl⟩;rw[H.out])
  go_wp2_with (go_at_call 369;refine(sines_a _).mono ?_;rintro e w1 ⟨rfl,hx1⟩;have hb1:Below w.heap.size w w1:=Below.trans (by go_grown) (hx1.mono (by go_size));clear hx1;have hsz1:w.heap.size<=w1.heap.size:=hb1.size)
  go_ret
  exact⟨ret_int (by unfold Pl.sinH;rw[if_pos hd]),hb1⟩
 ·have hix:=fun w=>idx_tab (180-d) (by omega) (by omega) w
  go_enter Tryz.func358,Tryz.ntmps358
  go_wp2_with (go_at_call 259;refine(norm_a _ _).mono ?_;rintro e w' ⟨rfl,rfl⟩;rw[H.out])
  go_wp2_with (go_at_call 369;refine(sines_a _).mono ?_;rintro e w1 ⟨rfl,hx1⟩;have hb1:Below w.heap.size w w1:=Below.trans (by go_grown) (hx1.mono (by go_size));clear hx1;have hsz1:w.heap.size<=w1.heap.size:=hb1.size)
  go_ret
  exact⟨ret_int (by unfold Pl.sinH;rw[if_neg (by omega)]),hb1⟩
theorem sin_range (d:Int):0<=d%360∧d%360<360:=by omega
theorem sin_a (d:Int)(w:World):Calls Tryz.prog 358 #[.int .i64 d] w fun e w'=>e=.returned (.int .i64 (Pl.sin d))∧Below w.heap.size w w':=by
 obtain⟨h0,h1⟩:=sin_range d
 by_cases hd:d%360<=90
 ·have hix:=fun w=>idx_tab (d%360) (by omega) (by omega) w
  go_enter Tryz.func358,Tryz.ntmps358
  go_wp2_with (first|(go_at_call 259;refine(norm_a _ _).mono ?_;rintro e w' ⟨rfl,rfl⟩)|(go_at_call 369;refine(sines_a _).mono ?_;rintro e w1 ⟨rfl,hx1⟩;have hb1:Below w.heap.size w w1:=Below.trans (by go_grown) (hx1.mono (by go_size));clear hx1;have hsz1:w.heap.size<=w1.heap.size:=hb1.size))
  go_ret
  exact⟨ret_int (by unfold Pl.sin Pl.sinH;rw[if_pos (by omega),if_pos hd]),hb1⟩
 by_cases hd2:d%360<=180
 ·have hix:=fun w=>idx_tab (180-d%360) (by omega) (by omega) w
  go_enter Tryz.func358,Tryz.ntmps358
  go_wp2_with (first|(go_at_call 259;refine(norm_a _ _).mono ?_;rintro e w' ⟨rfl,rfl⟩)|(go_at_call 369;refine(sines_a _).mono ?_;rintro e w1 ⟨rfl,hx1⟩;have hb1:Below w.heap.size w w1:=Below.trans (by go_grown) (hx1.mono (by go_size));clear hx1;have hsz1:w.heap.size<=w1.heap.size:=hb1.size))
  go_ret
  exact⟨ret_int (by unfold Pl.sin Pl.sinH;rw[if_pos (by omega),if_neg (by omega)]),hb1⟩
 ·obtain⟨h2,h3⟩:=Pl.sinH_bd (d%360-180)
  go_enter Tryz.func358,Tryz.ntmps358
  go_wp2_with (first|(go_at_call 259;refine(norm_a _ _).mono ?_;rintro e w' ⟨rfl,rfl⟩)|(go_at_call 358;refine(sinh_a _ _ (by omega) (by omega)).mono ?_;rintro e w1 ⟨rfl,hx1⟩;have hb1:Below w.heap.size w w1:=Below.trans (by go_grown) (hx1.mono (by go_size));clear hx1;have hsz1:w.heap.size<=w1.heap.size:=hb1.size))
  go_ret
  exact⟨ret_int (by unfold Pl.sin;rw[if_neg (by omega)]),hb1⟩
theorem cos_a (d:Int)(w:World):Calls Tryz.prog 357 #[.int .i64 d] w fun e w'=>e=.returned (.int .i64 (Pl.cos d))∧Below w.heap.size w w':=by
 obtain⟨h0,h1⟩:=sin_range d
 go_enter Tryz.func357,Tryz.ntmps357
 go_wp2_with (first|(go_at_call 259;refine(norm_a _ _).mono ?_;rintro e w' ⟨rfl,rfl⟩)|(go_at_call 358;refine(sin_a _ _).mono ?_;rintro e w1 ⟨rfl,hx1⟩;have hb1:Below w.heap.size w w1:=Below.trans (by go_grown) (hx1.mono (by go_size));clear hx1;have hsz1:w.heap.size<=w1.heap.size:=hb1.size))
 go_ret
 exact⟨rfl,hb1⟩
open Go.RowKit
theorem root_a (n:Int)(w:World):Calls Tryz.prog 356 #[.int .i64 n] w fun e w'=>e=.returned (.int .i64 (Pl.root n))∧w=w':=by
 go_enter Tryz.func356,Tryz.ntmps356
 go_wp2
 go_loop [3,4] (fun a b=> ∃lo hi:Int,Pl.RootInv n lo hi∧a=.int .i64 lo∧b=.int .i64 hi) (fun a b=>(intOf b-intOf a).toNat)
 case atStart=>exact⟨0,3037000499,.start n,rfl,rfl⟩
 case round=>
  obtain⟨lo,hi,hI,rfl,rfl⟩:=hrel
  by_cases hl:lo<hi
  ·obtain⟨m1,m2⟩:=hI.mid hl
   have b0:=hI.1
   have b1:=hI.2.2.1
   have s0:=Pl.sq_nonneg (lo+(hi-lo+1)/2)
   have s1:=Pl.sq_max (show 0<=lo+(hi-lo+1)/2 by omega) (by omega)
   have H:=Lib.hid hI;clear hI
   go_wp2
   ·go_round
    case rel=>exact⟨_,_,H.out.up m1 m2 (by assumption),rfl,rfl⟩
    case measure=>first|(simp[intOf];done)|(simp[intOf];omega)
   ·go_round
    case rel=>exact⟨_,_,H.out.down m1 m2 (by omega),rfl,rfl⟩
    case measure=>first|(simp[intOf];done)|(simp[intOf];omega)
  ·obtain rfl:lo=hi:=by have:=hI.2.1;omega
   have H:=Lib.hid hI;clear hI
   go_wp2
   go_ret
   exact⟨ret_int (Pl.root_eq H.out.done),rfl⟩
theorem rootUp_a (n:Int)(w:World):Calls Tryz.prog 360 #[.int .i64 n] w fun e w'=>e=.returned (.int .i64 (Pl.rootUp n))∧w=w':=by
 obtain⟨b0,b1,b2,b3⟩:=Pl.root_bd n
 go_enter Tryz.func360,Tryz.ntmps360
 go_wp2_with (go_at_call 356;refine(root_a _ _).mono ?_;rintro e w' ⟨rfl,rfl⟩)
 all_goals go_ret
 all_goals exact⟨ret_int (by grind [Pl.rootUp]),rfl⟩
end Go.Proofs.YtgbpekeoegfjpaaGreatDoor
