/- Proved: parts of the walk. -/
import Derived.Test.YtgbpekeoegfjpaaGreatDoorVZ01
set_option maxRecDepth 100000
set_option maxHeartbeats 4000000
namespace Go.Proofs
open Tryz RowKit
namespace Pl
theorem kV.small {n:Int}(h:n<1):kV n 0:=⟨by omega,by omega,fun _=>rfl,fun h0=>by simpa using h0,fun _=>by omega⟩
theorem kW.yes {n r m:Int}{k:Nat}(h:kW n r (k+1))(hm:m=r+2^k)(h1:m<=3037000499)(h2:m*m<=n):kW n m k:=by
 subst hm
 obtain⟨a0,a1,a2,a3,a4,a5⟩:=h
 have hp:(0:Int)<2^k:=Int.pow_pos (by omega)
 have he:r+2^k+2^k=r+2^(k+1):=by rw[Int.pow_succ];omega
 exact⟨by omega,h1,by omega,h2,a4,by rw[he];exact a5⟩
theorem one_le_pow (k:Nat):(1:Int)<=2^k:=by have:(0:Int)<2^k:=Int.pow_pos (by omega);omega
theorem JR (k:Nat)(h:k<=31):(2:Int)^k<=2147483648:=by
 have:(2:Nat)^k<=2^31:=Nat.pow_le_pow_right (by omega) h
 have e:((2^k:Nat):Int)=(2:Int)^k:=by rw[Int.natCast_pow];rfl
 rw[<-e];omega
theorem o9 {y:Int}: ∀(l:List (Int×Int)) (s:Int×Bool),(∀x∈l,y<x.1)->iy y s l=s
 | [],_,_=>rfl
 |q::l,s,h=>by
  have h1:=h q (by simp)
  unfold iy
  rw[if_neg (by omega)]
  exact o9 l s fun x hx=>h x (by simp[hx])
theorem qJ {y:Int}: ∀(a b:List (Int×Int)) (s:Int×Bool),iy y s (a++b)=iy y (iy y s a) b
 | [],_,_=>rfl
 |_::a,b,_=>qJ a b _
theorem JU {l:List (Int×Int)}{y:Int}(h0:vars l=0)(h: ∀(j:Nat) x,0<=j->l[j]?=some x->y<x.1):decl l y=(0,false):=by
 unfold decl
 rw[if_pos h0]
 refine o9 _ _ fun x hx=> ?_
 obtain⟨j,hj,rfl⟩:=List.mem_iff_getElem.1 hx
 exact h j _ (Nat.zero_le _) (List.getElem?_eq_getElem hj)
theorem JV {l:List (Int×Int)}{y:Int}{k:Nat}(h0:vars l=0)(hk:k<l.length)(hy:l[k].1<=y)(h: ∀(j:Nat) x,k+1<=j->l[j]?=some x->y<x.1):decl l y=(l[k].2,true):=by
 unfold decl
 rw[if_pos h0]
 have e:l=l.take k++l[k]::l.drop (k+1):=by rw[<-List.drop_eq_getElem_cons hk,List.take_append_drop]
 have e2:iy y (0,false) (l.take k++l[k]::l.drop (k+1))=(l[k].2,true):=by
  rw[qJ]
  unfold iy
  rw[if_pos hy]
  refine o9 _ _ fun x hx=> ?_
  obtain⟨j,hj,rfl⟩:=List.mem_iff_getElem.1 hx
  refine h (k+1+j) _ (by omega) ?_
  rw[List.getElem?_eq_getElem (by simp at hj;omega),List.getElem_drop]
 rw[<-e]at e2
 exact e2
theorem Ei {a b:Int}(hb:1<=b):(0<=a->0<=a.tdiv b*b∧a.tdiv b*b<=a)∧(a<=0->a<=a.tdiv b*b∧a.tdiv b*b<=0):=by
 have e:=Int.mul_tdiv_add_tmod a b
 have e2:a.tdiv b*b=b*a.tdiv b:=Int.mul_comm _ _
 constructor
 ·intro h
  have h1:=Int.tmod_nonneg b h
  have h2:=(rA (a:=a) hb).1 h
  have h3:=Int.mul_nonneg h2.1 (show 0<=b by omega)
  omega
 ·intro h
  have h1:0<=(-a).tmod b:=Int.tmod_nonneg b (by omega)
  rw[Int.neg_tmod]at h1
  have h2:=(rA (a:=a) hb).2 h
  have h3:=Int.mul_nonneg (show 0<= -a.tdiv b by omega) (show 0<=b by omega)
  rw[Int.neg_mul]at h3
  omega
theorem BO {a b:Int}(hb:1<=b)(h:a<a.tdiv b*b):a.tdiv b-1=a/b:=by
 refine Cy hb ?_
 have e:=Int.mul_tdiv_add_tmod a b
 have e2:a.tdiv b*b=b*a.tdiv b:=Int.mul_comm _ _
 omega
theorem BP {a b:Int}(hb:1<=b)(h: ¬a<a.tdiv b*b):a.tdiv b=a/b:=by
 refine Cz hb ?_
 have e:=Int.mul_tdiv_add_tmod a b
 have e2:a.tdiv b*b=b*a.tdiv b:=Int.mul_comm _ _
 omega
def zy (v:List (Int×Int))(c:bF):Int×Int:=if bS v [c]=0 then (c.lo v,c.hi v)else (0,0)
def Xh (c:bF)(east dx:Int):Int×Int×Bool:=jE (mid c.b east-c.n) (mid c.b east+c.n) dx c.ne c.fa
def Qi (c:bF)(east dx:Int):Int×Int×Bool:=if dx<0 then flip (Xh c.back east (-dx))else Xh c east dx
def eG (lo hi dx ne fa:Int):Int×Int:=
 let b:=if 0<lo then min 100000 (dx*cos lo/sin lo)else 100000
 let a:=if hi<180 then max (-100000) (-(-dx*cos hi/sin hi))else-100000
 let b:=min b (root (room dx fa))
 let a:=max a (-root (room dx fa))
 (if hi<=90 then max a (gT (short dx ne))else a,if 90<=lo then min b (-gT (short dx ne))else b)
theorem IJ :cos 90=0:=by decide+kernel
theorem IK :sin 90=10000:=by decide+kernel
theorem Pk {lo hi dx ne fa:Int}(hlh:lo<=hi):(ends lo hi dx ne fa=eG lo hi dx ne fa)∨((ends lo hi dx ne fa).2<(ends lo hi dx ne fa).1∧(eG lo hi dx ne fa).2<(eG lo hi dx ne fa).1)∨
  ((ends lo hi dx ne fa).1=(eG lo hi dx ne fa).1∧(ends lo hi dx ne fa).2=(eG lo hi dx ne fa).2):=by
 have e1: -dx*cos hi= -(dx*cos hi):=Int.neg_mul _ _
 have h0:=CF dx fa
 have h1:=(pV (room dx fa)).1
 have h2:=(tN (short dx ne)).1
 by_cases h:hi<=90∧90<=lo
 ·obtain rfl:lo=90:=by omega
  obtain rfl:hi=90:=by omega
  have t:qE 90 dx (reach dx fa)=0:=by unfold qE;rw[IJ,IK];simp;omega
  have k:rC 90 dx (-reach dx fa)=0:=by unfold rC;rw[IJ,IK];simp;omega
  by_cases hz:gT (short dx ne)=0
  ·right;right
   unfold ends eG reach at*
   simp only[]at*
   rw[IJ,IK]at*
   simp at*
   omega
  ·right;left
   unfold ends eG reach at*
   simp only[]at*
   rw[IJ,IK]at*
   simp at*
   omega
 ·right;right
  unfold ends eG qE rC reach at*
  simp only[e1]at*
  constructor<;>(repeat' split)<;>omega
def qW (lo dx:Int):Int:=if 0<lo then min 100000 (dx*cos lo/sin lo)else 100000
def sN (hi dx:Int):Int:=if hi<180 then max (-100000) (-(-dx*cos hi/sin hi))else-100000
def RH (lo hi dx ne fa:Int):Int×Int×Bool:=
 if hi<=0∨180<=lo∨room dx fa<0∨(eG lo hi dx ne fa).2<(eG lo hi dx ne fa).1 then (0,0,false)
 else ((eG lo hi dx ne fa).1,(eG lo hi dx ne fa).2,true)
theorem Pm {lo hi dx ne fa:Int}(hlh:lo<=hi):jE lo hi dx ne fa=RH lo hi dx ne fa:=by
 unfold jE RH
 rcases Pk (dx:=dx) (ne:=ne) (fa:=fa) hlh with h|⟨h1,h2⟩|⟨h1,h2⟩
 ·rw[h]
 ·rw[if_pos (by omega),if_pos (by omega)]
 ·rw[h1,h2]
end Pl
theorem Pn (x s:Int)(w:World):
  Calls prog 245 #[.agg (i2 x s)] w fun e w'=>e=.returned (.int .i64 (Pl.err (Pl.pU x s)))∧Below w.heap.size w w':=by
 go_enter func245,ntmps245
 go_wp2
 all_goals go_ret
 all_goals exact⟨aH (by grind [Pl.err,Pl.pU]),by go_grown⟩
theorem iE (d:Int)(w:World):
  Calls prog 164 #[.int .i64 d] w fun e w'=>e=.returned (.int .i64 (d%360))∧w=w':=by
 have e0:=Pl.Hl d
 have H:=Lib.hid e0;clear e0
 go_enter func164,ntmps164
 go_wp2
 all_goals go_ret
 all_goals exact⟨aH (by have e0:=H.out;(try unfold wrap64);grind),rfl⟩
theorem o_ (b n l y x s:Int)(w:World):
  Calls prog 186 #[.agg (i6 b n l y x s)] w fun e w'=>e=.returned (.int .i64 (Pl.err (Pl.dJ b n l y x s)))∧Below w.heap.size w w':=by
 go_enter func186,ntmps186
 go_wp2_with (first|(go_at_call 245;refine(Pn _ _ _).mono ?_;rintro e w1 ⟨rfl,hx1⟩;have hb1:=bT (w:=w) hx1;clear hx1;have hsz1:w.heap.size<=w1.heap.size:=hb1.size))
 all_goals go_ret
 all_goals exact⟨aH (by grind [Pl.bQ,Pl.err,Pl.dJ]),by go_grown⟩
theorem sO (w:World):Calls prog 363 #[] w fun e w'=>e=.returned (.slice (some ⟨w.heap.size,0,none⟩) 91 91)∧w.alloc (.cells wz 3)=w':=by
 go_enter func363,ntmps363
 go_wp2_with (refine wpList_buildFlat rfl 62 3 91 _ rfl .i64 Pl.tab underlying62 (by kernel_rfl) (by kernel_rfl) (by kernel_rfl) (by omega) (by omega) (by kernel_rfl) ?_)
 go_ret
 exact⟨rfl,rfl⟩
theorem RI (d:Int)(w:World)(h0:0<=d)(h1:d<=180):Calls prog 338 #[.int .i64 d] w fun e w'=>e=.returned (.int .i64 (Pl.oD d))∧Below w.heap.size w w':=by
 have e0:d%360=d:=by omega
 have H:=Lib.hid e0;clear e0
 by_cases hd:d<=90
 ·have hc:(w.alloc (.cells wz 3)).cell? ⟨w.heap.size,d.toNat,none⟩=some (.int .i64 (Pl.tab[d.toNat]?.getD 0)):=by
   rw[cell_of_row _ _ _ _ _ _ (heap_alloc_new _ _)];exact rE _ (by omega)
  go_enter func338,ntmps338
  go_wp2_with (go_at_call 164;refine(iE _ _).mono ?_;rintro e w' ⟨rfl,rfl⟩;rw[H.out])
  go_wp2_with (go_at_call 363;refine(sO _).mono ?_;rintro e w' ⟨rfl,rfl⟩)
  go_ret
  exact⟨aH (by unfold Pl.oD;rw[if_pos hd]),by go_grown⟩
 ·have hc:(w.alloc (.cells wz 3)).cell? ⟨w.heap.size,(180-d).toNat,none⟩=some (.int .i64 (Pl.tab[(180-d).toNat]?.getD 0)):=by
   rw[cell_of_row _ _ _ _ _ _ (heap_alloc_new _ _)];exact rE _ (by omega)
  go_enter func338,ntmps338
  go_wp2_with (go_at_call 164;refine(iE _ _).mono ?_;rintro e w' ⟨rfl,rfl⟩;rw[H.out])
  go_wp2_with (go_at_call 363;refine(sO _).mono ?_;rintro e w' ⟨rfl,rfl⟩)
  go_ret
  exact⟨aH (by unfold Pl.oD;rw[if_neg (by omega)]),by go_grown⟩
theorem Ms (d:Int)(w:World):Calls prog 338 #[.int .i64 d] w fun e w'=>e=.returned (.int .i64 (Pl.sin d))∧Below w.heap.size w w':=by
 obtain⟨h0,h1⟩:=pW d
 by_cases hd:d%360<=90
 ·have hc:(w.alloc (.cells wz 3)).cell? ⟨w.heap.size,(d%360).toNat,none⟩=some (.int .i64 (Pl.tab[(d%360).toNat]?.getD 0)):=by
   rw[cell_of_row _ _ _ _ _ _ (heap_alloc_new _ _)];exact rE _ (by omega)
  go_enter func338,ntmps338
  go_wp2_with (first|(go_at_call 164;refine(iE _ _).mono ?_;rintro e w' ⟨rfl,rfl⟩)|(go_at_call 363;refine(sO _).mono ?_;rintro e w' ⟨rfl,rfl⟩))
  go_ret
  exact⟨aH (by unfold Pl.sin Pl.oD;rw[if_pos (by omega),if_pos hd]),by go_grown⟩
 by_cases hd2:d%360<=180
 ·have hc:(w.alloc (.cells wz 3)).cell? ⟨w.heap.size,(180-d%360).toNat,none⟩=some (.int .i64 (Pl.tab[(180-d%360).toNat]?.getD 0)):=by
   rw[cell_of_row _ _ _ _ _ _ (heap_alloc_new _ _)];exact rE _ (by omega)
  go_enter func338,ntmps338
  go_wp2_with (first|(go_at_call 164;refine(iE _ _).mono ?_;rintro e w' ⟨rfl,rfl⟩)|(go_at_call 363;refine(sO _).mono ?_;rintro e w' ⟨rfl,rfl⟩))
  go_ret
  exact⟨aH (by unfold Pl.sin Pl.oD;rw[if_pos (by omega),if_neg (by omega)]),by go_grown⟩
 ·obtain⟨h2,h3⟩:=Pl.vJ (d%360-180)
  go_enter func338,ntmps338
  go_wp2_with (first|(go_at_call 164;refine(iE _ _).mono ?_;rintro e w' ⟨rfl,rfl⟩)|(go_at_call 363;refine(sO _).mono ?_;rintro e w' ⟨rfl,rfl⟩)|(go_at_call 338;refine(RI _ _ (by omega) (by omega)).mono ?_;rintro e w1 ⟨rfl,hx1⟩;have hb1:=bT (w:=w) hx1;clear hx1;have hsz1:w.heap.size<=w1.heap.size:=hb1.size))
  go_ret
  exact⟨aH (by unfold Pl.sin;rw[if_neg (by omega)]),hb1⟩
theorem Qj (d:Int)(w:World):Calls prog 337 #[.int .i64 d] w fun e w'=>e=.returned (.int .i64 (Pl.cos d))∧Below w.heap.size w w':=by
 obtain⟨h0,h1⟩:=pW d
 go_enter func337,ntmps337
 go_wp2_with (first|(go_at_call 164;refine(iE _ _).mono ?_;rintro e w' ⟨rfl,rfl⟩)|(go_at_call 338;refine(Ms _ _).mono ?_;rintro e w1 ⟨rfl,hx1⟩;have hb1:=bT (w:=w) hx1;clear hx1;have hsz1:w.heap.size<=w1.heap.size:=hb1.size))
 go_ret
 exact⟨rfl,hb1⟩
theorem Mt (n:Int)(w:World):Calls prog 339 #[.int .i64 n] w fun e w'=>e=.returned (.int .i64 (Pl.root n))∧w=w':=by
 by_cases hn:n<1
 ·go_enter func339,ntmps339
  go_wp2
  go_ret
  exact⟨aH (Pl.Az (Pl.kV.small hn)),rfl⟩
 ·go_enter func339,ntmps339
  go_wp2
  go_loop [3,4] (fun a b=> ∃(r:Int) (k:Nat),Pl.kW n r k∧a=.int .i64 r∧b=.int .i64 ((k:Int)-1)) (fun _ b=>(intOf b+1).toNat)
  case atStart=>exact⟨0,32,.start (by omega),rfl,rfl⟩
  case round=>
   obtain⟨r,k,hI,rfl,rfl⟩:=hrel
   have b0:=hI.1
   have b1:=hI.2.1
   have b2:=hI.2.2.1
   cases k with
   |zero=>
    have H:=Lib.hid hI;clear hI
    go_wp2
    go_ret
    exact⟨aH (Pl.Az H.out.done),rfl⟩
   | succ k=>
    have p1:(1:Int)<=2^k:=Pl.one_le_pow k
    have p2:(2:Int)^k<=2147483648:=Pl.JR k (by omega)
    have H:=Lib.hid hI;clear hI
    by_cases hm:r+2^k<=3037000499
    ·have s0:=Pl.sq_nonneg (r+2^k)
     have s1:=Pl.Fj (show 0<=r+2^k by omega) hm
     go_wp2
     ·go_round
      case rel=>exact⟨_,k,H.out.yes rfl hm (by assumption),rfl,rfl⟩
      case measure=>simp[intOf];try omega
     ·go_round
      case rel=>exact⟨_,k,H.out.no rfl (by omega),rfl,rfl⟩
      case measure=>simp[intOf];try omega
    ·go_wp2
     go_round
     case rel=>exact⟨_,k,H.out.no rfl (by omega),rfl,rfl⟩
     case measure=>simp[intOf];try omega
theorem Ej (n:Int)(w:World):Calls prog 340 #[.int .i64 n] w fun e w'=>e=.returned (.int .i64 (Pl.gT n))∧w=w':=by
 obtain⟨b0,b1,b2,b3⟩:=Pl.pV n
 go_enter func340,ntmps340
 go_wp2_with (go_at_call 339;refine(Mt _ _).mono ?_;rintro e w' ⟨rfl,rfl⟩)
 all_goals go_ret
 all_goals exact⟨aH (by grind [Pl.gT]),rfl⟩
theorem BQ (A:Option Addr)(c:Nat)(l:List (Int×Int))(y:Int)(w:World)(hl:Vars w w.heap.size A l)(hm:l.length<=maxLen):
  Calls prog 296 #[.slice A l.length c,.int .i64 y] w fun e w'=>e=.returned (.tuple #[.int .i64 (Pl.decl l y).1,.bool (Pl.decl l y).2])∧Below w.heap.size w w':=by
 have hm':=hm
 unfold maxLen at hm
 by_cases hv:Pl.vars l=0
 ·have hv':(Pl.vars l !=0)=false:=by simp[hv]
  have H0:=Lib.hid hv;clear hv
  go_enter func296,ntmps296
  go_wp2_with (go_at_call 112;refine(oJ _ _ _ _ hl hm').mono ?_;rintro e w1 ⟨rfl,hx1⟩;have hb1:=bT (w:=w) hx1;clear hx1;have hsz1:w.heap.size<=w1.heap.size:=hb1.size)
  have Z8:=Lib.hid hsz1;clear hsz1
  go_loopw [6] (fun i wr=> ∃(k:Nat),k<=l.length∧i=.int .i64 ((k:Int)-1)∧Hid (∀j x,k<=j->l[j]?=some x->y<x.1)∧Below w.heap.size w wr) (fun i _=>(intOf i+1).toNat)
  case atStart=>
   refine⟨l.length,by omega,rfl,?_,by go_grown⟩
   intro j x hj hx;rw[List.getElem?_eq_none hj]at hx;cases hx
  case round=>
   obtain⟨k,hk,rfl,hg,hb⟩:=hrel
   have hsz:=hb.size
   cases k with
   |zero=>
    go_wp2
    go_ret2
    exact⟨by rw[Pl.JU H0.out hg.out];rfl,by go_grown⟩
   | succ k=>
    have hlt:k<l.length:=by omega
    obtain⟨b,off,rfl,mQ,hc0,hc1⟩:=Vars.at2 (hl.below hb) hlt
    go_wp2
    ·go_ret2
     exact⟨by rw[Pl.JV H0.out hlt (by assumption) hg.out];rfl,by go_grown⟩
    ·go_roundw
     case rel=>exact⟨k,by omega,rfl,Pl.later hlt (by assumption) hg.out,by go_grown⟩
     case measure=>simp[intOf];try omega
 ·have hv':(Pl.vars l !=0)=true:=by simp[hv]
  have H0:=Lib.hid hv;clear hv
  go_enter func296,ntmps296
  go_wp2_with (go_at_call 112;refine(oJ _ _ _ _ hl hm').mono ?_;rintro e w1 ⟨rfl,hx1⟩;have hb1:=bT (w:=w) hx1;clear hx1;have hsz1:w.heap.size<=w1.heap.size:=hb1.size)
  go_ret2
  exact⟨by unfold Pl.decl;rw[if_neg H0.out];rfl,by go_grown⟩
theorem El (b n l y x s east:Int)(w:World)(hb0:0<=b)(hb1:b<=359)(hn0:0<=n)(hn1:n<=30)(he0: -60<=east)(he1:east<=60):
  Calls prog 335 #[.agg (i6 b n l y x s),.int .i64 east] w fun e w'=>e=.returned (.tuple (i2 (Pl.mid b east-n) (Pl.mid b east+n)))∧Below w.heap.size w w':=by
 have m0:0<=(b+east)%360∧(b+east)%360<360:=by omega
 obtain⟨m1,m2⟩:=m0
 by_cases hm:269<(b+east)%360
 all_goals
  have hH:Hid (Pl.mid b east=if 269<(b+east)%360 then (b+east)%360-360 else (b+east)%360):=by unfold Hid Pl.mid;split<;>omega
  go_enter func335,ntmps335
  go_wp2_with (first|(go_at_call 164;refine(iE _ _).mono ?_;rintro e w' ⟨rfl,rfl⟩))
  all_goals (refine wp_region_quiet_lit (by kernel_rfl) (by kernel_rfl) ?_)
  repeat (any_goals (first|go_big_quiet_step (fail)|quiet_step (fail)|(refine wpQuiet_step (fun K hK=> ?_);go_simp;split<;>(refine hK _ ?_;clear hK K))))
  all_goals (refine wpQuiet_nil ?_;intro wq hw';obtain⟨nq,hw''⟩:=hw';have hbq:Below w.heap.size w wq:=by rw[hw''];exact below_drewN (by go_grown) nq)
  all_goals subst hw''
  go_wp2
  go_ret2
  have hE:=hH.out
  first
   |(rw[if_pos (by omega)]at hE;exact⟨by rw[hE];rfl,by go_grown⟩)
   |(rw[if_neg (by omega)]at hE;exact⟨by rw[hE];rfl,by go_grown⟩)
theorem vY (a b:Int)(w:World)(h0: -9223372036854775807<=a)(h1:a<=9223372036854775807)(h2:1<=b):
  Calls prog 336 (i2 a b) w fun e w'=>e=.returned (.int .i64 (a/b))∧w=w':=by
 have k1:=(Pl.Ei (a:=a) h2)
 have k3: -9223372036854775807<=a.tdiv b*b∧a.tdiv b*b<=9223372036854775807:=by omega
 obtain⟨k4,k5⟩:=k3
 have j1:=(Pl.rA (a:=a) h2)
 have j3: -9223372036854775807<=a.tdiv b∧a.tdiv b<=9223372036854775807:=by omega
 obtain⟨j4,j5⟩:=j3
 clear k1 j1
 by_cases hc:a<a.tdiv b*b
 ·have hf:=Pl.BO h2 hc
  have H:=Lib.hid hf;clear hf
  go_enter func336,ntmps336
  go_wp2
  all_goals go_ret
  all_goals exact⟨aH (by rw[<-H.out];try (rw[IntWalk.wrap64_in _ (by omega)])),rfl⟩
 ·have hf:=Pl.BP h2 hc
  have H:=Lib.hid hf;clear hf
  go_enter func336,ntmps336
  go_wp2
  all_goals go_ret
  all_goals exact⟨aH (by rw[<-H.out]),rfl⟩
open RowKit
theorem Em (b n l y x s east lo hi:Int)(w:World)(hlo:Hid (Pl.mid b east-n=lo))(hhi:Hid (Pl.mid b east+n=hi))(hb0:0<=b)(hb1:b<=359)(hn0:0<=n)(hn1:n<=30)(he0: -60<=east)(he1:east<=60):
  Calls prog 335 #[.agg (i6 b n l y x s),.int .i64 east] w fun e w'=>e=.returned (.tuple (i2 lo hi))∧Below w.heap.size w w':=by
 have h:=El b n l y x s east w hb0 hb1 hn0 hn1 he0 he1
 rw[hlo.out,hhi.out]at h
 exact h
open RowKit
theorem Po (v:List (Int×Int))(c:Pl.bF):Pl.bS v [c]=if Pl.vars v≠0 then Pl.vars v else if c.ok=true then (if (Pl.decl v c.y).2=true then 0 else 20)else 1:=by
 unfold Pl.bS;simp only[List.all_cons,List.all_nil,Bool.and_true]
theorem yt (A:Option Addr)(cp:Nat)(v:List (Int×Int))(c:Pl.bF)(w:World)(hl:Vars w w.heap.size A v)(hm:v.length<=maxLen):
  Calls prog 295 #[.slice A v.length cp,.agg (i6 c.b c.n c.l c.y c.x c.s)] w fun e w'=>e=.returned (.tuple #[.int .i64 (Pl.zy v c).1,.int .i64 (Pl.zy v c).2,.int .i64 (Pl.bS v [c])])∧Below w.heap.size w w':=by
 have hE:=Lib.hid (Po v c)
 obtain⟨d0,d1⟩:=rz v c.y
 by_cases hv:Pl.vars v=0
 ·have hv':(Pl.vars v==0)=true:=by simp[hv]
  have H0:=Lib.hid hv;clear hv
  by_cases hok:c.ok=true
  ·obtain⟨⟨g0,g1⟩,⟨g2,g3⟩,_⟩:=c.mF hok
   have he:Pl.err (Pl.dJ c.b c.n c.l c.y c.x c.s)=0:=by unfold Pl.bF.ok at hok;rw[hok];rfl
   have HE:=Lib.hid he;clear he
   have H1:=Lib.hid hok;clear hok
   by_cases hk:(Pl.decl v c.y).2=true
   ·have hc0:Hid (Pl.bS v [c]=0):=by unfold Hid;rw[hE.out,if_neg (by simp[H0.out]),if_pos H1.out,if_pos hk]
    have hR:Hid (Pl.zy v c=(Pl.mid c.b (Pl.decl v c.y).1-c.n,Pl.mid c.b (Pl.decl v c.y).1+c.n)):=by unfold Hid Pl.zy;rw[if_pos hc0.out];rfl
    clear hE
    go_enter func295,ntmps295
    go_wp2_with (first
     |(go_at_call 112;refine(oJ _ _ v _ (hl.up (by go_grown)) hm).mono ?_;rintro e w1 ⟨rfl,hx1⟩;have jY:w1.heap[w.heap.size]?=some (.cells _ _ (0,0)):=(hx1.block _ (by first|omega|(simp;done)|(simp;omega))).trans (heap_alloc_new _ _);obtain⟨tT,tV⟩:=ah jY;have hsz1:=hx1.size;(try simp at hsz1);have hb1:=bT (w:=w) hx1;have qF:w.heap.size<=w1.heap.size:=hb1.size;clear hx1)
     |(go_at_call 186;refine(o_ _ _ _ _ _ _ _).mono ?_;rintro e w2 ⟨rfl,hx2⟩;rw[HE.out];have jh:=(hx2.block w.heap.size (by omega)).trans jY;obtain⟨hc2,hf2⟩:=ah jh;have hlt2:=(lO jh);have hb2:=bT (w:=w) hx2;have hsz2:=hb2.size;clear hx2 tT tV)
     |(go_at_call 296;refine(BQ _ _ v _ _ (hl.up (by go_grown)) hm).mono ?_;rintro e w3 ⟨rfl,hx3⟩;have RJ:w3.heap[w.heap.size]?=some (.cells _ _ (0,0)):=(hx3.block _ (by first|omega|(simp;done)|(simp;omega))).trans (jh);obtain⟨VP,VQ⟩:=ah RJ;have oq:=hx3.size;(try simp at oq);have hb3:=bT (w:=w) hx3;have TW:w.heap.size<=w3.heap.size:=hb3.size;clear hx3)
     |(go_at_call 335;refine(El _ _ _ _ _ _ _ _ g0 g1 g2 g3 d0 d1).mono ?_;rintro e w4 ⟨rfl,hx4⟩;have hb4:=bT (w:=w) hx4;clear hx4;have wJ:w.heap.size<=w4.heap.size:=hb4.size))
    go_ret3
    exact⟨by rw[hc0.out,hR.out];try rfl,by go_grown⟩
   ·have hk':(Pl.decl v c.y).2=false:=by simpa using hk
    have hc0:Hid (Pl.bS v [c]=20):=by unfold Hid;rw[hE.out,if_neg (by simp[H0.out]),if_pos H1.out,if_neg hk]
    have hR:Hid (Pl.zy v c=(0,0)):=by unfold Hid Pl.zy;rw[if_neg (by rw[hc0.out];decide)]
    clear hE hk
    go_enter func295,ntmps295
    go_wp2_with (first
     |(go_at_call 112;refine(oJ _ _ v _ (hl.up (by go_grown)) hm).mono ?_;rintro e w1 ⟨rfl,hx1⟩;have jY:w1.heap[w.heap.size]?=some (.cells _ _ (0,0)):=(hx1.block _ (by first|omega|(simp;done)|(simp;omega))).trans (heap_alloc_new _ _);obtain⟨tT,tV⟩:=ah jY;have hsz1:=hx1.size;(try simp at hsz1);have hb1:=bT (w:=w) hx1;have qF:w.heap.size<=w1.heap.size:=hb1.size;clear hx1)
     |(go_at_call 186;refine(o_ _ _ _ _ _ _ _).mono ?_;rintro e w2 ⟨rfl,hx2⟩;rw[HE.out];have jh:=(hx2.block w.heap.size (by omega)).trans jY;obtain⟨hc2,hf2⟩:=ah jh;have hlt2:=(lO jh);have hb2:=bT (w:=w) hx2;have hsz2:=hb2.size;clear hx2 tT tV)
     |(go_at_call 296;refine(BQ _ _ v _ _ (hl.up (by go_grown)) hm).mono ?_;rintro e w3 ⟨rfl,hx3⟩;have RJ:w3.heap[w.heap.size]?=some (.cells _ _ (0,0)):=(hx3.block _ (by first|omega|(simp;done)|(simp;omega))).trans (jh);obtain⟨VP,VQ⟩:=ah RJ;have oq:=hx3.size;(try simp at oq);have hb3:=bT (w:=w) hx3;have TW:w.heap.size<=w3.heap.size:=hb3.size;clear hx3))
    go_ret3
    exact⟨by rw[hc0.out,hR.out];try rfl,by go_grown⟩
  ·have he:Pl.err (Pl.dJ c.b c.n c.l c.y c.x c.s)=1:=by unfold Pl.bF.ok at hok;simp only[Bool.not_eq_true]at hok;rw[hok];rfl
   have HE:=Lib.hid he;clear he
   have hc0:Hid (Pl.bS v [c]=1):=by unfold Hid;rw[hE.out,if_neg (by simp[H0.out]),if_neg hok]
   have hR:Hid (Pl.zy v c=(0,0)):=by unfold Hid Pl.zy;rw[if_neg (by rw[hc0.out];decide)]
   clear hE hok
   go_enter func295,ntmps295
   go_wp2_with (first
    |(go_at_call 112;refine(oJ _ _ v _ (hl.up (by go_grown)) hm).mono ?_;rintro e w1 ⟨rfl,hx1⟩;have jY:w1.heap[w.heap.size]?=some (.cells _ _ (0,0)):=(hx1.block _ (by first|omega|(simp;done)|(simp;omega))).trans (heap_alloc_new _ _);obtain⟨tT,tV⟩:=ah jY;have hsz1:=hx1.size;(try simp at hsz1);have hb1:=bT (w:=w) hx1;have qF:w.heap.size<=w1.heap.size:=hb1.size;clear hx1)
    |(go_at_call 186;refine(o_ _ _ _ _ _ _ _).mono ?_;rintro e w2 ⟨rfl,hx2⟩;rw[HE.out];have hb2:=bT (w:=w) hx2;have hsz2:=hb2.size;clear hx2))
   go_ret3
   exact⟨by rw[hc0.out,hR.out];try rfl,by go_grown⟩
 ·have hv':(Pl.vars v==0)=false:=by simp[hv]
  have hv2:(Pl.vars v !=0)=true:=by simp[hv]
  have hc0:Hid (Pl.bS v [c]=Pl.vars v):=by unfold Hid;rw[hE.out,if_pos hv]
  have hR:Hid (Pl.zy v c=(0,0)):=by unfold Hid Pl.zy;rw[if_neg (by rw[hc0.out];exact hv)]
  clear hE hv
  go_enter func295,ntmps295
  go_wp2_with (first
   |(go_at_call 112;refine(oJ _ _ v _ (hl.up (by go_grown)) hm).mono ?_;rintro e w1 ⟨rfl,hx1⟩;have jY:w1.heap[w.heap.size]?=some (.cells _ _ (0,0)):=(hx1.block _ (by first|omega|(simp;done)|(simp;omega))).trans (heap_alloc_new _ _);obtain⟨tT,tV⟩:=ah jY;have hsz1:=hx1.size;(try simp at hsz1);have hb1:=bT (w:=w) hx1;have qF:w.heap.size<=w1.heap.size:=hb1.size;clear hx1))
  go_ret3
  exact⟨by rw[hc0.out,hR.out];try rfl,by go_grown⟩
theorem En (A:Option Addr)(cp:Nat)(v:List (Int×Int))(c:Pl.bF)(dx dy:Int)(w:World)(hl:Vars w w.heap.size A v)(hm:v.length<=maxLen):
  Calls prog 246 #[.slice A v.length cp,.agg (i6 c.b c.n c.l c.y c.x c.s),.int .i64 dx,.int .i64 dy] w fun e w'=>e=.returned (.tuple (i2 (Pl.opened v c dx dy) (Pl.jW v c dx dy)))∧Below w.heap.size w w':=by
 by_cases h1:Pl.bS v [c]=0
 ·have h1':(Pl.bS v [c] !=0)=false:=by simp[h1]
  by_cases h2:Pl.jI dx dy=true
  ·obtain⟨j0,j1,j2,j3,j4⟩:=Pl.qL h2
   have hE:Hid (Pl.jW v c dx dy=0):=by unfold Hid Pl.jW;rw[if_neg (by simp[h1]),h2];rfl
   have hR:Hid (Pl.opened v c dx dy=(Pl.decl v c.y).1):=by unfold Hid Pl.opened;rw[if_pos hE.out]
   have Z9:(dx==0)=false:=by simpa using j0
   clear h1 h2
   go_enter func246,ntmps246
   go_wp2_with (first
    |(go_at_call 295;refine(yt _ _ v c _ (hl.up (by go_grown)) hm).mono ?_;rintro e w1 ⟨rfl,hx1⟩;have jY:w1.heap[w.heap.size]?=some (.cells _ _ (0,0)):=(hx1.block _ (by first|omega|(simp;done)|(simp;omega))).trans (heap_alloc_new _ _);obtain⟨tT,tV⟩:=ah jY;have hsz1:=hx1.size;(try simp at hsz1);have hb1:=bT (w:=w) hx1;have qF:w.heap.size<=w1.heap.size:=hb1.size;clear hx1)
    |(go_at_call 296;refine(BQ _ _ v _ _ (hl.up (by go_grown)) hm).mono ?_;rintro e w3 ⟨rfl,hx3⟩;have hb3:=bT (w:=w) hx3;clear hx3;have oq:w.heap.size<=w3.heap.size:=hb3.size))
   go_ret2
   exact⟨by rw[hE.out,hR.out];try rfl,by go_grown⟩
  ·have hE:Hid (Pl.jW v c dx dy=1):=by unfold Hid Pl.jW;rw[if_neg (by simp[h1])];simp only[Bool.not_eq_true]at h2;rw[h2];rfl
   have hR:Hid (Pl.opened v c dx dy=0):=by unfold Hid Pl.opened;rw[if_neg (by rw[hE.out];decide)]
   have h3:dx=0∨dx< -100000∨100000<dx∨dy< -100000∨100000<dy:=by unfold Pl.jI at h2;simp only[decide_eq_true_eq]at h2;omega
   clear h1 h2
   go_enter func246,ntmps246
   go_wp2_with (first
    |(go_at_call 295;refine(yt _ _ v c _ (hl.up (by go_grown)) hm).mono ?_;rintro e w1 ⟨rfl,hx1⟩;have jY:w1.heap[w.heap.size]?=some (.cells _ _ (0,0)):=(hx1.block _ (by first|omega|(simp;done)|(simp;omega))).trans (heap_alloc_new _ _);obtain⟨tT,tV⟩:=ah jY;have hsz1:=hx1.size;(try simp at hsz1);have hb1:=bT (w:=w) hx1;have qF:w.heap.size<=w1.heap.size:=hb1.size;clear hx1)
    |(go_at_call 296;refine(BQ _ _ v _ _ (hl.up (by go_grown)) hm).mono ?_;rintro e w3 ⟨rfl,hx3⟩;have hb3:=bT (w:=w) hx3;clear hx3;have oq:w.heap.size<=w3.heap.size:=hb3.size))
   all_goals first
    |(exfalso;omega)
    |(go_ret2;exact⟨by rw[hE.out,hR.out];try rfl,by go_grown⟩)
 ·have h1':(Pl.bS v [c] !=0)=true:=by simp[h1]
  have hE:Hid (Pl.jW v c dx dy=Pl.bS v [c]):=by unfold Hid Pl.jW;rw[if_pos h1]
  have hR:Hid (Pl.opened v c dx dy=0):=by unfold Hid Pl.opened;rw[if_neg (by rw[hE.out];exact h1)]
  clear h1
  go_enter func246,ntmps246
  go_wp2_with (first
   |(go_at_call 295;refine(yt _ _ v c _ (hl.up (by go_grown)) hm).mono ?_;rintro e w1 ⟨rfl,hx1⟩;have jY:w1.heap[w.heap.size]?=some (.cells _ _ (0,0)):=(hx1.block _ (by first|omega|(simp;done)|(simp;omega))).trans (heap_alloc_new _ _);obtain⟨tT,tV⟩:=ah jY;have hsz1:=hx1.size;(try simp at hsz1);have hb1:=bT (w:=w) hx1;have qF:w.heap.size<=w1.heap.size:=hb1.size;clear hx1))
  go_ret2
  exact⟨by rw[hE.out,hR.out];try rfl,by go_grown⟩
theorem Mv {v:List (Int×Int)}{c:Pl.bF}{dx dy:Int}(h:Pl.jW v c dx dy=0):c.ok=true∧dx≠0∧ -100000<=dx∧dx<=100000∧ -100000<=dy∧dy<=100000:=by
 obtain⟨h1,h2⟩:=Pl.Fu h
 obtain⟨_,k1,_⟩:=Pl.CB h1
 exact⟨k1,Pl.qL h2⟩
open RowKit
theorem Mw {lo hi dx ne fa a b:Int}(h:Pl.jE lo hi dx ne fa=if (Pl.eG lo hi dx ne fa).2<(Pl.eG lo hi dx ne fa).1 then (0,0,false)else ((Pl.eG lo hi dx ne fa).1,(Pl.eG lo hi dx ne fa).2,true))
  (h1:(Pl.eG lo hi dx ne fa).1=a) (h2:(Pl.eG lo hi dx ne fa).2=b) (h3:a<=b):Ending.returned (.tuple #[.int .i64 a,.int .i64 b,.bool true])=.returned (.tuple #[.int .i64 (Pl.jE lo hi dx ne fa).1,.int .i64 (Pl.jE lo hi dx ne fa).2.1,.bool (Pl.jE lo hi dx ne fa).2.2]):=by
 rw[h,h1,h2,if_neg (by omega)]
theorem Pp {lo hi dx ne fa:Int}(h:Pl.jE lo hi dx ne fa=if (Pl.eG lo hi dx ne fa).2<(Pl.eG lo hi dx ne fa).1 then (0,0,false)else ((Pl.eG lo hi dx ne fa).1,(Pl.eG lo hi dx ne fa).2,true))
  (h1:(Pl.eG lo hi dx ne fa).2<(Pl.eG lo hi dx ne fa).1):Ending.returned (.tuple #[.int .i64 0,.int .i64 0,.bool false])=.returned (.tuple #[.int .i64 (Pl.jE lo hi dx ne fa).1,.int .i64 (Pl.jE lo hi dx ne fa).2.1,.bool (Pl.jE lo hi dx ne fa).2.2]):=by
 rw[h,if_pos h1]
theorem yu (b n l y x s east dx lo hi:Int)(w:World)(hlo:Hid (Pl.mid b east-n=lo))(hhi:Hid (Pl.mid b east+n=hi))(ho:Pl.dJ b n l y x s=true)(he0: -60<=east)(he1:east<=60)(hd0:1<=dx)(hd1:dx<=100000):
  Calls prog 297 #[.agg (i6 b n l y x s),.int .i64 east,.int .i64 dx] w fun e w'=>e=.returned (.tuple #[.int .i64 (Pl.jE lo hi dx (Pl.near l x s) (Pl.far l x s)).1,.int .i64 (Pl.jE lo hi dx (Pl.near l x s) (Pl.far l x s)).2.1,.bool (Pl.jE lo hi dx (Pl.near l x s) (Pl.far l x s)).2.2])∧Below w.heap.size w w':=by
 obtain⟨⟨g0,g1⟩,⟨g2,g3⟩,⟨g4,g5⟩,⟨g6,g7⟩,⟨g8,g9⟩,g10,g11⟩:=Pl.bF.mF (c:=⟨b,n,l,y,x,s⟩) ho
 clear ho
 simp only[]at g0 g1 g2 g3 g4 g5 g6 g7 g8 g9 g10 g11
 have hm:=Pl.Kq b east
 have r0: -120<=lo:=by have:=hlo.out;omega
 have r1:hi<=300:=by have:=hhi.out;omega
 have r2:lo<=hi:=by have:=hlo.out;have:=hhi.out;omega
 clear hm
 obtain⟨⟨l0,l1⟩,l2,l3⟩:=Pl.Fp g4 g5 g8 g9 g10 g11
 obtain⟨p0,p1⟩:=Pl.fD l0 l1 l0 l1
 obtain⟨p4,p5⟩:=Pl.fD l2 l3 l2 l3
 by_cases h1:hi<=0∨180<=lo
 ·have hE:Hid (Pl.jE lo hi dx (Pl.near l x s) (Pl.far l x s)=(0,0,false)):=by unfold Hid Pl.jE;rw[if_pos (by omega)]
  go_enter func297,ntmps297
  go_wp2_with (go_at_call 335;refine(Em _ _ _ _ _ _ _ lo hi _ hlo hhi g0 g1 g2 g3 he0 he1).mono ?_;rintro e w1 ⟨rfl,hx1⟩;have hb1:=bT (w:=w) hx1;clear hx1;have hsz1:w.heap.size<=w1.heap.size:=hb1.size)
  all_goals go_ret3
  all_goals exact⟨by rw[hE.out];try rfl,by go_grown⟩
 have h2:0<hi:=by omega
 have h3:lo<180:=by omega
 obtain⟨p2,p3⟩:=Pl.fD (show 0<=dx by omega) hd1 (show 0<=dx by omega) hd1
 go_enter func297,ntmps297
 go_upto_if 30 with (go_at_call 335;refine(Em _ _ _ _ _ _ _ lo hi _ hlo hhi g0 g1 g2 g3 he0 he1).mono ?_;rintro e w1 ⟨rfl,hx1⟩;have jY:w1.heap[w.heap.size]?=some (.cells _ _ (0,0)):=(hx1.block _ (by first|omega|(simp;done)|(simp;omega))).trans (heap_alloc_new _ _);obtain⟨tT,tV⟩:=ah jY;have hsz1:=hx1.size;(try simp at hsz1);have hb1:=bT (w:=w) hx1;have qF:w.heap.size<=w1.heap.size:=hb1.size;clear hx1)
 go_cut [12] (fun s12 wx=>s12=.int .i64 (Pl.qW lo dx)∧wx.heap[w.heap.size]?=some (.cells (i6 b n l y x s) 46 (0,0))∧Below w.heap.size w wx)
 case first=>
  by_cases hl:0<lo
  ·obtain⟨c0,c1⟩:=Pl.Av lo
   have sp:=Pl.vL hl (by omega)
   obtain⟨_,s1⟩:=Pl.wo lo
   obtain⟨m0,m1⟩:=Pl.nk (show-100000<=dx by omega) hd1 c0 c1
   have iK:=jY
   go_wp2_with (first
    |(go_at_call 337;refine(Qj _ _).mono ?_;rintro e w7 ⟨rfl,hx7⟩;have iK:w7.heap[w.heap.size]?=some (.cells _ _ (0,0)):=(hx7.block _ (by first|omega|(simp;done)|(simp;omega))).trans (iK);obtain⟨qz,vv⟩:=ah iK;have jJ:=hx7.size;(try simp at jJ);have oK:=bT (w:=w) hx7;have wI:w.heap.size<=w7.heap.size:=oK.size;clear hx7)
    |(go_at_call 338;refine(Ms _ _).mono ?_;rintro e w7 ⟨rfl,hx7⟩;have iK:w7.heap[w.heap.size]?=some (.cells _ _ (0,0)):=(hx7.block _ (by first|omega|(simp;done)|(simp;omega))).trans (iK);obtain⟨qz,vv⟩:=ah iK;have jJ:=hx7.size;(try simp at jJ);have oK:=bT (w:=w) hx7;have wI:w.heap.size<=w7.heap.size:=oK.size;clear hx7)
    |(go_at_call 336;refine(vY _ _ _ (by omega) (by omega) (by omega)).mono ?_;rintro e w' ⟨rfl,rfl⟩))
   all_goals go_meet
   all_goals exact⟨congrArg (Value.int .i64) (by unfold Pl.qW;rw[if_pos hl];omega),iK,by go_grown⟩
  ·go_wp2
   go_meet
   exact⟨by unfold Pl.qW;rw[if_neg (by omega)],jY,by go_grown⟩
 case rest=>
  obtain⟨rfl,kb,hb⟩:=hcut
  have hsz:=hb.size
  clear jY tT tV
  obtain⟨qz,vv⟩:=ah kb
  have hB2:=Lib.hid kb;clear kb
  have hlt:=(Array.getElem?_eq_some_iff.1 hB2.out).1
  go_upto_if 41 with fail
  go_cut [11] (fun s11 wx=>s11=.int .i64 (Pl.sN hi dx)∧wx.heap[w.heap.size]?=some (.cells (i6 b n l y x s) 46 (0,0))∧Below w.heap.size w wx)
  case first=>
   by_cases hl:hi<180
   ·obtain⟨c0,c1⟩:=Pl.Av hi
    have sp:=Pl.vL h2 hl
    obtain⟨_,s1⟩:=Pl.wo hi
    obtain⟨m0,m1⟩:=Pl.nk (show-100000<= -dx by omega) (show-dx<=100000 by omega) c0 c1
    have iK:=hB2.out
    have hfl: -1000000000<= -dx*Pl.cos hi/Pl.sin hi∧ -dx*Pl.cos hi/Pl.sin hi<=1000000000:=by
     have:=Pl.AA (a:= -dx*Pl.cos hi) sp;omega
    obtain⟨f0,f1⟩:=hfl
    go_wp2_with (first
     |(go_at_call 337;refine(Qj _ _).mono ?_;rintro e w7 ⟨rfl,hx7⟩;have iK:w7.heap[w.heap.size]?=some (.cells _ _ (0,0)):=(hx7.block _ (by first|omega|(simp;done)|(simp;omega))).trans (iK);obtain⟨qz,vv⟩:=ah iK;have jJ:=hx7.size;(try simp at jJ);have oK:=bT (w:=w) hx7;have wI:w.heap.size<=w7.heap.size:=oK.size;clear hx7)
     |(go_at_call 338;refine(Ms _ _).mono ?_;rintro e w7 ⟨rfl,hx7⟩;have iK:w7.heap[w.heap.size]?=some (.cells _ _ (0,0)):=(hx7.block _ (by first|omega|(simp;done)|(simp;omega))).trans (iK);obtain⟨qz,vv⟩:=ah iK;have jJ:=hx7.size;(try simp at jJ);have oK:=bT (w:=w) hx7;have wI:w.heap.size<=w7.heap.size:=oK.size;clear hx7)
     |(go_at_call 336;refine(vY _ _ _ (by omega) (by omega) (by omega)).mono ?_;rintro e w' ⟨rfl,rfl⟩))
    all_goals go_meet
    all_goals exact⟨congrArg (Value.int .i64) (by unfold Pl.sN;rw[if_pos hl];omega),iK,by go_grown⟩
   ·go_wp2
    go_meet
    exact⟨by unfold Pl.sN;rw[if_neg (by omega)],hB2.out,by go_grown⟩
  case rest=>
   obtain⟨rfl,kc,hb3⟩:=hcut
   have oq:=hb3.size
   clear qz vv hB2 hlt
   obtain⟨hc8,Wy⟩:=ah kc
   have hlt:=(lO kc)
   have hB3:=Lib.hid kc;clear kc
   have b0:Pl.qW lo dx<=100000:=by unfold Pl.qW;split<;>omega
   have b1: -100000<=Pl.sN hi dx:=by unfold Pl.sN;split<;>omega
   by_cases hr:(l*(10000+x+s))*(l*(10000+x+s))/100000000-dx*dx<0
   ·have hE:Hid (Pl.jE lo hi dx (Pl.near l x s) (Pl.far l x s)=(0,0,false)):=by unfold Hid Pl.jE Pl.room Pl.far;rw[if_pos (by omega)]
    go_wp2_with (go_at_call 336;refine(vY _ _ _ (by omega) (by omega) (by omega)).mono ?_;rintro e w' ⟨rfl,rfl⟩)
    all_goals go_ret3
    all_goals exact⟨by rw[hE.out];try rfl,by go_grown⟩
   ·obtain⟨t0,t1,_,_⟩:=Pl.pV ((l*(10000+x+s))*(l*(10000+x+s))/100000000-dx*dx)
    have u0:=(Pl.tN (-(-(l*(10000+x-s))*(l*(10000+x-s))/100000000)-dx*dx))
    obtain⟨u0,u1⟩:=u0
    have nn: -1144900000000000000<= -(l*(10000+x-s))*(l*(10000+x-s))∧ -(l*(10000+x-s))*(l*(10000+x-s))<=0:=by rw[Int.neg_mul];omega
    obtain⟨Z_,KX⟩:=nn
    go_upto_if 105 with (first
     |(go_at_call 336;refine(vY _ _ _ (by omega) (by omega) (by omega)).mono ?_;rintro e w' ⟨rfl,rfl⟩)
     |(go_at_call 339;refine(Mt _ _).mono ?_;rintro e w' ⟨rfl,rfl⟩))
    have hE:Hid (Pl.jE lo hi dx (Pl.near l x s) (Pl.far l x s)=if (Pl.eG lo hi dx (Pl.near l x s) (Pl.far l x s)).2<(Pl.eG lo hi dx (Pl.near l x s) (Pl.far l x s)).1 then (0,0,false)else ((Pl.eG lo hi dx (Pl.near l x s) (Pl.far l x s)).1,(Pl.eG lo hi dx (Pl.near l x s) (Pl.far l x s)).2,true)):=by
     unfold Hid
     rw[Pl.Pm r2]
     unfold Pl.RH
     have q0:Pl.room dx (Pl.far l x s)=l*(10000+x+s)*(l*(10000+x+s))/100000000-dx*dx:=rfl
     by_cases h3:(Pl.eG lo hi dx (Pl.near l x s) (Pl.far l x s)).2<(Pl.eG lo hi dx (Pl.near l x s) (Pl.far l x s)).1
     ·rw[if_pos (by omega),if_pos h3]
     ·rw[if_neg (by rw[q0];omega),if_neg h3]
    have hR: ∃R,Pl.root (l*(10000+x+s)*(l*(10000+x+s))/100000000-dx*dx)=R:=⟨_,rfl⟩
    obtain⟨R,hR⟩:=hR
    have hS: ∃S,-(-(l*(10000+x-s))*(l*(10000+x-s))/100000000)-dx*dx=S:=⟨_,rfl⟩
    obtain⟨S,hS⟩:=hS
    have e11:(if Pl.sN hi dx< -R then-R else Pl.sN hi dx)=max (Pl.sN hi dx) (-R):=by split<;>omega
    have e12:(if R<Pl.qW lo dx then R else Pl.qW lo dx)=min (Pl.qW lo dx) R:=by split<;>omega
    rw[hR,hS,e11,e12]
    rw[hR]at t0 t1
    rw[hS]at u0 u1
    have HR:Hid (Pl.root (Pl.room dx (Pl.far l x s))=R):=hR
    have HS:Hid (Pl.short dx (Pl.near l x s)=S):=by unfold Hid Pl.short Pl.near;rw[<-hS,Int.neg_mul]
    clear hR hS e11 e12
    go_cut [11,12] (fun s11 s12 wx=>s11=.int .i64 (if hi<=90 then max (max (Pl.sN hi dx) (-R)) (Pl.gT S)else max (Pl.sN hi dx) (-R))∧s12=.int .i64 (min (Pl.qW lo dx) R)∧Below w.heap.size w wx)
    case first=>
     by_cases QN:hi<=90
     ·go_wp2_with (go_at_call 340;refine(Ej _ _).mono ?_;rintro e w' ⟨rfl,rfl⟩)
      all_goals go_meet
      all_goals exact⟨congrArg (Value.int .i64) (by rw[if_pos QN];omega),rfl,by go_grown⟩
     ·go_wp2
      go_meet
      exact⟨by rw[if_neg (by omega)],rfl,by go_grown⟩
    case rest=>
     obtain⟨rfl,rfl,hb5⟩:=hcut
     generalize hX:(if hi<=90 then max (max (Pl.sN hi dx) (-R)) (Pl.gT S)else max (Pl.sN hi dx) (-R))=X
     have HX:=Lib.hid hX;clear hX
     go_upto_if 111 with fail
     go_cut [11,12] (fun s11 s12 wx=>s11=.int .i64 X∧s12=.int .i64 (if 90<=lo then min (min (Pl.qW lo dx) R) (-Pl.gT S)else min (Pl.qW lo dx) R)∧Below w.heap.size w wx)
     case first=>
      by_cases QN:90<=lo
      ·go_wp2_with (go_at_call 340;refine(Ej _ _).mono ?_;rintro e w' ⟨rfl,rfl⟩)
       all_goals go_meet
       all_goals exact⟨rfl,congrArg (Value.int .i64) (by rw[if_pos QN];omega),by go_grown⟩
      ·go_wp2
       go_meet
       exact⟨rfl,by rw[if_neg (by omega)],by go_grown⟩
     case rest=>
      obtain⟨rfl,rfl,hb6⟩:=hcut
      have E1:(Pl.eG lo hi dx (Pl.near l x s) (Pl.far l x s)).1=if hi<=90 then max (max (Pl.sN hi dx) (-R)) (Pl.gT S)else max (Pl.sN hi dx) (-R):=by
       rw[<-HR.out,<-HS.out];rfl
      rw[HX.out]at E1
      have E2:(Pl.eG lo hi dx (Pl.near l x s) (Pl.far l x s)).2=if 90<=lo then min (min (Pl.qW lo dx) R) (-Pl.gT S)else min (Pl.qW lo dx) R:=by
       rw[<-HR.out,<-HS.out];rfl
      have Xi:=Lib.hid E1;have HE2:=Lib.hid E2;clear E1 E2
      generalize (if 90<=lo then min (min (Pl.qW lo dx) R) (-Pl.gT S)else min (Pl.qW lo dx) R)=Y at*
      go_wp2
      all_goals go_ret3
      all_goals refine⟨?_,by go_grown⟩
      all_goals first
       |exact Mw hE.out Xi.out HE2.out (by omega)
       |exact Pp hE.out (by rw[Xi.out,HE2.out];omega)
open RowKit
theorem Pq (lo hi dx ne fa:Int): -100000<=(Pl.jE lo hi dx ne fa).1∧(Pl.jE lo hi dx ne fa).1<=100000∧ -100000<=(Pl.jE lo hi dx ne fa).2.1∧(Pl.jE lo hi dx ne fa).2.1<=100000:=Pl.AJ lo hi dx ne fa
theorem RL (c:Pl.bF)(east dx:Int)(w:World)(ho:c.ok=true)(he0: -60<=east)(he1:east<=60)(h0:dx≠0)(hd0: -100000<=dx)(hd1:dx<=100000):
  Calls prog 247 #[.agg (i6 c.b c.n c.l c.y c.x c.s),.int .i64 east,.int .i64 dx] w fun e w'=>e=.returned (.tuple #[.int .i64 (Pl.Qi c east dx).1,.int .i64 (Pl.Qi c east dx).2.1,.bool (Pl.Qi c east dx).2.2])∧Below w.heap.size w w':=by
 obtain⟨⟨g0,g1⟩,_⟩:=c.mF ho
 have hK:=Lib.hid ho;clear ho
 by_cases hd:dx<0
 ·have hR:Hid (Pl.Qi c east dx=Pl.flip (Pl.jE (Pl.mid ((c.b+180)%360) east-c.n) (Pl.mid ((c.b+180)%360) east+c.n) (-dx) (Pl.near c.l c.x c.s) (Pl.far c.l c.x c.s))):=by unfold Hid Pl.Qi;rw[if_pos hd];rfl
  obtain⟨b0,b1,b2,b3⟩:=Pq (Pl.mid ((c.b+180)%360) east-c.n) (Pl.mid ((c.b+180)%360) east+c.n) (-dx) (Pl.near c.l c.x c.s) (Pl.far c.l c.x c.s)
  go_enter func247,ntmps247
  go_wp2_with (first
   |(go_at_call 164;refine(iE _ _).mono ?_;rintro e w' ⟨rfl,rfl⟩)
   |(go_at_call 297;refine(yu ((c.b+180)%360) c.n c.l c.y c.x c.s east _ _ _ _ rfl rfl (Pl.bF.AB hK.out) he0 he1 (by omega) (by omega)).mono ?_;rintro e w2 ⟨rfl,hx2⟩;have hb2:=bT (w:=w) hx2;clear hx2;have hsz2:w.heap.size<=w2.heap.size:=hb2.size))
  go_ret3
  exact⟨by rw[hR.out];rfl,by go_grown⟩
 ·have hR:Hid (Pl.Qi c east dx=Pl.jE (Pl.mid c.b east-c.n) (Pl.mid c.b east+c.n) dx (Pl.near c.l c.x c.s) (Pl.far c.l c.x c.s)):=by unfold Hid Pl.Qi;rw[if_neg hd];rfl
  go_enter func247,ntmps247
  go_wp2_with (first
   |(go_at_call 297;refine(yu _ _ _ _ _ _ _ _ _ _ _ rfl rfl hK.out he0 he1 (by omega) (by omega)).mono ?_;rintro e w2 ⟨rfl,hx2⟩;have hb2:=bT (w:=w) hx2;clear hx2;have hsz2:w.heap.size<=w2.heap.size:=hb2.size))
  go_ret3
  exact⟨by rw[hR.out];rfl,by go_grown⟩
theorem Gs (A:Option Addr)(cp:Nat)(v:List (Int×Int))(c:Pl.bF)(dx:Int)(w:World)(hl:Vars w w.heap.size A v)(hm:v.length<=maxLen):
  Calls prog 187 #[.slice A v.length cp,.agg (i6 c.b c.n c.l c.y c.x c.s),.int .i64 dx] w fun e w'=>e=.returned (.tuple #[.int .i64 (Pl.com v [c] dx).1,.int .i64 (Pl.com v [c] dx).2.1,.bool (Pl.com v [c] dx).2.2,.int .i64 (Pl.jA v [c] dx)])∧Below w.heap.size w w':=by
 have HC:=Lib.hid (Pl.ND v c dx)
 have HE:=Lib.hid (Pl.CJ v c dx)
 by_cases h1:Pl.jW v c dx 0=0
 ·obtain⟨k1,j0,j1,j2,j3,j4⟩:=Mv h1
  have h1':(Pl.jW v c dx 0 !=0)=false:=by simp[h1]
  have hR:Hid (Pl.com v [c] dx=Pl.Qi c (Pl.opened v c dx 0) dx):=by unfold Hid Pl.opened;rw[HC.out,if_pos h1,if_pos h1];rfl
  have hO: -60<=Pl.opened v c dx 0∧Pl.opened v c dx 0<=60:=by unfold Pl.opened;rw[if_pos h1];exact rz v c.y
  obtain⟨o0,o1⟩:=hO
  have H1:=Lib.hid h1
  have HK:=Lib.hid k1
  clear h1 k1
  go_enter func187,ntmps187
  go_wp2_with (first
   |(go_at_call 246;refine(En _ _ v c _ _ _ (hl.up (by go_grown)) hm).mono ?_;rintro e w1 ⟨rfl,hx1⟩;have jY:w1.heap[w.heap.size]?=some (.cells _ _ (0,0)):=(hx1.block _ (by first|omega|(simp;done)|(simp;omega))).trans (heap_alloc_new _ _);obtain⟨tT,tV⟩:=ah jY;have hsz1:=hx1.size;(try simp at hsz1);have hb1:=bT (w:=w) hx1;have qF:w.heap.size<=w1.heap.size:=hb1.size;clear hx1)
   |(go_at_call 247;refine(RL c _ _ _ HK.out o0 o1 j0 j1 j2).mono ?_;rintro e w3 ⟨rfl,hx3⟩;have hb3:=bT (w:=w) hx3;clear hx3;have oq:w.heap.size<=w3.heap.size:=hb3.size))
  go_returns
  exact⟨by rw[HE.out,H1.out,hR.out];try rfl,by go_grown⟩
 ·have h1':(Pl.jW v c dx 0 !=0)=true:=by simp[h1]
  have hR:Hid (Pl.com v [c] dx=(0,0,false)):=by unfold Hid;rw[HC.out,if_neg h1]
  clear h1
  go_enter func187,ntmps187
  go_wp2_with (first
   |(go_at_call 246;refine(En _ _ v c _ _ _ (hl.up (by go_grown)) hm).mono ?_;rintro e w1 ⟨rfl,hx1⟩;have jY:w1.heap[w.heap.size]?=some (.cells _ _ (0,0)):=(hx1.block _ (by first|omega|(simp;done)|(simp;omega))).trans (heap_alloc_new _ _);obtain⟨tT,tV⟩:=ah jY;have hsz1:=hx1.size;(try simp at hsz1);have hb1:=bT (w:=w) hx1;have qF:w.heap.size<=w1.heap.size:=hb1.size;clear hx1))
  go_returns
  exact⟨by rw[HE.out,hR.out];try rfl,by go_grown⟩
