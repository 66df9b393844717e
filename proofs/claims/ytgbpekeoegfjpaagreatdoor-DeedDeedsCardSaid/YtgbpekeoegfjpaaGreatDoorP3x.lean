/- Walks of the law DeedCalls in one text, part 3a: the reference's Interval and what it needs. -/
import Derived.Test.YtgbpekeoegfjpaaGreatDoorZ01
import Derived.Test.YtgbpekeoegfjpaaGreatDoorZ00
set_option maxRecDepth 100000
namespace Go.Proofs.YtgbpekeoegfjpaaGreatDoor
open Go.RowKit
namespace Pl
theorem IsRoot.small {n:Int}(h:n<1):IsRoot n 0:=⟨by omega,by omega,fun _=>rfl,fun h0=>by simpa using h0,fun _=>by omega⟩
theorem BitInv.yes {n r m:Int}{k:Nat}(h:BitInv n r (k+1))(hm:m=r+2^k)(h1:m<=3037000499)(h2:m*m<=n):BitInv n m k:=by
 subst hm
 obtain⟨a0,a1,a2,a3,a4,a5⟩:=h
 have hp:(0:Int)<2^k:=Int.pow_pos (by omega)
 have he:r+2^k+2^k=r+2^(k+1):=by rw[Int.pow_succ];omega
 exact⟨by omega,h1,by omega,h2,a4,by rw[he];exact a5⟩
theorem one_le_pow (k:Nat):(1:Int)<=2^k:=by have:(0:Int)<2^k:=Int.pow_pos (by omega);omega
theorem pow_le_31 (k:Nat)(h:k<=31):(2:Int)^k<=2147483648:=by
 have:(2:Nat)^k<=2^31:=Nat.pow_le_pow_right (by omega) h
 have e:((2^k:Nat):Int)=(2:Int)^k:=by rw[Int.natCast_pow];rfl
 rw[<-e];omega
theorem declGo_none {y:Int}: ∀(l:List (Int×Int)) (s:Int×Bool),(∀x∈l,y<x.1)->declGo y s l=s
 | [],_,_=>rfl
 |q::l,s,h=>by
  have h1:=h q (by simp)
  unfold declGo
  rw[if_neg (by omega)]
  exact declGo_none l s fun x hx=>h x (by simp[hx])
theorem declGo_append {y:Int}: ∀(a b:List (Int×Int)) (s:Int×Bool),declGo y s (a++b)=declGo y (declGo y s a) b
 | [],_,_=>rfl
 |_::a,b,_=>declGo_append a b _
theorem decl_none {l:List (Int×Int)}{y:Int}(h0:vars l=0)(h: ∀(j:Nat) x,0<=j->l[j]?=some x->y<x.1):decl l y=(0,false):=by
 unfold decl
 rw[if_pos h0]
 refine declGo_none _ _ fun x hx=> ?_
 obtain⟨j,hj,rfl⟩:=List.mem_iff_getElem.1 hx
 exact h j _ (Nat.zero_le _) (List.getElem?_eq_getElem hj)
theorem decl_last {l:List (Int×Int)}{y:Int}{k:Nat}(h0:vars l=0)(hk:k<l.length)(hy:l[k].1<=y)(h: ∀(j:Nat) x,k+1<=j->l[j]?=some x->y<x.1):decl l y=(l[k].2,true):=by
 unfold decl
 rw[if_pos h0]
 have e:l=l.take k++l[k]::l.drop (k+1):=by rw[<-List.drop_eq_getElem_cons hk,List.take_append_drop]
 have e2:declGo y (0,false) (l.take k++l[k]::l.drop (k+1))=(l[k].2,true):=by
  rw[declGo_append]
  unfold declGo
  rw[if_pos hy]
  refine declGo_none _ _ fun x hx=> ?_
  obtain⟨j,hj,rfl⟩:=List.mem_iff_getElem.1 hx
  refine h (k+1+j) _ (by omega) ?_
  rw[List.getElem?_eq_getElem (by simp at hj;omega),List.getElem_drop]
 rw[<-e]at e2
 exact e2
theorem tdiv_mul_bd {a b:Int}(hb:1<=b):(0<=a->0<=a.tdiv b*b∧a.tdiv b*b<=a)∧(a<=0->a<=a.tdiv b*b∧a.tdiv b*b<=0):=by
 have e:=Int.mul_tdiv_add_tmod a b
 have e2:a.tdiv b*b=b*a.tdiv b:=Int.mul_comm _ _
 constructor
 ·intro h
  have h1:=Int.tmod_nonneg b h
  have h2:=(tdiv_bd (a:=a) hb).1 h
  have h3:=Int.mul_nonneg h2.1 (show 0<=b by omega)
  omega
 ·intro h
  have h1:0<=(-a).tmod b:=Int.tmod_nonneg b (by omega)
  rw[Int.neg_tmod]at h1
  have h2:=(tdiv_bd (a:=a) hb).2 h
  have h3:=Int.mul_nonneg (show 0<= -a.tdiv b by omega) (show 0<=b by omega)
  rw[Int.neg_mul]at h3
  omega
theorem floor_mul_up {a b:Int}(hb:1<=b)(h:a<a.tdiv b*b):a.tdiv b-1=a/b:=by
 refine floor_up hb ?_
 have e:=Int.mul_tdiv_add_tmod a b
 have e2:a.tdiv b*b=b*a.tdiv b:=Int.mul_comm _ _
 omega
theorem floor_mul_eq {a b:Int}(hb:1<=b)(h: ¬a<a.tdiv b*b):a.tdiv b=a/b:=by
 refine floor_eq hb ?_
 have e:=Int.mul_tdiv_add_tmod a b
 have e2:a.tdiv b*b=b*a.tdiv b:=Int.mul_comm _ _
 omega
def secR (v:List (Int×Int))(c:Crs):Int×Int:=if commonE v [c]=0 then (c.lo v,c.hi v)else (0,0)
def ivX (c:Crs)(east dx:Int):Int×Int×Bool:=ivl (mid c.b east-c.n) (mid c.b east+c.n) dx c.ne c.fa
def ivD (c:Crs)(east dx:Int):Int×Int×Bool:=if dx<0 then flip (ivX c.back east (-dx))else ivX c east dx
def endsB (lo hi dx ne fa:Int):Int×Int:=
 let b:=if 0<lo then min 100000 (dx*cos lo/sin lo)else 100000
 let a:=if hi<180 then max (-100000) (-(-dx*cos hi/sin hi))else-100000
 let b:=min b (root (room dx fa))
 let a:=max a (-root (room dx fa))
 (if hi<=90 then max a (rootUp (short dx ne))else a,if 90<=lo then min b (-rootUp (short dx ne))else b)
theorem cos90 :cos 90=0:=by decide+kernel
theorem sin90 :sin 90=10000:=by decide+kernel
theorem ends_eq {lo hi dx ne fa:Int}(hlh:lo<=hi):(ends lo hi dx ne fa=endsB lo hi dx ne fa)∨((ends lo hi dx ne fa).2<(ends lo hi dx ne fa).1∧(endsB lo hi dx ne fa).2<(endsB lo hi dx ne fa).1)∨
  ((ends lo hi dx ne fa).1=(endsB lo hi dx ne fa).1∧(ends lo hi dx ne fa).2=(endsB lo hi dx ne fa).2):=by
 have e1: -dx*cos hi= -(dx*cos hi):=Int.neg_mul _ _
 have h0:=reach_bd dx fa
 have h1:=(root_bd (room dx fa)).1
 have h2:=(rootUp_bd (short dx ne)).1
 by_cases h:hi<=90∧90<=lo
 ·obtain rfl:lo=90:=by omega
  obtain rfl:hi=90:=by omega
  have t:topBy 90 dx (reach dx fa)=0:=by unfold topBy;rw[cos90,sin90];simp;omega
  have k:lowBy 90 dx (-reach dx fa)=0:=by unfold lowBy;rw[cos90,sin90];simp;omega
  by_cases hz:rootUp (short dx ne)=0
  ·right;right
   unfold ends endsB reach at*
   simp only[]at*
   rw[cos90,sin90]at*
   simp at*
   omega
  ·right;left
   unfold ends endsB reach at*
   simp only[]at*
   rw[cos90,sin90]at*
   simp at*
   omega
 ·right;right
  unfold ends endsB topBy lowBy reach at*
  simp only[e1]at*
  constructor<;>(repeat' split)<;>omega
def topB (lo dx:Int):Int:=if 0<lo then min 100000 (dx*cos lo/sin lo)else 100000
def lowB (hi dx:Int):Int:=if hi<180 then max (-100000) (-(-dx*cos hi/sin hi))else-100000
def ivlB (lo hi dx ne fa:Int):Int×Int×Bool:=
 if hi<=0∨180<=lo∨room dx fa<0∨(endsB lo hi dx ne fa).2<(endsB lo hi dx ne fa).1 then (0,0,false)
 else ((endsB lo hi dx ne fa).1,(endsB lo hi dx ne fa).2,true)
theorem ivl_eqB {lo hi dx ne fa:Int}(hlh:lo<=hi):ivl lo hi dx ne fa=ivlB lo hi dx ne fa:=by
 unfold ivl ivlB
 rcases ends_eq (dx:=dx) (ne:=ne) (fa:=fa) hlh with h|⟨h1,h2⟩|⟨h1,h2⟩
 ·rw[h]
 ·rw[if_pos (by omega),if_pos (by omega)]
 ·rw[h1,h2]
end Pl
theorem chain_b (x s:Int)(w:World):
  Calls Tryz.prog 245 #[.agg (i2 x s)] w fun e w'=>e=.returned (.int .i64 (Pl.err (Pl.chainOk x s)))∧Below w.heap.size w w':=by
 go_enter Tryz.func245,Tryz.ntmps245
 go_wp2
 all_goals go_ret
 all_goals exact⟨ret_int (by grind [Pl.err,Pl.chainOk]),by go_grown⟩
theorem norm_b (d:Int)(w:World):
  Calls Tryz.prog 164 #[.int .i64 d] w fun e w'=>e=.returned (.int .i64 (d%360))∧w=w':=by
 have e0:=Pl.tmod360 d
 have H:=Lib.hid e0;clear e0
 go_enter Tryz.func164,Tryz.ntmps164
 go_wp2
 all_goals go_ret
 all_goals exact⟨ret_int (by have e0:=H.out;(try unfold wrap64);grind),rfl⟩
theorem course_b (b n l y x s:Int)(w:World):
  Calls Tryz.prog 186 #[.agg (i6 b n l y x s)] w fun e w'=>e=.returned (.int .i64 (Pl.err (Pl.courseOk b n l y x s)))∧Below w.heap.size w w':=by
 go_enter Tryz.func186,Tryz.ntmps186
 go_wp2_with (first|(go_at_call 245;refine(chain_b _ _ _).mono ?_;rintro e w1 ⟨rfl,hx1⟩;have hb1:Below w.heap.size w w1:=Below.trans (by go_grown) (hx1.mono (by go_size));clear hx1;have hsz1:w.heap.size<=w1.heap.size:=hb1.size))
 all_goals go_ret
 all_goals exact⟨ret_int (by grind [Pl.inB,Pl.err,Pl.courseOk]),by go_grown⟩
theorem sines_b (w:World):Calls Tryz.prog 363 #[] w fun e w'=>e=.returned (.slice (some ⟨w.heap.size,0,none⟩) 91 91)∧w.alloc (.cells tabV 3)=w':=by
 go_enter Tryz.func363,Tryz.ntmps363
 go_wp2_with (refine wpList_buildFlat rfl 62 3 91 _ rfl .i64 Pl.tab Tryz.underlying62 (by kernel_rfl) (by kernel_rfl) (by kernel_rfl) (by omega) (by omega) (by kernel_rfl) ?_)
 go_ret
 exact⟨rfl,rfl⟩
theorem sinh_b (d:Int)(w:World)(h0:0<=d)(h1:d<=180):Calls Tryz.prog 338 #[.int .i64 d] w fun e w'=>e=.returned (.int .i64 (Pl.sinH d))∧Below w.heap.size w w':=by
 have e0:d%360=d:=by omega
 have H:=Lib.hid e0;clear e0
 by_cases hd:d<=90
 ·have hc:(w.alloc (.cells tabV 3)).cell? ⟨w.heap.size,d.toNat,none⟩=some (.int .i64 (Pl.tab[d.toNat]?.getD 0)):=by
   rw[cell_of_row _ _ _ _ _ _ (heap_alloc_new _ _)];exact tabV_at _ (by omega)
  go_enter Tryz.func338,Tryz.ntmps338
  go_wp2_with (go_at_call 164;refine(norm_b _ _).mono ?_;rintro e w' ⟨rfl,rfl⟩;rw[H.out])
  go_wp2_with (go_at_call 363;refine(sines_b _).mono ?_;rintro e w' ⟨rfl,rfl⟩)
  go_ret
  exact⟨ret_int (by unfold Pl.sinH;rw[if_pos hd]),by go_grown⟩
 ·have hc:(w.alloc (.cells tabV 3)).cell? ⟨w.heap.size,(180-d).toNat,none⟩=some (.int .i64 (Pl.tab[(180-d).toNat]?.getD 0)):=by
   rw[cell_of_row _ _ _ _ _ _ (heap_alloc_new _ _)];exact tabV_at _ (by omega)
  go_enter Tryz.func338,Tryz.ntmps338
  go_wp2_with (go_at_call 164;refine(norm_b _ _).mono ?_;rintro e w' ⟨rfl,rfl⟩;rw[H.out])
  go_wp2_with (go_at_call 363;refine(sines_b _).mono ?_;rintro e w' ⟨rfl,rfl⟩)
  go_ret
  exact⟨ret_int (by unfold Pl.sinH;rw[if_neg (by omega)]),by go_grown⟩
theorem sin_b (d:Int)(w:World):Calls Tryz.prog 338 #[.int .i64 d] w fun e w'=>e=.returned (.int .i64 (Pl.sin d))∧Below w.heap.size w w':=by
 obtain⟨h0,h1⟩:=sin_range d
 by_cases hd:d%360<=90
 ·have hc:(w.alloc (.cells tabV 3)).cell? ⟨w.heap.size,(d%360).toNat,none⟩=some (.int .i64 (Pl.tab[(d%360).toNat]?.getD 0)):=by
   rw[cell_of_row _ _ _ _ _ _ (heap_alloc_new _ _)];exact tabV_at _ (by omega)
  go_enter Tryz.func338,Tryz.ntmps338
  go_wp2_with (first|(go_at_call 164;refine(norm_b _ _).mono ?_;rintro e w' ⟨rfl,rfl⟩)|(go_at_call 363;refine(sines_b _).mono ?_;rintro e w' ⟨rfl,rfl⟩))
  go_ret
  exact⟨ret_int (by unfold Pl.sin Pl.sinH;rw[if_pos (by omega),if_pos hd]),by go_grown⟩
 by_cases hd2:d%360<=180
 ·have hc:(w.alloc (.cells tabV 3)).cell? ⟨w.heap.size,(180-d%360).toNat,none⟩=some (.int .i64 (Pl.tab[(180-d%360).toNat]?.getD 0)):=by
   rw[cell_of_row _ _ _ _ _ _ (heap_alloc_new _ _)];exact tabV_at _ (by omega)
  go_enter Tryz.func338,Tryz.ntmps338
  go_wp2_with (first|(go_at_call 164;refine(norm_b _ _).mono ?_;rintro e w' ⟨rfl,rfl⟩)|(go_at_call 363;refine(sines_b _).mono ?_;rintro e w' ⟨rfl,rfl⟩))
  go_ret
  exact⟨ret_int (by unfold Pl.sin Pl.sinH;rw[if_pos (by omega),if_neg (by omega)]),by go_grown⟩
 ·obtain⟨h2,h3⟩:=Pl.sinH_bd (d%360-180)
  go_enter Tryz.func338,Tryz.ntmps338
  go_wp2_with (first|(go_at_call 164;refine(norm_b _ _).mono ?_;rintro e w' ⟨rfl,rfl⟩)|(go_at_call 363;refine(sines_b _).mono ?_;rintro e w' ⟨rfl,rfl⟩)|(go_at_call 338;refine(sinh_b _ _ (by omega) (by omega)).mono ?_;rintro e w1 ⟨rfl,hx1⟩;have hb1:Below w.heap.size w w1:=Below.trans (by go_grown) (hx1.mono (by go_size));clear hx1;have hsz1:w.heap.size<=w1.heap.size:=hb1.size))
  go_ret
  exact⟨ret_int (by unfold Pl.sin;rw[if_neg (by omega)]),hb1⟩
theorem cos_b (d:Int)(w:World):Calls Tryz.prog 337 #[.int .i64 d] w fun e w'=>e=.returned (.int .i64 (Pl.cos d))∧Below w.heap.size w w':=by
 obtain⟨h0,h1⟩:=sin_range d
 go_enter Tryz.func337,Tryz.ntmps337
 go_wp2_with (first|(go_at_call 164;refine(norm_b _ _).mono ?_;rintro e w' ⟨rfl,rfl⟩)|(go_at_call 338;refine(sin_b _ _).mono ?_;rintro e w1 ⟨rfl,hx1⟩;have hb1:Below w.heap.size w w1:=Below.trans (by go_grown) (hx1.mono (by go_size));clear hx1;have hsz1:w.heap.size<=w1.heap.size:=hb1.size))
 go_ret
 exact⟨rfl,hb1⟩
theorem root_b (n:Int)(w:World):Calls Tryz.prog 339 #[.int .i64 n] w fun e w'=>e=.returned (.int .i64 (Pl.root n))∧w=w':=by
 by_cases hn:n<1
 ·go_enter Tryz.func339,Tryz.ntmps339
  go_wp2
  go_ret
  exact⟨ret_int (Pl.root_eq (Pl.IsRoot.small hn)),rfl⟩
 ·go_enter Tryz.func339,Tryz.ntmps339
  go_wp2
  go_loop [3,4] (fun a b=> ∃(r:Int) (k:Nat),Pl.BitInv n r k∧a=.int .i64 r∧b=.int .i64 ((k:Int)-1)) (fun _ b=>(intOf b+1).toNat)
  case atStart=>exact⟨0,32,.start (by omega),rfl,rfl⟩
  case round=>
   obtain⟨r,k,hI,rfl,rfl⟩:=hrel
   have b0:=hI.1
   have b1:=hI.2.1
   have b2:=hI.2.2.1
   cases k with
   |zero=>
    have H:=Lib.hid hI;clear hI
    go_wp2
    go_ret
    exact⟨ret_int (Pl.root_eq H.out.done),rfl⟩
   | succ k=>
    have p1:(1:Int)<=2^k:=Pl.one_le_pow k
    have p2:(2:Int)^k<=2147483648:=Pl.pow_le_31 k (by omega)
    have H:=Lib.hid hI;clear hI
    by_cases hm:r+2^k<=3037000499
    ·have s0:=Pl.sq_nonneg (r+2^k)
     have s1:=Pl.sq_max (show 0<=r+2^k by omega) hm
     go_wp2
     ·go_round
      case rel=>exact⟨_,k,H.out.yes rfl hm (by assumption),rfl,rfl⟩
      case measure=>simp[intOf];try omega
     ·go_round
      case rel=>exact⟨_,k,H.out.no rfl (by omega),rfl,rfl⟩
      case measure=>simp[intOf];try omega
    ·go_wp2
     go_round
     case rel=>exact⟨_,k,H.out.no rfl (by omega),rfl,rfl⟩
     case measure=>simp[intOf];try omega
theorem rootUp_b (n:Int)(w:World):Calls Tryz.prog 340 #[.int .i64 n] w fun e w'=>e=.returned (.int .i64 (Pl.rootUp n))∧w=w':=by
 obtain⟨b0,b1,b2,b3⟩:=Pl.root_bd n
 go_enter Tryz.func340,Tryz.ntmps340
 go_wp2_with (go_at_call 339;refine(root_b _ _).mono ?_;rintro e w' ⟨rfl,rfl⟩)
 all_goals go_ret
 all_goals exact⟨ret_int (by grind [Pl.rootUp]),rfl⟩
theorem decl_b (A:Option Addr)(c:Nat)(l:List (Int×Int))(y:Int)(w:World)(hl:Vars w w.heap.size A l)(hm:l.length<=maxLen):
  Calls Tryz.prog 296 #[.slice A l.length c,.int .i64 y] w fun e w'=>e=.returned (.tuple #[.int .i64 (Pl.decl l y).1,.bool (Pl.decl l y).2])∧Below w.heap.size w w':=by
 have hm':=hm
 unfold maxLen at hm
 by_cases hv:Pl.vars l=0
 ·have hv':(Pl.vars l !=0)=false:=by simp[hv]
  have H0:=Lib.hid hv;clear hv
  go_enter Tryz.func296,Tryz.ntmps296
  go_wp2_with (go_at_call 112;refine(vars_b _ _ _ _ hl hm').mono ?_;rintro e w1 ⟨rfl,hx1⟩;have hb1:Below w.heap.size w w1:=Below.trans (by go_grown) (hx1.mono (by go_size));clear hx1;have hsz1:w.heap.size<=w1.heap.size:=hb1.size)
  have Hsp:=Lib.hid hsz1;clear hsz1
  go_loopw [6] (fun i wr=> ∃(k:Nat),k<=l.length∧i=.int .i64 ((k:Int)-1)∧Hid (∀j x,k<=j->l[j]?=some x->y<x.1)∧Below w.heap.size w wr) (fun i _=>(intOf i+1).toNat)
  case atStart=>
   refine⟨l.length,by omega,rfl,?_,by go_grown⟩
   intro j x hj hx;rw[List.getElem?_eq_none hj]at hx;cases hx
  case round=>
   obtain⟨k,hk,rfl,hg,hb⟩:=hrel
   have hsz:=hb.size
   cases k with
   |zero=>
    go_wp2
    go_ret2
    exact⟨by rw[Pl.decl_none H0.out hg.out];rfl,by go_grown⟩
   | succ k=>
    have hlt:k<l.length:=by omega
    obtain⟨b,off,rfl,hbB,hc0,hc1⟩:=Vars.at2 (hl.below hb) hlt
    go_wp2
    ·go_ret2
     exact⟨by rw[Pl.decl_last H0.out hlt (by assumption) hg.out];rfl,by go_grown⟩
    ·go_roundw
     case rel=>exact⟨k,by omega,rfl,Pl.later hlt (by assumption) hg.out,by go_grown⟩
     case measure=>simp[intOf];try omega
 ·have hv':(Pl.vars l !=0)=true:=by simp[hv]
  have H0:=Lib.hid hv;clear hv
  go_enter Tryz.func296,Tryz.ntmps296
  go_wp2_with (go_at_call 112;refine(vars_b _ _ _ _ hl hm').mono ?_;rintro e w1 ⟨rfl,hx1⟩;have hb1:Below w.heap.size w w1:=Below.trans (by go_grown) (hx1.mono (by go_size));clear hx1;have hsz1:w.heap.size<=w1.heap.size:=hb1.size)
  go_ret2
  exact⟨by unfold Pl.decl;rw[if_neg H0.out];rfl,by go_grown⟩
theorem sector_b (b n l y x s east:Int)(w:World)(hb0:0<=b)(hb1:b<=359)(hn0:0<=n)(hn1:n<=30)(he0: -60<=east)(he1:east<=60):
  Calls Tryz.prog 335 #[.agg (i6 b n l y x s),.int .i64 east] w fun e w'=>e=.returned (.tuple (i2 (Pl.mid b east-n) (Pl.mid b east+n)))∧Below w.heap.size w w':=by
 have m0:0<=(b+east)%360∧(b+east)%360<360:=by omega
 obtain⟨m1,m2⟩:=m0
 by_cases hm:269<(b+east)%360
 all_goals
  have hH:Hid (Pl.mid b east=if 269<(b+east)%360 then (b+east)%360-360 else (b+east)%360):=by unfold Hid Pl.mid;split<;>omega
  go_enter Tryz.func335,Tryz.ntmps335
  go_wp2_with (first|(go_at_call 164;refine(norm_b _ _).mono ?_;rintro e w' ⟨rfl,rfl⟩))
  all_goals (refine wp_region_quiet_lit (by kernel_rfl) (by kernel_rfl) ?_)
  repeat (any_goals (first|go_big_quiet_step (fail)|quiet_step (fail)|(refine wpQuiet_step (fun K hK=> ?_);go_simp;split<;>(refine hK _ ?_;clear hK K))))
  all_goals (refine wpQuiet_nil ?_;intro wq hw';obtain⟨nq,hw''⟩:=hw';have hbq:Below w.heap.size w wq:=by rw[hw''];exact below_drewN (by go_grown) nq)
  all_goals subst hw''
  go_wp2
  go_ret2
  have hE:=hH.out
  first
   |(rw[if_pos (by omega)]at hE;exact⟨by rw[hE];rfl,by go_grown⟩)
   |(rw[if_neg (by omega)]at hE;exact⟨by rw[hE];rfl,by go_grown⟩)
theorem floor_b (a b:Int)(w:World)(h0: -9223372036854775807<=a)(h1:a<=9223372036854775807)(h2:1<=b):
  Calls Tryz.prog 336 (i2 a b) w fun e w'=>e=.returned (.int .i64 (a/b))∧w=w':=by
 have k1:=(Pl.tdiv_mul_bd (a:=a) h2)
 have k3: -9223372036854775807<=a.tdiv b*b∧a.tdiv b*b<=9223372036854775807:=by omega
 obtain⟨k4,k5⟩:=k3
 have j1:=(Pl.tdiv_bd (a:=a) h2)
 have j3: -9223372036854775807<=a.tdiv b∧a.tdiv b<=9223372036854775807:=by omega
 obtain⟨j4,j5⟩:=j3
 clear k1 j1
 by_cases hc:a<a.tdiv b*b
 ·have hf:=Pl.floor_mul_up h2 hc
  have H:=Lib.hid hf;clear hf
  go_enter Tryz.func336,Tryz.ntmps336
  go_wp2
  all_goals go_ret
  all_goals exact⟨ret_int (by rw[<-H.out];try (rw[IntWalk.wrap64_in _ (by omega)])),rfl⟩
 ·have hf:=Pl.floor_mul_eq h2 hc
  have H:=Lib.hid hf;clear hf
  go_enter Tryz.func336,Tryz.ntmps336
  go_wp2
  all_goals go_ret
  all_goals exact⟨ret_int (by rw[<-H.out]),rfl⟩
open Go.RowKit
theorem sector_h (b n l y x s east lo hi:Int)(w:World)(hlo:Hid (Pl.mid b east-n=lo))(hhi:Hid (Pl.mid b east+n=hi))(hb0:0<=b)(hb1:b<=359)(hn0:0<=n)(hn1:n<=30)(he0: -60<=east)(he1:east<=60):
  Calls Tryz.prog 335 #[.agg (i6 b n l y x s),.int .i64 east] w fun e w'=>e=.returned (.tuple (i2 lo hi))∧Below w.heap.size w w':=by
 have h:=sector_b b n l y x s east w hb0 hb1 hn0 hn1 he0 he1
 rw[hlo.out,hhi.out]at h
 exact h
open Go.RowKit
theorem sectorE (v:List (Int×Int))(c:Pl.Crs):Pl.commonE v [c]=if Pl.vars v≠0 then Pl.vars v else if c.ok=true then (if (Pl.decl v c.y).2=true then 0 else 20)else 1:=by
 unfold Pl.commonE;simp only[List.all_cons,List.all_nil,Bool.and_true]
set_option maxHeartbeats 1000000 in
theorem Sector_b (A:Option Addr)(cp:Nat)(v:List (Int×Int))(c:Pl.Crs)(w:World)(hl:Vars w w.heap.size A v)(hm:v.length<=maxLen):
  Calls Tryz.prog 295 #[.slice A v.length cp,.agg (i6 c.b c.n c.l c.y c.x c.s)] w fun e w'=>e=.returned (.tuple #[.int .i64 (Pl.secR v c).1,.int .i64 (Pl.secR v c).2,.int .i64 (Pl.commonE v [c])])∧Below w.heap.size w w':=by
 have hE:=Lib.hid (sectorE v c)
 obtain⟨d0,d1⟩:=decl_bd v c.y
 by_cases hv:Pl.vars v=0
 ·have hv':(Pl.vars v==0)=true:=by simp[hv]
  have H0:=Lib.hid hv;clear hv
  by_cases hok:c.ok=true
  ·obtain⟨⟨g0,g1⟩,⟨g2,g3⟩,_⟩:=c.ok_iff hok
   have he:Pl.err (Pl.courseOk c.b c.n c.l c.y c.x c.s)=0:=by unfold Pl.Crs.ok at hok;rw[hok];rfl
   have HE:=Lib.hid he;clear he
   have H1:=Lib.hid hok;clear hok
   by_cases hk:(Pl.decl v c.y).2=true
   ·have hc0:Hid (Pl.commonE v [c]=0):=by unfold Hid;rw[hE.out,if_neg (by simp[H0.out]),if_pos H1.out,if_pos hk]
    have hR:Hid (Pl.secR v c=(Pl.mid c.b (Pl.decl v c.y).1-c.n,Pl.mid c.b (Pl.decl v c.y).1+c.n)):=by unfold Hid Pl.secR;rw[if_pos hc0.out];rfl
    clear hE
    go_enter Tryz.func295,Tryz.ntmps295
    go_wp2_with (first
     |(go_at_call 112;refine(vars_b _ _ v _ (hl.up (by go_grown)) hm).mono ?_;rintro e w1 ⟨rfl,hx1⟩;have kb1a:w1.heap[w.heap.size]?=some (.cells _ _ (0,0)):=(hx1.block _ (by first|omega|(simp;done)|(simp;omega))).trans (heap_alloc_new _ _);obtain⟨hc1a,hf1a⟩:=blk_cells kb1a;have hsz1:=hx1.size;(try simp at hsz1);have hb1:Below w.heap.size w w1:=Below.trans (by go_grown) (hx1.mono (by go_size));have hsz1w:w.heap.size<=w1.heap.size:=hb1.size;clear hx1)
     |(go_at_call 186;refine(course_b _ _ _ _ _ _ _).mono ?_;rintro e w2 ⟨rfl,hx2⟩;rw[HE.out];have kb2:=(hx2.block w.heap.size (by omega)).trans kb1a;obtain⟨hc2,hf2⟩:=blk_cells kb2;have hlt2:=(lO kb2);have hb2:Below w.heap.size w w2:=Below.trans (by go_grown) (hx2.mono (by go_size));have hsz2:=hb2.size;clear hx2 hc1a hf1a)
     |(go_at_call 296;refine(decl_b _ _ v _ _ (hl.up (by go_grown)) hm).mono ?_;rintro e w3 ⟨rfl,hx3⟩;have kb3a:w3.heap[w.heap.size]?=some (.cells _ _ (0,0)):=(hx3.block _ (by first|omega|(simp;done)|(simp;omega))).trans (kb2);obtain⟨hc3a,hf3a⟩:=blk_cells kb3a;have hsz3:=hx3.size;(try simp at hsz3);have hb3:Below w.heap.size w w3:=Below.trans (by go_grown) (hx3.mono (by go_size));have hsz3w:w.heap.size<=w3.heap.size:=hb3.size;clear hx3)
     |(go_at_call 335;refine(sector_b _ _ _ _ _ _ _ _ g0 g1 g2 g3 d0 d1).mono ?_;rintro e w4 ⟨rfl,hx4⟩;have hb4:Below w.heap.size w w4:=Below.trans (by go_grown) (hx4.mono (by go_size));clear hx4;have hsz4:w.heap.size<=w4.heap.size:=hb4.size))
    go_ret3
    exact⟨by rw[hc0.out,hR.out];try rfl,by go_grown⟩
   ·have hk':(Pl.decl v c.y).2=false:=by simpa using hk
    have hc0:Hid (Pl.commonE v [c]=20):=by unfold Hid;rw[hE.out,if_neg (by simp[H0.out]),if_pos H1.out,if_neg hk]
    have hR:Hid (Pl.secR v c=(0,0)):=by unfold Hid Pl.secR;rw[if_neg (by rw[hc0.out];decide)]
    clear hE hk
    go_enter Tryz.func295,Tryz.ntmps295
    go_wp2_with (first
     |(go_at_call 112;refine(vars_b _ _ v _ (hl.up (by go_grown)) hm).mono ?_;rintro e w1 ⟨rfl,hx1⟩;have kb1a:w1.heap[w.heap.size]?=some (.cells _ _ (0,0)):=(hx1.block _ (by first|omega|(simp;done)|(simp;omega))).trans (heap_alloc_new _ _);obtain⟨hc1a,hf1a⟩:=blk_cells kb1a;have hsz1:=hx1.size;(try simp at hsz1);have hb1:Below w.heap.size w w1:=Below.trans (by go_grown) (hx1.mono (by go_size));have hsz1w:w.heap.size<=w1.heap.size:=hb1.size;clear hx1)
     |(go_at_call 186;refine(course_b _ _ _ _ _ _ _).mono ?_;rintro e w2 ⟨rfl,hx2⟩;rw[HE.out];have kb2:=(hx2.block w.heap.size (by omega)).trans kb1a;obtain⟨hc2,hf2⟩:=blk_cells kb2;have hlt2:=(lO kb2);have hb2:Below w.heap.size w w2:=Below.trans (by go_grown) (hx2.mono (by go_size));have hsz2:=hb2.size;clear hx2 hc1a hf1a)
     |(go_at_call 296;refine(decl_b _ _ v _ _ (hl.up (by go_grown)) hm).mono ?_;rintro e w3 ⟨rfl,hx3⟩;have kb3a:w3.heap[w.heap.size]?=some (.cells _ _ (0,0)):=(hx3.block _ (by first|omega|(simp;done)|(simp;omega))).trans (kb2);obtain⟨hc3a,hf3a⟩:=blk_cells kb3a;have hsz3:=hx3.size;(try simp at hsz3);have hb3:Below w.heap.size w w3:=Below.trans (by go_grown) (hx3.mono (by go_size));have hsz3w:w.heap.size<=w3.heap.size:=hb3.size;clear hx3))
    go_ret3
    exact⟨by rw[hc0.out,hR.out];try rfl,by go_grown⟩
  ·have he:Pl.err (Pl.courseOk c.b c.n c.l c.y c.x c.s)=1:=by unfold Pl.Crs.ok at hok;simp only[Bool.not_eq_true]at hok;rw[hok];rfl
   have HE:=Lib.hid he;clear he
   have hc0:Hid (Pl.commonE v [c]=1):=by unfold Hid;rw[hE.out,if_neg (by simp[H0.out]),if_neg hok]
   have hR:Hid (Pl.secR v c=(0,0)):=by unfold Hid Pl.secR;rw[if_neg (by rw[hc0.out];decide)]
   clear hE hok
   go_enter Tryz.func295,Tryz.ntmps295
   go_wp2_with (first
    |(go_at_call 112;refine(vars_b _ _ v _ (hl.up (by go_grown)) hm).mono ?_;rintro e w1 ⟨rfl,hx1⟩;have kb1a:w1.heap[w.heap.size]?=some (.cells _ _ (0,0)):=(hx1.block _ (by first|omega|(simp;done)|(simp;omega))).trans (heap_alloc_new _ _);obtain⟨hc1a,hf1a⟩:=blk_cells kb1a;have hsz1:=hx1.size;(try simp at hsz1);have hb1:Below w.heap.size w w1:=Below.trans (by go_grown) (hx1.mono (by go_size));have hsz1w:w.heap.size<=w1.heap.size:=hb1.size;clear hx1)
    |(go_at_call 186;refine(course_b _ _ _ _ _ _ _).mono ?_;rintro e w2 ⟨rfl,hx2⟩;rw[HE.out];have hb2:Below w.heap.size w w2:=Below.trans (by go_grown) (hx2.mono (by go_size));have hsz2:=hb2.size;clear hx2))
   go_ret3
   exact⟨by rw[hc0.out,hR.out];try rfl,by go_grown⟩
 ·have hv':(Pl.vars v==0)=false:=by simp[hv]
  have hv2:(Pl.vars v !=0)=true:=by simp[hv]
  have hc0:Hid (Pl.commonE v [c]=Pl.vars v):=by unfold Hid;rw[hE.out,if_pos hv]
  have hR:Hid (Pl.secR v c=(0,0)):=by unfold Hid Pl.secR;rw[if_neg (by rw[hc0.out];exact hv)]
  clear hE hv
  go_enter Tryz.func295,Tryz.ntmps295
  go_wp2_with (first
   |(go_at_call 112;refine(vars_b _ _ v _ (hl.up (by go_grown)) hm).mono ?_;rintro e w1 ⟨rfl,hx1⟩;have kb1a:w1.heap[w.heap.size]?=some (.cells _ _ (0,0)):=(hx1.block _ (by first|omega|(simp;done)|(simp;omega))).trans (heap_alloc_new _ _);obtain⟨hc1a,hf1a⟩:=blk_cells kb1a;have hsz1:=hx1.size;(try simp at hsz1);have hb1:Below w.heap.size w w1:=Below.trans (by go_grown) (hx1.mono (by go_size));have hsz1w:w.heap.size<=w1.heap.size:=hb1.size;clear hx1))
  go_ret3
  exact⟨by rw[hc0.out,hR.out];try rfl,by go_grown⟩
set_option maxHeartbeats 1000000 in
theorem opened_b (A:Option Addr)(cp:Nat)(v:List (Int×Int))(c:Pl.Crs)(dx dy:Int)(w:World)(hl:Vars w w.heap.size A v)(hm:v.length<=maxLen):
  Calls Tryz.prog 246 #[.slice A v.length cp,.agg (i6 c.b c.n c.l c.y c.x c.s),.int .i64 dx,.int .i64 dy] w fun e w'=>e=.returned (.tuple (i2 (Pl.opened v c dx dy) (Pl.stepE v c dx dy)))∧Below w.heap.size w w':=by
 by_cases h1:Pl.commonE v [c]=0
 ·have h1':(Pl.commonE v [c] !=0)=false:=by simp[h1]
  by_cases h2:Pl.stepOk dx dy=true
  ·obtain⟨j0,j1,j2,j3,j4⟩:=Pl.stepOk_iff h2
   have hE:Hid (Pl.stepE v c dx dy=0):=by unfold Hid Pl.stepE;rw[if_neg (by simp[h1]),h2];rfl
   have hR:Hid (Pl.opened v c dx dy=(Pl.decl v c.y).1):=by unfold Hid Pl.opened;rw[if_pos hE.out]
   have j0':(dx==0)=false:=by simpa using j0
   clear h1 h2
   go_enter Tryz.func246,Tryz.ntmps246
   go_wp2_with (first
    |(go_at_call 295;refine(Sector_b _ _ v c _ (hl.up (by go_grown)) hm).mono ?_;rintro e w1 ⟨rfl,hx1⟩;have kb1a:w1.heap[w.heap.size]?=some (.cells _ _ (0,0)):=(hx1.block _ (by first|omega|(simp;done)|(simp;omega))).trans (heap_alloc_new _ _);obtain⟨hc1a,hf1a⟩:=blk_cells kb1a;have hsz1:=hx1.size;(try simp at hsz1);have hb1:Below w.heap.size w w1:=Below.trans (by go_grown) (hx1.mono (by go_size));have hsz1w:w.heap.size<=w1.heap.size:=hb1.size;clear hx1)
    |(go_at_call 296;refine(decl_b _ _ v _ _ (hl.up (by go_grown)) hm).mono ?_;rintro e w3 ⟨rfl,hx3⟩;have hb3:Below w.heap.size w w3:=Below.trans (by go_grown) (hx3.mono (by go_size));clear hx3;have hsz3:w.heap.size<=w3.heap.size:=hb3.size))
   go_ret2
   exact⟨by rw[hE.out,hR.out];try rfl,by go_grown⟩
  ·have hE:Hid (Pl.stepE v c dx dy=1):=by unfold Hid Pl.stepE;rw[if_neg (by simp[h1])];simp only[Bool.not_eq_true]at h2;rw[h2];rfl
   have hR:Hid (Pl.opened v c dx dy=0):=by unfold Hid Pl.opened;rw[if_neg (by rw[hE.out];decide)]
   have h3:dx=0∨dx< -100000∨100000<dx∨dy< -100000∨100000<dy:=by unfold Pl.stepOk at h2;simp only[decide_eq_true_eq]at h2;omega
   clear h1 h2
   go_enter Tryz.func246,Tryz.ntmps246
   go_wp2_with (first
    |(go_at_call 295;refine(Sector_b _ _ v c _ (hl.up (by go_grown)) hm).mono ?_;rintro e w1 ⟨rfl,hx1⟩;have kb1a:w1.heap[w.heap.size]?=some (.cells _ _ (0,0)):=(hx1.block _ (by first|omega|(simp;done)|(simp;omega))).trans (heap_alloc_new _ _);obtain⟨hc1a,hf1a⟩:=blk_cells kb1a;have hsz1:=hx1.size;(try simp at hsz1);have hb1:Below w.heap.size w w1:=Below.trans (by go_grown) (hx1.mono (by go_size));have hsz1w:w.heap.size<=w1.heap.size:=hb1.size;clear hx1)
    |(go_at_call 296;refine(decl_b _ _ v _ _ (hl.up (by go_grown)) hm).mono ?_;rintro e w3 ⟨rfl,hx3⟩;have hb3:Below w.heap.size w w3:=Below.trans (by go_grown) (hx3.mono (by go_size));clear hx3;have hsz3:w.heap.size<=w3.heap.size:=hb3.size))
   all_goals first
    |(exfalso;omega)
    |(go_ret2;exact⟨by rw[hE.out,hR.out];try rfl,by go_grown⟩)
 ·have h1':(Pl.commonE v [c] !=0)=true:=by simp[h1]
  have hE:Hid (Pl.stepE v c dx dy=Pl.commonE v [c]):=by unfold Hid Pl.stepE;rw[if_pos h1]
  have hR:Hid (Pl.opened v c dx dy=0):=by unfold Hid Pl.opened;rw[if_neg (by rw[hE.out];exact h1)]
  clear h1
  go_enter Tryz.func246,Tryz.ntmps246
  go_wp2_with (first
   |(go_at_call 295;refine(Sector_b _ _ v c _ (hl.up (by go_grown)) hm).mono ?_;rintro e w1 ⟨rfl,hx1⟩;have kb1a:w1.heap[w.heap.size]?=some (.cells _ _ (0,0)):=(hx1.block _ (by first|omega|(simp;done)|(simp;omega))).trans (heap_alloc_new _ _);obtain⟨hc1a,hf1a⟩:=blk_cells kb1a;have hsz1:=hx1.size;(try simp at hsz1);have hb1:Below w.heap.size w w1:=Below.trans (by go_grown) (hx1.mono (by go_size));have hsz1w:w.heap.size<=w1.heap.size:=hb1.size;clear hx1))
  go_ret2
  exact⟨by rw[hE.out,hR.out];try rfl,by go_grown⟩
theorem stepE_ok {v:List (Int×Int)}{c:Pl.Crs}{dx dy:Int}(h:Pl.stepE v c dx dy=0):c.ok=true∧dx≠0∧ -100000<=dx∧dx<=100000∧ -100000<=dy∧dy<=100000:=by
 obtain⟨h1,h2⟩:=Pl.stepE_zero h
 obtain⟨_,k1,_⟩:=Pl.commonE_one h1
 exact⟨k1,Pl.stepOk_iff h2⟩
open Go.RowKit
theorem ivlB_yes {lo hi dx ne fa a b:Int}(h:Pl.ivl lo hi dx ne fa=if (Pl.endsB lo hi dx ne fa).2<(Pl.endsB lo hi dx ne fa).1 then (0,0,false)else ((Pl.endsB lo hi dx ne fa).1,(Pl.endsB lo hi dx ne fa).2,true))
  (h1:(Pl.endsB lo hi dx ne fa).1=a) (h2:(Pl.endsB lo hi dx ne fa).2=b) (h3:a<=b):Ending.returned (.tuple #[.int .i64 a,.int .i64 b,.bool true])=.returned (.tuple #[.int .i64 (Pl.ivl lo hi dx ne fa).1,.int .i64 (Pl.ivl lo hi dx ne fa).2.1,.bool (Pl.ivl lo hi dx ne fa).2.2]):=by
 rw[h,h1,h2,if_neg (by omega)]
theorem ivlB_no {lo hi dx ne fa:Int}(h:Pl.ivl lo hi dx ne fa=if (Pl.endsB lo hi dx ne fa).2<(Pl.endsB lo hi dx ne fa).1 then (0,0,false)else ((Pl.endsB lo hi dx ne fa).1,(Pl.endsB lo hi dx ne fa).2,true))
  (h1:(Pl.endsB lo hi dx ne fa).2<(Pl.endsB lo hi dx ne fa).1):Ending.returned (.tuple #[.int .i64 0,.int .i64 0,.bool false])=.returned (.tuple #[.int .i64 (Pl.ivl lo hi dx ne fa).1,.int .i64 (Pl.ivl lo hi dx ne fa).2.1,.bool (Pl.ivl lo hi dx ne fa).2.2]):=by
 rw[h,if_pos h1]
set_option maxHeartbeats 4000000 in
theorem interval_b (b n l y x s east dx lo hi:Int)(w:World)(hlo:Hid (Pl.mid b east-n=lo))(hhi:Hid (Pl.mid b east+n=hi))(ho:Pl.courseOk b n l y x s=true)(he0: -60<=east)(he1:east<=60)(hd0:1<=dx)(hd1:dx<=100000):
  Calls Tryz.prog 297 #[.agg (i6 b n l y x s),.int .i64 east,.int .i64 dx] w fun e w'=>e=.returned (.tuple #[.int .i64 (Pl.ivl lo hi dx (Pl.near l x s) (Pl.far l x s)).1,.int .i64 (Pl.ivl lo hi dx (Pl.near l x s) (Pl.far l x s)).2.1,.bool (Pl.ivl lo hi dx (Pl.near l x s) (Pl.far l x s)).2.2])∧Below w.heap.size w w':=by
 obtain⟨⟨g0,g1⟩,⟨g2,g3⟩,⟨g4,g5⟩,⟨g6,g7⟩,⟨g8,g9⟩,g10,g11⟩:=Pl.Crs.ok_iff (c:=⟨b,n,l,y,x,s⟩) ho
 clear ho
 simp only[]at g0 g1 g2 g3 g4 g5 g6 g7 g8 g9 g10 g11
 have hm:=Pl.mid_bd b east
 have r0: -120<=lo:=by have:=hlo.out;omega
 have r1:hi<=300:=by have:=hhi.out;omega
 have r2:lo<=hi:=by have:=hlo.out;have:=hhi.out;omega
 clear hm
 obtain⟨⟨l0,l1⟩,l2,l3⟩:=Pl.len_bd g4 g5 g8 g9 g10 g11
 obtain⟨p0,p1⟩:=Pl.mul_le_of l0 l1 l0 l1
 obtain⟨p4,p5⟩:=Pl.mul_le_of l2 l3 l2 l3
 by_cases h1:hi<=0∨180<=lo
 ·have hE:Hid (Pl.ivl lo hi dx (Pl.near l x s) (Pl.far l x s)=(0,0,false)):=by unfold Hid Pl.ivl;rw[if_pos (by omega)]
  go_enter Tryz.func297,Tryz.ntmps297
  go_wp2_with (go_at_call 335;refine(sector_h _ _ _ _ _ _ _ lo hi _ hlo hhi g0 g1 g2 g3 he0 he1).mono ?_;rintro e w1 ⟨rfl,hx1⟩;have hb1:Below w.heap.size w w1:=Below.trans (by go_grown) (hx1.mono (by go_size));clear hx1;have hsz1:w.heap.size<=w1.heap.size:=hb1.size)
  all_goals go_ret3
  all_goals exact⟨by rw[hE.out];try rfl,by go_grown⟩
 have h2:0<hi:=by omega
 have h3:lo<180:=by omega
 obtain⟨p2,p3⟩:=Pl.mul_le_of (show 0<=dx by omega) hd1 (show 0<=dx by omega) hd1
 go_enter Tryz.func297,Tryz.ntmps297
 go_upto_if 30 with (go_at_call 335;refine(sector_h _ _ _ _ _ _ _ lo hi _ hlo hhi g0 g1 g2 g3 he0 he1).mono ?_;rintro e w1 ⟨rfl,hx1⟩;have kb1a:w1.heap[w.heap.size]?=some (.cells _ _ (0,0)):=(hx1.block _ (by first|omega|(simp;done)|(simp;omega))).trans (heap_alloc_new _ _);obtain⟨hc1a,hf1a⟩:=blk_cells kb1a;have hsz1:=hx1.size;(try simp at hsz1);have hb1:Below w.heap.size w w1:=Below.trans (by go_grown) (hx1.mono (by go_size));have hsz1w:w.heap.size<=w1.heap.size:=hb1.size;clear hx1)
 go_cut [12] (fun s12 wx=>s12=.int .i64 (Pl.topB lo dx)∧wx.heap[w.heap.size]?=some (.cells (i6 b n l y x s) 46 (0,0))∧Below w.heap.size w wx)
 case first=>
  by_cases hl:0<lo
  ·obtain⟨c0,c1⟩:=Pl.cos_bd lo
   have sp:=Pl.sin_pos hl (by omega)
   obtain⟨_,s1⟩:=Pl.sin_bd lo
   obtain⟨m0,m1⟩:=Pl.mul_abs_of (show-100000<=dx by omega) hd1 c0 c1
   have kb7a:=kb1a
   go_wp2_with (first
    |(go_at_call 337;refine(cos_b _ _).mono ?_;rintro e w7 ⟨rfl,hx7⟩;have kb7a:w7.heap[w.heap.size]?=some (.cells _ _ (0,0)):=(hx7.block _ (by first|omega|(simp;done)|(simp;omega))).trans (kb7a);obtain⟨hc7a,hf7a⟩:=blk_cells kb7a;have hsz7:=hx7.size;(try simp at hsz7);have hb7:Below w.heap.size w w7:=Below.trans (by go_grown) (hx7.mono (by go_size));have hsz7w:w.heap.size<=w7.heap.size:=hb7.size;clear hx7)
    |(go_at_call 338;refine(sin_b _ _).mono ?_;rintro e w7 ⟨rfl,hx7⟩;have kb7a:w7.heap[w.heap.size]?=some (.cells _ _ (0,0)):=(hx7.block _ (by first|omega|(simp;done)|(simp;omega))).trans (kb7a);obtain⟨hc7a,hf7a⟩:=blk_cells kb7a;have hsz7:=hx7.size;(try simp at hsz7);have hb7:Below w.heap.size w w7:=Below.trans (by go_grown) (hx7.mono (by go_size));have hsz7w:w.heap.size<=w7.heap.size:=hb7.size;clear hx7)
    |(go_at_call 336;refine(floor_b _ _ _ (by omega) (by omega) (by omega)).mono ?_;rintro e w' ⟨rfl,rfl⟩))
   all_goals go_meet
   all_goals exact⟨congrArg (Value.int .i64) (by unfold Pl.topB;rw[if_pos hl];omega),kb7a,by go_grown⟩
  ·go_wp2
   go_meet
   exact⟨by unfold Pl.topB;rw[if_neg (by omega)],kb1a,by go_grown⟩
 case rest=>
  obtain⟨rfl,kb,hb⟩:=hcut
  have hsz:=hb.size
  clear kb1a hc1a hf1a
  obtain⟨hc7a,hf7a⟩:=blk_cells kb
  have hB2:=Lib.hid kb;clear kb
  have hlt:=(Array.getElem?_eq_some_iff.1 hB2.out).1
  go_upto_if 41 with fail
  go_cut [11] (fun s11 wx=>s11=.int .i64 (Pl.lowB hi dx)∧wx.heap[w.heap.size]?=some (.cells (i6 b n l y x s) 46 (0,0))∧Below w.heap.size w wx)
  case first=>
   by_cases hl:hi<180
   ·obtain⟨c0,c1⟩:=Pl.cos_bd hi
    have sp:=Pl.sin_pos h2 hl
    obtain⟨_,s1⟩:=Pl.sin_bd hi
    obtain⟨m0,m1⟩:=Pl.mul_abs_of (show-100000<= -dx by omega) (show-dx<=100000 by omega) c0 c1
    have kb7a:=hB2.out
    have hfl: -1000000000<= -dx*Pl.cos hi/Pl.sin hi∧ -dx*Pl.cos hi/Pl.sin hi<=1000000000:=by
     have:=Pl.ediv_bd (a:= -dx*Pl.cos hi) sp;omega
    obtain⟨f0,f1⟩:=hfl
    go_wp2_with (first
     |(go_at_call 337;refine(cos_b _ _).mono ?_;rintro e w7 ⟨rfl,hx7⟩;have kb7a:w7.heap[w.heap.size]?=some (.cells _ _ (0,0)):=(hx7.block _ (by first|omega|(simp;done)|(simp;omega))).trans (kb7a);obtain⟨hc7a,hf7a⟩:=blk_cells kb7a;have hsz7:=hx7.size;(try simp at hsz7);have hb7:Below w.heap.size w w7:=Below.trans (by go_grown) (hx7.mono (by go_size));have hsz7w:w.heap.size<=w7.heap.size:=hb7.size;clear hx7)
     |(go_at_call 338;refine(sin_b _ _).mono ?_;rintro e w7 ⟨rfl,hx7⟩;have kb7a:w7.heap[w.heap.size]?=some (.cells _ _ (0,0)):=(hx7.block _ (by first|omega|(simp;done)|(simp;omega))).trans (kb7a);obtain⟨hc7a,hf7a⟩:=blk_cells kb7a;have hsz7:=hx7.size;(try simp at hsz7);have hb7:Below w.heap.size w w7:=Below.trans (by go_grown) (hx7.mono (by go_size));have hsz7w:w.heap.size<=w7.heap.size:=hb7.size;clear hx7)
     |(go_at_call 336;refine(floor_b _ _ _ (by omega) (by omega) (by omega)).mono ?_;rintro e w' ⟨rfl,rfl⟩))
    all_goals go_meet
    all_goals exact⟨congrArg (Value.int .i64) (by unfold Pl.lowB;rw[if_pos hl];omega),kb7a,by go_grown⟩
   ·go_wp2
    go_meet
    exact⟨by unfold Pl.lowB;rw[if_neg (by omega)],hB2.out,by go_grown⟩
  case rest=>
   obtain⟨rfl,kc,hb3⟩:=hcut
   have hsz3:=hb3.size
   clear hc7a hf7a hB2 hlt
   obtain⟨hc8,hf8⟩:=blk_cells kc
   have hlt:=(lO kc)
   have hB3:=Lib.hid kc;clear kc
   have b0:Pl.topB lo dx<=100000:=by unfold Pl.topB;split<;>omega
   have b1: -100000<=Pl.lowB hi dx:=by unfold Pl.lowB;split<;>omega
   by_cases hr:(l*(10000+x+s))*(l*(10000+x+s))/100000000-dx*dx<0
   ·have hE:Hid (Pl.ivl lo hi dx (Pl.near l x s) (Pl.far l x s)=(0,0,false)):=by unfold Hid Pl.ivl Pl.room Pl.far;rw[if_pos (by omega)]
    go_wp2_with (go_at_call 336;refine(floor_b _ _ _ (by omega) (by omega) (by omega)).mono ?_;rintro e w' ⟨rfl,rfl⟩)
    all_goals go_ret3
    all_goals exact⟨by rw[hE.out];try rfl,by go_grown⟩
   ·obtain⟨t0,t1,_,_⟩:=Pl.root_bd ((l*(10000+x+s))*(l*(10000+x+s))/100000000-dx*dx)
    have u0:=(Pl.rootUp_bd (-(-(l*(10000+x-s))*(l*(10000+x-s))/100000000)-dx*dx))
    obtain⟨u0,u1⟩:=u0
    have nn: -1144900000000000000<= -(l*(10000+x-s))*(l*(10000+x-s))∧ -(l*(10000+x-s))*(l*(10000+x-s))<=0:=by rw[Int.neg_mul];omega
    obtain⟨nn0,nn1⟩:=nn
    go_upto_if 105 with (first
     |(go_at_call 336;refine(floor_b _ _ _ (by omega) (by omega) (by omega)).mono ?_;rintro e w' ⟨rfl,rfl⟩)
     |(go_at_call 339;refine(root_b _ _).mono ?_;rintro e w' ⟨rfl,rfl⟩))
    have hE:Hid (Pl.ivl lo hi dx (Pl.near l x s) (Pl.far l x s)=if (Pl.endsB lo hi dx (Pl.near l x s) (Pl.far l x s)).2<(Pl.endsB lo hi dx (Pl.near l x s) (Pl.far l x s)).1 then (0,0,false)else ((Pl.endsB lo hi dx (Pl.near l x s) (Pl.far l x s)).1,(Pl.endsB lo hi dx (Pl.near l x s) (Pl.far l x s)).2,true)):=by
     unfold Hid
     rw[Pl.ivl_eqB r2]
     unfold Pl.ivlB
     have q0:Pl.room dx (Pl.far l x s)=l*(10000+x+s)*(l*(10000+x+s))/100000000-dx*dx:=rfl
     by_cases h3:(Pl.endsB lo hi dx (Pl.near l x s) (Pl.far l x s)).2<(Pl.endsB lo hi dx (Pl.near l x s) (Pl.far l x s)).1
     ·rw[if_pos (by omega),if_pos h3]
     ·rw[if_neg (by rw[q0];omega),if_neg h3]
    have hR: ∃R,Pl.root (l*(10000+x+s)*(l*(10000+x+s))/100000000-dx*dx)=R:=⟨_,rfl⟩
    obtain⟨R,hR⟩:=hR
    have hS: ∃S,-(-(l*(10000+x-s))*(l*(10000+x-s))/100000000)-dx*dx=S:=⟨_,rfl⟩
    obtain⟨S,hS⟩:=hS
    have e11:(if Pl.lowB hi dx< -R then-R else Pl.lowB hi dx)=max (Pl.lowB hi dx) (-R):=by split<;>omega
    have e12:(if R<Pl.topB lo dx then R else Pl.topB lo dx)=min (Pl.topB lo dx) R:=by split<;>omega
    rw[hR,hS,e11,e12]
    rw[hR]at t0 t1
    rw[hS]at u0 u1
    have HR:Hid (Pl.root (Pl.room dx (Pl.far l x s))=R):=hR
    have HS:Hid (Pl.short dx (Pl.near l x s)=S):=by unfold Hid Pl.short Pl.near;rw[<-hS,Int.neg_mul]
    clear hR hS e11 e12
    go_cut [11,12] (fun s11 s12 wx=>s11=.int .i64 (if hi<=90 then max (max (Pl.lowB hi dx) (-R)) (Pl.rootUp S)else max (Pl.lowB hi dx) (-R))∧s12=.int .i64 (min (Pl.topB lo dx) R)∧Below w.heap.size w wx)
    case first=>
     by_cases h90:hi<=90
     ·go_wp2_with (go_at_call 340;refine(rootUp_b _ _).mono ?_;rintro e w' ⟨rfl,rfl⟩)
      all_goals go_meet
      all_goals exact⟨congrArg (Value.int .i64) (by rw[if_pos h90];omega),rfl,by go_grown⟩
     ·go_wp2
      go_meet
      exact⟨by rw[if_neg (by omega)],rfl,by go_grown⟩
    case rest=>
     obtain⟨rfl,rfl,hb5⟩:=hcut
     generalize hX:(if hi<=90 then max (max (Pl.lowB hi dx) (-R)) (Pl.rootUp S)else max (Pl.lowB hi dx) (-R))=X
     have HX:=Lib.hid hX;clear hX
     go_upto_if 111 with fail
     go_cut [11,12] (fun s11 s12 wx=>s11=.int .i64 X∧s12=.int .i64 (if 90<=lo then min (min (Pl.topB lo dx) R) (-Pl.rootUp S)else min (Pl.topB lo dx) R)∧Below w.heap.size w wx)
     case first=>
      by_cases h90:90<=lo
      ·go_wp2_with (go_at_call 340;refine(rootUp_b _ _).mono ?_;rintro e w' ⟨rfl,rfl⟩)
       all_goals go_meet
       all_goals exact⟨rfl,congrArg (Value.int .i64) (by rw[if_pos h90];omega),by go_grown⟩
      ·go_wp2
       go_meet
       exact⟨rfl,by rw[if_neg (by omega)],by go_grown⟩
     case rest=>
      obtain⟨rfl,rfl,hb6⟩:=hcut
      have E1:(Pl.endsB lo hi dx (Pl.near l x s) (Pl.far l x s)).1=if hi<=90 then max (max (Pl.lowB hi dx) (-R)) (Pl.rootUp S)else max (Pl.lowB hi dx) (-R):=by
       rw[<-HR.out,<-HS.out];rfl
      rw[HX.out]at E1
      have E2:(Pl.endsB lo hi dx (Pl.near l x s) (Pl.far l x s)).2=if 90<=lo then min (min (Pl.topB lo dx) R) (-Pl.rootUp S)else min (Pl.topB lo dx) R:=by
       rw[<-HR.out,<-HS.out];rfl
      have HE1:=Lib.hid E1;have HE2:=Lib.hid E2;clear E1 E2
      generalize (if 90<=lo then min (min (Pl.topB lo dx) R) (-Pl.rootUp S)else min (Pl.topB lo dx) R)=Y at*
      go_wp2
      all_goals go_ret3
      all_goals refine⟨?_,by go_grown⟩
      all_goals first
       |exact ivlB_yes hE.out HE1.out HE2.out (by omega)
       |exact ivlB_no hE.out (by rw[HE1.out,HE2.out];omega)
open Go.RowKit
theorem ivl_bd2 (lo hi dx ne fa:Int): -100000<=(Pl.ivl lo hi dx ne fa).1∧(Pl.ivl lo hi dx ne fa).1<=100000∧ -100000<=(Pl.ivl lo hi dx ne fa).2.1∧(Pl.ivl lo hi dx ne fa).2.1<=100000:=Pl.ivl_bd lo hi dx ne fa
set_option maxHeartbeats 1000000 in
theorem both_b (c:Pl.Crs)(east dx:Int)(w:World)(ho:c.ok=true)(he0: -60<=east)(he1:east<=60)(h0:dx≠0)(hd0: -100000<=dx)(hd1:dx<=100000):
  Calls Tryz.prog 247 #[.agg (i6 c.b c.n c.l c.y c.x c.s),.int .i64 east,.int .i64 dx] w fun e w'=>e=.returned (.tuple #[.int .i64 (Pl.ivD c east dx).1,.int .i64 (Pl.ivD c east dx).2.1,.bool (Pl.ivD c east dx).2.2])∧Below w.heap.size w w':=by
 obtain⟨⟨g0,g1⟩,_⟩:=c.ok_iff ho
 have hK:=Lib.hid ho;clear ho
 by_cases hd:dx<0
 ·have hR:Hid (Pl.ivD c east dx=Pl.flip (Pl.ivl (Pl.mid ((c.b+180)%360) east-c.n) (Pl.mid ((c.b+180)%360) east+c.n) (-dx) (Pl.near c.l c.x c.s) (Pl.far c.l c.x c.s))):=by unfold Hid Pl.ivD;rw[if_pos hd];rfl
  obtain⟨b0,b1,b2,b3⟩:=ivl_bd2 (Pl.mid ((c.b+180)%360) east-c.n) (Pl.mid ((c.b+180)%360) east+c.n) (-dx) (Pl.near c.l c.x c.s) (Pl.far c.l c.x c.s)
  go_enter Tryz.func247,Tryz.ntmps247
  go_wp2_with (first
   |(go_at_call 164;refine(norm_b _ _).mono ?_;rintro e w' ⟨rfl,rfl⟩)
   |(go_at_call 297;refine(interval_b ((c.b+180)%360) c.n c.l c.y c.x c.s east _ _ _ _ rfl rfl (Pl.Crs.back_ok hK.out) he0 he1 (by omega) (by omega)).mono ?_;rintro e w2 ⟨rfl,hx2⟩;have hb2:Below w.heap.size w w2:=Below.trans (by go_grown) (hx2.mono (by go_size));clear hx2;have hsz2:w.heap.size<=w2.heap.size:=hb2.size))
  go_ret3
  exact⟨by rw[hR.out];rfl,by go_grown⟩
 ·have hR:Hid (Pl.ivD c east dx=Pl.ivl (Pl.mid c.b east-c.n) (Pl.mid c.b east+c.n) dx (Pl.near c.l c.x c.s) (Pl.far c.l c.x c.s)):=by unfold Hid Pl.ivD;rw[if_neg hd];rfl
  go_enter Tryz.func247,Tryz.ntmps247
  go_wp2_with (first
   |(go_at_call 297;refine(interval_b _ _ _ _ _ _ _ _ _ _ _ rfl rfl hK.out he0 he1 (by omega) (by omega)).mono ?_;rintro e w2 ⟨rfl,hx2⟩;have hb2:Below w.heap.size w w2:=Below.trans (by go_grown) (hx2.mono (by go_size));clear hx2;have hsz2:w.heap.size<=w2.heap.size:=hb2.size))
  go_ret3
  exact⟨by rw[hR.out];rfl,by go_grown⟩
theorem Interval_b (A:Option Addr)(cp:Nat)(v:List (Int×Int))(c:Pl.Crs)(dx:Int)(w:World)(hl:Vars w w.heap.size A v)(hm:v.length<=maxLen):
  Calls Tryz.prog 187 #[.slice A v.length cp,.agg (i6 c.b c.n c.l c.y c.x c.s),.int .i64 dx] w fun e w'=>e=.returned (.tuple #[.int .i64 (Pl.com v [c] dx).1,.int .i64 (Pl.com v [c] dx).2.1,.bool (Pl.com v [c] dx).2.2,.int .i64 (Pl.comE v [c] dx)])∧Below w.heap.size w w':=by
 have HC:=Lib.hid (Pl.com_one v c dx)
 have HE:=Lib.hid (Pl.comE_one v c dx)
 by_cases h1:Pl.stepE v c dx 0=0
 ·obtain⟨k1,j0,j1,j2,j3,j4⟩:=stepE_ok h1
  have h1':(Pl.stepE v c dx 0 !=0)=false:=by simp[h1]
  have hR:Hid (Pl.com v [c] dx=Pl.ivD c (Pl.opened v c dx 0) dx):=by unfold Hid Pl.opened;rw[HC.out,if_pos h1,if_pos h1];rfl
  have hO: -60<=Pl.opened v c dx 0∧Pl.opened v c dx 0<=60:=by unfold Pl.opened;rw[if_pos h1];exact decl_bd v c.y
  obtain⟨o0,o1⟩:=hO
  have H1:=Lib.hid h1
  have HK:=Lib.hid k1
  clear h1 k1
  go_enter Tryz.func187,Tryz.ntmps187
  go_wp2_with (first
   |(go_at_call 246;refine(opened_b _ _ v c _ _ _ (hl.up (by go_grown)) hm).mono ?_;rintro e w1 ⟨rfl,hx1⟩;have kb1a:w1.heap[w.heap.size]?=some (.cells _ _ (0,0)):=(hx1.block _ (by first|omega|(simp;done)|(simp;omega))).trans (heap_alloc_new _ _);obtain⟨hc1a,hf1a⟩:=blk_cells kb1a;have hsz1:=hx1.size;(try simp at hsz1);have hb1:Below w.heap.size w w1:=Below.trans (by go_grown) (hx1.mono (by go_size));have hsz1w:w.heap.size<=w1.heap.size:=hb1.size;clear hx1)
   |(go_at_call 247;refine(both_b c _ _ _ HK.out o0 o1 j0 j1 j2).mono ?_;rintro e w3 ⟨rfl,hx3⟩;have hb3:Below w.heap.size w w3:=Below.trans (by go_grown) (hx3.mono (by go_size));clear hx3;have hsz3:w.heap.size<=w3.heap.size:=hb3.size))
  go_returns
  exact⟨by rw[HE.out,H1.out,hR.out];try rfl,by go_grown⟩
 ·have h1':(Pl.stepE v c dx 0 !=0)=true:=by simp[h1]
  have hR:Hid (Pl.com v [c] dx=(0,0,false)):=by unfold Hid;rw[HC.out,if_neg h1]
  clear h1
  go_enter Tryz.func187,Tryz.ntmps187
  go_wp2_with (first
   |(go_at_call 246;refine(opened_b _ _ v c _ _ _ (hl.up (by go_grown)) hm).mono ?_;rintro e w1 ⟨rfl,hx1⟩;have kb1a:w1.heap[w.heap.size]?=some (.cells _ _ (0,0)):=(hx1.block _ (by first|omega|(simp;done)|(simp;omega))).trans (heap_alloc_new _ _);obtain⟨hc1a,hf1a⟩:=blk_cells kb1a;have hsz1:=hx1.size;(try simp at hsz1);have hb1:Below w.heap.size w w1:=Below.trans (by go_grown) (hx1.mono (by go_size));have hsz1w:w.heap.size<=w1.heap.size:=hb1.size;clear hx1))
  go_returns
  exact⟨by rw[HE.out,hR.out];try rfl,by go_grown⟩
end Go.Proofs.YtgbpekeoegfjpaaGreatDoor
