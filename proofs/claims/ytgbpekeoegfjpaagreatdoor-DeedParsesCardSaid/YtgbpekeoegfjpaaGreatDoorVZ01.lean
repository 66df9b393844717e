/- Proved: parts of the walk. -/
import Derived.Test.YtgbpekeoegfjpaaGreatDoorVZ00
set_option maxRecDepth 100000
set_option maxHeartbeats 2000000
namespace Go.Proofs
open Tryz RowKit
theorem wG (A:Option Addr)(c:Nat)(l:List (Int×Int))(w:World)(hl:Vars w w.heap.size A l)(hm:l.length<=maxLen):
  Calls prog 78 #[.slice A l.length c] w fun e w'=>e=.returned (.int .i64 (Pl.vars l))∧Below w.heap.size w w':=by
 unfold maxLen at hm
 by_cases NK:40<l.length
 ·go_enter func78,ntmps78
  go_wp2
  go_ret
  exact⟨aH (by unfold Pl.vars;rw[if_pos NK]),by go_grown⟩
 ·go_enter func78,ntmps78
  go_wp2
  go_loopw [3,11] (fun y i wr=> ∃(k:Nat) (p:Int),k<=l.length∧i=.int .i64 k∧y=.int .i64 p∧0<=p∧p<=3000∧Pl.jH 0 l=Pl.jH p (l.drop k)∧Below w.heap.size w wr) (fun _ i _=>l.length-(intOf i).toNat)
  case atStart=>exact⟨0,0,by omega,rfl,rfl,by omega,by omega,rfl,by go_grown⟩
  case round=>
   obtain⟨k,p,hk,rfl,rfl,hp0,hp1,hg,hb⟩:=hrel
   have hsz:=hb.size
   by_cases hlt:k<l.length
   ·have hg2:=Pl.uG (p:=p) hlt
    obtain⟨b,off,rfl,mQ,hc0,hc1⟩:=Vars.at2 (hl.below hb) hlt
    have H:=Lib.hid hg;clear hg
    have H2:=Lib.hid hg2;clear hg2
    go_wp2_with (go_at_call 149;refine(AL _ _ _ _).mono ?_;rintro e w' ⟨rfl,rfl⟩)
    ·go_ret
     exact⟨aH (by have e1:=H.out;have e2:=H2.out;grind [Pl.vars,Pl.err]),by go_grown⟩
    ·go_roundw
     case rel=>exact⟨k+1,l[k].1,by omega,by go_num,rfl,by grind [Pl.bQ],by grind [Pl.bQ],by have e1:=H.out;have e2:=H2.out;grind,by go_grown⟩
     case measure=>simp[intOf];omega
    ·go_ret
     exact⟨aH (by have e1:=H.out;have e2:=H2.out;grind [Pl.vars,Pl.err]),by go_grown⟩
   ·obtain rfl:k=l.length:=by omega
    have H:=Lib.hid hg;clear hg
    go_wp2
    go_ret
    exact⟨aH (by have e1:=H.out;rw[List.drop_length]at e1;grind [Pl.vars,Pl.err,Pl.jH]),by go_grown⟩
theorem oJ (A:Option Addr) (c:Nat) (l:List (Int×Int)) (w:World) (hl:Vars w w.heap.size A l) (hm:l.length<=maxLen):
    Calls prog 112 #[.slice A l.length c] w fun e w'=>e=.returned (.int .i64 (Pl.vars l))∧Below w.heap.size w w':=by
  unfold maxLen at hm
  by_cases NK:40<l.length
  · go_enter func112,ntmps112
    go_wp2
    go_ret
    exact⟨aH (by unfold Pl.vars;rw[if_pos NK]),by go_grown⟩
  · go_enter func112,ntmps112
    go_wp2
    go_loopw [3] (fun i wr=> ∃(k:Nat),k<=l.length∧i=.int .i64 k∧Pl.jH 0 l=Pl.jH (Pl.iF l k) (l.drop k)∧0<=Pl.iF l k∧Below w.heap.size w wr) (fun i _=>l.length-(intOf i).toNat)
    case atStart=>exact⟨0,by omega,rfl,rfl,by simp[Pl.iF],by go_grown⟩
    case round =>
      obtain⟨k,hk,rfl,hg,hp,hb⟩:=hrel
      have hsz:=hb.size
      by_cases hlt:k<l.length
      · have hg2:=Pl.uG (p:=Pl.iF l k) hlt
        obtain⟨b,off,rfl,mQ,hc0,hc1⟩:=Vars.at2 (hl.below hb) hlt
        have H:=Lib.hid hg;clear hg
        have H2:=Lib.hid hg2;clear hg2
        have H3:=Lib.hid hp;clear hp
        have hbW:b<wr.heap.size:=by omega
        have H5:Hid (Pl.iF l (k+1)=l[k].1):=by unfold Hid Pl.iF;rw[if_neg (by omega),Nat.add_sub_cancel,List.getElem?_eq_getElem hlt];rfl
        by_cases h0:0<k
        · obtain⟨b',off',he,_,hd0,hd1⟩:=Vars.at2 (hl.below hb) (show k-1<l.length by omega)
          obtain⟨rfl,rfl⟩:b=b'∧off=off':=by simpa using he
          clear he
          have H4:Hid (Pl.iF l k=l[k-1].1):=by unfold Hid Pl.iF;rw[if_neg (by omega),List.getElem?_eq_getElem (by omega)];rfl
          go_wp2
          all_goals (refine wp_region_quiet_lit (by kernel_rfl) (by kernel_rfl) ?_)
          repeat (any_goals (first|go_big_quiet_step (fail)|quiet_step (fail)|(refine wpQuiet_step (fun K hK=> ?_);go_simp;split<;>(refine hK _ ?_;clear hK K))))
          all_goals (refine wpQuiet_nil ?_;intro wq hw';obtain⟨nq,hw''⟩:=hw';have hbq:Below w.heap.size w wq:=by rw[hw''];exact below_drewN (by go_grown) nq)
          all_goals subst hw''
          all_goals go_wp2
          all_goals first
            |(go_ret;exact⟨aH (by have e1:=H.out;have e2:=H2.out;have e3:=H4.out;have e5:=H3.out;grind [Pl.vars,Pl.err,Pl.bQ]),by go_grown⟩)
            | (go_roundw
               case rel=>exact⟨k+1,by omega,by go_num,by have e1:=H.out;have e2:=H2.out;have e3:=H4.out;have e4:=H5.out;grind [Pl.bQ],by have e4:=H5.out;omega,by go_grown⟩
               case measure=>simp[intOf];omega)
        · have H4:Hid (Pl.iF l k=0):=by unfold Hid Pl.iF;rw[if_pos (by omega)]
          go_wp2
          all_goals (refine wp_region_quiet_lit (by kernel_rfl) (by kernel_rfl) ?_)
          repeat (any_goals (first|go_big_quiet_step (fail)|quiet_step (fail)|(refine wpQuiet_step (fun K hK=> ?_);go_simp;split<;>(refine hK _ ?_;clear hK K))))
          all_goals (refine wpQuiet_nil ?_;intro wq hw';obtain⟨nq,hw''⟩:=hw';have hbq:Below w.heap.size w wq:=by rw[hw''];exact below_drewN (by go_grown) nq)
          all_goals subst hw''
          all_goals go_wp2
          all_goals first
            |(go_ret;exact⟨aH (by have e1:=H.out;have e2:=H2.out;have e3:=H4.out;have e5:=H3.out;grind [Pl.vars,Pl.err,Pl.bQ]),by go_grown⟩)
            | (go_roundw
               case rel=>exact⟨k+1,by omega,by go_num,by have e1:=H.out;have e2:=H2.out;have e3:=H4.out;have e4:=H5.out;grind [Pl.bQ],by have e4:=H5.out;omega,by go_grown⟩
               case measure=>simp[intOf];omega)
      · obtain rfl:k=l.length:=by omega
        have H:=Lib.hid hg;clear hg
        go_wp2
        go_ret
        exact⟨aH (by have e1:=H.out;rw[List.drop_length]at e1;grind [Pl.vars,Pl.err,Pl.jH]),by go_grown⟩
open RowKit
theorem AV (A:Option Addr)(c:Nat)(l:List (Int×Int))(y:Int)(w:World)(hl:Vars w w.heap.size A l)(hm:l.length<=maxLen):
  Calls prog 176 #[.slice A l.length c,.int .i64 y] w fun e w'=>e=.returned (.tuple #[.int .i64 (Pl.decl l y).1,.bool (Pl.decl l y).2])∧Below w.heap.size w w':=by
 have hm':=hm
 unfold maxLen at hm
 by_cases hv:Pl.vars l=0
 ·have hv':(Pl.vars l !=0)=false:=by simp[hv]
  have H0:=Lib.hid hv;clear hv
  go_enter func176,ntmps176
  go_wp2_with (go_at_call 78;refine(wG _ _ _ _ hl hm').mono ?_;rintro e w1 ⟨rfl,hx1⟩;have hb1:=bT (w:=w) hx1;clear hx1;have hsz1:w.heap.size<=w1.heap.size:=hb1.size)
  go_loopw [6,7,15] (fun e0 i0 i wr=> ∃(k:Nat) (s:Int×Bool),k<=l.length∧i=.int .i64 k∧e0=.int .i64 s.1∧i0=.bool s.2∧Pl.iy y (0,false) l=Pl.iy y s (l.drop k)∧Below w.heap.size w wr) (fun _ _ i _=>l.length-(intOf i).toNat)
  case atStart=>exact⟨0,(0,false),by omega,rfl,rfl,rfl,rfl,by go_grown⟩
  case round=>
   obtain⟨k,s,hk,rfl,rfl,rfl,hg,hb⟩:=hrel
   have hsz:=hb.size
   by_cases hlt:k<l.length
   ·have hg2:=Pl.Cx (y:=y) (s:=s) hlt
    obtain⟨b,off,rfl,mQ,hc0,hc1⟩:=Vars.at2 (hl.below hb) hlt
    have H:=Lib.hid hg;clear hg
    have H2:=Lib.hid hg2;clear hg2
    go_wp2
    ·go_roundw
     case rel=>exact⟨k+1,(l[k].2,true),by omega,by go_num,rfl,rfl,by have e1:=H.out;have e2:=H2.out;grind,by go_grown⟩
     case measure=>simp[intOf];omega
    ·go_roundw
     case rel=>exact⟨k+1,s,by omega,by go_num,rfl,rfl,by have e1:=H.out;have e2:=H2.out;grind,by go_grown⟩
     case measure=>simp[intOf];omega
   ·obtain rfl:k=l.length:=by omega
    have H:=Lib.hid hg;clear hg
    go_wp2
    go_ret2
    have e1:Pl.decl l y=s:=by unfold Pl.decl;rw[if_pos H0.out,H.out,List.drop_length];rfl
    exact⟨by rw[e1];rfl,by go_grown⟩
 ·have hv':(Pl.vars l !=0)=true:=by simp[hv]
  have H0:=Lib.hid hv;clear hv
  go_enter func176,ntmps176
  go_wp2_with (go_at_call 78;refine(wG _ _ _ _ hl hm').mono ?_;rintro e w1 ⟨rfl,hx1⟩;have hb1:=bT (w:=w) hx1;clear hx1;have hsz1:w.heap.size<=w1.heap.size:=hb1.size)
  go_ret2
  exact⟨by unfold Pl.decl;rw[if_neg H0.out];rfl,by go_grown⟩
open RowKit
theorem I_ (x s l:Int)(w:World)(h0:1<=l)(h1:l<=100000)(h2: -500<=x)(h3:x<=500)(h4:0<=s)(h5:s<=200):
  Calls prog 354 #[.agg (i2 x s),.int .i64 l] w fun e w'=>e=.returned (.tuple (i2 (Pl.near l x s) (Pl.far l x s)))∧Below w.heap.size w w':=by
 obtain⟨⟨b0,b1⟩,b2,b3⟩:=Pl.Fp h0 h1 h2 h3 h4 h5
 go_enter func354,ntmps354
 go_wp2
 all_goals (refine wp_region_quiet_lit (by kernel_rfl) (by kernel_rfl) ?_)
 repeat (any_goals (first|go_big_quiet_step (fail)|quiet_step (fail)|(refine wpQuiet_step (fun K hK=> ?_);go_simp;split<;>(refine hK _ ?_;clear hK K))))
 all_goals (refine wpQuiet_nil ?_;intro wq hw';obtain⟨nq,hw''⟩:=hw';have hbq:Below w.heap.size w wq:=by rw[hw''];exact below_drewN (by go_grown) nq)
 all_goals subst hw''
 go_wp2
 go_ret2
 exact⟨rfl,by go_grown⟩
theorem rz (l:List (Int×Int))(y:Int): -60<=(Pl.decl l y).1∧(Pl.decl l y).1<=60:=Pl.rz l y
theorem KF (A:Option Addr)(c:Nat)(v:List (Int×Int))(b n l y x s:Int)(w:World)(hl:Vars w w.heap.size A v)(hm:v.length<=maxLen)(hb0:0<=b)(hb1:b<=359)(hn0:0<=n)(hn1:n<=30):
  Calls prog 353 #[.slice A v.length c,.agg (i6 b n l y x s)] w fun e w'=>e=.returned (.tuple (i2 (Pl.mid b (Pl.decl v y).1-n) (Pl.mid b (Pl.decl v y).1+n)))∧Below w.heap.size w w':=by
 obtain⟨d0,d1⟩:=rz v y
 have m0:0<=(b+(Pl.decl v y).1+90)%360∧(b+(Pl.decl v y).1+90)%360<360:=by omega
 obtain⟨m1,m2⟩:=m0
 go_enter func353,ntmps353
 go_wp2_with (first|(go_at_call 259;refine(norm_a _ _).mono ?_;rintro e w' ⟨rfl,rfl⟩)|(go_at_call 176;refine(AV _ _ _ _ _ (hl.up (by go_grown)) hm).mono ?_;rintro e w7 ⟨rfl,hx7⟩;obtain⟨PZ,Sq⟩:=Hq hx7;have jJ:=hx7.size;(try simp at jJ);(try (have Sr:w.heap.size<w7.heap.size:=(by omega)));(try (have Sv:w.heap.size+1<w7.heap.size:=(by omega)));(try (have Sw:w.heap.size+1+1<w7.heap.size:=(by omega)));(try (have Sy:w.heap.size+1+1+1<w7.heap.size:=(by omega)));(try (have Sz:w.heap.size+1+1+1+1<w7.heap.size:=(by omega)));have oK:=bT (w:=w) hx7;clear hx7))
 all_goals (refine wp_region_quiet_lit (by kernel_rfl) (by kernel_rfl) ?_)
 repeat (any_goals (first|go_big_quiet_step (fail)|quiet_step (fail)|(refine wpQuiet_step (fun K hK=> ?_);go_simp;split<;>(refine hK _ ?_;clear hK K))))
 all_goals (refine wpQuiet_nil ?_;intro wq hw';obtain⟨nq,hw''⟩:=hw';have hbq:Below w.heap.size w wq:=by rw[hw''];exact below_drewN (by go_grown) nq)
 all_goals subst hw''
 go_wp2
 go_ret2
 exact⟨rfl,by go_grown⟩
theorem KG (dx dy:Int)(w:World):
  Calls prog 288 (i2 dx dy) w fun e w'=>e=.returned (.int .i64 (Pl.err (Pl.jI dx dy)))∧w=w':=by
 go_enter func288,ntmps288
 go_wp2_with (first|(go_at_call 149;refine(AL _ _ _ _).mono ?_;rintro e w' ⟨rfl,rfl⟩)|(go_at_call 179;refine(AO _ _).mono ?_;rintro e w' ⟨rfl,rfl⟩))
 all_goals go_ret
 all_goals exact⟨aH (by grind [Pl.bQ,Pl.err,Pl.jI]),rfl⟩
theorem KH (b n l y x s:Int)(w:World)(h0: -1000000<=b)(h1:b<=1000000):
  Calls prog 194 #[.agg (i6 b n l y x s)] w fun e w'=>e=.returned (.agg (i6 ((b+180)%360) n l y x s))∧Below w.heap.size w w':=by
 go_enter func194,ntmps194
 go_wp2_with (first|(go_at_call 259;refine(norm_a _ _).mono ?_;rintro e w' ⟨rfl,rfl⟩))
 go_returns
 exact⟨rfl,by go_grown⟩
theorem Fy (b n l y x s dx dy:Int)(w:World)(h0: -1000000<=b)(h1:b<=1000000)(h2: -100000<=dx)(h3:dx<0)(h4: -100000<=dy)(h5:dy<=100000):
  Calls prog 328 #[.agg (i6 b n l y x s),.int .i64 dx,.int .i64 dy] w fun e w'=>e=.returned (.tuple #[.agg (i6 ((b+180)%360) n l y x s),.int .i64 (-dx),.int .i64 (-dy)])∧Below w.heap.size w w':=by
 go_enter func328,ntmps328
 go_wp2_with (first|(go_at_call 194;refine(KH _ _ _ _ _ _ _ h0 h1).mono ?_;rintro e w7 ⟨rfl,hx7⟩;obtain⟨PZ,Sq⟩:=Hq hx7;have jJ:=hx7.size;(try simp at jJ);(try (have Sr:w.heap.size<w7.heap.size:=(by omega)));(try (have Sv:w.heap.size+1<w7.heap.size:=(by omega)));(try (have Sw:w.heap.size+1+1<w7.heap.size:=(by omega)));(try (have Sy:w.heap.size+1+1+1<w7.heap.size:=(by omega)));(try (have Sz:w.heap.size+1+1+1+1<w7.heap.size:=(by omega)));have oK:=bT (w:=w) hx7;clear hx7))
 refine bodyPost_ret (v:=.tuple #[.agg (i6 ((b+180)%360) n l y x s),.int .i64 (-dx),.int .i64 (-dy)]) (by simp[results,results328,go_sem,PZ]) rfl ⟨rfl,by go_grown⟩
theorem Fz (b n l y x s dx dy:Int)(w:World)(h3:0<=dx):
  Calls prog 328 #[.agg (i6 b n l y x s),.int .i64 dx,.int .i64 dy] w fun e w'=>e=.returned (.tuple #[.agg (i6 b n l y x s),.int .i64 dx,.int .i64 dy])∧Below w.heap.size w w':=by
 go_enter func328,ntmps328
 go_wp2
 go_returns
 exact⟨rfl,by go_grown⟩
open RowKit
def KI (c:Pl.bF):List Value:=[.int .i64 c.b,.int .i64 c.n,.int .i64 c.l,.int .i64 c.y,.int .i64 c.x,.int .i64 c.s]
abbrev za := @Seg Pl.bF KI 6
theorem za.UY {w:World}{B:Nat}{A:Option Addr}{l:List Pl.bF}(h:za w B A l){k:Nat}(hk:k<l.length):
  ∃b off,A=some ⟨b,off,none⟩∧b<B∧w.cell? ⟨b,off+k*6,none⟩=some (.int .i64 l[k].b)∧w.cell? ⟨b,off+k*6+1,none⟩=some (.int .i64 l[k].n)∧w.cell? ⟨b,off+k*6+2,none⟩=some (.int .i64 l[k].l)∧
   w.cell? ⟨b,off+k*6+3,none⟩=some (.int .i64 l[k].y)∧w.cell? ⟨b,off+k*6+4,none⟩=some (.int .i64 l[k].x)∧w.cell? ⟨b,off+k*6+5,none⟩=some (.int .i64 l[k].s):=by
 obtain⟨b,off,hA,hb,hc⟩:=Seg.at_ h hk
 exact⟨b,off,hA,hb,hc 0 _ rfl,hc 1 _ rfl,hc 2 _ rfl,hc 3 _ rfl,hc 4 _ rfl,hc 5 _ rfl⟩
theorem vR (a b:Int)(w:World)(h0: -9223372036854775807<=a)(h1:a<=9223372036854775807)(h2:1<=b):
  Calls prog 355 (i2 a b) w fun e w'=>e=.returned (.int .i64 (a/b))∧w=w':=by
 have k1:=(Pl.rA (a:=a) h2).1
 have k2:=(Pl.rA (a:=a) h2).2
 have H1:=Lib.hid k1;have H2:=Lib.hid k2;clear k1 k2
 go_enter func355,ntmps355
 go_wp2
 all_goals go_ret
 ·exact⟨aH (by rw[IntWalk.wrap64_in _ (by have:=H1.out;have:=H2.out;omega)];exact Pl.Cy h2 (by assumption)),rfl⟩
 ·exact⟨aH (Pl.Cz h2 (by omega)),rfl⟩
theorem KJ (a b:Int)(w:World)(h0: -9223372036854775807<=a)(h1:a<=9223372036854775807)(h2:1<=b):
  Calls prog 359 (i2 a b) w fun e w'=>e=.returned (.int .i64 (-(-a/b)))∧w=w':=by
 have k1:=(Pl.AA (a:= -a) h2).1
 have k2:=(Pl.AA (a:= -a) h2).2
 have k3: -9223372036854775807<= -a/b∧ -a/b<=9223372036854775807:=by omega
 obtain⟨k4,k5⟩:=k3
 clear k1 k2
 go_enter func359,ntmps359
 go_wp2_with (go_at_call 355;refine(vR _ _ _ (by omega) (by omega) h2).mono ?_;rintro e w' ⟨rfl,rfl⟩)
 go_ret
 exact⟨rfl,rfl⟩
theorem wH (A A':Option Addr)(c c':Nat)(v:List (Int×Int))(cs:List Pl.bF)(w:World)(hl:Vars w w.heap.size A v)(hm:v.length<=maxLen)(hcs:za w w.heap.size A' cs)(hm':cs.length<=maxLen):
  Calls prog 287 #[.slice A v.length c,.slice A' cs.length c'] w fun e w'=>e=.returned (.int .i64 (Pl.bS v cs))∧Below w.heap.size w w':=by
 unfold maxLen at hm'
 by_cases hv:Pl.vars v=0
 ·have hv':(Pl.vars v !=0)=false:=by simp[hv]
  have H0:=Lib.hid hv;clear hv
  go_enter func287,ntmps287
  go_wp2_with (go_at_call 78;refine(wG _ _ _ _ hl hm).mono ?_;rintro e w1 ⟨rfl,hx1⟩;have hb1:=bT (w:=w) hx1;clear hx1;have hsz1:w.heap.size<=w1.heap.size:=hb1.size)
  go_loopw [20] (fun i wr=> ∃(k:Nat),k<=cs.length∧i=.int .i64 k∧Hid ((cs.take k).all Pl.bF.ok=true)∧Below w.heap.size w wr) (fun i _=>cs.length-(intOf i).toNat)
  case atStart=>exact⟨0,by omega,rfl,rfl,by go_grown⟩
  case round=>
   obtain⟨k,hk,rfl,hg,hb⟩:=hrel
   have hsz:=hb.size
   by_cases hlt:k<cs.length
   ·obtain⟨b,off,rfl,mQ,q0,q1,q2,q3,q4,q5⟩:=za.UY (hcs.below hb) hlt
    by_cases hok:cs[k].ok=true
    ·have he:(Pl.err (Pl.dJ cs[k].b cs[k].n cs[k].l cs[k].y cs[k].x cs[k].s) !=0)=false:=by unfold Pl.bF.ok at hok;rw[hok];rfl
     have H1:=Lib.hid hok;clear hok
     go_wp2_with (go_at_call 109;refine(rD _ _ _ _ _ _ _).mono ?_;rintro e w2 ⟨rfl,hx2⟩;have hb2:=bT (w:=w) hx2;clear hx2;have hsz2:w.heap.size<=w2.heap.size:=hb2.size)
     go_roundw
     case rel=>exact⟨k+1,by omega,by go_num,by unfold Hid;rw[Pl.qD _ _ _ hlt,hg.out,H1.out];rfl,by go_grown⟩
     case measure=>first|(simp[intOf];done)|(simp[intOf];omega)
    ·have hok':cs[k].ok=false:=by simpa using hok
     have he:(Pl.err (Pl.dJ cs[k].b cs[k].n cs[k].l cs[k].y cs[k].x cs[k].s) !=0)=true:=by unfold Pl.bF.ok at hok';rw[hok'];rfl
     have he2:Hid (Pl.err (Pl.dJ cs[k].b cs[k].n cs[k].l cs[k].y cs[k].x cs[k].s)=1):=by unfold Pl.bF.ok at hok';rw[hok'];rfl
     have H1:=Lib.hid hok';clear hok hok'
     go_wp2_with (go_at_call 109;refine(rD _ _ _ _ _ _ _).mono ?_;rintro e w2 ⟨rfl,hx2⟩;have hb2:=bT (w:=w) hx2;clear hx2;have hsz2:w.heap.size<=w2.heap.size:=hb2.size)
     go_ret
     exact⟨aH (by rw[he2.out];unfold Pl.bS;rw[if_neg (by simp[H0.out]),Pl.Ho hlt H1.out];rfl),by go_grown⟩
   ·obtain rfl:k=cs.length:=by omega
    rw[List.take_length]at hg
    go_wp2
    go_loopw [32] (fun i wr=> ∃(k:Nat),k<=cs.length∧i=.int .i64 k∧Hid ((cs.take k).all (fun c=>(Pl.decl v c.y).2)=true)∧Below w.heap.size w wr) (fun i _=>cs.length-(intOf i).toNat)
    case atStart=>exact⟨0,by omega,rfl,rfl,by go_grown⟩
    case round=>
     obtain⟨k,hk,rfl,hg2,hb2⟩:=hrel
     have hsz2:=hb2.size
     by_cases hlt:k<cs.length
     ·obtain⟨b,off,rfl,mQ,q0,q1,q2,q3,q4,q5⟩:=za.UY (hcs.below hb2) hlt
      by_cases hok:(Pl.decl v cs[k].y).2=true
      ·go_wp2_with (go_at_call 176;refine(AV _ _ _ _ _ (hl.up (by go_grown)) hm).mono ?_;rintro e w3 ⟨rfl,hx3⟩;have hb3:=bT (w:=w) hx3;clear hx3;have oq:w.heap.size<=w3.heap.size:=hb3.size)
       go_roundw
       case rel=>exact⟨k+1,by omega,by go_num,by unfold Hid;rw[Pl.qD _ _ _ hlt,hg2.out,hok];rfl,by go_grown⟩
       case measure=>first|(simp[intOf];done)|(simp[intOf];omega)
      ·have hok':(Pl.decl v cs[k].y).2=false:=by simpa using hok
       clear hok
       go_wp2_with (go_at_call 176;refine(AV _ _ _ _ _ (hl.up (by go_grown)) hm).mono ?_;rintro e w3 ⟨rfl,hx3⟩;have hb3:=bT (w:=w) hx3;clear hx3;have oq:w.heap.size<=w3.heap.size:=hb3.size)
       go_ret
       exact⟨aH (by unfold Pl.bS;rw[if_neg (by simp[H0.out]),hg.out,Pl.Ho (p:=fun c:Pl.bF=>(Pl.decl v c.y).2) hlt hok'];rfl),by go_grown⟩
     ·obtain rfl:k=cs.length:=by omega
      rw[List.take_length]at hg2
      go_wp2
      go_ret
      exact⟨aH (by unfold Pl.bS;rw[if_neg (by simp[H0.out]),hg.out,hg2.out];rfl),by go_grown⟩
 ·have hv':(Pl.vars v !=0)=true:=by simp[hv]
  have H0:=Lib.hid hv;clear hv
  go_enter func287,ntmps287
  go_wp2_with (go_at_call 78;refine(wG _ _ _ _ hl hm).mono ?_;rintro e w1 ⟨rfl,hx1⟩;have hb1:=bT (w:=w) hx1;clear hx1;have hsz1:w.heap.size<=w1.heap.size:=hb1.size)
  go_ret
  exact⟨aH (by unfold Pl.bS;rw[if_pos H0.out]),by go_grown⟩
open RowKit
theorem Hz (A:Option Addr)(c:Nat)(v:List (Int×Int))(b n l y x s dx:Int)(w:World)(hl:Vars w w.heap.size A v)(hm:v.length<=maxLen)(ho:Pl.dJ b n l y x s=true):
  Calls prog 329 #[.slice A v.length c,.agg (i6 b n l y x s),.int .i64 dx] w fun e w'=>e=.returned (.agg (i5 (Pl.mid b (Pl.decl v y).1-n) (Pl.mid b (Pl.decl v y).1+n) dx (Pl.near l x s) (Pl.far l x s)))∧Below w.heap.size w w':=by
 obtain⟨⟨g0,g1⟩,⟨g2,g3⟩,⟨g4,g5⟩,⟨g6,g7⟩,⟨g8,g9⟩,g10,g11⟩:=Pl.bF.mF (c:=⟨b,n,l,y,x,s⟩) ho
 go_enter func329,ntmps329
 go_wp2_with (first|(go_at_call 353;refine(KF _ _ _ _ _ _ _ _ _ _ (hl.up (by go_grown)) hm g0 g1 g2 g3).mono ?_;rintro e w7 ⟨rfl,hx7⟩;obtain⟨PZ,Sq⟩:=Hq hx7;have jJ:=hx7.size;(try simp at jJ);(try (have Sr:w.heap.size<w7.heap.size:=(by omega)));(try (have Sv:w.heap.size+1<w7.heap.size:=(by omega)));(try (have Sw:w.heap.size+1+1<w7.heap.size:=(by omega)));(try (have Sy:w.heap.size+1+1+1<w7.heap.size:=(by omega)));(try (have Sz:w.heap.size+1+1+1+1<w7.heap.size:=(by omega)));have oK:=bT (w:=w) hx7;clear hx7)|(go_at_call 354;refine(I_ _ _ _ _ g4 g5 g8 g9 g10 g11).mono ?_;rintro e w8 ⟨rfl,Un⟩;obtain⟨hc8,Wy⟩:=Hq Un;have UZ:=Un.size;(try simp at UZ);(try (have XR:w.heap.size<w8.heap.size:=(by omega)));(try (have XT:w.heap.size+1<w8.heap.size:=(by omega)));(try (have XU:w.heap.size+1+1<w8.heap.size:=(by omega)));(try (have XV:w.heap.size+1+1+1<w8.heap.size:=(by omega)));(try (have XW:w.heap.size+1+1+1+1<w8.heap.size:=(by omega)));have ZG:=bT (w:=w) Un;clear Un))
 refine bodyPost_ret (v:=.agg (i5 (Pl.mid b (Pl.decl v y).1-n) (Pl.mid b (Pl.decl v y).1+n) dx (Pl.near l x s) (Pl.far l x s))) (by simp[results,results329,go_sem, *]) rfl ⟨rfl,by go_grown⟩
open RowKit
open RowKit
theorem za.single {w:World}{B:Nat}(c:Pl.bF){b:Nat}(hb:b<B)(h:w.heap[b]?=some (.cells (i6 c.b c.n c.l c.y c.x c.s) 46 (0,0))):
  za w B (some ⟨b,0,none⟩) [c]:=by
 refine .inr ⟨b,0,rfl,hb,fun k x hx j v hv=> ?_⟩
 rcases k with _|k
 ·simp at hx;subst hx
  rw[cell_of_row _ _ _ _ _ _ h]
  rw[<-hv]
  simp[KI]
 ·simp at hx
open RowKit
theorem NM {lo hi dx ne fa a b:Int}(h:Pl.jE lo hi dx ne fa=if (Pl.ends lo hi dx ne fa).2<(Pl.ends lo hi dx ne fa).1 then (0,0,false)else ((Pl.ends lo hi dx ne fa).1,(Pl.ends lo hi dx ne fa).2,true))
  (h1:(Pl.ends lo hi dx ne fa).1=a) (h2:(Pl.ends lo hi dx ne fa).2=b) (h3:a<=b):Ending.returned (.tuple #[.int .i64 a,.int .i64 b,.bool true])=.returned (.tuple #[.int .i64 (Pl.jE lo hi dx ne fa).1,.int .i64 (Pl.jE lo hi dx ne fa).2.1,.bool (Pl.jE lo hi dx ne fa).2.2]):=by
 rw[h,h1,h2,if_neg (by omega)]
theorem Qt {lo hi dx ne fa:Int}(h:Pl.jE lo hi dx ne fa=if (Pl.ends lo hi dx ne fa).2<(Pl.ends lo hi dx ne fa).1 then (0,0,false)else ((Pl.ends lo hi dx ne fa).1,(Pl.ends lo hi dx ne fa).2,true))
  (h1:(Pl.ends lo hi dx ne fa).2<(Pl.ends lo hi dx ne fa).1):Ending.returned (.tuple #[.int .i64 0,.int .i64 0,.bool false])=.returned (.tuple #[.int .i64 (Pl.jE lo hi dx ne fa).1,.int .i64 (Pl.jE lo hi dx ne fa).2.1,.bool (Pl.jE lo hi dx ne fa).2.2]):=by
 rw[h,if_pos h1]
theorem P5 (lo hi dx ne fa:Int)(w:World)(h:Pl.UR lo hi dx ne fa):
  Calls prog 330 #[.agg (i5 lo hi dx ne fa)] w fun e w'=>e=.returned (.tuple #[.int .i64 (Pl.jE lo hi dx ne fa).1,.int .i64 (Pl.jE lo hi dx ne fa).2.1,.bool (Pl.jE lo hi dx ne fa).2.2])∧Below w.heap.size w w':=by
 by_cases h1:hi<=0∨180<=lo
 ·have hE:Hid (Pl.jE lo hi dx ne fa=(0,0,false)):=by unfold Hid Pl.jE;rw[if_pos (by omega)]
  go_enter func330,ntmps330
  go_wp2
  all_goals go_ret3
  all_goals exact⟨by rw[hE.out];rfl,by go_grown⟩
 obtain⟨g0,g1,g2,g3,g4,g5,g6,g7,g8⟩:=h
 obtain⟨p0,p1⟩:=Pl.fD g7 g8 g7 g8
 obtain⟨p2,p3⟩:=Pl.fD (show 0<=dx by omega) g4 (show 0<=dx by omega) g4
 obtain⟨p4,p5⟩:=Pl.fD g5 g6 g5 g6
 have r0:0<=fa*fa/100000000∧fa*fa/100000000<=11449000000:=by omega
 obtain⟨r1,r2⟩:=r0
 have e1:IntKind.i64.wrap (fa*fa)=fa*fa:=IntWalk.i64_in _ (by omega)
 have e2:IntKind.i64.wrap (dx*dx)=dx*dx:=IntWalk.i64_in _ (by omega)
 have e3:IntKind.i64.wrap (fa*fa/100000000-dx*dx)=fa*fa/100000000-dx*dx:=IntWalk.i64_in _ (by omega)
 have hB:=Lib.hid (bI (w:=w) (o:=.cells (i5 lo hi dx ne fa) 320) rfl)
 by_cases h2:fa*fa/100000000-dx*dx<0
 ·have hE:Hid (Pl.jE lo hi dx ne fa=(0,0,false)):=by unfold Hid Pl.jE Pl.room;rw[if_pos (by omega)]
  go_enter func330,ntmps330
  go_wp2
  go_region_held3 (fun W=>W.cell? ⟨w.heap.size,4,none⟩=some (.int .i64 fa)∧W.cell? ⟨w.heap.size,2,none⟩=some (.int .i64 dx)) (exact⟨by simp[go_sem],by simp[go_sem]⟩)
   (first|(go_at_call 355;refine(vR _ _ _ (by omega) (by omega) (by omega)).mono ?_;rintro e w' ⟨rfl,rfl⟩))
  all_goals go_wp2
  all_goals go_ret3
  all_goals exact⟨by rw[hE.out];rfl,by go_grown⟩
 have q0:Pl.room dx fa=fa*fa/100000000-dx*dx:=rfl
 have hE:Hid (Pl.jE lo hi dx ne fa=if (Pl.ends lo hi dx ne fa).2<(Pl.ends lo hi dx ne fa).1 then (0,0,false)else ((Pl.ends lo hi dx ne fa).1,(Pl.ends lo hi dx ne fa).2,true)):=by
  unfold Hid Pl.jE
  by_cases h3:(Pl.ends lo hi dx ne fa).2<(Pl.ends lo hi dx ne fa).1
  ·rw[if_pos (by omega),if_pos h3]
  ·rw[if_neg (by rw[q0];omega),if_neg h3]
 obtain⟨t0,t1,_,_⟩:=Pl.pV (fa*fa/100000000-dx*dx)
 have hR:Hid (min (Pl.root (fa*fa/100000000-dx*dx)) 100000=Pl.reach dx fa):=rfl
 have rb:0<=Pl.reach dx fa∧Pl.reach dx fa<=100000:=by rw[<-hR.out];omega
 obtain⟨ZH,ZI⟩:=rb
 clear q0
 go_enter func330,ntmps330
 go_wp2
 go_region_held3 (fun W=>W.cell? ⟨w.heap.size,4,none⟩=some (.int .i64 fa)∧W.cell? ⟨w.heap.size,2,none⟩=some (.int .i64 dx)) (exact⟨by simp[go_sem],by simp[go_sem]⟩)
  (first|(go_at_call 355;refine(vR _ _ _ (by omega) (by omega) (by omega)).mono ?_;rintro e w' ⟨rfl,rfl⟩))
 go_upto_if 40 with (first|(go_at_call 356;refine(Kz _ _).mono ?_;rintro e w' ⟨rfl,rfl⟩))
 have hr:(if 100000<Pl.root (fa*fa/100000000-dx*dx)then (100000:Int)else Pl.root (fa*fa/100000000-dx*dx))=Pl.reach dx fa:=by rw[<-hR.out];split<;>omega
 rw[hr]
 clear hr
 go_cut [7,8] (fun s7 s8 wx=>s7=.int .i64 (-Pl.reach dx fa)∧s8=.int .i64 (Pl.qE lo dx (Pl.reach dx fa))∧wx.heap[w.heap.size]?=some (.cells (i5 lo hi dx ne fa) 320 (0,0))∧Below w.heap.size w wx)
 case first=>
  by_cases hlo:0<lo
  ·obtain⟨c0,c1⟩:=Pl.Av lo
   have sp:=Pl.vL hlo (by omega)
   obtain⟨_,s1⟩:=Pl.wo lo
   obtain⟨m0,m1⟩:=Pl.nk (show-100000<=dx by omega) g4 c0 c1
   have iK:=hB.out
   obtain⟨qz,vv⟩:=ah iK
   have e4:IntKind.i64.wrap (dx*Pl.cos lo)=dx*Pl.cos lo:=IntWalk.i64_in _ (by omega)
   go_wp2
   go_region_held3 (fun W=>W.cell? ⟨w.heap.size,0,none⟩=some (.int .i64 lo)∧W.cell? ⟨w.heap.size,2,none⟩=some (.int .i64 dx)) (exact⟨by simp[qz],by simp[qz]⟩)
    (first
     |(go_at_call 357;refine(PY _ _).mono ?_;rintro e w7 ⟨rfl,hx7⟩;have iK:w7.heap[w.heap.size]?=some (.cells _ _ (0,0)):=(hx7.block _ (by first|omega|(simp;done)|(simp;omega))).trans (iK);obtain⟨qz,vv⟩:=ah iK;have jJ:=hx7.size;(try simp at jJ);have oK:=bT (w:=w) hx7;have wI:w.heap.size<=w7.heap.size:=oK.size;clear hx7)
     |(go_at_call 358;refine(Ky _ _).mono ?_;rintro e w7 ⟨rfl,hx7⟩;have iK:w7.heap[w.heap.size]?=some (.cells _ _ (0,0)):=(hx7.block _ (by first|omega|(simp;done)|(simp;omega))).trans (iK);obtain⟨qz,vv⟩:=ah iK;have jJ:=hx7.size;(try simp at jJ);have oK:=bT (w:=w) hx7;have wI:w.heap.size<=w7.heap.size:=oK.size;clear hx7)
     |(go_at_call 355;refine(vR _ _ _ (by omega) (by omega) (by omega)).mono ?_;rintro e w' ⟨rfl,rfl⟩))
   all_goals go_wp2
   all_goals go_meet
   all_goals exact⟨rfl,congrArg (Value.int .i64) (by unfold Pl.qE;rw[if_pos hlo];omega),iK,by go_grown⟩
  ·go_wp2
   go_meet
   exact⟨rfl,by unfold Pl.qE;rw[if_neg (by omega)],hB.out,by go_grown⟩
 case rest=>
  obtain⟨rfl,rfl,kb,hb⟩:=hcut
  have hsz:=hb.size
  obtain⟨qz,vv⟩:=ah kb
  have hB2:=Lib.hid kb
  clear hB
  have hlt:=(Array.getElem?_eq_some_iff.1 hB2.out).1
  go_upto_if 55 with fail
  go_cut [7,8] (fun s7 s8 wx=>s7=.int .i64 (Pl.rC hi dx (-Pl.reach dx fa))∧s8=.int .i64 (Pl.qE lo dx (Pl.reach dx fa))∧wx.heap[w.heap.size]?=some (.cells (i5 lo hi dx ne fa) 320 (0,0))∧Below w.heap.size w wx)
  case first=>
   by_cases hhi:hi<180
   ·obtain⟨c0,c1⟩:=Pl.Av hi
    have sp:=Pl.vL (show 0<hi by omega) hhi
    obtain⟨_,s1⟩:=Pl.wo hi
    obtain⟨m0,m1⟩:=Pl.nk (show-100000<=dx by omega) g4 c0 c1
    have iK:=hB2.out
    have e4:IntKind.i64.wrap (dx*Pl.cos hi)=dx*Pl.cos hi:=IntWalk.i64_in _ (by omega)
    go_wp2
    go_region_held3 (fun W=>W.cell? ⟨w.heap.size,1,none⟩=some (.int .i64 hi)∧W.cell? ⟨w.heap.size,2,none⟩=some (.int .i64 dx)) (exact⟨by simp[qz],by simp[qz]⟩)
     (first
      |(go_at_call 357;refine(PY _ _).mono ?_;rintro e w7 ⟨rfl,hx7⟩;have iK:w7.heap[w.heap.size]?=some (.cells _ _ (0,0)):=(hx7.block _ (by first|omega|(simp;done)|(simp;omega))).trans (iK);obtain⟨qz,vv⟩:=ah iK;have jJ:=hx7.size;(try simp at jJ);have oK:=bT (w:=w) hx7;have wI:w.heap.size<=w7.heap.size:=oK.size;clear hx7)
      |(go_at_call 358;refine(Ky _ _).mono ?_;rintro e w7 ⟨rfl,hx7⟩;have iK:w7.heap[w.heap.size]?=some (.cells _ _ (0,0)):=(hx7.block _ (by first|omega|(simp;done)|(simp;omega))).trans (iK);obtain⟨qz,vv⟩:=ah iK;have jJ:=hx7.size;(try simp at jJ);have oK:=bT (w:=w) hx7;have wI:w.heap.size<=w7.heap.size:=oK.size;clear hx7)
      |(go_at_call 359;refine(KJ _ _ _ (by omega) (by omega) (by omega)).mono ?_;rintro e w' ⟨rfl,rfl⟩))
    all_goals go_wp2
    all_goals go_meet
    all_goals exact⟨congrArg (Value.int .i64) (by unfold Pl.rC;rw[if_pos hhi];omega),rfl,iK,by go_grown⟩
   ·go_wp2
    go_meet
    exact⟨congrArg (Value.int .i64) (by unfold Pl.rC;rw[if_neg (by omega)]),rfl,hB2.out,by go_grown⟩
  case rest=>
   obtain⟨rfl,rfl,kc,hb3⟩:=hcut
   have oq:=hb3.size
   clear qz vv
   obtain⟨hc8,Wy⟩:=ah kc
   have hB3:=Lib.hid kc
   clear hB2 hlt
   have hlt:=(Array.getElem?_eq_some_iff.1 hB3.out).1
   have e5:IntKind.i64.wrap (ne*ne)=ne*ne:=IntWalk.i64_in _ (by omega)
   have e6:IntKind.i64.wrap (-(-(ne*ne)/100000000)-dx*dx)= -(-(ne*ne)/100000000)-dx*dx:=IntWalk.i64_in _ (by omega)
   obtain⟨ZJ,ZK⟩:=Pl.tN (-(-(ne*ne)/100000000)-dx*dx)
   have hS:Hid (Pl.short dx ne= -(-(ne*ne)/100000000)-dx*dx):=rfl
   go_wp2
   go_region_held3 (fun W=>W.cell? ⟨w.heap.size,3,none⟩=some (.int .i64 ne)∧W.cell? ⟨w.heap.size,2,none⟩=some (.int .i64 dx)) (exact⟨by simp[hc8],by simp[hc8]⟩)
    (first
     |(go_at_call 359;refine(KJ _ _ _ (by omega) (by omega) (by omega)).mono ?_;rintro e w' ⟨rfl,rfl⟩)
     |(go_at_call 360;refine(KA _ _).mono ?_;rintro e w' ⟨rfl,rfl⟩))
   all_goals go_wp2
   all_goals go_ret3
   all_goals refine⟨?_,by go_grown⟩
   all_goals first
    |exact NM hE.out (by show(if hi<=90 then _ else _)=_;rw[hS.out];first|(rw[if_pos (by assumption)];omega)|(rw[if_neg (by omega)])) (by show(if ¬hi<=90∧90<=lo then _ else _)=_;rw[hS.out];first|(rw[if_pos (by omega)];omega)|(rw[if_neg (by omega)])) (by omega)
    |exact Qt hE.out (by show(if ¬hi<=90∧90<=lo then _ else _)<(if hi<=90 then _ else _);rw[hS.out];split<;>(first|omega|(split<;>omega)))
open RowKit
theorem Qu (A:Option Addr)(cp:Nat)(v:List (Int×Int))(b n l y x s dx:Int)(c:Pl.bF)(w:World)(hc:c=⟨b,n,l,y,x,s⟩)(hl:Vars w w.heap.size A v)(hm:v.length<=maxLen)(hok:c.ok=true)(h0:dx≠0)(h1: -100000<=dx)(h2:dx<=100000):
  Calls prog 289 #[.slice A v.length cp,.agg (i6 b n l y x s),.int .i64 dx] w fun e w'=>e=.returned (.tuple #[.int .i64 (Pl.je v c dx).1,.int .i64 (Pl.je v c dx).2.1,.bool (Pl.je v c dx).2.2])∧Below w.heap.size w w':=by
 obtain⟨⟨g0,g1⟩,_⟩:=c.mF hok
 have hK:=Lib.hid hok;clear hok
 by_cases hd:dx<0
 ·obtain⟨b0,b1,b2,b3⟩:=Pl.AJ (Pl.mid ((b+180)%360) (Pl.decl v y).1-n) (Pl.mid ((b+180)%360) (Pl.decl v y).1+n) (-dx) (Pl.near l x s) (Pl.far l x s)
  have hR:Hid (Pl.je v c dx=Pl.flip (Pl.jE (c.back.lo v) (c.back.hi v) (-dx) c.back.ne c.back.fa)):=by unfold Hid Pl.je;rw[if_pos hd];rfl
  have hq:=Lib.hid (Pl.bF.Ww (v:=v) (dx:= -dx) (Pl.bF.AB hK.out) (by omega) (by omega))
  subst hc
  go_enter func289,ntmps289
  go_wp2_with (first
   |(go_at_call 328;refine(Fy _ _ _ _ _ _ _ _ _ (by omega) (by omega) (by omega) hd (by omega) (by omega)).mono ?_;rintro e w2 ⟨rfl,hx2⟩;have hb2:=bT (w:=w) hx2;clear hx2;have hsz2:w.heap.size<=w2.heap.size:=hb2.size)
   |(go_at_call 329;refine(Hz _ _ v _ _ _ _ _ _ _ _ ?_ hm ?_).mono ?_;(exact hl.up (by go_grown));(exact Pl.bF.AB hK.out);rintro e w3 ⟨rfl,hx3⟩;have hb3:=bT (w:=w) hx3;clear hx3;have oq:w.heap.size<=w3.heap.size:=hb3.size)
   |(go_at_call 330;refine(P5 _ _ _ _ _ _ ?_).mono ?_;(exact hq.out);rintro e w4 ⟨rfl,hx4⟩;have hb4:=bT (w:=w) hx4;clear hx4;have wJ:w.heap.size<=w4.heap.size:=hb4.size))
  go_ret3
  exact⟨by rw[hR.out];rfl,by go_grown⟩
 ·have hR:Hid (Pl.je v c dx=Pl.jE (c.lo v) (c.hi v) dx c.ne c.fa):=by unfold Hid Pl.je;rw[if_neg hd];rfl
  have hq:=Lib.hid (Pl.bF.Ww (v:=v) (dx:=dx) hK.out (by omega) (by omega))
  subst hc
  go_enter func289,ntmps289
  go_wp2_with (first
   |(go_at_call 328;refine(Fz _ _ _ _ _ _ _ _ _ (by omega)).mono ?_;rintro e w2 ⟨rfl,hx2⟩;have hb2:=bT (w:=w) hx2;clear hx2;have hsz2:w.heap.size<=w2.heap.size:=hb2.size)
   |(go_at_call 329;refine(Hz _ _ v _ _ _ _ _ _ _ _ ?_ hm ?_).mono ?_;(exact hl.up (by go_grown));(exact hK.out);rintro e w3 ⟨rfl,hx3⟩;have hb3:=bT (w:=w) hx3;clear hx3;have oq:w.heap.size<=w3.heap.size:=hb3.size)
   |(go_at_call 330;refine(P5 _ _ _ _ _ _ ?_).mono ?_;(exact hq.out);rintro e w4 ⟨rfl,hx4⟩;have hb4:=bT (w:=w) hx4;clear hx4;have wJ:w.heap.size<=w4.heap.size:=hb4.size))
  go_ret3
  exact⟨by rw[hR.out];rfl,by go_grown⟩
def U0 (r:Int×Int×Bool)(e:Int):Value:=.tuple #[.int .i64 r.1,.int .i64 r.2.1,.bool r.2.2,.int .i64 e]
theorem SA (A A':Option Addr) (cp c':Nat) (v:List (Int×Int)) (cs:List Pl.bF) (dx:Int) (w:World) (hl:Vars w w.heap.size A v) (hm:v.length<=maxLen) (hcs:za w w.heap.size A' cs) (hm':cs.length<=maxLen):
    Calls prog 241 #[.slice A v.length cp,.slice A' cs.length c',.int .i64 dx] w fun e w'=>e=.returned (U0 (Pl.com v cs dx) (Pl.jA v cs dx))∧Below w.heap.size w w':=by
  have hmm:=hm'
  unfold maxLen at hm'
  by_cases NK:40<cs.length
  · have hE:Hid (Pl.jA v cs dx=2):=by unfold Hid Pl.jA;rw[if_pos NK]
    have hR:Hid (Pl.com v cs dx=(0,0,false)):=by unfold Hid Pl.com;rw[if_neg (by rw[hE.out];decide)]
    go_enter func241,ntmps241
    go_wp2
    go_returns
    exact⟨by rw[hE.out,hR.out];rfl,by go_grown⟩
  by_cases h00:cs.length=0
  · have hE:Hid (Pl.jA v cs dx=5):=by unfold Hid Pl.jA;rw[if_neg NK,if_pos h00]
    have hR:Hid (Pl.com v cs dx=(0,0,false)):=by unfold Hid Pl.com;rw[if_neg (by rw[hE.out];decide)]
    go_enter func241,ntmps241
    go_wp2
    go_returns
    exact⟨by rw[hE.out,hR.out];rfl,by go_grown⟩
  by_cases h1:Pl.bS v cs=0
  · have h1' : (Pl.bS v cs !=0)=false:=by simp[h1]
    by_cases h2:Pl.jI dx 0=true
    · obtain⟨j0,j1,j2,_⟩:=Pl.qL h2
      have h2':(Pl.err (Pl.jI dx 0) !=0)=false:=by rw[h2];rfl
      have hE:Hid (Pl.jA v cs dx=0):=by unfold Hid Pl.jA;rw[if_neg NK,if_neg h00,if_neg (by simp[h1]),h2];rfl
      have hR:Hid (Pl.com v cs dx=Pl.lQ v dx (-100000) 100000 cs):=by unfold Hid Pl.com;rw[if_pos hE.out]
      have hA:=Lib.hid (Pl.CG h1)
      clear h1 h2
      go_enter func241,ntmps241
      go_wp2_with (first
        |(go_at_call 287;refine(wH _ _ _ _ v cs _ (hl.up (by go_grown)) hm (hcs.up (by go_grown)) hmm).mono ?_;rintro e w1 ⟨rfl,hx1⟩;have hb1:=bT (w:=w) hx1;clear hx1;have hsz1:w.heap.size<=w1.heap.size:=hb1.size)
        |(go_at_call 288;refine(KG _ _ _).mono ?_;rintro e w' ⟨rfl,rfl⟩))
      go_loopw [6,7,38] (fun a b i wr=> ∃(k:Nat) (lo hi:Int),k<=cs.length∧i=.int .i64 k∧a=.int .i64 lo∧b=.int .i64 hi∧Hid (Pl.com v cs dx=Pl.lQ v dx lo hi (cs.drop k))∧Below w.heap.size w wr) (fun _ _ i _=>cs.length-(intOf i).toNat)
      case atStart=>exact⟨0,-100000,100000,by omega,rfl,rfl,rfl,hR,by go_grown⟩
      case round=>
        obtain⟨k,lo,hi,hk,rfl,rfl,rfl,hg,hb⟩:=hrel
        have hsz:=hb.size
        by_cases hlt:k<cs.length
        · obtain⟨b,off,rfl,mQ,q0,q1,q2,q3,q4,q5⟩:=za.UY (hcs.below hb) hlt
          have hg2:=Lib.hid (Pl.Fq (v:=v) (dx:=dx) (lo:=lo) (hi:=hi) hlt)
          go_wp2_with (go_at_call 289;refine(Qu _ _ v _ _ _ _ _ _ _ cs[k] _ rfl (hl.up (by go_grown)) hm (Pl.NA hA.out.2.1 hlt) j0 j1 j2).mono ?_;rintro e w2 ⟨rfl,hx2⟩;have hb2:=bT (w:=w) hx2;clear hx2;have hsz2:w.heap.size<=w2.heap.size:=hb2.size)
          all_goals first
            |(go_returns;exact⟨by rw[hE.out,hg.out,hg2.out,if_pos (by clear hg hg2 hE hR hA q0 q1 q2 q3 q4 q5 hl hcs;grind)];rfl,by go_grown⟩)
            | (go_roundw
               case rel=>exact⟨k+1,max lo (Pl.je v cs[k] dx).1,min hi (Pl.je v cs[k] dx).2.1,by omega,by go_num,congrArg (Value.int .i64) (by clear hg hg2 hE hR hA q0 q1 q2 q3 q4 q5 hl hcs;grind),congrArg (Value.int .i64) (by clear hg hg2 hE hR hA q0 q1 q2 q3 q4 q5 hl hcs;grind),by unfold Hid;rw[hg.out,hg2.out,if_neg (by clear hg hg2 hE hR hA q0 q1 q2 q3 q4 q5 hl hcs;grind)],by go_grown⟩
               case measure=>first|(simp[intOf];done)|(simp[intOf];omega))
        · obtain rfl:k=cs.length:=by omega
          go_wp2
          go_returns
          exact⟨by rw[hE.out,hg.out,List.drop_length];rfl,by go_grown⟩
    · have h2':(Pl.err (Pl.jI dx 0) !=0)=true:=by simp only[Bool.not_eq_true]at h2;rw[h2];rfl
      have hE:Hid (Pl.jA v cs dx=Pl.err (Pl.jI dx 0)):=by unfold Hid Pl.jA;rw[if_neg NK,if_neg h00,if_neg (by simp[h1])]
      have hR:Hid (Pl.com v cs dx=(0,0,false)):=by unfold Hid Pl.com;rw[if_neg (by rw[hE.out];simpa using h2')]
      clear h1 h2
      go_enter func241,ntmps241
      go_wp2_with (first
        |(go_at_call 287;refine(wH _ _ _ _ v cs _ (hl.up (by go_grown)) hm (hcs.up (by go_grown)) hmm).mono ?_;rintro e w1 ⟨rfl,hx1⟩;have hb1:=bT (w:=w) hx1;clear hx1;have hsz1:w.heap.size<=w1.heap.size:=hb1.size)
        |(go_at_call 288;refine(KG _ _ _).mono ?_;rintro e w' ⟨rfl,rfl⟩))
      go_returns
      exact⟨by rw[hE.out,hR.out];rfl,by go_grown⟩
  · have h1':(Pl.bS v cs !=0)=true:=by simp[h1]
    have hE:Hid (Pl.jA v cs dx=Pl.bS v cs):=by unfold Hid Pl.jA;rw[if_neg NK,if_neg h00,if_pos h1]
    have hR:Hid (Pl.com v cs dx=(0,0,false)):=by unfold Hid Pl.com;rw[if_neg (by rw[hE.out];exact h1)]
    clear h1
    go_enter func241,ntmps241
    go_wp2_with (go_at_call 287;refine(wH _ _ _ _ v cs _ (hl.up (by go_grown)) hm (hcs.up (by go_grown)) hmm).mono ?_;rintro e w1 ⟨rfl,hx1⟩;have hb1:=bT (w:=w) hx1;clear hx1;have hsz1:w.heap.size<=w1.heap.size:=hb1.size)
    go_returns
    exact⟨by rw[hE.out,hR.out];rfl,by go_grown⟩
open RowKit
theorem Qv (A:Option Addr)(cp c' b:Nat)(v:List (Int×Int))(c:Pl.bF)(dx:Int)(w:World)(hl:Vars w w.heap.size A v)(hm:v.length<=maxLen)(h:w.heap[b]?=some (.cells (i6 c.b c.n c.l c.y c.x c.s) 46 (0,0))):
  Calls prog 241 #[.slice A v.length cp,.slice (some ⟨b,0,none⟩) 1 c',.int .i64 dx] w fun e w'=>e=.returned (.tuple #[.int .i64 (Pl.com v [c] dx).1,.int .i64 (Pl.com v [c] dx).2.1,.bool (Pl.com v [c] dx).2.2,.int .i64 (Pl.jA v [c] dx)])∧Below w.heap.size w w':=by
 have hb:b<w.heap.size:=(lO h)
 exact SA A (some ⟨b,0,none⟩) cp c' v [c] dx w hl hm (za.single c hb h) (by simp[maxLen])
theorem qN (A:Option Addr)(cp:Nat)(v:List (Int×Int))(c:Pl.bF)(dx:Int)(w:World)(hl:Vars w w.heap.size A v)(hm:v.length<=maxLen):
  Calls prog 177 #[.slice A v.length cp,.agg (i6 c.b c.n c.l c.y c.x c.s),.int .i64 dx] w fun e w'=>e=.returned (.tuple #[.int .i64 (Pl.com v [c] dx).1,.int .i64 (Pl.com v [c] dx).2.1,.bool (Pl.com v [c] dx).2.2,.int .i64 (Pl.jA v [c] dx)])∧Below w.heap.size w w':=by
 go_enter func177,ntmps177
 go_wp2_with (go_at_call 241;refine(Qv _ _ _ _ v c _ _ ?_ hm ?_).mono ?_;(exact hl.up (by go_grown));(exact bI (by simp));rintro e w1 ⟨rfl,hx1⟩;have hb1:=bT (w:=w) hx1;clear hx1;have hsz1:w.heap.size<=w1.heap.size:=hb1.size)
 go_returns
 exact⟨rfl,by go_grown⟩
theorem FB (c:Pl.bF)(w:World)(h:c.ok=true):Calls prog 136 #[.agg (i6 c.b c.n c.l c.y c.x c.s)] w fun e w'=>e=.returned (.tuple #[.agg (i6 ((c.b+180)%360) c.n c.l c.y c.x c.s),.int .i64 0])∧Below w.heap.size w w':=by
 obtain⟨⟨g0,g1⟩,_⟩:=c.mF h
 have he:(Pl.err (Pl.dJ c.b c.n c.l c.y c.x c.s) !=0)=false:=by unfold Pl.bF.ok at h;rw[h];rfl
 have H:=Lib.hid h;clear h
 go_enter func136,ntmps136
 go_wp2_with (first
  |(go_at_call 109;refine(rD _ _ _ _ _ _ _).mono ?_;rintro e w1 ⟨rfl,hx1⟩;have jY:w1.heap[w.heap.size]?=some (.cells _ _ (0,0)):=(hx1.block _ (by first|omega|(simp;done)|(simp;omega))).trans (heap_alloc2_old _ _ _);obtain⟨tT,tV⟩:=ah jY;have SB:w1.heap[w.heap.size+1]?=some (.cells _ _ (0,0)):=(hx1.block _ (by first|omega|(simp;done)|(simp;omega))).trans (heap_alloc2_new _ _ _);obtain⟨XY,XZ⟩:=ah SB;have hsz1:=hx1.size;(try simp at hsz1);have hb1:=bT (w:=w) hx1;have qF:w.heap.size<=w1.heap.size:=hb1.size;clear hx1)
  |(go_at_call 194;refine(KH _ _ _ _ _ _ _ (by omega) (by omega)).mono ?_;rintro e w2 ⟨rfl,hx2⟩;have U1:w2.heap[w.heap.size+1]?=some (.cells _ _ (0,0)):=(hx2.block _ (by first|omega|(simp;done)|(simp;omega))).trans (SB);obtain⟨U2,X0⟩:=ah U1;have hsz2:=hx2.size;(try simp at hsz2);have hb2:=bT (w:=w) hx2;have Wz:w.heap.size<=w2.heap.size:=hb2.size;clear hx2))
 refine bodyPost_ret (v:=.tuple #[.agg (i6 ((c.b+180)%360) c.n c.l c.y c.x c.s),.int .i64 0]) (by simp[results,results136,go_sem,U2]) rfl ⟨rfl,by go_grown⟩
