/- Proved: parts of the walk. -/
import Derived.LoopIn
import Derived.LoopNIn
import Derived.OwnWalkIn
import Derived.RangeFuncBound
import Derived.RangeFuncNested
import Derived.Shelf.RegionOpen
import Derived.Test.YtgbpekeoegfjpaaGreatDoorVZ03
set_option maxRecDepth 100000
set_option maxHeartbeats 1000000
namespace Go.Proofs
open Tryz RowKit
theorem lY {F:Fence}{n:Nat}{P:Program}{α σ:Type}{g:Operand}{ps:Array Tmp}{assign body:Code}{Q:Exit->Act->World->Prop}{a:Act}{w:World}
  (hro:F.round=none) (h1:1<=n) {gf:Nat} {lb:Array Value} (hg:a.eval g=.func (.func gf) #[] lb) (hFg:F.fn gf) (eg: ∀args w,(callFunc gf args).run P w=.ok (.enter gf args) w)
  {encs:α->Array Value} (hps: ∀x,(encs x).size=ps.size) (next:σ->α->σ) (s0 s1:σ) (Pre:σ->α->Prop) (I:σ->World->Prop) (Ax:α->Act->World->Prop)
  (xq: ∀s W r r',W.heap[w.heap.size+1]?=some (.loop r)->I s W->I s (W.putObj (w.heap.size+1) (.loop r')))
  (Lf: ∀x a' W r r',W.heap[w.heap.size+1]?=some (.loop r)->Ax x a' W->Ax x a' (W.putObj (w.heap.size+1) (.loop r')))
  (h0: ∀r,I s0 ((w.alloc (.deferred (some []))).alloc (.loop r)))
  (hseq: ∀(rec:Loop) (W1:World),
   (∀s x W,Pre s x->I s W->W.heap[w.heap.size+1]?=some (.loop rec)->W.heap[w.heap.size]?=some (.deferred (some []))->
    YieldAt F (n-1-1) P (w.heap.size+1) (encs x) W fun e W'=>e=.returned (.bool true)∧I (next s x) W'∧W'.heap[w.heap.size+1]?=some (.loop rec)∧W'.heap[w.heap.size]?=some (.deferred (some [])))->
   I s0 W1->W1.heap[w.heap.size+1]?=some (.loop rec)->W1.heap[w.heap.size]?=some (.deferred (some []))->
   CallsIn F (n-1) P gf (#[.func (.yield (w.heap.size+1)) #[] #[]]++lb) W1 fun e W'=>(∃v,e=.returned v)∧I s1 W'∧W'.heap[w.heap.size+1]?=some (.loop rec)∧W'.heap[w.heap.size]?=some (.deferred (some [])))
  (hassign: ∀s x W (K:Act->World->Prop) r,Pre s x->I s W->W.heap[w.heap.size+1]?=some (.loop r)->W.heap[w.heap.size]?=some (.deferred (some []))->
   (∀a' W',I s W'->Ax x a' W'->W'.heap[w.heap.size+1]?=some (.loop r)->W'.heap[w.heap.size]?=some (.deferred (some []))->K a' W')->
   assign.wpIn (F.inRound (w.heap.size+1)) (n-1-1) P (Exit.then K (fun _ _ _=>False)) {tmps:=(ps.zip (encs x)).foldl (fun t (p,v)=>t.setIfInBounds p v) a.tmps,defers:=[]} W)
  (hbody: ∀s x a' W r,Pre s x->I s W->Ax x a' W->W.heap[w.heap.size+1]?=some (.loop r)->W.heap[w.heap.size]?=some (.deferred (some []))->
   body.wpIn (F.inRound (w.heap.size+1)) (n-1-1) P (Exit.then (fun _ W'=>I (next s x) W'∧W'.heap[w.heap.size+1]?=some (.loop r)∧W'.heap[w.heap.size]?=some (.deferred (some []))) (fun _ _ _=>False)) a' W)
  (hdone: ∀W,I s1 W->W.heap[w.heap.size]?=some (.deferred (some []))->Q .normal {a with defers:= {target:=.collected w.heap.size,args:= #[]}::a.defers} W):
  (Code.rangeFunc g ps assign body).wpIn F n P Q a w:=by
 refine wpIn_rangeFunc ?_
 intro fn hfn
 rw[hro]
 obtain⟨rec,hrec⟩: ∃rec:LoopState->Option Code->Loop,rec=fun st pe=> {state:=st,pending:=pe,fn,tmps:=a.tmps,params:=ps,assign,body,defers:=w.heap.size}:=⟨_,rfl⟩
 obtain⟨W1,hW1⟩: ∃W1,(w.alloc (.deferred (some []))).alloc (.loop (rec .ready none))=W1:=⟨_,rfl⟩
 have hL1:W1.heap[w.heap.size+1]?=some (.loop (rec .ready none)):=by
  rw[<-hW1];have:=World.alloc_heap_new (w.alloc (.deferred (some []))) (.loop (rec .ready none));rwa[World.size_alloc]at this
 have hK1:W1.heap[w.heap.size]?=some (.deferred (some [])):=by
  rw[<-hW1];exact(Below.heap_alloc _ _ _ (by simp)).trans (World.alloc_heap_new w _)
 have hI1:I s0 W1:=by rw[<-hW1];exact h0 _
 refine⟨w.heap.size+1,[{target:=.collected w.heap.size,args:= #[]}],W1,{target:=.fn (.func gf) lb,args:= #[.func (.yield (w.heap.size+1)) #[] #[]]},W1,gf,
  #[.func (.yield (w.heap.size+1)) #[] #[]]++lb,W1,?_,?_,?_,?_,fun _=>h1,?_⟩
 ·rw[<-hW1,hrec];exact run_enterLoop_outer _ _ _ _ _
 ·simp only[resolve,hg]
  simp[go_sem]
 ·intro f' hf';simp[Target.leads]at hf';subst hf';exact hFg
 ·simp[invoke,go_sem,eg]
 ·refine(hseq (rec .ready none) W1 ?_ hI1 hL1 hK1).mono ?_
  ·rintro s x W hpre hi hl hk
   have hlt:w.heap.size+1<W.heap.size:=(lO hl)
   have hy:=run_yield (P:=P) (args:=encs x) hl (by rw[hrec];exact hps x)
   rw[hrec]at hy
   refine⟨fn,_,assign,body,hy,roundIn_of_wpIn hfn (hassign s x W _ (rec .ready none) hpre hi hl hk ?_)⟩
   clear hy
   intro a' Wa hia hax hla hka
   have QM:w.heap.size+1<Wa.heap.size:=(lO hla)
   refine⟨_,run_beginRound hla (by rw[hrec]),?_⟩
   have hl2:(Wa.putObj (w.heap.size+1) (.loop {rec .ready none with state:=.busy})).heap[w.heap.size+1]?=some (.loop {rec .ready none with state:=.busy}):=World.putObj_heap_same QM
   have hk2:(Wa.putObj (w.heap.size+1) (.loop {rec .ready none with state:=.busy})).heap[w.heap.size]?=some (.deferred (some [])):=(World.putObj_heap_other (by omega)).trans hka
   refine wpIn_mono (hbody s x a' _ _ hpre (xq _ _ _ _ hla hia) (Lf _ _ _ _ _ hla hax) hl2 hk2) ?_
   rintro e a3 W3 hp
   cases e with
   |normal=>
    obtain⟨hi3,hl3,hk3⟩:=hp
    have hr:=run_endRound (P:=P) none hl3
    rw[hrec]at hr
    refine⟨_,_,hr,rfl,xq _ _ _ _ hl3 hi3,?_,(World.putObj_heap_other (by omega)).trans hk3⟩
    rw[World.putObj_heap_same (lO hl3),hrec]
    rfl
   |ret=>exact hp.elim
   |exit id=>exact hp.elim
   |goto t=>exact hp.elim
   |panic ch=>exact hp.elim
   |outgrown=>exact hp.elim
  ·rintro e W2 ⟨⟨v,rfl⟩,hi,hl,hk⟩
   exact⟨none,_,by have:=run_endLoop (P:=P) hl (by rw[hrec];simp);rw[hrec]at this;exact this,hdone _ (xq _ _ _ _ hl hi) ((World.putObj_heap_other (by omega)).trans hk)⟩
open RowKit Shelf
attribute [local go_sem] Oper.semAt_some
def Bp (u:Pl.Unit):List Value:=[.int .i64 u.1,.string u.2.1,.string u.2.2]
abbrev Units := @Seg Pl.Unit Bp 3
theorem Units.at3 {w:World}{B:Nat}{A:Option Addr}{l:List Pl.Unit}(h:Units w B A l){k:Nat}(hk:k<l.length):
  ∃b off,A=some ⟨b,off,none⟩∧b<B∧w.cell? ⟨b,off+k*3,none⟩=some (.int .i64 l[k].1)∧w.cell? ⟨b,off+k*3+1,none⟩=some (.string l[k].2.1)∧w.cell? ⟨b,off+k*3+2,none⟩=some (.string l[k].2.2):=by
 obtain⟨b,off,hA,hb,hc⟩:=Seg.at_ h hk
 exact⟨b,off,hA,hb,hc 0 _ rfl,hc 1 _ rfl,hc 2 _ rfl⟩
structure sF (w:World)(A:Option Addr)(us:List Pl.Unit)(cap:Nat)(s:Int×List ByteArray)(W:World):Prop where
 lo:0<=s.1
 hi:s.1<=1000000000000
 below:Below w.heap.size w W
 sz:w.heap.size+5<=W.heap.size
 own: ∃v,Boxed W w.heap.size 24 v∧W.ownsRow (w.heap.size+5) 9 1 v s.2.length (s.2.map Value.string)∧(v=.slice none 0 0↔s.2=[])
 left:Boxed W (w.heap.size+1) 3 (.int .i64 s.1)
 units:Boxed W (w.heap.size+2) 280 (.slice A us.length cap)
theorem jm {W W':World}(h:Below W.heap.size W W'):W.grownBy W' none:=
 ⟨h.os,h.tape,h.output,h.size,fun k hk _=>h.block k hk⟩
theorem sF.grow {w:World}{A:Option Addr}{us:List Pl.Unit}{cap:Nat}{s:Int×List ByteArray}{W W':World}(h:sF w A us cap s W)(hb:Below W.heap.size W W'):sF w A us cap s W':=by
 obtain⟨h1,h2,h3,h4,⟨v,hv,hr,hn⟩,h6,h7⟩:=h
 have hg:=jm hb
 exact⟨h1,h2,h3.trans (hb.mono h3.size),Nat.le_trans h4 hb.size,⟨v,hv.kept hg (by simp),hr.kept hg (by cases v.ownBlock<;>simp),hn⟩,h6.kept hg (by simp),h7.kept hg (by simp)⟩
theorem sF.set {w:World}{A:Option Addr}{us:List Pl.Unit}{cap:Nat}{c:Int}{S:List ByteArray}{W:World}(h:sF w A us cap (c,S) W)(c':Int)(h0:0<=c')(h1:c'<=1000000000000):
  sF w A us cap (c',S) (W.setCell ⟨w.heap.size+1,0,none⟩ (.int .i64 c')):=by
 obtain⟨_,_,h3,h4,⟨v,hv,hr,hn⟩,h6,h7⟩:=h
 have hg:=grownBy_setCell' W (w.heap.size+1) (.int .i64 c')
 refine⟨h0,h1,h3.setCell (p:=⟨w.heap.size+1,0,none⟩) (show w.heap.size<=w.heap.size+1 by omega) _,by have:=hg.size;omega,⟨v,hv.kept hg (by simp),hr.kept hg (.inr (h6.not_row (by decide) hr).symm),hn⟩,h6.set _,h7.kept hg (by simp)⟩
theorem sF.putObj {w:World}{A:Option Addr}{us:List Pl.Unit}{cap:Nat}{s:Int×List ByteArray}{W:World}{l:Nat}{o:Obj}(o':Obj)(h:sF w A us cap s W)(hl:W.heap[l]?=some o)(ho:o.isCells=false)(hle:w.heap.size+2<l):sF w A us cap s (W.putObj l o'):=by
 obtain⟨h1,h2,h3,h4,⟨v,hv,hr,hn⟩,h6,h7⟩:=h
 have hg:=grownBy_putObj' W l o'
 exact⟨h1,h2,h3.grown hg h3.size (fun k e=>by cases e;omega),by have:=hg.size;omega,⟨v,hv.kept hg (by simp;omega),ownsRow_putObj hr _ hl ho,hn⟩,h6.kept hg (by simp;omega),h7.kept hg (by simp;omega)⟩
abbrev Bq (x:Int×Pl.Unit):Array Value:= #[.int .i64 x.1,.agg #[.int .i64 x.2.1,.string x.2.2.1,.string x.2.2.2]]
def Dq (s:Int×List ByteArray)(x:Int×Pl.Unit):Int×List ByteArray:=(s.1,s.2++[Pl.spelt x.1,Pl.word x.1 x.2])
end Go.Proofs
namespace Go.Proofs
open Tryz RowKit Shelf
attribute [local go_sem] Oper.semAt_some
def SY (s:Int×List ByteArray)(x:Int×Pl.Unit):Prop:=s.2.length+2<=100∧1<=x.1∧x.1<=1000000000000
def NJ (w:World)(A:Option Addr)(us:List Pl.Unit)(cap:Nat)(rec:Loop)(s:Int×List ByteArray)(W:World):Prop:=
 sF w A us cap s W∧W.heap[w.heap.size+4]?=some (.loop rec)∧W.heap[w.heap.size+3]?=some (.deferred (some []))
theorem NJ.grow {w:World}{A:Option Addr}{us:List Pl.Unit}{cap:Nat}{rec:Loop}{s:Int×List ByteArray}{W W':World}(h:NJ w A us cap rec s W)(hb:Below W.heap.size W W'):NJ w A us cap rec s W':=
 ⟨h.1.grow hb,(hb.block _ (by have:=h.1.sz;omega)).trans h.2.1,(hb.block _ (by have:=h.1.sz;omega)).trans h.2.2⟩
theorem NJ.set {w:World}{A:Option Addr}{us:List Pl.Unit}{cap:Nat}{rec:Loop}{c:Int}{S:List ByteArray}{W:World}(h:NJ w A us cap rec (c,S) W)(c':Int)(h0:0<=c')(h1:c'<=1000000000000):
  NJ w A us cap rec (c',S) (W.setCell ⟨w.heap.size+1,0,none⟩ (.int .i64 c')):=
 ⟨h.1.set c' h0 h1,(Below.heap_setCell _ _ _ _ (by simp)).trans h.2.1,(Below.heap_setCell _ _ _ _ (by simp)).trans h.2.2⟩
theorem Jk (n:Nat)(w:World)(A:Option Addr)(us:List Pl.Unit)(cap:Nat)(c0:Int)(rec:Loop)(Ns:Units w w.heap.size A us)(hlen:us.length<=40)(hpos: ∀u∈us,1<=u.1∧u.1<=1000000000000)
  (hY: ∀s x W,SY s x->NJ w A us cap rec s W->YieldAt Fence.wide (n-1) prog (w.heap.size+4) (Bq x) W fun e W'=>e=.returned (.bool true)∧NJ w A us cap rec (Dq s x) W')
  (W1:World) (h0:NJ w A us cap rec (c0,[]) W1):
  CallsIn Fence.wide n prog 368 #[.func (.yield (w.heap.size+4)) #[] #[],.pointer (some ⟨w.heap.size+2,0,none⟩),.pointer (some ⟨w.heap.size+1,0,none⟩)] W1 fun e W'=>
   (∃v,e=.returned v)∧NJ w A us cap rec (Pl.oG c0 us,Pl.aN c0 us) W':=by
 refine callsIn_of_wp func368 rfl trivial ?_ rfl
 simp only[ntmps368,List.size_toArray,List.length_cons,List.length_nil,Nat.reduceAdd,Nat.reduceSub,Array.replicate_succ,Array.replicate_zero,List.push_toArray,List.append_toArray,List.nil_append,List.cons_append]
 have hu:=h0.1.units.cell
 gi_wp2
 gi_loopw [9] (fun p wr=> ∃(k:Nat) (c:Int) (S:List ByteArray),k<=us.length∧p=.int .i64 k∧NJ w A us cap rec (c,S) wr∧S.length<=2*k∧Hid (S++Pl.aN c (us.drop k)=Pl.aN c0 us∧Pl.oG c (us.drop k)=Pl.oG c0 us)) (fun p _=>us.length-(intOf p).toNat)
 case atStart=>exact⟨0,c0,[],by omega,rfl,h0,by simp,⟨by simp,by simp⟩⟩
 case round=>
  obtain⟨k,c,S,hk,rfl,hJ,hS,H⟩:=hrel
  by_cases hlt:k<us.length
  ·obtain⟨b,off,rfl,mQ,q0,q1,q2⟩:=Units.at3 (Ns.below hJ.1.below) hlt
   have hc:=hJ.1.left.cell
   have hf:=hJ.1.left.frozen
   have hu1:=(hpos us[k] (List.getElem_mem hlt)).1
   have hu2:=(hpos us[k] (List.getElem_mem hlt)).2
   have hsz:=hJ.1.sz
   have hc1:=(hJ.1.left.alloc (.cells #[.int .i64 us[k].1,.string us[k].2.1,.string us[k].2.2] 313)).cell
   have hf1:=(hJ.1.left.alloc (.cells #[.int .i64 us[k].1,.string us[k].2.1,.string us[k].2.2] 313)).frozen
   obtain⟨hw,ZL,hq0,hq1,hm0,hm1⟩:=Pl.vP (c:=c) (s:=us[k].1) hJ.1.lo hJ.1.hi hu1
   have Ut:NJ w _ us cap rec (c,S) (wr.alloc (.cells #[.int .i64 us[k].1,.string us[k].2.1,.string us[k].2.2] 313)):=hJ.grow ((Below.refl _ _).alloc (Nat.le_refl _) _)
   have hJ2:=Ut.set (c%us[k].1) hm0 hm1
   have hb3:((wr.alloc (.cells #[.int .i64 us[k].1,.string us[k].2.1,.string us[k].2.2] 313)).setCell ⟨w.heap.size+1,0,none⟩ (.int .i64 (c%us[k].1))).heap[wr.heap.size]?=some (.cells #[.int .i64 us[k].1,.string us[k].2.1,.string us[k].2.2] 313 (0,0)):=
    (Below.heap_setCell _ _ _ _ (by simp;omega)).trans (World.alloc_heap_new _ _)
   have hlt2:(us.drop k)=us[k]::us.drop (k+1):=by simp
   by_cases Qb:0<c/us[k].1
   ·obtain⟨fn,tmps,assign,body,hy,hR⟩:=hY (c%us[k].1,S) (c/us[k].1,us[k]) _ ⟨by simp;omega,by simp;omega,by simp;omega⟩ hJ2
    dsimp only[Bq]at hy
    gi_wp2
    refine⟨fun h=>(by cases h),hR.mono ?_⟩
    rintro e W3 ⟨rfl,hJ3⟩
    gi_wp2
    go_roundw
    case rel=>exact⟨k+1,c%us[k].1,S++[Pl.spelt (c/us[k].1),Pl.word (c/us[k].1) us[k]],by omega,by simp,hJ3,by simp;omega,⟨by rw[<-H.out.1,hlt2];simp[Pl.aN,Qb],by rw[<-H.out.2,hlt2];rfl⟩⟩
    case measure=>first|(simp[intOf];done)|(simp[intOf];omega)
   ·gi_wp2
    refine⟨fun _ h=>(by cases h),?_⟩
    gi_wp2
    go_roundw
    case rel=>exact⟨k+1,c%us[k].1,S,by omega,by simp,hJ2,by omega,⟨by rw[<-H.out.1,hlt2];simp[Pl.aN,Qb],by rw[<-H.out.2,hlt2];rfl⟩⟩
    case measure=>first|(simp[intOf];done)|(simp[intOf];omega)
  ·gi_wp2
   go_end0
   have hd:us.drop k=[]:=List.drop_eq_nil_of_le (by omega)
   rw[hd]at H
   obtain⟨H1,H2⟩:=H.out
   simp only[Pl.aN,Pl.oG,List.append_nil]at H1 H2
   subst H1
   subst H2
   exact⟨⟨_,rfl⟩,hJ⟩
end Go.Proofs
namespace Go.Proofs
open Tryz RowKit Shelf
attribute [local go_sem] Oper.semAt_some
attribute [-go_sem] Builtin.append_
theorem OJ (c:Int)(A:Option Addr)(k cap:Nat)(w:World):
  Calls prog 352 #[.int .i64 c,.slice A k cap] w fun e w'=>
   e=.returned (.func (.func 368) #[] #[.pointer (some ⟨w.heap.size+1,0,none⟩),.pointer (some ⟨w.heap.size,0,none⟩)])∧
   w'=(w.alloc (.cells #[.int .i64 c] 3)).alloc (.cells #[.slice A k cap] 280):=by
 go_enter func352,ntmps352
 go_wp2
 go_ret
 exact⟨by simp,rfl⟩
def X8 (w:World)(c:Int)(A:Option Addr)(us:List Pl.Unit)(cap:Nat)(x:Int×Pl.Unit)(a':Act)(W:World):Prop:=
 ∃Bx,w.heap.size+5<=Bx∧W.heap[Bx]?=some (.cells #[.int .i64 x.2.1,.string x.2.2.1,.string x.2.2.2] 313 (0,0))∧a'= {tmps:= #[.int .i64 c,.slice A us.length cap,undef,undef,.string ⟨#[]⟩,.pointer (some ⟨w.heap.size,0,none⟩),.int .i64 x.1,.pointer (some ⟨Bx,0,none⟩),undef,.int .i64 c,.slice A us.length cap,.func (.func 368) #[] #[.pointer (some ⟨w.heap.size+2,0,none⟩),.pointer (some ⟨w.heap.size+1,0,none⟩)],.int .i64 x.1,.agg #[.int .i64 x.2.1,.string x.2.2.1,.string x.2.2.2],undef,undef,undef,undef,undef,undef,undef,undef,undef,undef,undef,undef,undef,undef,undef,undef,undef,undef,undef,undef,undef,undef,undef,undef,undef],defers:=[]}
theorem zq :(prog.info? 9).map (fun i=>(i.zero,i.size,i.bytes))=some (some (.string ⟨#[]⟩),1,16):=by kernel_rfl
theorem cell_two_new (w:World)(x y:Value)(t:TypeId): ∀j u,[x,y][j]?=some u->(w.alloc (.cells #[x,y] t)).cell? ((⟨w.heap.size,0,none⟩:Addr).add j)=some u:=by
 intro j u hj
 match j,hj with
 |0,hj=>simp at hj;subst hj;simp[Addr.add]
 |1,hj=>simp at hj;subst hj;simp[Addr.add]
theorem Lg (n:Int)(w:World)(hE:Env w)(h0: -9223372036854775808<=n)(h1:n<=9223372036854775807):
  Calls prog 120 #[.int .i64 n] w fun e w'=> ∃B,e=.returned (.string B)∧Hid (B=Pl.spelt n)∧Below w.heap.size w w':=
 (eY n w hE h0 h1).mono fun _ _ ⟨he,hb⟩=>⟨_,he,Lib.hid rfl,hb⟩
theorem Lh {w:World}{A:Option Addr}{us:List Pl.Unit}{cap:Nat}{s:Int×List ByteArray}{x:Int×Pl.Unit}{W w1 w2:World}{B wd:ByteArray}{g' cap':Nat}{v:Value}{r:Loop}
  (hi:sF w A us cap s W) (hb1:Below W.drew.heap.size W.drew w1) (hB:Hid (B=Pl.spelt x.1)) (hwd:Pl.word x.1 x.2=wd)
  (hown2:w2.ownsRow (w.heap.size+5) 9 1 (.slice (some ⟨g',0,none⟩) (s.2.length+2) cap') (s.2.length+2) (s.2.map Value.string++[.string B,.string wd])) (hv2:Boxed w2 w.heap.size 24 v) (hb2:Below (w.heap.size+5) w1 w2)
  (hl:W.heap[w.heap.size+3+1]?=some (.loop r)) (hk:W.heap[w.heap.size+3]?=some (.deferred (some []))):
  sF w A us cap (Dq s x) (w2.setCell ⟨w.heap.size,0,none⟩ (.slice (some ⟨g',0,none⟩) (s.2.length+2) cap'))∧
   (w2.setCell ⟨w.heap.size,0,none⟩ (.slice (some ⟨g',0,none⟩) (s.2.length+2) cap')).heap[w.heap.size+3+1]?=some (.loop r)∧
   (w2.setCell ⟨w.heap.size,0,none⟩ (.slice (some ⟨g',0,none⟩) (s.2.length+2) cap')).heap[w.heap.size+3]?=some (.deferred (some [])):=by
 have hsz:=hi.sz
 have hW:Below (w.heap.size+5) W w2:=(((Below.refl _ W).drew).trans (hb1.mono (show w.heap.size+5<=W.drew.heap.size from hsz))).trans hb2
 have key: ∀k,k<w.heap.size+5->k≠w.heap.size->(w2.setCell ⟨w.heap.size,0,none⟩ (.slice (some ⟨g',0,none⟩) (s.2.length+2) cap')).heap[k]?=W.heap[k]?:=fun k hk hne=>
  (Below.heap_setCell _ _ _ _ hne).trans (hW.block k hk)
 have hB':=hB.out
 subst hB' hwd
 refine⟨⟨hi.lo,hi.hi,hi.below.trans ((hW.mono (show w.heap.size<=w.heap.size+5 by omega)).setCell (p:=⟨w.heap.size,0,none⟩) (Nat.le_refl _) _),?_,⟨_,hv2.set _,?_,by simp[Dq]⟩,(key _ (by omega) (by omega)).trans hi.left,(key _ (by omega) (by omega)).trans hi.units⟩,(key _ (by omega) (by omega)).trans hl,(key _ (by omega) (by omega)).trans hk⟩
 ·have:=hW.size;have:=(grownBy_setCell' w2 w.heap.size (.slice (some ⟨g',0,none⟩) (s.2.length+2) cap')).size;omega
 ·have:=hown2.kept (grownBy_setCell' w2 w.heap.size (.slice (some ⟨g',0,none⟩) (s.2.length+2) cap')) (.inr (hv2.not_row (by decide) hown2).symm)
  simpa [Dq]using this
theorem Li {W:World}{n₀ g cap m:Nat}{xs:List ByteArray}(hm:xs.length=m)(hr:W.ownsRow n₀ 9 1 (.slice (some ⟨g,0,none⟩) m cap) m (xs.map Value.string))(hx: ∀x∈xs,x.size<=100)(hl:xs.length<=100):
  Calls prog 119 #[.slice (some ⟨g,0,none⟩) m cap,.string ⟨#[32]⟩] W fun e w'=>e=.returned (.string ⟨(Lib.join (xs.map (·.data.toList)) [32]).toArray⟩)∧Below W.heap.size W w':=by
 subst hm
 refine Tryz.strings_Join g 0 cap xs ⟨#[32]⟩ W ?_ (hr.lt g rfl).2 (by omega) ?_ ?_
 ·intro j x hj
  have:=hr.cells (g:=g) rfl j (.string x) (by simp[hj])
  by_cases hj0:j=0
  ·subst hj0;simpa [Addr.add]using this
  ·simpa [Addr.add,hj0]using this
 ·rcases hr.2 with ⟨h,_⟩|⟨g',cap',cur,h,_,_,hle,_⟩
  ·cases h
  ·cases h;exact hle
 ·have:=Pl.join_le [32] (xs:=xs.map (·.data.toList)) (N:=100) (by
   intro y hy
   obtain⟨x,hx',rfl⟩:=List.mem_map.1 hy
   have h5:=hx x hx'
   rw[Array.length_toList]
   exact h5)
  simp only[List.length_map,List.length_cons,List.length_nil]at this
  show(Lib.join (xs.map (·.data.toList)) [32]).length<=140737488355328
  omega
theorem Vd {B n₀ k:Nat}{w1:World}{v:Value}{xs:List Value}(hv:Boxed w1 B 24 v)(hr:w1.ownsRow n₀ 9 1 v k xs)(a b:ByteArray)(hk:k+2<=100)(hn:n₀<=w1.heap.size):
  ∃g' cap' w2,(Builtin.append_ #[24,24] 24 #[v,.slice (some ⟨w1.heap.size,0,none⟩) 2 2]).run prog (w1.alloc (.cells #[.string a,.string b] 9))=.ok (.slice (some ⟨g',0,none⟩) (k+2) cap') w2∧
   w2.ownsRow n₀ 9 1 (.slice (some ⟨g',0,none⟩) (k+2) cap') (k+2) (xs++[.string a,.string b])∧Boxed w2 B 24 v∧Below n₀ w1 w2:=by
 obtain⟨i0,hi0,hz0,hz1,hz2⟩:=info_parts zq
 have hml:k+2<=maxLen:=Nat.le_trans hk (by decide)
 obtain⟨v',w2,hrun,hown,hgrow,hn2⟩:=run_append_own (P:=prog) (w:=w1.alloc (.cells #[.string a,.string b] 9)) n₀ 24 24 9 i0 _ 1 16 underlying24 hi0 hz0 hz1 hz2 rfl (by decide) v k xs (hr.alloc _) ⟨w1.heap.size,0,none⟩ 2 2 [.string a,.string b] rfl (cell_two_new _ _ _ _) (by simp[Value.oneCell']) hml (by omega) (by simp only[World.size_alloc];omega)
 obtain⟨g',cap',rfl⟩:=ownsRow_succ hown
 refine⟨g',cap',w2,hrun,hown,(hv.alloc (.cells #[.string a,.string b] 9)).kept hgrow ((hv.alloc (.cells #[.string a,.string b] 9)).not_row (by decide) (hr.alloc (.cells #[.string a,.string b] 9))),?_⟩
 refine(((Below.refl n₀ w1).alloc hn _).grown hgrow (by simp only[World.size_alloc];omega) fun j ej=> ?_)
 exact((hr.alloc (.cells #[.string a,.string b] 9)).lt j ej).1
theorem OL (A:Option Addr)(us:List Pl.Unit)(cap:Nat)(c:Int)(w:World)(hE:Env w)(Ns:Units w w.heap.size A us)(hne:us≠ [])(hlen:us.length<=40)(hpos: ∀u∈us,1<=u.1∧u.1<=1000000000000)
  (hsz: ∀u∈us,u.2.1.size<=100∧u.2.2.size<=100) (h0:0<=c) (h1:c<=1000000000000):
  Calls prog 320 #[.int .i64 c,.slice A us.length cap] w fun e w'=>e=.returned (.string (Pl.named c us))∧Below w.heap.size w w':=by
 refine(callsIn_wide (n:=3)).1 ?_
 refine callsIn_of_wp_marks func320 rfl trivial ?_ rfl
 simp only[ntmps320,List.size_toArray,List.length_cons,List.length_nil,Nat.reduceAdd,Nat.reduceSub,Array.replicate_succ,Array.replicate_zero,List.push_toArray,List.append_toArray,List.nil_append,List.cons_append]
 gi_wp2_with (refine⟨trivial,?_⟩;gi_at_call 352;refine(callsIn_wide.2 (OJ _ _ _ _ _)).mono ?_;rintro e w' ⟨rfl,rfl⟩)
 obtain⟨W0,hW0⟩: ∃W0,((w.alloc (.cells #[.slice none 0 0] 24)).alloc (.cells #[.int .i64 c] 3)).alloc (.cells #[.slice A us.length cap] 280)=W0:=⟨_,rfl⟩
 have hs0:W0.heap.size=w.heap.size+3:=by rw[<-hW0];simp
 have hN0: ∀W,Below W0.heap.size W0 W->w.heap.size+5<=W.heap.size->sF w A us cap (c,[]) W:=by
  intro W hb hs
  have e0:=hb.block w.heap.size (by omega)
  have e1:=hb.block (w.heap.size+1) (by omega)
  have e2:=hb.block (w.heap.size+2) (by omega)
  have hbw:Below w.heap.size w W:=by
   refine Below.trans ?_ (hb.mono (show w.heap.size<=W0.heap.size by omega))
   rw[<-hW0]
   exact((((Below.refl _ w).alloc (Nat.le_refl _) _).alloc (by simp) _).alloc (by simp;omega) _)
  refine⟨h0,h1,hbw,hs,⟨_,e0.trans ?_,World.ownsRow_nil _ _ _ _,by simp⟩,e1.trans ?_,e2.trans ?_⟩
  ·rw[<-hW0];exact((Boxed.new w _ _).alloc _).alloc _
  ·rw[<-hW0];have:=(Boxed.new (w.alloc (.cells #[.slice none 0 0] 24)) 3 (.int .i64 c)).alloc (.cells #[.slice A us.length cap] 280);rw[World.size_alloc]at this;exact this
  ·rw[<-hW0];have:=(Boxed.new ((w.alloc (.cells #[.slice none 0 0] 24)).alloc (.cells #[.int .i64 c] 3)) 280 (.slice A us.length cap));rw[World.size_alloc,World.size_alloc]at this;exact this
 rw[hW0]
 refine lY (F:=Fence.wide) (encs:=Bq) rfl (by omega) (gf:=368) (lb:= #[.pointer (some ⟨w.heap.size+2,0,none⟩),.pointer (some ⟨w.heap.size+1,0,none⟩)]) (by simp[go_sem]) trivial (enters_of func368 (by kernel_rfl) rfl) (fun _=>rfl)
  Dq (c,[]) (Pl.oG c us,Pl.aN c us) SY (sF w A us cap) (X8 w c A us cap) ?put ?FX ?start ?seq ?assign ?body ?done
 case put=>
  intro s W r r' hl h
  exact h.putObj _ hl rfl (by omega)
 case FX=>
  rintro x a' W r r' hl ⟨Bx,hB,hb,rfl⟩
  exact⟨Bx,hB,(World.putObj_heap_other (by omega)).trans hb,rfl⟩
 case start=>
  intro r
  refine hN0 _ (((Below.refl _ W0).alloc (Nat.le_refl _) _).alloc (by simp) _) (by simp;omega)
 case seq=>
  rintro rec W1 hY hI hl hk
  rw[hs0]at hY hl hk ⊢
  refine(Jk _ w A us cap c rec Ns hlen hpos ?_ W1 ⟨hI,hl,hk⟩).mono ?_
  ·rintro s x W hp ⟨hi,hl,hk⟩
   exact hY s x W hp hi hl hk
  ·rintro e W' ⟨hv,hi,hl,hk⟩
   exact⟨hv,hi,hl,hk⟩
 case assign=>
  rintro s x W K r hp hi hl hk hK
  rw[hs0]at hl hk hK ⊢
  gi_wp2
  exact hK _ _ (hi.grow ((Below.refl _ W).alloc (Nat.le_refl _) _)) ⟨W.heap.size,hi.sz,World.alloc_heap_new W _,rfl⟩ ((Below.heap_alloc _ _ _ (lO hl)).trans hl) ((Below.heap_alloc _ _ _ (lO hk)).trans hk)
 case body=>
  rintro s x a' W r hp hi ⟨Bx,hB,hb,rfl⟩ hl hk
  rw[hs0]at hl hk ⊢
  obtain⟨v,hv,hr,hn⟩:=hi.own
  have hc:=hv.cell
  have hf:=hv.frozen
  have b1:W.cell? ⟨Bx,1,none⟩=some (.string x.2.2.1):=by simp[World.cell?,hb]
  have b2:W.cell? ⟨Bx,2,none⟩=some (.string x.2.2.2):=by simp[World.cell?,hb]
  obtain⟨wd,hwd⟩: ∃wd,Pl.word x.1 x.2=wd:=⟨_,rfl⟩
  by_cases hx:x.1=1
  all_goals gi_wp2
  rw[show x.2.2.1=wd by rw[<-hwd];simp[Pl.word,hx]];have HX:=Lib.hid hx;clear hx
  rotate_left
  rw[show x.2.2.2=wd by rw[<-hwd];simp[Pl.word,hx]];have HX:=Lib.hid hx;clear hx
  all_goals (
   have hx0:=hp.2.1
   have hx1:=hp.2.2
   have S9:=hp.1
   have hmx:prog.follows .mixedOrders=true:=by kernel_rfl
   have X9:=hi.sz
   have hbd:Below W.heap.size W W.drew:=(Below.refl _ _).drew
   have X_:Env W.drew:=(hE.up hi.below).up hbd
   have hvd:Boxed W.drew w.heap.size 24 v:=hv
   have hrd:W.drew.ownsRow (w.heap.size+5) 9 1 v s.2.length (s.2.map Value.string):=hr
   have hcd:=hvd.cell
   have Ya:=hvd.frozen
   have hn₀:w.heap.size+5<=W.drew.heap.size:=X9
   gi_region_with_o (refine⟨trivial,?_⟩;gi_at_call 120;refine(CallsIn.inRound _ (callsIn_wide.2 (Lg _ _ X_ (by omega) (by omega)))).mono ?_;rintro e w1 ⟨B,rfl,HB,hb1⟩;have hg1:=jm hb1;have hv1:=hvd.kept hg1 (by simp);have hr1:=hrd.kept hg1 (by cases v.ownBlock<;>simp);have hc1:=hv1.cell;have hf1:=hv1.frozen;have hz1':=hb1.size;obtain⟨g',cap',w2,hrun,hown2,hv2,hb2⟩:=Vd hv1 hr1 B wd S9 (by omega);have hv3:=hv1.alloc (.cells #[.string B,.string wd] 9);have hc3:=hv3.cell;have hf3:=hv3.frozen;have hc2:=hv2.cell;have hf2:=hv2.frozen))
  all_goals gi_wp2
  all_goals exact Lh hi hb1 (by first|exact HB|(rw[HX.out];exact HB)) hwd hown2 hv2 hb2 hl hk
 case done=>
  rintro W hi hk
  rw[hs0]at hk
  obtain⟨v,hv,hr,hn⟩:=hi.own
  have hc:=hv.cell
  have hf:=hv.frozen
  by_cases hnil:Pl.aN c us=[]
  ·have hv0:v=.slice none 0 0:=hn.2 hnil
   subst hv0
   obtain⟨m,hm⟩: ∃m,us.length=m+1:=⟨us.length-1,by have:=List.length_pos_iff.2 hne;omega⟩
   obtain⟨b,off,rfl,mQ,q0,q1,q2⟩:=Units.at3 (Ns.below hi.below) (show m<us.length by omega)
   have hg:us.getLast?=some us[m]:=by rw[List.getLast?_eq_getElem?,List.getElem?_eq_getElem (by omega)];simp[hm]
   have hq:Pl.named c us=⟨#[48,32]⟩++us[m].2.2:=by simp[Pl.named,hnil,hg]
   have HQ:=Lib.hid hq;clear hq
   have hM:=Lib.hid hm
   have hm1:((us.length:Int)-1)=(m:Int):=by omega
   clear hg
   have hs3:=(hsz us[m] (List.getElem_mem _)).2
   gi_wp2
   refine⟨by simp,.inl ⟨_,_,rfl,run_takeDeferred hk,?_⟩⟩
   refine⟨_,results_tmp rfl _ _ _,by rw[HQ.out];rfl,?_⟩
   exact hi.below.trans (belowK_b (w:=w) (Nat.le_refl _) W (w.heap.size+3) _ _ (by omega) hk rfl rfl)
  ·obtain⟨m,hm⟩: ∃m,(Pl.aN c us).length=m+1:=⟨(Pl.aN c us).length-1,by have:=List.length_pos_iff.2 hnil;omega⟩
   simp only[hm]at hr
   obtain⟨g,cap2,rfl⟩:=ownsRow_succ hr
   have HM:=Lib.hid hm
   have hlen3:(Pl.aN c us).length<=100:=by have:=Pl.qM c us;omega
   have Ve:=Pl.AQ h0 h1 (fun u hu=>(hpos u hu).1) hsz
   gi_wp2_with (refine⟨trivial,?_⟩;gi_at_call 119;refine(callsIn_wide.2 (Li HM.out hr Ve hlen3)).mono ?_;rintro e w2 ⟨rfl,hb2⟩)
   have hk2:=(hb2.block (w.heap.size+3) (by have:=hi.sz;omega)).trans hk
   refine⟨by simp,.inl ⟨_,_,rfl,run_takeDeferred hk2,?_⟩⟩
   refine⟨_,results_tmp rfl _ _ _,by simp[Pl.named,hnil],?_⟩
   exact(hi.below.trans (hb2.mono (by have:=hi.sz;omega))).trans (belowK_b (w:=w) (Nat.le_refl _) w2 (w.heap.size+3) _ _ (by omega) hk2 rfl rfl)
