/- Proved: parts of the walk. -/
import Derived.RangeFuncBound
import Derived.RangeFuncNested
import Derived.Test.YtgbpekeoegfjpaaGreatDoorVZ02
namespace Go.Proofs
open Tryz RowKit
theorem l5 {F:Fence} {n:Nat} {P:Program} {α σ:Type} {g:Operand} {ps:Array Tmp} {assign body:Code} {Q:Exit->Act->World->Prop} {a:Act} {w:World}
    (hro:F.round=none) (h1:1<=n) {gf:Nat} {lb:Array Value} (hg:a.eval g=.func (.func gf) #[] lb) (hFg:F.fn gf) (eg: ∀args w,(callFunc gf args).run P w=.ok (.enter gf args) w)
    {encs:α->Array Value} (hps: ∀x,(encs x).size=ps.size) (next:σ->α->Option σ) (s0:σ) (Dn:σ->Prop) (St:σ->α->Prop) (Pre:σ->α->Prop) (I:σ->World->Prop) (Ix:σ->α->World->Prop) (Ax:α->Act->World->Prop)
    (xq: ∀s W r r',W.heap[w.heap.size+1]?=some (.loop r)->I s W->I s (W.putObj (w.heap.size+1) (.loop r')))
    (Qd: ∀s x W r r',W.heap[w.heap.size+1]?=some (.loop r)->Ix s x W->Ix s x (W.putObj (w.heap.size+1) (.loop r')))
    (Lf: ∀x a' W r r',W.heap[w.heap.size+1]?=some (.loop r)->Ax x a' W->Ax x a' (W.putObj (w.heap.size+1) (.loop r')))
    (h0: ∀r,I s0 ((w.alloc (.deferred (some []))).alloc (.loop r)))
    (hseq : ∀(rec rec':Loop) (W1:World),
      (∀s x W,Pre s x->I s W->W.heap[w.heap.size+1]?=some (.loop rec)->W.heap[w.heap.size]?=some (.deferred (some []))->
        YieldAt F (n-1-1) P (w.heap.size+1) (encs x) W fun e W'=>
          (∃s',next s x=some s'∧e=.returned (.bool true)∧I s' W'∧W'.heap[w.heap.size+1]?=some (.loop rec)∧W'.heap[w.heap.size]?=some (.deferred (some [])))∨
          (next s x=none∧e=.returned (.bool false)∧Ix s x W'∧W'.heap[w.heap.size+1]?=some (.loop rec')∧W'.heap[w.heap.size]?=some (.deferred (some []))))->
      I s0 W1->W1.heap[w.heap.size+1]?=some (.loop rec)->W1.heap[w.heap.size]?=some (.deferred (some []))->
      CallsIn F (n-1) P gf (#[.func (.yield (w.heap.size+1)) #[] #[]]++lb) W1 fun e W'=>(∃v,e=.returned v)∧
        ((∃s1,Dn s1∧I s1 W'∧W'.heap[w.heap.size+1]?=some (.loop rec)∧W'.heap[w.heap.size]?=some (.deferred (some [])))∨
         (∃s x,St s x∧Ix s x W'∧W'.heap[w.heap.size+1]?=some (.loop rec')∧W'.heap[w.heap.size]?=some (.deferred (some [])))))
    (hassign: ∀s x W (K:Act->World->Prop) r,Pre s x->I s W->W.heap[w.heap.size+1]?=some (.loop r)->W.heap[w.heap.size]?=some (.deferred (some []))->
      (∀a' W',I s W'->Ax x a' W'->W'.heap[w.heap.size+1]?=some (.loop r)->W'.heap[w.heap.size]?=some (.deferred (some []))->K a' W')->
      assign.wpIn (F.inRound (w.heap.size+1)) (n-1-1) P (Exit.then K (fun _ _ _=>False)) {tmps:=(ps.zip (encs x)).foldl (fun t (p,v)=>t.setIfInBounds p v) a.tmps,defers:=[]} W)
    (hbody: ∀s x a' W r,Pre s x->I s W->Ax x a' W->W.heap[w.heap.size+1]?=some (.loop r)->W.heap[w.heap.size]?=some (.deferred (some []))->
      body.wpIn (F.inRound (w.heap.size+1)) (n-1-1) P (fun e _ W'=>W'.heap[w.heap.size+1]?=some (.loop r)∧W'.heap[w.heap.size]?=some (.deferred (some []))∧
        ((e=.normal∧ ∃s',next s x=some s'∧I s' W')∨(e=.ret∧next s x=none∧Ix s x W'))) a' W)
    (hdone: ∀s1 W,Dn s1->I s1 W->W.heap[w.heap.size]?=some (.deferred (some []))->Q .normal {a with defers:= {target:=.collected w.heap.size,args:= #[]}::a.defers} W)
    (hstop: ∀s x W,St s x->Ix s x W->W.heap[w.heap.size]?=some (.deferred (some []))->Code.ret.wpIn F n P Q {a with defers:= {target:=.collected w.heap.size,args:= #[]}::a.defers} W):
    (Code.rangeFunc g ps assign body).wpIn F n P Q a w:=by
  refine wpIn_rangeFunc ?_
  intro fn hfn
  rw[hro]
  obtain⟨rec,hrec⟩: ∃rec:LoopState->Option Code->Loop,rec=fun st pe=> {state:=st,pending:=pe,fn,tmps:=a.tmps,params:=ps,assign,body,defers:=w.heap.size}:=⟨_,rfl⟩
  obtain⟨W1,hW1⟩: ∃W1,(w.alloc (.deferred (some []))).alloc (.loop (rec .ready none))=W1:=⟨_,rfl⟩
  have hL1:W1.heap[w.heap.size+1]?=some (.loop (rec .ready none)):=by
    rw[<-hW1];have:=World.alloc_heap_new (w.alloc (.deferred (some []))) (.loop (rec .ready none));rwa[World.size_alloc]at this
  have hK1:W1.heap[w.heap.size]?=some (.deferred (some [])):=by
    rw[<-hW1];exact(Below.heap_alloc _ _ _ (by simp)).trans (World.alloc_heap_new w _)
  have hI1:I s0 W1:=by rw[<-hW1];exact h0 _
  refine⟨w.heap.size+1,[{target:=.collected w.heap.size,args:= #[]}],W1,{target:=.fn (.func gf) lb,args:= #[.func (.yield (w.heap.size+1)) #[] #[]]},W1,gf,
    #[.func (.yield (w.heap.size+1)) #[] #[]]++lb,W1,?_,?_,?_,?_,fun _=>h1,?_⟩
  ·rw[<-hW1,hrec];exact run_enterLoop_outer _ _ _ _ _
  · simp only[resolve,hg]
    simp[go_sem]
  ·intro f' hf';simp[Target.leads]at hf';subst hf';exact hFg
  ·simp[invoke,go_sem,eg]
  · refine(hseq (rec .ready none) (rec .done (some .ret)) W1 ?_ hI1 hL1 hK1).mono ?_
    · rintro s x W hpre hi hl hk
      have hlt:w.heap.size+1<W.heap.size:=(lO hl)
      have hy:=run_yield (P:=P) (args:=encs x) hl (by rw[hrec];exact hps x)
      rw[hrec]at hy
      refine⟨fn,_,assign,body,hy,roundIn_of_wpIn hfn (hassign s x W _ (rec .ready none) hpre hi hl hk ?_)⟩
      clear hy
      intro a' Wa hia hax hla hka
      have QM:w.heap.size+1<Wa.heap.size:=(lO hla)
      refine⟨_,run_beginRound hla (by rw[hrec]),?_⟩
      have hl2:(Wa.putObj (w.heap.size+1) (.loop {rec .ready none with state:=.busy})).heap[w.heap.size+1]?=some (.loop {rec .ready none with state:=.busy}):=World.putObj_heap_same QM
      have hk2:(Wa.putObj (w.heap.size+1) (.loop {rec .ready none with state:=.busy})).heap[w.heap.size]?=some (.deferred (some [])):=(World.putObj_heap_other (by omega)).trans hka
      refine wpIn_mono (hbody s x a' _ _ hpre (xq _ _ _ _ hla hia) (Lf _ _ _ _ _ hla hax) hl2 hk2) ?_
      rintro e a3 W3 hp
      obtain⟨hl3,hk3,hp⟩:=hp
      have hlt3:=(lO hl3)
      rcases hp with ⟨rfl,s',hn,hi3⟩|⟨rfl,hn,hx3⟩
      · have hr:=run_endRound (P:=P) none hl3
        rw[hrec]at hr
        refine⟨_,_,hr,.inl ⟨s',hn,rfl,xq _ _ _ _ hl3 hi3,?_,(World.putObj_heap_other (by omega)).trans hk3⟩⟩
        rw[World.putObj_heap_same hlt3,hrec]
        rfl
      · have hr:=run_endRound (P:=P) (some .ret) hl3
        rw[hrec]at hr
        refine⟨_,_,hr,.inr ⟨hn,rfl,Qd _ _ _ _ _ hl3 hx3,?_,(World.putObj_heap_other (by omega)).trans hk3⟩⟩
        rw[World.putObj_heap_same hlt3,hrec]
        rfl
    · rintro e W2 ⟨⟨v,rfl⟩,⟨s1,hd,hi,hl,hk⟩|⟨s,x,hs,hx,hl,hk⟩⟩
      ·exact⟨none,_,by have:=run_endLoop (P:=P) hl (by rw[hrec];simp);rw[hrec]at this;exact this,hdone _ _ hd (xq _ _ _ _ hl hi) ((World.putObj_heap_other (by omega)).trans hk)⟩
      ·exact⟨some .ret,_,by have:=run_endLoop (P:=P) hl (by rw[hrec];simp);rw[hrec]at this;exact this,hstop _ _ _ hs (Qd _ _ _ _ _ hl hx) ((World.putObj_heap_other (by omega)).trans hk)⟩
