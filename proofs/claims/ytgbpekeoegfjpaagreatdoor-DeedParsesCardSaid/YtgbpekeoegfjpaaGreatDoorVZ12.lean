/- Proved: parts of the walk. -/
import Derived.Test.YtgbpekeoegfjpaaGreatDoorVZ10
set_option maxRecDepth 100000
set_option maxHeartbeats 4000000
namespace Go.Proofs
open Tryz RowKit
theorem QK {w:World}{g j:Nat}{t:TypeId}{cs:Array Value}{n:Int}(hg:w.heap[g]?=some (.cells cs t (0,0)))(hj:j<cs.size):(storeVar 3 ⟨g,j,none⟩ (.int .i64 n)).run prog w=.ok () (w.setCell ⟨g,j,none⟩ (.int .i64 n)):=by
 obtain⟨hc,hf⟩:=ah hg
 have h1:=hc j
 rw[Array.getElem?_eq_getElem hj]at h1
 have h2:=hf j
 simp[go_sem,h1,h2]
attribute [-go_sem] run_equalIn_agg storeVar loadVar
attribute [local go_sem] bZ bH dU aT eB
theorem zo (f:Pl.aL)(l fr t:ByteArray)(x:Pl.bF)(year:Int):Pl.looked f ⟨3,l,⟨#[]⟩,fr,t,0,0,x⟩ year=(Pl.eX f l).bind fun(i0:Nat)=>(Pl.dW f fr).bind fun(i1:Nat)=>(Pl.dW f t).bind fun(i2:Nat)=>some (⟨3,((i0:Nat):Int),0,((i1:Nat):Int),((i2:Nat):Int),0,0,{x with y:=year}⟩:Pl.aZ):=by
 unfold Pl.looked
 cases Pl.eX f l<;>cases Pl.dW f fr<;>cases Pl.dW f t<;>rfl
theorem Dk (A1 A2 A3 A4:Option Addr)(c1 c2 c3 c4:Nat)(f:Pl.aL)(n₀ N:Nat)(l fr t:ByteArray)(x:Pl.bF)(bx b0 b1 b2:Nat)(year:Int)(w:World)(hf:bB w n₀ A1 A2 A3 A4 f)(hn:n₀<=w.heap.size)(hm:Small f)(hbx:n₀<=bx)(hbN:bx<N)
  (kx:w.heap[bx]?=some (.cells (cq x) 46 (0,0))) (k0:w.heap[b0]?=some (.cells #[.string l] 9 (0,0))) (k1:w.heap[b1]?=some (.cells #[.string fr] 9 (0,0))) (k2:w.heap[b2]?=some (.cells #[.string t] 9 (0,0))):
  Calls prog 235 #[.agg (fq A1 A2 A3 A4 c1 c2 c3 c4 f),.int .i64 year,.pointer (some ⟨bx,0,none⟩),.pointer (some ⟨b0,0,none⟩),.pointer (some ⟨b1,0,none⟩),.pointer (some ⟨b2,0,none⟩)] w (jf n₀ N w (Pl.looked f ⟨3,l,⟨#[]⟩,fr,t,0,0,x⟩ year)):=by
 have hlx:=(lO kx)
 have zl:=(lO k0)
 have hne0:b0≠bx:=by rintro rfl;rw[kx]at k0;simp at k0
 have zm:=(lO k1)
 have hne1:b1≠bx:=by rintro rfl;rw[kx]at k1;simp at k1
 have zn:=(lO k2)
 have hne2:b2≠bx:=by rintro rfl;rw[kx]at k2;simp at k2
 have HL:=Lib.hid (zo f l fr t x year)
 have hsx:=QK (n:=year) (j:=3) ((((Below.refl w.heap.size w).alloc (Nat.le_refl _) (.cells (fq A1 A2 A3 A4 c1 c2 c3 c4 f) 28)).alloc (by simp) (.cells bP 48)).block bx hlx|>.trans kx) (by simp)
 have hgw:=cB w bx 3 (.int .i64 year)
 have hz1:(w.setCell ⟨bx,3,none⟩ (.int .i64 year)).heap.size=w.heap.size:=by simp
 have kx:=heap_setCell_same w bx 3 _ _ (.int .i64 year) kx
 have k0:=(hgw.block b0 zl (by simp;exact hne0)).trans k0
 have k1:=(hgw.block b1 zm (by simp;exact hne1)).trans k1
 have k2:=(hgw.block b2 zn (by simp;exact hne2)).trans k2
 have kf:=heap_alloc2_old (w.setCell ⟨bx,3,none⟩ (.int .i64 year)) (.cells (fq A1 A2 A3 A4 c1 c2 c3 c4 f) 28) (.cells bP 48)
 have kr:=heap_alloc2_new (w.setCell ⟨bx,3,none⟩ (.int .i64 year)) (.cells (fq A1 A2 A3 A4 c1 c2 c3 c4 f) 28) (.cells bP 48)
 have hb0:Below (w.setCell ⟨bx,3,none⟩ (.int .i64 year)).heap.size (w.setCell ⟨bx,3,none⟩ (.int .i64 year)) (((w.setCell ⟨bx,3,none⟩ (.int .i64 year)).alloc (.cells (fq A1 A2 A3 A4 c1 c2 c3 c4 f) 28)).alloc (.cells bP 48)):=((Below.refl _ _).alloc (Nat.le_refl _) _).alloc (by simp) _
 rw[hz1]at kf kr hb0
 have kx:=(hb0.block bx hlx).trans kx
 have k0:=(hb0.block b0 zl).trans k0
 have k1:=(hb0.block b1 zm).trans k1
 have k2:=(hb0.block b2 zn).trans k2
 have hb:aU n₀ (fun i=>i<N) w (((w.setCell ⟨bx,3,none⟩ (.int .i64 year)).alloc (.cells (fq A1 A2 A3 A4 c1 c2 c3 c4 f) 28)).alloc (.cells bP 48)):=aU.trans ⟨(Below.refl n₀ w).grown hgw hn (fun k e=>by cases e;exact hbx),fun i hi hx=>hgw.block i hi (by simp;omega)⟩ (aU.of_below (by rw[hz1];exact hb0) (by rw[hz1];exact hn))
 have hsz2:w.heap.size<=(((w.setCell ⟨bx,3,none⟩ (.int .i64 year)).alloc (.cells (fq A1 A2 A3 A4 c1 c2 c3 c4 f) 28)).alloc (.cells bP 48)).heap.size:=by have:=hb0.size;omega
 clear hgw hb0 hz1
 go_enter func235,ntmps235
 go_wp2
 generalize ((w.setCell ⟨bx,3,none⟩ (.int .i64 year)).alloc (.cells (fq A1 A2 A3 A4 c1 c2 c3 c4 f) 28)).alloc (.cells bP 48)=W0 at*
 have hlt:=(lO kr)
 refine wp_region_held_drew (S:=fun W=>(loadVar 28 ⟨w.heap.size,0,none⟩).run prog W=.ok (.agg (fq A1 A2 A3 A4 c1 c2 c3 c4 f)) W∧(loadVar 46 ⟨bx,0,none⟩).run prog W=.ok (.agg (i6 x.b x.n x.l year x.x x.s)) W∧W.cell? ⟨b0,0,none⟩=some (.string l)∧W.cell? ⟨b1,0,none⟩=some (.string fr)∧W.cell? ⟨b2,0,none⟩=some (.string t)) (by kernel_rfl) ⟨ak kf underlying28 rfl av,ak kx underlying46 rfl (by kernel_rfl),(ah k0).1 0,(ah k1).1 0,(ah k2).1 0⟩ (fun hHeld=> ?_)
 have hb:aU n₀ (fun i=>i<N) w W0.drew:=hb.trans (aU.of_below ((Below.refl _ _).drew) (by omega))
 have kf:W0.drew.heap[w.heap.size]?=_:=kf
 have kr:W0.drew.heap[w.heap.size+1]?=_:=kr
 have kx:W0.drew.heap[bx]?=_:=kx
 have k0:W0.drew.heap[b0]?=_:=k0
 have k1:W0.drew.heap[b1]?=_:=k1
 have k2:W0.drew.heap[b2]?=_:=k2
 have hsz2:w.heap.size<=W0.drew.heap.size:=hsz2
 generalize W0.drew=W0 at*
 refine tJ 0 11 rfl rfl ?_
 try simp only[au]
 refine tJ 1 12 rfl rfl ?_
 try simp only[au]
 refine tJ 3 14 rfl rfl ?_
 try simp only[au]
 refine tJ 4 15 rfl rfl ?_
 try simp only[au]
 refine tJ 6 17 rfl rfl ?_
 try simp only[au]
 refine tJ 7 18 rfl rfl ?_
 try simp only[au]
 refine tJ 9 20 rfl rfl ?_
 try simp only[au]
 refine wpAnyH_ready (rs:=[2]) (by kernel_rfl) (by simp) ?_
 refine aI (some 13) rfl rfl (fun K hK=> ?_) AllReadyH.nil
 go_simp
 refine(iX A1 A2 A3 A4 c1 c2 c3 c4 f l _ ((hf.below hb.b).more (by omega)).li hm.li).mono ?_
 rintro e w1 ⟨he,hx⟩
 have hb:aU n₀ (fun i=>i<N) w w1:=hb.trans (aU.of_below hx (by omega))
 have hsz2:w.heap.size<=w1.heap.size:=by have:=hx.size;omega
 cases h0:Pl.eX f l with
 |none=>
  rw[h0]at he
  subst he
  exact⟨rfl,jf.no (by rw[HL.out,h0];rfl) hb rfl⟩
 |some i0=>
 rw[h0]at he
 subst he
 have H0:=Lib.hid h0
 clear h0
 have kf:=kE hx kf
 have kr:=kE hx kr
 have kx:=kE hx kx
 have k0:=kE hx k0
 have k1:=kE hx k1
 have k2:=kE hx k2
 clear hx
 refine hK.out _ _ ⟨ak kf underlying28 rfl av,ak kx underlying46 rfl (by kernel_rfl),(ah k0).1 0,(ah k1).1 0,(ah k2).1 0⟩ (fun hHeld=> ?_)
 clear hK K
 try simp only[au]
 refine wpAnyH_ready (rs:=[5]) (by kernel_rfl) (by simp) ?_
 refine aI (some 16) rfl rfl (fun K hK=> ?_) AllReadyH.nil
 go_simp
 refine(eF A1 A2 A3 A4 c1 c2 c3 c4 f fr _ ((hf.below hb.b).more (by omega)).st hm.st).mono ?_
 rintro e w2 ⟨he,hx⟩
 have hb:aU n₀ (fun i=>i<N) w w2:=hb.trans (aU.of_below hx (by omega))
 have hsz2:w.heap.size<=w2.heap.size:=by have:=hx.size;omega
 cases h1:Pl.dW f fr with
 |none=>
  rw[h1]at he
  subst he
  exact⟨rfl,jf.no (by rw[HL.out,H0.out,h1];rfl) hb rfl⟩
 |some i1=>
 rw[h1]at he
 subst he
 have H1:=Lib.hid h1
 clear h1
 have kf:=kE hx kf
 have kr:=kE hx kr
 have kx:=kE hx kx
 have k0:=kE hx k0
 have k1:=kE hx k1
 have k2:=kE hx k2
 clear hx
 refine hK.out _ _ ⟨ak kf underlying28 rfl av,ak kx underlying46 rfl (by kernel_rfl),(ah k0).1 0,(ah k1).1 0,(ah k2).1 0⟩ (fun hHeld=> ?_)
 clear hK K
 try simp only[au]
 refine wpAnyH_ready (rs:=[8]) (by kernel_rfl) (by simp) ?_
 refine aI (some 19) rfl rfl (fun K hK=> ?_) AllReadyH.nil
 go_simp
 refine(eF A1 A2 A3 A4 c1 c2 c3 c4 f t _ ((hf.below hb.b).more (by omega)).st hm.st).mono ?_
 rintro e w3 ⟨he,hx⟩
 have hb:aU n₀ (fun i=>i<N) w w3:=hb.trans (aU.of_below hx (by omega))
 have hsz2:w.heap.size<=w3.heap.size:=by have:=hx.size;omega
 cases h2:Pl.dW f t with
 |none=>
  rw[h2]at he
  subst he
  exact⟨rfl,jf.no (by rw[HL.out,H0.out,H1.out,h2];rfl) hb rfl⟩
 |some i2=>
 rw[h2]at he
 subst he
 have H2:=Lib.hid h2
 clear h2
 have kf:=kE hx kf
 have kr:=kE hx kr
 have kx:=kE hx kx
 have k0:=kE hx k0
 have k1:=kE hx k1
 have k2:=kE hx k2
 clear hx
 refine hK.out _ _ ⟨ak kf underlying28 rfl av,ak kx underlying46 rfl (by kernel_rfl),(ah k0).1 0,(ah k1).1 0,(ah k2).1 0⟩ (fun hHeld=> ?_)
 clear hK K
 try simp only[au]
 refine tJ 10 21 rfl rfl ?_
 try simp only[au]
 obtain⟨W5,hst,FM,hg⟩:=aG _ (w.heap.size+1) _ 48 _ (bR 3 (i0:Int) 0 (i1:Int) (i2:Int) 0 0 x.b x.n x.l year x.x x.s) kr aj rfl (by simp[Value.oneCell'])
 have hld:=ak FM underlying48 rfl aj
 have hb5:aU n₀ (fun i=>i<N) w W5:=⟨hb.b.grown hg (by omega) (fun k e=>by cases e;omega),fun i hi hx=>(hg.block i (by omega) (by simp;omega)).trans (hb.k i hi hx)⟩
 have kf:=(hg.block _ (lO kf) (by simp)).trans kf
 have kx:=(hg.block _ (lO kx) (by simp;omega)).trans kx
 have k0:=(hg.block _ (lO k0) (by simp;omega)).trans k0
 have k1:=(hg.block _ (lO k1) (by simp;omega)).trans k1
 have k2:=(hg.block _ (lO k2) (by simp;omega)).trans k2
 refine wpAnyH_ready (rs:=[11]) (by kernel_rfl) (by simp) ?_
 refine aI none rfl rfl (fun K hK=> ?_) AllReadyH.nil
 go_simp
 refine hK.out _ _ ⟨ak kf underlying28 rfl av,ak kx underlying46 rfl (by kernel_rfl),(ah k0).1 0,(ah k1).1 0,(ah k2).1 0⟩ (fun hHeld=> ?_)
 clear hK K
 try simp only[au]
 refine wpAnyH_done (by kernel_rfl) ?_ _
 go_wp2
 refine bodyPost_ret (v:=.agg (bR 3 (i0:Int) 0 (i1:Int) (i2:Int) 0 0 x.b x.n x.l year x.x x.s)) (by simp[results,results235,go_sem,hld]) rfl ?_
 exact jf.ok ⟨3,i0,0,i1,i2,0,0,{x with y:=year}⟩ (by rw[HL.out,H0.out,H1.out,H2.out];rfl) hb5 rfl
end Go.Proofs
namespace Go.Proofs
open Tryz RowKit
attribute [-go_sem] Builtin.append_
theorem jM {ws r:List ByteArray}{a:ByteArray}(h:aP ws=some (a,r)):ws=a::r∧Pl.isName a=true:=by
 cases ws with
 |nil=>cases h
 |cons x l=>cases e:Pl.isName x with
  |false=>rw[Dj e]at h;cases h
  |true=>rw[mY e]at h;cases h;exact⟨rfl,e⟩
theorem Dl {ws r:List ByteArray}{v:Int}(h:gL ws=some (v,r)): ∃x,ws=x::r∧Pl.fK x=some v:=by
 cases ws with
 |nil=>cases h
 |cons x l=>cases e:Pl.fK x with
  |none=>rw[sw e]at h;cases h
  |some u=>rw[su e]at h;cases h;exact⟨x,rfl,e⟩
theorem wZ {ws r:List ByteArray}{v:Int}(h:bN ws=some (v,r)): ∃x,ws=x::r∧Pl.bV x=some v:=by
 cases ws with
 |nil=>cases h
 |cons x l=>cases e:Pl.bV x with
  |none=>simp[bN,e]at h
  |some u=>simp[bN,e]at h;obtain⟨rfl,rfl⟩:=h;exact⟨x,rfl,e⟩
def qA (ws:List ByteArray):Option (ByteArray×Int):=(aP ws).bind fun p=>(bN p.2).bind fun q=>if q.2=[]then some (p.1,q.1)else none
def OE (bf:Nat)(X:Nat->Prop)(w:World)(o:Option Pl.aL)(E:Int)(e:Ending)(w':World):Prop:=
 aU bf X w w'∧match o with
  |some f=>e=.returned (.tuple #[])∧ ∃v1 v2 v3 v4,fu bf f w' v1 v2 v3 v4∧New X w.heap.size v1 v2 v3 v4
  |none=>e=.panicked (gave E)
def qB (ws:List ByteArray):Option (Int×Int):=(bN ws).bind fun p=>(gL p.2).bind fun q=>if q.2=[]then some (p.1,q.1)else none
def sD (ws:List ByteArray):Option ByteArray:=(aP ws).bind fun p=>if p.2=[]then some p.1 else none
theorem OG (bf br:Nat)(f:Pl.aL)(ws:List ByteArray)(v1 v2 v3 v4:Value)(w:World)(hE:Env w)(hR:Rd w br ws)(hF:fu bf f w v1 v2 v3 v4)(h8:8<=bf)(hlt:bf<br)(hs:dK ws)(hk:f.st.length<=100000):
  Calls prog 202 #[.pointer (some ⟨bf,0,none⟩),.pointer (some ⟨br,0,none⟩)] w (OE bf (Ox bf br v1 v2 v3 v4) w ((qA ws).map fun x=> {f with st:=f.st++[x]}) 4):=by
 have hn:=fM br ws w hR hs
 have hbr:=hR.lt
 obtain⟨WE,c00,uf,_,_⟩:=id hR
 cases h1:aP ws with
 |none=>
  rw[h1]at hn
  have HO:Hid (qA ws=none):=Lib.hid (by simp[qA,h1])
  clear h1
  go_enter func202,ntmps202
  go_wp2_with (go_at_call 157;refine hn.mono ?_;rintro e w1 ⟨hg1,rfl⟩)
  exact⟨rfl,h_ uf hlt hg1,by rw[HO.out];rfl⟩
 | some p=>
  obtain⟨a,r⟩:=p
  obtain⟨rfl,ha⟩:=jM h1
  rw[h1]at hn
  obtain⟨_,_,hsr⟩:=hs.tail
  cases h2:bN r with
  | none=>
   have hn2: ∀W,Env W->Rd W br r->Calls prog 158 #[.pointer (some ⟨br,0,none⟩)] W (iR (fun v=> .int .i64 v) br W none):=fun W hE hR=>h2▸iL br r W hE hR (by omega) hsr
   have HO:Hid (qA (a::r)=none):=Lib.hid (by simp[qA,h1,h2])
   clear h1 h2
   go_enter func202,ntmps202
   go_wp2_with (first
    |(go_at_call 157;refine hn.mono ?_;rintro e w1 ⟨hg1,rfl,kP⟩;have hb1:=aO hbr hg1;have hsz1:=hb1.size)
    |(go_at_call 158;refine(hn2 _ (hE.below (B:=br) (by go_grown) (by omega)) (kP.below (by go_grown))).mono ?_;rintro e w2 ⟨hg2,rfl⟩))
   exact⟨rfl,h_ uf hlt ((hg1.trans ((World.grownBy_alloc w1 _ none).but _)).trans hg2),by rw[HO.out];rfl⟩
  | some q=>
   obtain⟨x,r'⟩:=q
   obtain⟨y,rfl,hy⟩:=wZ h2
   have hn2: ∀W,Env W->Rd W br (y::r')->Calls prog 158 #[.pointer (some ⟨br,0,none⟩)] W (iR (fun v=> .int .i64 v) br W (some (x,r'))):=fun W hE hR=>h2▸iL br (y::r') W hE hR (by omega) hsr
   cases r' with
   | cons z l=>
    have HO:Hid (qA (a::y::z::l)=none):=Lib.hid (by simp[qA,h1,h2])
    clear h1 h2 hy ha
    go_enter func202,ntmps202
    go_wp2_with (first
     |(go_at_call 157;refine hn.mono ?_;rintro e w1 ⟨hg1,rfl,kP⟩;have hb1:=aO hbr hg1;have hsz1:=hb1.size;have ks:=heap_alloc_new w1 (.cells #[.string a,.int .i64 0] 50))
     |(go_at_call 158;refine(hn2 _ (hE.below (B:=br) (by go_grown) (by omega)) (kP.below (by go_grown))).mono ?_;rintro e w2 ⟨hg2,rfl,hR2⟩;have hb2:=(hb1.alloc (by omega) (.cells #[.string a,.int .i64 0] 50)).trans (aO (by simp;omega) hg2);have hlt1:=kP.lt;have ks:=(hg2.block w1.heap.size (by simp) (by simp;omega)).trans ks;obtain⟨hcs,hfs⟩:=ah ks;have FJ:=hR2.kept (cB w2 w1.heap.size 1 (.int .i64 x)) hlt1)
     |(go_at_call 159;refine(t_ br z l _ FJ).mono ?_;rintro e w3 ⟨rfl,hx3⟩))
    exact⟨rfl,h_ uf hlt (bO (((hg1.trans ((World.grownBy_alloc w1 _ none).but _)).trans hg2).andThen (cB w2 w1.heap.size 1 _) (fun j e=>by cases e;exact .inl hsz1)) hx3),by rw[HO.out];rfl⟩
   | nil=>
    have HO:Hid (qA [a,y]=some (a,x)):=Lib.hid (by simp[qA,h1,h2])
    obtain⟨A0,c0,hrd,_,_⟩:=hR
    have hF1:=fun W (hg:w.grownBy W (some br))=>hF.kept hrd hg
    clear h1 h2 hy ha
    go_enter func202,ntmps202
    go_wp2_with (first
     |(go_at_call 157;refine hn.mono ?_;rintro e w1 ⟨hg1,rfl,kP⟩;have hb1:=aO hbr hg1;have hsz1:=hb1.size;have ks:=heap_alloc_new w1 (.cells #[.string a,.int .i64 0] 50))
     |(go_at_call 158;refine(hn2 _ (hE.below (B:=br) (by go_grown) (by omega)) (kP.below (by go_grown))).mono ?_;rintro e w2 ⟨hg2,rfl,hR2⟩;have hb2:=(hb1.alloc (by omega) (.cells #[.string a,.int .i64 0] 50)).trans (aO (by simp;omega) hg2);have hlt1:=kP.lt;have ks:=(hg2.block w1.heap.size (by simp) (by simp;omega)).trans ks;obtain⟨hcs,hfs⟩:=ah ks;have FJ:=hR2.kept (cB w2 w1.heap.size 1 (.int .i64 x)) hlt1)
     |(go_at_call 159;refine(ql br _ FJ).mono ?_;rintro e w3 ⟨rfl,rfl⟩))
    have hg3:w1.grownBy (w2.setCell ⟨w1.heap.size,1,none⟩ (.int .i64 x)) (some br):=(((World.grownBy_alloc w1 _ none).but _).trans hg2).andThen (cB w2 w1.heap.size 1 (.int .i64 x)) (fun j e=>by cases e;exact .inl (Nat.le_refl _))
    obtain⟨X6,c1',Ld,_,_⟩:=kP
    have CU:=(hF1 w1 hg1).kept Ld hg3
    have Va:=heap_setCell_same w2 w1.heap.size 1 _ _ (.int .i64 x) ks
    have SX:aU bf (Ox bf br v1 v2 v3 v4) w (w2.setCell ⟨w1.heap.size,1,none⟩ (.int .i64 x)).drew:=(h_ uf hlt (hg1.trans hg3)).trans (aU.of_below ((Below.refl _ _).drew) (by have:=hg3.size;omega))
    clear hcs hfs ks hR2 FJ hg2 hb2 hg3 hF1
    generalize w2.setCell ⟨w1.heap.size,1,none⟩ (.int .i64 x)=W at*
    obtain⟨g',cap',w4,hrun,hbx,Km,hb4,wJ,Dm⟩:=K_ (CU.below ((Below.refl _ W).drew)) (a,x) hk
    obtain⟨hcb,ru⟩:=ah CU.box
    obtain⟨hcs,hfs⟩:=ah Va
    obtain⟨hcx,hfx⟩:=ah hbx
    have hltW:=CU.lt
    have F4:=Lib.hid Km;have N4:=Lib.hid (Dm br)
    clear Km CU hF Dm
    have hrun:(Builtin.append_ #[23,23] 23 #[v1,.slice (some ⟨W.heap.size,0,none⟩) 1 1]).run prog (W.alloc (.cells #[.string a,.int .i64 x] 50)).drew=.ok (.slice (some ⟨g',0,none⟩) (f.st.length+1) cap') w4:=hrun
    have q0:=hcb 0
    have q1:=hcs 0
    have q2:=hcs 1
    have q3:(W.alloc (.cells #[.string a,.int .i64 x] 50)).cell? ⟨bf,0,none⟩=some v1:=(World.cell?_of_block (Below.heap_alloc _ _ _ hltW)).trans q0
    go_region_with (fail)
    all_goals go_end0
    all_goals exact⟨(SX.trans (hb4 br)),by rw[HO.out];exact⟨rfl,_,_,_,_,F4.out,N4.out _ SX.b.size⟩⟩
theorem OH (bf br:Nat)(f:Pl.aL)(ws:List ByteArray)(v1 v2 v3 v4:Value)(w:World)(hE:Env w)(hR:Rd w br ws)(hF:fu bf f w v1 v2 v3 v4)(h8:8<=bf)(hlt:bf<br)(hs:dK ws)(hk:f.va.length<=100000):
  Calls prog 207 #[.pointer (some ⟨bf,0,none⟩),.pointer (some ⟨br,0,none⟩)] w (OE bf (Ox bf br v1 v2 v3 v4) w ((qB ws).map fun x=> {f with va:=f.va++[x]}) 4):=by
 have hn:=iL br ws w hE hR (by omega) hs
 have hbr:=hR.lt
 obtain⟨WE,c00,uf,_,_⟩:=id hR
 cases h1:bN ws with
 |none=>
  rw[h1]at hn
  have HO:Hid (qB ws=none):=Lib.hid (by simp[qB,h1])
  clear h1
  go_enter func207,ntmps207
  go_wp2_with (go_at_call 158;refine hn.mono ?_;rintro e w1 ⟨hg1,rfl⟩)
  exact⟨rfl,h_ uf hlt hg1,by rw[HO.out];rfl⟩
 | some p=>
  obtain⟨a,r⟩:=p
  obtain⟨a',rfl,ha⟩:=wZ h1
  rw[h1]at hn
  obtain⟨_,_,hsr⟩:=hs.tail
  cases h2:gL r with
  | none=>
   have hn2: ∀W,Env W->Rd W br r->Calls prog 208 #[.pointer (some ⟨br,0,none⟩)] W (iR (fun v=> .int .i64 v) br W none):=fun W hE hR=>h2▸oO br r W hE hR (by omega) hsr
   have HO:Hid (qB (a'::r)=none):=Lib.hid (by simp[qB,h1,h2])
   clear h1 h2
   go_enter func207,ntmps207
   go_wp2_with (first
    |(go_at_call 158;refine hn.mono ?_;rintro e w1 ⟨hg1,rfl,kP⟩;have hb1:=aO hbr hg1;have hsz1:=hb1.size)
    |(go_at_call 208;refine(hn2 _ (hE.below (B:=br) (by go_grown) (by omega)) (kP.below (by go_grown))).mono ?_;rintro e w2 ⟨hg2,rfl⟩))
   exact⟨rfl,h_ uf hlt ((hg1.trans ((World.grownBy_alloc w1 _ none).but _)).trans hg2),by rw[HO.out];rfl⟩
  | some q=>
   obtain⟨x,r'⟩:=q
   obtain⟨y,rfl,hy⟩:=Dl h2
   have hn2: ∀W,Env W->Rd W br (y::r')->Calls prog 208 #[.pointer (some ⟨br,0,none⟩)] W (iR (fun v=> .int .i64 v) br W (some (x,r'))):=fun W hE hR=>h2▸oO br (y::r') W hE hR (by omega) hsr
   cases r' with
   | cons z l=>
    have HO:Hid (qB (a'::y::z::l)=none):=Lib.hid (by simp[qB,h1,h2])
    clear h1 h2 hy ha
    go_enter func207,ntmps207
    go_wp2_with (first
     |(go_at_call 158;refine hn.mono ?_;rintro e w1 ⟨hg1,rfl,kP⟩;have hb1:=aO hbr hg1;have hsz1:=hb1.size;have ks:=heap_alloc_new w1 (.cells (i2 a 0) 114))
     |(go_at_call 208;refine(hn2 _ (hE.below (B:=br) (by go_grown) (by omega)) (kP.below (by go_grown))).mono ?_;rintro e w2 ⟨hg2,rfl,hR2⟩;have hb2:=(hb1.alloc (by omega) (.cells (i2 a 0) 114)).trans (aO (by simp;omega) hg2);have hlt1:=kP.lt;have ks:=(hg2.block w1.heap.size (by simp) (by simp;omega)).trans ks;obtain⟨hcs,hfs⟩:=ah ks;have FJ:=hR2.kept (cB w2 w1.heap.size 1 (.int .i64 x)) hlt1)
     |(go_at_call 159;refine(t_ br z l _ FJ).mono ?_;rintro e w3 ⟨rfl,hx3⟩))
    exact⟨rfl,h_ uf hlt (bO (((hg1.trans ((World.grownBy_alloc w1 _ none).but _)).trans hg2).andThen (cB w2 w1.heap.size 1 _) (fun j e=>by cases e;exact .inl hsz1)) hx3),by rw[HO.out];rfl⟩
   | nil=>
    have HO:Hid (qB [a',y]=some (a,x)):=Lib.hid (by simp[qB,h1,h2])
    obtain⟨A0,c0,hrd,_,_⟩:=hR
    have hF1:=fun W (hg:w.grownBy W (some br))=>hF.kept hrd hg
    clear h1 h2 hy ha
    go_enter func207,ntmps207
    go_wp2_with (first
     |(go_at_call 158;refine hn.mono ?_;rintro e w1 ⟨hg1,rfl,kP⟩;have hb1:=aO hbr hg1;have hsz1:=hb1.size;have ks:=heap_alloc_new w1 (.cells (i2 a 0) 114))
     |(go_at_call 208;refine(hn2 _ (hE.below (B:=br) (by go_grown) (by omega)) (kP.below (by go_grown))).mono ?_;rintro e w2 ⟨hg2,rfl,hR2⟩;have hb2:=(hb1.alloc (by omega) (.cells (i2 a 0) 114)).trans (aO (by simp;omega) hg2);have hlt1:=kP.lt;have ks:=(hg2.block w1.heap.size (by simp) (by simp;omega)).trans ks;obtain⟨hcs,hfs⟩:=ah ks;have FJ:=hR2.kept (cB w2 w1.heap.size 1 (.int .i64 x)) hlt1)
     |(go_at_call 159;refine(ql br _ FJ).mono ?_;rintro e w3 ⟨rfl,rfl⟩))
    have hg3:w1.grownBy (w2.setCell ⟨w1.heap.size,1,none⟩ (.int .i64 x)) (some br):=(((World.grownBy_alloc w1 _ none).but _).trans hg2).andThen (cB w2 w1.heap.size 1 (.int .i64 x)) (fun j e=>by cases e;exact .inl (Nat.le_refl _))
    obtain⟨X6,c1',Ld,_,_⟩:=kP
    have CU:=(hF1 w1 hg1).kept Ld hg3
    have Va:=heap_setCell_same w2 w1.heap.size 1 _ _ (.int .i64 x) ks
    have SX:aU bf (Ox bf br v1 v2 v3 v4) w (w2.setCell ⟨w1.heap.size,1,none⟩ (.int .i64 x)).drew:=(h_ uf hlt (hg1.trans hg3)).trans (aU.of_below ((Below.refl _ _).drew) (by have:=hg3.size;omega))
    clear hcs hfs ks hR2 FJ hg2 hb2 hg3 hF1
    generalize w2.setCell ⟨w1.heap.size,1,none⟩ (.int .i64 x)=W at*
    obtain⟨g',cap',w4,hrun,hbx,Km,hb4,wJ,Dm⟩:=Lc (CU.below ((Below.refl _ W).drew)) (a,x) hk
    obtain⟨hcb,ru⟩:=ah CU.box
    obtain⟨hcs,hfs⟩:=ah Va
    obtain⟨hcx,hfx⟩:=ah hbx
    have hltW:=CU.lt
    have F4:=Lib.hid Km;have N4:=Lib.hid (Dm br)
    clear Km CU hF Dm
    have hrun:(Builtin.append_ #[26,26] 26 #[v4,.slice (some ⟨W.heap.size,0,none⟩) 1 1]).run prog (W.alloc (.cells (i2 a x) 114)).drew=.ok (.slice (some ⟨g',0,none⟩) (f.va.length+1) cap') w4:=hrun
    have q0:=hcb 3
    have q1:=hcs 0
    have q2:=hcs 1
    have q3:(W.alloc (.cells (i2 a x) 114)).cell? ⟨bf,3,none⟩=some v4:=(World.cell?_of_block (Below.heap_alloc _ _ _ hltW)).trans q0
    go_region_with (fail)
    all_goals go_end0
    all_goals exact⟨(SX.trans (hb4 br)),by rw[HO.out];exact⟨rfl,_,_,_,_,F4.out,N4.out _ SX.b.size⟩⟩
theorem OI (bf br:Nat)(f:Pl.aL)(ws:List ByteArray)(v1 v2 v3 v4:Value)(w:World)(hR:Rd w br ws)(hF:fu bf f w v1 v2 v3 v4)(hlt:bf<br)(hs:dK ws)(hk:f.li.length<=100000):
  Calls prog 203 #[.pointer (some ⟨bf,0,none⟩),.pointer (some ⟨br,0,none⟩)] w (OE bf (Ox bf br v1 v2 v3 v4) w ((sD ws).map fun x=> {f with li:=f.li++[x]}) 4):=by
 have hn:=fM br ws w hR hs
 have hbr:=hR.lt
 obtain⟨WE,c00,uf,_,_⟩:=id hR
 cases h1:aP ws with
 |none=>
  rw[h1]at hn
  have HO:Hid (sD ws=none):=Lib.hid (by simp[sD,h1])
  clear h1
  go_enter func203,ntmps203
  go_wp2_with (go_at_call 157;refine hn.mono ?_;rintro e w1 ⟨hg1,rfl⟩)
  exact⟨rfl,h_ uf hlt hg1,by rw[HO.out];rfl⟩
 | some p=>
  obtain⟨a,r⟩:=p
  obtain⟨rfl,ha⟩:=jM h1
  rw[h1]at hn
  cases r with
  | cons z l=>
   have HO:Hid (sD (a::z::l)=none):=Lib.hid (by simp[sD,h1])
   clear h1 ha
   go_enter func203,ntmps203
   go_wp2_with (first
    |(go_at_call 157;refine hn.mono ?_;rintro e w1 ⟨hg1,rfl,kP⟩;have hb1:=aO hbr hg1)
    |(go_at_call 159;refine(t_ br z l _ kP).mono ?_;rintro e w3 ⟨rfl,hx3⟩))
   exact⟨rfl,h_ uf hlt (bO hg1 hx3),by rw[HO.out];rfl⟩
  | nil=>
   have HO:Hid (sD [a]=some a):=Lib.hid (by simp[sD,h1])
   obtain⟨A0,c0,hrd,_,_⟩:=hR
   have hF1:=fun W (hg:w.grownBy W (some br))=>hF.kept hrd hg
   clear h1 ha
   go_enter func203,ntmps203
   go_wp2_with (first
    |(go_at_call 157;refine hn.mono ?_;rintro e w1 ⟨hg1,rfl,kP⟩;have hb1:=aO hbr hg1;have CU:=hF1 _ hg1;obtain⟨g',cap',w4,hrun,hbx,Km,hb4,wJ,Dm⟩:=La CU a hk;obtain⟨hcb,ru⟩:=ah CU.box;obtain⟨hcx,hfx⟩:=ah hbx;have F4:=Lib.hid Km;have N4:=Lib.hid (Dm br);clear Km CU Dm)
    |(go_at_call 159;refine(ql br _ kP).mono ?_;rintro e w3 ⟨rfl,rfl⟩))
   all_goals go_end0
   all_goals exact⟨(h_ uf hlt hg1).trans (hb4 br),by rw[HO.out];exact⟨rfl,_,_,_,_,F4.out,N4.out _ hg1.size⟩⟩
end Go.Proofs
namespace Go.Proofs
open Tryz RowKit
def oQ (n₀ N:Nat)(W:World)(v:Value)(x:Pl.kZ):Prop:=
 ∃ g cap,v=.func (.func g) #[] cap∧(∀args W,(callFunc g args).run prog W=.ok (.enter g args) W)∧
  ∀W',Below W.heap.size W W'-> ∀(A1 A2 A3 A4:Option Addr) (c1 c2 c3 c4:Nat) (f:Pl.aL) (year:Int),bB W' n₀ A1 A2 A3 A4 f->n₀<=W'.heap.size->Small f->
   Calls prog g (#[.agg (fq A1 A2 A3 A4 c1 c2 c3 c4 f),.int .i64 year]++cap) W' (jf n₀ N W' (Pl.looked f x year))
theorem oQ.up {n₀ N:Nat}{W W':World}{v:Value}{x:Pl.kZ}(h:oQ n₀ N W v x)(hb:Below W.heap.size W W'):oQ n₀ N W' v x:=by
 obtain⟨g,cap,h1,h2,h3⟩:=h
 exact⟨g,cap,h1,h2,fun W2 hW2=>h3 W2 (hb.trans (hW2.mono hb.size))⟩
def cu (n₀ br:Nat)(w:World)(o:Option (Pl.kZ×List ByteArray))(e:Ending)(w':World):Prop:=
 w.grownBy w' (some br)∧match o with
  |some (x,r)=>(∃v,e=.returned v∧oQ n₀ w'.heap.size w' v x)∧Rd w' br r
  |none=>e=.panicked (gave 4)
theorem cu.ok {n₀ br:Nat}{w w':World}{o:Option (Pl.kZ×List ByteArray)}{e:Ending}{x:Pl.kZ}{r:List ByteArray}{v:Value}(ho:o=some (x,r))(hg:w.grownBy w' (some br))(he:e=.returned v)(hF:oQ n₀ w'.heap.size w' v x)(hR:Rd w' br r):cu n₀ br w o e w':=by
 subst ho;exact⟨hg,⟨v,he,hF⟩,hR⟩
theorem cu.no {n₀ br:Nat}{w w':World}{o:Option (Pl.kZ×List ByteArray)}{e:Ending}(ho:o=none)(hg:w.grownBy w' (some br))(he:e=.panicked (gave 4)):cu n₀ br w o e w':=by subst ho;exact⟨hg,he⟩
theorem b_ {ws r:List ByteArray}{x:ByteArray}(h:aP ws=some (x,r))(hs:dK ws):dK r:=by
 obtain⟨rfl,_⟩:=jM h
 exact hs.tail.2.2
theorem w_ {ws r:List ByteArray}{x:Int}(h:gL ws=some (x,r))(hs:dK ws):dK r:=by
 obtain⟨y,rfl,_⟩:=Dl h
 exact hs.tail.2.2
theorem iT {ws r:List ByteArray}{x:Int}(h:bN ws=some (x,r))(hs:dK ws):dK r:=by
 obtain⟨y,rfl,_⟩:=wZ h
 exact hs.tail.2.2
theorem lu (w:World)(o:Option Nat):w.grownBy w o:=⟨rfl,rfl,rfl,Nat.le_refl _,fun _ _ _=>rfl⟩
theorem aF {w w':World}{br b:Nat}{o:Obj}(hg:w.grownBy w' (some br))(h:w.heap[b]?=some o)(hne:br<b):w'.heap[b]?=some o:=
 (hg.block b (lO h) (by simp;omega)).trans h
def jk (ws:List ByteArray):Option (Pl.kZ×List ByteArray):=(aP ws).bind fun p1=>(aP p1.2).bind fun p2=>(bN p2.2).bind fun p3=>(bN p3.2).bind fun p4=>some (⟨1,p1.1,⟨#[]⟩,p2.1,⟨#[]⟩,p3.1,p4.1,Pl.bF.zero⟩,p4.2)
theorem FR (n₀ br:Nat)(ws:List ByteArray)(w:World)(hE:Env w)(hR:Rd w br ws)(hbr:8<=br)(hs:dK ws)(hn:n₀<=w.heap.size):
  Calls prog 222 #[.pointer (some ⟨br,0,none⟩)] w (cu n₀ br w (jk ws)):=by
 have hlt:=hR.lt
 have hG:w.grownBy w (some br):=lu w (some br)
 have Cv: ∀(fn:Fn) (first cap:Array Value) (w:World),(Instr.makeFunc fn first cap).run prog w=.ok (.func fn first cap) w:=fun _ _ _ _=>rfl
 go_enter func222,ntmps222
 go_wp2_with fail
 refine(fM br ws _ hR hs).mono ?_
 rintro e w1 ⟨hg,hm⟩
 cases h1:aP ws with
 |none=>
  rw[h1]at hm
  subst hm
  exact⟨rfl,cu.no (by simp[jk,h1]) (hG.trans hg) rfl⟩
 |some p1=>
 obtain⟨v1,r1⟩:=p1
 rw[h1]at hm
 obtain⟨rfl,hR⟩:=hm
 have hs1:=b_ h1 hs
 have H1:=Lib.hid h1
 clear h1
 have hG:=(hG.trans hg).trans ((World.grownBy_alloc w1 (.cells #[.string v1] 9) none).but (some br))
 have hR:=hR.below ((Below.refl _ w1).alloc (Nat.le_refl _) (.cells #[.string v1] 9))
 have hlo1:br<w1.heap.size:=by have:=hg.size;omega
 have hn1:n₀<=w1.heap.size:=by have:=hg.size;omega
 have k1:=heap_alloc_new w1 (.cells #[.string v1] 9)
 clear hg
 go_wp2_with fail
 generalize mK:w1.alloc (.cells #[.string v1] 9)=W1 at*
 clear mK
 refine(fM br r1 _ hR hs1).mono ?_
 rintro e w2 ⟨hg,hm⟩
 cases h2:aP r1 with
 |none=>
  rw[h2]at hm
  subst hm
  exact⟨rfl,cu.no (by simp[jk,H1.out,h2]) (hG.trans hg) rfl⟩
 |some p2=>
 obtain⟨v2,r2⟩:=p2
 rw[h2]at hm
 obtain⟨rfl,hR⟩:=hm
 have hs2:=b_ h2 hs1
 have H2:=Lib.hid h2
 clear h2
 have hG:=(hG.trans hg).trans ((World.grownBy_alloc w2 (.cells #[.string v2] 9) none).but (some br))
 have hR:=hR.below ((Below.refl _ w2).alloc (Nat.le_refl _) (.cells #[.string v2] 9))
 have hlo2:br<w2.heap.size:=by have:=hg.size;have:=(lO k1);omega
 have k1:=aF hg k1 hlo1
 have k1:=(Below.heap_alloc w2 (.cells #[.string v2] 9) _ (lO k1)).trans k1
 have k2:=heap_alloc_new w2 (.cells #[.string v2] 9)
 clear hg
 go_wp2_with fail
 generalize mK:w2.alloc (.cells #[.string v2] 9)=W2 at*
 clear mK
 refine(iL br r2 _ (hE.below (aO hlt hG) hbr) hR hbr hs2).mono ?_
 rintro e w3 ⟨hg,hm⟩
 cases h3:bN r2 with
 |none=>
  rw[h3]at hm
  subst hm
  exact⟨rfl,cu.no (by simp[jk,H1.out,H2.out,h3]) (hG.trans hg) rfl⟩
 |some p3=>
 obtain⟨v3,r3⟩:=p3
 rw[h3]at hm
 obtain⟨rfl,hR⟩:=hm
 have hs3:=iT h3 hs2
 have H3:=Lib.hid h3
 clear h3
 have hG:=(hG.trans hg).trans ((World.grownBy_alloc w3 (.cells #[.int .i64 v3] 3) none).but (some br))
 have hR:=hR.below ((Below.refl _ w3).alloc (Nat.le_refl _) (.cells #[.int .i64 v3] 3))
 have hlo3:br<w3.heap.size:=by have:=hg.size;have:=(lO k2);omega
 have k1:=aF hg k1 hlo1
 have k1:=(Below.heap_alloc w3 (.cells #[.int .i64 v3] 3) _ (lO k1)).trans k1
 have k2:=aF hg k2 hlo2
 have k2:=(Below.heap_alloc w3 (.cells #[.int .i64 v3] 3) _ (lO k2)).trans k2
 have k3:=heap_alloc_new w3 (.cells #[.int .i64 v3] 3)
 clear hg
 go_wp2_with fail
 generalize mK:w3.alloc (.cells #[.int .i64 v3] 3)=W3 at*
 clear mK
 refine(iL br r3 _ (hE.below (aO hlt hG) hbr) hR hbr hs3).mono ?_
 rintro e w4 ⟨hg,hm⟩
 cases h4:bN r3 with
 |none=>
  rw[h4]at hm
  subst hm
  exact⟨rfl,cu.no (by simp[jk,H1.out,H2.out,H3.out,h4]) (hG.trans hg) rfl⟩
 |some p4=>
 obtain⟨v4,r4⟩:=p4
 rw[h4]at hm
 obtain⟨rfl,hR⟩:=hm
 have hs4:=iT h4 hs3
 have H4:=Lib.hid h4
 clear h4
 have hG:=(hG.trans hg).trans ((World.grownBy_alloc w4 (.cells #[.int .i64 v4] 3) none).but (some br))
 have hR:=hR.below ((Below.refl _ w4).alloc (Nat.le_refl _) (.cells #[.int .i64 v4] 3))
 have Le:br<w4.heap.size:=by have:=hg.size;have:=(lO k3);omega
 have k1:=aF hg k1 hlo1
 have k1:=(Below.heap_alloc w4 (.cells #[.int .i64 v4] 3) _ (lO k1)).trans k1
 have k2:=aF hg k2 hlo2
 have k2:=(Below.heap_alloc w4 (.cells #[.int .i64 v4] 3) _ (lO k2)).trans k2
 have k3:=aF hg k3 hlo3
 have k3:=(Below.heap_alloc w4 (.cells #[.int .i64 v4] 3) _ (lO k3)).trans k3
 have k4:=heap_alloc_new w4 (.cells #[.int .i64 v4] 3)
 clear hg
 go_wp2
 generalize mK:w4.alloc (.cells #[.int .i64 v4] 3)=W4 at*
 clear mK
 go_ret
 refine cu.ok (x:=⟨1,v1,⟨#[]⟩,v2,⟨#[]⟩,v3,v4,Pl.bF.zero⟩) (by simp[jk,H1.out,H2.out,H3.out,H4.out]) hG rfl ⟨223,#[.pointer (some ⟨w1.heap.size,0,none⟩),.pointer (some ⟨w2.heap.size,0,none⟩),.pointer (some ⟨w3.heap.size,0,none⟩),.pointer (some ⟨w4.heap.size,0,none⟩)],rfl,fun args W=>enters_of (P:=prog) func223 (by kernel_rfl) rfl args W,fun W' hW' A1 A2 A3 A4 c1 c2 c3 c4 f year hf hn' hm=> ?_⟩ hR
 have hk: ∀b o,W4.heap[b]?=some o->W'.heap[b]?=some o:=fun b o h=>(hW'.block b (lO h)).trans h
 have:=FK A1 A2 A3 A4 c1 c2 c3 c4 f n₀ W4.heap.size v1 v2 v3 v4 w1.heap.size w2.heap.size w3.heap.size w4.heap.size year W' hf hn' hm (hk _ _ k1) (hk _ _ k2) (hk _ _ k3) (hk _ _ k4)
 simpa using this
def iC (ws:List ByteArray):Option (Pl.kZ×List ByteArray):=(aP ws).bind fun p1=>(aP p1.2).bind fun p2=>(aP p2.2).bind fun p3=>(bN p3.2).bind fun p4=>(bN p4.2).bind fun p5=>some (⟨2,p1.1,p2.1,p3.1,⟨#[]⟩,p4.1,p5.1,Pl.bF.zero⟩,p5.2)
theorem FT (n₀ br:Nat)(ws:List ByteArray)(w:World)(hE:Env w)(hR:Rd w br ws)(hbr:8<=br)(hs:dK ws)(hn:n₀<=w.heap.size):
  Calls prog 224 #[.pointer (some ⟨br,0,none⟩)] w (cu n₀ br w (iC ws)):=by
 have hlt:=hR.lt
 have hG:w.grownBy w (some br):=lu w (some br)
 have Cv: ∀(fn:Fn) (first cap:Array Value) (w:World),(Instr.makeFunc fn first cap).run prog w=.ok (.func fn first cap) w:=fun _ _ _ _=>rfl
 go_enter func224,ntmps224
 go_wp2_with fail
 refine(fM br ws _ hR hs).mono ?_
 rintro e w1 ⟨hg,hm⟩
 cases h1:aP ws with
 |none=>
  rw[h1]at hm
  subst hm
  exact⟨rfl,cu.no (by simp[iC,h1]) (hG.trans hg) rfl⟩
 |some p1=>
 obtain⟨v1,r1⟩:=p1
 rw[h1]at hm
 obtain⟨rfl,hR⟩:=hm
 have hs1:=b_ h1 hs
 have H1:=Lib.hid h1
 clear h1
 have hG:=(hG.trans hg).trans ((World.grownBy_alloc w1 (.cells #[.string v1] 9) none).but (some br))
 have hR:=hR.below ((Below.refl _ w1).alloc (Nat.le_refl _) (.cells #[.string v1] 9))
 have hlo1:br<w1.heap.size:=by have:=hg.size;omega
 have hn1:n₀<=w1.heap.size:=by have:=hg.size;omega
 have k1:=heap_alloc_new w1 (.cells #[.string v1] 9)
 clear hg
 go_wp2_with fail
 generalize mK:w1.alloc (.cells #[.string v1] 9)=W1 at*
 clear mK
 refine(fM br r1 _ hR hs1).mono ?_
 rintro e w2 ⟨hg,hm⟩
 cases h2:aP r1 with
 |none=>
  rw[h2]at hm
  subst hm
  exact⟨rfl,cu.no (by simp[iC,H1.out,h2]) (hG.trans hg) rfl⟩
 |some p2=>
 obtain⟨v2,r2⟩:=p2
 rw[h2]at hm
 obtain⟨rfl,hR⟩:=hm
 have hs2:=b_ h2 hs1
 have H2:=Lib.hid h2
 clear h2
 have hG:=(hG.trans hg).trans ((World.grownBy_alloc w2 (.cells #[.string v2] 9) none).but (some br))
 have hR:=hR.below ((Below.refl _ w2).alloc (Nat.le_refl _) (.cells #[.string v2] 9))
 have hlo2:br<w2.heap.size:=by have:=hg.size;have:=(lO k1);omega
 have k1:=aF hg k1 hlo1
 have k1:=(Below.heap_alloc w2 (.cells #[.string v2] 9) _ (lO k1)).trans k1
 have k2:=heap_alloc_new w2 (.cells #[.string v2] 9)
 clear hg
 go_wp2_with fail
 generalize mK:w2.alloc (.cells #[.string v2] 9)=W2 at*
 clear mK
 refine(fM br r2 _ hR hs2).mono ?_
 rintro e w3 ⟨hg,hm⟩
 cases h3:aP r2 with
 |none=>
  rw[h3]at hm
  subst hm
  exact⟨rfl,cu.no (by simp[iC,H1.out,H2.out,h3]) (hG.trans hg) rfl⟩
 |some p3=>
 obtain⟨v3,r3⟩:=p3
 rw[h3]at hm
 obtain⟨rfl,hR⟩:=hm
 have hs3:=b_ h3 hs2
 have H3:=Lib.hid h3
 clear h3
 have hG:=(hG.trans hg).trans ((World.grownBy_alloc w3 (.cells #[.string v3] 9) none).but (some br))
 have hR:=hR.below ((Below.refl _ w3).alloc (Nat.le_refl _) (.cells #[.string v3] 9))
 have hlo3:br<w3.heap.size:=by have:=hg.size;have:=(lO k2);omega
 have k1:=aF hg k1 hlo1
 have k1:=(Below.heap_alloc w3 (.cells #[.string v3] 9) _ (lO k1)).trans k1
 have k2:=aF hg k2 hlo2
 have k2:=(Below.heap_alloc w3 (.cells #[.string v3] 9) _ (lO k2)).trans k2
 have k3:=heap_alloc_new w3 (.cells #[.string v3] 9)
 clear hg
 go_wp2_with fail
 generalize mK:w3.alloc (.cells #[.string v3] 9)=W3 at*
 clear mK
 refine(iL br r3 _ (hE.below (aO hlt hG) hbr) hR hbr hs3).mono ?_
 rintro e w4 ⟨hg,hm⟩
 cases h4:bN r3 with
 |none=>
  rw[h4]at hm
  subst hm
  exact⟨rfl,cu.no (by simp[iC,H1.out,H2.out,H3.out,h4]) (hG.trans hg) rfl⟩
 |some p4=>
 obtain⟨v4,r4⟩:=p4
 rw[h4]at hm
 obtain⟨rfl,hR⟩:=hm
 have hs4:=iT h4 hs3
 have H4:=Lib.hid h4
 clear h4
 have hG:=(hG.trans hg).trans ((World.grownBy_alloc w4 (.cells #[.int .i64 v4] 3) none).but (some br))
 have hR:=hR.below ((Below.refl _ w4).alloc (Nat.le_refl _) (.cells #[.int .i64 v4] 3))
 have Le:br<w4.heap.size:=by have:=hg.size;have:=(lO k3);omega
 have k1:=aF hg k1 hlo1
 have k1:=(Below.heap_alloc w4 (.cells #[.int .i64 v4] 3) _ (lO k1)).trans k1
 have k2:=aF hg k2 hlo2
 have k2:=(Below.heap_alloc w4 (.cells #[.int .i64 v4] 3) _ (lO k2)).trans k2
 have k3:=aF hg k3 hlo3
 have k3:=(Below.heap_alloc w4 (.cells #[.int .i64 v4] 3) _ (lO k3)).trans k3
 have k4:=heap_alloc_new w4 (.cells #[.int .i64 v4] 3)
 clear hg
 go_wp2_with fail
 generalize mK:w4.alloc (.cells #[.int .i64 v4] 3)=W4 at*
 clear mK
 refine(iL br r4 _ (hE.below (aO hlt hG) hbr) hR hbr hs4).mono ?_
 rintro e w5 ⟨hg,hm⟩
 cases h5:bN r4 with
 |none=>
  rw[h5]at hm
  subst hm
  exact⟨rfl,cu.no (by simp[iC,H1.out,H2.out,H3.out,H4.out,h5]) (hG.trans hg) rfl⟩
 |some p5=>
 obtain⟨v5,r5⟩:=p5
 rw[h5]at hm
 obtain⟨rfl,hR⟩:=hm
 have hs5:=iT h5 hs4
 have H5:=Lib.hid h5
 clear h5
 have hG:=(hG.trans hg).trans ((World.grownBy_alloc w5 (.cells #[.int .i64 v5] 3) none).but (some br))
 have hR:=hR.below ((Below.refl _ w5).alloc (Nat.le_refl _) (.cells #[.int .i64 v5] 3))
 have Vb:br<w5.heap.size:=by have:=hg.size;have:=(lO k4);omega
 have k1:=aF hg k1 hlo1
 have k1:=(Below.heap_alloc w5 (.cells #[.int .i64 v5] 3) _ (lO k1)).trans k1
 have k2:=aF hg k2 hlo2
 have k2:=(Below.heap_alloc w5 (.cells #[.int .i64 v5] 3) _ (lO k2)).trans k2
 have k3:=aF hg k3 hlo3
 have k3:=(Below.heap_alloc w5 (.cells #[.int .i64 v5] 3) _ (lO k3)).trans k3
 have k4:=aF hg k4 Le
 have k4:=(Below.heap_alloc w5 (.cells #[.int .i64 v5] 3) _ (lO k4)).trans k4
 have k5:=heap_alloc_new w5 (.cells #[.int .i64 v5] 3)
 clear hg
 go_wp2
 generalize mK:w5.alloc (.cells #[.int .i64 v5] 3)=W5 at*
 clear mK
 go_ret
 refine cu.ok (x:=⟨2,v1,v2,v3,⟨#[]⟩,v4,v5,Pl.bF.zero⟩) (by simp[iC,H1.out,H2.out,H3.out,H4.out,H5.out]) hG rfl ⟨225,#[.pointer (some ⟨w1.heap.size,0,none⟩),.pointer (some ⟨w2.heap.size,0,none⟩),.pointer (some ⟨w3.heap.size,0,none⟩),.pointer (some ⟨w4.heap.size,0,none⟩),.pointer (some ⟨w5.heap.size,0,none⟩)],rfl,fun args W=>enters_of (P:=prog) func225 (by kernel_rfl) rfl args W,fun W' hW' A1 A2 A3 A4 c1 c2 c3 c4 f year hf hn' hm=> ?_⟩ hR
 have hk: ∀b o,W5.heap[b]?=some o->W'.heap[b]?=some o:=fun b o h=>(hW'.block b (lO h)).trans h
 have:=FN A1 A2 A3 A4 c1 c2 c3 c4 f n₀ W5.heap.size v1 v2 v3 v4 v5 w1.heap.size w2.heap.size w3.heap.size w4.heap.size w5.heap.size year W' hf hn' hm (hk _ _ k1) (hk _ _ k2) (hk _ _ k3) (hk _ _ k4) (hk _ _ k5)
 simpa using this
def jl (ws:List ByteArray):Option (Pl.kZ×List ByteArray):=(aP ws).bind fun p1=>(aP p1.2).bind fun p2=>(aP p2.2).bind fun p3=>(aP p3.2).bind fun p4=>some (⟨4,p1.1,p2.1,p3.1,p4.1,0,0,Pl.bF.zero⟩,p4.2)
theorem FU (n₀ br:Nat)(ws:List ByteArray)(w:World)(_hE:Env w)(hR:Rd w br ws)(_hbr:8<=br)(hs:dK ws)(hn:n₀<=w.heap.size):
  Calls prog 226 #[.pointer (some ⟨br,0,none⟩)] w (cu n₀ br w (jl ws)):=by
 have hlt:=hR.lt
 have hG:w.grownBy w (some br):=lu w (some br)
 have Cv: ∀(fn:Fn) (first cap:Array Value) (w:World),(Instr.makeFunc fn first cap).run prog w=.ok (.func fn first cap) w:=fun _ _ _ _=>rfl
 go_enter func226,ntmps226
 go_wp2_with fail
 refine(fM br ws _ hR hs).mono ?_
 rintro e w1 ⟨hg,hm⟩
 cases h1:aP ws with
 |none=>
  rw[h1]at hm
  subst hm
  exact⟨rfl,cu.no (by simp[jl,h1]) (hG.trans hg) rfl⟩
 |some p1=>
 obtain⟨v1,r1⟩:=p1
 rw[h1]at hm
 obtain⟨rfl,hR⟩:=hm
 have hs1:=b_ h1 hs
 have H1:=Lib.hid h1
 clear h1
 have hG:=(hG.trans hg).trans ((World.grownBy_alloc w1 (.cells #[.string v1] 9) none).but (some br))
 have hR:=hR.below ((Below.refl _ w1).alloc (Nat.le_refl _) (.cells #[.string v1] 9))
 have hlo1:br<w1.heap.size:=by have:=hg.size;omega
 have hn1:n₀<=w1.heap.size:=by have:=hg.size;omega
 have k1:=heap_alloc_new w1 (.cells #[.string v1] 9)
 clear hg
 go_wp2_with fail
 generalize mK:w1.alloc (.cells #[.string v1] 9)=W1 at*
 clear mK
 refine(fM br r1 _ hR hs1).mono ?_
 rintro e w2 ⟨hg,hm⟩
 cases h2:aP r1 with
 |none=>
  rw[h2]at hm
  subst hm
  exact⟨rfl,cu.no (by simp[jl,H1.out,h2]) (hG.trans hg) rfl⟩
 |some p2=>
 obtain⟨v2,r2⟩:=p2
 rw[h2]at hm
 obtain⟨rfl,hR⟩:=hm
 have hs2:=b_ h2 hs1
 have H2:=Lib.hid h2
 clear h2
 have hG:=(hG.trans hg).trans ((World.grownBy_alloc w2 (.cells #[.string v2] 9) none).but (some br))
 have hR:=hR.below ((Below.refl _ w2).alloc (Nat.le_refl _) (.cells #[.string v2] 9))
 have hlo2:br<w2.heap.size:=by have:=hg.size;have:=(lO k1);omega
 have k1:=aF hg k1 hlo1
 have k1:=(Below.heap_alloc w2 (.cells #[.string v2] 9) _ (lO k1)).trans k1
 have k2:=heap_alloc_new w2 (.cells #[.string v2] 9)
 clear hg
 go_wp2_with fail
 generalize mK:w2.alloc (.cells #[.string v2] 9)=W2 at*
 clear mK
 refine(fM br r2 _ hR hs2).mono ?_
 rintro e w3 ⟨hg,hm⟩
 cases h3:aP r2 with
 |none=>
  rw[h3]at hm
  subst hm
  exact⟨rfl,cu.no (by simp[jl,H1.out,H2.out,h3]) (hG.trans hg) rfl⟩
 |some p3=>
 obtain⟨v3,r3⟩:=p3
 rw[h3]at hm
 obtain⟨rfl,hR⟩:=hm
 have hs3:=b_ h3 hs2
 have H3:=Lib.hid h3
 clear h3
 have hG:=(hG.trans hg).trans ((World.grownBy_alloc w3 (.cells #[.string v3] 9) none).but (some br))
 have hR:=hR.below ((Below.refl _ w3).alloc (Nat.le_refl _) (.cells #[.string v3] 9))
 have hlo3:br<w3.heap.size:=by have:=hg.size;have:=(lO k2);omega
 have k1:=aF hg k1 hlo1
 have k1:=(Below.heap_alloc w3 (.cells #[.string v3] 9) _ (lO k1)).trans k1
 have k2:=aF hg k2 hlo2
 have k2:=(Below.heap_alloc w3 (.cells #[.string v3] 9) _ (lO k2)).trans k2
 have k3:=heap_alloc_new w3 (.cells #[.string v3] 9)
 clear hg
 go_wp2_with fail
 generalize mK:w3.alloc (.cells #[.string v3] 9)=W3 at*
 clear mK
 refine(fM br r3 _ hR hs3).mono ?_
 rintro e w4 ⟨hg,hm⟩
 cases h4:aP r3 with
 |none=>
  rw[h4]at hm
  subst hm
  exact⟨rfl,cu.no (by simp[jl,H1.out,H2.out,H3.out,h4]) (hG.trans hg) rfl⟩
 |some p4=>
 obtain⟨v4,r4⟩:=p4
 rw[h4]at hm
 obtain⟨rfl,hR⟩:=hm
 have hs4:=b_ h4 hs3
 have H4:=Lib.hid h4
 clear h4
 have hG:=(hG.trans hg).trans ((World.grownBy_alloc w4 (.cells #[.string v4] 9) none).but (some br))
 have hR:=hR.below ((Below.refl _ w4).alloc (Nat.le_refl _) (.cells #[.string v4] 9))
 have Le:br<w4.heap.size:=by have:=hg.size;have:=(lO k3);omega
 have k1:=aF hg k1 hlo1
 have k1:=(Below.heap_alloc w4 (.cells #[.string v4] 9) _ (lO k1)).trans k1
 have k2:=aF hg k2 hlo2
 have k2:=(Below.heap_alloc w4 (.cells #[.string v4] 9) _ (lO k2)).trans k2
 have k3:=aF hg k3 hlo3
 have k3:=(Below.heap_alloc w4 (.cells #[.string v4] 9) _ (lO k3)).trans k3
 have k4:=heap_alloc_new w4 (.cells #[.string v4] 9)
 clear hg
 go_wp2
 generalize mK:w4.alloc (.cells #[.string v4] 9)=W4 at*
 clear mK
 go_ret
 refine cu.ok (x:=⟨4,v1,v2,v3,v4,0,0,Pl.bF.zero⟩) (by simp[jl,H1.out,H2.out,H3.out,H4.out]) hG rfl ⟨227,#[.pointer (some ⟨w1.heap.size,0,none⟩),.pointer (some ⟨w2.heap.size,0,none⟩),.pointer (some ⟨w3.heap.size,0,none⟩),.pointer (some ⟨w4.heap.size,0,none⟩)],rfl,fun args W=>enters_of (P:=prog) func227 (by kernel_rfl) rfl args W,fun W' hW' A1 A2 A3 A4 c1 c2 c3 c4 f year hf hn' hm=> ?_⟩ hR
 have hk: ∀b o,W4.heap[b]?=some o->W'.heap[b]?=some o:=fun b o h=>(hW'.block b (lO h)).trans h
 have:=FP A1 A2 A3 A4 c1 c2 c3 c4 f n₀ W4.heap.size v1 v2 v3 v4 w1.heap.size w2.heap.size w3.heap.size w4.heap.size year W' hf hn' hm (hk _ _ k1) (hk _ _ k2) (hk _ _ k3) (hk _ _ k4)
 simpa using this
def iD (ws:List ByteArray):Option (Pl.kZ×List ByteArray):=(aP ws).bind fun p1=>(aP p1.2).bind fun p2=>(aP p2.2).bind fun p3=>(gL p3.2).bind fun p4=>(bN p4.2).bind fun p5=>some (⟨5,p1.1,⟨#[]⟩,p2.1,p3.1,p4.1,p5.1,Pl.bF.zero⟩,p5.2)
theorem FV (n₀ br:Nat)(ws:List ByteArray)(w:World)(hE:Env w)(hR:Rd w br ws)(hbr:8<=br)(hs:dK ws)(hn:n₀<=w.heap.size):
  Calls prog 228 #[.pointer (some ⟨br,0,none⟩)] w (cu n₀ br w (iD ws)):=by
 have hlt:=hR.lt
 have hG:w.grownBy w (some br):=lu w (some br)
 have Cv: ∀(fn:Fn) (first cap:Array Value) (w:World),(Instr.makeFunc fn first cap).run prog w=.ok (.func fn first cap) w:=fun _ _ _ _=>rfl
 go_enter func228,ntmps228
 go_wp2_with fail
 refine(fM br ws _ hR hs).mono ?_
 rintro e w1 ⟨hg,hm⟩
 cases h1:aP ws with
 |none=>
  rw[h1]at hm
  subst hm
  exact⟨rfl,cu.no (by simp[iD,h1]) (hG.trans hg) rfl⟩
 |some p1=>
 obtain⟨v1,r1⟩:=p1
 rw[h1]at hm
 obtain⟨rfl,hR⟩:=hm
 have hs1:=b_ h1 hs
 have H1:=Lib.hid h1
 clear h1
 have hG:=(hG.trans hg).trans ((World.grownBy_alloc w1 (.cells #[.string v1] 9) none).but (some br))
 have hR:=hR.below ((Below.refl _ w1).alloc (Nat.le_refl _) (.cells #[.string v1] 9))
 have hlo1:br<w1.heap.size:=by have:=hg.size;omega
 have hn1:n₀<=w1.heap.size:=by have:=hg.size;omega
 have k1:=heap_alloc_new w1 (.cells #[.string v1] 9)
 clear hg
 go_wp2_with fail
 generalize mK:w1.alloc (.cells #[.string v1] 9)=W1 at*
 clear mK
 refine(fM br r1 _ hR hs1).mono ?_
 rintro e w2 ⟨hg,hm⟩
 cases h2:aP r1 with
 |none=>
  rw[h2]at hm
  subst hm
  exact⟨rfl,cu.no (by simp[iD,H1.out,h2]) (hG.trans hg) rfl⟩
 |some p2=>
 obtain⟨v2,r2⟩:=p2
 rw[h2]at hm
 obtain⟨rfl,hR⟩:=hm
 have hs2:=b_ h2 hs1
 have H2:=Lib.hid h2
 clear h2
 have hG:=(hG.trans hg).trans ((World.grownBy_alloc w2 (.cells #[.string v2] 9) none).but (some br))
 have hR:=hR.below ((Below.refl _ w2).alloc (Nat.le_refl _) (.cells #[.string v2] 9))
 have hlo2:br<w2.heap.size:=by have:=hg.size;have:=(lO k1);omega
 have k1:=aF hg k1 hlo1
 have k1:=(Below.heap_alloc w2 (.cells #[.string v2] 9) _ (lO k1)).trans k1
 have k2:=heap_alloc_new w2 (.cells #[.string v2] 9)
 clear hg
 go_wp2_with fail
 generalize mK:w2.alloc (.cells #[.string v2] 9)=W2 at*
 clear mK
 refine(fM br r2 _ hR hs2).mono ?_
 rintro e w3 ⟨hg,hm⟩
 cases h3:aP r2 with
 |none=>
  rw[h3]at hm
  subst hm
  exact⟨rfl,cu.no (by simp[iD,H1.out,H2.out,h3]) (hG.trans hg) rfl⟩
 |some p3=>
 obtain⟨v3,r3⟩:=p3
 rw[h3]at hm
 obtain⟨rfl,hR⟩:=hm
 have hs3:=b_ h3 hs2
 have H3:=Lib.hid h3
 clear h3
 have hG:=(hG.trans hg).trans ((World.grownBy_alloc w3 (.cells #[.string v3] 9) none).but (some br))
 have hR:=hR.below ((Below.refl _ w3).alloc (Nat.le_refl _) (.cells #[.string v3] 9))
 have hlo3:br<w3.heap.size:=by have:=hg.size;have:=(lO k2);omega
 have k1:=aF hg k1 hlo1
 have k1:=(Below.heap_alloc w3 (.cells #[.string v3] 9) _ (lO k1)).trans k1
 have k2:=aF hg k2 hlo2
 have k2:=(Below.heap_alloc w3 (.cells #[.string v3] 9) _ (lO k2)).trans k2
 have k3:=heap_alloc_new w3 (.cells #[.string v3] 9)
 clear hg
 go_wp2_with fail
 generalize mK:w3.alloc (.cells #[.string v3] 9)=W3 at*
 clear mK
 refine(oO br r3 _ (hE.below (aO hlt hG) hbr) hR hbr hs3).mono ?_
 rintro e w4 ⟨hg,hm⟩
 cases h4:gL r3 with
 |none=>
  rw[h4]at hm
  subst hm
  exact⟨rfl,cu.no (by simp[iD,H1.out,H2.out,H3.out,h4]) (hG.trans hg) rfl⟩
 |some p4=>
 obtain⟨v4,r4⟩:=p4
 rw[h4]at hm
 obtain⟨rfl,hR⟩:=hm
 have hs4:=w_ h4 hs3
 have H4:=Lib.hid h4
 clear h4
 have hG:=(hG.trans hg).trans ((World.grownBy_alloc w4 (.cells #[.int .i64 v4] 3) none).but (some br))
 have hR:=hR.below ((Below.refl _ w4).alloc (Nat.le_refl _) (.cells #[.int .i64 v4] 3))
 have Le:br<w4.heap.size:=by have:=hg.size;have:=(lO k3);omega
 have k1:=aF hg k1 hlo1
 have k1:=(Below.heap_alloc w4 (.cells #[.int .i64 v4] 3) _ (lO k1)).trans k1
 have k2:=aF hg k2 hlo2
 have k2:=(Below.heap_alloc w4 (.cells #[.int .i64 v4] 3) _ (lO k2)).trans k2
 have k3:=aF hg k3 hlo3
 have k3:=(Below.heap_alloc w4 (.cells #[.int .i64 v4] 3) _ (lO k3)).trans k3
 have k4:=heap_alloc_new w4 (.cells #[.int .i64 v4] 3)
 clear hg
 go_wp2_with fail
 generalize mK:w4.alloc (.cells #[.int .i64 v4] 3)=W4 at*
 clear mK
 refine(iL br r4 _ (hE.below (aO hlt hG) hbr) hR hbr hs4).mono ?_
 rintro e w5 ⟨hg,hm⟩
 cases h5:bN r4 with
 |none=>
  rw[h5]at hm
  subst hm
  exact⟨rfl,cu.no (by simp[iD,H1.out,H2.out,H3.out,H4.out,h5]) (hG.trans hg) rfl⟩
 |some p5=>
 obtain⟨v5,r5⟩:=p5
 rw[h5]at hm
 obtain⟨rfl,hR⟩:=hm
 have hs5:=iT h5 hs4
 have H5:=Lib.hid h5
 clear h5
 have hG:=(hG.trans hg).trans ((World.grownBy_alloc w5 (.cells #[.int .i64 v5] 3) none).but (some br))
 have hR:=hR.below ((Below.refl _ w5).alloc (Nat.le_refl _) (.cells #[.int .i64 v5] 3))
 have Vb:br<w5.heap.size:=by have:=hg.size;have:=(lO k4);omega
 have k1:=aF hg k1 hlo1
 have k1:=(Below.heap_alloc w5 (.cells #[.int .i64 v5] 3) _ (lO k1)).trans k1
 have k2:=aF hg k2 hlo2
 have k2:=(Below.heap_alloc w5 (.cells #[.int .i64 v5] 3) _ (lO k2)).trans k2
 have k3:=aF hg k3 hlo3
 have k3:=(Below.heap_alloc w5 (.cells #[.int .i64 v5] 3) _ (lO k3)).trans k3
 have k4:=aF hg k4 Le
 have k4:=(Below.heap_alloc w5 (.cells #[.int .i64 v5] 3) _ (lO k4)).trans k4
 have k5:=heap_alloc_new w5 (.cells #[.int .i64 v5] 3)
 clear hg
 go_wp2
 generalize mK:w5.alloc (.cells #[.int .i64 v5] 3)=W5 at*
 clear mK
 go_ret
 refine cu.ok (x:=⟨5,v1,⟨#[]⟩,v2,v3,v4,v5,Pl.bF.zero⟩) (by simp[iD,H1.out,H2.out,H3.out,H4.out,H5.out]) hG rfl ⟨229,#[.pointer (some ⟨w1.heap.size,0,none⟩),.pointer (some ⟨w2.heap.size,0,none⟩),.pointer (some ⟨w3.heap.size,0,none⟩),.pointer (some ⟨w4.heap.size,0,none⟩),.pointer (some ⟨w5.heap.size,0,none⟩)],rfl,fun args W=>enters_of (P:=prog) func229 (by kernel_rfl) rfl args W,fun W' hW' A1 A2 A3 A4 c1 c2 c3 c4 f year hf hn' hm=> ?_⟩ hR
 have hk: ∀b o,W5.heap[b]?=some o->W'.heap[b]?=some o:=fun b o h=>(hW'.block b (lO h)).trans h
 have:=FQ A1 A2 A3 A4 c1 c2 c3 c4 f n₀ W5.heap.size v1 v2 v3 v4 v5 w1.heap.size w2.heap.size w3.heap.size w4.heap.size w5.heap.size year W' hf hn' hm (hk _ _ k1) (hk _ _ k2) (hk _ _ k3) (hk _ _ k4) (hk _ _ k5)
 simpa using this
open Tryz RowKit
def ou (k:ByteArray):List ByteArray->Option (Unit×List ByteArray)
 |x::r=>if x=k then some ((),r)else none
 | []=>none
theorem Dp {k x:ByteArray}{r:List ByteArray}(h:x=k):ou k (x::r)=some ((),r):=by simp[ou,h]
theorem Ii {k x:ByteArray}{r:List ByteArray}(h: ¬x=k):ou k (x::r)=none:=by simp[ou,h]
theorem zS (br:Nat)(ws:List ByteArray)(k:ByteArray)(w:World)(h:Rd w br ws)(hs:dK ws):
  Calls prog 234 #[.pointer (some ⟨br,0,none⟩),.string k] w (iR (fun _:Unit=> .tuple #[]) br w (ou k ws)):=by
 cases ws with
 |nil=>
  go_enter func234,ntmps234
  go_wp2_with (go_at_call 210;refine(Bh br _ h).mono ?_;rintro e w1 ⟨rfl,hx⟩)
  exact⟨rfl,iR.no rfl hx rfl⟩
 | cons x r=>
  obtain⟨hx,hr,_⟩:=hs.tail
  by_cases hk:x=k
  ·have hq:(x.toList==k.toList)=true:=by rw[dF];exact decide_eq_true hk
   have HK:=Lib.hid hk
   clear hk
   go_enter func234,ntmps234
   go_wp2_with (first
    |(go_at_call 210;refine(lX br x r _ h (by omega)).mono ?_;rintro e w1 ⟨rfl,kP,hg1⟩)
    |(go_at_call 97;refine(uYs _ _).mono ?_;rintro e w' ⟨rfl,rfl⟩))
   go_end0
   exact iR.ok (x:=()) (Dp HK.out) hg1 rfl kP
  ·have hq:(x.toList==k.toList)=false:=by rw[dF];exact decide_eq_false hk
   have HK:=Lib.hid hk
   clear hk
   go_enter func234,ntmps234
   go_wp2_with (first
    |(go_at_call 210;refine(lX br x r _ h (by omega)).mono ?_;rintro e w1 ⟨rfl,kP,hg1⟩)
    |(go_at_call 97;refine(bD _ _).mono ?_;rintro e w3 ⟨rfl,hb3⟩))
   exact⟨rfl,iR.no (Ii HK.out) (bO hg1 hb3) rfl⟩
theorem xg {w:World}{B b off:Nat}{ws:List ByteArray}(h:d9 w B (some ⟨b,off,none⟩) ws)(k:Nat):d9 w B (some ⟨b,off+k,none⟩) (ws.drop k):=by
 rcases h with h|⟨b',off',hA,hb,hc⟩
 ·subst h;exact .inl (by simp)
 ·obtain⟨rfl,rfl⟩:b=b'∧off=off':=by simpa using hA
  refine .inr ⟨b,off+k,rfl,hb,fun j y hy i v hv=> ?_⟩
  have:=hc (k+j) y (by simpa using hy) i v hv
  rw[show off+k+j*1+i=off+(k+j)*1+i by omega]
  exact this
theorem FW {ws:List ByteArray}(h:dK ws)(k:Nat):dK (ws.drop k):=⟨by have:=h.1;simp;omega,fun x hx=>h.2 x (List.mem_of_mem_drop hx)⟩
theorem xk {k s:ByteArray}{most:Nat}{ws r:List ByteArray}(h:Pl.upTo k most ws=some (s,r))(hs:dK ws):dK r:=by
 unfold Pl.upTo at h
 obtain⟨n,_,h⟩:=Option.bind_eq_some_iff.1 h
 split at h
 ·cases h;exact FW hs _
 ·cases h
theorem Ij (br:Nat)(ws:List ByteArray)(k:ByteArray)(most:Nat)(w:World)(h:Rd w br ws)(hs:dK ws)(hmo:most<=100):
  Calls prog 232 #[.pointer (some ⟨br,0,none⟩),.string k,.int .i64 (most:Int)] w (iR (fun x=> .string x) br w (Pl.upTo k most ws)):=by
 obtain⟨A,c,h1,h2,h3⟩:=h
 have hlt:=(lO h1)
 have hm:=hs.1
 have hix:=fun W (hW:Below w.heap.size w W)=>Hw A c ws k W ((h2.more (by omega:br<=w.heap.size)).up hW) (by omega)
 obtain⟨hc,hf⟩:=ah h1
 cases ho:Pl.idx (fun x=>decide (x=k)) ws with
 | none=>
  rw[ho]at hix
  have HO:Hid (Pl.upTo k most ws=none):=Lib.hid (by unfold Pl.upTo;rw[ho];rfl)
  have hin:Pl.bQ (Pl.pos none) 1 (most:Int)=false:=by simp[Pl.bQ,Pl.pos]
  clear ho h2
  go_enter func232,ntmps232
  go_wp2_with (first
   |(go_at_call 209;refine(hix _ (by go_grown)).mono ?_;rintro e w1 ⟨rfl,rfl⟩)
   |(go_at_call 84;refine(dP _ _ _ _).mono ?_;rintro e w' ⟨rfl,rfl⟩)
   |(go_at_call 97;refine(bD _ _).mono ?_;rintro e w3 ⟨rfl,hb3⟩))
  exact⟨rfl,iR.no HO.out (kg br hb3) rfl⟩
 | some n=>
  rw[ho]at hix
  have hn:=Pl.AR ho
  by_cases hb:1<=n∧n<=most
  ·have HO:Hid (Pl.upTo k most ws=some (Pl.eZ (ws.take n),ws.drop (n+1))):=Lib.hid (by unfold Pl.upTo;rw[ho];simp[hb])
   have hin:Pl.bQ (Pl.pos (some n)) 1 (most:Int)=true:=by simp[Pl.bQ,Pl.pos];omega
   obtain⟨b,off,rfl,mQ,q0⟩:=d9.gY h2 (k:=0) (by omega)
   clear q0 ho
   have hlen:(ws.take n).length=n:=by simp;omega
   have hjn:=fun W (hW:Below w.heap.size w W)=>Tryz.strings_Join b off c (ws.take n) ⟨#[32]⟩ W (fun j x hx=>by
    have hN:d9 W W.heap.size (some ⟨b,off,none⟩) ws:=(h2.more (by omega:br<=w.heap.size)).up hW
    rw[List.getElem?_take]at hx
    split at hx
    ·obtain⟨hj,hx⟩:=List.getElem?_eq_some_iff.1 hx
     obtain⟨b',off',hA,_,q⟩:=d9.gY hN hj
     obtain⟨rfl,rfl⟩:b=b'∧off=off':=by simpa using hA
     rw[<-hx];exact q
    ·cases hx) (by have:=hW.size;omega) (by omega) (by omega) (by
     have:=Pl.join_le [32] (xs:=(ws.take n).map (·.data.toList)) (N:=100000) (by
      intro x hx
      obtain⟨y,hy,rfl⟩:=List.mem_map.1 hx
      have:=hs.2 y (List.mem_of_mem_take hy)
      have e:y.data.toList.length=y.size:=Array.length_toList
      omega)
     simp only[List.length_map,hlen,List.length_singleton]at this
     show(Lib.join ((ws.take n).map (·.data.toList)) [32]).length<=140737488355328
     omega)
   rw[hlen]at hjn
   have hjn: ∀W,Below w.heap.size w W->Calls prog 119 #[.slice (some ⟨b,off,none⟩) n c,.string ⟨#[32]⟩] W fun e w'=>e=.returned (.string (Pl.eZ (ws.take n)))∧Below W.heap.size W w':=hjn
   generalize Pl.eZ (ws.take n)=J at hjn HO
   have Nr:=xg h2 (n+1)
   have e1:(0:Int)<=(n:Int):=by omega
   have e2:(n:Int)<=(c:Int):=by omega
   have e3:(0:Int)<=(n:Int)+1:=by omega
   have e4:(n:Int)+1<=(ws.length:Int):=by omega
   unfold Pl.pos at hix hin
   by_cases hcap:c=n+1
   ·have hnil:ws.drop (n+1)=[]:=List.drop_eq_nil_of_le (by omega)
    rw[hnil]at HO
    have hwl:ws.length=n+1:=by omega
    subst hcap
    rw[hwl]at h1 hix hc
    have e5:(n:Int)+1<=((n+1:Nat):Int):=by omega
    clear hwl e4 e2
    have e2:(n:Int)<=((n+1:Nat):Int):=by omega
    go_enter func232,ntmps232
    go_wp2_with (first
     |(go_at_call 209;refine(hix _ (by go_grown)).mono ?_;rintro e w1 ⟨rfl,rfl⟩)
     |(go_at_call 84;refine(dP _ _ _ _).mono ?_;rintro e w' ⟨rfl,rfl⟩)
     |(go_at_call 97;refine(uYs _ _).mono ?_;rintro e w' ⟨rfl,rfl⟩)
     |(go_at_call 119;refine(hjn _ (by go_grown)).mono ?_;rintro e w2 ⟨rfl,hx⟩;have kr:=(hx.block br hlt).trans h1;obtain⟨hc2,hf2⟩:=ah kr;have R:=Lib.hid (Bg (A:=some ⟨b,off,none⟩) (c:=0) (ws:=[]) kr (.inl rfl) (by simp))))
    all_goals first
     |(exfalso;omega)
     |(go_ret;exact iR.ok HO.out (bO (kg br hx) (Below.refl _ _)|>.trans R.out.2) rfl R.out.1)
   ·have hl2:(ws.drop (n+1)).length=ws.length-(n+1):=by simp
    go_enter func232,ntmps232
    go_wp2_with (first
     |(go_at_call 209;refine(hix _ (by go_grown)).mono ?_;rintro e w1 ⟨rfl,rfl⟩)
     |(go_at_call 84;refine(dP _ _ _ _).mono ?_;rintro e w' ⟨rfl,rfl⟩)
     |(go_at_call 97;refine(uYs _ _).mono ?_;rintro e w' ⟨rfl,rfl⟩)
     |(go_at_call 119;refine(hjn _ (by go_grown)).mono ?_;rintro e w2 ⟨rfl,hx⟩;have kr:=(hx.block br hlt).trans h1;obtain⟨hc2,hf2⟩:=ah kr;have R:=Lib.hid (Bg (c:=c-(n+1)) kr (Nr.keep fun p hp=>hx.cell (by omega)) (by rw[hl2];omega))))
    all_goals first
     |(exfalso;omega)
     |(have R1:=R.out;rw[hl2]at R1;go_ret;exact iR.ok HO.out (bO (kg br hx) (Below.refl _ _)|>.trans R1.2) rfl R1.1)
  ·have HO:Hid (Pl.upTo k most ws=none):=Lib.hid (by unfold Pl.upTo;rw[ho];simp[hb])
   have hin:Pl.bQ (Pl.pos (some n)) 1 (most:Int)=false:=by simp[Pl.bQ,Pl.pos];omega
   clear ho h2
   go_enter func232,ntmps232
   go_wp2_with (first
    |(go_at_call 209;refine(hix _ (by go_grown)).mono ?_;rintro e w1 ⟨rfl,rfl⟩)
    |(go_at_call 84;refine(dP _ _ _ _).mono ?_;rintro e w' ⟨rfl,rfl⟩)
    |(go_at_call 97;refine(bD _ _).mono ?_;rintro e w3 ⟨rfl,hb3⟩))
   exact⟨rfl,iR.no HO.out (kg br hb3) rfl⟩
