/- Texts of mine, merged: EH, DQ, EI. -/
import Derived.Deep.RegionWith
import Derived.Test.YtgbpekeoegfjpaaGreatDoorZ10
import Derived.Test.YtgbpekeoegfjpaaGreatDoorZ11
import Derived.Test.YtgbpekeoegfjpaaGreatDoorZ00
import Derived.Test.YtgbpekeoegfjpaaGreatDoorZ02
/- Walk: the course that a form makes in a field. -/
set_option maxRecDepth 100000
namespace Go.Proofs.YtgbpekeoegfjpaaGreatDoor
open Go.RowKit
theorem st_int {w:World}{g j:Nat}{t:TypeId}{cs:Array Value}{n:Int}(hg:w.heap[g]?=some (.cells cs t (0,0)))(hj:j<cs.size):(storeVar 3 ⟨g,j,none⟩ (.int .i64 n)).run Tryz.prog w=.ok () (w.setCell ⟨g,j,none⟩ (.int .i64 n)):=by
 obtain⟨hc,hf⟩:=blk_cells hg
 have h1:=hc j
 rw[Array.getElem?_eq_getElem hj]at h1
 have h2:=hf j
 simp[go_sem,h1,h2]
attribute [-go_sem] run_equalIn_agg storeVar loadVar
attribute [local go_sem] lv_int lv_bool lv_u8 lv_string lv_vars
theorem looked_course (f:Pl.Fld)(l fr t:ByteArray)(x:Pl.Crs)(year:Int):Pl.looked f ⟨3,l,⟨#[]⟩,fr,t,0,0,x⟩ year=(Pl.limOf f l).bind fun(i0:Nat)=>(Pl.staOf f fr).bind fun(i1:Nat)=>(Pl.staOf f t).bind fun(i2:Nat)=>some (⟨3,((i0:Nat):Int),0,((i1:Nat):Int),((i2:Nat):Int),0,0,{x with y:=year}⟩:Pl.Cal):=by
 unfold Pl.looked
 cases Pl.limOf f l<;>cases Pl.staOf f fr<;>cases Pl.staOf f t<;>rfl
set_option maxHeartbeats 4000000 in
theorem made_course (A1 A2 A3 A4:Option Addr)(c1 c2 c3 c4:Nat)(f:Pl.Fld)(n₀ N:Nat)(l fr t:ByteArray)(x:Pl.Crs)(bx b0 b1 b2:Nat)(year:Int)(w:World)(hf:FldS w n₀ A1 A2 A3 A4 f)(hn:n₀<=w.heap.size)(hm:Small f)(hbx:n₀<=bx)(hbN:bx<N)
  (kx:w.heap[bx]?=some (.cells (cq x) 46 (0,0))) (k0:w.heap[b0]?=some (.cells #[.string l] 9 (0,0))) (k1:w.heap[b1]?=some (.cells #[.string fr] 9 (0,0))) (k2:w.heap[b2]?=some (.cells #[.string t] 9 (0,0))):
  Calls Tryz.prog 235 #[.agg (fq A1 A2 A3 A4 c1 c2 c3 c4 f),.int .i64 year,.pointer (some ⟨bx,0,none⟩),.pointer (some ⟨b0,0,none⟩),.pointer (some ⟨b1,0,none⟩),.pointer (some ⟨b2,0,none⟩)] w (EndM n₀ N w (Pl.looked f ⟨3,l,⟨#[]⟩,fr,t,0,0,x⟩ year)):=by
 have hlx:=(lO kx)
 have hlb0:=(lO k0)
 have hne0:b0≠bx:=by rintro rfl;rw[kx]at k0;simp at k0
 have hlb1:=(lO k1)
 have hne1:b1≠bx:=by rintro rfl;rw[kx]at k1;simp at k1
 have hlb2:=(lO k2)
 have hne2:b2≠bx:=by rintro rfl;rw[kx]at k2;simp at k2
 have HL:=Lib.hid (looked_course f l fr t x year)
 have hsx:=st_int (n:=year) (j:=3) ((((Below.refl w.heap.size w).alloc (Nat.le_refl _) (.cells (fq A1 A2 A3 A4 c1 c2 c3 c4 f) 28)).alloc (by simp) (.cells z13 48)).block bx hlx|>.trans kx) (by simp)
 have hgw:=grown_set w bx 3 (.int .i64 year)
 have hz1:(w.setCell ⟨bx,3,none⟩ (.int .i64 year)).heap.size=w.heap.size:=by simp
 have kx:=heap_setCell_same w bx 3 _ _ (.int .i64 year) kx
 have k0:=(hgw.block b0 hlb0 (by simp;exact hne0)).trans k0
 have k1:=(hgw.block b1 hlb1 (by simp;exact hne1)).trans k1
 have k2:=(hgw.block b2 hlb2 (by simp;exact hne2)).trans k2
 have kf:=heap_alloc2_old (w.setCell ⟨bx,3,none⟩ (.int .i64 year)) (.cells (fq A1 A2 A3 A4 c1 c2 c3 c4 f) 28) (.cells z13 48)
 have kr:=heap_alloc2_new (w.setCell ⟨bx,3,none⟩ (.int .i64 year)) (.cells (fq A1 A2 A3 A4 c1 c2 c3 c4 f) 28) (.cells z13 48)
 have hb0:Below (w.setCell ⟨bx,3,none⟩ (.int .i64 year)).heap.size (w.setCell ⟨bx,3,none⟩ (.int .i64 year)) (((w.setCell ⟨bx,3,none⟩ (.int .i64 year)).alloc (.cells (fq A1 A2 A3 A4 c1 c2 c3 c4 f) 28)).alloc (.cells z13 48)):=((Below.refl _ _).alloc (Nat.le_refl _) _).alloc (by simp) _
 rw[hz1]at kf kr hb0
 have kx:=(hb0.block bx hlx).trans kx
 have k0:=(hb0.block b0 hlb0).trans k0
 have k1:=(hb0.block b1 hlb1).trans k1
 have k2:=(hb0.block b2 hlb2).trans k2
 have hb:BelowE n₀ (fun i=>i<N) w (((w.setCell ⟨bx,3,none⟩ (.int .i64 year)).alloc (.cells (fq A1 A2 A3 A4 c1 c2 c3 c4 f) 28)).alloc (.cells z13 48)):=BelowE.trans ⟨(Below.refl n₀ w).grown hgw hn (fun k e=>by cases e;exact hbx),fun i hi hx=>hgw.block i hi (by simp;omega)⟩ (BelowE.of_below (by rw[hz1];exact hb0) (by rw[hz1];exact hn))
 have hsz2:w.heap.size<=(((w.setCell ⟨bx,3,none⟩ (.int .i64 year)).alloc (.cells (fq A1 A2 A3 A4 c1 c2 c3 c4 f) 28)).alloc (.cells z13 48)).heap.size:=by have:=hb0.size;omega
 clear hgw hb0 hz1
 go_enter Tryz.func235,Tryz.ntmps235
 go_wp2
 generalize ((w.setCell ⟨bx,3,none⟩ (.int .i64 year)).alloc (.cells (fq A1 A2 A3 A4 c1 c2 c3 c4 f) 28)).alloc (.cells z13 48)=W0 at*
 have hlt:=(lO kr)
 refine wp_region_held_drew (S:=fun W=>(loadVar 28 ⟨w.heap.size,0,none⟩).run Tryz.prog W=.ok (.agg (fq A1 A2 A3 A4 c1 c2 c3 c4 f)) W∧(loadVar 46 ⟨bx,0,none⟩).run Tryz.prog W=.ok (.agg (i6 x.b x.n x.l year x.x x.s)) W∧W.cell? ⟨b0,0,none⟩=some (.string l)∧W.cell? ⟨b1,0,none⟩=some (.string fr)∧W.cell? ⟨b2,0,none⟩=some (.string t)) (by kernel_rfl) ⟨ld_row kf Tryz.underlying28 rfl info_fld,ld_row kx Tryz.underlying46 rfl (by kernel_rfl),(blk_cells k0).1 0,(blk_cells k1).1 0,(blk_cells k2).1 0⟩ (fun hHeld=> ?_)
 have hb:BelowE n₀ (fun i=>i<N) w W0.drew:=hb.trans (BelowE.of_below ((Below.refl _ _).drew) (by omega))
 have kf:W0.drew.heap[w.heap.size]?=_:=kf
 have kr:W0.drew.heap[w.heap.size+1]?=_:=kr
 have kx:W0.drew.heap[bx]?=_:=kx
 have k0:W0.drew.heap[b0]?=_:=k0
 have k1:W0.drew.heap[b1]?=_:=k1
 have k2:W0.drew.heap[b2]?=_:=k2
 have hsz2:w.heap.size<=W0.drew.heap.size:=hsz2
 generalize W0.drew=W0 at*
 refine tH 0 (some 11) (v:= ?v0) rfl rfl (fun W hW=> ?hy0) ?hr0
 case hy0=>(try dsimp only at hW);go_simp;try with_reducible rfl
 try simp only[Act.put,q1,q2,q3]
 refine tH 1 (some 12) (v:= ?v1) rfl rfl (fun W hW=> ?hy1) ?hr1
 case hy1=>(try dsimp only at hW);go_simp;try with_reducible rfl
 try simp only[Act.put,q1,q2,q3]
 refine tH 3 (some 14) (v:= ?v3) rfl rfl (fun W hW=> ?hy3) ?hr3
 case hy3=>(try dsimp only at hW);go_simp;try with_reducible rfl
 try simp only[Act.put,q1,q2,q3]
 refine tH 4 (some 15) (v:= ?v4) rfl rfl (fun W hW=> ?hy4) ?hr4
 case hy4=>(try dsimp only at hW);go_simp;try with_reducible rfl
 try simp only[Act.put,q1,q2,q3]
 refine tH 6 (some 17) (v:= ?v6) rfl rfl (fun W hW=> ?hy6) ?hr6
 case hy6=>(try dsimp only at hW);go_simp;try with_reducible rfl
 try simp only[Act.put,q1,q2,q3]
 refine tH 7 (some 18) (v:= ?v7) rfl rfl (fun W hW=> ?hy7) ?hr7
 case hy7=>(try dsimp only at hW);go_simp;try with_reducible rfl
 try simp only[Act.put,q1,q2,q3]
 refine tH 9 (some 20) (v:= ?v9) rfl rfl (fun W hW=> ?hy9) ?hr9
 case hy9=>(try dsimp only at hW);go_simp;try with_reducible rfl
 try simp only[Act.put,q1,q2,q3]
 refine wpAnyH_ready (rs:=[2]) (by kernel_rfl) (by simp) ?_
 refine readyH (some 13) rfl rfl (fun K hK=> ?_) AllReadyH.nil
 go_simp
 refine(limitOf_a A1 A2 A3 A4 c1 c2 c3 c4 f l _ ((hf.below hb.b).more (by omega)).li hm.li).mono ?_
 rintro e w1 ⟨he,hx⟩
 have hb:BelowE n₀ (fun i=>i<N) w w1:=hb.trans (BelowE.of_below hx (by omega))
 have hsz2:w.heap.size<=w1.heap.size:=by have:=hx.size;omega
 cases h0:Pl.limOf f l with
 |none=>
  rw[h0]at he
  subst he
  exact⟨rfl,EndM.no (by rw[HL.out,h0];rfl) hb rfl⟩
 |some i0=>
 rw[h0]at he
 subst he
 have H0:=Lib.hid h0
 clear h0
 have kf:=kE hx kf
 have kr:=kE hx kr
 have kx:=kE hx kx
 have k0:=kE hx k0
 have k1:=kE hx k1
 have k2:=kE hx k2
 clear hx
 refine hK.out _ _ ⟨ld_row kf Tryz.underlying28 rfl info_fld,ld_row kx Tryz.underlying46 rfl (by kernel_rfl),(blk_cells k0).1 0,(blk_cells k1).1 0,(blk_cells k2).1 0⟩ (fun hHeld=> ?_)
 clear hK K
 try simp only[Act.put,q1,q2,q3]
 refine wpAnyH_ready (rs:=[5]) (by kernel_rfl) (by simp) ?_
 refine readyH (some 16) rfl rfl (fun K hK=> ?_) AllReadyH.nil
 go_simp
 refine(stationOf_a A1 A2 A3 A4 c1 c2 c3 c4 f fr _ ((hf.below hb.b).more (by omega)).st hm.st).mono ?_
 rintro e w2 ⟨he,hx⟩
 have hb:BelowE n₀ (fun i=>i<N) w w2:=hb.trans (BelowE.of_below hx (by omega))
 have hsz2:w.heap.size<=w2.heap.size:=by have:=hx.size;omega
 cases h1:Pl.staOf f fr with
 |none=>
  rw[h1]at he
  subst he
  exact⟨rfl,EndM.no (by rw[HL.out,H0.out,h1];rfl) hb rfl⟩
 |some i1=>
 rw[h1]at he
 subst he
 have H1:=Lib.hid h1
 clear h1
 have kf:=kE hx kf
 have kr:=kE hx kr
 have kx:=kE hx kx
 have k0:=kE hx k0
 have k1:=kE hx k1
 have k2:=kE hx k2
 clear hx
 refine hK.out _ _ ⟨ld_row kf Tryz.underlying28 rfl info_fld,ld_row kx Tryz.underlying46 rfl (by kernel_rfl),(blk_cells k0).1 0,(blk_cells k1).1 0,(blk_cells k2).1 0⟩ (fun hHeld=> ?_)
 clear hK K
 try simp only[Act.put,q1,q2,q3]
 refine wpAnyH_ready (rs:=[8]) (by kernel_rfl) (by simp) ?_
 refine readyH (some 19) rfl rfl (fun K hK=> ?_) AllReadyH.nil
 go_simp
 refine(stationOf_a A1 A2 A3 A4 c1 c2 c3 c4 f t _ ((hf.below hb.b).more (by omega)).st hm.st).mono ?_
 rintro e w3 ⟨he,hx⟩
 have hb:BelowE n₀ (fun i=>i<N) w w3:=hb.trans (BelowE.of_below hx (by omega))
 have hsz2:w.heap.size<=w3.heap.size:=by have:=hx.size;omega
 cases h2:Pl.staOf f t with
 |none=>
  rw[h2]at he
  subst he
  exact⟨rfl,EndM.no (by rw[HL.out,H0.out,H1.out,h2];rfl) hb rfl⟩
 |some i2=>
 rw[h2]at he
 subst he
 have H2:=Lib.hid h2
 clear h2
 have kf:=kE hx kf
 have kr:=kE hx kr
 have kx:=kE hx kx
 have k0:=kE hx k0
 have k1:=kE hx k1
 have k2:=kE hx k2
 clear hx
 refine hK.out _ _ ⟨ld_row kf Tryz.underlying28 rfl info_fld,ld_row kx Tryz.underlying46 rfl (by kernel_rfl),(blk_cells k0).1 0,(blk_cells k1).1 0,(blk_cells k2).1 0⟩ (fun hHeld=> ?_)
 clear hK K
 try simp only[Act.put,q1,q2,q3]
 refine tH 10 (some 21) (v:= ?v10) rfl rfl (fun W hW=> ?hy10) ?hr10
 case hy10=>(try dsimp only at hW);go_simp;try with_reducible rfl
 try simp only[Act.put,q1,q2,q3]
 obtain⟨W5,hst,kr5,hg⟩:=st_row _ (w.heap.size+1) _ 48 _ (kA13 3 (i0:Int) 0 (i1:Int) (i2:Int) 0 0 x.b x.n x.l year x.x x.s) kr info_cal rfl (by simp[Value.oneCell'])
 have hld:=ld_row kr5 Tryz.underlying48 rfl info_cal
 have hb5:BelowE n₀ (fun i=>i<N) w W5:=⟨hb.b.grown hg (by omega) (fun k e=>by cases e;omega),fun i hi hx=>(hg.block i (by omega) (by simp;omega)).trans (hb.k i hi hx)⟩
 have kf:=(hg.block _ (lO kf) (by simp)).trans kf
 have kx:=(hg.block _ (lO kx) (by simp;omega)).trans kx
 have k0:=(hg.block _ (lO k0) (by simp;omega)).trans k0
 have k1:=(hg.block _ (lO k1) (by simp;omega)).trans k1
 have k2:=(hg.block _ (lO k2) (by simp;omega)).trans k2
 refine wpAnyH_ready (rs:=[11]) (by kernel_rfl) (by simp) ?_
 refine readyH none rfl rfl (fun K hK=> ?_) AllReadyH.nil
 go_simp
 refine hK.out _ _ ⟨ld_row kf Tryz.underlying28 rfl info_fld,ld_row kx Tryz.underlying46 rfl (by kernel_rfl),(blk_cells k0).1 0,(blk_cells k1).1 0,(blk_cells k2).1 0⟩ (fun hHeld=> ?_)
 clear hK K
 try simp only[Act.put,q1,q2,q3]
 refine wpAnyH_done (by kernel_rfl) ?_ _
 go_wp2
 refine bodyPost_ret (v:=.agg (kA13 3 (i0:Int) 0 (i1:Int) (i2:Int) 0 0 x.b x.n x.l year x.x x.s)) (by simp[results,Tryz.results235,go_sem,hld]) rfl ?_
 exact EndM.ok ⟨3,i0,0,i1,i2,0,0,{x with y:=year}⟩ (by rw[HL.out,H0.out,H1.out,H2.out];rfl) hb5 rfl
end Go.Proofs.YtgbpekeoegfjpaaGreatDoor
/- Walks: the forms of the lines of a field. -/
namespace Go.Proofs.YtgbpekeoegfjpaaGreatDoor
open Go.RowKit
attribute [-go_sem] Builtin.append_
theorem nameR_inv {ws r:List ByteArray}{a:ByteArray}(h:nameR ws=some (a,r)):ws=a::r∧Pl.isName a=true:=by
 cases ws with
 |nil=>cases h
 |cons x l=>cases e:Pl.isName x with
  |false=>rw[nameR_no e]at h;cases h
  |true=>rw[nameR_yes e]at h;cases h;exact⟨rfl,e⟩
theorem sgnR_inv {ws r:List ByteArray}{v:Int}(h:sgnR ws=some (v,r)): ∃x,ws=x::r∧Pl.sgnV x=some v:=by
 cases ws with
 |nil=>cases h
 |cons x l=>cases e:Pl.sgnV x with
  |none=>rw[sgnR_no e]at h;cases h
  |some u=>rw[sgnR_yes e]at h;cases h;exact⟨x,rfl,e⟩
theorem numR_inv {ws r:List ByteArray}{v:Int}(h:numR ws=some (v,r)): ∃x,ws=x::r∧Pl.numF x=some v:=by
 cases ws with
 |nil=>cases h
 |cons x l=>cases e:Pl.numF x with
  |none=>simp[numR,e]at h
  |some u=>simp[numR,e]at h;obtain⟨rfl,rfl⟩:=h;exact⟨x,rfl,e⟩
def staR (ws:List ByteArray):Option (ByteArray×Int):=(nameR ws).bind fun p=>(numR p.2).bind fun q=>if q.2=[]then some (p.1,q.1)else none
def EndF (bf:Nat)(X:Nat->Prop)(w:World)(o:Option Pl.Fld)(E:Int)(e:Ending)(w':World):Prop:=
 BelowE bf X w w'∧match o with
  |some f=>e=.returned (.tuple #[])∧ ∃v1 v2 v3 v4,FInv bf f w' v1 v2 v3 v4∧New X w.heap.size v1 v2 v3 v4
  |none=>e=.panicked (gave E)
def varR (ws:List ByteArray):Option (Int×Int):=(numR ws).bind fun p=>(sgnR p.2).bind fun q=>if q.2=[]then some (p.1,q.1)else none
def limR (ws:List ByteArray):Option ByteArray:=(nameR ws).bind fun p=>if p.2=[]then some p.1 else none
set_option maxHeartbeats 1000000 in
theorem formS_a (bf br:Nat)(f:Pl.Fld)(ws:List ByteArray)(v1 v2 v3 v4:Value)(w:World)(hE:Env w)(hR:Rd w br ws)(hF:FInv bf f w v1 v2 v3 v4)(h8:8<=bf)(hlt:bf<br)(hs:Sizes ws)(hk:f.st.length<=100000):
  Calls Tryz.prog 202 #[.pointer (some ⟨bf,0,none⟩),.pointer (some ⟨br,0,none⟩)] w (EndF bf (Ox bf br v1 v2 v3 v4) w ((staR ws).map fun x=> {f with st:=f.st++[x]}) 4):=by
 have hn:=name_a br ws w hR hs
 have hbr:=hR.lt
 obtain⟨A00,c00,hrd0,_,_⟩:=id hR
 cases h1:nameR ws with
 |none=>
  rw[h1]at hn
  have HO:Hid (staR ws=none):=Lib.hid (by simp[staR,h1])
  clear h1
  go_enter Tryz.func202,Tryz.ntmps202
  go_wp2_with (go_at_call 157;refine hn.mono ?_;rintro e w1 ⟨hg1,rfl⟩)
  exact⟨rfl,exit_of hrd0 hlt hg1,by rw[HO.out];rfl⟩
 | some p=>
  obtain⟨a,r⟩:=p
  obtain⟨rfl,ha⟩:=nameR_inv h1
  rw[h1]at hn
  obtain⟨_,_,hsr⟩:=hs.tail
  cases h2:numR r with
  | none=>
   have hn2: ∀W,Env W->Rd W br r->Calls Tryz.prog 158 #[.pointer (some ⟨br,0,none⟩)] W (EndR (fun v=> .int .i64 v) br W none):=fun W hE hR=>h2▸number_a br r W hE hR (by omega) hsr
   have HO:Hid (staR (a::r)=none):=Lib.hid (by simp[staR,h1,h2])
   clear h1 h2
   go_enter Tryz.func202,Tryz.ntmps202
   go_wp2_with (first
    |(go_at_call 157;refine hn.mono ?_;rintro e w1 ⟨hg1,rfl,hR1⟩;have hb1:=below_of_grown hbr hg1;have hsz1:=hb1.size)
    |(go_at_call 158;refine(hn2 _ (hE.below (B:=br) (by go_grown) (by omega)) (hR1.below (by go_grown))).mono ?_;rintro e w2 ⟨hg2,rfl⟩))
   exact⟨rfl,exit_of hrd0 hlt ((hg1.trans ((World.grownBy_alloc w1 _ none).but _)).trans hg2),by rw[HO.out];rfl⟩
  | some q=>
   obtain⟨x,r'⟩:=q
   obtain⟨y,rfl,hy⟩:=numR_inv h2
   have hn2: ∀W,Env W->Rd W br (y::r')->Calls Tryz.prog 158 #[.pointer (some ⟨br,0,none⟩)] W (EndR (fun v=> .int .i64 v) br W (some (x,r'))):=fun W hE hR=>h2▸number_a br (y::r') W hE hR (by omega) hsr
   cases r' with
   | cons z l=>
    have HO:Hid (staR (a::y::z::l)=none):=Lib.hid (by simp[staR,h1,h2])
    clear h1 h2 hy ha
    go_enter Tryz.func202,Tryz.ntmps202
    go_wp2_with (first
     |(go_at_call 157;refine hn.mono ?_;rintro e w1 ⟨hg1,rfl,hR1⟩;have hb1:=below_of_grown hbr hg1;have hsz1:=hb1.size;have ks:=heap_alloc_new w1 (.cells #[.string a,.int .i64 0] 50))
     |(go_at_call 158;refine(hn2 _ (hE.below (B:=br) (by go_grown) (by omega)) (hR1.below (by go_grown))).mono ?_;rintro e w2 ⟨hg2,rfl,hR2⟩;have hb2:=(hb1.alloc (by omega) (.cells #[.string a,.int .i64 0] 50)).trans (below_of_grown (by simp;omega) hg2);have hlt1:=hR1.lt;have ks:=(hg2.block w1.heap.size (by simp) (by simp;omega)).trans ks;obtain⟨hcs,hfs⟩:=blk_cells ks;have hR3:=hR2.kept (grown_set w2 w1.heap.size 1 (.int .i64 x)) hlt1)
     |(go_at_call 159;refine(end_no br z l _ hR3).mono ?_;rintro e w3 ⟨rfl,hx3⟩))
    exact⟨rfl,exit_of hrd0 hlt (grown_up (((hg1.trans ((World.grownBy_alloc w1 _ none).but _)).trans hg2).andThen (grown_set w2 w1.heap.size 1 _) (fun j e=>by cases e;exact .inl hsz1)) hx3),by rw[HO.out];rfl⟩
   | nil=>
    have HO:Hid (staR [a,y]=some (a,x)):=Lib.hid (by simp[staR,h1,h2])
    obtain⟨A0,c0,hrd,_,_⟩:=hR
    have hF1:=fun W (hg:w.grownBy W (some br))=>hF.kept hrd hg
    clear h1 h2 hy ha
    go_enter Tryz.func202,Tryz.ntmps202
    go_wp2_with (first
     |(go_at_call 157;refine hn.mono ?_;rintro e w1 ⟨hg1,rfl,hR1⟩;have hb1:=below_of_grown hbr hg1;have hsz1:=hb1.size;have ks:=heap_alloc_new w1 (.cells #[.string a,.int .i64 0] 50))
     |(go_at_call 158;refine(hn2 _ (hE.below (B:=br) (by go_grown) (by omega)) (hR1.below (by go_grown))).mono ?_;rintro e w2 ⟨hg2,rfl,hR2⟩;have hb2:=(hb1.alloc (by omega) (.cells #[.string a,.int .i64 0] 50)).trans (below_of_grown (by simp;omega) hg2);have hlt1:=hR1.lt;have ks:=(hg2.block w1.heap.size (by simp) (by simp;omega)).trans ks;obtain⟨hcs,hfs⟩:=blk_cells ks;have hR3:=hR2.kept (grown_set w2 w1.heap.size 1 (.int .i64 x)) hlt1)
     |(go_at_call 159;refine(end_yes br _ hR3).mono ?_;rintro e w3 ⟨rfl,rfl⟩))
    have hg3:w1.grownBy (w2.setCell ⟨w1.heap.size,1,none⟩ (.int .i64 x)) (some br):=(((World.grownBy_alloc w1 _ none).but _).trans hg2).andThen (grown_set w2 w1.heap.size 1 (.int .i64 x)) (fun j e=>by cases e;exact .inl (Nat.le_refl _))
    obtain⟨A1',c1',hrd1,_,_⟩:=hR1
    have hF3:=(hF1 w1 hg1).kept hrd1 hg3
    have ks3:=heap_setCell_same w2 w1.heap.size 1 _ _ (.int .i64 x) ks
    have hbE:BelowE bf (Ox bf br v1 v2 v3 v4) w (w2.setCell ⟨w1.heap.size,1,none⟩ (.int .i64 x)).drew:=(exit_of hrd0 hlt (hg1.trans hg3)).trans (BelowE.of_below ((Below.refl _ _).drew) (by have:=hg3.size;omega))
    clear hcs hfs ks hR2 hR3 hg2 hb2 hg3 hF1
    generalize w2.setCell ⟨w1.heap.size,1,none⟩ (.int .i64 x)=W at*
    obtain⟨g',cap',w4,hrun,hbx,hF4,hb4,hsz4,hnw4⟩:=push_sta (hF3.below ((Below.refl _ W).drew)) (a,x) hk
    obtain⟨hcb,hfb⟩:=blk_cells hF3.box
    obtain⟨hcs,hfs⟩:=blk_cells ks3
    obtain⟨hcx,hfx⟩:=blk_cells hbx
    have hltW:=hF3.lt
    have F4:=Lib.hid hF4;have N4:=Lib.hid (hnw4 br)
    clear hF4 hF3 hF hnw4
    have hrun:(Builtin.append_ #[23,23] 23 #[v1,.slice (some ⟨W.heap.size,0,none⟩) 1 1]).run Tryz.prog (W.alloc (.cells #[.string a,.int .i64 x] 50)).drew=.ok (.slice (some ⟨g',0,none⟩) (f.st.length+1) cap') w4:=hrun
    have q0:=hcb 0
    have q1:=hcs 0
    have q2:=hcs 1
    have q3:(W.alloc (.cells #[.string a,.int .i64 x] 50)).cell? ⟨bf,0,none⟩=some v1:=(World.cell?_of_block (Below.heap_alloc _ _ _ hltW)).trans q0
    go_region_with (fail)
    all_goals go_end0
    all_goals exact⟨(hbE.trans (hb4 br)),by rw[HO.out];exact⟨rfl,_,_,_,_,F4.out,N4.out _ hbE.b.size⟩⟩
set_option maxHeartbeats 1000000 in
theorem formV_a (bf br:Nat)(f:Pl.Fld)(ws:List ByteArray)(v1 v2 v3 v4:Value)(w:World)(hE:Env w)(hR:Rd w br ws)(hF:FInv bf f w v1 v2 v3 v4)(h8:8<=bf)(hlt:bf<br)(hs:Sizes ws)(hk:f.va.length<=100000):
  Calls Tryz.prog 207 #[.pointer (some ⟨bf,0,none⟩),.pointer (some ⟨br,0,none⟩)] w (EndF bf (Ox bf br v1 v2 v3 v4) w ((varR ws).map fun x=> {f with va:=f.va++[x]}) 4):=by
 have hn:=number_a br ws w hE hR (by omega) hs
 have hbr:=hR.lt
 obtain⟨A00,c00,hrd0,_,_⟩:=id hR
 cases h1:numR ws with
 |none=>
  rw[h1]at hn
  have HO:Hid (varR ws=none):=Lib.hid (by simp[varR,h1])
  clear h1
  go_enter Tryz.func207,Tryz.ntmps207
  go_wp2_with (go_at_call 158;refine hn.mono ?_;rintro e w1 ⟨hg1,rfl⟩)
  exact⟨rfl,exit_of hrd0 hlt hg1,by rw[HO.out];rfl⟩
 | some p=>
  obtain⟨a,r⟩:=p
  obtain⟨a',rfl,ha⟩:=numR_inv h1
  rw[h1]at hn
  obtain⟨_,_,hsr⟩:=hs.tail
  cases h2:sgnR r with
  | none=>
   have hn2: ∀W,Env W->Rd W br r->Calls Tryz.prog 208 #[.pointer (some ⟨br,0,none⟩)] W (EndR (fun v=> .int .i64 v) br W none):=fun W hE hR=>h2▸signed_a br r W hE hR (by omega) hsr
   have HO:Hid (varR (a'::r)=none):=Lib.hid (by simp[varR,h1,h2])
   clear h1 h2
   go_enter Tryz.func207,Tryz.ntmps207
   go_wp2_with (first
    |(go_at_call 158;refine hn.mono ?_;rintro e w1 ⟨hg1,rfl,hR1⟩;have hb1:=below_of_grown hbr hg1;have hsz1:=hb1.size)
    |(go_at_call 208;refine(hn2 _ (hE.below (B:=br) (by go_grown) (by omega)) (hR1.below (by go_grown))).mono ?_;rintro e w2 ⟨hg2,rfl⟩))
   exact⟨rfl,exit_of hrd0 hlt ((hg1.trans ((World.grownBy_alloc w1 _ none).but _)).trans hg2),by rw[HO.out];rfl⟩
  | some q=>
   obtain⟨x,r'⟩:=q
   obtain⟨y,rfl,hy⟩:=sgnR_inv h2
   have hn2: ∀W,Env W->Rd W br (y::r')->Calls Tryz.prog 208 #[.pointer (some ⟨br,0,none⟩)] W (EndR (fun v=> .int .i64 v) br W (some (x,r'))):=fun W hE hR=>h2▸signed_a br (y::r') W hE hR (by omega) hsr
   cases r' with
   | cons z l=>
    have HO:Hid (varR (a'::y::z::l)=none):=Lib.hid (by simp[varR,h1,h2])
    clear h1 h2 hy ha
    go_enter Tryz.func207,Tryz.ntmps207
    go_wp2_with (first
     |(go_at_call 158;refine hn.mono ?_;rintro e w1 ⟨hg1,rfl,hR1⟩;have hb1:=below_of_grown hbr hg1;have hsz1:=hb1.size;have ks:=heap_alloc_new w1 (.cells (i2 a 0) 114))
     |(go_at_call 208;refine(hn2 _ (hE.below (B:=br) (by go_grown) (by omega)) (hR1.below (by go_grown))).mono ?_;rintro e w2 ⟨hg2,rfl,hR2⟩;have hb2:=(hb1.alloc (by omega) (.cells (i2 a 0) 114)).trans (below_of_grown (by simp;omega) hg2);have hlt1:=hR1.lt;have ks:=(hg2.block w1.heap.size (by simp) (by simp;omega)).trans ks;obtain⟨hcs,hfs⟩:=blk_cells ks;have hR3:=hR2.kept (grown_set w2 w1.heap.size 1 (.int .i64 x)) hlt1)
     |(go_at_call 159;refine(end_no br z l _ hR3).mono ?_;rintro e w3 ⟨rfl,hx3⟩))
    exact⟨rfl,exit_of hrd0 hlt (grown_up (((hg1.trans ((World.grownBy_alloc w1 _ none).but _)).trans hg2).andThen (grown_set w2 w1.heap.size 1 _) (fun j e=>by cases e;exact .inl hsz1)) hx3),by rw[HO.out];rfl⟩
   | nil=>
    have HO:Hid (varR [a',y]=some (a,x)):=Lib.hid (by simp[varR,h1,h2])
    obtain⟨A0,c0,hrd,_,_⟩:=hR
    have hF1:=fun W (hg:w.grownBy W (some br))=>hF.kept hrd hg
    clear h1 h2 hy ha
    go_enter Tryz.func207,Tryz.ntmps207
    go_wp2_with (first
     |(go_at_call 158;refine hn.mono ?_;rintro e w1 ⟨hg1,rfl,hR1⟩;have hb1:=below_of_grown hbr hg1;have hsz1:=hb1.size;have ks:=heap_alloc_new w1 (.cells (i2 a 0) 114))
     |(go_at_call 208;refine(hn2 _ (hE.below (B:=br) (by go_grown) (by omega)) (hR1.below (by go_grown))).mono ?_;rintro e w2 ⟨hg2,rfl,hR2⟩;have hb2:=(hb1.alloc (by omega) (.cells (i2 a 0) 114)).trans (below_of_grown (by simp;omega) hg2);have hlt1:=hR1.lt;have ks:=(hg2.block w1.heap.size (by simp) (by simp;omega)).trans ks;obtain⟨hcs,hfs⟩:=blk_cells ks;have hR3:=hR2.kept (grown_set w2 w1.heap.size 1 (.int .i64 x)) hlt1)
     |(go_at_call 159;refine(end_yes br _ hR3).mono ?_;rintro e w3 ⟨rfl,rfl⟩))
    have hg3:w1.grownBy (w2.setCell ⟨w1.heap.size,1,none⟩ (.int .i64 x)) (some br):=(((World.grownBy_alloc w1 _ none).but _).trans hg2).andThen (grown_set w2 w1.heap.size 1 (.int .i64 x)) (fun j e=>by cases e;exact .inl (Nat.le_refl _))
    obtain⟨A1',c1',hrd1,_,_⟩:=hR1
    have hF3:=(hF1 w1 hg1).kept hrd1 hg3
    have ks3:=heap_setCell_same w2 w1.heap.size 1 _ _ (.int .i64 x) ks
    have hbE:BelowE bf (Ox bf br v1 v2 v3 v4) w (w2.setCell ⟨w1.heap.size,1,none⟩ (.int .i64 x)).drew:=(exit_of hrd0 hlt (hg1.trans hg3)).trans (BelowE.of_below ((Below.refl _ _).drew) (by have:=hg3.size;omega))
    clear hcs hfs ks hR2 hR3 hg2 hb2 hg3 hF1
    generalize w2.setCell ⟨w1.heap.size,1,none⟩ (.int .i64 x)=W at*
    obtain⟨g',cap',w4,hrun,hbx,hF4,hb4,hsz4,hnw4⟩:=push_var (hF3.below ((Below.refl _ W).drew)) (a,x) hk
    obtain⟨hcb,hfb⟩:=blk_cells hF3.box
    obtain⟨hcs,hfs⟩:=blk_cells ks3
    obtain⟨hcx,hfx⟩:=blk_cells hbx
    have hltW:=hF3.lt
    have F4:=Lib.hid hF4;have N4:=Lib.hid (hnw4 br)
    clear hF4 hF3 hF hnw4
    have hrun:(Builtin.append_ #[26,26] 26 #[v4,.slice (some ⟨W.heap.size,0,none⟩) 1 1]).run Tryz.prog (W.alloc (.cells (i2 a x) 114)).drew=.ok (.slice (some ⟨g',0,none⟩) (f.va.length+1) cap') w4:=hrun
    have q0:=hcb 3
    have q1:=hcs 0
    have q2:=hcs 1
    have q3:(W.alloc (.cells (i2 a x) 114)).cell? ⟨bf,3,none⟩=some v4:=(World.cell?_of_block (Below.heap_alloc _ _ _ hltW)).trans q0
    go_region_with (fail)
    all_goals go_end0
    all_goals exact⟨(hbE.trans (hb4 br)),by rw[HO.out];exact⟨rfl,_,_,_,_,F4.out,N4.out _ hbE.b.size⟩⟩
set_option maxHeartbeats 1000000 in
theorem formL_a (bf br:Nat)(f:Pl.Fld)(ws:List ByteArray)(v1 v2 v3 v4:Value)(w:World)(hR:Rd w br ws)(hF:FInv bf f w v1 v2 v3 v4)(hlt:bf<br)(hs:Sizes ws)(hk:f.li.length<=100000):
  Calls Tryz.prog 203 #[.pointer (some ⟨bf,0,none⟩),.pointer (some ⟨br,0,none⟩)] w (EndF bf (Ox bf br v1 v2 v3 v4) w ((limR ws).map fun x=> {f with li:=f.li++[x]}) 4):=by
 have hn:=name_a br ws w hR hs
 have hbr:=hR.lt
 obtain⟨A00,c00,hrd0,_,_⟩:=id hR
 cases h1:nameR ws with
 |none=>
  rw[h1]at hn
  have HO:Hid (limR ws=none):=Lib.hid (by simp[limR,h1])
  clear h1
  go_enter Tryz.func203,Tryz.ntmps203
  go_wp2_with (go_at_call 157;refine hn.mono ?_;rintro e w1 ⟨hg1,rfl⟩)
  exact⟨rfl,exit_of hrd0 hlt hg1,by rw[HO.out];rfl⟩
 | some p=>
  obtain⟨a,r⟩:=p
  obtain⟨rfl,ha⟩:=nameR_inv h1
  rw[h1]at hn
  cases r with
  | cons z l=>
   have HO:Hid (limR (a::z::l)=none):=Lib.hid (by simp[limR,h1])
   clear h1 ha
   go_enter Tryz.func203,Tryz.ntmps203
   go_wp2_with (first
    |(go_at_call 157;refine hn.mono ?_;rintro e w1 ⟨hg1,rfl,hR1⟩;have hb1:=below_of_grown hbr hg1)
    |(go_at_call 159;refine(end_no br z l _ hR1).mono ?_;rintro e w3 ⟨rfl,hx3⟩))
   exact⟨rfl,exit_of hrd0 hlt (grown_up hg1 hx3),by rw[HO.out];rfl⟩
  | nil=>
   have HO:Hid (limR [a]=some a):=Lib.hid (by simp[limR,h1])
   obtain⟨A0,c0,hrd,_,_⟩:=hR
   have hF1:=fun W (hg:w.grownBy W (some br))=>hF.kept hrd hg
   clear h1 ha
   go_enter Tryz.func203,Tryz.ntmps203
   go_wp2_with (first
    |(go_at_call 157;refine hn.mono ?_;rintro e w1 ⟨hg1,rfl,hR1⟩;have hb1:=below_of_grown hbr hg1;have hF3:=hF1 _ hg1;obtain⟨g',cap',w4,hrun,hbx,hF4,hb4,hsz4,hnw4⟩:=push_lim hF3 a hk;obtain⟨hcb,hfb⟩:=blk_cells hF3.box;obtain⟨hcx,hfx⟩:=blk_cells hbx;have F4:=Lib.hid hF4;have N4:=Lib.hid (hnw4 br);clear hF4 hF3 hnw4)
    |(go_at_call 159;refine(end_yes br _ hR1).mono ?_;rintro e w3 ⟨rfl,rfl⟩))
   all_goals go_end0
   all_goals exact⟨(exit_of hrd0 hlt hg1).trans (hb4 br),by rw[HO.out];exact⟨rfl,_,_,_,_,F4.out,N4.out _ hg1.size⟩⟩
end Go.Proofs.YtgbpekeoegfjpaaGreatDoor
/- Walks: the words of a call read, as far as no field is needed. -/
namespace Go.Proofs.YtgbpekeoegfjpaaGreatDoor
open Go.RowKit
def FormOk (n₀ N:Nat)(W:World)(v:Value)(x:Pl.Frm):Prop:=
 ∃ g cap,v=.func (.func g) #[] cap∧(∀args W,(callFunc g args).run Tryz.prog W=.ok (.enter g args) W)∧
  ∀W',Below W.heap.size W W'-> ∀(A1 A2 A3 A4:Option Addr) (c1 c2 c3 c4:Nat) (f:Pl.Fld) (year:Int),FldS W' n₀ A1 A2 A3 A4 f->n₀<=W'.heap.size->Small f->
   Calls Tryz.prog g (#[.agg (fq A1 A2 A3 A4 c1 c2 c3 c4 f),.int .i64 year]++cap) W' (EndM n₀ N W' (Pl.looked f x year))
theorem FormOk.up {n₀ N:Nat}{W W':World}{v:Value}{x:Pl.Frm}(h:FormOk n₀ N W v x)(hb:Below W.heap.size W W'):FormOk n₀ N W' v x:=by
 obtain⟨g,cap,h1,h2,h3⟩:=h
 exact⟨g,cap,h1,h2,fun W2 hW2=>h3 W2 (hb.trans (hW2.mono hb.size))⟩
def EndFm (n₀ br:Nat)(w:World)(o:Option (Pl.Frm×List ByteArray))(e:Ending)(w':World):Prop:=
 w.grownBy w' (some br)∧match o with
  |some (x,r)=>(∃v,e=.returned v∧FormOk n₀ w'.heap.size w' v x)∧Rd w' br r
  |none=>e=.panicked (gave 4)
theorem EndFm.ok {n₀ br:Nat}{w w':World}{o:Option (Pl.Frm×List ByteArray)}{e:Ending}{x:Pl.Frm}{r:List ByteArray}{v:Value}(ho:o=some (x,r))(hg:w.grownBy w' (some br))(he:e=.returned v)(hF:FormOk n₀ w'.heap.size w' v x)(hR:Rd w' br r):EndFm n₀ br w o e w':=by
 subst ho;exact⟨hg,⟨v,he,hF⟩,hR⟩
theorem EndFm.no {n₀ br:Nat}{w w':World}{o:Option (Pl.Frm×List ByteArray)}{e:Ending}(ho:o=none)(hg:w.grownBy w' (some br))(he:e=.panicked (gave 4)):EndFm n₀ br w o e w':=by subst ho;exact⟨hg,he⟩
theorem nameR_sizes {ws r:List ByteArray}{x:ByteArray}(h:nameR ws=some (x,r))(hs:Sizes ws):Sizes r:=by
 obtain⟨rfl,_⟩:=nameR_inv h
 exact hs.tail.2.2
theorem sgnR_sizes {ws r:List ByteArray}{x:Int}(h:sgnR ws=some (x,r))(hs:Sizes ws):Sizes r:=by
 obtain⟨y,rfl,_⟩:=sgnR_inv h
 exact hs.tail.2.2
theorem numR_sizes {ws r:List ByteArray}{x:Int}(h:numR ws=some (x,r))(hs:Sizes ws):Sizes r:=by
 obtain⟨y,rfl,_⟩:=numR_inv h
 exact hs.tail.2.2
theorem grown_self (w:World)(o:Option Nat):w.grownBy w o:=⟨rfl,rfl,rfl,Nat.le_refl _,fun _ _ _=>rfl⟩
theorem grown_ne {w w':World}{br b:Nat}{o:Obj}(hg:w.grownBy w' (some br))(h:w.heap[b]?=some o)(hne:br<b):w'.heap[b]?=some o:=
 (hg.block b (lO h) (by simp;omega)).trans h
def stoneR (ws:List ByteArray):Option (Pl.Frm×List ByteArray):=(nameR ws).bind fun p1=>(nameR p1.2).bind fun p2=>(numR p2.2).bind fun p3=>(numR p3.2).bind fun p4=>some (⟨1,p1.1,⟨#[]⟩,p2.1,⟨#[]⟩,p3.1,p4.1,Pl.Crs.zero⟩,p4.2)
set_option maxHeartbeats 4000000 in
theorem read_stone (n₀ br:Nat)(ws:List ByteArray)(w:World)(hE:Env w)(hR:Rd w br ws)(hbr:8<=br)(hs:Sizes ws)(hn:n₀<=w.heap.size):
  Calls Tryz.prog 222 #[.pointer (some ⟨br,0,none⟩)] w (EndFm n₀ br w (stoneR ws)):=by
 have hlt:=hR.lt
 have hG:w.grownBy w (some br):=grown_self w (some br)
 have hmf: ∀(fn:Fn) (first cap:Array Value) (w:World),(Instr.makeFunc fn first cap).run Tryz.prog w=.ok (.func fn first cap) w:=fun _ _ _ _=>rfl
 go_enter Tryz.func222,Tryz.ntmps222
 go_wp2_with fail
 refine(name_a br ws _ hR hs).mono ?_
 rintro e w1 ⟨hg,hm⟩
 cases h1:nameR ws with
 |none=>
  rw[h1]at hm
  subst hm
  exact⟨rfl,EndFm.no (by simp[stoneR,h1]) (hG.trans hg) rfl⟩
 |some p1=>
 obtain⟨v1,r1⟩:=p1
 rw[h1]at hm
 obtain⟨rfl,hR⟩:=hm
 have hs1:=nameR_sizes h1 hs
 have H1:=Lib.hid h1
 clear h1
 have hG:=(hG.trans hg).trans ((World.grownBy_alloc w1 (.cells #[.string v1] 9) none).but (some br))
 have hR:=hR.below ((Below.refl _ w1).alloc (Nat.le_refl _) (.cells #[.string v1] 9))
 have hlo1:br<w1.heap.size:=by have:=hg.size;omega
 have hn1:n₀<=w1.heap.size:=by have:=hg.size;omega
 have k1:=heap_alloc_new w1 (.cells #[.string v1] 9)
 clear hg
 go_wp2_with fail
 generalize hWW:w1.alloc (.cells #[.string v1] 9)=W1 at*
 clear hWW
 refine(name_a br r1 _ hR hs1).mono ?_
 rintro e w2 ⟨hg,hm⟩
 cases h2:nameR r1 with
 |none=>
  rw[h2]at hm
  subst hm
  exact⟨rfl,EndFm.no (by simp[stoneR,H1.out,h2]) (hG.trans hg) rfl⟩
 |some p2=>
 obtain⟨v2,r2⟩:=p2
 rw[h2]at hm
 obtain⟨rfl,hR⟩:=hm
 have hs2:=nameR_sizes h2 hs1
 have H2:=Lib.hid h2
 clear h2
 have hG:=(hG.trans hg).trans ((World.grownBy_alloc w2 (.cells #[.string v2] 9) none).but (some br))
 have hR:=hR.below ((Below.refl _ w2).alloc (Nat.le_refl _) (.cells #[.string v2] 9))
 have hlo2:br<w2.heap.size:=by have:=hg.size;have:=(lO k1);omega
 have k1:=grown_ne hg k1 hlo1
 have k1:=(Below.heap_alloc w2 (.cells #[.string v2] 9) _ (lO k1)).trans k1
 have k2:=heap_alloc_new w2 (.cells #[.string v2] 9)
 clear hg
 go_wp2_with fail
 generalize hWW:w2.alloc (.cells #[.string v2] 9)=W2 at*
 clear hWW
 refine(number_a br r2 _ (hE.below (below_of_grown hlt hG) hbr) hR hbr hs2).mono ?_
 rintro e w3 ⟨hg,hm⟩
 cases h3:numR r2 with
 |none=>
  rw[h3]at hm
  subst hm
  exact⟨rfl,EndFm.no (by simp[stoneR,H1.out,H2.out,h3]) (hG.trans hg) rfl⟩
 |some p3=>
 obtain⟨v3,r3⟩:=p3
 rw[h3]at hm
 obtain⟨rfl,hR⟩:=hm
 have hs3:=numR_sizes h3 hs2
 have H3:=Lib.hid h3
 clear h3
 have hG:=(hG.trans hg).trans ((World.grownBy_alloc w3 (.cells #[.int .i64 v3] 3) none).but (some br))
 have hR:=hR.below ((Below.refl _ w3).alloc (Nat.le_refl _) (.cells #[.int .i64 v3] 3))
 have hlo3:br<w3.heap.size:=by have:=hg.size;have:=(lO k2);omega
 have k1:=grown_ne hg k1 hlo1
 have k1:=(Below.heap_alloc w3 (.cells #[.int .i64 v3] 3) _ (lO k1)).trans k1
 have k2:=grown_ne hg k2 hlo2
 have k2:=(Below.heap_alloc w3 (.cells #[.int .i64 v3] 3) _ (lO k2)).trans k2
 have k3:=heap_alloc_new w3 (.cells #[.int .i64 v3] 3)
 clear hg
 go_wp2_with fail
 generalize hWW:w3.alloc (.cells #[.int .i64 v3] 3)=W3 at*
 clear hWW
 refine(number_a br r3 _ (hE.below (below_of_grown hlt hG) hbr) hR hbr hs3).mono ?_
 rintro e w4 ⟨hg,hm⟩
 cases h4:numR r3 with
 |none=>
  rw[h4]at hm
  subst hm
  exact⟨rfl,EndFm.no (by simp[stoneR,H1.out,H2.out,H3.out,h4]) (hG.trans hg) rfl⟩
 |some p4=>
 obtain⟨v4,r4⟩:=p4
 rw[h4]at hm
 obtain⟨rfl,hR⟩:=hm
 have hs4:=numR_sizes h4 hs3
 have H4:=Lib.hid h4
 clear h4
 have hG:=(hG.trans hg).trans ((World.grownBy_alloc w4 (.cells #[.int .i64 v4] 3) none).but (some br))
 have hR:=hR.below ((Below.refl _ w4).alloc (Nat.le_refl _) (.cells #[.int .i64 v4] 3))
 have hlo4:br<w4.heap.size:=by have:=hg.size;have:=(lO k3);omega
 have k1:=grown_ne hg k1 hlo1
 have k1:=(Below.heap_alloc w4 (.cells #[.int .i64 v4] 3) _ (lO k1)).trans k1
 have k2:=grown_ne hg k2 hlo2
 have k2:=(Below.heap_alloc w4 (.cells #[.int .i64 v4] 3) _ (lO k2)).trans k2
 have k3:=grown_ne hg k3 hlo3
 have k3:=(Below.heap_alloc w4 (.cells #[.int .i64 v4] 3) _ (lO k3)).trans k3
 have k4:=heap_alloc_new w4 (.cells #[.int .i64 v4] 3)
 clear hg
 go_wp2
 generalize hWW:w4.alloc (.cells #[.int .i64 v4] 3)=W4 at*
 clear hWW
 go_ret
 refine EndFm.ok (x:=⟨1,v1,⟨#[]⟩,v2,⟨#[]⟩,v3,v4,Pl.Crs.zero⟩) (by simp[stoneR,H1.out,H2.out,H3.out,H4.out]) hG rfl ⟨223,#[.pointer (some ⟨w1.heap.size,0,none⟩),.pointer (some ⟨w2.heap.size,0,none⟩),.pointer (some ⟨w3.heap.size,0,none⟩),.pointer (some ⟨w4.heap.size,0,none⟩)],rfl,fun args W=>enters_of (P:=Tryz.prog) Tryz.func223 (by kernel_rfl) rfl args W,fun W' hW' A1 A2 A3 A4 c1 c2 c3 c4 f year hf hn' hm=> ?_⟩ hR
 have hk: ∀b o,W4.heap[b]?=some o->W'.heap[b]?=some o:=fun b o h=>(hW'.block b (lO h)).trans h
 have:=made_stone A1 A2 A3 A4 c1 c2 c3 c4 f n₀ W4.heap.size v1 v2 v3 v4 w1.heap.size w2.heap.size w3.heap.size w4.heap.size year W' hf hn' hm (hk _ _ k1) (hk _ _ k2) (hk _ _ k3) (hk _ _ k4)
 simpa using this
def widthR (ws:List ByteArray):Option (Pl.Frm×List ByteArray):=(nameR ws).bind fun p1=>(nameR p1.2).bind fun p2=>(nameR p2.2).bind fun p3=>(numR p3.2).bind fun p4=>(numR p4.2).bind fun p5=>some (⟨2,p1.1,p2.1,p3.1,⟨#[]⟩,p4.1,p5.1,Pl.Crs.zero⟩,p5.2)
set_option maxHeartbeats 4000000 in
theorem read_width (n₀ br:Nat)(ws:List ByteArray)(w:World)(hE:Env w)(hR:Rd w br ws)(hbr:8<=br)(hs:Sizes ws)(hn:n₀<=w.heap.size):
  Calls Tryz.prog 224 #[.pointer (some ⟨br,0,none⟩)] w (EndFm n₀ br w (widthR ws)):=by
 have hlt:=hR.lt
 have hG:w.grownBy w (some br):=grown_self w (some br)
 have hmf: ∀(fn:Fn) (first cap:Array Value) (w:World),(Instr.makeFunc fn first cap).run Tryz.prog w=.ok (.func fn first cap) w:=fun _ _ _ _=>rfl
 go_enter Tryz.func224,Tryz.ntmps224
 go_wp2_with fail
 refine(name_a br ws _ hR hs).mono ?_
 rintro e w1 ⟨hg,hm⟩
 cases h1:nameR ws with
 |none=>
  rw[h1]at hm
  subst hm
  exact⟨rfl,EndFm.no (by simp[widthR,h1]) (hG.trans hg) rfl⟩
 |some p1=>
 obtain⟨v1,r1⟩:=p1
 rw[h1]at hm
 obtain⟨rfl,hR⟩:=hm
 have hs1:=nameR_sizes h1 hs
 have H1:=Lib.hid h1
 clear h1
 have hG:=(hG.trans hg).trans ((World.grownBy_alloc w1 (.cells #[.string v1] 9) none).but (some br))
 have hR:=hR.below ((Below.refl _ w1).alloc (Nat.le_refl _) (.cells #[.string v1] 9))
 have hlo1:br<w1.heap.size:=by have:=hg.size;omega
 have hn1:n₀<=w1.heap.size:=by have:=hg.size;omega
 have k1:=heap_alloc_new w1 (.cells #[.string v1] 9)
 clear hg
 go_wp2_with fail
 generalize hWW:w1.alloc (.cells #[.string v1] 9)=W1 at*
 clear hWW
 refine(name_a br r1 _ hR hs1).mono ?_
 rintro e w2 ⟨hg,hm⟩
 cases h2:nameR r1 with
 |none=>
  rw[h2]at hm
  subst hm
  exact⟨rfl,EndFm.no (by simp[widthR,H1.out,h2]) (hG.trans hg) rfl⟩
 |some p2=>
 obtain⟨v2,r2⟩:=p2
 rw[h2]at hm
 obtain⟨rfl,hR⟩:=hm
 have hs2:=nameR_sizes h2 hs1
 have H2:=Lib.hid h2
 clear h2
 have hG:=(hG.trans hg).trans ((World.grownBy_alloc w2 (.cells #[.string v2] 9) none).but (some br))
 have hR:=hR.below ((Below.refl _ w2).alloc (Nat.le_refl _) (.cells #[.string v2] 9))
 have hlo2:br<w2.heap.size:=by have:=hg.size;have:=(lO k1);omega
 have k1:=grown_ne hg k1 hlo1
 have k1:=(Below.heap_alloc w2 (.cells #[.string v2] 9) _ (lO k1)).trans k1
 have k2:=heap_alloc_new w2 (.cells #[.string v2] 9)
 clear hg
 go_wp2_with fail
 generalize hWW:w2.alloc (.cells #[.string v2] 9)=W2 at*
 clear hWW
 refine(name_a br r2 _ hR hs2).mono ?_
 rintro e w3 ⟨hg,hm⟩
 cases h3:nameR r2 with
 |none=>
  rw[h3]at hm
  subst hm
  exact⟨rfl,EndFm.no (by simp[widthR,H1.out,H2.out,h3]) (hG.trans hg) rfl⟩
 |some p3=>
 obtain⟨v3,r3⟩:=p3
 rw[h3]at hm
 obtain⟨rfl,hR⟩:=hm
 have hs3:=nameR_sizes h3 hs2
 have H3:=Lib.hid h3
 clear h3
 have hG:=(hG.trans hg).trans ((World.grownBy_alloc w3 (.cells #[.string v3] 9) none).but (some br))
 have hR:=hR.below ((Below.refl _ w3).alloc (Nat.le_refl _) (.cells #[.string v3] 9))
 have hlo3:br<w3.heap.size:=by have:=hg.size;have:=(lO k2);omega
 have k1:=grown_ne hg k1 hlo1
 have k1:=(Below.heap_alloc w3 (.cells #[.string v3] 9) _ (lO k1)).trans k1
 have k2:=grown_ne hg k2 hlo2
 have k2:=(Below.heap_alloc w3 (.cells #[.string v3] 9) _ (lO k2)).trans k2
 have k3:=heap_alloc_new w3 (.cells #[.string v3] 9)
 clear hg
 go_wp2_with fail
 generalize hWW:w3.alloc (.cells #[.string v3] 9)=W3 at*
 clear hWW
 refine(number_a br r3 _ (hE.below (below_of_grown hlt hG) hbr) hR hbr hs3).mono ?_
 rintro e w4 ⟨hg,hm⟩
 cases h4:numR r3 with
 |none=>
  rw[h4]at hm
  subst hm
  exact⟨rfl,EndFm.no (by simp[widthR,H1.out,H2.out,H3.out,h4]) (hG.trans hg) rfl⟩
 |some p4=>
 obtain⟨v4,r4⟩:=p4
 rw[h4]at hm
 obtain⟨rfl,hR⟩:=hm
 have hs4:=numR_sizes h4 hs3
 have H4:=Lib.hid h4
 clear h4
 have hG:=(hG.trans hg).trans ((World.grownBy_alloc w4 (.cells #[.int .i64 v4] 3) none).but (some br))
 have hR:=hR.below ((Below.refl _ w4).alloc (Nat.le_refl _) (.cells #[.int .i64 v4] 3))
 have hlo4:br<w4.heap.size:=by have:=hg.size;have:=(lO k3);omega
 have k1:=grown_ne hg k1 hlo1
 have k1:=(Below.heap_alloc w4 (.cells #[.int .i64 v4] 3) _ (lO k1)).trans k1
 have k2:=grown_ne hg k2 hlo2
 have k2:=(Below.heap_alloc w4 (.cells #[.int .i64 v4] 3) _ (lO k2)).trans k2
 have k3:=grown_ne hg k3 hlo3
 have k3:=(Below.heap_alloc w4 (.cells #[.int .i64 v4] 3) _ (lO k3)).trans k3
 have k4:=heap_alloc_new w4 (.cells #[.int .i64 v4] 3)
 clear hg
 go_wp2_with fail
 generalize hWW:w4.alloc (.cells #[.int .i64 v4] 3)=W4 at*
 clear hWW
 refine(number_a br r4 _ (hE.below (below_of_grown hlt hG) hbr) hR hbr hs4).mono ?_
 rintro e w5 ⟨hg,hm⟩
 cases h5:numR r4 with
 |none=>
  rw[h5]at hm
  subst hm
  exact⟨rfl,EndFm.no (by simp[widthR,H1.out,H2.out,H3.out,H4.out,h5]) (hG.trans hg) rfl⟩
 |some p5=>
 obtain⟨v5,r5⟩:=p5
 rw[h5]at hm
 obtain⟨rfl,hR⟩:=hm
 have hs5:=numR_sizes h5 hs4
 have H5:=Lib.hid h5
 clear h5
 have hG:=(hG.trans hg).trans ((World.grownBy_alloc w5 (.cells #[.int .i64 v5] 3) none).but (some br))
 have hR:=hR.below ((Below.refl _ w5).alloc (Nat.le_refl _) (.cells #[.int .i64 v5] 3))
 have hlo5:br<w5.heap.size:=by have:=hg.size;have:=(lO k4);omega
 have k1:=grown_ne hg k1 hlo1
 have k1:=(Below.heap_alloc w5 (.cells #[.int .i64 v5] 3) _ (lO k1)).trans k1
 have k2:=grown_ne hg k2 hlo2
 have k2:=(Below.heap_alloc w5 (.cells #[.int .i64 v5] 3) _ (lO k2)).trans k2
 have k3:=grown_ne hg k3 hlo3
 have k3:=(Below.heap_alloc w5 (.cells #[.int .i64 v5] 3) _ (lO k3)).trans k3
 have k4:=grown_ne hg k4 hlo4
 have k4:=(Below.heap_alloc w5 (.cells #[.int .i64 v5] 3) _ (lO k4)).trans k4
 have k5:=heap_alloc_new w5 (.cells #[.int .i64 v5] 3)
 clear hg
 go_wp2
 generalize hWW:w5.alloc (.cells #[.int .i64 v5] 3)=W5 at*
 clear hWW
 go_ret
 refine EndFm.ok (x:=⟨2,v1,v2,v3,⟨#[]⟩,v4,v5,Pl.Crs.zero⟩) (by simp[widthR,H1.out,H2.out,H3.out,H4.out,H5.out]) hG rfl ⟨225,#[.pointer (some ⟨w1.heap.size,0,none⟩),.pointer (some ⟨w2.heap.size,0,none⟩),.pointer (some ⟨w3.heap.size,0,none⟩),.pointer (some ⟨w4.heap.size,0,none⟩),.pointer (some ⟨w5.heap.size,0,none⟩)],rfl,fun args W=>enters_of (P:=Tryz.prog) Tryz.func225 (by kernel_rfl) rfl args W,fun W' hW' A1 A2 A3 A4 c1 c2 c3 c4 f year hf hn' hm=> ?_⟩ hR
 have hk: ∀b o,W5.heap[b]?=some o->W'.heap[b]?=some o:=fun b o h=>(hW'.block b (lO h)).trans h
 have:=made_width A1 A2 A3 A4 c1 c2 c3 c4 f n₀ W5.heap.size v1 v2 v3 v4 v5 w1.heap.size w2.heap.size w3.heap.size w4.heap.size w5.heap.size year W' hf hn' hm (hk _ _ k1) (hk _ _ k2) (hk _ _ k3) (hk _ _ k4) (hk _ _ k5)
 simpa using this
def alongR (ws:List ByteArray):Option (Pl.Frm×List ByteArray):=(nameR ws).bind fun p1=>(nameR p1.2).bind fun p2=>(nameR p2.2).bind fun p3=>(nameR p3.2).bind fun p4=>some (⟨4,p1.1,p2.1,p3.1,p4.1,0,0,Pl.Crs.zero⟩,p4.2)
set_option maxHeartbeats 4000000 in
theorem read_along (n₀ br:Nat)(ws:List ByteArray)(w:World)(_hE:Env w)(hR:Rd w br ws)(_hbr:8<=br)(hs:Sizes ws)(hn:n₀<=w.heap.size):
  Calls Tryz.prog 226 #[.pointer (some ⟨br,0,none⟩)] w (EndFm n₀ br w (alongR ws)):=by
 have hlt:=hR.lt
 have hG:w.grownBy w (some br):=grown_self w (some br)
 have hmf: ∀(fn:Fn) (first cap:Array Value) (w:World),(Instr.makeFunc fn first cap).run Tryz.prog w=.ok (.func fn first cap) w:=fun _ _ _ _=>rfl
 go_enter Tryz.func226,Tryz.ntmps226
 go_wp2_with fail
 refine(name_a br ws _ hR hs).mono ?_
 rintro e w1 ⟨hg,hm⟩
 cases h1:nameR ws with
 |none=>
  rw[h1]at hm
  subst hm
  exact⟨rfl,EndFm.no (by simp[alongR,h1]) (hG.trans hg) rfl⟩
 |some p1=>
 obtain⟨v1,r1⟩:=p1
 rw[h1]at hm
 obtain⟨rfl,hR⟩:=hm
 have hs1:=nameR_sizes h1 hs
 have H1:=Lib.hid h1
 clear h1
 have hG:=(hG.trans hg).trans ((World.grownBy_alloc w1 (.cells #[.string v1] 9) none).but (some br))
 have hR:=hR.below ((Below.refl _ w1).alloc (Nat.le_refl _) (.cells #[.string v1] 9))
 have hlo1:br<w1.heap.size:=by have:=hg.size;omega
 have hn1:n₀<=w1.heap.size:=by have:=hg.size;omega
 have k1:=heap_alloc_new w1 (.cells #[.string v1] 9)
 clear hg
 go_wp2_with fail
 generalize hWW:w1.alloc (.cells #[.string v1] 9)=W1 at*
 clear hWW
 refine(name_a br r1 _ hR hs1).mono ?_
 rintro e w2 ⟨hg,hm⟩
 cases h2:nameR r1 with
 |none=>
  rw[h2]at hm
  subst hm
  exact⟨rfl,EndFm.no (by simp[alongR,H1.out,h2]) (hG.trans hg) rfl⟩
 |some p2=>
 obtain⟨v2,r2⟩:=p2
 rw[h2]at hm
 obtain⟨rfl,hR⟩:=hm
 have hs2:=nameR_sizes h2 hs1
 have H2:=Lib.hid h2
 clear h2
 have hG:=(hG.trans hg).trans ((World.grownBy_alloc w2 (.cells #[.string v2] 9) none).but (some br))
 have hR:=hR.below ((Below.refl _ w2).alloc (Nat.le_refl _) (.cells #[.string v2] 9))
 have hlo2:br<w2.heap.size:=by have:=hg.size;have:=(lO k1);omega
 have k1:=grown_ne hg k1 hlo1
 have k1:=(Below.heap_alloc w2 (.cells #[.string v2] 9) _ (lO k1)).trans k1
 have k2:=heap_alloc_new w2 (.cells #[.string v2] 9)
 clear hg
 go_wp2_with fail
 generalize hWW:w2.alloc (.cells #[.string v2] 9)=W2 at*
 clear hWW
 refine(name_a br r2 _ hR hs2).mono ?_
 rintro e w3 ⟨hg,hm⟩
 cases h3:nameR r2 with
 |none=>
  rw[h3]at hm
  subst hm
  exact⟨rfl,EndFm.no (by simp[alongR,H1.out,H2.out,h3]) (hG.trans hg) rfl⟩
 |some p3=>
 obtain⟨v3,r3⟩:=p3
 rw[h3]at hm
 obtain⟨rfl,hR⟩:=hm
 have hs3:=nameR_sizes h3 hs2
 have H3:=Lib.hid h3
 clear h3
 have hG:=(hG.trans hg).trans ((World.grownBy_alloc w3 (.cells #[.string v3] 9) none).but (some br))
 have hR:=hR.below ((Below.refl _ w3).alloc (Nat.le_refl _) (.cells #[.string v3] 9))
 have hlo3:br<w3.heap.size:=by have:=hg.size;have:=(lO k2);omega
 have k1:=grown_ne hg k1 hlo1
 have k1:=(Below.heap_alloc w3 (.cells #[.string v3] 9) _ (lO k1)).trans k1
 have k2:=grown_ne hg k2 hlo2
 have k2:=(Below.heap_alloc w3 (.cells #[.string v3] 9) _ (lO k2)).trans k2
 have k3:=heap_alloc_new w3 (.cells #[.string v3] 9)
 clear hg
 go_wp2_with fail
 generalize hWW:w3.alloc (.cells #[.string v3] 9)=W3 at*
 clear hWW
 refine(name_a br r3 _ hR hs3).mono ?_
 rintro e w4 ⟨hg,hm⟩
 cases h4:nameR r3 with
 |none=>
  rw[h4]at hm
  subst hm
  exact⟨rfl,EndFm.no (by simp[alongR,H1.out,H2.out,H3.out,h4]) (hG.trans hg) rfl⟩
 |some p4=>
 obtain⟨v4,r4⟩:=p4
 rw[h4]at hm
 obtain⟨rfl,hR⟩:=hm
 have hs4:=nameR_sizes h4 hs3
 have H4:=Lib.hid h4
 clear h4
 have hG:=(hG.trans hg).trans ((World.grownBy_alloc w4 (.cells #[.string v4] 9) none).but (some br))
 have hR:=hR.below ((Below.refl _ w4).alloc (Nat.le_refl _) (.cells #[.string v4] 9))
 have hlo4:br<w4.heap.size:=by have:=hg.size;have:=(lO k3);omega
 have k1:=grown_ne hg k1 hlo1
 have k1:=(Below.heap_alloc w4 (.cells #[.string v4] 9) _ (lO k1)).trans k1
 have k2:=grown_ne hg k2 hlo2
 have k2:=(Below.heap_alloc w4 (.cells #[.string v4] 9) _ (lO k2)).trans k2
 have k3:=grown_ne hg k3 hlo3
 have k3:=(Below.heap_alloc w4 (.cells #[.string v4] 9) _ (lO k3)).trans k3
 have k4:=heap_alloc_new w4 (.cells #[.string v4] 9)
 clear hg
 go_wp2
 generalize hWW:w4.alloc (.cells #[.string v4] 9)=W4 at*
 clear hWW
 go_ret
 refine EndFm.ok (x:=⟨4,v1,v2,v3,v4,0,0,Pl.Crs.zero⟩) (by simp[alongR,H1.out,H2.out,H3.out,H4.out]) hG rfl ⟨227,#[.pointer (some ⟨w1.heap.size,0,none⟩),.pointer (some ⟨w2.heap.size,0,none⟩),.pointer (some ⟨w3.heap.size,0,none⟩),.pointer (some ⟨w4.heap.size,0,none⟩)],rfl,fun args W=>enters_of (P:=Tryz.prog) Tryz.func227 (by kernel_rfl) rfl args W,fun W' hW' A1 A2 A3 A4 c1 c2 c3 c4 f year hf hn' hm=> ?_⟩ hR
 have hk: ∀b o,W4.heap[b]?=some o->W'.heap[b]?=some o:=fun b o h=>(hW'.block b (lO h)).trans h
 have:=made_along A1 A2 A3 A4 c1 c2 c3 c4 f n₀ W4.heap.size v1 v2 v3 v4 w1.heap.size w2.heap.size w3.heap.size w4.heap.size year W' hf hn' hm (hk _ _ k1) (hk _ _ k2) (hk _ _ k3) (hk _ _ k4)
 simpa using this
def levelR (ws:List ByteArray):Option (Pl.Frm×List ByteArray):=(nameR ws).bind fun p1=>(nameR p1.2).bind fun p2=>(nameR p2.2).bind fun p3=>(sgnR p3.2).bind fun p4=>(numR p4.2).bind fun p5=>some (⟨5,p1.1,⟨#[]⟩,p2.1,p3.1,p4.1,p5.1,Pl.Crs.zero⟩,p5.2)
set_option maxHeartbeats 4000000 in
theorem read_level (n₀ br:Nat)(ws:List ByteArray)(w:World)(hE:Env w)(hR:Rd w br ws)(hbr:8<=br)(hs:Sizes ws)(hn:n₀<=w.heap.size):
  Calls Tryz.prog 228 #[.pointer (some ⟨br,0,none⟩)] w (EndFm n₀ br w (levelR ws)):=by
 have hlt:=hR.lt
 have hG:w.grownBy w (some br):=grown_self w (some br)
 have hmf: ∀(fn:Fn) (first cap:Array Value) (w:World),(Instr.makeFunc fn first cap).run Tryz.prog w=.ok (.func fn first cap) w:=fun _ _ _ _=>rfl
 go_enter Tryz.func228,Tryz.ntmps228
 go_wp2_with fail
 refine(name_a br ws _ hR hs).mono ?_
 rintro e w1 ⟨hg,hm⟩
 cases h1:nameR ws with
 |none=>
  rw[h1]at hm
  subst hm
  exact⟨rfl,EndFm.no (by simp[levelR,h1]) (hG.trans hg) rfl⟩
 |some p1=>
 obtain⟨v1,r1⟩:=p1
 rw[h1]at hm
 obtain⟨rfl,hR⟩:=hm
 have hs1:=nameR_sizes h1 hs
 have H1:=Lib.hid h1
 clear h1
 have hG:=(hG.trans hg).trans ((World.grownBy_alloc w1 (.cells #[.string v1] 9) none).but (some br))
 have hR:=hR.below ((Below.refl _ w1).alloc (Nat.le_refl _) (.cells #[.string v1] 9))
 have hlo1:br<w1.heap.size:=by have:=hg.size;omega
 have hn1:n₀<=w1.heap.size:=by have:=hg.size;omega
 have k1:=heap_alloc_new w1 (.cells #[.string v1] 9)
 clear hg
 go_wp2_with fail
 generalize hWW:w1.alloc (.cells #[.string v1] 9)=W1 at*
 clear hWW
 refine(name_a br r1 _ hR hs1).mono ?_
 rintro e w2 ⟨hg,hm⟩
 cases h2:nameR r1 with
 |none=>
  rw[h2]at hm
  subst hm
  exact⟨rfl,EndFm.no (by simp[levelR,H1.out,h2]) (hG.trans hg) rfl⟩
 |some p2=>
 obtain⟨v2,r2⟩:=p2
 rw[h2]at hm
 obtain⟨rfl,hR⟩:=hm
 have hs2:=nameR_sizes h2 hs1
 have H2:=Lib.hid h2
 clear h2
 have hG:=(hG.trans hg).trans ((World.grownBy_alloc w2 (.cells #[.string v2] 9) none).but (some br))
 have hR:=hR.below ((Below.refl _ w2).alloc (Nat.le_refl _) (.cells #[.string v2] 9))
 have hlo2:br<w2.heap.size:=by have:=hg.size;have:=(lO k1);omega
 have k1:=grown_ne hg k1 hlo1
 have k1:=(Below.heap_alloc w2 (.cells #[.string v2] 9) _ (lO k1)).trans k1
 have k2:=heap_alloc_new w2 (.cells #[.string v2] 9)
 clear hg
 go_wp2_with fail
 generalize hWW:w2.alloc (.cells #[.string v2] 9)=W2 at*
 clear hWW
 refine(name_a br r2 _ hR hs2).mono ?_
 rintro e w3 ⟨hg,hm⟩
 cases h3:nameR r2 with
 |none=>
  rw[h3]at hm
  subst hm
  exact⟨rfl,EndFm.no (by simp[levelR,H1.out,H2.out,h3]) (hG.trans hg) rfl⟩
 |some p3=>
 obtain⟨v3,r3⟩:=p3
 rw[h3]at hm
 obtain⟨rfl,hR⟩:=hm
 have hs3:=nameR_sizes h3 hs2
 have H3:=Lib.hid h3
 clear h3
 have hG:=(hG.trans hg).trans ((World.grownBy_alloc w3 (.cells #[.string v3] 9) none).but (some br))
 have hR:=hR.below ((Below.refl _ w3).alloc (Nat.le_refl _) (.cells #[.string v3] 9))
 have hlo3:br<w3.heap.size:=by have:=hg.size;have:=(lO k2);omega
 have k1:=grown_ne hg k1 hlo1
 have k1:=(Below.heap_alloc w3 (.cells #[.string v3] 9) _ (lO k1)).trans k1
 have k2:=grown_ne hg k2 hlo2
 have k2:=(Below.heap_alloc w3 (.cells #[.string v3] 9) _ (lO k2)).trans k2
 have k3:=heap_alloc_new w3 (.cells #[.string v3] 9)
 clear hg
 go_wp2_with fail
 generalize hWW:w3.alloc (.cells #[.string v3] 9)=W3 at*
 clear hWW
 refine(signed_a br r3 _ (hE.below (below_of_grown hlt hG) hbr) hR hbr hs3).mono ?_
 rintro e w4 ⟨hg,hm⟩
 cases h4:sgnR r3 with
 |none=>
  rw[h4]at hm
  subst hm
  exact⟨rfl,EndFm.no (by simp[levelR,H1.out,H2.out,H3.out,h4]) (hG.trans hg) rfl⟩
 |some p4=>
 obtain⟨v4,r4⟩:=p4
 rw[h4]at hm
 obtain⟨rfl,hR⟩:=hm
 have hs4:=sgnR_sizes h4 hs3
 have H4:=Lib.hid h4
 clear h4
 have hG:=(hG.trans hg).trans ((World.grownBy_alloc w4 (.cells #[.int .i64 v4] 3) none).but (some br))
 have hR:=hR.below ((Below.refl _ w4).alloc (Nat.le_refl _) (.cells #[.int .i64 v4] 3))
 have hlo4:br<w4.heap.size:=by have:=hg.size;have:=(lO k3);omega
 have k1:=grown_ne hg k1 hlo1
 have k1:=(Below.heap_alloc w4 (.cells #[.int .i64 v4] 3) _ (lO k1)).trans k1
 have k2:=grown_ne hg k2 hlo2
 have k2:=(Below.heap_alloc w4 (.cells #[.int .i64 v4] 3) _ (lO k2)).trans k2
 have k3:=grown_ne hg k3 hlo3
 have k3:=(Below.heap_alloc w4 (.cells #[.int .i64 v4] 3) _ (lO k3)).trans k3
 have k4:=heap_alloc_new w4 (.cells #[.int .i64 v4] 3)
 clear hg
 go_wp2_with fail
 generalize hWW:w4.alloc (.cells #[.int .i64 v4] 3)=W4 at*
 clear hWW
 refine(number_a br r4 _ (hE.below (below_of_grown hlt hG) hbr) hR hbr hs4).mono ?_
 rintro e w5 ⟨hg,hm⟩
 cases h5:numR r4 with
 |none=>
  rw[h5]at hm
  subst hm
  exact⟨rfl,EndFm.no (by simp[levelR,H1.out,H2.out,H3.out,H4.out,h5]) (hG.trans hg) rfl⟩
 |some p5=>
 obtain⟨v5,r5⟩:=p5
 rw[h5]at hm
 obtain⟨rfl,hR⟩:=hm
 have hs5:=numR_sizes h5 hs4
 have H5:=Lib.hid h5
 clear h5
 have hG:=(hG.trans hg).trans ((World.grownBy_alloc w5 (.cells #[.int .i64 v5] 3) none).but (some br))
 have hR:=hR.below ((Below.refl _ w5).alloc (Nat.le_refl _) (.cells #[.int .i64 v5] 3))
 have hlo5:br<w5.heap.size:=by have:=hg.size;have:=(lO k4);omega
 have k1:=grown_ne hg k1 hlo1
 have k1:=(Below.heap_alloc w5 (.cells #[.int .i64 v5] 3) _ (lO k1)).trans k1
 have k2:=grown_ne hg k2 hlo2
 have k2:=(Below.heap_alloc w5 (.cells #[.int .i64 v5] 3) _ (lO k2)).trans k2
 have k3:=grown_ne hg k3 hlo3
 have k3:=(Below.heap_alloc w5 (.cells #[.int .i64 v5] 3) _ (lO k3)).trans k3
 have k4:=grown_ne hg k4 hlo4
 have k4:=(Below.heap_alloc w5 (.cells #[.int .i64 v5] 3) _ (lO k4)).trans k4
 have k5:=heap_alloc_new w5 (.cells #[.int .i64 v5] 3)
 clear hg
 go_wp2
 generalize hWW:w5.alloc (.cells #[.int .i64 v5] 3)=W5 at*
 clear hWW
 go_ret
 refine EndFm.ok (x:=⟨5,v1,⟨#[]⟩,v2,v3,v4,v5,Pl.Crs.zero⟩) (by simp[levelR,H1.out,H2.out,H3.out,H4.out,H5.out]) hG rfl ⟨229,#[.pointer (some ⟨w1.heap.size,0,none⟩),.pointer (some ⟨w2.heap.size,0,none⟩),.pointer (some ⟨w3.heap.size,0,none⟩),.pointer (some ⟨w4.heap.size,0,none⟩),.pointer (some ⟨w5.heap.size,0,none⟩)],rfl,fun args W=>enters_of (P:=Tryz.prog) Tryz.func229 (by kernel_rfl) rfl args W,fun W' hW' A1 A2 A3 A4 c1 c2 c3 c4 f year hf hn' hm=> ?_⟩ hR
 have hk: ∀b o,W5.heap[b]?=some o->W'.heap[b]?=some o:=fun b o h=>(hW'.block b (lO h)).trans h
 have:=made_level A1 A2 A3 A4 c1 c2 c3 c4 f n₀ W5.heap.size v1 v2 v3 v4 v5 w1.heap.size w2.heap.size w3.heap.size w4.heap.size w5.heap.size year W' hf hn' hm (hk _ _ k1) (hk _ _ k2) (hk _ _ k3) (hk _ _ k4) (hk _ _ k5)
 simpa using this
end Go.Proofs.YtgbpekeoegfjpaaGreatDoor
