/- Proved: parts of the walk. -/
import Derived.Test.YtgbpekeoegfjpaaGreatDoorVQK
import Derived.Test.YtgbpekeoegfjpaaGreatDoorVP3x
set_option maxRecDepth 100000
set_option maxHeartbeats 4000000
namespace Go.Proofs
open Tryz
namespace Pl
theorem Mr {S L:Nat}{c:aZ}(h:c.tab S L)(hk:c.kind=3):mO c.till S:=by
 obtain⟨_,_,h⟩:=h
 rcases h with h|h|h|h|h
 ·omega
 ·omega
 ·exact h.2.2.2.2.1
 ·omega
 ·omega
end Pl
open Tryz RowKit
variable (A1 A2 A3 A4 : Option Addr) (c1 c2 c3 c4 : Nat) (f : Pl.aL)
theorem TY (k:Int)(c:Pl.aZ)(w:World)(hst:iJ w w.heap.size A1 f.st)(_hm:f.st.length<=100000)(h1:Pl.mO c.fr f.st.length)(h2:Pl.mO c.till f.st.length)(hx: ∀s∈f.st,0<=s.2∧s.2<=100000):
  Calls prog 140 #[.agg (fq A1 A2 A3 A4 c1 c2 c3 c4 f),.agg (iq k c)] w fun e w'=>e=.returned (.int .i64 (Pl.kH f.st c))∧Below w.heap.size w w':=by
 obtain⟨kk,l,o,fr,t,s,e,cr⟩:=c
 obtain⟨a0,a1⟩:=h1
 obtain⟨b0,b1⟩:=h2
 simp only at a0 a1 b0 b1
 obtain⟨fr,rfl⟩:=Int.eq_ofNat_of_zero_le a0
 obtain⟨t,rfl⟩:=Int.eq_ofNat_of_zero_le b0
 have a2:fr<f.st.length:=by omega
 have b2:t<f.st.length:=by omega
 obtain⟨b,off,hA,hb,_,q1⟩:=iJ.at2 hst a2
 obtain⟨b',off',hA',_,_,q2⟩:=iJ.at2 hst b2
 rw[hA]at hA'
 obtain⟨rfl,rfl⟩:b=b'∧off=off':=by simpa using hA'
 clear hA'
 have x1:=hx _ (List.getElem_mem a2)
 have x2:=hx _ (List.getElem_mem b2)
 have HV:Hid (f.st[t].2-f.st[fr].2=Pl.kH f.st ⟨kk,l,o,fr,t,s,e,cr⟩):=Lib.hid (by unfold Pl.kH;rw[vW a2,vW b2])
 obtain⟨u,hu⟩: ∃u,f.st[fr].2=u:=⟨_,rfl⟩
 obtain⟨v,hv⟩: ∃v,f.st[t].2=v:=⟨_,rfl⟩
 rw[hu]at q1 x1 HV
 rw[hv]at q2 x2 HV
 clear hu hv hx hst
 subst hA
 have kb:=heap_alloc_new w (.cells (fq (some ⟨b,off,none⟩) A2 A3 A4 c1 c2 c3 c4 f) 28)
 have kc:=heap_alloc_new (w.alloc (.cells (fq (some ⟨b,off,none⟩) A2 A3 A4 c1 c2 c3 c4 f) 28)) (.cells (bR k l o (fr:Int) (t:Int) s e cr.b cr.n cr.l cr.y cr.x cr.s) 48)
 rw[World.size_alloc]at kc
 have kb:=(Below.heap_alloc _ (.cells (bR k l o (fr:Int) (t:Int) s e cr.b cr.n cr.l cr.y cr.x cr.s) 48) _ (lO kb)).trans kb
 have hall:Below w.heap.size w ((w.alloc (.cells (fq (some ⟨b,off,none⟩) A2 A3 A4 c1 c2 c3 c4 f) 28)).alloc (.cells (bR k l o (fr:Int) (t:Int) s e cr.b cr.n cr.l cr.y cr.x cr.s) 48)):=((Below.refl _ w).alloc (Nat.le_refl _) _).alloc (by simp) _
 have e1:(0:Int)<=(fr:Int):=by omega
 have e2:(fr:Int)<(f.st.length:Int):=by omega
 have e3:(0:Int)<=(t:Int):=by omega
 have e4:(t:Int)<(f.st.length:Int):=by omega
 have e5:IntKind.i64.wrap (v-u)=v-u:=IntWalk.i64_in _ (by omega)
 go_enter func140,ntmps140
 go_wp2
 generalize (w.alloc (.cells (fq (some ⟨b,off,none⟩) A2 A3 A4 c1 c2 c3 c4 f) 28)).alloc (.cells (bR k l o (fr:Int) (t:Int) s e cr.b cr.n cr.l cr.y cr.x cr.s) 48)=W0 at*
 obtain⟨hcb,ru⟩:=ah kb
 obtain⟨hcc,hfc⟩:=ah kc
 have s0:=hcb 0
 have s1:=hcc 3
 have s2:=hcc 4
 have s3:=(hall.cell (p:=⟨b,off+fr*2+1,none⟩) hb).trans q1
 have s4:=(hall.cell (p:=⟨b,off+t*2+1,none⟩) hb).trans q2
 clear hcb hcc q1 q2
 go_region_held3 (fun W=>W.cell? ⟨w.heap.size,0,none⟩=some (.slice (some ⟨b,off,none⟩) f.st.length c1)∧W.cell? ⟨w.heap.size+1,3,none⟩=some (.int .i64 (fr:Int))∧W.cell? ⟨w.heap.size+1,4,none⟩=some (.int .i64 (t:Int))∧W.cell? ⟨b,off+fr*2+1,none⟩=some (.int .i64 u)∧W.cell? ⟨b,off+t*2+1,none⟩=some (.int .i64 v)) (exact⟨s0,s1,s2,s3,s4⟩) (fail)
 all_goals go_wp2
 all_goals go_ret
 all_goals exact⟨aH (by rw[<-HV.out]),by first|exact hall|exact hall.drew|(go_grown;done)|exact below_drewN (by go_grown) _⟩
attribute [-go_sem] run_equalIn_agg storeVar loadVar
attribute [local go_sem] bZ bH dU aT dD nE Bc eB
theorem Mx {c:Pl.aZ}{g:Nat}{W:World}(kf:W.heap[g]?=some (.cells (fq A1 A2 A3 A4 c1 c2 c3 c4 f) 28 (0,0)))(kc:W.heap[g+1]?=some (.cells (iq 3 c) 48 (0,0))):
  (loadVar 26 ⟨g,3,none⟩).run prog W=.ok (.slice A4 f.va.length c4) W∧(loadVar 46 ⟨g+1,7,none⟩).run prog W=.ok (.agg (cq c.aB)) W∧(loadVar 28 ⟨g,0,none⟩).run prog W=.ok (.agg (fq A1 A2 A3 A4 c1 c2 c3 c4 f)) W∧(loadVar 48 ⟨g+1,0,none⟩).run prog W=.ok (.agg (iq 3 c)) W:=by
 refine⟨?_,dS kc,ak kf underlying28 rfl av,ak kc underlying48 rfl aj⟩
 obtain⟨hc,_⟩:=ah kf
 rw[eB]
 simp[go_sem,hc]
theorem uy (c:Pl.aZ)(w:World)(hT: ∀W,Below w.heap.size w W->Calls prog 185 #[.agg (fq A1 A2 A3 A4 c1 c2 c3 c4 f),.agg (iq 3 c)] W fun e w'=>e=.returned (.bool true)∧Below W.heap.size W w')
  (hD: ∀W,Calls prog 186 #[.agg (cq c.aB)] W fun e w'=>e=.returned (.int .i64 0)∧Below W.heap.size W w')
  (x:Int) (hX: ∀W,Below w.heap.size w W->Calls prog 140 #[.agg (fq A1 A2 A3 A4 c1 c2 c3 c4 f),.agg (iq 3 c)] W fun e w'=>e=.returned (.int .i64 x)∧Below W.heap.size W w')
  (lo hi E:Int) (ok:Bool) (hI: ∀W,Below w.heap.size w W->Calls prog 187 #[.slice A4 f.va.length c4,.agg (cq c.aB),.int .i64 x] W fun e w'=>e=.returned (.tuple #[.int .i64 lo,.int .i64 hi,.bool ok,.int .i64 E])∧Below W.heap.size W w'):
  Calls prog 129 #[.agg (fq A1 A2 A3 A4 c1 c2 c3 c4 f),.agg (iq 3 c)] w fun e w'=>e=.returned (.int .i64 (if E≠0 then E else if ok=true then 0 else 5))∧Below w.heap.size w w':=by
 have kf:=(heap_alloc_new w (.cells (fq A1 A2 A3 A4 c1 c2 c3 c4 f) 28))
 have kc:=(heap_alloc_new (w.alloc (.cells (fq A1 A2 A3 A4 c1 c2 c3 c4 f) 28)) (.cells (iq 3 c) 48))
 rw[World.size_alloc]at kc
 have kf:=(Below.heap_alloc _ (.cells (iq 3 c) 48) _ (lO kf)).trans kf
 have iw:=ak kf underlying28 rfl av
 have gZ:=ak kc underlying48 rfl aj
 have hall:Below w.heap.size w ((w.alloc (.cells (fq A1 A2 A3 A4 c1 c2 c3 c4 f) 28)).alloc (.cells (iq 3 c) 48)):=((Below.refl _ w).alloc (Nat.le_refl _) _).alloc (by simp) _
 have qI:=dS kc
 go_enter func129,ntmps129
 go_wp2_with fail
 refine(hT _ hall).mono ?_
 rintro e w1 ⟨rfl,hx⟩
 clear qI
 replace kf:=kE hx kf;replace kc:=kE hx kc;replace hall:Below w.heap.size w _:=hall.trans (hx.mono hall.size);(try clear iw gZ);have iw:=ak kf underlying28 rfl av;have gZ:=ak kc underlying48 rfl aj;(try clear hcf nY hcc hfc);obtain⟨hcf,nY⟩:=ah kf;obtain⟨hcc,hfc⟩:=ah kc;clear hx
 have qI:=dS kc
 go_wp2_with fail
 refine(hD _).mono ?_
 rintro e w2 ⟨rfl,hx⟩
 clear qI
 replace kf:=kE hx kf;replace kc:=kE hx kc;replace hall:Below w.heap.size w _:=hall.trans (hx.mono hall.size);(try clear iw gZ);have iw:=ak kf underlying28 rfl av;have gZ:=ak kc underlying48 rfl aj;(try clear hcf nY hcc hfc);obtain⟨hcf,nY⟩:=ah kf;obtain⟨hcc,hfc⟩:=ah kc;clear hx
 clear hcf nY hcc hfc
 go_wp2_with fail
 go_region_held3 (fun W=>(loadVar 26 ⟨w.heap.size,3,none⟩).run prog W=.ok (.slice A4 f.va.length c4) W∧(loadVar 46 ⟨w.heap.size+1,7,none⟩).run prog W=.ok (.agg (cq c.aB)) W∧(loadVar 28 ⟨w.heap.size,0,none⟩).run prog W=.ok (.agg (fq A1 A2 A3 A4 c1 c2 c3 c4 f)) W∧(loadVar 48 ⟨w.heap.size+1,0,none⟩).run prog W=.ok (.agg (iq 3 c)) W) (first|exact Mx A1 A2 A3 A4 c1 c2 c3 c4 f UD Y5|exact Mx A1 A2 A3 A4 c1 c2 c3 c4 f VR Pt|exact Mx A1 A2 A3 A4 c1 c2 c3 c4 f kf kc) (first
  |(go_at_call 140;refine(hX _ hall.drew).mono ?_;rintro e w4 ⟨rfl,hx⟩;have VR:=(hx.block w.heap.size (lO kf)).trans kf;have Pt:=(hx.block (w.heap.size+1) (lO kc)).trans kc;have mW:Below w.heap.size w w4:=hall.drew.trans (hx.mono hall.size);clear hx)
  |(go_at_call 187;refine(hI _ mW).mono ?_;rintro e w5 ⟨rfl,hx⟩;have UD:=(hx.block w.heap.size (lO VR)).trans VR;have Y5:=(hx.block (w.heap.size+1) (lO Pt)).trans Pt;have K7:Below w.heap.size w w5:=mW.trans (hx.mono mW.size);clear hx))
 all_goals clear hD hX hI hT
 all_goals by_cases h0:E=0
 all_goals try subst h0
 all_goals try (have hne:(E !=0)=true:=by simpa using h0)
 all_goals cases ok
 all_goals go_wp2
 all_goals go_ret
 all_goals exact⟨by simp_all,K7⟩
theorem yw (c:Pl.aZ)(w:World)(hT: ∀W,Below w.heap.size w W->Calls prog 185 #[.agg (fq A1 A2 A3 A4 c1 c2 c3 c4 f),.agg (iq 3 c)] W fun e w'=>e=.returned (.bool true)∧Below W.heap.size W w')
  (hD: ∀W,Calls prog 186 #[.agg (cq c.aB)] W fun e w'=>e=.returned (.int .i64 1)∧Below W.heap.size W w'):
  Calls prog 129 #[.agg (fq A1 A2 A3 A4 c1 c2 c3 c4 f),.agg (iq 3 c)] w fun e w'=>e=.returned (.int .i64 1)∧Below w.heap.size w w':=by
 have kf:=(heap_alloc_new w (.cells (fq A1 A2 A3 A4 c1 c2 c3 c4 f) 28))
 have kc:=(heap_alloc_new (w.alloc (.cells (fq A1 A2 A3 A4 c1 c2 c3 c4 f) 28)) (.cells (iq 3 c) 48))
 rw[World.size_alloc]at kc
 have kf:=(Below.heap_alloc _ (.cells (iq 3 c) 48) _ (lO kf)).trans kf
 have iw:=ak kf underlying28 rfl av
 have gZ:=ak kc underlying48 rfl aj
 have hall:Below w.heap.size w ((w.alloc (.cells (fq A1 A2 A3 A4 c1 c2 c3 c4 f) 28)).alloc (.cells (iq 3 c) 48)):=((Below.refl _ w).alloc (Nat.le_refl _) _).alloc (by simp) _
 have qI:=dS kc
 go_enter func129,ntmps129
 go_wp2_with fail
 refine(hT _ hall).mono ?_
 rintro e w1 ⟨rfl,hx⟩
 clear qI
 replace kf:=kE hx kf;replace kc:=kE hx kc;replace hall:Below w.heap.size w _:=hall.trans (hx.mono hall.size);(try clear iw gZ);have iw:=ak kf underlying28 rfl av;have gZ:=ak kc underlying48 rfl aj;(try clear hcf nY hcc hfc);obtain⟨hcf,nY⟩:=ah kf;obtain⟨hcc,hfc⟩:=ah kc;clear hx
 have qI:=dS kc
 go_wp2_with fail
 refine(hD _).mono ?_
 rintro e w2 ⟨rfl,hx⟩
 clear qI
 replace kf:=kE hx kf;replace kc:=kE hx kc;replace hall:Below w.heap.size w _:=hall.trans (hx.mono hall.size);(try clear iw gZ);have iw:=ak kf underlying28 rfl av;have gZ:=ak kc underlying48 rfl aj;(try clear hcf nY hcc hfc);obtain⟨hcf,nY⟩:=ah kf;obtain⟨hcc,hfc⟩:=ah kc;clear hx
 go_wp2_with fail
 go_ret
 exact⟨rfl,hall⟩
theorem pE (c:Pl.aZ)(B:Bool)(w:World)(h3:B=true->c.kind≠3)(hT: ∀W,Below w.heap.size w W->Calls prog 185 #[.agg (fq A1 A2 A3 A4 c1 c2 c3 c4 f),.agg (kq c)] W fun e w'=>e=.returned (.bool B)∧Below W.heap.size W w'):
  Calls prog 129 #[.agg (fq A1 A2 A3 A4 c1 c2 c3 c4 f),.agg (kq c)] w fun e w'=>e=.returned (.int .i64 (if B=true then 0 else 1))∧Below w.heap.size w w':=by
 have kf:=(heap_alloc_new w (.cells (fq A1 A2 A3 A4 c1 c2 c3 c4 f) 28))
 have kc:=(heap_alloc_new (w.alloc (.cells (fq A1 A2 A3 A4 c1 c2 c3 c4 f) 28)) (.cells (kq c) 48))
 rw[World.size_alloc]at kc
 have kf:=(Below.heap_alloc _ (.cells (kq c) 48) _ (lO kf)).trans kf
 have iw:=ak kf underlying28 rfl av
 have gZ:=ak kc underlying48 rfl aj
 have hall:Below w.heap.size w ((w.alloc (.cells (fq A1 A2 A3 A4 c1 c2 c3 c4 f) 28)).alloc (.cells (kq c) 48)):=((Below.refl _ w).alloc (Nat.le_refl _) _).alloc (by simp) _
 cases B with
 |false=>
  clear h3
  go_enter func129,ntmps129
  go_wp2_with fail
  refine(hT _ hall).mono ?_
  rintro e w1 ⟨rfl,hx⟩
  replace kf:=kE hx kf;replace kc:=kE hx kc;replace hall:Below w.heap.size w _:=hall.trans (hx.mono hall.size);(try clear iw gZ);have iw:=ak kf underlying28 rfl av;have gZ:=ak kc underlying48 rfl aj;(try clear hcf nY hcc hfc);obtain⟨hcf,nY⟩:=ah kf;obtain⟨hcc,hfc⟩:=ah kc;clear hx
  go_wp2_with fail
  go_ret
  exact⟨rfl,hall⟩
 | true=>
  have q3:((c.kind:Int) !=3)=true:=by
   have:=h3 rfl
   rw[bne_iff_ne]
   omega
  clear h3
  go_enter func129,ntmps129
  go_wp2_with fail
  refine(hT _ hall).mono ?_
  rintro e w1 ⟨rfl,hx⟩
  replace kf:=kE hx kf;replace kc:=kE hx kc;replace hall:Below w.heap.size w _:=hall.trans (hx.mono hall.size);(try clear iw gZ);have iw:=ak kf underlying28 rfl av;have gZ:=ak kc underlying48 rfl aj;(try clear hcf nY hcc hfc);obtain⟨hcf,nY⟩:=ah kf;obtain⟨hcc,hfc⟩:=ah kc;clear hx
  go_wp2_with fail
  go_ret
  exact⟨rfl,hall⟩
theorem Pv {c:Pl.bF}(h:c.ok=true):Pl.err (Pl.dJ c.b c.n c.l c.y c.x c.s)=0:=by unfold Pl.bF.ok at h;rw[h];rfl
theorem MB {c:Pl.bF}(h:c.ok=false):Pl.err (Pl.dJ c.b c.n c.l c.y c.x c.s)=1:=by unfold Pl.bF.ok at h;rw[h];rfl
theorem sP (c:Pl.aZ)(E:Int)(w:World)(hE:Hid (Pl.fP f c=E))(hf:bB w w.heap.size A1 A2 A3 A4 f)(hm:Small f)(_hc:dY c1 c2 c3 c4 f)(hF:Pl.aR f=0):
  Calls prog 129 #[.agg (fq A1 A2 A3 A4 c1 c2 c3 c4 f),.agg (kq c)] w fun e w'=>e=.returned (.int .i64 E)∧Below w.heap.size w w':=by
 rw[<-hE.out,<-Pl.JQ]
 have hok:=Pl.iV hF
 have hS:=hok.I9
 have hL:=hok.KD
 have hT:=fun W=>Pj A1 A2 A3 A4 c1 c2 c3 c4 f c W (by omega) (by omega)
 unfold Pl.Gp
 cases hB:Pl.BM f.st.length f.li.length c with
 |false=>
  rw[hB]at hT
  have:=pE A1 A2 A3 A4 c1 c2 c3 c4 f c false w (fun h=>by cases h) (fun W _=>hT W)
  simpa using this
 | true=>
  rw[hB]at hT
  rw[if_neg (by decide)]
  by_cases h3:c.kind=3
  ·have ht:=Pl.yj.1 hB
   have hk:(c.kind:Int)=3:=by omega
   rw[if_neg (by simpa using h3)]
   rw[hk]at hT ⊢
   cases hc3:c.aB.ok with
   |false=>
    rw[if_pos rfl]
    have hD:=fun W=>o_ c.aB.b c.aB.n c.aB.l c.aB.y c.aB.x c.aB.s W
    rw[MB hc3]at hD
    exact yw A1 A2 A3 A4 c1 c2 c3 c4 f c w (fun W _=>hT W) hD
   | true=>
    rw[if_neg (by decide)]
    have hD:=fun W=>o_ c.aB.b c.aB.n c.aB.l c.aB.y c.aB.x c.aB.s W
    rw[Pv hc3]at hD
    exact uy A1 A2 A3 A4 c1 c2 c3 c4 f c w (fun W _=>hT W) hD (Pl.kH f.st c)
     (fun W hW=>TY A1 A2 A3 A4 c1 c2 c3 c4 f 3 c W (hf.up hW).st (by omega) ht.2.1 (Pl.Mr ht h3) hok.x) _ _ _ _
     (fun W hW=>Gs A4 c4 f.va c.aB (Pl.kH f.st c) W (hf.up hW).va (by have:=hm.va;unfold maxLen;omega))
  ·rw[if_pos h3]
   have:=pE A1 A2 A3 A4 c1 c2 c3 c4 f c true w (fun _=>h3) (fun W _=>hT W)
   simpa using this
