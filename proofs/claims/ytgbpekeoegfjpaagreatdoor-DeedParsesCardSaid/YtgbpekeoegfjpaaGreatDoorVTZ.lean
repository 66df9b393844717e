/- Proved: parts of the walk. -/
import Derived.Test.YtgbpekeoegfjpaaGreatDoorVTJ4
import Derived.Test.YtgbpekeoegfjpaaGreatDoorVTV
import Derived.Test.YtgbpekeoegfjpaaGreatDoorVZ24s
set_option maxRecDepth 100000
set_option maxHeartbeats 16000000
namespace Go.Proofs
open Tryz RowKit
variable (A1 A2 A3 A4 : Option Addr) (c1 c2 c3 c4 : Nat) (f : Pl.aL)
attribute [-go_sem] run_equalIn_agg loadVar storeVar Builtin.append_ Instr.buildSlice
attribute [local go_sem] bZ bH dU aT dD yQ aA3 aBJ aBK
structure MoW (w:World)(gl gc g cg:Nat)(l0:List (Pl.j6×Option Addr×Nat))(d:Pl.j6)(p:Option Addr×Nat)(c:Pl.aZ)(W:World):Prop where
 kl:W.heap[gl]?=some (.cells (dq d p.1 p.2) 90 (0,0))
 kc:W.heap[gc]?=some (.cells (kq c) 48 (0,0))
 ow:W.ownsRow w.heap.size 90 4 (.slice (some ⟨g,0,none⟩) (l0.length+1) cg) (l0.length+1) ((l0++[(d,p)]).flatMap x9)
 all:Below w.heap.size w W
theorem MoW.IU {w:World}{gl gc g cg:Nat}{l0:List (Pl.j6×Option Addr×Nat)}{d:Pl.j6}{p:Option Addr×Nat}{c:Pl.aZ}{W W':World}(h:MoW w gl gc g cg l0 d p c W)(hx:Below W.heap.size W W'):MoW w gl gc g cg l0 d p c W':=
 ⟨(hx.block _ (lO h.kl)).trans h.kl,(hx.block _ (lO h.kc)).trans h.kc,own_below h.ow hx,h.all.trans (hx.mono h.all.size)⟩
theorem MoW.drew {w:World}{gl gc g cg:Nat}{l0:List (Pl.j6×Option Addr×Nat)}{d:Pl.j6}{p:Option Addr×Nat}{c:Pl.aZ}{W:World}(h:MoW w gl gc g cg l0 d p c W):MoW w gl gc g cg l0 d p c W.drew:=⟨h.kl,h.kc,h.ow,h.all.drew⟩
theorem aBb {w Wb:World}{gl g cg:Nat}{l0:List (Pl.j6×Option Addr×Nat)}{d:Pl.j6}{p:Option Addr×Nat}(kl:Wb.heap[gl]?=some (.cells (dq d p.1 p.2) 90 (0,0)))
  (ow:Wb.ownsRow w.heap.size 90 4 (.slice (some ⟨g,0,none⟩) (l0.length+1) cg) (l0.length+1) ((l0++[(d,p)]).flatMap x9)) (hne:g≠gl) (hgl:w.heap.size<=gl) (hb:Below w.heap.size w Wb) (cs:List Pl.aZ) (g2 d2 n:Nat) (hn:n=cs.length):
  ∃W9,(loadVar 90 ⟨gl,0,none⟩).run prog (Wb.setCell ⟨gl,3,none⟩ (.slice (some ⟨g2,0,none⟩) n d2))=.ok (.agg #[.string d.name,.int .i64 d.year,.int .i64 d.rank,.slice (some ⟨g2,0,none⟩) n d2]) (Wb.setCell ⟨gl,3,none⟩ (.slice (some ⟨g2,0,none⟩) n d2))∧
   (storeVar 90 ⟨g,l0.length*4,none⟩ (.agg #[.string d.name,.int .i64 d.year,.int .i64 d.rank,.slice (some ⟨g2,0,none⟩) n d2])).run prog (Wb.setCell ⟨gl,3,none⟩ (.slice (some ⟨g2,0,none⟩) n d2))=.ok () W9∧
   W9.ownsRow w.heap.size 90 4 (.slice (some ⟨g,0,none⟩) (l0.length+1) cg) (l0.length+1) ((l0++[(({d with calls:=cs}:Pl.j6),(some ⟨g2,0,none⟩:Option Addr),d2)]).flatMap x9)∧
   Below w.heap.size w W9∧(∀b,b<Wb.heap.size->b≠gl->b≠g->W9.heap[b]?=Wb.heap[b]?)∧Wb.heap.size<=W9.heap.size:=by
 subst hn
 have k0:=heap_setCell_same Wb gl 3 _ _ (.slice (some ⟨g2,0,none⟩) cs.length d2) kl
 have gs:=cB Wb gl 3 (.slice (some ⟨g2,0,none⟩) cs.length d2)
 have hg:=(ow.lt g rfl)
 obtain⟨W9,st,o9,gr⟩:=aBS (({d with calls:=cs}:Pl.j6),some ⟨g2,0,none⟩,d2) (ow.kept gs (.inr (by simpa [Value.ownBlock]using hne)))
 have hsz:(Wb.setCell ⟨gl,3,none⟩ (.slice (some ⟨g2,0,none⟩) cs.length d2)).heap.size=Wb.heap.size:=by simp
 refine⟨W9,ak k0 underlying90 rfl aAD,st,o9,?_,fun b h1 h2 h3=> ?_,by rw[<-hsz];exact gr.size⟩
 ·exact(hb.setCell (p:=⟨gl,3,none⟩) hgl _).grown gr (by rw[hsz];exact hb.size) (fun j e=>by cases e;exact hg.1)
 ·rw[gr.block b (by rw[hsz];exact h1) (by simpa using h3),Below.heap_setCell _ _ _ _ (by simpa using h2)]
theorem aC2 {α:Type}{enc:α->List Value}{size:Nat}{W W':World}{B B' g:Nat}{l:List α}(h:Seg enc size W B (some ⟨g,0,none⟩) l)(hg:g<B->W'.heap[g]?=W.heap[g]?)(hB:B<=B'):Seg enc size W' B' (some ⟨g,0,none⟩) l:=by
 rcases h with h|⟨b,off,hA,hb,hc⟩
 ·exact .inl h
 ·cases hA
  exact .inr ⟨_,_,rfl,by omega,fun k x hx j v hv=>(World.cell?_of_block (hg hb)).trans (hc k x hx j v hv)⟩
theorem aBd {w W W2 W9:World}{gl g cg g2 d2:Nat}{A:Option Addr}{l0:List (Pl.j6×Option Addr×Nat)}{d:Pl.j6}{p:Option Addr×Nat}{c:Pl.aZ}{r:Except Int (List Pl.j6)}(hD:aAc w w.heap.size A (l0++[(d,p)]))(C:aAC aAk 13 W W2 (d.calls++[c]) g2 d2)
  (o9:W9.ownsRow w.heap.size 90 4 (.slice (some ⟨g,0,none⟩) (l0.length+1) cg) (l0.length+1) ((l0++[(({d with calls:=d.calls++[c]}:Pl.j6),(some ⟨g2,0,none⟩:Option Addr),d2)]).flatMap x9)) (hB:Below w.heap.size w W9)
  (hk: ∀b,b<W2.heap.size->b≠gl->b≠g->W9.heap[b]?=W2.heap[b]?) (hz:W2.heap.size<=W9.heap.size) (hgl:gl<W.heap.size) (hg:g<W.heap.size) (hr:r=.ok (l0.map (·.1)++[{d with calls:=d.calls++[c]}])):
  Q6 r w (.returned (.tuple #[.slice (some ⟨g,0,none⟩) (l0.length+1) cg,.int .i64 0])) W9:=by
 rw[show l0.length+1=(l0++[(({d with calls:=d.calls++[c]}:Pl.j6),(some ⟨g2,0,none⟩:Option Addr),d2)]).length by simp]at o9 ⊢
 obtain⟨A',c',hv',hS,_,_⟩:=dQ Q5 o9
 cases hv'
 have hn:=C.new
 refine Q6.ok _ _ _ _ rfl (by rw[hr];simp) ⟨hS,fun x hx=> ?_⟩ hB
 rcases List.mem_append.1 hx with hx|hx
 ·exact(hD.own x (by simp[hx])).up hB
 ·obtain rfl:=List.mem_singleton.1 hx
  exact aC2 C.seg (fun h=>hk g2 h (by omega) (by omega)) hz
theorem aAL (A:Option Addr)(cL:Nat)(l:List (Pl.j6×Option Addr×Nat))(Aw:Option Addr)(cw:Nat)(ws:List ByteArray)(w:World)(hno:Pl.aX ws=none∨l=[])
  (_hf:bB w w.heap.size A1 A2 A3 A4 f) (_hm:Small f) (_hcp:dY c1 c2 c3 c4 f) (_hF:Pl.aR f=0) (hD:aAc w w.heap.size A l) (XD:Pl.aBa (l.map (·.1)))
  (hN:d9 w w.heap.size Aw ws) (hcw:ws.length<=cw) (XJ:Pl.tot ws<=100000) (h0:0<ws.length) (hpl: ∀x∈ws,Pl.gI x.data.toList=true) (hw:ws[0]≠Pl.CQ):
  Calls prog 122 #[.agg (fq A1 A2 A3 A4 c1 c2 c3 c4 f),.slice A l.length cL,.slice Aw ws.length cw] w (Q6 (Pl.dn f (l.map (·.1)) ws) w):=by
 have aB3:l.length<=60:=by simpa using XD.1
 have kf:=heap_alloc_new w (.cells (fq A1 A2 A3 A4 c1 c2 c3 c4 f) 28)
 have hb0:Below w.heap.size w (w.alloc (.cells (fq A1 A2 A3 A4 c1 c2 c3 c4 f) 28)):=(Below.refl _ w).alloc (Nat.le_refl _) _
 obtain⟨W0,hW0⟩: ∃W,w.alloc (.cells (fq A1 A2 A3 A4 c1 c2 c3 c4 f) 28)=W:=⟨_,rfl⟩
 have HSZ:=Lib.hid (show W0.heap.size=w.heap.size+1 by rw[<-hW0];simp)
 rw[hW0]at kf hb0
 have kg:=heap_alloc_new W0 (.cells (#[]:Array Value) 90)
 have hb1:Below w.heap.size w (W0.alloc (.cells #[] 90)):=hb0.alloc hb0.size _
 obtain⟨g,cg,W1,r1,o1,gr1⟩:=tH Q5 (n₀:=w.heap.size) (aAf kg (by rw[HSZ.out];omega)) A cL l (hD.row.up hb1) (by omega) (by omega) hb1.size
 simp only[Nat.zero_add,List.nil_append]at r1 o1
 have hall:Below w.heap.size w W1:=hb1.grown gr1 hb1.size (fun j e=>by cases e;rw[HSZ.out];omega)
 have kf:=(gr1.block _ (by rw[World.size_alloc,HSZ.out];omega) (by rw[HSZ.out];simp)).trans ((Below.heap_alloc _ _ _ (lO kf)).trans kf)
 have bs0:=fun W=>aAU Q5 W
 clear gr1 hb1 hb0 kg
 obtain⟨bw,ow,rfl,hbw,u0⟩:=d9.gY hN (k:=0) h0
 simp only[Nat.add_zero]at u0
 have u0:=(hall.cell (p:=⟨bw,ow,none⟩) hbw).trans u0
 have hv:(ws[0].toList==[100,101,101,100])=false:=by
  have e:Pl.CQ.toList=[100,101,101,100]:=by unfold Pl.CQ;rw[ByteArray.toList_eq]
  rw[<-e,dF]
  exact decide_eq_false hw
 have aBV:(0:Int)<(ws.length:Int):=by omega
 have HHD:Hid (¬ws.head?=some Pl.CQ):=Lib.hid (by rw[List.head?_eq_getElem?,List.getElem?_eq_getElem h0];exact fun h=>hw (Option.some.inj h))
 obtain⟨k0,hk0⟩: ∃k,ws[0]=k:=⟨_,rfl⟩
 rw[hk0]at u0 hv
 clear hk0 hw
 obtain⟨b,off,Nl,hfo⟩:=Nn (some ⟨bw,ow,none⟩) cw ws W1 (hN.up hall) hcw XJ
 have ZE:=Lib.hid Nl
 have HFE:=Lib.hid (Pl.Ai hpl)
 clear Nl hpl
 have HV:Hid (Pl.dn f (l.map (·.1)) ws=.error 4):=Lib.hid (by
  unfold Pl.dn
  rw[if_neg HHD.out,<-HFE.out]
  rcases hno with h|h
  ·rw[h]
  ·subst h
   cases Pl.aX ws<;>rfl)
 obtain⟨o,ho⟩: ∃o,Pl.aX ws=o:=⟨_,rfl⟩
 rw[ho]at hfo hno
 clear ho
 go_enter func122,ntmps122
 go_wp2_with fail
 refine hfo.mono ?_
 clear hfo
 rintro e W2 ⟨X,rfl,hX,hX1,XL,hx⟩
 have kf:=kE hx kf
 have o1:=own_below o1 hx
 have hall:=hall.trans (hx.mono hall.size)
 clear hx
 have kn:=heap_alloc_new W2 (.cells (zf 0) 141)
 obtain⟨W3,Qe,k3,hg3⟩:=aG (W2.alloc (.cells (zf 0) 141)) W2.heap.size 141 141 (zf 0) X kn (by rw[hX];exact aA) (by rw[hX];rfl) hX1
 have hx:Below W2.heap.size W2 W3:=((Below.refl _ W2).alloc (Nat.le_refl _) _).grown hg3 (by simp) (fun j e=>by cases e;exact Nat.le_refl _)
 have kf:=kE hx kf
 have o1:=own_below o1 hx
 have hall:=hall.trans (hx.mono hall.size)
 clear hg3 kn hx
 cases o with
 |none=>
  dsimp only[Option.isSome]
  go_wp2_with fail
  go_ret2
  exact Q6.no 4 HV.out (by decide) hall
 | some x=>
  have hl0:l=[]:=by
   rcases hno with h|h
   ·cases h
   ·exact h
  have n0:((l.length:Int)==0)=true:=by rw[hl0];rfl
  have n0':(l.length:Int)=0:=by rw[hl0];rfl
  clear hl0 hno XL
  dsimp only[Option.isSome]
  go_wp2_with fail
  go_ret2
  exact Q6.no 4 HV.out (by decide) hall
theorem aBs (A:Option Addr)(cL:Nat)(Aw:Option Addr)(cw:Nat)(ws:List ByteArray)(w:World)(l0:List (Pl.j6×Option Addr×Nat))(d:Pl.j6)(p:Option Addr×Nat)(x:Pl.kZ)(hfx:Pl.aX ws=some x)
  (hf:bB w w.heap.size A1 A2 A3 A4 f) (hm:Small f) (hcp:dY c1 c2 c3 c4 f) (hF:Pl.aR f=0) (hD:aAc w w.heap.size A (l0++[(d,p)])) (XD:Pl.aBa ((l0++[(d,p)]).map (·.1)))
  (hN:d9 w w.heap.size Aw ws) (hcw:ws.length<=cw) (XJ:Pl.tot ws<=100000) (h0:0<ws.length) (hpl: ∀x∈ws,Pl.gI x.data.toList=true) (hw:ws[0]≠Pl.CQ):
  Calls prog 122 #[.agg (fq A1 A2 A3 A4 c1 c2 c3 c4 f),.slice A (l0.length+1) cL,.slice Aw ws.length cw] w (Q6 (Pl.dn f ((l0++[(d,p)]).map (·.1)) ws) w):=by
 have hll:(l0++[(d,p)]).length=l0.length+1:=by simp
 have aB3:(l0.length+1)<=60:=by simpa using XD.1
 have kf:=heap_alloc_new w (.cells (fq A1 A2 A3 A4 c1 c2 c3 c4 f) 28)
 have hb0:Below w.heap.size w (w.alloc (.cells (fq A1 A2 A3 A4 c1 c2 c3 c4 f) 28)):=(Below.refl _ w).alloc (Nat.le_refl _) _
 obtain⟨W0,hW0⟩: ∃W,w.alloc (.cells (fq A1 A2 A3 A4 c1 c2 c3 c4 f) 28)=W:=⟨_,rfl⟩
 have HSZ:=Lib.hid (show W0.heap.size=w.heap.size+1 by rw[<-hW0];simp)
 rw[hW0]at kf hb0
 have kg:=heap_alloc_new W0 (.cells (#[]:Array Value) 90)
 have hb1:Below w.heap.size w (W0.alloc (.cells #[] 90)):=hb0.alloc hb0.size _
 obtain⟨g,cg,W1,r1,o1,gr1⟩:=tH Q5 (n₀:=w.heap.size) (aAf kg (by rw[HSZ.out];omega)) A cL (l0++[(d,p)]) (hD.row.up hb1) (by rw[hll];omega) (by omega) hb1.size
 simp only[Nat.zero_add,List.nil_append]at r1 o1
 rw[hll]at r1 o1
 have hall:Below w.heap.size w W1:=hb1.grown gr1 hb1.size (fun j e=>by cases e;rw[HSZ.out];omega)
 have kf:=(gr1.block _ (by rw[World.size_alloc,HSZ.out];omega) (by rw[HSZ.out];simp)).trans ((Below.heap_alloc _ _ _ (lO kf)).trans kf)
 have bs0:=fun W=>aAU Q5 W
 clear gr1 hb1 hb0 kg
 obtain⟨bw,ow,rfl,hbw,u0⟩:=d9.gY hN (k:=0) h0
 simp only[Nat.add_zero]at u0
 have u0:=(hall.cell (p:=⟨bw,ow,none⟩) hbw).trans u0
 have hv:(ws[0].toList==[100,101,101,100])=false:=by
  have e:Pl.CQ.toList=[100,101,101,100]:=by unfold Pl.CQ;rw[ByteArray.toList_eq]
  rw[<-e,dF]
  exact decide_eq_false hw
 have aBV:(0:Int)<(ws.length:Int):=by omega
 have HHD:Hid (¬ws.head?=some Pl.CQ):=Lib.hid (by rw[List.head?_eq_getElem?,List.getElem?_eq_getElem h0];exact fun h=>hw (Option.some.inj h))
 obtain⟨k0,hk0⟩: ∃k,ws[0]=k:=⟨_,rfl⟩
 rw[hk0]at u0 hv
 clear hk0 hw
 obtain⟨b,off,Nl,hfo⟩:=Nn (some ⟨bw,ow,none⟩) cw ws W1 (hN.up hall) hcw XJ
 have ZE:=Lib.hid Nl
 have HFE:=Lib.hid (Pl.Ai hpl)
 clear Nl hpl
 have aCz:d.calls.length<=20:=XD.2 d (by simp)
 have HDL:Hid (Pl.dn f ((l0++[(d,p)]).map (·.1)) ws=if 20<=d.calls.length then .error 2 else match Pl.jF f x d.year with
   | .error e=> .error e
   | .ok c=> .ok (l0.map (·.1)++[{d with calls:=d.calls++[c]}])):=Lib.hid (by
  unfold Pl.dn
  rw[if_neg HHD.out,<-HFE.out,hfx]
  simp
  generalize Pl.jF f x d.year=z
  cases z<;>rfl)
 obtain⟨gd,od,hP,hgd,hld⟩:=Dds.ld hD.row (k:=l0.length) (by simp)
 subst hP
 simp only[List.getElem_append_right (Nat.le_refl _),Nat.sub_self,List.getElem_cons_zero]at hld
 have hcl:=hD.own (d,p) (by simp)
 have h4:4<=ws.length:=by
  have h:=hfx
  unfold Pl.aX at h
  split at h
  ·cases h
  ·omega
 obtain⟨rfl,rfl⟩:bw=b∧ow=off:=by simpa using ZE.out h4
 have HFX:=Lib.hid hfx
 rw[hfx]at hfo
 clear hfx h4 hll
 have e2:(0:Int)<((l0.length+1:Nat):Int):=by omega
 have e3:IntKind.i64.wrap (((l0.length+1:Nat):Int)-1)=(l0.length:Int):=by rw[IntWalk.i64_in _ (by omega)];omega
 have e3':IntKind.i64.wrap ((l0.length:Int)+1-1)=(l0.length:Int):=by rw[IntWalk.i64_in _ (by omega)];omega
 have e3s:IntKind.i64.wrap (l0.length:Int)=(l0.length:Int):=IntWalk.i64_in _ (by omega)
 have e4:(0:Int)<=(l0.length:Int):=by omega
 have e5:(l0.length:Int)<((l0.length+1:Nat):Int):=by omega
 have e6:(l0.length:Int)<(l0.length:Int)+1:=by omega
 have e7: ¬(l0.length:Int)+1=0:=by omega
 have e7':((l0.length:Int)+1==0)=false:=by simpa using e7
 go_enter func122,ntmps122
 go_wp2_with fail
 refine hfo.mono ?_
 clear hfo
 rintro e W2 ⟨X,rfl,hX,hX1,XL,hx⟩
 have kf:=kE hx kf
 have o1:=own_below o1 hx
 have hall:=hall.trans (hx.mono hall.size)
 clear hx
 have kn:=heap_alloc_new W2 (.cells (zf 0) 141)
 obtain⟨W3,Qe,k3,hg3⟩:=aG (W2.alloc (.cells (zf 0) 141)) W2.heap.size 141 141 (zf 0) X kn (by rw[hX];exact aA) (by rw[hX];rfl) hX1
 have hx:Below W2.heap.size W2 W3:=((Below.refl _ W2).alloc (Nat.le_refl _) _).grown hg3 (by simp) (fun j e=>by cases e;exact Nat.le_refl _)
 have kf:=kE hx kf
 have o1:=own_below o1 hx
 have hall:=hall.trans (hx.mono hall.size)
 clear hg3 kn hx
 have ZF:=Lib.hid (XL x rfl)
 clear XL
 dsimp only[Option.isSome]
 have hld:=hld W3 hall
 have kn:=heap_alloc_new W3 (.cells #[.string ⟨#[]⟩,.int .i64 0,.int .i64 0,.slice none 0 0] 90)
 obtain⟨W4,Ro,k4,hg4⟩:=aG (W3.alloc (.cells #[.string ⟨#[]⟩,.int .i64 0,.int .i64 0,.slice none 0 0] 90)) W3.heap.size 90 90 #[.string ⟨#[]⟩,.int .i64 0,.int .i64 0,.slice none 0 0] (dq d p.1 p.2) kn aAD rfl (by simp[Value.oneCell'])
 have hx:Below W3.heap.size W3 W4:=((Below.refl _ W3).alloc (Nat.le_refl _) _).grown hg4 (by simp) (fun j e=>by cases e;exact Nat.le_refl _)
 have VR:=kE hx kf
 have k34:=kE hx k3
 have o4:=own_below o1 hx
 have mW:=hall.trans (hx.mono hall.size)
 have aBT:w.heap.size<=W3.heap.size:=hall.size
 have aCk:g≠W3.heap.size:=Nat.ne_of_lt (o1.lt g rfl).2
 clear hg4 kn hx
 obtain⟨gl,hgl⟩: ∃z,W3.heap.size=z:=⟨_,rfl⟩
 rw[hgl]at Ro k4 aBT aCk
 obtain⟨aB4,aCA⟩:=ah k4
 by_cases h20:20<=d.calls.length
 ·have HV:Hid (Pl.dn f ((l0++[(d,p)]).map (·.1)) ws=.error 2):=Lib.hid (by rw[HDL.out,if_pos h20])
  have n20:(20:Int)<=(d.calls.length:Int):=by omega
  clear h20 aCz
  go_wp2_with fail
  go_ret2
  exact Q6.no 2 HV.out (by decide) mW
 have n20: ¬(20:Int)<=(d.calls.length:Int):=by omega
 have HDL:Hid (Pl.dn f ((l0++[(d,p)]).map (·.1)) ws=match Pl.jF f x d.year with
   | .error e=> .error e
   | .ok c=> .ok (l0.map (·.1)++[{d with calls:=d.calls++[c]}])):=Lib.hid (by rw[HDL.out,if_neg h20])
 clear h20
 have hrs:=E9 A1 A2 A3 A4 c1 c2 c3 c4 f x ws bw ow cw d.year W4 (hf.up mW) hm hcp hF HFX.out (hN.up mW)
 rw[<-ZF.out]at hrs
 have lf:=ak VR underlying28 rfl av
 have lx:=ak k34 underlying141 rfl (by rw[hX];exact aA)
 have ly:W4.cell? ⟨gl,1,none⟩=some (.int .i64 d.year):=aB4 1
 have l3:W4.cell? ⟨gl,3,none⟩=some (.slice p.1 d.calls.length p.2):=aB4 3
 clear aB4 aCA
 go_wp2_with fail
 refine hrs.mono ?_
 clear hrs lf lx ly l3
 rintro e W5 hE
 obtain⟨hx,hE2⟩:=hE
 have k4:=kE hx k4
 have o5:=own_below o4 hx
 have K7:=mW.trans (hx.mono mW.size)
 clear hx kf VR k34 k3 o1 o4
 cases hmd:Pl.jF f x d.year with
 |error E=>
  rw[hmd]at hE2
  obtain rfl:e=.returned (.tuple #[.agg mH,.int .i64 E]):=hE2
  have hE0:=Pl.aAK hmd
  have aCV:(E !=0)=true:=by simpa using hE0
  have HV:Hid (Pl.dn f ((l0++[(d,p)]).map (·.1)) ws=.error E):=Lib.hid (by rw[HDL.out,hmd])
  have kn:=heap_alloc_new W5 (.cells bP 48)
  obtain⟨W6,Yt,k6,Ws⟩:=aG (W5.alloc (.cells bP 48)) W5.heap.size 48 48 bP mH kn aj rfl (by simp[mH,Value.oneCell'])
  have hx:Below W5.heap.size W5 W6:=((Below.refl _ W5).alloc (Nat.le_refl _) _).grown Ws (by simp) (fun j e=>by cases e;exact Nat.le_refl _)
  have I5:=K7.trans (hx.mono K7.size)
  clear hmd HDL
  go_wp2_with fail
  go_ret2
  exact Q6.no E HV.out hE0 I5
 | ok c=>
  rw[hmd]at hE2
  obtain rfl:e=.returned (.tuple #[.agg (kq c),.int .i64 0]):=hE2
  have HV:Hid (Pl.dn f ((l0++[(d,p)]).map (·.1)) ws=.ok (l0.map (·.1)++[{d with calls:=d.calls++[c]}])):=Lib.hid (by rw[HDL.out,hmd])
  have kn:=heap_alloc_new W5 (.cells bP 48)
  obtain⟨W6,Yt,k6,Ws⟩:=aG (W5.alloc (.cells bP 48)) W5.heap.size 48 48 bP (kq c) kn aj rfl (by simp[Value.oneCell'])
  have hx:Below W5.heap.size W5 W6:=((Below.refl _ W5).alloc (Nat.le_refl _) _).grown Ws (by simp) (fun j e=>by cases e;exact Nat.le_refl _)
  have H:MoW w gl W5.heap.size g cg l0 d p c W6:=⟨kE hx k4,k6,own_below o5 hx,K7.trans (hx.mono K7.size)⟩
  have hgc:W5.heap.size≠gl:=(Nat.ne_of_lt (lO k4)).symm
  clear hmd HDL Ws kn hx k4 k6 o5 K7
  obtain⟨gc,aCB⟩: ∃z,W5.heap.size=z:=⟨_,rfl⟩
  rw[aCB]at Yt H hgc
  have hne:g≠gl:=aCk
  have aB5:gl<W6.drew.heap.size:=lO H.kl
  have hg1:g<W6.drew.heap.size:=(H.ow.lt g rfl).2
  have bs1:=fun W=>aAU aAu W
  go_wp2_with fail
  obtain⟨g1A,d1A,W1A,g2A,d2A,W2A,raA,rbA,aCC,CA⟩:=aB0 (W:=W6.drew) (A:=p.1) (c:=p.2) (l:=d.calls) (x:=c) (cs:=(kq c)) aAu (hcl.up H.drew.all) (by omega) (by omega) (by simp[aAk])
  obtain⟨g1B,d1B,W1B,g2B,d2B,W2B,raB,rbB,aCD,CB⟩:=aB1 (W:=W6.drew) (A:=p.1) (c:=p.2) (l:=d.calls) (x:=c) (cs:=(kq c)) aAu (hcl.up H.drew.all) (by omega) (by omega) (by simp[aAk])
  obtain⟨g1C,d1C,W1C,g2C,d2C,W2C,raC,rbC,aCE,CC⟩:=aB2 (W:=W6.drew) (A:=p.1) (c:=p.2) (l:=d.calls) (x:=c) (cs:=(kq c)) aAu (hcl.up H.drew.all) (by omega) (by omega) (by simp[aAk])
  have raA:(Builtin.append_ #[88,88] 88 #[.slice (some ⟨W6.heap.size,0,none⟩) 0 0,.slice p.1 d.calls.length p.2]).run prog (W6.alloc (.cells #[] 48)).drew=.ok (.slice (some ⟨g1A,0,none⟩) d.calls.length d1A) W1A:=raA
  have raB:(Builtin.append_ #[88,88] 88 #[.slice (some ⟨W6.heap.size,0,none⟩) 0 0,.slice p.1 d.calls.length p.2]).run prog ((W6.alloc (.cells #[] 48)).alloc (.cells (kq c) 48)).drew=.ok (.slice (some ⟨g1B,0,none⟩) d.calls.length d1B) W1B:=raB
  have raC:(Builtin.append_ #[88,88] 88 #[.slice (some ⟨W6.heap.size+1,0,none⟩) 0 0,.slice p.1 d.calls.length p.2]).run prog ((W6.alloc (.cells (kq c) 48)).alloc (.cells #[] 48)).drew=.ok (.slice (some ⟨g1C,0,none⟩) d.calls.length d1C) W1C:=raC
  have rbB:(Builtin.append_ #[88,88] 88 #[.slice (some ⟨g1B,0,none⟩) d.calls.length d1B,.slice (some ⟨W6.heap.size+1,0,none⟩) 1 1]).run prog W1B=.ok (.slice (some ⟨g2B,0,none⟩) (d.calls.length+1) d2B) W2B:=rbB
  have rbC:(Builtin.append_ #[88,88] 88 #[.slice (some ⟨g1C,0,none⟩) d.calls.length d1C,.slice (some ⟨W6.heap.size,0,none⟩) 1 1]).run prog W1C=.ok (.slice (some ⟨g2C,0,none⟩) (d.calls.length+1) d2C) W2C:=rbC
  have H2A:=H.drew.IU CA.all
  have H1A:=H.drew.IU aCC
  obtain⟨W9A,lbA,stA,o9A,Nt,hkA,hzA⟩:=aBb H2A.kl H2A.ow hne aBT H2A.all (d.calls++[c]) g2A d2A (d.calls.length+1) (by simp)
  obtain⟨aCW,aCX⟩:=ah H2A.kl
  have aCF:=aBd hD CA o9A Nt hkA hzA aB5 hg1 HV.out
  have H2B:=H.drew.IU CB.all
  obtain⟨W9B,lbB,stB,o9B,hBB,hkB,hzB⟩:=aBb H2B.kl H2B.ow hne aBT H2B.all (d.calls++[c]) g2B d2B (d.calls.length+1) (by simp)
  obtain⟨aCY,aCZ⟩:=ah H2B.kl
  have aCG:=aBd hD CB o9B hBB hkB hzB aB5 hg1 HV.out
  have H2C:=H.drew.IU CC.all
  obtain⟨W9C,lbC,stC,o9C,hBC,hkC,hzC⟩:=aBb H2C.kl H2C.ow hne aBT H2C.all (d.calls++[c]) g2C d2C (d.calls.length+1) (by simp)
  obtain⟨aC0,aC1⟩:=ah H2C.kl
  have aCH:=aBd hD CC o9C hBC hkC hzC aB5 hg1 HV.out
  have q0:=H.drew
  have q1:=(H.IU (((Below.refl _ W6).alloc (Nat.le_refl _) (.cells #[] 48)))).drew
  have q3:=(H.IU (((Below.refl _ W6).alloc (Nat.le_refl _) (.cells (kq c) 48)))).drew
  have q2:=(H.IU ((((Below.refl _ W6).alloc (Nat.le_refl _) (.cells #[] 48)).alloc (by simp) (.cells (kq c) 48)))).drew
  have q4:=(H.IU ((((Below.refl _ W6).alloc (Nat.le_refl _) (.cells (kq c) 48)).alloc (by simp) (.cells #[] 48)))).drew
  have f0:(W6).cell? ⟨gl,3,none⟩=some (.slice p.1 d.calls.length p.2):=(ah q0.kl).1 3
  have f1:((W6.alloc (.cells #[] 48))).cell? ⟨gl,3,none⟩=some (.slice p.1 d.calls.length p.2):=(ah q1.kl).1 3
  have f2:((W6.alloc (.cells (kq c) 48))).cell? ⟨gl,3,none⟩=some (.slice p.1 d.calls.length p.2):=(ah q3.kl).1 3
  have f3:(((W6.alloc (.cells #[] 48)).alloc (.cells (kq c) 48))).cell? ⟨gl,3,none⟩=some (.slice p.1 d.calls.length p.2):=(ah q2.kl).1 3
  have f4:(((W6.alloc (.cells (kq c) 48)).alloc (.cells #[] 48))).cell? ⟨gl,3,none⟩=some (.slice p.1 d.calls.length p.2):=(ah q4.kl).1 3
  have p0:=H1A.IU ((Below.refl _ W1A).alloc (Nat.le_refl _) (.cells (kq c) 48))
  have H1B:=H.drew.IU aCD
  have H1C:=H.drew.IU aCE
  have z1:=(Below.heap_setCell W2A ⟨gl,3,none⟩ (.slice (some ⟨g2A,0,none⟩) (d.calls.length+1) d2A) gc hgc).trans H2A.kc
  have z2:=(Below.heap_setCell W2B ⟨gl,3,none⟩ (.slice (some ⟨g2B,0,none⟩) (d.calls.length+1) d2B) gc hgc).trans H2B.kc
  have z3:=(Below.heap_setCell W2C ⟨gl,3,none⟩ (.slice (some ⟨g2C,0,none⟩) (d.calls.length+1) d2C) gc hgc).trans H2C.kc
  have y0:=ak q0.kc underlying48 rfl aj
  have y1:=ak q1.kc underlying48 rfl aj
  have y2:=ak q2.kc underlying48 rfl aj
  have y3:=ak q3.kc underlying48 rfl aj
  have y4:=ak q4.kc underlying48 rfl aj
  have y5:=ak H1A.kc underlying48 rfl aj
  have y6:=ak p0.kc underlying48 rfl aj
  have y7:=ak H1B.kc underlying48 rfl aj
  have y8:=ak H1C.kc underlying48 rfl aj
  have y9:=ak H2A.kc underlying48 rfl aj
  have Zo:=ak H2B.kc underlying48 rfl aj
  have Zp:=ak H2C.kc underlying48 rfl aj
  have Zq:=ak z1 underlying48 rfl aj
  have y13:=ak z2 underlying48 rfl aj
  have Zu:=ak z3 underlying48 rfl aj
  refine wp_region_held_drew (S:=fun W=>(loadVar 48 ⟨gc,0,none⟩).run prog W=.ok (.agg (kq c)) W) (by kernel_rfl) y0 (fun hHeld=> ?_)
  refine tJ 1 125 rfl rfl ?_
  try simp only[au]
  refine tJ 4 128 rfl rfl ?_
  try simp only[au]
  refine wpAnyH_ready (rs:=[0,2,5]) (by kernel_rfl) (by simp) ?_;refine aI (some 124) rfl rfl (fun K hK=> ?_) (aI (some 126) rfl rfl (fun K hK=> ?_) (aI (some 129) rfl rfl (fun K hK=> ?_) AllReadyH.nil))
  all_goals (
   go_simp
   refine hK.out _ _ (by with_reducible assumption) (fun hHeld=> ?_)
   clear hK K
   try simp only[au])
  refine wpAnyH_ready (rs:=[2,5]) (by kernel_rfl) (by simp) ?_;refine aI (some 126) rfl rfl (fun K hK=> ?_) (aI (some 129) rfl rfl (fun K hK=> ?_) AllReadyH.nil)
  rotate_left 2
  refine wpAnyH_ready (rs:=[0,5]) (by kernel_rfl) (by simp) ?_;refine aI (some 124) rfl rfl (fun K hK=> ?_) (aI (some 129) rfl rfl (fun K hK=> ?_) AllReadyH.nil)
  rotate_left 2
  refine wpAnyH_ready (rs:=[0,2]) (by kernel_rfl) (by simp) ?_;refine aI (some 124) rfl rfl (fun K hK=> ?_) (aI (some 126) rfl rfl (fun K hK=> ?_) AllReadyH.nil)
  rotate_left 2
  all_goals (
   go_simp
   refine hK.out _ _ (by with_reducible assumption) (fun hHeld=> ?_)
   clear hK K
   try simp only[au])
  refine wpAnyH_ready (rs:=[3,5]) (by kernel_rfl) (by simp) ?_;refine aI (some 127) rfl rfl (fun K hK=> ?_) (aI (some 129) rfl rfl (fun K hK=> ?_) AllReadyH.nil)
  rotate_left 2
  refine wpAnyH_ready (rs:=[2]) (by kernel_rfl) (by simp) ?_;refine aI (some 126) rfl rfl (fun K hK=> ?_) AllReadyH.nil
  rotate_left 1
  refine wpAnyH_ready (rs:=[3,5]) (by kernel_rfl) (by simp) ?_;refine aI (some 127) rfl rfl (fun K hK=> ?_) (aI (some 129) rfl rfl (fun K hK=> ?_) AllReadyH.nil)
  rotate_left 2
  refine wpAnyH_ready (rs:=[0]) (by kernel_rfl) (by simp) ?_;refine aI (some 124) rfl rfl (fun K hK=> ?_) AllReadyH.nil
  rotate_left 1
  refine wpAnyH_ready (rs:=[2]) (by kernel_rfl) (by simp) ?_;refine aI (some 126) rfl rfl (fun K hK=> ?_) AllReadyH.nil
  rotate_left 1
  refine wpAnyH_ready (rs:=[0]) (by kernel_rfl) (by simp) ?_;refine aI (some 124) rfl rfl (fun K hK=> ?_) AllReadyH.nil
  rotate_left 1
  all_goals (
   go_simp
   refine hK.out _ _ (by with_reducible assumption) (fun hHeld=> ?_)
   clear hK K
   try simp only[au])
  refine wpAnyH_ready (rs:=[5]) (by kernel_rfl) (by simp) ?_;refine aI (some 129) rfl rfl (fun K hK=> ?_) AllReadyH.nil
  rotate_left 1
  refine wpAnyH_ready (rs:=[3]) (by kernel_rfl) (by simp) ?_;refine aI (some 127) rfl rfl (fun K hK=> ?_) AllReadyH.nil
  rotate_left 1
  refine wpAnyH_ready (rs:=[3]) (by kernel_rfl) (by simp) ?_;refine aI (some 127) rfl rfl (fun K hK=> ?_) AllReadyH.nil
  rotate_left 1
  refine wpAnyH_ready (rs:=[5]) (by kernel_rfl) (by simp) ?_;refine aI (some 129) rfl rfl (fun K hK=> ?_) AllReadyH.nil
  rotate_left 1
  refine wpAnyH_ready (rs:=[3]) (by kernel_rfl) (by simp) ?_;refine aI (some 127) rfl rfl (fun K hK=> ?_) AllReadyH.nil
  rotate_left 1
  refine wpAnyH_ready (rs:=[3]) (by kernel_rfl) (by simp) ?_;refine aI (some 127) rfl rfl (fun K hK=> ?_) AllReadyH.nil
  rotate_left 1
  refine wpAnyH_ready (rs:=[3]) (by kernel_rfl) (by simp) ?_;refine aI (some 127) rfl rfl (fun K hK=> ?_) AllReadyH.nil
  rotate_left 1
  refine wpAnyH_ready (rs:=[3]) (by kernel_rfl) (by simp) ?_;refine aI (some 127) rfl rfl (fun K hK=> ?_) AllReadyH.nil
  rotate_left 1
  all_goals (
   go_simp
   refine hK.out _ _ (by with_reducible assumption) (fun hHeld=> ?_)
   clear hK K
   try simp only[au])
  all_goals (refine wpAnyH_ready (rs:=[6]) (by kernel_rfl) (by simp) ?_;refine aI (some 130) rfl rfl (fun K hK=> ?_) AllReadyH.nil)
  all_goals (
   go_simp
   refine hK.out _ _ (by with_reducible assumption) (fun hHeld=> ?_)
   clear hK K
   try simp only[au])
  all_goals (
   refine tJ 7 131 rfl rfl ?_
   try simp only[au])
  all_goals (refine wpAnyH_ready (rs:=[8]) (by kernel_rfl) (by simp) ?_;refine aI none rfl rfl (fun K hK=> ?_) AllReadyH.nil)
  all_goals (
   go_simp
   refine hK.out _ _ (by with_reducible assumption) (fun hHeld=> ?_)
   clear hK K
   try simp only[au])
  all_goals refine wpAnyH_done (by kernel_rfl) ?_ _
  all_goals go_wp2_with fail
  all_goals go_ret2
  all_goals first|exact aCF|exact aCG|exact aCH
theorem aB6 (A:Option Addr)(cL:Nat)(l:List (Pl.j6×Option Addr×Nat))(Aw:Option Addr)(cw:Nat)(ws:List ByteArray)(w:World)
  (hf:bB w w.heap.size A1 A2 A3 A4 f) (hm:Small f) (hcp:dY c1 c2 c3 c4 f) (hF:Pl.aR f=0) (hD:aAc w w.heap.size A l) (XD:Pl.aBa (l.map (·.1)))
  (hN:d9 w w.heap.size Aw ws) (hcw:ws.length<=cw) (XJ:Pl.tot ws<=100000) (h0:0<ws.length) (hpl: ∀x∈ws,Pl.gI x.data.toList=true):
  Calls prog 122 #[.agg (fq A1 A2 A3 A4 c1 c2 c3 c4 f),.slice A l.length cL,.slice Aw ws.length cw] w (Q6 (Pl.dn f (l.map (·.1)) ws) w):=by
 by_cases hw:ws[0]=Pl.CQ
 ·exact aBr A1 A2 A3 A4 c1 c2 c3 c4 f A cL l Aw cw ws w hD XD hN hcw XJ h0 hpl hw
 ·by_cases hl:l=[]
  ·exact aAL A1 A2 A3 A4 c1 c2 c3 c4 f A cL l Aw cw ws w (.inr hl) hf hm hcp hF hD XD hN hcw XJ h0 hpl hw
  ·cases hx:Pl.aX ws with
   |none=>exact aAL A1 A2 A3 A4 c1 c2 c3 c4 f A cL l Aw cw ws w (.inl hx) hf hm hcp hF hD XD hN hcw XJ h0 hpl hw
   |some x=>
    have hsp:=List.dropLast_concat_getLast hl
    have hl1:l.length=l.dropLast.length+1:=by have:=List.length_pos_iff.2 hl;simp;omega
    have:=aBs A1 A2 A3 A4 c1 c2 c3 c4 f A cL Aw cw ws w l.dropLast (l.getLast hl).1 (l.getLast hl).2 x hx hf hm hcp hF (by rw[hsp];exact hD) (by rw[hsp];exact XD) hN hcw XJ h0 hpl hw
    rw[hsp,<-hl1]at this
    exact this
end Go.Proofs
namespace Go.Proofs
open Tryz RowKit
attribute [-go_sem] run_equalIn_agg loadVar storeVar
attribute [local go_sem] bZ bH dU aT dD
theorem Pl.aBe {s x:ByteArray}(h:x∈Pl.iA s):(10:UInt8)∉x.data.toList:=by
 unfold Pl.iA at h
 obtain⟨l,hl,rfl⟩:=List.mem_map.1 h
 exact(Pl.wh 10 _ _ hl).1
theorem aAc.up {w w':World}{A:Option Addr}{l:List (Pl.j6×Option Addr×Nat)}(h:aAc w w.heap.size A l)(hb:Below w.heap.size w w'):aAc w' w'.heap.size A l:=⟨h.row.up hb,fun x hx=>(h.own x hx).up hb⟩
def aAM (r:List Pl.j6×Int×Int)(w:World)(e:Ending)(w':World):Prop:=
 ∃l A c,l.map (·.1)=r.1∧e=.returned (.tuple #[.slice A l.length c,.agg (i2 r.2.1 r.2.2)])∧aAc w' w'.heap.size A l∧Below w.heap.size w w'
theorem aAM.no {r:List Pl.j6×Int×Int}{w w':World}(E n:Int)(hr:r=([],E,n))(hb:Below w.heap.size w w'):aAM r w (.returned (.tuple #[.slice none 0 0,.agg (i2 E n)])) w':=by
 subst hr
 exact⟨[],none,0,rfl,rfl,⟨.inl rfl,fun x hx=>by cases hx⟩,hb⟩
theorem seg_apart {α:Type}{enc:α->List Value}{size:Nat}{w w':World}{A:Option Addr}{l:List α}{g:Nat}{cs:Array Value}{t:TypeId}(h:Seg enc size w w.heap.size A l)(kg:w.heap[g]?=some (.cells cs t (0,0)))
  (hd: ∀x∈l,∃v:Value,(enc x)[0]?=some v∧ ∀j:Nat,cs[j]?≠some v) (hg:w.grownBy w' (some g)):Seg enc size w' w'.heap.size A l:=by
 rcases h with h|⟨b,off,rfl,hb,hc⟩
 ·exact .inl h
 ·by_cases hbg:b=g
  ·subst hbg
   cases l with
   |nil=>exact .inl rfl
   |cons x l=>
    obtain⟨v,hv,hne⟩:=hd x (by simp)
    have:=hc 0 x (by simp) 0 v hv
    rw[(ah kg).1]at this
    exact absurd this (hne _)
  ·exact .inr ⟨b,off,rfl,Nat.lt_of_lt_of_le hb hg.size,fun k x hx j v hv=>(World.cell?_of_block (hg.block b hb (by simpa using fun e=>hbg e))).trans (hc k x hx j v hv)⟩
theorem aAc.kept {w w':World}{A:Option Addr}{l:List (Pl.j6×Option Addr×Nat)}{g:Nat}{t:TypeId}(h:aAc w w.heap.size A l)(kg:w.heap[g]?=some (.cells (i2 0 0) t (0,0)))(hg:w.grownBy w' (some g)):aAc w' w'.heap.size A l:=by
 have hne: ∀(v:Value),v≠ .int .i64 0-> ∀j:Nat,((i2 0 0):Array Value)[j]?≠some v:=by
  intro v hv j
  match j with
  |0=>simpa using fun e=>hv e.symm
  |1=>simpa using fun e=>hv e.symm
  |j+2=>simp
 exact⟨seg_apart h.row kg (fun x _=>⟨_,rfl,hne _ (by simp)⟩) hg,fun x hx=>seg_apart (h.own x hx) kg (fun c _=>⟨_,rfl,hne _ (by simp)⟩) hg⟩
theorem aAH (A1 A2 A3 A4:Option Addr)(c1 c2 c3 c4:Nat)(f:Pl.aL)(src:ByteArray)(w:World)(hf:bB w w.heap.size A1 A2 A3 A4 f)(hm:Small f)(hcp:dY c1 c2 c3 c4 f)(hs:src.size<=90000):
  Calls prog 47 #[.agg (fq A1 A2 A3 A4 c1 c2 c3 c4 f),.string src] w (aAM (Pl.dz f src) w):=by
 obtain⟨F,Wu⟩: ∃F,Pl.aR f=F:=⟨_,rfl⟩
 obtain⟨W0,hW0⟩: ∃W,((w.alloc (.cells (fq A1 A2 A3 A4 c1 c2 c3 c4 f) 28)).alloc (.cells (i2 0 0) 31))=W:=⟨_,rfl⟩
 have kf:=heap_alloc2_old w (.cells (fq A1 A2 A3 A4 c1 c2 c3 c4 f) 28) (.cells (i2 0 0) 31)
 have ke:=heap_alloc2_new w (.cells (fq A1 A2 A3 A4 c1 c2 c3 c4 f) 28) (.cells (i2 0 0) 31)
 have hall:Below w.heap.size w W0:=by rw[<-hW0];exact((Below.refl _ w).alloc (Nat.le_refl _) _).alloc (by simp) _
 rw[hW0]at kf ke
 have lf:=ak kf underlying28 rfl av
 have hck:=mI A1 A2 A3 A4 c1 c2 c3 c4 f F W0 (Lib.hid Wu) (hf.up hall) hm hcp
 have Sn:=Lib.hid Wu
 clear Wu
 go_enter func47,ntmps47
 go_wp2_with fail
 refine hck.mono ?_
 clear hck lf hW0
 rintro e W1 ⟨rfl,hx⟩
 have kf:=kE hx kf
 have ke:=kE hx ke
 have hall:=hall.trans (hx.mono hall.size)
 clear hx
 by_cases UQ:F=0
 case neg=>
  have HV:Hid (Pl.dz f src=([],F,0)):=Lib.hid (by unfold Pl.dz;rw[Sn.out,if_pos UQ])
  have hne:(F !=0)=true:=by simpa using UQ
  have hne':(F==0)=false:=by simpa using UQ
  clear UQ
  obtain⟨W9,lN,k9,fB⟩:=aG _ (w.heap.size+1) 31 31 (i2 0 0) (i2 F 0) ke j_ rfl (by simp[Value.oneCell'])
  have l9:=ak k9 underlying31 rfl j_
  have fC:=hall.grown fB hall.size (fun j e=>by cases e;omega)
  go_wp2_with fail
  refine bodyPost_ret (v:=.tuple #[.slice none 0 0,.agg (i2 F 0)]) (by simp[results,results47,go_sem,l9]) rfl ?_
  exact aAM.no F 0 HV.out fC
 subst UQ
 by_cases hlong:20000<src.size
 ·have HV:Hid (Pl.dz f src=([],2,0)):=Lib.hid (by unfold Pl.dz;rw[Sn.out,if_neg (by decide),if_pos hlong])
  have g1:(20000:Int)<(src.size:Int):=by omega
  clear hlong
  obtain⟨W9,lN,k9,fB⟩:=aG _ (w.heap.size+1) 31 31 (i2 0 0) (i2 2 0) ke j_ rfl (by simp[Value.oneCell'])
  have l9:=ak k9 underlying31 rfl j_
  have fC:=hall.grown fB hall.size (fun j e=>by cases e;omega)
  go_wp2_with fail
  refine bodyPost_ret (v:=.tuple #[.slice none 0 0,.agg (i2 2 0)]) (by simp[results,results47,go_sem,l9]) rfl ?_
  exact aAM.no 2 0 HV.out fC
 have hp:Pl.dz f src=Pl.DJ f [] 0 ((Pl.iA src).map Pl.aW):=by unfold Pl.dz;rw[Sn.out,if_neg (by decide),if_neg hlong]
 have HP:=Lib.hid hp
 have g1: ¬(20000:Int)<(src.size:Int):=by omega
 have hlt:Pl.tot (Pl.iA src)<=20001:=by rw[Pl.aBq];omega
 have hll:=Pl.wm (Pl.iA src)
 clear hp
 go_wp2_with fail
 refine(M5 src _ (by omega)).mono ?_
 rintro e W2 ⟨Al,cl,rfl,hN,hcl,_,hx⟩
 have kf:=kE hx kf
 have ke:=kE hx ke
 have hall:=hall.trans (hx.mono hall.size)
 clear hx hlong
 go_wp2_with fail
 obtain⟨R,hR⟩: ∃R,Pl.dz f src=R:=⟨_,rfl⟩
 have HRR:=Lib.hid hR
 rw[hR]at HP
 clear hR
 go_loopw [7,9] (fun o i wr=> ∃(k:Nat),k<=(Pl.iA src).length∧i=.int .i64 k∧ ∃A c l,o=.slice A (List.length (α:=Pl.j6×Option Addr×Nat) l) c∧aAc wr wr.heap.size A l∧Pl.aBa (l.map (·.1))∧Below W2.heap.size W2 wr∧Hid (R=Pl.DJ f (l.map (·.1)) k (((Pl.iA src).drop k).map Pl.aW))) (fun _ i _=>(Pl.iA src).length-(intOf i).toNat)
 case atStart=>exact⟨0,by omega,rfl,none,0,[],rfl,⟨.inl rfl,fun x hx=>by cases hx⟩,⟨by simp,fun d hd=>by cases hd⟩,Below.refl _ _,HP⟩
 case round=>
  clear HP
  obtain⟨k,hk,rfl,A,c,l,rfl,hD,XD,hx,HR⟩:=hrel
  have kf:=kE hx kf
  have ke:=kE hx ke
  have Ar:=hall
  have hall:=hall.trans (hx.mono hall.size)
  by_cases hlt:k<(Pl.iA src).length
  ·have e1:(0:Int)<=(k:Int):=by omega
   have e2:(k:Int)<((Pl.iA src).length:Int):=by omega
   obtain⟨bl,ol,hA,_,ul⟩:=d9.gY (hN.up hx) hlt
   subst hA
   have hsz:=Pl.gQ (List.getElem_mem hlt)
   have hpl:=Pl.uZ (Pl.aBe (List.getElem_mem hlt))
   have hd:(Pl.iA src).drop k=(Pl.iA src)[k]::(Pl.iA src).drop (k+1):=List.drop_eq_getElem_cons hlt
   rw[hd,List.map_cons]at HR
   clear hd
   obtain⟨s,hsd⟩: ∃s,(Pl.iA src)[k]=s:=⟨_,rfl⟩
   rw[hsd]at ul hsz HR hpl
   clear hsd
   go_wp2_with fail
   refine(M0 s _ (by omega)).mono ?_
   rintro e W3 ⟨Aw,cw,rfl,PX,hcw,_,hx3⟩
   have kf:=kE hx3 kf
   have ke:=kE hx3 ke
   have hD:=hD.up hx3
   have hall:=hall.trans (hx3.mono hall.size)
   have hx:=hx.trans (hx3.mono hx.size)
   clear hx3 ul
   have XJ:Pl.tot (Pl.aW s)<=100000:=by have:=Pl.Kg s;omega
   obtain⟨ws,hws⟩: ∃ws,Pl.aW s=ws:=⟨_,rfl⟩
   rw[hws]at PX hcw XJ HR hpl ⊢
   clear hws
   by_cases hw0:ws=[]
   ·subst hw0
    have HR2:Hid (R=Pl.DJ f (l.map (·.1)) (k+1) (((Pl.iA src).drop (k+1)).map Pl.aW)):=Lib.hid (by rw[HR.out];conv=>lhs;unfold Pl.DJ;rw[if_pos rfl])
    clear HR
    go_wp2_with fail
    go_roundw
    case rel=>exact⟨k+1,by omega,by go_num,A,c,l,rfl,hD,XD,hx,HR2⟩
    case measure=>first|(simp[intOf];done)|(simp[intOf];omega)
   ·have hne:((ws.length:Int)==0)=false:=by
     have:=List.length_pos_iff.2 hw0
     simp;omega
    have hmo:=aB6 A1 A2 A3 A4 c1 c2 c3 c4 f A c l Aw cw ws W3 (hf.up hall) hm hcp Sn.out hD XD PX hcw XJ (List.length_pos_iff.2 hw0) hpl
    have lf:=ak kf underlying28 rfl av
    have e3:IntKind.i64.wrap ((k:Int)+1)=(k:Int)+1:=IntWalk.i64_in _ (by omega)
    go_wp2_with fail
    refine hmo.mono ?_
    clear hmo lf
    rintro e W4 ⟨hx4,hE⟩
    have ke:=kE hx4 ke
    have hall:=hall.trans (hx4.mono hall.size)
    have hx:=hx.trans (hx4.mono hx.size)
    clear hx4
    cases hdl:Pl.dn f (l.map (·.1)) ws with
    |error E=>
     rw[hdl]at hE
     obtain⟨hE0,rfl⟩:=hE
     have HV:Hid (R=([],E,(k:Int)+1)):=Lib.hid (by rw[HR.out];unfold Pl.DJ;rw[if_neg hw0,hdl])
     have Kn:(E !=0)=true:=by simpa using hE0
     clear HR hdl hE0 hD PX
     obtain⟨W9,lN,k9,fB⟩:=aG _ (w.heap.size+1) 31 31 (i2 0 0) (i2 E ((k:Int)+1)) ke j_ rfl (by simp[Value.oneCell'])
     have l9:=ak k9 underlying31 rfl j_
     have fC:=hall.grown fB hall.size (fun j e=>by cases e;omega)
     go_wp2_with fail
     refine bodyPost_ret (v:=.tuple #[.slice none 0 0,.agg (i2 E ((k:Int)+1))]) (by simp[results,results47,go_sem,l9]) rfl ?_
     rw[HRR.out,HV.out];exact aAM.no E ((k:Int)+1) rfl fC
    |ok ds=>
     rw[hdl]at hE
     obtain⟨l',A',c',hl',rfl,hD'⟩:=hE
     have aBW:=Pl.aAS XD hdl
     have HR2:Hid (R=Pl.DJ f (l'.map (·.1)) (k+1) (((Pl.iA src).drop (k+1)).map Pl.aW)):=Lib.hid (by rw[HR.out,hl'];conv=>lhs;unfold Pl.DJ;rw[if_neg hw0,hdl])
     rw[<-hl']at aBW
     clear HR hdl hl' hD PX
     go_wp2_with fail
     go_roundw
     case rel=>exact⟨k+1,by omega,by go_num,A',c',l',rfl,hD',aBW,hx,HR2⟩
     case measure=>first|(simp[intOf];done)|(simp[intOf];omega)
  ·obtain rfl:k=(Pl.iA src).length:=by omega
   rw[List.drop_length]at HR
   have e2: ¬((Pl.iA src).length:Int)<((Pl.iA src).length:Int):=by omega
   have HV:Hid (R=(l.map (·.1),0,0)):=Lib.hid (by rw[HR.out];rfl)
   clear HR
   obtain⟨W9,lN,k9,fB⟩:=aG _ (w.heap.size+1) 31 31 (i2 0 0) (i2 0 0) ke j_ rfl (by simp[Value.oneCell'])
   have l9:=ak k9 underlying31 rfl j_
   have fC:=hall.grown fB hall.size (fun j e=>by cases e;omega)
   go_wp2_with fail
   refine bodyPost_ret (v:=.tuple #[.slice A l.length c,.agg (i2 0 0)]) (by simp[results,results47,go_sem,l9]) rfl ?_
   rw[HRR.out,HV.out];exact⟨l,A,c,rfl,rfl,hD.kept ke fB,fC⟩
end Go.Proofs
namespace Go.Proofs
open Tryz RowKit
variable (A1 A2 A3 A4 : Option Addr) (c1 c2 c3 c4 : Nat) (f : Pl.aL)
attribute [-go_sem] storeVar
theorem aAA (src:ByteArray)(w:World)(hf:bB w w.heap.size A1 A2 A3 A4 f)(hm:Small f)(hc:dY c1 c2 c3 c4 f)(hE:Pl.aR f=0)(hs:20000<src.size):Calls prog 24 #[.agg (fq A1 A2 A3 A4 c1 c2 c3 c4 f),.string src] w (aA0 (Pl.dz f src) w):=by
 have HR:Hid (Pl.dz f src=([],2,0)):=Lib.hid (by unfold Pl.dz;rw[if_neg (by simp[hE]),if_pos hs])
 have HE:=Lib.hid hE
 have g1:(20000:Int)<(src.size:Int):=by omega
 clear hE hs
 have kf:=heap_alloc2_old w (.cells (fq A1 A2 A3 A4 c1 c2 c3 c4 f) 28) (.cells #[.slice none 0 0] 38)
 have um:=heap_alloc2_new w (.cells (fq A1 A2 A3 A4 c1 c2 c3 c4 f) 28) (.cells #[.slice none 0 0] 38)
 have nZ:=heap_alloc_new ((w.alloc (.cells (fq A1 A2 A3 A4 c1 c2 c3 c4 f) 28)).alloc (.cells #[.slice none 0 0] 38)) (.cells (i2 0 0) 31)
 simp only[World.size_alloc]at nZ
 have kf:=(Below.heap_alloc _ (.cells (i2 0 0) 31) _ (lO kf)).trans kf
 have um:=(Below.heap_alloc _ (.cells (i2 0 0) 31) _ (lO um)).trans um
 have hb0:Below w.heap.size w (((w.alloc (.cells (fq A1 A2 A3 A4 c1 c2 c3 c4 f) 28)).alloc (.cells #[.slice none 0 0] 38)).alloc (.cells (i2 0 0) 31)):=(((Below.refl _ w).alloc (Nat.le_refl _) _).alloc (by simp) _).alloc (by simp only[World.size_alloc];omega) _
 go_enter func24,ntmps24
 go_wp2_with (go_at_call 22;refine(bX A1 A2 A3 A4 c1 c2 c3 c4 f 0 _ HE (hf.up hb0) hm hc).mono ?_;rintro e w1 ⟨rfl,hx⟩;have um:=kE hx um;have nZ:=kE hx nZ;have hb1:Below w.heap.size w w1:=hb0.trans (hx.mono hb0.size);clear hx;obtain⟨W3,Qe,xI,hg3⟩:=Rw w1 (w.heap.size+1) _ 38 _ (.slice none 0 0) um JJ rfl;have xR:=(hg3.block (w.heap.size+1+1) (lO nZ) (by simp)).trans nZ;obtain⟨W4,Ro,zX,hg4⟩:=aG W3 (w.heap.size+1+1) _ 31 _ (i2 2 0) xR j_ rfl (by simp[Value.oneCell']);have Gf:=(hg4.block (w.heap.size+1) (lO xI) (by simp)).trans xI;clear um nZ xR)
 have hb4:Below w.heap.size w W4:=(hb1.grown hg3 hb1.size (fun k e=>by cases e;omega)).grown hg4 (by have:=hg3.size;have:=hb1.size;omega) (fun k e=>by cases e;omega)
 obtain⟨hd1,he1⟩:=ah Gf
 obtain⟨hd2,he2⟩:=ah zX
 refine bodyPost_ret (v:=.tuple #[.slice none 0 0,.agg (i2 2 0)]) (by simp[results,results24,go_sem,hd1,hd2]) rfl ⟨[],none,0,by rw[HR.out];rfl,by rw[HR.out];rfl,⟨.inl rfl,fun x hx=>(by cases hx)⟩,Nat.le_refl _,hb4⟩
theorem aAF (src:ByteArray)(w:World)(CZ:Env w)(hf:bB w w.heap.size A1 A2 A3 A4 f)(hm:Small f)(hc:dY c1 c2 c3 c4 f):Calls prog 24 #[.agg (fq A1 A2 A3 A4 c1 c2 c3 c4 f),.string src] w (aA0 (Pl.dz f src) w):=by
 by_cases hs:src.size<=20000
 ·exact aAs A1 A2 A3 A4 c1 c2 c3 c4 f src w CZ hf hm hc hs
 ·by_cases hE:Pl.aR f=0
  ·exact aAA A1 A2 A3 A4 c1 c2 c3 c4 f src w hf hm hc hE (by omega)
  ·exact aAn A1 A2 A3 A4 c1 c2 c3 c4 f src w hf hm hc hE
attribute [-go_sem] loadVar
attribute [local go_sem] bZ bH dU aT mU
theorem aBj (W:World)(E n:Int): ∃W2,(storeVar 31 ⟨W.heap.size,0,none⟩ (.agg (i2 E n))).run prog (W.alloc (.cells (i2 0 0) 31))=.ok () W2∧
  W2.heap[W.heap.size]?=some (.cells (i2 E n) 31 (0,0))∧Below W.heap.size W W2:=by
 have kn:=heap_alloc_new W (.cells (i2 0 0) 31)
 obtain⟨W2,st,k,hg⟩:=aG (W.alloc (.cells (i2 0 0) 31)) W.heap.size 31 31 (i2 0 0) (i2 E n) kn j_ rfl (by simp[Value.oneCell'])
 exact⟨W2,st,k,((Below.refl _ W).alloc (Nat.le_refl _) _).grown hg (by simp) (fun j e=>by cases e;exact Nat.le_refl _)⟩
theorem aAx (src:ByteArray)(w:World)(Kn:Env w)(hf:bB w w.heap.size A1 A2 A3 A4 f)(b:Bool)(hv:Hid (Pl.vast f=b))(hs:b=true∨21000<src.size):
  Calls prog 11 #[.agg (fq A1 A2 A3 A4 c1 c2 c3 c4 f),.string src] w fun e w'=>e=.returned (.bool true)∧Below w.heap.size w w':=by
 obtain⟨W0,hW0⟩: ∃W,w.alloc (.cells (fq A1 A2 A3 A4 c1 c2 c3 c4 f) 28)=W:=⟨_,rfl⟩
 have kf:=heap_alloc_new w (.cells (fq A1 A2 A3 A4 c1 c2 c3 c4 f) 28)
 have hall:Below w.heap.size w W0:=by rw[<-hW0];exact(Below.refl _ w).alloc (Nat.le_refl _) _
 rw[hW0]at kf
 have lf:=ak kf underlying28 rfl av
 go_enter func11,ntmps11
 go_wp2_with fail
 refine(Gn A1 A2 A3 A4 c1 c2 c3 c4 f _ (hf.up hall) b hv).mono ?_
 rintro e w1 ⟨rfl,hx⟩
 have hall:=hall.trans (hx.mono hall.size)
 clear hx lf hW0 kf
 cases b with
 |true=>
  go_wp2_with fail
  refine(yc _ (Kn.up hall)).mono ?_
  rintro e w2 ⟨rfl,hx⟩
  go_wp2_with fail
  go_ret
  exact⟨by first|rfl|(simp;done),hall.trans (hx.mono hall.size)⟩
 | false=>
  have g1:(21000:Int)<(src.size:Int):=by
   rcases hs with h|h
   ·cases h
   ·omega
  clear hs
  go_wp2_with fail
  refine(yc _ (Kn.up hall)).mono ?_
  rintro e w2 ⟨rfl,hx⟩
  go_wp2_with fail
  go_ret
  exact⟨by first|rfl|(simp;done),hall.trans (hx.mono hall.size)⟩
theorem Pl.aA5 {f:Pl.aL}{l:List Pl.j6}(h:Pl.aBt f l):(∀x∈l,∀c∈x.calls,c.kind<=255)∧ ∀x∈l,x.name.size<=100000:=by
 refine⟨fun x hx c hc=> ?_,fun x hx=> ?_⟩
 ·have:=Pl.yB (Pl.Ad ((h.all x hx).calls c hc).1)
  omega
 ·have:=(h.all x hx).name
  by_cases hs:x.name.size<1∨24<x.name.size
  ·rw[Pl.nu hs]at this
   cases this
  ·omega
theorem aBf (src:ByteArray)(w:World)(Kn:Env w)(hf:bB w w.heap.size A1 A2 A3 A4 f)(hm:Small f)(hc:dY c1 c2 c3 c4 f)(hv:Hid (Pl.vast f=false))(hs:src.size<=21000):
  Calls prog 11 #[.agg (fq A1 A2 A3 A4 c1 c2 c3 c4 f),.string src] w fun e w'=>e=.returned (.bool true)∧Below w.heap.size w w':=by
 have g1: ¬(21000:Int)<(src.size:Int):=by omega
 have hrt:=Pl.aAh f src
 have hz:(Pl.dz f src).2.1=0->Pl.aAd f (Pl.dz f src).1=0:=Pl.aAI
 obtain⟨hk,hn⟩:=Pl.aA5 hrt
 have hlen:=hrt.len
 have hcs: ∀x∈(Pl.dz f src).1,x.calls.length<=20:=fun x hx=>(hrt.all x hx).few
 have p1:=fun W (hW:Below w.heap.size w W)=>aAF A1 A2 A3 A4 c1 c2 c3 c4 f src W (Kn.up hW) (hf.up hW) hm hc
 have p2:=fun W (hW:Below w.heap.size w W)=>aAH A1 A2 A3 A4 c1 c2 c3 c4 f src W (hf.up hW) hm hc (by omega)
 obtain⟨r,hr⟩: ∃r,Pl.dz f src=r:=⟨_,rfl⟩
 rw[hr]at hz hk hn hlen hcs p1 p2
 clear hr hrt
 obtain⟨ds,E,n⟩:=r
 dsimp only at hz hk hn hlen hcs p1 p2
 have HZ:=Lib.hid hz
 clear hz
 obtain⟨W0,hW0⟩: ∃W,w.alloc (.cells (fq A1 A2 A3 A4 c1 c2 c3 c4 f) 28)=W:=⟨_,rfl⟩
 have kf:=heap_alloc_new w (.cells (fq A1 A2 A3 A4 c1 c2 c3 c4 f) 28)
 have hall:Below w.heap.size w W0:=by rw[<-hW0];exact(Below.refl _ w).alloc (Nat.le_refl _) _
 rw[hW0]at kf
 have lf:=ak kf underlying28 rfl av
 go_enter func11,ntmps11
 go_wp2_with fail
 refine(Gn A1 A2 A3 A4 c1 c2 c3 c4 f _ (hf.up hall) false hv).mono ?_
 rintro e w1 ⟨rfl,hx⟩
 have kf:=kE hx kf
 have hall:=hall.trans (hx.mono hall.size)
 clear hx lf hW0
 have lf:=ak kf underlying28 rfl av
 go_wp2_with fail
 refine(p1 _ hall).mono ?_
 clear p1
 rintro e w2 ⟨la,Aa,ca,hla,rfl,hDa,hca,hx⟩
 have kf:=kE hx kf
 have hall:=hall.trans (hx.mono hall.size)
 obtain⟨V1,s1,b1,hx1⟩:=aBj w2 E n
 have kf:=kE hx1 kf
 have hDa:=hDa.up hx1
 have hall:=hall.trans (hx1.mono hall.size)
 dsimp only at hla ⊢
 clear hx hx1 lf
 have lf:=ak kf underlying28 rfl av
 go_wp2_with fail
 refine(p2 _ hall).mono ?_
 clear p2
 rintro e w3 ⟨lb,Ab,cb,hlb,rfl,hDb,hx⟩
 have kf:=kE hx kf
 have b1:=kE hx b1
 have hDa:=hDa.up hx
 have hall:=hall.trans (hx.mono hall.size)
 obtain⟨V2,s2,b2,hx1⟩:=aBj w3 E n
 have kf:=kE hx1 kf
 have b1:=kE hx1 b1
 have hDa:=hDa.up hx1
 have hDb:=hDb.up hx1
 have hall:=hall.trans (hx1.mono hall.size)
 dsimp only at hlb ⊢
 clear hx hx1 lf
 go_wp2_with fail
 refine(yc _ (Kn.up hall)).mono ?_
 rintro e w4 ⟨rfl,hx⟩
 have kf:=kE hx kf
 have b1:=kE hx b1
 have b2:=kE hx b2
 have hDa:=hDa.up hx
 have hDb:=hDb.up hx
 have hall:=hall.trans (hx.mono hall.size)
 clear hx s1 s2
 have l1:=ak b1 underlying31 rfl j_
 have l2:=ak b2 underlying31 rfl j_
 have aCJ:la.length<=60:=by rw[<-hla]at hlen;simpa using hlen
 have sd:=aA1 Aa Ab ca cb la lb w4 (hla.trans hlb.symm) hDa hDb (by omega) (fun x hx=>by have:=hcs x.1 (by rw[<-hla];exact List.mem_map.2 ⟨x,hx,rfl⟩);omega)
 go_wp2_with fail
 refine sd.mono ?_
 rintro e w5 ⟨rfl,hx⟩
 have kf:=kE hx kf
 have b1:=kE hx b1
 have hDa:=hDa.up hx
 have hall:=hall.trans (hx.mono hall.size)
 clear l1 l2 sd hx
 have l1:=ak b1 underlying31 rfl j_
 have lf:=ak kf underlying28 rfl av
 by_cases h0:E=0
 ·subst h0
  by_cases h1:n=0
  ·subst h1
   have hcd:=aAT A1 A2 A3 A4 c1 c2 c3 c4 f Aa ca la w5 (hf.up hall) hm hc hDa hca (fun x hx=>hk x.1 (by rw[<-hla];exact List.mem_map.2 ⟨x,hx,rfl⟩)) (fun x hx=>hn x.1 (by rw[<-hla];exact List.mem_map.2 ⟨x,hx,rfl⟩)) (by omega)
   rw[hla,HZ.out rfl]at hcd
   clear hk hn hcs
   go_wp2_with fail
   refine hcd.mono ?_
   rintro e w6 ⟨rfl,hx⟩
   go_wp2_with fail
   go_ret
   exact⟨by first|rfl|(simp;done),hall.trans (hx.mono hall.size)⟩
  ·have q:(n==0)=false:=by simpa using h1
   go_wp2_with fail
   go_ret
   exact⟨by first|rfl|(simp;done),hall⟩
 ·have q:(E==0)=false:=by simpa using h0
  go_wp2_with fail
  go_ret
  exact⟨by first|rfl|(simp;done),hall⟩
theorem aAV (src:ByteArray)(w:World)(Kn:Env w)(hf:bB w w.heap.size A1 A2 A3 A4 f)(hc:dY c1 c2 c3 c4 f)(_:src.size<=maxLen):
  Calls prog 11 #[.agg (fq A1 A2 A3 A4 c1 c2 c3 c4 f),.string src] w fun e w'=>e=.returned (.bool true)∧Below w.heap.size w w':=by
 cases hv:Pl.vast f with
 |true=>exact aAx A1 A2 A3 A4 c1 c2 c3 c4 f src w Kn hf true (Lib.hid hv) (.inl rfl)
 |false=>
  by_cases hs:src.size<=21000
  ·exact aBf A1 A2 A3 A4 c1 c2 c3 c4 f src w Kn hf (Pl.Gm hv) hc (Lib.hid hv) hs
  ·exact aAx A1 A2 A3 A4 c1 c2 c3 c4 f src w Kn hf false (Lib.hid hv) (.inr (by omega))
