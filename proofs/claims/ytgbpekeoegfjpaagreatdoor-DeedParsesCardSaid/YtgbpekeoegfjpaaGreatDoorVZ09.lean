/- Proved: parts of the walk. -/
import Derived.Test.YtgbpekeoegfjpaaGreatDoorVZ07
import Derived.Test.YtgbpekeoegfjpaaGreatDoorVZ08
set_option maxRecDepth 100000
set_option maxHeartbeats 4000000
namespace Go.Proofs
open Tryz RowKit
variable (A1 A2 A3 A4 : Option Addr) (c1 c2 c3 c4 : Nat) (f : Pl.aL)
theorem vW {st:List (ByteArray×Int)}{t:Nat}(h:t<st.length):Pl.Um st (t:Int)=st[t].2:=by
 unfold Pl.Um;simp[h]
theorem Qa (k:Int)(c:Pl.aZ)(w:World)(hst:iJ w w.heap.size A1 f.st)(_hm:f.st.length<=100000)(h1:Pl.mO c.fr f.st.length)(h2:Pl.mO c.till f.st.length)(hx: ∀s∈f.st,0<=s.2∧s.2<=100000):
  Calls prog 178 #[.agg (bG A1 A2 A3 A4 c1 c2 c3 c4 f k c)] w fun e w'=>e=.returned (.int .i64 (Pl.kH f.st c))∧Below w.heap.size w w':=by
 obtain⟨kk,l,o,fr,t,s,e,cr⟩:=c
 obtain⟨a0,a1⟩:=h1
 obtain⟨b0,b1⟩:=h2
 simp only at a0 a1 b0 b1
 obtain⟨fr,rfl⟩:=Int.eq_ofNat_of_zero_le a0
 obtain⟨t,rfl⟩:=Int.eq_ofNat_of_zero_le b0
 have a2:fr<f.st.length:=by omega
 have b2:t<f.st.length:=by omega
 obtain⟨b,off,hA,hb,_,q1⟩:=iJ.at2 hst a2
 obtain⟨b',off',hA',_,_,q2⟩:=iJ.at2 hst b2
 rw[hA]at hA'
 obtain⟨rfl,rfl⟩:b=b'∧off=off':=by simpa using hA'
 clear hA'
 have x1:=hx _ (List.getElem_mem a2)
 have x2:=hx _ (List.getElem_mem b2)
 have HV:Hid (f.st[t].2-f.st[fr].2=Pl.kH f.st ⟨kk,l,o,fr,t,s,e,cr⟩):=Lib.hid (by unfold Pl.kH;rw[vW a2,vW b2])
 obtain⟨u,hu⟩: ∃u,f.st[fr].2=u:=⟨_,rfl⟩
 obtain⟨v,hv⟩: ∃v,f.st[t].2=v:=⟨_,rfl⟩
 rw[hu]at q1 x1 HV
 rw[hv]at q2 x2 HV
 clear hu hv hx hst
 subst hA
 have kb:=heap_alloc_new w (.cells #[.slice (some ⟨b,off,none⟩) f.st.length c1,.slice A2 f.li.length c2,.slice A3 f.pa.length c3,.slice A4 f.va.length c4,.int .u8 k,.int .i64 l,.int .i64 o,.int .i64 (fr:Int),.int .i64 (t:Int),.int .i64 s,.int .i64 e,.int .i64 cr.b,.int .i64 cr.n,.int .i64 cr.l,.int .i64 cr.y,.int .i64 cr.x,.int .i64 cr.s] 128)
 have hall:Below w.heap.size w (w.alloc (.cells #[.slice (some ⟨b,off,none⟩) f.st.length c1,.slice A2 f.li.length c2,.slice A3 f.pa.length c3,.slice A4 f.va.length c4,.int .u8 k,.int .i64 l,.int .i64 o,.int .i64 (fr:Int),.int .i64 (t:Int),.int .i64 s,.int .i64 e,.int .i64 cr.b,.int .i64 cr.n,.int .i64 cr.l,.int .i64 cr.y,.int .i64 cr.x,.int .i64 cr.s] 128)):=(Below.refl _ w).alloc (Nat.le_refl _) _
 have e1:(0:Int)<=(fr:Int):=by omega
 have e2:(fr:Int)<(f.st.length:Int):=by omega
 have e3:(0:Int)<=(t:Int):=by omega
 have e4:(t:Int)<(f.st.length:Int):=by omega
 have e5:IntKind.i64.wrap (v-u)=v-u:=IntWalk.i64_in _ (by omega)
 go_enter func178,ntmps178
 go_wp2
 generalize w.alloc (.cells #[.slice (some ⟨b,off,none⟩) f.st.length c1,.slice A2 f.li.length c2,.slice A3 f.pa.length c3,.slice A4 f.va.length c4,.int .u8 k,.int .i64 l,.int .i64 o,.int .i64 (fr:Int),.int .i64 (t:Int),.int .i64 s,.int .i64 e,.int .i64 cr.b,.int .i64 cr.n,.int .i64 cr.l,.int .i64 cr.y,.int .i64 cr.x,.int .i64 cr.s] 128)=W0 at*
 obtain⟨hcb,ru⟩:=ah kb
 have s0:=hcb 0
 have s1:=hcb 7
 have s2:=hcb 8
 have s3:=(hall.cell (p:=⟨b,off+fr*2+1,none⟩) hb).trans q1
 have s4:=(hall.cell (p:=⟨b,off+t*2+1,none⟩) hb).trans q2
 clear hcb q1 q2
 go_region_held3 (fun W=>W.cell? ⟨w.heap.size,0,none⟩=some (.slice (some ⟨b,off,none⟩) f.st.length c1)∧W.cell? ⟨w.heap.size,7,none⟩=some (.int .i64 (fr:Int))∧W.cell? ⟨w.heap.size,8,none⟩=some (.int .i64 (t:Int))∧W.cell? ⟨b,off+fr*2+1,none⟩=some (.int .i64 u)∧W.cell? ⟨b,off+t*2+1,none⟩=some (.int .i64 v)) (exact⟨s0,s1,s2,s3,s4⟩) (fail)
 all_goals go_wp2
 all_goals go_ret
 all_goals exact⟨aH (by rw[<-HV.out]),by first|exact hall|exact hall.drew|(go_grown;done)|exact below_drewN (by go_grown) _⟩
attribute [-go_sem] run_equalIn_agg storeVar loadVar
attribute [local go_sem] bZ bH dU aT eB
theorem qG {k:Int}{c:Pl.aZ}{g:Nat}{W:World}(hb:W.heap[g]?=some (.cells (bG A1 A2 A3 A4 c1 c2 c3 c4 f k c) 128 (0,0))):(loadVar 26 ⟨g,3,none⟩).run prog W=.ok (.slice A4 f.va.length c4) W∧(loadVar 46 ⟨g,11,none⟩).run prog W=.ok (.agg (cq c.aB)) W∧(loadVar 128 ⟨g,0,none⟩).run prog W=.ok (.agg (bG A1 A2 A3 A4 c1 c2 c3 c4 f k c)) W:=by
 refine⟨?_,ay.aB ⟨hb⟩,ay.whole ⟨hb⟩⟩
 obtain⟨hc,_⟩:=ah hb
 rw[eB]
 simp[go_sem,hc]
theorem Ji (c:Pl.aZ)(w:World)(hR: ∀W,Below w.heap.size w W->Calls prog 215 #[.agg (bG A1 A2 A3 A4 c1 c2 c3 c4 f 3 c)] W fun e w'=>e=.returned (.bool true)∧Below W.heap.size W w')
  (D:Int) (is:Bool) (hD: ∀W,Below w.heap.size w W->Calls prog 176 #[.slice A4 f.va.length c4,.int .i64 c.aB.y] W fun e w'=>e=.returned (.tuple #[.int .i64 D,.bool is])∧Below W.heap.size W w')
  (x:Int) (hX: ∀W,Below w.heap.size w W->Calls prog 178 #[.agg (bG A1 A2 A3 A4 c1 c2 c3 c4 f 3 c)] W fun e w'=>e=.returned (.int .i64 x)∧Below W.heap.size W w')
  (lo hi E:Int) (ok:Bool) (hI: ∀W,Below w.heap.size w W->Calls prog 177 #[.slice A4 f.va.length c4,.agg (cq c.aB),.int .i64 x] W fun e w'=>e=.returned (.tuple #[.int .i64 lo,.int .i64 hi,.bool ok,.int .i64 E])∧Below W.heap.size W w'):
  Calls prog 108 #[.agg (bG A1 A2 A3 A4 c1 c2 c3 c4 f 3 c)] w fun e w'=>e=.returned (.int .i64 (if is=false then 20 else if E≠0 then E else if ok=true then 0 else 5))∧Below w.heap.size w w':=by
 have kb:=heap_alloc_new w (.cells (bG A1 A2 A3 A4 c1 c2 c3 c4 f 3 c) 128)
 have hall:Below w.heap.size w (w.alloc (.cells (bG A1 A2 A3 A4 c1 c2 c3 c4 f 3 c) 128)):=(Below.refl _ w).alloc (Nat.le_refl _) _
 have hu:=underlying128
 have hi':=kU
 have hix: ∀W,(Instr.index 205 (.agg #[.string ⟨#[]⟩,.nilFunc,.nilFunc,.string ⟨#[115,116,111,110,101]⟩,.func (.func 211) #[] #[],.func (.func 212) #[] #[],.string ⟨#[119,105,100,116,104]⟩,.func (.func 213) #[] #[],.func (.func 214) #[] #[],.string ⟨#[99,111,117,114,115,101]⟩,.func (.func 215) #[] #[],.func (.func 216) #[] #[],.string ⟨#[97,108,111,110,103]⟩,.func (.func 217) #[] #[],.func (.func 218) #[] #[],.string ⟨#[108,101,118,101,108]⟩,.func (.func 219) #[] #[],.func (.func 220) #[] #[]]) (.int .u8 3)).run prog W=.ok (.agg #[.string ⟨#[99,111,117,114,115,101]⟩,.func (.func 215) #[] #[],.func (.func 216) #[] #[]]) W:=fun _=>by kernel_rfl
 have hfx: ∀W,(Instr.field 204 (.agg #[.string ⟨#[99,111,117,114,115,101]⟩,.func (.func 215) #[] #[],.func (.func 216) #[] #[]]) 1).run prog W=.ok (.func (.func 215) #[] #[]) W:=fun _=>by kernel_rfl
 go_enter func108,ntmps108
 go_wp2
 generalize w.alloc (.cells (bG A1 A2 A3 A4 c1 c2 c3 c4 f 3 c) 128)=W0 at*
 go_region_held3 (fun W=>(loadVar 5 ⟨w.heap.size,4,none⟩).run prog W=.ok (.int .u8 3) W∧(loadVar 128 ⟨w.heap.size,0,none⟩).run prog W=.ok (.agg (bG A1 A2 A3 A4 c1 c2 c3 c4 f 3 c)) W) (first|exact mV A1 A2 A3 A4 c1 c2 c3 c4 f dZ|exact mV A1 A2 A3 A4 c1 c2 c3 c4 f kb) (first
  |(go_at_call 162;refine(fH _).mono ?_;rintro e w1 ⟨rfl,hx⟩;have dZ:=(hx.block w.heap.size (by first|exact(lO dZ)|exact(lO kb))).trans (by first|exact dZ|exact kb);have aK:Below w.heap.size w w1:=(by first|exact aK.trans (hx.mono aK.size)|exact hall.drew.trans (hx.mono hall.size));clear hx)
  |(go_at_call 84;refine(dP _ _ _ _).mono ?_;rintro e w' ⟨rfl,rfl⟩)
  |(go_at_call 215;refine(hR _ aK).mono ?_;rintro e w2 ⟨rfl,hx⟩;have dZ:=(hx.block w.heap.size (lO dZ)).trans dZ;have aK:Below w.heap.size w w2:=aK.trans (hx.mono aK.size);clear hx))
 all_goals obtain⟨hck,SS⟩:=ah dZ
 all_goals clear hR hix hfx
 all_goals cases is with
  |false=>
   go_wp2_with (go_at_call 176;refine(hD _ aK).mono ?_;rintro e w3 ⟨rfl,hx⟩;have lq:Below w.heap.size w w3:=aK.trans (hx.mono aK.size))
   go_ret
   exact⟨rfl,lq⟩
  | true=>
   go_wp2_with (go_at_call 176;refine(hD _ aK).mono ?_;rintro e w3 ⟨rfl,hx⟩;have Sb:=(hx.block w.heap.size (lO dZ)).trans dZ;have lq:Below w.heap.size w w3:=aK.trans (hx.mono aK.size);clear hx)
   clear hck SS
   go_region_held3 (fun W=>(loadVar 26 ⟨w.heap.size,3,none⟩).run prog W=.ok (.slice A4 f.va.length c4) W∧(loadVar 46 ⟨w.heap.size,11,none⟩).run prog W=.ok (.agg (cq c.aB)) W∧(loadVar 128 ⟨w.heap.size,0,none⟩).run prog W=.ok (.agg (bG A1 A2 A3 A4 c1 c2 c3 c4 f 3 c)) W) (first|exact qG A1 A2 A3 A4 c1 c2 c3 c4 f X5|exact qG A1 A2 A3 A4 c1 c2 c3 c4 f U9|exact qG A1 A2 A3 A4 c1 c2 c3 c4 f Sb) (first
    |(go_at_call 178;refine(hX _ lq.drew).mono ?_;rintro e w4 ⟨rfl,hx⟩;have U9:=(hx.block w.heap.size (lO Sb)).trans Sb;have mW:Below w.heap.size w w4:=lq.drew.trans (hx.mono lq.size);clear hx)
    |(go_at_call 177;refine(hI _ mW).mono ?_;rintro e w5 ⟨rfl,hx⟩;have X5:=(hx.block w.heap.size (lO U9)).trans U9;have K7:Below w.heap.size w w5:=mW.trans (hx.mono mW.size);clear hx))
   all_goals clear hD hX hI
   all_goals by_cases h0:E=0
   all_goals try subst h0
   all_goals try (have hne:(E !=0)=true:=by simpa using h0)
   all_goals cases ok
   all_goals go_wp2
   all_goals go_ret
   all_goals exact⟨by simp_all,K7⟩
end Go.Proofs
namespace Go.Proofs
open Tryz RowKit
variable (A1 A2 A3 A4 : Option Addr) (c1 c2 c3 c4 : Nat) (f : Pl.aL)
theorem cK {P:Program}{md:Region.Mode}{ops:Array Oper}{Q:Exit->Act->World->Prop}{S:World->Prop}{oi:Oper}{v:Value}{fuel:Nat}{listed:Array Bool}{a:Act}{w:World}(i:Nat)(d:Option Tmp)(hi:ops[i]?=some oi)(hd:oi.dst=d)
  (hs:Region.noSelect ops=true) (hf:Region.free md ops listed i=true) (hr:(Region.ready md ops listed).contains i=true)
  (hQ: ∀c a w,Q (.panic c) (a.put d v) w->Q (.panic c) a w) (hy:YieldsIf P ops S oi v a) (hS:S w)
  (h:wpAnyH P md ops Q S fuel (listed.setIfInBounds i true) (a.put d v) w):wpAnyH P md ops Q S (fuel+1) listed a w:=by
 subst hd
 exact wpAnyH_take hi hs hf hr hQ hy hS h
theorem tJ {P:Program}{md:Region.Mode}{ops:Array Oper}{Q:Exit->Act->World->Prop}{S:World->Prop}{oi:Oper}{v:Value}{fuel:Nat}{listed:Array Bool}{a:Act}{w:World}(i d:Nat)(hi:ops[i]?=some oi)(hd:oi.dst=some d)(h:wpAnyH P md ops Q S fuel (listed.setIfInBounds i true) (a.put (some d) v) w)
  (hy: ∀W,S W->(execOp a.eval oi).run P W=.ok (.value v) W:=by intro W hW;(try dsimp only at hW);(try obtain⟨y0,y1,y2⟩:=hW);go_simp;try with_reducible rfl)
  (hs:Region.noSelect ops=true:=by kernel_rfl) (hf:Region.free md ops listed i=true:=by kernel_rfl) (hr:(Region.ready md ops listed).contains i=true:=by kernel_rfl)
  (hQ: ∀c a w,Q (.panic c) (a.put (some d) v) w->Q (.panic c) a w:=by exact fun _ _ _ h=>h) (hw:Region.wanted oi (yielded ops a.tmps)=true:=by rfl) (hS:S w:=by assumption):wpAnyH P md ops Q S (fuel+1) listed a w:=
 cK i (some d) hi hd hs hf hr hQ (Or.inl ⟨hw,hy⟩) hS h
theorem tU {P:Program}{md:Region.Mode}{ops:Array Oper}{Q:Exit->Act->World->Prop}{S:World->Prop}{oi:Oper}{fuel:Nat}{listed:Array Bool}{a:Act}{w:World}(i d:Nat)(hi:ops[i]?=some oi)(hd:oi.dst=some d)(h:wpAnyH P md ops Q S fuel (listed.setIfInBounds i true) (a.put (some d) undef) w)
  (hs:Region.noSelect ops=true:=by kernel_rfl) (hf:Region.free md ops listed i=true:=by kernel_rfl) (hr:(Region.ready md ops listed).contains i=true:=by kernel_rfl)
  (hQ: ∀c a w,Q (.panic c) (a.put (some d) undef) w->Q (.panic c) a w:=by exact fun _ _ _ h=>h) (hy:YieldsIf P ops S oi undef a:=by exact Or.inr ⟨by rfl,rfl⟩) (hS:S w:=by assumption):wpAnyH P md ops Q S (fuel+1) listed a w:=
 cK i (some d) hi hd hs hf hr hQ hy hS h
theorem aI {P:Program}{md:Region.Mode}{ops:Array Oper}{Q:Exit->Act->World->Prop}{S:World->Prop}{fuel:Nat}{listed:Array Bool}{a:Act}{w:World}{i:Nat}{o:Oper}{rs:List Nat}(d:Option Tmp)(ho:ops[i]?=some o)(hd:o.dst=d)
  (h: ∀K':Act->World->Prop,Shut (∀a w,S w->(S w->wpAnyH P md ops Q S fuel (listed.setIfInBounds i true) a w)->K' a w)->if Region.wanted o (yielded ops a.tmps)=true then Oper.wp P o a w K' Q else K' (a.put d undef) w)
  (hs:AllReadyH P md ops Q S fuel listed a w rs):AllReadyH P md ops Q S fuel listed a w (i::rs):=by
 subst hd
 exact AllReadyH.cons ho h hs
attribute [-go_sem] run_equalIn_agg storeVar loadVar
attribute [local go_sem] bZ bH dU aT eB
theorem FI {k:Int}{c:Pl.aZ}{g:Nat}{W:World}(hb:W.heap[g]?=some (.cells (bG A1 A2 A3 A4 c1 c2 c3 c4 f k c) 128 (0,0))):(loadVar 5 ⟨g,4,none⟩).run prog W=.ok (.int .u8 k) W:=(mV A1 A2 A3 A4 c1 c2 c3 c4 f hb).1
theorem Jj (k:Int)(c:Pl.aZ)(w:World)(hk0:0<=k)(hk1:k<=255)(hk:Pl.bQ k 1 5=false):
  Calls prog 108 #[.agg (bG A1 A2 A3 A4 c1 c2 c3 c4 f k c)] w fun e w'=>e=.returned (.int .i64 1)∧Below w.heap.size w w':=by
 have kb:=heap_alloc_new w (.cells (bG A1 A2 A3 A4 c1 c2 c3 c4 f k c) 128)
 have hall:Below w.heap.size w (w.alloc (.cells (bG A1 A2 A3 A4 c1 c2 c3 c4 f k c) 128)):=(Below.refl _ w).alloc (Nat.le_refl _) _
 have hwk:IntKind.i64.wrap k=k:=IntWalk.i64_in _ (by omega)
 have hk2:Pl.bQ (IntKind.i64.wrap k) 1 (IntKind.i64.wrap 5)=false:=by rw[hwk];exact hk
 have hk3:Pl.bQ k 1 (IntKind.i64.wrap 5)=false:=hk
 go_enter func108,ntmps108
 go_wp2
 generalize w.alloc (.cells (bG A1 A2 A3 A4 c1 c2 c3 c4 f k c) 128)=W0 at*
 refine wp_region_held_drew (S:=fun W=>(loadVar 5 ⟨w.heap.size,4,none⟩).run prog W=.ok (.int .u8 k) W) (by kernel_rfl) (FI A1 A2 A3 A4 c1 c2 c3 c4 f kb) (fun hHeld=> ?_)
 refine tJ 0 9 rfl rfl ?_
 try simp only[au]
 refine tJ 1 10 rfl rfl ?_
 try simp only[au]
 refine tJ 2 11 rfl rfl ?_
 try simp only[au]
 refine tJ 3 12 rfl rfl ?_
 try simp only[au]
 refine wpAnyH_ready (rs:=[4]) (by kernel_rfl) (by simp) ?_
 refine aI (some 13) rfl rfl (fun K hK=> ?_) AllReadyH.nil
 go_simp
 refine(fH _).mono ?_
 rintro e w1 ⟨rfl,hx⟩
 have dZ:=(hx.block w.heap.size (lO kb)).trans kb
 have aK:Below w.heap.size w w1:=hall.drew.trans (hx.mono hall.size)
 refine hK.out _ _ (FI A1 A2 A3 A4 c1 c2 c3 c4 f dZ) (fun hHeld=> ?_)
 clear hK K
 try simp only[au]
 refine tJ 5 14 rfl rfl ?_
 try simp only[au]
 refine tJ 6 15 rfl rfl ?_
 try simp only[au]
 refine wpAnyH_ready (rs:=[7]) (by kernel_rfl) (by simp) ?_
 refine aI (some 16) rfl rfl (fun K hK=> ?_) AllReadyH.nil
 go_simp
 refine(dP _ _ _ _).mono ?_
 rintro e w' ⟨rfl,rfl⟩
 first|rw[hk3]|rw[hk2]|rw[hk]
 refine hK.out _ _ (FI A1 A2 A3 A4 c1 c2 c3 c4 f dZ) (fun hHeld=> ?_)
 clear hK K
 try simp only[au]
 refine tJ 8 17 rfl rfl ?_
 try simp only[au]
 refine tJ 9 18 rfl rfl ?_
 try simp only[au]
 refine tU 10 19 rfl rfl ?_
 try simp only[au]
 refine tU 11 20 rfl rfl ?_
 try simp only[au]
 refine tU 12 21 rfl rfl ?_
 try simp only[au]
 refine tU 13 22 rfl rfl ?_
 try simp only[au]
 refine tU 14 23 rfl rfl ?_
 try simp only[au]
 refine tU 15 24 rfl rfl ?_
 try simp only[au]
 refine tU 16 25 rfl rfl ?_
 try simp only[au]
 refine tU 17 26 rfl rfl ?_
 try simp only[au]
 refine tU 18 27 rfl rfl ?_
 try simp only[au]
 refine tJ 19 28 rfl rfl ?_
 try simp only[au]
 refine wpAnyH_done (by kernel_rfl) ?_ _
 go_wp2
 go_ret
 exact⟨rfl,aK⟩
theorem Ie (c:Pl.aZ)(w:World)(hf:bB w w.heap.size A1 A2 A3 A4 f)(hm:Small f)(_hc:dY c1 c2 c3 c4 f)(hE:Pl.aR f=0)(hk:c.kind<=255):
  Calls prog 108 #[.agg (jB A1 A2 A3 A4 c1 c2 c3 c4 f c)] w fun e w'=>e=.returned (.int .i64 (Pl.fP f c))∧Below w.heap.size w w':=by
 have hok:=Pl.iV hE
 rw[<-Pl.tY hok.va]
 have hS:=hm.st
 have hL:=hm.li
 by_cases k1:c.kind=1
 ·have hr:Pl.dX f.st.length f.li.length c=Pl.wS f.st.length f.li.length c:=by unfold Pl.dX;rw[if_pos k1]
  have:=Db A1 A2 A3 A4 c1 c2 c3 c4 f c _ w (fun W _=>N_ A1 A2 A3 A4 c1 c2 c3 c4 f 1 c W hS hL)
  rw[<-hr]at this
  unfold Pl.oN
  rw[k1]
  cases hb:Pl.dX f.st.length f.li.length c<;>rw[hb]at this<;>simpa using this
 by_cases k2:c.kind=2
 ·have hr:Pl.dX f.st.length f.li.length c=Pl.wT f.st.length f.li.length c:=by unfold Pl.dX;rw[if_neg k1,if_pos k2]
  have:=Dc A1 A2 A3 A4 c1 c2 c3 c4 f c _ w (fun W _=>Og A1 A2 A3 A4 c1 c2 c3 c4 f 2 c W hS hL)
  rw[<-hr]at this
  unfold Pl.oN
  rw[k2]
  cases hb:Pl.dX f.st.length f.li.length c<;>rw[hb]at this<;>simpa using this
 by_cases k4:c.kind=4
 ·have hr:Pl.dX f.st.length f.li.length c=Pl.wU f.st.length f.li.length c:=by unfold Pl.dX;rw[if_neg k1,if_neg k2,if_neg (by omega),if_pos k4]
  have:=Df A1 A2 A3 A4 c1 c2 c3 c4 f c _ w (fun W _=>Oo A1 A2 A3 A4 c1 c2 c3 c4 f 4 c W hS hL)
  rw[<-hr]at this
  unfold Pl.oN
  rw[k4]
  cases hb:Pl.dX f.st.length f.li.length c<;>rw[hb]at this<;>simpa using this
 by_cases k5:c.kind=5
 ·have hr:Pl.dX f.st.length f.li.length c=Pl.wV f.st.length f.li.length c:=by unfold Pl.dX;rw[if_neg k1,if_neg k2,if_neg (by omega),if_neg k4,if_pos k5]
  have:=Dg A1 A2 A3 A4 c1 c2 c3 c4 f c _ w (fun W _=>OA A1 A2 A3 A4 c1 c2 c3 c4 f 5 c W hS hL)
  rw[<-hr]at this
  unfold Pl.oN
  rw[k5]
  cases hb:Pl.dX f.st.length f.li.length c<;>rw[hb]at this<;>simpa using this
 by_cases k3:c.kind=3
 ·have hr:Pl.dX f.st.length f.li.length c=Pl.rX f.st.length f.li.length c:=by unfold Pl.dX;rw[if_neg k1,if_neg k2,if_pos k3]
  have hc:=fun W=>Jh A1 A2 A3 A4 c1 c2 c3 c4 f 3 c W hS hL
  rw[<-hr]at hc
  unfold Pl.oN
  rw[k3]
  cases hb:Pl.dX f.st.length f.li.length c with
  |false=>
   rw[hb]at hc
   simpa using Bf A1 A2 A3 A4 c1 c2 c3 c4 f c false w (fun W _=>hc W) rfl
  | true=>
   rw[hb]at hc
   obtain⟨⟨hl,hf1,ht⟩,_⟩:=Pl.lg.1 hb
   have h2:Pl.mO c.till f.st.length:=by
    rcases ht with h|h|h|h|h
    ·omega
    ·omega
    ·exact h.2.2.2.2.1
    ·omega
    ·omega
   have hxs: ∀s∈f.st,0<=s.2∧s.2<=100000:=hok.x
   have hva:=hf.va
   have WC:f.va.length<=maxLen:=by unfold maxLen;have:=hm.va;omega
   have:=Ji A1 A2 A3 A4 c1 c2 c3 c4 f c w (fun W _=>hc W) _ _ (fun W hW=>AV A4 c4 f.va c.aB.y W (hva.up hW) WC) _ (fun W hW=>Qa A1 A2 A3 A4 c1 c2 c3 c4 f 3 c W (hf.st.up hW) hS hf1 h2 hxs) _ _ _ _ (fun W hW=>qN A4 c4 f.va c.aB _ W (hva.up hW) WC)
   simpa using this
 ·have hr:Pl.dX f.st.length f.li.length c=false:=by unfold Pl.dX;rw[if_neg k1,if_neg k2,if_neg k3,if_neg k4,if_neg k5]
  have:=Jj A1 A2 A3 A4 c1 c2 c3 c4 f (c.kind:Int) c w (by omega) (by omega) (by unfold Pl.bQ;simp;omega)
  unfold Pl.oN
  rw[hr]
  simpa using this
end Go.Proofs
namespace Go.Proofs
open Tryz RowKit
variable (A1 A2 A3 A4 : Option Addr) (c1 c2 c3 c4 : Nat) (f : Pl.aL)
theorem Dh (w:World)(e:TypeId)(s:ByteArray):Below w.heap.size w (Lib.bytesWorld w e s):=by
 exact⟨rfl,rfl,rfl,by rw[Lib.bytesWorld_size];omega,fun k hk=>Lib.bytesWorld_at_old w e s k (by omega)⟩
theorem mX (s:ByteArray)(v:Int)(w:World)(hs:s.size<=1000000)(h:Lib.atoiAll s.data.toList=.ok v):
  Calls prog 269 #[.string s] w fun e w'=>e=.returned (.tuple #[.int .i64 v,.nilIface])∧Below w.heap.size w w':=by
 refine(Tryz.strconv_Atoi_ok s (by omega) v h w).mono ?_
 rintro e w' ⟨rfl,rfl|⟨t,rfl⟩⟩
 ·exact⟨rfl,Below.refl _ _⟩
 ·exact⟨rfl,Dh _ _ _⟩
theorem Ig (s:ByteArray)(w:World)(hE:Env w)(hs:s.size<=1000000)(h: ∀v,Lib.atoiAll s.data.toList≠ .ok v):
  Calls prog 269 #[.string s] w fun e w'=> ∃(x:Int) (N:Nat),e=.returned (.tuple #[.int .i64 x,.iface 335 (.pointer (some ⟨N,0,none⟩))])∧Below w.heap.size w w':=by
 rcases hh:Lib.atoiAll s.data.toList with u|_|_
 ·exact(h u hh).elim
 ·obtain⟨te,pe,hv⟩:=hE.syn
  refine(Any.strconv_Atoi_syntax Tryz.laysC172 s (by omega) hh (.iface te pe) w hv (Or.inr ⟨_,_,rfl⟩)).mono ?_
  rintro e w' ⟨N,rfl,_,_,hb⟩
  exact⟨_,N,rfl,hb⟩
 ·obtain⟨te,pe,hv⟩:=hE.rng
  refine(Tryz.strconv_Atoi_range s (by omega) hh (.iface te pe) w hv (Or.inr ⟨_,_,rfl⟩)).mono ?_
  rintro e w' ⟨N,rfl,_,_,hb⟩
  exact⟨_,N,rfl,hb⟩
theorem Ih (n:Int)(s:ByteArray)(w:World)(hE:Env w)(h0: -9223372036854775808<=n)(h1:n<=9223372036854775807)(hne: ¬Pl.spelt n=s):
  Calls prog 120 #[.int .i64 n] w fun e w'=> ∃B,e=.returned (.string B)∧(B.toList==s.toList)=false∧Below w.heap.size w w':=
 (eY n w hE h0 h1).mono fun _ _ ⟨he,hb⟩=>⟨_,he,by rw[dF];exact decide_eq_false hne,hb⟩
abbrev gave (e:Int):List PanicEntry:=[{v:=.iface 209 (.int .i64 e),recovered:=false}]
theorem uYs (e:Int)(w:World):Calls prog 97 #[.bool true,.int .i64 e] w fun e w'=>e=.returned (.tuple #[])∧w=w':=by
 go_enter func97,ntmps97
 go_wp2
 go_end0
 exact⟨rfl,rfl⟩
theorem bD (e:Int)(w:World):Calls prog 97 #[.bool false,.int .i64 e] w fun e' w'=>e'=.panicked (gave e)∧Below w.heap.size w w':=by
 go_enter func97,ntmps97
 go_wp2
 exact⟨rfl,rfl,by go_grown⟩
def Rd (w:World)(br:Nat)(ws:List ByteArray):Prop:= ∃A c,w.heap[br]?=some (.cells #[.slice A ws.length c] 188 (0,0))∧d9 w br A ws∧ws.length<=c
theorem Rd.kept {w w':World}{br:Nat}{ws:List ByteArray}{n:Nat}(h:Rd w br ws)(hg:w.grownBy w' (some n))(hn:br<n):Rd w' br ws:=by
 obtain⟨A,c,h1,h2,h3⟩:=h
 have hlt:=(lO h1)
 refine⟨A,c,(hg.block br hlt (by simp;omega)).trans h1,h2.keep fun p hp=> ?_,h3⟩
 exact World.cell?_of_block (hg.block p.block (by omega) (by simp;omega))
theorem Rd.below {w w':World}{br:Nat}{ws:List ByteArray}(h:Rd w br ws)(hb:Below w.heap.size w w'):Rd w' br ws:=by
 obtain⟨A,c,h1,h2,h3⟩:=h
 have hlt:=(lO h1)
 exact⟨A,c,(hb.block br hlt).trans h1,h2.keep fun p hp=>World.cell?_of_block (hb.block p.block (by omega)),h3⟩
theorem Rd.lt {w:World}{br:Nat}{ws:List ByteArray}(h:Rd w br ws):br<w.heap.size:=by
 obtain⟨A,c,h1,_⟩:=h;exact(lO h1)
theorem aO {w w':World}{b:Nat}(hlt:b<w.heap.size)(hg:w.grownBy w' (some b)):Below b w w':=
 ⟨hg.os,hg.tape,hg.output,hg.size,fun k hk=>hg.block k (by omega) (by simp;omega)⟩
theorem bO {w w1 w2:World}{b:Nat}(h:w.grownBy w1 (some b))(hb:Below w1.heap.size w1 w2):w.grownBy w2 (some b):=h.trans ((jL hb).but (some b))
theorem kg {w w1:World}(b:Nat)(hb:Below w.heap.size w w1):w.grownBy w1 (some b):=(jL hb).but (some b)
theorem Di {w:World}{B b off:Nat}{x:ByteArray}{ws:List ByteArray}(h:d9 w B (some ⟨b,off,none⟩) (x::ws)):d9 w B (some ⟨b,off+1,none⟩) ws:=by
 rcases h with h|⟨b',off',hA,hb,hc⟩
 ·cases h
 ·obtain⟨rfl,rfl⟩:b=b'∧off=off':=by simpa using hA
  refine .inr ⟨b,off+1,rfl,hb,fun k y hy j v hv=> ?_⟩
  have:=hc (k+1) y (by simpa using hy) j v hv
  rw[show off+1+k*1+j=off+(k+1)*1+j by omega]
  exact this
theorem Bg {w:World}{br:Nat}{v:Value}{A:Option Addr}{c:Nat}{ws:List ByteArray}(h:w.heap[br]?=some (.cells #[v] 188 (0,0)))(hN:d9 w br A ws)(hc:ws.length<=c):
  Rd (w.setCell ⟨br,0,none⟩ (.slice A ws.length c)) br ws∧w.grownBy (w.setCell ⟨br,0,none⟩ (.slice A ws.length c)) (some br):=
 ⟨⟨A,c,Boxed.set _ h,hN.keep fun p hp=>World.cell?_of_block (Below.heap_setCell _ _ _ _ (by simp;omega)),hc⟩,grownBy_setCell' _ _ _⟩
theorem lX (br:Nat)(x:ByteArray)(ws:List ByteArray)(w:World)(h:Rd w br (x::ws))(hm:ws.length<=1000000):
  Calls prog 210 #[.pointer (some ⟨br,0,none⟩)] w fun e w'=>e=.returned (.string x)∧Rd w' br ws∧w.grownBy w' (some br):=by
 obtain⟨A,c,h1,h2,h3⟩:=h
 obtain⟨b,off,rfl,hb,q0⟩:=d9.gY h2 (k:=0) (by simp)
 simp only[Nat.add_zero,List.getElem_cons_zero]at q0
 rw[List.length_cons]at h1 h3
 obtain⟨hc,hf⟩:=ah h1
 have hlt:=(lO h1)
 have e1:(0:Int)<((ws.length+1:Nat):Int):=by omega
 by_cases hc1:c=1
 ·subst hc1
  obtain rfl:ws=[]:=List.length_eq_zero_iff.1 (by omega)
  obtain⟨r1,r2⟩:=Bg (A:=some ⟨b,off,none⟩) (c:=0) (ws:=[]) h1 (.inl rfl) (by simp)
  have R:=Lib.hid (And.intro r1 r2)
  clear r1 r2 h2
  go_enter func210,ntmps210
  go_wp2_with (go_at_call 97;refine(uYs _ _).mono ?_;rintro e w' ⟨rfl,rfl⟩)
  go_ret
  exact⟨rfl,R.out⟩
 ·obtain⟨r1,r2⟩:=Bg (c:=c-1) h1 (Di h2) (by omega)
  have R:=Lib.hid (And.intro r1 r2)
  clear r1 r2 h2
  go_enter func210,ntmps210
  go_wp2_with (go_at_call 97;refine(uYs _ _).mono ?_;rintro e w' ⟨rfl,rfl⟩)
  all_goals first
   |(exfalso;omega)
   |(go_ret;exact⟨rfl,R.out⟩)
theorem Bh (br:Nat)(w:World)(h:Rd w br []):
  Calls prog 210 #[.pointer (some ⟨br,0,none⟩)] w fun e w'=>e=.panicked (gave 4)∧w.grownBy w' (some br):=by
 obtain⟨A,c,h1,h2,h3⟩:=h
 obtain⟨hc,hf⟩:=ah h1
 clear h2
 go_enter func210,ntmps210
 go_wp2_with (go_at_call 97;refine(bD _ _).mono ?_;rintro e w1 ⟨rfl,hx⟩)
 exact⟨rfl,rfl,kg br hx⟩
def aP :List ByteArray->Option (ByteArray×List ByteArray)
 |x::r=>if Pl.isName x=true then some (x,r)else none
 | []=>none
def gL :List ByteArray->Option (Int×List ByteArray)
 |x::r=>(Pl.fK x).map fun v=>(v,r)
 | []=>none
def bN :List ByteArray->Option (Int×List ByteArray)
 |x::r=>(Pl.bV x).map fun v=>(v,r)
 | []=>none
def iR {α:Type}(val:α->Value)(br:Nat)(w:World)(o:Option (α×List ByteArray))(e:Ending)(w':World):Prop:=
 w.grownBy w' (some br)∧match o with
  |some (x,r)=>e=.returned (val x)∧Rd w' br r
  |none=>e=.panicked (gave 4)
theorem iR.ok {α:Type}{val:α->Value}{br:Nat}{w w':World}{o:Option (α×List ByteArray)}{e:Ending}{x:α}{r:List ByteArray}(ho:o=some (x,r))(hg:w.grownBy w' (some br))(he:e=.returned (val x))(hR:Rd w' br r):iR val br w o e w':=by subst ho;exact⟨hg,he,hR⟩
theorem iR.no {α:Type}{val:α->Value}{br:Nat}{w w':World}{o:Option (α×List ByteArray)}{e:Ending}(ho:o=none)(hg:w.grownBy w' (some br))(he:e=.panicked (gave 4)):iR val br w o e w':=by subst ho;exact⟨hg,he⟩
theorem mY {x:ByteArray}{r:List ByteArray}(h:Pl.isName x=true):aP (x::r)=some (x,r):=by simp[aP,h]
theorem Dj {x:ByteArray}{r:List ByteArray}(h:Pl.isName x=false):aP (x::r)=none:=by simp[aP,h]
theorem su {x:ByteArray}{r:List ByteArray}{v:Int}(h:Pl.fK x=some v):gL (x::r)=some (v,r):=by simp[gL,h]
theorem sw {x:ByteArray}{r:List ByteArray}(h:Pl.fK x=none):gL (x::r)=none:=by simp[gL,h]
def dK (ws:List ByteArray):Prop:=ws.length<=100000∧ ∀x∈ws,x.size<=100000
theorem dK.tail {x:ByteArray}{ws:List ByteArray}(h:dK (x::ws)):x.size<=100000∧ws.length<=100000∧dK ws:=
 ⟨h.2 x (by simp),by have:=h.1;simp at this;omega,by have:=h.1;simp at this;omega,fun y hy=>h.2 y (by simp[hy])⟩
theorem fM (br:Nat)(ws:List ByteArray)(w:World)(h:Rd w br ws)(hs:dK ws):
  Calls prog 157 #[.pointer (some ⟨br,0,none⟩)] w (iR (fun x=> .string x) br w (aP ws)):=by
 cases ws with
 |nil=>
  go_enter func157,ntmps157
  go_wp2_with (go_at_call 210;refine(Bh br _ h).mono ?_;rintro e w1 ⟨rfl,hx⟩)
  exact⟨rfl,iR.no rfl hx rfl⟩
 | cons x r=>
  obtain⟨hx,hr,_⟩:=hs.tail
  cases hn:Pl.isName x with
  | true=>
   have HN:=Lib.hid hn
   clear hn
   go_enter func157,ntmps157
   go_wp2_with (first
    |(go_at_call 210;refine(lX br x r _ h (by omega)).mono ?_;rintro e w1 ⟨rfl,kP,hg1⟩)
    |(go_at_call 82;refine(wF _ _ hx).mono ?_;rintro e w2 ⟨rfl,rfl⟩;rw[HN.out])
    |(go_at_call 97;refine(uYs _ _).mono ?_;rintro e w' ⟨rfl,rfl⟩))
   go_ret
   exact iR.ok (mY HN.out) hg1 rfl kP
  | false=>
   have HN:=Lib.hid hn
   clear hn
   go_enter func157,ntmps157
   go_wp2_with (first
    |(go_at_call 210;refine(lX br x r _ h (by omega)).mono ?_;rintro e w1 ⟨rfl,kP,hg1⟩)
    |(go_at_call 82;refine(wF _ _ hx).mono ?_;rintro e w2 ⟨rfl,rfl⟩;rw[HN.out])
    |(go_at_call 97;refine(bD _ _).mono ?_;rintro e w3 ⟨rfl,hb3⟩))
   exact⟨rfl,iR.no (Dj HN.out) (bO hg1 hb3) rfl⟩
theorem oO (br:Nat)(ws:List ByteArray)(w:World)(hE:Env w)(h:Rd w br ws)(hbr:8<=br)(hs:dK ws):
  Calls prog 208 #[.pointer (some ⟨br,0,none⟩)] w (iR (fun v=> .int .i64 v) br w (gL ws)):=by
 cases ws with
 |nil=>
  go_enter func208,ntmps208
  go_wp2_with (go_at_call 210;refine(Bh br _ h).mono ?_;rintro e w1 ⟨rfl,hx⟩)
  exact⟨rfl,iR.no rfl hx rfl⟩
 | cons x r=>
  obtain⟨hx,hr,_⟩:=hs.tail
  have Us: ∀W,w.grownBy W (some br)->Env W:=fun W hg=>hE.below (aO h.lt hg) hbr
  by_cases hok: ∃v,Lib.atoiAll x.data.toList=.ok v
  ·obtain⟨v,hat⟩:=hok
   have hb:=Lib.atoiAll_bounds hat
   have HA:=Lib.hid hat
   by_cases hsp:Pl.spelt v=x
   ·have SV:(⟨(Lib.itoa v).toArray⟩:ByteArray)=x:=hsp
    cases hin:Pl.bQ v (-999999999) 999999999 with
    | true=>
     have hv:Pl.fK x=some v:=Pl.kY.2 ⟨by simp[Pl.bQ]at hin;omega,by simp[Pl.bQ]at hin;omega,hsp⟩
     have HV:=Lib.hid hv
     clear hat hsp hv
     subst SV
     go_enter func208,ntmps208
     go_wp2_with (first
      |(go_at_call 210;refine(lX br _ r _ h (by omega)).mono ?_;rintro e w1 ⟨rfl,kP,hg1⟩)
      |(go_at_call 269;refine(mX _ _ _ (by omega) HA.out).mono ?_;rintro e w2 ⟨rfl,hx2⟩;have hR2:=kP.below hx2;have hg2:=bO hg1 hx2)
      |(go_at_call 120;refine(eY _ _ (Us _ hg2) (by omega) (by omega)).mono ?_;rintro e w3 ⟨rfl,hx3⟩;have FJ:=hR2.below hx3;have hg3:=bO hg2 hx3)
      |(go_at_call 84;refine(dP _ _ _ _).mono ?_;rintro e w' ⟨rfl,rfl⟩)
      |(go_at_call 97;refine(uYs _ _).mono ?_;rintro e w' ⟨rfl,rfl⟩))
     go_ret
     exact iR.ok (su HV.out) hg3 rfl FJ
    | false=>
     have hv:Pl.fK x=none:=by
      cases e:Pl.fK x with
      |none=>rfl
      |some u=>
       have hu:=Pl.kY.1 e
       have:Lib.atoiAll x.data.toList=.ok u:=by rw[<-hu.2.2,Pl.eT];exact Pl.pX u hu.1 hu.2.1
       rw[hat]at this
       cases this
       simp[Pl.bQ,hu.1,hu.2.1]at hin
     have HV:=Lib.hid hv
     clear hat hsp hv
     subst SV
     go_enter func208,ntmps208
     go_wp2_with (first
      |(go_at_call 210;refine(lX br _ r _ h (by omega)).mono ?_;rintro e w1 ⟨rfl,kP,hg1⟩)
      |(go_at_call 269;refine(mX _ _ _ (by omega) HA.out).mono ?_;rintro e w2 ⟨rfl,hx2⟩;have hR2:=kP.below hx2;have hg2:=bO hg1 hx2)
      |(go_at_call 120;refine(eY _ _ (Us _ hg2) (by omega) (by omega)).mono ?_;rintro e w3 ⟨rfl,hx3⟩;have FJ:=hR2.below hx3;have hg3:=bO hg2 hx3)
      |(go_at_call 84;refine(dP _ _ _ _).mono ?_;rintro e w' ⟨rfl,rfl⟩)
      |(go_at_call 97;refine(bD _ _).mono ?_;rintro e w4 ⟨rfl,hx4⟩))
     exact⟨rfl,iR.no (sw HV.out) (bO hg3 hx4) rfl⟩
   ·have hv:Pl.fK x=none:=by
     cases e:Pl.fK x with
     |none=>rfl
     |some u=>
      have hu:=Pl.kY.1 e
      have:Lib.atoiAll x.data.toList=.ok u:=by rw[<-hu.2.2,Pl.eT];exact Pl.pX u hu.1 hu.2.1
      rw[hat]at this
      cases this
      exact absurd hu.2.2 hsp
    have HV:=Lib.hid hv
    have HS:=Lib.hid hsp
    clear hat hsp hv
    go_enter func208,ntmps208
    go_wp2_with (first
     |(go_at_call 210;refine(lX br _ r _ h (by omega)).mono ?_;rintro e w1 ⟨rfl,kP,hg1⟩)
     |(go_at_call 269;refine(mX _ _ _ (by omega) HA.out).mono ?_;rintro e w2 ⟨rfl,hx2⟩;have hR2:=kP.below hx2;have hg2:=bO hg1 hx2)
     |(go_at_call 120;refine(Ih _ x _ (Us _ hg2) (by omega) (by omega) HS.out).mono ?_;rintro e w3 ⟨B,rfl,U_,hx3⟩;have hg3:=bO hg2 hx3)
     |(go_at_call 97;refine(bD _ _).mono ?_;rintro e w4 ⟨rfl,hx4⟩))
    exact⟨rfl,iR.no (sw HV.out) (bO hg3 hx4) rfl⟩
  ·have hno: ∀v,Lib.atoiAll x.data.toList≠ .ok v:=fun v h=>hok ⟨v,h⟩
   have hv:Pl.fK x=none:=by
    cases e:Pl.fK x with
    |none=>rfl
    |some u=>
     have hu:=Pl.kY.1 e
     exact absurd (by rw[<-hu.2.2,Pl.eT];exact Pl.pX u hu.1 hu.2.1) (hno u)
   have HV:=Lib.hid hv
   have HN:=Lib.hid hno
   clear hok hv hno
   go_enter func208,ntmps208
   go_wp2_with (first
    |(go_at_call 210;refine(lX br _ r _ h (by omega)).mono ?_;rintro e w1 ⟨rfl,kP,hg1⟩)
    |(go_at_call 269;refine(Ig _ _ (Us _ hg1) (by omega) HN.out).mono ?_;rintro e w2 ⟨u,N,rfl,hx2⟩;have hg2:=bO hg1 hx2)
    |(go_at_call 97;refine(bD _ _).mono ?_;rintro e w4 ⟨rfl,hx4⟩))
   exact⟨rfl,iR.no (sw HV.out) (bO hg2 hx4) rfl⟩
theorem iL (br:Nat)(ws:List ByteArray)(w:World)(hE:Env w)(h:Rd w br ws)(hbr:8<=br)(hs:dK ws):
  Calls prog 158 #[.pointer (some ⟨br,0,none⟩)] w (iR (fun v=> .int .i64 v) br w (bN ws)):=by
 have hc:=oO br ws w hE h hbr hs
 cases hv:gL ws with
 | none=>
  rw[hv]at hc
  have hn:bN ws=none:=by
   cases ws with
   |nil=>rfl
   |cons x r=>
    cases e:Pl.fK x with
    |none=>simp[bN,Pl.bV,e]
    |some u=>rw[su e]at hv;cases hv
  have HN:=Lib.hid hn
  clear hn hv
  go_enter func158,ntmps158
  go_wp2_with (go_at_call 208;refine hc.mono ?_;rintro e w1 ⟨hg1,rfl⟩)
  exact⟨rfl,iR.no HN.out hg1 rfl⟩
 | some p=>
  obtain⟨v,r⟩:=p
  rw[hv]at hc
  obtain⟨x,rfl,hx⟩: ∃x,ws=x::r∧Pl.fK x=some v:=by
   cases ws with
   |nil=>cases hv
   |cons x r'=>
    cases e:Pl.fK x with
    |none=>rw[sw e]at hv;cases hv
    |some u=>rw[su e]at hv;cases hv;exact⟨x,rfl,e⟩
  clear hv
  by_cases h0:0<=v
  ·have HN:Hid (bN (x::r)=some (v,r)):=Lib.hid (by simp[bN,Pl.bV,hx,h0])
   clear hx
   go_enter func158,ntmps158
   go_wp2_with (first
    |(go_at_call 208;refine hc.mono ?_;rintro e w1 ⟨hg1,rfl,kP⟩)
    |(go_at_call 97;refine(uYs _ _).mono ?_;rintro e w' ⟨rfl,rfl⟩))
   go_ret
   exact iR.ok HN.out hg1 rfl kP
  ·have HN:Hid (bN (x::r)=none):=Lib.hid (by simp[bN,Pl.bV,hx,h0])
   have hd:decide (0<=v)=false:=decide_eq_false h0
   clear hx
   go_enter func158,ntmps158
   go_wp2_with (first
    |(go_at_call 208;refine hc.mono ?_;rintro e w1 ⟨hg1,rfl,kP⟩)
    |(go_at_call 97;refine(bD _ _).mono ?_;rintro e w4 ⟨rfl,hx4⟩))
   exact⟨rfl,iR.no HN.out (bO hg1 hx4) rfl⟩
theorem ql (br:Nat)(w:World)(h:Rd w br []):
  Calls prog 159 #[.pointer (some ⟨br,0,none⟩)] w fun e w'=>e=.returned (.tuple #[])∧w=w':=by
 obtain⟨A,c,h1,h2,h3⟩:=h
 obtain⟨hc,hf⟩:=ah h1
 clear h2
 go_enter func159,ntmps159
 go_wp2_with (go_at_call 97;refine(uYs _ _).mono ?_;rintro e w' ⟨rfl,rfl⟩)
 go_end0
 exact⟨rfl,rfl⟩
theorem t_ (br:Nat)(x:ByteArray)(ws:List ByteArray)(w:World)(h:Rd w br (x::ws)):
  Calls prog 159 #[.pointer (some ⟨br,0,none⟩)] w fun e w'=>e=.panicked (gave 4)∧Below w.heap.size w w':=by
 obtain⟨A,c,h1,h2,h3⟩:=h
 rw[List.length_cons]at h1
 obtain⟨hc,hf⟩:=ah h1
 have e1:(((ws.length+1:Nat):Int)==0)=false:=by simp;omega
 clear h2
 go_enter func159,ntmps159
 go_wp2_with (go_at_call 97;refine(bD _ _).mono ?_;rintro e w1 ⟨rfl,hx⟩)
 exact⟨rfl,rfl,hx⟩
def found (o:Option Nat)(e:Ending):Prop:=match o with
 |some i=>e=.returned (.int .i64 (i:Int))
 |none=>e=.panicked (gave 5)
theorem OC (bn:Nat)(n x:ByteArray)(w:World)(hb:w.heap[bn]?=some (.cells #[.string n] 9 (0,0))):
  Calls prog 266 #[.string x,.pointer (some ⟨bn,0,none⟩)] w fun e w'=>e=.returned (.bool (decide (x=n)))∧Below w.heap.size w w':=by
 obtain⟨hc,hf⟩:=ah hb
 have hlt:=(lO hb)
 go_enter func266,ntmps266
 go_wp2
 go_ret
 exact⟨aD (dF x n),by go_grown⟩
theorem OD (bn:Nat)(n:ByteArray)(x:ByteArray×Int)(w:World)(hb:w.heap[bn]?=some (.cells #[.string n] 9 (0,0))):
  Calls prog 268 #[.agg #[.string x.1,.int .i64 x.2],.pointer (some ⟨bn,0,none⟩)] w fun e w'=>e=.returned (.bool (decide (x.1=n)))∧Below w.heap.size w w':=by
 obtain⟨hc,hf⟩:=ah hb
 have hlt:=(lO hb)
 go_enter func268,ntmps268
 go_wp2
 go_ret
 exact⟨aD (dF x.1 n),by go_grown⟩
theorem K8 (A:Option Addr)(c bn:Nat)(l:List ByteArray)(n:ByteArray)(w:World)(hl:d9 w w.heap.size A l)(hm:l.length<=100000)(hb:w.heap[bn]?=some (.cells #[.string n] 9 (0,0))):
  Calls prog 265 #[.slice A l.length c,.func (.func 266) #[] #[.pointer (some ⟨bn,0,none⟩)]] w fun e w'=>found (Pl.idx (fun x=>decide (x=n)) l) e∧Below w.heap.size w w':=by
 have hlt:=(lO hb)
 have hI:=fun W (hW:Below w.heap.size w W)=>KL A c l 266 #[.pointer (some ⟨bn,0,none⟩)] (fun x=>decide (x=n)) W (hl.up hW) (by omega) (enters_of (P:=prog) func266 (by kernel_rfl) rfl)
  (fun x _ W' hW'=>OC bn n x W' ((hW'.block bn (by have:=hW.size;omega)).trans ((hW.block bn hlt).trans hb)))
 cases ho:Pl.idx (fun x=>decide (x=n)) l with
 |some i=>
  rw[ho]at hI
  unfold Pl.pos at hI
  clear ho
  go_enter func265,ntmps265
  go_wp2_with (first|(go_at_call 154;refine(hI _ (by go_grown)).mono ?_;rintro e w1 ⟨rfl,hx1⟩;have hb1:=bT (w:=w) hx1;clear hx1;have hsz1:w.heap.size<=w1.heap.size:=hb1.size)|(go_at_call 97;refine(uYs _ _).mono ?_;rintro e w' ⟨rfl,rfl⟩))
  go_ret
  exact⟨rfl,by go_grown⟩
 |none=>
  rw[ho]at hI
  unfold Pl.pos at hI
  clear ho
  go_enter func265,ntmps265
  go_wp2_with (first|(go_at_call 154;refine(hI _ (by go_grown)).mono ?_;rintro e w1 ⟨rfl,hx1⟩;have hb1:=bT (w:=w) hx1;clear hx1;have hsz1:w.heap.size<=w1.heap.size:=hb1.size)|(go_at_call 97;refine(bD _ _).mono ?_;rintro e w2 ⟨rfl,hx2⟩))
  exact⟨rfl,rfl,hb1.trans (hx2.mono hsz1)⟩
theorem K9 (A:Option Addr)(c bn:Nat)(l:List (ByteArray×Int))(n:ByteArray)(w:World)(hl:iJ w w.heap.size A l)(hm:l.length<=100000)(hb:w.heap[bn]?=some (.cells #[.string n] 9 (0,0))):
  Calls prog 267 #[.slice A l.length c,.func (.func 268) #[] #[.pointer (some ⟨bn,0,none⟩)]] w fun e w'=>found (Pl.idx (fun x=>decide (x.1=n)) l) e∧Below w.heap.size w w':=by
 have hlt:=(lO hb)
 have hI:=fun W (hW:Below w.heap.size w W)=>QC A c l 268 #[.pointer (some ⟨bn,0,none⟩)] (fun x=>decide (x.1=n)) W (hl.up hW) (by omega) (enters_of (P:=prog) func268 (by kernel_rfl) rfl)
  (fun x _ W' hW'=>OD bn n x W' ((hW'.block bn (by have:=hW.size;omega)).trans ((hW.block bn hlt).trans hb)))
 cases ho:Pl.idx (fun x=>decide (x.1=n)) l with
 |some i=>
  rw[ho]at hI
  unfold Pl.pos at hI
  clear ho
  go_enter func267,ntmps267
  go_wp2_with (first|(go_at_call 315;refine(hI _ (by go_grown)).mono ?_;rintro e w1 ⟨rfl,hx1⟩;have hb1:=bT (w:=w) hx1;clear hx1;have hsz1:w.heap.size<=w1.heap.size:=hb1.size)|(go_at_call 97;refine(uYs _ _).mono ?_;rintro e w' ⟨rfl,rfl⟩))
  go_ret
  exact⟨rfl,by go_grown⟩
 |none=>
  rw[ho]at hI
  unfold Pl.pos at hI
  clear ho
  go_enter func267,ntmps267
  go_wp2_with (first|(go_at_call 315;refine(hI _ (by go_grown)).mono ?_;rintro e w1 ⟨rfl,hx1⟩;have hb1:=bT (w:=w) hx1;clear hx1;have hsz1:w.heap.size<=w1.heap.size:=hb1.size)|(go_at_call 97;refine(bD _ _).mono ?_;rintro e w2 ⟨rfl,hx2⟩))
  exact⟨rfl,rfl,hb1.trans (hx2.mono hsz1)⟩
theorem iX (n:ByteArray)(w:World)(hl:d9 w w.heap.size A2 f.li)(hm:f.li.length<=100000):
  Calls prog 205 #[.agg (fq A1 A2 A3 A4 c1 c2 c3 c4 f),.string n] w fun e w'=>found (Pl.eX f n) e∧Below w.heap.size w w':=by
 have kb:=heap_alloc2_old w (.cells (fq A1 A2 A3 A4 c1 c2 c3 c4 f) 28) (.cells #[.string n] 9)
 have kn:=heap_alloc2_new w (.cells (fq A1 A2 A3 A4 c1 c2 c3 c4 f) 28) (.cells #[.string n] 9)
 obtain⟨o,ho⟩: ∃o,Pl.idx (fun x=>decide (x=n)) f.li=o:=⟨_,rfl⟩
 have hI:=fun W hW hb=>K8 A2 c2 (w.heap.size+1) f.li n W hW hm hb
 have Cv: ∀(fn:Fn) (first cap:Array Value) (w:World),(Instr.makeFunc fn first cap).run prog w=.ok (.func fn first cap) w:=fun _ _ _ _=>rfl
 have HO:Hid (Pl.eX f n=o):=Lib.hid ho
 rw[ho]at hI
 clear ho
 cases o with
 |some i=>
  go_enter func205,ntmps205
  go_wp2_with (go_at_call 265;refine(hI _ (hl.up (by go_grown)) kn).mono ?_;rintro e w1 ⟨rfl,hx⟩;have hb1:=bT (w:=w) hx)
  go_ret
  exact⟨by rw[HO.out];rfl,hb1⟩
 |none=>
  go_enter func205,ntmps205
  go_wp2_with (go_at_call 265;refine(hI _ (hl.up (by go_grown)) kn).mono ?_;rintro e w1 ⟨rfl,hx⟩;have hb1:=bT (w:=w) hx)
  exact⟨rfl,by rw[HO.out];rfl,hb1⟩
theorem eF (n:ByteArray)(w:World)(hl:iJ w w.heap.size A1 f.st)(hm:f.st.length<=100000):
  Calls prog 206 #[.agg (fq A1 A2 A3 A4 c1 c2 c3 c4 f),.string n] w fun e w'=>found (Pl.dW f n) e∧Below w.heap.size w w':=by
 have kb:=heap_alloc2_old w (.cells (fq A1 A2 A3 A4 c1 c2 c3 c4 f) 28) (.cells #[.string n] 9)
 have kn:=heap_alloc2_new w (.cells (fq A1 A2 A3 A4 c1 c2 c3 c4 f) 28) (.cells #[.string n] 9)
 obtain⟨o,ho⟩: ∃o,Pl.idx (fun x=>decide (x.1=n)) f.st=o:=⟨_,rfl⟩
 have hI:=fun W hW hb=>K9 A1 c1 (w.heap.size+1) f.st n W hW hm hb
 have Cv: ∀(fn:Fn) (first cap:Array Value) (w:World),(Instr.makeFunc fn first cap).run prog w=.ok (.func fn first cap) w:=fun _ _ _ _=>rfl
 have HO:Hid (Pl.dW f n=o):=Lib.hid ho
 rw[ho]at hI
 clear ho
 cases o with
 |some i=>
  go_enter func206,ntmps206
  go_wp2_with (go_at_call 267;refine(hI _ (hl.up (by go_grown)) kn).mono ?_;rintro e w1 ⟨rfl,hx⟩;have hb1:=bT (w:=w) hx)
  go_ret
  exact⟨by rw[HO.out];rfl,hb1⟩
 |none=>
  go_enter func206,ntmps206
  go_wp2_with (go_at_call 267;refine(hI _ (hl.up (by go_grown)) kn).mono ?_;rintro e w1 ⟨rfl,hx⟩;have hb1:=bT (w:=w) hx)
  exact⟨rfl,by rw[HO.out];rfl,hb1⟩
