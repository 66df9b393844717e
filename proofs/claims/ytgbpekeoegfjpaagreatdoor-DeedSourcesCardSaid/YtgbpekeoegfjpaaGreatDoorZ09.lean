/- Texts of mine, merged: ED, He, EE, AGs, DN, DO. -/
import Derived.Shelf.Abstract
import Derived.Test.YtgbpekeoegfjpaaGreatDoorZ01
import Derived.Test.YtgbpekeoegfjpaaGreatDoorZ03
import Derived.Test.YtgbpekeoegfjpaaGreatDoorZ05
import Derived.Test.YtgbpekeoegfjpaaGreatDoorZ08
import Derived.Test.YtgbpekeoegfjpaaGreatDoorZ00
import Derived.Test.YtgbpekeoegfjpaaGreatDoorZ02
/- Walk: how far a call runs; what is wrong with a course. -/
set_option maxRecDepth 100000
namespace Go.Proofs.YtgbpekeoegfjpaaGreatDoor
open Go.RowKit
variable (A1 A2 A3 A4 : Option Addr) (c1 c2 c3 c4 : Nat) (f : Pl.Fld)
theorem xAt_get {st:List (ByteArray×Int)}{t:Nat}(h:t<st.length):Pl.xAt st (t:Int)=st[t].2:=by
 unfold Pl.xAt;simp[h]
set_option maxHeartbeats 2000000 in
theorem run_a (k:Int)(c:Pl.Cal)(w:World)(hst:Stas w w.heap.size A1 f.st)(_hm:f.st.length<=100000)(h1:Pl.inN c.fr f.st.length)(h2:Pl.inN c.till f.st.length)(hx: ∀s∈f.st,0<=s.2∧s.2<=100000):
  Calls Tryz.prog 178 #[.agg (fkq A1 A2 A3 A4 c1 c2 c3 c4 f k c)] w fun e w'=>e=.returned (.int .i64 (Pl.runC f.st c))∧Below w.heap.size w w':=by
 obtain⟨kk,l,o,fr,t,s,e,cr⟩:=c
 obtain⟨a0,a1⟩:=h1
 obtain⟨b0,b1⟩:=h2
 simp only at a0 a1 b0 b1
 obtain⟨fr,rfl⟩:=Int.eq_ofNat_of_zero_le a0
 obtain⟨t,rfl⟩:=Int.eq_ofNat_of_zero_le b0
 have a2:fr<f.st.length:=by omega
 have b2:t<f.st.length:=by omega
 obtain⟨b,off,hA,hb,_,q1⟩:=Stas.at2 hst a2
 obtain⟨b',off',hA',_,_,q2⟩:=Stas.at2 hst b2
 rw[hA]at hA'
 obtain⟨rfl,rfl⟩:b=b'∧off=off':=by simpa using hA'
 clear hA'
 have x1:=hx _ (List.getElem_mem a2)
 have x2:=hx _ (List.getElem_mem b2)
 have HV:Hid (f.st[t].2-f.st[fr].2=Pl.runC f.st ⟨kk,l,o,fr,t,s,e,cr⟩):=Lib.hid (by unfold Pl.runC;rw[xAt_get a2,xAt_get b2])
 obtain⟨u,hu⟩: ∃u,f.st[fr].2=u:=⟨_,rfl⟩
 obtain⟨v,hv⟩: ∃v,f.st[t].2=v:=⟨_,rfl⟩
 rw[hu]at q1 x1 HV
 rw[hv]at q2 x2 HV
 clear hu hv hx hst
 subst hA
 have kb:=heap_alloc_new w (.cells #[.slice (some ⟨b,off,none⟩) f.st.length c1,.slice A2 f.li.length c2,.slice A3 f.pa.length c3,.slice A4 f.va.length c4,.int .u8 k,.int .i64 l,.int .i64 o,.int .i64 (fr:Int),.int .i64 (t:Int),.int .i64 s,.int .i64 e,.int .i64 cr.b,.int .i64 cr.n,.int .i64 cr.l,.int .i64 cr.y,.int .i64 cr.x,.int .i64 cr.s] 128)
 have hall:Below w.heap.size w (w.alloc (.cells #[.slice (some ⟨b,off,none⟩) f.st.length c1,.slice A2 f.li.length c2,.slice A3 f.pa.length c3,.slice A4 f.va.length c4,.int .u8 k,.int .i64 l,.int .i64 o,.int .i64 (fr:Int),.int .i64 (t:Int),.int .i64 s,.int .i64 e,.int .i64 cr.b,.int .i64 cr.n,.int .i64 cr.l,.int .i64 cr.y,.int .i64 cr.x,.int .i64 cr.s] 128)):=(Below.refl _ w).alloc (Nat.le_refl _) _
 have e1:(0:Int)<=(fr:Int):=by omega
 have e2:(fr:Int)<(f.st.length:Int):=by omega
 have e3:(0:Int)<=(t:Int):=by omega
 have e4:(t:Int)<(f.st.length:Int):=by omega
 have e5:IntKind.i64.wrap (v-u)=v-u:=IntWalk.i64_in _ (by omega)
 go_enter Tryz.func178,Tryz.ntmps178
 go_wp2
 generalize w.alloc (.cells #[.slice (some ⟨b,off,none⟩) f.st.length c1,.slice A2 f.li.length c2,.slice A3 f.pa.length c3,.slice A4 f.va.length c4,.int .u8 k,.int .i64 l,.int .i64 o,.int .i64 (fr:Int),.int .i64 (t:Int),.int .i64 s,.int .i64 e,.int .i64 cr.b,.int .i64 cr.n,.int .i64 cr.l,.int .i64 cr.y,.int .i64 cr.x,.int .i64 cr.s] 128)=W0 at*
 obtain⟨hcb,hfb⟩:=blk_cells kb
 have s0:=hcb 0
 have s1:=hcb 7
 have s2:=hcb 8
 have s3:=(hall.cell (p:=⟨b,off+fr*2+1,none⟩) hb).trans q1
 have s4:=(hall.cell (p:=⟨b,off+t*2+1,none⟩) hb).trans q2
 clear hcb q1 q2
 go_region_held3 (fun W=>W.cell? ⟨w.heap.size,0,none⟩=some (.slice (some ⟨b,off,none⟩) f.st.length c1)∧W.cell? ⟨w.heap.size,7,none⟩=some (.int .i64 (fr:Int))∧W.cell? ⟨w.heap.size,8,none⟩=some (.int .i64 (t:Int))∧W.cell? ⟨b,off+fr*2+1,none⟩=some (.int .i64 u)∧W.cell? ⟨b,off+t*2+1,none⟩=some (.int .i64 v)) (exact⟨s0,s1,s2,s3,s4⟩) (fail)
 all_goals go_wp2
 all_goals go_ret
 all_goals exact⟨ret_int (by rw[<-HV.out]),by first|exact hall|exact hall.drew|(go_grown;done)|exact below_drewN (by go_grown) _⟩
attribute [-go_sem] run_equalIn_agg storeVar loadVar
attribute [local go_sem] lv_int lv_bool lv_u8 lv_string lv_vars
theorem sc_of {k:Int}{c:Pl.Cal}{g:Nat}{W:World}(hb:W.heap[g]?=some (.cells (fkq A1 A2 A3 A4 c1 c2 c3 c4 f k c) 128 (0,0))):(loadVar 26 ⟨g,3,none⟩).run Tryz.prog W=.ok (.slice A4 f.va.length c4) W∧(loadVar 46 ⟨g,11,none⟩).run Tryz.prog W=.ok (.agg (cq c.crs)) W∧(loadVar 128 ⟨g,0,none⟩).run Tryz.prog W=.ok (.agg (fkq A1 A2 A3 A4 c1 c2 c3 c4 f k c)) W:=by
 refine⟨?_,CBox.crs ⟨hb⟩,CBox.whole ⟨hb⟩⟩
 obtain⟨hc,_⟩:=blk_cells hb
 rw[lv_vars]
 simp[go_sem,hc]
set_option maxHeartbeats 4000000 in
theorem check_crs (c:Pl.Cal)(w:World)(hR: ∀W,Below w.heap.size w W->Calls Tryz.prog 215 #[.agg (fkq A1 A2 A3 A4 c1 c2 c3 c4 f 3 c)] W fun e w'=>e=.returned (.bool true)∧Below W.heap.size W w')
  (D:Int) (is:Bool) (hD: ∀W,Below w.heap.size w W->Calls Tryz.prog 176 #[.slice A4 f.va.length c4,.int .i64 c.crs.y] W fun e w'=>e=.returned (.tuple #[.int .i64 D,.bool is])∧Below W.heap.size W w')
  (x:Int) (hX: ∀W,Below w.heap.size w W->Calls Tryz.prog 178 #[.agg (fkq A1 A2 A3 A4 c1 c2 c3 c4 f 3 c)] W fun e w'=>e=.returned (.int .i64 x)∧Below W.heap.size W w')
  (lo hi E:Int) (ok:Bool) (hI: ∀W,Below w.heap.size w W->Calls Tryz.prog 177 #[.slice A4 f.va.length c4,.agg (cq c.crs),.int .i64 x] W fun e w'=>e=.returned (.tuple #[.int .i64 lo,.int .i64 hi,.bool ok,.int .i64 E])∧Below W.heap.size W w'):
  Calls Tryz.prog 108 #[.agg (fkq A1 A2 A3 A4 c1 c2 c3 c4 f 3 c)] w fun e w'=>e=.returned (.int .i64 (if is=false then 20 else if E≠0 then E else if ok=true then 0 else 5))∧Below w.heap.size w w':=by
 have kb:=heap_alloc_new w (.cells (fkq A1 A2 A3 A4 c1 c2 c3 c4 f 3 c) 128)
 have hall:Below w.heap.size w (w.alloc (.cells (fkq A1 A2 A3 A4 c1 c2 c3 c4 f 3 c) 128)):=(Below.refl _ w).alloc (Nat.le_refl _) _
 have hu:=Tryz.underlying128
 have hi':=info_call
 have hix: ∀W,(Instr.index 205 (.agg #[.string ⟨#[]⟩,.nilFunc,.nilFunc,.string ⟨#[115,116,111,110,101]⟩,.func (.func 211) #[] #[],.func (.func 212) #[] #[],.string ⟨#[119,105,100,116,104]⟩,.func (.func 213) #[] #[],.func (.func 214) #[] #[],.string ⟨#[99,111,117,114,115,101]⟩,.func (.func 215) #[] #[],.func (.func 216) #[] #[],.string ⟨#[97,108,111,110,103]⟩,.func (.func 217) #[] #[],.func (.func 218) #[] #[],.string ⟨#[108,101,118,101,108]⟩,.func (.func 219) #[] #[],.func (.func 220) #[] #[]]) (.int .u8 3)).run Tryz.prog W=.ok (.agg #[.string ⟨#[99,111,117,114,115,101]⟩,.func (.func 215) #[] #[],.func (.func 216) #[] #[]]) W:=fun _=>by kernel_rfl
 have hfx: ∀W,(Instr.field 204 (.agg #[.string ⟨#[99,111,117,114,115,101]⟩,.func (.func 215) #[] #[],.func (.func 216) #[] #[]]) 1).run Tryz.prog W=.ok (.func (.func 215) #[] #[]) W:=fun _=>by kernel_rfl
 go_enter Tryz.func108,Tryz.ntmps108
 go_wp2
 generalize w.alloc (.cells (fkq A1 A2 A3 A4 c1 c2 c3 c4 f 3 c) 128)=W0 at*
 go_region_held3 (fun W=>(loadVar 5 ⟨w.heap.size,4,none⟩).run Tryz.prog W=.ok (.int .u8 3) W∧(loadVar 128 ⟨w.heap.size,0,none⟩).run Tryz.prog W=.ok (.agg (fkq A1 A2 A3 A4 c1 c2 c3 c4 f 3 c)) W) (first|exact sb_of A1 A2 A3 A4 c1 c2 c3 c4 f kb1|exact sb_of A1 A2 A3 A4 c1 c2 c3 c4 f kb) (first
  |(go_at_call 162;refine(kinds_v _).mono ?_;rintro e w1 ⟨rfl,hx⟩;have kb1:=(hx.block w.heap.size (by first|exact(lO kb1)|exact(lO kb))).trans (by first|exact kb1|exact kb);have hall1:Below w.heap.size w w1:=(by first|exact hall1.trans (hx.mono hall1.size)|exact hall.drew.trans (hx.mono hall.size));clear hx)
  |(go_at_call 84;refine(inD_a _ _ _ _).mono ?_;rintro e w' ⟨rfl,rfl⟩)
  |(go_at_call 215;refine(hR _ hall1).mono ?_;rintro e w2 ⟨rfl,hx⟩;have kb1:=(hx.block w.heap.size (lO kb1)).trans kb1;have hall1:Below w.heap.size w w2:=hall1.trans (hx.mono hall1.size);clear hx))
 all_goals obtain⟨hck,hfk⟩:=blk_cells kb1
 all_goals clear hR hix hfx
 all_goals cases is with
  |false=>
   go_wp2_with (go_at_call 176;refine(hD _ hall1).mono ?_;rintro e w3 ⟨rfl,hx⟩;have hall3:Below w.heap.size w w3:=hall1.trans (hx.mono hall1.size))
   go_ret
   exact⟨rfl,hall3⟩
  | true=>
   go_wp2_with (go_at_call 176;refine(hD _ hall1).mono ?_;rintro e w3 ⟨rfl,hx⟩;have kb3:=(hx.block w.heap.size (lO kb1)).trans kb1;have hall3:Below w.heap.size w w3:=hall1.trans (hx.mono hall1.size);clear hx)
   clear hck hfk
   go_region_held3 (fun W=>(loadVar 26 ⟨w.heap.size,3,none⟩).run Tryz.prog W=.ok (.slice A4 f.va.length c4) W∧(loadVar 46 ⟨w.heap.size,11,none⟩).run Tryz.prog W=.ok (.agg (cq c.crs)) W∧(loadVar 128 ⟨w.heap.size,0,none⟩).run Tryz.prog W=.ok (.agg (fkq A1 A2 A3 A4 c1 c2 c3 c4 f 3 c)) W) (first|exact sc_of A1 A2 A3 A4 c1 c2 c3 c4 f kb5|exact sc_of A1 A2 A3 A4 c1 c2 c3 c4 f kb4|exact sc_of A1 A2 A3 A4 c1 c2 c3 c4 f kb3) (first
    |(go_at_call 178;refine(hX _ hall3.drew).mono ?_;rintro e w4 ⟨rfl,hx⟩;have kb4:=(hx.block w.heap.size (lO kb3)).trans kb3;have hall4:Below w.heap.size w w4:=hall3.drew.trans (hx.mono hall3.size);clear hx)
    |(go_at_call 177;refine(hI _ hall4).mono ?_;rintro e w5 ⟨rfl,hx⟩;have kb5:=(hx.block w.heap.size (lO kb4)).trans kb4;have hall5:Below w.heap.size w w5:=hall4.trans (hx.mono hall4.size);clear hx))
   all_goals clear hD hX hI
   all_goals by_cases h0:E=0
   all_goals try subst h0
   all_goals try (have hne:(E !=0)=true:=by simpa using h0)
   all_goals cases ok
   all_goals go_wp2
   all_goals go_ret
   all_goals exact⟨by simp_all,hall5⟩
end Go.Proofs.YtgbpekeoegfjpaaGreatDoor
/- Law: an operation of a region that draws its order, taken first, its slot written out. -/
namespace Go.Proofs.YtgbpekeoegfjpaaGreatDoor
open Go.RowKit
variable (A1 A2 A3 A4 : Option Addr) (c1 c2 c3 c4 : Nat) (f : Pl.Fld)
theorem takeH {P:Program}{md:Region.Mode}{ops:Array Oper}{Q:Exit->Act->World->Prop}{S:World->Prop}{oi:Oper}{v:Value}{fuel:Nat}{listed:Array Bool}{a:Act}{w:World}(i:Nat)(d:Option Tmp)(hi:ops[i]?=some oi)(hd:oi.dst=d)
  (hs:Region.noSelect ops=true) (hf:Region.free md ops listed i=true) (hr:(Region.ready md ops listed).contains i=true)
  (hQ: ∀c a w,Q (.panic c) (a.put d v) w->Q (.panic c) a w) (hy:YieldsIf P ops S oi v a) (hS:S w)
  (h:wpAnyH P md ops Q S fuel (listed.setIfInBounds i true) (a.put d v) w):wpAnyH P md ops Q S (fuel+1) listed a w:=by
 subst hd
 exact wpAnyH_take hi hs hf hr hQ hy hS h
theorem tH {P:Program}{md:Region.Mode}{ops:Array Oper}{Q:Exit->Act->World->Prop}{S:World->Prop}{oi:Oper}{v:Value}{fuel:Nat}{listed:Array Bool}{a:Act}{w:World}(i:Nat)(d:Option Tmp)(hi:ops[i]?=some oi)(hd:oi.dst=d)
  (hy: ∀W,S W->(execOp a.eval oi).run P W=.ok (.value v) W) (h:wpAnyH P md ops Q S fuel (listed.setIfInBounds i true) (a.put d v) w)
  (hs:Region.noSelect ops=true:=by kernel_rfl) (hf:Region.free md ops listed i=true:=by kernel_rfl) (hr:(Region.ready md ops listed).contains i=true:=by kernel_rfl)
  (hQ: ∀c a w,Q (.panic c) (a.put d v) w->Q (.panic c) a w:=by exact fun _ _ _ h=>h) (hw:Region.wanted oi (yielded ops a.tmps)=true:=by rfl) (hS:S w:=by assumption):wpAnyH P md ops Q S (fuel+1) listed a w:=
 takeH i d hi hd hs hf hr hQ (Or.inl ⟨hw,hy⟩) hS h
theorem readyH {P:Program}{md:Region.Mode}{ops:Array Oper}{Q:Exit->Act->World->Prop}{S:World->Prop}{fuel:Nat}{listed:Array Bool}{a:Act}{w:World}{i:Nat}{o:Oper}{rs:List Nat}(d:Option Tmp)(ho:ops[i]?=some o)(hd:o.dst=d)
  (h: ∀K':Act->World->Prop,Shut (∀a w,S w->(S w->wpAnyH P md ops Q S fuel (listed.setIfInBounds i true) a w)->K' a w)->if Region.wanted o (yielded ops a.tmps)=true then Oper.wp P o a w K' Q else K' (a.put d undef) w)
  (hs:AllReadyH P md ops Q S fuel listed a w rs):AllReadyH P md ops Q S fuel listed a w (i::rs):=by
 subst hd
 exact AllReadyH.cons ho h hs
end Go.Proofs.YtgbpekeoegfjpaaGreatDoor
/- Walk: what is wrong with a call. -/
namespace Go.Proofs.YtgbpekeoegfjpaaGreatDoor
open Go.RowKit
variable (A1 A2 A3 A4 : Option Addr) (c1 c2 c3 c4 : Nat) (f : Pl.Fld)
attribute [-go_sem] run_equalIn_agg storeVar loadVar
attribute [local go_sem] lv_int lv_bool lv_u8 lv_string lv_vars
theorem sb1_of {k:Int}{c:Pl.Cal}{g:Nat}{W:World}(hb:W.heap[g]?=some (.cells (fkq A1 A2 A3 A4 c1 c2 c3 c4 f k c) 128 (0,0))):(loadVar 5 ⟨g,4,none⟩).run Tryz.prog W=.ok (.int .u8 k) W:=(sb_of A1 A2 A3 A4 c1 c2 c3 c4 f hb).1
set_option maxHeartbeats 4000000 in
theorem check_out (k:Int)(c:Pl.Cal)(w:World)(hk0:0<=k)(hk1:k<=255)(hk:Pl.inB k 1 5=false):
  Calls Tryz.prog 108 #[.agg (fkq A1 A2 A3 A4 c1 c2 c3 c4 f k c)] w fun e w'=>e=.returned (.int .i64 1)∧Below w.heap.size w w':=by
 have kb:=heap_alloc_new w (.cells (fkq A1 A2 A3 A4 c1 c2 c3 c4 f k c) 128)
 have hall:Below w.heap.size w (w.alloc (.cells (fkq A1 A2 A3 A4 c1 c2 c3 c4 f k c) 128)):=(Below.refl _ w).alloc (Nat.le_refl _) _
 have hwk:IntKind.i64.wrap k=k:=IntWalk.i64_in _ (by omega)
 have hk2:Pl.inB (IntKind.i64.wrap k) 1 (IntKind.i64.wrap 5)=false:=by rw[hwk];exact hk
 have hk3:Pl.inB k 1 (IntKind.i64.wrap 5)=false:=hk
 go_enter Tryz.func108,Tryz.ntmps108
 go_wp2
 generalize w.alloc (.cells (fkq A1 A2 A3 A4 c1 c2 c3 c4 f k c) 128)=W0 at*
 refine wp_region_held_drew (S:=fun W=>(loadVar 5 ⟨w.heap.size,4,none⟩).run Tryz.prog W=.ok (.int .u8 k) W) (by kernel_rfl) (sb1_of A1 A2 A3 A4 c1 c2 c3 c4 f kb) (fun hHeld=> ?_)
 refine tH 0 (some 9) (v:= ?v0) rfl rfl (fun W hW=> ?hy0) ?hr0
 case hy0=>(try dsimp only at hW);go_simp;try with_reducible rfl
 try simp only[Act.put,q1,q2,q3]
 refine tH 1 (some 10) (v:= ?v1) rfl rfl (fun W hW=> ?hy1) ?hr1
 case hy1=>(try dsimp only at hW);go_simp;try with_reducible rfl
 try simp only[Act.put,q1,q2,q3]
 refine tH 2 (some 11) (v:= ?v2) rfl rfl (fun W hW=> ?hy2) ?hr2
 case hy2=>(try dsimp only at hW);go_simp;try with_reducible rfl
 try simp only[Act.put,q1,q2,q3]
 refine tH 3 (some 12) (v:= ?v3) rfl rfl (fun W hW=> ?hy3) ?hr3
 case hy3=>(try dsimp only at hW);go_simp;try with_reducible rfl
 try simp only[Act.put,q1,q2,q3]
 refine wpAnyH_ready (rs:=[4]) (by kernel_rfl) (by simp) ?_
 refine readyH (some 13) rfl rfl (fun K hK=> ?_) AllReadyH.nil
 go_simp
 refine(kinds_v _).mono ?_
 rintro e w1 ⟨rfl,hx⟩
 have kb1:=(hx.block w.heap.size (lO kb)).trans kb
 have hall1:Below w.heap.size w w1:=hall.drew.trans (hx.mono hall.size)
 refine hK.out _ _ (sb1_of A1 A2 A3 A4 c1 c2 c3 c4 f kb1) (fun hHeld=> ?_)
 clear hK K
 try simp only[Act.put,q1,q2,q3]
 refine tH 5 (some 14) (v:= ?v5) rfl rfl (fun W hW=> ?hy5) ?hr5
 case hy5=>(try dsimp only at hW);go_simp;try with_reducible rfl
 try simp only[Act.put,q1,q2,q3]
 refine tH 6 (some 15) (v:= ?v6) rfl rfl (fun W hW=> ?hy6) ?hr6
 case hy6=>(try dsimp only at hW);go_simp;try with_reducible rfl
 try simp only[Act.put,q1,q2,q3]
 refine wpAnyH_ready (rs:=[7]) (by kernel_rfl) (by simp) ?_
 refine readyH (some 16) rfl rfl (fun K hK=> ?_) AllReadyH.nil
 go_simp
 refine(inD_a _ _ _ _).mono ?_
 rintro e w' ⟨rfl,rfl⟩
 first|rw[hk3]|rw[hk2]|rw[hk]
 refine hK.out _ _ (sb1_of A1 A2 A3 A4 c1 c2 c3 c4 f kb1) (fun hHeld=> ?_)
 clear hK K
 try simp only[Act.put,q1,q2,q3]
 refine tH 8 (some 17) (v:= ?v8) rfl rfl (fun W hW=> ?hy8) ?hr8
 case hy8=>(try dsimp only at hW);go_simp;try with_reducible rfl
 try simp only[Act.put,q1,q2,q3]
 refine tH 9 (some 18) (v:= ?v9) rfl rfl (fun W hW=> ?hy9) ?hr9
 case hy9=>(try dsimp only at hW);go_simp;try with_reducible rfl
 try simp only[Act.put,q1,q2,q3]
 refine takeH 10 (some 19) (v:=undef) rfl rfl (by kernel_rfl) (by kernel_rfl) (by kernel_rfl) (fun _ _ _ h=>h) (Or.inr ⟨by rfl,rfl⟩) (by assumption) ?_
 try simp only[Act.put,q1,q2,q3]
 refine takeH 11 (some 20) (v:=undef) rfl rfl (by kernel_rfl) (by kernel_rfl) (by kernel_rfl) (fun _ _ _ h=>h) (Or.inr ⟨by rfl,rfl⟩) (by assumption) ?_
 try simp only[Act.put,q1,q2,q3]
 refine takeH 12 (some 21) (v:=undef) rfl rfl (by kernel_rfl) (by kernel_rfl) (by kernel_rfl) (fun _ _ _ h=>h) (Or.inr ⟨by rfl,rfl⟩) (by assumption) ?_
 try simp only[Act.put,q1,q2,q3]
 refine takeH 13 (some 22) (v:=undef) rfl rfl (by kernel_rfl) (by kernel_rfl) (by kernel_rfl) (fun _ _ _ h=>h) (Or.inr ⟨by rfl,rfl⟩) (by assumption) ?_
 try simp only[Act.put,q1,q2,q3]
 refine takeH 14 (some 23) (v:=undef) rfl rfl (by kernel_rfl) (by kernel_rfl) (by kernel_rfl) (fun _ _ _ h=>h) (Or.inr ⟨by rfl,rfl⟩) (by assumption) ?_
 try simp only[Act.put,q1,q2,q3]
 refine takeH 15 (some 24) (v:=undef) rfl rfl (by kernel_rfl) (by kernel_rfl) (by kernel_rfl) (fun _ _ _ h=>h) (Or.inr ⟨by rfl,rfl⟩) (by assumption) ?_
 try simp only[Act.put,q1,q2,q3]
 refine takeH 16 (some 25) (v:=undef) rfl rfl (by kernel_rfl) (by kernel_rfl) (by kernel_rfl) (fun _ _ _ h=>h) (Or.inr ⟨by rfl,rfl⟩) (by assumption) ?_
 try simp only[Act.put,q1,q2,q3]
 refine takeH 17 (some 26) (v:=undef) rfl rfl (by kernel_rfl) (by kernel_rfl) (by kernel_rfl) (fun _ _ _ h=>h) (Or.inr ⟨by rfl,rfl⟩) (by assumption) ?_
 try simp only[Act.put,q1,q2,q3]
 refine takeH 18 (some 27) (v:=undef) rfl rfl (by kernel_rfl) (by kernel_rfl) (by kernel_rfl) (fun _ _ _ h=>h) (Or.inr ⟨by rfl,rfl⟩) (by assumption) ?_
 try simp only[Act.put,q1,q2,q3]
 refine tH 19 (some 28) (v:= ?v19) rfl rfl (fun W hW=> ?hy19) ?hr19
 case hy19=>(try dsimp only at hW);go_simp;try with_reducible rfl
 try simp only[Act.put,q1,q2,q3]
 refine wpAnyH_done (by kernel_rfl) ?_ _
 go_wp2
 go_ret
 exact⟨rfl,hall1⟩
theorem check_a (c:Pl.Cal)(w:World)(hf:FldS w w.heap.size A1 A2 A3 A4 f)(hm:Small f)(_hc:Caps c1 c2 c3 c4 f)(hE:Pl.fieldE f=0)(hk:c.kind<=255):
  Calls Tryz.prog 108 #[.agg (fcq A1 A2 A3 A4 c1 c2 c3 c4 f c)] w fun e w'=>e=.returned (.int .i64 (Pl.callE f c))∧Below w.heap.size w w':=by
 have hok:=Pl.fieldE_ok hE
 rw[<-Pl.checkE_eq hok.va]
 have hS:=hm.st
 have hL:=hm.li
 by_cases k1:c.kind=1
 ·have hr:Pl.rightB f.st.length f.li.length c=Pl.stoneB f.st.length f.li.length c:=by unfold Pl.rightB;rw[if_pos k1]
  have:=check_stone A1 A2 A3 A4 c1 c2 c3 c4 f c _ w (fun W _=>stone_a A1 A2 A3 A4 c1 c2 c3 c4 f 1 c W hS hL)
  rw[<-hr]at this
  unfold Pl.checkE
  rw[k1]
  cases hb:Pl.rightB f.st.length f.li.length c<;>rw[hb]at this<;>simpa using this
 by_cases k2:c.kind=2
 ·have hr:Pl.rightB f.st.length f.li.length c=Pl.widthB f.st.length f.li.length c:=by unfold Pl.rightB;rw[if_neg k1,if_pos k2]
  have:=check_width A1 A2 A3 A4 c1 c2 c3 c4 f c _ w (fun W _=>width_a A1 A2 A3 A4 c1 c2 c3 c4 f 2 c W hS hL)
  rw[<-hr]at this
  unfold Pl.checkE
  rw[k2]
  cases hb:Pl.rightB f.st.length f.li.length c<;>rw[hb]at this<;>simpa using this
 by_cases k4:c.kind=4
 ·have hr:Pl.rightB f.st.length f.li.length c=Pl.alongB f.st.length f.li.length c:=by unfold Pl.rightB;rw[if_neg k1,if_neg k2,if_neg (by omega),if_pos k4]
  have:=check_along A1 A2 A3 A4 c1 c2 c3 c4 f c _ w (fun W _=>along_a A1 A2 A3 A4 c1 c2 c3 c4 f 4 c W hS hL)
  rw[<-hr]at this
  unfold Pl.checkE
  rw[k4]
  cases hb:Pl.rightB f.st.length f.li.length c<;>rw[hb]at this<;>simpa using this
 by_cases k5:c.kind=5
 ·have hr:Pl.rightB f.st.length f.li.length c=Pl.levelB f.st.length f.li.length c:=by unfold Pl.rightB;rw[if_neg k1,if_neg k2,if_neg (by omega),if_neg k4,if_pos k5]
  have:=check_level A1 A2 A3 A4 c1 c2 c3 c4 f c _ w (fun W _=>level_a A1 A2 A3 A4 c1 c2 c3 c4 f 5 c W hS hL)
  rw[<-hr]at this
  unfold Pl.checkE
  rw[k5]
  cases hb:Pl.rightB f.st.length f.li.length c<;>rw[hb]at this<;>simpa using this
 by_cases k3:c.kind=3
 ·have hr:Pl.rightB f.st.length f.li.length c=Pl.courseB f.st.length f.li.length c:=by unfold Pl.rightB;rw[if_neg k1,if_neg k2,if_pos k3]
  have hc:=fun W=>courseD_a A1 A2 A3 A4 c1 c2 c3 c4 f 3 c W hS hL
  rw[<-hr]at hc
  unfold Pl.checkE
  rw[k3]
  cases hb:Pl.rightB f.st.length f.li.length c with
  |false=>
   rw[hb]at hc
   simpa using check_course A1 A2 A3 A4 c1 c2 c3 c4 f c false w (fun W _=>hc W) rfl
  | true=>
   rw[hb]at hc
   obtain⟨⟨hl,hf1,ht⟩,_⟩:=Pl.rightB_iff.1 hb
   have h2:Pl.inN c.till f.st.length:=by
    rcases ht with h|h|h|h|h
    ·omega
    ·omega
    ·exact h.2.2.2.2.1
    ·omega
    ·omega
   have hxs: ∀s∈f.st,0<=s.2∧s.2<=100000:=hok.x
   have hva:=hf.va
   have hvm:f.va.length<=maxLen:=by unfold maxLen;have:=hm.va;omega
   have:=check_crs A1 A2 A3 A4 c1 c2 c3 c4 f c w (fun W _=>hc W) _ _ (fun W hW=>decl_a A4 c4 f.va c.crs.y W (hva.up hW) hvm) _ (fun W hW=>run_a A1 A2 A3 A4 c1 c2 c3 c4 f 3 c W (hf.st.up hW) hS hf1 h2 hxs) _ _ _ _ (fun W hW=>Interval_a A4 c4 f.va c.crs _ W (hva.up hW) hvm)
   simpa using this
 ·have hr:Pl.rightB f.st.length f.li.length c=false:=by unfold Pl.rightB;rw[if_neg k1,if_neg k2,if_neg k3,if_neg k4,if_neg k5]
  have:=check_out A1 A2 A3 A4 c1 c2 c3 c4 f (c.kind:Int) c w (by omega) (by omega) (by unfold Pl.inB;simp;omega)
  unfold Pl.checkE
  rw[hr]
  simpa using this
end Go.Proofs.YtgbpekeoegfjpaaGreatDoor
/- Walks: reading of numbers by the library. -/
namespace Go.Proofs.YtgbpekeoegfjpaaGreatDoor
open Go.RowKit
variable (A1 A2 A3 A4 : Option Addr) (c1 c2 c3 c4 : Nat) (f : Pl.Fld)
theorem below_bytes (w:World)(e:TypeId)(s:ByteArray):Below w.heap.size w (Lib.bytesWorld w e s):=by
 exact⟨rfl,rfl,rfl,by rw[Lib.bytesWorld_size];omega,fun k hk=>Lib.bytesWorld_at_old w e s k (by omega)⟩
theorem atoi_yes (s:ByteArray)(v:Int)(w:World)(hs:s.size<=1000000)(h:Lib.atoiAll s.data.toList=.ok v):
  Calls Tryz.prog 269 #[.string s] w fun e w'=>e=.returned (.tuple #[.int .i64 v,.nilIface])∧Below w.heap.size w w':=by
 refine(Tryz.strconv_Atoi_ok s (by omega) v h w).mono ?_
 rintro e w' ⟨rfl,rfl|⟨t,rfl⟩⟩
 ·exact⟨rfl,Below.refl _ _⟩
 ·exact⟨rfl,below_bytes _ _ _⟩
theorem atoi_no (s:ByteArray)(w:World)(hE:Env w)(hs:s.size<=1000000)(h: ∀v,Lib.atoiAll s.data.toList≠ .ok v):
  Calls Tryz.prog 269 #[.string s] w fun e w'=> ∃(x:Int) (N:Nat),e=.returned (.tuple #[.int .i64 x,.iface 335 (.pointer (some ⟨N,0,none⟩))])∧Below w.heap.size w w':=by
 rcases hh:Lib.atoiAll s.data.toList with u|_|_
 ·exact(h u hh).elim
 ·obtain⟨te,pe,hv⟩:=hE.syn
  refine(Any.strconv_Atoi_syntax Tryz.laysC172 s (by omega) hh (.iface te pe) w hv (Or.inr ⟨_,_,rfl⟩)).mono ?_
  rintro e w' ⟨N,rfl,_,_,hb⟩
  exact⟨_,N,rfl,hb⟩
 ·obtain⟨te,pe,hv⟩:=hE.rng
  refine(Tryz.strconv_Atoi_range s (by omega) hh (.iface te pe) w hv (Or.inr ⟨_,_,rfl⟩)).mono ?_
  rintro e w' ⟨N,rfl,_,_,hb⟩
  exact⟨_,N,rfl,hb⟩
theorem itoa_ne (n:Int)(s:ByteArray)(w:World)(hE:Env w)(h0: -9223372036854775808<=n)(h1:n<=9223372036854775807)(hne: ¬Pl.spelt n=s):
  Calls Tryz.prog 120 #[.int .i64 n] w fun e w'=> ∃B,e=.returned (.string B)∧(B.toList==s.toList)=false∧Below w.heap.size w w':=
 (itoa_lib n w hE h0 h1).mono fun _ _ ⟨he,hb⟩=>⟨_,he,by rw[str_same];exact decide_eq_false hne,hb⟩
end Go.Proofs.YtgbpekeoegfjpaaGreatDoor
/- Walks: what gives up; the reader of words. -/
namespace Go.Proofs.YtgbpekeoegfjpaaGreatDoor
open Go.RowKit
variable (A1 A2 A3 A4 : Option Addr) (c1 c2 c3 c4 : Nat) (f : Pl.Fld)
abbrev gave (e:Int):List PanicEntry:=[{v:=.iface 209 (.int .i64 e),recovered:=false}]
theorem unless_yes (e:Int)(w:World):Calls Tryz.prog 97 #[.bool true,.int .i64 e] w fun e w'=>e=.returned (.tuple #[])∧w=w':=by
 go_enter Tryz.func97,Tryz.ntmps97
 go_wp2
 go_end0
 exact⟨rfl,rfl⟩
theorem unless_no (e:Int)(w:World):Calls Tryz.prog 97 #[.bool false,.int .i64 e] w fun e' w'=>e'=.panicked (gave e)∧Below w.heap.size w w':=by
 go_enter Tryz.func97,Tryz.ntmps97
 go_wp2
 exact⟨rfl,rfl,by go_grown⟩
def Rd (w:World)(br:Nat)(ws:List ByteArray):Prop:= ∃A c,w.heap[br]?=some (.cells #[.slice A ws.length c] 188 (0,0))∧Nms w br A ws∧ws.length<=c
theorem Rd.kept {w w':World}{br:Nat}{ws:List ByteArray}{n:Nat}(h:Rd w br ws)(hg:w.grownBy w' (some n))(hn:br<n):Rd w' br ws:=by
 obtain⟨A,c,h1,h2,h3⟩:=h
 have hlt:=(lO h1)
 refine⟨A,c,(hg.block br hlt (by simp;omega)).trans h1,h2.keep fun p hp=> ?_,h3⟩
 exact World.cell?_of_block (hg.block p.block (by omega) (by simp;omega))
theorem Rd.below {w w':World}{br:Nat}{ws:List ByteArray}(h:Rd w br ws)(hb:Below w.heap.size w w'):Rd w' br ws:=by
 obtain⟨A,c,h1,h2,h3⟩:=h
 have hlt:=(lO h1)
 exact⟨A,c,(hb.block br hlt).trans h1,h2.keep fun p hp=>World.cell?_of_block (hb.block p.block (by omega)),h3⟩
theorem Rd.lt {w:World}{br:Nat}{ws:List ByteArray}(h:Rd w br ws):br<w.heap.size:=by
 obtain⟨A,c,h1,_⟩:=h;exact(lO h1)
theorem below_of_grown {w w':World}{b:Nat}(hlt:b<w.heap.size)(hg:w.grownBy w' (some b)):Below b w w':=
 ⟨hg.os,hg.tape,hg.output,hg.size,fun k hk=>hg.block k (by omega) (by simp;omega)⟩
theorem grown_up {w w1 w2:World}{b:Nat}(h:w.grownBy w1 (some b))(hb:Below w1.heap.size w1 w2):w.grownBy w2 (some b):=h.trans ((grownBy_of_below hb).but (some b))
theorem grown_below {w w1:World}(b:Nat)(hb:Below w.heap.size w w1):w.grownBy w1 (some b):=(grownBy_of_below hb).but (some b)
theorem nms_tail {w:World}{B b off:Nat}{x:ByteArray}{ws:List ByteArray}(h:Nms w B (some ⟨b,off,none⟩) (x::ws)):Nms w B (some ⟨b,off+1,none⟩) ws:=by
 rcases h with h|⟨b',off',hA,hb,hc⟩
 ·cases h
 ·obtain⟨rfl,rfl⟩:b=b'∧off=off':=by simpa using hA
  refine .inr ⟨b,off+1,rfl,hb,fun k y hy j v hv=> ?_⟩
  have:=hc (k+1) y (by simpa using hy) j v hv
  rw[show off+1+k*1+j=off+(k+1)*1+j by omega]
  exact this
theorem rd_set {w:World}{br:Nat}{v:Value}{A:Option Addr}{c:Nat}{ws:List ByteArray}(h:w.heap[br]?=some (.cells #[v] 188 (0,0)))(hN:Nms w br A ws)(hc:ws.length<=c):
  Rd (w.setCell ⟨br,0,none⟩ (.slice A ws.length c)) br ws∧w.grownBy (w.setCell ⟨br,0,none⟩ (.slice A ws.length c)) (some br):=
 ⟨⟨A,c,Boxed.set _ h,hN.keep fun p hp=>World.cell?_of_block (Below.heap_setCell _ _ _ _ (by simp;omega)),hc⟩,grownBy_setCell' _ _ _⟩
theorem word_ok (br:Nat)(x:ByteArray)(ws:List ByteArray)(w:World)(h:Rd w br (x::ws))(hm:ws.length<=1000000):
  Calls Tryz.prog 210 #[.pointer (some ⟨br,0,none⟩)] w fun e w'=>e=.returned (.string x)∧Rd w' br ws∧w.grownBy w' (some br):=by
 obtain⟨A,c,h1,h2,h3⟩:=h
 obtain⟨b,off,rfl,hb,q0⟩:=Nms.at1 h2 (k:=0) (by simp)
 simp only[Nat.add_zero,List.getElem_cons_zero]at q0
 rw[List.length_cons]at h1 h3
 obtain⟨hc,hf⟩:=blk_cells h1
 have hlt:=(lO h1)
 have e1:(0:Int)<((ws.length+1:Nat):Int):=by omega
 by_cases hc1:c=1
 ·subst hc1
  obtain rfl:ws=[]:=List.length_eq_zero_iff.1 (by omega)
  obtain⟨r1,r2⟩:=rd_set (A:=some ⟨b,off,none⟩) (c:=0) (ws:=[]) h1 (.inl rfl) (by simp)
  have R:=Lib.hid (And.intro r1 r2)
  clear r1 r2 h2
  go_enter Tryz.func210,Tryz.ntmps210
  go_wp2_with (go_at_call 97;refine(unless_yes _ _).mono ?_;rintro e w' ⟨rfl,rfl⟩)
  go_ret
  exact⟨rfl,R.out⟩
 ·obtain⟨r1,r2⟩:=rd_set (c:=c-1) h1 (nms_tail h2) (by omega)
  have R:=Lib.hid (And.intro r1 r2)
  clear r1 r2 h2
  go_enter Tryz.func210,Tryz.ntmps210
  go_wp2_with (go_at_call 97;refine(unless_yes _ _).mono ?_;rintro e w' ⟨rfl,rfl⟩)
  all_goals first
   |(exfalso;omega)
   |(go_ret;exact⟨rfl,R.out⟩)
theorem word_no (br:Nat)(w:World)(h:Rd w br []):
  Calls Tryz.prog 210 #[.pointer (some ⟨br,0,none⟩)] w fun e w'=>e=.panicked (gave 4)∧w.grownBy w' (some br):=by
 obtain⟨A,c,h1,h2,h3⟩:=h
 obtain⟨hc,hf⟩:=blk_cells h1
 clear h2
 go_enter Tryz.func210,Tryz.ntmps210
 go_wp2_with (go_at_call 97;refine(unless_no _ _).mono ?_;rintro e w1 ⟨rfl,hx⟩)
 exact⟨rfl,rfl,grown_below br hx⟩
def nameR :List ByteArray->Option (ByteArray×List ByteArray)
 |x::r=>if Pl.isName x=true then some (x,r)else none
 | []=>none
def sgnR :List ByteArray->Option (Int×List ByteArray)
 |x::r=>(Pl.sgnV x).map fun v=>(v,r)
 | []=>none
def numR :List ByteArray->Option (Int×List ByteArray)
 |x::r=>(Pl.numF x).map fun v=>(v,r)
 | []=>none
def EndR {α:Type}(val:α->Value)(br:Nat)(w:World)(o:Option (α×List ByteArray))(e:Ending)(w':World):Prop:=
 w.grownBy w' (some br)∧match o with
  |some (x,r)=>e=.returned (val x)∧Rd w' br r
  |none=>e=.panicked (gave 4)
theorem EndR.ok {α:Type}{val:α->Value}{br:Nat}{w w':World}{o:Option (α×List ByteArray)}{e:Ending}{x:α}{r:List ByteArray}(ho:o=some (x,r))(hg:w.grownBy w' (some br))(he:e=.returned (val x))(hR:Rd w' br r):EndR val br w o e w':=by subst ho;exact⟨hg,he,hR⟩
theorem EndR.no {α:Type}{val:α->Value}{br:Nat}{w w':World}{o:Option (α×List ByteArray)}{e:Ending}(ho:o=none)(hg:w.grownBy w' (some br))(he:e=.panicked (gave 4)):EndR val br w o e w':=by subst ho;exact⟨hg,he⟩
theorem nameR_yes {x:ByteArray}{r:List ByteArray}(h:Pl.isName x=true):nameR (x::r)=some (x,r):=by simp[nameR,h]
theorem nameR_no {x:ByteArray}{r:List ByteArray}(h:Pl.isName x=false):nameR (x::r)=none:=by simp[nameR,h]
theorem sgnR_yes {x:ByteArray}{r:List ByteArray}{v:Int}(h:Pl.sgnV x=some v):sgnR (x::r)=some (v,r):=by simp[sgnR,h]
theorem sgnR_no {x:ByteArray}{r:List ByteArray}(h:Pl.sgnV x=none):sgnR (x::r)=none:=by simp[sgnR,h]
def Sizes (ws:List ByteArray):Prop:=ws.length<=100000∧ ∀x∈ws,x.size<=100000
theorem Sizes.tail {x:ByteArray}{ws:List ByteArray}(h:Sizes (x::ws)):x.size<=100000∧ws.length<=100000∧Sizes ws:=
 ⟨h.2 x (by simp),by have:=h.1;simp at this;omega,by have:=h.1;simp at this;omega,fun y hy=>h.2 y (by simp[hy])⟩
theorem name_a (br:Nat)(ws:List ByteArray)(w:World)(h:Rd w br ws)(hs:Sizes ws):
  Calls Tryz.prog 157 #[.pointer (some ⟨br,0,none⟩)] w (EndR (fun x=> .string x) br w (nameR ws)):=by
 cases ws with
 |nil=>
  go_enter Tryz.func157,Tryz.ntmps157
  go_wp2_with (go_at_call 210;refine(word_no br _ h).mono ?_;rintro e w1 ⟨rfl,hx⟩)
  exact⟨rfl,EndR.no rfl hx rfl⟩
 | cons x r=>
  obtain⟨hx,hr,_⟩:=hs.tail
  cases hn:Pl.isName x with
  | true=>
   have HN:=Lib.hid hn
   clear hn
   go_enter Tryz.func157,Tryz.ntmps157
   go_wp2_with (first
    |(go_at_call 210;refine(word_ok br x r _ h (by omega)).mono ?_;rintro e w1 ⟨rfl,hR1,hg1⟩)
    |(go_at_call 82;refine(isName_a _ _ hx).mono ?_;rintro e w2 ⟨rfl,rfl⟩;rw[HN.out])
    |(go_at_call 97;refine(unless_yes _ _).mono ?_;rintro e w' ⟨rfl,rfl⟩))
   go_ret
   exact EndR.ok (nameR_yes HN.out) hg1 rfl hR1
  | false=>
   have HN:=Lib.hid hn
   clear hn
   go_enter Tryz.func157,Tryz.ntmps157
   go_wp2_with (first
    |(go_at_call 210;refine(word_ok br x r _ h (by omega)).mono ?_;rintro e w1 ⟨rfl,hR1,hg1⟩)
    |(go_at_call 82;refine(isName_a _ _ hx).mono ?_;rintro e w2 ⟨rfl,rfl⟩;rw[HN.out])
    |(go_at_call 97;refine(unless_no _ _).mono ?_;rintro e w3 ⟨rfl,hb3⟩))
   exact⟨rfl,EndR.no (nameR_no HN.out) (grown_up hg1 hb3) rfl⟩
set_option maxHeartbeats 1000000 in
theorem signed_a (br:Nat)(ws:List ByteArray)(w:World)(hE:Env w)(h:Rd w br ws)(hbr:8<=br)(hs:Sizes ws):
  Calls Tryz.prog 208 #[.pointer (some ⟨br,0,none⟩)] w (EndR (fun v=> .int .i64 v) br w (sgnR ws)):=by
 cases ws with
 |nil=>
  go_enter Tryz.func208,Tryz.ntmps208
  go_wp2_with (go_at_call 210;refine(word_no br _ h).mono ?_;rintro e w1 ⟨rfl,hx⟩)
  exact⟨rfl,EndR.no rfl hx rfl⟩
 | cons x r=>
  obtain⟨hx,hr,_⟩:=hs.tail
  have hEg: ∀W,w.grownBy W (some br)->Env W:=fun W hg=>hE.below (below_of_grown h.lt hg) hbr
  by_cases hok: ∃v,Lib.atoiAll x.data.toList=.ok v
  ·obtain⟨v,hat⟩:=hok
   have hb:=Lib.atoiAll_bounds hat
   have HA:=Lib.hid hat
   by_cases hsp:Pl.spelt v=x
   ·have hsp':(⟨(Lib.itoa v).toArray⟩:ByteArray)=x:=hsp
    cases hin:Pl.inB v (-999999999) 999999999 with
    | true=>
     have hv:Pl.sgnV x=some v:=Pl.sgnV_iff.2 ⟨by simp[Pl.inB]at hin;omega,by simp[Pl.inB]at hin;omega,hsp⟩
     have HV:=Lib.hid hv
     clear hat hsp hv
     subst hsp'
     go_enter Tryz.func208,Tryz.ntmps208
     go_wp2_with (first
      |(go_at_call 210;refine(word_ok br _ r _ h (by omega)).mono ?_;rintro e w1 ⟨rfl,hR1,hg1⟩)
      |(go_at_call 269;refine(atoi_yes _ _ _ (by omega) HA.out).mono ?_;rintro e w2 ⟨rfl,hx2⟩;have hR2:=hR1.below hx2;have hg2:=grown_up hg1 hx2)
      |(go_at_call 120;refine(itoa_lib _ _ (hEg _ hg2) (by omega) (by omega)).mono ?_;rintro e w3 ⟨rfl,hx3⟩;have hR3:=hR2.below hx3;have hg3:=grown_up hg2 hx3)
      |(go_at_call 84;refine(inD_a _ _ _ _).mono ?_;rintro e w' ⟨rfl,rfl⟩)
      |(go_at_call 97;refine(unless_yes _ _).mono ?_;rintro e w' ⟨rfl,rfl⟩))
     go_ret
     exact EndR.ok (sgnR_yes HV.out) hg3 rfl hR3
    | false=>
     have hv:Pl.sgnV x=none:=by
      cases e:Pl.sgnV x with
      |none=>rfl
      |some u=>
       have hu:=Pl.sgnV_iff.1 e
       have:Lib.atoiAll x.data.toList=.ok u:=by rw[<-hu.2.2,Pl.spelt_list];exact Pl.atoi_itoa u hu.1 hu.2.1
       rw[hat]at this
       cases this
       simp[Pl.inB,hu.1,hu.2.1]at hin
     have HV:=Lib.hid hv
     clear hat hsp hv
     subst hsp'
     go_enter Tryz.func208,Tryz.ntmps208
     go_wp2_with (first
      |(go_at_call 210;refine(word_ok br _ r _ h (by omega)).mono ?_;rintro e w1 ⟨rfl,hR1,hg1⟩)
      |(go_at_call 269;refine(atoi_yes _ _ _ (by omega) HA.out).mono ?_;rintro e w2 ⟨rfl,hx2⟩;have hR2:=hR1.below hx2;have hg2:=grown_up hg1 hx2)
      |(go_at_call 120;refine(itoa_lib _ _ (hEg _ hg2) (by omega) (by omega)).mono ?_;rintro e w3 ⟨rfl,hx3⟩;have hR3:=hR2.below hx3;have hg3:=grown_up hg2 hx3)
      |(go_at_call 84;refine(inD_a _ _ _ _).mono ?_;rintro e w' ⟨rfl,rfl⟩)
      |(go_at_call 97;refine(unless_no _ _).mono ?_;rintro e w4 ⟨rfl,hx4⟩))
     exact⟨rfl,EndR.no (sgnR_no HV.out) (grown_up hg3 hx4) rfl⟩
   ·have hv:Pl.sgnV x=none:=by
     cases e:Pl.sgnV x with
     |none=>rfl
     |some u=>
      have hu:=Pl.sgnV_iff.1 e
      have:Lib.atoiAll x.data.toList=.ok u:=by rw[<-hu.2.2,Pl.spelt_list];exact Pl.atoi_itoa u hu.1 hu.2.1
      rw[hat]at this
      cases this
      exact absurd hu.2.2 hsp
    have HV:=Lib.hid hv
    have HS:=Lib.hid hsp
    clear hat hsp hv
    go_enter Tryz.func208,Tryz.ntmps208
    go_wp2_with (first
     |(go_at_call 210;refine(word_ok br _ r _ h (by omega)).mono ?_;rintro e w1 ⟨rfl,hR1,hg1⟩)
     |(go_at_call 269;refine(atoi_yes _ _ _ (by omega) HA.out).mono ?_;rintro e w2 ⟨rfl,hx2⟩;have hR2:=hR1.below hx2;have hg2:=grown_up hg1 hx2)
     |(go_at_call 120;refine(itoa_ne _ x _ (hEg _ hg2) (by omega) (by omega) HS.out).mono ?_;rintro e w3 ⟨B,rfl,hneB,hx3⟩;have hg3:=grown_up hg2 hx3)
     |(go_at_call 97;refine(unless_no _ _).mono ?_;rintro e w4 ⟨rfl,hx4⟩))
    exact⟨rfl,EndR.no (sgnR_no HV.out) (grown_up hg3 hx4) rfl⟩
  ·have hno: ∀v,Lib.atoiAll x.data.toList≠ .ok v:=fun v h=>hok ⟨v,h⟩
   have hv:Pl.sgnV x=none:=by
    cases e:Pl.sgnV x with
    |none=>rfl
    |some u=>
     have hu:=Pl.sgnV_iff.1 e
     exact absurd (by rw[<-hu.2.2,Pl.spelt_list];exact Pl.atoi_itoa u hu.1 hu.2.1) (hno u)
   have HV:=Lib.hid hv
   have HN:=Lib.hid hno
   clear hok hv hno
   go_enter Tryz.func208,Tryz.ntmps208
   go_wp2_with (first
    |(go_at_call 210;refine(word_ok br _ r _ h (by omega)).mono ?_;rintro e w1 ⟨rfl,hR1,hg1⟩)
    |(go_at_call 269;refine(atoi_no _ _ (hEg _ hg1) (by omega) HN.out).mono ?_;rintro e w2 ⟨u,N,rfl,hx2⟩;have hg2:=grown_up hg1 hx2)
    |(go_at_call 97;refine(unless_no _ _).mono ?_;rintro e w4 ⟨rfl,hx4⟩))
   exact⟨rfl,EndR.no (sgnR_no HV.out) (grown_up hg2 hx4) rfl⟩
theorem number_a (br:Nat)(ws:List ByteArray)(w:World)(hE:Env w)(h:Rd w br ws)(hbr:8<=br)(hs:Sizes ws):
  Calls Tryz.prog 158 #[.pointer (some ⟨br,0,none⟩)] w (EndR (fun v=> .int .i64 v) br w (numR ws)):=by
 have hc:=signed_a br ws w hE h hbr hs
 cases hv:sgnR ws with
 | none=>
  rw[hv]at hc
  have hn:numR ws=none:=by
   cases ws with
   |nil=>rfl
   |cons x r=>
    cases e:Pl.sgnV x with
    |none=>simp[numR,Pl.numF,e]
    |some u=>rw[sgnR_yes e]at hv;cases hv
  have HN:=Lib.hid hn
  clear hn hv
  go_enter Tryz.func158,Tryz.ntmps158
  go_wp2_with (go_at_call 208;refine hc.mono ?_;rintro e w1 ⟨hg1,rfl⟩)
  exact⟨rfl,EndR.no HN.out hg1 rfl⟩
 | some p=>
  obtain⟨v,r⟩:=p
  rw[hv]at hc
  obtain⟨x,rfl,hx⟩: ∃x,ws=x::r∧Pl.sgnV x=some v:=by
   cases ws with
   |nil=>cases hv
   |cons x r'=>
    cases e:Pl.sgnV x with
    |none=>rw[sgnR_no e]at hv;cases hv
    |some u=>rw[sgnR_yes e]at hv;cases hv;exact⟨x,rfl,e⟩
  clear hv
  by_cases h0:0<=v
  ·have HN:Hid (numR (x::r)=some (v,r)):=Lib.hid (by simp[numR,Pl.numF,hx,h0])
   clear hx
   go_enter Tryz.func158,Tryz.ntmps158
   go_wp2_with (first
    |(go_at_call 208;refine hc.mono ?_;rintro e w1 ⟨hg1,rfl,hR1⟩)
    |(go_at_call 97;refine(unless_yes _ _).mono ?_;rintro e w' ⟨rfl,rfl⟩))
   go_ret
   exact EndR.ok HN.out hg1 rfl hR1
  ·have HN:Hid (numR (x::r)=none):=Lib.hid (by simp[numR,Pl.numF,hx,h0])
   have hd:decide (0<=v)=false:=decide_eq_false h0
   clear hx
   go_enter Tryz.func158,Tryz.ntmps158
   go_wp2_with (first
    |(go_at_call 208;refine hc.mono ?_;rintro e w1 ⟨hg1,rfl,hR1⟩)
    |(go_at_call 97;refine(unless_no _ _).mono ?_;rintro e w4 ⟨rfl,hx4⟩))
   exact⟨rfl,EndR.no HN.out (grown_up hg1 hx4) rfl⟩
theorem end_yes (br:Nat)(w:World)(h:Rd w br []):
  Calls Tryz.prog 159 #[.pointer (some ⟨br,0,none⟩)] w fun e w'=>e=.returned (.tuple #[])∧w=w':=by
 obtain⟨A,c,h1,h2,h3⟩:=h
 obtain⟨hc,hf⟩:=blk_cells h1
 clear h2
 go_enter Tryz.func159,Tryz.ntmps159
 go_wp2_with (go_at_call 97;refine(unless_yes _ _).mono ?_;rintro e w' ⟨rfl,rfl⟩)
 go_end0
 exact⟨rfl,rfl⟩
theorem end_no (br:Nat)(x:ByteArray)(ws:List ByteArray)(w:World)(h:Rd w br (x::ws)):
  Calls Tryz.prog 159 #[.pointer (some ⟨br,0,none⟩)] w fun e w'=>e=.panicked (gave 4)∧Below w.heap.size w w':=by
 obtain⟨A,c,h1,h2,h3⟩:=h
 rw[List.length_cons]at h1
 obtain⟨hc,hf⟩:=blk_cells h1
 have e1:(((ws.length+1:Nat):Int)==0)=false:=by simp;omega
 clear h2
 go_enter Tryz.func159,Tryz.ntmps159
 go_wp2_with (go_at_call 97;refine(unless_no _ _).mono ?_;rintro e w1 ⟨rfl,hx⟩)
 exact⟨rfl,rfl,hx⟩
end Go.Proofs.YtgbpekeoegfjpaaGreatDoor
/- Walks: where names are in a field; the field that a source makes, its lines. -/
namespace Go.Proofs.YtgbpekeoegfjpaaGreatDoor
open Go.RowKit
variable (A1 A2 A3 A4 : Option Addr) (c1 c2 c3 c4 : Nat) (f : Pl.Fld)
def found (o:Option Nat)(e:Ending):Prop:=match o with
 |some i=>e=.returned (.int .i64 (i:Int))
 |none=>e=.panicked (gave 5)
theorem isLim_a (bn:Nat)(n x:ByteArray)(w:World)(hb:w.heap[bn]?=some (.cells #[.string n] 9 (0,0))):
  Calls Tryz.prog 266 #[.string x,.pointer (some ⟨bn,0,none⟩)] w fun e w'=>e=.returned (.bool (decide (x=n)))∧Below w.heap.size w w':=by
 obtain⟨hc,hf⟩:=blk_cells hb
 have hlt:=(lO hb)
 go_enter Tryz.func266,Tryz.ntmps266
 go_wp2
 go_ret
 exact⟨ret_bool (str_same x n),by go_grown⟩
theorem isSta_a (bn:Nat)(n:ByteArray)(x:ByteArray×Int)(w:World)(hb:w.heap[bn]?=some (.cells #[.string n] 9 (0,0))):
  Calls Tryz.prog 268 #[.agg #[.string x.1,.int .i64 x.2],.pointer (some ⟨bn,0,none⟩)] w fun e w'=>e=.returned (.bool (decide (x.1=n)))∧Below w.heap.size w w':=by
 obtain⟨hc,hf⟩:=blk_cells hb
 have hlt:=(lO hb)
 go_enter Tryz.func268,Tryz.ntmps268
 go_wp2
 go_ret
 exact⟨ret_bool (str_same x.1 n),by go_grown⟩
theorem indexL_a (A:Option Addr)(c bn:Nat)(l:List ByteArray)(n:ByteArray)(w:World)(hl:Nms w w.heap.size A l)(hm:l.length<=100000)(hb:w.heap[bn]?=some (.cells #[.string n] 9 (0,0))):
  Calls Tryz.prog 265 #[.slice A l.length c,.func (.func 266) #[] #[.pointer (some ⟨bn,0,none⟩)]] w fun e w'=>found (Pl.idx (fun x=>decide (x=n)) l) e∧Below w.heap.size w w':=by
 have hlt:=(lO hb)
 have hI:=fun W (hW:Below w.heap.size w W)=>idxF_s A c l 266 #[.pointer (some ⟨bn,0,none⟩)] (fun x=>decide (x=n)) W (hl.up hW) (by omega) (enters_of (P:=Tryz.prog) Tryz.func266 (by kernel_rfl) rfl)
  (fun x _ W' hW'=>isLim_a bn n x W' ((hW'.block bn (by have:=hW.size;omega)).trans ((hW.block bn hlt).trans hb)))
 cases ho:Pl.idx (fun x=>decide (x=n)) l with
 |some i=>
  rw[ho]at hI
  unfold Pl.pos at hI
  clear ho
  go_enter Tryz.func265,Tryz.ntmps265
  go_wp2_with (first|(go_at_call 154;refine(hI _ (by go_grown)).mono ?_;rintro e w1 ⟨rfl,hx1⟩;have hb1:Below w.heap.size w w1:=Below.trans (by go_grown) (hx1.mono (by go_size));clear hx1;have hsz1:w.heap.size<=w1.heap.size:=hb1.size)|(go_at_call 97;refine(unless_yes _ _).mono ?_;rintro e w' ⟨rfl,rfl⟩))
  go_ret
  exact⟨rfl,by go_grown⟩
 |none=>
  rw[ho]at hI
  unfold Pl.pos at hI
  clear ho
  go_enter Tryz.func265,Tryz.ntmps265
  go_wp2_with (first|(go_at_call 154;refine(hI _ (by go_grown)).mono ?_;rintro e w1 ⟨rfl,hx1⟩;have hb1:Below w.heap.size w w1:=Below.trans (by go_grown) (hx1.mono (by go_size));clear hx1;have hsz1:w.heap.size<=w1.heap.size:=hb1.size)|(go_at_call 97;refine(unless_no _ _).mono ?_;rintro e w2 ⟨rfl,hx2⟩))
  exact⟨rfl,rfl,hb1.trans (hx2.mono hsz1)⟩
theorem indexT_a (A:Option Addr)(c bn:Nat)(l:List (ByteArray×Int))(n:ByteArray)(w:World)(hl:Stas w w.heap.size A l)(hm:l.length<=100000)(hb:w.heap[bn]?=some (.cells #[.string n] 9 (0,0))):
  Calls Tryz.prog 267 #[.slice A l.length c,.func (.func 268) #[] #[.pointer (some ⟨bn,0,none⟩)]] w fun e w'=>found (Pl.idx (fun x=>decide (x.1=n)) l) e∧Below w.heap.size w w':=by
 have hlt:=(lO hb)
 have hI:=fun W (hW:Below w.heap.size w W)=>idxF_t A c l 268 #[.pointer (some ⟨bn,0,none⟩)] (fun x=>decide (x.1=n)) W (hl.up hW) (by omega) (enters_of (P:=Tryz.prog) Tryz.func268 (by kernel_rfl) rfl)
  (fun x _ W' hW'=>isSta_a bn n x W' ((hW'.block bn (by have:=hW.size;omega)).trans ((hW.block bn hlt).trans hb)))
 cases ho:Pl.idx (fun x=>decide (x.1=n)) l with
 |some i=>
  rw[ho]at hI
  unfold Pl.pos at hI
  clear ho
  go_enter Tryz.func267,Tryz.ntmps267
  go_wp2_with (first|(go_at_call 315;refine(hI _ (by go_grown)).mono ?_;rintro e w1 ⟨rfl,hx1⟩;have hb1:Below w.heap.size w w1:=Below.trans (by go_grown) (hx1.mono (by go_size));clear hx1;have hsz1:w.heap.size<=w1.heap.size:=hb1.size)|(go_at_call 97;refine(unless_yes _ _).mono ?_;rintro e w' ⟨rfl,rfl⟩))
  go_ret
  exact⟨rfl,by go_grown⟩
 |none=>
  rw[ho]at hI
  unfold Pl.pos at hI
  clear ho
  go_enter Tryz.func267,Tryz.ntmps267
  go_wp2_with (first|(go_at_call 315;refine(hI _ (by go_grown)).mono ?_;rintro e w1 ⟨rfl,hx1⟩;have hb1:Below w.heap.size w w1:=Below.trans (by go_grown) (hx1.mono (by go_size));clear hx1;have hsz1:w.heap.size<=w1.heap.size:=hb1.size)|(go_at_call 97;refine(unless_no _ _).mono ?_;rintro e w2 ⟨rfl,hx2⟩))
  exact⟨rfl,rfl,hb1.trans (hx2.mono hsz1)⟩
theorem limitOf_a (n:ByteArray)(w:World)(hl:Nms w w.heap.size A2 f.li)(hm:f.li.length<=100000):
  Calls Tryz.prog 205 #[.agg (fq A1 A2 A3 A4 c1 c2 c3 c4 f),.string n] w fun e w'=>found (Pl.limOf f n) e∧Below w.heap.size w w':=by
 have kb:=heap_alloc2_old w (.cells (fq A1 A2 A3 A4 c1 c2 c3 c4 f) 28) (.cells #[.string n] 9)
 have kn:=heap_alloc2_new w (.cells (fq A1 A2 A3 A4 c1 c2 c3 c4 f) 28) (.cells #[.string n] 9)
 obtain⟨o,ho⟩: ∃o,Pl.idx (fun x=>decide (x=n)) f.li=o:=⟨_,rfl⟩
 have hI:=fun W hW hb=>indexL_a A2 c2 (w.heap.size+1) f.li n W hW hm hb
 have hmf: ∀(fn:Fn) (first cap:Array Value) (w:World),(Instr.makeFunc fn first cap).run Tryz.prog w=.ok (.func fn first cap) w:=fun _ _ _ _=>rfl
 have HO:Hid (Pl.limOf f n=o):=Lib.hid ho
 rw[ho]at hI
 clear ho
 cases o with
 |some i=>
  go_enter Tryz.func205,Tryz.ntmps205
  go_wp2_with (go_at_call 265;refine(hI _ (hl.up (by go_grown)) kn).mono ?_;rintro e w1 ⟨rfl,hx⟩;have hb1:Below w.heap.size w w1:=Below.trans (by go_grown) (hx.mono (by go_size)))
  go_ret
  exact⟨by rw[HO.out];rfl,hb1⟩
 |none=>
  go_enter Tryz.func205,Tryz.ntmps205
  go_wp2_with (go_at_call 265;refine(hI _ (hl.up (by go_grown)) kn).mono ?_;rintro e w1 ⟨rfl,hx⟩;have hb1:Below w.heap.size w w1:=Below.trans (by go_grown) (hx.mono (by go_size)))
  exact⟨rfl,by rw[HO.out];rfl,hb1⟩
theorem stationOf_a (n:ByteArray)(w:World)(hl:Stas w w.heap.size A1 f.st)(hm:f.st.length<=100000):
  Calls Tryz.prog 206 #[.agg (fq A1 A2 A3 A4 c1 c2 c3 c4 f),.string n] w fun e w'=>found (Pl.staOf f n) e∧Below w.heap.size w w':=by
 have kb:=heap_alloc2_old w (.cells (fq A1 A2 A3 A4 c1 c2 c3 c4 f) 28) (.cells #[.string n] 9)
 have kn:=heap_alloc2_new w (.cells (fq A1 A2 A3 A4 c1 c2 c3 c4 f) 28) (.cells #[.string n] 9)
 obtain⟨o,ho⟩: ∃o,Pl.idx (fun x=>decide (x.1=n)) f.st=o:=⟨_,rfl⟩
 have hI:=fun W hW hb=>indexT_a A1 c1 (w.heap.size+1) f.st n W hW hm hb
 have hmf: ∀(fn:Fn) (first cap:Array Value) (w:World),(Instr.makeFunc fn first cap).run Tryz.prog w=.ok (.func fn first cap) w:=fun _ _ _ _=>rfl
 have HO:Hid (Pl.staOf f n=o):=Lib.hid ho
 rw[ho]at hI
 clear ho
 cases o with
 |some i=>
  go_enter Tryz.func206,Tryz.ntmps206
  go_wp2_with (go_at_call 267;refine(hI _ (hl.up (by go_grown)) kn).mono ?_;rintro e w1 ⟨rfl,hx⟩;have hb1:Below w.heap.size w w1:=Below.trans (by go_grown) (hx.mono (by go_size)))
  go_ret
  exact⟨by rw[HO.out];rfl,hb1⟩
 |none=>
  go_enter Tryz.func206,Tryz.ntmps206
  go_wp2_with (go_at_call 267;refine(hI _ (hl.up (by go_grown)) kn).mono ?_;rintro e w1 ⟨rfl,hx⟩;have hb1:Below w.heap.size w w1:=Below.trans (by go_grown) (hx.mono (by go_size)))
  exact⟨rfl,by rw[HO.out];rfl,hb1⟩
end Go.Proofs.YtgbpekeoegfjpaaGreatDoor
