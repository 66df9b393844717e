/- Walks of the law DeedCalls in one text, part 3: PlX to Pm9. -/
import Derived.Test.YtgbpekeoegfjpaaGreatDoorP3b
import Derived.Test.YtgbpekeoegfjpaaGreatDoorP3x
set_option maxRecDepth 100000
namespace Go.Proofs.YtgbpekeoegfjpaaGreatDoor
variable (A1 A2 A3 A4 : Option Addr) (c1 c2 c3 c4 : Nat) (f : Pl.Fld)
namespace Pl
variable (A1 A2 A3 A4 : Option Addr) (c1 c2 c3 c4 : Nat) (f : Pl.Fld)
/-! ### Fields moved -/
theorem tab_till {S L:Nat}{c:Cal}(h:c.tab S L)(hk:c.kind=3):inN c.till S:=by
 obtain⟨_,_,h⟩:=h
 rcases h with h|h|h|h|h
 ·omega
 ·omega
 ·exact h.2.2.2.2.1
 ·omega
 ·omega
end Pl
end Go.Proofs.YtgbpekeoegfjpaaGreatDoor
namespace Go.Proofs.YtgbpekeoegfjpaaGreatDoor
open Go.RowKit
variable (A1 A2 A3 A4 : Option Addr) (c1 c2 c3 c4 : Nat) (f : Pl.Fld)
set_option maxHeartbeats 2000000 in
theorem run_b (k:Int)(c:Pl.Cal)(w:World)(hst:Stas w w.heap.size A1 f.st)(_hm:f.st.length<=100000)(h1:Pl.inN c.fr f.st.length)(h2:Pl.inN c.till f.st.length)(hx: ∀s∈f.st,0<=s.2∧s.2<=100000):
  Calls Tryz.prog 140 #[.agg (fq A1 A2 A3 A4 c1 c2 c3 c4 f),.agg (kkq k c)] w fun e w'=>e=.returned (.int .i64 (Pl.runC f.st c))∧Below w.heap.size w w':=by
 obtain⟨kk,l,o,fr,t,s,e,cr⟩:=c
 obtain⟨a0,a1⟩:=h1
 obtain⟨b0,b1⟩:=h2
 simp only at a0 a1 b0 b1
 obtain⟨fr,rfl⟩:=Int.eq_ofNat_of_zero_le a0
 obtain⟨t,rfl⟩:=Int.eq_ofNat_of_zero_le b0
 have a2:fr<f.st.length:=by omega
 have b2:t<f.st.length:=by omega
 obtain⟨b,off,hA,hb,_,q1⟩:=Stas.at2 hst a2
 obtain⟨b',off',hA',_,_,q2⟩:=Stas.at2 hst b2
 rw[hA]at hA'
 obtain⟨rfl,rfl⟩:b=b'∧off=off':=by simpa using hA'
 clear hA'
 have x1:=hx _ (List.getElem_mem a2)
 have x2:=hx _ (List.getElem_mem b2)
 have HV:Hid (f.st[t].2-f.st[fr].2=Pl.runC f.st ⟨kk,l,o,fr,t,s,e,cr⟩):=Lib.hid (by unfold Pl.runC;rw[xAt_get a2,xAt_get b2])
 obtain⟨u,hu⟩: ∃u,f.st[fr].2=u:=⟨_,rfl⟩
 obtain⟨v,hv⟩: ∃v,f.st[t].2=v:=⟨_,rfl⟩
 rw[hu]at q1 x1 HV
 rw[hv]at q2 x2 HV
 clear hu hv hx hst
 subst hA
 have kb:=heap_alloc_new w (.cells (fq (some ⟨b,off,none⟩) A2 A3 A4 c1 c2 c3 c4 f) 28)
 have kc:=heap_alloc_new (w.alloc (.cells (fq (some ⟨b,off,none⟩) A2 A3 A4 c1 c2 c3 c4 f) 28)) (.cells (kA13 k l o (fr:Int) (t:Int) s e cr.b cr.n cr.l cr.y cr.x cr.s) 48)
 rw[World.size_alloc]at kc
 have kb:=(Below.heap_alloc _ (.cells (kA13 k l o (fr:Int) (t:Int) s e cr.b cr.n cr.l cr.y cr.x cr.s) 48) _ (lO kb)).trans kb
 have hall:Below w.heap.size w ((w.alloc (.cells (fq (some ⟨b,off,none⟩) A2 A3 A4 c1 c2 c3 c4 f) 28)).alloc (.cells (kA13 k l o (fr:Int) (t:Int) s e cr.b cr.n cr.l cr.y cr.x cr.s) 48)):=((Below.refl _ w).alloc (Nat.le_refl _) _).alloc (by simp) _
 have e1:(0:Int)<=(fr:Int):=by omega
 have e2:(fr:Int)<(f.st.length:Int):=by omega
 have e3:(0:Int)<=(t:Int):=by omega
 have e4:(t:Int)<(f.st.length:Int):=by omega
 have e5:IntKind.i64.wrap (v-u)=v-u:=IntWalk.i64_in _ (by omega)
 go_enter Tryz.func140,Tryz.ntmps140
 go_wp2
 generalize (w.alloc (.cells (fq (some ⟨b,off,none⟩) A2 A3 A4 c1 c2 c3 c4 f) 28)).alloc (.cells (kA13 k l o (fr:Int) (t:Int) s e cr.b cr.n cr.l cr.y cr.x cr.s) 48)=W0 at*
 obtain⟨hcb,hfb⟩:=blk_cells kb
 obtain⟨hcc,hfc⟩:=blk_cells kc
 have s0:=hcb 0
 have s1:=hcc 3
 have s2:=hcc 4
 have s3:=(hall.cell (p:=⟨b,off+fr*2+1,none⟩) hb).trans q1
 have s4:=(hall.cell (p:=⟨b,off+t*2+1,none⟩) hb).trans q2
 clear hcb hcc q1 q2
 go_region_held3 (fun W=>W.cell? ⟨w.heap.size,0,none⟩=some (.slice (some ⟨b,off,none⟩) f.st.length c1)∧W.cell? ⟨w.heap.size+1,3,none⟩=some (.int .i64 (fr:Int))∧W.cell? ⟨w.heap.size+1,4,none⟩=some (.int .i64 (t:Int))∧W.cell? ⟨b,off+fr*2+1,none⟩=some (.int .i64 u)∧W.cell? ⟨b,off+t*2+1,none⟩=some (.int .i64 v)) (exact⟨s0,s1,s2,s3,s4⟩) (fail)
 all_goals go_wp2
 all_goals go_ret
 all_goals exact⟨ret_int (by rw[<-HV.out]),by first|exact hall|exact hall.drew|(go_grown;done)|exact below_drewN (by go_grown) _⟩
attribute [-go_sem] run_equalIn_agg storeVar loadVar
attribute [local go_sem] lv_int lv_bool lv_u8 lv_string lv_strings lv_stas lv_pars lv_vars
theorem sd_of {c:Pl.Cal}{g:Nat}{W:World}(kf:W.heap[g]?=some (.cells (fq A1 A2 A3 A4 c1 c2 c3 c4 f) 28 (0,0)))(kc:W.heap[g+1]?=some (.cells (kkq 3 c) 48 (0,0))):
  (loadVar 26 ⟨g,3,none⟩).run Tryz.prog W=.ok (.slice A4 f.va.length c4) W∧(loadVar 46 ⟨g+1,7,none⟩).run Tryz.prog W=.ok (.agg (cq c.crs)) W∧(loadVar 28 ⟨g,0,none⟩).run Tryz.prog W=.ok (.agg (fq A1 A2 A3 A4 c1 c2 c3 c4 f)) W∧(loadVar 48 ⟨g+1,0,none⟩).run Tryz.prog W=.ok (.agg (kkq 3 c)) W:=by
 refine⟨?_,ld_crsC kc,ld_row kf Tryz.underlying28 rfl info_fld,ld_row kc Tryz.underlying48 rfl info_cal⟩
 obtain⟨hc,_⟩:=blk_cells kf
 rw[lv_vars]
 simp[go_sem,hc]
set_option maxHeartbeats 4000000 in
theorem checkCallB_three (c:Pl.Cal)(w:World)(hT: ∀W,Below w.heap.size w W->Calls Tryz.prog 185 #[.agg (fq A1 A2 A3 A4 c1 c2 c3 c4 f),.agg (kkq 3 c)] W fun e w'=>e=.returned (.bool true)∧Below W.heap.size W w')
  (hD: ∀W,Calls Tryz.prog 186 #[.agg (cq c.crs)] W fun e w'=>e=.returned (.int .i64 0)∧Below W.heap.size W w')
  (x:Int) (hX: ∀W,Below w.heap.size w W->Calls Tryz.prog 140 #[.agg (fq A1 A2 A3 A4 c1 c2 c3 c4 f),.agg (kkq 3 c)] W fun e w'=>e=.returned (.int .i64 x)∧Below W.heap.size W w')
  (lo hi E:Int) (ok:Bool) (hI: ∀W,Below w.heap.size w W->Calls Tryz.prog 187 #[.slice A4 f.va.length c4,.agg (cq c.crs),.int .i64 x] W fun e w'=>e=.returned (.tuple #[.int .i64 lo,.int .i64 hi,.bool ok,.int .i64 E])∧Below W.heap.size W w'):
  Calls Tryz.prog 129 #[.agg (fq A1 A2 A3 A4 c1 c2 c3 c4 f),.agg (kkq 3 c)] w fun e w'=>e=.returned (.int .i64 (if E≠0 then E else if ok=true then 0 else 5))∧Below w.heap.size w w':=by
 have kf:=(heap_alloc_new w (.cells (fq A1 A2 A3 A4 c1 c2 c3 c4 f) 28))
 have kc:=(heap_alloc_new (w.alloc (.cells (fq A1 A2 A3 A4 c1 c2 c3 c4 f) 28)) (.cells (kkq 3 c) 48))
 rw[World.size_alloc]at kc
 have kf:=(Below.heap_alloc _ (.cells (kkq 3 c) 48) _ (lO kf)).trans kf
 have l01:=ld_row kf Tryz.underlying28 rfl info_fld
 have l02:=ld_row kc Tryz.underlying48 rfl info_cal
 have hall:Below w.heap.size w ((w.alloc (.cells (fq A1 A2 A3 A4 c1 c2 c3 c4 f) 28)).alloc (.cells (kkq 3 c) 48)):=((Below.refl _ w).alloc (Nat.le_refl _) _).alloc (by simp) _
 have l03:=ld_crsC kc
 go_enter Tryz.func129,Tryz.ntmps129
 go_wp2_with fail
 refine(hT _ hall).mono ?_
 rintro e w1 ⟨rfl,hx⟩
 clear l03
 replace kf:=kE hx kf;replace kc:=kE hx kc;replace hall:Below w.heap.size w _:=hall.trans (hx.mono hall.size);(try clear l01 l02);have l01:=ld_row kf Tryz.underlying28 rfl info_fld;have l02:=ld_row kc Tryz.underlying48 rfl info_cal;(try clear hcf hff hcc hfc);obtain⟨hcf,hff⟩:=blk_cells kf;obtain⟨hcc,hfc⟩:=blk_cells kc;clear hx
 have l03:=ld_crsC kc
 go_wp2_with fail
 refine(hD _).mono ?_
 rintro e w2 ⟨rfl,hx⟩
 clear l03
 replace kf:=kE hx kf;replace kc:=kE hx kc;replace hall:Below w.heap.size w _:=hall.trans (hx.mono hall.size);(try clear l01 l02);have l01:=ld_row kf Tryz.underlying28 rfl info_fld;have l02:=ld_row kc Tryz.underlying48 rfl info_cal;(try clear hcf hff hcc hfc);obtain⟨hcf,hff⟩:=blk_cells kf;obtain⟨hcc,hfc⟩:=blk_cells kc;clear hx
 clear hcf hff hcc hfc
 go_wp2_with fail
 go_region_held3 (fun W=>(loadVar 26 ⟨w.heap.size,3,none⟩).run Tryz.prog W=.ok (.slice A4 f.va.length c4) W∧(loadVar 46 ⟨w.heap.size+1,7,none⟩).run Tryz.prog W=.ok (.agg (cq c.crs)) W∧(loadVar 28 ⟨w.heap.size,0,none⟩).run Tryz.prog W=.ok (.agg (fq A1 A2 A3 A4 c1 c2 c3 c4 f)) W∧(loadVar 48 ⟨w.heap.size+1,0,none⟩).run Tryz.prog W=.ok (.agg (kkq 3 c)) W) (first|exact sd_of A1 A2 A3 A4 c1 c2 c3 c4 f kf5 kc5|exact sd_of A1 A2 A3 A4 c1 c2 c3 c4 f kf4 kc4|exact sd_of A1 A2 A3 A4 c1 c2 c3 c4 f kf kc) (first
  |(go_at_call 140;refine(hX _ hall.drew).mono ?_;rintro e w4 ⟨rfl,hx⟩;have kf4:=(hx.block w.heap.size (lO kf)).trans kf;have kc4:=(hx.block (w.heap.size+1) (lO kc)).trans kc;have hall4:Below w.heap.size w w4:=hall.drew.trans (hx.mono hall.size);clear hx)
  |(go_at_call 187;refine(hI _ hall4).mono ?_;rintro e w5 ⟨rfl,hx⟩;have kf5:=(hx.block w.heap.size (lO kf4)).trans kf4;have kc5:=(hx.block (w.heap.size+1) (lO kc4)).trans kc4;have hall5:Below w.heap.size w w5:=hall4.trans (hx.mono hall4.size);clear hx))
 all_goals clear hD hX hI hT
 all_goals by_cases h0:E=0
 all_goals try subst h0
 all_goals try (have hne:(E !=0)=true:=by simpa using h0)
 all_goals cases ok
 all_goals go_wp2
 all_goals go_ret
 all_goals exact⟨by simp_all,hall5⟩
set_option maxHeartbeats 4000000 in
theorem checkCallB_crs (c:Pl.Cal)(w:World)(hT: ∀W,Below w.heap.size w W->Calls Tryz.prog 185 #[.agg (fq A1 A2 A3 A4 c1 c2 c3 c4 f),.agg (kkq 3 c)] W fun e w'=>e=.returned (.bool true)∧Below W.heap.size W w')
  (hD: ∀W,Calls Tryz.prog 186 #[.agg (cq c.crs)] W fun e w'=>e=.returned (.int .i64 1)∧Below W.heap.size W w'):
  Calls Tryz.prog 129 #[.agg (fq A1 A2 A3 A4 c1 c2 c3 c4 f),.agg (kkq 3 c)] w fun e w'=>e=.returned (.int .i64 1)∧Below w.heap.size w w':=by
 have kf:=(heap_alloc_new w (.cells (fq A1 A2 A3 A4 c1 c2 c3 c4 f) 28))
 have kc:=(heap_alloc_new (w.alloc (.cells (fq A1 A2 A3 A4 c1 c2 c3 c4 f) 28)) (.cells (kkq 3 c) 48))
 rw[World.size_alloc]at kc
 have kf:=(Below.heap_alloc _ (.cells (kkq 3 c) 48) _ (lO kf)).trans kf
 have l01:=ld_row kf Tryz.underlying28 rfl info_fld
 have l02:=ld_row kc Tryz.underlying48 rfl info_cal
 have hall:Below w.heap.size w ((w.alloc (.cells (fq A1 A2 A3 A4 c1 c2 c3 c4 f) 28)).alloc (.cells (kkq 3 c) 48)):=((Below.refl _ w).alloc (Nat.le_refl _) _).alloc (by simp) _
 have l03:=ld_crsC kc
 go_enter Tryz.func129,Tryz.ntmps129
 go_wp2_with fail
 refine(hT _ hall).mono ?_
 rintro e w1 ⟨rfl,hx⟩
 clear l03
 replace kf:=kE hx kf;replace kc:=kE hx kc;replace hall:Below w.heap.size w _:=hall.trans (hx.mono hall.size);(try clear l01 l02);have l01:=ld_row kf Tryz.underlying28 rfl info_fld;have l02:=ld_row kc Tryz.underlying48 rfl info_cal;(try clear hcf hff hcc hfc);obtain⟨hcf,hff⟩:=blk_cells kf;obtain⟨hcc,hfc⟩:=blk_cells kc;clear hx
 have l03:=ld_crsC kc
 go_wp2_with fail
 refine(hD _).mono ?_
 rintro e w2 ⟨rfl,hx⟩
 clear l03
 replace kf:=kE hx kf;replace kc:=kE hx kc;replace hall:Below w.heap.size w _:=hall.trans (hx.mono hall.size);(try clear l01 l02);have l01:=ld_row kf Tryz.underlying28 rfl info_fld;have l02:=ld_row kc Tryz.underlying48 rfl info_cal;(try clear hcf hff hcc hfc);obtain⟨hcf,hff⟩:=blk_cells kf;obtain⟨hcc,hfc⟩:=blk_cells kc;clear hx
 go_wp2_with fail
 go_ret
 exact⟨rfl,hall⟩
set_option maxHeartbeats 4000000 in
theorem checkCallB_not (c:Pl.Cal)(B:Bool)(w:World)(h3:B=true->c.kind≠3)(hT: ∀W,Below w.heap.size w W->Calls Tryz.prog 185 #[.agg (fq A1 A2 A3 A4 c1 c2 c3 c4 f),.agg (kq c)] W fun e w'=>e=.returned (.bool B)∧Below W.heap.size W w'):
  Calls Tryz.prog 129 #[.agg (fq A1 A2 A3 A4 c1 c2 c3 c4 f),.agg (kq c)] w fun e w'=>e=.returned (.int .i64 (if B=true then 0 else 1))∧Below w.heap.size w w':=by
 have kf:=(heap_alloc_new w (.cells (fq A1 A2 A3 A4 c1 c2 c3 c4 f) 28))
 have kc:=(heap_alloc_new (w.alloc (.cells (fq A1 A2 A3 A4 c1 c2 c3 c4 f) 28)) (.cells (kq c) 48))
 rw[World.size_alloc]at kc
 have kf:=(Below.heap_alloc _ (.cells (kq c) 48) _ (lO kf)).trans kf
 have l01:=ld_row kf Tryz.underlying28 rfl info_fld
 have l02:=ld_row kc Tryz.underlying48 rfl info_cal
 have hall:Below w.heap.size w ((w.alloc (.cells (fq A1 A2 A3 A4 c1 c2 c3 c4 f) 28)).alloc (.cells (kq c) 48)):=((Below.refl _ w).alloc (Nat.le_refl _) _).alloc (by simp) _
 cases B with
 |false=>
  clear h3
  go_enter Tryz.func129,Tryz.ntmps129
  go_wp2_with fail
  refine(hT _ hall).mono ?_
  rintro e w1 ⟨rfl,hx⟩
  replace kf:=kE hx kf;replace kc:=kE hx kc;replace hall:Below w.heap.size w _:=hall.trans (hx.mono hall.size);(try clear l01 l02);have l01:=ld_row kf Tryz.underlying28 rfl info_fld;have l02:=ld_row kc Tryz.underlying48 rfl info_cal;(try clear hcf hff hcc hfc);obtain⟨hcf,hff⟩:=blk_cells kf;obtain⟨hcc,hfc⟩:=blk_cells kc;clear hx
  go_wp2_with fail
  go_ret
  exact⟨rfl,hall⟩
 | true=>
  have q3:((c.kind:Int) !=3)=true:=by
   have:=h3 rfl
   rw[bne_iff_ne]
   omega
  clear h3
  go_enter Tryz.func129,Tryz.ntmps129
  go_wp2_with fail
  refine(hT _ hall).mono ?_
  rintro e w1 ⟨rfl,hx⟩
  replace kf:=kE hx kf;replace kc:=kE hx kc;replace hall:Below w.heap.size w _:=hall.trans (hx.mono hall.size);(try clear l01 l02);have l01:=ld_row kf Tryz.underlying28 rfl info_fld;have l02:=ld_row kc Tryz.underlying48 rfl info_cal;(try clear hcf hff hcc hfc);obtain⟨hcf,hff⟩:=blk_cells kf;obtain⟨hcc,hfc⟩:=blk_cells kc;clear hx
  go_wp2_with fail
  go_ret
  exact⟨rfl,hall⟩
theorem ok_errB {c:Pl.Crs}(h:c.ok=true):Pl.err (Pl.courseOk c.b c.n c.l c.y c.x c.s)=0:=by unfold Pl.Crs.ok at h;rw[h];rfl
theorem bad_errB {c:Pl.Crs}(h:c.ok=false):Pl.err (Pl.courseOk c.b c.n c.l c.y c.x c.s)=1:=by unfold Pl.Crs.ok at h;rw[h];rfl
theorem checkCallB_a (c:Pl.Cal)(E:Int)(w:World)(hE:Hid (Pl.callE f c=E))(hf:FldS w w.heap.size A1 A2 A3 A4 f)(hm:Small f)(_hc:Caps c1 c2 c3 c4 f)(hF:Pl.fieldE f=0):
  Calls Tryz.prog 129 #[.agg (fq A1 A2 A3 A4 c1 c2 c3 c4 f),.agg (kq c)] w fun e w'=>e=.returned (.int .i64 E)∧Below w.heap.size w w':=by
 rw[<-hE.out,<-Pl.checkR_eq]
 have hok:=Pl.fieldE_ok hF
 have hS:=hok.st12
 have hL:=hok.li10
 have hT:=fun W=>table_b A1 A2 A3 A4 c1 c2 c3 c4 f c W (by omega) (by omega)
 unfold Pl.checkR
 cases hB:Pl.tabR f.st.length f.li.length c with
 |false=>
  rw[hB]at hT
  have:=checkCallB_not A1 A2 A3 A4 c1 c2 c3 c4 f c false w (fun h=>by cases h) (fun W _=>hT W)
  simpa using this
 | true=>
  rw[hB]at hT
  rw[if_neg (by decide)]
  by_cases h3:c.kind=3
  ·have ht:=Pl.tabR_iff.1 hB
   have hk:(c.kind:Int)=3:=by omega
   rw[if_neg (by simpa using h3)]
   rw[hk]at hT ⊢
   cases hc3:c.crs.ok with
   |false=>
    rw[if_pos rfl]
    have hD:=fun W=>course_b c.crs.b c.crs.n c.crs.l c.crs.y c.crs.x c.crs.s W
    rw[bad_errB hc3]at hD
    exact checkCallB_crs A1 A2 A3 A4 c1 c2 c3 c4 f c w (fun W _=>hT W) hD
   | true=>
    rw[if_neg (by decide)]
    have hD:=fun W=>course_b c.crs.b c.crs.n c.crs.l c.crs.y c.crs.x c.crs.s W
    rw[ok_errB hc3]at hD
    exact checkCallB_three A1 A2 A3 A4 c1 c2 c3 c4 f c w (fun W _=>hT W) hD (Pl.runC f.st c)
     (fun W hW=>run_b A1 A2 A3 A4 c1 c2 c3 c4 f 3 c W (hf.up hW).st (by omega) ht.2.1 (Pl.tab_till ht h3) hok.x) _ _ _ _
     (fun W hW=>Interval_b A4 c4 f.va c.crs (Pl.runC f.st c) W (hf.up hW).va (by have:=hm.va;unfold maxLen;omega))
  ·rw[if_pos h3]
   have:=checkCallB_not A1 A2 A3 A4 c1 c2 c3 c4 f c true w (fun _=>h3) (fun W _=>hT W)
   simpa using this
set_option maxHeartbeats 2000000 in
theorem checkCallB_h (c:Pl.Cal)(E:Int)(w:World)(hE:Hid (Pl.checkCallE f c=E))(hf:FldS w w.heap.size A1 A2 A3 A4 f)(hm:Small f)(hc:Caps c1 c2 c3 c4 f):
  Calls Tryz.prog 68 #[.agg (fq A1 A2 A3 A4 c1 c2 c3 c4 f),.agg (kq c)] w fun e w'=>e=.returned (.int .i64 E)∧Below w.heap.size w w':=by
 have kf:=(heap_alloc_new w (.cells (fq A1 A2 A3 A4 c1 c2 c3 c4 f) 28))
 have kc:=(heap_alloc_new (w.alloc (.cells (fq A1 A2 A3 A4 c1 c2 c3 c4 f) 28)) (.cells (kq c) 48))
 rw[World.size_alloc]at kc
 have kf:=(Below.heap_alloc _ (.cells (kq c) 48) _ (lO kf)).trans kf
 have l01:=ld_row kf Tryz.underlying28 rfl info_fld
 have l02:=ld_row kc Tryz.underlying48 rfl info_cal
 have hall:Below w.heap.size w ((w.alloc (.cells (fq A1 A2 A3 A4 c1 c2 c3 c4 f) 28)).alloc (.cells (kq c) 48)):=((Below.refl _ w).alloc (Nat.le_refl _) _).alloc (by simp) _
 obtain⟨F,hF⟩: ∃F,Pl.fieldE f=F:=⟨_,rfl⟩
 have HF:=Lib.hid hF
 by_cases h0:F=0
 ·subst h0
  have hE':Hid (Pl.callE f c=E):=Lib.hid (by have:=hE.out;unfold Pl.checkCallE at this;rwa[if_pos HF.out]at this)
  clear hE hF
  go_enter Tryz.func68,Tryz.ntmps68
  go_wp2_with fail
  refine(checkFieldB_h A1 A2 A3 A4 c1 c2 c3 c4 f 0 _ HF (hf.up hall) hm hc).mono ?_
  rintro e w1 ⟨rfl,hx⟩
  replace kf:=kE hx kf;replace kc:=kE hx kc;replace hall:Below w.heap.size w _:=hall.trans (hx.mono hall.size);(try clear l01 l02);have l01:=ld_row kf Tryz.underlying28 rfl info_fld;have l02:=ld_row kc Tryz.underlying48 rfl info_cal;(try clear hcf hff hcc hfc);obtain⟨hcf,hff⟩:=blk_cells kf;obtain⟨hcc,hfc⟩:=blk_cells kc;clear hx
  go_wp2_with fail
  refine(checkCallB_a A1 A2 A3 A4 c1 c2 c3 c4 f c E _ hE' (hf.up hall) hm hc HF.out).mono ?_
  rintro e w2 ⟨rfl,hx⟩
  replace kf:=kE hx kf;replace kc:=kE hx kc;replace hall:Below w.heap.size w _:=hall.trans (hx.mono hall.size);(try clear l01 l02);have l01:=ld_row kf Tryz.underlying28 rfl info_fld;have l02:=ld_row kc Tryz.underlying48 rfl info_cal;(try clear hcf hff hcc hfc);obtain⟨hcf,hff⟩:=blk_cells kf;obtain⟨hcc,hfc⟩:=blk_cells kc;clear hx
  go_wp2_with fail
  go_ret
  exact⟨rfl,hall⟩
 ·have q0:(F==0)=false:=by simpa using h0
  have hE':Hid (F=E):=Lib.hid (by have:=hE.out;unfold Pl.checkCallE at this;rwa[if_neg (by rw[HF.out];exact h0),HF.out]at this)
  clear hE hF
  go_enter Tryz.func68,Tryz.ntmps68
  go_wp2_with fail
  refine(checkFieldB_h A1 A2 A3 A4 c1 c2 c3 c4 f F _ HF (hf.up hall) hm hc).mono ?_
  rintro e w1 ⟨rfl,hx⟩
  replace kf:=kE hx kf;replace kc:=kE hx kc;replace hall:Below w.heap.size w _:=hall.trans (hx.mono hall.size);(try clear l01 l02);have l01:=ld_row kf Tryz.underlying28 rfl info_fld;have l02:=ld_row kc Tryz.underlying48 rfl info_cal;(try clear hcf hff hcc hfc);obtain⟨hcf,hff⟩:=blk_cells kf;obtain⟨hcc,hfc⟩:=blk_cells kc;clear hx
  go_wp2_with fail
  go_ret
  exact⟨by rw[hE'.out];rfl,hall⟩
end Go.Proofs.YtgbpekeoegfjpaaGreatDoor
namespace Go.Proofs.YtgbpekeoegfjpaaGreatDoor
open Go.RowKit
variable (A1 A2 A3 A4 : Option Addr) (c1 c2 c3 c4 : Nat) (f : Pl.Fld)
theorem row_seg {α:Type}{enc:α->List Value}{size:Nat}(hs: ∀x,(enc x).length=size){w:World}{b B:Nat}{t:TypeId}{cs:Array Value}{l:List α}(hb:b<B)(hg:w.heap[b]?=some (.cells cs t (0,0)))(hcs:cs.toList=l.flatMap enc):Seg enc size w B (some ⟨b,0,none⟩) l:=
 .inr ⟨b,0,rfl,hb,fun k x hx j v hv=>by
  rw[(blk_cells hg).1,<-Array.getElem?_toList,hcs,Nat.zero_add]
  exact flat_at enc size hs hx hv⟩
end Go.Proofs.YtgbpekeoegfjpaaGreatDoor
namespace Go.Proofs.YtgbpekeoegfjpaaGreatDoor
open Go.RowKit
variable (A1 A2 A3 A4 : Option Addr) (c1 c2 c3 c4 : Nat) (f : Pl.Fld)
def GotB (l:List Pl.Bd)(w:World)(e:Ending)(w':World):Prop:= ∃A c,e=.returned (.slice A l.length c)∧Bds w' w'.heap.size A l∧Below w.heap.size w w'
set_option maxHeartbeats 2000000 in
theorem pair_b (p q lo hi r:Int)(pn qn:Nat)(w:World)(hp:p=(pn:Int))(hq:q=(qn:Int))(h0: -1000000000000000<=lo)(h1:lo<=1000000000000000):
  Calls Tryz.prog 188 (i5 p q lo hi r) w (GotB [⟨pn,qn,hi,r⟩,⟨qn,pn,-lo,r⟩] w):=by
 have e5:IntKind.i64.wrap (-lo)= -lo:=IntWalk.i64_in _ (by omega)
 have HP:=Lib.hid hp
 have HQ:=Lib.hid hq
 clear hp hq
 have kb:=heap_alloc_new w (.cells (i8 p q hi r q p (-lo) r) 99)
 go_enter Tryz.func188,Tryz.ntmps188
 go_wp2
 go_ret
 refine⟨some ⟨w.heap.size,0,none⟩,2,rfl,row_seg (enc:=encBd) (fun _=>rfl) (lO kb) kb ?_,by go_grown⟩
 rw[HP.out,HQ.out]
 rfl
attribute [-go_sem] run_equalIn_agg storeVar loadVar
attribute [local go_sem] lv_int lv_bool lv_u8 lv_string lv_strings lv_stas lv_pars lv_vars
theorem ptC_eq {f:Pl.Fld}{l s:Int}(hl:Pl.inN l f.li.length)(hs:Pl.inN s f.st.length):1+l*f.st.length+s=((Pl.ptC f l s:Nat):Int):=by
 unfold Pl.inN at hl hs
 unfold Pl.ptC Pl.pointN
 obtain⟨l,rfl⟩:=Int.eq_ofNat_of_zero_le hl.1
 obtain⟨s,rfl⟩:=Int.eq_ofNat_of_zero_le hs.1
 simp
set_option maxHeartbeats 4000000 in
theorem boundsB_1 (c:Pl.Cal)(r:Int)(w:World)(hS:f.st.length<=1000)(hL:f.li.length<=1000)(h1:Pl.inN c.lim f.li.length)(h2:Pl.inN c.fr f.st.length)(s0: -100000<=c.size)(s1:c.size<=100000)(e0:0<=c.er)(e1:c.er<=100000):
  Calls Tryz.prog 130 #[.agg (fq A1 A2 A3 A4 c1 c2 c3 c4 f),.agg (kkq 1 c),.int .i64 r] w (GotB [⟨0,Pl.ptC f c.lim c.fr,c.size+c.er,r⟩,⟨Pl.ptC f c.lim c.fr,0,-(c.size-c.er),r⟩] w):=by
 have hp1:=Lib.hid (ptC_eq h1 h2)
 unfold Pl.inN at h1 h2
 obtain⟨a0,a1⟩:=h1
 obtain⟨b0,b1⟩:=h2
 have u1:IntKind.i64.wrap (c.size-c.er)=c.size-c.er:=IntWalk.i64_in _ (by omega)
 have u2:IntKind.i64.wrap (c.size+c.er)=c.size+c.er:=IntWalk.i64_in _ (by omega)
 have kf:=(heap_alloc_new w (.cells (fq A1 A2 A3 A4 c1 c2 c3 c4 f) 28))
 have kc:=(heap_alloc_new (w.alloc (.cells (fq A1 A2 A3 A4 c1 c2 c3 c4 f) 28)) (.cells (kkq 1 c) 48))
 rw[World.size_alloc]at kc
 have kf:=(Below.heap_alloc _ (.cells (kkq 1 c) 48) _ (lO kf)).trans kf
 have l01:=ld_row kf Tryz.underlying28 rfl info_fld
 have l02:=ld_row kc Tryz.underlying48 rfl info_cal
 have hall:Below w.heap.size w ((w.alloc (.cells (fq A1 A2 A3 A4 c1 c2 c3 c4 f) 28)).alloc (.cells (kkq 1 c) 48)):=((Below.refl _ w).alloc (Nat.le_refl _) _).alloc (by simp) _
 go_enter Tryz.func130,Tryz.ntmps130
 go_wp2_with fail
 refine(point_b A1 A2 A3 A4 c1 c2 c3 c4 f c.lim c.fr _ (by omega) (by omega) (by omega) (by omega) (by omega)).mono ?_
 rintro e w1 ⟨rfl,hx⟩
 replace kf:=kE hx kf;replace kc:=kE hx kc;replace hall:Below w.heap.size w _:=hall.trans (hx.mono hall.size);(try clear l01 l02);have l01:=ld_row kf Tryz.underlying28 rfl info_fld;have l02:=ld_row kc Tryz.underlying48 rfl info_cal;(try clear hcf hff hcc hfc);obtain⟨hcf,hff⟩:=blk_cells kf;obtain⟨hcc,hfc⟩:=blk_cells kc;clear hx
 go_wp2_with fail
 refine(pair_b 0 _ (c.size-c.er) (c.size+c.er) r 0 (Pl.ptC f c.lim c.fr) _ rfl hp1.out (by omega) (by omega)).mono ?_
 rintro e w3 ⟨A,k,rfl,hS',hx⟩
 replace hall:Below w.heap.size w w3:=hall.trans (hx.mono hall.size)
 go_wp2_with fail
 go_ret
 exact⟨A,k,rfl,hS',hall⟩
set_option maxHeartbeats 4000000 in
theorem boundsB_2 (c:Pl.Cal)(r:Int)(w:World)(hS:f.st.length<=1000)(hL:f.li.length<=1000)(h1:Pl.inN c.lim f.li.length)(h2:Pl.inN c.fr f.st.length)(h3:Pl.inN c.oth f.li.length)(h4:Pl.inN c.fr f.st.length)(s0: -100000<=c.size)(s1:c.size<=100000)(e0:0<=c.er)(e1:c.er<=100000):
  Calls Tryz.prog 130 #[.agg (fq A1 A2 A3 A4 c1 c2 c3 c4 f),.agg (kkq 2 c),.int .i64 r] w (GotB [⟨Pl.ptC f c.lim c.fr,Pl.ptC f c.oth c.fr,c.size+c.er,r⟩,⟨Pl.ptC f c.oth c.fr,Pl.ptC f c.lim c.fr,-(c.size-c.er),r⟩] w):=by
 have hp1:=Lib.hid (ptC_eq h1 h2)
 have hp2:=Lib.hid (ptC_eq h3 h4)
 unfold Pl.inN at h1 h2
 obtain⟨a0,a1⟩:=h1
 obtain⟨b0,b1⟩:=h2
 unfold Pl.inN at h3 h4
 obtain⟨a2,a3⟩:=h3
 obtain⟨b2,b3⟩:=h4
 have u1:IntKind.i64.wrap (c.size-c.er)=c.size-c.er:=IntWalk.i64_in _ (by omega)
 have u2:IntKind.i64.wrap (c.size+c.er)=c.size+c.er:=IntWalk.i64_in _ (by omega)
 have kf:=(heap_alloc_new w (.cells (fq A1 A2 A3 A4 c1 c2 c3 c4 f) 28))
 have kc:=(heap_alloc_new (w.alloc (.cells (fq A1 A2 A3 A4 c1 c2 c3 c4 f) 28)) (.cells (kkq 2 c) 48))
 rw[World.size_alloc]at kc
 have kf:=(Below.heap_alloc _ (.cells (kkq 2 c) 48) _ (lO kf)).trans kf
 have l01:=ld_row kf Tryz.underlying28 rfl info_fld
 have l02:=ld_row kc Tryz.underlying48 rfl info_cal
 have hall:Below w.heap.size w ((w.alloc (.cells (fq A1 A2 A3 A4 c1 c2 c3 c4 f) 28)).alloc (.cells (kkq 2 c) 48)):=((Below.refl _ w).alloc (Nat.le_refl _) _).alloc (by simp) _
 go_enter Tryz.func130,Tryz.ntmps130
 go_wp2_with fail
 refine(point_b A1 A2 A3 A4 c1 c2 c3 c4 f c.lim c.fr _ (by omega) (by omega) (by omega) (by omega) (by omega)).mono ?_
 rintro e w1 ⟨rfl,hx⟩
 replace kf:=kE hx kf;replace kc:=kE hx kc;replace hall:Below w.heap.size w _:=hall.trans (hx.mono hall.size);(try clear l01 l02);have l01:=ld_row kf Tryz.underlying28 rfl info_fld;have l02:=ld_row kc Tryz.underlying48 rfl info_cal;(try clear hcf hff hcc hfc);obtain⟨hcf,hff⟩:=blk_cells kf;obtain⟨hcc,hfc⟩:=blk_cells kc;clear hx
 go_wp2_with fail
 refine(point_b A1 A2 A3 A4 c1 c2 c3 c4 f c.oth c.fr _ (by omega) (by omega) (by omega) (by omega) (by omega)).mono ?_
 rintro e w2 ⟨rfl,hx⟩
 replace kf:=kE hx kf;replace kc:=kE hx kc;replace hall:Below w.heap.size w _:=hall.trans (hx.mono hall.size);(try clear l01 l02);have l01:=ld_row kf Tryz.underlying28 rfl info_fld;have l02:=ld_row kc Tryz.underlying48 rfl info_cal;(try clear hcf hff hcc hfc);obtain⟨hcf,hff⟩:=blk_cells kf;obtain⟨hcc,hfc⟩:=blk_cells kc;clear hx
 go_wp2_with fail
 refine(pair_b _ _ (c.size-c.er) (c.size+c.er) r (Pl.ptC f c.lim c.fr) (Pl.ptC f c.oth c.fr) _ hp1.out hp2.out (by omega) (by omega)).mono ?_
 rintro e w3 ⟨A,k,rfl,hS',hx⟩
 replace hall:Below w.heap.size w w3:=hall.trans (hx.mono hall.size)
 go_wp2_with fail
 go_ret
 exact⟨A,k,rfl,hS',hall⟩
set_option maxHeartbeats 4000000 in
theorem boundsB_5 (c:Pl.Cal)(r:Int)(w:World)(hS:f.st.length<=1000)(hL:f.li.length<=1000)(h1:Pl.inN c.lim f.li.length)(h2:Pl.inN c.fr f.st.length)(h3:Pl.inN c.lim f.li.length)(h4:Pl.inN c.till f.st.length)(s0: -100000<=c.size)(s1:c.size<=100000)(e0:0<=c.er)(e1:c.er<=100000):
  Calls Tryz.prog 130 #[.agg (fq A1 A2 A3 A4 c1 c2 c3 c4 f),.agg (kkq 5 c),.int .i64 r] w (GotB [⟨Pl.ptC f c.lim c.fr,Pl.ptC f c.lim c.till,c.size+c.er,r⟩,⟨Pl.ptC f c.lim c.till,Pl.ptC f c.lim c.fr,-(c.size-c.er),r⟩] w):=by
 have hp1:=Lib.hid (ptC_eq h1 h2)
 have hp2:=Lib.hid (ptC_eq h3 h4)
 unfold Pl.inN at h1 h2
 obtain⟨a0,a1⟩:=h1
 obtain⟨b0,b1⟩:=h2
 unfold Pl.inN at h3 h4
 obtain⟨a2,a3⟩:=h3
 obtain⟨b2,b3⟩:=h4
 have u1:IntKind.i64.wrap (c.size-c.er)=c.size-c.er:=IntWalk.i64_in _ (by omega)
 have u2:IntKind.i64.wrap (c.size+c.er)=c.size+c.er:=IntWalk.i64_in _ (by omega)
 have kf:=(heap_alloc_new w (.cells (fq A1 A2 A3 A4 c1 c2 c3 c4 f) 28))
 have kc:=(heap_alloc_new (w.alloc (.cells (fq A1 A2 A3 A4 c1 c2 c3 c4 f) 28)) (.cells (kkq 5 c) 48))
 rw[World.size_alloc]at kc
 have kf:=(Below.heap_alloc _ (.cells (kkq 5 c) 48) _ (lO kf)).trans kf
 have l01:=ld_row kf Tryz.underlying28 rfl info_fld
 have l02:=ld_row kc Tryz.underlying48 rfl info_cal
 have hall:Below w.heap.size w ((w.alloc (.cells (fq A1 A2 A3 A4 c1 c2 c3 c4 f) 28)).alloc (.cells (kkq 5 c) 48)):=((Below.refl _ w).alloc (Nat.le_refl _) _).alloc (by simp) _
 go_enter Tryz.func130,Tryz.ntmps130
 go_wp2_with fail
 refine(point_b A1 A2 A3 A4 c1 c2 c3 c4 f c.lim c.fr _ (by omega) (by omega) (by omega) (by omega) (by omega)).mono ?_
 rintro e w1 ⟨rfl,hx⟩
 replace kf:=kE hx kf;replace kc:=kE hx kc;replace hall:Below w.heap.size w _:=hall.trans (hx.mono hall.size);(try clear l01 l02);have l01:=ld_row kf Tryz.underlying28 rfl info_fld;have l02:=ld_row kc Tryz.underlying48 rfl info_cal;(try clear hcf hff hcc hfc);obtain⟨hcf,hff⟩:=blk_cells kf;obtain⟨hcc,hfc⟩:=blk_cells kc;clear hx
 go_wp2_with fail
 refine(point_b A1 A2 A3 A4 c1 c2 c3 c4 f c.lim c.till _ (by omega) (by omega) (by omega) (by omega) (by omega)).mono ?_
 rintro e w2 ⟨rfl,hx⟩
 replace kf:=kE hx kf;replace kc:=kE hx kc;replace hall:Below w.heap.size w _:=hall.trans (hx.mono hall.size);(try clear l01 l02);have l01:=ld_row kf Tryz.underlying28 rfl info_fld;have l02:=ld_row kc Tryz.underlying48 rfl info_cal;(try clear hcf hff hcc hfc);obtain⟨hcf,hff⟩:=blk_cells kf;obtain⟨hcc,hfc⟩:=blk_cells kc;clear hx
 go_wp2_with fail
 refine(pair_b _ _ (c.size-c.er) (c.size+c.er) r (Pl.ptC f c.lim c.fr) (Pl.ptC f c.lim c.till) _ hp1.out hp2.out (by omega) (by omega)).mono ?_
 rintro e w3 ⟨A,k,rfl,hS',hx⟩
 replace hall:Below w.heap.size w w3:=hall.trans (hx.mono hall.size)
 go_wp2_with fail
 go_ret
 exact⟨A,k,rfl,hS',hall⟩
set_option maxHeartbeats 4000000 in
theorem boundsB_3 (c:Pl.Cal)(r:Int)(w:World)(hS:f.st.length<=1000)(hL:f.li.length<=1000)(h1:Pl.inN c.lim f.li.length)(h2:Pl.inN c.fr f.st.length)(h4:Pl.inN c.till f.st.length)(s0:c.size=0)(e0:c.er=0)
  (x:Int) (hX: ∀W,Below w.heap.size w W->Calls Tryz.prog 140 #[.agg (fq A1 A2 A3 A4 c1 c2 c3 c4 f),.agg (kkq 3 c)] W fun e w'=>e=.returned (.int .i64 x)∧Below W.heap.size W w')
  (lo hi E:Int) (ok:Bool) (hI: ∀W,Below w.heap.size w W->Calls Tryz.prog 187 #[.slice A4 f.va.length c4,.agg (cq c.crs),.int .i64 x] W fun e w'=>e=.returned (.tuple #[.int .i64 lo,.int .i64 hi,.bool ok,.int .i64 E])∧Below W.heap.size W w')
  (l0: -100000<=lo) (l1:lo<=100000):
  Calls Tryz.prog 130 #[.agg (fq A1 A2 A3 A4 c1 c2 c3 c4 f),.agg (kkq 3 c),.int .i64 r] w (GotB [⟨Pl.ptC f c.lim c.fr,Pl.ptC f c.lim c.till,hi,r⟩,⟨Pl.ptC f c.lim c.till,Pl.ptC f c.lim c.fr,-lo,r⟩] w):=by
 have hp1:=Lib.hid (ptC_eq h1 h2)
 have hp2:=Lib.hid (ptC_eq h1 h4)
 unfold Pl.inN at h1 h2 h4
 obtain⟨a0,a1⟩:=h1
 obtain⟨b0,b1⟩:=h2
 obtain⟨b2,b3⟩:=h4
 have u1:IntKind.i64.wrap (c.size-c.er)=c.size-c.er:=IntWalk.i64_in _ (by omega)
 have u2:IntKind.i64.wrap (c.size+c.er)=c.size+c.er:=IntWalk.i64_in _ (by omega)
 clear s0 e0
 have kf:=(heap_alloc_new w (.cells (fq A1 A2 A3 A4 c1 c2 c3 c4 f) 28))
 have kc:=(heap_alloc_new (w.alloc (.cells (fq A1 A2 A3 A4 c1 c2 c3 c4 f) 28)) (.cells (kkq 3 c) 48))
 rw[World.size_alloc]at kc
 have kf:=(Below.heap_alloc _ (.cells (kkq 3 c) 48) _ (lO kf)).trans kf
 have l01:=ld_row kf Tryz.underlying28 rfl info_fld
 have l02:=ld_row kc Tryz.underlying48 rfl info_cal
 have hall:Below w.heap.size w ((w.alloc (.cells (fq A1 A2 A3 A4 c1 c2 c3 c4 f) 28)).alloc (.cells (kkq 3 c) 48)):=((Below.refl _ w).alloc (Nat.le_refl _) _).alloc (by simp) _
 go_enter Tryz.func130,Tryz.ntmps130
 go_wp2_with fail
 refine(point_b A1 A2 A3 A4 c1 c2 c3 c4 f c.lim c.fr _ (by omega) (by omega) (by omega) (by omega) (by omega)).mono ?_
 rintro e w1 ⟨rfl,hx⟩
 replace kf:=kE hx kf;replace kc:=kE hx kc;replace hall:Below w.heap.size w _:=hall.trans (hx.mono hall.size);(try clear l01 l02);have l01:=ld_row kf Tryz.underlying28 rfl info_fld;have l02:=ld_row kc Tryz.underlying48 rfl info_cal;(try clear hcf hff hcc hfc);obtain⟨hcf,hff⟩:=blk_cells kf;obtain⟨hcc,hfc⟩:=blk_cells kc;clear hx
 go_wp2_with fail
 clear hcf hff hcc hfc
 go_region_held3 (fun W=>(loadVar 26 ⟨w.heap.size,3,none⟩).run Tryz.prog W=.ok (.slice A4 f.va.length c4) W∧(loadVar 46 ⟨w.heap.size+1,7,none⟩).run Tryz.prog W=.ok (.agg (cq c.crs)) W∧(loadVar 28 ⟨w.heap.size,0,none⟩).run Tryz.prog W=.ok (.agg (fq A1 A2 A3 A4 c1 c2 c3 c4 f)) W∧(loadVar 48 ⟨w.heap.size+1,0,none⟩).run Tryz.prog W=.ok (.agg (kkq 3 c)) W) (first|exact sd_of A1 A2 A3 A4 c1 c2 c3 c4 f kf5 kc5|exact sd_of A1 A2 A3 A4 c1 c2 c3 c4 f kf4 kc4|exact sd_of A1 A2 A3 A4 c1 c2 c3 c4 f kf kc) (first
  |(go_at_call 140;refine(hX _ hall.drew).mono ?_;rintro e w4 ⟨rfl,hx⟩;have kf4:=(hx.block w.heap.size (lO kf)).trans kf;have kc4:=(hx.block (w.heap.size+1) (lO kc)).trans kc;have hall4:Below w.heap.size w w4:=hall.drew.trans (hx.mono hall.size);clear hx)
  |(go_at_call 187;refine(hI _ hall4).mono ?_;rintro e w5 ⟨rfl,hx⟩;have kf5:=(hx.block w.heap.size (lO kf4)).trans kf4;have kc5:=(hx.block (w.heap.size+1) (lO kc4)).trans kc4;have hall5:Below w.heap.size w w5:=hall4.trans (hx.mono hall4.size);clear hx))
 all_goals clear hX hI
 all_goals replace kf:=kf5
 all_goals replace kc:=kc5
 all_goals replace hall:=hall5
 all_goals (try clear kf4 kc4 hall4)
 all_goals clear kf5 kc5 hall5
 all_goals obtain⟨hcf,hff⟩:=blk_cells kf
 all_goals obtain⟨hcc,hfc⟩:=blk_cells kc
 all_goals (try clear l01 l02)
 all_goals have l01:=ld_row kf Tryz.underlying28 rfl info_fld
 all_goals have l02:=ld_row kc Tryz.underlying48 rfl info_cal
 all_goals
  go_wp2_with fail
  refine(point_b A1 A2 A3 A4 c1 c2 c3 c4 f c.lim c.till _ (by omega) (by omega) (by omega) (by omega) (by omega)).mono ?_
  rintro e w6 ⟨rfl,hx⟩
  replace kf:=kE hx kf;replace kc:=kE hx kc;replace hall:Below w.heap.size w _:=hall.trans (hx.mono hall.size);(try clear l01 l02);have l01:=ld_row kf Tryz.underlying28 rfl info_fld;have l02:=ld_row kc Tryz.underlying48 rfl info_cal;(try clear hcf hff hcc hfc);obtain⟨hcf,hff⟩:=blk_cells kf;obtain⟨hcc,hfc⟩:=blk_cells kc;clear hx
  go_wp2_with fail
  refine(pair_b _ _ lo hi r (Pl.ptC f c.lim c.fr) (Pl.ptC f c.lim c.till) _ hp1.out hp2.out (by omega) (by omega)).mono ?_
  rintro e w7 ⟨A,k,rfl,hS',hx⟩
  replace hall:Below w.heap.size w w7:=hall.trans (hx.mono hall.size)
  go_wp2_with fail
  go_ret
  exact⟨A,k,rfl,hS',hall⟩
end Go.Proofs.YtgbpekeoegfjpaaGreatDoor
namespace Go.Proofs.YtgbpekeoegfjpaaGreatDoor
variable (A1 A2 A3 A4 : Option Addr) (c1 c2 c3 c4 : Nat) (f : Pl.Fld)
theorem Pl.tabF_oth {S L:Nat}{c:Pl.Cal}(h:c.tab S L)(_hk:c.kind=2∨c.kind=4):Pl.inN c.oth L:=by
 obtain⟨h1,_,h⟩:=h
 unfold inN at*
 rcases h with h|h|h|h|h<;>omega
theorem Pl.tabF_far {S L:Nat}{c:Pl.Cal}(h:c.tab S L)(_hk:c.kind=3∨c.kind=4∨c.kind=5):Pl.inN c.till S:=by
 obtain⟨_,h1,h⟩:=h
 unfold inN at*
 rcases h with h|h|h|h|h<;>omega
theorem Pl.tab_five {S L:Nat}{c:Pl.Cal}(h:c.tab S L):c.kind=1∨c.kind=2∨c.kind=3∨c.kind=4∨c.kind=5:=by
 obtain⟨_,_,h⟩:=h
 rcases h with h|h|h|h|h<;>omega
end Go.Proofs.YtgbpekeoegfjpaaGreatDoor
namespace Go.Proofs.YtgbpekeoegfjpaaGreatDoor
open Go.RowKit Go.Deep
variable (A1 A2 A3 A4 : Option Addr) (c1 c2 c3 c4 : Nat) (f : Pl.Fld)
attribute [-go_sem] run_equalIn_agg storeVar loadVar Builtin.append_
attribute [local go_sem] lv_int lv_bool lv_u8 lv_string lv_strings lv_stas lv_pars lv_vars
def Pl.alongR (f:Pl.Fld)(c:Pl.Cal)(r:Int)(k:Nat):List Pl.Bd:=(List.range k).flatMap fun j:Nat=>[⟨Pl.ptC f c.lim (c.fr+j),Pl.ptC f c.oth (c.fr+j),0,r⟩,⟨Pl.ptC f c.oth (c.fr+j),Pl.ptC f c.lim (c.fr+j),-0,r⟩]
theorem Pl.alongR_succ (f:Pl.Fld)(c:Pl.Cal)(r:Int)(k:Nat):Pl.alongR f c r (k+1)=Pl.alongR f c r k++[⟨Pl.ptC f c.lim (c.fr+k),Pl.ptC f c.oth (c.fr+k),0,r⟩,⟨Pl.ptC f c.oth (c.fr+k),Pl.ptC f c.lim (c.fr+k),-0,r⟩]:=by
 unfold Pl.alongR
 rw[List.range_succ,List.flatMap_append]
 simp
theorem Pl.alongR_all {f:Pl.Fld}{c:Pl.Cal}{r:Int}(hk:c.kind=4):Pl.boundsC f c r=Pl.alongR f c r (c.till-c.fr+1).toNat:=by
 unfold Pl.boundsC Pl.alongR Pl.spans
 simp only[hk]
 rw[List.flatMap_map]
 rfl
theorem se_of {c:Pl.Cal}{g:Nat}{W:World}(kf:W.heap[g]?=some (.cells (fq A1 A2 A3 A4 c1 c2 c3 c4 f) 28 (0,0)))(kc:W.heap[g+1]?=some (.cells (kkq 4 c) 48 (0,0))):
  (loadVar 28 ⟨g,0,none⟩).run Tryz.prog W=.ok (.agg (fq A1 A2 A3 A4 c1 c2 c3 c4 f)) W∧W.cell? ⟨g+1,1,none⟩=some (.int .i64 c.lim)∧W.cell? ⟨g+1,2,none⟩=some (.int .i64 c.oth):=by
 obtain⟨hc,_⟩:=blk_cells kc
 exact⟨ld_row kf Tryz.underlying28 rfl info_fld,hc 1,hc 2⟩
set_option maxHeartbeats 8000000 in
theorem boundsB_4 (c:Pl.Cal)(r:Int)(w:World)(hk4:c.kind=4)(hS:f.st.length<=1000)(hL:f.li.length<=1000)(h1:Pl.inN c.lim f.li.length)(h2:Pl.inN c.fr f.st.length)(h3:Pl.inN c.oth f.li.length)(h4:Pl.inN c.till f.st.length)(s0: -100000<=c.size)(s1:c.size<=100000)(e0:0<=c.er)(e1:c.er<=100000)(hlt:c.fr<c.till):
  Calls Tryz.prog 130 #[.agg (fq A1 A2 A3 A4 c1 c2 c3 c4 f),.agg (kkq 4 c),.int .i64 r] w (GotB (Pl.boundsC f c r) w):=by
 have HB:=Lib.hid (Pl.alongR_all (f:=f) (r:=r) hk4)
 have HQ:=Lib.hid (fun(s:Int) (hs:Pl.inN s f.st.length)=>And.intro (ptC_eq h1 hs) (ptC_eq h3 hs))
 clear hk4
 unfold Pl.inN at h1 h2 h3 h4
 obtain⟨a0,a1⟩:=h1
 obtain⟨b0,b1⟩:=h2
 obtain⟨a2,a3⟩:=h3
 obtain⟨b2,b3⟩:=h4
 have u1:IntKind.i64.wrap (c.size-c.er)=c.size-c.er:=IntWalk.i64_in _ (by omega)
 have u2:IntKind.i64.wrap (c.size+c.er)=c.size+c.er:=IntWalk.i64_in _ (by omega)
 obtain⟨n,hn⟩: ∃n,(c.till-c.fr+1).toNat=n:=⟨_,rfl⟩
 have HN:=Lib.hid hn
 have hn0:(n:Int)=c.till-c.fr+1:=by omega
 have hn1:n<=1000:=by omega
 clear hn
 have kf:=(heap_alloc_new w (.cells (fq A1 A2 A3 A4 c1 c2 c3 c4 f) 28))
 have kc:=(heap_alloc_new (w.alloc (.cells (fq A1 A2 A3 A4 c1 c2 c3 c4 f) 28)) (.cells (kkq 4 c) 48))
 rw[World.size_alloc]at kc
 have kf:=(Below.heap_alloc _ (.cells (kkq 4 c) 48) _ (lO kf)).trans kf
 have l01:=ld_row kf Tryz.underlying28 rfl info_fld
 have l02:=ld_row kc Tryz.underlying48 rfl info_cal
 have hall:Below w.heap.size w ((w.alloc (.cells (fq A1 A2 A3 A4 c1 c2 c3 c4 f) 28)).alloc (.cells (kkq 4 c) 48)):=((Below.refl _ w).alloc (Nat.le_refl _) _).alloc (by simp) _
 go_enter Tryz.func130,Tryz.ntmps130
 go_wp2_with fail
 refine(point_b A1 A2 A3 A4 c1 c2 c3 c4 f c.lim c.fr _ (by omega) (by omega) (by omega) (by omega) (by omega)).mono ?_
 rintro e w1 ⟨rfl,hx⟩
 replace kf:=kE hx kf;replace kc:=kE hx kc;replace hall:Below w.heap.size w _:=hall.trans (hx.mono hall.size);(try clear l01 l02);have l01:=ld_row kf Tryz.underlying28 rfl info_fld;have l02:=ld_row kc Tryz.underlying48 rfl info_cal;(try clear hcf hff hcc hfc);obtain⟨hcf,hff⟩:=blk_cells kf;obtain⟨hcc,hfc⟩:=blk_cells kc;clear hx
 go_wp2_with fail
 go_loopw [14,15] (fun o i wr=> ∃(k:Nat),k<=n∧i=.int .i64 (c.fr+(k:Int))∧wr.ownsRow (w.heap.size+2) 99 4 o (2*k) ((Pl.alongR f c r k).flatMap encBd)∧wr.heap[w.heap.size]?=some (.cells (fq A1 A2 A3 A4 c1 c2 c3 c4 f) 28 (0,0))∧wr.heap[w.heap.size+1]?=some (.cells (kkq 4 c) 48 (0,0))∧Below w.heap.size w wr) (fun _ i _=>(c.till+1-intOf i).toNat)
 case atStart=>exact⟨0,by omega,by simp,World.ownsRow_nil _ _ _ _,kf,kc,hall⟩
 case round=>
  clear kf kc hcf hff hcc hfc hall l01 l02
  obtain⟨k,hk,rfl,hown,kf,kc,hall⟩:=hrel
  obtain⟨hcf,hff⟩:=blk_cells kf
  obtain⟨hcc,hfc⟩:=blk_cells kc
  have hltc:=(lO kc)
  have e2:IntKind.i64.wrap (c.fr+(k:Int)+1)=c.fr+(k:Int)+1:=IntWalk.i64_in _ (by omega)
  by_cases hkn:k<n
  ·have e3:c.fr+(k:Int)<=c.till:=by omega
   have hp:=Lib.hid (HQ.out (c.fr+(k:Int)) ⟨by omega,by omega⟩)
   have hq1:=fun W=>point_b A1 A2 A3 A4 c1 c2 c3 c4 f c.lim (c.fr+(k:Int)) W (by omega) (by omega) (by omega) (by omega) (by omega)
   have hq2:=fun W=>point_b A1 A2 A3 A4 c1 c2 c3 c4 f c.oth (c.fr+(k:Int)) W (by omega) (by omega) (by omega) (by omega) (by omega)
   have hq3:=fun W=>pair_b (1+c.lim*f.st.length+(c.fr+(k:Int))) (1+c.oth*f.st.length+(c.fr+(k:Int))) 0 0 r (Pl.ptC f c.lim (c.fr+k)) (Pl.ptC f c.oth (c.fr+k)) W hp.out.1 hp.out.2 (by decide) (by decide)
   have hq4:=Lib.hid fun(W:World) (hW:Below wr.heap.size wr W) (A:Option Addr) (cp:Nat) (hs:Bds W W.heap.size A [⟨Pl.ptC f c.lim (c.fr+k),Pl.ptC f c.oth (c.fr+k),0,r⟩,⟨Pl.ptC f c.oth (c.fr+k),Pl.ptC f c.lim (c.fr+k),-0,r⟩])=>own_app_seg lay_bd (own_below hown hW) A cp _ hs (by unfold maxLen;simp;omega) (by simp;omega) (Nat.le_trans hltc hW.size)
   clear hown HQ hp
   go_wp2_with fail
   clear hcf hff hcc hfc
   go_region_held3 (fun W=>(loadVar 28 ⟨w.heap.size,0,none⟩).run Tryz.prog W=.ok (.agg (fq A1 A2 A3 A4 c1 c2 c3 c4 f)) W∧W.cell? ⟨w.heap.size+1,1,none⟩=some (.int .i64 c.lim)∧W.cell? ⟨w.heap.size+1,2,none⟩=some (.int .i64 c.oth)) (first|exact se_of A1 A2 A3 A4 c1 c2 c3 c4 f kf7 kc7|exact se_of A1 A2 A3 A4 c1 c2 c3 c4 f kf6 kc6|exact se_of A1 A2 A3 A4 c1 c2 c3 c4 f kf5 kc5|exact se_of A1 A2 A3 A4 c1 c2 c3 c4 f kf4 kc4|exact se_of A1 A2 A3 A4 c1 c2 c3 c4 f kf kc) (first
    |(go_at_call 111;refine(hq1 _).mono ?_;rintro e w4 ⟨rfl,hx⟩;have kf4:=(hx.block w.heap.size (lO kf)).trans kf;have kc4:=(hx.block (w.heap.size+1) (lO kc)).trans kc;have h04:Below wr.heap.size wr w4:=Below.trans (by go_grown) (hx.mono (by go_size));clear hx hq1)
    |(go_at_call 111;refine(hq2 _).mono ?_;rintro e w5 ⟨rfl,hx⟩;have kf5:=(hx.block w.heap.size (lO kf4)).trans kf4;have kc5:=(hx.block (w.heap.size+1) (lO kc4)).trans kc4;have h05:Below wr.heap.size wr w5:=h04.trans (hx.mono h04.size);clear hx)
    |(go_at_call 188;refine(hq3 _).mono ?_;rintro e w6 ⟨A,cp,rfl,hS',hx⟩;have kf6:=(hx.block w.heap.size (lO kf5)).trans kf5;have kc6:=(hx.block (w.heap.size+1) (lO kc5)).trans kc5;have h06:Below wr.heap.size wr w6:=h05.trans (hx.mono h05.size);clear hx;obtain⟨v',w7,hrun,hown7,hb7⟩:=hq4.out w6 h06 A cp hS';simp only[List.length_cons,List.length_nil,Nat.reduceAdd,Nat.zero_add]at hrun hown7;have kf7:=(hb7.block w.heap.size (by omega)).trans kf6;have kc7:=(hb7.block (w.heap.size+1) (by omega)).trans kc6))
   all_goals go_wp2_with fail
   all_goals exact⟨⟨k+1,by omega,by simp;omega,by rw[Pl.alongR_succ];exact hown7,kf7,kc7,hall.trans ((h06.mono hall.size).trans (hb7.mono (by omega)))⟩,by simp[intOf];omega⟩
  ·obtain rfl:k=n:=by omega
   have e3: ¬c.fr+(k:Int)<=c.till:=by omega
   have hnat:Hid (Pl.alongR f c r k=Pl.boundsC f c r):=Lib.hid (by rw[HB.out,HN.out])
   rw[hnat.out]at hown
   obtain hcount:=own_count lay_bd hown
   rw[hcount]at hown
   obtain⟨A',c',hv,hN,hc',hF⟩:=own_seg lay_bd hown
   subst hv
   go_wp2_with fail
   go_ret
   exact⟨A',c',rfl,hN,hall⟩
theorem boundsB_a (c:Pl.Cal)(r:Int)(w:World)(hf:FldS w w.heap.size A1 A2 A3 A4 f)(hm:Small f)(_hc:Caps c1 c2 c3 c4 f)(hF:Pl.fieldE f=0)(hC:Pl.callE f c=0):
  Calls Tryz.prog 130 #[.agg (fq A1 A2 A3 A4 c1 c2 c3 c4 f),.agg (kq c),.int .i64 r] w (GotB (Pl.boundsC f c r) w):=by
 have hok:=Pl.fieldE_ok hF
 have hS:=hok.st12
 have hL:=hok.li10
 have ht:=Pl.callE_tab hC
 have ht3:=ht.2.2
 rcases Pl.tab_five ht with hk|hk|hk|hk|hk
 ·rw[show(c.kind:Int)=(1:Int) by omega]
  have e:Pl.boundsC f c r=[⟨0,Pl.ptC f c.lim c.fr,c.size+c.er,r⟩,⟨Pl.ptC f c.lim c.fr,0,-(c.size-c.er),r⟩]:=by unfold Pl.boundsC Pl.spans;simp only[hk];rfl
  rw[e]
  exact boundsB_1 A1 A2 A3 A4 c1 c2 c3 c4 f c r w (by omega) (by omega) ht.1 ht.2.1 (by omega) (by omega) (by omega) (by omega)
 ·rw[show(c.kind:Int)=(2:Int) by omega]
  have e:Pl.boundsC f c r=[⟨Pl.ptC f c.lim c.fr,Pl.ptC f c.oth c.fr,c.size+c.er,r⟩,⟨Pl.ptC f c.oth c.fr,Pl.ptC f c.lim c.fr,-(c.size-c.er),r⟩]:=by unfold Pl.boundsC Pl.spans;simp only[hk];rfl
  rw[e]
  exact boundsB_2 A1 A2 A3 A4 c1 c2 c3 c4 f c r w (by omega) (by omega) ht.1 ht.2.1 (Pl.tabF_oth ht (.inl hk)) ht.2.1 (by omega) (by omega) (by omega) (by omega)
 ·rw[show(c.kind:Int)=(3:Int) by omega]
  have e:Pl.boundsC f c r=[⟨Pl.ptC f c.lim c.fr,Pl.ptC f c.lim c.till,(Pl.com f.va [c.crs] (Pl.runC f.st c)).2.1,r⟩,⟨Pl.ptC f c.lim c.till,Pl.ptC f c.lim c.fr,-(Pl.com f.va [c.crs] (Pl.runC f.st c)).1,r⟩]:=by unfold Pl.boundsC Pl.spans;simp only[hk];rfl
  rw[e]
  have hb:=Pl.com_one_bd f.va c.crs (Pl.runC f.st c)
  exact boundsB_3 A1 A2 A3 A4 c1 c2 c3 c4 f c r w (by omega) (by omega) ht.1 ht.2.1 (Pl.tabF_far ht (.inl hk)) (by omega) (by omega) (Pl.runC f.st c)
   (fun W hW=>run_b A1 A2 A3 A4 c1 c2 c3 c4 f 3 c W (hf.up hW).st (by omega) ht.2.1 (Pl.tab_till ht hk) hok.x) _ _ _ _
   (fun W hW=>Interval_b A4 c4 f.va c.crs (Pl.runC f.st c) W (hf.up hW).va (by have:=hm.va;unfold maxLen;omega)) (by omega) (by omega)
 ·rw[show(c.kind:Int)=(4:Int) by omega]
  exact boundsB_4 A1 A2 A3 A4 c1 c2 c3 c4 f c r w hk (by omega) (by omega) ht.1 ht.2.1 (Pl.tabF_oth ht (.inr hk)) (Pl.tabF_far ht (.inr (.inl hk))) (by omega) (by omega) (by omega) (by omega) (by omega)
 ·rw[show(c.kind:Int)=(5:Int) by omega]
  have e:Pl.boundsC f c r=[⟨Pl.ptC f c.lim c.fr,Pl.ptC f c.lim c.till,c.size+c.er,r⟩,⟨Pl.ptC f c.lim c.till,Pl.ptC f c.lim c.fr,-(c.size-c.er),r⟩]:=by unfold Pl.boundsC Pl.spans;simp only[hk];rfl
  rw[e]
  exact boundsB_5 A1 A2 A3 A4 c1 c2 c3 c4 f c r w (by omega) (by omega) ht.1 ht.2.1 ht.1 (Pl.tabF_far ht (.inr (.inr hk))) (by omega) (by omega) (by omega) (by omega)
def GotBE (l:List Pl.Bd)(E:Int)(w:World)(e:Ending)(w':World):Prop:= ∃A c,e=.returned (.tuple #[.slice A l.length c,.int .i64 E])∧Bds w' w'.heap.size A l∧Below w.heap.size w w'
set_option maxHeartbeats 2000000 in
theorem BoundsB_h (c:Pl.Cal)(r:Int)(L:List Pl.Bd)(E:Int)(w:World)(hLL:Hid (Pl.boundsV f c r=L))(hE:Hid (Pl.boundsE f c r=E))(hf:FldS w w.heap.size A1 A2 A3 A4 f)(hm:Small f)(hc:Caps c1 c2 c3 c4 f):
  Calls Tryz.prog 63 #[.agg (fq A1 A2 A3 A4 c1 c2 c3 c4 f),.agg (kq c),.int .i64 r] w (GotBE L E w):=by
 have kf:=(heap_alloc_new w (.cells (fq A1 A2 A3 A4 c1 c2 c3 c4 f) 28))
 have kc:=(heap_alloc_new (w.alloc (.cells (fq A1 A2 A3 A4 c1 c2 c3 c4 f) 28)) (.cells (kq c) 48))
 rw[World.size_alloc]at kc
 have kf:=(Below.heap_alloc _ (.cells (kq c) 48) _ (lO kf)).trans kf
 have l01:=ld_row kf Tryz.underlying28 rfl info_fld
 have l02:=ld_row kc Tryz.underlying48 rfl info_cal
 have hall:Below w.heap.size w ((w.alloc (.cells (fq A1 A2 A3 A4 c1 c2 c3 c4 f) 28)).alloc (.cells (kq c) 48)):=((Below.refl _ w).alloc (Nat.le_refl _) _).alloc (by simp) _
 obtain⟨F,hF⟩: ∃F,Pl.checkCallE f c=F:=⟨_,rfl⟩
 have HF:=Lib.hid hF
 by_cases h0:F=0
 ·subst h0
  obtain⟨hok,_⟩:=tab_of hF
  have hFE:Pl.fieldE f=0:=by
   have:=hF
   unfold Pl.checkCallE at this
   split at this
   ·assumption
   ·exact absurd this ‹_›
  have hCE:Pl.callE f c=0:=by
   have:=hF
   unfold Pl.checkCallE at this
   rwa[if_pos hFE]at this
  have hin:=fun W=>within_b r 0 1000000 W
  cases hI:Pl.inB r 0 1000000 with
  |false=>
   have HE:Hid (E=1):=Lib.hid (by rw[<-hE.out];unfold Pl.boundsE;rw[if_pos hF,if_neg (by rw[hI];decide)])
   have HL:Hid (L=[]):=Lib.hid (by rw[<-hLL.out];unfold Pl.boundsV;rw[if_neg];rw[hE.out,HE.out];decide)
   rw[hI]at hin
   clear hI hFE hCE hok hF hE hLL
   go_enter Tryz.func63,Tryz.ntmps63
   go_wp2_with fail
   refine(checkCallB_h A1 A2 A3 A4 c1 c2 c3 c4 f c 0 _ HF (hf.up hall) hm hc).mono ?_
   rintro e w1 ⟨rfl,hx⟩
   replace kf:=kE hx kf;replace kc:=kE hx kc;replace hall:Below w.heap.size w _:=hall.trans (hx.mono hall.size);(try clear l01 l02);have l01:=ld_row kf Tryz.underlying28 rfl info_fld;have l02:=ld_row kc Tryz.underlying48 rfl info_cal;(try clear hcf hff hcc hfc);obtain⟨hcf,hff⟩:=blk_cells kf;obtain⟨hcc,hfc⟩:=blk_cells kc;clear hx
   go_wp2_with fail
   refine(hin _).mono ?_
   rintro e w2 ⟨rfl,rfl⟩
   go_wp2_with fail
   go_ret2
   rw[HE.out,HL.out]
   exact⟨none,0,rfl,.inl rfl,hall⟩
  |true=>
   have HE:Hid (E=0):=Lib.hid (by rw[<-hE.out];unfold Pl.boundsE;rw[if_pos hF,if_pos hI])
   have HL:Hid (L=Pl.boundsC f c r):=Lib.hid (by rw[<-hLL.out];unfold Pl.boundsV;rw[if_pos (by rw[hE.out,HE.out])])
   rw[hI]at hin
   have hbd:=fun W (hW:FldS W W.heap.size A1 A2 A3 A4 f)=>boundsB_a A1 A2 A3 A4 c1 c2 c3 c4 f c r W hW hm hc hFE hCE
   clear hI hFE hCE hok hF hE hLL
   go_enter Tryz.func63,Tryz.ntmps63
   go_wp2_with fail
   refine(checkCallB_h A1 A2 A3 A4 c1 c2 c3 c4 f c 0 _ HF (hf.up hall) hm hc).mono ?_
   rintro e w1 ⟨rfl,hx⟩
   replace kf:=kE hx kf;replace kc:=kE hx kc;replace hall:Below w.heap.size w _:=hall.trans (hx.mono hall.size);(try clear l01 l02);have l01:=ld_row kf Tryz.underlying28 rfl info_fld;have l02:=ld_row kc Tryz.underlying48 rfl info_cal;(try clear hcf hff hcc hfc);obtain⟨hcf,hff⟩:=blk_cells kf;obtain⟨hcc,hfc⟩:=blk_cells kc;clear hx
   go_wp2_with fail
   refine(hin _).mono ?_
   rintro e w2 ⟨rfl,rfl⟩
   go_wp2_with fail
   refine(hbd _ (hf.up hall)).mono ?_
   rintro e w3 ⟨A,k,rfl,hS',hx⟩
   replace hall:Below w.heap.size w w3:=hall.trans (hx.mono hall.size)
   go_wp2_with fail
   go_ret2
   rw[HE.out,HL.out]
   exact⟨A,k,rfl,hS',hall⟩
 ·have q0:(F !=0)=true:=by simpa using h0
  have HE:Hid (E=F):=Lib.hid (by rw[<-hE.out];unfold Pl.boundsE;rw[hF,if_neg h0])
  have HL:Hid (L=[]):=Lib.hid (by rw[<-hLL.out];unfold Pl.boundsV;rw[if_neg];rw[hE.out,HE.out];exact h0)
  clear hF hE hLL
  go_enter Tryz.func63,Tryz.ntmps63
  go_wp2_with fail
  refine(checkCallB_h A1 A2 A3 A4 c1 c2 c3 c4 f c F _ HF (hf.up hall) hm hc).mono ?_
  rintro e w1 ⟨rfl,hx⟩
  replace kf:=kE hx kf;replace kc:=kE hx kc;replace hall:Below w.heap.size w _:=hall.trans (hx.mono hall.size);(try clear l01 l02);have l01:=ld_row kf Tryz.underlying28 rfl info_fld;have l02:=ld_row kc Tryz.underlying48 rfl info_cal;(try clear hcf hff hcc hfc);obtain⟨hcf,hff⟩:=blk_cells kf;obtain⟨hcc,hfc⟩:=blk_cells kc;clear hx
  go_wp2_with fail
  go_ret2
  rw[HE.out,HL.out]
  exact⟨none,0,rfl,.inl rfl,hall⟩
end Go.Proofs.YtgbpekeoegfjpaaGreatDoor
