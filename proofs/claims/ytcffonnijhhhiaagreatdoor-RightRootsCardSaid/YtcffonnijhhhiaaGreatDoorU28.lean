/- Part U28 of the proof: Py Ry. -/
import Derived.Test.YtcffonnijhhhiaaGreatDoorProg
import Derived.WalkKit
import Derived.WalkLawsBesides
import Derived.WalkSpells
import Derived.Handy
import Derived.Lib.Hide
import Derived.Great.BuildSlice
import Derived.Deep.QuietTactic
import Derived.BigQuiet
import Derived.Deep.RegionHeld3
import Derived.Deep.DeepCutAuto
import Derived.Test.YtcffonnijhhhiaaGreatDoorU26
import Derived.Test.YtcffonnijhhhiaaGreatDoorU23
import Derived.Test.YtcffonnijhhhiaaGreatDoorU27
import Derived.Test.YtcffonnijhhhiaaGreatDoorU21
set_option linter.all false
set_option linter.unusedSimpArgs false
set_option linter.unusedVariables false
set_option linter.unusedSectionVars false
namespace Go.Proofs.Rt
theorem Few.part {r:Roll}(h:Few r)(n:Int):Few (partR r n):=
 ⟨Nat.le_trans (List.length_filter_le _ _) h.lots,Nat.le_trans (List.length_filter_le _ _) h.eases,Nat.le_trans (List.length_filter_le _ _) h.stints,fun p hp=>h.held p (List.mem_filter.1 hp).1⟩
end Go.Proofs.Rt
namespace Go.Proofs.YtcffonnijhhhiaaGreatDoor
open Go Go.RowKit Go.Maps Mp
attribute [-simp] Prod.forall Prod.exists
attribute [-go_sem] loadVar storeVar Builtin.append_
attribute [local go_sem] lk_int lk_sL lk_sE lk_sS
def EndPa (w:World)(r:Rt.Roll)(e:Ending)(w':World):Prop:= ∃A1 c1 A2 c2 A3 c3 L,e=.returned (.agg (rowR r A1 A2 A3 c1 c2 c3))∧Rol w' w'.heap.size A1 A2 A3 L r∧Below w.heap.size w w'
theorem Seg.grown1 {α:Type}{enc:α→List Value}{size B b:Nat}{w w':World}{A:Option Addr}{l:List α}(h:Seg enc size w B A l)(g:w.grownBy w' (some b))(hne: ∀a,A=some a→a.block≠b):Seg enc size w' B A l:=by
 rcases h with h|⟨i,off,hA,hb,hc⟩
 ·exact .inl h
 ·exact .inr ⟨i,off,hA,hb,fun k x hx j v hv=>g.cell (hc k x hx j v hv) (by have:=hne _ hA;simpa using this)⟩
theorem grown_from {X V V' : World} {A : Option Addr} (h : Below X.heap.size X V) (g : V.grownBy V' (A.map (·.block))) (hf : From X.heap.size A) : Below X.heap.size X V' :=
 h.grown g h.size (fun k e=>by
  cases A with
  |none=>cases e
  |some a=>cases e;exact hf a rfl)
theorem cutL_a {W0 X V:World}{nb:Nat}{n:Int}(hn:W0.heap[nb]?=some (.cells #[.int .i64 n] 3 (0,0)))(A:Option Addr)(c:Nat)(l:List Lp)(hX:Below W0.heap.size W0 X)(hV:Below X.heap.size X V)(hs:Seg encL 3 V V.heap.size A l)(hm:l.length≤3000000000000)(hc:l.length≤c)(hf:From X.heap.size A)(hk: ∀a,A=some a→ ∃cs,V.heap[a.block]?=some (.cells cs 54 (0,0))):
  Calls Tryz.prog 193 #[.slice A l.length c,.func (.func 195) #[] #[.pointer (some ⟨nb,0,none⟩)]] V fun e w'=>e=.returned (.slice A (l.filter fun x=> !(!(x.x.number==n))).length c)∧Seg encL 3 w' w'.heap.size A (l.filter fun x=> !(!(x.x.number==n)))∧Below X.heap.size X w':=by
 have hnl:=(Array.getElem?_eq_some_iff.1 hn).1
 refine(delF_L A c l 195 #[.pointer (some ⟨nb,0,none⟩)] (fun x=> !(x.x.number==n)) V hs hm hc hk (enters_of Tryz.func195 (by kernel_rfl) rfl) (fun x _ U hU=>part1_a x n nb U ?_)).mono ?_
 ·exact((hX.trans ((grown_from hV hU hf).mono hX.size)).block _ hnl).trans hn
 ·rintro e w' ⟨rfl,h1,h2,_⟩
  exact⟨rfl,h1,grown_from hV h2 hf⟩
theorem cutE_a {W0 X V:World}{nb:Nat}{n:Int}(hn:W0.heap[nb]?=some (.cells #[.int .i64 n] 3 (0,0)))(A:Option Addr)(c:Nat)(l:List Rt.Ease)(hX:Below W0.heap.size W0 X)(hV:Below X.heap.size X V)(hs:Seg encE 3 V V.heap.size A l)(hm:l.length≤3000000000000)(hc:l.length≤c)(hf:From X.heap.size A)(hk: ∀a,A=some a→ ∃cs,V.heap[a.block]?=some (.cells cs 71 (0,0))):
  Calls Tryz.prog 196 #[.slice A l.length c,.func (.func 198) #[] #[.pointer (some ⟨nb,0,none⟩)]] V fun e w'=>e=.returned (.slice A (l.filter fun x=> !(!(x.over==n||x.of==n))).length c)∧Seg encE 3 w' w'.heap.size A (l.filter fun x=> !(!(x.over==n||x.of==n)))∧Below X.heap.size X w':=by
 have hnl:=(Array.getElem?_eq_some_iff.1 hn).1
 refine(delF_E A c l 198 #[.pointer (some ⟨nb,0,none⟩)] (fun x=> !(x.over==n||x.of==n)) V hs hm hc hk (enters_of Tryz.func198 (by kernel_rfl) rfl) (fun x _ U hU=>part2_a x n nb U ?_)).mono ?_
 ·exact((hX.trans ((grown_from hV hU hf).mono hX.size)).block _ hnl).trans hn
 ·rintro e w' ⟨rfl,h1,h2,_⟩
  exact⟨rfl,h1,grown_from hV h2 hf⟩
theorem cutS_a {W0 X V:World}{nb:Nat}{n:Int}(hn:W0.heap[nb]?=some (.cells #[.int .i64 n] 3 (0,0)))(A:Option Addr)(c:Nat)(l:List Rt.Stint)(hX:Below W0.heap.size W0 X)(hV:Below X.heap.size X V)(hs:Seg encS 4 V V.heap.size A l)(hm:l.length≤3000000000000)(hc:l.length≤c)(hf:From X.heap.size A)(hk: ∀a,A=some a→ ∃cs,V.heap[a.block]?=some (.cells cs 119 (0,0))):
  Calls Tryz.prog 199 #[.slice A l.length c,.func (.func 201) #[] #[.pointer (some ⟨nb,0,none⟩)]] V fun e w'=>e=.returned (.slice A (l.filter fun x=> !(!(x.lot==n))).length c)∧Seg encS 4 w' w'.heap.size A (l.filter fun x=> !(!(x.lot==n)))∧Below X.heap.size X w':=by
 have hnl:=(Array.getElem?_eq_some_iff.1 hn).1
 refine(delF_S A c l 201 #[.pointer (some ⟨nb,0,none⟩)] (fun x=> !(x.lot==n)) V hs hm hc hk (enters_of Tryz.func201 (by kernel_rfl) rfl) (fun x _ U hU=>part3_a x n nb U ?_)).mono ?_
 ·exact((hX.trans ((grown_from hV hU hf).mono hX.size)).block _ hnl).trans hn
 ·rintro e w' ⟨rfl,h1,h2,_⟩
  exact⟨rfl,h1,grown_from hV h2 hf⟩
set_option maxRecDepth 100000 in
set_option maxHeartbeats 4000000 in
theorem part_a (A1 A2 A3:Option Addr)(c1 c2 c3:Nat)(L:List Lp)(r:Rt.Roll)(n:Int)(w:World)(hr:Rol w w.heap.size A1 A2 A3 L r)(hf:Rt.Few r):
  Calls Tryz.prog 138 #[.agg (rowR r A1 A2 A3 c1 c2 c3),.int .i64 n] w (EndPa w (Rt.partR r n)):=by
 unfold rowR
 have hll:=hr.llen
 have hfl:L.length≤3000000000000:=by rw[hll];have:=hf.lots;omega
 rw[←hll]
 have bw:Below w.heap.size w (((w.alloc (.cells #[.slice A1 L.length c1,.slice A2 r.eases.length c2,.slice A3 r.stints.length c3] 50 (0,0))).alloc (.cells #[.int .i64 n] 3 (0,0))).alloc (.cells #[.slice none 0 0,.slice none 0 0,.slice none 0 0] 50 (0,0))):=by go_grown
 have kr:(((w.alloc (.cells #[.slice A1 L.length c1,.slice A2 r.eases.length c2,.slice A3 r.stints.length c3] 50 (0,0))).alloc (.cells #[.int .i64 n] 3 (0,0))).alloc (.cells #[.slice none 0 0,.slice none 0 0,.slice none 0 0] 50 (0,0))).heap[w.heap.size]?=some (.cells #[.slice A1 L.length c1,.slice A2 r.eases.length c2,.slice A3 r.stints.length c3] 50 (0,0)):=by rw[Below.heap_alloc _ _ _ (by simp;try omega),Below.heap_alloc _ _ _ (by simp)];exact heap_at rfl
 have kn:(((w.alloc (.cells #[.slice A1 L.length c1,.slice A2 r.eases.length c2,.slice A3 r.stints.length c3] 50 (0,0))).alloc (.cells #[.int .i64 n] 3 (0,0))).alloc (.cells #[.slice none 0 0,.slice none 0 0,.slice none 0 0] 50 (0,0))).heap[w.heap.size+1]?=some (.cells #[.int .i64 n] 3 (0,0)):=by rw[Below.heap_alloc _ _ _ (by simp)];exact heap_at (by simp)
 have ko:(((w.alloc (.cells #[.slice A1 L.length c1,.slice A2 r.eases.length c2,.slice A3 r.stints.length c3] 50 (0,0))).alloc (.cells #[.int .i64 n] 3 (0,0))).alloc (.cells #[.slice none 0 0,.slice none 0 0,.slice none 0 0] 50 (0,0))).heap[w.heap.size+1+1]?=some (.cells #[.slice none 0 0,.slice none 0 0,.slice none 0 0] 50 (0,0)):=heap_at (by simp)
 obtain⟨W0,hW⟩: ∃W0,(((w.alloc (.cells #[.slice A1 L.length c1,.slice A2 r.eases.length c2,.slice A3 r.stints.length c3] 50 (0,0))).alloc (.cells #[.int .i64 n] 3 (0,0))).alloc (.cells #[.slice none 0 0,.slice none 0 0,.slice none 0 0] 50 (0,0)))=W0:=⟨_,rfl⟩
 rw[hW]at bw kr kn ko
 have h0:=hr.up bw
 have hz:=(Array.getElem?_eq_some_iff.1 ko).1
 have b0:Below W0.heap.size W0 W0.drew:=below_drew (Below.refl _ _)
 obtain⟨L1,hL1⟩: ∃L1,L.filter (fun x=> !(!(x.x.number==n)))=L1:=⟨_,rfl⟩
 obtain⟨E1,hE1⟩: ∃E1,r.eases.filter (fun x=> !(!(x.over==n||x.of==n)))=E1:=⟨_,rfl⟩
 obtain⟨S1,hS1⟩: ∃S1,r.stints.filter (fun x=> !(!(x.lot==n)))=S1:=⟨_,rfl⟩
 have HC1:=Lib.hid (fun(V:World) (hV:Below W0.heap.size W0 V)=>cloneL_a A1 c1 L V ((h0.lots.seg.below hV).more hV.size) hfl)
 have HD1:=Lib.hid (fun(X V:World) (A:Option Addr) (c:Nat) (hX:Below W0.heap.size W0 X) (hV:Below X.heap.size X V) (hs:Seg encL 3 V V.heap.size A L) (hc:L.length≤c) (hf2:From X.heap.size A) (hk: ∀a,A=some a→ ∃cs,V.heap[a.block]?=some (.cells cs 54 (0,0)))=>cutL_a kn A c L hX hV hs hfl hc hf2 hk)
 rw[hL1]at HD1
 have HC2:=Lib.hid (fun(V:World) (hV:Below W0.heap.size W0 V)=>cloneE_a A2 c2 r.eases V ((h0.eases.below hV).more hV.size) hf.eases)
 have HD2:=Lib.hid (fun(X V:World) (A:Option Addr) (c:Nat) (hX:Below W0.heap.size W0 X) (hV:Below X.heap.size X V) (hs:Seg encE 3 V V.heap.size A r.eases) (hc:r.eases.length≤c) (hf2:From X.heap.size A) (hk: ∀a,A=some a→ ∃cs,V.heap[a.block]?=some (.cells cs 71 (0,0)))=>cutE_a kn A c r.eases hX hV hs hf.eases hc hf2 hk)
 rw[hE1]at HD2
 have HC3:=Lib.hid (fun(V:World) (hV:Below W0.heap.size W0 V)=>cloneS_a A3 c3 r.stints V ((h0.stints.below hV).more hV.size) hf.stints)
 have HD3:=Lib.hid (fun(X V:World) (A:Option Addr) (c:Nat) (hX:Below W0.heap.size W0 X) (hV:Below X.heap.size X V) (hs:Seg encS 4 V V.heap.size A r.stints) (hc:r.stints.length≤c) (hf2:From X.heap.size A) (hk: ∀a,A=some a→ ∃cs,V.heap[a.block]?=some (.cells cs 119 (0,0)))=>cutS_a kn A c r.stints hX hV hs hf.stints hc hf2 hk)
 rw[hS1]at HD3
 have HS:Hid (∀V:World,V.heap[w.heap.size]?=W0.heap[w.heap.size]?→(V.cell? ⟨w.heap.size,0,none⟩=some (.slice A1 L.length c1)∧V.cell? ⟨w.heap.size,1,none⟩=some (.slice A2 r.eases.length c2)∧V.cell? ⟨w.heap.size,2,none⟩=some (.slice A3 r.stints.length c3))):=Lib.hid fun V e=>by
  have k:=e.trans kr
  exact⟨(blk_cells k).1 0,(blk_cells k).1 1,(blk_cells k).1 2⟩
 have HO:=Lib.hid ko
 have H0:=Lib.hid h0
 have HWW:=Lib.hid hW
 have HP:Hid (Rt.partR r n=⟨lts L1,E1,S1⟩∧ ∀p∈L1,p∈L):=Lib.hid (by
  subst hL1 hE1 hS1
  unfold Rt.partR
  simp only[Bool.not_not]
  refine⟨?_,fun p hp=>(List.mem_filter.1 hp).1⟩
  rw[←hr.is]
  simp only[lts,List.filter_map,Function.comp_def])
 obtain⟨Z,hZ⟩: ∃Z,Rt.partR r n=Z:=⟨_,rfl⟩
 rw[hZ]at HP ⊢
 have FIN:Hid (∀(w1 w2 w3 w4 w5 w6 w7:World) (B1 B2 B3:Option Addr) (e1 e2 e3:Nat),Below W0.heap.size W0 w6→w6.grownBy w7 (some (w.heap.size+1+1))→Seg encL 3 w2 w2.heap.size B1 L1→Seg encE 3 w4 w4.heap.size B2 E1→Seg encS 4 w6 w6.heap.size B3 S1→
   W0.heap.size≤w2.heap.size→W0.heap.size≤w4.heap.size→Below w2.heap.size w2 w6→Below w4.heap.size w4 w6→From W0.drew.heap.size B1→From w2.heap.size B2→From w4.heap.size B3→EndPa w Z (.returned (.agg #[.slice B1 L1.length e1,.slice B2 E1.length e2,.slice B3 S1.length e3])) w7):=Lib.hid (by
  intro w1 w2 w3 w4 w5 w6 w7 B1 B2 B3 e1 e2 e3 bb6 g7 h2 h4 h6 z2 z4 b26 b46 f1 f2 f3
  have hz0:W0.drew.heap.size=W0.heap.size:=rfl
  have z26:=b26.size
  have z46:=b46.size
  have z7:=g7.size
  rw[HP.out.1]
  have z6:=bb6.size
  have zb:=bw.size
  have s1:=((h2.below b26).more z26).grown1 g7 (fun a e=>by have:=f1 a e;omega)
  have s2:=((h4.below b46).more z46).grown1 g7 (fun a e=>by have:=f2 a e;omega)
  have s3:=h6.grown1 g7 (fun a e=>by have:=f3 a e;omega)
  have hbw:Below w.heap.size w w7:=(bw.trans (bb6.mono zb)).grown g7 (by omega) (fun k e=>by cases e;omega)
  refine⟨B1,e1,B2,e2,B3,e3,L1,by simp[rowR],⟨⟨s1.more z7,fun p hp=> ?_⟩,rfl,s2.more z7,s3.more z7⟩,hbw⟩
  obtain⟨q1,q2⟩:=hr.lots.each p (HP.out.2 p hp)
  exact⟨(q1.below hbw).more hbw.size,q2⟩)
 have HB:=Lib.hid bw
 clear kr kn ko h0 hr hf bw hL1 hE1 hS1 hll hfl hZ
 go_enter Tryz.func138,Tryz.ntmps138
 go_wp2
 clear hW
 refine wp_region_held_drew (S:=fun V=>V.cell? ⟨w.heap.size,0,none⟩=some (.slice A1 L.length c1)∧V.cell? ⟨w.heap.size,1,none⟩=some (.slice A2 r.eases.length c2)∧V.cell? ⟨w.heap.size,2,none⟩=some (.slice A3 r.stints.length c3)) (by kernel_rfl) (HS.out _ rfl) (fun hHeld=> ?_)
 refine takeH 0 (some 5) (v:= ?v1) rfl rfl (by kernel_rfl) (by kernel_rfl) (by kernel_rfl) (fun _ _ _ h=>h) (Or.inl ⟨by rfl,fun W hW=> ?hy1⟩) (by assumption) ?hr1
 case hy1=>obtain⟨hW1,hW2,hW3⟩:=hW;go_simp;try with_reducible rfl
 try simp only[Act.put,List.setIfInBounds_toArray,List.set_cons_zero,List.set_cons_succ]
 refine takeH 1 (some 6) (v:= ?v2) rfl rfl (by kernel_rfl) (by kernel_rfl) (by kernel_rfl) (fun _ _ _ h=>h) (Or.inl ⟨by rfl,fun W hW=> ?hy2⟩) (by assumption) ?hr2
 case hy2=>obtain⟨hW1,hW2,hW3⟩:=hW;go_simp;try with_reducible rfl
 try simp only[Act.put,List.setIfInBounds_toArray,List.set_cons_zero,List.set_cons_succ]
 refine takeH 3 (some 8) (v:= ?v3) rfl rfl (by kernel_rfl) (by kernel_rfl) (by kernel_rfl) (fun _ _ _ h=>h) (Or.inl ⟨by rfl,fun W hW=> ?hy3⟩) (by assumption) ?hr3
 case hy3=>obtain⟨hW1,hW2,hW3⟩:=hW;go_simp;try with_reducible rfl
 try simp only[Act.put,List.setIfInBounds_toArray,List.set_cons_zero,List.set_cons_succ]
 refine takeH 5 (some 10) (v:= ?v4) rfl rfl (by kernel_rfl) (by kernel_rfl) (by kernel_rfl) (fun _ _ _ h=>h) (Or.inl ⟨by rfl,fun W hW=> ?hy4⟩) (by assumption) ?hr4
 case hy4=>obtain⟨hW1,hW2,hW3⟩:=hW;go_simp;try with_reducible rfl
 try simp only[Act.put,List.setIfInBounds_toArray,List.set_cons_zero,List.set_cons_succ]
 refine takeH 6 (some 11) (v:= ?v5) rfl rfl (by kernel_rfl) (by kernel_rfl) (by kernel_rfl) (fun _ _ _ h=>h) (Or.inl ⟨by rfl,fun W hW=> ?hy5⟩) (by assumption) ?hr5
 case hy5=>obtain⟨hW1,hW2,hW3⟩:=hW;go_simp;try with_reducible rfl
 try simp only[Act.put,List.setIfInBounds_toArray,List.set_cons_zero,List.set_cons_succ]
 refine takeH 8 (some 13) (v:= ?v6) rfl rfl (by kernel_rfl) (by kernel_rfl) (by kernel_rfl) (fun _ _ _ h=>h) (Or.inl ⟨by rfl,fun W hW=> ?hy6⟩) (by assumption) ?hr6
 case hy6=>obtain⟨hW1,hW2,hW3⟩:=hW;go_simp;try with_reducible rfl
 try simp only[Act.put,List.setIfInBounds_toArray,List.set_cons_zero,List.set_cons_succ]
 refine takeH 10 (some 15) (v:= ?v7) rfl rfl (by kernel_rfl) (by kernel_rfl) (by kernel_rfl) (fun _ _ _ h=>h) (Or.inl ⟨by rfl,fun W hW=> ?hy7⟩) (by assumption) ?hr7
 case hy7=>obtain⟨hW1,hW2,hW3⟩:=hW;go_simp;try with_reducible rfl
 try simp only[Act.put,List.setIfInBounds_toArray,List.set_cons_zero,List.set_cons_succ]
 refine takeH 11 (some 16) (v:= ?v8) rfl rfl (by kernel_rfl) (by kernel_rfl) (by kernel_rfl) (fun _ _ _ h=>h) (Or.inl ⟨by rfl,fun W hW=> ?hy8⟩) (by assumption) ?hr8
 case hy8=>obtain⟨hW1,hW2,hW3⟩:=hW;go_simp;try with_reducible rfl
 try simp only[Act.put,List.setIfInBounds_toArray,List.set_cons_zero,List.set_cons_succ]
 refine takeH 13 (some 18) (v:= ?v9) rfl rfl (by kernel_rfl) (by kernel_rfl) (by kernel_rfl) (fun _ _ _ h=>h) (Or.inl ⟨by rfl,fun W hW=> ?hy9⟩) (by assumption) ?hr9
 case hy9=>obtain⟨hW1,hW2,hW3⟩:=hW;go_simp;try with_reducible rfl
 try simp only[Act.put,List.setIfInBounds_toArray,List.set_cons_zero,List.set_cons_succ]
 refine wpAnyH_ready (rs:=[2]) (by kernel_rfl) (by simp) ?_
 refine readyH (some 7) rfl rfl (fun K hK=> ?_) AllReadyH.nil
 go_simp
 refine(HC1.out _ b0).mono ?_
 rintro e w1 ⟨B1,e1,rfl,hs1,hc1,hf1,b1,hk1⟩
 have bb1:=b0.trans (b1.mono b0.size)
 refine hK _ _ (HS.out _ (bb1.block _ (by omega))) (fun hHeld=> ?_)
 clear hK K
 try simp only[Act.put,List.setIfInBounds_toArray,List.set_cons_zero,List.set_cons_succ]
 refine wpAnyH_ready (rs:=[4]) (by kernel_rfl) (by simp) ?_
 refine readyH (some 9) rfl rfl (fun K hK=> ?_) AllReadyH.nil
 go_simp
 refine(HD1.out _ _ B1 e1 b0 b1 hs1 hc1 hf1 hk1).mono ?_
 rintro e w2 ⟨rfl,hs2,b2⟩
 have bb2:=b0.trans (b2.mono b0.size)
 refine hK _ _ (HS.out _ (bb2.block _ (by omega))) (fun hHeld=> ?_)
 clear hK K
 try simp only[Act.put,List.setIfInBounds_toArray,List.set_cons_zero,List.set_cons_succ]
 refine wpAnyH_ready (rs:=[7]) (by kernel_rfl) (by simp) ?_
 refine readyH (some 12) rfl rfl (fun K hK=> ?_) AllReadyH.nil
 go_simp
 refine(HC2.out _ bb2).mono ?_
 rintro e w3 ⟨B2,e2,rfl,hs3,hc3,hf3,b3,hk3⟩
 have bb3:=bb2.trans (b3.mono bb2.size)
 refine hK _ _ (HS.out _ (bb3.block _ (by omega))) (fun hHeld=> ?_)
 clear hK K
 try simp only[Act.put,List.setIfInBounds_toArray,List.set_cons_zero,List.set_cons_succ]
 refine wpAnyH_ready (rs:=[9]) (by kernel_rfl) (by simp) ?_
 refine readyH (some 14) rfl rfl (fun K hK=> ?_) AllReadyH.nil
 go_simp
 refine(HD2.out _ _ B2 e2 bb2 b3 hs3 hc3 hf3 hk3).mono ?_
 rintro e w4 ⟨rfl,hs4,b4⟩
 have bb4:=bb2.trans (b4.mono bb2.size)
 refine hK _ _ (HS.out _ (bb4.block _ (by omega))) (fun hHeld=> ?_)
 clear hK K
 try simp only[Act.put,List.setIfInBounds_toArray,List.set_cons_zero,List.set_cons_succ]
 refine wpAnyH_ready (rs:=[12]) (by kernel_rfl) (by simp) ?_
 refine readyH (some 17) rfl rfl (fun K hK=> ?_) AllReadyH.nil
 go_simp
 refine(HC3.out _ bb4).mono ?_
 rintro e w5 ⟨B3,e3,rfl,hs5,hc5,hf5,b5,hk5⟩
 have bb5:=bb4.trans (b5.mono bb4.size)
 refine hK _ _ (HS.out _ (bb5.block _ (by omega))) (fun hHeld=> ?_)
 clear hK K
 try simp only[Act.put,List.setIfInBounds_toArray,List.set_cons_zero,List.set_cons_succ]
 refine wpAnyH_ready (rs:=[14]) (by kernel_rfl) (by simp) ?_
 refine readyH (some 19) rfl rfl (fun K hK=> ?_) AllReadyH.nil
 go_simp
 refine(HD3.out _ _ B3 e3 bb4 b5 hs5 hc5 hf5 hk5).mono ?_
 rintro e w6 ⟨rfl,hs6,b6⟩
 have bb6:=bb4.trans (b6.mono bb4.size)
 refine hK _ _ (HS.out _ (bb6.block _ (by omega))) (fun hHeld=> ?_)
 clear hK K
 try simp only[Act.put,List.setIfInBounds_toArray,List.set_cons_zero,List.set_cons_succ]
 refine takeH 15 (some 20) (v:= ?v10) rfl rfl (by kernel_rfl) (by kernel_rfl) (by kernel_rfl) (fun _ _ _ h=>h) (Or.inl ⟨by rfl,fun W hW=> ?hy10⟩) (by assumption) ?hr10
 case hy10=>obtain⟨hW1,hW2,hW3⟩:=hW;go_simp;try with_reducible rfl
 try simp only[Act.put,List.setIfInBounds_toArray,List.set_cons_zero,List.set_cons_succ]
 have z6:=bb6.size
 obtain⟨w7,st7,k7,g7⟩:=st_row w6 (w.heap.size+1+1) 50 50 #[.slice none 0 0,.slice none 0 0,.slice none 0 0] #[.slice B1 L1.length e1,.slice B2 E1.length e2,.slice B3 S1.length e3] ((bb6.block _ (by omega)).trans HO.out) info_roll rfl (by simp[Value.oneCell'])
 refine wpAnyH_ready (rs:=[16]) (by kernel_rfl) (by simp) ?_
 refine readyH none rfl rfl (fun K hK=> ?_) AllReadyH.nil
 go_simp
 refine hK _ _ (HS.out _ ((g7.block _ (by omega) (by simp;try omega)).trans (bb6.block _ (by omega)))) (fun hHeld=> ?_)
 clear hK K
 try simp only[Act.put,List.setIfInBounds_toArray,List.set_cons_zero,List.set_cons_succ]
 refine wpAnyH_done (by kernel_rfl) ?_ _
 have l7:=ld_row k7 Tryz.underlying50 rfl info_roll
 clear HC1 HC2 HC3 HD1 HD2 HD3 HS
 go_wp2
 refine bodyPost_ret (v:=.agg #[.slice B1 L1.length e1,.slice B2 E1.length e2,.slice B3 S1.length e3]) (by simp[results,Tryz.results138,go_sem,l7]) rfl ?_
 exact FIN.out w1 w2 w3 w4 w5 w6 w7 B1 B2 B3 e1 e2 e3 bb6 g7 hs2 hs4 hs6 bb2.size bb4.size (b4.trans (b6.mono b4.size)) b6 hf1 hf3 hf5
end Go.Proofs.YtcffonnijhhhiaaGreatDoor
namespace Go.Proofs.YtcffonnijhhhiaaGreatDoor
open Go Go.RowKit Go.Maps Mp
section
variable {α : Type} {enc : α → List Value} {ST ET : TypeId} {z : Value} {size bytes : Nat}
theorem own_addF (L:Lay enc ST ET z size bytes){n₀ b c:Nat}{W:World}{v:Value}{l r lr:List α}(hr:W.ownsRow n₀ ET size v l.length (l.flatMap enc))(hcell: ∀j u,(r.flatMap enc)[j]?=some u→W.cell? ⟨b,j,none⟩=some u)(m:Nat)(hrl:r.length=m)(hlr:l++r=lr)
  (hm:l.length+m≤1000001) (hb:bytes≤1000) (hn:n₀≤W.heap.size):
  ∃A' c' w2,(Builtin.append_ #[ST,ST] ST #[v,.slice (some ⟨b,0,none⟩) m c]).run Tryz.prog W=.ok (.slice A' lr.length c') w2∧w2.ownsRow n₀ ET size (.slice A' lr.length c') lr.length (lr.flatMap enc)∧W.grownBy w2 v.ownBlock∧
   ∀g,(Value.slice A' lr.length c').ownBlock=some g→v.ownBlock=some g∨W.heap.size≤g:=by
 subst hrl hlr
 obtain⟨i0,hi0,hz0,hz1,hz2⟩:=info_parts L.hi
 have hone: ∀u∈r.flatMap enc,u.oneCell'=true:=by
  intro u hu
  obtain⟨x,_,hx⟩:=List.mem_flatMap.1 hu
  exact L.hone x u hx
 obtain⟨v',w2,hrun,hown,hgrow,_,hob⟩:=run_append_own_at (P:=Tryz.prog) (w:=W) n₀ ST ST ET i0 _ size bytes L.ht hi0 hz0 hz1 hz2 L.hz L.hs v l.length (l.flatMap enc) hr ⟨b,0,none⟩ r.length c (r.flatMap enc)
  (flat_len enc size L.henc r) (fun j u hj=>by rw[Go.WideShapes.add_plain,Nat.zero_add];exact hcell j u hj) hone (by unfold maxLen;omega) (Nat.le_trans (Nat.mul_le_mul hm hb) (by decide)) hn
 rw[←List.flatMap_append,←List.length_append]at hown
 obtain⟨A',c',rfl,hs,hc',hf⟩:=own_seg L hown
 refine⟨A',c',w2,hrun,hown,hgrow,fun g hg=> ?_⟩
 rcases hob with e|e
 ·exact .inl (e.symm.trans hg)
 ·rw[hg]at e
  exact .inr (by have:=Option.some.inj e;omega)
end
structure P3 (wc W:World)(bX:Nat)(row:Array Value)(v1:Value)(l1:List Int)(v2:Value)(l2:List Int):Prop where
 blk:W.heap[bX]?=some (.cells row 24 (0,0))
 o1:W.ownsRow wc.heap.size 3 1 v1 l1.length (l1.flatMap encInt)
 o2:W.ownsRow wc.heap.size 3 1 v2 l2.length (l2.flatMap encInt)
 ne: ∀g,v1.ownBlock=some g→v2.ownBlock≠some g
 gr:wc.grownBy W (some bX)
 lt:bX<wc.heap.size
section
variable {wc W W' : World} {bX : Nat} {row : Array Value} {v1 v2 : Value} {l1 l2 : List Int}
theorem P3.below (h:P3 wc W bX row v1 l1 v2 l2)(hb:Below W.heap.size W W'):P3 wc W' bX row v1 l1 v2 l2:=
 ⟨(hb.block _ (Nat.lt_of_lt_of_le h.lt h.gr.size)).trans h.blk,own_below h.o1 hb,own_below h.o2 hb,h.ne,grown_up h.gr hb,h.lt⟩
theorem P3.app1 (h:P3 wc W bX row v1 l1 v2 l2)(b:Nat)(x:Int)(hx:W.cell? ⟨b,0,none⟩=some (.int .i64 x))(hl:l1.length≤1000){l:List Int}(hle:l1++[x]=l):
  ∃A' c' W',(Builtin.append_ #[22,22] 22 #[v1,.slice (some ⟨b,0,none⟩) 1 1]).run Tryz.prog W=.ok (.slice A' l.length c') W'∧P3 wc W' bX row (.slice A' l.length c') l v2 l2∧W.grownBy W' v1.ownBlock:=by
 obtain⟨A',c',W',hrun,ho,hg,hnew⟩:=own_addF layI (b:=b) (c:=1) h.o1 (r:=[x]) (fun j u hj=>by
  cases j with
  |zero=>simp[encInt]at hj;subst hj;exact hx
  |succ j=>simp[encInt]at hj) 1 rfl hle (by omega) (by decide) h.gr.size
 have hb1: ∀g,v1.ownBlock=some g→wc.heap.size≤g∧g<W.heap.size:=fun g e=>h.o1.lt g e
 refine⟨A',c',W',hrun,⟨(hg.block _ (Nat.lt_of_lt_of_le h.lt h.gr.size) (fun e=> ?_)).trans h.blk,ho,own_same h.o2 fun g e=>hg.block g (h.o2.lt g e).2 (fun e2=>h.ne g e2.symm e),fun g e e2=> ?_,?_,h.lt⟩,hg⟩
 ·have:=(hb1 bX e.symm).1;have:=h.lt;omega
 ·rcases hnew g e with e3|e3
  ·exact h.ne g e3 e2
  ·have:=(h.o2.lt g e2).2;omega
 ·refine⟨hg.os.trans h.gr.os,hg.tape.trans h.gr.tape,hg.output.trans h.gr.output,Nat.le_trans h.gr.size hg.size,fun i hi hne=>(hg.block i (Nat.lt_of_lt_of_le hi h.gr.size) (fun e=> ?_)).trans (h.gr.block i hi hne)⟩
  have:=(hb1 i e.symm).1;omega
theorem P3.app2 (h:P3 wc W bX row v1 l1 v2 l2)(b:Nat)(x:Int)(hx:W.cell? ⟨b,0,none⟩=some (.int .i64 x))(hl:l2.length≤1000){l:List Int}(hle:l2++[x]=l):
  ∃A' c' W',(Builtin.append_ #[22,22] 22 #[v2,.slice (some ⟨b,0,none⟩) 1 1]).run Tryz.prog W=.ok (.slice A' l.length c') W'∧P3 wc W' bX row v1 l1 (.slice A' l.length c') l:=by
 obtain⟨A',c',W',hrun,ho,hg,hnew⟩:=own_addF layI (b:=b) (c:=1) h.o2 (r:=[x]) (fun j u hj=>by
  cases j with
  |zero=>simp[encInt]at hj;subst hj;exact hx
  |succ j=>simp[encInt]at hj) 1 rfl hle (by omega) (by decide) h.gr.size
 have hb1: ∀g,v2.ownBlock=some g→wc.heap.size≤g∧g<W.heap.size:=fun g e=>h.o2.lt g e
 refine⟨A',c',W',hrun,⟨(hg.block _ (Nat.lt_of_lt_of_le h.lt h.gr.size) (fun e=> ?_)).trans h.blk,own_same h.o1 fun g e=>hg.block g (h.o1.lt g e).2 (fun e2=>h.ne g e e2.symm),ho,fun g e e2=> ?_,?_,h.lt⟩⟩
 ·have:=(hb1 bX e.symm).1;have:=h.lt;omega
 ·rcases hnew g e2 with e3|e3
  ·exact h.ne g e e3
  ·have:=(h.o1.lt g e).2;omega
 ·refine⟨hg.os.trans h.gr.os,hg.tape.trans h.gr.tape,hg.output.trans h.gr.output,Nat.le_trans h.gr.size hg.size,fun i hi hne=>(hg.block i (Nat.lt_of_lt_of_le hi h.gr.size) (fun e=> ?_)).trans (h.gr.block i hi hne)⟩
  have:=(hb1 i e.symm).1;omega
theorem P3.put (h:P3 wc W bX row v1 l1 v2 l2)(j:Nat)(hj:j<row.size)(A:Option Addr)(n c:Nat):
  ∃W',(storeVar 22 ⟨bX,j,none⟩ (.slice A n c)).run Tryz.prog W=.ok () W'∧P3 wc W' bX (row.setIfInBounds j (.slice A n c)) v1 l1 v2 l2:=by
 have s:=st_ints (A:=A) (n:=n) (c:=c) h.blk hj
 have g:=gsc W ⟨bX,j,none⟩ (.slice A n c)
 have k:=hsc (j:=j) (.slice A n c) h.blk
 refine⟨_,s,⟨k,own_same h.o1 fun i e=>g.block i (h.o1.lt i e).2 (fun e2=> ?_),own_same h.o2 fun i e=>g.block i (h.o2.lt i e).2 (fun e2=> ?_),h.ne,⟨g.os.trans h.gr.os,g.tape.trans h.gr.tape,g.output.trans h.gr.output,Nat.le_trans h.gr.size g.size,fun i hi hne=>(g.block i (Nat.lt_of_lt_of_le hi h.gr.size) hne).trans (h.gr.block i hi hne)⟩,h.lt⟩⟩
 ·have:=(h.o1.lt i e).1;have:=h.lt;cases e2;dsimp only at this;omega
 ·have:=(h.o2.lt i e).1;have:=h.lt;cases e2;dsimp only at this;omega
end
section
variable (ns : List Int)
theorem row0 :xcs (Rt.made ns 0) none none 0 0= #[.int .i64 (ns.getD 0 0),.int .i64 (ns.getD 1 0),.int .u8 0,.int .i64 (ns.getD 3 0),.int .i64 0,.int .i64 0,.int .i64 0,.int .i64 0,.int .i64 0,.slice none 0 0,.slice none 0 0]:=rfl
theorem row1 :xcs (Rt.made ns 1) none none 0 0= #[.int .i64 (ns.getD 0 0),.int .i64 (ns.getD 1 0),.int .u8 1,.int .i64 (ns.getD 3 0),.int .i64 0,.int .i64 0,.int .i64 ((ns.drop 4).getD 0 0),.int .i64 0,.int .i64 ((ns.drop 4).getD 1 0),.slice none 0 0,.slice none 0 0]:=rfl
theorem row7 :xcs (Rt.made ns 7) none none 0 0= #[.int .i64 (ns.getD 0 0),.int .i64 (ns.getD 1 0),.int .u8 7,.int .i64 (ns.getD 3 0),.int .i64 0,.int .i64 0,.int .i64 ((ns.drop 4).getD 0 0),.int .i64 0,.int .i64 ((ns.drop 4).getD 1 0),.slice none 0 0,.slice none 0 0]:=rfl
theorem row2 :xcs (Rt.made ns 2) none none 0 0= #[.int .i64 (ns.getD 0 0),.int .i64 (ns.getD 1 0),.int .u8 2,.int .i64 (ns.getD 3 0),.int .i64 0,.int .i64 ((ns.drop 4).getD 0 0),.int .i64 ((ns.drop 4).getD 1 0),.int .i64 ((ns.drop 4).getD 2 0),.int .i64 0,.slice none 0 0,.slice none 0 0]:=rfl
theorem row3 (A1 A2:Option Addr)(c1 c2:Nat):xcs (Rt.made ns 3) A1 A2 c1 c2= #[.int .i64 (ns.getD 0 0),.int .i64 (ns.getD 1 0),.int .u8 3,.int .i64 (ns.getD 3 0),.int .i64 0,.int .i64 0,.int .i64 0,.int .i64 0,.int .i64 0,.slice A1 (Rt.odd (ns.drop 4)).1.length c1,.slice A2 (Rt.odd (ns.drop 4)).2.length c2]:=rfl
theorem row4 (A1:Option Addr)(c1:Nat):xcs (Rt.made ns 4) A1 none c1 0= #[.int .i64 (ns.getD 0 0),.int .i64 (ns.getD 1 0),.int .u8 4,.int .i64 (ns.getD 3 0),.int .i64 0,.int .i64 0,.int .i64 0,.int .i64 0,.int .i64 0,.slice A1 (ns.drop 4).length c1,.slice none 0 0]:=rfl
theorem row5 :xcs (Rt.made ns 5) none none 0 0= #[.int .i64 (ns.getD 0 0),.int .i64 (ns.getD 1 0),.int .u8 5,.int .i64 (ns.getD 3 0),.int .i64 ((ns.drop 4).getD 0 0),.int .i64 0,.int .i64 0,.int .i64 0,.int .i64 0,.slice none 0 0,.slice none 0 0]:=rfl
theorem row6 :xcs (Rt.made ns 6) none none 0 0= #[.int .i64 (ns.getD 0 0),.int .i64 (ns.getD 1 0),.int .u8 6,.int .i64 (ns.getD 3 0),.int .i64 ((ns.drop 4).getD 0 0),.int .i64 0,.int .i64 0,.int .i64 0,.int .i64 0,.slice none 0 0,.slice none 0 0]:=rfl
theorem row8 :xcs (Rt.made ns 8) none none 0 0= #[.int .i64 (ns.getD 0 0),.int .i64 (ns.getD 1 0),.int .u8 8,.int .i64 (ns.getD 3 0),.int .i64 0,.int .i64 0,.int .i64 ((ns.drop 4).getD 0 0),.int .i64 0,.int .i64 0,.slice none 0 0,.slice none 0 0]:=rfl
end
theorem DS.none {w:World}{B:Nat}{x:Dl}(h1:x.into=[])(h2:x.sizes=[]):DS w B none none x:=⟨.inl h1,.inl h2,by rw[h1];decide,by rw[h2];decide⟩
end Go.Proofs.YtcffonnijhhhiaaGreatDoor
