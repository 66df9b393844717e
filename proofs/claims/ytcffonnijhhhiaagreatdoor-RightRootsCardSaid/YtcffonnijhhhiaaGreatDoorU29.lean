/- Part U29 of the proof: Rw. -/
import Derived.Test.YtcffonnijhhhiaaGreatDoorProg
import Derived.WalkKit
import Derived.WalkLawsBesides
import Derived.WalkSpells
import Derived.Handy
import Derived.Lib.Hide
import Derived.Great.BuildSlice
import Derived.Deep.QuietTactic
import Derived.BigQuiet
import Derived.Deep.RegionHeld3
import Derived.Deep.DeepCutAuto
import Derived.Deep.CutBlock
import Derived.Test.YtcffonnijhhhiaaGreatDoorU28
set_option linter.all false
set_option linter.unusedSimpArgs false
set_option linter.unusedVariables false
set_option linter.unusedSectionVars false
namespace Go.Proofs.YtcffonnijhhhiaaGreatDoor
open Go Go.RowKit Go.Maps Mp
attribute [-simp] Prod.forall Prod.exists
attribute [-go_sem] loadVar storeVar Builtin.append_
attribute [local go_sem] lk_int lk_u8 lk_ints lk_str
theorem Ints.all {w:World}{B:Nat}{A:Option Addr}{l:List Int}(h:Ints w B A l)(h0:l≠ []): ∃b off,A=some ⟨b,off,none⟩∧b<B∧ ∀k,k<l.length→w.cell? ⟨b,off+k,none⟩=some (.int .i64 (l.getD k 0)):=by
 rcases h with h|⟨b,off,hA,hb,hc⟩
 ·exact absurd h h0
 ·refine⟨b,off,hA,hb,fun k hk=> ?_⟩
  have:=hc k l[k] (List.getElem?_eq_getElem hk) 0 _ rfl
  rw[Nat.mul_one,Nat.add_zero]at this
  rw[this,List.getD_eq_getElem?_getD,List.getElem?_eq_getElem hk]
  rfl
theorem st_u8 {w:World}{g j:Nat}{t:TypeId}{cs:Array Value}{n:Int}(hg:w.heap[g]?=some (.cells cs t (0,0)))(hj:j<cs.size):(storeVar 5 ⟨g,j,none⟩ (.int .u8 n)).run Tryz.prog w=.ok () (w.setCell ⟨g,j,none⟩ (.int .u8 n)):=by
 obtain⟨hc,hf⟩:=blk_cells hg
 have h1:=hc j
 rw[Array.getElem?_eq_getElem hj]at h1
 have h2:=hf j
 simp[go_sem,storeVar,h1,h2]
theorem seg_drop {w:World}{B b off:Nat}{l:List Int}(h:Ints w B (some ⟨b,off,none⟩) l)(m:Nat):Ints w B (some ⟨b,off+m,none⟩) (l.drop m):=by
 rcases h with h|⟨b',off',hA,hb,hc⟩
 ·exact .inl (by rw[h];simp)
 ·cases hA
  refine .inr ⟨b,off+m,rfl,hb,fun k x hk j v hv=> ?_⟩
  rw[List.getElem?_drop]at hk
  have:=hc (m+k) x hk j v hv
  rwa[show off+m+k*1+j=off+(m+k)*1+j by omega]
set_option maxRecDepth 100000 in
theorem cloneI_own (A:Option Addr)(c:Nat)(l:List Int)(w:World)(h:Ints w w.heap.size A l)(hm:l.length≤1000000):
  Calls Tryz.prog 94 #[.slice A l.length c] w fun e w'=> ∃A' c',e=.returned (.slice A' l.length c')∧w'.ownsRow w.heap.size 3 1 (.slice A' l.length c') l.length (l.flatMap encInt)∧Below w.heap.size w w':=by
 cases A with
 |none=>
  have h0:l=[]:=by
   rcases h with h|⟨b,off,hA,_⟩
   ·exact h
   ·cases hA
  subst h0
  have hq:=nilI 0 c w
  go_enter Tryz.func94,Tryz.ntmps94
  go_wp2
  go_ret
  exact⟨none,0,rfl,World.ownsRow_nil _ _ _ _,Below.refl _ _⟩
 |some a=>
  obtain⟨A',c',w2,hr,hs,hc',hf,hb,_,ho⟩:=clone_law layI (c:=c) h hm (by decide)
  have hq:=notNilI a l.length c w
  clear h
  go_enter Tryz.func94,Tryz.ntmps94
  go_wp2
  go_ret
  exact⟨A',c',rfl,ho,hb⟩
theorem str_same (a b:ByteArray):(a.toList==b.toList)=decide (a=b):=by
 rw[ByteArray.toList_eq,ByteArray.toList_eq]
 by_cases h:a=b
 ·subst h;simp
 ·have: ¬a.data.toList=b.data.toList:=fun e=>h (by cases a;cases b;simp only at e;have:=Array.toList_inj.1 e;subst this;rfl)
  rw[decide_eq_false h]
  exact beq_false_of_ne this
theorem mk_same (l:List UInt8)(b:ByteArray):((⟨l.toArray⟩:ByteArray)=b)↔l=b.data.toList:=by
 constructor
 ·rintro rfl;simp
 ·rintro rfl;simp
attribute [local irreducible] loadVar storeVar
set_option maxRecDepth 100000 in
set_option maxHeartbeats 8000000 in
theorem read_ok (s:ByteArray)(w:World)(hE:Env w)(hs:s.size≤1000000)(h4:4≤(Rt.cut s).length)(h24:(Rt.cut s).length≤24)(hf:Rt.fine (Rt.dat (Rt.cut s))=true):Calls Tryz.prog 25 #[.string s] w (EndRd w s):=by
 have HR:=Lib.hid (Rt.read_yes h4 h24 hf)
 have b1:Below w.heap.size w (w.alloc (.cells zcs 24)):=by go_grown
 have k1:=heap_alloc_new w (.cells zcs 24)
 obtain⟨W1,hW1⟩: ∃W1,W1=w.alloc (.cells zcs 24):=⟨_,rfl⟩
 have hWz:W1.heap.size=w.heap.size+1:=by rw[hW1];simp
 rw[←hW1]at b1 k1
 have hsp:=split_a s W1 (hE.up b1) hs
 obtain⟨n,hn⟩: ∃n,(Rt.cut s).length=n:=⟨_,rfl⟩
 obtain⟨ws,hws⟩: ∃ws,Rt.dat (Rt.cut s)=ws:=⟨_,rfl⟩
 obtain⟨wd,hwd⟩: ∃wd:Nat→ByteArray,∀k,(Rt.cut s).getD k ⟨#[]⟩=wd k:=⟨_,fun _=>rfl⟩
 have HWS:Hid (ws.length=n∧ ∀k,k<n→ws.getD k []=(wd k).data.toList∧(wd k).size≤1000000):=Lib.hid (by
  subst hn hws
  refine⟨by simp[Rt.dat],fun k hk=> ?_⟩
  rw[←hwd,List.getD_eq_getElem?_getD,List.getD_eq_getElem?_getD,List.getElem?_eq_getElem hk]
  unfold Rt.dat
  rw[List.getElem?_map,List.getElem?_eq_getElem hk]
  refine⟨rfl,?_⟩
  have:=Rt.cut_size ⟨#[32]⟩ 0 _ s (Rt.cut s)[k] (List.getElem_mem hk)
  simp only[Option.getD_some]
  omega)
 rw[hn]at hsp
 have hsp2:Calls Tryz.prog 91 #[.string s,.string ⟨#[32]⟩] W1 fun e w'=>e=.returned (.slice (some ⟨W1.heap.size,0,none⟩) n n)∧Below W1.heap.size W1 w'∧Hid (W1.heap.size<w'.heap.size)∧Hid (∀k,k<n→w'.cell? ⟨W1.heap.size,k,none⟩=some (.string (wd k))):=by
  refine hsp.mono ?_
  rintro e w' ⟨h1,h2,h3,h4⟩
  exact⟨h1,h2,Lib.hid h3,Lib.hid fun k hk=>by rw[h4 k hk,hwd]⟩
 have HE:=Lib.hid hE
 have HWz:=Lib.hid hWz
 have HWD:=Lib.hid hwd
 have HN4:=Lib.hid h4
 rw[hn]at h4 HN4 h24
 rw[hws]at HR
 have HF:Hid (Rt.fine ws=true):=Lib.hid (by rw[←hws];exact hf)
 clear hws hn hf hsp hwd hE hWz
 go_enter Tryz.func25,Tryz.ntmps25
 go_wp2_with fail
 rw[←hW1]
 clear hW1
 refine hsp2.mono ?_
 clear hsp2
 rintro e w2 ⟨rfl,b2,HW2,HC⟩
 have HB2:=Lib.hid b2
 have HB1:=Lib.hid b1
 have HK1:=Lib.hid k1
 have hin:Rt.inR (n:Int) 4 24=true:=by
  unfold Rt.inR
  simp only[Bool.and_eq_true,decide_eq_true_eq]
  omega
 clear b1 b2 k1
 go_wp2_with (go_at_call 92;refine(within_a _ _ _ _).mono ?_;rintro e w' ⟨rfl,rfl⟩)
 clear hin
 have HZ0:=Lib.hid (Below.refl w2.heap.size w2)
 have HNil:=Lib.hid (World.ownsRow_nil w2 w2.heap.size 3 1)
 go_loopw [5,25] (fun v i wr=> ∃(j:Nat) (ns:List Int),j≤n∧i=.int .i64 j∧Hid (Below w2.heap.size w2 wr)∧Hid (wr.ownsRow w2.heap.size 3 1 v ns.length (ns.flatMap encInt))∧Hid (Rt.NsOk ws ns j)) (fun _ i _=>n-(intOf i).toNat)
 case atStart=>exact⟨0,[],by omega,rfl,HZ0,HNil,Lib.hid (Rt.NsOk.zero ws)⟩
 case round=>
  obtain⟨j,ns,hj,rfl,HBr,HOr,HNs⟩:=hrel
  by_cases hlt:j<n
  ·have hbr:=HBr.out
   have q1:wr.cell? ⟨W1.heap.size,j,none⟩=some (.string (wd j)):=(hbr.cell (p:=⟨W1.heap.size,j,none⟩) HW2.out).trans (HC.out j hlt)
   have bw:Below w.heap.size w wr:=HB1.out.trans ((HB2.out.mono HB1.out.size).trans (hbr.mono (Nat.le_trans HB1.out.size HB2.out.size)))
   obtain⟨hw1,hw2⟩:=HWS.out.2 j hlt
   have hat:=atoi_a (wd j) (by omega) wr (HE.out.up bw)
   have HW1:=Lib.hid hw1
   obtain⟨b,hb⟩: ∃b,wd j=b:=⟨_,rfl⟩
   rw[hb]at q1 hat HW1
   have HBj:=Lib.hid hb
   have HBW:=Lib.hid bw
   clear hbr bw hw1 hw2 hb
   go_wp2_with fail
   refine hat.mono ?_
   clear hat
   rintro e w5 ⟨v5,ev,rfl,hend,b5⟩
   have HB5:=Lib.hid (HBr.out.trans (b5.mono HBr.out.size))
   have HO5:=Lib.hid (own_below HOr.out b5)
   have HBW5:=Lib.hid (HBW.out.trans (b5.mono HBW.out.size))
   clear b5 HOr HBr HBW q1
   have hok2:j≠2→ev=.nilIface∧Rt.isNum (ws.getD j [])=some v5:=by
    intro h2
    have hf:=Rt.fine_iff.1 HF.out j (by rw[HWS.out.1];exact hlt) h2
    rcases hend with ⟨hok,rfl⟩|⟨hbad,t,p,rfl⟩
    ·exact⟨rfl,by rw[HW1.out];unfold Rt.isNum;rw[hok]⟩
    ·exfalso
     rw[HW1.out]at hf
     unfold Rt.isNum at hf
     rcases hq:Lib.atoiAll b.data.toList with v|_|_
     ·exact hbad v hq
     ·rw[hq]at hf;cases hf
     ·rw[hq]at hf;cases hf
   have hev:ev=.nilIface∨ ∃t p,ev=.iface t p:=by
    rcases hend with ⟨_,rfl⟩|⟨_,t,p,rfl⟩
    ·exact .inl rfl
    ·exact .inr ⟨t,p,rfl⟩
   have HOK:=Lib.hid hok2
   clear hok2 hend
   obtain⟨v6,w6,hrun,ho6,hb6⟩:=own_more layI (w1:=w5) HO5.out [v5] (ns++[v5]) 0 rfl #[.int .i64 v5] rfl rfl (by rw[HNs.out.1];omega) (by decide) HB5.out.size
   have HO6:=Lib.hid ho6
   have HB6:=Lib.hid (HB5.out.trans hb6)
   have HNs2:Hid (Rt.NsOk ws (ns++[v5]) (j+1)):=Lib.hid (HNs.out.next fun h=>(HOK.out h).2)
   clear ho6 hb6
   by_cases h2:j=2
   ·have HJ2:=Lib.hid h2
    subst h2
    rcases hev with rfl|⟨t,p,rfl⟩
    all_goals
     go_wp2
     go_roundw
     case rel=>exact⟨3,ns++[v5],by omega,by go_num,HB6,HO6,HNs2⟩
     case measure=>first|(simp[intOf];done)|(simp[intOf];omega)
   ·obtain⟨rfl,_⟩:=HOK.out h2
    clear hev
    go_wp2
    go_roundw
    case rel=>exact⟨j+1,ns++[v5],by omega,by go_num,HB6,HO6,HNs2⟩
    case measure=>first|(simp[intOf];done)|(simp[intOf];omega)
  ·obtain rfl:n=j:=by omega
   obtain⟨wm,rfl⟩: ∃wm:World,wm=wr:=⟨_,rfl⟩
   obtain⟨A5,c5,hv5,hs5,hc5,_⟩:=own_seg layI HOr.out
   subst hv5
   have hl:=HNs.out.1
   obtain⟨g,off,rfl,hg,hce⟩:=Ints.all hs5 (by intro e;rw[e]at hl;simp at hl;omega)
   obtain⟨N,hN⟩: ∃N:Nat→Int,∀k,ns.getD k 0=N k:=⟨_,fun _=>rfl⟩
   have HN:=Lib.hid hN
   rw[hl]at hc5
   have HCE:Hid (∀k,k<n→wm.cell? ⟨g,off+k,none⟩=some (.int .i64 (N k))):=Lib.hid fun k hk=>by rw[hce k (by omega),hN]
   have HV:Hid (∀V:World,Below wm.heap.size wm V→(V.cell? ⟨g,off,none⟩=some (.int .i64 (N 0))∧V.cell? ⟨g,off+1,none⟩=some (.int .i64 (N 1))∧V.cell? ⟨g,off+3,none⟩=some (.int .i64 (N 3)))):=Lib.hid fun V hV=>
    ⟨(hV.cell (p:=⟨g,off,none⟩) hg).trans (HCE.out 0 (by omega)),(hV.cell (p:=⟨g,off+1,none⟩) hg).trans (HCE.out 1 (by omega)),(hV.cell (p:=⟨g,off+3,none⟩) hg).trans (HCE.out 3 (by omega))⟩
   have p0:(0:Int)<(n:Int):=by omega
   have p0n:0<n:=by omega
   have p1:(1:Int)<(n:Int):=by omega
   have p3:(3:Int)<(n:Int):=by omega
   have p4:(4:Int)≤(n:Int):=by omega
   have HS5:=Lib.hid hs5
   have Hg:=Lib.hid hg
   rw[hl]
   have HL:=Lib.hid hl
   clear hN hce hs5 hl hg HOr
   have bb0:=below_drew (Below.refl wm.heap.size wm)
   go_wp2
   refine wp_region_held_drew (S:=fun V=>V.cell? ⟨g,off,none⟩=some (.int .i64 (N 0))∧V.cell? ⟨g,off+1,none⟩=some (.int .i64 (N 1))∧V.cell? ⟨g,off+3,none⟩=some (.int .i64 (N 3))) (by kernel_rfl) (HV.out _ bb0) (fun hHeld=> ?_)
   refine takeH 0 (some 47) (v:= ?v0) rfl rfl (by kernel_rfl) (by kernel_rfl) (by kernel_rfl) (fun _ _ _ h=>h) (Or.inl ⟨by rfl,fun W hW=> ?hy0⟩) (by assumption) ?hr0
   case hy0=>obtain⟨hW1,hW2,hW3⟩:=hW;go_simp;try with_reducible rfl
   try simp only[Act.put,List.setIfInBounds_toArray,List.set_cons_zero,List.set_cons_succ]
   refine takeH 1 (some 48) (v:= ?v1) rfl rfl (by kernel_rfl) (by kernel_rfl) (by kernel_rfl) (fun _ _ _ h=>h) (Or.inl ⟨by rfl,fun W hW=> ?hy1⟩) (by assumption) ?hr1
   case hy1=>obtain⟨hW1,hW2,hW3⟩:=hW;go_simp;try with_reducible rfl
   try simp only[Act.put,List.setIfInBounds_toArray,List.set_cons_zero,List.set_cons_succ]
   refine takeH 2 (some 49) (v:= ?v2) rfl rfl (by kernel_rfl) (by kernel_rfl) (by kernel_rfl) (fun _ _ _ h=>h) (Or.inl ⟨by rfl,fun W hW=> ?hy2⟩) (by assumption) ?hr2
   case hy2=>obtain⟨hW1,hW2,hW3⟩:=hW;go_simp;try with_reducible rfl
   try simp only[Act.put,List.setIfInBounds_toArray,List.set_cons_zero,List.set_cons_succ]
   refine takeH 3 (some 50) (v:= ?v3) rfl rfl (by kernel_rfl) (by kernel_rfl) (by kernel_rfl) (fun _ _ _ h=>h) (Or.inl ⟨by rfl,fun W hW=> ?hy3⟩) (by assumption) ?hr3
   case hy3=>obtain⟨hW1,hW2,hW3⟩:=hW;go_simp;try with_reducible rfl
   try simp only[Act.put,List.setIfInBounds_toArray,List.set_cons_zero,List.set_cons_succ]
   refine takeH 4 (some 51) (v:= ?v4) rfl rfl (by kernel_rfl) (by kernel_rfl) (by kernel_rfl) (fun _ _ _ h=>h) (Or.inl ⟨by rfl,fun W hW=> ?hy4⟩) (by assumption) ?hr4
   case hy4=>obtain⟨hW1,hW2,hW3⟩:=hW;go_simp;try with_reducible rfl
   try simp only[Act.put,List.setIfInBounds_toArray,List.set_cons_zero,List.set_cons_succ]
   refine takeH 5 (some 52) (v:= ?v5) rfl rfl (by kernel_rfl) (by kernel_rfl) (by kernel_rfl) (fun _ _ _ h=>h) (Or.inl ⟨by rfl,fun W hW=> ?hy5⟩) (by assumption) ?hr5
   case hy5=>obtain⟨hW1,hW2,hW3⟩:=hW;go_simp;try with_reducible rfl
   try simp only[Act.put,List.setIfInBounds_toArray,List.set_cons_zero,List.set_cons_succ]
   refine takeH 6 (some 53) (v:= ?v6) rfl rfl (by kernel_rfl) (by kernel_rfl) (by kernel_rfl) (fun _ _ _ h=>h) (Or.inl ⟨by rfl,fun W hW=> ?hy6⟩) (by assumption) ?hr6
   case hy6=>obtain⟨hW1,hW2,hW3⟩:=hW;go_simp;try with_reducible rfl
   try simp only[Act.put,List.setIfInBounds_toArray,List.set_cons_zero,List.set_cons_succ]
   refine takeH 7 (some 54) (v:= ?v7) rfl rfl (by kernel_rfl) (by kernel_rfl) (by kernel_rfl) (fun _ _ _ h=>h) (Or.inl ⟨by rfl,fun W hW=> ?hy7⟩) (by assumption) ?hr7
   case hy7=>obtain⟨hW1,hW2,hW3⟩:=hW;go_simp;try with_reducible rfl
   try simp only[Act.put,List.setIfInBounds_toArray,List.set_cons_zero,List.set_cons_succ]
   refine takeH 8 (some 55) (v:= ?v8) rfl rfl (by kernel_rfl) (by kernel_rfl) (by kernel_rfl) (fun _ _ _ h=>h) (Or.inl ⟨by rfl,fun W hW=> ?hy8⟩) (by assumption) ?hr8
   case hy8=>obtain⟨hW1,hW2,hW3⟩:=hW;go_simp;try with_reducible rfl
   try simp only[Act.put,List.setIfInBounds_toArray,List.set_cons_zero,List.set_cons_succ]
   refine takeH 9 (some 56) (v:= ?v9) rfl rfl (by kernel_rfl) (by kernel_rfl) (by kernel_rfl) (fun _ _ _ h=>h) (Or.inl ⟨by rfl,fun W hW=> ?hy9⟩) (by assumption) ?hr9
   case hy9=>obtain⟨hW1,hW2,hW3⟩:=hW;go_simp;try with_reducible rfl
   try simp only[Act.put,List.setIfInBounds_toArray,List.set_cons_zero,List.set_cons_succ]
   refine wpAnyH_ready (rs:=[10]) (by kernel_rfl) (by simp) ?_
   refine readyH (some 10) rfl rfl (fun K hK=> ?_) AllReadyH.nil
   go_simp
   refine hK _ _ (HV.out _ (below_drew ((Below.refl wm.heap.size wm).alloc (Nat.le_refl _) (.cells zcs 24)))) (fun hHeld=> ?_)
   clear hK K
   try simp only[Act.put,List.setIfInBounds_toArray,List.set_cons_zero,List.set_cons_succ]
   have kx3:((wm.alloc (.cells zcs 24)).drew).heap[wm.heap.size]?=some (.cells zcs 24 (0,0)):=heap_alloc_new wm _
   obtain⟨w4,st4,k4,g4⟩:=st_row ((wm.alloc (.cells zcs 24)).drew) wm.heap.size 24 24 zcs #[.int .i64 (N 0),.int .i64 (N 1),.int .u8 0,.int .i64 (N 3),.int .i64 0,.int .i64 0,.int .i64 0,.int .i64 0,.int .i64 0,.slice none 0 0,.slice none 0 0] kx3 info_deal rfl (by simp[Value.oneCell'])
   have b4:Below wm.heap.size wm w4:=(below_drew ((Below.refl wm.heap.size wm).alloc (Nat.le_refl _) _)).grown g4 (by simp[World.drew]) (by intro k e;cases e;exact Nat.le_refl _)
   refine wpAnyH_ready (rs:=[11]) (by kernel_rfl) (by simp) ?_
   refine readyH none rfl rfl (fun K hK=> ?_) AllReadyH.nil
   go_simp
   refine hK _ _ (HV.out _ b4) (fun hHeld=> ?_)
   clear hK K
   try simp only[Act.put,List.setIfInBounds_toArray,List.set_cons_zero,List.set_cons_succ]
   refine wpAnyH_done (by kernel_rfl) ?_ _
   have HK4:=Lib.hid k4
   have HB4:=Lib.hid b4
   have HG4:Hid (w4.grownBy w4 (some wm.heap.size)):=Lib.hid ⟨rfl,rfl,rfl,Nat.le_refl _,fun _ _ _=>rfl⟩
   have HX4:=Lib.hid (Array.getElem?_eq_some_iff.1 k4).1
   clear kx3 st4 k4 g4 b4 bb0 hHeld
   go_wp2
   go_loopw [11] (fun v wq=> ∃k:Nat,1≤k∧k≤9∧v=.int .u8 (k:Int)∧Hid (wq.heap[wm.heap.size]?=some (.cells #[.int .i64 (N 0),.int .i64 (N 1),.int .u8 ((Rt.kindTo (wd 2).data.toList (k-1):Nat):Int),.int .i64 (N 3),.int .i64 0,.int .i64 0,.int .i64 0,.int .i64 0,.int .i64 0,.slice none 0 0,.slice none 0 0] 24 (0,0)))∧Hid (w4.grownBy wq (some wm.heap.size))) (fun v _=>9-(intOf v).toNat)
   case atStart=>exact⟨1,by omega,by omega,rfl,HK4,HG4⟩
   case round=>
    obtain⟨k,hk1,hk9,rfl,HKq,HGq⟩:=hrel
    by_cases hlt:k≤8
    ·have hu:IntKind.u8.wrap ((k:Int)+1)=(k:Int)+1:=IntWalk.u8_in _ (by omega)
     have hkl:(k:Int)≤8:=by omega
     have hlt1:W1.heap.size<wm.heap.size:=Nat.lt_of_lt_of_le HW2.out HBr.out.size
     have q2:wr.cell? ⟨W1.heap.size,2,none⟩=some (.string (wd 2)):=
      HGq.out.cell ((HB4.out.cell (p:=⟨W1.heap.size,2,none⟩) hlt1).trans ((HBr.out.cell (p:=⟨W1.heap.size,2,none⟩) HW2.out).trans (HC.out 2 (by omega)))) (by simp;omega)
     obtain⟨W,hW⟩: ∃W:World,W=wr.drew:=⟨_,rfl⟩
     have q3:W.cell? ⟨W1.heap.size,2,none⟩=some (.string (wd 2)):=by rw[hW];exact q2
     have kW:W.heap[wm.heap.size]?=some (.cells #[.int .i64 (N 0),.int .i64 (N 1),.int .u8 ((Rt.kindTo (wd 2).data.toList (k-1):Nat):Int),.int .i64 (N 3),.int .i64 0,.int .i64 0,.int .i64 0,.int .i64 0,.int .i64 0,.slice none 0 0,.slice none 0 0] 24 (0,0)):=by rw[hW];exact HKq.out
     have gW:w4.grownBy W (some wm.heap.size):=by rw[hW];exact HGq.out.trans ⟨rfl,rfl,rfl,Nat.le_refl _,fun _ _ _=>rfl⟩
     have hwo:=word_a k hlt W
     have hkt:Rt.kindTo (wd 2).data.toList (k+1-1)=if Rt.word k=(wd 2).data.toList then k else Rt.kindTo (wd 2).data.toList (k-1):=by
      obtain⟨m,rfl⟩: ∃m,k=m+1:=⟨k-1,by omega⟩
      rfl
     have hmk:=mk_same (Rt.word k) (wd 2)
     obtain⟨sk,hsk⟩: ∃sk,(⟨(Rt.word k).toArray⟩:ByteArray)=sk:=⟨_,rfl⟩
     rw[hsk]at hwo hmk
     have hse:=str_same sk (wd 2)
     have HW:=Lib.hid hW
     have HKT:=Lib.hid hkt
     have p2:(2:Int)<(n:Int):=by omega
     clear hW q2 hsk hkt hlt1
     by_cases e:sk=wd 2
     ·have hq:(sk.toList==(wd 2).toList)=true:=by rw[hse];exact decide_eq_true e
      have st:=st_u8 (n:=(k:Int)) kW (show 2<11 by omega)
      obtain⟨W5,hW5⟩: ∃V:World,V=W.setCell ⟨wm.heap.size,2,none⟩ (.int .u8 (k:Int)):=⟨_,rfl⟩
      rw[←hW5]at st
      have HK5:Hid (W5.heap[wm.heap.size]?=some (.cells #[.int .i64 (N 0),.int .i64 (N 1),.int .u8 ((Rt.kindTo (wd 2).data.toList (k+1-1):Nat):Int),.int .i64 (N 3),.int .i64 0,.int .i64 0,.int .i64 0,.int .i64 0,.int .i64 0,.slice none 0 0,.slice none 0 0] 24 (0,0))):=Lib.hid (by
       rw[HKT.out,if_pos (hmk.1 e),hW5]
       exact hsc (j:=2) _ kW)
      have HG5:Hid (w4.grownBy W5 (some wm.heap.size)):=Lib.hid (by rw[hW5];exact gW.trans (gsc W ⟨wm.heap.size,2,none⟩ _))
      clear e hse hmk hW5 kW gW
      obtain⟨b2,hb2⟩: ∃b2,wd 2=b2:=⟨_,rfl⟩
      rw[hb2]at q3 hq
      clear hb2
      go_wp2
      refine still_all HW.out (by kernel_rfl) (by kernel_rfl) ?_
      repeat still_step
      still_call hwo
      repeat still_step
      refine wpStill_nil ?_
      go_wp2
      go_roundw
      case rel=>exact⟨k+1,by omega,by omega,by go_num,HK5,HG5⟩
      case measure=>first|(simp[intOf];done)|(simp[intOf];omega)
     ·have hq:(sk.toList==(wd 2).toList)=false:=by rw[hse];exact decide_eq_false e
      have HK5:Hid (W.heap[wm.heap.size]?=some (.cells #[.int .i64 (N 0),.int .i64 (N 1),.int .u8 ((Rt.kindTo (wd 2).data.toList (k+1-1):Nat):Int),.int .i64 (N 3),.int .i64 0,.int .i64 0,.int .i64 0,.int .i64 0,.int .i64 0,.slice none 0 0,.slice none 0 0] 24 (0,0))):=Lib.hid (by
       rw[HKT.out,if_neg (fun h=>e (hmk.2 h))]
       exact kW)
      have HG5:=Lib.hid gW
      clear e hse hmk kW gW
      obtain⟨b2,hb2⟩: ∃b2,wd 2=b2:=⟨_,rfl⟩
      rw[hb2]at q3 hq
      clear hb2
      go_wp2
      refine still_all HW.out (by kernel_rfl) (by kernel_rfl) ?_
      repeat still_step
      still_call hwo
      repeat still_step
      refine wpStill_nil ?_
      go_wp2
      go_roundw
      case rel=>exact⟨k+1,by omega,by omega,by go_num,HK5,HG5⟩
      case measure=>first|(simp[intOf];done)|(simp[intOf];omega)
    ·obtain rfl:k=9:=by omega
     obtain⟨K,hK⟩: ∃K,Rt.kindTo (wd 2).data.toList 8=K:=⟨_,rfl⟩
     have HKK:=Lib.hid hK
     have kq:wr.heap[wm.heap.size]?=some (.cells #[.int .i64 (N 0),.int .i64 (N 1),.int .u8 (K:Int),.int .i64 (N 3),.int .i64 0,.int .i64 0,.int .i64 0,.int .i64 0,.int .i64 0,.slice none 0 0,.slice none 0 0] 24 (0,0)):=by rw[←hK];exact HKq.out
     have hK8:K≤8:=hK▸Rt.kindTo_le _ _
     have bq:Below wm.heap.size wm wr:=HB4.out.grown HGq.out HB4.out.size (fun k e=>by cases e;exact Nat.le_refl _)
     have hsd:=seg_drop (HS5.out.up bq) 4
     have HBQ:=Lib.hid bq
     have HBQ4:Hid (w4.heap.size≤wr.heap.size):=Lib.hid HGq.out.size
     have HKX:=Lib.hid kq
     obtain⟨r,hr⟩: ∃r,ns.drop 4=r:=⟨_,rfl⟩
     have hrl:r.length=n-4:=by rw[←hr,List.length_drop,HL.out]
     rw[hr]at hsd
     have HSD:=Lib.hid hsd
     have HRr:=Lib.hid hr
     have HRL:=Lib.hid hrl
     have hnc: ∀B:Option Addr,Ints wr wr.heap.size B r→ ∀c,Calls Tryz.prog 94 #[.slice B (n-4) c] wr fun e w'=> ∃A' c',e=.returned (.slice A' r.length c')∧w'.ownsRow wr.heap.size 3 1 (.slice A' r.length c') r.length (r.flatMap encInt)∧Below wr.heap.size wr w':=fun B hB c=>by
      rw[←hrl]
      exact cloneI_own B c r wr hB (by omega)
     have HNC:=Lib.hid hnc
     clear hnc hK bq hsd hr hrl kq HKq HGq
     go_upto_region 19 with fail
     go_cut [12] (fun s12 wx=>Hid (wx.ownsRow wr.heap.size 3 1 s12 (r++[0,0,0]).length ((r++[0,0,0]).flatMap encInt))∧Hid (Below wr.heap.size wr wx))
     case first=>
      by_cases hc4:c5=4
      ·subst hc4
       have hr0:Ints wr wr.heap.size (some ⟨g,off,none⟩) r:=.inl (List.length_eq_zero_iff.1 (by rw[HRL.out];omega))
       have hcl:=HNC.out _ hr0 0
       clear hr0 hc5
       go_wp2_with fail
       refine hcl.mono ?_
       clear hcl
       rintro e w5 ⟨A',c',rfl,ho5,b5⟩
       obtain⟨v6,w6,hrun,ho6,hb6⟩:=own_more layI (w1:=w5) ho5 [0,0,0] (r++[0,0,0]) 2 rfl #[.int .i64 0,.int .i64 0,.int .i64 0] rfl rfl (by rw[HRL.out];omega) (by decide) b5.size
       have HO6:=Lib.hid ho6
       have HB6:=Lib.hid (b5.trans hb6)
       clear ho5 b5 ho6 hb6
       go_wp2
       go_meet
       exact⟨HO6,HB6⟩
      ·have hcl:=HNC.out _ HSD.out (c5-4)
       go_wp2_with fail
       refine hcl.mono ?_
       clear hcl
       rintro e w5 ⟨A',c',rfl,ho5,b5⟩
       obtain⟨v6,w6,hrun,ho6,hb6⟩:=own_more layI (w1:=w5) ho5 [0,0,0] (r++[0,0,0]) 2 rfl #[.int .i64 0,.int .i64 0,.int .i64 0] rfl rfl (by rw[HRL.out];omega) (by decide) b5.size
       have HO6:=Lib.hid ho6
       have HB6:=Lib.hid (b5.trans hb6)
       clear ho5 b5 ho6 hb6
       go_wp2
       go_meet
       exact⟨HO6,HB6⟩
     case rest=>
      obtain⟨HO12,HB12⟩:=hcut
      obtain⟨wk,rfl⟩: ∃wk:World,wk=wc:=⟨_,rfl⟩
      obtain⟨A12,c12,hv12,hs12,_,hfr⟩:=own_seg layI HO12.out
      subst hv12
      obtain⟨g2,off2,rfl,hg2,hce2⟩:=Ints.all hs12 (by simp)
      have hg2f:wr.heap.size≤g2:=hfr _ rfl
      obtain⟨R,hR⟩: ∃R:Nat→Int,∀k,r.getD k 0=R k:=⟨_,fun _=>rfl⟩
      have hRR: ∀k,k<3→(r++[0,0,0]).getD k 0=R k:=fun k hk=>by
       rw[←hR,List.getD_eq_getElem?_getD,List.getD_eq_getElem?_getD]
       by_cases h:k<r.length
       ·rw[List.getElem?_append_left h]
       ·rw[List.getElem?_append_right (by omega),List.getElem?_eq_none (l:=r) (by omega)]
        rcases(show k-r.length=0∨k-r.length=1∨k-r.length=2 by omega)with e|e|e<;>rw[e]<;>rfl
      have HRR:=Lib.hid hR
      have hm3:3≤(r++[0,0,0]).length:=by simp
      have hbX:wm.heap.size<wr.heap.size:=Nat.lt_of_lt_of_le HX4.out HBQ4.out
      have kX:wk.heap[wm.heap.size]?=some (.cells #[.int .i64 (N 0),.int .i64 (N 1),.int .u8 (K:Int),.int .i64 (N 3),.int .i64 0,.int .i64 0,.int .i64 0,.int .i64 0,.int .i64 0,.slice none 0 0,.slice none 0 0] 24 (0,0)):=(HB12.out.block _ hbX).trans HKX.out
      have HSV:Hid (∀V:World,wk.grownBy V (some wm.heap.size)→(V.cell? ⟨g2,off2,none⟩=some (.int .i64 (R 0))∧V.cell? ⟨g2,off2+1,none⟩=some (.int .i64 (R 1))∧V.cell? ⟨g2,off2+2,none⟩=some (.int .i64 (R 2)))):=Lib.hid fun V hV=>by
       have c0:=hce2 0 (by omega)
       have c1:=hce2 1 (by omega)
       have c2:=hce2 2 (by omega)
       rw[hRR 0 (by omega)]at c0
       rw[hRR 1 (by omega)]at c1
       rw[hRR 2 (by omega)]at c2
       exact⟨hV.cell c0 (by simp;omega),hV.cell c1 (by simp;omega),hV.cell c2 (by simp;omega)⟩
      have hxw:wm.heap.size<wk.heap.size:=(Array.getElem?_eq_some_iff.1 kX).1
      have HXW:=Lib.hid hxw
      have HGG:Hid (g<wm.heap.size):=Hg
      have HNC2:Hid (∀V:World,wk.grownBy V (some wm.heap.size)→ ∀k,k<n→V.cell? ⟨g,off+k,none⟩=some (.int .i64 (N k))):=Lib.hid fun V hV k hk=>by
       refine hV.cell ?_ (by have:=Hg.out;simp;omega)
       exact(HB12.out.cell (p:=⟨g,off+k,none⟩) (show g<wr.heap.size by have:=Hg.out;omega)).trans ((HBQ.out.cell (p:=⟨g,off+k,none⟩) Hg.out).trans (HCE.out k hk))
      obtain⟨m,hm⟩: ∃m,(r++[0,0,0]).length=m:=⟨_,rfl⟩
      rw[hm]at hm3 ⊢
      have m0:0<m:=by omega
      have m1:(1:Int)<(m:Int):=by omega
      have m2:(2:Int)<(m:Int):=by omega
      have HM:=Lib.hid hm
      have HKX2:=Lib.hid kX
      have HG0:Hid (wk.grownBy wk (some wm.heap.size)):=Lib.hid ⟨rfl,rfl,rfl,Nat.le_refl _,fun _ _ _=>rfl⟩
      obtain⟨hcX,hfX⟩:=blk_cells kX
      clear hce2 hs12 hR hRR hm hbX hg2 hfr hg2f kX
      go_upto_region 20 with fail
      go_upto_block 4 with fail
      clear hcX hfX
      go_cut [12] (fun s12 wx=> ∃A1 A2 c1 c2,Hid (wx.heap[wm.heap.size]?=some (oDl (Rt.made ns K) A1 A2 c1 c2))∧Hid (DS wx wx.heap.size A1 A2 (Rt.made ns K))∧Hid ((Rt.made ns K).into.length≤c1)∧Hid ((Rt.made ns K).sizes.length≤c2)∧Hid (wk.grownBy wx (some wm.heap.size))∧Hid (From wk.heap.size A1∧From wk.heap.size A2))
      case first=>
       have hkk:K=0∨K=1∨K=7∨K=2∨K=3∨K=4∨K=5∨K=6∨K=8:=by omega
       rcases hkk with rfl|rfl|rfl|rfl|rfl|rfl|rfl|rfl|rfl
       ·
        have gv0:=HG0.out
        have kv0:wk.heap[wm.heap.size]?=some (.cells #[.int .i64 (N 0),.int .i64 (N 1),.int .u8 0,.int .i64 (N 3),.int .i64 0,.int .i64 0,.int .i64 0,.int .i64 0,.int .i64 0,.slice none 0 0,.slice none 0 0] 24 (0,0)):=HKX2.out
        have hrow:xcs (Rt.made ns 0) none none 0 0= #[.int .i64 (N 0),.int .i64 (N 1),.int .u8 0,.int .i64 (N 3),.int .i64 0,.int .i64 0,.int .i64 0,.int .i64 0,.int .i64 0,.slice none 0 0,.slice none 0 0]:=by rw[row0];simp only[HN.out,HRr.out,HRR.out]
        have HKF:Hid (wk.heap[wm.heap.size]?=some (oDl (Rt.made ns 0) none none 0 0)):=Lib.hid (by unfold oDl;rw[hrow];exact kv0)
        have HGF:Hid (wk.grownBy wk (some wm.heap.size)):=Lib.hid gv0
        have HDF:Hid (DS wk wk.heap.size none none (Rt.made ns 0)):=Lib.hid (DS.none rfl rfl)
        obtain⟨hS1,hS2,hS3⟩:=HSV.out _ HG0.out
        clear hrow kv0 gv0
        go_wp2
        go_meet
        exact⟨none,none,0,0,HKF,HDF,Lib.hid (Nat.le_refl _),Lib.hid (Nat.le_refl _),HGF,Lib.hid ⟨fun a e=>(by cases e),fun a e=>(by cases e)⟩⟩
       ·
        obtain⟨V0,hV0⟩: ∃V:World,V=wk.drew:=⟨_,rfl⟩
        have gv0:wk.grownBy V0 (some wm.heap.size):=by rw[hV0];exact⟨rfl,rfl,rfl,Nat.le_refl _,fun _ _ _=>rfl⟩
        have kv0:V0.heap[wm.heap.size]?=some (.cells #[.int .i64 (N 0),.int .i64 (N 1),.int .u8 1,.int .i64 (N 3),.int .i64 0,.int .i64 0,.int .i64 0,.int .i64 0,.int .i64 0,.slice none 0 0,.slice none 0 0] 24 (0,0)):=by rw[hV0];exact HKX2.out
        have s0:=st_int (n:=R 0) kv0 (show 6<11 by omega)
        obtain⟨V1,hV1⟩: ∃V:World,V=V0.setCell ⟨wm.heap.size,6,none⟩ (.int .i64 (R 0)):=⟨_,rfl⟩
        rw[←hV1]at s0
        have kv1:V1.heap[wm.heap.size]?=some (.cells #[.int .i64 (N 0),.int .i64 (N 1),.int .u8 1,.int .i64 (N 3),.int .i64 0,.int .i64 0,.int .i64 (R 0),.int .i64 0,.int .i64 0,.slice none 0 0,.slice none 0 0] 24 (0,0)):=by rw[hV1];exact hsc (j:=6) _ kv0
        have gv1:wk.grownBy V1 (some wm.heap.size):=by rw[hV1];exact gv0.trans (gsc V0 ⟨wm.heap.size,6,none⟩ _)
        clear hV1
        have s1:=st_int (n:=R 1) kv1 (show 8<11 by omega)
        obtain⟨V2,hV2⟩: ∃V:World,V=V1.setCell ⟨wm.heap.size,8,none⟩ (.int .i64 (R 1)):=⟨_,rfl⟩
        rw[←hV2]at s1
        have kv2:V2.heap[wm.heap.size]?=some (.cells #[.int .i64 (N 0),.int .i64 (N 1),.int .u8 1,.int .i64 (N 3),.int .i64 0,.int .i64 0,.int .i64 (R 0),.int .i64 0,.int .i64 (R 1),.slice none 0 0,.slice none 0 0] 24 (0,0)):=by rw[hV2];exact hsc (j:=8) _ kv1
        have gv2:wk.grownBy V2 (some wm.heap.size):=by rw[hV2];exact gv1.trans (gsc V1 ⟨wm.heap.size,8,none⟩ _)
        clear hV2
        have hrow:xcs (Rt.made ns 1) none none 0 0= #[.int .i64 (N 0),.int .i64 (N 1),.int .u8 1,.int .i64 (N 3),.int .i64 0,.int .i64 0,.int .i64 (R 0),.int .i64 0,.int .i64 (R 1),.slice none 0 0,.slice none 0 0]:=by rw[row1];simp only[HN.out,HRr.out,HRR.out]
        have HKF:Hid (V2.heap[wm.heap.size]?=some (oDl (Rt.made ns 1) none none 0 0)):=Lib.hid (by unfold oDl;rw[hrow];exact kv2)
        have HGF:Hid (wk.grownBy V2 (some wm.heap.size)):=Lib.hid gv2
        have HDF:Hid (DS V2 V2.heap.size none none (Rt.made ns 1)):=Lib.hid (DS.none rfl rfl)
        have hS0:=HSV.out _ gv0
        have hS1:=HSV.out _ gv1
        have hS2:=HSV.out _ gv2
        clear hrow kv0 gv0 kv1 gv1 kv2 gv2
        go_wp2
        refine wp_region_held_drew (S:=fun V=>V.cell? ⟨g2,off2,none⟩=some (.int .i64 (R 0))∧V.cell? ⟨g2,off2+1,none⟩=some (.int .i64 (R 1))∧V.cell? ⟨g2,off2+2,none⟩=some (.int .i64 (R 2))) (by kernel_rfl) (by rw[←hV0];exact hS0) (fun hHeld=> ?_)
        rw[←hV0]at hHeld ⊢
        clear hV0
        refine takeH 0 (some 79) (v:= ?vk1x0) rfl rfl (by kernel_rfl) (by kernel_rfl) (by kernel_rfl) (fun _ _ _ h=>h) (Or.inl ⟨by rfl,fun W hW=> ?hyk1x0⟩) (by assumption) ?hrk1x0
        case hyk1x0=>obtain⟨hW1,hW2,hW3⟩:=hW;go_simp;try with_reducible rfl
        try simp only[Act.put,List.setIfInBounds_toArray,List.set_cons_zero,List.set_cons_succ]
        refine takeH 1 (some 80) (v:= ?vk1x1) rfl rfl (by kernel_rfl) (by kernel_rfl) (by kernel_rfl) (fun _ _ _ h=>h) (Or.inl ⟨by rfl,fun W hW=> ?hyk1x1⟩) (by assumption) ?hrk1x1
        case hyk1x1=>obtain⟨hW1,hW2,hW3⟩:=hW;go_simp;try with_reducible rfl
        try simp only[Act.put,List.setIfInBounds_toArray,List.set_cons_zero,List.set_cons_succ]
        refine takeH 2 (some 81) (v:= ?vk1x2) rfl rfl (by kernel_rfl) (by kernel_rfl) (by kernel_rfl) (fun _ _ _ h=>h) (Or.inl ⟨by rfl,fun W hW=> ?hyk1x2⟩) (by assumption) ?hrk1x2
        case hyk1x2=>obtain⟨hW1,hW2,hW3⟩:=hW;go_simp;try with_reducible rfl
        try simp only[Act.put,List.setIfInBounds_toArray,List.set_cons_zero,List.set_cons_succ]
        refine takeH 3 (some 82) (v:= ?vk1x3) rfl rfl (by kernel_rfl) (by kernel_rfl) (by kernel_rfl) (fun _ _ _ h=>h) (Or.inl ⟨by rfl,fun W hW=> ?hyk1x3⟩) (by assumption) ?hrk1x3
        case hyk1x3=>obtain⟨hW1,hW2,hW3⟩:=hW;go_simp;try with_reducible rfl
        try simp only[Act.put,List.setIfInBounds_toArray,List.set_cons_zero,List.set_cons_succ]
        refine takeH 4 (some 83) (v:= ?vk1x4) rfl rfl (by kernel_rfl) (by kernel_rfl) (by kernel_rfl) (fun _ _ _ h=>h) (Or.inl ⟨by rfl,fun W hW=> ?hyk1x4⟩) (by assumption) ?hrk1x4
        case hyk1x4=>obtain⟨hW1,hW2,hW3⟩:=hW;go_simp;try with_reducible rfl
        try simp only[Act.put,List.setIfInBounds_toArray,List.set_cons_zero,List.set_cons_succ]
        refine takeH 5 (some 84) (v:= ?vk1x5) rfl rfl (by kernel_rfl) (by kernel_rfl) (by kernel_rfl) (fun _ _ _ h=>h) (Or.inl ⟨by rfl,fun W hW=> ?hyk1x5⟩) (by assumption) ?hrk1x5
        case hyk1x5=>obtain⟨hW1,hW2,hW3⟩:=hW;go_simp;try with_reducible rfl
        try simp only[Act.put,List.setIfInBounds_toArray,List.set_cons_zero,List.set_cons_succ]
        refine takeH 6 (some 85) (v:= ?vk1x6) rfl rfl (by kernel_rfl) (by kernel_rfl) (by kernel_rfl) (fun _ _ _ h=>h) (Or.inl ⟨by rfl,fun W hW=> ?hyk1x6⟩) (by assumption) ?hrk1x6
        case hyk1x6=>obtain⟨hW1,hW2,hW3⟩:=hW;go_simp;try with_reducible rfl
        try simp only[Act.put,List.setIfInBounds_toArray,List.set_cons_zero,List.set_cons_succ]
        refine wpAnyH_ready (rs:=[7]) (by kernel_rfl) (by simp) ?_
        refine readyH none rfl rfl (fun K hK=> ?_) AllReadyH.nil
        go_simp
        refine hK _ _ hS1 (fun hHeld=> ?_)
        clear hK K
        try simp only[Act.put,List.setIfInBounds_toArray,List.set_cons_zero,List.set_cons_succ]
        refine takeH 8 (some 86) (v:= ?vk1x8) rfl rfl (by kernel_rfl) (by kernel_rfl) (by kernel_rfl) (fun _ _ _ h=>h) (Or.inl ⟨by rfl,fun W hW=> ?hyk1x8⟩) (by assumption) ?hrk1x8
        case hyk1x8=>obtain⟨hW1,hW2,hW3⟩:=hW;go_simp;try with_reducible rfl
        try simp only[Act.put,List.setIfInBounds_toArray,List.set_cons_zero,List.set_cons_succ]
        refine wpAnyH_ready (rs:=[9]) (by kernel_rfl) (by simp) ?_
        refine readyH none rfl rfl (fun K hK=> ?_) AllReadyH.nil
        go_simp
        refine hK _ _ hS2 (fun hHeld=> ?_)
        clear hK K
        try simp only[Act.put,List.setIfInBounds_toArray,List.set_cons_zero,List.set_cons_succ]
        refine wpAnyH_done (by kernel_rfl) ?_ _
        go_wp2
        go_meet
        exact⟨none,none,0,0,HKF,HDF,Lib.hid (Nat.le_refl _),Lib.hid (Nat.le_refl _),HGF,Lib.hid ⟨fun a e=>(by cases e),fun a e=>(by cases e)⟩⟩
       ·
        obtain⟨V0,hV0⟩: ∃V:World,V=wk.drew:=⟨_,rfl⟩
        have gv0:wk.grownBy V0 (some wm.heap.size):=by rw[hV0];exact⟨rfl,rfl,rfl,Nat.le_refl _,fun _ _ _=>rfl⟩
        have kv0:V0.heap[wm.heap.size]?=some (.cells #[.int .i64 (N 0),.int .i64 (N 1),.int .u8 7,.int .i64 (N 3),.int .i64 0,.int .i64 0,.int .i64 0,.int .i64 0,.int .i64 0,.slice none 0 0,.slice none 0 0] 24 (0,0)):=by rw[hV0];exact HKX2.out
        have s0:=st_int (n:=R 0) kv0 (show 6<11 by omega)
        obtain⟨V1,hV1⟩: ∃V:World,V=V0.setCell ⟨wm.heap.size,6,none⟩ (.int .i64 (R 0)):=⟨_,rfl⟩
        rw[←hV1]at s0
        have kv1:V1.heap[wm.heap.size]?=some (.cells #[.int .i64 (N 0),.int .i64 (N 1),.int .u8 7,.int .i64 (N 3),.int .i64 0,.int .i64 0,.int .i64 (R 0),.int .i64 0,.int .i64 0,.slice none 0 0,.slice none 0 0] 24 (0,0)):=by rw[hV1];exact hsc (j:=6) _ kv0
        have gv1:wk.grownBy V1 (some wm.heap.size):=by rw[hV1];exact gv0.trans (gsc V0 ⟨wm.heap.size,6,none⟩ _)
        clear hV1
        have s1:=st_int (n:=R 1) kv1 (show 8<11 by omega)
        obtain⟨V2,hV2⟩: ∃V:World,V=V1.setCell ⟨wm.heap.size,8,none⟩ (.int .i64 (R 1)):=⟨_,rfl⟩
        rw[←hV2]at s1
        have kv2:V2.heap[wm.heap.size]?=some (.cells #[.int .i64 (N 0),.int .i64 (N 1),.int .u8 7,.int .i64 (N 3),.int .i64 0,.int .i64 0,.int .i64 (R 0),.int .i64 0,.int .i64 (R 1),.slice none 0 0,.slice none 0 0] 24 (0,0)):=by rw[hV2];exact hsc (j:=8) _ kv1
        have gv2:wk.grownBy V2 (some wm.heap.size):=by rw[hV2];exact gv1.trans (gsc V1 ⟨wm.heap.size,8,none⟩ _)
        clear hV2
        have hrow:xcs (Rt.made ns 7) none none 0 0= #[.int .i64 (N 0),.int .i64 (N 1),.int .u8 7,.int .i64 (N 3),.int .i64 0,.int .i64 0,.int .i64 (R 0),.int .i64 0,.int .i64 (R 1),.slice none 0 0,.slice none 0 0]:=by rw[row7];simp only[HN.out,HRr.out,HRR.out]
        have HKF:Hid (V2.heap[wm.heap.size]?=some (oDl (Rt.made ns 7) none none 0 0)):=Lib.hid (by unfold oDl;rw[hrow];exact kv2)
        have HGF:Hid (wk.grownBy V2 (some wm.heap.size)):=Lib.hid gv2
        have HDF:Hid (DS V2 V2.heap.size none none (Rt.made ns 7)):=Lib.hid (DS.none rfl rfl)
        have hS0:=HSV.out _ gv0
        have hS1:=HSV.out _ gv1
        have hS2:=HSV.out _ gv2
        clear hrow kv0 gv0 kv1 gv1 kv2 gv2
        go_wp2
        refine wp_region_held_drew (S:=fun V=>V.cell? ⟨g2,off2,none⟩=some (.int .i64 (R 0))∧V.cell? ⟨g2,off2+1,none⟩=some (.int .i64 (R 1))∧V.cell? ⟨g2,off2+2,none⟩=some (.int .i64 (R 2))) (by kernel_rfl) (by rw[←hV0];exact hS0) (fun hHeld=> ?_)
        rw[←hV0]at hHeld ⊢
        clear hV0
        refine takeH 0 (some 79) (v:= ?vk7x0) rfl rfl (by kernel_rfl) (by kernel_rfl) (by kernel_rfl) (fun _ _ _ h=>h) (Or.inl ⟨by rfl,fun W hW=> ?hyk7x0⟩) (by assumption) ?hrk7x0
        case hyk7x0=>obtain⟨hW1,hW2,hW3⟩:=hW;go_simp;try with_reducible rfl
        try simp only[Act.put,List.setIfInBounds_toArray,List.set_cons_zero,List.set_cons_succ]
        refine takeH 1 (some 80) (v:= ?vk7x1) rfl rfl (by kernel_rfl) (by kernel_rfl) (by kernel_rfl) (fun _ _ _ h=>h) (Or.inl ⟨by rfl,fun W hW=> ?hyk7x1⟩) (by assumption) ?hrk7x1
        case hyk7x1=>obtain⟨hW1,hW2,hW3⟩:=hW;go_simp;try with_reducible rfl
        try simp only[Act.put,List.setIfInBounds_toArray,List.set_cons_zero,List.set_cons_succ]
        refine takeH 2 (some 81) (v:= ?vk7x2) rfl rfl (by kernel_rfl) (by kernel_rfl) (by kernel_rfl) (fun _ _ _ h=>h) (Or.inl ⟨by rfl,fun W hW=> ?hyk7x2⟩) (by assumption) ?hrk7x2
        case hyk7x2=>obtain⟨hW1,hW2,hW3⟩:=hW;go_simp;try with_reducible rfl
        try simp only[Act.put,List.setIfInBounds_toArray,List.set_cons_zero,List.set_cons_succ]
        refine takeH 3 (some 82) (v:= ?vk7x3) rfl rfl (by kernel_rfl) (by kernel_rfl) (by kernel_rfl) (fun _ _ _ h=>h) (Or.inl ⟨by rfl,fun W hW=> ?hyk7x3⟩) (by assumption) ?hrk7x3
        case hyk7x3=>obtain⟨hW1,hW2,hW3⟩:=hW;go_simp;try with_reducible rfl
        try simp only[Act.put,List.setIfInBounds_toArray,List.set_cons_zero,List.set_cons_succ]
        refine takeH 4 (some 83) (v:= ?vk7x4) rfl rfl (by kernel_rfl) (by kernel_rfl) (by kernel_rfl) (fun _ _ _ h=>h) (Or.inl ⟨by rfl,fun W hW=> ?hyk7x4⟩) (by assumption) ?hrk7x4
        case hyk7x4=>obtain⟨hW1,hW2,hW3⟩:=hW;go_simp;try with_reducible rfl
        try simp only[Act.put,List.setIfInBounds_toArray,List.set_cons_zero,List.set_cons_succ]
        refine takeH 5 (some 84) (v:= ?vk7x5) rfl rfl (by kernel_rfl) (by kernel_rfl) (by kernel_rfl) (fun _ _ _ h=>h) (Or.inl ⟨by rfl,fun W hW=> ?hyk7x5⟩) (by assumption) ?hrk7x5
        case hyk7x5=>obtain⟨hW1,hW2,hW3⟩:=hW;go_simp;try with_reducible rfl
        try simp only[Act.put,List.setIfInBounds_toArray,List.set_cons_zero,List.set_cons_succ]
        refine takeH 6 (some 85) (v:= ?vk7x6) rfl rfl (by kernel_rfl) (by kernel_rfl) (by kernel_rfl) (fun _ _ _ h=>h) (Or.inl ⟨by rfl,fun W hW=> ?hyk7x6⟩) (by assumption) ?hrk7x6
        case hyk7x6=>obtain⟨hW1,hW2,hW3⟩:=hW;go_simp;try with_reducible rfl
        try simp only[Act.put,List.setIfInBounds_toArray,List.set_cons_zero,List.set_cons_succ]
        refine wpAnyH_ready (rs:=[7]) (by kernel_rfl) (by simp) ?_
        refine readyH none rfl rfl (fun K hK=> ?_) AllReadyH.nil
        go_simp
        refine hK _ _ hS1 (fun hHeld=> ?_)
        clear hK K
        try simp only[Act.put,List.setIfInBounds_toArray,List.set_cons_zero,List.set_cons_succ]
        refine takeH 8 (some 86) (v:= ?vk7x8) rfl rfl (by kernel_rfl) (by kernel_rfl) (by kernel_rfl) (fun _ _ _ h=>h) (Or.inl ⟨by rfl,fun W hW=> ?hyk7x8⟩) (by assumption) ?hrk7x8
        case hyk7x8=>obtain⟨hW1,hW2,hW3⟩:=hW;go_simp;try with_reducible rfl
        try simp only[Act.put,List.setIfInBounds_toArray,List.set_cons_zero,List.set_cons_succ]
        refine wpAnyH_ready (rs:=[9]) (by kernel_rfl) (by simp) ?_
        refine readyH none rfl rfl (fun K hK=> ?_) AllReadyH.nil
        go_simp
        refine hK _ _ hS2 (fun hHeld=> ?_)
        clear hK K
        try simp only[Act.put,List.setIfInBounds_toArray,List.set_cons_zero,List.set_cons_succ]
        refine wpAnyH_done (by kernel_rfl) ?_ _
        go_wp2
        go_meet
        exact⟨none,none,0,0,HKF,HDF,Lib.hid (Nat.le_refl _),Lib.hid (Nat.le_refl _),HGF,Lib.hid ⟨fun a e=>(by cases e),fun a e=>(by cases e)⟩⟩
       ·
        obtain⟨V0,hV0⟩: ∃V:World,V=wk.drew:=⟨_,rfl⟩
        have gv0:wk.grownBy V0 (some wm.heap.size):=by rw[hV0];exact⟨rfl,rfl,rfl,Nat.le_refl _,fun _ _ _=>rfl⟩
        have kv0:V0.heap[wm.heap.size]?=some (.cells #[.int .i64 (N 0),.int .i64 (N 1),.int .u8 2,.int .i64 (N 3),.int .i64 0,.int .i64 0,.int .i64 0,.int .i64 0,.int .i64 0,.slice none 0 0,.slice none 0 0] 24 (0,0)):=by rw[hV0];exact HKX2.out
        have s0:=st_int (n:=R 0) kv0 (show 5<11 by omega)
        obtain⟨V1,hV1⟩: ∃V:World,V=V0.setCell ⟨wm.heap.size,5,none⟩ (.int .i64 (R 0)):=⟨_,rfl⟩
        rw[←hV1]at s0
        have kv1:V1.heap[wm.heap.size]?=some (.cells #[.int .i64 (N 0),.int .i64 (N 1),.int .u8 2,.int .i64 (N 3),.int .i64 0,.int .i64 (R 0),.int .i64 0,.int .i64 0,.int .i64 0,.slice none 0 0,.slice none 0 0] 24 (0,0)):=by rw[hV1];exact hsc (j:=5) _ kv0
        have gv1:wk.grownBy V1 (some wm.heap.size):=by rw[hV1];exact gv0.trans (gsc V0 ⟨wm.heap.size,5,none⟩ _)
        clear hV1
        have s1:=st_int (n:=R 1) kv1 (show 6<11 by omega)
        obtain⟨V2,hV2⟩: ∃V:World,V=V1.setCell ⟨wm.heap.size,6,none⟩ (.int .i64 (R 1)):=⟨_,rfl⟩
        rw[←hV2]at s1
        have kv2:V2.heap[wm.heap.size]?=some (.cells #[.int .i64 (N 0),.int .i64 (N 1),.int .u8 2,.int .i64 (N 3),.int .i64 0,.int .i64 (R 0),.int .i64 (R 1),.int .i64 0,.int .i64 0,.slice none 0 0,.slice none 0 0] 24 (0,0)):=by rw[hV2];exact hsc (j:=6) _ kv1
        have gv2:wk.grownBy V2 (some wm.heap.size):=by rw[hV2];exact gv1.trans (gsc V1 ⟨wm.heap.size,6,none⟩ _)
        clear hV2
        have s2:=st_int (n:=R 2) kv2 (show 7<11 by omega)
        obtain⟨V3,hV3⟩: ∃V:World,V=V2.setCell ⟨wm.heap.size,7,none⟩ (.int .i64 (R 2)):=⟨_,rfl⟩
        rw[←hV3]at s2
        have kv3:V3.heap[wm.heap.size]?=some (.cells #[.int .i64 (N 0),.int .i64 (N 1),.int .u8 2,.int .i64 (N 3),.int .i64 0,.int .i64 (R 0),.int .i64 (R 1),.int .i64 (R 2),.int .i64 0,.slice none 0 0,.slice none 0 0] 24 (0,0)):=by rw[hV3];exact hsc (j:=7) _ kv2
        have gv3:wk.grownBy V3 (some wm.heap.size):=by rw[hV3];exact gv2.trans (gsc V2 ⟨wm.heap.size,7,none⟩ _)
        clear hV3
        have hrow:xcs (Rt.made ns 2) none none 0 0= #[.int .i64 (N 0),.int .i64 (N 1),.int .u8 2,.int .i64 (N 3),.int .i64 0,.int .i64 (R 0),.int .i64 (R 1),.int .i64 (R 2),.int .i64 0,.slice none 0 0,.slice none 0 0]:=by rw[row2];simp only[HN.out,HRr.out,HRR.out]
        have HKF:Hid (V3.heap[wm.heap.size]?=some (oDl (Rt.made ns 2) none none 0 0)):=Lib.hid (by unfold oDl;rw[hrow];exact kv3)
        have HGF:Hid (wk.grownBy V3 (some wm.heap.size)):=Lib.hid gv3
        have HDF:Hid (DS V3 V3.heap.size none none (Rt.made ns 2)):=Lib.hid (DS.none rfl rfl)
        have hS0:=HSV.out _ gv0
        have hS1:=HSV.out _ gv1
        have hS2:=HSV.out _ gv2
        have hS3:=HSV.out _ gv3
        clear hrow kv0 gv0 kv1 gv1 kv2 gv2 kv3 gv3
        go_wp2
        refine wp_region_held_drew (S:=fun V=>V.cell? ⟨g2,off2,none⟩=some (.int .i64 (R 0))∧V.cell? ⟨g2,off2+1,none⟩=some (.int .i64 (R 1))∧V.cell? ⟨g2,off2+2,none⟩=some (.int .i64 (R 2))) (by kernel_rfl) (by rw[←hV0];exact hS0) (fun hHeld=> ?_)
        rw[←hV0]at hHeld ⊢
        clear hV0
        refine takeH 0 (some 89) (v:= ?vk2x0) rfl rfl (by kernel_rfl) (by kernel_rfl) (by kernel_rfl) (fun _ _ _ h=>h) (Or.inl ⟨by rfl,fun W hW=> ?hyk2x0⟩) (by assumption) ?hrk2x0
        case hyk2x0=>obtain⟨hW1,hW2,hW3⟩:=hW;go_simp;try with_reducible rfl
        try simp only[Act.put,List.setIfInBounds_toArray,List.set_cons_zero,List.set_cons_succ]
        refine takeH 1 (some 90) (v:= ?vk2x1) rfl rfl (by kernel_rfl) (by kernel_rfl) (by kernel_rfl) (fun _ _ _ h=>h) (Or.inl ⟨by rfl,fun W hW=> ?hyk2x1⟩) (by assumption) ?hrk2x1
        case hyk2x1=>obtain⟨hW1,hW2,hW3⟩:=hW;go_simp;try with_reducible rfl
        try simp only[Act.put,List.setIfInBounds_toArray,List.set_cons_zero,List.set_cons_succ]
        refine takeH 2 (some 91) (v:= ?vk2x2) rfl rfl (by kernel_rfl) (by kernel_rfl) (by kernel_rfl) (fun _ _ _ h=>h) (Or.inl ⟨by rfl,fun W hW=> ?hyk2x2⟩) (by assumption) ?hrk2x2
        case hyk2x2=>obtain⟨hW1,hW2,hW3⟩:=hW;go_simp;try with_reducible rfl
        try simp only[Act.put,List.setIfInBounds_toArray,List.set_cons_zero,List.set_cons_succ]
        refine takeH 3 (some 92) (v:= ?vk2x3) rfl rfl (by kernel_rfl) (by kernel_rfl) (by kernel_rfl) (fun _ _ _ h=>h) (Or.inl ⟨by rfl,fun W hW=> ?hyk2x3⟩) (by assumption) ?hrk2x3
        case hyk2x3=>obtain⟨hW1,hW2,hW3⟩:=hW;go_simp;try with_reducible rfl
        try simp only[Act.put,List.setIfInBounds_toArray,List.set_cons_zero,List.set_cons_succ]
        refine takeH 4 (some 93) (v:= ?vk2x4) rfl rfl (by kernel_rfl) (by kernel_rfl) (by kernel_rfl) (fun _ _ _ h=>h) (Or.inl ⟨by rfl,fun W hW=> ?hyk2x4⟩) (by assumption) ?hrk2x4
        case hyk2x4=>obtain⟨hW1,hW2,hW3⟩:=hW;go_simp;try with_reducible rfl
        try simp only[Act.put,List.setIfInBounds_toArray,List.set_cons_zero,List.set_cons_succ]
        refine takeH 5 (some 94) (v:= ?vk2x5) rfl rfl (by kernel_rfl) (by kernel_rfl) (by kernel_rfl) (fun _ _ _ h=>h) (Or.inl ⟨by rfl,fun W hW=> ?hyk2x5⟩) (by assumption) ?hrk2x5
        case hyk2x5=>obtain⟨hW1,hW2,hW3⟩:=hW;go_simp;try with_reducible rfl
        try simp only[Act.put,List.setIfInBounds_toArray,List.set_cons_zero,List.set_cons_succ]
        refine takeH 6 (some 95) (v:= ?vk2x6) rfl rfl (by kernel_rfl) (by kernel_rfl) (by kernel_rfl) (fun _ _ _ h=>h) (Or.inl ⟨by rfl,fun W hW=> ?hyk2x6⟩) (by assumption) ?hrk2x6
        case hyk2x6=>obtain⟨hW1,hW2,hW3⟩:=hW;go_simp;try with_reducible rfl
        try simp only[Act.put,List.setIfInBounds_toArray,List.set_cons_zero,List.set_cons_succ]
        refine takeH 7 (some 96) (v:= ?vk2x7) rfl rfl (by kernel_rfl) (by kernel_rfl) (by kernel_rfl) (fun _ _ _ h=>h) (Or.inl ⟨by rfl,fun W hW=> ?hyk2x7⟩) (by assumption) ?hrk2x7
        case hyk2x7=>obtain⟨hW1,hW2,hW3⟩:=hW;go_simp;try with_reducible rfl
        try simp only[Act.put,List.setIfInBounds_toArray,List.set_cons_zero,List.set_cons_succ]
        refine takeH 8 (some 97) (v:= ?vk2x8) rfl rfl (by kernel_rfl) (by kernel_rfl) (by kernel_rfl) (fun _ _ _ h=>h) (Or.inl ⟨by rfl,fun W hW=> ?hyk2x8⟩) (by assumption) ?hrk2x8
        case hyk2x8=>obtain⟨hW1,hW2,hW3⟩:=hW;go_simp;try with_reducible rfl
        try simp only[Act.put,List.setIfInBounds_toArray,List.set_cons_zero,List.set_cons_succ]
        refine takeH 9 (some 98) (v:= ?vk2x9) rfl rfl (by kernel_rfl) (by kernel_rfl) (by kernel_rfl) (fun _ _ _ h=>h) (Or.inl ⟨by rfl,fun W hW=> ?hyk2x9⟩) (by assumption) ?hrk2x9
        case hyk2x9=>obtain⟨hW1,hW2,hW3⟩:=hW;go_simp;try with_reducible rfl
        try simp only[Act.put,List.setIfInBounds_toArray,List.set_cons_zero,List.set_cons_succ]
        refine wpAnyH_ready (rs:=[10]) (by kernel_rfl) (by simp) ?_
        refine readyH none rfl rfl (fun K hK=> ?_) AllReadyH.nil
        go_simp
        refine hK _ _ hS1 (fun hHeld=> ?_)
        clear hK K
        try simp only[Act.put,List.setIfInBounds_toArray,List.set_cons_zero,List.set_cons_succ]
        refine takeH 11 (some 99) (v:= ?vk2x11) rfl rfl (by kernel_rfl) (by kernel_rfl) (by kernel_rfl) (fun _ _ _ h=>h) (Or.inl ⟨by rfl,fun W hW=> ?hyk2x11⟩) (by assumption) ?hrk2x11
        case hyk2x11=>obtain⟨hW1,hW2,hW3⟩:=hW;go_simp;try with_reducible rfl
        try simp only[Act.put,List.setIfInBounds_toArray,List.set_cons_zero,List.set_cons_succ]
        refine wpAnyH_ready (rs:=[12]) (by kernel_rfl) (by simp) ?_
        refine readyH none rfl rfl (fun K hK=> ?_) AllReadyH.nil
        go_simp
        refine hK _ _ hS2 (fun hHeld=> ?_)
        clear hK K
        try simp only[Act.put,List.setIfInBounds_toArray,List.set_cons_zero,List.set_cons_succ]
        refine takeH 13 (some 100) (v:= ?vk2x13) rfl rfl (by kernel_rfl) (by kernel_rfl) (by kernel_rfl) (fun _ _ _ h=>h) (Or.inl ⟨by rfl,fun W hW=> ?hyk2x13⟩) (by assumption) ?hrk2x13
        case hyk2x13=>obtain⟨hW1,hW2,hW3⟩:=hW;go_simp;try with_reducible rfl
        try simp only[Act.put,List.setIfInBounds_toArray,List.set_cons_zero,List.set_cons_succ]
        refine wpAnyH_ready (rs:=[14]) (by kernel_rfl) (by simp) ?_
        refine readyH none rfl rfl (fun K hK=> ?_) AllReadyH.nil
        go_simp
        refine hK _ _ hS3 (fun hHeld=> ?_)
        clear hK K
        try simp only[Act.put,List.setIfInBounds_toArray,List.set_cons_zero,List.set_cons_succ]
        refine wpAnyH_done (by kernel_rfl) ?_ _
        go_wp2
        go_meet
        exact⟨none,none,0,0,HKF,HDF,Lib.hid (Nat.le_refl _),Lib.hid (Nat.le_refl _),HGF,Lib.hid ⟨fun a e=>(by cases e),fun a e=>(by cases e)⟩⟩
       ·
        have hP0:P3 wk wk wm.heap.size #[.int .i64 (N 0),.int .i64 (N 1),.int .u8 3,.int .i64 (N 3),.int .i64 0,.int .i64 0,.int .i64 0,.int .i64 0,.int .i64 0,.slice none 0 0,.slice none 0 0] (.slice none 0 0) [] (.slice none 0 0) []:=⟨HKX2.out,World.ownsRow_nil _ _ _ _,World.ownsRow_nil _ _ _ _,fun g h=>(by cases h),HG0.out,HXW.out⟩
        have HP0:=Lib.hid hP0
        have HNr:Hid (∀i,r.getD i 0=N (4+i)):=Lib.hid fun i=>by rw[←HRr.out,←HN.out,List.getD_eq_getElem?_getD,List.getD_eq_getElem?_getD,List.getElem?_drop]
        clear hP0
        go_wp2
        go_loopw [13] (fun v wx=> ∃(q j:Nat) (A1 A2:Option Addr) (c1 c2:Nat) (l1 l2:List Int),v=.int .i64 (q:Int)∧Hid (q=4+2*j∧q≤1000)∧Hid ((Rt.odd (r.take (2*j))).1=l1∧(Rt.odd (r.take (2*j))).2=l2)∧Hid (P3 wk wx wm.heap.size #[.int .i64 (N 0),.int .i64 (N 1),.int .u8 3,.int .i64 (N 3),.int .i64 0,.int .i64 0,.int .i64 0,.int .i64 0,.int .i64 0,.slice A1 l1.length c1,.slice A2 l2.length c2] (.slice A1 l1.length c1) l1 (.slice A2 l2.length c2) l2)) (fun v _=>n-(intOf v).toNat)
        case atStart=>exact⟨4,0,none,none,0,0,[],[],rfl,Lib.hid ⟨rfl,by decide⟩,Lib.hid ⟨rfl,rfl⟩,HP0⟩
        case round=>
         obtain⟨q,j,A1,A2,c1,c2,l1,l2,rfl,HQ,HLO,HP⟩:=hrel
         have hq5:=HQ.out.2
         by_cases hlt:q+1<n
         ·have hqi:(q:Int)+1<(n:Int):=by omega
          have hqi0:(q:Int)<(n:Int):=by omega
          have hqn:q<n:=by omega
          have hq0:(0:Int)≤(q:Int)+1:=by omega
          have hwr:IntKind.i64.wrap ((q:Int)+1)=(q:Int)+1:=IntWalk.i64_in _ (by omega)
          have hon:=Rt.odd_next j r (by have:=HQ.out.1;have:=HRL.out;omega)
          rw[HNr.out,HNr.out,HLO.out.1,HLO.out.2]at hon
          have hq1:=HQ.out.1
          rw[show 4+(2*j+1)=q+1 by omega,show 4+2*j=q by omega]at hon
          obtain⟨l3,hl3⟩: ∃l,(Rt.odd (r.take (2*(j+1)))).1=l:=⟨_,rfl⟩
          obtain⟨l4,hl4⟩: ∃l,(Rt.odd (r.take (2*(j+1)))).2=l:=⟨_,rfl⟩
          have HLN:=Lib.hid (And.intro hl3 hl4)
          rw[hl3,hl4]at hon
          obtain⟨hon1,hon2⟩:=hon
          have hle1:=hon1.symm
          have hle2:=hon2.symm
          have HQ2:Hid (q+2=4+2*(j+1)∧q+2≤1000):=Lib.hid (by omega)
          have hl1b:l1.length≤1000:=by
           have h1:=Rt.odd_len (r.take (2*j))
           rw[HLO.out.1]at h1
           have:(r.take (2*j)).length≤2*j:=by simp;omega
           omega
          have hl2b:l2.length≤1000:=by
           have h1:=(Rt.odd_len (r.take (2*j))).1
           rw[HLO.out.1,HLO.out.2]at h1
           omega
          obtain⟨W0,hW0⟩: ∃W:World,W=wr.drew:=⟨_,rfl⟩
          have hP:P3 wk W0 wm.heap.size #[.int .i64 (N 0),.int .i64 (N 1),.int .u8 3,.int .i64 (N 3),.int .i64 0,.int .i64 0,.int .i64 0,.int .i64 0,.int .i64 0,.slice A1 l1.length c1,.slice A2 l2.length c2] (.slice A1 l1.length c1) l1 (.slice A2 l2.length c2) l2:=by rw[hW0];exact HP.out.below (below_drew (Below.refl _ _))
          have HS:Hid (∀V:World,wk.grownBy V (some wm.heap.size)→(V.cell? ⟨g,off+q,none⟩=some (.int .i64 (N q))∧V.cell? ⟨g,off+(q+1),none⟩=some (.int .i64 (N (q+1))))):=Lib.hid fun V hV=>⟨HNC2.out V hV q (by omega),HNC2.out V hV (q+1) (by omega)⟩
          have HT:Hid (∀V:World,V.heap[wm.heap.size]?=some (.cells #[.int .i64 (N 0),.int .i64 (N 1),.int .u8 3,.int .i64 (N 3),.int .i64 0,.int .i64 0,.int .i64 0,.int .i64 0,.int .i64 0,.slice A1 l1.length c1,.slice A2 l2.length c2] 24 (0,0))→(V.cell? ⟨wm.heap.size,9,none⟩=some (.slice A1 l1.length c1)∧V.cell? ⟨wm.heap.size,10,none⟩=some (.slice A2 l2.length c2))):=Lib.hid fun V hV=>⟨(blk_cells hV).1 9,(blk_cells hV).1 10⟩
          have hS:=HS.out _ hP.gr
          have hT:=HT.out _ hP.blk
          have HLE:=Lib.hid (And.intro hle1 hle2)
          clear hon1 hon2 hl3 hl4 hq1
          clear hle1 hle2
          go_wp2
          refine region_K (S:=fun V=>V.cell? ⟨g,off+q,none⟩=some (.int .i64 (N q))∧V.cell? ⟨g,off+(q+1),none⟩=some (.int .i64 (N (q+1)))) (T:=fun V=>V.cell? ⟨wm.heap.size,9,none⟩=some (.slice A1 l1.length c1)∧V.cell? ⟨wm.heap.size,10,none⟩=some (.slice A2 l2.length c2)) (k:=18) (by kernel_rfl) ?_
          rw[←hW0]
          clear hW0
          refine takeK 0 (some 110) (v:= ?vp1) (by decide) rfl rfl (by kernel_rfl) (by kernel_rfl) (by kernel_rfl) (fun _ _ _ h=>h) (Or.inl ⟨by rfl,fun W hW=> ?hyp1⟩) hS hT ?hrp1
          case hyp1=>obtain⟨hW1,hW2⟩:=hW;go_simp;try with_reducible rfl
          try simp only[Act.put,List.setIfInBounds_toArray,List.set_cons_zero,List.set_cons_succ]
          refine takeK 2 (some 112) (v:= ?vp2) (by decide) rfl rfl (by kernel_rfl) (by kernel_rfl) (by kernel_rfl) (fun _ _ _ h=>h) (Or.inl ⟨by rfl,fun W hW=> ?hyp2⟩) hS hT ?hrp2
          case hyp2=>obtain⟨hW1,hW2⟩:=hW;go_simp;try with_reducible rfl
          try simp only[Act.put,List.setIfInBounds_toArray,List.set_cons_zero,List.set_cons_succ]
          refine takeK 3 (some 113) (v:= ?vp3) (by decide) rfl rfl (by kernel_rfl) (by kernel_rfl) (by kernel_rfl) (fun _ _ _ h=>h) (Or.inl ⟨by rfl,fun W hW=> ?hyp3⟩) hS hT ?hrp3
          case hyp3=>obtain⟨hW1,hW2⟩:=hW;go_simp;try with_reducible rfl
          try simp only[Act.put,List.setIfInBounds_toArray,List.set_cons_zero,List.set_cons_succ]
          refine takeK 4 (some 114) (v:= ?vp4) (by decide) rfl rfl (by kernel_rfl) (by kernel_rfl) (by kernel_rfl) (fun _ _ _ h=>h) (Or.inl ⟨by rfl,fun W hW=> ?hyp4⟩) hS hT ?hrp4
          case hyp4=>obtain⟨hW1,hW2⟩:=hW;go_simp;try with_reducible rfl
          try simp only[Act.put,List.setIfInBounds_toArray,List.set_cons_zero,List.set_cons_succ]
          refine takeK 5 (some 115) (v:= ?vp5) (by decide) rfl rfl (by kernel_rfl) (by kernel_rfl) (by kernel_rfl) (fun _ _ _ h=>h) (Or.inl ⟨by rfl,fun W hW=> ?hyp5⟩) hS hT ?hrp5
          case hyp5=>obtain⟨hW1,hW2⟩:=hW;go_simp;try with_reducible rfl
          try simp only[Act.put,List.setIfInBounds_toArray,List.set_cons_zero,List.set_cons_succ]
          refine takeK 8 (some 118) (v:= ?vp6) (by decide) rfl rfl (by kernel_rfl) (by kernel_rfl) (by kernel_rfl) (fun _ _ _ h=>h) (Or.inl ⟨by rfl,fun W hW=> ?hyp6⟩) hS hT ?hrp6
          case hyp6=>obtain⟨hW1,hW2⟩:=hW;go_simp;try with_reducible rfl
          try simp only[Act.put,List.setIfInBounds_toArray,List.set_cons_zero,List.set_cons_succ]
          refine takeK 10 (some 120) (v:= ?vp7) (by decide) rfl rfl (by kernel_rfl) (by kernel_rfl) (by kernel_rfl) (fun _ _ _ h=>h) (Or.inl ⟨by rfl,fun W hW=> ?hyp7⟩) hS hT ?hrp7
          case hyp7=>obtain⟨hW1,hW2⟩:=hW;go_simp;try with_reducible rfl
          try simp only[Act.put,List.setIfInBounds_toArray,List.set_cons_zero,List.set_cons_succ]
          refine takeK 11 (some 121) (v:= ?vp8) (by decide) rfl rfl (by kernel_rfl) (by kernel_rfl) (by kernel_rfl) (fun _ _ _ h=>h) (Or.inl ⟨by rfl,fun W hW=> ?hyp8⟩) hS hT ?hrp8
          case hyp8=>obtain⟨hW1,hW2⟩:=hW;go_simp;try with_reducible rfl
          try simp only[Act.put,List.setIfInBounds_toArray,List.set_cons_zero,List.set_cons_succ]
          refine takeK 12 (some 122) (v:= ?vp9) (by decide) rfl rfl (by kernel_rfl) (by kernel_rfl) (by kernel_rfl) (fun _ _ _ h=>h) (Or.inl ⟨by rfl,fun W hW=> ?hyp9⟩) hS hT ?hrp9
          case hyp9=>obtain⟨hW1,hW2⟩:=hW;go_simp;try with_reducible rfl
          try simp only[Act.put,List.setIfInBounds_toArray,List.set_cons_zero,List.set_cons_succ]
          refine takeK 13 (some 123) (v:= ?vp10) (by decide) rfl rfl (by kernel_rfl) (by kernel_rfl) (by kernel_rfl) (fun _ _ _ h=>h) (Or.inl ⟨by rfl,fun W hW=> ?hyp10⟩) hS hT ?hrp10
          case hyp10=>obtain⟨hW1,hW2⟩:=hW;go_simp;try with_reducible rfl
          try simp only[Act.put,List.setIfInBounds_toArray,List.set_cons_zero,List.set_cons_succ]
          refine takeK 14 (some 124) (v:= ?vp11) (by decide) rfl rfl (by kernel_rfl) (by kernel_rfl) (by kernel_rfl) (fun _ _ _ h=>h) (Or.inl ⟨by rfl,fun W hW=> ?hyp11⟩) hS hT ?hrp11
          case hyp11=>obtain⟨hW1,hW2⟩:=hW;go_simp;try with_reducible rfl
          try simp only[Act.put,List.setIfInBounds_toArray,List.set_cons_zero,List.set_cons_succ]
          refine takeT 1 (some 111) (v:= ?vp12) (by decide) rfl rfl (by kernel_rfl) (by kernel_rfl) (by kernel_rfl) (by kernel_rfl) (by kernel_rfl) (fun _ _ _ h=>h) (Or.inl ⟨by rfl,fun W hW=> ?hyp12⟩) hS hT ?hrp12
          case hyp12=>obtain⟨⟨hW1,hW2⟩,hW3,hW4⟩:=hW;go_simp;try with_reducible rfl
          try simp only[Act.put,List.setIfInBounds_toArray,List.set_cons_zero,List.set_cons_succ]
          refine takeT 9 (some 119) (v:= ?vp13) (by decide) rfl rfl (by kernel_rfl) (by kernel_rfl) (by kernel_rfl) (by kernel_rfl) (by kernel_rfl) (fun _ _ _ h=>h) (Or.inl ⟨by rfl,fun W hW=> ?hyp13⟩) hS hT ?hrp13
          case hyp13=>obtain⟨⟨hW1,hW2⟩,hW3,hW4⟩:=hW;go_simp;try with_reducible rfl
          try simp only[Act.put,List.setIfInBounds_toArray,List.set_cons_zero,List.set_cons_succ]
          refine readyK (rs:=[6,15]) (by kernel_rfl) (by simp) ?_
          refine AllK.cons (some 116) rfl rfl (fun K' hK=> ?_) (AllK.cons (some 125) rfl rfl (fun K' hK=> ?_) (AllK.nil))
          ·skip
           go_simp
           have bWa:Below W0.heap.size W0 (W0.alloc (.cells #[.int .i64 (N q)] 3)):=(Below.refl _ W0).alloc (Nat.le_refl _) _
           have hPa:=hP.below bWa
           have hx:=(blk_cells (heap_alloc_new W0 (.cells #[.int .i64 (N q)] 3))).1 0
           have zWa:(W0.alloc (.cells #[.int .i64 (N q)] 3)).heap.size=W0.heap.size+1:=by simp
           refine hK _ _ (HS.out _ hPa.gr) (HT.out _ hPa.blk) (fun hS hT=> ?_)
           clear hK K'
           try simp only[Act.put,List.setIfInBounds_toArray,List.set_cons_zero,List.set_cons_succ]
           obtain⟨Wa,hWa⟩: ∃W:World,W=W0.alloc (.cells #[.int .i64 (N q)] 3):=⟨_,rfl⟩
           rw[←hWa]at bWa hPa hx zWa hS hT ⊢
           have HzWa:=Lib.hid zWa
           clear hWa bWa zWa
           refine readyK (rs:=[7,15]) (by kernel_rfl) (by simp) ?_
           refine AllK.cons (some 117) rfl rfl (fun K' hK=> ?_) (AllK.cons (some 125) rfl rfl (fun K' hK=> ?_) (AllK.nil))
           ·skip
            obtain⟨A1',c1',Wb,hrun1,hPb,hg1⟩:=hPa.app1 W0.heap.size (N q) hx hl1b HLE.out.1
            go_simp
            refine hK _ _ (HS.out _ hPb.gr) (HT.out _ hPb.blk) (fun hS hT=> ?_)
            clear hK K'
            try simp only[Act.put,List.setIfInBounds_toArray,List.set_cons_zero,List.set_cons_succ]
            refine takeK 17 (some 127) (v:= ?vp14) (by decide) rfl rfl (by kernel_rfl) (by kernel_rfl) (by kernel_rfl) (fun _ _ _ h=>h) (Or.inl ⟨by rfl,fun W hW=> ?hyp14⟩) hS hT ?hrp14
            case hyp14=>go_simp;try with_reducible rfl
            try simp only[Act.put,List.setIfInBounds_toArray,List.set_cons_zero,List.set_cons_succ]
            refine readyK (rs:=[15]) (by kernel_rfl) (by simp) ?_
            refine AllK.cons (some 125) rfl rfl (fun K' hK=> ?_) (AllK.nil)
            go_simp
            have bWc:Below Wb.heap.size Wb (Wb.alloc (.cells #[.int .i64 (N (q+1))] 3)):=(Below.refl _ Wb).alloc (Nat.le_refl _) _
            have hPc:=hPb.below bWc
            have hy:=(blk_cells (heap_alloc_new Wb (.cells #[.int .i64 (N (q+1))] 3))).1 0
            have zWc:(Wb.alloc (.cells #[.int .i64 (N (q+1))] 3)).heap.size=Wb.heap.size+1:=by simp
            refine hK _ _ (HS.out _ hPc.gr) (HT.out _ hPc.blk) (fun hS hT=> ?_)
            clear hK K'
            try simp only[Act.put,List.setIfInBounds_toArray,List.set_cons_zero,List.set_cons_succ]
            obtain⟨Wc,hWc⟩: ∃W:World,W=Wb.alloc (.cells #[.int .i64 (N (q+1))] 3):=⟨_,rfl⟩
            rw[←hWc]at bWc hPc hy zWc hS hT ⊢
            have HzWc:=Lib.hid zWc
            clear hWc bWc zWc
            refine readyK (rs:=[16]) (by kernel_rfl) (by simp) ?_
            refine AllK.cons (some 126) rfl rfl (fun K' hK=> ?_) (AllK.nil)
            obtain⟨A2',c2',Wd,hrun2,hPd⟩:=hPc.app2 Wb.heap.size (N (q+1)) hy hl2b HLE.out.2
            go_simp
            refine hK _ _ (HS.out _ hPd.gr) (HT.out _ hPd.blk) (fun hS hT=> ?_)
            clear hK K'
            try simp only[Act.put,List.setIfInBounds_toArray,List.set_cons_zero,List.set_cons_succ]
            obtain⟨We,s9,hPe⟩:=hPd.put 9 (show 9<11 by omega) A1' l3.length c1'
            obtain⟨Wf,s10,hPf⟩:=hPe.put 10 (show 10<11 by omega) A2' l4.length c2'
            refine readyK (rs:=[18]) (by kernel_rfl) (by simp) ?_
            refine AllK.late none rfl rfl (by kernel_rfl) (fun K' hK=> ?_) AllK.nil
            go_simp
            refine hK _ _ (HS.out _ hPe.gr) (fun hS=> ?_)
            clear hK K'
            try simp only[Act.put,List.setIfInBounds_toArray,List.set_cons_zero,List.set_cons_succ]
            refine readyK (rs:=[19]) (by kernel_rfl) (by simp) ?_
            refine AllK.late (some 128) rfl rfl (by kernel_rfl) (fun K' hK=> ?_) AllK.nil
            go_simp
            refine hK _ _ (HS.out _ hPe.gr) (fun hS=> ?_)
            clear hK K'
            try simp only[Act.put,List.setIfInBounds_toArray,List.set_cons_zero,List.set_cons_succ]
            refine readyK (rs:=[20]) (by kernel_rfl) (by simp) ?_
            refine AllK.late none rfl rfl (by kernel_rfl) (fun K' hK=> ?_) AllK.nil
            go_simp
            refine hK _ _ (HS.out _ hPf.gr) (fun hS=> ?_)
            clear hK K'
            try simp only[Act.put,List.setIfInBounds_toArray,List.set_cons_zero,List.set_cons_succ]
            refine doneK (by kernel_rfl) ?_ _
            have HPF:Hid (P3 wk Wf wm.heap.size #[.int .i64 (N 0),.int .i64 (N 1),.int .u8 3,.int .i64 (N 3),.int .i64 0,.int .i64 0,.int .i64 0,.int .i64 0,.int .i64 0,.slice A1' l3.length c1',.slice A2' l4.length c2'] (.slice A1' l3.length c1') l3 (.slice A2' l4.length c2') l4):=Lib.hid hPf
            clear hPe hPf s9 s10 hPd hS
            go_wp2
            go_roundw
            case rel=>
             (repeat apply Exists.intro)
             refine⟨?_,rfl⟩
             exact⟨q+2,j+1,A1',A2',c1',c2',l3,l4,by go_num,HQ2,HLN,HPF⟩
            case measure=>first|(simp[intOf];done)|(simp[intOf];omega)
           ·skip
            go_simp
            have bWb:Below Wa.heap.size Wa (Wa.alloc (.cells #[.int .i64 (N (q+1))] 3)):=(Below.refl _ Wa).alloc (Nat.le_refl _) _
            have hPb:=hPa.below bWb
            have hy:=(blk_cells (heap_alloc_new Wa (.cells #[.int .i64 (N (q+1))] 3))).1 0
            have zWb:(Wa.alloc (.cells #[.int .i64 (N (q+1))] 3)).heap.size=Wa.heap.size+1:=by simp
            have hx':=(bWb.cell (p:=⟨W0.heap.size,0,none⟩) (show W0.heap.size<Wa.heap.size by have:=HzWa.out;omega)).trans hx
            refine hK _ _ (HS.out _ hPb.gr) (HT.out _ hPb.blk) (fun hS hT=> ?_)
            clear hK K'
            try simp only[Act.put,List.setIfInBounds_toArray,List.set_cons_zero,List.set_cons_succ]
            obtain⟨Wb,hWb⟩: ∃W:World,W=Wa.alloc (.cells #[.int .i64 (N (q+1))] 3):=⟨_,rfl⟩
            rw[←hWb]at bWb hPb hy zWb hx' hS hT ⊢
            have HzWb:=Lib.hid zWb
            clear hWb bWb zWb
            refine readyK (rs:=[7]) (by kernel_rfl) (by simp) ?_
            refine AllK.cons (some 117) rfl rfl (fun K' hK=> ?_) (AllK.nil)
            obtain⟨A1',c1',Wc,hrun1,hPc,hg1⟩:=hPb.app1 W0.heap.size (N q) hx' hl1b HLE.out.1
            go_simp
            have hy2:=hg1.cell hy (fun e=>by have:=(hP.o1.lt _ e.symm).2;dsimp only at this;(try have:=HzWa.out);omega)
            refine hK _ _ (HS.out _ hPc.gr) (HT.out _ hPc.blk) (fun hS hT=> ?_)
            clear hK K'
            try simp only[Act.put,List.setIfInBounds_toArray,List.set_cons_zero,List.set_cons_succ]
            refine takeK 17 (some 127) (v:= ?vp16) (by decide) rfl rfl (by kernel_rfl) (by kernel_rfl) (by kernel_rfl) (fun _ _ _ h=>h) (Or.inl ⟨by rfl,fun W hW=> ?hyp16⟩) hS hT ?hrp16
            case hyp16=>go_simp;try with_reducible rfl
            try simp only[Act.put,List.setIfInBounds_toArray,List.set_cons_zero,List.set_cons_succ]
            refine readyK (rs:=[16]) (by kernel_rfl) (by simp) ?_
            refine AllK.cons (some 126) rfl rfl (fun K' hK=> ?_) (AllK.nil)
            obtain⟨A2',c2',Wd,hrun2,hPd⟩:=hPc.app2 Wa.heap.size (N (q+1)) hy2 hl2b HLE.out.2
            go_simp
            refine hK _ _ (HS.out _ hPd.gr) (HT.out _ hPd.blk) (fun hS hT=> ?_)
            clear hK K'
            try simp only[Act.put,List.setIfInBounds_toArray,List.set_cons_zero,List.set_cons_succ]
            obtain⟨We,s9,hPe⟩:=hPd.put 9 (show 9<11 by omega) A1' l3.length c1'
            obtain⟨Wf,s10,hPf⟩:=hPe.put 10 (show 10<11 by omega) A2' l4.length c2'
            refine readyK (rs:=[18]) (by kernel_rfl) (by simp) ?_
            refine AllK.late none rfl rfl (by kernel_rfl) (fun K' hK=> ?_) AllK.nil
            go_simp
            refine hK _ _ (HS.out _ hPe.gr) (fun hS=> ?_)
            clear hK K'
            try simp only[Act.put,List.setIfInBounds_toArray,List.set_cons_zero,List.set_cons_succ]
            refine readyK (rs:=[19]) (by kernel_rfl) (by simp) ?_
            refine AllK.late (some 128) rfl rfl (by kernel_rfl) (fun K' hK=> ?_) AllK.nil
            go_simp
            refine hK _ _ (HS.out _ hPe.gr) (fun hS=> ?_)
            clear hK K'
            try simp only[Act.put,List.setIfInBounds_toArray,List.set_cons_zero,List.set_cons_succ]
            refine readyK (rs:=[20]) (by kernel_rfl) (by simp) ?_
            refine AllK.late none rfl rfl (by kernel_rfl) (fun K' hK=> ?_) AllK.nil
            go_simp
            refine hK _ _ (HS.out _ hPf.gr) (fun hS=> ?_)
            clear hK K'
            try simp only[Act.put,List.setIfInBounds_toArray,List.set_cons_zero,List.set_cons_succ]
            refine doneK (by kernel_rfl) ?_ _
            have HPF:Hid (P3 wk Wf wm.heap.size #[.int .i64 (N 0),.int .i64 (N 1),.int .u8 3,.int .i64 (N 3),.int .i64 0,.int .i64 0,.int .i64 0,.int .i64 0,.int .i64 0,.slice A1' l3.length c1',.slice A2' l4.length c2'] (.slice A1' l3.length c1') l3 (.slice A2' l4.length c2') l4):=Lib.hid hPf
            clear hPe hPf s9 s10 hPd hS
            go_wp2
            go_roundw
            case rel=>
             (repeat apply Exists.intro)
             refine⟨?_,rfl⟩
             exact⟨q+2,j+1,A1',A2',c1',c2',l3,l4,by go_num,HQ2,HLN,HPF⟩
            case measure=>first|(simp[intOf];done)|(simp[intOf];omega)
          ·skip
           go_simp
           have bWa:Below W0.heap.size W0 (W0.alloc (.cells #[.int .i64 (N (q+1))] 3)):=(Below.refl _ W0).alloc (Nat.le_refl _) _
           have hPa:=hP.below bWa
           have hy:=(blk_cells (heap_alloc_new W0 (.cells #[.int .i64 (N (q+1))] 3))).1 0
           have zWa:(W0.alloc (.cells #[.int .i64 (N (q+1))] 3)).heap.size=W0.heap.size+1:=by simp
           refine hK _ _ (HS.out _ hPa.gr) (HT.out _ hPa.blk) (fun hS hT=> ?_)
           clear hK K'
           try simp only[Act.put,List.setIfInBounds_toArray,List.set_cons_zero,List.set_cons_succ]
           obtain⟨Wa,hWa⟩: ∃W:World,W=W0.alloc (.cells #[.int .i64 (N (q+1))] 3):=⟨_,rfl⟩
           rw[←hWa]at bWa hPa hy zWa hS hT ⊢
           have HzWa:=Lib.hid zWa
           clear hWa bWa zWa
           refine readyK (rs:=[6]) (by kernel_rfl) (by simp) ?_
           refine AllK.cons (some 116) rfl rfl (fun K' hK=> ?_) (AllK.nil)
           go_simp
           have bWb:Below Wa.heap.size Wa (Wa.alloc (.cells #[.int .i64 (N q)] 3)):=(Below.refl _ Wa).alloc (Nat.le_refl _) _
           have hPb:=hPa.below bWb
           have hx:=(blk_cells (heap_alloc_new Wa (.cells #[.int .i64 (N q)] 3))).1 0
           have zWb:(Wa.alloc (.cells #[.int .i64 (N q)] 3)).heap.size=Wa.heap.size+1:=by simp
           have hy':=(bWb.cell (p:=⟨W0.heap.size,0,none⟩) (show W0.heap.size<Wa.heap.size by have:=HzWa.out;omega)).trans hy
           refine hK _ _ (HS.out _ hPb.gr) (HT.out _ hPb.blk) (fun hS hT=> ?_)
           clear hK K'
           try simp only[Act.put,List.setIfInBounds_toArray,List.set_cons_zero,List.set_cons_succ]
           obtain⟨Wb,hWb⟩: ∃W:World,W=Wa.alloc (.cells #[.int .i64 (N q)] 3):=⟨_,rfl⟩
           rw[←hWb]at bWb hPb hx zWb hy' hS hT ⊢
           have HzWb:=Lib.hid zWb
           clear hWb bWb zWb
           refine readyK (rs:=[7]) (by kernel_rfl) (by simp) ?_
           refine AllK.cons (some 117) rfl rfl (fun K' hK=> ?_) (AllK.nil)
           obtain⟨A1',c1',Wc,hrun1,hPc,hg1⟩:=hPb.app1 Wa.heap.size (N q) hx hl1b HLE.out.1
           go_simp
           have hy'2:=hg1.cell hy' (fun e=>by have:=(hP.o1.lt _ e.symm).2;dsimp only at this;(try have:=HzWa.out);omega)
           refine hK _ _ (HS.out _ hPc.gr) (HT.out _ hPc.blk) (fun hS hT=> ?_)
           clear hK K'
           try simp only[Act.put,List.setIfInBounds_toArray,List.set_cons_zero,List.set_cons_succ]
           refine takeK 17 (some 127) (v:= ?vp18) (by decide) rfl rfl (by kernel_rfl) (by kernel_rfl) (by kernel_rfl) (fun _ _ _ h=>h) (Or.inl ⟨by rfl,fun W hW=> ?hyp18⟩) hS hT ?hrp18
           case hyp18=>go_simp;try with_reducible rfl
           try simp only[Act.put,List.setIfInBounds_toArray,List.set_cons_zero,List.set_cons_succ]
           refine readyK (rs:=[16]) (by kernel_rfl) (by simp) ?_
           refine AllK.cons (some 126) rfl rfl (fun K' hK=> ?_) (AllK.nil)
           obtain⟨A2',c2',Wd,hrun2,hPd⟩:=hPc.app2 W0.heap.size (N (q+1)) hy'2 hl2b HLE.out.2
           go_simp
           refine hK _ _ (HS.out _ hPd.gr) (HT.out _ hPd.blk) (fun hS hT=> ?_)
           clear hK K'
           try simp only[Act.put,List.setIfInBounds_toArray,List.set_cons_zero,List.set_cons_succ]
           obtain⟨We,s9,hPe⟩:=hPd.put 9 (show 9<11 by omega) A1' l3.length c1'
           obtain⟨Wf,s10,hPf⟩:=hPe.put 10 (show 10<11 by omega) A2' l4.length c2'
           refine readyK (rs:=[18]) (by kernel_rfl) (by simp) ?_
           refine AllK.late none rfl rfl (by kernel_rfl) (fun K' hK=> ?_) AllK.nil
           go_simp
           refine hK _ _ (HS.out _ hPe.gr) (fun hS=> ?_)
           clear hK K'
           try simp only[Act.put,List.setIfInBounds_toArray,List.set_cons_zero,List.set_cons_succ]
           refine readyK (rs:=[19]) (by kernel_rfl) (by simp) ?_
           refine AllK.late (some 128) rfl rfl (by kernel_rfl) (fun K' hK=> ?_) AllK.nil
           go_simp
           refine hK _ _ (HS.out _ hPe.gr) (fun hS=> ?_)
           clear hK K'
           try simp only[Act.put,List.setIfInBounds_toArray,List.set_cons_zero,List.set_cons_succ]
           refine readyK (rs:=[20]) (by kernel_rfl) (by simp) ?_
           refine AllK.late none rfl rfl (by kernel_rfl) (fun K' hK=> ?_) AllK.nil
           go_simp
           refine hK _ _ (HS.out _ hPf.gr) (fun hS=> ?_)
           clear hK K'
           try simp only[Act.put,List.setIfInBounds_toArray,List.set_cons_zero,List.set_cons_succ]
           refine doneK (by kernel_rfl) ?_ _
           have HPF:Hid (P3 wk Wf wm.heap.size #[.int .i64 (N 0),.int .i64 (N 1),.int .u8 3,.int .i64 (N 3),.int .i64 0,.int .i64 0,.int .i64 0,.int .i64 0,.int .i64 0,.slice A1' l3.length c1',.slice A2' l4.length c2'] (.slice A1' l3.length c1') l3 (.slice A2' l4.length c2') l4):=Lib.hid hPf
           clear hPe hPf s9 s10 hPd hS
           go_wp2
           go_roundw
           case rel=>
            (repeat apply Exists.intro)
            refine⟨?_,rfl⟩
            exact⟨q+2,j+1,A1',A2',c1',c2',l3,l4,by go_num,HQ2,HLN,HPF⟩
           case measure=>first|(simp[intOf];done)|(simp[intOf];omega)
         ·have hoa:=Rt.odd_all j r (by have:=HQ.out.1;have:=HRL.out;omega)
          rw[hoa]at HLO
          have HCP:Hid (l1.length≤c1∧l2.length≤c2∧Ints wr wr.heap.size A1 l1∧Ints wr wr.heap.size A2 l2∧From wk.heap.size A1∧From wk.heap.size A2):=Lib.hid (by
           obtain⟨A9,c9,e9,hs9,hc9,hf9⟩:=own_seg layI HP.out.o1
           cases e9
           obtain⟨A8,c8,e8,hs8,hc8,hf8⟩:=own_seg layI HP.out.o2
           cases e8
           exact⟨hc9,hc8,hs9,hs8,hf9,hf8⟩)
          have hrow:xcs (Rt.made ns 3) A1 A2 c1 c2= #[.int .i64 (N 0),.int .i64 (N 1),.int .u8 3,.int .i64 (N 3),.int .i64 0,.int .i64 0,.int .i64 0,.int .i64 0,.int .i64 0,.slice A1 l1.length c1,.slice A2 l2.length c2]:=by rw[row3];simp only[HN.out,HRr.out,HLO.out.1,HLO.out.2]
          have HKF:Hid (wr.heap[wm.heap.size]?=some (oDl (Rt.made ns 3) A1 A2 c1 c2)):=Lib.hid (by unfold oDl;rw[hrow];exact HP.out.blk)
          have HGF:Hid (wk.grownBy wr (some wm.heap.size)):=Lib.hid HP.out.gr
          have hi1:(Rt.made ns 3).into=l1:=by show(Rt.odd (ns.drop 4)).1=l1;rw[HRr.out];exact HLO.out.1
          have hi2:(Rt.made ns 3).sizes=l2:=by show(Rt.odd (ns.drop 4)).2=l2;rw[HRr.out];exact HLO.out.2
          have hlb:l1.length≤1000∧l2.length≤1000:=by
           have h1:=Rt.odd_len r
           rw[HLO.out.1,HLO.out.2]at h1
           have:=HRL.out
           omega
          have HDF:Hid (DS wr wr.heap.size A1 A2 (Rt.made ns 3)):=Lib.hid ⟨by rw[hi1];exact HCP.out.2.2.1,by rw[hi2];exact HCP.out.2.2.2.1,by rw[hi1];exact hlb.1,by rw[hi2];exact hlb.2⟩
          have HC1:Hid ((Rt.made ns 3).into.length≤c1):=Lib.hid (by rw[hi1];exact HCP.out.1)
          have HC2:Hid ((Rt.made ns 3).sizes.length≤c2):=Lib.hid (by rw[hi2];exact HCP.out.2.1)
          have hnl: ¬(q:Int)+1<(n:Int):=by omega
          have hwr:IntKind.i64.wrap ((q:Int)+1)=(q:Int)+1:=IntWalk.i64_in _ (by omega)
          clear hrow hi1 hi2 hoa hlb
          go_wp2
          go_meet
          exact⟨A1,A2,c1,c2,HKF,HDF,HC1,HC2,HGF,Lib.hid HCP.out.2.2.2.2⟩
       ·
        have HF4:Hid (∀(w5:World) (A':Option Addr) (c':Nat),w5.ownsRow wk.heap.size 3 1 (.slice A' r.length c') r.length (r.flatMap encInt)→Below wk.heap.size wk w5→ ∃V1,(storeVar 22 ⟨wm.heap.size,9,none⟩ (.slice A' r.length c')).run Tryz.prog w5=.ok () V1∧
          ∃A1 A2 c1 c2,Hid (V1.heap[wm.heap.size]?=some (oDl (Rt.made ns 4) A1 A2 c1 c2))∧Hid (DS V1 V1.heap.size A1 A2 (Rt.made ns 4))∧Hid ((Rt.made ns 4).into.length≤c1)∧Hid ((Rt.made ns 4).sizes.length≤c2)∧Hid (wk.grownBy V1 (some wm.heap.size))∧Hid (From wk.heap.size A1∧From wk.heap.size A2)):=Lib.hid fun w5 A' c' ho5 b5=>by
         have kv0:w5.heap[wm.heap.size]?=some (.cells #[.int .i64 (N 0),.int .i64 (N 1),.int .u8 4,.int .i64 (N 3),.int .i64 0,.int .i64 0,.int .i64 0,.int .i64 0,.int .i64 0,.slice none 0 0,.slice none 0 0] 24 (0,0)):=(b5.block _ HXW.out).trans HKX2.out
         have s0:=st_ints (A:=A') (n:=r.length) (c:=c') kv0 (show 9<11 by omega)
         have kv1:=hsc (j:=9) (.slice A' r.length c') kv0
         have g1:=gsc w5 ⟨wm.heap.size,9,none⟩ (.slice A' r.length c')
         obtain⟨A9,c9,e9,hs9,hc9,hf9⟩:=own_seg layI ho5
         cases e9
         have hrow:xcs (Rt.made ns 4) A' none c' 0= #[.int .i64 (N 0),.int .i64 (N 1),.int .u8 4,.int .i64 (N 3),.int .i64 0,.int .i64 0,.int .i64 0,.int .i64 0,.int .i64 0,.slice A' r.length c',.slice none 0 0]:=by rw[row4];simp only[HN.out,HRr.out]
         have hrl:=HRL.out
         refine⟨_,s0,A',none,c',0,Lib.hid (by unfold oDl;rw[hrow];exact kv1),Lib.hid ⟨?_,.inl rfl,?_,(by show 0≤1000;decide)⟩,Lib.hid ?_,Lib.hid (Nat.le_refl _),Lib.hid ?_,Lib.hid ⟨hf9,fun a e=>(by cases e)⟩⟩
         ·show Ints _ _ A' (ns.drop 4)
          rw[HRr.out]
          exact(Seg.grown1 hs9 g1 (fun a ea=>by have:=hf9 a ea;have:=HXW.out;dsimp only;omega)).more g1.size
         ·show(ns.drop 4).length≤1000
          rw[HRr.out];omega
         ·show(ns.drop 4).length≤c'
          rw[HRr.out];exact hc9
         ·exact(grown_below _ b5).trans g1
        have hnc: ∀B:Option Addr,Ints wk wk.heap.size B r→ ∀c,Calls Tryz.prog 94 #[.slice B (n-4) c] wk fun e w'=> ∃A' c',e=.returned (.slice A' r.length c')∧w'.ownsRow wk.heap.size 3 1 (.slice A' r.length c') r.length (r.flatMap encInt)∧Below wk.heap.size wk w':=fun B hB c=>by
         have hrl:=HRL.out
         rw[←hrl]
         exact cloneI_own B c r wk hB (by omega)
        have HNC:=Lib.hid hnc
        clear hnc
        by_cases hc4:c5=4
        ·subst hc4
         have hr0:Ints wk wk.heap.size (some ⟨g,off,none⟩) r:=.inl (List.length_eq_zero_iff.1 (by rw[HRL.out];omega))
         have hcl:=HNC.out _ hr0 0
         clear hr0 hc5
         go_wp2_with fail
         refine hcl.mono ?_
         clear hcl
         rintro e w5 ⟨A',c',rfl,ho5,b5⟩
         obtain⟨V1,s1,hrel⟩:=HF4.out w5 A' c' ho5 b5
         have HREL:=Lib.hid hrel
         clear ho5 b5 hrel
         go_wp2
         go_meet
         exact HREL.out
        ·have hcl:=HNC.out _ (HSD.out.up HB12.out) (c5-4)
         skip
         go_wp2_with fail
         refine hcl.mono ?_
         clear hcl
         rintro e w5 ⟨A',c',rfl,ho5,b5⟩
         obtain⟨V1,s1,hrel⟩:=HF4.out w5 A' c' ho5 b5
         have HREL:=Lib.hid hrel
         clear ho5 b5 hrel
         go_wp2
         go_meet
         exact HREL.out
       ·
        have gv0:=HG0.out
        have kv0:wk.heap[wm.heap.size]?=some (.cells #[.int .i64 (N 0),.int .i64 (N 1),.int .u8 5,.int .i64 (N 3),.int .i64 0,.int .i64 0,.int .i64 0,.int .i64 0,.int .i64 0,.slice none 0 0,.slice none 0 0] 24 (0,0)):=HKX2.out
        have s0:=st_int (n:=R 0) kv0 (show 4<11 by omega)
        obtain⟨V1,hV1⟩: ∃V:World,V=wk.setCell ⟨wm.heap.size,4,none⟩ (.int .i64 (R 0)):=⟨_,rfl⟩
        rw[←hV1]at s0
        have kv1:V1.heap[wm.heap.size]?=some (.cells #[.int .i64 (N 0),.int .i64 (N 1),.int .u8 5,.int .i64 (N 3),.int .i64 (R 0),.int .i64 0,.int .i64 0,.int .i64 0,.int .i64 0,.slice none 0 0,.slice none 0 0] 24 (0,0)):=by rw[hV1];exact hsc (j:=4) _ kv0
        have gv1:wk.grownBy V1 (some wm.heap.size):=by rw[hV1];exact gv0.trans (gsc wk ⟨wm.heap.size,4,none⟩ _)
        clear hV1
        have hrow:xcs (Rt.made ns 5) none none 0 0= #[.int .i64 (N 0),.int .i64 (N 1),.int .u8 5,.int .i64 (N 3),.int .i64 (R 0),.int .i64 0,.int .i64 0,.int .i64 0,.int .i64 0,.slice none 0 0,.slice none 0 0]:=by rw[row5];simp only[HN.out,HRr.out,HRR.out]
        have HKF:Hid (V1.heap[wm.heap.size]?=some (oDl (Rt.made ns 5) none none 0 0)):=Lib.hid (by unfold oDl;rw[hrow];exact kv1)
        have HGF:Hid (wk.grownBy V1 (some wm.heap.size)):=Lib.hid gv1
        have HDF:Hid (DS V1 V1.heap.size none none (Rt.made ns 5)):=Lib.hid (DS.none rfl rfl)
        obtain⟨hS1,hS2,hS3⟩:=HSV.out _ HG0.out
        clear hrow kv0 gv0 kv1 gv1
        go_wp2
        go_meet
        exact⟨none,none,0,0,HKF,HDF,Lib.hid (Nat.le_refl _),Lib.hid (Nat.le_refl _),HGF,Lib.hid ⟨fun a e=>(by cases e),fun a e=>(by cases e)⟩⟩
       ·
        have gv0:=HG0.out
        have kv0:wk.heap[wm.heap.size]?=some (.cells #[.int .i64 (N 0),.int .i64 (N 1),.int .u8 6,.int .i64 (N 3),.int .i64 0,.int .i64 0,.int .i64 0,.int .i64 0,.int .i64 0,.slice none 0 0,.slice none 0 0] 24 (0,0)):=HKX2.out
        have s0:=st_int (n:=R 0) kv0 (show 4<11 by omega)
        obtain⟨V1,hV1⟩: ∃V:World,V=wk.setCell ⟨wm.heap.size,4,none⟩ (.int .i64 (R 0)):=⟨_,rfl⟩
        rw[←hV1]at s0
        have kv1:V1.heap[wm.heap.size]?=some (.cells #[.int .i64 (N 0),.int .i64 (N 1),.int .u8 6,.int .i64 (N 3),.int .i64 (R 0),.int .i64 0,.int .i64 0,.int .i64 0,.int .i64 0,.slice none 0 0,.slice none 0 0] 24 (0,0)):=by rw[hV1];exact hsc (j:=4) _ kv0
        have gv1:wk.grownBy V1 (some wm.heap.size):=by rw[hV1];exact gv0.trans (gsc wk ⟨wm.heap.size,4,none⟩ _)
        clear hV1
        have hrow:xcs (Rt.made ns 6) none none 0 0= #[.int .i64 (N 0),.int .i64 (N 1),.int .u8 6,.int .i64 (N 3),.int .i64 (R 0),.int .i64 0,.int .i64 0,.int .i64 0,.int .i64 0,.slice none 0 0,.slice none 0 0]:=by rw[row6];simp only[HN.out,HRr.out,HRR.out]
        have HKF:Hid (V1.heap[wm.heap.size]?=some (oDl (Rt.made ns 6) none none 0 0)):=Lib.hid (by unfold oDl;rw[hrow];exact kv1)
        have HGF:Hid (wk.grownBy V1 (some wm.heap.size)):=Lib.hid gv1
        have HDF:Hid (DS V1 V1.heap.size none none (Rt.made ns 6)):=Lib.hid (DS.none rfl rfl)
        obtain⟨hS1,hS2,hS3⟩:=HSV.out _ HG0.out
        clear hrow kv0 gv0 kv1 gv1
        go_wp2
        go_meet
        exact⟨none,none,0,0,HKF,HDF,Lib.hid (Nat.le_refl _),Lib.hid (Nat.le_refl _),HGF,Lib.hid ⟨fun a e=>(by cases e),fun a e=>(by cases e)⟩⟩
       ·
        have gv0:=HG0.out
        have kv0:wk.heap[wm.heap.size]?=some (.cells #[.int .i64 (N 0),.int .i64 (N 1),.int .u8 8,.int .i64 (N 3),.int .i64 0,.int .i64 0,.int .i64 0,.int .i64 0,.int .i64 0,.slice none 0 0,.slice none 0 0] 24 (0,0)):=HKX2.out
        have s0:=st_int (n:=R 0) kv0 (show 6<11 by omega)
        obtain⟨V1,hV1⟩: ∃V:World,V=wk.setCell ⟨wm.heap.size,6,none⟩ (.int .i64 (R 0)):=⟨_,rfl⟩
        rw[←hV1]at s0
        have kv1:V1.heap[wm.heap.size]?=some (.cells #[.int .i64 (N 0),.int .i64 (N 1),.int .u8 8,.int .i64 (N 3),.int .i64 0,.int .i64 0,.int .i64 (R 0),.int .i64 0,.int .i64 0,.slice none 0 0,.slice none 0 0] 24 (0,0)):=by rw[hV1];exact hsc (j:=6) _ kv0
        have gv1:wk.grownBy V1 (some wm.heap.size):=by rw[hV1];exact gv0.trans (gsc wk ⟨wm.heap.size,6,none⟩ _)
        clear hV1
        have hrow:xcs (Rt.made ns 8) none none 0 0= #[.int .i64 (N 0),.int .i64 (N 1),.int .u8 8,.int .i64 (N 3),.int .i64 0,.int .i64 0,.int .i64 (R 0),.int .i64 0,.int .i64 0,.slice none 0 0,.slice none 0 0]:=by rw[row8];simp only[HN.out,HRr.out,HRR.out]
        have HKF:Hid (V1.heap[wm.heap.size]?=some (oDl (Rt.made ns 8) none none 0 0)):=Lib.hid (by unfold oDl;rw[hrow];exact kv1)
        have HGF:Hid (wk.grownBy V1 (some wm.heap.size)):=Lib.hid gv1
        have HDF:Hid (DS V1 V1.heap.size none none (Rt.made ns 8)):=Lib.hid (DS.none rfl rfl)
        obtain⟨hS1,hS2,hS3⟩:=HSV.out _ HG0.out
        clear hrow kv0 gv0 kv1 gv1
        go_wp2
        go_meet
        exact⟨none,none,0,0,HKF,HDF,Lib.hid (Nat.le_refl _),Lib.hid (Nat.le_refl _),HGF,Lib.hid ⟨fun a e=>(by cases e),fun a e=>(by cases e)⟩⟩
      case rest=>
       obtain⟨A1,A2,c1,c2,HKF,HDF,HC1,HC2,HGF,HFR⟩:=hcut
       obtain⟨x,hx⟩: ∃x,Rt.made ns K=x:=⟨_,rfl⟩
       rw[hx]at HKF HDF HC1 HC2
       have hRW:Rt.readW ws=x:=by
        rw[←hx,←HKK.out]
        unfold Rt.readW
        rw[(HWS.out.2 2 (by omega)).1,←(show Rt.NsOk ws ns ws.length by rw[HWS.out.1];exact HNs.out).same]
       rw[hRW]at HR
       have z1:=HB1.out.size
       have z2:=HB2.out.size
       have z3:=HBr.out.size
       have z4:=HBQ.out.size
       have z5:=HB12.out.size
       have hwz:=HWz.out
       have HBW:Hid (Below w.heap.size w wc):=Lib.hid (((((HB1.out.trans (HB2.out.mono z1)).trans (HBr.out.mono (by omega))).trans (HBQ.out.mono (by omega))).trans (HB12.out.mono (by omega))).grown HGF.out (by omega) (fun k e=>by cases e;omega))
       have hRK:wc.heap[w.heap.size]?=some (.cells zcs 24 (0,0)):=(HGF.out.block _ (by omega) (by simp;omega)).trans ((HB12.out.block _ (by omega)).trans ((HBQ.out.block _ (by omega)).trans ((HBr.out.block _ (by omega)).trans ((HB2.out.block _ (by omega)).trans HK1.out))))
       have l1:=ld_row HKF.out Tryz.underlying24 rfl info_deal
       have hxl:wm.heap.size<wc.heap.size:=(Array.getElem?_eq_some_iff.1 HKF.out).1
       have hrl2:w.heap.size<wc.heap.size:=(Array.getElem?_eq_some_iff.1 hRK).1
       have HRK:=Lib.hid hRK
       have HWK:Hid (w.heap.size<wk.heap.size):=Lib.hid (by omega)
       have HXL:=Lib.hid hxl
       have HRL2:=Lib.hid hrl2
       have hFIN: ∀w5:World,Below wc.heap.size wc w5→ ∃w6,(storeVar 24 ⟨w.heap.size,0,none⟩ (.agg zcs)).run Tryz.prog w5=.ok () w6∧(loadVar 24 ⟨w.heap.size,0,none⟩).run Tryz.prog w6=.ok (.agg zcs) w6∧Hid (Below w.heap.size w w6):=fun w5 b5=>by
        have k5:=(b5.block _ HRL2.out).trans HRK.out
        obtain⟨w6,st,k6,g6⟩:=st_row w5 w.heap.size 24 24 zcs zcs k5 info_deal rfl (by simp[Value.oneCell'])
        exact⟨w6,st,ld_row k6 Tryz.underlying24 rfl info_deal,Lib.hid ((HBW.out.trans (b5.mono HBW.out.size)).grown g6 (by have:=b5.size;omega) (by intro k e;cases e;exact Nat.le_refl _))⟩
       have HFIN:=Lib.hid hFIN
       clear hFIN z1 z2 z3 z4 z5 hwz hRK hxl hrl2 hx hRW
       by_cases hf:Rt.formed x=true
       ·have hwa:=write_a x A1 A2 c1 c2 wc (HE.out.up HBW.out) HDF.out HC1.out hf
        obtain⟨rx,hrx⟩: ∃rx:ByteArray,(⟨(Rt.row x).toArray⟩:ByteArray)=rx:=⟨_,rfl⟩
        rw[hrx]at hwa
        have hms:=mk_same (Rt.row x) s
        rw[hrx]at hms
        have hst:=str_same rx s
        clear hrx
        by_cases hq:rx=s
        ·have hq1:(rx.toList==s.toList)=true:=by rw[hst];exact decide_eq_true hq
         have hq2:(rx.toList !=s.toList)=false:=by rw[bne,hq1];rfl
         have HRF:Hid (Rt.read s.data.toList=(x,0)):=Lib.hid (HR.out.trans (if_pos ⟨hf,hms.1 hq⟩))
         clear hq hms hst hf HR
         go_wp2_with fail
         refine hwa.mono ?_
         clear hwa l1
         rintro e w5 ⟨rfl,b5⟩
         have k5:=(b5.block _ HRL2.out).trans HRK.out
         have l5:=ld_row ((b5.block _ HXL.out).trans HKF.out) Tryz.underlying24 rfl info_deal
         obtain⟨w6,st,k6,g6⟩:=st_row w5 w.heap.size 24 24 zcs (xcs x A1 A2 c1 c2) k5 info_deal rfl (by simp[Value.oneCell'])
         have l6:=ld_row k6 Tryz.underlying24 rfl info_deal
         have HB6:=Lib.hid ((HBW.out.trans (b5.mono HBW.out.size)).grown g6 (by have:=b5.size;have:=HRL2.out;omega) (by intro k e;cases e;exact Nat.le_refl _))
         have HDS:Hid (DS w6 w6.heap.size A1 A2 x):=Lib.hid (by
          have hd:=HDF.out.up b5
          have hnr: ∀(B:Option Addr) (l:List Int),From wk.heap.size B→Ints w5 w5.heap.size B l→Ints w6 w6.heap.size B l:=fun B l hfB h=>(Seg.grown1 h g6 (fun a ea=>by have:=hfB a ea;have:=HWK.out;omega)).more g6.size
          exact⟨hnr _ _ HFR.out.1 hd.into,hnr _ _ HFR.out.2 hd.sizes,hd.li,hd.ls⟩)
         clear b5 k5 k6 g6
         go_wp2
         refine bodyPost_ret (v:=.tuple #[.agg (xcs x A1 A2 c1 c2),.int .i64 0]) (by simp[results,Tryz.results25,go_sem,l6]) rfl ?_
         exact⟨x,0,A1,A2,c1,c2,HRF.out,rfl,HDS.out,HC1.out,HC2.out,HB6.out⟩
        ·have hq1:(rx.toList==s.toList)=false:=by rw[hst];exact decide_eq_false hq
         have hq2:(rx.toList !=s.toList)=true:=by rw[bne,hq1];rfl
         have HRF:Hid (Rt.read s.data.toList=(Rt.noDeal,4)):=Lib.hid (HR.out.trans (if_neg fun h=>hq (hms.2 h.2)))
         clear hq hms hst hf HR
         go_wp2_with fail
         refine hwa.mono ?_
         clear hwa l1
         rintro e w5 ⟨rfl,b5⟩
         obtain⟨w6,st,l6,HB6⟩:=HFIN.out w5 b5
         clear b5
         go_wp2
         refine bodyPost_ret (v:=.tuple #[.agg zcs,.int .i64 4]) (by simp[results,Tryz.results25,go_sem,l6]) rfl ?_
         exact EndRd.no HRF.out HB6.out
       ·have hff:Rt.formed x=false:=by simpa using hf
        have hwa:=write_no x A1 A2 c1 c2 wc HDF.out HC1.out hff
        have HRF:Hid (Rt.read s.data.toList=(Rt.noDeal,4)):=Lib.hid (HR.out.trans (if_neg fun h=>hf h.1))
        clear hf hff HR
        go_wp2_with fail
        refine hwa.mono ?_
        clear hwa l1
        rintro e w5 ⟨rfl,b5⟩
        obtain⟨w6,st,l6,HB6⟩:=HFIN.out w5 b5
        clear b5
        go_wp2
        refine bodyPost_ret (v:=.tuple #[.agg zcs,.int .i64 4]) (by simp[results,Tryz.results25,go_sem,l6]) rfl ?_
        exact EndRd.no HRF.out HB6.out
end Go.Proofs.YtcffonnijhhhiaaGreatDoor
