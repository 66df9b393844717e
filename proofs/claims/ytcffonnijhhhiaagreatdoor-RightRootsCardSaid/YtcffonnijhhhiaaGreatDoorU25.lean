/- Part U25 of the proof: Rl. -/
import Derived.Test.YtcffonnijhhhiaaGreatDoorProg
import Derived.WalkKit
import Derived.WalkLawsBesides
import Derived.WalkSpells
import Derived.Handy
import Derived.Lib.Hide
import Derived.Great.BuildSlice
import Derived.Deep.QuietTactic
import Derived.BigQuiet
import Derived.Deep.RegionHeld3
import Derived.Deep.DeepCutAuto
import Derived.Test.YtcffonnijhhhiaaGreatDoorU22
set_option linter.all false
set_option linter.unusedSimpArgs false
set_option linter.unusedVariables false
set_option linter.unusedSectionVars false
namespace Go.Proofs.YtcffonnijhhhiaaGreatDoor
open Go Go.RowKit Go.Maps Mp
attribute [-simp] Prod.forall Prod.exists
attribute [-go_sem] loadVar storeVar Builtin.append_
attribute [local go_sem] lk_int lk_lots lk_parts lk_holds lk_mE lk_mS lk_sL lk_sE lk_sS
structure LI (W:World)(N b1:Nat)(l:List Rt.Lot)(k:Nat)(v:Value)(L:List Lp):Prop where
 box:W.heap[b1]?=some (.cells #[v,.slice none 0 0,.slice none 0 0] 50 (0,0))
 own:W.ownsRow N 54 3 v L.length (L.flatMap encL)
 len:L.length=k
 is:lts L=l.take k
 each: ∀p∈L,Seg encH 2 W W.heap.size p.A p.x.held∧p.x.held.length≤p.c∧From N p.A∧(∀g,v.ownBlock=some g→Far g p.A p.x.held)∧ ∀a,p.A=some a→ ∃cs,W.heap[a.block]?=some (.cells cs 59 (0,0))
theorem LI.drew {W:World}{N b1:Nat}{l:List Rt.Lot}{k:Nat}{v:Value}{L:List Lp}(h:LI W N b1 l k v L):LI W.drew N b1 l k v L:=⟨h.box,h.own,h.len,h.is,h.each⟩
theorem LI.next {W w5:World}{N b1 k:Nat}{l:List Rt.Lot}{v:Value}{L:List Lp}(h:LI W N b1 l k v L)(hk:k<l.length)(hb1:b1<N)(hN:N≤W.heap.size)(hm:l.length≤1000001){A:Option Addr}{c:Nat}
  (hs:Seg encH 2 w5 w5.heap.size A l[k].held) (hc:l[k].held.length≤c) (hf:From W.heap.size A) (hb:Below W.heap.size W w5) (hw: ∀a,A=some a→ ∃cs,w5.heap[a.block]?=some (.cells cs 59 (0,0))):
  ∃g' c2 w6 W7,(Builtin.append_ #[46,46] 46 #[v,.slice (some ⟨w5.heap.size,0,none⟩) 1 1]).run Tryz.prog (w5.alloc (.cells #[.int .i64 l[k].number,.int .i64 l[k].size,.slice A l[k].held.length c] 54))=.ok (.slice (some ⟨g',0,none⟩) (k+1) c2) w6∧
   (storeVar 46 ⟨b1,0,none⟩ (.slice (some ⟨g',0,none⟩) (k+1) c2)).run Tryz.prog w6=.ok () W7∧LI W7 N b1 l (k+1) (.slice (some ⟨g',0,none⟩) (k+1) c2) (L++[⟨l[k],A,c⟩])∧GrowN N b1 W W7∧W.heap.size≤w6.heap.size:=by
 have hlen:=h.len
 have hz:=hb.size
 obtain⟨g',c2,w6,W7,h1,h2,h3,_,h5,h6,h7,h8,h9,h10,_⟩:=box_push layL Tryz.sizeOf46 (j:=0) h.box (by simp) h.own hb1 hN hb ⟨l[k],A,c⟩ (rowL ⟨l[k],A,c⟩) rfl (by omega) (by decide)
 rw[hlen]at h1 h2 h5 h6
 refine⟨g',c2,w6,W7,h1,h2,⟨by simpa using h5,by rw[List.length_append,hlen];exact h6,by rw[List.length_append,hlen];rfl,?_,fun p hp=> ?_⟩,h7,h3.size⟩
 ·show(L++[_]).map _=_
  rw[List.map_append,List.take_succ_eq_append_getElem hk,←h.is]
  rfl
 ·have key: ∀(A1:Option Addr) (l1:List (Int×Int)),Seg encH 2 w5 w5.heap.size A1 l1→From N A1→(∀g,v.ownBlock=some g→Far g A1 l1)→Seg encH 2 W7 W7.heap.size A1 l1:=fun A1 l1 hs hf hv=>by
   rcases hs with hs|⟨b,off,hA,hbb,hcell⟩
   ·exact .inl hs
   ·cases l1 with
    |nil=>exact .inl rfl
    |cons y l1=>
     have hbN:N≤b:=hf _ hA
     refine .inr ⟨b,off,hA,by omega,fun i x hx j u hu=>(World.cell?_of_block (h10 b hbb (fun e=> ?_) (by omega))).trans (hcell i x hx j u hu)⟩
     rcases hv b e.symm with h11|h11
     ·cases h11
     ·exact h11 _ hA rfl
  have kc: ∀(A1:Option Addr),(∀a,A1=some a→ ∃cs,w5.heap[a.block]?=some (.cells cs 59 (0,0)))→From N A1→ ∀a,A1=some a→ ∃cs,W7.heap[a.block]?=some (.cells cs 59 (0,0)):=fun A1 hw hf a ha=>by
   obtain⟨cs,hcs⟩:=hw a ha
   have hlt:=(Array.getElem?_eq_some_iff.1 hcs).1
   have hN':=hf a ha
   refine⟨cs,(h10 a.block hlt (fun e=> ?_) (by omega)).trans hcs⟩
   have ho5:=own_below (hb:=hb) h.own
   rcases ho5.2 with ⟨h4,_⟩|⟨g,cap,cur,h4,_,hg,_⟩
   ·rw[h4]at e;cases e
   ·rw[h4]at e
    have e2:a.block=g:=Option.some.inj e
    rw[e2,hg]at hcs
    have e3:=(Obj.cells.inj (Option.some.inj hcs)).2.1
    exact absurd e3 (by decide)
  have hfar: ∀ {A1:Option Addr} {l1:List (Int×Int)},Seg encH 2 w5 w5.heap.size A1 l1→(∀g,v.ownBlock=some g→Far g A1 l1)→Far g' A1 l1:=fun {A1 l1} hs hv=>by
   rcases h8 with e|e
   ·exact hv g' e
   ·rcases hs with hs|⟨b,off,hA,hbb,_⟩
    ·exact .inl hs
    ·refine .inr fun a ha=> ?_
     rw[hA]at ha
     cases ha
     show b≠g'
     omega
  rcases List.mem_append.1 hp with hp|hp
  ·obtain⟨e1,e2,e3,e4,e5⟩:=h.each p hp
   have e6:=e1.up hb
   refine⟨key _ _ e6 e3 e4,e2,e3,fun g hg=> ?_,kc _ (fun a ha=> ?_) e3⟩
   ·cases hg
    exact hfar e6 e4
   ·obtain⟨cs,hcs⟩:=e5 a ha
    exact⟨cs,(hb.block _ (Array.getElem?_eq_some_iff.1 hcs).1).trans hcs⟩
  ·rw[List.mem_singleton.1 hp]
   have hv: ∀g,v.ownBlock=some g→Far g A l[k].held:=fun g hg=> .inr fun a ha=>by
    have:=hf a ha
    have:=(h.own.lt g hg).2
    omega
   have hfN:From N A:=fun a ha=>by have:=hf a ha;omega
   refine⟨key _ _ hs hfN hv,hc,hfN,fun g hg=> ?_,kc _ hw hfN⟩
   cases hg
   exact hfar hs hv
theorem ad_iff {w : World} {B sb bu bl be bs : Nat} {ad : Int → Option (Nat × Nat)} {s : Rt.St} (h : SM w B sb bu bl be bs ad (view s)) (k : Int) : (ad k).isSome = true ↔ k ∈ s.roll.lots.map (·.number) := by
 have h1:(ad k).isSome=(Rt.lotOf s.roll.lots k).isSome:=by
  cases hp:ad k with
  |none=>
   have:=h.no k hp
   unfold view at this
   simp only[Option.map_eq_none_iff]at this
   rw[this]
   rfl
  |some p=>
   obtain⟨L,h1,_⟩:=h.each k p hp
   unfold view at h1
   simp only at h1
   obtain⟨y,hy,_⟩:=Option.map_eq_some_iff.1 h1
   rw[hy]
   rfl
 rw[h1]
 unfold Rt.lotOf
 rw[List.find?_isSome]
 constructor
 ·rintro⟨x,hx,e⟩
  exact List.mem_map.2 ⟨x,hx,by simpa using e⟩
 ·intro hm
  obtain⟨x,hx,e⟩:=List.mem_map.1 hm
  exact⟨x,hx,by simpa using e⟩
theorem findK_iff {α:Type}(key:α→Int×Int)(l:List α)(k:Int×Int){β:Type}(f:α→β):((Rt.findK key l k).map f).isSome=true↔k∈l.map key:=by
 unfold Rt.findK
 rw[Option.isSome_map,List.find?_isSome]
 constructor
 ·rintro⟨x,hx,e⟩
  exact List.mem_map.2 ⟨x,hx,by simpa using e⟩
 ·intro hm
  obtain⟨x,hx,e⟩:=List.mem_map.1 hm
  exact⟨x,hx,by simpa using e⟩
theorem seg_growN {α:Type}{enc:α→List Value}{size n b:Nat}{w w':World}{A:Option Addr}{l:List α}(h:Seg enc size w w.heap.size A l)(hf:From n A)(hb:b<n)(g:GrowN w.heap.size b w w'):Seg enc size w' w'.heap.size A l:=by
 rcases h with h|⟨b',off,hA,hbb,hc⟩
 ·exact .inl h
 ·have:=hf _ hA
  simp only at this
  exact .inr ⟨b',off,hA,Nat.lt_of_lt_of_le hbb g.size,fun k x hx j v hv=>(World.cell?_of_block (g.block b' hbb (by omega))).trans (hc k x hx j v hv)⟩
theorem cells_growN {n b:Nat}{w w':World}{T:TypeId}{A:Option Addr}(h: ∀a,A=some a→ ∃cs,w.heap[a.block]?=some (.cells cs T (0,0)))(hf:From n A)(hb:b<n)(g:GrowN w.heap.size b w w'): ∀a,A=some a→ ∃cs,w'.heap[a.block]?=some (.cells cs T (0,0)):=fun a ha=>by
 obtain⟨cs,hcs⟩:=h a ha
 have:=hf a ha
 exact⟨cs,(g.block _ (Array.getElem?_eq_some_iff.1 hcs).1 (by omega)).trans hcs⟩
theorem fld0 (a b:Int)(w:World):(Instr.field 171 (.agg #[.int .i64 a,.int .i64 b]) 0).run Tryz.prog w=.ok (.int .i64 a) w:=by kernel_rfl
theorem fld1 (a b:Int)(w:World):(Instr.field 171 (.agg #[.int .i64 a,.int .i64 b]) 1).run Tryz.prog w=.ok (.int .i64 b) w:=by kernel_rfl
theorem info_pair : (Tryz.prog.info? 163).map (·.size) = some 2 := by kernel_rfl
theorem ld_P {w:World}{B:Nat}{A:Option Addr}{l:List (Int×Int)}(h: @Seg (Int×Int) encP 2 w B A l){k:Nat}(hk:k<l.length): ∃b off,A=some ⟨b,off,none⟩∧b<B∧w.rangeAt b (off+k*2) [.int .i64 l[k].1,.int .i64 l[k].2]:=by
 obtain⟨b,off,hA,hb,hc⟩:=h.at_ hk
 exact⟨b,off,hA,hb,fun j v hv=>hc j v hv⟩
structure OwnR (w:World)(A1 A2:Option Addr)(L:List Lp):Prop where
 lots: ∀a,A1=some a→(∃cs,w.heap[a.block]?=some (.cells cs 54 (0,0)))∧ ∀p∈L,Far a.block p.A p.x.held
 held: ∀p∈L,∀a,p.A=some a→ ∃cs,w.heap[a.block]?=some (.cells cs 59 (0,0))
 eases: ∀a,A2=some a→ ∃cs,w.heap[a.block]?=some (.cells cs 71 (0,0))
def EndR (w:World)(r:Rt.Roll)(e:Ending)(w':World):Prop:= ∃A1 c1 A2 c2 A3 c3 L,e=.returned (.agg #[.slice A1 r.lots.length c1,.slice A2 r.eases.length c2,.slice A3 r.stints.length c3])∧Rol w' w'.heap.size A1 A2 A3 L r∧r.lots.length≤c1∧r.eases.length≤c2∧r.stints.length≤c3∧
 From w.heap.size A1∧From w.heap.size A2∧From w.heap.size A3∧(∀p∈L,From w.heap.size p.A)∧OwnR w' A1 A2 L∧Below w.heap.size w w'
abbrev zcR :Array Value:= #[.slice none 0 0,.slice none 0 0,.slice none 0 0]
attribute [local go_sem] fld0 fld1
set_option maxRecDepth 100000 in
set_option maxHeartbeats 8000000 in
theorem roll_a {w:World}{B sb bu bl be bs:Nat}{ad:Int→Option (Nat×Nat)}{s:Rt.St}(h:SM w B sb bu bl be bs ad (view s))(hin:Rt.Inv s):Calls Tryz.prog 118 #[.pointer (some ⟨sb,0,none⟩)] w (EndR w s.roll):=by
 have hz:=h.lt
 have ho:=h.ord
 obtain⟨W1,hW1⟩: ∃W1:World,W1=(w.alloc (.cells zcR 50)).alloc (.cells zcR 50):=⟨_,rfl⟩
 have b1:Below w.heap.size w W1:=by rw[hW1];go_grown
 have z1:W1.heap.size=w.heap.size+2:=by rw[hW1];simp
 have k1:W1.heap[w.heap.size+1]?=some (.cells zcR 50 (0,0)):=by rw[hW1];exact heap_at (by simp)
 have k0:W1.heap[w.heap.size]?=some (.cells zcR 50 (0,0)):=by rw[hW1];exact(Below.heap_alloc _ _ _ (by simp)).trans (heap_alloc_new w _)
 have hsr:=sorted_L (g:=ad) (h.below b1).lots
 have hc1:((w.alloc (.cells zcR 50)).alloc (.cells zcR 50)).cell? ⟨sb,1,none⟩=some (.map (some bl)):=by rw[←hW1];exact(blk_cells (h.below b1).blk).1 1
 have H:=Lib.hid h
 have HI:=Lib.hid hin
 rw[hW1]at hsr
 go_enter Tryz.func118,Tryz.ntmps118
 go_wp2_with fail
 refine hsr.mono ?_
 rw[←hW1]
 clear hsr hc1 hW1
 rintro e w3 ⟨l,A,c,hlt,hmem,rfl,hseg,b3,hfr,_,hl6,_⟩
 have hkeys : l = s.roll.lots.map (·.number) := asc_keys hlt.out HI.out.lots fun k => (hmem.out k).trans (ad_iff H.out k)
 subst hkeys
 rw[List.length_map]at hl6
 have bw3:Below w.heap.size w w3:=b1.trans (b3.mono (by omega))
 have z3:=b3.size
 have hI0:LI w3 w3.heap.size (w.heap.size+1) s.roll.lots 0 (.slice none 0 0) []:=⟨(b3.block _ (by omega)).trans k1,World.ownsRow_nil _ _ _ _,rfl,rfl,fun p hp=>by cases hp⟩
 have k03:w3.heap[w.heap.size]?=some (.cells zcR 50 (0,0)):=(b3.block _ (by omega)).trans k0
 have HSG:=Lib.hid hseg
 clear hseg hlt hmem k1 k0 h hin
 go_wp2
 go_loopw [16] (fun i wr=> ∃(k:Nat) (v:Value) (L:List Lp),k≤s.roll.lots.length∧i=.int .i64 k∧Hid (LI wr w3.heap.size (w.heap.size+1) s.roll.lots k v L)∧GrowN w3.heap.size (w.heap.size+1) w3 wr) (fun i _=>s.roll.lots.length-(intOf i).toNat)
 case atStart=>exact⟨0,_,[],by omega,rfl,Lib.hid hI0,GrowN.refl _ _ _⟩
 case round=>
  obtain⟨k,v,L,hk,rfl,HL,hg⟩:=hrel
  have zg:=hg.size
  by_cases hltk:k<s.roll.lots.length
  ·obtain⟨b,off,hA,hbb,q0⟩:=Ints.at1 HSG.out (k:=k) (by simpa using hltk)
   have hb2:=hfr _ hA
   simp only at hb2
   rw[List.getElem_map]at q0
   subst hA
   have q1:wr.cell? ⟨b,off+k,none⟩=some (.int .i64 s.roll.lots[k].number):=(World.cell?_of_block (hg.block b hbb (by omega))).trans q0
   obtain⟨W,hW⟩: ∃W:World,W=wr.drew:=⟨_,rfl⟩
   have hIW:LI W w3.heap.size (w.heap.size+1) s.roll.lots k v L:=by rw[hW];exact HL.out.drew
   have gW:GrowN w3.heap.size (w.heap.size+1) w3 W:=by rw[hW];exact⟨hg.os,hg.tape,hg.output,hg.size,hg.block⟩
   have bW:Below w.heap.size w W:=bw3.trans (gW.below (by omega) (by omega))
   have zW:=gW.size
   have hlot:=lot_a (H.out.below bW) (Rt.lotOf_mem HI.out.lots (List.getElem_mem hltk)) (HI.out.held _ (List.getElem_mem hltk)).1
   have HN:=Lib.hid (fun(A:Option Addr) (c:Nat) (w5:World) hs hc hf hb hw=>hIW.next hltk (show w.heap.size+1<w3.heap.size by omega) zW hl6 (A:=A) (c:=c) (w5:=w5) hs hc hf hb hw)
   have q3:=(blk_cells hIW.box).1 0
   have hb1W:w.heap.size+1<W.heap.size:=by omega
   have HW:=Lib.hid hW
   clear q0 hW hIW
   obtain⟨y,hy⟩: ∃y,s.roll.lots[k]=y:=⟨_,rfl⟩
   rw[hy]at q1 hlot
   go_wp2
   refine wp_region_held_drew (S:=fun _=>True) (by kernel_rfl) trivial (fun hHeld=> ?_)
   rw[←HW.out]
   refine takeH 0 (some 20) (v:= ?v1) rfl rfl (by kernel_rfl) (by kernel_rfl) (by kernel_rfl) (fun _ _ _ h=>h) (Or.inl ⟨by rfl,fun W hW=> ?hy1⟩) (by assumption) ?hr1
   case hy1=>(try dsimp only at hW);go_simp;try with_reducible rfl
   try simp only[Act.put,List.setIfInBounds_toArray,List.set_cons_zero,List.set_cons_succ]
   refine takeH 2 (some 22) (v:= ?v2) rfl rfl (by kernel_rfl) (by kernel_rfl) (by kernel_rfl) (fun _ _ _ h=>h) (Or.inl ⟨by rfl,fun W hW=> ?hy2⟩) (by assumption) ?hr2
   case hy2=>(try dsimp only at hW);go_simp;try with_reducible rfl
   try simp only[Act.put,List.setIfInBounds_toArray,List.set_cons_zero,List.set_cons_succ]
   refine takeH 3 (some 23) (v:= ?v3) rfl rfl (by kernel_rfl) (by kernel_rfl) (by kernel_rfl) (fun _ _ _ h=>h) (Or.inl ⟨by rfl,fun W hW=> ?hy3⟩) (by assumption) ?hr3
   case hy3=>(try dsimp only at hW);go_simp;try with_reducible rfl
   try simp only[Act.put,List.setIfInBounds_toArray,List.set_cons_zero,List.set_cons_succ]
   refine wpAnyH_ready (rs:=[1,4]) (by kernel_rfl) (by simp) ?_
   refine readyH (some 21) rfl rfl (fun K hK=> ?_) (readyH (some 24) rfl rfl (fun K hK=> ?_) AllReadyH.nil)
   ·clear hHeld
    go_simp
    refine hK _ _ trivial (fun hHeld=> ?_)
    clear hK K
    try simp only[Act.put,List.setIfInBounds_toArray,List.set_cons_zero,List.set_cons_succ]
    refine wpAnyH_ready (rs:=[4]) (by kernel_rfl) (by simp) ?_
    refine readyH (some 24) rfl rfl (fun K hK=> ?_) AllReadyH.nil
    go_simp
    refine hlot.mono ?_
    rintro e w5 ⟨A5,c5,rfl,hs5,hc5,hf5,b5,hw5⟩
    have hnx:=HN.out A5 c5 w5 (by rw[hy];exact hs5) (by rw[hy];exact hc5) hf5 b5 hw5
    rw[hy]at hnx
    obtain⟨g',c2,w6,W7,hrun,st7,hI7,hg7,hz6⟩:=hnx
    have q5:w5.cell? ⟨w.heap.size+1,0,none⟩=some v:=(b5.cell (p:=⟨w.heap.size+1,0,none⟩) hb1W).trans q3
    obtain⟨WA,hWA⟩: ∃WA:World,WA=w5.alloc (.cells #[.int .i64 y.number,.int .i64 y.size,.slice A5 y.held.length c5] 54):=⟨_,rfl⟩
    have qA:WA.cell? ⟨w.heap.size+1,0,none⟩=some v:=by rw[hWA];exact(World.cell?_of_block (Below.heap_alloc _ _ _ (by have:=b5.size;show w.heap.size+1<w5.heap.size;omega))).trans q5
    rw[←hWA]at hrun
    have HWA:=Lib.hid hWA
    have HI7:=Lib.hid hI7
    clear hWA hI7 hlot
    refine hK _ _ trivial (fun hHeld=> ?_)
    clear hK K
    try simp only[Act.put,List.setIfInBounds_toArray,List.set_cons_zero,List.set_cons_succ]
    refine wpAnyH_ready (rs:=[5]) (by kernel_rfl) (by simp) ?_
    refine readyH (some 25) rfl rfl (fun K hK=> ?_) AllReadyH.nil
    go_simp
    rw[←HWA.out]
    refine hK _ _ trivial (fun hHeld=> ?_)
    clear hK K
    try simp only[Act.put,List.setIfInBounds_toArray,List.set_cons_zero,List.set_cons_succ]
    refine wpAnyH_ready (rs:=[6]) (by kernel_rfl) (by simp) ?_
    refine readyH (some 26) rfl rfl (fun K hK=> ?_) AllReadyH.nil
    go_simp
    refine hK _ _ trivial (fun hHeld=> ?_)
    clear hK K
    try simp only[Act.put,List.setIfInBounds_toArray,List.set_cons_zero,List.set_cons_succ]
    refine takeH 7 (some 27) (v:= ?v4) rfl rfl (by kernel_rfl) (by kernel_rfl) (by kernel_rfl) (fun _ _ _ h=>h) (Or.inl ⟨by rfl,fun W hW=> ?hy4⟩) (by assumption) ?hr4
    case hy4=>(try dsimp only at hW);go_simp;try with_reducible rfl
    try simp only[Act.put,List.setIfInBounds_toArray,List.set_cons_zero,List.set_cons_succ]
    refine wpAnyH_ready (rs:=[8]) (by kernel_rfl) (by simp) ?_
    refine readyH none rfl rfl (fun K hK=> ?_) AllReadyH.nil
    go_simp
    refine hK _ _ trivial (fun hHeld=> ?_)
    clear hK K
    try simp only[Act.put,List.setIfInBounds_toArray,List.set_cons_zero,List.set_cons_succ]
    refine wpAnyH_done (by kernel_rfl) ?_ _
    go_wp2
    go_roundw
    case rel=>exact⟨k+1,_,L++[⟨y,A5,c5⟩],by omega,by go_num,by rw[←hy];rw[←hy]at HI7;exact HI7,gW.trans hg7⟩
    case measure=>first|(simp[intOf];done)|(simp[intOf];omega)
   ·clear hHeld
    go_simp
    refine hlot.mono ?_
    rintro e w5 ⟨A5,c5,rfl,hs5,hc5,hf5,b5,hw5⟩
    have hnx:=HN.out A5 c5 w5 (by rw[hy];exact hs5) (by rw[hy];exact hc5) hf5 b5 hw5
    rw[hy]at hnx
    obtain⟨g',c2,w6,W7,hrun,st7,hI7,hg7,hz6⟩:=hnx
    have q5:w5.cell? ⟨w.heap.size+1,0,none⟩=some v:=(b5.cell (p:=⟨w.heap.size+1,0,none⟩) hb1W).trans q3
    obtain⟨WA,hWA⟩: ∃WA:World,WA=w5.alloc (.cells #[.int .i64 y.number,.int .i64 y.size,.slice A5 y.held.length c5] 54):=⟨_,rfl⟩
    have qA:WA.cell? ⟨w.heap.size+1,0,none⟩=some v:=by rw[hWA];exact(World.cell?_of_block (Below.heap_alloc _ _ _ (by have:=b5.size;show w.heap.size+1<w5.heap.size;omega))).trans q5
    rw[←hWA]at hrun
    have HWA:=Lib.hid hWA
    have HI7:=Lib.hid hI7
    clear hWA hI7 hlot
    refine hK _ _ trivial (fun hHeld=> ?_)
    clear hK K
    try simp only[Act.put,List.setIfInBounds_toArray,List.set_cons_zero,List.set_cons_succ]
    refine wpAnyH_ready (rs:=[1,5]) (by kernel_rfl) (by simp) ?_
    refine readyH (some 21) rfl rfl (fun K hK=> ?_) (readyH (some 25) rfl rfl (fun K hK=> ?_) AllReadyH.nil)
    ·clear hHeld
     go_simp
     refine hK _ _ trivial (fun hHeld=> ?_)
     clear hK K
     try simp only[Act.put,List.setIfInBounds_toArray,List.set_cons_zero,List.set_cons_succ]
     refine wpAnyH_ready (rs:=[5]) (by kernel_rfl) (by simp) ?_
     refine readyH (some 25) rfl rfl (fun K hK=> ?_) AllReadyH.nil
     go_simp
     rw[←HWA.out]
     refine hK _ _ trivial (fun hHeld=> ?_)
     clear hK K
     try simp only[Act.put,List.setIfInBounds_toArray,List.set_cons_zero,List.set_cons_succ]
     refine wpAnyH_ready (rs:=[6]) (by kernel_rfl) (by simp) ?_
     refine readyH (some 26) rfl rfl (fun K hK=> ?_) AllReadyH.nil
     go_simp
     refine hK _ _ trivial (fun hHeld=> ?_)
     clear hK K
     try simp only[Act.put,List.setIfInBounds_toArray,List.set_cons_zero,List.set_cons_succ]
     refine takeH 7 (some 27) (v:= ?v5) rfl rfl (by kernel_rfl) (by kernel_rfl) (by kernel_rfl) (fun _ _ _ h=>h) (Or.inl ⟨by rfl,fun W hW=> ?hy5⟩) (by assumption) ?hr5
     case hy5=>(try dsimp only at hW);go_simp;try with_reducible rfl
     try simp only[Act.put,List.setIfInBounds_toArray,List.set_cons_zero,List.set_cons_succ]
     refine wpAnyH_ready (rs:=[8]) (by kernel_rfl) (by simp) ?_
     refine readyH none rfl rfl (fun K hK=> ?_) AllReadyH.nil
     go_simp
     refine hK _ _ trivial (fun hHeld=> ?_)
     clear hK K
     try simp only[Act.put,List.setIfInBounds_toArray,List.set_cons_zero,List.set_cons_succ]
     refine wpAnyH_done (by kernel_rfl) ?_ _
     go_wp2
     go_roundw
     case rel=>exact⟨k+1,_,L++[⟨y,A5,c5⟩],by omega,by go_num,by rw[←hy];rw[←hy]at HI7;exact HI7,gW.trans hg7⟩
     case measure=>first|(simp[intOf];done)|(simp[intOf];omega)
    ·clear hHeld
     go_simp
     rw[←HWA.out]
     refine hK _ _ trivial (fun hHeld=> ?_)
     clear hK K
     try simp only[Act.put,List.setIfInBounds_toArray,List.set_cons_zero,List.set_cons_succ]
     refine wpAnyH_ready (rs:=[1]) (by kernel_rfl) (by simp) ?_
     refine readyH (some 21) rfl rfl (fun K hK=> ?_) AllReadyH.nil
     go_simp
     refine hK _ _ trivial (fun hHeld=> ?_)
     clear hK K
     try simp only[Act.put,List.setIfInBounds_toArray,List.set_cons_zero,List.set_cons_succ]
     refine wpAnyH_ready (rs:=[6]) (by kernel_rfl) (by simp) ?_
     refine readyH (some 26) rfl rfl (fun K hK=> ?_) AllReadyH.nil
     go_simp
     refine hK _ _ trivial (fun hHeld=> ?_)
     clear hK K
     try simp only[Act.put,List.setIfInBounds_toArray,List.set_cons_zero,List.set_cons_succ]
     refine takeH 7 (some 27) (v:= ?v6) rfl rfl (by kernel_rfl) (by kernel_rfl) (by kernel_rfl) (fun _ _ _ h=>h) (Or.inl ⟨by rfl,fun W hW=> ?hy6⟩) (by assumption) ?hr6
     case hy6=>(try dsimp only at hW);go_simp;try with_reducible rfl
     try simp only[Act.put,List.setIfInBounds_toArray,List.set_cons_zero,List.set_cons_succ]
     refine wpAnyH_ready (rs:=[8]) (by kernel_rfl) (by simp) ?_
     refine readyH none rfl rfl (fun K hK=> ?_) AllReadyH.nil
     go_simp
     refine hK _ _ trivial (fun hHeld=> ?_)
     clear hK K
     try simp only[Act.put,List.setIfInBounds_toArray,List.set_cons_zero,List.set_cons_succ]
     refine wpAnyH_done (by kernel_rfl) ?_ _
     go_wp2
     go_roundw
     case rel=>exact⟨k+1,_,L++[⟨y,A5,c5⟩],by omega,by go_num,by rw[←hy];rw[←hy]at HI7;exact HI7,gW.trans hg7⟩
     case measure=>first|(simp[intOf];done)|(simp[intOf];omega)
  ·obtain rfl:k=s.roll.lots.length:=by omega
   have hLI:=HL.out
   have hLl:=hLI.len
   obtain⟨A1,c1,rfl,hs1,hc1,hf1⟩:=own_seg layL hLI.own
   rw[hLl]at hc1
   have isL:lts L=s.roll.lots:=by rw[hLI.is,List.take_length]
   have bwa:Below w.heap.size w wr:=bw3.trans (hg.below (by omega) (by omega))
   have HP1:=Lib.hid (show Lts wr wr.heap.size A1 L∧From w3.heap.size A1∧(∀p∈L,From w3.heap.size p.A)∧(∀a,A1=some a→(∃cs,wr.heap[a.block]?=some (.cells cs 54 (0,0)))∧ ∀p∈L,Far a.block p.A p.x.held)∧ ∀p∈L,∀a,p.A=some a→ ∃cs,wr.heap[a.block]?=some (.cells cs 59 (0,0)) from
    ⟨⟨hs1,fun p hp=>⟨(hLI.each p hp).1,(hLI.each p hp).2.1⟩⟩,hf1,fun p hp=>(hLI.each p hp).2.2.1,fun a ha=>⟨own_cells hLI.own a ha,fun p hp=>(hLI.each p hp).2.2.2.1 a.block (by rw[ha];rfl)⟩,fun p hp=>(hLI.each p hp).2.2.2.2⟩)
   have hbx:=hLI.box
   rw[hLl]at hbx
   have k0a:wr.heap[w.heap.size]?=some (.cells zcR 50 (0,0)):=(hg.block _ (by omega) (by omega)).trans k03
   have hsE:=sorted_E (g:=(view s).eases) (H.out.below bwa).eases
   have q2:=(blk_cells (H.out.below bwa).blk).1 2
   obtain⟨wa,hwa⟩: ∃wa,wa=wr:=⟨_,rfl⟩
   rw[←hwa]at HP1
   clear hs1 hLI HL hf1
   go_wp2_with fail
   refine hsE.mono ?_
   clear hsE q2
   rintro e w4 ⟨l4,A4,c4,hlt4,hmem4,rfl,hseg4,b4,hfr4,_,hl4,_⟩
   have hk4:l4=s.roll.eases.map Rt.Ease.key:=asc2_keys hlt4.out HI.out.eases fun k=>(hmem4.out k).trans (findK_iff _ _ _ _)
   subst hk4
   rw[List.length_map]at hl4
   have bw4:Below w.heap.size w w4:=bwa.trans (b4.mono bwa.size)
   have z4:=b4.size
   have hbx4:=(b4.block _ (by omega)).trans hbx
   have HSG4:=Lib.hid hseg4
   clear hseg4 hlt4 hmem4 hbx
   go_wp2
   go_loopw [35] (fun i wr=> ∃(k:Nat) (v:Value),k≤s.roll.eases.length∧i=.int .i64 k∧Hid (wr.heap[w.heap.size+1]?=some (.cells #[.slice A1 s.roll.lots.length c1,v,.slice none 0 0] 50 (0,0)))∧Hid (wr.ownsRow w4.heap.size 71 3 v k ((s.roll.eases.take k).flatMap encE))∧GrowN w4.heap.size (w.heap.size+1) w4 wr) (fun i _=>s.roll.eases.length-(intOf i).toNat)
   case atStart=>exact⟨0,_,by omega,rfl,Lib.hid hbx4,Lib.hid (World.ownsRow_nil _ _ _ _),GrowN.refl _ _ _⟩
   case round=>
    obtain⟨k,v,hk,rfl,HB,HO,hg⟩:=hrel
    have zg:=hg.size
    by_cases hltk:k<s.roll.eases.length
    ·obtain⟨b,off,hA,hbb,hrg⟩:=ld_P HSG4.out (k:=k) (by simpa using hltk)
     have hb2:=hfr4 _ hA
     simp only at hb2
     obtain⟨y,hy⟩: ∃y,s.roll.eases[k]=y:=⟨_,rfl⟩
     rw[List.getElem_map,hy]at hrg
     have hmy:y∈s.roll.eases:=hy▸List.getElem_mem hltk
     subst hA
     have hrg1:wr.rangeAt b (off+k*2) [.int .i64 (y.key).1,.int .i64 (y.key).2]:=fun j v hv=>(World.cell?_of_block (hg.block b hbb (by omega))).trans (hrg j v hv)
     have l1:(loadVar 163 ⟨b,off+k*2,none⟩).run Tryz.prog wr=.ok (.agg #[.int .i64 (y.key).1,.int .i64 (y.key).2]) wr:=run_loadVar_mid wr b (off+k*2) 163 _ _ hrg1 Tryz.underlying163 rfl info_pair
     obtain⟨W2,st2,kz,g2⟩:=st_row (wr.alloc (.cells #[.int .i64 0,.int .i64 0] 163)) wr.heap.size 163 163 #[.int .i64 0,.int .i64 0] #[.int .i64 (y.key).1,.int .i64 (y.key).2] (heap_alloc_new wr _) info_pair rfl (by simp[Value.oneCell'])
     have b2:Below wr.heap.size wr W2:=(Below.alloc (Below.refl _ wr) (Nat.le_refl _) _).grown g2 (by simp) (by intro k e;cases e;omega)
     obtain⟨W,hW⟩: ∃W:World,W=W2.drew:=⟨_,rfl⟩
     have bW2:Below wr.heap.size wr W:=by rw[hW];exact below_drew b2
     have gW:GrowN w4.heap.size (w.heap.size+1) w4 W:=hg.trans (GrowN.of (bW2.mono zg))
     have zW:=bW2.size
     have kzW:W.heap[wr.heap.size]?=some (.cells #[.int .i64 (y.key).1,.int .i64 (y.key).2] 163 (0,0)):=by rw[hW];exact kz
     have hbW:W.heap[w.heap.size+1]?=some (.cells #[.slice A1 s.roll.lots.length c1,v,.slice none 0 0] 50 (0,0)):=(bW2.block _ (by omega)).trans HB.out
     have elk:(s.roll.eases.take k).length=k:=by rw[List.length_take];omega
     have etk:s.roll.eases.take (k+1)=s.roll.eases.take k++[y]:=by rw[List.take_succ_eq_append_getElem hltk,hy]
     have hoW:W.ownsRow w4.heap.size 71 3 v (s.roll.eases.take k).length ((s.roll.eases.take k).flatMap encE):=by rw[elk];exact own_below HO.out bW2
     have hnx:=box_push layE Tryz.sizeOf47 (j:=1) hbW (by simp) hoW (show w.heap.size+1<w4.heap.size by omega) gW.size (Below.refl _ W) y (rowE y) rfl (by omega) (by decide)
     rw[elk]at hnx
     obtain⟨g',c',w6,W7,hrun,st7,hg6,_,hb7,ho7,hg7,_,_,hk7,hk6⟩:=hnx
     rw[←etk]at ho7
     have hvz:some wr.heap.size≠v.ownBlock:=fun e=>by have:=(HO.out.lt _ e.symm).2;omega
     have e6:w6.heap[wr.heap.size]?=W.heap[wr.heap.size]?:=hk6 _ (Array.getElem?_eq_some_iff.1 kzW).1 hvz
     have e7:W7.heap[wr.heap.size]?=W.heap[wr.heap.size]?:=hk7 _ (Array.getElem?_eq_some_iff.1 kzW).1 hvz (by omega)
     have hyo:okP (y.key):=fm_ok H.out.eases kP.inj (k:=y.key) (by
      show(((view s).eases (y.key)).map _).isSome=true
      rw[Option.isSome_map]
      exact(findK_iff _ _ _ _).2 (List.mem_map_of_mem hmy))
     have HS:=Lib.hid (show ∀V:World,V.heap[wr.heap.size]?=W.heap[wr.heap.size]?→GrowN w4.heap.size (w.heap.size+1) W V→(fun V=>V.cell? ⟨wr.heap.size,0,none⟩=some (.int .i64 y.over)∧V.cell? ⟨wr.heap.size,1,none⟩=some (.int .i64 y.of)∧V.cell? ⟨sb,2,none⟩=some (.map (some be))∧(loadVar 163 ⟨wr.heap.size,0,none⟩).run Tryz.prog V=.ok (.agg #[.int .i64 y.over,.int .i64 y.of]) V∧(Instr.lookup 129 (.map (some be)) (.agg #[.int .i64 y.over,.int .i64 y.of]) false).run Tryz.prog V=.ok (.int .i64 y.deal) V) V from fun V hV gV=>by
      have bV:Below w.heap.size w V:=bw4.trans ((gW.trans gV).below (by omega) (by omega))
      have hS:=H.out.below bV
      have kV:=hV.trans kzW
      obtain⟨lp,hlp⟩:=kP.key hyo
      have hlk:=(hS.eases.lookup kP Tryz.underlying129 (zero_int V) hlp).1
      rw[show((fI (view s).eases) (y.key)).getD (.int .i64 0)=.int .i64 y.deal by unfold fI view;simp only[Rt.findK_mem Rt.Ease.key HI.out.eases hmy,Option.map_some];rfl]at hlk
      exact⟨(blk_cells kV).1 0,(blk_cells kV).1 1,(blk_cells hS.blk).1 2,ld_row kV Tryz.underlying163 rfl info_pair,hlk⟩)
     have q3:W.cell? ⟨w.heap.size+1,1,none⟩=some v:=(blk_cells hbW).1 1
     obtain⟨WA,hWA⟩: ∃WA:World,WA=W.alloc (.cells (rowE y) 71):=⟨_,rfl⟩
     have bA:Below W.heap.size W WA:=by rw[hWA];exact(Below.refl _ _).alloc (Nat.le_refl _) _
     have qA:WA.cell? ⟨w.heap.size+1,1,none⟩=some v:=(World.cell?_of_block (bA.block _ (by show w.heap.size+1<W.heap.size;omega))).trans q3
     rw[←hWA]at hrun
     have HW:=Lib.hid hW
     have HWA:=Lib.hid hWA
     have HB7:Hid (W7.heap[w.heap.size+1]?=some (.cells #[.slice A1 s.roll.lots.length c1,(.slice (some ⟨g',0,none⟩) (k+1) c'),.slice none 0 0] 50 (0,0))):=Lib.hid (by simpa using hb7)
     have HO7:=Lib.hid ho7
     have hgR:=gW.trans hg7
     have eA:WA.heap[wr.heap.size]?=W.heap[wr.heap.size]?:=bA.block _ (Array.getElem?_eq_some_iff.1 kzW).1
     have gA:GrowN w4.heap.size (w.heap.size+1) W WA:=GrowN.of (bA.mono gW.size)
     clear hW hWA hb7 ho7 hoW hbW kzW kz etk elk hrg hrg1
     go_wp2
     refine wp_region_held_drew (S:=fun V=>V.cell? ⟨wr.heap.size,0,none⟩=some (.int .i64 y.over)∧V.cell? ⟨wr.heap.size,1,none⟩=some (.int .i64 y.of)∧V.cell? ⟨sb,2,none⟩=some (.map (some be))∧(loadVar 163 ⟨wr.heap.size,0,none⟩).run Tryz.prog V=.ok (.agg #[.int .i64 y.over,.int .i64 y.of]) V∧(Instr.lookup 129 (.map (some be)) (.agg #[.int .i64 y.over,.int .i64 y.of]) false).run Tryz.prog V=.ok (.int .i64 y.deal) V) (by kernel_rfl) (by rw[←HW.out];exact HS.out _ rfl (GrowN.refl _ _ _)) (fun hHeld=> ?_)
     rw[←HW.out]at hHeld ⊢
     refine takeH 0 (some 39) (v:= ?v7) rfl rfl (by kernel_rfl) (by kernel_rfl) (by kernel_rfl) (fun _ _ _ h=>h) (Or.inl ⟨by rfl,fun W hW=> ?hy7⟩) (by assumption) ?hr7
     case hy7=>(try dsimp only at hW);go_simp;try with_reducible rfl
     try simp only[Act.put,List.setIfInBounds_toArray,List.set_cons_zero,List.set_cons_succ]
     refine takeH 2 (some 41) (v:= ?v8) rfl rfl (by kernel_rfl) (by kernel_rfl) (by kernel_rfl) (fun _ _ _ h=>h) (Or.inl ⟨by rfl,fun W hW=> ?hy8⟩) (by assumption) ?hr8
     case hy8=>(try dsimp only at hW);go_simp;try with_reducible rfl
     try simp only[Act.put,List.setIfInBounds_toArray,List.set_cons_zero,List.set_cons_succ]
     refine takeH 3 (some 42) (v:= ?v9) rfl rfl (by kernel_rfl) (by kernel_rfl) (by kernel_rfl) (fun _ _ _ h=>h) (Or.inl ⟨by rfl,fun W hW=> ?hy9⟩) (by assumption) ?hr9
     case hy9=>(try dsimp only at hW);go_simp;try with_reducible rfl
     try simp only[Act.put,List.setIfInBounds_toArray,List.set_cons_zero,List.set_cons_succ]
     refine takeH 4 (some 43) (v:= ?v10) rfl rfl (by kernel_rfl) (by kernel_rfl) (by kernel_rfl) (fun _ _ _ h=>h) (Or.inl ⟨by rfl,fun W hW=> ?hy10⟩) (by assumption) ?hr10
     case hy10=>(try dsimp only at hW);go_simp;try with_reducible rfl
     try simp only[Act.put,List.setIfInBounds_toArray,List.set_cons_zero,List.set_cons_succ]
     refine takeH 5 (some 44) (v:= ?v11) rfl rfl (by kernel_rfl) (by kernel_rfl) (by kernel_rfl) (fun _ _ _ h=>h) (Or.inl ⟨by rfl,fun W hW=> ?hy11⟩) (by assumption) ?hr11
     case hy11=>(try dsimp only at hW);go_simp;try with_reducible rfl
     try simp only[Act.put,List.setIfInBounds_toArray,List.set_cons_zero,List.set_cons_succ]
     refine takeH 6 (some 45) (v:= ?v12) rfl rfl (by kernel_rfl) (by kernel_rfl) (by kernel_rfl) (fun _ _ _ h=>h) (Or.inl ⟨by rfl,fun W hW=> ?hy12⟩) (by assumption) ?hr12
     case hy12=>(try dsimp only at hW);go_simp;try with_reducible rfl
     try simp only[Act.put,List.setIfInBounds_toArray,List.set_cons_zero,List.set_cons_succ]
     refine takeH 7 (some 46) (v:= ?v13) rfl rfl (by kernel_rfl) (by kernel_rfl) (by kernel_rfl) (fun _ _ _ h=>h) (Or.inl ⟨by rfl,fun W hW=> ?hy13⟩) (by assumption) ?hr13
     case hy13=>(try dsimp only at hW);go_simp;try with_reducible rfl
     try simp only[Act.put,List.setIfInBounds_toArray,List.set_cons_zero,List.set_cons_succ]
     refine takeH 8 (some 47) (v:= ?v14) rfl rfl (by kernel_rfl) (by kernel_rfl) (by kernel_rfl) (fun _ _ _ h=>h) (Or.inl ⟨by rfl,fun W hW=> ?hy14⟩) (by assumption) ?hr14
     case hy14=>(try dsimp only at hW);go_simp;try with_reducible rfl
     try simp only[Act.put,List.setIfInBounds_toArray,List.set_cons_zero,List.set_cons_succ]
     refine takeH 9 (some 48) (v:= ?v15) rfl rfl (by kernel_rfl) (by kernel_rfl) (by kernel_rfl) (fun _ _ _ h=>h) (Or.inl ⟨by rfl,fun W hW=> ?hy15⟩) (by assumption) ?hr15
     case hy15=>(try dsimp only at hW);go_simp;try with_reducible rfl
     try simp only[Act.put,List.setIfInBounds_toArray,List.set_cons_zero,List.set_cons_succ]
     refine takeH 10 (some 49) (v:= ?v16) rfl rfl (by kernel_rfl) (by kernel_rfl) (by kernel_rfl) (fun _ _ _ h=>h) (Or.inl ⟨by rfl,fun W hW=> ?hy16⟩) (by assumption) ?hr16
     case hy16=>(try dsimp only at hW);go_simp;try with_reducible rfl
     try simp only[Act.put,List.setIfInBounds_toArray,List.set_cons_zero,List.set_cons_succ]
     refine takeH 11 (some 50) (v:= ?v17) rfl rfl (by kernel_rfl) (by kernel_rfl) (by kernel_rfl) (fun _ _ _ h=>h) (Or.inl ⟨by rfl,fun W hW=> ?hy17⟩) (by assumption) ?hr17
     case hy17=>(try dsimp only at hW);go_simp;try with_reducible rfl
     try simp only[Act.put,List.setIfInBounds_toArray,List.set_cons_zero,List.set_cons_succ]
     refine takeH 12 (some 51) (v:= ?v18) rfl rfl (by kernel_rfl) (by kernel_rfl) (by kernel_rfl) (fun _ _ _ h=>h) (Or.inl ⟨by rfl,fun W hW=> ?hy18⟩) (by assumption) ?hr18
     case hy18=>(try dsimp only at hW);go_simp;try with_reducible rfl
     try simp only[Act.put,List.setIfInBounds_toArray,List.set_cons_zero,List.set_cons_succ]
     refine wpAnyH_ready (rs:=[1,13]) (by kernel_rfl) (by simp) ?_
     refine readyH (some 40) rfl rfl (fun K hK=> ?_) (readyH (some 52) rfl rfl (fun K hK=> ?_) AllReadyH.nil)
     ·clear hHeld
      go_simp
      refine hK _ _ (HS.out _ rfl (GrowN.refl _ _ _)) (fun hHeld=> ?_)
      clear hK K
      try simp only[Act.put,List.setIfInBounds_toArray,List.set_cons_zero,List.set_cons_succ]
      refine wpAnyH_ready (rs:=[13]) (by kernel_rfl) (by simp) ?_
      refine readyH (some 52) rfl rfl (fun K hK=> ?_) AllReadyH.nil
      go_simp
      rw[←HWA.out]
      refine hK _ _ (HS.out _ eA gA) (fun hHeld=> ?_)
      clear hK K
      try simp only[Act.put,List.setIfInBounds_toArray,List.set_cons_zero,List.set_cons_succ]
      refine wpAnyH_ready (rs:=[14]) (by kernel_rfl) (by simp) ?_
      refine readyH (some 53) rfl rfl (fun K hK=> ?_) AllReadyH.nil
      go_simp
      refine hK _ _ (HS.out _ e6 hg6) (fun hHeld=> ?_)
      clear hK K
      try simp only[Act.put,List.setIfInBounds_toArray,List.set_cons_zero,List.set_cons_succ]
      refine takeH 15 (some 54) (v:= ?v19) rfl rfl (by kernel_rfl) (by kernel_rfl) (by kernel_rfl) (fun _ _ _ h=>h) (Or.inl ⟨by rfl,fun W hW=> ?hy19⟩) (by assumption) ?hr19
      case hy19=>(try dsimp only at hW);go_simp;try with_reducible rfl
      try simp only[Act.put,List.setIfInBounds_toArray,List.set_cons_zero,List.set_cons_succ]
      refine wpAnyH_ready (rs:=[16]) (by kernel_rfl) (by simp) ?_
      refine readyH none rfl rfl (fun K hK=> ?_) AllReadyH.nil
      go_simp
      refine hK _ _ (HS.out _ e7 hg7) (fun hHeld=> ?_)
      clear hK K
      try simp only[Act.put,List.setIfInBounds_toArray,List.set_cons_zero,List.set_cons_succ]
      refine wpAnyH_done (by kernel_rfl) ?_ _
      go_wp2
      go_roundw
      case rel=>exact⟨k+1,_,by omega,by go_num,HB7,HO7,hgR⟩
      case measure=>first|(simp[intOf];done)|(simp[intOf];omega)
     ·clear hHeld
      go_simp
      rw[←HWA.out]
      refine hK _ _ (HS.out _ eA gA) (fun hHeld=> ?_)
      clear hK K
      try simp only[Act.put,List.setIfInBounds_toArray,List.set_cons_zero,List.set_cons_succ]
      refine wpAnyH_ready (rs:=[1]) (by kernel_rfl) (by simp) ?_
      refine readyH (some 40) rfl rfl (fun K hK=> ?_) AllReadyH.nil
      go_simp
      refine hK _ _ (HS.out _ eA gA) (fun hHeld=> ?_)
      clear hK K
      try simp only[Act.put,List.setIfInBounds_toArray,List.set_cons_zero,List.set_cons_succ]
      refine wpAnyH_ready (rs:=[14]) (by kernel_rfl) (by simp) ?_
      refine readyH (some 53) rfl rfl (fun K hK=> ?_) AllReadyH.nil
      go_simp
      refine hK _ _ (HS.out _ e6 hg6) (fun hHeld=> ?_)
      clear hK K
      try simp only[Act.put,List.setIfInBounds_toArray,List.set_cons_zero,List.set_cons_succ]
      refine takeH 15 (some 54) (v:= ?v20) rfl rfl (by kernel_rfl) (by kernel_rfl) (by kernel_rfl) (fun _ _ _ h=>h) (Or.inl ⟨by rfl,fun W hW=> ?hy20⟩) (by assumption) ?hr20
      case hy20=>(try dsimp only at hW);go_simp;try with_reducible rfl
      try simp only[Act.put,List.setIfInBounds_toArray,List.set_cons_zero,List.set_cons_succ]
      refine wpAnyH_ready (rs:=[16]) (by kernel_rfl) (by simp) ?_
      refine readyH none rfl rfl (fun K hK=> ?_) AllReadyH.nil
      go_simp
      refine hK _ _ (HS.out _ e7 hg7) (fun hHeld=> ?_)
      clear hK K
      try simp only[Act.put,List.setIfInBounds_toArray,List.set_cons_zero,List.set_cons_succ]
      refine wpAnyH_done (by kernel_rfl) ?_ _
      go_wp2
      go_roundw
      case rel=>exact⟨k+1,_,by omega,by go_num,HB7,HO7,hgR⟩
      case measure=>first|(simp[intOf];done)|(simp[intOf];omega)
    ·obtain rfl:k=s.roll.eases.length:=by omega
     have ho2:=HO.out
     rw[List.take_length]at ho2
     obtain⟨A2,c2,rfl,hs2,hc2,hf2⟩:=own_seg layE ho2
     have bwb:Below w.heap.size w wr:=bw4.trans (hg.below (by omega) (by omega))
     have gab:GrowN wa.heap.size (w.heap.size+1) wa wr:=(GrowN.of (by rw[hwa];exact b4)).trans (hg.less (by rw[hwa];omega))
     have HP2:=Lib.hid (show Seg encE 3 wr wr.heap.size A2 s.roll.eases∧From w4.heap.size A2∧ ∀a,A2=some a→ ∃cs,wr.heap[a.block]?=some (.cells cs 71 (0,0)) from⟨hs2,hf2,own_cells ho2⟩)
     have hbx2:=HB.out
     have k0b:wr.heap[w.heap.size]?=some (.cells zcR 50 (0,0)):=(hg.block _ (by omega) (by omega)).trans ((b4.block _ (by omega)).trans k0a)
     have hsS:=sorted_G (g:=(view s).stints) (H.out.below bwb).stints
     have q2:=(blk_cells (H.out.below bwb).blk).1 3
     obtain⟨wb,hwb⟩: ∃wb,wb=wr:=⟨_,rfl⟩
     rw[←hwb]at HP2 gab
     clear hs2 hf2 ho2 HO HB
     go_wp2_with fail
     refine hsS.mono ?_
     clear hsS q2
     rintro e w5 ⟨l5,A5,c5,hlt5,hmem5,rfl,hseg5,b5,hfr5,_,hl5,_⟩
     have hk5:l5=s.roll.stints.map Rt.Stint.key:=asc2_keys hlt5.out HI.out.stints fun k=>(hmem5.out k).trans (findK_iff _ _ _ _)
     subst hk5
     rw[List.length_map]at hl5
     have bw5:Below w.heap.size w w5:=bwb.trans (b5.mono bwb.size)
     have z5:=b5.size
     have hbx5:=(b5.block _ (by omega)).trans hbx2
     have HSG5:=Lib.hid hseg5
     clear hseg5 hlt5 hmem5 hbx2
     go_wp2
     go_loopw [62] (fun i wr=> ∃(k:Nat) (v:Value),k≤s.roll.stints.length∧i=.int .i64 k∧Hid (wr.heap[w.heap.size+1]?=some (.cells #[.slice A1 s.roll.lots.length c1,.slice A2 s.roll.eases.length c2,v] 50 (0,0)))∧Hid (wr.ownsRow w5.heap.size 119 4 v k ((s.roll.stints.take k).flatMap encS))∧GrowN w5.heap.size (w.heap.size+1) w5 wr) (fun i _=>s.roll.stints.length-(intOf i).toNat)
     case atStart=>exact⟨0,_,by omega,rfl,Lib.hid hbx5,Lib.hid (World.ownsRow_nil _ _ _ _),GrowN.refl _ _ _⟩
     case round=>
      obtain⟨k,v,hk,rfl,HB,HO,hg⟩:=hrel
      have zg:=hg.size
      by_cases hltk:k<s.roll.stints.length
      ·obtain⟨b,off,hA,hbb,hrg⟩:=ld_P HSG5.out (k:=k) (by simpa using hltk)
       have hb2:=hfr5 _ hA
       simp only at hb2
       obtain⟨y,hy⟩: ∃y,s.roll.stints[k]=y:=⟨_,rfl⟩
       rw[List.getElem_map,hy]at hrg
       have hmy:y∈s.roll.stints:=hy▸List.getElem_mem hltk
       subst hA
       have hrg1:wr.rangeAt b (off+k*2) [.int .i64 (y.key).1,.int .i64 (y.key).2]:=fun j v hv=>(World.cell?_of_block (hg.block b hbb (by omega))).trans (hrg j v hv)
       have l1:(loadVar 163 ⟨b,off+k*2,none⟩).run Tryz.prog wr=.ok (.agg #[.int .i64 (y.key).1,.int .i64 (y.key).2]) wr:=run_loadVar_mid wr b (off+k*2) 163 _ _ hrg1 Tryz.underlying163 rfl info_pair
       obtain⟨W2,st2,kz,g2⟩:=st_row (wr.alloc (.cells #[.int .i64 0,.int .i64 0] 163)) wr.heap.size 163 163 #[.int .i64 0,.int .i64 0] #[.int .i64 (y.key).1,.int .i64 (y.key).2] (heap_alloc_new wr _) info_pair rfl (by simp[Value.oneCell'])
       have b2:Below wr.heap.size wr W2:=(Below.alloc (Below.refl _ wr) (Nat.le_refl _) _).grown g2 (by simp) (by intro k e;cases e;omega)
       obtain⟨W,hW⟩: ∃W:World,W=W2.drew:=⟨_,rfl⟩
       have bW2:Below wr.heap.size wr W:=by rw[hW];exact below_drew b2
       have gW:GrowN w5.heap.size (w.heap.size+1) w5 W:=hg.trans (GrowN.of (bW2.mono zg))
       have zW:=bW2.size
       have kzW:W.heap[wr.heap.size]?=some (.cells #[.int .i64 (y.key).1,.int .i64 (y.key).2] 163 (0,0)):=by rw[hW];exact kz
       have hbW:W.heap[w.heap.size+1]?=some (.cells #[.slice A1 s.roll.lots.length c1,.slice A2 s.roll.eases.length c2,v] 50 (0,0)):=(bW2.block _ (by omega)).trans HB.out
       have elk:(s.roll.stints.take k).length=k:=by rw[List.length_take];omega
       have etk:s.roll.stints.take (k+1)=s.roll.stints.take k++[y]:=by rw[List.take_succ_eq_append_getElem hltk,hy]
       have hoW:W.ownsRow w5.heap.size 119 4 v (s.roll.stints.take k).length ((s.roll.stints.take k).flatMap encS):=by rw[elk];exact own_below HO.out bW2
       have hnx:=box_push layS Tryz.sizeOf48 (j:=2) hbW (by simp) hoW (show w.heap.size+1<w5.heap.size by omega) gW.size (Below.refl _ W) y (rowS y) rfl (by omega) (by decide)
       rw[elk]at hnx
       obtain⟨g',c',w6,W7,hrun,st7,hg6,_,hb7,ho7,hg7,_,_,hk7,hk6⟩:=hnx
       rw[←etk]at ho7
       have hvz:some wr.heap.size≠v.ownBlock:=fun e=>by have:=(HO.out.lt _ e.symm).2;omega
       have e6:w6.heap[wr.heap.size]?=W.heap[wr.heap.size]?:=hk6 _ (Array.getElem?_eq_some_iff.1 kzW).1 hvz
       have e7:W7.heap[wr.heap.size]?=W.heap[wr.heap.size]?:=hk7 _ (Array.getElem?_eq_some_iff.1 kzW).1 hvz (by omega)
       have hyo:okP (y.key):=fm_ok H.out.stints kP.inj (k:=y.key) (by
        show(((view s).stints (y.key)).map _).isSome=true
        rw[Option.isSome_map]
        exact(findK_iff _ _ _ _).2 (List.mem_map_of_mem hmy))
       have HS:=Lib.hid (show ∀V:World,V.heap[wr.heap.size]?=W.heap[wr.heap.size]?→GrowN w5.heap.size (w.heap.size+1) W V→(fun V=>V.cell? ⟨wr.heap.size,0,none⟩=some (.int .i64 y.lot)∧V.cell? ⟨wr.heap.size,1,none⟩=some (.int .i64 y.owner)∧V.cell? ⟨sb,3,none⟩=some (.map (some bs))∧(loadVar 163 ⟨wr.heap.size,0,none⟩).run Tryz.prog V=.ok (.agg #[.int .i64 y.lot,.int .i64 y.owner]) V∧(Instr.lookup 130 (.map (some bs)) (.agg #[.int .i64 y.lot,.int .i64 y.owner]) false).run Tryz.prog V=.ok (.agg #[.int .i64 y.beasts,.int .i64 y.deal]) V) V from fun V hV gV=>by
        have bV:Below w.heap.size w V:=bw5.trans ((gW.trans gV).below (by omega) (by omega))
        have hS:=H.out.below bV
        have kV:=hV.trans kzW
        obtain⟨lp,hlp⟩:=kP.key hyo
        have hlk:=(hS.stints.lookup kP Tryz.underlying130 (zero_grz V) hlp).1
        rw[show((fG (view s).stints) (y.key)).getD (.agg #[.int .i64 0,.int .i64 0])=.agg #[.int .i64 y.beasts,.int .i64 y.deal] by unfold fG view;simp only[Rt.findK_mem Rt.Stint.key HI.out.stints hmy,Option.map_some];rfl]at hlk
        exact⟨(blk_cells kV).1 0,(blk_cells kV).1 1,(blk_cells hS.blk).1 3,ld_row kV Tryz.underlying163 rfl info_pair,hlk⟩)
       have q3:W.cell? ⟨w.heap.size+1,2,none⟩=some v:=(blk_cells hbW).1 2
       obtain⟨WA,hWA⟩: ∃WA:World,WA=W.alloc (.cells (rowS y) 119):=⟨_,rfl⟩
       have bA:Below W.heap.size W WA:=by rw[hWA];exact(Below.refl _ _).alloc (Nat.le_refl _) _
       have qA:WA.cell? ⟨w.heap.size+1,2,none⟩=some v:=(World.cell?_of_block (bA.block _ (by show w.heap.size+1<W.heap.size;omega))).trans q3
       rw[←hWA]at hrun
       have HW:=Lib.hid hW
       have HWA:=Lib.hid hWA
       have HB7:Hid (W7.heap[w.heap.size+1]?=some (.cells #[.slice A1 s.roll.lots.length c1,.slice A2 s.roll.eases.length c2,(.slice (some ⟨g',0,none⟩) (k+1) c')] 50 (0,0))):=Lib.hid (by simpa using hb7)
       have HO7:=Lib.hid ho7
       have hgR:=gW.trans hg7
       have eA:WA.heap[wr.heap.size]?=W.heap[wr.heap.size]?:=bA.block _ (Array.getElem?_eq_some_iff.1 kzW).1
       have gA:GrowN w5.heap.size (w.heap.size+1) W WA:=GrowN.of (bA.mono gW.size)
       clear hW hWA hb7 ho7 hoW hbW kzW kz etk elk hrg hrg1
       go_wp2
       refine wp_region_held_drew (S:=fun V=>V.cell? ⟨wr.heap.size,0,none⟩=some (.int .i64 y.lot)∧V.cell? ⟨wr.heap.size,1,none⟩=some (.int .i64 y.owner)∧V.cell? ⟨sb,3,none⟩=some (.map (some bs))∧(loadVar 163 ⟨wr.heap.size,0,none⟩).run Tryz.prog V=.ok (.agg #[.int .i64 y.lot,.int .i64 y.owner]) V∧(Instr.lookup 130 (.map (some bs)) (.agg #[.int .i64 y.lot,.int .i64 y.owner]) false).run Tryz.prog V=.ok (.agg #[.int .i64 y.beasts,.int .i64 y.deal]) V) (by kernel_rfl) (by rw[←HW.out];exact HS.out _ rfl (GrowN.refl _ _ _)) (fun hHeld=> ?_)
       rw[←HW.out]at hHeld ⊢
       refine takeH 0 (some 66) (v:= ?v21) rfl rfl (by kernel_rfl) (by kernel_rfl) (by kernel_rfl) (fun _ _ _ h=>h) (Or.inl ⟨by rfl,fun W hW=> ?hy21⟩) (by assumption) ?hr21
       case hy21=>(try dsimp only at hW);go_simp;try with_reducible rfl
       try simp only[Act.put,List.setIfInBounds_toArray,List.set_cons_zero,List.set_cons_succ]
       refine takeH 2 (some 68) (v:= ?v22) rfl rfl (by kernel_rfl) (by kernel_rfl) (by kernel_rfl) (fun _ _ _ h=>h) (Or.inl ⟨by rfl,fun W hW=> ?hy22⟩) (by assumption) ?hr22
       case hy22=>(try dsimp only at hW);go_simp;try with_reducible rfl
       try simp only[Act.put,List.setIfInBounds_toArray,List.set_cons_zero,List.set_cons_succ]
       refine takeH 3 (some 69) (v:= ?v23) rfl rfl (by kernel_rfl) (by kernel_rfl) (by kernel_rfl) (fun _ _ _ h=>h) (Or.inl ⟨by rfl,fun W hW=> ?hy23⟩) (by assumption) ?hr23
       case hy23=>(try dsimp only at hW);go_simp;try with_reducible rfl
       try simp only[Act.put,List.setIfInBounds_toArray,List.set_cons_zero,List.set_cons_succ]
       refine takeH 4 (some 70) (v:= ?v24) rfl rfl (by kernel_rfl) (by kernel_rfl) (by kernel_rfl) (fun _ _ _ h=>h) (Or.inl ⟨by rfl,fun W hW=> ?hy24⟩) (by assumption) ?hr24
       case hy24=>(try dsimp only at hW);go_simp;try with_reducible rfl
       try simp only[Act.put,List.setIfInBounds_toArray,List.set_cons_zero,List.set_cons_succ]
       refine takeH 5 (some 71) (v:= ?v25) rfl rfl (by kernel_rfl) (by kernel_rfl) (by kernel_rfl) (fun _ _ _ h=>h) (Or.inl ⟨by rfl,fun W hW=> ?hy25⟩) (by assumption) ?hr25
       case hy25=>(try dsimp only at hW);go_simp;try with_reducible rfl
       try simp only[Act.put,List.setIfInBounds_toArray,List.set_cons_zero,List.set_cons_succ]
       refine takeH 6 (some 72) (v:= ?v26) rfl rfl (by kernel_rfl) (by kernel_rfl) (by kernel_rfl) (fun _ _ _ h=>h) (Or.inl ⟨by rfl,fun W hW=> ?hy26⟩) (by assumption) ?hr26
       case hy26=>(try dsimp only at hW);go_simp;try with_reducible rfl
       try simp only[Act.put,List.setIfInBounds_toArray,List.set_cons_zero,List.set_cons_succ]
       refine takeH 7 (some 73) (v:= ?v27) rfl rfl (by kernel_rfl) (by kernel_rfl) (by kernel_rfl) (fun _ _ _ h=>h) (Or.inl ⟨by rfl,fun W hW=> ?hy27⟩) (by assumption) ?hr27
       case hy27=>(try dsimp only at hW);go_simp;try with_reducible rfl
       try simp only[Act.put,List.setIfInBounds_toArray,List.set_cons_zero,List.set_cons_succ]
       refine takeH 8 (some 74) (v:= ?v28) rfl rfl (by kernel_rfl) (by kernel_rfl) (by kernel_rfl) (fun _ _ _ h=>h) (Or.inl ⟨by rfl,fun W hW=> ?hy28⟩) (by assumption) ?hr28
       case hy28=>(try dsimp only at hW);go_simp;try with_reducible rfl
       try simp only[Act.put,List.setIfInBounds_toArray,List.set_cons_zero,List.set_cons_succ]
       refine takeH 9 (some 75) (v:= ?v29) rfl rfl (by kernel_rfl) (by kernel_rfl) (by kernel_rfl) (fun _ _ _ h=>h) (Or.inl ⟨by rfl,fun W hW=> ?hy29⟩) (by assumption) ?hr29
       case hy29=>(try dsimp only at hW);go_simp;try with_reducible rfl
       try simp only[Act.put,List.setIfInBounds_toArray,List.set_cons_zero,List.set_cons_succ]
       refine takeH 10 (some 76) (v:= ?v30) rfl rfl (by kernel_rfl) (by kernel_rfl) (by kernel_rfl) (fun _ _ _ h=>h) (Or.inl ⟨by rfl,fun W hW=> ?hy30⟩) (by assumption) ?hr30
       case hy30=>(try dsimp only at hW);go_simp;try with_reducible rfl
       try simp only[Act.put,List.setIfInBounds_toArray,List.set_cons_zero,List.set_cons_succ]
       refine takeH 11 (some 77) (v:= ?v31) rfl rfl (by kernel_rfl) (by kernel_rfl) (by kernel_rfl) (fun _ _ _ h=>h) (Or.inl ⟨by rfl,fun W hW=> ?hy31⟩) (by assumption) ?hr31
       case hy31=>(try dsimp only at hW);go_simp;try with_reducible rfl
       try simp only[Act.put,List.setIfInBounds_toArray,List.set_cons_zero,List.set_cons_succ]
       refine takeH 12 (some 78) (v:= ?v32) rfl rfl (by kernel_rfl) (by kernel_rfl) (by kernel_rfl) (fun _ _ _ h=>h) (Or.inl ⟨by rfl,fun W hW=> ?hy32⟩) (by assumption) ?hr32
       case hy32=>(try dsimp only at hW);go_simp;try with_reducible rfl
       try simp only[Act.put,List.setIfInBounds_toArray,List.set_cons_zero,List.set_cons_succ]
       refine takeH 13 (some 79) (v:= ?v33) rfl rfl (by kernel_rfl) (by kernel_rfl) (by kernel_rfl) (fun _ _ _ h=>h) (Or.inl ⟨by rfl,fun W hW=> ?hy33⟩) (by assumption) ?hr33
       case hy33=>(try dsimp only at hW);go_simp;try with_reducible rfl
       try simp only[Act.put,List.setIfInBounds_toArray,List.set_cons_zero,List.set_cons_succ]
       refine takeH 14 (some 80) (v:= ?v34) rfl rfl (by kernel_rfl) (by kernel_rfl) (by kernel_rfl) (fun _ _ _ h=>h) (Or.inl ⟨by rfl,fun W hW=> ?hy34⟩) (by assumption) ?hr34
       case hy34=>(try dsimp only at hW);go_simp;try with_reducible rfl
       try simp only[Act.put,List.setIfInBounds_toArray,List.set_cons_zero,List.set_cons_succ]
       refine takeH 15 (some 81) (v:= ?v35) rfl rfl (by kernel_rfl) (by kernel_rfl) (by kernel_rfl) (fun _ _ _ h=>h) (Or.inl ⟨by rfl,fun W hW=> ?hy35⟩) (by assumption) ?hr35
       case hy35=>(try dsimp only at hW);go_simp;try with_reducible rfl
       try simp only[Act.put,List.setIfInBounds_toArray,List.set_cons_zero,List.set_cons_succ]
       refine takeH 16 (some 82) (v:= ?v36) rfl rfl (by kernel_rfl) (by kernel_rfl) (by kernel_rfl) (fun _ _ _ h=>h) (Or.inl ⟨by rfl,fun W hW=> ?hy36⟩) (by assumption) ?hr36
       case hy36=>(try dsimp only at hW);go_simp;try with_reducible rfl
       try simp only[Act.put,List.setIfInBounds_toArray,List.set_cons_zero,List.set_cons_succ]
       refine takeH 17 (some 83) (v:= ?v37) rfl rfl (by kernel_rfl) (by kernel_rfl) (by kernel_rfl) (fun _ _ _ h=>h) (Or.inl ⟨by rfl,fun W hW=> ?hy37⟩) (by assumption) ?hr37
       case hy37=>(try dsimp only at hW);go_simp;try with_reducible rfl
       try simp only[Act.put,List.setIfInBounds_toArray,List.set_cons_zero,List.set_cons_succ]
       refine takeH 18 (some 84) (v:= ?v38) rfl rfl (by kernel_rfl) (by kernel_rfl) (by kernel_rfl) (fun _ _ _ h=>h) (Or.inl ⟨by rfl,fun W hW=> ?hy38⟩) (by assumption) ?hr38
       case hy38=>(try dsimp only at hW);go_simp;try with_reducible rfl
       try simp only[Act.put,List.setIfInBounds_toArray,List.set_cons_zero,List.set_cons_succ]
       refine takeH 19 (some 85) (v:= ?v39) rfl rfl (by kernel_rfl) (by kernel_rfl) (by kernel_rfl) (fun _ _ _ h=>h) (Or.inl ⟨by rfl,fun W hW=> ?hy39⟩) (by assumption) ?hr39
       case hy39=>(try dsimp only at hW);go_simp;try with_reducible rfl
       try simp only[Act.put,List.setIfInBounds_toArray,List.set_cons_zero,List.set_cons_succ]
       refine takeH 20 (some 86) (v:= ?v40) rfl rfl (by kernel_rfl) (by kernel_rfl) (by kernel_rfl) (fun _ _ _ h=>h) (Or.inl ⟨by rfl,fun W hW=> ?hy40⟩) (by assumption) ?hr40
       case hy40=>(try dsimp only at hW);go_simp;try with_reducible rfl
       try simp only[Act.put,List.setIfInBounds_toArray,List.set_cons_zero,List.set_cons_succ]
       refine wpAnyH_ready (rs:=[1,21]) (by kernel_rfl) (by simp) ?_
       refine readyH (some 67) rfl rfl (fun K hK=> ?_) (readyH (some 87) rfl rfl (fun K hK=> ?_) AllReadyH.nil)
       ·clear hHeld
        go_simp
        refine hK _ _ (HS.out _ rfl (GrowN.refl _ _ _)) (fun hHeld=> ?_)
        clear hK K
        try simp only[Act.put,List.setIfInBounds_toArray,List.set_cons_zero,List.set_cons_succ]
        refine wpAnyH_ready (rs:=[21]) (by kernel_rfl) (by simp) ?_
        refine readyH (some 87) rfl rfl (fun K hK=> ?_) AllReadyH.nil
        go_simp
        rw[←HWA.out]
        refine hK _ _ (HS.out _ eA gA) (fun hHeld=> ?_)
        clear hK K
        try simp only[Act.put,List.setIfInBounds_toArray,List.set_cons_zero,List.set_cons_succ]
        refine wpAnyH_ready (rs:=[22]) (by kernel_rfl) (by simp) ?_
        refine readyH (some 88) rfl rfl (fun K hK=> ?_) AllReadyH.nil
        go_simp
        refine hK _ _ (HS.out _ e6 hg6) (fun hHeld=> ?_)
        clear hK K
        try simp only[Act.put,List.setIfInBounds_toArray,List.set_cons_zero,List.set_cons_succ]
        refine takeH 23 (some 89) (v:= ?v41) rfl rfl (by kernel_rfl) (by kernel_rfl) (by kernel_rfl) (fun _ _ _ h=>h) (Or.inl ⟨by rfl,fun W hW=> ?hy41⟩) (by assumption) ?hr41
        case hy41=>(try dsimp only at hW);go_simp;try with_reducible rfl
        try simp only[Act.put,List.setIfInBounds_toArray,List.set_cons_zero,List.set_cons_succ]
        refine wpAnyH_ready (rs:=[24]) (by kernel_rfl) (by simp) ?_
        refine readyH none rfl rfl (fun K hK=> ?_) AllReadyH.nil
        go_simp
        refine hK _ _ (HS.out _ e7 hg7) (fun hHeld=> ?_)
        clear hK K
        try simp only[Act.put,List.setIfInBounds_toArray,List.set_cons_zero,List.set_cons_succ]
        refine wpAnyH_done (by kernel_rfl) ?_ _
        go_wp2
        go_roundw
        case rel=>exact⟨k+1,_,by omega,by go_num,HB7,HO7,hgR⟩
        case measure=>first|(simp[intOf];done)|(simp[intOf];omega)
       ·clear hHeld
        go_simp
        rw[←HWA.out]
        refine hK _ _ (HS.out _ eA gA) (fun hHeld=> ?_)
        clear hK K
        try simp only[Act.put,List.setIfInBounds_toArray,List.set_cons_zero,List.set_cons_succ]
        refine wpAnyH_ready (rs:=[1]) (by kernel_rfl) (by simp) ?_
        refine readyH (some 67) rfl rfl (fun K hK=> ?_) AllReadyH.nil
        go_simp
        refine hK _ _ (HS.out _ eA gA) (fun hHeld=> ?_)
        clear hK K
        try simp only[Act.put,List.setIfInBounds_toArray,List.set_cons_zero,List.set_cons_succ]
        refine wpAnyH_ready (rs:=[22]) (by kernel_rfl) (by simp) ?_
        refine readyH (some 88) rfl rfl (fun K hK=> ?_) AllReadyH.nil
        go_simp
        refine hK _ _ (HS.out _ e6 hg6) (fun hHeld=> ?_)
        clear hK K
        try simp only[Act.put,List.setIfInBounds_toArray,List.set_cons_zero,List.set_cons_succ]
        refine takeH 23 (some 89) (v:= ?v42) rfl rfl (by kernel_rfl) (by kernel_rfl) (by kernel_rfl) (fun _ _ _ h=>h) (Or.inl ⟨by rfl,fun W hW=> ?hy42⟩) (by assumption) ?hr42
        case hy42=>(try dsimp only at hW);go_simp;try with_reducible rfl
        try simp only[Act.put,List.setIfInBounds_toArray,List.set_cons_zero,List.set_cons_succ]
        refine wpAnyH_ready (rs:=[24]) (by kernel_rfl) (by simp) ?_
        refine readyH none rfl rfl (fun K hK=> ?_) AllReadyH.nil
        go_simp
        refine hK _ _ (HS.out _ e7 hg7) (fun hHeld=> ?_)
        clear hK K
        try simp only[Act.put,List.setIfInBounds_toArray,List.set_cons_zero,List.set_cons_succ]
        refine wpAnyH_done (by kernel_rfl) ?_ _
        go_wp2
        go_roundw
        case rel=>exact⟨k+1,_,by omega,by go_num,HB7,HO7,hgR⟩
        case measure=>first|(simp[intOf];done)|(simp[intOf];omega)
      ·obtain rfl:k=s.roll.stints.length:=by omega
       have ho3:=HO.out
       rw[List.take_length]at ho3
       obtain⟨A3,c3,rfl,hs3w,hc3,hf3⟩:=own_seg layS ho3
       have gbc:GrowN wb.heap.size (w.heap.size+1) wb wr:=(GrowN.of (by rw[hwb];exact b5)).trans (hg.less (by rw[hwb];omega))
       have k0c:wr.heap[w.heap.size]?=some (.cells zcR 50 (0,0)):=(hg.block _ (by omega) (by omega)).trans ((b5.block _ (by omega)).trans k0b)
       have l5:=ld_row HB.out Tryz.underlying50 rfl info_roll
       obtain⟨W7,st7,k7,g7⟩:=st_row wr w.heap.size 50 50 zcR #[.slice A1 s.roll.lots.length c1,.slice A2 s.roll.eases.length c2,.slice A3 s.roll.stints.length c3] k0c info_roll rfl (by simp[Value.oneCell'])
       have l7:=ld_row k7 Tryz.underlying50 rfl info_roll
       have g7':GrowN wr.heap.size w.heap.size wr W7:=⟨g7.os,g7.tape,g7.output,g7.size,fun i hi hne=>g7.block i hi (by simpa using hne)⟩
       have bw7:Below w.heap.size w W7:=(bw5.trans (hg.below (by omega) (by omega))).grown g7 (by omega) (fun k e=>by cases e;exact Nat.le_refl _)
       have gac:=gab.trans (gbc.less gab.size)
       have hs3:=seg_growN hs3w (show From w5.heap.size A3 from hf3) (by omega) g7'
       obtain⟨p1,p2,p3,p4,p5⟩:=HP1.out
       obtain⟨r1,r2,r3⟩:=HP2.out
       have g7a:GrowN wr.heap.size w.heap.size wr W7:=g7'
       have HF:=Lib.hid (show EndR w s.roll (.returned (.agg #[.slice A1 s.roll.lots.length c1,.slice A2 s.roll.eases.length c2,.slice A3 s.roll.stints.length c3])) W7 from by
        refine⟨A1,c1,A2,c2,A3,c3,L,rfl,⟨⟨seg_growN (seg_growN p1.seg p2 (by omega) gac) p2 (by omega) g7',fun p hp=>⟨seg_growN (seg_growN (p1.each p hp).1 (p3 p hp) (by omega) gac) (p3 p hp) (by omega) g7',(p1.each p hp).2⟩⟩,isL,seg_growN (seg_growN r1 r2 (by omega) gbc) r2 (by omega) g7',hs3⟩,hc1,hc2,hc3,
         fun a ha=>by have:=p2 a ha;omega,fun a ha=>by have:=r2 a ha;omega,fun a ha=>by have:=hf3 a ha;omega,fun p hp a ha=>by have:=p3 p hp a ha;omega,⟨fun a ha=>⟨?_,(p4 a ha).2⟩,fun p hp=>cells_growN (cells_growN (p5 p hp) (p3 p hp) (by omega) gac) (p3 p hp) (by omega) g7',cells_growN (cells_growN r3 r2 (by omega) gbc) r2 (by omega) g7'⟩,bw7⟩
        exact cells_growN (cells_growN (fun a ha=>(p4 a ha).1) p2 (by omega) gac) p2 (by omega) g7' a ha)
       clear gac hs3 p1 p2 p3 p4 p5 r1 r2 r3 g7a ho3 hs3w HO HB HP1 HP2
       go_wp2
       refine bodyPost_ret (v:=.agg #[.slice A1 s.roll.lots.length c1,.slice A2 s.roll.eases.length c2,.slice A3 s.roll.stints.length c3]) (by simp[results,Tryz.results118,go_sem,l7]) rfl ?_
       exact HF.out
end Go.Proofs.YtcffonnijhhhiaaGreatDoor
