/- Part U24 of the proof: FdS Sh Sk. -/
import Derived.Test.YtcffonnijhhhiaaGreatDoorProg
import Derived.WalkKit
import Derived.WalkLawsBesides
import Derived.WalkSpells
import Derived.Handy
import Derived.Lib.Hide
import Derived.Great.BuildSlice
import Derived.Deep.QuietTactic
import Derived.BigQuiet
import Derived.Deep.RegionHeld3
import Derived.Deep.DeepCutAuto
import Derived.Test.YtcffonnijhhhiaaGreatDoorU18
import Derived.Test.YtcffonnijhhhiaaGreatDoorU23
import Derived.Test.YtcffonnijhhhiaaGreatDoorU19
set_option linter.all false
set_option linter.unusedSimpArgs false
set_option linter.unusedVariables false
set_option linter.unusedSectionVars false
namespace Go.Proofs.YtcffonnijhhhiaaGreatDoor
open Go Go.RowKit Go.Maps Mp
attribute [-go_sem] loadVar storeVar
attribute [local go_sem] lk_int
theorem ld_S {w:World}{B:Nat}{A:Option Addr}{l:List Rt.Stint}(h:Seg encS 4 w B A l){k:Nat}(hk:k<l.length): ∃b off,A=some ⟨b,off,none⟩∧b<B∧(loadVar 119 ⟨b,off+k*4,none⟩).run Tryz.prog w=.ok (.agg (rowS l[k])) w:=by
 obtain⟨b,off,hA,hb,hc⟩:=h.at_ hk
 exact⟨b,off,hA,hb,run_loadVar_mid w b (off+k*4) 119 (encS l[k]) _ (fun j v hv=>hc j v hv) Tryz.underlying119 rfl info_stint⟩
set_option maxRecDepth 100000 in
theorem idxF_S (A:Option Addr)(c:Nat)(l:List Rt.Stint)(g:FuncId)(cap:Array Value)(p:Rt.Stint→Bool)(w:World)(hl:Seg encS 4 w w.heap.size A l)(hm:l.length≤3000000000000)
  (hen: ∀args w,(callFunc g args).run Tryz.prog w=.ok (.enter g args) w)
  (hp: ∀x∈l,∀W,Below w.heap.size w W→Calls Tryz.prog g (#[.agg (rowS x)]++cap) W fun e W'=>e=.returned (.bool (p x))∧Below W.heap.size W W'):
  Calls Tryz.prog 242 #[.slice A l.length c,.func (.func g) #[] cap] w fun e w'=>e=.returned (.int .i64 (Rt.pos (Rt.idx p l)))∧Below w.heap.size w w':=by
 have HL:=Lib.hid hl
 clear hl
 go_enter Tryz.func242,Tryz.ntmps242
 go_wp2
 go_loopw [8] (fun i wr=> ∃(k:Nat),k≤l.length∧i=.int .i64 k∧Hid (∀j (h:j<l.length),j<k→p l[j]=false)∧Below w.heap.size w wr) (fun i _=>l.length-(intOf i).toNat)
 case atStart=>exact⟨0,by omega,rfl,Lib.hid fun j _ h=>by omega,by go_grown⟩
 case round=>
  obtain⟨k,hk,rfl,hg,hb⟩:=hrel
  have hsz:=hb.size
  by_cases hlt:k<l.length
  ·obtain⟨b,off,rfl,hbB,q0⟩:=ld_S (HL.out.below hb) hlt
   have hpk:=Lib.hid (hp l[k] (List.getElem_mem hlt))
   cases hc:p l[k]with
   |true=>
    have hv:=Lib.hid (Rt.idx_hit (p:=p) hlt (fun j hj=>hg.out j (by omega) hj) hc)
    have HC:=Lib.hid hc
    clear hc
    go_wp2
    refine(hpk.out _ (by go_grown)).mono ?_
    rintro e w2 ⟨rfl,hx⟩
    rw[HC.out]
    have hb2:Below w.heap.size w w2:=Below.trans (by go_grown) (hx.mono (by go_size))
    clear hx
    go_wp2
    go_ret
    exact⟨by rw[hv.out];try rfl,hb2⟩
   |false=>
    have HC:=Lib.hid hc
    clear hc
    go_wp2
    refine(hpk.out _ (by go_grown)).mono ?_
    rintro e w2 ⟨rfl,hx⟩
    rw[HC.out]
    have hb2:Below w.heap.size w w2:=Below.trans (by go_grown) (hx.mono (by go_size))
    clear hx
    go_wp2
    go_roundw
    case rel=>exact⟨k+1,by omega,by go_num,Lib.hid fun j h hj=>by
     by_cases e:j=k
     ·subst e;exact HC.out
     ·exact hg.out j h (by omega),hb2⟩
    case measure=>first|(simp[intOf];done)|(simp[intOf];omega)
  ·have hv:=Lib.hid (Rt.idx_none (p:=p) (l:=l) fun j hj=>hg.out j hj (by omega))
   go_wp2
   go_ret
   exact⟨by rw[hv.out];try rfl,hb⟩
set_option maxRecDepth 100000 in
set_option maxHeartbeats 4000000 in
theorem delF_S (A:Option Addr)(c:Nat)(L:List Rt.Stint)(g:FuncId)(cap:Array Value)(p:Rt.Stint→Bool)(w:World)(hl:Seg encS 4 w w.heap.size A L)(hm:L.length≤3000000000000)(hcp:L.length≤c)(hk: ∀a,A=some a→ ∃cs,w.heap[a.block]?=some (.cells cs 119 (0,0)))
  (hen: ∀args w,(callFunc g args).run Tryz.prog w=.ok (.enter g args) w)
  (hp : ∀ x ∈ L, ∀ W, w.grownBy W (A.map (·.block)) → Calls Tryz.prog g (#[.agg (rowS x)] ++ cap) W fun e W' => e = .returned (.bool (p x)) ∧ Below W.heap.size W W') :
  Calls Tryz.prog 199 #[.slice A L.length c, .func (.func g) #[] cap] w fun e w' => e = .returned (.slice A (L.filter fun x => !p x).length c) ∧ Seg encS 4 w' w'.heap.size A (L.filter fun x => !p x) ∧ w.grownBy w' (A.map (·.block)) ∧ (∀ a, A = some a → ∃ cs, w'.heap[a.block]? = some (.cells cs 119 (0, 0))) := by
 have hix:=idxF_S A c L g cap p w hl hm hen (fun x hx W hW=>hp x hx W ((grownBy_of_below hW).but _))
 have HP:=Lib.hid hp
 have HL:=Lib.hid hl
 have HK:=Lib.hid hk
 clear hp hl hk
 cases hi:Rt.idx p L with
 |none=>
  have hall:L.filter (fun x=> !p x)=L:=List.filter_eq_self.2 (fun x hx=>by
   have:=idx_no hi x hx
   simp[this])
  rw[hall]
  rw[hi]at hix
  have hq:(Rt.pos none== -1)=true:=rfl
  clear hi hall
  go_enter Tryz.func199,Tryz.ntmps199
  go_wp2_with fail
  refine hix.mono ?_
  rintro e w1 ⟨rfl,hb⟩
  go_wp2
  go_ret
  exact⟨rfl,HL.out.up hb,(grownBy_of_below hb).but _,fun a ha=>by
   obtain⟨cs,h⟩:=HK.out a ha
   exact⟨cs,(hb.block _ (Array.getElem?_eq_some_iff.1 h).1).trans h⟩⟩
 |some k0=>
  obtain⟨hk0,hp0,hlow⟩:=idx_some hi
  rw[hi]at hix
  have hq:(Rt.pos (some k0)== -1)=false:=by unfold Rt.pos;simp
  have hpos:Rt.pos (some k0)=(k0:Int):=rfl
  rw[hpos]at hix hq
  obtain⟨gb,off,hA,hgb,_⟩:=HL.out.at_ hk0
  subst hA
  obtain⟨cs0,hcs0⟩:=HK.out _ rfl
  have HS:=Lib.hid (Kept.start hk0 hp0 hlow)
  simp only[Option.map_some]at HP ⊢
  clear hi hp0 hlow hpos
  go_enter Tryz.func199,Tryz.ntmps199
  go_wp2_with fail
  refine hix.mono ?_
  clear hix
  rintro e w1 ⟨rfl,hb⟩
  have g1:w.grownBy w1 (some gb):=grown_below gb hb
  have hb1: ∃cs,w1.heap[gb]?=some (.cells cs 119 (0,0)):=⟨cs0,(hb.block _ hgb).trans hcs0⟩
  have hs1:=HL.out.up hb
  go_wp2
  go_loopw [5,6] (fun s5 s6 wr=> ∃(i j:Nat) (M:List Rt.Stint),s5=.int .i64 i∧s6=.int .i64 j∧Hid (Kept p L i j M)∧Hid (Seg encS 4 wr wr.heap.size (some ⟨gb,off,none⟩) M)∧w.grownBy wr (some gb)∧Hid (∃cs,wr.heap[gb]?=some (.cells cs 119 (0,0)))) (fun _ s6 _=>L.length-(intOf s6).toNat)
  case atStart=>exact⟨k0,k0+1,L,rfl,by go_num,HS,Lib.hid hs1,g1,Lib.hid hb1⟩
  case round=>
   obtain⟨i,j,M,rfl,rfl,HKp,HSg,hg,HB⟩:=hrel
   have hij:=HKp.out.lt
   have hjl:=HKp.out.le
   have hml:=HKp.out.len
   by_cases hlt:j<L.length
   ·obtain⟨hjM,hMj⟩:=HKp.out.at_ hlt
    obtain⟨b,off',hA,hbB,q0⟩:=ld_S HSg.out hjM
    cases hA
    rw[hMj]at q0
    have hcall:=HP.out L[j] (List.getElem_mem hlt)
    have hxm:=hMj
    clear hMj
    obtain⟨x,hx⟩: ∃x,L[j]=x:=⟨_,rfl⟩
    rw[hx]at q0 hcall
    obtain⟨w4,st4,k4,g4⟩:=st_row (wr.alloc (.cells zcS 119)) wr.heap.size 119 119 zcS (rowS x) (heap_alloc_new wr _) info_stint rfl (by simp[Value.oneCell'])
    have b4:Below wr.heap.size wr w4:=(Below.alloc (Below.refl _ wr) (Nat.le_refl _) _).grown g4 (by simp) (by intro k e;cases e;omega)
    have l4:=ld_row k4 Tryz.underlying119 rfl info_stint
    have gg4:w.grownBy w4 (some gb):=grown_up hg b4
    have hc4:=hcall w4 gg4
    cases hpx:p x with
    |true=>
     rw[hpx]at hc4
     have HPX:=Lib.hid hpx
     clear hpx hcall
     go_wp2_with fail
     refine hc4.mono ?_
     rintro e w5 ⟨rfl,b5⟩
     have b5':Below wr.heap.size wr w5:=b4.trans (b5.mono b4.size)
     go_wp2
     go_roundw
     case rel=>exact⟨i,j+1,M,rfl,by go_num,Lib.hid (HKp.out.skip hlt (by rw[hx];exact HPX.out)),Lib.hid (HSg.out.up b5'),grown_up hg b5',Lib.hid (by obtain⟨cs,h⟩:=HB.out;exact⟨cs,(b5'.block _ (Array.getElem?_eq_some_iff.1 h).1).trans h⟩)⟩
     case measure=>first|(simp[intOf];done)|(simp[intOf];omega)
    |false=>
     rw[hpx]at hc4
     have HPX:=Lib.hid hpx
     clear hpx hcall
     go_wp2_with fail
     refine hc4.mono ?_
     rintro e w5 ⟨rfl,b5⟩
     have b5':Below wr.heap.size wr w5:=b4.trans (b5.mono b4.size)
     have HS5:=Lib.hid (HSg.out.up b5')
     have HB5:Hid (∃cs,w5.heap[gb]?=some (.cells cs 119 (0,0))):=Lib.hid (by obtain⟨cs,h⟩:=HB.out;exact⟨cs,(b5'.block _ (Array.getElem?_eq_some_iff.1 h).1).trans h⟩)
     have l5:=ld_row ((b5.block _ (Array.getElem?_eq_some_iff.1 k4).1).trans k4) Tryz.underlying119 rfl info_stint
     have hth:=seg_there (i:=i) (n:=4) layS.henc layS.hs HS5.out HB5.out (by omega)
     obtain⟨w6,st6,e6,g6,h6⟩: ∃w6,(storeVar 119 ⟨gb,off+i*4,none⟩ (.agg (rowS x))).run Tryz.prog w5=.ok () w6∧Hid (Seg encS 4 w6 w6.heap.size (some ⟨gb,off,none⟩) (M.set i x))∧w5.grownBy w6 (some gb)∧Hid (∃cs,w6.heap[gb]?=some (.cells cs 119 (0,0))):=
      ⟨_,run_storeVar_mid (P:=Tryz.prog) w5 gb (off+i*4) 119 (rowS x) hth info_stint (by simp[Value.oneCell']),Lib.hid (by rw[(gscs _ _ _ _).2];exact seg_set (i:=i) layS.henc layS.hs HS5.out HB5.out (by omega) x),(gscs _ _ _ _).1,Lib.hid (hscs _ _ _ HB5.out)⟩
     go_wp2
     go_roundw
     case rel=>exact⟨i+1,j+1,M.set i L[j],by go_num,by go_num,Lib.hid (HKp.out.keep hlt (by rw[hx];exact HPX.out)),(by rw[hx];exact e6),(grown_up hg b5').trans g6,h6⟩
     case measure=>first|(simp[intOf];done)|(simp[intOf];omega)
   ·obtain rfl:j=L.length:=by omega
    obtain⟨hd1,hd2⟩:=HKp.out.done
    obtain⟨w7,hcl,g7,h7,s7⟩:=clear_law (i:=i) (n:=L.length-i) (c:=c-i) layS Tryz.zeroValue119 (by simp[Value.cells,Value.oneCell']) HSg.out HB.out (by omega) (by omega)
    have hic: ¬c=i:=by omega
    rw[hd1]at s7
    have HD2:=Lib.hid hd2
    have HS7:=Lib.hid s7
    have HB7:=Lib.hid h7
    clear s7 h7 hd1 hd2
    go_wp2
    go_ret
    exact⟨by rw[HD2.out];rfl,HS7.out.more g7.size,hg.trans g7,fun a ha=>by cases ha;exact HB7.out⟩
end Go.Proofs.YtcffonnijhhhiaaGreatDoor
namespace Go.Proofs.Rt
def eqBy {α β:Type}(p:α→β→Bool):List α→List β→Bool
 | [],[]=>true
 |x::l,y::m=>p x y&&eqBy p l m
 |_,_=>false
theorem eqBy_len {α β:Type}{p:α→β→Bool}: ∀ {l:List α} {m:List β},l.length≠m.length→eqBy p l m=false
 | [],[],h=>absurd rfl h
 | [],_::_,_=>rfl
 |_::_,[],_=>rfl
 |x::l,y::m,h=>by
  unfold eqBy
  rw[eqBy_len (l:=l) (m:=m) (fun e=>h (by simp[e])),Bool.and_false]
theorem eqBy_iff {α β:Type}{p:α→β→Bool}: ∀ {l:List α} {m:List β},l.length=m.length→(eqBy p l m=true↔ ∀j (h:j<l.length) (h':j<m.length),p l[j] m[j]=true)
 | [],[],_=>by simp[eqBy]
 | [],_::_,h=>by cases h
 |_::_,[],h=>by cases h
 |x::l,y::m,h=>by
  unfold eqBy
  rw[Bool.and_eq_true,eqBy_iff (l:=l) (m:=m) (by simpa using h)]
  constructor
  ·rintro⟨h1,h2⟩ j hj hj'
   cases j with
   |zero=>exact h1
   |succ j=>exact h2 j (by simpa using hj) (by simpa using hj')
  ·intro h1
   exact⟨h1 0 (by simp) (by simp),fun j hj hj'=>h1 (j+1) (by simpa using hj) (by simpa using hj')⟩
def sameE (a b:Ease):Bool:=decide (a.over=b.over∧a.of=b.of)
def sameS (a b:Stint):Bool:=decide (a.lot=b.lot∧a.owner=b.owner∧a.beasts=b.beasts)
def sameL (a b:Lot):Bool:=decide (a=b)
def sameR (r s:Roll):Bool:=eqBy sameL r.lots s.lots&&eqBy sameE r.eases s.eases&&eqBy sameS r.stints s.stints
theorem eqBy_map {α β γ:Type}{p:β→γ→Bool}{f:α→β}{g:α→γ}: ∀ {l m:List α},eqBy (fun x y=>p (f x) (g y)) l m=eqBy p (l.map f) (m.map g)
 | [],[]=>rfl
 | [],_::_=>rfl
 |_::_,[]=>rfl
 |x::l,y::m=>by simp only[List.map_cons,eqBy,eqBy_map (l:=l) (m:=m)]
end Go.Proofs.Rt
namespace Go.Proofs.YtcffonnijhhhiaaGreatDoor
open Go Go.RowKit Go.Maps Mp
attribute [-simp] Prod.forall Prod.exists
attribute [-go_sem] loadVar storeVar run_equalIn_agg Builtin.append_
attribute [local go_sem] lk_int lk_holds
theorem eq_hold (p q:Int×Int)(W:World):(Op.equalIn 10000 59 (.agg (rowH p)) (.agg (rowH q))).run Tryz.prog W=.ok (decide (p=q)) W:=by
 obtain⟨a,b⟩:=p
 obtain⟨c,d⟩:=q
 simp[go_sem,run_equalIn_agg]
 repeat' split
 all_goals simp_all
theorem eq_ease (p q:Rt.Ease)(W:World):(Op.equalIn 10000 71 (.agg #[.int .i64 p.over,.int .i64 p.of,.int .i64 0]) (.agg #[.int .i64 q.over,.int .i64 q.of,.int .i64 0])).run Tryz.prog W=.ok (Rt.sameE p q) W:=by
 unfold Rt.sameE
 simp[go_sem,run_equalIn_agg]
 repeat' split
 all_goals simp_all
theorem eq_stint (p q:Rt.Stint)(W:World):(Op.equalIn 10000 119 (.agg #[.int .i64 p.lot,.int .i64 p.owner,.int .i64 p.beasts,.int .i64 0]) (.agg #[.int .i64 q.lot,.int .i64 q.owner,.int .i64 q.beasts,.int .i64 0])).run Tryz.prog W=.ok (Rt.sameS p q) W:=by
 unfold Rt.sameS
 simp[go_sem,run_equalIn_agg]
 repeat' split
 all_goals simp_all
theorem ld_H {w:World}{B:Nat}{A:Option Addr}{l:List (Int×Int)}(h:Seg encH 2 w B A l){k:Nat}(hk:k<l.length): ∃b off,A=some ⟨b,off,none⟩∧b<B∧(loadVar 59 ⟨b,off+k*2,none⟩).run Tryz.prog w=.ok (.agg (rowH l[k])) w:=by
 obtain⟨b,off,hA,hb,hc⟩:=h.at_ hk
 exact⟨b,off,hA,hb,run_loadVar_mid w b (off+k*2) 59 (encH l[k]) _ (fun j v hv=>hc j v hv) Tryz.underlying59 rfl info_hold⟩
set_option maxRecDepth 100000 in
theorem eqH_a (A B:Option Addr)(c d:Nat)(l m:List (Int×Int))(w:World)(hl:Seg encH 2 w w.heap.size A l)(hm:Seg encH 2 w w.heap.size B m)(h1:l.length≤2000000)(h2:m.length≤2000000):
  Calls Tryz.prog 81 #[.slice A l.length c,.slice B m.length d] w fun e w'=>e=.returned (.bool (decide (l=m)))∧Below w.heap.size w w':=by
 by_cases hne:l.length=m.length
 ·have HL:=Lib.hid hne
  have hq:((l.length:Int) !=(m.length:Int))=false:=by simp[hne]
  have hm3:(m.length:Int)=(l.length:Int):=by omega
  obtain⟨N,hN⟩: ∃N,m.length=N:=⟨_,rfl⟩
  have hNl:l.length=N:=hne.trans hN
  rw[hN,hNl]
  rw[hNl]at h1
  have HNl:=Lib.hid hNl
  have HN:=Lib.hid hN
  clear hq hm3 hne hN hNl h2
  go_enter Tryz.func81,Tryz.ntmps81
  go_wp2
  go_loopw [13] (fun i wr=> ∃k:Nat,k≤N∧i=.int .i64 k∧Hid (∀j (hj:j<l.length) (hj':j<m.length),j<k→l[j]=m[j])∧Below w.heap.size w wr) (fun i _=>N-(intOf i).toNat)
  case atStart=>exact⟨0,by omega,rfl,Lib.hid (fun j _ _ h=>by omega),Below.refl _ _⟩
  case round=>
   obtain⟨k,hk,rfl,hg,hb⟩:=hrel
   by_cases hlt:k<N
   ·obtain⟨W,hW⟩: ∃W:World,W=wr.drew:=⟨_,rfl⟩
    have b1:Below w.heap.size w W:=by rw[hW];exact below_drew hb
    have HW:=Lib.hid hW
    clear hW
    have hkl:k<l.length:=by have:=HNl.out;omega
    have hkm:k<m.length:=by have:=HN.out;omega
    obtain⟨bi,oi,ei,hbi,q1⟩:=ld_H (hl.below b1) hkl
    obtain⟨bj,oj,ej,hbj,q2⟩:=ld_H (hm.below b1) hkm
    subst ei ej
    obtain⟨x,hx⟩: ∃x,l[k]=x:=⟨_,rfl⟩
    obtain⟨y,hy⟩: ∃y,m[k]=y:=⟨_,rfl⟩
    rw[hx]at q1
    rw[hy]at q2
    have qe:=eq_hold x y W
    have HX:=Lib.hid hx
    have HY:=Lib.hid hy
    clear hx hy
    by_cases hxy:x=y
    ·have qd:decide (x=y)=true:=by simpa using hxy
     rw[qd]at qe
     have HXY:=Lib.hid hxy
     clear hxy qd
     go_wp2
     refine still_all HW.out (by kernel_rfl) (by kernel_rfl) ?_
     repeat still_step
     refine wpStill_nil ?_
     go_wp2
     go_roundw
     case rel=>exact⟨k+1,by omega,by go_num,Lib.hid (fun j hj hj' h=>by
      by_cases e:j=k
      ·subst e
       rw[HX.out,HY.out,HXY.out]
      ·exact hg.out j hj hj' (by omega)),b1⟩
     case measure=>first|(simp[intOf];done)|(simp[intOf];omega)
    ·have qd:decide (x=y)=false:=by simpa using hxy
     rw[qd]at qe
     have HV:=Lib.hid (show decide (l=m)=false by
      rw[decide_eq_false_iff_not]
      intro e
      subst e
      exact hxy (HX.out.symm.trans HY.out))
     clear hxy qd
     go_wp2
     refine still_all HW.out (by kernel_rfl) (by kernel_rfl) ?_
     repeat still_step
     refine wpStill_nil ?_
     go_wp2
     go_ret
     exact⟨ret_bool HV.out.symm,b1⟩
   ·obtain rfl:k=N:=by omega
    have HV:=Lib.hid (show decide (l=m)=true by
     rw[decide_eq_true_iff]
     exact List.ext_getElem HL.out (fun j hj hj'=>hg.out j hj hj' (by have:=HNl.out;omega)))
    go_wp2
    go_ret
    exact⟨ret_bool HV.out.symm,hb⟩
 ·have hq:((l.length:Int) !=(m.length:Int))=true:=bne_iff_ne.2 (by omega)
  have HV:=Lib.hid (show decide (l=m)=false by
   rw[decide_eq_false_iff_not]
   intro e
   exact hne (by rw[e]))
  clear hne
  go_enter Tryz.func81,Tryz.ntmps81
  go_wp2
  go_ret
  exact⟨ret_bool HV.out.symm,Below.refl _ _⟩
set_option maxRecDepth 100000 in
set_option maxHeartbeats 1000000 in
theorem eqf_L (A B:Option Addr)(c d:Nat)(l m:List Lp)(g:FuncId)(p:Lp→Lp→Bool)(w:World)(hl:Seg encL 3 w w.heap.size A l)(hm:Seg encL 3 w w.heap.size B m)(h1:l.length≤3000000000000)(h2:m.length≤3000000000000)
  (hen: ∀args w,(callFunc g args).run Tryz.prog w=.ok (.enter g args) w)
  (hp: ∀x∈l,∀y∈m,∀W,Below w.heap.size w W→Calls Tryz.prog g #[.agg (rowL x),.agg (rowL y)] W fun e W'=>e=.returned (.bool (p x y))∧Below W.heap.size W W'):
  Calls Tryz.prog 109 #[.slice A l.length c,.slice B m.length d,.func (.func g) #[] #[]] w fun e w'=>e=.returned (.bool (Rt.eqBy p l m))∧Below w.heap.size w w':=by
 by_cases hne:l.length=m.length
 ·have HL:=Lib.hid hne
  obtain⟨N,hN⟩: ∃N,m.length=N:=⟨_,rfl⟩
  have hNl:l.length=N:=hne.trans hN
  rw[hN,hNl]
  rw[hNl]at h1
  have HNl:=Lib.hid hNl
  have HN:=Lib.hid hN
  have HA:=Lib.hid hl
  have HB:=Lib.hid hm
  have HP:=Lib.hid hp
  clear hne hN hNl h2 hl hm hp
  go_enter Tryz.func109,Tryz.ntmps109
  go_wp2
  go_loopw [17] (fun i wr=> ∃k:Nat,k≤N∧i=.int .i64 k∧Hid (∀j (hj:j<l.length) (hj':j<m.length),j<k→p l[j] m[j]=true)∧Below w.heap.size w wr) (fun i _=>N-(intOf i).toNat)
  case atStart=>exact⟨0,by omega,rfl,Lib.hid (fun j _ _ h=>by omega),Below.refl _ _⟩
  case round=>
   obtain⟨k,hk,rfl,hg,hb⟩:=hrel
   by_cases hlt:k<N
   ·have hkl:k<l.length:=by have:=HNl.out;omega
    have hkm:k<m.length:=by have:=HN.out;omega
    have zr:=hb.size
    obtain⟨bi,oi,ei,hbi,q1⟩:=ld_L (HA.out.below hb) hkl
    obtain⟨w4,st4,k4,g4⟩:=st_row (wr.alloc (.cells zcL 54)) wr.heap.size 54 54 zcL (rowL l[k]) (heap_alloc_new wr _) info_lot rfl (by simp[Value.oneCell'])
    have b4:Below wr.heap.size wr w4:=(Below.alloc (Below.refl _ wr) (Nat.le_refl _) _).grown g4 (by simp) (by intro k e;cases e;omega)
    have z4:=b4.size
    have hz4:=(Array.getElem?_eq_some_iff.1 k4).1
    have bw4:Below w.heap.size w w4:=hb.trans (b4.mono zr)
    obtain⟨bj,oj,ej,hbj,q2⟩:=ld_L (HB.out.below bw4) hkm
    obtain⟨w5,st5,k5,g5⟩:=st_row (w4.alloc (.cells zcL 54)) w4.heap.size 54 54 zcL (rowL m[k]) (heap_alloc_new w4 _) info_lot rfl (by simp[Value.oneCell'])
    have b5:Below w4.heap.size w4 w5:=(Below.alloc (Below.refl _ w4) (Nat.le_refl _) _).grown g5 (by simp) (by intro k e;cases e;omega)
    have bw5:Below w.heap.size w w5:=bw4.trans (b5.mono (by omega))
    have l4:=ld_row ((b5.block _ hz4).trans k4) Tryz.underlying54 rfl info_lot
    have l5:=ld_row k5 Tryz.underlying54 rfl info_lot
    have hcall:=HP.out l[k] (List.getElem_mem hkl) m[k] (List.getElem_mem hkm) w5 bw5
    subst ei ej
    obtain⟨x,hx⟩: ∃x,l[k]=x:=⟨_,rfl⟩
    obtain⟨y,hy⟩: ∃y,m[k]=y:=⟨_,rfl⟩
    rw[hx]at q1 st4 l4 hcall
    rw[hy]at q2 st5 l5 hcall
    obtain⟨r,hr⟩: ∃r,p x y=r:=⟨_,rfl⟩
    rw[hr]at hcall
    have HR:Hid (p l[k] m[k]=r):=Lib.hid (by rw[hx,hy,hr])
    clear hx hy hr k4 k5 g4 g5
    cases r with
    |true=>
     go_wp2_with fail
     refine hcall.mono ?_
     clear hcall
     rintro e w6 ⟨rfl,b6⟩
     go_wp2
     go_roundw
     case rel=>exact⟨k+1,by omega,by go_num,Lib.hid (fun j hj hj' h=>by
      by_cases e:j=k
      ·subst e
       exact HR.out
      ·exact hg.out j hj hj' (by omega)),bw5.trans (b6.mono bw5.size)⟩
     case measure=>first|(simp[intOf];done)|(simp[intOf];omega)
    |false=>
     have HV:=Lib.hid (show Rt.eqBy p l m=false by
      rw[Bool.eq_false_iff]
      intro e
      have:=(Rt.eqBy_iff HL.out).1 e k hkl hkm
      rw[HR.out]at this
      cases this)
     go_wp2_with fail
     refine hcall.mono ?_
     clear hcall
     rintro e w6 ⟨rfl,b6⟩
     go_wp2
     go_ret
     exact⟨ret_bool HV.out.symm,bw5.trans (b6.mono bw5.size)⟩
   ·obtain rfl:k=N:=by omega
    have HV:=Lib.hid (show Rt.eqBy p l m=true from(Rt.eqBy_iff HL.out).2 (fun j hj hj'=>hg.out j hj hj' (by have:=HNl.out;omega)))
    go_wp2
    go_ret
    exact⟨ret_bool HV.out.symm,hb⟩
 ·have hq:((l.length:Int) !=(m.length:Int))=true:=bne_iff_ne.2 (by omega)
  have HV:=Lib.hid (Rt.eqBy_len (p:=p) hne)
  clear hne
  go_enter Tryz.func109,Tryz.ntmps109
  go_wp2
  go_ret
  exact⟨ret_bool HV.out.symm,Below.refl _ _⟩
set_option maxRecDepth 100000 in
set_option maxHeartbeats 1000000 in
theorem eqf_E (A B:Option Addr)(c d:Nat)(l m:List Rt.Ease)(g:FuncId)(p:Rt.Ease→Rt.Ease→Bool)(w:World)(hl:Seg encE 3 w w.heap.size A l)(hm:Seg encE 3 w w.heap.size B m)(h1:l.length≤3000000000000)(h2:m.length≤3000000000000)
  (hen: ∀args w,(callFunc g args).run Tryz.prog w=.ok (.enter g args) w)
  (hp: ∀x∈l,∀y∈m,∀W,Below w.heap.size w W→Calls Tryz.prog g #[.agg (rowE x),.agg (rowE y)] W fun e W'=>e=.returned (.bool (p x y))∧Below W.heap.size W W'):
  Calls Tryz.prog 111 #[.slice A l.length c,.slice B m.length d,.func (.func g) #[] #[]] w fun e w'=>e=.returned (.bool (Rt.eqBy p l m))∧Below w.heap.size w w':=by
 by_cases hne:l.length=m.length
 ·have HL:=Lib.hid hne
  obtain⟨N,hN⟩: ∃N,m.length=N:=⟨_,rfl⟩
  have hNl:l.length=N:=hne.trans hN
  rw[hN,hNl]
  rw[hNl]at h1
  have HNl:=Lib.hid hNl
  have HN:=Lib.hid hN
  have HA:=Lib.hid hl
  have HB:=Lib.hid hm
  have HP:=Lib.hid hp
  clear hne hN hNl h2 hl hm hp
  go_enter Tryz.func111,Tryz.ntmps111
  go_wp2
  go_loopw [17] (fun i wr=> ∃k:Nat,k≤N∧i=.int .i64 k∧Hid (∀j (hj:j<l.length) (hj':j<m.length),j<k→p l[j] m[j]=true)∧Below w.heap.size w wr) (fun i _=>N-(intOf i).toNat)
  case atStart=>exact⟨0,by omega,rfl,Lib.hid (fun j _ _ h=>by omega),Below.refl _ _⟩
  case round=>
   obtain⟨k,hk,rfl,hg,hb⟩:=hrel
   by_cases hlt:k<N
   ·have hkl:k<l.length:=by have:=HNl.out;omega
    have hkm:k<m.length:=by have:=HN.out;omega
    have zr:=hb.size
    obtain⟨bi,oi,ei,hbi,q1⟩:=ld_E (HA.out.below hb) hkl
    obtain⟨w4,st4,k4,g4⟩:=st_row (wr.alloc (.cells zcE 71)) wr.heap.size 71 71 zcE (rowE l[k]) (heap_alloc_new wr _) info_ease rfl (by simp[Value.oneCell'])
    have b4:Below wr.heap.size wr w4:=(Below.alloc (Below.refl _ wr) (Nat.le_refl _) _).grown g4 (by simp) (by intro k e;cases e;omega)
    have z4:=b4.size
    have hz4:=(Array.getElem?_eq_some_iff.1 k4).1
    have bw4:Below w.heap.size w w4:=hb.trans (b4.mono zr)
    obtain⟨bj,oj,ej,hbj,q2⟩:=ld_E (HB.out.below bw4) hkm
    obtain⟨w5,st5,k5,g5⟩:=st_row (w4.alloc (.cells zcE 71)) w4.heap.size 71 71 zcE (rowE m[k]) (heap_alloc_new w4 _) info_ease rfl (by simp[Value.oneCell'])
    have b5:Below w4.heap.size w4 w5:=(Below.alloc (Below.refl _ w4) (Nat.le_refl _) _).grown g5 (by simp) (by intro k e;cases e;omega)
    have bw5:Below w.heap.size w w5:=bw4.trans (b5.mono (by omega))
    have l4:=ld_row ((b5.block _ hz4).trans k4) Tryz.underlying71 rfl info_ease
    have l5:=ld_row k5 Tryz.underlying71 rfl info_ease
    have hcall:=HP.out l[k] (List.getElem_mem hkl) m[k] (List.getElem_mem hkm) w5 bw5
    subst ei ej
    obtain⟨x,hx⟩: ∃x,l[k]=x:=⟨_,rfl⟩
    obtain⟨y,hy⟩: ∃y,m[k]=y:=⟨_,rfl⟩
    rw[hx]at q1 st4 l4 hcall
    rw[hy]at q2 st5 l5 hcall
    obtain⟨r,hr⟩: ∃r,p x y=r:=⟨_,rfl⟩
    rw[hr]at hcall
    have HR:Hid (p l[k] m[k]=r):=Lib.hid (by rw[hx,hy,hr])
    clear hx hy hr k4 k5 g4 g5
    cases r with
    |true=>
     go_wp2_with fail
     refine hcall.mono ?_
     clear hcall
     rintro e w6 ⟨rfl,b6⟩
     go_wp2
     go_roundw
     case rel=>exact⟨k+1,by omega,by go_num,Lib.hid (fun j hj hj' h=>by
      by_cases e:j=k
      ·subst e
       exact HR.out
      ·exact hg.out j hj hj' (by omega)),bw5.trans (b6.mono bw5.size)⟩
     case measure=>first|(simp[intOf];done)|(simp[intOf];omega)
    |false=>
     have HV:=Lib.hid (show Rt.eqBy p l m=false by
      rw[Bool.eq_false_iff]
      intro e
      have:=(Rt.eqBy_iff HL.out).1 e k hkl hkm
      rw[HR.out]at this
      cases this)
     go_wp2_with fail
     refine hcall.mono ?_
     clear hcall
     rintro e w6 ⟨rfl,b6⟩
     go_wp2
     go_ret
     exact⟨ret_bool HV.out.symm,bw5.trans (b6.mono bw5.size)⟩
   ·obtain rfl:k=N:=by omega
    have HV:=Lib.hid (show Rt.eqBy p l m=true from(Rt.eqBy_iff HL.out).2 (fun j hj hj'=>hg.out j hj hj' (by have:=HNl.out;omega)))
    go_wp2
    go_ret
    exact⟨ret_bool HV.out.symm,hb⟩
 ·have hq:((l.length:Int) !=(m.length:Int))=true:=bne_iff_ne.2 (by omega)
  have HV:=Lib.hid (Rt.eqBy_len (p:=p) hne)
  clear hne
  go_enter Tryz.func111,Tryz.ntmps111
  go_wp2
  go_ret
  exact⟨ret_bool HV.out.symm,Below.refl _ _⟩
set_option maxRecDepth 100000 in
set_option maxHeartbeats 1000000 in
theorem eqf_S (A B:Option Addr)(c d:Nat)(l m:List Rt.Stint)(g:FuncId)(p:Rt.Stint→Rt.Stint→Bool)(w:World)(hl:Seg encS 4 w w.heap.size A l)(hm:Seg encS 4 w w.heap.size B m)(h1:l.length≤3000000000000)(h2:m.length≤3000000000000)
  (hen: ∀args w,(callFunc g args).run Tryz.prog w=.ok (.enter g args) w)
  (hp: ∀x∈l,∀y∈m,∀W,Below w.heap.size w W→Calls Tryz.prog g #[.agg (rowS x),.agg (rowS y)] W fun e W'=>e=.returned (.bool (p x y))∧Below W.heap.size W W'):
  Calls Tryz.prog 113 #[.slice A l.length c,.slice B m.length d,.func (.func g) #[] #[]] w fun e w'=>e=.returned (.bool (Rt.eqBy p l m))∧Below w.heap.size w w':=by
 by_cases hne:l.length=m.length
 ·have HL:=Lib.hid hne
  obtain⟨N,hN⟩: ∃N,m.length=N:=⟨_,rfl⟩
  have hNl:l.length=N:=hne.trans hN
  rw[hN,hNl]
  rw[hNl]at h1
  have HNl:=Lib.hid hNl
  have HN:=Lib.hid hN
  have HA:=Lib.hid hl
  have HB:=Lib.hid hm
  have HP:=Lib.hid hp
  clear hne hN hNl h2 hl hm hp
  go_enter Tryz.func113,Tryz.ntmps113
  go_wp2
  go_loopw [17] (fun i wr=> ∃k:Nat,k≤N∧i=.int .i64 k∧Hid (∀j (hj:j<l.length) (hj':j<m.length),j<k→p l[j] m[j]=true)∧Below w.heap.size w wr) (fun i _=>N-(intOf i).toNat)
  case atStart=>exact⟨0,by omega,rfl,Lib.hid (fun j _ _ h=>by omega),Below.refl _ _⟩
  case round=>
   obtain⟨k,hk,rfl,hg,hb⟩:=hrel
   by_cases hlt:k<N
   ·have hkl:k<l.length:=by have:=HNl.out;omega
    have hkm:k<m.length:=by have:=HN.out;omega
    have zr:=hb.size
    obtain⟨bi,oi,ei,hbi,q1⟩:=ld_S (HA.out.below hb) hkl
    obtain⟨w4,st4,k4,g4⟩:=st_row (wr.alloc (.cells zcS 119)) wr.heap.size 119 119 zcS (rowS l[k]) (heap_alloc_new wr _) info_stint rfl (by simp[Value.oneCell'])
    have b4:Below wr.heap.size wr w4:=(Below.alloc (Below.refl _ wr) (Nat.le_refl _) _).grown g4 (by simp) (by intro k e;cases e;omega)
    have z4:=b4.size
    have hz4:=(Array.getElem?_eq_some_iff.1 k4).1
    have bw4:Below w.heap.size w w4:=hb.trans (b4.mono zr)
    obtain⟨bj,oj,ej,hbj,q2⟩:=ld_S (HB.out.below bw4) hkm
    obtain⟨w5,st5,k5,g5⟩:=st_row (w4.alloc (.cells zcS 119)) w4.heap.size 119 119 zcS (rowS m[k]) (heap_alloc_new w4 _) info_stint rfl (by simp[Value.oneCell'])
    have b5:Below w4.heap.size w4 w5:=(Below.alloc (Below.refl _ w4) (Nat.le_refl _) _).grown g5 (by simp) (by intro k e;cases e;omega)
    have bw5:Below w.heap.size w w5:=bw4.trans (b5.mono (by omega))
    have l4:=ld_row ((b5.block _ hz4).trans k4) Tryz.underlying119 rfl info_stint
    have l5:=ld_row k5 Tryz.underlying119 rfl info_stint
    have hcall:=HP.out l[k] (List.getElem_mem hkl) m[k] (List.getElem_mem hkm) w5 bw5
    subst ei ej
    obtain⟨x,hx⟩: ∃x,l[k]=x:=⟨_,rfl⟩
    obtain⟨y,hy⟩: ∃y,m[k]=y:=⟨_,rfl⟩
    rw[hx]at q1 st4 l4 hcall
    rw[hy]at q2 st5 l5 hcall
    obtain⟨r,hr⟩: ∃r,p x y=r:=⟨_,rfl⟩
    rw[hr]at hcall
    have HR:Hid (p l[k] m[k]=r):=Lib.hid (by rw[hx,hy,hr])
    clear hx hy hr k4 k5 g4 g5
    cases r with
    |true=>
     go_wp2_with fail
     refine hcall.mono ?_
     clear hcall
     rintro e w6 ⟨rfl,b6⟩
     go_wp2
     go_roundw
     case rel=>exact⟨k+1,by omega,by go_num,Lib.hid (fun j hj hj' h=>by
      by_cases e:j=k
      ·subst e
       exact HR.out
      ·exact hg.out j hj hj' (by omega)),bw5.trans (b6.mono bw5.size)⟩
     case measure=>first|(simp[intOf];done)|(simp[intOf];omega)
    |false=>
     have HV:=Lib.hid (show Rt.eqBy p l m=false by
      rw[Bool.eq_false_iff]
      intro e
      have:=(Rt.eqBy_iff HL.out).1 e k hkl hkm
      rw[HR.out]at this
      cases this)
     go_wp2_with fail
     refine hcall.mono ?_
     clear hcall
     rintro e w6 ⟨rfl,b6⟩
     go_wp2
     go_ret
     exact⟨ret_bool HV.out.symm,bw5.trans (b6.mono bw5.size)⟩
   ·obtain rfl:k=N:=by omega
    have HV:=Lib.hid (show Rt.eqBy p l m=true from(Rt.eqBy_iff HL.out).2 (fun j hj hj'=>hg.out j hj hj' (by have:=HNl.out;omega)))
    go_wp2
    go_ret
    exact⟨ret_bool HV.out.symm,hb⟩
 ·have hq:((l.length:Int) !=(m.length:Int))=true:=bne_iff_ne.2 (by omega)
  have HV:=Lib.hid (Rt.eqBy_len (p:=p) hne)
  clear hne
  go_enter Tryz.func113,Tryz.ntmps113
  go_wp2
  go_ret
  exact⟨ret_bool HV.out.symm,Below.refl _ _⟩
end Go.Proofs.YtcffonnijhhhiaaGreatDoor
namespace Go.Proofs.YtcffonnijhhhiaaGreatDoor
open Go Go.RowKit Go.Maps Mp
attribute [-simp] Prod.forall Prod.exists
attribute [-go_sem] loadVar storeVar run_equalIn_agg Builtin.append_
attribute [local go_sem] lk_int lk_holds
set_option maxRecDepth 100000 in
set_option maxHeartbeats 1000000 in
theorem sameLot_a (p q:Lp)(w:World)(hp:Seg encH 2 w w.heap.size p.A p.x.held)(hq:Seg encH 2 w w.heap.size q.A q.x.held)(h1:p.x.held.length≤2000000)(h2:q.x.held.length≤2000000):
  Calls Tryz.prog 110 #[.agg (rowL p),.agg (rowL q)] w fun e w'=>e=.returned (.bool (Rt.sameL p.x q.x))∧Below w.heap.size w w':=by
 have b1:Below w.heap.size w ((w.alloc (.cells (rowL p) 54 (0,0))).alloc (.cells (rowL q) 54 (0,0))):=by go_grown
 have k1:((w.alloc (.cells (rowL p) 54 (0,0))).alloc (.cells (rowL q) 54 (0,0))).heap[w.heap.size]?=some (.cells (rowL p) 54 (0,0)):=by rw[Below.heap_alloc _ _ _ (by simp)];exact heap_at rfl
 have k2:((w.alloc (.cells (rowL p) 54 (0,0))).alloc (.cells (rowL q) 54 (0,0))).heap[w.heap.size+1]?=some (.cells (rowL q) 54 (0,0)):=heap_at (by simp)
 obtain⟨W,hW⟩: ∃W,(w.alloc (.cells (rowL p) 54 (0,0))).alloc (.cells (rowL q) 54 (0,0))=W:=⟨_,rfl⟩
 rw[hW]at b1 k1 k2
 have he:=eqH_a p.A q.A p.c q.c p.x.held q.x.held W ((hp.below b1).more b1.size) ((hq.below b1).more b1.size) h1 h2
 have HW:=Lib.hid hW
 subst hW
 obtain⟨c1,_⟩:=blk_cells k1
 obtain⟨c2,_⟩:=blk_cells k2
 have d0:_=some (Value.int .i64 p.x.number):=c1 0
 have d1:_=some (Value.int .i64 p.x.size):=c1 1
 have d2:_=some (Value.slice p.A p.x.held.length p.c):=c1 2
 have e0:_=some (Value.int .i64 q.x.number):=c2 0
 have e1:_=some (Value.int .i64 q.x.size):=c2 1
 have e2:_=some (Value.slice q.A q.x.held.length q.c):=c2 2
 clear c1 c2 k1 k2 HW hp hq
 obtain⟨r,hr⟩: ∃r,Rt.sameL p.x q.x=r:=⟨_,rfl⟩
 rw[hr]
 have hrr:r=(decide (p.x.number=q.x.number)&&decide (p.x.size=q.x.size)&&decide (p.x.held=q.x.held)):=by
  rw[←hr]
  unfold Rt.sameL
  cases p.x
  cases q.x
  simp[Rt.Lot.mk.injEq,Bool.and_assoc]
 clear hr
 by_cases g1:p.x.number=q.x.number
 ·by_cases g2:p.x.size=q.x.size
  ·have q1:(p.x.number==q.x.number)=true:=by simpa using g1
   have q2:(p.x.size==q.x.size)=true:=by simpa using g2
   have HR:Hid (r=decide (p.x.held=q.x.held)):=Lib.hid (by rw[hrr];simp[g1,g2])
   clear hrr g1 g2
   go_enter Tryz.func110,Tryz.ntmps110
   go_wp2_with fail
   refine he.mono ?_
   rintro e w2 ⟨rfl,b2⟩
   go_wp2
   go_ret
   exact⟨ret_bool HR.out.symm,b1.trans (b2.mono b1.size)⟩
  ·have q1:(p.x.number==q.x.number)=true:=by simpa using g1
   have q2:(p.x.size==q.x.size)=false:=by simpa using g2
   obtain rfl:r=false:=by rw[hrr];simp[g2]
   clear hrr g1 g2 he
   go_enter Tryz.func110,Tryz.ntmps110
   go_wp2
   go_ret
   exact⟨rfl,b1⟩
 ·have q1:(p.x.number==q.x.number)=false:=by simpa using g1
  obtain rfl:r=false:=by rw[hrr];simp[g1]
  clear hrr g1 he
  go_enter Tryz.func110,Tryz.ntmps110
  go_wp2
  go_ret
  exact⟨rfl,b1⟩
set_option maxRecDepth 100000 in
set_option maxHeartbeats 1000000 in
theorem sameEase_a (p q:Rt.Ease)(w:World):Calls Tryz.prog 112 #[.agg (rowE p),.agg (rowE q)] w fun e w'=>e=.returned (.bool (Rt.sameE p q))∧Below w.heap.size w w':=by
 have k1:((w.alloc (.cells (rowE p) 71 (0,0))).alloc (.cells (rowE q) 71 (0,0))).heap[w.heap.size]?=some (.cells (rowE p) 71 (0,0)):=by rw[Below.heap_alloc _ _ _ (by simp)];exact heap_at rfl
 have h1:=st_int (n:=0) k1 (j:=2) (by simp)
 have s1:(storeVar 3 ⟨w.heap.size,2,none⟩ (.int .i64 0)).run Tryz.prog ((w.alloc (.cells (rowE p) 71 (0,0))).alloc (.cells (rowE q) 71 (0,0)))=.ok () ((w.alloc (.cells #[.int .i64 p.over,.int .i64 p.of,.int .i64 0] 71 (0,0))).alloc (.cells (rowE q) 71 (0,0))):=by simpa [go_sem]using h1
 have k2:((w.alloc (.cells #[.int .i64 p.over,.int .i64 p.of,.int .i64 0] 71 (0,0))).alloc (.cells (rowE q) 71 (0,0))).heap[w.heap.size+1]?=some (.cells (rowE q) 71 (0,0)):=heap_at (by simp)
 have h2:=st_int (n:=0) k2 (j:=2) (by simp)
 have s2:(storeVar 3 ⟨w.heap.size+1,2,none⟩ (.int .i64 0)).run Tryz.prog ((w.alloc (.cells #[.int .i64 p.over,.int .i64 p.of,.int .i64 0] 71 (0,0))).alloc (.cells (rowE q) 71 (0,0)))=.ok () ((w.alloc (.cells #[.int .i64 p.over,.int .i64 p.of,.int .i64 0] 71 (0,0))).alloc (.cells #[.int .i64 q.over,.int .i64 q.of,.int .i64 0] 71 (0,0))):=by simpa [go_sem]using h2
 clear h1 h2 k1 k2
 have bb:Below w.heap.size w ((w.alloc (.cells #[.int .i64 p.over,.int .i64 p.of,.int .i64 0] 71 (0,0))).alloc (.cells #[.int .i64 q.over,.int .i64 q.of,.int .i64 0] 71 (0,0))):=by go_grown
 have n1:((w.alloc (.cells #[.int .i64 p.over,.int .i64 p.of,.int .i64 0] 71 (0,0))).alloc (.cells #[.int .i64 q.over,.int .i64 q.of,.int .i64 0] 71 (0,0))).heap[w.heap.size]?=some (.cells #[.int .i64 p.over,.int .i64 p.of,.int .i64 0] 71 (0,0)):=by rw[Below.heap_alloc _ _ _ (by simp)];exact heap_at rfl
 have n2:((w.alloc (.cells #[.int .i64 p.over,.int .i64 p.of,.int .i64 0] 71 (0,0))).alloc (.cells #[.int .i64 q.over,.int .i64 q.of,.int .i64 0] 71 (0,0))).heap[w.heap.size+1]?=some (.cells #[.int .i64 q.over,.int .i64 q.of,.int .i64 0] 71 (0,0)):=heap_at (by simp)
 have l1:=ld_row n1 Tryz.underlying71 rfl info_ease
 have l2:=ld_row n2 Tryz.underlying71 rfl info_ease
 have q1:=eq_ease p q ((w.alloc (.cells #[.int .i64 p.over,.int .i64 p.of,.int .i64 0] 71 (0,0))).alloc (.cells #[.int .i64 q.over,.int .i64 q.of,.int .i64 0] 71 (0,0)))
 clear n1 n2
 obtain⟨W3,hW3⟩: ∃W3,(w.alloc (.cells #[.int .i64 p.over,.int .i64 p.of,.int .i64 0] 71 (0,0))).alloc (.cells #[.int .i64 q.over,.int .i64 q.of,.int .i64 0] 71 (0,0))=W3:=⟨_,rfl⟩
 rw[hW3]at s2 l1 l2 q1 bb
 clear hW3
 obtain⟨r,hr⟩: ∃r,Rt.sameE p q=r:=⟨_,rfl⟩
 rw[hr]at q1 ⊢
 clear hr
 go_enter Tryz.func112,Tryz.ntmps112
 go_wp2
 go_ret
 exact⟨rfl,bb⟩
set_option maxRecDepth 100000 in
set_option maxHeartbeats 1000000 in
theorem sameStint_a (p q:Rt.Stint)(w:World):Calls Tryz.prog 114 #[.agg (rowS p),.agg (rowS q)] w fun e w'=>e=.returned (.bool (Rt.sameS p q))∧Below w.heap.size w w':=by
 have k1:((w.alloc (.cells (rowS p) 119 (0,0))).alloc (.cells (rowS q) 119 (0,0))).heap[w.heap.size]?=some (.cells (rowS p) 119 (0,0)):=by rw[Below.heap_alloc _ _ _ (by simp)];exact heap_at rfl
 have h1:=st_int (n:=0) k1 (j:=3) (by simp)
 have s1:(storeVar 3 ⟨w.heap.size,3,none⟩ (.int .i64 0)).run Tryz.prog ((w.alloc (.cells (rowS p) 119 (0,0))).alloc (.cells (rowS q) 119 (0,0)))=.ok () ((w.alloc (.cells #[.int .i64 p.lot,.int .i64 p.owner,.int .i64 p.beasts,.int .i64 0] 119 (0,0))).alloc (.cells (rowS q) 119 (0,0))):=by simpa [go_sem]using h1
 have k2:((w.alloc (.cells #[.int .i64 p.lot,.int .i64 p.owner,.int .i64 p.beasts,.int .i64 0] 119 (0,0))).alloc (.cells (rowS q) 119 (0,0))).heap[w.heap.size+1]?=some (.cells (rowS q) 119 (0,0)):=heap_at (by simp)
 have h2:=st_int (n:=0) k2 (j:=3) (by simp)
 have s2:(storeVar 3 ⟨w.heap.size+1,3,none⟩ (.int .i64 0)).run Tryz.prog ((w.alloc (.cells #[.int .i64 p.lot,.int .i64 p.owner,.int .i64 p.beasts,.int .i64 0] 119 (0,0))).alloc (.cells (rowS q) 119 (0,0)))=.ok () ((w.alloc (.cells #[.int .i64 p.lot,.int .i64 p.owner,.int .i64 p.beasts,.int .i64 0] 119 (0,0))).alloc (.cells #[.int .i64 q.lot,.int .i64 q.owner,.int .i64 q.beasts,.int .i64 0] 119 (0,0))):=by simpa [go_sem]using h2
 clear h1 h2 k1 k2
 have bb:Below w.heap.size w ((w.alloc (.cells #[.int .i64 p.lot,.int .i64 p.owner,.int .i64 p.beasts,.int .i64 0] 119 (0,0))).alloc (.cells #[.int .i64 q.lot,.int .i64 q.owner,.int .i64 q.beasts,.int .i64 0] 119 (0,0))):=by go_grown
 have n1:((w.alloc (.cells #[.int .i64 p.lot,.int .i64 p.owner,.int .i64 p.beasts,.int .i64 0] 119 (0,0))).alloc (.cells #[.int .i64 q.lot,.int .i64 q.owner,.int .i64 q.beasts,.int .i64 0] 119 (0,0))).heap[w.heap.size]?=some (.cells #[.int .i64 p.lot,.int .i64 p.owner,.int .i64 p.beasts,.int .i64 0] 119 (0,0)):=by rw[Below.heap_alloc _ _ _ (by simp)];exact heap_at rfl
 have n2:((w.alloc (.cells #[.int .i64 p.lot,.int .i64 p.owner,.int .i64 p.beasts,.int .i64 0] 119 (0,0))).alloc (.cells #[.int .i64 q.lot,.int .i64 q.owner,.int .i64 q.beasts,.int .i64 0] 119 (0,0))).heap[w.heap.size+1]?=some (.cells #[.int .i64 q.lot,.int .i64 q.owner,.int .i64 q.beasts,.int .i64 0] 119 (0,0)):=heap_at (by simp)
 have l1:=ld_row n1 Tryz.underlying119 rfl info_stint
 have l2:=ld_row n2 Tryz.underlying119 rfl info_stint
 have q1:=eq_stint p q ((w.alloc (.cells #[.int .i64 p.lot,.int .i64 p.owner,.int .i64 p.beasts,.int .i64 0] 119 (0,0))).alloc (.cells #[.int .i64 q.lot,.int .i64 q.owner,.int .i64 q.beasts,.int .i64 0] 119 (0,0)))
 clear n1 n2
 obtain⟨W3,hW3⟩: ∃W3,(w.alloc (.cells #[.int .i64 p.lot,.int .i64 p.owner,.int .i64 p.beasts,.int .i64 0] 119 (0,0))).alloc (.cells #[.int .i64 q.lot,.int .i64 q.owner,.int .i64 q.beasts,.int .i64 0] 119 (0,0))=W3:=⟨_,rfl⟩
 rw[hW3]at s2 l1 l2 q1 bb
 clear hW3
 obtain⟨r,hr⟩: ∃r,Rt.sameS p q=r:=⟨_,rfl⟩
 rw[hr]at q1 ⊢
 clear hr
 go_enter Tryz.func114,Tryz.ntmps114
 go_wp2
 go_ret
 exact⟨rfl,bb⟩
end Go.Proofs.YtcffonnijhhhiaaGreatDoor
