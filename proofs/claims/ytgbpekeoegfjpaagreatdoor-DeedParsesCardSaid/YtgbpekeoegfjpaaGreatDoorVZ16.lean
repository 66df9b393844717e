/- Proved: parts of the walk. -/
import Derived.Test.YtgbpekeoegfjpaaGreatDoorVZ09
import Derived.Test.YtgbpekeoegfjpaaGreatDoorVZ14
set_option maxRecDepth 100000
set_option maxHeartbeats 1000000
namespace Go.Proofs
open Tryz RowKit
theorem Jl (s:ByteArray)(v:Int)(w:World)(hE:Env w)(hs:s.size<=1000000)(hv:Pl.vk s=some v):
  Calls prog 324 #[.string s] w fun e w'=>e=.returned (.int .i64 v)∧Below w.heap.size w w':=by
 unfold Pl.vk at hv
 have hat: ∃u,Lib.atoiAll s.data.toList=.ok u∧(if 0<=u∧u<=1000000000000∧Pl.spelt u=s then some u else none)=some v:=by
  revert hv
  rcases h:Lib.atoiAll s.data.toList with u|_|_
  ·intro hv;exact⟨u,rfl,hv⟩
  ·intro hv;cases hv
  ·intro hv;cases hv
 obtain⟨u,hat,hif⟩:=hat
 split at hif
 ·rename_i hc
  obtain⟨h0,h1,h2⟩:=hc
  cases hif
  have hin:(Pl.bQ v 0 1000000000000)=true:=by simp[Pl.bQ,h0,h1]
  have HA:=Lib.hid hat
  clear hat
  have h2':(⟨(Lib.itoa v).toArray⟩:ByteArray)=s:=h2
  clear h2
  subst h2'
  have h8:8<=w.heap.size:=hE.size
  go_enter func324,ntmps324
  go_wp2_with (first|(go_at_call 269;refine(mX _ _ _ hs HA.out).mono ?_;rintro e w1 ⟨rfl,hx1⟩;have hb1:=bT (w:=w) hx1;clear hx1;have hsz1:w.heap.size<=w1.heap.size:=hb1.size)|(go_at_call 149;refine(AL _ _ _ _).mono ?_;rintro e w' ⟨rfl,rfl⟩)|(go_at_call 120;refine(eY _ _ (hE.up (by go_grown)) (by omega) (by omega)).mono ?_;rintro e w2 ⟨rfl,hx2⟩;have hb2:=bT (w:=w) hx2;clear hx2;have hsz2:w.heap.size<=w2.heap.size:=hb2.size)|(go_at_call 285;refine(oU _).mono ?_;rintro e w' ⟨rfl,rfl⟩))
  go_ret
  exact⟨rfl,by go_grown⟩
 ·cases hif
theorem Jm (s:ByteArray)(w:World)(hE:Env w)(hs:s.size<=1000000)(hv:Pl.vk s=none):
  Calls prog 324 #[.string s] w fun e w'=>e=.panicked xu∧Below w.heap.size w w':=by
 by_cases hok: ∃v,Lib.atoiAll s.data.toList=.ok v
 ·obtain⟨v,hat⟩:=hok
  have hb:=Lib.atoiAll_bounds hat
  simp only[Pl.vk,hat]at hv
  split at hv
  ·cases hv
  ·rename_i hc
   have HA:=Lib.hid hat
   clear hat hv
   cases hin:(Pl.bQ v 0 1000000000000)with
   |false=>
    clear hc
    go_enter func324,ntmps324
    go_wp2_with (first|(go_at_call 269;refine(mX _ _ _ hs HA.out).mono ?_;rintro e w1 ⟨rfl,hx1⟩;have hb1:=bT (w:=w) hx1;clear hx1;have hsz1:w.heap.size<=w1.heap.size:=hb1.size)|(go_at_call 149;refine(AL _ _ _ _).mono ?_;rintro e w' ⟨rfl,rfl⟩)|(go_at_call 120;refine(eY _ _ (hE.up (by go_grown)) (by omega) (by omega)).mono ?_;rintro e w2 ⟨rfl,hx2⟩;have hb2:=bT (w:=w) hx2;clear hx2;have hsz2:w.heap.size<=w2.heap.size:=hb2.size)|(go_at_call 285;refine(jo _).mono ?_;rintro e w2 ⟨rfl,hb2⟩;have hsz2:=hb2.size))
    exact⟨rfl,rfl,hb1.trans (hb2.mono hsz1)⟩
   |true=>
    have hin2:0<=v∧v<=1000000000000:=by simpa [Pl.bQ]using hin
    obtain⟨h0,h1⟩:=hin2
    have hne: ¬Pl.spelt v=s:=fun h=>hc ⟨h0,h1,h⟩
    have HN:=Lib.hid hne
    clear hc hne
    go_enter func324,ntmps324
    go_wp2_with (first|(go_at_call 269;refine(mX _ _ _ hs HA.out).mono ?_;rintro e w1 ⟨rfl,hx1⟩;have hb1:=bT (w:=w) hx1;clear hx1;have hsz1:w.heap.size<=w1.heap.size:=hb1.size)|(go_at_call 149;refine(AL _ _ _ _).mono ?_;rintro e w' ⟨rfl,rfl⟩)|(go_at_call 120;refine(Ih _ s _ (hE.up hb1) (by omega) (by omega) HN.out).mono ?_;rintro e w2 ⟨B,rfl,U_,hb2⟩;have hsz2:=hb2.size)|(go_at_call 285;refine(jo _).mono ?_;rintro e w3 ⟨rfl,hb3⟩;have oq:=hb3.size))
    exact⟨rfl,rfl,hb1.trans ((hb2.mono hsz1).trans (hb3.mono (by omega)))⟩
 ·have hno: ∀v,Lib.atoiAll s.data.toList≠ .ok v:=fun v h=>hok ⟨v,h⟩
  clear hok hv
  go_enter func324,ntmps324
  go_wp2_with (first|(go_at_call 269;refine(Ig _ _ hE hs hno).mono ?_;rintro e w1 ⟨x,N,rfl,hb1⟩;have hsz1:=hb1.size)|(go_at_call 285;refine(jo _).mono ?_;rintro e w3 ⟨rfl,hb3⟩;have oq:=hb3.size))
  exact⟨rfl,rfl,hb1.trans (hb3.mono hsz1)⟩
open RowKit
theorem Ll {α:Type}(enc:α->List Value)(size:Nat)(hsz: ∀x,(enc x).length=size){l:List α}{k:Nat}{x:α}(hk:l[k]?=some x){j:Nat}{v:Value}(hv:(enc x)[j]?=some v):(l.flatMap enc)[k*size+j]?=some v:=by
 induction l generalizing k with
 |nil=>simp at hk
 | cons y l ih=>
  have hj:j<size:=by rw[<-hsz x];exact(List.getElem?_eq_some_iff.1 hv).1
  rw[List.flatMap_cons]
  cases k with
  |zero=>
   simp at hk
   subst hk
   rw[List.getElem?_append_left (by rw[hsz];omega)]
   simpa using hv
  |succ k=>
   have h1:=ih (k:=k) (by simpa using hk)
   rw[List.getElem?_append_right (by rw[hsz,Nat.add_mul];omega),hsz]
   rw[show(k+1)*size+j-size=k*size+j by rw[Nat.add_mul];omega]
   exact h1
theorem Lm {w:World}{b:Nat}{cs:Array Value}{us:List Pl.Unit}(h:w.heap[b]?=some (.cells cs 313 (0,0)))(hc:cs.toList=us.flatMap Bp):Units w w.heap.size (some ⟨b,0,none⟩) us:=by
 refine .inr ⟨b,0,rfl,(lO h),fun k x hx j v hv=> ?_⟩
 rw[(ah h).1,Nat.zero_add,<-Array.getElem?_toList,hc]
 exact Ll Bp 3 (fun _=>rfl) hx hv
theorem Ik (w:World):
  Calls prog 282 #[] w fun e w'=>e=.returned (.slice (some ⟨w.heap.size,0,none⟩) 3 3)∧Below w.heap.size w w'∧Units w' w'.heap.size (some ⟨w.heap.size,0,none⟩) Pl.cO:=by
 go_enter func282,ntmps282
 go_wp2
 go_ret
 exact⟨rfl,by go_grown,Lm (World.alloc_heap_new _ _) rfl⟩
theorem Dr (n:Int)(w:World)(hE:Env w):
  Calls prog 275 #[.int .i64 n] w fun e w'=>e=.returned (.string (Pl.aY n))∧Below w.heap.size w w':=by
 by_cases hn:0<=n∧n<=1000000
 ·obtain⟨h0,h1⟩:=hn
  have hin:Pl.bQ n 0 1000000=true:=by simp[Pl.bQ,h0,h1]
  have hv:Pl.aY n=Pl.named n Pl.cO:=by simp[Pl.aY,h0,h1]
  have HV:=Lib.hid hv;clear hv
  go_enter func275,ntmps275
  go_wp2_with (first|(go_at_call 149;refine(AL _ _ _ _).mono ?_;rintro e w' ⟨rfl,rfl⟩)|(go_at_call 282;refine(Ik _).mono ?_;rintro e w1 ⟨rfl,hb1,hU⟩;have hsz1:=hb1.size)|(go_at_call 320;refine(OL _ Pl.cO 3 _ _ (hE.up hb1) hU (by decide) (by decide) (by decide) (by decide) h0 (by omega)).mono ?_;rintro e w2 ⟨rfl,hb2⟩;have hsz2:=hb2.size))
  go_ret
  exact⟨by rw[HV.out];rfl,hb1.trans (hb2.mono hsz1)⟩
 ·have hin:Pl.bQ n 0 1000000=false:=by simpa [Pl.bQ]using hn
  have hv:Pl.aY n=⟨#[]⟩:=by simp only[Pl.aY,if_neg hn]
  have HV:=Lib.hid hv;clear hv hn
  go_enter func275,ntmps275
  go_wp2_with (go_at_call 149;refine(AL _ _ _ _).mono ?_;rintro e w' ⟨rfl,rfl⟩)
  go_ret
  exact⟨by rw[HV.out];rfl,by go_grown⟩
open RowKit
def aAa (b:ByteArray):List Value:=[.string b]
abbrev Strs := @Seg ByteArray aAa 1
theorem Strs.gY {w:World}{B:Nat}{A:Option Addr}{l:List ByteArray}(h:Strs w B A l){k:Nat}(hk:k<l.length):
  ∃b off,A=some ⟨b,off,none⟩∧b<B∧w.cell? ⟨b,off+k,none⟩=some (.string l[k]):=by
 obtain⟨b,off,hA,hb,hc⟩:=Seg.at_ h hk
 exact⟨b,off,hA,hb,by have:=hc 0 _ rfl;simpa using this⟩
theorem OM (s:ByteArray)(w:World)(hE:Env w)(hs:s.size<=1000000):
  Calls prog 145 #[.string s,.string ⟨#[32]⟩] w fun e w'=>e=.returned (.slice (some ⟨w.heap.size,0,none⟩) (Pl.bU s).length (Pl.bU s).length)∧Below w.heap.size w w'∧Strs w' w'.heap.size (some ⟨w.heap.size,0,none⟩) (Pl.bU s):=by
 obtain⟨m,hm⟩:=hE.maxLen
 refine(Tryz.strings_Split s ⟨#[32]⟩ m w (by omega) hm (by decide)).mono ?_
 rintro e w' ⟨rfl,rfl⟩
 have hl:(Pl.bU s).length=Lib.countB s ⟨#[32]⟩+1:=Lib.splitB_all ⟨#[32]⟩ (by decide) 0 _ s rfl
 refine⟨by rw[hl],((Below.refl _ w).alloc (Nat.le_refl _) _),.inr ⟨w.heap.size,0,rfl,by simp,fun k x hx j v hv=> ?_⟩⟩
 rw[(ah (World.alloc_heap_new w _)).1]
 cases j with
 |zero=>
  simp[aAa]at hv
  subst hv
  have:(Lib.splitB ⟨#[32]⟩ 0 (Lib.countB s ⟨#[32]⟩) s)[k]?=some x:=hx
  simp[this]
 |succ j=>simp[aAa]at hv
theorem Dt (sep:ByteArray)(save:Nat): ∀(k:Nat) (s:ByteArray),∀x∈Lib.splitB sep save k s,x.size<=s.size:=by
 intro k
 induction k with
 |zero=>intro s x hx;rw[Lib.splitB_zero]at hx;simp at hx;subst hx;exact Nat.le_refl _
 | succ k ih=>
  intro s x hx
  unfold Lib.splitB at hx
  split at hx
  ·simp at hx;subst hx;exact Nat.le_refl _
  ·rcases List.mem_cons.1 hx with rfl|hx
   ·rw[ByteArray.size_extract];omega
   ·have:=ih _ x hx
    rw[ByteArray.size_extract]at this
    omega
theorem Lp (s:ByteArray):(Pl.bU s).length<=s.size+1:=by
 have:=Lib.countB_le ⟨#[32]⟩ (by decide) s.size s (Nat.le_refl _)
 have:=Lib.splitB_length_le ⟨#[32]⟩ 0 (Lib.countB s ⟨#[32]⟩) s
 unfold Pl.bU
 omega
theorem Du {b:ByteArray}{u:Pl.Unit}{us:List Pl.Unit}{z:Int}(h:b.toList=u.2.1.toList∨(b.toList==u.2.1.toList)=true∨(b.toList==u.2.2.toList)=true):Pl.sizeOf b (u::us) z=Pl.sizeOf b us u.1:=by
 have h':b=u.2.1∨b=u.2.2:=by
  simp only[dF,decide_eq_true_eq]at h
  rcases h with h|h|h
  ·exact .inl (by have h2:=dF b u.2.1;rw[h]at h2;simpa using h2)
  ·exact .inl h
  ·exact .inr h
 simp[Pl.sizeOf,h']
theorem OO {b:ByteArray}{u:Pl.Unit}{us:List Pl.Unit}{z:Int}(h:(b.toList==u.2.1.toList)=false∧(b.toList==u.2.2.toList)=false):Pl.sizeOf b (u::us) z=Pl.sizeOf b us z:=by
 simp only[dF,decide_eq_false_iff_not]at h
 simp[Pl.sizeOf,h.1,h.2]
def Dv (o:Option Int):Ending:=match o with|some n=> .returned (.int .i64 n)|none=> .panicked xu
theorem OP (s:ByteArray) (us:List Pl.Unit) (A:Option Addr) (cap:Nat) (fw:FuncId) (wrt:Int->ByteArray) (bs bu bw:Nat) (w:World) (hE:Env w)
  (ks:w.heap[bs]?=some (.cells #[.string s] 9 (0,0))) (ku:w.heap[bu]?=some (.cells #[.slice A us.length cap] 280 (0,0))) (kw:w.heap[bw]?=some (.cells #[.func (.func fw) #[] #[]] 132 (0,0)))
  (Ns:Units w w.heap.size A us) (hs:s.size<=1000000) (hlen:us.length<=40) (hpos: ∀u∈us,1<=u.1∧u.1<=1000000000000)
  (hen: ∀cap w,(callFunc fw cap).run prog w=.ok (.enter fw cap) w)
  (hwr: ∀n W,Env W->Calls prog fw #[.int .i64 n] W fun e w'=>e=.returned (.string (wrt n))∧Below W.heap.size W w'):
  Calls prog 323 #[.pointer (some ⟨bs,0,none⟩),.pointer (some ⟨bu,0,none⟩),.pointer (some ⟨bw,0,none⟩)] w fun e w'=>e=Dv (Pl.fG us wrt s)∧Below w.heap.size w w':=by
 have hbs:=(lO ks)
 have hbu:=(lO ku)
 have hbw:=(lO kw)
 have hcs:w.cell? ⟨bs,0,none⟩=some (.string s):=by rw[(ah ks).1];rfl
 have hsplit:=OM s w hE hs
 have hwl:=Lp s
 have hwz:=Dt ⟨#[32]⟩ 0 (Lib.countB s ⟨#[32]⟩) s
 change ∀x∈Pl.bU s,x.size<=s.size at hwz
 have HR:Hid (Pl.fG us wrt s=if (Pl.bU s).length%2=0 then (Pl.qy us (Pl.bU s) 0).bind fun n=>if wrt n=s then some n else none else none):=Lib.hid rfl
 generalize Pl.bU s=ws at hsplit hwl hwz HR
 by_cases hpar:ws.length%2=0
 ·have hm0:((ws.length:Int).tmod 2)=0:=by rw[Int.tmod_eq_emod_of_nonneg (by omega)];omega
  rw[if_pos hpar]at HR
  go_enter func323,ntmps323
  go_wp2_with (first|(go_at_call 145;refine hsplit.mono ?_;rintro e w1 ⟨rfl,hb1,hS⟩;have hsz1:=hb1.size)|(go_at_call 285;refine(oU _).mono ?_;rintro e w' ⟨rfl,rfl⟩))
  go_loopw [5,6] (fun nv iv wr=> ∃(i:Nat) (n:Int),i<=ws.length∧i%2=0∧nv=.int .i64 n∧iv=.int .i64 i∧0<=n∧n<=1000000000000∧Hid (Pl.qy us (ws.drop i) n=Pl.qy us ws 0)∧Below w1.heap.size w1 wr) (fun _ iv _=>ws.length-(intOf iv).toNat)
  case atStart=>exact⟨0,0,by omega,rfl,rfl,rfl,by omega,by omega,Lib.hid rfl,by go_grown⟩
  case round=>
   obtain⟨i,n,hi,hi2,rfl,rfl,hn0,hn1,HA,hb2⟩:=hrel
   have hsz2:=hb2.size
   have hEr:Env wr:=(hE.up hb1).up hb2
   by_cases hlt:i<ws.length
   ·have hlt1:i+1<ws.length:=by omega
    have hd:ws.drop i=ws[i]::ws[i+1]::ws.drop (i+2):=by rw[List.drop_eq_getElem_cons hlt,List.drop_eq_getElem_cons hlt1]
    rw[hd]at HA
    have q0:wr.cell? ⟨w.heap.size,i,none⟩=some (.string ws[i]):=by
     obtain⟨b0,o0,hA,_,hc⟩:=Strs.gY (hS.below hb2) hlt
     cases hA;simpa using hc
    have hz0:ws[i].size<=1000000:=Nat.le_trans (hwz _ (List.getElem_mem hlt)) hs
    cases hk:Pl.vk ws[i]with
    |none=>
     have HK:=Lib.hid hk
     clear hk hd
     go_wp2_with (first|(go_at_call 324;refine(Jm _ _ hEr hz0 HK.out).mono ?_;rintro e w3 ⟨rfl,hb3⟩))
     exact⟨rfl,by rw[HR.out,<-HA.out,Pl.qy,HK.out];rfl,(hb1.trans (hb2.mono hsz1)).trans (hb3.mono (by omega))⟩
    | some kk=>
     have HK:=Lib.hid hk
     clear hk hd
     have hkb:0<=kk∧kk<=1000000000000:=Pl.NH HK.out
     obtain⟨hk0,hk1⟩:=hkb
     go_wp2_with (first|(go_at_call 324;refine(Jl _ _ _ hEr hz0 HK.out).mono ?_;rintro e w3 ⟨rfl,hb3⟩;have oq:=hb3.size;have hu3:w3.cell? ⟨bu,0,none⟩=some (.slice A us.length cap):=(((hb1.trans (hb2.mono hsz1)).trans (hb3.mono (by omega))).cell (p:=⟨bu,0,none⟩) hbu).trans (by rw[(ah ku).1];rfl)))
     go_loopw [8,31] (fun zv jv wr=> ∃(j:Nat) (z:Int),j<=us.length∧jv=.int .i64 j∧zv=.int .i64 z∧0<=z∧z<=1000000000000∧Hid (Pl.sizeOf ws[i+1] (us.drop j) z=Pl.sizeOf ws[i+1] us 0)∧Below w3.heap.size w3 wr) (fun _ jv _=>us.length-(intOf jv).toNat)
     case atStart=>exact⟨0,0,by omega,rfl,rfl,by omega,by omega,Lib.hid rfl,by go_grown⟩
     case round=>
      obtain⟨j,z,hj,rfl,rfl,hz1,hz2,HZ,hb4⟩:=hrel
      have wJ:=hb4.size
      have Uu:Below w1.heap.size w1 wr:=(hb2.trans (hb3.mono hsz2)).trans (hb4.mono (by omega))
      have hb0:Below w.heap.size w wr:=hb1.trans (Uu.mono hsz1)
      by_cases hjl:j<us.length
      ·obtain⟨b,off,rfl,mQ,r0,r1,r2⟩:=Units.at3 (Ns.below hb0) hjl
       have q1:wr.cell? ⟨w.heap.size,i+1,none⟩=some (.string ws[i+1]):=by
        obtain⟨b0,o0,hA,_,hc⟩:=Strs.gY (hS.below Uu) hlt1
        cases hA;simpa using hc
       have hu1:=(hpos us[j] (List.getElem_mem hjl)).1
       have hu2:=(hpos us[j] (List.getElem_mem hjl)).2
       have hdj:us.drop j=us[j]::us.drop (j+1):=List.drop_eq_getElem_cons hjl
       rw[hdj]at HZ
       clear hdj
       have ZM:w.heap.size<wr.heap.size:=by
        obtain⟨b0,o0,hA,hB0,hc⟩:=Strs.gY hS hlt1
        cases hA
        have:=Uu.size
        omega
       have ew:IntKind.i64.wrap ((i:Int)+1)=(i:Int)+1:=IntWalk.i64_in _ (by omega)
       have ZN:wrap64 ((i:Int)+1)=(i:Int)+1:=IntWalk.wrap64_in _ (by omega)
       have et:((i:Int)+1).toNat=i+1:=by omega
       have el:(i:Int)+1<ws.length:=by omega
       have e0:(0:Int)<=(i:Int)+1:=by omega
       go_wp2
       all_goals (refine wp_region_quiet_lit (by kernel_rfl) (by kernel_rfl) ?_)
       repeat (any_goals (first|go_big_quiet_step (fail)|quiet_step (fail)|(refine wpQuiet_step (fun K hK=> ?_);go_simp;split<;>(refine hK _ ?_;clear hK K))))
       all_goals (refine wpQuiet_nil ?_;intro wq hw';obtain⟨nq,hw''⟩:=hw';have hbq:Below w.heap.size w wq:=by rw[hw''];exact below_drewN (by go_grown) nq)
       all_goals subst hw''
       all_goals go_wp2
       all_goals refine⟨⟨j+1,_,by omega,by simp,rfl,?_,?_,?_,below_drewN (hb4.alloc wJ _) _⟩,?_⟩
       all_goals first|omega|(simp[intOf];done)|(simp[intOf];omega)|skip
       ·exact Lib.hid ((Du (.inl (by assumption))).symm.trans HZ.out)
       ·exact Lib.hid ((Du (.inr (by assumption))).symm.trans HZ.out)
       ·exact Lib.hid ((OO (by assumption)).symm.trans HZ.out)
      ·have hde:us.drop j=[]:=List.drop_eq_nil_of_le (by omega)
       rw[hde]at HZ
       have Uv:Hid (Pl.sizeOf ws[i+1] us 0=z):=Lib.hid HZ.out.symm
       clear hde HZ
       by_cases hz0':0<z
       ·obtain⟨e1,_,e2,e3,_,_⟩:=Pl.vP (c:=1000000000000) (s:=z) (by decide) (by decide) (by omega)
        by_cases hkz:kk<=1000000000000/z
        ·obtain⟨m0,m1⟩:=Pl.Hu hk0 hz0' hkz
         by_cases hnz:n+kk*z<=1000000000000
         ·have hst:Pl.mP n kk z=some (n+kk*z):=by simp[Pl.mP,hz0',hkz,hnz]
          have HT:=Lib.hid hst
          clear hst
          go_wp2_with (go_at_call 285;refine(oU _).mono ?_;rintro e w' ⟨rfl,rfl⟩)
          exact⟨⟨i+2,n+kk*z,by omega,by omega,rfl,by simp,by omega,hnz,Lib.hid ((Pl.zH HK.out Uv.out HT.out).symm.trans HA.out),Uu⟩,by simp[intOf];omega⟩
         ·have hst:Pl.mP n kk z=none:=by simp[Pl.mP,hz0',hkz,hnz]
          have HT:=Lib.hid hst
          have Yc:decide (n+kk*z<=1000000000000)=false:=decide_eq_false hnz
          clear hst
          go_wp2_with (first|(go_at_call 285;refine(oU _).mono ?_;rintro e w' ⟨rfl,rfl⟩)|(go_at_call 285;refine(jo _).mono ?_;rintro e w5 ⟨rfl,hb5⟩))
          exact⟨rfl,by rw[HR.out,<-HA.out,Pl.tQ HK.out Uv.out HT.out];rfl,hb0.trans (hb5.mono (by omega))⟩
        ·have hst:Pl.mP n kk z=none:=by simp[Pl.mP,hkz]
         have HT:=Lib.hid hst
         clear hst
         go_wp2_with (go_at_call 285;refine(jo _).mono ?_;rintro e w5 ⟨rfl,hb5⟩)
         exact⟨rfl,by rw[HR.out,<-HA.out,Pl.tQ HK.out Uv.out HT.out];rfl,hb0.trans (hb5.mono (by omega))⟩
       ·have hst:Pl.mP n kk z=none:=by simp[Pl.mP,hz0']
        have HT:=Lib.hid hst
        clear hst
        go_wp2_with (go_at_call 285;refine(jo _).mono ?_;rintro e w5 ⟨rfl,hb5⟩)
        exact⟨rfl,by rw[HR.out,<-HA.out,Pl.tQ HK.out Uv.out HT.out];rfl,hb0.trans (hb5.mono (by omega))⟩
   ·have hde:ws.drop i=[]:=List.drop_eq_nil_of_le (by omega)
    rw[hde]at HA
    have Uw:Hid (Pl.qy us ws 0=some n):=Lib.hid (HA.out.symm.trans rfl)
    clear hde HA
    have hb0:Below w.heap.size w wr:=hb1.trans (hb2.mono hsz1)
    have q0:wr.cell? ⟨bs,0,none⟩=some (.string s):=(hb0.cell (p:=⟨bs,0,none⟩) hbs).trans hcs
    have q1:wr.cell? ⟨bw,0,none⟩=some (.func (.func fw) #[] #[]):=(hb0.cell (p:=⟨bw,0,none⟩) hbw).trans (by rw[(ah kw).1];rfl)
    have Vf:w.heap.size<=wr.heap.size:=hb0.size
    have Kn:8<=w.heap.size:=hE.size
    by_cases heq:wrt n=s
    ·go_wp2
     go_region_held3 (fun W=>W.cell? ⟨bs,0,none⟩=some (.string s)∧W.cell? ⟨bw,0,none⟩=some (.func (.func fw) #[] #[])) (exact⟨by assumption,by assumption⟩)
      (first
       |((go_at_call 285;refine(oU _).mono ?_;rintro e w' ⟨rfl,rfl⟩))
       |(refine(hwr _ _ (hE.up (by go_grown))).mono ?_;rintro e w7 ⟨rfl,hx7⟩;have oK:=bT (w:=w) hx7;have jJ:w.heap.size<=w7.heap.size:=oK.size;have u0:=(oK.cell (p:=⟨bs,0,none⟩) hbs).trans hcs;have u1:=(oK.cell (p:=⟨bw,0,none⟩) hbw).trans ((show w.cell? ⟨bw,0,none⟩=some (.func (.func fw) #[] #[]) by rw[(ah kw).1];rfl));clear hx7))
     all_goals go_wp2
     all_goals go_ret
     all_goals exact⟨by rw[HR.out,Uw.out];simp[heq,Dv],by go_grown⟩
    ·have hne:((wrt n).toList==s.toList)=false:=by rw[dF];exact decide_eq_false heq
     have HN:=Lib.hid heq
     clear heq
     go_wp2
     refine wp_region_any (by kernel_rfl) ?_
     change wpAny _ _ _ _ _ _ _ (World.drew _)
     refine wpAny_take (i:=1) (v:=.int .i64 n) rfl (by kernel_rfl) (by kernel_rfl) (by kernel_rfl) (fun _ _ _ h=>h) (Or.inl ⟨by rfl,by intro w;rfl⟩) ?_
     refine wpAny_ready (rs:=[0,3]) (by kernel_rfl) (by simp) ?_
     refine AllReady.cons rfl (fun K hK=> ?_) (AllReady.cons rfl (fun K hK=> ?_) AllReady.nil)
     ·go_simp
      refine hK _ _ ?_
      clear hK K
      refine wpAny_ready (rs:=[2,3]) (by kernel_rfl) (by simp) ?_
      refine AllReady.cons rfl (fun K hK=> ?_) (AllReady.cons rfl (fun K hK=> ?_) AllReady.nil)
      ·go_simp
       refine(hwr _ _ (hE.up (by go_grown))).mono ?_
       rintro e w7 ⟨rfl,hx7⟩
       have oK:=bT (w:=w) hx7
       have jJ:w.heap.size<=w7.heap.size:=oK.size
       have u0:=(oK.cell (p:=⟨bs,0,none⟩) hbs).trans hcs
       clear hx7
       refine hK _ _ ?_
       clear hK K
       refine wpAny_ready (rs:=[3]) (by kernel_rfl) (by simp) ?_
       refine AllReady.cons rfl (fun K hK=> ?_) AllReady.nil
       go_simp
       refine hK _ _ ?_
       clear hK K
       refine wpAny_ready (rs:=[4]) (by kernel_rfl) (by simp) ?_
       refine AllReady.cons rfl (fun K hK=> ?_) AllReady.nil
       go_simp
       refine hK _ _ ?_
       clear hK K
       refine wpAny_ready (rs:=[5]) (by kernel_rfl) (by simp) ?_
       refine AllReady.cons rfl (fun K hK=> ?_) AllReady.nil
       go_simp
       refine(jo _).mono ?_
       rintro e w5 ⟨rfl,hb5⟩
       exact⟨rfl,by rw[HR.out,Uw.out];simp[HN.out,Dv],bT hb5⟩
      ·go_simp
       refine hK _ _ ?_
       clear hK K
       refine wpAny_ready (rs:=[2]) (by kernel_rfl) (by simp) ?_
       refine AllReady.cons rfl (fun K hK=> ?_) AllReady.nil
       go_simp
       refine(hwr _ _ (hE.up (by go_grown))).mono ?_
       rintro e w7 ⟨rfl,hx7⟩
       have oK:=bT (w:=w) hx7
       have jJ:w.heap.size<=w7.heap.size:=oK.size
       have u0:=(oK.cell (p:=⟨bs,0,none⟩) hbs).trans hcs
       clear hx7
       refine hK _ _ ?_
       clear hK K
       refine wpAny_ready (rs:=[4]) (by kernel_rfl) (by simp) ?_
       refine AllReady.cons rfl (fun K hK=> ?_) AllReady.nil
       go_simp
       refine hK _ _ ?_
       clear hK K
       refine wpAny_ready (rs:=[5]) (by kernel_rfl) (by simp) ?_
       refine AllReady.cons rfl (fun K hK=> ?_) AllReady.nil
       go_simp
       refine(jo _).mono ?_
       rintro e w5 ⟨rfl,hb5⟩
       exact⟨rfl,by rw[HR.out,Uw.out];simp[HN.out,Dv],bT hb5⟩
     ·go_simp
      refine hK _ _ ?_
      clear hK K
      refine wpAny_ready (rs:=[0]) (by kernel_rfl) (by simp) ?_
      refine AllReady.cons rfl (fun K hK=> ?_) AllReady.nil
      go_simp
      refine hK _ _ ?_
      clear hK K
      refine wpAny_ready (rs:=[2]) (by kernel_rfl) (by simp) ?_
      refine AllReady.cons rfl (fun K hK=> ?_) AllReady.nil
      go_simp
      refine(hwr _ _ (hE.up (by go_grown))).mono ?_
      rintro e w7 ⟨rfl,hx7⟩
      have oK:=bT (w:=w) hx7
      have jJ:w.heap.size<=w7.heap.size:=oK.size
      have u0:=(oK.cell (p:=⟨bs,0,none⟩) hbs).trans hcs
      clear hx7
      refine hK _ _ ?_
      clear hK K
      refine wpAny_ready (rs:=[4]) (by kernel_rfl) (by simp) ?_
      refine AllReady.cons rfl (fun K hK=> ?_) AllReady.nil
      go_simp
      refine hK _ _ ?_
      clear hK K
      refine wpAny_ready (rs:=[5]) (by kernel_rfl) (by simp) ?_
      refine AllReady.cons rfl (fun K hK=> ?_) AllReady.nil
      go_simp
      refine(jo _).mono ?_
      rintro e w5 ⟨rfl,hb5⟩
      exact⟨rfl,by rw[HR.out,Uw.out];simp[HN.out,Dv],bT hb5⟩
 ·have hm1:((ws.length:Int)%2==0)=false:=by rw[beq_eq_false_iff_ne];omega
  rw[if_neg hpar]at HR
  go_enter func323,ntmps323
  go_wp2_with (first|(go_at_call 145;refine hsplit.mono ?_;rintro e w1 ⟨rfl,hb1,hS⟩;have hsz1:=hb1.size)|(go_at_call 285;refine(jo _).mono ?_;rintro e w3 ⟨rfl,hb3⟩))
  exact⟨rfl,by rw[HR.out];rfl,hb1.trans (hb3.mono hsz1)⟩
open RowKit Shelf
def kJ (o:Option Int):Int:=o.getD 0
def lZ (o:Option Int):Int:=if o.isSome then 0 else 4
theorem Jo (s:ByteArray)(us:List Pl.Unit)(A:Option Addr)(cap:Nat)(fw:FuncId)(wrt:Int->ByteArray)(bs bu bw:Nat)(w:World)(hE:Env w)
  (ks:w.heap[bs]?=some (.cells #[.string s] 9 (0,0))) (ku:w.heap[bu]?=some (.cells #[.slice A us.length cap] 280 (0,0))) (kw:w.heap[bw]?=some (.cells #[.func (.func fw) #[] #[]] 132 (0,0)))
  (Ns:Units w w.heap.size A us) (hs:s.size<=1000000) (hlen:us.length<=40) (hpos: ∀u∈us,1<=u.1∧u.1<=1000000000000)
  (hen: ∀cap w,(callFunc fw cap).run prog w=.ok (.enter fw cap) w)
  (hwr: ∀n W,Env W->Calls prog fw #[.int .i64 n] W fun e w'=>e=.returned (.string (wrt n))∧Below W.heap.size W w'):
  Calls prog 283 #[.func (.func 323) #[] #[.pointer (some ⟨bs,0,none⟩),.pointer (some ⟨bu,0,none⟩),.pointer (some ⟨bw,0,none⟩)]] w fun e w'=>e=.returned (.tuple (i2 (kJ (Pl.fG us wrt s)) (lZ (Pl.fG us wrt s))))∧Below w.heap.size w w':=by
 have hbs:=(lO ks)
 have hbu:=(lO ku)
 have hbw:=(lO kw)
 have h1: ∀W,Below w.heap.size w W->Calls prog 323 #[.pointer (some ⟨bs,0,none⟩),.pointer (some ⟨bu,0,none⟩),.pointer (some ⟨bw,0,none⟩)] W fun e w'=>e=Dv (Pl.fG us wrt s)∧Below W.heap.size W w':=fun W hb=>
  OP s us A cap fw wrt bs bu bw W (hE.up hb) ((hb.block bs hbs).trans ks) ((hb.block bu hbu).trans ku) ((hb.block bw hbw).trans kw) (Ns.up hb) hs hlen hpos hen hwr
 cases h:Pl.fG us wrt s with
 |some n=>
  rw[h]at h1
  exact xw 323 _ n w (fun w=>enters_of func323 (by kernel_rfl) rfl _ w) h1
 |none=>
  rw[h]at h1
  exact xA 323 _ w (fun w=>enters_of func323 (by kernel_rfl) rfl _ w) h1
theorem QT (s:ByteArray)(us:List Pl.Unit)(A:Option Addr)(cap:Nat)(fw:FuncId)(wrt:Int->ByteArray)(w:World)(hE:Env w)
  (Ns:Units w w.heap.size A us) (hs:s.size<=1000000) (hlen:us.length<=40) (hpos: ∀u∈us,1<=u.1∧u.1<=1000000000000)
  (hen: ∀cap w,(callFunc fw cap).run prog w=.ok (.enter fw cap) w)
  (hwr: ∀n W,Env W->Calls prog fw #[.int .i64 n] W fun e w'=>e=.returned (.string (wrt n))∧Below W.heap.size W w'):
  Calls prog 281 #[.string s,.slice A us.length cap,.func (.func fw) #[] #[]] w fun e w'=>e=.returned (.tuple (i2 (kJ (Pl.fG us wrt s)) (lZ (Pl.fG us wrt s))))∧Below w.heap.size w w':=by
 have hb3:Below w.heap.size w (((w.alloc (.cells #[.string s] 9)).alloc (.cells #[.slice A us.length cap] 280)).alloc (.cells #[.func (.func fw) #[] #[]] 132)):=by
  exact((((Below.refl _ w).alloc (Nat.le_refl _) _).alloc (by simp) _).alloc (by simp;omega) _)
 have hr:=Jo s us A cap fw wrt w.heap.size (w.heap.size+1) (w.heap.size+1+1) _ (hE.up hb3)
  (((Below.heap_alloc _ _ _ (by simp;omega)).trans (Below.heap_alloc _ _ _ (by simp))).trans (World.alloc_heap_new _ _))
  ((Below.heap_alloc _ _ _ (by simp)).trans (bI (by simp))) (bI (by simp)) (Ns.up hb3) hs hlen hpos hen hwr
 go_enter func281,ntmps281
 go_wp2_with (go_at_call 283;refine hr.mono ?_;rintro e w7 ⟨rfl,hx7⟩)
 go_ret2
 exact⟨rfl,hb3.trans (hx7.mono (by simp;omega))⟩
theorem OQ (s:ByteArray)(w:World)(hE:Env w)(hs:s.size<=1000000):
  Calls prog 231 #[.string s] w fun e w'=>e=.returned (.tuple (i2 (kJ (Pl.fG Pl.cO Pl.aY s)) (lZ (Pl.fG Pl.cO Pl.aY s))))∧Below w.heap.size w w':=by
 have h8:8<=w.heap.size:=hE.size
 go_enter func231,ntmps231
 go_wp2_with (first|(go_at_call 282;refine(Ik _).mono ?_;rintro e w1 ⟨rfl,hb1,hU⟩;have hsz1:=hb1.size)|(go_at_call 281;refine(QT s Pl.cO _ 3 _ Pl.aY _ (hE.up hb1) hU hs (by decide) (by decide) (fun cap w=>enters_of func275 (by kernel_rfl) rfl cap w) (fun n W hW=>Dr n W hW)).mono ?_;rintro e w2 ⟨rfl,hb2⟩;have hsz2:=hb2.size))
 go_ret2
 exact⟨rfl,hb1.trans (hb2.mono hsz1)⟩
def vN :List (Int×Int):=[(1700,10),(1800,12)]
def cW :Pl.bF:=⟨50,2,1000,1750,0,100⟩
theorem WG :Pl.com vN [cW] 866=(480,519,true)∧Pl.jA vN [cW] 866=0:=by decide+kernel
theorem len2 :vN.length<=maxLen:=by decide
theorem m1 (A:Option Addr)(w:World)(hl:Vars w w.heap.size A vN):Calls prog 177 #[.slice A 2 2,.agg (i6 50 2 1000 1750 0 100),.int .i64 866] w fun e w'=>e=.returned (.tuple #[.int .i64 480,.int .i64 519,.bool true,.int .i64 0])∧Below w.heap.size w w':=by
 have h:=qN A 2 vN cW 866 w hl len2
 rw[WG.1,WG.2]at h
 exact h
theorem Jp {a b:ByteArray}(h: ¬a=b):(a.toList==b.toList)=false:=by rw[dF];exact decide_eq_false h
theorem uK (l:List UInt8){k:Nat}(h:k<360):Pl.kX l (360-k) k=if Pl.gu (k:Int)=l then some (k:Int)else Pl.kX l (360-(k+1)) (k+1):=by
 rw[show 360-k=(360-(k+1))+1 by omega];rfl
theorem vX {s:ByteArray}{k:Nat}:Pl.gu (k:Int)=s.data.toList↔(⟨(Pl.gu (k:Int)).toArray⟩:ByteArray)=s:=by
 constructor
 ·intro h;cases s;simp only[ByteArray.mk.injEq];rw[h]
 ·intro h;rw[<-h]
theorem Il (d:Int)(t:ByteArray)(w:World)(h:Hid ((⟨(Pl.gu d).toArray⟩:ByteArray)=t)):Calls prog 276 #[.int .i64 d] w fun e w'=>e=.returned (.string t)∧w=w':=by
 have:=Lj d w
 rw[h.out]at this
 exact this
theorem OT (s:ByteArray)(bs:Nat)(w:World)(ks:w.heap[bs]?=some (.cells #[.string s] 9 (0,0))):Calls prog 284 #[.pointer (some ⟨bs,0,none⟩)] w fun e w'=>e=Dv (Pl.fQ s)∧Below w.heap.size w w':=by
 have c0:w.cell? ⟨bs,0,none⟩=some (.string s):=by rw[(ah ks).1];rfl
 have hlb:=(lO ks)
 clear ks
 go_enter func284,ntmps284
 go_wp2
 go_loopw [3] (fun i wr=> ∃(k:Nat),k<=360∧i=.int .i64 k∧Hid (Pl.fQ s=Pl.kX s.data.toList (360-k) k)∧Below w.heap.size w wr) (fun i _=>360-(intOf i).toNat)
 case atStart=>exact⟨0,by omega,rfl,rfl,by go_grown⟩
 case round=>
  obtain⟨k,hk,rfl,hg,hb⟩:=hrel
  have hsz:=hb.size
  have c1:=(hb.cell (p:=⟨bs,0,none⟩) hlb).trans c0
  by_cases hlt:k<360
  ·have hst:=Lib.hid (uK s.data.toList hlt)
   obtain⟨t,ht⟩: ∃t:ByteArray,(⟨(Pl.gu (k:Int)).toArray⟩:ByteArray)=t:=⟨_,rfl⟩
   have HT:=Lib.hid ht
   by_cases he:t=s
   ·have hv:Pl.fQ s=some (k:Int):=by rw[hg.out,hst.out,if_pos (vX.2 (by rw[ht];exact he))]
    have HV:=Lib.hid hv
    clear hv ht hg hst
    subst he
    go_wp2
    go_region_held3 (fun W=>W.cell? ⟨bs,0,none⟩=some (.string t)) (assumption) (first|(go_at_call 276;refine(Il _ t _ HT).mono ?_;rintro e w' ⟨rfl,rfl⟩))
    all_goals go_wp2
    all_goals go_ret
    all_goals exact⟨by rw[HV.out];rfl,by go_grown⟩
   ·have hv:Pl.fQ s=Pl.kX s.data.toList (360-(k+1)) (k+1):=by rw[hg.out,hst.out,if_neg (fun h=>he (by rw[<-ht];exact vX.1 h))]
    have HV:=Lib.hid hv
    have hne:=Jp he
    clear hv ht hg hst
    go_wp2
    go_region_held3 (fun W=>W.cell? ⟨bs,0,none⟩=some (.string s)) (assumption) (first|(go_at_call 276;refine(Il _ t _ HT).mono ?_;rintro e w' ⟨rfl,rfl⟩))
    all_goals go_wp2
    go_roundw
    case rel=>exact⟨k+1,by omega,by go_num,HV,by go_grown⟩
    case measure=>first|(simp[intOf];done)|(simp[intOf];omega)
  ·obtain rfl:k=360:=by omega
   have hv:Pl.fQ s=none:=by rw[hg.out];rfl
   have HV:=Lib.hid hv
   clear hv hg
   go_wp2_with (go_at_call 285;refine(jo _).mono ?_;rintro e w3 ⟨rfl,hb3⟩;have oq:=hb3.size)
   rw[HV.out]
   exact⟨rfl,rfl,hb.trans (hb3.mono (by omega))⟩
theorem Jq (s:ByteArray)(bs:Nat)(w:World)(ks:w.heap[bs]?=some (.cells #[.string s] 9 (0,0))):
  Calls prog 283 #[.func (.func 284) #[] #[.pointer (some ⟨bs,0,none⟩)]] w fun e w'=>e=.returned (.tuple (i2 (kJ (Pl.fQ s)) (lZ (Pl.fQ s))))∧Below w.heap.size w w':=by
 have hbs:=(lO ks)
 have h1: ∀W,Below w.heap.size w W->Calls prog 284 #[.pointer (some ⟨bs,0,none⟩)] W fun e w'=>e=Dv (Pl.fQ s)∧Below W.heap.size W w':=fun W hb=>OT s bs W ((hb.block bs hbs).trans ks)
 cases h:Pl.fQ s with
 |some n=>
  rw[h]at h1
  exact xw 284 _ n w (fun w=>enters_of func284 (by kernel_rfl) rfl _ w) h1
 |none=>
  rw[h]at h1
  exact xA 284 _ w (fun w=>enters_of func284 (by kernel_rfl) rfl _ w) h1
theorem QU (s:ByteArray)(w:World):Calls prog 233 #[.string s] w fun e w'=>e=.returned (.tuple (i2 (kJ (Pl.fQ s)) (lZ (Pl.fQ s))))∧Below w.heap.size w w':=by
 have Cv: ∀(fn:Fn) (first cap:Array Value) (w:World),(Instr.makeFunc fn first cap).run prog w=.ok (.func fn first cap) w:=fun _ _ _ _=>rfl
 have hr:=Lib.hid (Jq s w.heap.size (w.alloc (.cells #[.string s] 9)) (heap_alloc_new _ _))
 go_enter func233,ntmps233
 go_wp2_with (go_at_call 283;refine(hr.out).mono ?_;rintro e w7 ⟨rfl,hx7⟩)
 go_ret2
 exact⟨rfl,bT hx7⟩
