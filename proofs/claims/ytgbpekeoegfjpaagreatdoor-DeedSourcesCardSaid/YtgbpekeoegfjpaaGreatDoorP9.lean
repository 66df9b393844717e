/- PlH, PlT, PlI, Pm7, Pmf, Pmg, TA, TG, RB, Add, TH, TM, TN, TNd, TNb in one text. -/
import Derived.WalkKit
import Derived.Test.YtgbpekeoegfjpaaGreatDoorZ00
import Derived.Lib.SplitLaws
import Derived.Test.YtgbpekeoegfjpaaGreatDoorZ03
import Derived.Test.YtgbpekeoegfjpaaGreatDoorProg
import Derived.WalkLawsBesides
import Derived.WalkSpells
import Derived.Handy
import Derived.Lib.Hide
import Derived.Great.BuildSlice
import Derived.Deep.QuietTactic
import Derived.BigQuiet
import Derived.Deep.RegionHeld3
import Derived.Deep.DeepCutAuto
import Derived.Laws.BytesArg
import Derived.Test.YtgbpekeoegfjpaaGreatDoorZ05
import Derived.Lib.Strings
import Derived.Test.YtgbpekeoegfjpaaGreatDoorZ16
import Derived.Test.YtgbpekeoegfjpaaGreatDoorZ11
import Derived.Laws.Concat
import Derived.Test.YtgbpekeoegfjpaaGreatDoorP3a
import Derived.Maps.AppendAt
import Derived.Test.YtgbpekeoegfjpaaGreatDoorZ06
import Derived.Test.YtgbpekeoegfjpaaGreatDoorZ23
import Derived.Test.YtgbpekeoegfjpaaGreatDoorZ09
namespace Go.Proofs.YtgbpekeoegfjpaaGreatDoor
namespace Pl
theorem cutAt_other {sep b:UInt8}(l:List UInt8)(h:b≠sep): ∃w ws,cutAt sep l=w::ws∧cutAt sep (b::l)=(b::w)::ws:=by
 cases e:cutAt sep l with
 |nil=>exact absurd e (cutAt_ne sep l)
 |cons w ws=>exact⟨w,ws,rfl,by unfold cutAt;rw[if_neg h,e]⟩
def refW :List UInt8->List UInt8->List (List UInt8)
 |w,[]=>solid [w]
 |w,b::l=>if b=35 then solid [w]else if b=32 then solid [w]++refW [] l else refW (w++[b]) l
theorem refW_cut (l:List UInt8): ∀w:List UInt8,refW w l=match cutAt 32 (ahead l)with
  | []=>[]
  |x::xs=>solid ((w++x)::xs):=by
 induction l with
 |nil=>intro w;simp[refW,ahead,cutAt]
 | cons b l ih=>
  intro w
  unfold refW
  split
  ·rename_i h;subst h
   simp[ahead,cutAt]
  ·rename_i h
   have ha:ahead (b::l)=b::ahead l:=by unfold ahead;rw[List.takeWhile_cons];simp[h]
   rw[ha]
   split
   ·rename_i h2;subst h2
    have e:cutAt 32 (32::ahead l)=[]::cutAt 32 (ahead l):=by simp[cutAt]
    rw[e,ih]
    cases e2:cutAt 32 (ahead l)with
    |nil=>exact absurd e2 (cutAt_ne _ _)
    |cons x xs=>simp[solid,List.filter_cons];split<;>simp
   ·rename_i h2
    obtain⟨x,xs,e1,e2⟩:=cutAt_other (ahead l) h2
    rw[ih,e1,e2]
    simp
theorem refW_words (l:List UInt8):refW [] l=wordsOf l:=by
 rw[refW_cut]
 unfold wordsOf
 cases e:cutAt 32 (ahead l)with
 |nil=>exact absurd e (cutAt_ne _ _)
 |cons x xs=>simp
end Pl
end Go.Proofs.YtgbpekeoegfjpaaGreatDoor
namespace Go.Proofs.YtgbpekeoegfjpaaGreatDoor.Pl
open Go.RowKit
/-! ### Words -/
/-! ### Numbers -/
/-! ### Units -/
instance (us : List Unit) : Decidable (Good us) := by unfold Good; infer_instance
theorem ba_of_list {a b:List ByteArray}(h:a.map (·.data.toList)=b.map (·.data.toList)):a=b:=by
 have hi: ∀x y:ByteArray,x.data.toList=y.data.toList->x=y:=fun x y e=>by
  cases x;cases y;simp only[ByteArray.mk.injEq];exact Array.toList_inj.1 e
 induction a generalizing b with
 |nil=>cases b with
  |nil=>rfl
  |cons y b=>simp at h
 | cons x a ih=>cases b with
  |nil=>simp at h
  |cons y b=>
   simp only[List.map_cons,List.cons.injEq]at h
   rw[hi x y h.1,ih h.2]
end Go.Proofs.YtgbpekeoegfjpaaGreatDoor.Pl
namespace Go.Proofs.YtgbpekeoegfjpaaGreatDoor.Pl
open Go.RowKit
theorem numF_iff {s:ByteArray}{v:Int}:numF s=some v↔0<=v∧v<=999999999∧spelt v=s:=by
 unfold numF
 constructor
 ·intro h
  cases e:sgnV s with
  |none=>rw[e]at h;cases h
  |some u=>
   rw[e]at h
   simp only[Option.bind_some]at h
   split at h
   ·cases h;have:=sgnV_iff.1 e;exact⟨‹_›,this.2.1,this.2.2⟩
   ·cases h
 ·rintro⟨h0,h1,h2⟩
  rw[(sgnV_iff (s:=s) (v:=v)).2 ⟨by omega,h1,h2⟩]
  simp[h0]
end Go.Proofs.YtgbpekeoegfjpaaGreatDoor.Pl
namespace Go.Proofs.YtgbpekeoegfjpaaGreatDoor
namespace Pl
def wd (w:List ByteArray)(i:Nat):ByteArray:=w[i]?.getD ⟨#[]⟩
end Pl
end Go.Proofs.YtgbpekeoegfjpaaGreatDoor
namespace Go.Proofs.YtgbpekeoegfjpaaGreatDoor
namespace Pl
theorem numGo_append : ∀(l r:List UInt8) (n u:Int),numGo n l=some u->numGo n (l++r)=numGo u r
 | [],r,n,u,h=>by simp only[numGo]at h;cases h;rfl
 |c::l,r,n,u,h=>by
  rw[List.cons_append]
  rw[numGo]at h
  rw[numGo]
  split at h
  ·cases h
  ·rename_i h1;rw[if_neg h1];exact numGo_append l r _ u h
theorem numGo_dec (u:Nat):numGo 0 (Lib.decDigits u)=some (u:Int):=by
 induction u using Nat.strongRecOn with
 | _ u ih=>
  unfold Lib.decDigits
  split
  ·rename_i h
   have e:(UInt8.ofNat (48+u)).toNat=48+u:=by rw[UInt8.toNat_ofNat'];omega
   simp only[numGo]
   rw[e,if_neg (by omega)]
   congr 1;omega
  ·rename_i h
   have e:(UInt8.ofNat (48+u%10)).toNat=48+u%10:=by rw[UInt8.toNat_ofNat'];omega
   rw[numGo_append _ _ 0 _ (ih (u/10) (by omega))]
   simp only[numGo]
   rw[e,if_neg (by omega)]
   congr 1;omega
theorem nd_le : ∀(j u:Nat),u<10^(j+1)->Lib.nDigits u<=j+1
 |0,u,h=>by rw[Lib.nDigits_small (by simpa using h)];omega
 | j+1,u,h=>by
  by_cases hs:u<10
  ·rw[Lib.nDigits_small hs];omega
  ·rw[Lib.nDigits_big hs]
   have:=nd_le j (u/10) (by rw[Nat.pow_succ]at h;omega)
   omega
theorem ba_ext {a b:ByteArray}(h:a.data.toList=b.data.toList):a=b:=by
 cases a;cases b;simp only at h;have:=Array.toList_inj.1 h;subst this;rfl
theorem numGo_snoc : ∀(l:List UInt8) (c:UInt8) (n:Int),numGo n (l++[c])=(numGo n l).bind fun u=>if c.toNat<48∨57<c.toNat then none else some (10*u+c.toNat-48)
 | [],c,n=>by simp[numGo]
 |b::l,c,n=>by
  rw[List.cons_append]
  rw[numGo,numGo]
  split
  ·rfl
  ·exact numGo_snoc l c _
theorem numGo_pos : ∀(l:List UInt8) (n v:Int),0<=n->numGo n l=some v->0<=v
 | [],n,v,h0,h=>by simp only[numGo]at h;cases h;exact h0
 |c::l,n,v,h0,h=>by
  rw[numGo]at h
  split at h
  ·cases h
  ·exact numGo_pos l _ v (by omega) h
theorem numGo_ge : ∀(l:List UInt8) (n v:Int),0<=n->numGo n l=some v->n<=v
 | [],n,v,h0,h=>by simp only[numGo]at h;cases h;exact Int.le_refl _
 |c::l,n,v,h0,h=>by
  rw[numGo]at h
  split at h
  ·cases h
  ·have:=numGo_ge l _ v (by omega) h;omega
theorem numGo_back: ∀(k:Nat) (l:List UInt8) (v:Int),l.length=k->l≠ []->(l.head?=some 48->l.length=1)->numGo 0 l=some v->Lib.decDigits v.toNat=l
 | k, l,v,hk,hne,hz,h=>by
  obtain⟨l',c,rfl⟩: ∃l' c,l=l'++[c]:=⟨l.dropLast,l.getLast hne,(List.dropLast_concat_getLast hne).symm⟩
  rw[numGo_snoc]at h
  cases e:numGo 0 l' with
  |none=>rw[e]at h;cases h
  | some u=>
   rw[e]at h
   simp only[Option.bind_some]at h
   split at h
   ·cases h
   ·rename_i hc
    cases h
    have hu:=numGo_pos _ _ _ (by omega) e
    have ec:UInt8.ofNat (48+(c.toNat-48))=c:=by
     apply UInt8.toNat_inj.1
     rw[UInt8.toNat_ofNat']
     have:=c.toNat_lt
     omega
    by_cases hn:l'=[]
    ·subst hn
     simp only[numGo]at e
     cases e
     unfold Lib.decDigits
     rw[dif_pos (by omega)]
     rw[show(10*0+(c.toNat:Int)-48).toNat=c.toNat-48 by omega,ec]
     rfl
    ·have hz':l'.head?=some 48->l'.length=1:=by
      intro h5
      have:=hz (by rw[List.head?_append,h5];rfl)
      rw[List.length_append,List.length_singleton]at this
      have:=List.length_pos_iff.2 hn
      omega
     have h0:l'.head?≠some 48:=by
      intro h5
      have:=hz (by rw[List.head?_append,h5];rfl)
      rw[List.length_append,List.length_singleton]at this
      have:=List.length_pos_iff.2 hn
      omega
     have hup:1<=u:=by
      cases hl:l' with
      |nil=>exact absurd hl hn
      | cons b r=>
       rw[hl]at e h0
       rw[numGo]at e
       split at e
       ·cases e
       ·rename_i hb
        have:=numGo_ge r _ u (by omega) e
        have:b.toNat≠48:=fun h=>h0 (by rw[List.head?_cons];congr 1;apply UInt8.toNat_inj.1;rw[h];rfl)
        omega
     have ih:=numGo_back (k-1) l' u (by rw[List.length_append,List.length_singleton]at hk;omega) hn hz' e
     rw[show(10*u+(c.toNat:Int)-48).toNat=10*u.toNat+(c.toNat-48) by omega]
     unfold Lib.decDigits
     rw[dif_neg (by omega),show(10*u.toNat+(c.toNat-48))/10=u.toNat by omega,show(10*u.toNat+(c.toNat-48))%10=c.toNat-48 by omega,ih,ec]
termination_by k=>k
decreasing_by rw[List.length_append,List.length_singleton]at hk;omega
theorem dec_head (u:Nat):(Lib.decDigits u).head?=some 48->(Lib.decDigits u).length=1:=by
 induction u using Nat.strongRecOn with
 | _ u ih=>
  intro h
  unfold Lib.decDigits at h ⊢
  split at h
  ·rename_i hs;rw[dif_pos hs];rfl
  ·rename_i hs
   rw[List.head?_append]at h
   cases e:(Lib.decDigits (u/10)).head? with
   |none=>exact absurd (List.head?_eq_none_iff.1 e) (dec_ne _)
   | some b=>
    rw[e]at h
    simp only[Option.some_or]at h
    cases h
    have hl:=ih (u/10) (by omega) e
    have hv:=numGo_dec (u/10)
    cases hd:Lib.decDigits (u/10)with
    |nil=>exact absurd hd (dec_ne _)
    |cons x r=>
     rw[hd]at hl e hv
     rw[List.length_cons]at hl
     obtain rfl:r=[]:=List.length_eq_zero_iff.1 (by omega)
     rw[List.head?_cons]at e
     cases e
     simp only[numGo]at hv
     rw[if_neg (by decide)]at hv
     simp at hv
     omega
theorem dec_length9 {u:Nat}:(Lib.decDigits u).length<=9↔u<=999999999:=by
 rw[Lib.decDigits_length]
 constructor
 ·intro h
  have:=Lib.lt_pow_nDigits u
  have:(10:Nat)^Lib.nDigits u<=10^9:=Nat.pow_le_pow_right (by decide) h
  omega
 ·intro h
  exact nd_le 8 u (by omega)
theorem dec_length1 (u:Nat):1<=(Lib.decDigits u).length:=by rw[Lib.decDigits_length];exact Lib.nDigits_pos u
theorem numL_iff {l:List UInt8}{v:Int}:numL l=some v↔0<=v∧v<=999999999∧Lib.decDigits v.toNat=l:=by
 unfold numL
 constructor
 ·intro h
  split at h
  ·cases h
  ·rename_i hc
   have hv:=numGo_pos _ _ _ (by omega) h
   have hb:=numGo_back l.length l v rfl (fun h=>hc (.inl (by rw[h];decide))) (fun h5=>by
    have: ¬1<l.length:=fun h6=>hc (.inr (.inr ⟨h5,h6⟩))
    have: ¬l.length<1:=fun h6=>hc (.inl h6)
    omega) h
   refine⟨hv,?_,hb⟩
   have:v.toNat<=999999999:=dec_length9.1 (by rw[hb];have: ¬9<l.length:=fun h6=>hc (.inr (.inl h6));omega)
   omega
 ·rintro⟨h0,h1,rfl⟩
  rw[if_neg,numGo_dec,Int.toNat_of_nonneg h0]
  rintro(h|h|⟨h,h'⟩)
  ·have:=dec_length1 v.toNat;omega
  ·have:=(dec_length9 (u:=v.toNat)).2 (by omega);omega
  ·have:=dec_head _ h;omega
theorem opt_ext {α:Type}{a b:Option α}(h: ∀x,a=some x↔b=some x):a=b:=by
 cases a with
 |none=>cases b with
  |none=>rfl
  |some y=>exact absurd ((h y).2 rfl) (by simp)
 |some x=>exact((h x).1 rfl).symm
theorem numR_eq (s:ByteArray):numR s=numF s:=by
 apply opt_ext
 intro v
 rw[numF_iff]
 unfold numR
 rw[numL_iff]
 constructor
 ·rintro⟨h0,h1,h2⟩;exact⟨h0,h1,ba_ext (by rw[spelt_list,itoa_pos h0,h2])⟩
 ·rintro⟨h0,h1,rfl⟩;exact⟨h0,h1,by rw[spelt_list,itoa_pos h0]⟩
theorem dec_no45 (u:Nat):(Lib.decDigits u).head?≠some 45:=by
 intro h
 cases e:Lib.decDigits u with
 |nil=>exact dec_ne u e
 |cons b r=>
  have:=dec_digit u b (by rw[e];simp)
  rw[e,List.head?_cons]at h
  cases h
  exact absurd this.1 (by decide)
theorem sgnR_eq (s:ByteArray):sgnR s=sgnV s:=by
 apply opt_ext
 intro v
 rw[sgnV_iff]
 have hs:spelt v=s↔Lib.itoa v=s.data.toList:=⟨fun h=>by rw[<-h,spelt_list],fun h=>ba_ext (by rw[spelt_list,h])⟩
 rw[hs]
 unfold sgnR
 generalize s.data.toList=l
 have key:numL l=some v↔0<=v∧v<=999999999∧Lib.itoa v=l:=by
  rw[numL_iff]
  exact⟨fun⟨h0,h1,h2⟩=>⟨h0,h1,by rw[itoa_pos h0,h2]⟩,fun⟨h0,h1,h2⟩=>⟨h0,h1,by rw[<-itoa_pos h0,h2]⟩⟩
 have neg:v<0->Lib.itoa v=45::Lib.decDigits v.natAbs:=fun h=>by unfold Lib.itoa;rw[if_pos h]
 split
 ·rename_i b l
  split
  ·rename_i hb
   rw[Option.map_eq_some_iff]
   constructor
   ·rintro⟨u,h,rfl⟩
    obtain⟨h0,h1,h2⟩:=numL_iff.1 h
    have hu:u≠0:=by
     rintro rfl
     have:Lib.decDigits (0:Int).toNat=[48]:=by decide+kernel
     rw[this]at h2
     cases h2
     exact hb rfl
    refine⟨by omega,by omega,?_⟩
    rw[neg (by omega),<-h2]
    congr 2;omega
   ·rintro⟨h0,h1,h2⟩
    by_cases hv:v<0
    ·rw[neg hv]at h2
     have h3:Lib.decDigits v.natAbs=b::l:=by simpa using h2
     refine⟨-v,?_,by omega⟩
     rw[numL_iff]
     exact⟨by omega,by omega,by rw[<-h3];congr 1;omega⟩
    ·exfalso
     rw[itoa_pos (by omega)]at h2
     have:=dec_no45 v.toNat
     rw[h2]at this
     exact this rfl
  ·rename_i hb
   have hb:b=48:=by simpa using hb
   subst hb
   rw[key]
   constructor
   ·rintro⟨h0,h1,h2⟩;exact⟨by omega,h1,h2⟩
   ·rintro⟨h0,h1,h2⟩
    refine⟨?_,h1,h2⟩
    rcases Int.lt_or_le v 0 with hv|hv
    ·exfalso
     rw[neg hv]at h2
     have h3:Lib.decDigits v.natAbs=48::l:=by simpa using h2
     have h4:=dec_head v.natAbs (by rw[h3];rfl)
     have h5:=numGo_dec v.natAbs
     rw[h3]at h4 h5
     rw[List.length_cons]at h4
     obtain rfl:l=[]:=List.length_eq_zero_iff.1 (by omega)
     simp only[numGo]at h5
     rw[if_neg (by decide)]at h5
     simp at h5
     omega
    ·exact hv
 ·rename_i h5
  rw[key]
  constructor
  ·rintro⟨h0,h1,h2⟩;exact⟨by omega,h1,h2⟩
  ·rintro⟨h0,h1,h2⟩
   refine⟨?_,h1,h2⟩
   rcases Int.lt_or_le v 0 with hv|hv
   ·exfalso
    rw[neg hv]at h2
    cases e:Lib.decDigits v.natAbs with
    |nil=>exact dec_ne _ e
    |cons b r=>rw[e]at h2;exact h5 b r h2.symm
   ·exact hv
end Pl
namespace Pl
def tot (l:List ByteArray):Nat:=(l.map fun x=>x.size+1).sum
theorem tot_mem {l:List ByteArray}{x:ByteArray}(h:x∈l):x.size+1<=tot l:=by
 induction l with
 |nil=>cases h
 |cons a l ih=>
  have e:tot (a::l)=a.size+1+tot l:=by unfold tot;simp
  rcases List.mem_cons.1 h with rfl|h
  ·omega
  ·have:=ih h;omega
theorem tot_len (l:List ByteArray):l.length<=tot l:=by
 induction l with
 |nil=>simp[tot]
 |cons a l ih=>
  have e:tot (a::l)=a.size+1+tot l:=by unfold tot;simp
  simp only[List.length_cons]
  omega
theorem cut_sum (sep:UInt8)(l:List UInt8):((cutAt sep l).map fun x=>x.length+1).sum=l.length+1:=by
 induction l with
 |nil=>simp[cutAt]
 | cons b l ih=>
  unfold cutAt
  split
  ·simp only[List.map_cons,List.sum_cons,List.length_nil,ih,List.length_cons];omega
  ·split
   ·rename_i e;rw[e]at ih;simp at ih
   ·rename_i w ws e
    rw[e]at ih
    simp only[List.map_cons,List.sum_cons,List.length_cons]at ih ⊢
    omega
theorem solid_sum (l:List (List UInt8)):((solid l).map fun x=>x.length+1).sum<=(l.map fun x=>x.length+1).sum:=by
 induction l with
 |nil=>simp[solid]
 |cons a l ih=>
  unfold solid at ih ⊢
  rw[List.filter_cons]
  split
  ·simp only[List.map_cons,List.sum_cons];omega
  ·simp only[List.map_cons,List.sum_cons];omega
theorem words_tot (s:ByteArray):tot (wordsB s)<=s.size+1:=by
 have h1:=solid_sum (cutAt 32 (ahead s.data.toList))
 rw[cut_sum]at h1
 have h2:(ahead s.data.toList).length<=s.data.toList.length:=by
  unfold ahead
  exact(List.takeWhile_sublist _).length_le
 have e:s.data.toList.length=s.size:=Array.length_toList
 have h3:tot (wordsB s)=((solid (cutAt 32 (ahead s.data.toList))).map fun x=>x.length+1).sum:=by
  unfold tot wordsB wordsOf
  rw[List.map_map]
  congr 1
 omega
theorem lines_tot (s:ByteArray):tot (linesB s)=s.size+1:=by
 have e:s.data.toList.length=s.size:=Array.length_toList
 have h:=cut_sum 10 s.data.toList
 rw[e]at h
 rw[<-h]
 unfold tot linesB linesOf
 rw[List.map_map]
 congr 1
end Pl
end Go.Proofs.YtgbpekeoegfjpaaGreatDoor
set_option maxRecDepth 100000
namespace Go.Proofs.YtgbpekeoegfjpaaGreatDoor
open Go.RowKit
def encI (x:Int):List Value:=[.int .i64 x]
def encS (x:ByteArray):List Value:=[.string x]
abbrev IntsS := @Seg Int encI 1
abbrev StrsS := @Seg ByteArray encS 1
theorem IntsS.at1 {w:World}{B:Nat}{A:Option Addr}{l:List Int}(h:IntsS w B A l){k:Nat}(hk:k<l.length): ∃b off,A=some ⟨b,off,none⟩∧b<B∧w.cell? ⟨b,off+k,none⟩=some (.int .i64 l[k]):=by
 obtain⟨b,off,hA,hb,hc⟩:=Seg.at_ h hk
 exact⟨b,off,hA,hb,by simpa [encI]using hc 0 _ rfl⟩
theorem StrsS.at1 {w:World}{B:Nat}{A:Option Addr}{l:List ByteArray}(h:StrsS w B A l){k:Nat}(hk:k<l.length): ∃b off,A=some ⟨b,off,none⟩∧b<B∧w.cell? ⟨b,off+k,none⟩=some (.string l[k]):=by
 obtain⟨b,off,hA,hb,hc⟩:=Seg.at_ h hk
 exact⟨b,off,hA,hb,by simpa [encS]using hc 0 _ rfl⟩
theorem size_list (s:ByteArray):s.data.toList.length=s.size:=by rw[Array.length_toList];rfl
end Go.Proofs.YtgbpekeoegfjpaaGreatDoor
set_option maxRecDepth 100000
namespace Go.Proofs.YtgbpekeoegfjpaaGreatDoor
open Go.RowKit
attribute [-go_sem] Builtin.append_
def stretch (L:List UInt8)(f i:Nat):List UInt8:=(L.drop f).take (i-f)
theorem stretch_succ {L:List UInt8}{f i:Nat}(h:f<=i)(hi:i<L.length):stretch L f (i+1)=stretch L f i++[L[i]]:=by
 unfold stretch
 rw[show i+1-f=(i-f)+1 by omega,List.take_succ_eq_append_getElem (by simp;omega)]
 simp[show f+(i-f)=i by omega]
theorem stretch_self (L:List UInt8)(f:Nat):stretch L f f=[]:=by unfold stretch;simp
theorem extract_stretch (s:ByteArray)(f i:Nat):(s.extract f i).data.toList=stretch s.data.toList f i:=Lib.extract_data s f i
theorem numGo_drop {n:Int}{L:List UInt8}{k:Nat}(hk:k<L.length):Pl.numGo n (L.drop k)=if L[k].toNat<48∨57<L[k].toNat then none else Pl.numGo (10*n+L[k].toNat-48) (L.drop (k+1)):=by
 rw[List.drop_eq_getElem_cons hk];rfl
theorem pow_step {n:Int}{k c:Nat}(h0:0<=n)(h1:n<10^k)(hc:48<=c)(hc2:c<=57):0<=10*n+c-48∧10*n+c-48<10^(k+1):=by
 have:(10:Int)^(k+1)=10*10^k:=by rw[Int.pow_succ];omega
 omega
end Go.Proofs.YtgbpekeoegfjpaaGreatDoor
set_option maxRecDepth 100000
namespace Go.Proofs.YtgbpekeoegfjpaaGreatDoor
open Go.RowKit
set_option maxHeartbeats 8000000 in
theorem sameField_a (A1 A2 A3 A4:Option Addr) (c1 c2 c3 c4:Nat) (f:Pl.Fld) (B1 B2 B3 B4:Option Addr) (d1 d2 d3 d4:Nat) (w:World) (hf:FldS w w.heap.size A1 A2 A3 A4 f) (hm:f.st.length<=100000∧f.li.length<=100000∧f.pa.length<=100000∧f.va.length<=100000) (hg:FldS w w.heap.size B1 B2 B3 B4 f):
  Calls Tryz.prog 21 #[.agg (fq A1 A2 A3 A4 c1 c2 c3 c4 f),.agg (fq B1 B2 B3 B4 d1 d2 d3 d4 f)] w fun e w'=>e=.returned (.bool true)∧Below w.heap.size w w':=by
 obtain⟨m1,m2,m3,m4⟩:=hm
 have ka:=heap_alloc2_old w (.cells (fq A1 A2 A3 A4 c1 c2 c3 c4 f) 28) (.cells (fq B1 B2 B3 B4 d1 d2 d3 d4 f) 28)
 have kb:=heap_alloc2_new w (.cells (fq A1 A2 A3 A4 c1 c2 c3 c4 f) 28) (.cells (fq B1 B2 B3 B4 d1 d2 d3 d4 f) 28)
 have hw0:Below w.heap.size w ((w.alloc (.cells (fq A1 A2 A3 A4 c1 c2 c3 c4 f) 28)).alloc (.cells (fq B1 B2 B3 B4 d1 d2 d3 d4 f) 28)):=((Below.refl _ w).alloc (Nat.le_refl _) _).alloc (by simp) _
 obtain⟨hca,hfa⟩:=blk_cells ka
 obtain⟨hcb,hfb⟩:=blk_cells kb
 go_enter Tryz.func21,Tryz.ntmps21
 go_wp2
 generalize (w.alloc (.cells (fq A1 A2 A3 A4 c1 c2 c3 c4 f) 28)).alloc (.cells (fq B1 B2 B3 B4 d1 d2 d3 d4 f) 28)=W0 at*
 have hal:w.heap.size+1<W0.heap.size:=(lO kb)
 clear hca hfa hcb hfb
 have ka0:=ka
 have kb0:=kb
 clear ka kb
 go_loopw [5] (fun i wr=> ∃(k:Nat),k<=f.st.length∧i=.int .i64 k∧Below W0.heap.size W0 wr) (fun i _=>f.st.length-(intOf i).toNat)
 case atStart=>exact⟨0,by omega,rfl,by go_grown⟩
 case round=>
  obtain⟨k,hk,rfl,hall⟩:=hrel
  have ka:=(hall.block _ (by omega)).trans ka0
  have kb:=(hall.block _ (by omega)).trans kb0
  obtain⟨hca,hfa⟩:=blk_cells ka
  obtain⟨hcb,hfb⟩:=blk_cells kb
  have hsz:=hall.size
  have hwr:Below w.heap.size w wr:=hw0.trans (hall.mono (by omega))
  by_cases hlt:k<f.st.length
  ·obtain⟨b,off,hA,hbB,q0,q1⟩:=Stas.at2 (hf.st.below hwr) hlt
   obtain⟨b',off',hA',hbB',r0,r1⟩:=Stas.at2 (hg.st.below hwr) hlt
   obtain⟨⟨n,x⟩,hbd⟩: ∃x,f.st[k]=x:=⟨_,rfl⟩
   rw[hbd]at q0 q1 r0 r1
   simp only at q0 q1 r0 r1
   clear hbd
   subst hA hA'
   have e1:(0:Int)<=(k:Int):=by omega
   have e2:(k:Int)<(f.st.length:Int):=by omega
   go_wp2
   go_region_held3 (fun W=>W.cell? ⟨w.heap.size,0,none⟩=some (.slice (some ⟨b,off,none⟩) f.st.length c1)∧W.cell? ⟨w.heap.size+1,0,none⟩=some (.slice (some ⟨b',off',none⟩) f.st.length d1)∧W.cell? ⟨b,off+k*2,none⟩=some (.string n)∧W.cell? ⟨b,off+k*2+1,none⟩=some (.int .i64 x)∧W.cell? ⟨b',off'+k*2,none⟩=some (.string n)∧W.cell? ⟨b',off'+k*2+1,none⟩=some (.int .i64 x)) (exact⟨hca 0,hcb 0,q0,q1,r0,r1⟩) (fail)
   all_goals go_wp2
   all_goals (
    go_roundw
    case rel=>exact⟨k+1,by omega,by go_num,by first|(go_grown;done)|exact below_drewN hall _⟩
    case measure=>first|(simp[intOf];done)|(simp[intOf];omega))
  ·go_wp2
   go_loopw [6] (fun i wr=> ∃(k:Nat),k<=f.li.length∧i=.int .i64 k∧Below W0.heap.size W0 wr) (fun i _=>f.li.length-(intOf i).toNat)
   case atStart=>exact⟨0,by omega,rfl,hall⟩
   case round=>
    clear hall hca hfa hcb hfb ka kb;obtain⟨k,hk,rfl,hall⟩:=hrel
    have ka:=(hall.block _ (by omega)).trans ka0
    have kb:=(hall.block _ (by omega)).trans kb0
    obtain⟨hca,hfa⟩:=blk_cells ka
    obtain⟨hcb,hfb⟩:=blk_cells kb
    have hsz:=hall.size
    have hwr:Below w.heap.size w wr:=hw0.trans (hall.mono (by omega))
    by_cases hlt:k<f.li.length
    ·obtain⟨b,off,hA,hbB,q0⟩:=Nms.at1 (hf.li.below hwr) hlt
     obtain⟨b',off',hA',hbB',r0⟩:=Nms.at1 (hg.li.below hwr) hlt
     obtain⟨n,hbd⟩: ∃x,f.li[k]=x:=⟨_,rfl⟩
     rw[hbd]at q0 r0
     skip
     clear hbd
     subst hA hA'
     have e1:(0:Int)<=(k:Int):=by omega
     have e2:(k:Int)<(f.li.length:Int):=by omega
     go_wp2
     go_region_held3 (fun W=>W.cell? ⟨w.heap.size,1,none⟩=some (.slice (some ⟨b,off,none⟩) f.li.length c2)∧W.cell? ⟨w.heap.size+1,1,none⟩=some (.slice (some ⟨b',off',none⟩) f.li.length d2)∧W.cell? ⟨b,off+k,none⟩=some (.string n)∧W.cell? ⟨b',off'+k,none⟩=some (.string n)) (exact⟨hca 1,hcb 1,q0,r0⟩) (fail)
     all_goals go_wp2
     all_goals (
      go_roundw
      case rel=>exact⟨k+1,by omega,by go_num,by first|(go_grown;done)|exact below_drewN hall _⟩
      case measure=>first|(simp[intOf];done)|(simp[intOf];omega))
    ·go_wp2
     go_loopw [7] (fun i wr=> ∃(k:Nat),k<=f.pa.length∧i=.int .i64 k∧Below W0.heap.size W0 wr) (fun i _=>f.pa.length-(intOf i).toNat)
     case atStart=>exact⟨0,by omega,rfl,hall⟩
     case round=>
      clear hall hca hfa hcb hfb ka kb;obtain⟨k,hk,rfl,hall⟩:=hrel
      have ka:=(hall.block _ (by omega)).trans ka0
      have kb:=(hall.block _ (by omega)).trans kb0
      obtain⟨hca,hfa⟩:=blk_cells ka
      obtain⟨hcb,hfb⟩:=blk_cells kb
      have hsz:=hall.size
      have hwr:Below w.heap.size w wr:=hw0.trans (hall.mono (by omega))
      by_cases hlt:k<f.pa.length
      ·obtain⟨b,off,hA,hbB,q0,q1,q2,q3⟩:=Pars.at4 (hf.pa.below hwr) hlt
       obtain⟨b',off',hA',hbB',r0,r1,r2,r3⟩:=Pars.at4 (hg.pa.below hwr) hlt
       obtain⟨⟨n,x,y,z⟩,hbd⟩: ∃x,f.pa[k]=x:=⟨_,rfl⟩
       rw[hbd]at q0 q1 q2 q3 r0 r1 r2 r3
       simp only at q0 q1 q2 q3 r0 r1 r2 r3
       clear hbd
       subst hA hA'
       have e1:(0:Int)<=(k:Int):=by omega
       have e2:(k:Int)<(f.pa.length:Int):=by omega
       go_wp2
       go_region_held3 (fun W=>W.cell? ⟨w.heap.size,2,none⟩=some (.slice (some ⟨b,off,none⟩) f.pa.length c3)∧W.cell? ⟨w.heap.size+1,2,none⟩=some (.slice (some ⟨b',off',none⟩) f.pa.length d3)∧W.cell? ⟨b,off+k*4,none⟩=some (.string n)∧W.cell? ⟨b,off+k*4+1,none⟩=some (.int .i64 x)∧W.cell? ⟨b,off+k*4+2,none⟩=some (.int .i64 y)∧W.cell? ⟨b,off+k*4+3,none⟩=some (.int .i64 z)∧W.cell? ⟨b',off'+k*4,none⟩=some (.string n)∧W.cell? ⟨b',off'+k*4+1,none⟩=some (.int .i64 x)∧W.cell? ⟨b',off'+k*4+2,none⟩=some (.int .i64 y)∧W.cell? ⟨b',off'+k*4+3,none⟩=some (.int .i64 z)) (exact⟨hca 2,hcb 2,q0,q1,q2,q3,r0,r1,r2,r3⟩) (fail)
       all_goals go_wp2
       all_goals (
        go_roundw
        case rel=>exact⟨k+1,by omega,by go_num,by first|(go_grown;done)|exact below_drewN hall _⟩
        case measure=>first|(simp[intOf];done)|(simp[intOf];omega))
      ·go_wp2
       go_loopw [8] (fun i wr=> ∃(k:Nat),k<=f.va.length∧i=.int .i64 k∧Below W0.heap.size W0 wr) (fun i _=>f.va.length-(intOf i).toNat)
       case atStart=>exact⟨0,by omega,rfl,hall⟩
       case round=>
        clear hall hca hfa hcb hfb ka kb;obtain⟨k,hk,rfl,hall⟩:=hrel
        have ka:=(hall.block _ (by omega)).trans ka0
        have kb:=(hall.block _ (by omega)).trans kb0
        obtain⟨hca,hfa⟩:=blk_cells ka
        obtain⟨hcb,hfb⟩:=blk_cells kb
        have hsz:=hall.size
        have hwr:Below w.heap.size w wr:=hw0.trans (hall.mono (by omega))
        by_cases hlt:k<f.va.length
        ·obtain⟨b,off,hA,hbB,q0,q1⟩:=Vars.at2 (hf.va.below hwr) hlt
         obtain⟨b',off',hA',hbB',r0,r1⟩:=Vars.at2 (hg.va.below hwr) hlt
         obtain⟨⟨x,y⟩,hbd⟩: ∃x,f.va[k]=x:=⟨_,rfl⟩
         rw[hbd]at q0 q1 r0 r1
         simp only at q0 q1 r0 r1
         clear hbd
         subst hA hA'
         have e1:(0:Int)<=(k:Int):=by omega
         have e2:(k:Int)<(f.va.length:Int):=by omega
         go_wp2
         go_region_held3 (fun W=>W.cell? ⟨w.heap.size,3,none⟩=some (.slice (some ⟨b,off,none⟩) f.va.length c4)∧W.cell? ⟨w.heap.size+1,3,none⟩=some (.slice (some ⟨b',off',none⟩) f.va.length d4)∧W.cell? ⟨b,off+k*2,none⟩=some (.int .i64 x)∧W.cell? ⟨b,off+k*2+1,none⟩=some (.int .i64 y)∧W.cell? ⟨b',off'+k*2,none⟩=some (.int .i64 x)∧W.cell? ⟨b',off'+k*2+1,none⟩=some (.int .i64 y)) (exact⟨hca 3,hcb 3,q0,q1,r0,r1⟩) (fail)
         all_goals go_wp2
         all_goals (
          go_roundw
          case rel=>exact⟨k+1,by omega,by go_num,by first|(go_grown;done)|exact below_drewN hall _⟩
          case measure=>first|(simp[intOf];done)|(simp[intOf];omega))
        ·go_wp2
         go_ret
         exact⟨rfl,hwr⟩
end Go.Proofs.YtgbpekeoegfjpaaGreatDoor
namespace Go.Proofs.YtgbpekeoegfjpaaGreatDoor
open Go.RowKit
theorem ba_size (s:List UInt8):(⟨s.toArray⟩:ByteArray).size=s.length:=by show s.toArray.size=_;simp
theorem addP (P Q:List UInt8)(h:P.length<=1000000000000)(h2:Q.length<=1000000)(W:World):(Op.stringOp .add ⟨P.toArray⟩ ⟨Q.toArray⟩).run Tryz.prog W=.ok (.string ⟨(P++Q).toArray⟩) W:=by
 rw[run_string_add_sum W ⟨P.toArray⟩ ⟨Q.toArray⟩ (by rw[ba_size,ba_size];omega),ba_append]
 simp
end Go.Proofs.YtgbpekeoegfjpaaGreatDoor
set_option maxRecDepth 100000
namespace Go.Proofs.YtgbpekeoegfjpaaGreatDoor
open Go.RowKit
attribute [-go_sem] Builtin.append_
theorem refW_at {L wv:List UInt8}{k:Nat}(hk:k<L.length):Pl.refW wv (L.drop k)=if L[k]=35 then Pl.solid [wv]else if L[k]=32 then Pl.solid [wv]++Pl.refW [] (L.drop (k+1))else Pl.refW (wv++[L[k]]) (L.drop (k+1)):=by
  rw[List.drop_eq_getElem_cons hk,Pl.refW]
theorem one_more {s:ByteArray}{k:Nat}(hk:k<s.size):s.extract k (k+1)=⟨#[s[k]]⟩:=by
  apply Pl.ba_ext
  rw[extract_stretch,stretch_succ (Nat.le_refl k) (by rw[size_list];exact hk),stretch_self]
  rfl
set_option maxHeartbeats 4000000 in
theorem words3_b (s:ByteArray) (w:World) (hs:s.size<=100000):Calls Tryz.prog 75 #[.string s] w (NewNms (Pl.wordsB s) w):=by
  have HL:=Lib.hid (size_list s)
  go_enter Tryz.func75,Tryz.ntmps75
  go_wp2
  go_loopw [3,4,5] (fun o x i wr=> ∃(k:Nat) (done:List (List UInt8)) (wv:List UInt8),k<=s.size∧i=.int .i64 k∧x=.string ⟨wv.toArray⟩∧wr.ownsRow w.heap.size 9 1 o done.length ((done.map Pl.mkB).flatMap encNm)∧done.length<=k∧wv.length<=k∧Hid (done++Pl.refW wv (s.data.toList.drop k)=Pl.refW [] s.data.toList)∧Below w.heap.size w wr) (fun _ _ i _=>s.size-(intOf i).toNat)
  case atStart=>exact⟨0,[],[],by omega,rfl,rfl,World.ownsRow_nil _ _ _ _,by simp,by simp,Lib.hid (by simp),by go_grown⟩
  case round=>
    obtain⟨k,done,wv,hk,rfl,rfl,hown,hdl,hwl,hg,hb⟩:=hrel
    have hsz:=hb.size
    by_cases hlt:k<s.size
    · have hat:=Lib.hid (refW_at (L:=s.data.toList) (wv:=wv) (k:=k) (by rw[HL.out];exact hlt))
      have HG:=Lib.hid (show s.data.toList[k]'(by rw[HL.out];exact hlt)=s[k] from rfl)
      have hu:s[k].toNat<=255:=by have:=s[k].toNat_lt;omega
      by_cases h35:s[k]=35
      · have hc5:((s[k].toNat:Int) !=35)=false:=by rw[h35];rfl
        have hlast:Pl.refW wv (s.data.toList.drop k)=Pl.solid [wv]:=by rw[hat.out,if_pos (by rw[HG.out];exact h35)]
        clear h35 hat
        have hF:done++Pl.solid [wv]=Pl.wordsOf s.data.toList:=by rw[<-Pl.refW_words,<-hg.out,hlast]
        by_cases hw:wv=[]
        · subst hw
          have hl:Pl.wordsB s=done.map Pl.mkB:=by unfold Pl.wordsB;rw[<-hF];simp[Pl.solid]
          have hq:done.length=(Pl.wordsB s).length:=by rw[hl];simp
          rw[<-hl,hq]at hown
          obtain⟨A',c',hv,hN,hc,hFr⟩:=own_seg lay_nm hown
          subst hv
          clear hF hl hq hlast hg
          go_wp2
          go_ret
          exact⟨A',c',rfl,hN,hc,hFr,hb⟩
        · obtain⟨g',cap',w2,hrun,hown2,hb2⟩:=own_app lay_nm hown [Pl.mkB wv] 0 rfl #[.string ⟨wv.toArray⟩] (by simp[encNm,Pl.mkB]) (by unfold maxLen;omega) (by omega) hsz
          have hl:Pl.wordsB s=done.map Pl.mkB++[Pl.mkB wv]:=by unfold Pl.wordsB;rw[<-hF,List.map_append];simp[Pl.solid,hw]
          have hq:done.length+1=(Pl.wordsB s).length:=by rw[hl];simp
          rw[<-hl]at hown2
          have hown3:w2.ownsRow w.heap.size 9 1 (.slice (some ⟨g',0,none⟩) (done.length+1) cap') (Pl.wordsB s).length ((Pl.wordsB s).flatMap encNm):=by rw[<-hq];exact hown2
          obtain⟨A',c',hv,hN,hc,hFr⟩:=own_seg lay_nm hown3
          have hne:(!wv.isEmpty)=true:=by cases wv with|nil=>exact absurd rfl hw|cons _ _=>rfl
          have hne2:wv.isEmpty=false:=by cases wv with|nil=>exact absurd rfl hw|cons _ _=>rfl
          clear hF hl hq hlast hg hown hown2 hown3 hw
          go_wp2
          go_ret
          exact⟨A',c',rfl,hN,hc,hFr,hb.trans hb2⟩
      · have hc5:((s[k].toNat:Int) !=35)=true:=by
          have:s[k].toNat≠35:=fun h=>h35 (UInt8.toNat_inj.1 h)
          simpa using fun h:(s[k].toNat:Int)=35=>this (by omega)
        by_cases h32:s[k]=32
        · have hc6:((s[k].toNat:Int) !=32)=false:=by rw[h32];rfl
          have hc7:((s[k].toNat:Int)==32)=true:=by rw[h32];rfl
          have hnx:Hid (Pl.refW wv (s.data.toList.drop k)=Pl.solid [wv]++Pl.refW [] (s.data.toList.drop (k+1))):=Lib.hid (by rw[hat.out,if_neg (by rw[HG.out];exact h35),if_pos (by rw[HG.out];exact h32)])
          clear h35 h32 hat
          by_cases hw:wv=[]
          · subst hw
            have hn2:Hid (done++Pl.refW [] (s.data.toList.drop (k+1))=Pl.refW [] s.data.toList):=Lib.hid (by rw[<-hg.out,hnx.out];simp[Pl.solid])
            clear hg hnx
            go_wp2
            go_roundw
            case rel=>exact⟨k+1,done,[],by omega,by go_num,rfl,hown,by omega,by simp,hn2,hb⟩
            case measure=>first|(simp[intOf];done)|(simp[intOf];omega)
          · obtain⟨g',cap',w2,hrun,hown2,hb2⟩:=own_app lay_nm hown [Pl.mkB wv] 0 rfl #[.string ⟨wv.toArray⟩] (by simp[encNm,Pl.mkB]) (by unfold maxLen;omega) (by omega) hsz
            have hn2:Hid ((done++[wv])++Pl.refW [] (s.data.toList.drop (k+1))=Pl.refW [] s.data.toList):=Lib.hid (by rw[<-hg.out,hnx.out];simp[Pl.solid,hw])
            have hne:(!wv.isEmpty)=true:=by cases wv with|nil=>exact absurd rfl hw|cons _ _=>rfl
            have hne2:wv.isEmpty=false:=by cases wv with|nil=>exact absurd rfl hw|cons _ _=>rfl
            clear hg hnx hw hown
            go_wp2
            go_roundw
            case rel=>exact⟨k+1,done++[wv],[],by omega,by go_num,rfl,by simpa using hown2,by simp;omega,by simp,hn2,hb.trans hb2⟩
            case measure=>first|(simp[intOf];done)|(simp[intOf];omega)
        · have hc6:((s[k].toNat:Int) !=32)=true:=by
            have:s[k].toNat≠32:=fun h=>h32 (UInt8.toNat_inj.1 h)
            simpa using fun h:(s[k].toNat:Int)=32=>this (by omega)
          have hc7:((s[k].toNat:Int)==32)=false:=by
            have:s[k].toNat≠32:=fun h=>h32 (UInt8.toNat_inj.1 h)
            simpa using fun h:(s[k].toNat:Int)=32=>this (by omega)
          have hnx:Hid (done++Pl.refW (wv++[s[k]]) (s.data.toList.drop (k+1))=Pl.refW [] s.data.toList):=Lib.hid (by rw[<-hg.out,hat.out,if_neg (by rw[HG.out];exact h35),if_neg (by rw[HG.out];exact h32),HG.out])
          have t1:=fun W=>addP wv [s[k]] (by omega) (by simp) W
          have ex:=one_more hlt
          have t2: ∀W,(Op.stringOp .add ⟨wv.toArray⟩ (s.extract k (k+1))).run Tryz.prog W=.ok (.string ⟨(wv++[s[k]]).toArray⟩) W:=fun W=>by rw[ex];exact t1 W
          clear h35 h32 hat hg ex t1
          go_wp2
          go_roundw
          case rel=>exact⟨k+1,done,wv++[s[k]],by omega,by go_num,rfl,hown,by omega,by simp;omega,hnx,hb⟩
          case measure=>first|(simp[intOf];done)|(simp[intOf];omega)
    · obtain rfl:k=s.size:=by omega
      have hlast:Pl.refW wv (s.data.toList.drop s.size)=Pl.solid [wv]:=by rw[List.drop_eq_nil_of_le (by rw[HL.out];omega),Pl.refW]
      have hF:done++Pl.solid [wv]=Pl.wordsOf s.data.toList:=by rw[<-Pl.refW_words,<-hg.out,hlast]
      by_cases hw:wv=[]
      · subst hw
        have hl:Pl.wordsB s=done.map Pl.mkB:=by unfold Pl.wordsB;rw[<-hF];simp[Pl.solid]
        have hq:done.length=(Pl.wordsB s).length:=by rw[hl];simp
        rw[<-hl,hq]at hown
        obtain⟨A',c',hv,hN,hc,hFr⟩:=own_seg lay_nm hown
        subst hv
        clear hF hl hq hlast hg
        go_wp2
        go_ret
        exact⟨A',c',rfl,hN,hc,hFr,hb⟩
      · obtain⟨g',cap',w2,hrun,hown2,hb2⟩:=own_app lay_nm hown [Pl.mkB wv] 0 rfl #[.string ⟨wv.toArray⟩] (by simp[encNm,Pl.mkB]) (by unfold maxLen;omega) (by omega) hsz
        have hl:Pl.wordsB s=done.map Pl.mkB++[Pl.mkB wv]:=by unfold Pl.wordsB;rw[<-hF,List.map_append];simp[Pl.solid,hw]
        have hq:done.length+1=(Pl.wordsB s).length:=by rw[hl];simp
        rw[<-hl]at hown2
        have hown3:w2.ownsRow w.heap.size 9 1 (.slice (some ⟨g',0,none⟩) (done.length+1) cap') (Pl.wordsB s).length ((Pl.wordsB s).flatMap encNm):=by rw[<-hq];exact hown2
        obtain⟨A',c',hv,hN,hc,hFr⟩:=own_seg lay_nm hown3
        have hne:(!wv.isEmpty)=true:=by cases wv with|nil=>exact absurd rfl hw|cons _ _=>rfl
        have hne2:wv.isEmpty=false:=by cases wv with|nil=>exact absurd rfl hw|cons _ _=>rfl
        clear hF hl hq hlast hg hown hown2 hown3 hw
        go_wp2
        go_ret
        exact⟨A',c',rfl,hN,hc,hFr,hb.trans hb2⟩
def Pl.refL :List UInt8->List UInt8->List (List UInt8)
  |a,[]=>[a]
  |a,b::l=>if b=10 then a::Pl.refL [] l else Pl.refL (a++[b]) l
theorem Pl.refL_cut (l:List UInt8): ∀a:List UInt8,Pl.refL a l=match Pl.cutAt 10 l with
    | []=>[]
    |x::xs=>(a++x)::xs:=by
  induction l with
  |nil=>intro a;simp[Pl.refL,Pl.cutAt]
  | cons b l ih=>
    intro a
    unfold Pl.refL
    split
    · rename_i h;subst h
      have e:Pl.cutAt 10 (10::l)=[]::Pl.cutAt 10 l:=by simp[Pl.cutAt]
      rw[e,ih]
      cases e2:Pl.cutAt 10 l with
      |nil=>exact absurd e2 (Pl.cutAt_ne _ _)
      |cons x xs=>simp
    · rename_i h
      obtain⟨x,xs,e1,e2⟩:=Pl.cutAt_other l h
      rw[ih,e1,e2]
      simp
theorem Pl.refL_lines (l:List UInt8):Pl.refL [] l=Pl.linesOf l:=by
  rw[Pl.refL_cut]
  unfold Pl.linesOf
  cases e:Pl.cutAt 10 l with
  |nil=>exact absurd e (Pl.cutAt_ne _ _)
  |cons x xs=>simp
theorem refL_at {L:List UInt8}{f i:Nat}(h:f<=i)(hi:i<L.length):Pl.refL (stretch L f i) (L.drop i)=if L[i]=10 then stretch L f i::Pl.refL (stretch L (i+1) (i+1)) (L.drop (i+1))else Pl.refL (stretch L f (i+1)) (L.drop (i+1)):=by
  rw[List.drop_eq_getElem_cons hi,stretch_self,stretch_succ h hi,Pl.refL]
set_option maxHeartbeats 2000000 in
theorem lines3_b (s:ByteArray) (w:World) (hs:s.size<=100000):Calls Tryz.prog 74 #[.string s] w (NewNms (Pl.linesB s) w):=by
  have HL:=Lib.hid (size_list s)
  go_enter Tryz.func74,Tryz.ntmps74
  go_wp2
  go_loopw [3,4,5] (fun o fr i wr=> ∃(i' f:Nat) (done:List ByteArray),f<=i'∧i'<=s.size∧i=.int .i64 i'∧fr=.int .i64 f∧wr.ownsRow w.heap.size 9 1 o done.length (done.flatMap encNm)∧done.length<=i'∧Hid (done.map (·.data.toList)++Pl.refL (stretch s.data.toList f i') (s.data.toList.drop i')=Pl.refL [] s.data.toList)∧Below w.heap.size w wr) (fun _ _ i _=>s.size-(intOf i).toNat)
  case atStart=>exact⟨0,0,[],by omega,by omega,rfl,rfl,World.ownsRow_nil _ _ _ _,by simp,by unfold Hid;simp[stretch],by go_grown⟩
  case round=>
    obtain⟨i,f,done,hf,hi,rfl,rfl,hown,hdl,hg,hb⟩:=hrel
    have hsz:=hb.size
    by_cases hlt:i<s.size
    · have hcut:=Lib.hid (refL_at (L:=s.data.toList) hf (by rw[HL.out];exact hlt))
      have HG:=Lib.hid (show s.data.toList[i]'(by rw[HL.out];exact hlt)=s[i] from rfl)
      by_cases hc:s[i]=10
      · have hc':((s[i].toNat:Int)==10)=true:=by rw[hc];rfl
        have HC:=Lib.hid hc;clear hc
        obtain⟨g',cap',w2,hrun,hown2,hb2⟩:=own_app lay_nm hown [s.extract f i] 0 rfl #[.string (s.extract f i)] (by simp[encNm]) (by unfold maxLen;omega) (by omega) hsz
        go_wp2
        go_roundw
        case rel=>exact⟨i+1,i+1,done++[s.extract f i],by omega,by omega,by go_num,by go_num,by simpa using hown2,by simp;omega,by unfold Hid;rw[<-hg.out,hcut.out,if_pos (by rw[HG.out];exact HC.out)];simp[stretch],hb.trans hb2⟩
        case measure=>first|(simp[intOf];done)|(simp[intOf];omega)
      · have hne: ¬s[i].toNat=10:=by intro h;apply hc;exact UInt8.toNat_inj.1 h
        have hc':((s[i].toNat:Int)==10)=false:=by simpa using fun h:(s[i].toNat:Int)=10=>hne (by omega)
        have HC:=Lib.hid hc;clear hc hne
        go_wp2
        go_roundw
        case rel=>exact⟨i+1,f,done,by omega,by omega,by go_num,rfl,hown,by omega,by unfold Hid;rw[<-hg.out,hcut.out,if_neg (by rw[HG.out];exact HC.out)],by go_grown⟩
        case measure=>first|(simp[intOf];done)|(simp[intOf];omega)
    · obtain rfl:i=s.size:=by omega
      obtain⟨g',cap',w2,hrun,hown2,hb2⟩:=own_app lay_nm hown [s.extract f s.size] 0 rfl #[.string (s.extract f s.size)] (by simp[encNm]) (by unfold maxLen;omega) (by omega) hsz
      have hfin:done++[s.extract f s.size]=Pl.linesB s:=by
        apply Pl.ba_of_list
        have e:(Pl.linesB s).map (·.data.toList)=Pl.linesOf s.data.toList:=by unfold Pl.linesB;rw[List.map_map];exact List.map_id _
        rw[e,<-Pl.refL_lines,<-hg.out,List.drop_eq_nil_of_le (by rw[HL.out];omega)]
        simp[Pl.refL,stretch]
      have hq:done.length+1=(Pl.linesB s).length:=by rw[<-hfin];simp
      rw[hfin]at hown2
      have hown3:w2.ownsRow w.heap.size 9 1 (.slice (some ⟨g',0,none⟩) (done.length+1) cap') (Pl.linesB s).length ((Pl.linesB s).flatMap encNm):=by rw[<-hq];exact hown2
      obtain⟨A',c',hv,hN,hc,hFr⟩:=own_seg lay_nm hown3
      have hB:Below w.heap.size w w2:=hb.trans hb2
      clear hfin hq hown2 hown3 hown hg
      go_wp2
      go_ret
      exact⟨A',c',rfl,hN,hc,hFr,hB⟩
theorem numL_none {s:ByteArray}(h:s.size<1∨9<s.size):Pl.numR s=none:=by
  unfold Pl.numR Pl.numL
  rw[if_pos]
  rw[size_list]
  omega
theorem pow_le_9 (k:Nat)(h:k<=9):(10:Int)^k<=1000000000:=by
  have:(10:Nat)^k<=10^9:=Nat.pow_le_pow_right (by omega) h
  have e:((10^k:Nat):Int)=(10:Int)^k:=by rw[Int.natCast_pow];rfl
  rw[<-e];omega
set_option maxHeartbeats 2000000 in
theorem number3_b (s:ByteArray) (w:World) (hs:s.size<=100000):Calls Tryz.prog 147 #[.string s] w fun e w'=>e=.returned (.tuple #[.int .i64 ((Pl.numR s).getD 0),.bool (Pl.numR s).isSome])∧w=w':=by
  have HL:=Lib.hid (size_list s)
  by_cases hz:s.size<1
  · have HV:=Lib.hid (numL_none (s:=s) (.inl hz))
    go_enter Tryz.func147,Tryz.ntmps147
    go_wp2
    all_goals first
      |(exfalso;omega)
      |(go_ret2;exact⟨by rw[HV.out];try rfl,rfl⟩)
  by_cases hz9:9<s.size
  · have HV:=Lib.hid (numL_none (s:=s) (.inr hz9))
    go_enter Tryz.func147,Tryz.ntmps147
    go_wp2
    all_goals first
      |(exfalso;omega)
      |(go_ret2;exact⟨by rw[HV.out];try rfl,rfl⟩)
  have z1:0<s.size:=by omega
  have hd:s.data.toList.head?=some s[0]:=by
    rw[List.head?_eq_getElem?,List.getElem?_eq_getElem (by rw[HL.out];exact z1)];rfl
  have hu0:s[0].toNat<=255:=by have:=s[0].toNat_lt;omega
  have m1: ¬(s.size:Int)<1:=by omega
  have m2: ¬(9:Int)<(s.size:Int):=by omega
  by_cases hzz:s[0]=48∧1<s.size
  · have hv:Pl.numR s=none:=by
      unfold Pl.numR Pl.numL
      rw[if_pos (.inr (.inr ⟨by rw[hd,hzz.1],by rw[HL.out];exact hzz.2⟩))]
    have HV:=Lib.hid hv
    have c0:((s[0].toNat:Int)==48)=true:=by rw[hzz.1];rfl
    have c1:(1:Int)<(s.size:Int):=by omega
    clear hv hzz hd
    go_enter Tryz.func147,Tryz.ntmps147
    go_wp2
    all_goals first
      |(exfalso;omega)
      |(go_ret2;exact⟨by rw[HV.out];try rfl,rfl⟩)
  · have hv : Pl.numR s=Pl.numGo 0 s.data.toList:=by
      unfold Pl.numR Pl.numL
      rw[if_neg]
      rw[HL.out,hd]
      rintro(h|h|⟨h,h2⟩)
      ·omega
      ·omega
      ·exact hzz ⟨by simpa using h,h2⟩
    have HV:=Lib.hid hv;clear hv hd
    have z9:s.size<=9:=by omega
    have c0:((s[0].toNat:Int)==48)=false∨((s[0].toNat:Int)==48)=true∧ ¬(1:Int)<(s.size:Int):=by
      by_cases h:s[0]=48
      ·exact .inr ⟨by rw[h];rfl,by have: ¬1<s.size:=fun h2=>hzz ⟨h,h2⟩;omega⟩
      · refine .inl ?_
        have:s[0].toNat≠48:=fun h'=>h (UInt8.toNat_inj.1 h')
        simpa using fun h:(s[0].toNat:Int)=48=>this (by omega)
    clear hz hz9 hzz
    go_enter Tryz.func147,Tryz.ntmps147
    rcases c0 with c0|⟨c0,c1⟩
    all_goals go_wp2
    all_goals (
      go_loop [4,5] (fun a i=> ∃(k:Nat) (n:Int),k<=s.size∧i=.int .i64 k∧a=.int .i64 n∧0<=n∧n<10^k∧Hid (Pl.numR s=Pl.numGo n (s.data.toList.drop k))) (fun _ i=>s.size-(intOf i).toNat)
      case atStart=>exact⟨0,0,by omega,rfl,rfl,by omega,by simp,HV⟩
      case round =>
        obtain⟨k,n,hk,rfl,rfl,n0,n1,hg⟩:=hrel
        by_cases hlt:k<s.size
        · have hdrop:=Lib.hid (numGo_drop (n:=n) (L:=s.data.toList) (k:=k) (by rw[HL.out];exact hlt))
          have HG:=Lib.hid (show s.data.toList[k]'(by rw[HL.out];exact hlt)=s[k] from rfl)
          have p12:=pow_le_9 k (by omega)
          have hu:s[k].toNat<=255:=by have:=s[k].toNat_lt;omega
          by_cases hc:s[k].toNat<48∨57<s[k].toNat
          · have hn:Pl.numR s=none:=by rw[hg.out,hdrop.out,HG.out,if_pos hc]
            have HN:=Lib.hid hn;clear hn hg
            go_wp2
            all_goals first
              |(exfalso;omega)
              |(go_ret2;exact⟨by rw[HN.out];try rfl,rfl⟩)
          · have hn:Pl.numR s=Pl.numGo (10*n+s[k].toNat-48) (s.data.toList.drop (k+1)):=by rw[hg.out,hdrop.out,HG.out,if_neg hc]
            have HN:=Lib.hid hn;clear hn hg
            obtain⟨p0,p1⟩:=pow_step (c:=s[k].toNat) n0 n1 (by omega) (by omega)
            have P1:=Lib.hid p1
            clear p1
            go_wp2
            all_goals first
              |(exfalso;omega)
              | (go_round
                 case rel=>exact⟨k+1,10*n+s[k].toNat-48,by omega,by go_num,rfl,p0,P1.out,HN⟩
                 case measure=>first|(simp[intOf];done)|(simp[intOf];omega))
        · obtain rfl:k=s.size:=by omega
          have hn:Pl.numR s=some n:=by rw[hg.out,List.drop_eq_nil_of_le (by rw[HL.out];omega)];rfl
          have HN:=Lib.hid hn;clear hn hg
          go_wp2
          go_ret2
          exact⟨by rw[HN.out];rfl,rfl⟩)
theorem number3_h (s:ByteArray)(o:Option Int)(w:World)(ho:Hid (Pl.numF s=o))(hs:s.size<=100000):Calls Tryz.prog 147 #[.string s] w fun e w'=>e=.returned (.tuple #[.int .i64 (o.getD 0),.bool o.isSome])∧w=w':=by
  have h:=number3_b s w hs
  rw[Pl.numR_eq,ho.out]at h
  exact h
set_option maxHeartbeats 2000000 in
theorem signed3_h (s:ByteArray) (o:Option Int) (w:World) (ho:Hid (Pl.sgnV s=o)) (hs:s.size<=100000):Calls Tryz.prog 148 #[.string s] w fun e w'=>e=.returned (.tuple #[.int .i64 (o.getD 0),.bool o.isSome])∧w=w':=by
  have HL:=Lib.hid (size_list s)
  have HS:Hid (Pl.sgnR s=o):=Lib.hid (by rw[Pl.sgnR_eq];exact ho.out)
  clear ho
  by_cases h1:1<s.size
  · have hu0:s[0].toNat<=255:=by have:=s[0].toNat_lt;omega
    have hu1:s[1].toNat<=255:=by have:=s[1].toNat_lt;omega
    have m1:(1:Int)<(s.size:Int):=by omega
    have hcons:s.data.toList=s[0]::s[1]::s.data.toList.drop 2:=by
      conv=>lhs;rw[<-List.drop_zero (l:=s.data.toList)]
      rw[List.drop_eq_getElem_cons (by rw[HL.out];omega),List.drop_eq_getElem_cons (by rw[HL.out];omega)]
      rfl
    by_cases h45:s[0]=45
    · have c0:((s[0].toNat:Int)==45)=true:=by rw[h45];rfl
      by_cases h48:s[1]=48
      · have c1:((s[1].toNat:Int) !=48)=false:=by rw[h48];rfl
        have HV:Hid (Pl.numR s=o):=Lib.hid (by
          rw[<-HS.out];unfold Pl.sgnR Pl.numR
          rw[hcons,h45];simp only
          rw[if_neg (by rw[h48];simp)])
        have pn:=fun W=>number3_b s W hs
        rw[HV.out]at pn
        clear h45 h48 hcons HS HV HL
        go_enter Tryz.func148,Tryz.ntmps148
        go_wp2_with (go_at_call 147;refine(pn _).mono ?_;rintro e w' ⟨rfl,rfl⟩)
        go_ret2
        exact⟨rfl,rfl⟩
      · have c1:((s[1].toNat:Int) !=48)=true:=by
          have:s[1].toNat≠48:=fun h=>h48 (UInt8.toNat_inj.1 h)
          simpa using fun h:(s[1].toNat:Int)=48=>this (by omega)
        have hx:(s.extract 1 s.size).data.toList=s[1]::s.data.toList.drop 2:=by
          rw[extract_stretch]
          unfold stretch
          rw[List.take_of_length_le (by rw[List.length_drop,HL.out];omega)]
          conv=>lhs;rw[hcons]
          rfl
        have HV:Hid ((Pl.numR (s.extract 1 s.size)).map (fun v=> -v)=o):=Lib.hid (by
          rw[<-HS.out];unfold Pl.sgnR Pl.numR
          rw[hx,hcons,h45];simp only
          rw[if_pos h48];simp)
        have hxs:(s.extract 1 s.size).size<=100000:=by rw[<-size_list,hx];simp;omega
        have pn:=fun W=>number3_b (s.extract 1 s.size) W hxs
        have hbd: ∀v,Pl.numR (s.extract 1 s.size)=some v->0<=v∧v<=999999999:=fun v hv=>by
          rw[Pl.numR_eq]at hv
          have:=Pl.numF_iff.1 hv
          omega
        obtain⟨r,hr⟩: ∃r,Pl.numR (s.extract 1 s.size)=r:=⟨_,rfl⟩
        rw[hr]at HV hbd
        rw[hr]at pn
        clear h45 h48 hcons hx HS HL hr
        cases r with
        | none=>
          obtain rfl:o=none:=by rw[<-HV.out];rfl
          go_enter Tryz.func148,Tryz.ntmps148
          go_wp2_with (go_at_call 147;refine(pn _).mono ?_;rintro e w' ⟨rfl,rfl⟩)
          go_ret2
          exact⟨rfl,rfl⟩
        | some v=>
          obtain rfl:o=some (-v):=by rw[<-HV.out];rfl
          obtain⟨v0,v1⟩:=hbd v rfl
          have e5:IntKind.i64.wrap (-v)= -v:=IntWalk.i64_in _ (by omega)
          go_enter Tryz.func148,Tryz.ntmps148
          go_wp2_with (go_at_call 147;refine(pn _).mono ?_;rintro e w' ⟨rfl,rfl⟩)
          go_ret2
          exact⟨rfl,rfl⟩
    · have c0:((s[0].toNat:Int)==45)=false:=by
        have:s[0].toNat≠45:=fun h=>h45 (UInt8.toNat_inj.1 h)
        simpa using fun h:(s[0].toNat:Int)=45=>this (by omega)
      have HV:Hid (Pl.numR s=o):=Lib.hid (by
        rw[<-HS.out];unfold Pl.sgnR Pl.numR
        rw[hcons]
        split
        ·rename_i e;injection e with e1 e2;exact absurd e1 h45
        ·rfl)
      have pn:=fun W=>number3_b s W hs
      rw[HV.out]at pn
      clear h45 hcons HS HV HL
      go_enter Tryz.func148,Tryz.ntmps148
      go_wp2_with (go_at_call 147;refine(pn _).mono ?_;rintro e w' ⟨rfl,rfl⟩)
      go_ret2
      exact⟨rfl,rfl⟩
  · have m1: ¬(1:Int)<(s.size:Int):=by omega
    have HV:Hid (Pl.numR s=o):=Lib.hid (by
      rw[<-HS.out];unfold Pl.sgnR Pl.numR
      split
      ·rename_i e;have:=congrArg List.length e;rw[HL.out]at this;simp at this;omega
      ·rfl)
    have pn:=fun W=>number3_b s W hs
    rw[HV.out]at pn
    clear HS HV HL
    go_enter Tryz.func148,Tryz.ntmps148
    go_wp2_with (go_at_call 147;refine(pn _).mono ?_;rintro e w' ⟨rfl,rfl⟩)
    go_ret2
    exact⟨rfl,rfl⟩
end Go.Proofs.YtgbpekeoegfjpaaGreatDoor
namespace Go.Proofs.YtgbpekeoegfjpaaGreatDoor
open Go.RowKit Go.Deep
attribute [-go_sem] Builtin.append_
theorem row_seg0 {α:Type}{enc:α->List Value}{size:Nat}(hs: ∀x,(enc x).length=size){w:World}{b B:Nat}{t:TypeId}{cs:Array Value}{l:List α}(hb:b<B)(hg:w.heap[b]?=some (.cells cs t (0,0)))(hcs:cs.toList=l.flatMap enc):Seg enc size w B (some ⟨b,0,none⟩) l:=
 .inr ⟨b,0,rfl,hb,fun k x hx j v hv=>by
  rw[(blk_cells hg).1,<-Array.getElem?_toList,hcs,Nat.zero_add]
  exact flat_at enc size hs hx hv⟩
section
variable {α : Type} {enc : α -> List Value} {ST ET : TypeId} {z : Value} {size bytes : Nat}
theorem own_bare {W:World}{g n₀:Nat}(hg:W.heap[g]?=some (.cells #[] ET (0,0)))(hn:n₀<=g):W.ownsRow n₀ ET size (.slice (some ⟨g,0,none⟩) 0 0) 0 (([]:List α).flatMap enc):=
 ⟨by simp,.inr ⟨g,0,#[],rfl,hn,hg,Nat.le_refl _,by unfold maxLen;omega,by simp,by simp⟩⟩
theorem bs_nil (L:Lay enc ST ET z size bytes)(W:World):(Instr.buildSlice ST 0 #[]).run Tryz.prog W=.ok (.slice (some ⟨W.heap.size,0,none⟩) 0 0) (W.alloc (.cells #[] ET)):=by
 obtain⟨i0,hi0,hz0,hz1,hz2⟩:=info_parts L.hi
 simp[Instr.buildSlice,run_underlying L.ht,sizeOf,typeInfo,hi0,Instr.fill,newRow]
 rw[show Array.map (fun _=>(default:Value)) (Array.range 0)= #[] from Array.eq_empty_of_size_eq_zero (by simp)]
theorem own_app_segG (L:Lay enc ST ET z size bytes){n₀ k:Nat}{w1:World}{g c0:Nat}{l:List α}(hr:w1.ownsRow n₀ ET size (.slice (some ⟨g,0,none⟩) k c0) k (l.flatMap enc))(A:Option Addr)(c:Nat)(r:List α)(hs:Seg enc size w1 w1.heap.size A r)
  (h63:k+r.length<=200000) (hb:bytes<=100000) (hn:n₀<=w1.heap.size):
  ∃g' c' w2,(Builtin.append_ #[ST,ST] ST #[.slice (some ⟨g,0,none⟩) k c0,.slice A r.length c]).run Tryz.prog w1=.ok (.slice (some ⟨g',0,none⟩) (k+r.length) c') w2∧w2.ownsRow n₀ ET size (.slice (some ⟨g',0,none⟩) (k+r.length) c') (k+r.length) ((l++r).flatMap enc)∧w1.grownBy w2 (some g):=by
 obtain⟨i0,hi0,hz0,hz1,hz2⟩:=info_parts L.hi
 have hmul:(k+r.length)*bytes<=140737488355328:=Nat.le_trans (Nat.mul_le_mul h63 hb) (by decide)
 cases A with
 | none=>
  obtain rfl:r=[]:=by
   rcases hs with h|⟨b,off,h,_⟩
   ·exact h
   ·cases h
  refine⟨g,c0,w1,?_,by simpa using hr,World.grownBy.refl _ _⟩
  have hsrc:Src Tryz.prog i0.size ST (.slice none 0 c) 0 [] w1:=Src.ofNil w1 L.ht c
  rcases hr.2 with ⟨h,_⟩|⟨g',cap,cur,h,_,_,hle,_⟩
  ·cases h
  ·cases h
   exact run_append_nothing w1 ST ST ST ET i0 L.ht hi0 (some ⟨g,0,none⟩) k c0 hle _ hsrc
 | some a=>
  have hcell: ∀j u,(r.flatMap enc)[j]?=some u->w1.cell? (a.add j)=some u:=by
   intro j u hj
   rcases hs with h|⟨b,off,h,hlt,hc⟩
   ·subst h;simp at hj
   ·obtain⟨k',x,m,h1,h2,rfl⟩:=flat_inv enc size L.hs L.henc hj
    cases h
    rw[Go.WideShapes.add_plain,<-Nat.add_assoc]
    exact hc k' x h1 m u h2
  have hone: ∀u∈r.flatMap enc,u.oneCell'=true:=by
   intro u hu
   obtain⟨x,_,hx⟩:=List.mem_flatMap.1 hu
   exact L.hone x u hx
  obtain⟨v',w2,hrun,hown,hgrow,hnil,_⟩:=run_append_own_at (P:=Tryz.prog) (w:=w1) n₀ ST ST ET i0 _ size bytes L.ht hi0 hz0 hz1 hz2 L.hz L.hs _ k (l.flatMap enc) hr a r.length c (r.flatMap enc)
   (by rw[flat_len enc size L.henc]) hcell hone (by unfold maxLen;omega) hmul hn
  rcases hown.2 with ⟨h,_⟩|⟨g',cap',cur,rfl,_⟩
  ·cases (hnil.1 h).1
  ·exact⟨g',cap',w2,hrun,by rw[List.flatMap_append];exact hown,hgrow⟩
structure Copied (enc:α->List Value)(size:Nat)(W Wb:World)(l:List α)(g c:Nat):Prop where
 seg:Seg enc size Wb Wb.heap.size (some ⟨g,0,none⟩) l
 cap:l.length<=c
 all:Below W.heap.size W Wb
 new:W.heap.size<=g
theorem copied_of (L:Lay enc ST ET z size bytes){W Wb:World}{l:List α}{x:α}{g c:Nat}(h:Wb.ownsRow W.heap.size ET size (.slice (some ⟨g,0,none⟩) (l.length+1) c) (l.length+1) ((l++[x]).flatMap enc))(hb:Below W.heap.size W Wb):Copied enc size W Wb (l++[x]) g c:=by
 rw[show l.length+1=(l++[x]).length by simp]at h
 obtain⟨A',c',hv,hS,hc,hF⟩:=own_seg L h
 cases hv
 exact⟨hS,hc,hb,hF _ rfl⟩
section
variable {W : World} {A : Option Addr} {c : Nat} {l : List α} {x : α} {cs : Array Value}
theorem copy_A (L:Lay enc ST ET z size bytes)(hs:Seg enc size W W.heap.size A l)(hl:l.length<=100000)(hb:bytes<=100000)(hcs:cs.toList=enc x):
  ∃g1 c1 Wa g2 c2 Wb,(Builtin.append_ #[ST,ST] ST #[.slice (some ⟨W.heap.size,0,none⟩) 0 0,.slice A l.length c]).run Tryz.prog (W.alloc (.cells #[] ET))=.ok (.slice (some ⟨g1,0,none⟩) l.length c1) Wa∧
   (Builtin.append_ #[ST,ST] ST #[.slice (some ⟨g1,0,none⟩) l.length c1,.slice (some ⟨Wa.heap.size,0,none⟩) 1 1]).run Tryz.prog (Wa.alloc (.cells cs ET))=.ok (.slice (some ⟨g2,0,none⟩) (l.length+1) c2) Wb∧
   Below W.heap.size W Wa∧Copied enc size W Wb (l++[x]) g2 c2:=by
 have kg:=heap_alloc_new W (.cells (#[]:Array Value) ET)
 have hb0:Below W.heap.size W (W.alloc (.cells #[] ET)):=(Below.refl _ W).alloc (Nat.le_refl _) _
 obtain⟨g1,c1,Wa,r1,o1,gr1⟩:=own_app_segG L (own_bare kg (Nat.le_refl _)) A c l (hs.up hb0) (by omega) hb hb0.size
 simp only[Nat.zero_add,List.nil_append]at r1 o1
 have hba:Below W.heap.size W Wa:=hb0.grown gr1 hb0.size (fun j e=>by cases e;exact Nat.le_refl _)
 have kx:=heap_alloc_new Wa (.cells cs ET)
 have sx:Seg enc size (Wa.alloc (.cells cs ET)) (Wa.alloc (.cells cs ET)).heap.size (some ⟨Wa.heap.size,0,none⟩) [x]:=row_seg0 L.henc (by simp) kx (by simp[hcs])
 have hbx:Below W.heap.size W (Wa.alloc (.cells cs ET)):=hba.alloc hba.size _
 obtain⟨g2,c2,Wb,r2,o2,gr2⟩:=own_app_segG L (o1.alloc (.cells cs ET)) _ 1 [x] sx (by simp;omega) hb hbx.size
 have hg1:=(o1.lt g1 rfl).1
 exact⟨g1,c1,Wa,g2,c2,Wb,r1,r2,hba,copied_of L o2 (hbx.grown gr2 hbx.size (fun j e=>by cases e;exact hg1))⟩
theorem copy_B (L:Lay enc ST ET z size bytes)(hs:Seg enc size W W.heap.size A l)(hl:l.length<=100000)(hb:bytes<=100000)(hcs:cs.toList=enc x):
  ∃g1 c1 Wa g2 c2 Wb,(Builtin.append_ #[ST,ST] ST #[.slice (some ⟨W.heap.size,0,none⟩) 0 0,.slice A l.length c]).run Tryz.prog ((W.alloc (.cells #[] ET)).alloc (.cells cs ET))=.ok (.slice (some ⟨g1,0,none⟩) l.length c1) Wa∧
   (Builtin.append_ #[ST,ST] ST #[.slice (some ⟨g1,0,none⟩) l.length c1,.slice (some ⟨W.heap.size+1,0,none⟩) 1 1]).run Tryz.prog Wa=.ok (.slice (some ⟨g2,0,none⟩) (l.length+1) c2) Wb∧
   Below W.heap.size W Wa∧Copied enc size W Wb (l++[x]) g2 c2:=by
 have kg0:=heap_alloc_new W (.cells (#[]:Array Value) ET)
 have kg:=(Below.heap_alloc _ (.cells cs ET) _ (lO kg0)).trans kg0
 have hb0:Below W.heap.size W ((W.alloc (.cells #[] ET)).alloc (.cells cs ET)):=((Below.refl _ W).alloc (Nat.le_refl _) _).alloc (by simp) _
 have kx:=heap_alloc_new (W.alloc (.cells (#[]:Array Value) ET)) (.cells cs ET)
 rw[World.size_alloc]at kx
 obtain⟨g1,c1,Wa,r1,o1,gr1⟩:=own_app_segG L (own_bare kg (Nat.le_refl _)) A c l (hs.up hb0) (by omega) hb hb0.size
 simp only[Nat.zero_add,List.nil_append]at r1 o1
 have hba:Below W.heap.size W Wa:=hb0.grown gr1 hb0.size (fun j e=>by cases e;exact Nat.le_refl _)
 have kx2:=(gr1.block _ (lO kx) (by simp)).trans kx
 have sx:Seg enc size Wa Wa.heap.size (some ⟨W.heap.size+1,0,none⟩) [x]:=row_seg0 L.henc (lO kx2) kx2 (by simp[hcs])
 obtain⟨g2,c2,Wb,r2,o2,gr2⟩:=own_app_segG L o1 _ 1 [x] sx (by simp;omega) hb hba.size
 have hg1:=(o1.lt g1 rfl).1
 exact⟨g1,c1,Wa,g2,c2,Wb,r1,r2,hba,copied_of L o2 (hba.grown gr2 hba.size (fun j e=>by cases e;exact hg1))⟩
theorem copy_C (L:Lay enc ST ET z size bytes)(hs:Seg enc size W W.heap.size A l)(hl:l.length<=100000)(hb:bytes<=100000)(hcs:cs.toList=enc x):
  ∃g1 c1 Wa g2 c2 Wb,(Builtin.append_ #[ST,ST] ST #[.slice (some ⟨W.heap.size+1,0,none⟩) 0 0,.slice A l.length c]).run Tryz.prog ((W.alloc (.cells cs ET)).alloc (.cells #[] ET))=.ok (.slice (some ⟨g1,0,none⟩) l.length c1) Wa∧
   (Builtin.append_ #[ST,ST] ST #[.slice (some ⟨g1,0,none⟩) l.length c1,.slice (some ⟨W.heap.size,0,none⟩) 1 1]).run Tryz.prog Wa=.ok (.slice (some ⟨g2,0,none⟩) (l.length+1) c2) Wb∧
   Below W.heap.size W Wa∧Copied enc size W Wb (l++[x]) g2 c2:=by
 have kx0:=heap_alloc_new W (.cells cs ET)
 have kx:=(Below.heap_alloc _ (.cells (#[]:Array Value) ET) _ (lO kx0)).trans kx0
 have kg:=heap_alloc_new (W.alloc (.cells cs ET)) (.cells (#[]:Array Value) ET)
 rw[World.size_alloc]at kg
 have hb0:Below W.heap.size W ((W.alloc (.cells cs ET)).alloc (.cells #[] ET)):=((Below.refl _ W).alloc (Nat.le_refl _) _).alloc (by simp) _
 obtain⟨g1,c1,Wa,r1,o1,gr1⟩:=own_app_segG L (own_bare kg (Nat.le_succ _)) A c l (hs.up hb0) (by omega) hb hb0.size
 simp only[Nat.zero_add,List.nil_append]at r1 o1
 have hba:Below W.heap.size W Wa:=hb0.grown gr1 hb0.size (fun j e=>by cases e;exact Nat.le_succ _)
 have kx2:=(gr1.block _ (lO kx) (by simp)).trans kx
 have sx:Seg enc size Wa Wa.heap.size (some ⟨W.heap.size,0,none⟩) [x]:=row_seg0 L.henc (lO kx2) kx2 (by simp[hcs])
 obtain⟨g2,c2,Wb,r2,o2,gr2⟩:=own_app_segG L o1 _ 1 [x] sx (by simp;omega) hb hba.size
 have hg1:=(o1.lt g1 rfl).1
 exact⟨g1,c1,Wa,g2,c2,Wb,r1,r2,hba,copied_of L o2 (hba.grown gr2 hba.size (fun j e=>by cases e;exact hg1))⟩
end
end
end Go.Proofs.YtgbpekeoegfjpaaGreatDoor
set_option maxRecDepth 100000
namespace Go.Proofs.YtgbpekeoegfjpaaGreatDoor
open Go.RowKit
attribute [-go_sem] run_equalIn_agg loadVar storeVar
attribute [local go_sem] lv_int lv_bool lv_u8 lv_string lv_strings sv_int
theorem sv_one {t:TypeId}(h:(Tryz.prog.info? t).map (·.size)=some 1)(g i:Nat){v:Value}(hv:v.cells= #[v])(w:World):(storeVar t ⟨g,i,none⟩ v).run Tryz.prog w=(store ⟨g,i,none⟩ v).run Tryz.prog w:=by
 obtain⟨inf,hi,hs⟩: ∃inf,Tryz.prog.info? t=some inf∧inf.size=1:=by
  cases hq:Tryz.prog.info? t with
  |none=>rw[hq]at h;cases h
  |some inf=>rw[hq]at h;exact⟨inf,rfl,by simpa using h⟩
 have hz:(sizeOf t).run Tryz.prog w=.ok 1 w:=by
  have:=run_sizeOf (P:=Tryz.prog) w hi
  rw[this,show Tryz.prog.cellsOf t=inf.size by simp[Program.cellsOf,hi],hs]
 simp[storeVar,Sem.run_bind,hz,hv,storeCells,Addr.add]
theorem sv_string (g i:Nat)(s:ByteArray)(w:World):(storeVar 9 ⟨g,i,none⟩ (.string s)).run Tryz.prog w=(store ⟨g,i,none⟩ (.string s)).run Tryz.prog w:=sv_one (by kernel_rfl) g i rfl w
theorem sv_nms (g i:Nat)(A:Option Addr)(n c:Nat)(w:World):(storeVar 24 ⟨g,i,none⟩ (.slice A n c)).run Tryz.prog w=(store ⟨g,i,none⟩ (.slice A n c)).run Tryz.prog w:=sv_one (by kernel_rfl) g i rfl w
attribute [local go_sem] sv_string sv_nms
theorem info_itm :(Tryz.prog.info? 106).map (·.size)=some 5:=by kernel_rfl
structure ItW (w:World)(xa:Array Value)(W:World):Prop where
 kr:W.heap[w.heap.size]?=some (.cells #[.string ⟨#[]⟩,.string ⟨#[]⟩,.slice none 0 0,.int .i64 0,.int .i64 0] 106 (0,0))
 kx:W.heap[w.heap.size+1]?=some (.cells xa 106 (0,0))
 all:Below w.heap.size w W
theorem ItW.set {w:World}{xa:Array Value}{W:World}(h:ItW w xa W)(i:Nat)(v:Value):ItW w (xa.setIfInBounds i v) (W.setCell ⟨w.heap.size+1,i,none⟩ v):=
 ⟨(Below.heap_setCell _ _ _ _ (show w.heap.size≠w.heap.size+1 by omega)).trans h.kr,heap_setCell_same _ _ _ _ _ _ h.kx,h.all.setCell (p:=⟨w.heap.size+1,i,none⟩) (show w.heap.size<=w.heap.size+1 by omega) _⟩
theorem ItW.drew {w:World}{xa:Array Value}{W:World}(h:ItW w xa W):ItW w xa W.drew:=⟨h.kr,h.kx,h.all.drew⟩
theorem it_w (w:World)(k:ByteArray): ∃W1,(storeVar 106 ⟨w.heap.size+1,0,none⟩ (.agg #[.string k,.string ⟨#[]⟩,.slice none 0 0,.int .i64 0,.int .i64 0])).run Tryz.prog ((w.alloc (.cells #[.string ⟨#[]⟩,.string ⟨#[]⟩,.slice none 0 0,.int .i64 0,.int .i64 0] 106)).alloc (.cells #[.string ⟨#[]⟩,.string ⟨#[]⟩,.slice none 0 0,.int .i64 0,.int .i64 0] 106))=.ok () W1∧ItW w #[.string k,.string ⟨#[]⟩,.slice none 0 0,.int .i64 0,.int .i64 0] W1:=by
 have k1:=heap_alloc2_old w (.cells #[.string ⟨#[]⟩,.string ⟨#[]⟩,.slice none 0 0,.int .i64 0,.int .i64 0] 106) (.cells #[.string ⟨#[]⟩,.string ⟨#[]⟩,.slice none 0 0,.int .i64 0,.int .i64 0] 106)
 have k2:=heap_alloc2_new w (.cells #[.string ⟨#[]⟩,.string ⟨#[]⟩,.slice none 0 0,.int .i64 0,.int .i64 0] 106) (.cells #[.string ⟨#[]⟩,.string ⟨#[]⟩,.slice none 0 0,.int .i64 0,.int .i64 0] 106)
 have hb:Below w.heap.size w ((w.alloc (.cells #[.string ⟨#[]⟩,.string ⟨#[]⟩,.slice none 0 0,.int .i64 0,.int .i64 0] 106)).alloc (.cells #[.string ⟨#[]⟩,.string ⟨#[]⟩,.slice none 0 0,.int .i64 0,.int .i64 0] 106)):=((Below.refl _ w).alloc (Nat.le_refl _) _).alloc (by simp) _
 obtain⟨W1,st,k3,hg⟩:=st_row _ (w.heap.size+1) 106 106 #[.string ⟨#[]⟩,.string ⟨#[]⟩,.slice none 0 0,.int .i64 0,.int .i64 0] #[.string k,.string ⟨#[]⟩,.slice none 0 0,.int .i64 0,.int .i64 0] k2 info_itm rfl (by simp[Value.oneCell'])
 exact⟨W1,st,(hg.block _ (lO k1) (by simp)).trans k1,k3,hb.grown hg hb.size (fun j e=>by cases e;omega)⟩
def itX (n:ByteArray)(b off c0:Nat):Pl.Item->Array Value
 | .station _ x=> #[.string ⟨#[115,116,97,116,105,111,110]⟩,.string n,.slice none 0 0,.int .i64 x,.int .i64 0]
 | .limit _=> #[.string ⟨#[108,105,109,105,116]⟩,.string n,.slice none 0 0,.int .i64 0,.int .i64 0]
 | .parcel _ _ _ _=> #[.string ⟨#[112,97,114,99,101,108]⟩,.string n,.slice (some ⟨b,off+2,none⟩) 3 (c0-2),.int .i64 0,.int .i64 0]
 | .variation y e=> #[.string ⟨#[118,97,114,105,97,116,105,111,110]⟩,.string n,.slice none 0 0,.int .i64 y,.int .i64 e]
def EndIt (o:Option Pl.Item)(n:ByteArray)(b off c0:Nat)(w:World)(e:Ending)(w':World):Prop:=
 ∃X:Array Value,e=.returned (.tuple #[.agg X,.bool o.isSome])∧X.size=5∧X.all (·.oneCell')=true∧(∀x,o=some x->X=itX n b off c0 x)∧Below w.heap.size w w'
set_option maxHeartbeats 32000000 in
theorem it_one (b off c0:Nat)(n n0:ByteArray)(l:List ByteArray)(w:World)(u0: ∀W,Below w.heap.size w W->W.cell? ⟨b,off,none⟩=some (.string n0))(hl:l.length=1)(HI:Hid (Pl.item l=none)):
  Calls Tryz.prog 76 #[.slice (some ⟨b,off,none⟩) l.length c0] w (EndIt (Pl.item l) n b off c0 w):=by
 have g1:(0:Int)<(l.length:Int):=by omega
 have g2:(l.length:Int)<2:=by omega
 obtain⟨W1,st1,H⟩:=it_w w n0
 have a0:=u0 _ (((Below.refl _ w).alloc (Nat.le_refl _) (.cells #[.string ⟨#[]⟩,.string ⟨#[]⟩,.slice none 0 0,.int .i64 0,.int .i64 0] 106)))
 have a0':=u0 _ (Below.refl _ w)
 clear hl
 have lx:=ld_row H.kx Tryz.underlying106 rfl info_itm
 obtain⟨W9,st9,kr9,hg9⟩:=st_row W1 w.heap.size 106 106 #[.string ⟨#[]⟩,.string ⟨#[]⟩,.slice none 0 0,.int .i64 0,.int .i64 0] #[.string n0,.string ⟨#[]⟩,.slice none 0 0,.int .i64 0,.int .i64 0] H.kr info_itm rfl (by simp[Value.oneCell'])
 have l9:=ld_row kr9 Tryz.underlying106 rfl info_itm
 have hB9:Below w.heap.size w W9:=H.all.grown hg9 H.all.size (fun j e=>by cases e;exact Nat.le_refl _)
 rw[HI.out]
 go_enter Tryz.func76,Tryz.ntmps76
 go_wp2
 refine bodyPost_ret (v:=.tuple #[.agg #[.string n0,.string ⟨#[]⟩,.slice none 0 0,.int .i64 0,.int .i64 0],.bool false]) (by simp[results,Tryz.results76,go_sem,l9]) rfl ?_
 exact⟨#[.string n0,.string ⟨#[]⟩,.slice none 0 0,.int .i64 0,.int .i64 0],rfl,rfl,by simp[Value.oneCell'],(fun x hx=>by cases hx),hB9⟩
end Go.Proofs.YtgbpekeoegfjpaaGreatDoor
set_option maxRecDepth 100000
namespace Go.Proofs.YtgbpekeoegfjpaaGreatDoor
open Go.RowKit
attribute [-go_sem] run_equalIn_agg loadVar storeVar
attribute [local go_sem] lv_int lv_bool lv_u8 lv_string lv_strings sv_int sv_string sv_nms
set_option maxHeartbeats 32000000 in
theorem it_no (b off c0:Nat)(n0 n1:ByteArray)(l:List ByteArray)(v1 v2 v3 v4 b2 b3 b5:Bool)(w:World)(u0: ∀W,Below w.heap.size w W->W.cell? ⟨b,off,none⟩=some (.string n0))(u1: ∀W,Below w.heap.size w W->W.cell? ⟨b,off+1,none⟩=some (.string n1))(hl:2<=l.length)
  (hv1:(n0.toList==[118,97,114,105,97,116,105,111,110])=v1) (hv2:(n0.toList==[115,116,97,116,105,111,110])=v2) (hv3:(n0.toList==[108,105,109,105,116])=v3) (hv4:(n0.toList==[112,97,114,99,101,108])=v4) (hb2:((l.length:Int)==2)=b2) (hb3:((l.length:Int)==3)=b3) (hb5:((l.length:Int)==5)=b5)
  (h:(v1=false∧v2=false∧v3=false∧v4=false)∨(v1=true∧v2=false∧v3=false∧v4=false∧b3=false)∨(v1=false∧v2=true∧v3=false∧v4=false∧b3=false)∨(v1=false∧v2=false∧v3=true∧v4=false∧b2=false)∨(v1=false∧v2=false∧v3=false∧v4=true∧b5=false)) (HI:Hid (Pl.item l=none)):
  Calls Tryz.prog 76 #[.slice (some ⟨b,off,none⟩) l.length c0] w (EndIt (Pl.item l) n1 b off c0 w):=by
 have g1:(0:Int)<(l.length:Int):=by omega
 have g2:(1:Int)<(l.length:Int):=by omega
 have g3: ¬(l.length:Int)<2:=by omega
 obtain⟨W1,st1,H⟩:=it_w w n0
 have a0:=u0 _ (((Below.refl _ w).alloc (Nat.le_refl _) (.cells #[.string ⟨#[]⟩,.string ⟨#[]⟩,.slice none 0 0,.int .i64 0,.int .i64 0] 106)))
 have a0':=u0 _ (Below.refl _ w)
 have a1:=u1 _ H.all
 have kx1:=H.kx
 replace H:=H.set 1 (.string n1)
 simp only[q1,q2,q3]at H
 obtain⟨WX,hWX⟩: ∃X,W1.setCell ⟨w.heap.size+1,1,none⟩ (.string n1)=X:=⟨_,rfl⟩
 rw[hWX]at H
 have a2:=u0 _ H.all
 clear hl u0 u1
 have lx:=ld_row H.kx Tryz.underlying106 rfl info_itm
 obtain⟨W9,st9,kr9,hg9⟩:=st_row WX w.heap.size 106 106 #[.string ⟨#[]⟩,.string ⟨#[]⟩,.slice none 0 0,.int .i64 0,.int .i64 0] #[.string n0,.string n1,.slice none 0 0,.int .i64 0,.int .i64 0] H.kr info_itm rfl (by simp[Value.oneCell'])
 have l9:=ld_row kr9 Tryz.underlying106 rfl info_itm
 have hB9:Below w.heap.size w W9:=H.all.grown hg9 H.all.size (fun j e=>by cases e;exact Nat.le_refl _)
 rw[HI.out]
 obtain⟨hcw,hfw⟩:=blk_cells kx1
 clear kx1
 rcases h with ⟨rfl,rfl,rfl,rfl⟩|⟨rfl,rfl,rfl,rfl,rfl⟩|⟨rfl,rfl,rfl,rfl,rfl⟩|⟨rfl,rfl,rfl,rfl,rfl⟩|⟨rfl,rfl,rfl,rfl,rfl⟩
 all_goals (
  go_enter Tryz.func76,Tryz.ntmps76
  go_wp2
  refine bodyPost_ret (v:=.tuple #[.agg #[.string n0,.string n1,.slice none 0 0,.int .i64 0,.int .i64 0],.bool false]) (by simp[results,Tryz.results76,go_sem,l9]) rfl ?_
  exact⟨#[.string n0,.string n1,.slice none 0 0,.int .i64 0,.int .i64 0],rfl,rfl,by simp[Value.oneCell'],(fun x hx=>by cases hx),hB9⟩)
end Go.Proofs.YtgbpekeoegfjpaaGreatDoor
set_option maxRecDepth 100000
namespace Go.Proofs.YtgbpekeoegfjpaaGreatDoor
open Go.RowKit
attribute [-go_sem] run_equalIn_agg loadVar storeVar
attribute [local go_sem] lv_int lv_bool lv_u8 lv_string lv_strings sv_int sv_string sv_nms
set_option maxHeartbeats 32000000 in
theorem it_var (b off c0:Nat)(x y:ByteArray)(w:World)(u0: ∀W,Below w.heap.size w W->W.cell? ⟨b,off,none⟩=some (.string ⟨#[118,97,114,105,97,116,105,111,110]⟩))(u1: ∀W,Below w.heap.size w W->W.cell? ⟨b,off+1,none⟩=some (.string x))(u2: ∀W,Below w.heap.size w W->W.cell? ⟨b,off+2,none⟩=some (.string y))(hsx:x.size<=100000)(hsy:y.size<=100000):
  Calls Tryz.prog 76 #[.slice (some ⟨b,off,none⟩) 3 c0] w (EndIt (Pl.item [⟨#[118,97,114,105,97,116,105,111,110]⟩,x,y]) x b off c0 w):=by
 obtain⟨W1,st1,H⟩:=it_w w ⟨#[118,97,114,105,97,116,105,111,110]⟩
 have a0:=u0 _ (((Below.refl _ w).alloc (Nat.le_refl _) (.cells #[.string ⟨#[]⟩,.string ⟨#[]⟩,.slice none 0 0,.int .i64 0,.int .i64 0] 106)))
 have a0':=u0 _ (Below.refl _ w)
 have a1:=u1 _ H.all
 have kx1:=H.kx
 replace H:=H.set 1 (.string x)
 simp only[q1,q2,q3]at H
 obtain⟨hcw,hfw⟩:=blk_cells (show W1.heap[w.heap.size+1]?=some (.cells #[.string ⟨#[118,97,114,105,97,116,105,111,110]⟩,.string ⟨#[]⟩,.slice none 0 0,.int .i64 0,.int .i64 0] 106 (0,0)) from kx1)
 obtain⟨WX,hWX⟩: ∃X,W1.setCell ⟨w.heap.size+1,1,none⟩ (.string x)=X:=⟨_,rfl⟩
 rw[hWX]at H
 clear kx1
 obtain⟨hcx,hfx⟩:=blk_cells H.kx
 have a2:=u0 _ H.all
 have a3:=u1 _ H.all
 have a4:=u2 _ H.all
 have hit:Pl.item [⟨#[118,97,114,105,97,116,105,111,110]⟩,x,y]=(Pl.numF x).bind fun p=>(Pl.sgnV y).map (Pl.Item.variation p):=rfl
 obtain⟨ova,hova⟩: ∃z_,Pl.numF x=z_:=⟨_,rfl⟩
 obtain⟨va,hva⟩: ∃z_,ova.getD 0=z_:=⟨_,rfl⟩
 obtain⟨ba,hba⟩: ∃z_,ova.isSome=z_:=⟨_,rfl⟩
 have pva:Calls Tryz.prog 147 #[.string x] WX fun e w'=>e=.returned (.tuple #[.int .i64 va,.bool ba])∧WX=w':=by rw[<-hva,<-hba];exact number3_h x ova WX (Lib.hid hova) (by omega)
 obtain⟨ovb,hovb⟩: ∃z_,Pl.sgnV y=z_:=⟨_,rfl⟩
 obtain⟨vb,hvb⟩: ∃z_,ovb.getD 0=z_:=⟨_,rfl⟩
 obtain⟨bb,hbb⟩: ∃z_,ovb.isSome=z_:=⟨_,rfl⟩
 have pvb:Calls Tryz.prog 148 #[.string y] WX fun e w'=>e=.returned (.tuple #[.int .i64 vb,.bool bb])∧WX=w':=by rw[<-hvb,<-hbb];exact signed3_h y ovb WX (Lib.hid hovb) (by omega)
 rw[hova,hovb]at hit
 have HI:=Lib.hid hit
 clear hit hova hovb
 go_enter Tryz.func76,Tryz.ntmps76
 go_wp2_with fail
 refine pva.mono ?_
 clear pva
 rintro e w' ⟨rfl,rfl⟩
 go_wp2_with fail
 refine pvb.mono ?_
 clear pvb
 rintro e w' ⟨rfl,rfl⟩
 replace H:=(H.set 3 (.int .i64 va)).set 4 (.int .i64 vb)
 simp only[q1,q2,q3]at H
 obtain⟨WY,hWY⟩: ∃X,(WX.setCell ⟨w.heap.size+1,3,none⟩ (.int .i64 va)).setCell ⟨w.heap.size+1,4,none⟩ (.int .i64 vb)=X:=⟨_,rfl⟩
 rw[hWY]at H
 have lx:=ld_row H.kx Tryz.underlying106 rfl info_itm
 obtain⟨W9,st9,kr9,hg9⟩:=st_row WY w.heap.size 106 106 #[.string ⟨#[]⟩,.string ⟨#[]⟩,.slice none 0 0,.int .i64 0,.int .i64 0] #[.string ⟨#[118,97,114,105,97,116,105,111,110]⟩,.string x,.slice none 0 0,.int .i64 va,.int .i64 vb] H.kr info_itm rfl (by simp[Value.oneCell'])
 have l9:=ld_row kr9 Tryz.underlying106 rfl info_itm
 have hB9:Below w.heap.size w W9:=H.all.grown hg9 H.all.size (fun j e=>by cases e;exact Nat.le_refl _)
 cases ba with
 | false=>
  go_wp2
  rw[HI.out]
  refine bodyPost_ret (v:=.tuple #[.agg #[.string ⟨#[118,97,114,105,97,116,105,111,110]⟩,.string x,.slice none 0 0,.int .i64 va,.int .i64 vb],.bool false]) (by simp[results,Tryz.results76,go_sem,l9]) rfl ?_
  exact⟨#[.string ⟨#[118,97,114,105,97,116,105,111,110]⟩,.string x,.slice none 0 0,.int .i64 va,.int .i64 vb],by cases ova<;>cases ovb<;>first|rfl|(cases hba;done)|(cases hbb;done),rfl,by simp[Value.oneCell'],(fun q hq=>by
   cases ova with
   |none=>cases hq
   | some v1=>
    cases ovb with
    |none=>cases hq
    |some v2=>
     obtain rfl:=Option.some.inj hq
     subst hva hvb
     rfl),hB9⟩
 | true=>
  go_wp2
  rw[HI.out]
  refine bodyPost_ret (v:=.tuple #[.agg #[.string ⟨#[118,97,114,105,97,116,105,111,110]⟩,.string x,.slice none 0 0,.int .i64 va,.int .i64 vb],.bool bb]) (by simp[results,Tryz.results76,go_sem,l9]) rfl ?_
  exact⟨#[.string ⟨#[118,97,114,105,97,116,105,111,110]⟩,.string x,.slice none 0 0,.int .i64 va,.int .i64 vb],by rw[<-hbb];cases ova<;>cases ovb<;>first|rfl|(cases hba;done),rfl,by simp[Value.oneCell'],(fun q hq=>by
   cases ova with
   |none=>cases hq
   | some v1=>
    cases ovb with
    |none=>cases hq
    |some v2=>
     obtain rfl:=Option.some.inj hq
     subst hva hvb
     rfl),hB9⟩
set_option maxHeartbeats 32000000 in
theorem it_lim (b off c0:Nat)(x:ByteArray)(w:World)(u0: ∀W,Below w.heap.size w W->W.cell? ⟨b,off,none⟩=some (.string ⟨#[108,105,109,105,116]⟩))(u1: ∀W,Below w.heap.size w W->W.cell? ⟨b,off+1,none⟩=some (.string x))(hsx:x.size<=100000):
  Calls Tryz.prog 76 #[.slice (some ⟨b,off,none⟩) 2 c0] w (EndIt (Pl.item [⟨#[108,105,109,105,116]⟩,x]) x b off c0 w):=by
 obtain⟨W1,st1,H⟩:=it_w w ⟨#[108,105,109,105,116]⟩
 have a0:=u0 _ (((Below.refl _ w).alloc (Nat.le_refl _) (.cells #[.string ⟨#[]⟩,.string ⟨#[]⟩,.slice none 0 0,.int .i64 0,.int .i64 0] 106)))
 have a0':=u0 _ (Below.refl _ w)
 have a1:=u1 _ H.all
 have kx1:=H.kx
 replace H:=H.set 1 (.string x)
 simp only[q1,q2,q3]at H
 obtain⟨hcw,hfw⟩:=blk_cells (show W1.heap[w.heap.size+1]?=some (.cells #[.string ⟨#[108,105,109,105,116]⟩,.string ⟨#[]⟩,.slice none 0 0,.int .i64 0,.int .i64 0] 106 (0,0)) from kx1)
 obtain⟨WX,hWX⟩: ∃X,W1.setCell ⟨w.heap.size+1,1,none⟩ (.string x)=X:=⟨_,rfl⟩
 rw[hWX]at H
 clear kx1
 obtain⟨hcx,hfx⟩:=blk_cells H.kx
 have a2:=u0 _ H.all
 have hit:Pl.item [⟨#[108,105,109,105,116]⟩,x]=if Pl.isName x=true then some (.limit x)else none:=by
  show(if (⟨#[108,105,109,105,116]⟩:ByteArray)=Pl.wLimit∧Pl.isName x=true then some (Pl.Item.limit x)else none)=_
  unfold Pl.wLimit
  simp
 obtain⟨ba,hba⟩: ∃z,Pl.isName x=z:=⟨_,rfl⟩
 have pn:=fun W=>isName_b x W (by omega)
 rw[hba]at hit pn
 have HI:=Lib.hid hit
 clear hit hba
 go_enter Tryz.func76,Tryz.ntmps76
 go_wp2
 clear a0 a0' a1 hWX st1
 replace H:=H.drew
 have a3:=u1 _ H.all
 have lx:=ld_row H.kx Tryz.underlying106 rfl info_itm
 obtain⟨W9,st9,kr9,hg9⟩:=st_row WX.drew w.heap.size 106 106 #[.string ⟨#[]⟩,.string ⟨#[]⟩,.slice none 0 0,.int .i64 0,.int .i64 0] #[.string ⟨#[108,105,109,105,116]⟩,.string x,.slice none 0 0,.int .i64 0,.int .i64 0] H.kr info_itm rfl (by simp[Value.oneCell'])
 have l9:=ld_row kr9 Tryz.underlying106 rfl info_itm
 have hB9:Below w.heap.size w W9:=H.all.grown hg9 H.all.size (fun j e=>by cases e;exact Nat.le_refl _)
 have lx9:=ld_row ((hg9.block _ (lO H.kx) (by simp)).trans H.kx) Tryz.underlying106 rfl info_itm
 have a9:=u1 _ hB9
 refine wp_region_held_drew (S:=fun W=>(loadVar 106 ⟨w.heap.size+1,0,none⟩).run Tryz.prog W=.ok (.agg #[.string ⟨#[108,105,109,105,116]⟩,.string x,.slice none 0 0,.int .i64 0,.int .i64 0]) W∧W.cell? ⟨b,off+1,none⟩=some (.string x)) (by kernel_rfl) ⟨lx,a3⟩ (fun hHeld=> ?_)
 refine takeH 0 (some 90) (v:= ?_) rfl rfl (by kernel_rfl) (by kernel_rfl) (by kernel_rfl) (fun _ _ _ h=>h) (Or.inl ⟨by rfl,fun W hW=> ?_⟩) (by assumption) ?_
 rotate_left
 ·(try dsimp only at hW);obtain⟨s1,s2⟩:=hW;go_simp;try with_reducible rfl
 try simp only[Act.put,q1,q2,q3]
 refine takeH 1 (some 91) (v:= ?_) rfl rfl (by kernel_rfl) (by kernel_rfl) (by kernel_rfl) (fun _ _ _ h=>h) (Or.inl ⟨by rfl,fun W hW=> ?_⟩) (by assumption) ?_
 rotate_left
 ·(try dsimp only at hW);obtain⟨s1,s2⟩:=hW;go_simp;try with_reducible rfl
 try simp only[Act.put,q1,q2,q3]
 refine takeH 2 (some 92) (v:= ?_) rfl rfl (by kernel_rfl) (by kernel_rfl) (by kernel_rfl) (fun _ _ _ h=>h) (Or.inl ⟨by rfl,fun W hW=> ?_⟩) (by assumption) ?_
 rotate_left
 ·(try dsimp only at hW);obtain⟨s1,s2⟩:=hW;go_simp;try with_reducible rfl
 try simp only[Act.put,q1,q2,q3]
 refine takeH 3 (some 93) (v:= ?_) rfl rfl (by kernel_rfl) (by kernel_rfl) (by kernel_rfl) (fun _ _ _ h=>h) (Or.inl ⟨by rfl,fun W hW=> ?_⟩) (by assumption) ?_
 rotate_left
 ·(try dsimp only at hW);obtain⟨s1,s2⟩:=hW;go_simp;try with_reducible rfl
 try simp only[Act.put,q1,q2,q3]
 refine wpAnyH_ready (rs:=[4]) (by kernel_rfl) (by simp) ?_
 refine readyH (some 94) rfl rfl (fun K hK=> ?_) AllReadyH.nil
 go_simp
 refine(pn _).mono ?_
 rintro e w' ⟨rfl,rfl⟩
 refine hK.out _ _ ⟨lx,a3⟩ (fun hHeld=> ?_)
 clear hK K
 try simp only[Act.put,q1,q2,q3]
 refine wpAnyH_ready (rs:=[5]) (by kernel_rfl) (by simp) ?_
 refine readyH none rfl rfl (fun K hK=> ?_) AllReadyH.nil
 go_simp
 refine hK.out _ _ ⟨lx9,a9⟩ (fun hHeld=> ?_)
 clear hK K
 try simp only[Act.put,q1,q2,q3]
 refine takeH 6 (some 3) (v:= ?_) rfl rfl (by kernel_rfl) (by kernel_rfl) (by kernel_rfl) (fun _ _ _ h=>h) (Or.inl ⟨by rfl,fun W hW=> ?_⟩) (by assumption) ?_
 rotate_left
 ·(try dsimp only at hW);obtain⟨s1,s2⟩:=hW;go_simp;try with_reducible rfl
 try simp only[Act.put,q1,q2,q3]
 refine wpAnyH_done (by kernel_rfl) ?_ _
 go_wp2
 rw[HI.out]
 cases ba with
 |false=>
  refine bodyPost_ret (v:=.tuple #[.agg #[.string ⟨#[108,105,109,105,116]⟩,.string x,.slice none 0 0,.int .i64 0,.int .i64 0],.bool false]) (by simp[results,Tryz.results76,go_sem,l9]) rfl ?_
  exact⟨#[.string ⟨#[108,105,109,105,116]⟩,.string x,.slice none 0 0,.int .i64 0,.int .i64 0],rfl,rfl,by simp[Value.oneCell'],(fun q hq=>by simp at hq),hB9⟩
 |true=>
  refine bodyPost_ret (v:=.tuple #[.agg #[.string ⟨#[108,105,109,105,116]⟩,.string x,.slice none 0 0,.int .i64 0,.int .i64 0],.bool true]) (by simp[results,Tryz.results76,go_sem,l9]) rfl ?_
  exact⟨#[.string ⟨#[108,105,109,105,116]⟩,.string x,.slice none 0 0,.int .i64 0,.int .i64 0],rfl,rfl,by simp[Value.oneCell'],(fun q hq=>by simp at hq;subst hq;rfl),hB9⟩
end Go.Proofs.YtgbpekeoegfjpaaGreatDoor
