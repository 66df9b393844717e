/- Proved: parts of the walk. -/
import Derived.RangeFuncBox
import Derived.Test.YtgbpekeoegfjpaaGreatDoorVZ01
import Derived.Test.YtgbpekeoegfjpaaGreatDoorVZ03
set_option maxRecDepth 100000
set_option maxHeartbeats 4000000
namespace Go.Proofs
open Tryz RowKit
variable (A1 A2 A3 A4 : Option Addr) (c1 c2 c3 c4 : Nat) (f : Pl.aL)
def jK (n:Int):List Value:=[.int .i64 n]
abbrev Ints := @Seg Int jK 1
theorem Ints.gY {w:World}{B:Nat}{A:Option Addr}{l:List Int}(h:Ints w B A l){k:Nat}(hk:k<l.length):
  ∃b off,A=some ⟨b,off,none⟩∧b<B∧w.cell? ⟨b,off+k,none⟩=some (.int .i64 l[k]):=by
 obtain⟨b,off,hA,hb,hc⟩:=Seg.at_ h hk
 exact⟨b,off,hA,hb,by have:=hc 0 _ rfl;simpa using this⟩
def gP (b:Pl.Bd):List Value:=[.int .i64 (b.fr:Int),.int .i64 (b.till:Int),.int .i64 b.most,.int .i64 b.record]
abbrev R_ := @Seg Pl.Bd gP 4
theorem R_.at4 {w:World}{B:Nat}{A:Option Addr}{l:List Pl.Bd}(h:R_ w B A l){k:Nat}(hk:k<l.length):
  ∃b off,A=some ⟨b,off,none⟩∧b<B∧w.cell? ⟨b,off+k*4,none⟩=some (.int .i64 (l[k].fr:Int))∧w.cell? ⟨b,off+k*4+1,none⟩=some (.int .i64 (l[k].till:Int))∧
   w.cell? ⟨b,off+k*4+2,none⟩=some (.int .i64 l[k].most)∧w.cell? ⟨b,off+k*4+3,none⟩=some (.int .i64 l[k].record):=by
 obtain⟨b,off,hA,hb,hc⟩:=Seg.at_ h hk
 exact⟨b,off,hA,hb,hc 0 _ rfl,hc 1 _ rfl,hc 2 _ rfl,hc 3 _ rfl⟩
theorem KL (A:Option Addr)(c:Nat)(l:List ByteArray)(g:FuncId)(cap:Array Value)(p:ByteArray->Bool)(w:World)(hl:Seg fU 1 w w.heap.size A l)(hm:l.length<=1000000)
  (hen: ∀args w,(callFunc g args).run prog w=.ok (.enter g args) w)
  (hp: ∀x∈l,∀W,Below w.heap.size w W->Calls prog g (#[.string x]++cap) W fun e W'=>e=.returned (.bool (p x))∧Below W.heap.size W W'):
  Calls prog 154 #[.slice A l.length c,.func (.func g) #[] cap] w fun e w'=>e=.returned (.int .i64 (Pl.pos (Pl.idx p l)))∧Below w.heap.size w w':=by
 go_enter func154,ntmps154
 go_wp2
 go_loopw [8] (fun i wr=> ∃(k:Nat),k<=l.length∧i=.int .i64 k∧Hid (∀j (h:j<l.length),j<k->p l[j]=false)∧Below w.heap.size w wr) (fun i _=>l.length-(intOf i).toNat)
 case atStart=>exact⟨0,by omega,rfl,Lib.hid fun j _ h=>by omega,by go_grown⟩
 case round=>
  obtain⟨k,hk,rfl,hg,hb⟩:=hrel
  have hsz:=hb.size
  by_cases hlt:k<l.length
  ·obtain⟨b,off,rfl,mQ,q0⟩:=d9.gY (hl.below hb) hlt
   have hpk:=Lib.hid (hp l[k] (List.getElem_mem hlt))
   cases hc:p l[k]with
   |true=>
    have hv:=Lib.hid (Pl.iN (p:=p) hlt (fun j hj=>hg.out j (by omega) hj) hc)
    have HC:=Lib.hid hc
    clear hc
    go_wp2
    refine(hpk.out _ (by go_grown)).mono ?_
    rintro e w2 ⟨rfl,hx⟩
    rw[HC.out]
    have hb2:=bT (w:=w) hx
    clear hx
    go_wp2
    go_ret
    exact⟨by rw[hv.out];try rfl,hb2⟩
   | false=>
    have HC:=Lib.hid hc
    clear hc
    go_wp2
    refine(hpk.out _ (by go_grown)).mono ?_
    rintro e w2 ⟨rfl,hx⟩
    rw[HC.out]
    have hb2:=bT (w:=w) hx
    clear hx
    go_wp2
    go_roundw
    case rel=>exact⟨k+1,by omega,by go_num,Lib.hid fun j h hj=>by
     by_cases e:j=k
     ·subst e;exact HC.out
     ·exact hg.out j h (by omega),hb2⟩
    case measure=>first|(simp[intOf];done)|(simp[intOf];omega)
  ·have hv:=Lib.hid (Pl.jX (p:=p) (l:=l) fun j hj=>hg.out j hj (by omega))
   go_wp2
   go_ret
   exact⟨by rw[hv.out];try rfl,by go_grown⟩
theorem Qw (A:Option Addr)(c:Nat)(l:List ByteArray)(g:FuncId)(cap:Array Value)(p:ByteArray->Bool)(w:World)(hl:Seg fU 1 w w.heap.size A l)(hm:l.length<=1000000)
  (hen: ∀args w,(callFunc g args).run prog w=.ok (.enter g args) w)
  (hp: ∀x∈l,∀W,Below w.heap.size w W->Calls prog g (#[.string x]++cap) W fun e W'=>e=.returned (.bool (p x))∧Below W.heap.size W W'):
  Calls prog 80 #[.slice A l.length c,.func (.func g) #[] cap] w fun e w'=>e=.returned (.bool (l.any p))∧Below w.heap.size w w':=by
 have HV:Hid (decide (0<=Pl.pos (Pl.idx p l))=l.any p):=by unfold Hid;rw[Pl.wE,Pl.rR]
 go_enter func80,ntmps80
 go_wp2_with (go_at_call 154;refine(KL A c l g cap p w hl hm hen hp).mono ?_;rintro e w1 ⟨rfl,hx1⟩;have hb1:=bT (w:=w) hx1;clear hx1;have hsz1:w.heap.size<=w1.heap.size:=hb1.size)
 go_ret
 exact⟨aD (by rw[<-HV.out]),by go_grown⟩
theorem Qx (A:Option Addr)(c:Nat)(l:List Pl.oz)(g:FuncId)(cap:Array Value)(p:Pl.oz->Bool)(w:World)(hl:Seg mG 4 w w.heap.size A l)(hm:l.length<=1000000)
  (hen: ∀args w,(callFunc g args).run prog w=.ok (.enter g args) w)
  (hp: ∀x∈l,∀W,Below w.heap.size w W->Calls prog g (#[.agg #[.string x.name,.int .i64 x.dH,.int .i64 x.fr,.int .i64 x.till]]++cap) W fun e W'=>e=.returned (.bool (p x))∧Below W.heap.size W W'):
  Calls prog 156 #[.slice A l.length c,.func (.func g) #[] cap] w fun e w'=>e=.returned (.int .i64 (Pl.pos (Pl.idx p l)))∧Below w.heap.size w w':=by
 go_enter func156,ntmps156
 go_wp2
 go_loopw [8] (fun i wr=> ∃(k:Nat),k<=l.length∧i=.int .i64 k∧Hid (∀j (h:j<l.length),j<k->p l[j]=false)∧Below w.heap.size w wr) (fun i _=>l.length-(intOf i).toNat)
 case atStart=>exact⟨0,by omega,rfl,Lib.hid fun j _ h=>by omega,by go_grown⟩
 case round=>
  obtain⟨k,hk,rfl,hg,hb⟩:=hrel
  have hsz:=hb.size
  by_cases hlt:k<l.length
  ·obtain⟨b,off,rfl,mQ,q0,q1,q2,q3⟩:=om.at4 (hl.below hb) hlt
   have hpk:=Lib.hid (hp l[k] (List.getElem_mem hlt))
   cases hc:p l[k]with
   |true=>
    have hv:=Lib.hid (Pl.iN (p:=p) hlt (fun j hj=>hg.out j (by omega) hj) hc)
    have HC:=Lib.hid hc
    clear hc
    go_wp2
    refine(hpk.out _ (by go_grown)).mono ?_
    rintro e w2 ⟨rfl,hx⟩
    rw[HC.out]
    have hb2:=bT (w:=w) hx
    clear hx
    go_wp2
    go_ret
    exact⟨by rw[hv.out];try rfl,hb2⟩
   | false=>
    have HC:=Lib.hid hc
    clear hc
    go_wp2
    refine(hpk.out _ (by go_grown)).mono ?_
    rintro e w2 ⟨rfl,hx⟩
    rw[HC.out]
    have hb2:=bT (w:=w) hx
    clear hx
    go_wp2
    go_roundw
    case rel=>exact⟨k+1,by omega,by go_num,Lib.hid fun j h hj=>by
     by_cases e:j=k
     ·subst e;exact HC.out
     ·exact hg.out j h (by omega),hb2⟩
    case measure=>first|(simp[intOf];done)|(simp[intOf];omega)
  ·have hv:=Lib.hid (Pl.jX (p:=p) (l:=l) fun j hj=>hg.out j hj (by omega))
   go_wp2
   go_ret
   exact⟨by rw[hv.out];try rfl,by go_grown⟩
theorem Qy (A:Option Addr)(c:Nat)(l:List Pl.oz)(g:FuncId)(cap:Array Value)(p:Pl.oz->Bool)(w:World)(hl:Seg mG 4 w w.heap.size A l)(hm:l.length<=1000000)
  (hen: ∀args w,(callFunc g args).run prog w=.ok (.enter g args) w)
  (hp: ∀x∈l,∀W,Below w.heap.size w W->Calls prog g (#[.agg #[.string x.name,.int .i64 x.dH,.int .i64 x.fr,.int .i64 x.till]]++cap) W fun e W'=>e=.returned (.bool (p x))∧Below W.heap.size W W'):
  Calls prog 87 #[.slice A l.length c,.func (.func g) #[] cap] w fun e w'=>e=.returned (.bool (l.any p))∧Below w.heap.size w w':=by
 have HV:Hid (decide (0<=Pl.pos (Pl.idx p l))=l.any p):=by unfold Hid;rw[Pl.wE,Pl.rR]
 go_enter func87,ntmps87
 go_wp2_with (go_at_call 156;refine(Qx A c l g cap p w hl hm hen hp).mono ?_;rintro e w1 ⟨rfl,hx1⟩;have hb1:=bT (w:=w) hx1;clear hx1;have hsz1:w.heap.size<=w1.heap.size:=hb1.size)
 go_ret
 exact⟨aD (by rw[<-HV.out]),by go_grown⟩
theorem Qz (A:Option Addr)(c:Nat)(l:List Int)(g:FuncId)(cap:Array Value)(p:Int->Bool)(w:World)(hl:Seg jK 1 w w.heap.size A l)(hm:l.length<=1000000)
  (hen: ∀args w,(callFunc g args).run prog w=.ok (.enter g args) w)
  (hp: ∀x∈l,∀W,Below w.heap.size w W->Calls prog g (#[.int .i64 x]++cap) W fun e W'=>e=.returned (.bool (p x))∧Below W.heap.size W W'):
  Calls prog 191 #[.slice A l.length c,.func (.func g) #[] cap] w fun e w'=>e=.returned (.int .i64 (Pl.pos (Pl.idx p l)))∧Below w.heap.size w w':=by
 go_enter func191,ntmps191
 go_wp2
 go_loopw [8] (fun i wr=> ∃(k:Nat),k<=l.length∧i=.int .i64 k∧Hid (∀j (h:j<l.length),j<k->p l[j]=false)∧Below w.heap.size w wr) (fun i _=>l.length-(intOf i).toNat)
 case atStart=>exact⟨0,by omega,rfl,Lib.hid fun j _ h=>by omega,by go_grown⟩
 case round=>
  obtain⟨k,hk,rfl,hg,hb⟩:=hrel
  have hsz:=hb.size
  by_cases hlt:k<l.length
  ·obtain⟨b,off,rfl,mQ,q0⟩:=Ints.gY (hl.below hb) hlt
   have hpk:=Lib.hid (hp l[k] (List.getElem_mem hlt))
   cases hc:p l[k]with
   |true=>
    have hv:=Lib.hid (Pl.iN (p:=p) hlt (fun j hj=>hg.out j (by omega) hj) hc)
    have HC:=Lib.hid hc
    clear hc
    go_wp2
    refine(hpk.out _ (by go_grown)).mono ?_
    rintro e w2 ⟨rfl,hx⟩
    rw[HC.out]
    have hb2:=bT (w:=w) hx
    clear hx
    go_wp2
    go_ret
    exact⟨by rw[hv.out];try rfl,hb2⟩
   | false=>
    have HC:=Lib.hid hc
    clear hc
    go_wp2
    refine(hpk.out _ (by go_grown)).mono ?_
    rintro e w2 ⟨rfl,hx⟩
    rw[HC.out]
    have hb2:=bT (w:=w) hx
    clear hx
    go_wp2
    go_roundw
    case rel=>exact⟨k+1,by omega,by go_num,Lib.hid fun j h hj=>by
     by_cases e:j=k
     ·subst e;exact HC.out
     ·exact hg.out j h (by omega),hb2⟩
    case measure=>first|(simp[intOf];done)|(simp[intOf];omega)
  ·have hv:=Lib.hid (Pl.jX (p:=p) (l:=l) fun j hj=>hg.out j hj (by omega))
   go_wp2
   go_ret
   exact⟨by rw[hv.out];try rfl,by go_grown⟩
theorem FC (A:Option Addr)(c:Nat)(l:List Int)(g:FuncId)(cap:Array Value)(p:Int->Bool)(w:World)(hl:Seg jK 1 w w.heap.size A l)(hm:l.length<=1000000)
  (hen: ∀args w,(callFunc g args).run prog w=.ok (.enter g args) w)
  (hp: ∀x∈l,∀W,Below w.heap.size w W->Calls prog g (#[.int .i64 x]++cap) W fun e W'=>e=.returned (.bool (p x))∧Below W.heap.size W W'):
  Calls prog 172 #[.slice A l.length c,.func (.func g) #[] cap] w fun e w'=>e=.returned (.bool (l.any p))∧Below w.heap.size w w':=by
 have HV:Hid (decide (0<=Pl.pos (Pl.idx p l))=l.any p):=by unfold Hid;rw[Pl.wE,Pl.rR]
 go_enter func172,ntmps172
 go_wp2_with (go_at_call 191;refine(Qz A c l g cap p w hl hm hen hp).mono ?_;rintro e w1 ⟨rfl,hx1⟩;have hb1:=bT (w:=w) hx1;clear hx1;have hsz1:w.heap.size<=w1.heap.size:=hb1.size)
 go_ret
 exact⟨aD (by rw[<-HV.out]),by go_grown⟩
theorem QA (A:Option Addr)(c:Nat)(l:List Pl.Bd)(g:FuncId)(cap:Array Value)(p:Pl.Bd->Bool)(w:World)(hl:Seg gP 4 w w.heap.size A l)(hm:l.length<=1000000)
  (hen: ∀args w,(callFunc g args).run prog w=.ok (.enter g args) w)
  (hp: ∀x∈l,∀W,Below w.heap.size w W->Calls prog g (#[.agg (i4 (x.fr:Int) (x.till:Int) x.most x.record)]++cap) W fun e W'=>e=.returned (.bool (p x))∧Below W.heap.size W W'):
  Calls prog 240 #[.slice A l.length c,.func (.func g) #[] cap] w fun e w'=>e=.returned (.int .i64 (Pl.pos (Pl.idx p l)))∧Below w.heap.size w w':=by
 go_enter func240,ntmps240
 go_wp2
 go_loopw [8] (fun i wr=> ∃(k:Nat),k<=l.length∧i=.int .i64 k∧Hid (∀j (h:j<l.length),j<k->p l[j]=false)∧Below w.heap.size w wr) (fun i _=>l.length-(intOf i).toNat)
 case atStart=>exact⟨0,by omega,rfl,Lib.hid fun j _ h=>by omega,by go_grown⟩
 case round=>
  obtain⟨k,hk,rfl,hg,hb⟩:=hrel
  have hsz:=hb.size
  by_cases hlt:k<l.length
  ·obtain⟨b,off,rfl,mQ,q0,q1,q2,q3⟩:=R_.at4 (hl.below hb) hlt
   have hpk:=Lib.hid (hp l[k] (List.getElem_mem hlt))
   cases hc:p l[k]with
   |true=>
    have hv:=Lib.hid (Pl.iN (p:=p) hlt (fun j hj=>hg.out j (by omega) hj) hc)
    have HC:=Lib.hid hc
    clear hc
    go_wp2
    refine(hpk.out _ (by go_grown)).mono ?_
    rintro e w2 ⟨rfl,hx⟩
    rw[HC.out]
    have hb2:=bT (w:=w) hx
    clear hx
    go_wp2
    go_ret
    exact⟨by rw[hv.out];try rfl,hb2⟩
   | false=>
    have HC:=Lib.hid hc
    clear hc
    go_wp2
    refine(hpk.out _ (by go_grown)).mono ?_
    rintro e w2 ⟨rfl,hx⟩
    rw[HC.out]
    have hb2:=bT (w:=w) hx
    clear hx
    go_wp2
    go_roundw
    case rel=>exact⟨k+1,by omega,by go_num,Lib.hid fun j h hj=>by
     by_cases e:j=k
     ·subst e;exact HC.out
     ·exact hg.out j h (by omega),hb2⟩
    case measure=>first|(simp[intOf];done)|(simp[intOf];omega)
  ·have hv:=Lib.hid (Pl.jX (p:=p) (l:=l) fun j hj=>hg.out j hj (by omega))
   go_wp2
   go_ret
   exact⟨by rw[hv.out];try rfl,by go_grown⟩
theorem QB (A:Option Addr)(c:Nat)(l:List Pl.Bd)(g:FuncId)(cap:Array Value)(p:Pl.Bd->Bool)(w:World)(hl:Seg gP 4 w w.heap.size A l)(hm:l.length<=1000000)
  (hen: ∀args w,(callFunc g args).run prog w=.ok (.enter g args) w)
  (hp: ∀x∈l,∀W,Below w.heap.size w W->Calls prog g (#[.agg (i4 (x.fr:Int) (x.till:Int) x.most x.record)]++cap) W fun e W'=>e=.returned (.bool (p x))∧Below W.heap.size W W'):
  Calls prog 174 #[.slice A l.length c,.func (.func g) #[] cap] w fun e w'=>e=.returned (.bool (l.any p))∧Below w.heap.size w w':=by
 have HV:Hid (decide (0<=Pl.pos (Pl.idx p l))=l.any p):=by unfold Hid;rw[Pl.wE,Pl.rR]
 go_enter func174,ntmps174
 go_wp2_with (go_at_call 240;refine(QA A c l g cap p w hl hm hen hp).mono ?_;rintro e w1 ⟨rfl,hx1⟩;have hb1:=bT (w:=w) hx1;clear hx1;have hsz1:w.heap.size<=w1.heap.size:=hb1.size)
 go_ret
 exact⟨aD (by rw[<-HV.out]),by go_grown⟩
theorem QC (A:Option Addr)(c:Nat)(l:List (ByteArray×Int))(g:FuncId)(cap:Array Value)(p:(ByteArray×Int)->Bool)(w:World)(hl:Seg nA 2 w w.heap.size A l)(hm:l.length<=1000000)
  (hen: ∀args w,(callFunc g args).run prog w=.ok (.enter g args) w)
  (hp: ∀x∈l,∀W,Below w.heap.size w W->Calls prog g (#[.agg #[.string x.1,.int .i64 x.2]]++cap) W fun e W'=>e=.returned (.bool (p x))∧Below W.heap.size W W'):
  Calls prog 315 #[.slice A l.length c,.func (.func g) #[] cap] w fun e w'=>e=.returned (.int .i64 (Pl.pos (Pl.idx p l)))∧Below w.heap.size w w':=by
 go_enter func315,ntmps315
 go_wp2
 go_loopw [8] (fun i wr=> ∃(k:Nat),k<=l.length∧i=.int .i64 k∧Hid (∀j (h:j<l.length),j<k->p l[j]=false)∧Below w.heap.size w wr) (fun i _=>l.length-(intOf i).toNat)
 case atStart=>exact⟨0,by omega,rfl,Lib.hid fun j _ h=>by omega,by go_grown⟩
 case round=>
  obtain⟨k,hk,rfl,hg,hb⟩:=hrel
  have hsz:=hb.size
  by_cases hlt:k<l.length
  ·obtain⟨b,off,rfl,mQ,q0,q1⟩:=iJ.at2 (hl.below hb) hlt
   have hpk:=Lib.hid (hp l[k] (List.getElem_mem hlt))
   cases hc:p l[k]with
   |true=>
    have hv:=Lib.hid (Pl.iN (p:=p) hlt (fun j hj=>hg.out j (by omega) hj) hc)
    have HC:=Lib.hid hc
    clear hc
    go_wp2
    refine(hpk.out _ (by go_grown)).mono ?_
    rintro e w2 ⟨rfl,hx⟩
    rw[HC.out]
    have hb2:=bT (w:=w) hx
    clear hx
    go_wp2
    go_ret
    exact⟨by rw[hv.out];try rfl,hb2⟩
   | false=>
    have HC:=Lib.hid hc
    clear hc
    go_wp2
    refine(hpk.out _ (by go_grown)).mono ?_
    rintro e w2 ⟨rfl,hx⟩
    rw[HC.out]
    have hb2:=bT (w:=w) hx
    clear hx
    go_wp2
    go_roundw
    case rel=>exact⟨k+1,by omega,by go_num,Lib.hid fun j h hj=>by
     by_cases e:j=k
     ·subst e;exact HC.out
     ·exact hg.out j h (by omega),hb2⟩
    case measure=>first|(simp[intOf];done)|(simp[intOf];omega)
  ·have hv:=Lib.hid (Pl.jX (p:=p) (l:=l) fun j hj=>hg.out j hj (by omega))
   go_wp2
   go_ret
   exact⟨by rw[hv.out];try rfl,by go_grown⟩
attribute [-go_sem] Builtin.append_
theorem uJ :(prog.info? 9).map (fun i=>(i.zero,i.size,i.bytes))=some (some (.string ⟨#[]⟩),1,16):=by kernel_rfl
theorem jL {W W':World}(h:Below W.heap.size W W'):W.grownBy W' none:=
 ⟨h.os,h.tape,h.output,h.size,fun k hk _=>h.block k hk⟩
theorem SC {n₀ k:Nat}{w1:World}{v:Value}{xs:List Value}(hr:w1.ownsRow n₀ 9 1 v k xs)(a:ByteArray)(hk:k+1<=1000000)(hn:n₀<=w1.heap.size):
  ∃g' cap' w2,(Builtin.append_ #[24,24] 24 #[v,.slice (some ⟨w1.heap.size,0,none⟩) 1 1]).run prog (w1.alloc (.cells #[.string a] 9))=.ok (.slice (some ⟨g',0,none⟩) (k+1) cap') w2∧
   w2.ownsRow n₀ 9 1 (.slice (some ⟨g',0,none⟩) (k+1) cap') (k+1) (xs++[.string a])∧Below n₀ w1 w2:=by
 obtain⟨i0,hi0,hz0,hz1,hz2⟩:=info_parts uJ
 have hml:k+1<=maxLen:=Nat.le_trans hk (by decide)
 have hcell: ∀j u,[Value.string a][j]?=some u->(w1.alloc (.cells #[.string a] 9)).cell? ((⟨w1.heap.size,0,none⟩:Addr).add j)=some u:=by
  intro j u hj
  match j,hj with
  |0,hj=>simp at hj;subst hj;simp[Addr.add]
 obtain⟨v',w2,hrun,hown,hgrow,hn2⟩:=run_append_own (P:=prog) (w:=w1.alloc (.cells #[.string a] 9)) n₀ 24 24 9 i0 _ 1 16 underlying24 hi0 hz0 hz1 hz2 rfl (by decide) v k xs (hr.alloc _) ⟨w1.heap.size,0,none⟩ 1 1 [.string a] rfl hcell (by simp[Value.oneCell']) hml (by omega) (by simp only[World.size_alloc];omega)
 obtain⟨g',cap',rfl⟩:=ownsRow_succ hown
 refine⟨g',cap',w2,hrun,hown,?_⟩
 refine(((Below.refl n₀ w1).alloc hn _).grown hgrow (by simp only[World.size_alloc];omega) fun j ej=> ?_)
 exact((hr.alloc (.cells #[.string a] 9)).lt j ej).1
theorem own_below {W W':World}{n₀:Nat}{t:TypeId}{s k:Nat}{v:Value}{xs:List Value}(h:W.ownsRow n₀ t s v k xs)(hb:Below W.heap.size W W'):W'.ownsRow n₀ t s v k xs:=
 h.kept (jL hb) (by cases v.ownBlock<;>simp)
def From (n:Nat)(A:Option Addr):Prop:= ∀a,A=some a->n<=a.block
theorem qc {α:Type}{enc:α->List Value}{size:Nat}{w:World}{C o n:Nat}{A:Option Addr}{l:List α}(h:Seg enc size w w.heap.size A l)(hA:From n A)(hC:C<n)(u:Value):Seg enc size (w.setCell ⟨C,o,none⟩ u) (w.setCell ⟨C,o,none⟩ u).heap.size A l:=by
 rcases h with h|⟨b,off,rfl,hb,hc⟩
 ·exact .inl h
 ·have hn:n<=b:=hA _ rfl
  refine .inr ⟨b,off,rfl,by simpa using hb,fun k x hx j v hv=> ?_⟩
  rw[World.cell?_of_block (Below.heap_setCell w ⟨C,o,none⟩ u b (by simp;omega))]
  exact hc k x hx j v hv
theorem wK {w:World}{n₀:Nat}{v:Value}{l:List ByteArray}(h:w.ownsRow n₀ 9 1 v l.length (l.map Value.string)): ∃A c,v=.slice A l.length c∧d9 w w.heap.size A l∧l.length<=c∧From n₀ A:=by
 have hle: ∀A' c',v=.slice A' l.length c'->l.length<=c':=by
  rintro A' c' rfl
  rcases h.2 with ⟨h,_⟩|⟨g',cap',cur,h,_,_,hle,_⟩
  ·cases l with
   |nil=>simp
   |cons x r=>cases h
  ·cases h;exact hle
 cases l with
 | nil=>
  rcases h.2 with ⟨h2,_⟩|⟨g',cap',cur,h2,_,_,_,_⟩
  ·exact⟨none,0,h2,.inl rfl,by simp,by intro a ha;cases ha⟩
  ·subst h2
   exact⟨_,cap',rfl,.inl rfl,by simp,by intro a ha;cases ha;exact(h.lt g' rfl).1⟩
 |cons x r=>
  obtain⟨g,cap,rfl⟩:=ownsRow_succ (k:=r.length) h
  refine⟨_,cap,rfl,.inr ⟨g,0,rfl,(h.lt g rfl).2,fun k x' hx j v hv=> ?_⟩,hle _ _ rfl,by intro a ha;cases ha;exact(h.lt g rfl).1⟩
  have hj:j=0:=by have:=(List.getElem?_eq_some_iff.1 hv).1;simp[fU]at this;omega
  subst hj
  simp[fU]at hv
  subst hv
  have:=h.cells (g:=g) rfl k (.string x') (by simp only[List.getElem?_map,hx,Option.map_some])
  rw[Go.WideShapes.add_plain]at this
  simpa using this
theorem wL (w:World)(B C o j:Nat)(u:Value)(h:B≠C):(w.setCell ⟨C,o,none⟩ u).cell? ⟨B,j,none⟩=w.cell? ⟨B,j,none⟩:=World.cell?_of_block (Below.heap_setCell w ⟨C,o,none⟩ u B h)
theorem KM (x:ByteArray×Int)(w:World):Calls prog 151 #[.agg #[.string x.1,.int .i64 x.2]] w fun e w'=>e=.returned (.string x.1)∧Below w.heap.size w w':=by
 go_enter func151,ntmps151
 go_wp2
 go_ret
 exact⟨rfl,by go_grown⟩
theorem KN (p:Pl.oz)(w:World):Calls prog 153 #[.agg #[.string p.name,.int .i64 p.dH,.int .i64 p.fr,.int .i64 p.till]] w fun e w'=>e=.returned (.string p.name)∧Below w.heap.size w w':=by
 go_enter func153,ntmps153
 go_wp2
 go_ret
 exact⟨rfl,by go_grown⟩
def nD (l:List ByteArray)(w:World)(e:Ending)(w':World):Prop:= ∃A c,e=.returned (.slice A l.length c)∧d9 w' w'.heap.size A l∧l.length<=c∧From w.heap.size A∧Below w.heap.size w w'
theorem KO (A:Option Addr)(c:Nat)(l:List (ByteArray×Int))(w:World)(hl:iJ w w.heap.size A l)(hm:l.length<=100000):
  Calls prog 150 #[.slice A l.length c,.func (.func 151) #[] #[]] w (nD (l.map Prod.fst) w):=by
 have hen:=enters_of (P:=prog) func151 (by kernel_rfl) rfl
 go_enter func150,ntmps150
 go_wp2
 go_loopw [5,10] (fun o i wr=> ∃(k:Nat),k<=l.length∧i=.int .i64 k∧wr.ownsRow w.heap.size 9 1 o k (((l.take k).map Prod.fst).map Value.string)∧Below w.heap.size w wr) (fun _ i _=>l.length-(intOf i).toNat)
 case atStart=>exact⟨0,by omega,rfl,World.ownsRow_nil _ _ _ _,by go_grown⟩
 case round=>
  obtain⟨k,hk,rfl,hown,hb⟩:=hrel
  have hsz:=hb.size
  by_cases hlt:k<l.length
  ·obtain⟨b,off,rfl,mQ,q0,q1⟩:=iJ.at2 (hl.below hb) hlt
   go_wp2_with (go_at_call 151;refine(KM _ _).mono ?_;rintro e w1 ⟨rfl,hx⟩)
   have hb0:Below wr.heap.size wr w1:=bT hx
   clear hx
   have hb1:Below w.heap.size w w1:=hb.trans (hb0.mono hsz)
   have hsz1:=hb1.size
   obtain⟨g',cap',w2,hrun,hown2,hb2⟩:=SC (own_below hown hb0) l[k].1 (by omega) hsz1
   go_wp2
   simp only[hrun]
   go_wp2
   go_roundw
   case rel=>exact⟨k+1,by omega,by go_num,by rw[List.take_succ_eq_append_getElem hlt,List.map_append,List.map_append];exact hown2,hb1.trans hb2⟩
   case measure=>first|(simp[intOf];done)|(simp[intOf];omega)
  ·obtain rfl:k=l.length:=by omega
   rw[List.take_length]at hown
   go_wp2
   obtain⟨A',c',hv,hN,hc,hF⟩:=wK (l:=l.map Prod.fst) (by rw[List.length_map];exact hown)
   subst hv
   go_ret
   exact⟨A',c',by simp,hN,hc,hF,hb⟩
theorem KP (A:Option Addr)(c:Nat)(l:List Pl.oz)(w:World)(hl:om w w.heap.size A l)(hm:l.length<=100000):
  Calls prog 152 #[.slice A l.length c,.func (.func 153) #[] #[]] w (nD (l.map Pl.oz.name) w):=by
 have hen:=enters_of (P:=prog) func153 (by kernel_rfl) rfl
 go_enter func152,ntmps152
 go_wp2
 go_loopw [5,10] (fun o i wr=> ∃(k:Nat),k<=l.length∧i=.int .i64 k∧wr.ownsRow w.heap.size 9 1 o k (((l.take k).map Pl.oz.name).map Value.string)∧Below w.heap.size w wr) (fun _ i _=>l.length-(intOf i).toNat)
 case atStart=>exact⟨0,by omega,rfl,World.ownsRow_nil _ _ _ _,by go_grown⟩
 case round=>
  obtain⟨k,hk,rfl,hown,hb⟩:=hrel
  have hsz:=hb.size
  by_cases hlt:k<l.length
  ·obtain⟨b,off,rfl,mQ,q0,q1,q2,q3⟩:=om.at4 (hl.below hb) hlt
   go_wp2_with (go_at_call 153;refine(KN _ _).mono ?_;rintro e w1 ⟨rfl,hx⟩)
   have hb0:Below wr.heap.size wr w1:=bT hx
   clear hx
   have hb1:Below w.heap.size w w1:=hb.trans (hb0.mono hsz)
   have hsz1:=hb1.size
   obtain⟨g',cap',w2,hrun,hown2,hb2⟩:=SC (own_below hown hb0) l[k].name (by omega) hsz1
   go_wp2
   simp only[hrun]
   go_wp2
   go_roundw
   case rel=>exact⟨k+1,by omega,by go_num,by rw[List.take_succ_eq_append_getElem hlt,List.map_append,List.map_append];exact hown2,hb1.trans hb2⟩
   case measure=>first|(simp[intOf];done)|(simp[intOf];omega)
  ·obtain rfl:k=l.length:=by omega
   rw[List.take_length]at hown
   go_wp2
   obtain⟨A',c',hv,hN,hc,hF⟩:=wK (l:=l.map Pl.oz.name) (by rw[List.length_map];exact hown)
   subst hv
   go_ret
   exact⟨A',c',by simp,hN,hc,hF,hb⟩
theorem H_ (w:World)(hf:bB w w.heap.size A1 A2 A3 A4 f)(hm:Small f):
  Calls prog 79 #[.agg (fq A1 A2 A3 A4 c1 c2 c3 c4 f)] w fun e w'=> ∃B1 d1 B3 d3,e=.returned (.agg #[.slice B1 f.st.length d1,.slice A2 f.li.length c2,.slice B3 f.pa.length d3])∧d9 w' w'.heap.size B1 f.sn∧d9 w' w'.heap.size B3 f.pn∧f.st.length<=d1∧f.pa.length<=d3∧Below w.heap.size w w':=by
 have kb:=heap_alloc2_old w (.cells (fq A1 A2 A3 A4 c1 c2 c3 c4 f) 28) (.cells #[.slice none 0 0,.slice none 0 0,.slice none 0 0] 116)
 have kr:=heap_alloc2_new w (.cells (fq A1 A2 A3 A4 c1 c2 c3 c4 f) 28) (.cells #[.slice none 0 0,.slice none 0 0,.slice none 0 0] 116)
 obtain⟨aQ,aS⟩:=ah kb
 have hall:Below w.heap.size w ((w.alloc (.cells (fq A1 A2 A3 A4 c1 c2 c3 c4 f) 28)).alloc (.cells #[.slice none 0 0,.slice none 0 0,.slice none 0 0] 116)):=by go_grown
 go_enter func79,ntmps79
 go_wp2
 go_region_held3 (fun W=> ∀j,W.cell? ⟨w.heap.size,j,none⟩=((fq A1 A2 A3 A4 c1 c2 c3 c4 f):Array Value)[j]?) (first|exact aQ|exact fun j=>by rw[wL _ _ _ _ _ _ (by omega),wL _ _ _ _ _ _ (by omega),wL _ _ _ _ _ _ (by omega)];exact aQ j) (first
  |(go_at_call 150;refine(KO A1 c1 f.st _ (hf.st.up (by go_grown)) hm.st).mono ?_;rintro e w1 ⟨B1,d1,rfl,hN1,hd1,hF1,hx⟩;obtain⟨kb,aQ,aS,aC⟩:=kB hx kb;obtain⟨kr,SE,U3,SF⟩:=kB hx kr;have hall:=bT (w:=w) hx;have hsz:w.heap.size<=w1.heap.size:=hall.size;clear hx)
  |(go_at_call 152;refine(KP A3 c3 f.pa _ (hf.pa.up (by go_grown)) hm.pa).mono ?_;rintro e w2 ⟨B3,d3,rfl,NN,hd3,CU,hx⟩;obtain⟨kb,aQ,aS,aC⟩:=kB hx kb;obtain⟨kr,SE,U3,SF⟩:=kB hx kr;have hall:=bT (w:=w) hx;have hsz:w.heap.size<=w2.heap.size:=hall.size;have h12:Below w1.heap.size w1 w2:=bT hx;clear hx))
 all_goals go_wp2
 refine bodyPost_ret (v:=.agg #[.slice B1 f.st.length d1,.slice A2 f.li.length c2,.slice B3 f.pa.length d3]) (by simp[results,results79,go_sem,SE]) rfl ⟨B1,d1,B3,d3,rfl,?_,?_,by simpa using hd1,by simpa using hd3,(((hall.setCell (p:=⟨w.heap.size+1,0,none⟩) (show w.heap.size<=w.heap.size+1 by omega) _).setCell (p:=⟨w.heap.size+1,1,none⟩) (show w.heap.size<=w.heap.size+1 by omega) _).setCell (p:=⟨w.heap.size+1,2,none⟩) (show w.heap.size<=w.heap.size+1 by omega) _)⟩
 ·exact qc (qc (qc (hN1.up h12) hF1 (by first|omega|(simp;done)|(simp;omega)) _) hF1 (by first|omega|(simp;done)|(simp;omega)) _) hF1 (by first|omega|(simp;done)|(simp;omega)) _
 ·exact qc (qc (qc NN CU (by first|omega|(simp;done)|(simp;omega)) _) CU (by first|omega|(simp;done)|(simp;omega)) _) CU (by first|omega|(simp;done)|(simp;omega)) _
end Go.Proofs
namespace Go.Proofs
open Tryz
variable (A1 A2 A3 A4 : Option Addr) (c1 c2 c3 c4 : Nat) (f : Pl.aL)
namespace Pl
variable (A1 A2 A3 A4 : Option Addr) (c1 c2 c3 c4 : Nat) (f : Pl.aL)
def aL.N1 (f:aL):Prop:= ¬(12<f.st.length∨10<f.li.length∨40<f.pa.length)
def aL.N2 (f:aL):Prop:= ¬(f.st.length<2∨f.li.length<1)
def aL.N4 (f:aL):Prop:=(f.sn.all isName&&f.li.all isName&&f.pn.all isName)=true
def aL.N5 (f:aL):Prop:=(twice f.sn||twice f.li||twice f.pn)=false
def aL.N6 (f:aL):Prop:=(f.st.all (fun s=>decide (0<=s.2∧s.2<=100000))&&f.pa.all (gG f.st.length f.li.length))=true
def aL.N7 (f:aL):Prop:=(rising (f.st.map Prod.snd)&&apart [] f.pa)=true
section
variable {f : aL}
theorem CV (h: ¬f.N1):aR f=2:=by unfold aR;rw[if_pos (Classical.not_not.1 h)]
theorem CW (h1:f.N1)(h: ¬f.N2):aR f=5:=by unfold aR;rw[if_neg h1,if_pos (Classical.not_not.1 h)]
theorem CX (h1:f.N1)(h2:f.N2)(h:vars f.va≠0):aR f=vars f.va:=by unfold aR;rw[if_neg h1,if_neg h2,if_pos h]
theorem rU (h1:f.N1)(h2:f.N2)(h3:vars f.va=0)(h: ¬f.N4):aR f=4:=by
 unfold aR;rw[if_neg h1,if_neg h2,if_neg (fun h=>h h3),if_pos (by unfold aL.N4 at h;simpa using h)]
theorem rV (h1:f.N1)(h2:f.N2)(h3:vars f.va=0)(h4:f.N4)(h: ¬f.N5):aR f=6:=by
 unfold aL.N4 at h4
 unfold aR;rw[if_neg h1,if_neg h2,if_neg (fun h=>h h3),h4,if_neg (by decide),if_pos (by unfold aL.N5 at h;rw[Bool.not_eq_false]at h;exact h)]
theorem jZ (h1:f.N1)(h2:f.N2)(h3:vars f.va=0)(h4:f.N4)(h5:f.N5)(h: ¬f.N6):aR f=1:=by
 unfold aL.N4 at h4
 unfold aL.N5 at h5
 unfold aR;rw[if_neg h1,if_neg h2,if_neg (fun h=>h h3),h4,if_neg (by decide),h5,if_neg (by decide),if_pos (by unfold aL.N6 at h;rw[Bool.not_eq_true]at h;exact h)]
theorem qd (h1:f.N1)(h2:f.N2)(h3:vars f.va=0)(h4:f.N4)(h5:f.N5)(h6:f.N6)(h: ¬f.N7):aR f=30:=by
 unfold aL.N4 at h4
 unfold aL.N5 at h5
 unfold aL.N6 at h6
 unfold aR;rw[if_neg h1,if_neg h2,if_neg (fun h=>h h3),h4,if_neg (by decide),h5,if_neg (by decide),h6,if_neg (by decide),if_pos (by unfold aL.N7 at h;rw[Bool.not_eq_true]at h;exact h)]
theorem CY (h1:f.N1)(h2:f.N2)(h3:vars f.va=0)(h4:f.N4)(h5:f.N5)(h6:f.N6)(h7:f.N7):aR f=0:=by
 unfold aL.N4 at h4
 unfold aL.N5 at h5
 unfold aL.N6 at h6
 unfold aL.N7 at h7
 unfold aR;rw[if_neg h1,if_neg h2,if_neg (fun h=>h h3),h4,if_neg (by decide),h5,if_neg (by decide),h6,if_neg (by decide),h7,if_neg (by decide)]
theorem AX {l:List ByteArray}{b:Bool}(h:(l.any fun s=> !isName s)=b):l.all isName= !b:=by
 subst h
 induction l with
 |nil=>rfl
 |cons a l ih=>rw[List.all_cons,List.any_cons,ih];cases isName a<;>simp
theorem SG {a b c:Bool}(ha:(f.sn.any fun s=> !isName s)=a)(hb:(f.li.any fun s=> !isName s)=b)(hc:(f.pn.any fun s=> !isName s)=c):f.N4↔(a=false∧b=false∧c=false):=by
 unfold aL.N4
 rw[AX ha,AX hb,AX hc]
 cases a<;>cases b<;>cases c<;>simp
theorem SH {a b c:Bool}(ha:twice f.sn=a)(hb:twice f.li=b)(hc:twice f.pn=c):f.N5↔(a=false∧b=false∧c=false):=by
 unfold aL.N5
 rw[ha,hb,hc]
 cases a<;>cases b<;>cases c<;>simp
theorem P6 {k:Nat}(hk:k<f.st.length)(h: ¬(0<=f.st[k].2∧f.st[k].2<=100000)): ¬f.N6:=by
 unfold aL.N6
 rw[Bool.and_eq_true,List.all_eq_true]
 rintro⟨h1,-⟩
 exact h (by simpa using h1 _ (List.getElem_mem hk))
theorem zL {k:Nat}(hk:k<f.pa.length)(h:gG f.st.length f.li.length f.pa[k]=false): ¬f.N6:=by
 unfold aL.N6
 rw[Bool.and_eq_true,List.all_eq_true,List.all_eq_true]
 rintro⟨-,h1⟩
 rw[h1 _ (List.getElem_mem hk)]at h
 cases h
theorem P7 (h1: ∀k (hk:k<f.st.length),0<=f.st[k].2∧f.st[k].2<=100000)(h2: ∀k (hk:k<f.pa.length),gG f.st.length f.li.length f.pa[k]=true):f.N6:=by
 unfold aL.N6
 rw[Bool.and_eq_true,List.all_eq_true,List.all_eq_true]
 refine⟨fun x hx=> ?_,fun x hx=> ?_⟩
 ·obtain⟨k,hk,rfl⟩:=List.getElem_of_mem hx
  simpa using h1 k hk
 ·obtain⟨k,hk,rfl⟩:=List.getElem_of_mem hx
  exact h2 k hk
theorem wM : ∀ {l:List Int} {k:Nat} (hk:k+1<l.length),l[k+1]<=l[k]->rising l=false
 | [],k,hk,_=>by simp at hk
 | [a],k,hk,_=>by simp at hk
 |a::b::l,0,hk,h=>by
  simp only[List.getElem_cons_zero,Nat.zero_add,List.getElem_cons_succ]at h
  unfold rising
  have: ¬a<b:=by omega
  simp[this]
 |a::b::l,k+1,hk,h=>by
  have:=wM (l:=b::l) (k:=k) (by simpa using hk) (by simpa using h)
  unfold rising
  rw[this,Bool.and_false]
theorem zM : ∀ {l:List Int},(∀k (hk:k+1<l.length),l[k]<l[k+1])->rising l=true
 | [],_=>rfl
 | [a],_=>rfl
 |a::b::l,h=>by
  have h0:=h 0 (by simp)
  simp only[List.getElem_cons_zero,Nat.zero_add,List.getElem_cons_succ]at h0
  unfold rising
  rw[zM (l:=b::l) (fun k hk=>by have:=h (k+1) (by simpa using hk);simpa using this)]
  simp[h0]
theorem zN (l r:List oz): ∀d:List oz,apart d (l++r)=(apart d l&&apart (d++l) r):=by
 induction l with
 |nil=>intro d;simp[apart]
 |cons p l ih=>intro d;simp[apart,ih,Bool.and_assoc]
theorem KQ {l:List oz}{k:Nat}(hk:k<l.length):apart [] l=(apart [] (l.take k)&&(decide (l[k].fr<l[k].till)&& !((l.take k).any (over l[k]))&&apart (l.take k++[l[k]]) (l.drop (k+1)))):=by
 have:l=l.take k++l.drop k:=(List.take_append_drop k l).symm
 conv=>lhs;rw[this]
 rw[zN,List.nil_append,List.drop_eq_getElem_cons hk]
 rfl
theorem Ia {k:Nat}(hk:k+1<f.st.length)(h:f.st[k+1].2<=f.st[k].2): ¬f.N7:=by
 unfold aL.N7
 rw[wM (l:=f.st.map Prod.snd) (k:=k) (by simpa using hk) (by simpa using h)]
 simp
theorem rW {k:Nat}(hk:k<f.pa.length)(h: ¬(f.pa[k].fr<f.pa[k].till∧(f.pa.take k).any (over f.pa[k])=false)): ¬f.N7:=by
 unfold aL.N7
 rw[KQ hk]
 intro h2
 simp only[Bool.and_eq_true,decide_eq_true_eq,Bool.not_eq_true']at h2
 exact h ⟨h2.2.2.1.1,h2.2.2.1.2⟩
theorem wN {l:List oz}{k:Nat}(hk:k<l.length)(h0:apart [] (l.take k)=true)(h1:l[k].fr<l[k].till)(h2:(l.take k).any (over l[k])=false):apart [] (l.take (k+1))=true:=by
 rw[List.take_succ_eq_append_getElem hk,zN,h0,List.nil_append]
 simp[apart,h1,h2]
theorem P8 (h1: ∀k (hk:k+1<f.st.length),f.st[k].2<f.st[k+1].2)(h2:apart [] f.pa=true):f.N7:=by
 unfold aL.N7
 rw[h2,zM (fun k hk=>by have:=h1 k (by simpa using hk);simpa using this)]
 rfl
end
end Pl
open RowKit
theorem SI (s:ByteArray)(w:World)(hs:s.size<=100000):Calls prog 81 #[.string s] w fun e w'=>e=.returned (.bool (!Pl.isName s))∧Below w.heap.size w w':=by
 go_enter func81,ntmps81
 go_wp2_with (go_at_call 82;refine(wF _ _ hs).mono ?_;rintro e w' ⟨rfl,rfl⟩)
 go_ret
 exact⟨rfl,by go_grown⟩
theorem wO (A:Option Addr)(c:Nat)(l:List ByteArray)(b:Bool)(w:World)(hl:d9 w w.heap.size A l)(hm:l.length<=100000)(hs: ∀s∈l,s.size<=100000)(hb:Hid ((l.any fun s=> !Pl.isName s)=b)):
  Calls prog 80 #[.slice A l.length c,.func (.func 81) #[] #[]] w fun e w'=>e=.returned (.bool b)∧Below w.heap.size w w':=by
 have:=Qw A c l 81 #[] (fun s=> !Pl.isName s) w hl (by omega) (enters_of (P:=prog) func81 (by kernel_rfl) rfl) (fun x hx W _=>SI x W (hs x hx))
 rw[hb.out]at this
 exact this
theorem AY (A:Option Addr)(c:Nat)(l:List ByteArray)(b:Bool)(w:World)(hl:d9 w w.heap.size A l)(hm:l.length<=100000)(hc:l.length<=c)(hb:Hid (Pl.twice l=b)):
  Calls prog 83 #[.slice A l.length c] w fun e w'=>e=.returned (.bool b)∧Below w.heap.size w w':=by
 have:=NI A c l w hl (by omega) hc
 rw[hb.out]at this
 exact this.mono fun e w' h=>⟨h.1,h.2▸Below.refl _ _⟩
theorem QD (bp:Nat)(p q:Pl.oz)(w:World)(hp:w.heap[bp]?=some (.cells #[.string p.name,.int .i64 p.dH,.int .i64 p.fr,.int .i64 p.till] 112 (0,0)))
  (h0: -1000000<=p.fr) (h1:p.fr<=1000000) (h2: -1000000<=p.till) (h3:p.till<=1000000) (k0: -1000000<=q.fr) (k1:q.fr<=1000000) (k2: -1000000<=q.till) (k3:q.till<=1000000):
  Calls prog 85 #[.agg #[.string q.name,.int .i64 q.dH,.int .i64 q.fr,.int .i64 q.till],.pointer (some ⟨bp,0,none⟩)] w fun e w'=>e=.returned (.bool (Pl.over p q))∧Below w.heap.size w w':=by
 have hlt:=(lO hp)
 obtain⟨hcp,hfp⟩:=ah hp
 obtain⟨pn,ps,pf,pt⟩:=p
 obtain⟨qn,qs,qf,qt⟩:=q
 simp only at h0 h1 h2 h3 k0 k1 k2 k3 hcp
 by_cases hs:ps=qs
 ·subst hs
  have HV:Hid (decide (0<Pl.CK ⟨pn,ps,pf,pt⟩ ⟨qn,ps,qf,qt⟩)=Pl.over ⟨pn,ps,pf,pt⟩ ⟨qn,ps,qf,qt⟩):=by unfold Hid Pl.over;simp
  go_enter func85,ntmps85
  go_wp2_with (go_at_call 86;refine(Qr ⟨pn,ps,pf,pt⟩ ⟨qn,ps,qf,qt⟩ _ h0 h1 h2 h3 k0 k1 k2 k3).mono ?_;rintro e w1 ⟨rfl,hx1⟩;have hb1:=bT (w:=w) hx1;clear hx1;have hsz1:w.heap.size<=w1.heap.size:=hb1.size)
  go_ret
  exact⟨aD HV.out,by go_grown⟩
 ·have HV:Hid (false=Pl.over ⟨pn,ps,pf,pt⟩ ⟨qn,qs,qf,qt⟩):=by unfold Hid Pl.over;simp[hs]
  have hs':(ps==qs)=false:=by simpa using hs
  go_enter func85,ntmps85
  go_wp2
  go_ret
  exact⟨aD HV.out,by go_grown⟩
structure dY (c1 c2 c3 c4:Nat)(f:Pl.aL):Prop where
 st:f.st.length<=c1
 li:f.li.length<=c2
 pa:f.pa.length<=c3
 va:f.va.length<=c4
theorem NP (A:Option Addr)(c:Nat)(l:List Pl.oz)(bp:Nat)(p:Pl.oz)(b:Bool)(w:World)(hl:om w w.heap.size A l)(hm:l.length<=100000)
  (hp:w.heap[bp]?=some (.cells #[.string p.name,.int .i64 p.dH,.int .i64 p.fr,.int .i64 p.till] 112 (0,0)))
  (h0:Pl.gG 12 10 p=true) (hq: ∀q∈l,Pl.gG 12 10 q=true) (hb:Hid (l.any (Pl.over p)=b)):
  Calls prog 87 #[.slice A l.length c,.func (.func 85) #[] #[.pointer (some ⟨bp,0,none⟩)]] w fun e w'=>e=.returned (.bool b)∧Below w.heap.size w w':=by
 have key: ∀q,Pl.gG 12 10 q=true->(-1000000<=q.fr∧q.fr<=1000000)∧ -1000000<=q.till∧q.till<=1000000:=by
  intro q h
  unfold Pl.gG at h
  simp at h
  omega
 have hlt:=(lO hp)
 have:=Qy A c l 85 #[.pointer (some ⟨bp,0,none⟩)] (Pl.over p) w hl (by omega) (enters_of (P:=prog) func85 (by kernel_rfl) rfl)
  (fun q hqm W hW=>QD bp p q W ((hW.block bp hlt).trans hp) (key p h0).1.1 (key p h0).1.2 (key p h0).2.1 (key p h0).2.2 (key q (hq q hqm)).1.1 (key q (hq q hqm)).1.2 (key q (hq q hqm)).2.1 (key q (hq q hqm)).2.2)
 rw[hb.out]at this
 exact this
theorem Ib (A:Option Addr)(c:Nat)(l:List (Int×Int))(E:Int)(w:World)(h:Hid (Pl.vars l=E))(hl:Vars w w.heap.size A l)(hm:l.length<=maxLen):
  Calls prog 78 #[.slice A l.length c] w fun e w'=>e=.returned (.int .i64 E)∧Below w.heap.size w w':=by
 have:=wG A c l w hl hm;rw[h.out]at this;exact this
theorem wP (w:World)(_hf:bB w w.heap.size A1 A2 A3 A4 f)(hm:Small f)(_hc:dY c1 c2 c3 c4 f)(h1: ¬f.N1):
  Calls prog 22 #[.agg (fq A1 A2 A3 A4 c1 c2 c3 c4 f)] w fun e w'=>e=.returned (.int .i64 (Pl.aR f))∧Below w.heap.size w w':=by
 have hE:=Lib.hid (Pl.CV h1)
 have h1':12<f.st.length∨(f.st.length<=12∧10<f.li.length)∨(f.st.length<=12∧f.li.length<=10∧40<f.pa.length):=by unfold Pl.aL.N1 at h1;omega
 obtain⟨m1,m2,m3,m4⟩:=hm
 clear h1
 rcases h1' with h|⟨h,h'⟩|⟨h,h',h''⟩
 all_goals
  go_enter func22,ntmps22
  go_wp2
  go_ret
  exact⟨aH (by rw[hE.out]),by go_grown⟩
theorem wQ (w:World)(_hf:bB w w.heap.size A1 A2 A3 A4 f)(_hm:Small f)(_hc:dY c1 c2 c3 c4 f)(h1:f.N1)(h2: ¬f.N2):
  Calls prog 22 #[.agg (fq A1 A2 A3 A4 c1 c2 c3 c4 f)] w fun e w'=>e=.returned (.int .i64 (Pl.aR f))∧Below w.heap.size w w':=by
 have hE:=Lib.hid (Pl.CW h1 h2)
 have h1':f.st.length<=12∧f.li.length<=10∧f.pa.length<=40:=by unfold Pl.aL.N1 at h1;omega
 have h2':f.st.length<2∨(2<=f.st.length∧f.li.length<1):=by unfold Pl.aL.N2 at h2;omega
 obtain⟨k1,k2,k3⟩:=h1'
 clear h1 h2
 rcases h2' with h|⟨h,h'⟩
 all_goals
  go_enter func22,ntmps22
  go_wp2
  go_ret
  exact⟨aH (by rw[hE.out]),by go_grown⟩
theorem vB (w:World)(hf:bB w w.heap.size A1 A2 A3 A4 f)(hm:Small f)(_hc:dY c1 c2 c3 c4 f)(h1:f.N1)(h2:f.N2)(h3:Pl.vars f.va≠0):
  Calls prog 22 #[.agg (fq A1 A2 A3 A4 c1 c2 c3 c4 f)] w fun e w'=>e=.returned (.int .i64 (Pl.aR f))∧Below w.heap.size w w':=by
 have hE:=Lib.hid (Pl.CX h1 h2 h3)
 have h1':f.st.length<=12∧f.li.length<=10∧f.pa.length<=40:=by unfold Pl.aL.N1 at h1;omega
 have h2':2<=f.st.length∧1<=f.li.length:=by unfold Pl.aL.N2 at h2;omega
 obtain⟨k1,k2,k3⟩:=h1'
 obtain⟨k4,k5⟩:=h2'
 have hml:f.va.length<=maxLen:=by have:=hm.va;unfold maxLen;omega
 obtain⟨E,CZ⟩: ∃E,Pl.vars f.va=E:=⟨_,rfl⟩
 have HV:=Lib.hid CZ
 have hne:(E !=0)=true:=by rw[<-CZ];simpa using h3
 clear h1 h2 h3 CZ
 have kb:=heap_alloc_new w (.cells (fq A1 A2 A3 A4 c1 c2 c3 c4 f) 28)
 go_enter func22,ntmps22
 go_wp2_with (go_at_call 78;refine(Ib A4 c4 f.va E _ HV (hf.va.up (by go_grown)) hml).mono ?_;rintro e w1 ⟨rfl,hx1⟩;have hb1:=bT (w:=w) hx1;clear hx1;have hsz1:w.heap.size<=w1.heap.size:=hb1.size)
 go_ret
 exact⟨aH (by rw[hE.out,HV.out]),by go_grown⟩
