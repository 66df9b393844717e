/- Texts of mine, merged: DC, DD, PlL, DE, DF. -/
import Derived.Maps.AppendAt
import Derived.RangeFuncBox
import Derived.LoopN
import Derived.Test.YtgbpekeoegfjpaaGreatDoorZ01
import Derived.Test.YtgbpekeoegfjpaaGreatDoorZ03
import Derived.Test.YtgbpekeoegfjpaaGreatDoorZ00
import Derived.Test.YtgbpekeoegfjpaaGreatDoorZ02
/- Walks: the first member of a list that a function finds; whether there is one. -/
set_option maxRecDepth 100000
namespace Go.Proofs.YtgbpekeoegfjpaaGreatDoor
open Go.RowKit
variable (A1 A2 A3 A4 : Option Addr) (c1 c2 c3 c4 : Nat) (f : Pl.Fld)
def encInt (n:Int):List Value:=[.int .i64 n]
abbrev Ints := @Seg Int encInt 1
theorem Ints.at1 {w:World}{B:Nat}{A:Option Addr}{l:List Int}(h:Ints w B A l){k:Nat}(hk:k<l.length):
  ∃b off,A=some ⟨b,off,none⟩∧b<B∧w.cell? ⟨b,off+k,none⟩=some (.int .i64 l[k]):=by
 obtain⟨b,off,hA,hb,hc⟩:=Seg.at_ h hk
 exact⟨b,off,hA,hb,by have:=hc 0 _ rfl;simpa using this⟩
def encBd (b:Pl.Bd):List Value:=[.int .i64 (b.fr:Int),.int .i64 (b.till:Int),.int .i64 b.most,.int .i64 b.record]
abbrev Bds := @Seg Pl.Bd encBd 4
theorem Bds.at4 {w:World}{B:Nat}{A:Option Addr}{l:List Pl.Bd}(h:Bds w B A l){k:Nat}(hk:k<l.length):
  ∃b off,A=some ⟨b,off,none⟩∧b<B∧w.cell? ⟨b,off+k*4,none⟩=some (.int .i64 (l[k].fr:Int))∧w.cell? ⟨b,off+k*4+1,none⟩=some (.int .i64 (l[k].till:Int))∧
   w.cell? ⟨b,off+k*4+2,none⟩=some (.int .i64 l[k].most)∧w.cell? ⟨b,off+k*4+3,none⟩=some (.int .i64 l[k].record):=by
 obtain⟨b,off,hA,hb,hc⟩:=Seg.at_ h hk
 exact⟨b,off,hA,hb,hc 0 _ rfl,hc 1 _ rfl,hc 2 _ rfl,hc 3 _ rfl⟩
theorem idxF_s (A:Option Addr)(c:Nat)(l:List ByteArray)(g:FuncId)(cap:Array Value)(p:ByteArray->Bool)(w:World)(hl:Seg encNm 1 w w.heap.size A l)(hm:l.length<=1000000)
  (hen: ∀args w,(callFunc g args).run Tryz.prog w=.ok (.enter g args) w)
  (hp: ∀x∈l,∀W,Below w.heap.size w W->Calls Tryz.prog g (#[.string x]++cap) W fun e W'=>e=.returned (.bool (p x))∧Below W.heap.size W W'):
  Calls Tryz.prog 154 #[.slice A l.length c,.func (.func g) #[] cap] w fun e w'=>e=.returned (.int .i64 (Pl.pos (Pl.idx p l)))∧Below w.heap.size w w':=by
 go_enter Tryz.func154,Tryz.ntmps154
 go_wp2
 go_loopw [8] (fun i wr=> ∃(k:Nat),k<=l.length∧i=.int .i64 k∧Hid (∀j (h:j<l.length),j<k->p l[j]=false)∧Below w.heap.size w wr) (fun i _=>l.length-(intOf i).toNat)
 case atStart=>exact⟨0,by omega,rfl,Lib.hid fun j _ h=>by omega,by go_grown⟩
 case round=>
  obtain⟨k,hk,rfl,hg,hb⟩:=hrel
  have hsz:=hb.size
  by_cases hlt:k<l.length
  ·obtain⟨b,off,rfl,hbB,q0⟩:=Nms.at1 (hl.below hb) hlt
   have hpk:=Lib.hid (hp l[k] (List.getElem_mem hlt))
   cases hc:p l[k]with
   |true=>
    have hv:=Lib.hid (Pl.idx_hit (p:=p) hlt (fun j hj=>hg.out j (by omega) hj) hc)
    have HC:=Lib.hid hc
    clear hc
    go_wp2
    refine(hpk.out _ (by go_grown)).mono ?_
    rintro e w2 ⟨rfl,hx⟩
    rw[HC.out]
    have hb2:Below w.heap.size w w2:=Below.trans (by go_grown) (hx.mono (by go_size))
    clear hx
    go_wp2
    go_ret
    exact⟨by rw[hv.out];try rfl,hb2⟩
   | false=>
    have HC:=Lib.hid hc
    clear hc
    go_wp2
    refine(hpk.out _ (by go_grown)).mono ?_
    rintro e w2 ⟨rfl,hx⟩
    rw[HC.out]
    have hb2:Below w.heap.size w w2:=Below.trans (by go_grown) (hx.mono (by go_size))
    clear hx
    go_wp2
    go_roundw
    case rel=>exact⟨k+1,by omega,by go_num,Lib.hid fun j h hj=>by
     by_cases e:j=k
     ·subst e;exact HC.out
     ·exact hg.out j h (by omega),hb2⟩
    case measure=>first|(simp[intOf];done)|(simp[intOf];omega)
  ·have hv:=Lib.hid (Pl.idx_none (p:=p) (l:=l) fun j hj=>hg.out j hj (by omega))
   go_wp2
   go_ret
   exact⟨by rw[hv.out];try rfl,by go_grown⟩
theorem conF_s (A:Option Addr)(c:Nat)(l:List ByteArray)(g:FuncId)(cap:Array Value)(p:ByteArray->Bool)(w:World)(hl:Seg encNm 1 w w.heap.size A l)(hm:l.length<=1000000)
  (hen: ∀args w,(callFunc g args).run Tryz.prog w=.ok (.enter g args) w)
  (hp: ∀x∈l,∀W,Below w.heap.size w W->Calls Tryz.prog g (#[.string x]++cap) W fun e W'=>e=.returned (.bool (p x))∧Below W.heap.size W W'):
  Calls Tryz.prog 80 #[.slice A l.length c,.func (.func g) #[] cap] w fun e w'=>e=.returned (.bool (l.any p))∧Below w.heap.size w w':=by
 have HV:Hid (decide (0<=Pl.pos (Pl.idx p l))=l.any p):=by unfold Hid;rw[Pl.pos_ge,Pl.idx_any]
 go_enter Tryz.func80,Tryz.ntmps80
 go_wp2_with (go_at_call 154;refine(idxF_s A c l g cap p w hl hm hen hp).mono ?_;rintro e w1 ⟨rfl,hx1⟩;have hb1:Below w.heap.size w w1:=Below.trans (by go_grown) (hx1.mono (by go_size));clear hx1;have hsz1:w.heap.size<=w1.heap.size:=hb1.size)
 go_ret
 exact⟨ret_bool (by rw[<-HV.out]),by go_grown⟩
theorem idxF_p (A:Option Addr)(c:Nat)(l:List Pl.Par)(g:FuncId)(cap:Array Value)(p:Pl.Par->Bool)(w:World)(hl:Seg encPar 4 w w.heap.size A l)(hm:l.length<=1000000)
  (hen: ∀args w,(callFunc g args).run Tryz.prog w=.ok (.enter g args) w)
  (hp: ∀x∈l,∀W,Below w.heap.size w W->Calls Tryz.prog g (#[.agg #[.string x.name,.int .i64 x.south,.int .i64 x.fr,.int .i64 x.till]]++cap) W fun e W'=>e=.returned (.bool (p x))∧Below W.heap.size W W'):
  Calls Tryz.prog 156 #[.slice A l.length c,.func (.func g) #[] cap] w fun e w'=>e=.returned (.int .i64 (Pl.pos (Pl.idx p l)))∧Below w.heap.size w w':=by
 go_enter Tryz.func156,Tryz.ntmps156
 go_wp2
 go_loopw [8] (fun i wr=> ∃(k:Nat),k<=l.length∧i=.int .i64 k∧Hid (∀j (h:j<l.length),j<k->p l[j]=false)∧Below w.heap.size w wr) (fun i _=>l.length-(intOf i).toNat)
 case atStart=>exact⟨0,by omega,rfl,Lib.hid fun j _ h=>by omega,by go_grown⟩
 case round=>
  obtain⟨k,hk,rfl,hg,hb⟩:=hrel
  have hsz:=hb.size
  by_cases hlt:k<l.length
  ·obtain⟨b,off,rfl,hbB,q0,q1,q2,q3⟩:=Pars.at4 (hl.below hb) hlt
   have hpk:=Lib.hid (hp l[k] (List.getElem_mem hlt))
   cases hc:p l[k]with
   |true=>
    have hv:=Lib.hid (Pl.idx_hit (p:=p) hlt (fun j hj=>hg.out j (by omega) hj) hc)
    have HC:=Lib.hid hc
    clear hc
    go_wp2
    refine(hpk.out _ (by go_grown)).mono ?_
    rintro e w2 ⟨rfl,hx⟩
    rw[HC.out]
    have hb2:Below w.heap.size w w2:=Below.trans (by go_grown) (hx.mono (by go_size))
    clear hx
    go_wp2
    go_ret
    exact⟨by rw[hv.out];try rfl,hb2⟩
   | false=>
    have HC:=Lib.hid hc
    clear hc
    go_wp2
    refine(hpk.out _ (by go_grown)).mono ?_
    rintro e w2 ⟨rfl,hx⟩
    rw[HC.out]
    have hb2:Below w.heap.size w w2:=Below.trans (by go_grown) (hx.mono (by go_size))
    clear hx
    go_wp2
    go_roundw
    case rel=>exact⟨k+1,by omega,by go_num,Lib.hid fun j h hj=>by
     by_cases e:j=k
     ·subst e;exact HC.out
     ·exact hg.out j h (by omega),hb2⟩
    case measure=>first|(simp[intOf];done)|(simp[intOf];omega)
  ·have hv:=Lib.hid (Pl.idx_none (p:=p) (l:=l) fun j hj=>hg.out j hj (by omega))
   go_wp2
   go_ret
   exact⟨by rw[hv.out];try rfl,by go_grown⟩
theorem conF_p (A:Option Addr)(c:Nat)(l:List Pl.Par)(g:FuncId)(cap:Array Value)(p:Pl.Par->Bool)(w:World)(hl:Seg encPar 4 w w.heap.size A l)(hm:l.length<=1000000)
  (hen: ∀args w,(callFunc g args).run Tryz.prog w=.ok (.enter g args) w)
  (hp: ∀x∈l,∀W,Below w.heap.size w W->Calls Tryz.prog g (#[.agg #[.string x.name,.int .i64 x.south,.int .i64 x.fr,.int .i64 x.till]]++cap) W fun e W'=>e=.returned (.bool (p x))∧Below W.heap.size W W'):
  Calls Tryz.prog 87 #[.slice A l.length c,.func (.func g) #[] cap] w fun e w'=>e=.returned (.bool (l.any p))∧Below w.heap.size w w':=by
 have HV:Hid (decide (0<=Pl.pos (Pl.idx p l))=l.any p):=by unfold Hid;rw[Pl.pos_ge,Pl.idx_any]
 go_enter Tryz.func87,Tryz.ntmps87
 go_wp2_with (go_at_call 156;refine(idxF_p A c l g cap p w hl hm hen hp).mono ?_;rintro e w1 ⟨rfl,hx1⟩;have hb1:Below w.heap.size w w1:=Below.trans (by go_grown) (hx1.mono (by go_size));clear hx1;have hsz1:w.heap.size<=w1.heap.size:=hb1.size)
 go_ret
 exact⟨ret_bool (by rw[<-HV.out]),by go_grown⟩
theorem idxF_i (A:Option Addr)(c:Nat)(l:List Int)(g:FuncId)(cap:Array Value)(p:Int->Bool)(w:World)(hl:Seg encInt 1 w w.heap.size A l)(hm:l.length<=1000000)
  (hen: ∀args w,(callFunc g args).run Tryz.prog w=.ok (.enter g args) w)
  (hp: ∀x∈l,∀W,Below w.heap.size w W->Calls Tryz.prog g (#[.int .i64 x]++cap) W fun e W'=>e=.returned (.bool (p x))∧Below W.heap.size W W'):
  Calls Tryz.prog 191 #[.slice A l.length c,.func (.func g) #[] cap] w fun e w'=>e=.returned (.int .i64 (Pl.pos (Pl.idx p l)))∧Below w.heap.size w w':=by
 go_enter Tryz.func191,Tryz.ntmps191
 go_wp2
 go_loopw [8] (fun i wr=> ∃(k:Nat),k<=l.length∧i=.int .i64 k∧Hid (∀j (h:j<l.length),j<k->p l[j]=false)∧Below w.heap.size w wr) (fun i _=>l.length-(intOf i).toNat)
 case atStart=>exact⟨0,by omega,rfl,Lib.hid fun j _ h=>by omega,by go_grown⟩
 case round=>
  obtain⟨k,hk,rfl,hg,hb⟩:=hrel
  have hsz:=hb.size
  by_cases hlt:k<l.length
  ·obtain⟨b,off,rfl,hbB,q0⟩:=Ints.at1 (hl.below hb) hlt
   have hpk:=Lib.hid (hp l[k] (List.getElem_mem hlt))
   cases hc:p l[k]with
   |true=>
    have hv:=Lib.hid (Pl.idx_hit (p:=p) hlt (fun j hj=>hg.out j (by omega) hj) hc)
    have HC:=Lib.hid hc
    clear hc
    go_wp2
    refine(hpk.out _ (by go_grown)).mono ?_
    rintro e w2 ⟨rfl,hx⟩
    rw[HC.out]
    have hb2:Below w.heap.size w w2:=Below.trans (by go_grown) (hx.mono (by go_size))
    clear hx
    go_wp2
    go_ret
    exact⟨by rw[hv.out];try rfl,hb2⟩
   | false=>
    have HC:=Lib.hid hc
    clear hc
    go_wp2
    refine(hpk.out _ (by go_grown)).mono ?_
    rintro e w2 ⟨rfl,hx⟩
    rw[HC.out]
    have hb2:Below w.heap.size w w2:=Below.trans (by go_grown) (hx.mono (by go_size))
    clear hx
    go_wp2
    go_roundw
    case rel=>exact⟨k+1,by omega,by go_num,Lib.hid fun j h hj=>by
     by_cases e:j=k
     ·subst e;exact HC.out
     ·exact hg.out j h (by omega),hb2⟩
    case measure=>first|(simp[intOf];done)|(simp[intOf];omega)
  ·have hv:=Lib.hid (Pl.idx_none (p:=p) (l:=l) fun j hj=>hg.out j hj (by omega))
   go_wp2
   go_ret
   exact⟨by rw[hv.out];try rfl,by go_grown⟩
theorem conF_i (A:Option Addr)(c:Nat)(l:List Int)(g:FuncId)(cap:Array Value)(p:Int->Bool)(w:World)(hl:Seg encInt 1 w w.heap.size A l)(hm:l.length<=1000000)
  (hen: ∀args w,(callFunc g args).run Tryz.prog w=.ok (.enter g args) w)
  (hp: ∀x∈l,∀W,Below w.heap.size w W->Calls Tryz.prog g (#[.int .i64 x]++cap) W fun e W'=>e=.returned (.bool (p x))∧Below W.heap.size W W'):
  Calls Tryz.prog 172 #[.slice A l.length c,.func (.func g) #[] cap] w fun e w'=>e=.returned (.bool (l.any p))∧Below w.heap.size w w':=by
 have HV:Hid (decide (0<=Pl.pos (Pl.idx p l))=l.any p):=by unfold Hid;rw[Pl.pos_ge,Pl.idx_any]
 go_enter Tryz.func172,Tryz.ntmps172
 go_wp2_with (go_at_call 191;refine(idxF_i A c l g cap p w hl hm hen hp).mono ?_;rintro e w1 ⟨rfl,hx1⟩;have hb1:Below w.heap.size w w1:=Below.trans (by go_grown) (hx1.mono (by go_size));clear hx1;have hsz1:w.heap.size<=w1.heap.size:=hb1.size)
 go_ret
 exact⟨ret_bool (by rw[<-HV.out]),by go_grown⟩
theorem idxF_b (A:Option Addr)(c:Nat)(l:List Pl.Bd)(g:FuncId)(cap:Array Value)(p:Pl.Bd->Bool)(w:World)(hl:Seg encBd 4 w w.heap.size A l)(hm:l.length<=1000000)
  (hen: ∀args w,(callFunc g args).run Tryz.prog w=.ok (.enter g args) w)
  (hp: ∀x∈l,∀W,Below w.heap.size w W->Calls Tryz.prog g (#[.agg (i4 (x.fr:Int) (x.till:Int) x.most x.record)]++cap) W fun e W'=>e=.returned (.bool (p x))∧Below W.heap.size W W'):
  Calls Tryz.prog 240 #[.slice A l.length c,.func (.func g) #[] cap] w fun e w'=>e=.returned (.int .i64 (Pl.pos (Pl.idx p l)))∧Below w.heap.size w w':=by
 go_enter Tryz.func240,Tryz.ntmps240
 go_wp2
 go_loopw [8] (fun i wr=> ∃(k:Nat),k<=l.length∧i=.int .i64 k∧Hid (∀j (h:j<l.length),j<k->p l[j]=false)∧Below w.heap.size w wr) (fun i _=>l.length-(intOf i).toNat)
 case atStart=>exact⟨0,by omega,rfl,Lib.hid fun j _ h=>by omega,by go_grown⟩
 case round=>
  obtain⟨k,hk,rfl,hg,hb⟩:=hrel
  have hsz:=hb.size
  by_cases hlt:k<l.length
  ·obtain⟨b,off,rfl,hbB,q0,q1,q2,q3⟩:=Bds.at4 (hl.below hb) hlt
   have hpk:=Lib.hid (hp l[k] (List.getElem_mem hlt))
   cases hc:p l[k]with
   |true=>
    have hv:=Lib.hid (Pl.idx_hit (p:=p) hlt (fun j hj=>hg.out j (by omega) hj) hc)
    have HC:=Lib.hid hc
    clear hc
    go_wp2
    refine(hpk.out _ (by go_grown)).mono ?_
    rintro e w2 ⟨rfl,hx⟩
    rw[HC.out]
    have hb2:Below w.heap.size w w2:=Below.trans (by go_grown) (hx.mono (by go_size))
    clear hx
    go_wp2
    go_ret
    exact⟨by rw[hv.out];try rfl,hb2⟩
   | false=>
    have HC:=Lib.hid hc
    clear hc
    go_wp2
    refine(hpk.out _ (by go_grown)).mono ?_
    rintro e w2 ⟨rfl,hx⟩
    rw[HC.out]
    have hb2:Below w.heap.size w w2:=Below.trans (by go_grown) (hx.mono (by go_size))
    clear hx
    go_wp2
    go_roundw
    case rel=>exact⟨k+1,by omega,by go_num,Lib.hid fun j h hj=>by
     by_cases e:j=k
     ·subst e;exact HC.out
     ·exact hg.out j h (by omega),hb2⟩
    case measure=>first|(simp[intOf];done)|(simp[intOf];omega)
  ·have hv:=Lib.hid (Pl.idx_none (p:=p) (l:=l) fun j hj=>hg.out j hj (by omega))
   go_wp2
   go_ret
   exact⟨by rw[hv.out];try rfl,by go_grown⟩
theorem conF_b (A:Option Addr)(c:Nat)(l:List Pl.Bd)(g:FuncId)(cap:Array Value)(p:Pl.Bd->Bool)(w:World)(hl:Seg encBd 4 w w.heap.size A l)(hm:l.length<=1000000)
  (hen: ∀args w,(callFunc g args).run Tryz.prog w=.ok (.enter g args) w)
  (hp: ∀x∈l,∀W,Below w.heap.size w W->Calls Tryz.prog g (#[.agg (i4 (x.fr:Int) (x.till:Int) x.most x.record)]++cap) W fun e W'=>e=.returned (.bool (p x))∧Below W.heap.size W W'):
  Calls Tryz.prog 174 #[.slice A l.length c,.func (.func g) #[] cap] w fun e w'=>e=.returned (.bool (l.any p))∧Below w.heap.size w w':=by
 have HV:Hid (decide (0<=Pl.pos (Pl.idx p l))=l.any p):=by unfold Hid;rw[Pl.pos_ge,Pl.idx_any]
 go_enter Tryz.func174,Tryz.ntmps174
 go_wp2_with (go_at_call 240;refine(idxF_b A c l g cap p w hl hm hen hp).mono ?_;rintro e w1 ⟨rfl,hx1⟩;have hb1:Below w.heap.size w w1:=Below.trans (by go_grown) (hx1.mono (by go_size));clear hx1;have hsz1:w.heap.size<=w1.heap.size:=hb1.size)
 go_ret
 exact⟨ret_bool (by rw[<-HV.out]),by go_grown⟩
theorem idxF_t (A:Option Addr)(c:Nat)(l:List (ByteArray×Int))(g:FuncId)(cap:Array Value)(p:(ByteArray×Int)->Bool)(w:World)(hl:Seg encSta 2 w w.heap.size A l)(hm:l.length<=1000000)
  (hen: ∀args w,(callFunc g args).run Tryz.prog w=.ok (.enter g args) w)
  (hp: ∀x∈l,∀W,Below w.heap.size w W->Calls Tryz.prog g (#[.agg #[.string x.1,.int .i64 x.2]]++cap) W fun e W'=>e=.returned (.bool (p x))∧Below W.heap.size W W'):
  Calls Tryz.prog 315 #[.slice A l.length c,.func (.func g) #[] cap] w fun e w'=>e=.returned (.int .i64 (Pl.pos (Pl.idx p l)))∧Below w.heap.size w w':=by
 go_enter Tryz.func315,Tryz.ntmps315
 go_wp2
 go_loopw [8] (fun i wr=> ∃(k:Nat),k<=l.length∧i=.int .i64 k∧Hid (∀j (h:j<l.length),j<k->p l[j]=false)∧Below w.heap.size w wr) (fun i _=>l.length-(intOf i).toNat)
 case atStart=>exact⟨0,by omega,rfl,Lib.hid fun j _ h=>by omega,by go_grown⟩
 case round=>
  obtain⟨k,hk,rfl,hg,hb⟩:=hrel
  have hsz:=hb.size
  by_cases hlt:k<l.length
  ·obtain⟨b,off,rfl,hbB,q0,q1⟩:=Stas.at2 (hl.below hb) hlt
   have hpk:=Lib.hid (hp l[k] (List.getElem_mem hlt))
   cases hc:p l[k]with
   |true=>
    have hv:=Lib.hid (Pl.idx_hit (p:=p) hlt (fun j hj=>hg.out j (by omega) hj) hc)
    have HC:=Lib.hid hc
    clear hc
    go_wp2
    refine(hpk.out _ (by go_grown)).mono ?_
    rintro e w2 ⟨rfl,hx⟩
    rw[HC.out]
    have hb2:Below w.heap.size w w2:=Below.trans (by go_grown) (hx.mono (by go_size))
    clear hx
    go_wp2
    go_ret
    exact⟨by rw[hv.out];try rfl,hb2⟩
   | false=>
    have HC:=Lib.hid hc
    clear hc
    go_wp2
    refine(hpk.out _ (by go_grown)).mono ?_
    rintro e w2 ⟨rfl,hx⟩
    rw[HC.out]
    have hb2:Below w.heap.size w w2:=Below.trans (by go_grown) (hx.mono (by go_size))
    clear hx
    go_wp2
    go_roundw
    case rel=>exact⟨k+1,by omega,by go_num,Lib.hid fun j h hj=>by
     by_cases e:j=k
     ·subst e;exact HC.out
     ·exact hg.out j h (by omega),hb2⟩
    case measure=>first|(simp[intOf];done)|(simp[intOf];omega)
  ·have hv:=Lib.hid (Pl.idx_none (p:=p) (l:=l) fun j hj=>hg.out j hj (by omega))
   go_wp2
   go_ret
   exact⟨by rw[hv.out];try rfl,by go_grown⟩
end Go.Proofs.YtgbpekeoegfjpaaGreatDoor
/- Walks: the names of a field. -/
namespace Go.Proofs.YtgbpekeoegfjpaaGreatDoor
open Go.RowKit
variable (A1 A2 A3 A4 : Option Addr) (c1 c2 c3 c4 : Nat) (f : Pl.Fld)
attribute [-go_sem] Builtin.append_
theorem info_string :(Tryz.prog.info? 9).map (fun i=>(i.zero,i.size,i.bytes))=some (some (.string ⟨#[]⟩),1,16):=by kernel_rfl
theorem grownBy_of_below {W W':World}(h:Below W.heap.size W W'):W.grownBy W' none:=
 ⟨h.os,h.tape,h.output,h.size,fun k hk _=>h.block k hk⟩
theorem appS {n₀ k:Nat}{w1:World}{v:Value}{xs:List Value}(hr:w1.ownsRow n₀ 9 1 v k xs)(a:ByteArray)(hk:k+1<=1000000)(hn:n₀<=w1.heap.size):
  ∃g' cap' w2,(Builtin.append_ #[24,24] 24 #[v,.slice (some ⟨w1.heap.size,0,none⟩) 1 1]).run Tryz.prog (w1.alloc (.cells #[.string a] 9))=.ok (.slice (some ⟨g',0,none⟩) (k+1) cap') w2∧
   w2.ownsRow n₀ 9 1 (.slice (some ⟨g',0,none⟩) (k+1) cap') (k+1) (xs++[.string a])∧Below n₀ w1 w2:=by
 obtain⟨i0,hi0,hz0,hz1,hz2⟩:=info_parts info_string
 have hml:k+1<=maxLen:=Nat.le_trans hk (by decide)
 have hcell: ∀j u,[Value.string a][j]?=some u->(w1.alloc (.cells #[.string a] 9)).cell? ((⟨w1.heap.size,0,none⟩:Addr).add j)=some u:=by
  intro j u hj
  match j,hj with
  |0,hj=>simp at hj;subst hj;simp[Addr.add]
 obtain⟨v',w2,hrun,hown,hgrow,hn2⟩:=run_append_own (P:=Tryz.prog) (w:=w1.alloc (.cells #[.string a] 9)) n₀ 24 24 9 i0 _ 1 16 Tryz.underlying24 hi0 hz0 hz1 hz2 rfl (by decide) v k xs (hr.alloc _) ⟨w1.heap.size,0,none⟩ 1 1 [.string a] rfl hcell (by simp[Value.oneCell']) hml (by omega) (by simp only[World.size_alloc];omega)
 obtain⟨g',cap',rfl⟩:=ownsRow_succ hown
 refine⟨g',cap',w2,hrun,hown,?_⟩
 refine(((Below.refl n₀ w1).alloc hn _).grown hgrow (by simp only[World.size_alloc];omega) fun j ej=> ?_)
 exact((hr.alloc (.cells #[.string a] 9)).lt j ej).1
theorem own_below {W W':World}{n₀:Nat}{t:TypeId}{s k:Nat}{v:Value}{xs:List Value}(h:W.ownsRow n₀ t s v k xs)(hb:Below W.heap.size W W'):W'.ownsRow n₀ t s v k xs:=
 h.kept (grownBy_of_below hb) (by cases v.ownBlock<;>simp)
def From (n:Nat)(A:Option Addr):Prop:= ∀a,A=some a->n<=a.block
theorem seg_set {α:Type}{enc:α->List Value}{size:Nat}{w:World}{C o n:Nat}{A:Option Addr}{l:List α}(h:Seg enc size w w.heap.size A l)(hA:From n A)(hC:C<n)(u:Value):Seg enc size (w.setCell ⟨C,o,none⟩ u) (w.setCell ⟨C,o,none⟩ u).heap.size A l:=by
 rcases h with h|⟨b,off,rfl,hb,hc⟩
 ·exact .inl h
 ·have hn:n<=b:=hA _ rfl
  refine .inr ⟨b,off,rfl,by simpa using hb,fun k x hx j v hv=> ?_⟩
  rw[World.cell?_of_block (Below.heap_setCell w ⟨C,o,none⟩ u b (by simp;omega))]
  exact hc k x hx j v hv
theorem nms_of_own {w:World}{n₀:Nat}{v:Value}{l:List ByteArray}(h:w.ownsRow n₀ 9 1 v l.length (l.map Value.string)): ∃A c,v=.slice A l.length c∧Nms w w.heap.size A l∧l.length<=c∧From n₀ A:=by
 have hle: ∀A' c',v=.slice A' l.length c'->l.length<=c':=by
  rintro A' c' rfl
  rcases h.2 with ⟨h,_⟩|⟨g',cap',cur,h,_,_,hle,_⟩
  ·cases l with
   |nil=>simp
   |cons x r=>cases h
  ·cases h;exact hle
 cases l with
 | nil=>
  rcases h.2 with ⟨h2,_⟩|⟨g',cap',cur,h2,_,_,_,_⟩
  ·exact⟨none,0,h2,.inl rfl,by simp,by intro a ha;cases ha⟩
  ·subst h2
   exact⟨_,cap',rfl,.inl rfl,by simp,by intro a ha;cases ha;exact(h.lt g' rfl).1⟩
 |cons x r=>
  obtain⟨g,cap,rfl⟩:=ownsRow_succ (k:=r.length) h
  refine⟨_,cap,rfl,.inr ⟨g,0,rfl,(h.lt g rfl).2,fun k x' hx j v hv=> ?_⟩,hle _ _ rfl,by intro a ha;cases ha;exact(h.lt g rfl).1⟩
  have hj:j=0:=by have:=(List.getElem?_eq_some_iff.1 hv).1;simp[encNm]at this;omega
  subst hj
  simp[encNm]at hv
  subst hv
  have:=h.cells (g:=g) rfl k (.string x') (by simp only[List.getElem?_map,hx,Option.map_some])
  rw[Go.WideShapes.add_plain]at this
  simpa using this
theorem set_keep (w:World)(B C o j:Nat)(u:Value)(h:B≠C):(w.setCell ⟨C,o,none⟩ u).cell? ⟨B,j,none⟩=w.cell? ⟨B,j,none⟩:=World.cell?_of_block (Below.heap_setCell w ⟨C,o,none⟩ u B h)
theorem names1_a (x:ByteArray×Int)(w:World):Calls Tryz.prog 151 #[.agg #[.string x.1,.int .i64 x.2]] w fun e w'=>e=.returned (.string x.1)∧Below w.heap.size w w':=by
 go_enter Tryz.func151,Tryz.ntmps151
 go_wp2
 go_ret
 exact⟨rfl,by go_grown⟩
theorem names2_a (p:Pl.Par)(w:World):Calls Tryz.prog 153 #[.agg #[.string p.name,.int .i64 p.south,.int .i64 p.fr,.int .i64 p.till]] w fun e w'=>e=.returned (.string p.name)∧Below w.heap.size w w':=by
 go_enter Tryz.func153,Tryz.ntmps153
 go_wp2
 go_ret
 exact⟨rfl,by go_grown⟩
def NewNms (l:List ByteArray)(w:World)(e:Ending)(w':World):Prop:= ∃A c,e=.returned (.slice A l.length c)∧Nms w' w'.heap.size A l∧l.length<=c∧From w.heap.size A∧Below w.heap.size w w'
set_option maxHeartbeats 1000000 in
theorem namedS_a (A:Option Addr)(c:Nat)(l:List (ByteArray×Int))(w:World)(hl:Stas w w.heap.size A l)(hm:l.length<=100000):
  Calls Tryz.prog 150 #[.slice A l.length c,.func (.func 151) #[] #[]] w (NewNms (l.map Prod.fst) w):=by
 have hen:=enters_of (P:=Tryz.prog) Tryz.func151 (by kernel_rfl) rfl
 go_enter Tryz.func150,Tryz.ntmps150
 go_wp2
 go_loopw [5,10] (fun o i wr=> ∃(k:Nat),k<=l.length∧i=.int .i64 k∧wr.ownsRow w.heap.size 9 1 o k (((l.take k).map Prod.fst).map Value.string)∧Below w.heap.size w wr) (fun _ i _=>l.length-(intOf i).toNat)
 case atStart=>exact⟨0,by omega,rfl,World.ownsRow_nil _ _ _ _,by go_grown⟩
 case round=>
  obtain⟨k,hk,rfl,hown,hb⟩:=hrel
  have hsz:=hb.size
  by_cases hlt:k<l.length
  ·obtain⟨b,off,rfl,hbB,q0,q1⟩:=Stas.at2 (hl.below hb) hlt
   go_wp2_with (go_at_call 151;refine(names1_a _ _).mono ?_;rintro e w1 ⟨rfl,hx⟩)
   have hb0:Below wr.heap.size wr w1:=Below.trans (by go_grown) (hx.mono (by go_size))
   clear hx
   have hb1:Below w.heap.size w w1:=hb.trans (hb0.mono hsz)
   have hsz1:=hb1.size
   obtain⟨g',cap',w2,hrun,hown2,hb2⟩:=appS (own_below hown hb0) l[k].1 (by omega) hsz1
   go_wp2
   simp only[hrun]
   go_wp2
   go_roundw
   case rel=>exact⟨k+1,by omega,by go_num,by rw[List.take_succ_eq_append_getElem hlt,List.map_append,List.map_append];exact hown2,hb1.trans hb2⟩
   case measure=>first|(simp[intOf];done)|(simp[intOf];omega)
  ·obtain rfl:k=l.length:=by omega
   rw[List.take_length]at hown
   go_wp2
   obtain⟨A',c',hv,hN,hc,hF⟩:=nms_of_own (l:=l.map Prod.fst) (by rw[List.length_map];exact hown)
   subst hv
   go_ret
   exact⟨A',c',by simp,hN,hc,hF,hb⟩
set_option maxHeartbeats 1000000 in
theorem namedP_a (A:Option Addr)(c:Nat)(l:List Pl.Par)(w:World)(hl:Pars w w.heap.size A l)(hm:l.length<=100000):
  Calls Tryz.prog 152 #[.slice A l.length c,.func (.func 153) #[] #[]] w (NewNms (l.map Pl.Par.name) w):=by
 have hen:=enters_of (P:=Tryz.prog) Tryz.func153 (by kernel_rfl) rfl
 go_enter Tryz.func152,Tryz.ntmps152
 go_wp2
 go_loopw [5,10] (fun o i wr=> ∃(k:Nat),k<=l.length∧i=.int .i64 k∧wr.ownsRow w.heap.size 9 1 o k (((l.take k).map Pl.Par.name).map Value.string)∧Below w.heap.size w wr) (fun _ i _=>l.length-(intOf i).toNat)
 case atStart=>exact⟨0,by omega,rfl,World.ownsRow_nil _ _ _ _,by go_grown⟩
 case round=>
  obtain⟨k,hk,rfl,hown,hb⟩:=hrel
  have hsz:=hb.size
  by_cases hlt:k<l.length
  ·obtain⟨b,off,rfl,hbB,q0,q1,q2,q3⟩:=Pars.at4 (hl.below hb) hlt
   go_wp2_with (go_at_call 153;refine(names2_a _ _).mono ?_;rintro e w1 ⟨rfl,hx⟩)
   have hb0:Below wr.heap.size wr w1:=Below.trans (by go_grown) (hx.mono (by go_size))
   clear hx
   have hb1:Below w.heap.size w w1:=hb.trans (hb0.mono hsz)
   have hsz1:=hb1.size
   obtain⟨g',cap',w2,hrun,hown2,hb2⟩:=appS (own_below hown hb0) l[k].name (by omega) hsz1
   go_wp2
   simp only[hrun]
   go_wp2
   go_roundw
   case rel=>exact⟨k+1,by omega,by go_num,by rw[List.take_succ_eq_append_getElem hlt,List.map_append,List.map_append];exact hown2,hb1.trans hb2⟩
   case measure=>first|(simp[intOf];done)|(simp[intOf];omega)
  ·obtain rfl:k=l.length:=by omega
   rw[List.take_length]at hown
   go_wp2
   obtain⟨A',c',hv,hN,hc,hF⟩:=nms_of_own (l:=l.map Pl.Par.name) (by rw[List.length_map];exact hown)
   subst hv
   go_ret
   exact⟨A',c',by simp,hN,hc,hF,hb⟩
set_option maxHeartbeats 4000000 in
theorem names_a (w:World)(hf:FldS w w.heap.size A1 A2 A3 A4 f)(hm:Small f):
  Calls Tryz.prog 79 #[.agg (fq A1 A2 A3 A4 c1 c2 c3 c4 f)] w fun e w'=> ∃B1 d1 B3 d3,e=.returned (.agg #[.slice B1 f.st.length d1,.slice A2 f.li.length c2,.slice B3 f.pa.length d3])∧Nms w' w'.heap.size B1 f.sn∧Nms w' w'.heap.size B3 f.pn∧f.st.length<=d1∧f.pa.length<=d3∧Below w.heap.size w w':=by
 have kb:=heap_alloc2_old w (.cells (fq A1 A2 A3 A4 c1 c2 c3 c4 f) 28) (.cells #[.slice none 0 0,.slice none 0 0,.slice none 0 0] 116)
 have kr:=heap_alloc2_new w (.cells (fq A1 A2 A3 A4 c1 c2 c3 c4 f) 28) (.cells #[.slice none 0 0,.slice none 0 0,.slice none 0 0] 116)
 obtain⟨hckb,hfkb⟩:=blk_cells kb
 have hall:Below w.heap.size w ((w.alloc (.cells (fq A1 A2 A3 A4 c1 c2 c3 c4 f) 28)).alloc (.cells #[.slice none 0 0,.slice none 0 0,.slice none 0 0] 116)):=by go_grown
 go_enter Tryz.func79,Tryz.ntmps79
 go_wp2
 go_region_held3 (fun W=> ∀j,W.cell? ⟨w.heap.size,j,none⟩=((fq A1 A2 A3 A4 c1 c2 c3 c4 f):Array Value)[j]?) (first|exact hckb|exact fun j=>by rw[set_keep _ _ _ _ _ _ (by omega),set_keep _ _ _ _ _ _ (by omega),set_keep _ _ _ _ _ _ (by omega)];exact hckb j) (first
  |(go_at_call 150;refine(namedS_a A1 c1 f.st _ (hf.st.up (by go_grown)) hm.st).mono ?_;rintro e w1 ⟨B1,d1,rfl,hN1,hd1,hF1,hx⟩;obtain⟨kb,hckb,hfkb,hltkb⟩:=kB hx kb;obtain⟨kr,hckr,hfkr,hltkr⟩:=kB hx kr;have hall:Below w.heap.size w w1:=Below.trans (by go_grown) (hx.mono (by go_size));have hsz:w.heap.size<=w1.heap.size:=hall.size;clear hx)
  |(go_at_call 152;refine(namedP_a A3 c3 f.pa _ (hf.pa.up (by go_grown)) hm.pa).mono ?_;rintro e w2 ⟨B3,d3,rfl,hN3,hd3,hF3,hx⟩;obtain⟨kb,hckb,hfkb,hltkb⟩:=kB hx kb;obtain⟨kr,hckr,hfkr,hltkr⟩:=kB hx kr;have hall:Below w.heap.size w w2:=Below.trans (by go_grown) (hx.mono (by go_size));have hsz:w.heap.size<=w2.heap.size:=hall.size;have h12:Below w1.heap.size w1 w2:=Below.trans (by go_grown) (hx.mono (by go_size));clear hx))
 all_goals go_wp2
 refine bodyPost_ret (v:=.agg #[.slice B1 f.st.length d1,.slice A2 f.li.length c2,.slice B3 f.pa.length d3]) (by simp[results,Tryz.results79,go_sem,hckr]) rfl ⟨B1,d1,B3,d3,rfl,?_,?_,by simpa using hd1,by simpa using hd3,(((hall.setCell (p:=⟨w.heap.size+1,0,none⟩) (show w.heap.size<=w.heap.size+1 by omega) _).setCell (p:=⟨w.heap.size+1,1,none⟩) (show w.heap.size<=w.heap.size+1 by omega) _).setCell (p:=⟨w.heap.size+1,2,none⟩) (show w.heap.size<=w.heap.size+1 by omega) _)⟩
 ·exact seg_set (seg_set (seg_set (hN1.up h12) hF1 (by first|omega|(simp;done)|(simp;omega)) _) hF1 (by first|omega|(simp;done)|(simp;omega)) _) hF1 (by first|omega|(simp;done)|(simp;omega)) _
 ·exact seg_set (seg_set (seg_set hN3 hF3 (by first|omega|(simp;done)|(simp;omega)) _) hF3 (by first|omega|(simp;done)|(simp;omega)) _) hF3 (by first|omega|(simp;done)|(simp;omega)) _
end Go.Proofs.YtgbpekeoegfjpaaGreatDoor
/- Plain laws of chapter 03: which error a field has. No program. -/
namespace Go.Proofs.YtgbpekeoegfjpaaGreatDoor
variable (A1 A2 A3 A4 : Option Addr) (c1 c2 c3 c4 : Nat) (f : Pl.Fld)
namespace Pl
variable (A1 A2 A3 A4 : Option Addr) (c1 c2 c3 c4 : Nat) (f : Pl.Fld)
def Fld.N1 (f:Fld):Prop:= ¬(12<f.st.length∨10<f.li.length∨40<f.pa.length)
def Fld.N2 (f:Fld):Prop:= ¬(f.st.length<2∨f.li.length<1)
def Fld.N4 (f:Fld):Prop:=(f.sn.all isName&&f.li.all isName&&f.pn.all isName)=true
def Fld.N5 (f:Fld):Prop:=(twice f.sn||twice f.li||twice f.pn)=false
def Fld.N6 (f:Fld):Prop:=(f.st.all (fun s=>decide (0<=s.2∧s.2<=100000))&&f.pa.all (parIn f.st.length f.li.length))=true
def Fld.N7 (f:Fld):Prop:=(rising (f.st.map Prod.snd)&&apart [] f.pa)=true
section
variable {f : Fld}
theorem fieldE_2 (h: ¬f.N1):fieldE f=2:=by unfold fieldE;rw[if_pos (Classical.not_not.1 h)]
theorem fieldE_5 (h1:f.N1)(h: ¬f.N2):fieldE f=5:=by unfold fieldE;rw[if_neg h1,if_pos (Classical.not_not.1 h)]
theorem fieldE_v (h1:f.N1)(h2:f.N2)(h:vars f.va≠0):fieldE f=vars f.va:=by unfold fieldE;rw[if_neg h1,if_neg h2,if_pos h]
theorem fieldE_4 (h1:f.N1)(h2:f.N2)(h3:vars f.va=0)(h: ¬f.N4):fieldE f=4:=by
 unfold fieldE;rw[if_neg h1,if_neg h2,if_neg (fun h=>h h3),if_pos (by unfold Fld.N4 at h;simpa using h)]
theorem fieldE_6 (h1:f.N1)(h2:f.N2)(h3:vars f.va=0)(h4:f.N4)(h: ¬f.N5):fieldE f=6:=by
 unfold Fld.N4 at h4
 unfold fieldE;rw[if_neg h1,if_neg h2,if_neg (fun h=>h h3),h4,if_neg (by decide),if_pos (by unfold Fld.N5 at h;rw[Bool.not_eq_false]at h;exact h)]
theorem fieldE_1 (h1:f.N1)(h2:f.N2)(h3:vars f.va=0)(h4:f.N4)(h5:f.N5)(h: ¬f.N6):fieldE f=1:=by
 unfold Fld.N4 at h4
 unfold Fld.N5 at h5
 unfold fieldE;rw[if_neg h1,if_neg h2,if_neg (fun h=>h h3),h4,if_neg (by decide),h5,if_neg (by decide),if_pos (by unfold Fld.N6 at h;rw[Bool.not_eq_true]at h;exact h)]
theorem fieldE_30 (h1:f.N1)(h2:f.N2)(h3:vars f.va=0)(h4:f.N4)(h5:f.N5)(h6:f.N6)(h: ¬f.N7):fieldE f=30:=by
 unfold Fld.N4 at h4
 unfold Fld.N5 at h5
 unfold Fld.N6 at h6
 unfold fieldE;rw[if_neg h1,if_neg h2,if_neg (fun h=>h h3),h4,if_neg (by decide),h5,if_neg (by decide),h6,if_neg (by decide),if_pos (by unfold Fld.N7 at h;rw[Bool.not_eq_true]at h;exact h)]
theorem fieldE_0 (h1:f.N1)(h2:f.N2)(h3:vars f.va=0)(h4:f.N4)(h5:f.N5)(h6:f.N6)(h7:f.N7):fieldE f=0:=by
 unfold Fld.N4 at h4
 unfold Fld.N5 at h5
 unfold Fld.N6 at h6
 unfold Fld.N7 at h7
 unfold fieldE;rw[if_neg h1,if_neg h2,if_neg (fun h=>h h3),h4,if_neg (by decide),h5,if_neg (by decide),h6,if_neg (by decide),h7,if_neg (by decide)]
theorem any_not {l:List ByteArray}{b:Bool}(h:(l.any fun s=> !isName s)=b):l.all isName= !b:=by
 subst h
 induction l with
 |nil=>rfl
 |cons a l ih=>rw[List.all_cons,List.any_cons,ih];cases isName a<;>simp
theorem N4_of {a b c:Bool}(ha:(f.sn.any fun s=> !isName s)=a)(hb:(f.li.any fun s=> !isName s)=b)(hc:(f.pn.any fun s=> !isName s)=c):f.N4↔(a=false∧b=false∧c=false):=by
 unfold Fld.N4
 rw[any_not ha,any_not hb,any_not hc]
 cases a<;>cases b<;>cases c<;>simp
theorem N5_of {a b c:Bool}(ha:twice f.sn=a)(hb:twice f.li=b)(hc:twice f.pn=c):f.N5↔(a=false∧b=false∧c=false):=by
 unfold Fld.N5
 rw[ha,hb,hc]
 cases a<;>cases b<;>cases c<;>simp
theorem N6_st {k:Nat}(hk:k<f.st.length)(h: ¬(0<=f.st[k].2∧f.st[k].2<=100000)): ¬f.N6:=by
 unfold Fld.N6
 rw[Bool.and_eq_true,List.all_eq_true]
 rintro⟨h1,-⟩
 exact h (by simpa using h1 _ (List.getElem_mem hk))
theorem N6_pa {k:Nat}(hk:k<f.pa.length)(h:parIn f.st.length f.li.length f.pa[k]=false): ¬f.N6:=by
 unfold Fld.N6
 rw[Bool.and_eq_true,List.all_eq_true,List.all_eq_true]
 rintro⟨-,h1⟩
 rw[h1 _ (List.getElem_mem hk)]at h
 cases h
theorem N6_ok (h1: ∀k (hk:k<f.st.length),0<=f.st[k].2∧f.st[k].2<=100000)(h2: ∀k (hk:k<f.pa.length),parIn f.st.length f.li.length f.pa[k]=true):f.N6:=by
 unfold Fld.N6
 rw[Bool.and_eq_true,List.all_eq_true,List.all_eq_true]
 refine⟨fun x hx=> ?_,fun x hx=> ?_⟩
 ·obtain⟨k,hk,rfl⟩:=List.getElem_of_mem hx
  simpa using h1 k hk
 ·obtain⟨k,hk,rfl⟩:=List.getElem_of_mem hx
  exact h2 k hk
theorem rising_bad : ∀ {l:List Int} {k:Nat} (hk:k+1<l.length),l[k+1]<=l[k]->rising l=false
 | [],k,hk,_=>by simp at hk
 | [a],k,hk,_=>by simp at hk
 |a::b::l,0,hk,h=>by
  simp only[List.getElem_cons_zero,Nat.zero_add,List.getElem_cons_succ]at h
  unfold rising
  have: ¬a<b:=by omega
  simp[this]
 |a::b::l,k+1,hk,h=>by
  have:=rising_bad (l:=b::l) (k:=k) (by simpa using hk) (by simpa using h)
  unfold rising
  rw[this,Bool.and_false]
theorem rising_ok : ∀ {l:List Int},(∀k (hk:k+1<l.length),l[k]<l[k+1])->rising l=true
 | [],_=>rfl
 | [a],_=>rfl
 |a::b::l,h=>by
  have h0:=h 0 (by simp)
  simp only[List.getElem_cons_zero,Nat.zero_add,List.getElem_cons_succ]at h0
  unfold rising
  rw[rising_ok (l:=b::l) (fun k hk=>by have:=h (k+1) (by simpa using hk);simpa using this)]
  simp[h0]
theorem apart_app (l r:List Par): ∀d:List Par,apart d (l++r)=(apart d l&&apart (d++l) r):=by
 induction l with
 |nil=>intro d;simp[apart]
 |cons p l ih=>intro d;simp[apart,ih,Bool.and_assoc]
theorem apart_at {l:List Par}{k:Nat}(hk:k<l.length):apart [] l=(apart [] (l.take k)&&(decide (l[k].fr<l[k].till)&& !((l.take k).any (over l[k]))&&apart (l.take k++[l[k]]) (l.drop (k+1)))):=by
 have:l=l.take k++l.drop k:=(List.take_append_drop k l).symm
 conv=>lhs;rw[this]
 rw[apart_app,List.nil_append,List.drop_eq_getElem_cons hk]
 rfl
theorem N7_rise {k:Nat}(hk:k+1<f.st.length)(h:f.st[k+1].2<=f.st[k].2): ¬f.N7:=by
 unfold Fld.N7
 rw[rising_bad (l:=f.st.map Prod.snd) (k:=k) (by simpa using hk) (by simpa using h)]
 simp
theorem N7_apart {k:Nat}(hk:k<f.pa.length)(h: ¬(f.pa[k].fr<f.pa[k].till∧(f.pa.take k).any (over f.pa[k])=false)): ¬f.N7:=by
 unfold Fld.N7
 rw[apart_at hk]
 intro h2
 simp only[Bool.and_eq_true,decide_eq_true_eq,Bool.not_eq_true']at h2
 exact h ⟨h2.2.2.1.1,h2.2.2.1.2⟩
theorem apart_step {l:List Par}{k:Nat}(hk:k<l.length)(h0:apart [] (l.take k)=true)(h1:l[k].fr<l[k].till)(h2:(l.take k).any (over l[k])=false):apart [] (l.take (k+1))=true:=by
 rw[List.take_succ_eq_append_getElem hk,apart_app,h0,List.nil_append]
 simp[apart,h1,h2]
theorem N7_ok (h1: ∀k (hk:k+1<f.st.length),f.st[k].2<f.st[k+1].2)(h2:apart [] f.pa=true):f.N7:=by
 unfold Fld.N7
 rw[h2,rising_ok (fun k hk=>by have:=h1 k (by simpa using hk);simpa using this)]
 rfl
end
end Pl
end Go.Proofs.YtgbpekeoegfjpaaGreatDoor
/- Walk: CheckField. -/
namespace Go.Proofs.YtgbpekeoegfjpaaGreatDoor
open Go.RowKit
variable (A1 A2 A3 A4 : Option Addr) (c1 c2 c3 c4 : Nat) (f : Pl.Fld)
theorem cfN_a (s:ByteArray)(w:World)(hs:s.size<=100000):Calls Tryz.prog 81 #[.string s] w fun e w'=>e=.returned (.bool (!Pl.isName s))∧Below w.heap.size w w':=by
 go_enter Tryz.func81,Tryz.ntmps81
 go_wp2_with (go_at_call 82;refine(isName_a _ _ hs).mono ?_;rintro e w' ⟨rfl,rfl⟩)
 go_ret
 exact⟨rfl,by go_grown⟩
theorem badNames (A:Option Addr)(c:Nat)(l:List ByteArray)(b:Bool)(w:World)(hl:Nms w w.heap.size A l)(hm:l.length<=100000)(hs: ∀s∈l,s.size<=100000)(hb:Hid ((l.any fun s=> !Pl.isName s)=b)):
  Calls Tryz.prog 80 #[.slice A l.length c,.func (.func 81) #[] #[]] w fun e w'=>e=.returned (.bool b)∧Below w.heap.size w w':=by
 have:=conF_s A c l 81 #[] (fun s=> !Pl.isName s) w hl (by omega) (enters_of (P:=Tryz.prog) Tryz.func81 (by kernel_rfl) rfl) (fun x hx W _=>cfN_a x W (hs x hx))
 rw[hb.out]at this
 exact this
theorem twice_h (A:Option Addr)(c:Nat)(l:List ByteArray)(b:Bool)(w:World)(hl:Nms w w.heap.size A l)(hm:l.length<=100000)(hc:l.length<=c)(hb:Hid (Pl.twice l=b)):
  Calls Tryz.prog 83 #[.slice A l.length c] w fun e w'=>e=.returned (.bool b)∧Below w.heap.size w w':=by
 have:=twice_a A c l w hl (by omega) hc
 rw[hb.out]at this
 exact this.mono fun e w' h=>⟨h.1,h.2▸Below.refl _ _⟩
theorem over_a (bp:Nat)(p q:Pl.Par)(w:World)(hp:w.heap[bp]?=some (.cells #[.string p.name,.int .i64 p.south,.int .i64 p.fr,.int .i64 p.till] 112 (0,0)))
  (h0: -1000000<=p.fr) (h1:p.fr<=1000000) (h2: -1000000<=p.till) (h3:p.till<=1000000) (k0: -1000000<=q.fr) (k1:q.fr<=1000000) (k2: -1000000<=q.till) (k3:q.till<=1000000):
  Calls Tryz.prog 85 #[.agg #[.string q.name,.int .i64 q.south,.int .i64 q.fr,.int .i64 q.till],.pointer (some ⟨bp,0,none⟩)] w fun e w'=>e=.returned (.bool (Pl.over p q))∧Below w.heap.size w w':=by
 have hlt:=(lO hp)
 obtain⟨hcp,hfp⟩:=blk_cells hp
 obtain⟨pn,ps,pf,pt⟩:=p
 obtain⟨qn,qs,qf,qt⟩:=q
 simp only at h0 h1 h2 h3 k0 k1 k2 k3 hcp
 by_cases hs:ps=qs
 ·subst hs
  have HV:Hid (decide (0<Pl.com2 ⟨pn,ps,pf,pt⟩ ⟨qn,ps,qf,qt⟩)=Pl.over ⟨pn,ps,pf,pt⟩ ⟨qn,ps,qf,qt⟩):=by unfold Hid Pl.over;simp
  go_enter Tryz.func85,Tryz.ntmps85
  go_wp2_with (go_at_call 86;refine(comD_a ⟨pn,ps,pf,pt⟩ ⟨qn,ps,qf,qt⟩ _ h0 h1 h2 h3 k0 k1 k2 k3).mono ?_;rintro e w1 ⟨rfl,hx1⟩;have hb1:Below w.heap.size w w1:=Below.trans (by go_grown) (hx1.mono (by go_size));clear hx1;have hsz1:w.heap.size<=w1.heap.size:=hb1.size)
  go_ret
  exact⟨ret_bool HV.out,by go_grown⟩
 ·have HV:Hid (false=Pl.over ⟨pn,ps,pf,pt⟩ ⟨qn,qs,qf,qt⟩):=by unfold Hid Pl.over;simp[hs]
  have hs':(ps==qs)=false:=by simpa using hs
  go_enter Tryz.func85,Tryz.ntmps85
  go_wp2
  go_ret
  exact⟨ret_bool HV.out,by go_grown⟩
end Go.Proofs.YtgbpekeoegfjpaaGreatDoor
/- Walk: CheckField. -/
namespace Go.Proofs.YtgbpekeoegfjpaaGreatDoor
open Go.RowKit
variable (A1 A2 A3 A4 : Option Addr) (c1 c2 c3 c4 : Nat) (f : Pl.Fld)
structure Caps (c1 c2 c3 c4:Nat)(f:Pl.Fld):Prop where
 st:f.st.length<=c1
 li:f.li.length<=c2
 pa:f.pa.length<=c3
 va:f.va.length<=c4
theorem overs_a (A:Option Addr)(c:Nat)(l:List Pl.Par)(bp:Nat)(p:Pl.Par)(b:Bool)(w:World)(hl:Pars w w.heap.size A l)(hm:l.length<=100000)
  (hp:w.heap[bp]?=some (.cells #[.string p.name,.int .i64 p.south,.int .i64 p.fr,.int .i64 p.till] 112 (0,0)))
  (h0:Pl.parIn 12 10 p=true) (hq: ∀q∈l,Pl.parIn 12 10 q=true) (hb:Hid (l.any (Pl.over p)=b)):
  Calls Tryz.prog 87 #[.slice A l.length c,.func (.func 85) #[] #[.pointer (some ⟨bp,0,none⟩)]] w fun e w'=>e=.returned (.bool b)∧Below w.heap.size w w':=by
 have key: ∀q,Pl.parIn 12 10 q=true->(-1000000<=q.fr∧q.fr<=1000000)∧ -1000000<=q.till∧q.till<=1000000:=by
  intro q h
  unfold Pl.parIn at h
  simp at h
  omega
 have hlt:=(lO hp)
 have:=conF_p A c l 85 #[.pointer (some ⟨bp,0,none⟩)] (Pl.over p) w hl (by omega) (enters_of (P:=Tryz.prog) Tryz.func85 (by kernel_rfl) rfl)
  (fun q hqm W hW=>over_a bp p q W ((hW.block bp hlt).trans hp) (key p h0).1.1 (key p h0).1.2 (key p h0).2.1 (key p h0).2.2 (key q (hq q hqm)).1.1 (key q (hq q hqm)).1.2 (key q (hq q hqm)).2.1 (key q (hq q hqm)).2.2)
 rw[hb.out]at this
 exact this
theorem varsA_h (A:Option Addr)(c:Nat)(l:List (Int×Int))(E:Int)(w:World)(h:Hid (Pl.vars l=E))(hl:Vars w w.heap.size A l)(hm:l.length<=maxLen):
  Calls Tryz.prog 78 #[.slice A l.length c] w fun e w'=>e=.returned (.int .i64 E)∧Below w.heap.size w w':=by
 have:=vars_a A c l w hl hm;rw[h.out]at this;exact this
set_option maxHeartbeats 4000000 in
theorem checkField_big (w:World)(_hf:FldS w w.heap.size A1 A2 A3 A4 f)(hm:Small f)(_hc:Caps c1 c2 c3 c4 f)(h1: ¬f.N1):
  Calls Tryz.prog 22 #[.agg (fq A1 A2 A3 A4 c1 c2 c3 c4 f)] w fun e w'=>e=.returned (.int .i64 (Pl.fieldE f))∧Below w.heap.size w w':=by
 have hE:=Lib.hid (Pl.fieldE_2 h1)
 have h1':12<f.st.length∨(f.st.length<=12∧10<f.li.length)∨(f.st.length<=12∧f.li.length<=10∧40<f.pa.length):=by unfold Pl.Fld.N1 at h1;omega
 obtain⟨m1,m2,m3,m4⟩:=hm
 clear h1
 rcases h1' with h|⟨h,h'⟩|⟨h,h',h''⟩
 all_goals
  go_enter Tryz.func22,Tryz.ntmps22
  go_wp2
  go_ret
  exact⟨ret_int (by rw[hE.out]),by go_grown⟩
set_option maxHeartbeats 4000000 in
theorem checkField_few (w:World)(_hf:FldS w w.heap.size A1 A2 A3 A4 f)(_hm:Small f)(_hc:Caps c1 c2 c3 c4 f)(h1:f.N1)(h2: ¬f.N2):
  Calls Tryz.prog 22 #[.agg (fq A1 A2 A3 A4 c1 c2 c3 c4 f)] w fun e w'=>e=.returned (.int .i64 (Pl.fieldE f))∧Below w.heap.size w w':=by
 have hE:=Lib.hid (Pl.fieldE_5 h1 h2)
 have h1':f.st.length<=12∧f.li.length<=10∧f.pa.length<=40:=by unfold Pl.Fld.N1 at h1;omega
 have h2':f.st.length<2∨(2<=f.st.length∧f.li.length<1):=by unfold Pl.Fld.N2 at h2;omega
 obtain⟨k1,k2,k3⟩:=h1'
 clear h1 h2
 rcases h2' with h|⟨h,h'⟩
 all_goals
  go_enter Tryz.func22,Tryz.ntmps22
  go_wp2
  go_ret
  exact⟨ret_int (by rw[hE.out]),by go_grown⟩
set_option maxHeartbeats 4000000 in
theorem checkField_vars (w:World)(hf:FldS w w.heap.size A1 A2 A3 A4 f)(hm:Small f)(_hc:Caps c1 c2 c3 c4 f)(h1:f.N1)(h2:f.N2)(h3:Pl.vars f.va≠0):
  Calls Tryz.prog 22 #[.agg (fq A1 A2 A3 A4 c1 c2 c3 c4 f)] w fun e w'=>e=.returned (.int .i64 (Pl.fieldE f))∧Below w.heap.size w w':=by
 have hE:=Lib.hid (Pl.fieldE_v h1 h2 h3)
 have h1':f.st.length<=12∧f.li.length<=10∧f.pa.length<=40:=by unfold Pl.Fld.N1 at h1;omega
 have h2':2<=f.st.length∧1<=f.li.length:=by unfold Pl.Fld.N2 at h2;omega
 obtain⟨k1,k2,k3⟩:=h1'
 obtain⟨k4,k5⟩:=h2'
 have hml:f.va.length<=maxLen:=by have:=hm.va;unfold maxLen;omega
 obtain⟨E,hEv⟩: ∃E,Pl.vars f.va=E:=⟨_,rfl⟩
 have HV:=Lib.hid hEv
 have hne:(E !=0)=true:=by rw[<-hEv];simpa using h3
 clear h1 h2 h3 hEv
 have kb:=heap_alloc_new w (.cells (fq A1 A2 A3 A4 c1 c2 c3 c4 f) 28)
 go_enter Tryz.func22,Tryz.ntmps22
 go_wp2_with (go_at_call 78;refine(varsA_h A4 c4 f.va E _ HV (hf.va.up (by go_grown)) hml).mono ?_;rintro e w1 ⟨rfl,hx1⟩;have hb1:Below w.heap.size w w1:=Below.trans (by go_grown) (hx1.mono (by go_size));clear hx1;have hsz1:w.heap.size<=w1.heap.size:=hb1.size)
 go_ret
 exact⟨ret_int (by rw[hE.out,HV.out]),by go_grown⟩
end Go.Proofs.YtgbpekeoegfjpaaGreatDoor
