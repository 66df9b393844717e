/- Texts of mine, merged: EJ. -/
import Derived.Test.YtgbpekeoegfjpaaGreatDoorZ03
import Derived.Test.YtgbpekeoegfjpaaGreatDoorZ12
import Derived.Test.YtgbpekeoegfjpaaGreatDoorZ00
import Derived.Test.YtgbpekeoegfjpaaGreatDoorZ02
/- Walks: the words up to one; a word that has to be there. -/
set_option maxRecDepth 100000
namespace Go.Proofs.YtgbpekeoegfjpaaGreatDoor
open Go.RowKit
def litR (k:ByteArray):List ByteArray->Option (Unit×List ByteArray)
 |x::r=>if x=k then some ((),r)else none
 | []=>none
theorem litR_yes {k x:ByteArray}{r:List ByteArray}(h:x=k):litR k (x::r)=some ((),r):=by simp[litR,h]
theorem litR_no {k x:ByteArray}{r:List ByteArray}(h: ¬x=k):litR k (x::r)=none:=by simp[litR,h]
theorem literal_a (br:Nat)(ws:List ByteArray)(k:ByteArray)(w:World)(h:Rd w br ws)(hs:Sizes ws):
  Calls Tryz.prog 234 #[.pointer (some ⟨br,0,none⟩),.string k] w (EndR (fun _:Unit=> .tuple #[]) br w (litR k ws)):=by
 cases ws with
 |nil=>
  go_enter Tryz.func234,Tryz.ntmps234
  go_wp2_with (go_at_call 210;refine(word_no br _ h).mono ?_;rintro e w1 ⟨rfl,hx⟩)
  exact⟨rfl,EndR.no rfl hx rfl⟩
 | cons x r=>
  obtain⟨hx,hr,_⟩:=hs.tail
  by_cases hk:x=k
  ·have hq:(x.toList==k.toList)=true:=by rw[str_same];exact decide_eq_true hk
   have HK:=Lib.hid hk
   clear hk
   go_enter Tryz.func234,Tryz.ntmps234
   go_wp2_with (first
    |(go_at_call 210;refine(word_ok br x r _ h (by omega)).mono ?_;rintro e w1 ⟨rfl,hR1,hg1⟩)
    |(go_at_call 97;refine(unless_yes _ _).mono ?_;rintro e w' ⟨rfl,rfl⟩))
   go_end0
   exact EndR.ok (x:=()) (litR_yes HK.out) hg1 rfl hR1
  ·have hq:(x.toList==k.toList)=false:=by rw[str_same];exact decide_eq_false hk
   have HK:=Lib.hid hk
   clear hk
   go_enter Tryz.func234,Tryz.ntmps234
   go_wp2_with (first
    |(go_at_call 210;refine(word_ok br x r _ h (by omega)).mono ?_;rintro e w1 ⟨rfl,hR1,hg1⟩)
    |(go_at_call 97;refine(unless_no _ _).mono ?_;rintro e w3 ⟨rfl,hb3⟩))
   exact⟨rfl,EndR.no (litR_no HK.out) (grown_up hg1 hb3) rfl⟩
theorem nms_drop {w:World}{B b off:Nat}{ws:List ByteArray}(h:Nms w B (some ⟨b,off,none⟩) ws)(k:Nat):Nms w B (some ⟨b,off+k,none⟩) (ws.drop k):=by
 rcases h with h|⟨b',off',hA,hb,hc⟩
 ·subst h;exact .inl (by simp)
 ·obtain⟨rfl,rfl⟩:b=b'∧off=off':=by simpa using hA
  refine .inr ⟨b,off+k,rfl,hb,fun j y hy i v hv=> ?_⟩
  have:=hc (k+j) y (by simpa using hy) i v hv
  rw[show off+k+j*1+i=off+(k+j)*1+i by omega]
  exact this
theorem drop_sizes {ws:List ByteArray}(h:Sizes ws)(k:Nat):Sizes (ws.drop k):=⟨by have:=h.1;simp;omega,fun x hx=>h.2 x (List.mem_of_mem_drop hx)⟩
theorem upTo_sizes {k s:ByteArray}{most:Nat}{ws r:List ByteArray}(h:Pl.upTo k most ws=some (s,r))(hs:Sizes ws):Sizes r:=by
 unfold Pl.upTo at h
 obtain⟨n,_,h⟩:=Option.bind_eq_some_iff.1 h
 split at h
 ·cases h;exact drop_sizes hs _
 ·cases h
set_option maxHeartbeats 2000000 in
theorem until_a (br:Nat)(ws:List ByteArray)(k:ByteArray)(most:Nat)(w:World)(h:Rd w br ws)(hs:Sizes ws)(hmo:most<=100):
  Calls Tryz.prog 232 #[.pointer (some ⟨br,0,none⟩),.string k,.int .i64 (most:Int)] w (EndR (fun x=> .string x) br w (Pl.upTo k most ws)):=by
 obtain⟨A,c,h1,h2,h3⟩:=h
 have hlt:=(lO h1)
 have hm:=hs.1
 have hix:=fun W (hW:Below w.heap.size w W)=>index_a A c ws k W ((h2.more (by omega:br<=w.heap.size)).up hW) (by omega)
 obtain⟨hc,hf⟩:=blk_cells h1
 cases ho:Pl.idx (fun x=>decide (x=k)) ws with
 | none=>
  rw[ho]at hix
  have HO:Hid (Pl.upTo k most ws=none):=Lib.hid (by unfold Pl.upTo;rw[ho];rfl)
  have hin:Pl.inB (Pl.pos none) 1 (most:Int)=false:=by simp[Pl.inB,Pl.pos]
  clear ho h2
  go_enter Tryz.func232,Tryz.ntmps232
  go_wp2_with (first
   |(go_at_call 209;refine(hix _ (by go_grown)).mono ?_;rintro e w1 ⟨rfl,rfl⟩)
   |(go_at_call 84;refine(inD_a _ _ _ _).mono ?_;rintro e w' ⟨rfl,rfl⟩)
   |(go_at_call 97;refine(unless_no _ _).mono ?_;rintro e w3 ⟨rfl,hb3⟩))
  exact⟨rfl,EndR.no HO.out (grown_below br hb3) rfl⟩
 | some n=>
  rw[ho]at hix
  have hn:=Pl.idx_lt ho
  by_cases hb:1<=n∧n<=most
  ·have HO:Hid (Pl.upTo k most ws=some (Pl.joinB (ws.take n),ws.drop (n+1))):=Lib.hid (by unfold Pl.upTo;rw[ho];simp[hb])
   have hin:Pl.inB (Pl.pos (some n)) 1 (most:Int)=true:=by simp[Pl.inB,Pl.pos];omega
   obtain⟨b,off,rfl,hbB,q0⟩:=Nms.at1 h2 (k:=0) (by omega)
   clear q0 ho
   have hlen:(ws.take n).length=n:=by simp;omega
   have hjn:=fun W (hW:Below w.heap.size w W)=>Tryz.strings_Join b off c (ws.take n) ⟨#[32]⟩ W (fun j x hx=>by
    have hN:Nms W W.heap.size (some ⟨b,off,none⟩) ws:=(h2.more (by omega:br<=w.heap.size)).up hW
    rw[List.getElem?_take]at hx
    split at hx
    ·obtain⟨hj,hx⟩:=List.getElem?_eq_some_iff.1 hx
     obtain⟨b',off',hA,_,q⟩:=Nms.at1 hN hj
     obtain⟨rfl,rfl⟩:b=b'∧off=off':=by simpa using hA
     rw[<-hx];exact q
    ·cases hx) (by have:=hW.size;omega) (by omega) (by omega) (by
     have:=Pl.join_le [32] (xs:=(ws.take n).map (·.data.toList)) (N:=100000) (by
      intro x hx
      obtain⟨y,hy,rfl⟩:=List.mem_map.1 hx
      have:=hs.2 y (List.mem_of_mem_take hy)
      have e:y.data.toList.length=y.size:=Array.length_toList
      omega)
     simp only[List.length_map,hlen,List.length_singleton]at this
     show(Lib.join ((ws.take n).map (·.data.toList)) [32]).length<=140737488355328
     omega)
   rw[hlen]at hjn
   have hjn: ∀W,Below w.heap.size w W->Calls Tryz.prog 119 #[.slice (some ⟨b,off,none⟩) n c,.string ⟨#[32]⟩] W fun e w'=>e=.returned (.string (Pl.joinB (ws.take n)))∧Below W.heap.size W w':=hjn
   generalize Pl.joinB (ws.take n)=J at hjn HO
   have hN2:=nms_drop h2 (n+1)
   have e1:(0:Int)<=(n:Int):=by omega
   have e2:(n:Int)<=(c:Int):=by omega
   have e3:(0:Int)<=(n:Int)+1:=by omega
   have e4:(n:Int)+1<=(ws.length:Int):=by omega
   unfold Pl.pos at hix hin
   by_cases hcap:c=n+1
   ·have hnil:ws.drop (n+1)=[]:=List.drop_eq_nil_of_le (by omega)
    rw[hnil]at HO
    have hwl:ws.length=n+1:=by omega
    subst hcap
    rw[hwl]at h1 hix hc
    have e5:(n:Int)+1<=((n+1:Nat):Int):=by omega
    clear hwl e4 e2
    have e2:(n:Int)<=((n+1:Nat):Int):=by omega
    go_enter Tryz.func232,Tryz.ntmps232
    go_wp2_with (first
     |(go_at_call 209;refine(hix _ (by go_grown)).mono ?_;rintro e w1 ⟨rfl,rfl⟩)
     |(go_at_call 84;refine(inD_a _ _ _ _).mono ?_;rintro e w' ⟨rfl,rfl⟩)
     |(go_at_call 97;refine(unless_yes _ _).mono ?_;rintro e w' ⟨rfl,rfl⟩)
     |(go_at_call 119;refine(hjn _ (by go_grown)).mono ?_;rintro e w2 ⟨rfl,hx⟩;have kr:=(hx.block br hlt).trans h1;obtain⟨hc2,hf2⟩:=blk_cells kr;have R:=Lib.hid (rd_set (A:=some ⟨b,off,none⟩) (c:=0) (ws:=[]) kr (.inl rfl) (by simp))))
    all_goals first
     |(exfalso;omega)
     |(go_ret;exact EndR.ok HO.out (grown_up (grown_below br hx) (Below.refl _ _)|>.trans R.out.2) rfl R.out.1)
   ·have hl2:(ws.drop (n+1)).length=ws.length-(n+1):=by simp
    go_enter Tryz.func232,Tryz.ntmps232
    go_wp2_with (first
     |(go_at_call 209;refine(hix _ (by go_grown)).mono ?_;rintro e w1 ⟨rfl,rfl⟩)
     |(go_at_call 84;refine(inD_a _ _ _ _).mono ?_;rintro e w' ⟨rfl,rfl⟩)
     |(go_at_call 97;refine(unless_yes _ _).mono ?_;rintro e w' ⟨rfl,rfl⟩)
     |(go_at_call 119;refine(hjn _ (by go_grown)).mono ?_;rintro e w2 ⟨rfl,hx⟩;have kr:=(hx.block br hlt).trans h1;obtain⟨hc2,hf2⟩:=blk_cells kr;have R:=Lib.hid (rd_set (c:=c-(n+1)) kr (hN2.keep fun p hp=>hx.cell (by omega)) (by rw[hl2];omega))))
    all_goals first
     |(exfalso;omega)
     |(have R1:=R.out;rw[hl2]at R1;go_ret;exact EndR.ok HO.out (grown_up (grown_below br hx) (Below.refl _ _)|>.trans R1.2) rfl R1.1)
  ·have HO:Hid (Pl.upTo k most ws=none):=Lib.hid (by unfold Pl.upTo;rw[ho];simp[hb])
   have hin:Pl.inB (Pl.pos (some n)) 1 (most:Int)=false:=by simp[Pl.inB,Pl.pos];omega
   clear ho h2
   go_enter Tryz.func232,Tryz.ntmps232
   go_wp2_with (first
    |(go_at_call 209;refine(hix _ (by go_grown)).mono ?_;rintro e w1 ⟨rfl,rfl⟩)
    |(go_at_call 84;refine(inD_a _ _ _ _).mono ?_;rintro e w' ⟨rfl,rfl⟩)
    |(go_at_call 97;refine(unless_no _ _).mono ?_;rintro e w3 ⟨rfl,hb3⟩))
   exact⟨rfl,EndR.no HO.out (grown_below br hb3) rfl⟩
end Go.Proofs.YtgbpekeoegfjpaaGreatDoor
