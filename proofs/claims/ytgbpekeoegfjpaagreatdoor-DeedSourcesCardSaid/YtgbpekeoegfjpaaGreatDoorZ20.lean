/- Texts of mine, merged: DV, PlP, DW, PlQ, DX, EO. -/
import Derived.Lib.SplitLaws
import Derived.Lib.IndexMore
import Derived.Shelf.SlicesE.DeleteFunc
import Derived.Shelf.SlGeneric
import Derived.Ground.SlgfProg
import Derived.Shelf.Abstract
import Derived.Shelf.RegionOpen
import Derived.OwnWalkIn
import Derived.TacticsInMore
import Derived.LoopNIn
import Derived.LoopIn
import Derived.Test.YtgbpekeoegfjpaaGreatDoorZ03
import Derived.Test.YtgbpekeoegfjpaaGreatDoorZ18
import Derived.Test.YtgbpekeoegfjpaaGreatDoorZ19
import Derived.Test.YtgbpekeoegfjpaaGreatDoorZ00
import Derived.Test.YtgbpekeoegfjpaaGreatDoorZ02
/- Walk: a line of a field, whatever it says. -/
set_option maxRecDepth 100000
namespace Go.Proofs.YtgbpekeoegfjpaaGreatDoor
open Go.RowKit
variable (A1 A2 A3 A4 : Option Addr) (c1 c2 c3 c4 : Nat) (f : Pl.Fld)
theorem item_sta : ∀ws:List ByteArray,Pl.item (Pl.wStation::ws)=(staR ws).map fun x=> .station x.1 x.2
  | []=>rfl
  | [a] => by have e1: ¬Pl.wStation=Pl.wLimit:=by decide
              cases h:Pl.isName a<;>simp[Pl.item,staR,nameR,numR,h,e1]
  | [a,b]=>by cases h:Pl.isName a<;>cases h2:Pl.numF b<;>simp[Pl.item,staR,nameR,numR,h,h2]
  | [a,b,c]=>by cases h:Pl.isName a<;>cases h2:Pl.numF b<;>simp[Pl.item,staR,nameR,numR,h,h2]
  | [a, b, c, d] => by have e1: ¬Pl.wStation=Pl.wParcel:=by decide
                       cases h:Pl.isName a<;>cases h2:Pl.numF b<;>simp[Pl.item,staR,nameR,numR,h,h2,e1]
  |a::b::c::d::e::r=>by cases h:Pl.isName a<;>cases h2:Pl.numF b<;>simp[Pl.item,staR,nameR,numR,h,h2]
theorem item_lim : ∀ws:List ByteArray,Pl.item (Pl.wLimit::ws)=(limR ws).map fun x=> .limit x
  | []=>rfl
  | [a]=>by cases h:Pl.isName a<;>simp[Pl.item,limR,nameR,h]
  | [a, b] => by have e1: ¬Pl.wLimit=Pl.wStation:=by decide
                 have e2: ¬Pl.wLimit=Pl.wVariation:=by decide
                 cases h:Pl.isName a<;>simp[Pl.item,limR,nameR,h,e1,e2]
  | [a,b,c]=>by cases h:Pl.isName a<;>simp[Pl.item,limR,nameR,h]
  | [a, b, c, d] => by have e1: ¬Pl.wLimit=Pl.wParcel:=by decide
                       cases h:Pl.isName a<;>simp[Pl.item,limR,nameR,h,e1]
  |a::b::c::d::e::r=>by cases h:Pl.isName a<;>simp[Pl.item,limR,nameR,h]
theorem item_var : ∀ws:List ByteArray,Pl.item (Pl.wVariation::ws)=(varR ws).map fun x=> .variation x.1 x.2
  | []=>rfl
  | [a] => by have e1: ¬Pl.wVariation=Pl.wLimit:=by decide
              cases h:Pl.numF a<;>simp[Pl.item,varR,sgnR,numR,h,e1]
  | [a, b] => by have e1: ¬Pl.wVariation=Pl.wStation:=by decide
                 cases h:Pl.numF a<;>cases h2:Pl.sgnV b<;>simp[Pl.item,varR,sgnR,numR,h,h2,e1]
  | [a,b,c]=>by cases h:Pl.numF a<;>cases h2:Pl.sgnV b<;>simp[Pl.item,varR,sgnR,numR,h,h2]
  | [a, b, c, d] => by have e1: ¬Pl.wVariation=Pl.wParcel:=by decide
                       cases h:Pl.numF a<;>cases h2:Pl.sgnV b<;>simp[Pl.item,varR,sgnR,numR,h,h2,e1]
  |a::b::c::d::e::r=>by cases h:Pl.numF a<;>cases h2:Pl.sgnV b<;>simp[Pl.item,varR,sgnR,numR,h,h2]
theorem item_par : ∀ws:List ByteArray,Pl.item (Pl.wParcel::ws)=(parR ws).map fun x=> .parcel x.1 x.2.1 x.2.2.1 x.2.2.2
  | []=>rfl
  | [a] => by have e1: ¬Pl.wParcel=Pl.wLimit:=by decide
              cases h:Pl.isName a<;>simp[Pl.item,parR,nameR,h,e1]
  | [a, b] => by have e1: ¬Pl.wParcel=Pl.wStation:=by decide
                 have e2: ¬Pl.wParcel=Pl.wVariation:=by decide
                 cases h:Pl.isName a<;>cases h2:Pl.isName b<;>simp[Pl.item,parR,nameR,h,h2,e1,e2]
  | [a,b,c]=>by cases h:Pl.isName a<;>cases h2:Pl.isName b<;>cases h3:Pl.isName c<;>simp[Pl.item,parR,nameR,h,h2,h3]
  | [a,b,c,d]=>by cases h:Pl.isName a<;>cases h2:Pl.isName b<;>cases h3:Pl.isName c<;>cases h4:Pl.isName d<;>simp[Pl.item,parR,nameR,h,h2,h3,h4]
  |a::b::c::d::e::r=>by cases h:Pl.isName a<;>cases h2:Pl.isName b<;>cases h3:Pl.isName c<;>cases h4:Pl.isName d<;>simp[Pl.item,parR,nameR,h,h2,h3,h4]
theorem item_miss (k:ByteArray)(h1:k≠Pl.wStation)(h2:k≠Pl.wLimit)(h3:k≠Pl.wParcel)(h4:k≠Pl.wVariation): ∀ws:List ByteArray,Pl.item (k::ws)=none
  | []=>rfl
  | [a]=>by simp[Pl.item,h2]
  | [a,b]=>by simp[Pl.item,h1,h4]
  | [a,b,c]=>rfl
  | [a,b,c,d]=>by simp[Pl.item,h3]
  |a::b::c::d::e::r=>rfl
def ofO :Option Pl.Fld->Except Int Pl.Fld
  |some f=> .ok f
  |none=> .error 4
theorem endX_of {bf:Nat}{X:Nat->Prop}{w w':World}{o:Option Pl.Fld}{r:Except Int Pl.Fld}{e:Ending}(h:EndF bf X w o 4 e w')(hr:r=ofO o):EndX bf X w r e w':=by
  subst hr
  cases o with
  |some f=>exact h
  |none=>exact h
theorem find_miss (k:ByteArray)(h1:k≠Pl.wStation)(h2:k≠Pl.wLimit)(h3:k≠Pl.wParcel)(h4:k≠Pl.wVariation):Instr.findNow .string (.string k) fForms.toList 0=some none:=by
  have e1:(Pl.wStation==k)=false:=by rw[ba_beq];exact decide_eq_false (fun e=>h1 e.symm)
  have e2:(Pl.wLimit==k)=false:=by rw[ba_beq];exact decide_eq_false (fun e=>h2 e.symm)
  have e3:(Pl.wParcel==k)=false:=by rw[ba_beq];exact decide_eq_false (fun e=>h3 e.symm)
  have e4:(Pl.wVariation==k)=false:=by rw[ba_beq];exact decide_eq_false (fun e=>h4 e.symm)
  have e1':(k==Pl.wStation)=false:=by rw[ba_beq];exact decide_eq_false h1
  have e2':(k==Pl.wLimit)=false:=by rw[ba_beq];exact decide_eq_false h2
  have e3':(k==Pl.wParcel)=false:=by rw[ba_beq];exact decide_eq_false h3
  have e4':(k==Pl.wVariation)=false:=by rw[ba_beq];exact decide_eq_false h4
  simp[fForms,Instr.findNow,Instr.sameNow,e1',e2',e3',e4']
theorem lk_sta (W:World)(b:Nat)(hb:W.heap[b]?=some (.map fForms 4)):(Instr.lookup 184 (.map (some b)) (.string Pl.wStation) true).run Tryz.prog W=.ok (.tuple #[.func (.func 202) #[] #[],.bool true]) W:=
  run_look W b fForms 4 0 _ _ Tryz.underlying184 Tryz.underlying9 hb (by kernel_rfl)
theorem lk_lim (W:World)(b:Nat)(hb:W.heap[b]?=some (.map fForms 4)):(Instr.lookup 184 (.map (some b)) (.string Pl.wLimit) true).run Tryz.prog W=.ok (.tuple #[.func (.func 203) #[] #[],.bool true]) W:=
  run_look W b fForms 4 1 _ _ Tryz.underlying184 Tryz.underlying9 hb (by kernel_rfl)
theorem lk_par (W:World)(b:Nat)(hb:W.heap[b]?=some (.map fForms 4)):(Instr.lookup 184 (.map (some b)) (.string Pl.wParcel) true).run Tryz.prog W=.ok (.tuple #[.func (.func 204) #[] #[],.bool true]) W:=
  run_look W b fForms 4 2 _ _ Tryz.underlying184 Tryz.underlying9 hb (by kernel_rfl)
theorem lk_var (W:World)(b:Nat)(hb:W.heap[b]?=some (.map fForms 4)):(Instr.lookup 184 (.map (some b)) (.string Pl.wVariation) true).run Tryz.prog W=.ok (.tuple #[.func (.func 207) #[] #[],.bool true]) W:=
  run_look W b fForms 4 3 _ _ Tryz.underlying184 Tryz.underlying9 hb (by kernel_rfl)
theorem zero_form (W:World):(zeroValue 182).run Tryz.prog W=.ok .nilFunc W:=by
  kernel_rfl
theorem lk_miss (k:ByteArray)(h1:k≠Pl.wStation)(h2:k≠Pl.wLimit)(h3:k≠Pl.wParcel)(h4:k≠Pl.wVariation)(W:World)(b:Nat)(hb:W.heap[b]?=some (.map fForms 4)):(Instr.lookup 184 (.map (some b)) (.string k) true).run Tryz.prog W=.ok (.tuple #[.nilFunc,.bool false]) W:=
  run_miss W b fForms 4 _ _ Tryz.underlying184 Tryz.underlying9 zero_form hb (find_miss k h1 h2 h3 h4)
set_option maxHeartbeats 4000000 in
theorem fieldLine_miss (bf:Nat)(v1 v2 v3 v4:Value)(A:Option Addr)(c:Nat)(k:ByteArray)(ws:List ByteArray)(w:World)(hbf:bf<w.heap.size)(hw:Nms w w.heap.size A (k::ws))
    (hlk: ∀W b,W.heap[b]?=some (.map fForms 4)->(Instr.lookup 184 (.map (some b)) (.string k) true).run Tryz.prog W=.ok (.tuple #[.nilFunc,.bool false]) W):
    Calls Tryz.prog 73 #[.pointer (some ⟨bf,0,none⟩),.slice A (ws.length+1) c] w (EndL bf v1 v2 v3 v4 w (.error 4)):=by
  obtain⟨b,off,rfl,hb,q0⟩:=Nms.at1 hw (k:=0) (by simp)
  simp only[Nat.add_zero,List.getElem_cons_zero]at q0
  have ke:=heap_alloc_new w (.cells #[.int .i64 0] 29)
  have q1:(w.alloc (.cells #[.int .i64 0] 29)).cell? ⟨b,off,none⟩=some (.string k):=(World.cell?_of_block (Below.heap_alloc _ _ _ hb)).trans q0
  have e1:(0:Int)<((ws.length:Nat):Int)+1:=by omega
  go_enter_defers Tryz.func73,Tryz.ntmps73
  go_wp2_with fail
  go_region_held3 (fun W=>W.cell? ⟨b,off,none⟩=some (.string k)) (first|exact q1|exact q2) ((go_at_call 146;refine(fieldForms_b _).mono ?_;rintro e w1 ⟨rfl,hmap,hx⟩;have hb1:Below w.heap.size w w1:=Below.trans (by go_grown) (hx.mono (by go_size));have hmap:w1.heap[w.heap.size+1]?=some (.map fForms 4):=(by simpa using hmap);have ke1:=(hx.block w.heap.size (by simp)).trans ke;have q2:=(hx.cell (p:=⟨b,off,none⟩) (by simp;omega)).trans q1;have hlk1:=hlk w1 _ hmap;clear hx))
  all_goals go_wp2_with (go_at_call 97;refine(unless_no 4 _).mono ?_;rintro e w2 ⟨rfl,hx2⟩)
  have hlt1:=(lO ke1)
  have ke2:=(hx2.block w.heap.size hlt1).trans ke1
  obtain⟨hce,hfe⟩:=blk_cells ke2
  have hB:BelowE bf (Oz bf v1 v2 v3 v4) w w2:=BelowE.of_below (hb1.trans (hx2.mono hb1.size)) (by omega)
  refine leaves_cons (f:=96) (args:= #[.pointer (some ⟨w.heap.size,0,none⟩)]) (by simp) (by simp[go_sem]) ?_
  refine(caught_up _ _ _ _ ke2).mono ?_
  rintro e u' w'' ⟨rfl,rfl,rfl⟩
  simp[Leaves,settle,results,Tryz.results73,go_sem,hce]
  exact⟨hB.set (by omega) _,rfl⟩
theorem fieldLine_a (bf:Nat) (f:Pl.Fld) (v1 v2 v3 v4:Value) (A:Option Addr) (c:Nat) (k:ByteArray) (ws:List ByteArray) (w:World) (hE:Env w) (hF:FInv bf f w v1 v2 v3 v4) (h8:8<=bf)
    (hw:Nms w w.heap.size A (k::ws)) (hc:ws.length+1<=c) (hs:Sizes ws) (hk1:f.st.length<=100000) (hk2:f.li.length<=100000) (hk3:f.pa.length<=100000) (hk4:f.va.length<=100000):
    Calls Tryz.prog 73 #[.pointer (some ⟨bf,0,none⟩),.slice A (ws.length+1) c] w (EndL bf v1 v2 v3 v4 w (Pl.fieldLine f (k::ws))):=by
  by_cases h1:k=Pl.wStation
  · subst h1
    refine fieldLine_form bf f v1 v2 v3 v4 A c _ ws 202 _ w hE hF h8 hw hc hs.1 (fun _ _=>by simp[go_sem]) lk_sta (fun W br hE hR hF hlt=>(formS_a bf br f ws v1 v2 v3 v4 W hE hR hF h8 hlt hs hk1).mono fun e w' h=>endX_of h ?_)
    rw[Pl.fieldLine,item_sta]
    cases staR ws<;>simp[Pl.added,ofO]
  · by_cases h2:k=Pl.wLimit
    · subst h2
      refine fieldLine_form bf f v1 v2 v3 v4 A c _ ws 203 _ w hE hF h8 hw hc hs.1 (fun _ _=>by simp[go_sem]) lk_lim (fun W br hE hR hF hlt=>(formL_a bf br f ws v1 v2 v3 v4 W hR hF hlt hs hk2).mono fun e w' h=>endX_of h ?_)
      rw[Pl.fieldLine,item_lim]
      cases limR ws<;>simp[Pl.added,ofO]
    · by_cases h3:k=Pl.wParcel
      · subst h3
        obtain⟨A1,c1,A2,c2,A3,c3,A4,c4,rfl,rfl,rfl,rfl⟩:=hF.vals
        refine fieldLine_form bf f _ _ _ _ A c _ ws 204 _ w hE hF h8 hw hc hs.1 (fun _ _=>by simp[go_sem]) lk_par (fun W br hE hR hF hlt=>(formP_a bf br A1 A2 A3 A4 c1 c2 c3 c4 f ws W hR hF hlt hs hk1 hk2 hk3).mono fun e w' h=> ?_)
        rw[Pl.fieldLine,item_par]
        unfold parX at h
        cases hp:parR ws with
        |none=>rw[hp]at h;exact h
        |some p=>obtain⟨n,s,a,b⟩:=p;rw[hp]at h;exact h
      · by_cases h4:k=Pl.wVariation
        · subst h4
          refine fieldLine_form bf f v1 v2 v3 v4 A c _ ws 207 _ w hE hF h8 hw hc hs.1 (fun _ _=>by simp[go_sem]) lk_var (fun W br hE hR hF hlt=>(formV_a bf br f ws v1 v2 v3 v4 W hE hR hF h8 hlt hs hk4).mono fun e w' h=>endX_of h ?_)
          rw[Pl.fieldLine,item_var]
          cases varR ws<;>simp[Pl.added,ofO]
        · rw[Pl.fieldLine,item_miss k h1 h2 h3 h4 ws]
          exact fieldLine_miss bf v1 v2 v3 v4 A c k ws w hF.lt hw (lk_miss k h1 h2 h3 h4)
end Go.Proofs.YtgbpekeoegfjpaaGreatDoor
/- Plain laws of chapter 03: lines and words as the library cuts them. No program. -/
namespace Go.Proofs.YtgbpekeoegfjpaaGreatDoor.Pl
open Go.RowKit
variable (A1 A2 A3 A4 : Option Addr) (c1 c2 c3 c4 : Nat) (f : Pl.Fld)
def pre3 (acc:List UInt8):List (List UInt8)->List (List UInt8)
 | []=>[]
 |x::xs=>(acc++x)::xs
theorem index_ne (d c:UInt8)(hc:c≠d)(r:List UInt8):Lib.index (c::r) [d]=if Lib.index r [d]== -1 then-1 else Lib.index r [d]+1:=by
 have hp:([d]:List UInt8).isPrefixOf (c::r)=false:=by simp[List.isPrefixOf,Ne.symm hc]
 rw[Lib.index,hp];simp
theorem index_eq (d:UInt8)(r:List UInt8):Lib.index (d::r) [d]=((0:Nat):Int):=by
 rw[Lib.index];simp[List.isPrefixOf]
theorem splitK_ne (d c:UInt8)(hc:c≠d)(r:List UInt8): ∀k,Lib.splitK [d] 0 k (c::r)=pre3 [c] (Lib.splitK [d] 0 k r)
 |0=>rfl
 | k+1=>by
  unfold Lib.splitK
  by_cases hm:Lib.index r [d]= -1
  ·rw[index_ne d c hc,if_pos (beq_iff_eq.2 hm),hm];rfl
  ·have hge:=Lib.index_ge r [d]
   have hn: ¬(Lib.index r [d]== -1)=true:=fun e=>hm (beq_iff_eq.1 e)
   rw[index_ne d c hc,if_neg hn,if_neg hn,if_neg (by intro e;have:=beq_iff_eq.1 e;omega)]
   obtain⟨i,hi⟩: ∃i:Nat,Lib.index r [d]=i:=⟨(Lib.index r [d]).toNat,by omega⟩
   rw[hi]
   have e:((i:Int)+1).toNat=i+1:=by omega
   rw[e]
   simp[pre3]
theorem splitK_eq (d:UInt8)(r:List UInt8)(k:Nat):Lib.splitK [d] 0 (k+1) (d::r)=[]::Lib.splitK [d] 0 k r:=by
 rw[Lib.splitK,index_eq]
 simp
theorem cutAt_split (d:UInt8): ∀s:List UInt8,cutAt d s=Lib.splitK [d] 0 (Lib.count s [d]) s
 | []=>by
  have:Lib.count [] [d]=0:=rfl
  rw[this];rfl
 | c::s=>by
  unfold cutAt
  by_cases hc:c=d
  ·subst hc
   rw[if_pos rfl,Lib.count_cons_eq,Nat.add_comm,splitK_eq,cutAt_split c s]
  ·rw[if_neg hc,Lib.count_cons_ne c d s hc,splitK_ne d c hc,cutAt_split d s]
   cases h:Lib.splitK [d] 0 (Lib.count s [d]) s with
   |nil=>exact absurd h (by rw[<-cutAt_split d s];exact cutAt_ne d s)
   |cons x xs=>simp[pre3]
theorem mkB_data (s:ByteArray):mkB s.data.toList=s:=by simp[mkB]
theorem ahead_cut : ∀l:List UInt8,(Lib.cut l [35]).1=ahead l
 | []=>by rfl
 | c::r=>by
  have ih:=ahead_cut r
  have hge:=Lib.index_ge r [35]
  unfold Lib.cut at ih ⊢
  by_cases hc:c=35
  ·subst hc
   rw[index_eq]
   simp[ahead]
  ·rw[index_ne 35 c hc]
   by_cases hm:Lib.index r [35]= -1
   ·rw[if_pos (beq_iff_eq.2 hm),if_neg (by decide)]
    rw[hm,if_neg (by decide)]at ih
    simp only at ih ⊢
    unfold ahead at ih ⊢
    rw[List.takeWhile_cons_of_pos (by simpa using hc),<-ih]
   ·have hn: ¬(Lib.index r [35]== -1)=true:=fun e=>hm (beq_iff_eq.1 e)
    rw[if_neg hn,if_pos (by omega)]
    rw[if_pos (by omega)]at ih
    simp only at ih ⊢
    unfold ahead at ih ⊢
    rw[List.takeWhile_cons_of_pos (by simpa using hc),<-ih]
    obtain⟨i,hi⟩: ∃i:Nat,Lib.index r [35]=i:=⟨(Lib.index r [35]).toNat,by omega⟩
    rw[hi]
    have e:((i:Int)+1).toNat=i+1:=by omega
    rw[e]
    simp
def splitV (d:UInt8)(s:ByteArray):List ByteArray:=Lib.splitB ⟨#[d]⟩ 0 (Lib.countB s ⟨#[d]⟩) s
theorem splitV_eq (d:UInt8)(s:ByteArray):splitV d s=(cutAt d s.data.toList).map mkB:=by
 have h:(splitV d s).map (·.data.toList)=cutAt d s.data.toList:=by
  unfold splitV
  rw[Lib.splitB_data,cutAt_split]
 rw[<-h,List.map_map]
 conv=>lhs;rw[<-List.map_id (splitV d s)]
 exact List.map_congr_left fun x _=>(mkB_data x).symm
theorem linesB_split (s:ByteArray):linesB s=splitV 10 s:=(splitV_eq 10 s).symm
theorem wordsB_del (s:ByteArray):wordsB s=(splitV 32 ⟨(Lib.cut s.data.toList [35]).1.toArray⟩).filter fun x=> !decide (x=⟨#[]⟩):=by
 rw[splitV_eq,ahead_cut]
 unfold wordsB wordsOf solid
 rw[List.filter_map]
 congr 1
 refine List.filter_congr fun x _=> ?_
 cases x with
 |nil=>rfl
 |cons a l=>
  have: ¬mkB (a::l)=⟨#[]⟩:=by intro h;simp[mkB]at h
  simp[this]
end Go.Proofs.YtgbpekeoegfjpaaGreatDoor.Pl
/- Walk: the words of a line (the laying of slices.DeleteFunc at this program: printed by the kit in plain words). -/
namespace Go.Proofs
open Go.Shelf Go.RowKit Go.Lib Go.Sort
def YtgbpekeoegfjpaaGreatDoor.dl10_ren :Go.Shelf.Ren:=⟨fun|10=>169|6=>154|n=>n,fun|22=>24|23=>9|25=>36|3=>3|4=>4|0=>0|n=>n,fun|n=>n⟩
theorem YtgbpekeoegfjpaaGreatDoor.dl10 :Go.Proofs.SlLaysH.n10 Tryz.prog YtgbpekeoegfjpaaGreatDoor.dl10_ren:= {
 mixed:=by kernel_rfl
 f6:=⟨Tryz.f154.name,by decide,Tryz.func154.trans (congrArg some (by kernel_rfl))⟩
 f10:=⟨Tryz.f169.name,by decide,Tryz.func169.trans (congrArg some (by kernel_rfl))⟩
 t0:=Tryz.underlying0
 a0:=Tryz.isAgg0
 z0:=Tryz.sizeOf0
 v0:=Tryz.zeroValue0
 t3:=Tryz.underlying3
 a3:=Tryz.isAgg3
 z3:=Tryz.sizeOf3
 v3:=Tryz.zeroValue3
 t4:=Tryz.underlying4
 a4:=Tryz.isAgg4
 z4:=Tryz.sizeOf4
 v4:=Tryz.zeroValue4
 t22:=Tryz.underlying24
 a22:=Tryz.isAgg24
 z22:=Tryz.sizeOf24
 v22:=Tryz.zeroValue24
 a23:=Tryz.isAgg9
 z23:=Tryz.sizeOf9
 t25:=Tryz.underlying36
 a25:=Tryz.isAgg36
 z25:=Tryz.sizeOf36
 v25:=Tryz.zeroValue36}
end Go.Proofs
namespace Go.Proofs.YtgbpekeoegfjpaaGreatDoor
open Go.RowKit
variable (A1 A2 A3 A4 : Option Addr) (c1 c2 c3 c4 : Nat) (f : Pl.Fld)
theorem blank_a (x:ByteArray)(w:World):Calls Tryz.prog 170 #[.string x] w fun e w'=>e=.returned (.bool (decide (x=⟨#[]⟩)))∧w=w':=by
 have hq:x.toList.isEmpty=decide (x=⟨#[]⟩):=by
  rw[<-str_same x ⟨#[]⟩]
  simp
 have HQ:=Lib.hid hq
 clear hq
 go_enter Tryz.func170,Tryz.ntmps170
 go_wp2
 go_ret
 exact⟨ret_bool (by rw[<-HQ.out]),rfl⟩
theorem splitD_a (d:UInt8)(s:ByteArray)(w:World)(hE:Env w)(hs:s.size<=100000):
  Calls Tryz.prog 145 #[.string s,.string ⟨#[d]⟩] w fun e w'=>e=.returned (.slice (some ⟨w.heap.size,0,none⟩) (Pl.splitV d s).length (Pl.splitV d s).length)∧w'=w.alloc (.cells ((Pl.splitV d s).map Value.string).toArray 9):=by
 obtain⟨m,hm⟩:=hE.maxLen
 refine(Tryz.strings_Split s ⟨#[d]⟩ m w (by omega) hm (by simp[ByteArray.size])).mono ?_
 rintro e w' ⟨rfl,rfl⟩
 have hl:(Pl.splitV d s).length=Lib.countB s ⟨#[d]⟩+1:=Lib.splitB_all ⟨#[d]⟩ (by simp[ByteArray.size]) 0 _ s rfl
 exact⟨by rw[hl],rfl⟩
theorem splitV_le (d:UInt8)(s:ByteArray):(Pl.splitV d s).length<=s.size+1:=by
 have:=Lib.countB_le ⟨#[d]⟩ (by simp[ByteArray.size]) s.size s (Nat.le_refl _)
 have:=Lib.splitB_length_le ⟨#[d]⟩ 0 (Lib.countB s ⟨#[d]⟩) s
 unfold Pl.splitV
 omega
theorem splitB_sizes (sep:ByteArray)(save:Nat): ∀(k:Nat) (s:ByteArray),∀x∈Lib.splitB sep save k s,x.size<=s.size:=by
 intro k
 induction k with
 |zero=>intro s x hx;rw[Lib.splitB_zero]at hx;simp at hx;subst hx;exact Nat.le_refl _
 | succ k ih=>
  intro s x hx
  unfold Lib.splitB at hx
  split at hx
  ·simp at hx;subst hx;exact Nat.le_refl _
  ·rcases List.mem_cons.1 hx with rfl|hx
   ·rw[ByteArray.size_extract];omega
   ·have:=ih _ x hx
    rw[ByteArray.size_extract]at this
    omega
theorem splitV_sizes (d:UInt8)(s:ByteArray): ∀x∈Pl.splitV d s,x.size<=s.size:=splitB_sizes ⟨#[d]⟩ 0 (Lib.countB s ⟨#[d]⟩) s
theorem kept_b (l:List ByteArray)(hn:l.length<=200000)(w:World):
  Calls Tryz.prog 169 #[.slice (some ⟨w.heap.size,0,none⟩) l.length l.length,.func (.func 170) #[] #[]] (w.alloc (.cells (l.map Value.string).toArray 9)) fun e w'=>
   e=.returned (.slice (some ⟨w.heap.size,0,none⟩) (l.filter fun x=> !decide (x=⟨#[]⟩)).length l.length)∧Below w.heap.size w w'∧Nms w' w'.heap.size (some ⟨w.heap.size,0,none⟩) (l.filter fun x=> !decide (x=⟨#[]⟩)):=by
 have hblk:=World.alloc_heap_new w (.cells (l.map Value.string).toArray 9)
 have hH:Sort.Holds Value.string (w.alloc (.cells (l.map Value.string).toArray 9)) w.heap.size 0 l.toArray:=by
  intro j hj
  simp at hj
  obtain⟨hc,hf⟩:=blk_cells hblk
  refine⟨?_,hf _⟩
  rw[Nat.zero_add,hc]
  simp[hj]
 have hg: ∀W x,FnGives Tryz.prog 170 #[] #[Value.string x] (.bool (decide (x=⟨#[]⟩))) W:=fun W x=>(blank_a x W).mono fun _ _ ⟨he,hw⟩=>⟨he,0,by rw[<-hw];rfl⟩
 refine(AnyE.slices_DeleteFunc (dl10) Value.string (fun _=>rfl) (fun x=>decide (x=(⟨#[]⟩:ByteArray))) 170 #[] (fun _ _=>by simp[go_sem]) ⟨#[]⟩ Tryz.zeroValue9 w.heap.size 0 l.length l.toArray _ (fun W x _=>hg W x) (fun _ _ _ x _=>hg _ x) hH (by simp;omega) (by simp)).mono ?_
 rintro e w' ⟨rfl,q,rfl⟩
 have hle:=List.length_filter_le (fun x:ByteArray=> !decide (x=⟨#[]⟩)) l
 simp only[List.size_toArray]
 generalize (l.filter fun x=> !decide (x=⟨#[]⟩))=L at hle ⊢
 have hs:(L++List.replicate (l.length-L.length) (⟨#[]⟩:ByteArray)).toArray.size=l.toArray.size:=by simp;omega
 have hHp:=Sort.holds_putRow Value.string (Sort.ahead (w.alloc (.cells (l.map Value.string).toArray 9)) q) w.heap.size 0 l.toArray _ hH hs
 refine⟨by first|rfl|trivial,⟨rfl,rfl,rfl,by simp,fun k hk=> ?_⟩,.inr ⟨w.heap.size,0,rfl,by simp,fun k x hx j v hv=> ?_⟩⟩
 ·show((w.heap.push _).modify w.heap.size _)[k]?=w.heap[k]?
  rw[Array.getElem?_modify,if_neg (by omega),Array.getElem?_push,if_neg (by omega)]
 ·cases j with
  |succ j=>simp[encNm]at hv
  |zero=>
   simp[encNm]at hv
   subst hv
   have hk:k<L.length:=(List.getElem?_eq_some_iff.1 hx).1
   have:=(hHp k (by simp;omega)).1
   simp only[Nat.zero_add,Nat.mul_one,Nat.add_zero]at this ⊢
   rw[this]
   simp
   rw[List.getElem?_append_left hk,hx]
   rfl
set_option maxRecDepth 20000 in
theorem words_a (s:ByteArray)(w:World)(hE:Env w)(hs:s.size<=100000):
  Calls Tryz.prog 101 #[.string s] w fun e w'=> ∃b c,e=.returned (.slice (some ⟨b,0,none⟩) (Pl.wordsB s).length c)∧(Pl.wordsB s).length<=c∧w.heap.size<=b∧Below w.heap.size w w'∧Nms w' w'.heap.size (some ⟨b,0,none⟩) (Pl.wordsB s):=by
 obtain⟨m,hm⟩:=hE.maxLen
 have HW:=Lib.hid (Pl.wordsB_del s)
 have hcut:=Tryz.strings_Cut s ⟨#[35]⟩ m w (by omega) hm
 have hz:(⟨(Lib.cut s.data.toList [35]).1.toArray⟩:ByteArray).size<=100000:=by
  rw[Pl.ahead_cut]
  have h1:(Pl.ahead s.data.toList).length<=s.data.toList.length:=(List.takeWhile_sublist _).length_le
  have h2:s.data.toList.length=s.size:=Array.length_toList
  show(Pl.ahead s.data.toList).toArray.size<=100000
  rw[List.size_toArray];omega
 generalize hT:(⟨(Lib.cut s.data.toList [35]).1.toArray⟩:ByteArray)=T at HW hz
 have hcut:Calls Tryz.prog 168 #[.string s,.string ⟨#[35]⟩] w fun e w'=> ∃x y n,e=.returned (.tuple #[.string T,x,y])∧w'=w.drewN n:=by
  refine hcut.mono ?_
  rintro e w' ⟨he,n,hw⟩
  refine⟨.string ⟨(Lib.cut s.data.toList [35]).2.1.toArray⟩,.bool (Lib.cut s.data.toList [35]).2.2,n,?_,hw⟩
  rw[<-hT]
  exact he
 have hl:=splitV_le 32 T
 rw[HW.out]
 have hsp: ∀W,Env W->Calls Tryz.prog 145 #[.string T,.string ⟨#[32]⟩] W fun e w'=>e=.returned (.slice (some ⟨W.heap.size,0,none⟩) (Pl.splitV 32 T).length (Pl.splitV 32 T).length)∧w'=W.alloc (.cells ((Pl.splitV 32 T).map Value.string).toArray 9):=fun W hW=>splitD_a 32 T W hW hz
 clear hT hm HW
 generalize Pl.splitV 32 T=l at hl hsp ⊢
 have hkp:=kept_b l (by omega)
 have hle:=List.length_filter_le (fun x:ByteArray=> !decide (x=⟨#[]⟩)) l
 generalize (l.filter fun x=> !decide (x=⟨#[]⟩))=L at hkp hle ⊢
 go_enter Tryz.func101,Tryz.ntmps101
 go_wp2_with fail
 refine hcut.mono ?_
 rintro e w1 ⟨x,y,n,rfl,rfl⟩
 go_wp2_with fail
 have hbn:=below_drewN' (Below.refl w.heap.size w) n
 refine(hsp _ (hE.up hbn)).mono ?_
 rintro e w2 ⟨rfl,rfl⟩
 go_wp2_with fail
 refine(hkp _).mono ?_
 rintro e w3 ⟨rfl,hb3,hn3⟩
 go_wp2
 go_ret
 exact⟨_,_,rfl,hle,Nat.le_refl _,hbn.trans hb3,hn3⟩
end Go.Proofs.YtgbpekeoegfjpaaGreatDoor
/- Plain laws of chapter 03: the lines of a field, one after the other. No program. -/
namespace Go.Proofs.YtgbpekeoegfjpaaGreatDoor.Pl
open Go.RowKit
variable (A1 A2 A3 A4 : Option Addr) (c1 c2 c3 c4 : Nat) (f : Pl.Fld)
def fieldRun (f:Fld)(n:Nat):List (List ByteArray)->Except (Int×Nat) Fld
 | []=> .ok f
 |w::l=>if w=[]then fieldRun f (n+1) l else match fieldLine f w with
  | .ok f'=>fieldRun f' (n+1) l
  | .error e=> .error (e,n+1)
theorem fieldGo_run : ∀(l:List (List ByteArray)) (f:Fld) (n:Nat),fieldGo f n l=match fieldRun f n l with
  | .ok f'=>if fieldE f'=0 then (f',0,0)else (Fld.none,fieldE f',0)
  | .error p=>(Fld.none,p.1,(p.2:Int))
 | [],f,n=>rfl
 | w::l,f,n=>by
  unfold fieldGo fieldRun
  by_cases h:w=[]
  ·rw[if_pos h,if_pos h];exact fieldGo_run l f (n+1)
  ·rw[if_neg h,if_neg h]
   cases fieldLine f w with
   |ok f'=>exact fieldGo_run l f' (n+1)
   |error e=>simp
theorem run_blank {f:Fld}{n:Nat}{w:List ByteArray}{l:List (List ByteArray)}(h:w=[]):fieldRun f n (w::l)=fieldRun f (n+1) l:=by rw[fieldRun,if_pos h]
theorem run_ok {f f':Fld}{n:Nat}{w:List ByteArray}{l:List (List ByteArray)}(h:w≠ [])(hf:fieldLine f w=.ok f'):fieldRun f n (w::l)=fieldRun f' (n+1) l:=by rw[fieldRun,if_neg h,hf]
theorem run_err {f:Fld}{n:Nat}{w:List ByteArray}{l:List (List ByteArray)}{e:Int}(h:w≠ [])(hf:fieldLine f w=.error e):fieldRun f n (w::l)=.error (e,n+1):=by rw[fieldRun,if_neg h,hf]
def Fld.le (f:Fld)(n:Nat):Prop:=f.st.length<=n∧f.li.length<=n∧f.pa.length<=n∧f.va.length<=n
theorem added_le {f f':Fld}{x:Item}{n:Nat}(h:f.le n)(hx:added f x=.ok f'):f'.le (n+1):=by
 obtain⟨h1,h2,h3,h4⟩:=h
 unfold added at hx
 split at hx
 ·cases hx;refine⟨?_,?_,?_,?_⟩<;>simp<;>omega
 ·cases hx;refine⟨?_,?_,?_,?_⟩<;>simp<;>omega
 ·split at hx
  ·split at hx
   ·cases hx;refine⟨?_,?_,?_,?_⟩<;>simp<;>omega
   ·cases hx
  ·cases hx
 ·cases hx;refine⟨?_,?_,?_,?_⟩<;>simp<;>omega
theorem line_le {f f':Fld}{w:List ByteArray}{n:Nat}(h:f.le n)(hx:fieldLine f w=.ok f'):f'.le (n+1):=by
 unfold fieldLine at hx
 split at hx
 ·exact added_le h hx
 ·cases hx
theorem Fld.le.more {f:Fld}{n m:Nat}(h:f.le n)(hm:n<=m):f.le m:=by
 obtain⟨h1,h2,h3,h4⟩:=h
 exact⟨by omega,by omega,by omega,by omega⟩
end Go.Proofs.YtgbpekeoegfjpaaGreatDoor.Pl
/- Walk: the iterator of the lines of a source; what lies while a field is read. -/
namespace Go.Proofs.YtgbpekeoegfjpaaGreatDoor
open Go.RowKit Go.Shelf
variable (A1 A2 A3 A4 : Option Addr) (c1 c2 c3 c4 : Nat) (f : Pl.Fld)
attribute [local go_sem] Oper.semAt_some
abbrev LX :=Nat×Nat×Nat×List ByteArray
abbrev encL (x:LX):Array Value:= #[.int .i64 (x.1:Int),.slice (some ⟨x.2.1,0,none⟩) x.2.2.2.length x.2.2.1]
structure LS where
 f:Pl.Fld
 n:Nat
 on:Bool
 pend:Option LX
structure LInv (w:World)(src:ByteArray)(s:LS)(W:World):Prop where
 below:Below w.heap.size w W
 r1:W.heap[w.heap.size]?=some (.cells #[.slice none 0 0,.slice none 0 0,.slice none 0 0,.slice none 0 0] 28 (0,0))
 r2:W.heap[w.heap.size+1]?=some (.cells (i2 0 0) 31 (0,0))
 fld: ∃v1 v2 v3 v4,FInv (w.heap.size+2) s.f W v1 v2 v3 v4∧ ∀i,Oy v1 v2 v3 v4 i->w.heap.size+7<=i
 sr:W.heap[w.heap.size+3]?=some (.cells #[.string src] 9 (0,0))
 le:s.f.le s.n
 row:s.on=true->W.heap[w.heap.size+6]?=some (.cells ((Pl.splitV 10 src).map Value.string).toArray 9 (0,0))
 off:s.on=false->W.heap.size=w.heap.size+6
 pend: ∀x,s.pend=some x->Nms W W.heap.size (some ⟨x.2.1,0,none⟩) x.2.2.2∧x.2.2.2.length<=x.2.2.1∧Sizes x.2.2.2∧x.2.2.2≠ []
theorem LInv.grow {w:World}{src:ByteArray}{s:LS}{W W':World}(h:LInv w src s W)(hon:s.on=true)(hb:Below W.heap.size W W'):LInv w src s W':=by
 obtain⟨v1,v2,v3,v4,hF,hO⟩:=h.fld
 have hlt:=hF.lt
 have l3:=(Array.getElem?_eq_some_iff.1 h.sr).1
 have l6:=(Array.getElem?_eq_some_iff.1 (h.row hon)).1
 exact⟨h.below.trans (hb.mono h.below.size),(hb.block _ (by omega)).trans h.r1,(hb.block _ (by omega)).trans h.r2,⟨v1,v2,v3,v4,hF.below hb,hO⟩,(hb.block _ l3).trans h.sr,h.le,fun e=>(hb.block _ l6).trans (h.row e),fun e=>(by rw[hon]at e;cases e),fun x hx=>let ⟨h1,h2⟩:=h.pend x hx;⟨h1.up hb,h2⟩⟩
def LJ (w:World)(src:ByteArray)(rec:Loop)(s:LS)(W:World):Prop:=
 LInv w src s W∧W.heap[w.heap.size+5]?=some (.loop rec)∧W.heap[w.heap.size+4]?=some (.deferred (some []))
theorem LJ.grow {w:World}{src:ByteArray}{rec:Loop}{s:LS}{W W':World}(h:LJ w src rec s W)(hon:s.on=true)(hb:Below W.heap.size W W'):LJ w src rec s W':=
 ⟨h.1.grow hon hb,(hb.block _ (Array.getElem?_eq_some_iff.1 h.2.1).1).trans h.2.1,(hb.block _ (Array.getElem?_eq_some_iff.1 h.2.2).1).trans h.2.2⟩
def nextL (s:LS)(x:LX):Option LS:=match Pl.fieldLine s.f x.2.2.2 with
 | .ok f'=>some ⟨f',x.1,true,none⟩
 | .error _=>none
def PreL (s:LS)(x:LX):Prop:=s.on=true∧s.pend=some x∧s.n<x.1∧x.1<=50000
def IxL (w:World)(s:LS)(x:LX)(W:World):Prop:= ∃E,Pl.fieldLine s.f x.2.2.2=.error E∧Below w.heap.size w W∧
 W.heap[w.heap.size]?=some (.cells #[.slice none 0 0,.slice none 0 0,.slice none 0 0,.slice none 0 0] 28 (0,0))∧
 W.heap[w.heap.size+1]?=some (.cells (i2 E (x.1:Int)) 31 (0,0))
def runL (src:ByteArray):Except (Int×Nat) Pl.Fld:=Pl.fieldRun Pl.Fld.none 0 ((Pl.splitV 10 src).map Pl.wordsB)
def DnL (src:ByteArray)(s:LS):Prop:=runL src=.ok s.f∧s.on=true
def StL (src:ByteArray)(s:LS)(x:LX):Prop:= ∃E,Pl.fieldLine s.f x.2.2.2=.error E∧runL src=.error (E,x.1)
theorem words_sizes (s:ByteArray)(n:Nat)(hs:s.size<=n):(Pl.wordsB s).length<=n+1∧ ∀x∈Pl.wordsB s,x.size<=n:=by
 rw[Pl.wordsB_del]
 have hz:(⟨(Lib.cut s.data.toList [35]).1.toArray⟩:ByteArray).size<=n:=by
  rw[Pl.ahead_cut]
  have h1:(Pl.ahead s.data.toList).length<=s.data.toList.length:=(List.takeWhile_sublist _).length_le
  have h2:s.data.toList.length=s.size:=Array.length_toList
  show(Pl.ahead s.data.toList).toArray.size<=n
  rw[List.size_toArray];omega
 generalize (⟨(Lib.cut s.data.toList [35]).1.toArray⟩:ByteArray)=T at hz ⊢
 have h1:=splitV_le 32 T
 have h2:=List.length_filter_le (fun x:ByteArray=> !decide (x=⟨#[]⟩)) (Pl.splitV 32 T)
 refine⟨by omega,fun x hx=> ?_⟩
 have:=splitV_sizes 32 T x (List.mem_filter.1 hx).1
 omega
theorem nextL_some {s s':LS}{x:LX}(h:nextL s x=some s'): ∃f',Pl.fieldLine s.f x.2.2.2=.ok f'∧s'=⟨f',x.1,true,none⟩:=by
 unfold nextL at h
 split at h
 ·rename_i f' hf
  exact⟨f',hf,(Option.some.inj h).symm⟩
 ·cases h
theorem LJ.pended {w:World}{src:ByteArray}{rec:Loop}{s:LS}{W:World}{x:LX}(h:LJ w src rec s W)(hx:Nms W W.heap.size (some ⟨x.2.1,0,none⟩) x.2.2.2∧x.2.2.2.length<=x.2.2.1∧Sizes x.2.2.2∧x.2.2.2≠ []):LJ w src rec {s with pend:=some x} W:=by
 obtain⟨⟨h1,h2,h3,h4,h5,h6,h7,h8,_⟩,h10⟩:=h
 exact⟨⟨h1,h2,h3,h4,h5,h6,h7,h8,fun y hy=>by cases hy;exact hx⟩,h10⟩
theorem LJ.begun {w:World}{src:ByteArray}{rec:Loop}{W:World}(h:LJ w src rec ⟨Pl.Fld.none,0,false,none⟩ W):LJ w src rec ⟨Pl.Fld.none,0,true,none⟩ (W.alloc (.cells ((Pl.splitV 10 src).map Value.string).toArray 9)):=by
 have hsz:=h.1.off rfl
 have hb:Below W.heap.size W (W.alloc (.cells ((Pl.splitV 10 src).map Value.string).toArray 9)):=(Below.refl _ W).alloc (Nat.le_refl _) _
 obtain⟨⟨h1,h2,h3,⟨v1,v2,v3,v4,hF,hO⟩,h5,h6,_,_,_⟩,hl,hk⟩:=h
 refine⟨⟨h1.trans (hb.mono h1.size),(hb.block _ (by omega)).trans h2,(hb.block _ (by omega)).trans h3,⟨v1,v2,v3,v4,hF.below hb,hO⟩,(hb.block _ (by omega)).trans h5,h6,fun _=> ?_,fun e=>(by cases e),fun x hx=>(by cases hx)⟩,(hb.block _ (by omega)).trans hl,(hb.block _ (by omega)).trans hk⟩
 have:=World.alloc_heap_new W (.cells ((Pl.splitV 10 src).map Value.string).toArray 9)
 rwa[hsz]at this
set_option maxHeartbeats 4000000 in
theorem lines1_in (n:Nat)(w:World)(src:ByteArray)(rec rec':Loop)(hE:Env w)(hsrc:src.size<=20000)
  (hY: ∀s x W,PreL s x->LJ w src rec s W->YieldAt Fence.wide (n-1) Tryz.prog (w.heap.size+5) (encL x) W fun e W'=>
   (∃s',nextL s x=some s'∧e=.returned (.bool true)∧LJ w src rec s' W')∨(nextL s x=none∧e=.returned (.bool false)∧IxL w s x W'∧W'.heap[w.heap.size+5]?=some (.loop rec')∧W'.heap[w.heap.size+4]?=some (.deferred (some []))))
  (W1:World) (h0:LJ w src rec ⟨Pl.Fld.none,0,false,none⟩ W1):
  CallsIn Fence.wide n Tryz.prog 144 #[.func (.yield (w.heap.size+5)) #[] #[],.pointer (some ⟨w.heap.size+3,0,none⟩)] W1 fun e W'=>
   (∃v,e=.returned v)∧((∃s1,DnL src s1∧LJ w src rec s1 W')∨(∃s x,StL src s x∧IxL w s x W'∧W'.heap[w.heap.size+5]?=some (.loop rec')∧W'.heap[w.heap.size+4]?=some (.deferred (some [])))):=by
 refine callsIn_of_wp Tryz.func144 rfl trivial ?_ rfl
 simp only[Tryz.ntmps144,List.size_toArray,List.length_cons,List.length_nil,Nat.reduceAdd,Nat.reduceSub,Array.replicate_succ,Array.replicate_zero,List.push_toArray,List.append_toArray,List.nil_append,List.cons_append]
 have hE1:Env W1:=hE.up h0.1.below
 have hsz:=h0.1.off rfl
 obtain⟨hcs,hfs⟩:=blk_cells h0.1.sr
 have hls:=splitV_le 10 src
 have hlz:=splitV_sizes 10 src
 have hsp:=splitD_a 10 src W1 hE1 (by omega)
 gi_wp2_with fail
 refine⟨trivial,fun h=>(by cases h),?_⟩
 refine(callsIn_wide.2 hsp).mono ?_
 rintro e w2 ⟨rfl,rfl⟩
 have hJ2:=h0.begun
 have hrun:Hid (Pl.fieldRun Pl.Fld.none 0 (((Pl.splitV 10 src).drop 0).map Pl.wordsB)=runL src):=Lib.hid rfl
 rw[hsz]
 generalize (W1.alloc (.cells ((Pl.splitV 10 src).map Value.string).toArray 9))=W2 at hJ2 ⊢
 gi_wp2_with fail
 gi_loopw [9] (fun p wr=> ∃(k:Nat) (s:LS),k<=(Pl.splitV 10 src).length∧p=.int .i64 k∧LJ w src rec s wr∧s.on=true∧s.pend=none∧s.n<=k∧Hid (Pl.fieldRun s.f k (((Pl.splitV 10 src).drop k).map Pl.wordsB)=runL src)) (fun p _=>(Pl.splitV 10 src).length-(intOf p).toNat)
 case atStart=>exact⟨0,_,by omega,rfl,hJ2,rfl,rfl,by simp,hrun⟩
 case round=>
  obtain⟨k,s,hk,rfl,hJ,hon,hpd,hnk,H⟩:=hrel
  by_cases hlt:k<(Pl.splitV 10 src).length
  ·have hlt2:(Pl.splitV 10 src).drop k=(Pl.splitV 10 src)[k]::(Pl.splitV 10 src).drop (k+1):=by simp
   obtain⟨hcr,hfr⟩:=blk_cells (hJ.1.row hon)
   have q0:wr.cell? ⟨w.heap.size+6,k,none⟩=some (.string (Pl.splitV 10 src)[k]):=by rw[hcr];simp[hlt]
   clear hcr hfr
   have hEr:Env wr:=hE.up hJ.1.below
   have hz:=hlz _ (List.getElem_mem hlt)
   rw[hlt2,List.map_cons]at H
   clear hlt2
   generalize (Pl.splitV 10 src)[k]=l at q0 hz H
   have hwd:=words_a l wr hEr (by omega)
   have hws:=words_sizes l 20000 (by omega)
   generalize Pl.wordsB l=ws at hwd hws H
   gi_wp2_with fail
   refine⟨trivial,fun h=>(by cases h),?_⟩
   refine(callsIn_wide.2 hwd).mono ?_
   rintro e w3 ⟨b,c,rfl,hc,hbl,hb3,hn3⟩
   have hJ3:=hJ.grow hon hb3
   by_cases hnil:ws=[]
   ·subst hnil
    gi_wp2_with fail
    refine⟨fun _ h=>(by cases h),?_⟩
    gi_wp2
    go_roundw
    case rel=>exact⟨k+1,s,by omega,by simp,hJ3,hon,hpd,by omega,Lib.hid ((Pl.run_blank rfl).symm.trans H.out)⟩
    case measure=>first|(simp[intOf];done)|(simp[intOf];omega)
   ·have hpos:0<ws.length:=List.length_pos_iff.2 hnil
    have hJ4:=hJ3.pended (x:=(k+1,b,c,ws)) ⟨hn3,hc,⟨(by have:=hws.1;show ws.length<=100000;omega),fun x hx=>by have:=hws.2 x hx;omega⟩,hnil⟩
    obtain⟨fn,tmps,assign,body,hy,hR⟩:=hY {s with pend:=some (k+1,b,c,ws)} (k+1,b,c,ws) w3 ⟨hon,rfl,by simp;omega,by simp;omega⟩ hJ4
    simp only[encL,Int.natCast_add,Int.natCast_one]at hy
    gi_wp2
    refine⟨fun h=>(by cases h),hR.mono ?_⟩
    rintro e W3 (⟨s',hs',rfl,hJ5⟩|⟨hno,rfl,hx5,hl5,hk5⟩)
    ·obtain⟨f',hf',rfl⟩:=nextL_some hs'
     gi_wp2
     go_roundw
     case rel=>exact⟨k+1,_,by omega,by simp,hJ5,rfl,rfl,by simp,Lib.hid ((Pl.run_ok hnil hf').symm.trans H.out)⟩
     case measure=>first|(simp[intOf];done)|(simp[intOf];omega)
    ·obtain⟨E,hE5,hx5'⟩:=id hx5
     gi_wp2
     refine bodyPost_ret (results_none rfl _ _ _) rfl ?_
     exact⟨⟨_,rfl⟩,.inr ⟨_,_,⟨E,hE5,H.out.symm.trans (Pl.run_err hnil hE5)⟩,hx5,hl5,hk5⟩⟩
  ·gi_wp2
   go_end0
   have hd:(Pl.splitV 10 src).drop k=[]:=List.drop_eq_nil_of_le (by omega)
   rw[hd]at H
   exact⟨⟨_,rfl⟩,.inl ⟨s,⟨H.out.symm,hon⟩,hJ⟩⟩
end Go.Proofs.YtgbpekeoegfjpaaGreatDoor
/- Walk: a line of a call is read. -/
namespace Go.Proofs.YtgbpekeoegfjpaaGreatDoor
open Go.RowKit
variable (A1 A2 A3 A4 : Option Addr) (c1 c2 c3 c4 : Nat) (f : Pl.Fld)
theorem leaves_congr {P:Program}{fn:Func}{T T':Array Value}{R:Ending->World->Prop}(h: ∀w,(results fn T).run P w=(results fn T').run P w): ∀(ds:List Deferred) (u:FrameMode) (w:World),Leaves P fn T R ds u w->Leaves P fn T' R ds u w
 | [],u,w,hl=>by
  cases u with
  |returning=>obtain⟨v,h1,h2⟩:=hl;exact⟨v,(h w)▸h1,h2⟩
  |panicking c=>exact hl
  |run=>exact hl
 |d::ds,u,w,hl=>by
  obtain⟨hu,fv,cap,f,args,ht,hi,hc⟩:=hl
  refine⟨hu,fv,cap,f,args,ht,hi,hc.mono ?_⟩
  intro e u' w' h'
  cases e with
  |returned v=>exact leaves_congr h ds _ _ h'
  |panicked c=>exact leaves_congr h ds _ _ h'
  |outgrown=>exact h'
theorem put_get {T:Array Value}{d i:Nat}{v:Value}(h:d≠i):(T.setIfInBounds d v).getD i undef=T.getD i undef:=by
 simp[Array.getD_eq_getD_getElem?,h]
theorem readCall_put (d:Nat)(v:Value)(R:Ending->World->Prop)(h6:d≠6)(h7:d≠7)(c:List PanicEntry)(a:Act)(w:World)(h:bodyPostD Tryz.prog Tryz.f31 R (.panic c) (a.put (some d) v) w):bodyPostD Tryz.prog Tryz.f31 R (.panic c) a w:=by
 have e:results Tryz.f31 (a.put (some d) v).tmps=results Tryz.f31 a.tmps:=by
  simp only[results,Tryz.results31,Act.put,List.mapM_toArray,List.mapM_cons,List.mapM_nil,put_get h6,put_get h7]
 exact leaves_congr (T:=(a.put (some d) v).tmps) (fun w=>by rw[e]) _ _ _ h
theorem contains1 (s:ByteArray)(w:World):Calls Tryz.prog 98 #[.string s,.string ⟨#[10]⟩] w fun e w'=>e=.returned (.bool (decide (0<=Lib.indexByte s.data.toList 10)))∧w=w':=
 (Tryz.strings_Contains_one s 10 w).mono fun _ _ ⟨h1,h2⟩=>⟨h1,h2.symm⟩
theorem words_ok {s:ByteArray}(hs:s.size<=90000):Sizes (Pl.wordsB s):=by
 have:=words_sizes s 90000 hs
 exact⟨by omega,fun x hx=>by have:=this.2 x hx;omega⟩
theorem newline_iff (l:List UInt8):decide (0<=Lib.indexByte l 10)=decide ((10:UInt8)∈l):=by
 have h:=Lib.indexByte_ge l 10
 by_cases hm:(10:UInt8)∈l
 ·rw[decide_eq_true hm,decide_eq_true_eq]
  obtain⟨k,hk,he⟩:=List.mem_iff_getElem.1 hm
  by_cases h0:Lib.indexByte l 10= -1
  ·exact absurd (by rw[List.getElem?_eq_getElem hk,he]) (Lib.indexByte_none h0 k)
  ·omega
 ·rw[decide_eq_false hm,decide_eq_false_iff_not]
  intro h0
  obtain⟨o,ho⟩:=Int.eq_ofNat_of_zero_le h0
  exact hm (List.mem_of_getElem? (Lib.indexByte_some ho).1)
def EndC (r:Except Int Pl.Cal)(w:World)(e:Ending)(w':World):Prop:=
 Below w.heap.size w w'∧match r with
  | .ok c=>e=.returned (.tuple #[.agg (kq c),.int .i64 0])
  | .error E=>e=.returned (.tuple #[.agg zCal,.int .i64 E])
theorem EndC.ok {r:Except Int Pl.Cal}{w w':World}{e:Ending}(c:Pl.Cal)(hr:r=.ok c)(hb:Below w.heap.size w w')(he:e=.returned (.tuple #[.agg (kq c),.int .i64 0])):EndC r w e w':=by subst hr;exact⟨hb,he⟩
theorem EndC.no {r:Except Int Pl.Cal}{w w':World}{e:Ending}(E:Int)(hr:r=.error E)(hb:Below w.heap.size w w')(he:e=.returned (.tuple #[.agg zCal,.int .i64 E])):EndC r w e w':=by subst hr;exact⟨hb,he⟩
theorem st_err {w:World}{g:Nat}{n E:Int}(hg:w.heap[g]?=some (.cells #[.int .i64 n] 29 (0,0))):(storeVar 29 ⟨g,0,none⟩ (.int .i64 E)).run Tryz.prog w=.ok () (w.setCell ⟨g,0,none⟩ (.int .i64 E)):=by
 obtain⟨hc,hf⟩:=blk_cells hg
 have h1:=hc 0
 have h2:=hf 0
 simp at h1
 simp[go_sem,h1,h2]
attribute [-go_sem] run_equalIn_agg storeVar loadVar
attribute [local go_sem] lv_int lv_bool lv_u8 lv_string lv_vars lv_errno
set_option maxHeartbeats 4000000 in
theorem readCall_field (s:ByteArray)(year:Int)(w:World)(_hEv:Env w)(hf:FldS w w.heap.size A1 A2 A3 A4 f)(hm:Small f)(hc:Caps c1 c2 c3 c4 f)(_hs:s.size<=90000)(hE:Pl.fieldE f≠0):
  Calls Tryz.prog 31 #[.agg (fq A1 A2 A3 A4 c1 c2 c3 c4 f),.string s,.int .i64 year] w (EndC (Pl.readCall f s year) w):=by
 have HR:Hid (Pl.readCall f s year=.error (Pl.fieldE f)):=Lib.hid (by unfold Pl.readCall;rw[if_pos hE])
 obtain⟨E,he⟩: ∃E,Pl.fieldE f=E:=⟨_,rfl⟩
 rw[he]at hE HR
 have HE:=Lib.hid he
 have hne:(E !=0)=true:=by simpa using hE
 clear he hE
 have kf:=heap_alloc2_old w (.cells (fq A1 A2 A3 A4 c1 c2 c3 c4 f) 28) (.cells z13 48)
 have kr:=heap_alloc2_new w (.cells (fq A1 A2 A3 A4 c1 c2 c3 c4 f) 28) (.cells z13 48)
 have hb0:Below w.heap.size w ((w.alloc (.cells (fq A1 A2 A3 A4 c1 c2 c3 c4 f) 28)).alloc (.cells z13 48)):=((Below.refl _ w).alloc (Nat.le_refl _) _).alloc (by simp) _
 have hz:((w.alloc (.cells (fq A1 A2 A3 A4 c1 c2 c3 c4 f) 28)).alloc (.cells z13 48)).heap.size=w.heap.size+2:=by simp
 have kf:=(Below.heap_alloc _ (.cells #[.int .i64 0] 29) _ (lO kf)).trans kf
 have kr:=(Below.heap_alloc _ (.cells #[.int .i64 0] 29) _ (lO kr)).trans kr
 have ke:=heap_alloc_new ((w.alloc (.cells (fq A1 A2 A3 A4 c1 c2 c3 c4 f) 28)).alloc (.cells z13 48)) (.cells #[.int .i64 0] 29)
 rw[hz]at ke
 have hb0:=hb0.alloc (by omega) (.cells #[.int .i64 0] 29)
 have hl0:=ld_row kf Tryz.underlying28 rfl info_fld
 clear hz
 go_enter_defers Tryz.func31,Tryz.ntmps31
 go_wp2_with (go_at_call 22;refine(checkField_h A1 A2 A3 A4 c1 c2 c3 c4 f E _ HE (hf.up hb0) hm hc).mono ?_;rintro e w1 ⟨rfl,hx⟩;have kf:=kE hx kf;have kr:=kE hx kr;have ke:=kE hx ke;have hb1:Below w.heap.size w w1:=hb0.trans (hx.mono hb0.size);clear hx;obtain⟨W3,st3,kr3,hg3⟩:=st_row _ (w.heap.size+1) _ 48 _ z13 kr info_cal rfl (by simp[Value.oneCell']);have ke3:=(hg3.block _ (lO ke) (by simp)).trans ke;have st4:=st_err (E:=E) ke3)
 have hb3:Below w.heap.size w W3:=hb1.grown hg3 hb1.size (fun k e=>by cases e;omega)
 have kr4:=(Below.heap_setCell W3 ⟨w.heap.size+2,0,none⟩ (.int .i64 E) (w.heap.size+1) (by simp)).trans kr3
 have ke4:=heap_setCell_same W3 (w.heap.size+2) 0 _ _ (.int .i64 E) ke3
 have hl4:=ld_row kr4 Tryz.underlying48 rfl info_cal
 obtain⟨hce,hfe⟩:=blk_cells ke4
 refine⟨.tuple #[.agg zCal,.int .i64 E],by unfold zCal;simp[results,Tryz.results31,go_sem,hl4,hce],EndC.no E HR.out (hb3.setCell (p:=⟨w.heap.size+2,0,none⟩) (by simp) _) rfl⟩
set_option maxHeartbeats 4000000 in
theorem readCall_year (s:ByteArray)(year:Int)(w:World)(_hEv:Env w)(hf:FldS w w.heap.size A1 A2 A3 A4 f)(hm:Small f)(hc:Caps c1 c2 c3 c4 f)(_hs:s.size<=90000)(hE:Pl.fieldE f=0)(hy:Pl.inB year 1 3000=false):
  Calls Tryz.prog 31 #[.agg (fq A1 A2 A3 A4 c1 c2 c3 c4 f),.string s,.int .i64 year] w (EndC (Pl.readCall f s year) w):=by
 have HR:Hid (Pl.readCall f s year=.error 1):=Lib.hid (by unfold Pl.readCall;rw[if_neg (fun h=>h hE),if_pos (by simp[Pl.inB]at hy;omega)])
 have HE:=Lib.hid hE
 clear hE
 have kf:=heap_alloc2_old w (.cells (fq A1 A2 A3 A4 c1 c2 c3 c4 f) 28) (.cells z13 48)
 have kr:=heap_alloc2_new w (.cells (fq A1 A2 A3 A4 c1 c2 c3 c4 f) 28) (.cells z13 48)
 have hb0:Below w.heap.size w ((w.alloc (.cells (fq A1 A2 A3 A4 c1 c2 c3 c4 f) 28)).alloc (.cells z13 48)):=((Below.refl _ w).alloc (Nat.le_refl _) _).alloc (by simp) _
 have hz:((w.alloc (.cells (fq A1 A2 A3 A4 c1 c2 c3 c4 f) 28)).alloc (.cells z13 48)).heap.size=w.heap.size+2:=by simp
 have kf:=(Below.heap_alloc _ (.cells #[.int .i64 0] 29) _ (lO kf)).trans kf
 have kr:=(Below.heap_alloc _ (.cells #[.int .i64 0] 29) _ (lO kr)).trans kr
 have ke:=heap_alloc_new ((w.alloc (.cells (fq A1 A2 A3 A4 c1 c2 c3 c4 f) 28)).alloc (.cells z13 48)) (.cells #[.int .i64 0] 29)
 rw[hz]at ke
 have hb0:=hb0.alloc (by omega) (.cells #[.int .i64 0] 29)
 have hl0:=ld_row kf Tryz.underlying28 rfl info_fld
 clear hz
 go_enter_defers Tryz.func31,Tryz.ntmps31
 go_wp2_with (first
  |(go_at_call 22;refine(checkField_h A1 A2 A3 A4 c1 c2 c3 c4 f 0 _ HE (hf.up hb0) hm hc).mono ?_;rintro e w1 ⟨rfl,hx⟩;have kf:=kE hx kf;have kr:=kE hx kr;have ke:=kE hx ke;have hb1:Below w.heap.size w w1:=hb0.trans (hx.mono hb0.size);clear hx;obtain⟨W3,st3,kr3,hg3⟩:=st_row _ (w.heap.size+1) _ 48 _ z13 kr info_cal rfl (by simp[Value.oneCell']);have ke3:=(hg3.block _ (lO ke) (by simp)).trans ke;have st4:=st_err (E:=1) ke3)
  |(go_at_call 84;refine(inD_a _ _ _ _).mono ?_;rintro e w' ⟨rfl,rfl⟩))
 have hb3:Below w.heap.size w W3:=hb1.grown hg3 hb1.size (fun k e=>by cases e;omega)
 have kr4:=(Below.heap_setCell W3 ⟨w.heap.size+2,0,none⟩ (.int .i64 1) (w.heap.size+1) (by simp)).trans kr3
 have ke4:=heap_setCell_same W3 (w.heap.size+2) 0 _ _ (.int .i64 1) ke3
 have hl4:=ld_row kr4 Tryz.underlying48 rfl info_cal
 obtain⟨hce,hfe⟩:=blk_cells ke4
 refine⟨.tuple #[.agg zCal,.int .i64 1],by unfold zCal;simp[results,Tryz.results31,go_sem,hl4,hce],EndC.no 1 HR.out (hb3.setCell (p:=⟨w.heap.size+2,0,none⟩) (by simp) _) rfl⟩
set_option maxHeartbeats 4000000 in
theorem readCall_nl (s:ByteArray)(year:Int)(w:World)(_hEv:Env w)(hf:FldS w w.heap.size A1 A2 A3 A4 f)(hm:Small f)(hc:Caps c1 c2 c3 c4 f)(_hs:s.size<=90000)(hE:Pl.fieldE f=0)(hy:Pl.inB year 1 3000=true)(hn:(10:UInt8)∈s.data.toList):
  Calls Tryz.prog 31 #[.agg (fq A1 A2 A3 A4 c1 c2 c3 c4 f),.string s,.int .i64 year] w (EndC (Pl.readCall f s year) w):=by
 have HR:Hid (Pl.readCall f s year=.error 4):=Lib.hid (by unfold Pl.readCall;rw[if_neg (fun h=>h hE),if_neg (by simp[Pl.inB]at hy;omega),if_pos hn])
 have HE:=Lib.hid hE
 have hnl:decide (0<=Lib.indexByte s.data.toList 10)=true:=by rw[newline_iff];exact decide_eq_true hn
 clear hE hn
 have kf:=heap_alloc2_old w (.cells (fq A1 A2 A3 A4 c1 c2 c3 c4 f) 28) (.cells z13 48)
 have kr:=heap_alloc2_new w (.cells (fq A1 A2 A3 A4 c1 c2 c3 c4 f) 28) (.cells z13 48)
 have hb0:Below w.heap.size w ((w.alloc (.cells (fq A1 A2 A3 A4 c1 c2 c3 c4 f) 28)).alloc (.cells z13 48)):=((Below.refl _ w).alloc (Nat.le_refl _) _).alloc (by simp) _
 have hz:((w.alloc (.cells (fq A1 A2 A3 A4 c1 c2 c3 c4 f) 28)).alloc (.cells z13 48)).heap.size=w.heap.size+2:=by simp
 have kf:=(Below.heap_alloc _ (.cells #[.int .i64 0] 29) _ (lO kf)).trans kf
 have kr:=(Below.heap_alloc _ (.cells #[.int .i64 0] 29) _ (lO kr)).trans kr
 have ke:=heap_alloc_new ((w.alloc (.cells (fq A1 A2 A3 A4 c1 c2 c3 c4 f) 28)).alloc (.cells z13 48)) (.cells #[.int .i64 0] 29)
 rw[hz]at ke
 have hb0:=hb0.alloc (by omega) (.cells #[.int .i64 0] 29)
 have hl0:=ld_row kf Tryz.underlying28 rfl info_fld
 clear hz
 go_enter_defers Tryz.func31,Tryz.ntmps31
 go_wp2_with (first
  |(go_at_call 22;refine(checkField_h A1 A2 A3 A4 c1 c2 c3 c4 f 0 _ HE (hf.up hb0) hm hc).mono ?_;rintro e w1 ⟨rfl,hx⟩;have kf:=kE hx kf;have kr:=kE hx kr;have ke:=kE hx ke;have hb1:Below w.heap.size w w1:=hb0.trans (hx.mono hb0.size);clear hx;skip)
  |(go_at_call 84;refine(inD_a _ _ _ _).mono ?_;rintro e w' ⟨rfl,rfl⟩)
  |(go_at_call 98;refine(contains1 s _).mono ?_;rintro e w' ⟨rfl,rfl⟩;rw[hnl])
  |(go_at_call 97;refine(unless_no _ _).mono ?_;rintro e w2 ⟨rfl,hx⟩;have kr:=kE hx kr;have ke:=kE hx ke;have hb2:Below w.heap.size w w2:=hb1.trans (hx.mono hb1.size)))
 refine leaves_cons (f:=96) (args:= #[.pointer (some ⟨w.heap.size+2,0,none⟩)]) (by simp) (by simp[go_sem]) ?_
 refine(caught_up _ _ _ _ ke).mono ?_
 rintro e u' w'' ⟨rfl,rfl,rfl⟩
 have kr4:=(Below.heap_setCell w2 ⟨w.heap.size+2,0,none⟩ (.int .i64 4) (w.heap.size+1) (by simp)).trans kr
 have ke4:=heap_setCell_same w2 (w.heap.size+2) 0 _ _ (.int .i64 4) ke
 have hl4:=ld_row kr4 Tryz.underlying48 rfl info_cal
 obtain⟨hce,hfe⟩:=blk_cells ke4
 exact⟨.tuple #[.agg zCal,.int .i64 4],by unfold zCal;simp[results,Tryz.results31,go_sem,hl4,hce],EndC.no 4 (HR.out) (hb2.setCell (p:=⟨w.heap.size+2,0,none⟩) (by simp) _) rfl⟩
set_option maxHeartbeats 4000000 in
theorem readCall_rest (s:ByteArray)(year:Int)(w:World)(hEv:Env w)(hf:FldS w w.heap.size A1 A2 A3 A4 f)(hm:Small f)(hc:Caps c1 c2 c3 c4 f)(hs:s.size<=90000)(hE:Pl.fieldE f=0)(hy:Pl.inB year 1 3000=true)(hn: ¬(10:UInt8)∈s.data.toList):
  Calls Tryz.prog 31 #[.agg (fq A1 A2 A3 A4 c1 c2 c3 c4 f),.string s,.int .i64 year] w (EndC (Pl.readCall f s year) w):=by
 have HR:Hid (Pl.readCall f s year=match Pl.form (Pl.wordsB s)with|Option.none=> .error 4|some x=>Pl.madeC f x year):=Lib.hid (by unfold Pl.readCall;rw[if_neg (fun h=>h hE),if_neg (by simp[Pl.inB]at hy;omega),if_neg hn];rfl)
 have HE:=Lib.hid hE
 have hnl:decide (0<=Lib.indexByte s.data.toList 10)=false:=by rw[newline_iff];exact decide_eq_false hn
 clear hE hn
 have kf:=heap_alloc2_old w (.cells (fq A1 A2 A3 A4 c1 c2 c3 c4 f) 28) (.cells z13 48)
 have kr:=heap_alloc2_new w (.cells (fq A1 A2 A3 A4 c1 c2 c3 c4 f) 28) (.cells z13 48)
 have hb0:Below w.heap.size w ((w.alloc (.cells (fq A1 A2 A3 A4 c1 c2 c3 c4 f) 28)).alloc (.cells z13 48)):=((Below.refl _ w).alloc (Nat.le_refl _) _).alloc (by simp) _
 have hz:((w.alloc (.cells (fq A1 A2 A3 A4 c1 c2 c3 c4 f) 28)).alloc (.cells z13 48)).heap.size=w.heap.size+2:=by simp
 have kf:=(Below.heap_alloc _ (.cells #[.int .i64 0] 29) _ (lO kf)).trans kf
 have kr:=(Below.heap_alloc _ (.cells #[.int .i64 0] 29) _ (lO kr)).trans kr
 have ke:=heap_alloc_new ((w.alloc (.cells (fq A1 A2 A3 A4 c1 c2 c3 c4 f) 28)).alloc (.cells z13 48)) (.cells #[.int .i64 0] 29)
 rw[hz]at ke
 have hb0:=hb0.alloc (by omega) (.cells #[.int .i64 0] 29)
 have hl0:=ld_row kf Tryz.underlying28 rfl info_fld
 clear hz
 go_enter_defers Tryz.func31,Tryz.ntmps31
 go_wp2_with (first
  |(go_at_call 22;refine(checkField_h A1 A2 A3 A4 c1 c2 c3 c4 f 0 _ HE (hf.up hb0) hm hc).mono ?_;rintro e w1 ⟨rfl,hx⟩;have kf:=kE hx kf;have kr:=kE hx kr;have ke:=kE hx ke;have hb1:Below w.heap.size w w1:=hb0.trans (hx.mono hb0.size);clear hx;skip)
  |(go_at_call 84;refine(inD_a _ _ _ _).mono ?_;rintro e w' ⟨rfl,rfl⟩)
  |(go_at_call 98;refine(contains1 s _).mono ?_;rintro e w' ⟨rfl,rfl⟩;rw[hnl])
  |(go_at_call 97;refine(unless_yes _ _).mono ?_;rintro e w' ⟨rfl,rfl⟩))
 clear hnl hl0 hb0
 refine wp_region_held_drew (S:=fun W=>(loadVar 28 ⟨w.heap.size,0,none⟩).run Tryz.prog W=.ok (.agg (fq A1 A2 A3 A4 c1 c2 c3 c4 f)) W) (by kernel_rfl) (ld_row kf Tryz.underlying28 rfl info_fld) (fun hHeld=> ?_)
 have hb:Below w.heap.size w w1.drew:=hb1.drew
 have kf:w1.drew.heap[w.heap.size]?=_:=kf
 have kr:w1.drew.heap[w.heap.size+1]?=_:=kr
 have ke:w1.drew.heap[w.heap.size+2]?=_:=ke
 clear hb1
 generalize w1.drew=W1 at*
 refine takeH 0 (some 23) (v:= ?v0) rfl rfl (by kernel_rfl) (by kernel_rfl) (by kernel_rfl) (fun c a w h=>readCall_put 23 _ _ (by decide) (by decide) c a w h) (Or.inl ⟨by rfl,fun W hW=> ?hy0⟩) (by assumption) ?hr0
 case hy0=>(try dsimp only at hW);go_simp;try with_reducible rfl
 try simp only[Act.put,q1,q2,q3]
 refine takeH 3 (some 26) (v:= ?v3) rfl rfl (by kernel_rfl) (by kernel_rfl) (by kernel_rfl) (fun c a w h=>readCall_put 26 _ _ (by decide) (by decide) c a w h) (Or.inl ⟨by rfl,fun W hW=> ?hy3⟩) (by assumption) ?hr3
 case hy3=>(try dsimp only at hW);go_simp;try with_reducible rfl
 try simp only[Act.put,q1,q2,q3]
 refine takeH 4 (some 27) (v:= ?v4) rfl rfl (by kernel_rfl) (by kernel_rfl) (by kernel_rfl) (fun c a w h=>readCall_put 27 _ _ (by decide) (by decide) c a w h) (Or.inl ⟨by rfl,fun W hW=> ?hy4⟩) (by assumption) ?hr4
 case hy4=>(try dsimp only at hW);go_simp;try with_reducible rfl
 try simp only[Act.put,q1,q2,q3]
 refine wpAnyH_ready (rs:=[1]) (by kernel_rfl) (by simp) ?_
 refine readyH (some 24) rfl rfl (fun K hK=> ?_) AllReadyH.nil
 go_simp
 refine(words_a s _ (hEv.up hb) (by omega)).mono ?_
 rintro e w2 ⟨b,cw,rfl,hcw,hbw,hx,hnm⟩
 have hb:Below w.heap.size w w2:=hb.trans (hx.mono hb.size)
 have kf:=kE hx kf
 have kr:=kE hx kr
 have ke:=kE hx ke
 clear hx
 refine hK.out _ _ (ld_row kf Tryz.underlying28 rfl info_fld) (fun hHeld=> ?_)
 clear hK K
 try simp only[Act.put,q1,q2,q3]
 refine wpAnyH_ready (rs:=[2]) (by kernel_rfl) (by simp) ?_
 refine readyH (some 25) rfl rfl (fun K hK=> ?_) AllReadyH.nil
 go_simp
 refine(formed_a _ cw (Pl.wordsB s) _ (hEv.up hb) hnm hcw (words_ok hs)).mono ?_
 rintro e w3 ⟨hx,hm3⟩
 have hb:Below w.heap.size w w3:=hb.trans (hx.mono hb.size)
 have hsz2:w2.heap.size<=w3.heap.size:=hx.size
 have hn2:w.heap.size+2<w2.heap.size:=(lO ke)
 have kf:=kE hx kf
 have kr:=kE hx kr
 have ke:=kE hx ke
 cases hfm:Pl.form (Pl.wordsB s)with
 |none=>
  rw[hfm]at hm3
  subst hm3
  refine leaves_cons (f:=96) (args:= #[.pointer (some ⟨w.heap.size+2,0,none⟩)]) (by simp) (by simp[go_sem]) ?_
  refine(caught_up _ _ _ _ ke).mono ?_
  rintro e u' w'' ⟨rfl,rfl,rfl⟩
  have kr4:=(Below.heap_setCell w3 ⟨w.heap.size+2,0,none⟩ (.int .i64 4) (w.heap.size+1) (by simp)).trans kr
  have ke4:=heap_setCell_same w3 (w.heap.size+2) 0 _ _ (.int .i64 4) ke
  have hl4:=ld_row kr4 Tryz.underlying48 rfl info_cal
  obtain⟨hce,hfe⟩:=blk_cells ke4
  exact⟨.tuple #[.agg zCal,.int .i64 4],by unfold zCal;simp[results,Tryz.results31,go_sem,hl4,hce],EndC.no 4 (by rw[HR.out,hfm]) (hb.setCell (p:=⟨w.heap.size+2,0,none⟩) (by simp) _) rfl⟩
 |some x=>
 rw[hfm]at hm3
 obtain⟨v,rfl,hF⟩:=hm3
 have HFM:=Lib.hid hfm
 have hx5:=form_kind hfm
 clear hx hfm
 refine hK.out _ _ (ld_row kf Tryz.underlying28 rfl info_fld) (fun hHeld=> ?_)
 clear hK K
 try simp only[Act.put,q1,q2,q3]
 refine wpAnyH_ready (rs:=[5]) (by kernel_rfl) (by simp) ?_
 refine readyH (some 28) rfl rfl (fun K hK=> ?_) AllReadyH.nil
 go_simp
 refine(made_a A1 A2 A3 A4 c1 c2 c3 c4 f w2.heap.size w3.heap.size v x year w3 hF (Nat.le_refl _) (by omega) ((hf.below hb).more (by omega)) hsz2 hm hc HE.out).mono ?_
 rintro e w4 ⟨hx,hm4⟩
 have hb:Below w.heap.size w w4:=hb.trans (hx.mono (by omega))
 have kf:=(hx.block _ (by omega)).trans kf
 have kr:=(hx.block _ (by omega)).trans kr
 have ke:=(hx.block _ (by omega)).trans ke
 cases hmd:Pl.madeC f x year with
 |error E=>
  rw[hmd]at hm4
  subst hm4
  refine leaves_cons (f:=96) (args:= #[.pointer (some ⟨w.heap.size+2,0,none⟩)]) (by simp) (by simp[go_sem]) ?_
  refine(caught_up _ _ _ _ ke).mono ?_
  rintro e u' w'' ⟨rfl,rfl,rfl⟩
  have kr4:=(Below.heap_setCell w4 ⟨w.heap.size+2,0,none⟩ (.int .i64 E) (w.heap.size+1) (by simp)).trans kr
  have ke4:=heap_setCell_same w4 (w.heap.size+2) 0 _ _ (.int .i64 E) ke
  have hl4:=ld_row kr4 Tryz.underlying48 rfl info_cal
  obtain⟨hce,hfe⟩:=blk_cells ke4
  exact⟨.tuple #[.agg zCal,.int .i64 E],by unfold zCal;simp[results,Tryz.results31,go_sem,hl4,hce],EndC.no E (by rw[HR.out,HFM.out];exact hmd) (hb.setCell (p:=⟨w.heap.size+2,0,none⟩) (by simp) _) rfl⟩
 |ok c=>
 rw[hmd]at hm4
 subst hm4
 have HMD:=Lib.hid hmd
 clear hx hmd
 refine hK.out _ _ (ld_row kf Tryz.underlying28 rfl info_fld) (fun hHeld=> ?_)
 clear hK K
 try simp only[Act.put,q1,q2,q3]
 obtain⟨W5,st5,kr5,hg5⟩:=st_row w4 (w.heap.size+1) _ 48 _ (kq c) kr info_cal rfl (by simp[Value.oneCell'])
 have kf5:=(hg5.block _ (lO kf) (by simp)).trans kf
 have ke5:=(hg5.block _ (lO ke) (by simp)).trans ke
 have hb5:Below w.heap.size w W5:=hb.grown hg5 hb.size (fun k e=>by cases e;omega)
 refine wpAnyH_ready (rs:=[6]) (by kernel_rfl) (by simp) ?_
 refine readyH none rfl rfl (fun K hK=> ?_) AllReadyH.nil
 go_simp
 refine hK.out _ _ (ld_row kf5 Tryz.underlying28 rfl info_fld) (fun hHeld=> ?_)
 clear hK K
 try simp only[Act.put,q1,q2,q3]
 have st6:=st_err (E:=0) ke5
 have kf6:=(Below.heap_setCell W5 ⟨w.heap.size+2,0,none⟩ (.int .i64 0) w.heap.size (by simp)).trans kf5
 have kr6:=(Below.heap_setCell W5 ⟨w.heap.size+2,0,none⟩ (.int .i64 0) (w.heap.size+1) (by simp)).trans kr5
 have ke6:=heap_setCell_same W5 (w.heap.size+2) 0 _ _ (.int .i64 0) ke5
 have hb6:Below w.heap.size w (W5.setCell ⟨w.heap.size+2,0,none⟩ (.int .i64 0)):=hb5.setCell (p:=⟨w.heap.size+2,0,none⟩) (by simp) _
 refine wpAnyH_ready (rs:=[7]) (by kernel_rfl) (by simp) ?_
 refine readyH none rfl rfl (fun K hK=> ?_) AllReadyH.nil
 go_simp
 refine hK.out _ _ (ld_row kf6 Tryz.underlying28 rfl info_fld) (fun hHeld=> ?_)
 clear hK K
 try simp only[Act.put,q1,q2,q3]
 refine wpAnyH_done (by kernel_rfl) ?_ _
 generalize W5.setCell ⟨w.heap.size+2,0,none⟩ (.int .i64 0)=W6 at*
 have hl6:=ld_row kr6 Tryz.underlying48 rfl info_cal
 obtain⟨hce,hfe⟩:=blk_cells ke6
 go_wp2
 refine leaves_cons (f:=96) (args:= #[.pointer (some ⟨w.heap.size+2,0,none⟩)]) (by simp) (by simp[go_sem]) ?_
 refine(caught_idle _ _).mono ?_
 rintro e u' w'' ⟨rfl,rfl,rfl⟩
 exact⟨.tuple #[.agg (kq c),.int .i64 0],by simp[results,Tryz.results31,go_sem,hl6,hce],EndC.ok c (by rw[HR.out,HFM.out];exact HMD.out) hb6 rfl⟩
theorem readCall_a (s:ByteArray)(year:Int)(w:World)(hEv:Env w)(hf:FldS w w.heap.size A1 A2 A3 A4 f)(hm:Small f)(hc:Caps c1 c2 c3 c4 f)(hs:s.size<=90000):
  Calls Tryz.prog 31 #[.agg (fq A1 A2 A3 A4 c1 c2 c3 c4 f),.string s,.int .i64 year] w (EndC (Pl.readCall f s year) w):=by
 by_cases hE:Pl.fieldE f=0
 ·cases hy:Pl.inB year 1 3000 with
  |false=>exact readCall_year A1 A2 A3 A4 c1 c2 c3 c4 f s year w hEv hf hm hc hs hE hy
  |true=>
   by_cases hn:(10:UInt8)∈s.data.toList
   ·exact readCall_nl A1 A2 A3 A4 c1 c2 c3 c4 f s year w hEv hf hm hc hs hE hy hn
   ·exact readCall_rest A1 A2 A3 A4 c1 c2 c3 c4 f s year w hEv hf hm hc hs hE hy hn
 ·exact readCall_field A1 A2 A3 A4 c1 c2 c3 c4 f s year w hEv hf hm hc hs hE
end Go.Proofs.YtgbpekeoegfjpaaGreatDoor
