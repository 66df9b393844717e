/- Proved: parts of the walk. -/
import Derived.Shelf.SlicesE.DeleteFunc
import Derived.Test.YtgbpekeoegfjpaaGreatDoorVZ18
set_option maxRecDepth 100000
set_option maxHeartbeats 4000000
namespace Go.Proofs
open Tryz RowKit
variable (A1 A2 A3 A4 : Option Addr) (c1 c2 c3 c4 : Nat) (f : Pl.aL)
theorem LA : ∀ws:List ByteArray,Pl.item (Pl.eU::ws)=(qA ws).map fun x=> .vQ x.1 x.2
  | []=>rfl
  | [a] => by have e1: ¬Pl.eU=Pl.iB:=by decide
              cases h:Pl.isName a<;>simp[Pl.item,qA,aP,bN,h,e1]
  | [a,b]=>by cases h:Pl.isName a<;>cases h2:Pl.bV b<;>simp[Pl.item,qA,aP,bN,h,h2]
  | [a,b,c]=>by cases h:Pl.isName a<;>cases h2:Pl.bV b<;>simp[Pl.item,qA,aP,bN,h,h2]
  | [a, b, c, d] => by have e1: ¬Pl.eU=Pl.f_:=by decide
                       cases h:Pl.isName a<;>cases h2:Pl.bV b<;>simp[Pl.item,qA,aP,bN,h,h2,e1]
  |a::b::c::d::e::r=>by cases h:Pl.isName a<;>cases h2:Pl.bV b<;>simp[Pl.item,qA,aP,bN,h,h2]
theorem LB : ∀ws:List ByteArray,Pl.item (Pl.iB::ws)=(sD ws).map fun x=> .limit x
  | []=>rfl
  | [a]=>by cases h:Pl.isName a<;>simp[Pl.item,sD,aP,h]
  | [a, b] => by have e1: ¬Pl.iB=Pl.eU:=by decide
                 have e2: ¬Pl.iB=Pl.dB:=by decide
                 cases h:Pl.isName a<;>simp[Pl.item,sD,aP,h,e1,e2]
  | [a,b,c]=>by cases h:Pl.isName a<;>simp[Pl.item,sD,aP,h]
  | [a, b, c, d] => by have e1: ¬Pl.iB=Pl.f_:=by decide
                       cases h:Pl.isName a<;>simp[Pl.item,sD,aP,h,e1]
  |a::b::c::d::e::r=>by cases h:Pl.isName a<;>simp[Pl.item,sD,aP,h]
theorem LC : ∀ws:List ByteArray,Pl.item (Pl.dB::ws)=(qB ws).map fun x=> .variation x.1 x.2
  | []=>rfl
  | [a] => by have e1: ¬Pl.dB=Pl.iB:=by decide
              cases h:Pl.bV a<;>simp[Pl.item,qB,gL,bN,h,e1]
  | [a, b] => by have e1: ¬Pl.dB=Pl.eU:=by decide
                 cases h:Pl.bV a<;>cases h2:Pl.fK b<;>simp[Pl.item,qB,gL,bN,h,h2,e1]
  | [a,b,c]=>by cases h:Pl.bV a<;>cases h2:Pl.fK b<;>simp[Pl.item,qB,gL,bN,h,h2]
  | [a, b, c, d] => by have e1: ¬Pl.dB=Pl.f_:=by decide
                       cases h:Pl.bV a<;>cases h2:Pl.fK b<;>simp[Pl.item,qB,gL,bN,h,h2,e1]
  |a::b::c::d::e::r=>by cases h:Pl.bV a<;>cases h2:Pl.fK b<;>simp[Pl.item,qB,gL,bN,h,h2]
theorem LD : ∀ws:List ByteArray,Pl.item (Pl.f_::ws)=(sG ws).map fun x=> .oI x.1 x.2.1 x.2.2.1 x.2.2.2
  | []=>rfl
  | [a] => by have e1: ¬Pl.f_=Pl.iB:=by decide
              cases h:Pl.isName a<;>simp[Pl.item,sG,aP,h,e1]
  | [a, b] => by have e1: ¬Pl.f_=Pl.eU:=by decide
                 have e2: ¬Pl.f_=Pl.dB:=by decide
                 cases h:Pl.isName a<;>cases h2:Pl.isName b<;>simp[Pl.item,sG,aP,h,h2,e1,e2]
  | [a,b,c]=>by cases h:Pl.isName a<;>cases h2:Pl.isName b<;>cases h3:Pl.isName c<;>simp[Pl.item,sG,aP,h,h2,h3]
  | [a,b,c,d]=>by cases h:Pl.isName a<;>cases h2:Pl.isName b<;>cases h3:Pl.isName c<;>cases h4:Pl.isName d<;>simp[Pl.item,sG,aP,h,h2,h3,h4]
  |a::b::c::d::e::r=>by cases h:Pl.isName a<;>cases h2:Pl.isName b<;>cases h3:Pl.isName c<;>cases h4:Pl.isName d<;>simp[Pl.item,sG,aP,h,h2,h3,h4]
theorem Jz (k:ByteArray)(h1:k≠Pl.eU)(h2:k≠Pl.iB)(h3:k≠Pl.f_)(h4:k≠Pl.dB): ∀ws:List ByteArray,Pl.item (k::ws)=none
 | []=>rfl
 | [a]=>by simp[Pl.item,h2]
 | [a,b]=>by simp[Pl.item,h1,h4]
 | [a,b,c]=>rfl
 | [a,b,c,d]=>by simp[Pl.item,h3]
 |a::b::c::d::e::r=>rfl
def UC :Option Pl.aL->Except Int Pl.aL
 |some f=> .ok f
 |none=> .error 4
theorem Bv {bf:Nat}{X:Nat->Prop}{w w':World}{o:Option Pl.aL}{r:Except Int Pl.aL}{e:Ending}(h:OE bf X w o 4 e w')(hr:r=UC o):lD bf X w r e w':=by
 subst hr
 cases o with
 |some f=>exact h
 |none=>exact h
theorem JA (k:ByteArray)(h1:k≠Pl.eU)(h2:k≠Pl.iB)(h3:k≠Pl.f_)(h4:k≠Pl.dB):Instr.findNow .string (.string k) gM.toList 0=some none:=by
 have e1:(Pl.eU==k)=false:=by rw[jN];exact decide_eq_false (fun e=>h1 e.symm)
 have e2:(Pl.iB==k)=false:=by rw[jN];exact decide_eq_false (fun e=>h2 e.symm)
 have e3:(Pl.f_==k)=false:=by rw[jN];exact decide_eq_false (fun e=>h3 e.symm)
 have e4:(Pl.dB==k)=false:=by rw[jN];exact decide_eq_false (fun e=>h4 e.symm)
 have Ym:(k==Pl.eU)=false:=by rw[jN];exact decide_eq_false h1
 have e2':(k==Pl.iB)=false:=by rw[jN];exact decide_eq_false h2
 have e3':(k==Pl.f_)=false:=by rw[jN];exact decide_eq_false h3
 have e4':(k==Pl.dB)=false:=by rw[jN];exact decide_eq_false h4
 simp[gM,Instr.findNow,Instr.sameNow,Ym,e2',e3',e4']
theorem Rh (W:World)(b:Nat)(hb:W.heap[b]?=some (.map gM 4)):(Instr.lookup 184 (.map (some b)) (.string Pl.eU) true).run prog W=.ok (.tuple #[.func (.func 202) #[] #[],.bool true]) W:=
 jq W b gM 4 0 _ _ underlying184 underlying9 hb (by kernel_rfl)
theorem Ri (W:World)(b:Nat)(hb:W.heap[b]?=some (.map gM 4)):(Instr.lookup 184 (.map (some b)) (.string Pl.iB) true).run prog W=.ok (.tuple #[.func (.func 203) #[] #[],.bool true]) W:=
 jq W b gM 4 1 _ _ underlying184 underlying9 hb (by kernel_rfl)
theorem Rj (W:World)(b:Nat)(hb:W.heap[b]?=some (.map gM 4)):(Instr.lookup 184 (.map (some b)) (.string Pl.f_) true).run prog W=.ok (.tuple #[.func (.func 204) #[] #[],.bool true]) W:=
 jq W b gM 4 2 _ _ underlying184 underlying9 hb (by kernel_rfl)
theorem Rk (W:World)(b:Nat)(hb:W.heap[b]?=some (.map gM 4)):(Instr.lookup 184 (.map (some b)) (.string Pl.dB) true).run prog W=.ok (.tuple #[.func (.func 207) #[] #[],.bool true]) W:=
 jq W b gM 4 3 _ _ underlying184 underlying9 hb (by kernel_rfl)
theorem JB (W:World):(zeroValue 182).run prog W=.ok .nilFunc W:=by
 kernel_rfl
theorem OZ (k:ByteArray)(h1:k≠Pl.eU)(h2:k≠Pl.iB)(h3:k≠Pl.f_)(h4:k≠Pl.dB)(W:World)(b:Nat)(hb:W.heap[b]?=some (.map gM 4)):(Instr.lookup 184 (.map (some b)) (.string k) true).run prog W=.ok (.tuple #[.nilFunc,.bool false]) W:=
 Dz W b gM 4 _ _ underlying184 underlying9 JB hb (JA k h1 h2 h3 h4)
theorem xJ (bf:Nat)(v1 v2 v3 v4:Value)(A:Option Addr)(c:Nat)(k:ByteArray)(ws:List ByteArray)(w:World)(hbf:bf<w.heap.size)(hw:d9 w w.heap.size A (k::ws))
  (hlk: ∀W b,W.heap[b]?=some (.map gM 4)->(Instr.lookup 184 (.map (some b)) (.string k) true).run prog W=.ok (.tuple #[.nilFunc,.bool false]) W):
  Calls prog 73 #[.pointer (some ⟨bf,0,none⟩),.slice A (ws.length+1) c] w (Q0 bf v1 v2 v3 v4 w (.error 4)):=by
 obtain⟨b,off,rfl,hb,q0⟩:=d9.gY hw (k:=0) (by simp)
 simp only[Nat.add_zero,List.getElem_cons_zero]at q0
 have ke:=heap_alloc_new w (.cells #[.int .i64 0] 29)
 have q1:(w.alloc (.cells #[.int .i64 0] 29)).cell? ⟨b,off,none⟩=some (.string k):=(World.cell?_of_block (Below.heap_alloc _ _ _ hb)).trans q0
 have e1:(0:Int)<((ws.length:Nat):Int)+1:=by omega
 go_enter_defers func73,ntmps73
 go_wp2_with fail
 go_region_held3 (fun W=>W.cell? ⟨b,off,none⟩=some (.string k)) (first|exact q1|exact q2) ((go_at_call 146;refine(sH _).mono ?_;rintro e w1 ⟨rfl,hmap,hx⟩;have hb1:=bT (w:=w) hx;have hmap:w1.heap[w.heap.size+1]?=some (.map gM 4):=(by simpa using hmap);have Q_:=(hx.block w.heap.size (by simp)).trans ke;have q2:=(hx.cell (p:=⟨b,off,none⟩) (by simp;omega)).trans q1;have Ra:=hlk w1 _ hmap;clear hx))
 all_goals go_wp2_with (go_at_call 97;refine(bD 4 _).mono ?_;rintro e w2 ⟨rfl,hx2⟩)
 have hlt1:=(lO Q_)
 have Nv:=(hx2.block w.heap.size hlt1).trans Q_
 obtain⟨hce,hfe⟩:=ah Nv
 have hB:aU bf (Oz bf v1 v2 v3 v4) w w2:=aU.of_below (hb1.trans (hx2.mono hb1.size)) (by omega)
 refine leaves_cons (f:=96) (args:= #[.pointer (some ⟨w.heap.size,0,none⟩)]) (by simp) (by simp[go_sem]) ?_
 refine(iY _ _ _ _ Nv).mono ?_
 rintro e u' w'' ⟨rfl,rfl,rfl⟩
 simp[Leaves,settle,results,results73,go_sem,hce]
 exact⟨hB.set (by omega) _,rfl⟩
theorem DX (bf:Nat)(f:Pl.aL)(v1 v2 v3 v4:Value)(A:Option Addr)(c:Nat)(k:ByteArray)(ws:List ByteArray)(w:World)(hE:Env w)(hF:fu bf f w v1 v2 v3 v4)(h8:8<=bf)
  (hw:d9 w w.heap.size A (k::ws)) (hc:ws.length+1<=c) (hs:dK ws) (hk1:f.st.length<=100000) (hk2:f.li.length<=100000) (hk3:f.pa.length<=100000) (hk4:f.va.length<=100000):
  Calls prog 73 #[.pointer (some ⟨bf,0,none⟩),.slice A (ws.length+1) c] w (Q0 bf v1 v2 v3 v4 w (Pl.bM f (k::ws))):=by
 by_cases h1:k=Pl.eU
 ·subst h1
  refine jr bf f v1 v2 v3 v4 A c _ ws 202 _ w hE hF h8 hw hc hs.1 (fun _ _=>by simp[go_sem]) Rh (fun W br hE hR hF hlt=>(OG bf br f ws v1 v2 v3 v4 W hE hR hF h8 hlt hs hk1).mono fun e w' h=>Bv h ?_)
  rw[Pl.bM,LA]
  cases qA ws<;>simp[Pl.added,UC]
 ·by_cases h2:k=Pl.iB
  ·subst h2
   refine jr bf f v1 v2 v3 v4 A c _ ws 203 _ w hE hF h8 hw hc hs.1 (fun _ _=>by simp[go_sem]) Ri (fun W br hE hR hF hlt=>(OI bf br f ws v1 v2 v3 v4 W hR hF hlt hs hk2).mono fun e w' h=>Bv h ?_)
   rw[Pl.bM,LB]
   cases sD ws<;>simp[Pl.added,UC]
  ·by_cases h3:k=Pl.f_
   ·subst h3
    obtain⟨A1,c1,A2,c2,A3,c3,A4,c4,rfl,rfl,rfl,rfl⟩:=hF.vals
    refine jr bf f _ _ _ _ A c _ ws 204 _ w hE hF h8 hw hc hs.1 (fun _ _=>by simp[go_sem]) Rj (fun W br hE hR hF hlt=>(OV bf br A1 A2 A3 A4 c1 c2 c3 c4 f ws W hR hF hlt hs hk1 hk2 hk3).mono fun e w' h=> ?_)
    rw[Pl.bM,LD]
    unfold Br at h
    cases hp:sG ws with
    |none=>rw[hp]at h;exact h
    |some p=>obtain⟨n,s,a,b⟩:=p;rw[hp]at h;exact h
   ·by_cases h4:k=Pl.dB
    ·subst h4
     refine jr bf f v1 v2 v3 v4 A c _ ws 207 _ w hE hF h8 hw hc hs.1 (fun _ _=>by simp[go_sem]) Rk (fun W br hE hR hF hlt=>(OH bf br f ws v1 v2 v3 v4 W hE hR hF h8 hlt hs hk4).mono fun e w' h=>Bv h ?_)
     rw[Pl.bM,LC]
     cases qB ws<;>simp[Pl.added,UC]
    ·rw[Pl.bM,Jz k h1 h2 h3 h4 ws]
     exact xJ bf v1 v2 v3 v4 A c k ws w hF.lt hw (OZ k h1 h2 h3 h4)
end Go.Proofs
namespace Go.Proofs.Pl
open RowKit
variable (A1 A2 A3 A4 : Option Addr) (c1 c2 c3 c4 : Nat) (f : Pl.aL)
def Rl (acc:List UInt8):List (List UInt8)->List (List UInt8)
 | []=>[]
 |x::xs=>(acc++x)::xs
theorem xK (d c:UInt8)(hc:c≠d)(r:List UInt8):Lib.index (c::r) [d]=if Lib.index r [d]== -1 then-1 else Lib.index r [d]+1:=by
 have hp:([d]:List UInt8).isPrefixOf (c::r)=false:=by simp[List.isPrefixOf,Ne.symm hc]
 rw[Lib.index,hp];simp
theorem DY (d:UInt8)(r:List UInt8):Lib.index (d::r) [d]=((0:Nat):Int):=by
 rw[Lib.index];simp[List.isPrefixOf]
theorem JC (d c:UInt8)(hc:c≠d)(r:List UInt8): ∀k,Lib.splitK [d] 0 k (c::r)=Rl [c] (Lib.splitK [d] 0 k r)
 |0=>rfl
 | k+1=>by
  unfold Lib.splitK
  by_cases hm:Lib.index r [d]= -1
  ·rw[xK d c hc,if_pos (beq_iff_eq.2 hm),hm];rfl
  ·have hge:=Lib.index_ge r [d]
   have hn: ¬(Lib.index r [d]== -1)=true:=fun e=>hm (beq_iff_eq.1 e)
   rw[xK d c hc,if_neg hn,if_neg hn,if_neg (by intro e;have:=beq_iff_eq.1 e;omega)]
   obtain⟨i,hi⟩: ∃i:Nat,Lib.index r [d]=i:=⟨(Lib.index r [d]).toNat,by omega⟩
   rw[hi]
   have e:((i:Int)+1).toNat=i+1:=by omega
   rw[e]
   simp[Rl]
theorem JD (d:UInt8)(r:List UInt8)(k:Nat):Lib.splitK [d] 0 (k+1) (d::r)=[]::Lib.splitK [d] 0 k r:=by
 rw[Lib.splitK,DY]
 simp
theorem l7 (d:UInt8): ∀s:List UInt8,cutAt d s=Lib.splitK [d] 0 (Lib.count s [d]) s
 | []=>by
  have:Lib.count [] [d]=0:=rfl
  rw[this];rfl
 | c::s=>by
  unfold cutAt
  by_cases hc:c=d
  ·subst hc
   rw[if_pos rfl,Lib.count_cons_eq,Nat.add_comm,JD,l7 c s]
  ·rw[if_neg hc,Lib.count_cons_ne c d s hc,JC d c hc,l7 d s]
   cases h:Lib.splitK [d] 0 (Lib.count s [d]) s with
   |nil=>exact absurd h (by rw[<-l7 d s];exact iH d s)
   |cons x xs=>simp[Rl]
theorem LG (s:ByteArray):q9 s.data.toList=s:=by simp[q9]
theorem qm : ∀l:List UInt8,(Lib.cut l [35]).1=ahead l
 | []=>by rfl
 | c::r=>by
  have ih:=qm r
  have hge:=Lib.index_ge r [35]
  unfold Lib.cut at ih ⊢
  by_cases hc:c=35
  ·subst hc
   rw[DY]
   simp[ahead]
  ·rw[xK 35 c hc]
   by_cases hm:Lib.index r [35]= -1
   ·rw[if_pos (beq_iff_eq.2 hm),if_neg (by decide)]
    rw[hm,if_neg (by decide)]at ih
    simp only at ih ⊢
    unfold ahead at ih ⊢
    rw[List.takeWhile_cons_of_pos (by simpa using hc),<-ih]
   ·have hn: ¬(Lib.index r [35]== -1)=true:=fun e=>hm (beq_iff_eq.1 e)
    rw[if_neg hn,if_pos (by omega)]
    rw[if_pos (by omega)]at ih
    simp only at ih ⊢
    unfold ahead at ih ⊢
    rw[List.takeWhile_cons_of_pos (by simpa using hc),<-ih]
    obtain⟨i,hi⟩: ∃i:Nat,Lib.index r [35]=i:=⟨(Lib.index r [35]).toNat,by omega⟩
    rw[hi]
    have e:((i:Int)+1).toNat=i+1:=by omega
    rw[e]
    simp
def splitV (d:UInt8)(s:ByteArray):List ByteArray:=Lib.splitB ⟨#[d]⟩ 0 (Lib.countB s ⟨#[d]⟩) s
theorem zU (d:UInt8)(s:ByteArray):splitV d s=(cutAt d s.data.toList).map q9:=by
 have h:(splitV d s).map (·.data.toList)=cutAt d s.data.toList:=by
  unfold splitV
  rw[Lib.splitB_data,l7]
 rw[<-h,List.map_map]
 conv=>lhs;rw[<-List.map_id (splitV d s)]
 exact List.map_congr_left fun x _=>(LG x).symm
theorem sI (s:ByteArray):iA s=splitV 10 s:=(zU 10 s).symm
theorem xL (s:ByteArray):aW s=(splitV 32 ⟨(Lib.cut s.data.toList [35]).1.toArray⟩).filter fun x=> !decide (x=⟨#[]⟩):=by
 rw[zU,qm]
 unfold aW kM solid
 rw[List.filter_map]
 congr 1
 refine List.filter_congr fun x _=> ?_
 cases x with
 |nil=>rfl
 |cons a l=>
  have: ¬q9 (a::l)=⟨#[]⟩:=by intro h;simp[q9]at h
  simp[this]
end Go.Proofs.Pl
namespace Go.Proofs
open Tryz Go.Shelf Go.RowKit Go.Lib Go.Sort
def aAb :Go.Shelf.Ren:=⟨fun|10=>169|6=>154|n=>n,fun|22=>24|23=>9|25=>36|3=>3|4=>4|0=>0|n=>n,fun|n=>n⟩
theorem Yn :Go.Proofs.SlLaysH.n10 prog aAb:= {
 mixed:=by kernel_rfl
 f6:=⟨Tryz.f154.name,by decide,func154.trans (congrArg some (by kernel_rfl))⟩
 f10:=⟨Tryz.f169.name,by decide,func169.trans (congrArg some (by kernel_rfl))⟩
 t0:=underlying0
 a0:=Tryz.isAgg0
 z0:=Tryz.sizeOf0
 v0:=Tryz.zeroValue0
 t3:=underlying3
 a3:=Tryz.isAgg3
 z3:=Tryz.sizeOf3
 v3:=Tryz.zeroValue3
 t4:=underlying4
 a4:=Tryz.isAgg4
 z4:=Tryz.sizeOf4
 v4:=Tryz.zeroValue4
 t22:=underlying24
 a22:=Tryz.isAgg24
 z22:=Tryz.sizeOf24
 v22:=Tryz.zeroValue24
 a23:=Tryz.isAgg9
 z23:=Tryz.sizeOf9
 t25:=underlying36
 a25:=Tryz.isAgg36
 z25:=Tryz.sizeOf36
 v25:=Tryz.zeroValue36}
variable (A1 A2 A3 A4 : Option Addr) (c1 c2 c3 c4 : Nat) (f : Pl.aL)
theorem O0 (x:ByteArray)(w:World):Calls prog 170 #[.string x] w fun e w'=>e=.returned (.bool (decide (x=⟨#[]⟩)))∧w=w':=by
 have hq:x.toList.isEmpty=decide (x=⟨#[]⟩):=by
  rw[<-dF x ⟨#[]⟩]
  simp
 have HQ:=Lib.hid hq
 clear hq
 go_enter func170,ntmps170
 go_wp2
 go_ret
 exact⟨aD (by rw[<-HQ.out]),rfl⟩
theorem xM (d:UInt8)(s:ByteArray)(w:World)(hE:Env w)(hs:s.size<=100000):
  Calls prog 145 #[.string s,.string ⟨#[d]⟩] w fun e w'=>e=.returned (.slice (some ⟨w.heap.size,0,none⟩) (Pl.splitV d s).length (Pl.splitV d s).length)∧w'=w.alloc (.cells ((Pl.splitV d s).map Value.string).toArray 9):=by
 obtain⟨m,hm⟩:=hE.maxLen
 refine(Tryz.strings_Split s ⟨#[d]⟩ m w (by omega) hm (by simp[ByteArray.size])).mono ?_
 rintro e w' ⟨rfl,rfl⟩
 have hl:(Pl.splitV d s).length=Lib.countB s ⟨#[d]⟩+1:=Lib.splitB_all ⟨#[d]⟩ (by simp[ByteArray.size]) 0 _ s rfl
 exact⟨by rw[hl],rfl⟩
theorem mZ (d:UInt8)(s:ByteArray):(Pl.splitV d s).length<=s.size+1:=by
 have:=Lib.countB_le ⟨#[d]⟩ (by simp[ByteArray.size]) s.size s (Nat.le_refl _)
 have:=Lib.splitB_length_le ⟨#[d]⟩ 0 (Lib.countB s ⟨#[d]⟩) s
 unfold Pl.splitV
 omega
theorem Bw (sep:ByteArray)(save:Nat): ∀(k:Nat) (s:ByteArray),∀x∈Lib.splitB sep save k s,x.size<=s.size:=by
 intro k
 induction k with
 |zero=>intro s x hx;rw[Lib.splitB_zero]at hx;simp at hx;subst hx;exact Nat.le_refl _
 | succ k ih=>
  intro s x hx
  unfold Lib.splitB at hx
  split at hx
  ·simp at hx;subst hx;exact Nat.le_refl _
  ·rcases List.mem_cons.1 hx with rfl|hx
   ·rw[ByteArray.size_extract];omega
   ·have:=ih _ x hx
    rw[ByteArray.size_extract]at this
    omega
theorem nH (d:UInt8)(s:ByteArray): ∀x∈Pl.splitV d s,x.size<=s.size:=Bw ⟨#[d]⟩ 0 (Lib.countB s ⟨#[d]⟩) s
theorem Rm (l:List ByteArray)(hn:l.length<=200000)(w:World):
  Calls prog 169 #[.slice (some ⟨w.heap.size,0,none⟩) l.length l.length,.func (.func 170) #[] #[]] (w.alloc (.cells (l.map Value.string).toArray 9)) fun e w'=>
   e=.returned (.slice (some ⟨w.heap.size,0,none⟩) (l.filter fun x=> !decide (x=⟨#[]⟩)).length l.length)∧Below w.heap.size w w'∧d9 w' w'.heap.size (some ⟨w.heap.size,0,none⟩) (l.filter fun x=> !decide (x=⟨#[]⟩)):=by
 have hblk:=World.alloc_heap_new w (.cells (l.map Value.string).toArray 9)
 have hH:Sort.Holds Value.string (w.alloc (.cells (l.map Value.string).toArray 9)) w.heap.size 0 l.toArray:=by
  intro j hj
  simp at hj
  obtain⟨hc,hf⟩:=ah hblk
  refine⟨?_,hf _⟩
  rw[Nat.zero_add,hc]
  simp[hj]
 have hg: ∀W x,FnGives prog 170 #[] #[Value.string x] (.bool (decide (x=⟨#[]⟩))) W:=fun W x=>(O0 x W).mono fun _ _ ⟨he,hw⟩=>⟨he,0,by rw[<-hw];rfl⟩
 refine(AnyE.slices_DeleteFunc (Yn) Value.string (fun _=>rfl) (fun x=>decide (x=(⟨#[]⟩:ByteArray))) 170 #[] (fun _ _=>by simp[go_sem]) ⟨#[]⟩ Tryz.zeroValue9 w.heap.size 0 l.length l.toArray _ (fun W x _=>hg W x) (fun _ _ _ x _=>hg _ x) hH (by simp;omega) (by simp)).mono ?_
 rintro e w' ⟨rfl,q,rfl⟩
 have hle:=List.length_filter_le (fun x:ByteArray=> !decide (x=⟨#[]⟩)) l
 simp only[List.size_toArray]
 generalize (l.filter fun x=> !decide (x=⟨#[]⟩))=L at hle ⊢
 have hs:(L++List.replicate (l.length-L.length) (⟨#[]⟩:ByteArray)).toArray.size=l.toArray.size:=by simp;omega
 have Yo:=Sort.holds_putRow Value.string (Sort.ahead (w.alloc (.cells (l.map Value.string).toArray 9)) q) w.heap.size 0 l.toArray _ hH hs
 refine⟨by first|rfl|trivial,⟨rfl,rfl,rfl,by simp,fun k hk=> ?_⟩,.inr ⟨w.heap.size,0,rfl,by simp,fun k x hx j v hv=> ?_⟩⟩
 ·show((w.heap.push _).modify w.heap.size _)[k]?=w.heap[k]?
  rw[Array.getElem?_modify,if_neg (by omega),Array.getElem?_push,if_neg (by omega)]
 ·cases j with
  |succ j=>simp[fU]at hv
  |zero=>
   simp[fU]at hv
   subst hv
   have hk:k<L.length:=(List.getElem?_eq_some_iff.1 hx).1
   have:=(Yo k (by simp;omega)).1
   simp only[Nat.zero_add,Nat.mul_one,Nat.add_zero]at this ⊢
   rw[this]
   simp
   rw[List.getElem?_append_left hk,hx]
   rfl
theorem Bz (s:ByteArray)(w:World)(hE:Env w)(hs:s.size<=100000):
  Calls prog 101 #[.string s] w fun e w'=> ∃b c,e=.returned (.slice (some ⟨b,0,none⟩) (Pl.aW s).length c)∧(Pl.aW s).length<=c∧w.heap.size<=b∧Below w.heap.size w w'∧d9 w' w'.heap.size (some ⟨b,0,none⟩) (Pl.aW s):=by
 obtain⟨m,hm⟩:=hE.maxLen
 have HW:=Lib.hid (Pl.xL s)
 have hcut:=Tryz.strings_Cut s ⟨#[35]⟩ m w (by omega) hm
 have hz:(⟨(Lib.cut s.data.toList [35]).1.toArray⟩:ByteArray).size<=100000:=by
  rw[Pl.qm]
  have h1:(Pl.ahead s.data.toList).length<=s.data.toList.length:=(List.takeWhile_sublist _).length_le
  have h2:s.data.toList.length=s.size:=Array.length_toList
  show(Pl.ahead s.data.toList).toArray.size<=100000
  rw[List.size_toArray];omega
 generalize hT:(⟨(Lib.cut s.data.toList [35]).1.toArray⟩:ByteArray)=T at HW hz
 have hcut:Calls prog 168 #[.string s,.string ⟨#[35]⟩] w fun e w'=> ∃x y n,e=.returned (.tuple #[.string T,x,y])∧w'=w.drewN n:=by
  refine hcut.mono ?_
  rintro e w' ⟨he,n,hw⟩
  refine⟨.string ⟨(Lib.cut s.data.toList [35]).2.1.toArray⟩,.bool (Lib.cut s.data.toList [35]).2.2,n,?_,hw⟩
  rw[<-hT]
  exact he
 have hl:=mZ 32 T
 rw[HW.out]
 have hsp: ∀W,Env W->Calls prog 145 #[.string T,.string ⟨#[32]⟩] W fun e w'=>e=.returned (.slice (some ⟨W.heap.size,0,none⟩) (Pl.splitV 32 T).length (Pl.splitV 32 T).length)∧w'=W.alloc (.cells ((Pl.splitV 32 T).map Value.string).toArray 9):=fun W hW=>xM 32 T W hW hz
 clear hT hm HW
 generalize Pl.splitV 32 T=l at hl hsp ⊢
 have hkp:=Rm l (by omega)
 have hle:=List.length_filter_le (fun x:ByteArray=> !decide (x=⟨#[]⟩)) l
 generalize (l.filter fun x=> !decide (x=⟨#[]⟩))=L at hkp hle ⊢
 go_enter func101,ntmps101
 go_wp2_with fail
 refine hcut.mono ?_
 rintro e w1 ⟨x,y,n,rfl,rfl⟩
 go_wp2_with fail
 have hbn:=below_drewN' (Below.refl w.heap.size w) n
 refine(hsp _ (hE.up hbn)).mono ?_
 rintro e w2 ⟨rfl,rfl⟩
 go_wp2_with fail
 refine(hkp _).mono ?_
 rintro e w3 ⟨rfl,hb3,Tg⟩
 go_wp2
 go_ret
 exact⟨_,_,rfl,hle,Nat.le_refl _,hbn.trans hb3,Tg⟩
end Go.Proofs
namespace Go.Proofs.Pl
open RowKit
variable (A1 A2 A3 A4 : Option Addr) (c1 c2 c3 c4 : Nat) (f : Pl.aL)
def dL (f:aL)(n:Nat):List (List ByteArray)->Except (Int×Nat) aL
 | []=> .ok f
 |w::l=>if w=[]then dL f (n+1) l else match bM f w with
  | .ok f'=>dL f' (n+1) l
  | .error e=> .error (e,n+1)
theorem l8 : ∀(l:List (List ByteArray)) (f:aL) (n:Nat),rO f n l=match dL f n l with
  | .ok f'=>if aR f'=0 then (f',0,0)else (aL.none,aR f',0)
  | .error p=>(aL.none,p.1,(p.2:Int))
 | [],f,n=>rfl
 | w::l,f,n=>by
  unfold rO dL
  by_cases h:w=[]
  ·rw[if_pos h,if_pos h];exact l8 l f (n+1)
  ·rw[if_neg h,if_neg h]
   cases bM f w with
   |ok f'=>exact l8 l f' (n+1)
   |error e=>simp
theorem zV {f:aL}{n:Nat}{w:List ByteArray}{l:List (List ByteArray)}(h:w=[]):dL f n (w::l)=dL f (n+1) l:=by rw[dL,if_pos h]
theorem LH {f f':aL}{n:Nat}{w:List ByteArray}{l:List (List ByteArray)}(h:w≠ [])(hf:bM f w=.ok f'):dL f n (w::l)=dL f' (n+1) l:=by rw[dL,if_neg h,hf]
theorem Im {f:aL}{n:Nat}{w:List ByteArray}{l:List (List ByteArray)}{e:Int}(h:w≠ [])(hf:bM f w=.error e):dL f n (w::l)=.error (e,n+1):=by rw[dL,if_neg h,hf]
def aL.le (f:aL)(n:Nat):Prop:=f.st.length<=n∧f.li.length<=n∧f.pa.length<=n∧f.va.length<=n
theorem LK {f f':aL}{x:Item}{n:Nat}(h:f.le n)(hx:added f x=.ok f'):f'.le (n+1):=by
 obtain⟨h1,h2,h3,h4⟩:=h
 unfold added at hx
 split at hx
 ·cases hx;refine⟨?_,?_,?_,?_⟩<;>simp<;>omega
 ·cases hx;refine⟨?_,?_,?_,?_⟩<;>simp<;>omega
 ·split at hx
  ·split at hx
   ·cases hx;refine⟨?_,?_,?_,?_⟩<;>simp<;>omega
   ·cases hx
  ·cases hx
 ·cases hx;refine⟨?_,?_,?_,?_⟩<;>simp<;>omega
theorem Io {f f':aL}{w:List ByteArray}{n:Nat}(h:f.le n)(hx:bM f w=.ok f'):f'.le (n+1):=by
 unfold bM at hx
 split at hx
 ·exact LK h hx
 ·cases hx
theorem aL.le.more {f:aL}{n m:Nat}(h:f.le n)(hm:n<=m):f.le m:=by
 obtain⟨h1,h2,h3,h4⟩:=h
 exact⟨by omega,by omega,by omega,by omega⟩
end Go.Proofs.Pl
namespace Go.Proofs
open Tryz RowKit Shelf
variable (A1 A2 A3 A4 : Option Addr) (c1 c2 c3 c4 : Nat) (f : Pl.aL)
attribute [local go_sem] Oper.semAt_some
abbrev LX :=Nat×Nat×Nat×List ByteArray
abbrev LM (x:LX):Array Value:= #[.int .i64 (x.1:Int),.slice (some ⟨x.2.1,0,none⟩) x.2.2.2.length x.2.2.1]
structure LS where
 f:Pl.aL
 n:Nat
 on:Bool
 pend:Option LX
structure ug (w:World)(src:ByteArray)(s:LS)(W:World):Prop where
 below:Below w.heap.size w W
 r1:W.heap[w.heap.size]?=some (.cells #[.slice none 0 0,.slice none 0 0,.slice none 0 0,.slice none 0 0] 28 (0,0))
 r2:W.heap[w.heap.size+1]?=some (.cells (i2 0 0) 31 (0,0))
 NV: ∃v1 v2 v3 v4,fu (w.heap.size+2) s.f W v1 v2 v3 v4∧ ∀i,Oy v1 v2 v3 v4 i->w.heap.size+7<=i
 sr:W.heap[w.heap.size+3]?=some (.cells #[.string src] 9 (0,0))
 le:s.f.le s.n
 row:s.on=true->W.heap[w.heap.size+6]?=some (.cells ((Pl.splitV 10 src).map Value.string).toArray 9 (0,0))
 off:s.on=false->W.heap.size=w.heap.size+6
 pend: ∀x,s.pend=some x->d9 W W.heap.size (some ⟨x.2.1,0,none⟩) x.2.2.2∧x.2.2.2.length<=x.2.2.1∧dK x.2.2.2∧x.2.2.2≠ []
theorem ug.grow {w:World}{src:ByteArray}{s:LS}{W W':World}(h:ug w src s W)(hon:s.on=true)(hb:Below W.heap.size W W'):ug w src s W':=by
 obtain⟨v1,v2,v3,v4,hF,hO⟩:=h.NV
 have hlt:=hF.lt
 have l3:=(Array.getElem?_eq_some_iff.1 h.sr).1
 have l6:=(Array.getElem?_eq_some_iff.1 (h.row hon)).1
 exact⟨h.below.trans (hb.mono h.below.size),(hb.block _ (by omega)).trans h.r1,(hb.block _ (by omega)).trans h.r2,⟨v1,v2,v3,v4,hF.below hb,hO⟩,(hb.block _ l3).trans h.sr,h.le,fun e=>(hb.block _ l6).trans (h.row e),fun e=>(by rw[hon]at e;cases e),fun x hx=>let ⟨h1,h2⟩:=h.pend x hx;⟨h1.up hb,h2⟩⟩
def LJ (w:World)(src:ByteArray)(rec:Loop)(s:LS)(W:World):Prop:=
 ug w src s W∧W.heap[w.heap.size+5]?=some (.loop rec)∧W.heap[w.heap.size+4]?=some (.deferred (some []))
theorem LJ.grow {w:World}{src:ByteArray}{rec:Loop}{s:LS}{W W':World}(h:LJ w src rec s W)(hon:s.on=true)(hb:Below W.heap.size W W'):LJ w src rec s W':=
 ⟨h.1.grow hon hb,(hb.block _ (Array.getElem?_eq_some_iff.1 h.2.1).1).trans h.2.1,(hb.block _ (Array.getElem?_eq_some_iff.1 h.2.2).1).trans h.2.2⟩
def xO (s:LS)(x:LX):Option LS:=match Pl.bM s.f x.2.2.2 with
 | .ok f'=>some ⟨f',x.1,true,none⟩
 | .error _=>none
def Ti (s:LS)(x:LX):Prop:=s.on=true∧s.pend=some x∧s.n<x.1∧x.1<=50000
def Si (w:World)(s:LS)(x:LX)(W:World):Prop:= ∃E,Pl.bM s.f x.2.2.2=.error E∧Below w.heap.size w W∧
 W.heap[w.heap.size]?=some (.cells #[.slice none 0 0,.slice none 0 0,.slice none 0 0,.slice none 0 0] 28 (0,0))∧
 W.heap[w.heap.size+1]?=some (.cells (i2 E (x.1:Int)) 31 (0,0))
def O1 (src:ByteArray):Except (Int×Nat) Pl.aL:=Pl.dL Pl.aL.none 0 ((Pl.splitV 10 src).map Pl.aW)
def WT (src:ByteArray)(s:LS):Prop:=O1 src=.ok s.f∧s.on=true
def WU (src:ByteArray)(s:LS)(x:LX):Prop:= ∃E,Pl.bM s.f x.2.2.2=.error E∧O1 src=.error (E,x.1)
theorem oW (s:ByteArray)(n:Nat)(hs:s.size<=n):(Pl.aW s).length<=n+1∧ ∀x∈Pl.aW s,x.size<=n:=by
 rw[Pl.xL]
 have hz:(⟨(Lib.cut s.data.toList [35]).1.toArray⟩:ByteArray).size<=n:=by
  rw[Pl.qm]
  have h1:(Pl.ahead s.data.toList).length<=s.data.toList.length:=(List.takeWhile_sublist _).length_le
  have h2:s.data.toList.length=s.size:=Array.length_toList
  show(Pl.ahead s.data.toList).toArray.size<=n
  rw[List.size_toArray];omega
 generalize (⟨(Lib.cut s.data.toList [35]).1.toArray⟩:ByteArray)=T at hz ⊢
 have h1:=mZ 32 T
 have h2:=List.length_filter_le (fun x:ByteArray=> !decide (x=⟨#[]⟩)) (Pl.splitV 32 T)
 refine⟨by omega,fun x hx=> ?_⟩
 have:=nH 32 T x (List.mem_filter.1 hx).1
 omega
theorem F8 {s s':LS}{x:LX}(h:xO s x=some s'): ∃f',Pl.bM s.f x.2.2.2=.ok f'∧s'=⟨f',x.1,true,none⟩:=by
 unfold xO at h
 split at h
 ·rename_i f' hf
  exact⟨f',hf,(Option.some.inj h).symm⟩
 ·cases h
theorem LJ.Rn {w:World}{src:ByteArray}{rec:Loop}{s:LS}{W:World}{x:LX}(h:LJ w src rec s W)(hx:d9 W W.heap.size (some ⟨x.2.1,0,none⟩) x.2.2.2∧x.2.2.2.length<=x.2.2.1∧dK x.2.2.2∧x.2.2.2≠ []):LJ w src rec {s with pend:=some x} W:=by
 obtain⟨⟨h1,h2,h3,h4,h5,h6,h7,h8,_⟩,h10⟩:=h
 exact⟨⟨h1,h2,h3,h4,h5,h6,h7,h8,fun y hy=>by cases hy;exact hx⟩,h10⟩
theorem LJ.begun {w:World}{src:ByteArray}{rec:Loop}{W:World}(h:LJ w src rec ⟨Pl.aL.none,0,false,none⟩ W):LJ w src rec ⟨Pl.aL.none,0,true,none⟩ (W.alloc (.cells ((Pl.splitV 10 src).map Value.string).toArray 9)):=by
 have hsz:=h.1.off rfl
 have hb:Below W.heap.size W (W.alloc (.cells ((Pl.splitV 10 src).map Value.string).toArray 9)):=(Below.refl _ W).alloc (Nat.le_refl _) _
 obtain⟨⟨h1,h2,h3,⟨v1,v2,v3,v4,hF,hO⟩,h5,h6,_,_,_⟩,hl,hk⟩:=h
 refine⟨⟨h1.trans (hb.mono h1.size),(hb.block _ (by omega)).trans h2,(hb.block _ (by omega)).trans h3,⟨v1,v2,v3,v4,hF.below hb,hO⟩,(hb.block _ (by omega)).trans h5,h6,fun _=> ?_,fun e=>(by cases e),fun x hx=>(by cases hx)⟩,(hb.block _ (by omega)).trans hl,(hb.block _ (by omega)).trans hk⟩
 have:=World.alloc_heap_new W (.cells ((Pl.splitV 10 src).map Value.string).toArray 9)
 rwa[hsz]at this
theorem JE (n:Nat)(w:World)(src:ByteArray)(rec rec':Loop)(hE:Env w)(hsrc:src.size<=20000)
  (hY: ∀s x W,Ti s x->LJ w src rec s W->YieldAt Fence.wide (n-1) prog (w.heap.size+5) (LM x) W fun e W'=>
   (∃s',xO s x=some s'∧e=.returned (.bool true)∧LJ w src rec s' W')∨(xO s x=none∧e=.returned (.bool false)∧Si w s x W'∧W'.heap[w.heap.size+5]?=some (.loop rec')∧W'.heap[w.heap.size+4]?=some (.deferred (some []))))
  (W1:World) (h0:LJ w src rec ⟨Pl.aL.none,0,false,none⟩ W1):
  CallsIn Fence.wide n prog 144 #[.func (.yield (w.heap.size+5)) #[] #[],.pointer (some ⟨w.heap.size+3,0,none⟩)] W1 fun e W'=>
   (∃v,e=.returned v)∧((∃s1,WT src s1∧LJ w src rec s1 W')∨(∃s x,WU src s x∧Si w s x W'∧W'.heap[w.heap.size+5]?=some (.loop rec')∧W'.heap[w.heap.size+4]?=some (.deferred (some [])))):=by
 refine callsIn_of_wp func144 rfl trivial ?_ rfl
 simp only[ntmps144,List.size_toArray,List.length_cons,List.length_nil,Nat.reduceAdd,Nat.reduceSub,Array.replicate_succ,Array.replicate_zero,List.push_toArray,List.append_toArray,List.nil_append,List.cons_append]
 have hE1:Env W1:=hE.up h0.1.below
 have hsz:=h0.1.off rfl
 obtain⟨hcs,hfs⟩:=ah h0.1.sr
 have hls:=mZ 10 src
 have hlz:=nH 10 src
 have hsp:=xM 10 src W1 hE1 (by omega)
 gi_wp2_with fail
 refine⟨trivial,fun h=>(by cases h),?_⟩
 refine(callsIn_wide.2 hsp).mono ?_
 rintro e w2 ⟨rfl,rfl⟩
 have hJ2:=h0.begun
 have hrun:Hid (Pl.dL Pl.aL.none 0 (((Pl.splitV 10 src).drop 0).map Pl.aW)=O1 src):=Lib.hid rfl
 rw[hsz]
 generalize (W1.alloc (.cells ((Pl.splitV 10 src).map Value.string).toArray 9))=W2 at hJ2 ⊢
 gi_wp2_with fail
 gi_loopw [9] (fun p wr=> ∃(k:Nat) (s:LS),k<=(Pl.splitV 10 src).length∧p=.int .i64 k∧LJ w src rec s wr∧s.on=true∧s.pend=none∧s.n<=k∧Hid (Pl.dL s.f k (((Pl.splitV 10 src).drop k).map Pl.aW)=O1 src)) (fun p _=>(Pl.splitV 10 src).length-(intOf p).toNat)
 case atStart=>exact⟨0,_,by omega,rfl,hJ2,rfl,rfl,by simp,hrun⟩
 case round=>
  obtain⟨k,s,hk,rfl,hJ,hon,Tj,hnk,H⟩:=hrel
  by_cases hlt:k<(Pl.splitV 10 src).length
  ·have hlt2:(Pl.splitV 10 src).drop k=(Pl.splitV 10 src)[k]::(Pl.splitV 10 src).drop (k+1):=by simp
   obtain⟨hcr,hfr⟩:=ah (hJ.1.row hon)
   have q0:wr.cell? ⟨w.heap.size+6,k,none⟩=some (.string (Pl.splitV 10 src)[k]):=by rw[hcr];simp[hlt]
   clear hcr hfr
   have hEr:Env wr:=hE.up hJ.1.below
   have hz:=hlz _ (List.getElem_mem hlt)
   rw[hlt2,List.map_cons]at H
   clear hlt2
   generalize (Pl.splitV 10 src)[k]=l at q0 hz H
   have hwd:=Bz l wr hEr (by omega)
   have hws:=oW l 20000 (by omega)
   generalize Pl.aW l=ws at hwd hws H
   gi_wp2_with fail
   refine⟨trivial,fun h=>(by cases h),?_⟩
   refine(callsIn_wide.2 hwd).mono ?_
   rintro e w3 ⟨b,c,rfl,hc,hbl,hb3,Tg⟩
   have hJ3:=hJ.grow hon hb3
   by_cases hnil:ws=[]
   ·subst hnil
    gi_wp2_with fail
    refine⟨fun _ h=>(by cases h),?_⟩
    gi_wp2
    go_roundw
    case rel=>exact⟨k+1,s,by omega,by simp,hJ3,hon,Tj,by omega,Lib.hid ((Pl.zV rfl).symm.trans H.out)⟩
    case measure=>first|(simp[intOf];done)|(simp[intOf];omega)
   ·have hpos:0<ws.length:=List.length_pos_iff.2 hnil
    have Yp:=hJ3.Rn (x:=(k+1,b,c,ws)) ⟨Tg,hc,⟨(by have:=hws.1;show ws.length<=100000;omega),fun x hx=>by have:=hws.2 x hx;omega⟩,hnil⟩
    obtain⟨fn,tmps,assign,body,hy,hR⟩:=hY {s with pend:=some (k+1,b,c,ws)} (k+1,b,c,ws) w3 ⟨hon,rfl,by simp;omega,by simp;omega⟩ Yp
    simp only[LM,Int.natCast_add,Int.natCast_one]at hy
    gi_wp2
    refine⟨fun h=>(by cases h),hR.mono ?_⟩
    rintro e W3 (⟨s',hs',rfl,Vt⟩|⟨hno,rfl,hx5,hl5,hk5⟩)
    ·obtain⟨f',hf',rfl⟩:=F8 hs'
     gi_wp2
     go_roundw
     case rel=>exact⟨k+1,_,by omega,by simp,Vt,rfl,rfl,by simp,Lib.hid ((Pl.LH hnil hf').symm.trans H.out)⟩
     case measure=>first|(simp[intOf];done)|(simp[intOf];omega)
    ·obtain⟨E,Tk,Yq⟩:=id hx5
     gi_wp2
     refine bodyPost_ret (results_none rfl _ _ _) rfl ?_
     exact⟨⟨_,rfl⟩,.inr ⟨_,_,⟨E,Tk,H.out.symm.trans (Pl.Im hnil Tk)⟩,hx5,hl5,hk5⟩⟩
  ·gi_wp2
   go_end0
   have hd:(Pl.splitV 10 src).drop k=[]:=List.drop_eq_nil_of_le (by omega)
   rw[hd]at H
   exact⟨⟨_,rfl⟩,.inl ⟨s,⟨H.out.symm,hon⟩,hJ⟩⟩
end Go.Proofs
namespace Go.Proofs
open Tryz RowKit
variable (A1 A2 A3 A4 : Option Addr) (c1 c2 c3 c4 : Nat) (f : Pl.aL)
theorem nI {P:Program}{fn:Func}{T T':Array Value}{R:Ending->World->Prop}(h: ∀w,(results fn T).run P w=(results fn T').run P w): ∀(ds:List Deferred) (u:FrameMode) (w:World),Leaves P fn T R ds u w->Leaves P fn T' R ds u w
 | [],u,w,hl=>by
  cases u with
  |returning=>obtain⟨v,h1,h2⟩:=hl;exact⟨v,(h w)▸h1,h2⟩
  |panicking c=>exact hl
  |run=>exact hl
 |d::ds,u,w,hl=>by
  obtain⟨hu,fv,cap,f,args,ht,hi,hc⟩:=hl
  refine⟨hu,fv,cap,f,args,ht,hi,hc.mono ?_⟩
  intro e u' w' h'
  cases e with
  |returned v=>exact nI h ds _ _ h'
  |panicked c=>exact nI h ds _ _ h'
  |outgrown=>exact h'
theorem Ip {T:Array Value}{d i:Nat}{v:Value}(h:d≠i):(T.setIfInBounds d v).getD i undef=T.getD i undef:=by
 simp[Array.getD_eq_getD_getElem?,h]
theorem nJ (d:Nat)(v:Value)(R:Ending->World->Prop)(h6:d≠6)(h7:d≠7)(c:List PanicEntry)(a:Act)(w:World)(h:bodyPostD prog Tryz.f31 R (.panic c) (a.put (some d) v) w):bodyPostD prog Tryz.f31 R (.panic c) a w:=by
 have e:results Tryz.f31 (a.put (some d) v).tmps=results Tryz.f31 a.tmps:=by
  simp only[results,results31,Act.put,List.mapM_toArray,List.mapM_cons,List.mapM_nil,Ip h6,Ip h7]
 exact nI (T:=(a.put (some d) v).tmps) (fun w=>by rw[e]) _ _ _ h
theorem zW (s:ByteArray)(w:World):Calls prog 98 #[.string s,.string ⟨#[10]⟩] w fun e w'=>e=.returned (.bool (decide (0<=Lib.indexByte s.data.toList 10)))∧w=w':=
 (Tryz.strings_Contains_one s 10 w).mono fun _ _ ⟨h1,h2⟩=>⟨h1,h2.symm⟩
theorem LP {s:ByteArray}(hs:s.size<=90000):dK (Pl.aW s):=by
 have:=oW s 90000 hs
 exact⟨by omega,fun x hx=>by have:=this.2 x hx;omega⟩
theorem uO (l:List UInt8):decide (0<=Lib.indexByte l 10)=decide ((10:UInt8)∈l):=by
 have h:=Lib.indexByte_ge l 10
 by_cases hm:(10:UInt8)∈l
 ·rw[decide_eq_true hm,decide_eq_true_eq]
  obtain⟨k,hk,he⟩:=List.mem_iff_getElem.1 hm
  by_cases h0:Lib.indexByte l 10= -1
  ·exact absurd (by rw[List.getElem?_eq_getElem hk,he]) (Lib.indexByte_none h0 k)
  ·omega
 ·rw[decide_eq_false hm,decide_eq_false_iff_not]
  intro h0
  obtain⟨o,ho⟩:=Int.eq_ofNat_of_zero_le h0
  exact hm (List.mem_of_getElem? (Lib.indexByte_some ho).1)
def jC (r:Except Int Pl.aZ)(w:World)(e:Ending)(w':World):Prop:=
 Below w.heap.size w w'∧match r with
  | .ok c=>e=.returned (.tuple #[.agg (kq c),.int .i64 0])
  | .error E=>e=.returned (.tuple #[.agg mH,.int .i64 E])
theorem jC.ok {r:Except Int Pl.aZ}{w w':World}{e:Ending}(c:Pl.aZ)(hr:r=.ok c)(hb:Below w.heap.size w w')(he:e=.returned (.tuple #[.agg (kq c),.int .i64 0])):jC r w e w':=by subst hr;exact⟨hb,he⟩
theorem jC.no {r:Except Int Pl.aZ}{w w':World}{e:Ending}(E:Int)(hr:r=.error E)(hb:Below w.heap.size w w')(he:e=.returned (.tuple #[.agg mH,.int .i64 E])):jC r w e w':=by subst hr;exact⟨hb,he⟩
theorem Ga {w:World}{g:Nat}{n E:Int}(hg:w.heap[g]?=some (.cells #[.int .i64 n] 29 (0,0))):(storeVar 29 ⟨g,0,none⟩ (.int .i64 E)).run prog w=.ok () (w.setCell ⟨g,0,none⟩ (.int .i64 E)):=by
 obtain⟨hc,hf⟩:=ah hg
 have h1:=hc 0
 have h2:=hf 0
 simp at h1
 simp[go_sem,h1,h2]
attribute [-go_sem] run_equalIn_agg storeVar loadVar
attribute [local go_sem] bZ bH dU aT eB mU
theorem xP (s:ByteArray)(year:Int)(w:World)(_hEv:Env w)(hf:bB w w.heap.size A1 A2 A3 A4 f)(hm:Small f)(hc:dY c1 c2 c3 c4 f)(_hs:s.size<=90000)(hE:Pl.aR f≠0):
  Calls prog 31 #[.agg (fq A1 A2 A3 A4 c1 c2 c3 c4 f),.string s,.int .i64 year] w (jC (Pl.bJ f s year) w):=by
 have HR:Hid (Pl.bJ f s year=.error (Pl.aR f)):=Lib.hid (by unfold Pl.bJ;rw[if_pos hE])
 obtain⟨E,he⟩: ∃E,Pl.aR f=E:=⟨_,rfl⟩
 rw[he]at hE HR
 have HE:=Lib.hid he
 have hne:(E !=0)=true:=by simpa using hE
 clear he hE
 have kf:=heap_alloc2_old w (.cells (fq A1 A2 A3 A4 c1 c2 c3 c4 f) 28) (.cells bP 48)
 have kr:=heap_alloc2_new w (.cells (fq A1 A2 A3 A4 c1 c2 c3 c4 f) 28) (.cells bP 48)
 have hb0:Below w.heap.size w ((w.alloc (.cells (fq A1 A2 A3 A4 c1 c2 c3 c4 f) 28)).alloc (.cells bP 48)):=((Below.refl _ w).alloc (Nat.le_refl _) _).alloc (by simp) _
 have hz:((w.alloc (.cells (fq A1 A2 A3 A4 c1 c2 c3 c4 f) 28)).alloc (.cells bP 48)).heap.size=w.heap.size+2:=by simp
 have kf:=(Below.heap_alloc _ (.cells #[.int .i64 0] 29) _ (lO kf)).trans kf
 have kr:=(Below.heap_alloc _ (.cells #[.int .i64 0] 29) _ (lO kr)).trans kr
 have ke:=heap_alloc_new ((w.alloc (.cells (fq A1 A2 A3 A4 c1 c2 c3 c4 f) 28)).alloc (.cells bP 48)) (.cells #[.int .i64 0] 29)
 rw[hz]at ke
 have hb0:=hb0.alloc (by omega) (.cells #[.int .i64 0] 29)
 have hl0:=ak kf underlying28 rfl av
 clear hz
 go_enter_defers func31,ntmps31
 go_wp2_with (go_at_call 22;refine(bX A1 A2 A3 A4 c1 c2 c3 c4 f E _ HE (hf.up hb0) hm hc).mono ?_;rintro e w1 ⟨rfl,hx⟩;have kf:=kE hx kf;have kr:=kE hx kr;have ke:=kE hx ke;have hb1:Below w.heap.size w w1:=hb0.trans (hx.mono hb0.size);clear hx;obtain⟨W3,Qe,xI,hg3⟩:=aG _ (w.heap.size+1) _ 48 _ bP kr aj rfl (by simp[Value.oneCell']);have Tp:=(hg3.block _ (lO ke) (by simp)).trans ke;have Ro:=Ga (E:=E) Tp)
 have hb3:Below w.heap.size w W3:=hb1.grown hg3 hb1.size (fun k e=>by cases e;omega)
 have zX:=(Below.heap_setCell W3 ⟨w.heap.size+2,0,none⟩ (.int .i64 E) (w.heap.size+1) (by simp)).trans xI
 have JF:=heap_setCell_same W3 (w.heap.size+2) 0 _ _ (.int .i64 E) Tp
 have hl4:=ak zX underlying48 rfl aj
 obtain⟨hce,hfe⟩:=ah JF
 refine⟨.tuple #[.agg mH,.int .i64 E],by unfold mH;simp[results,results31,go_sem,hl4,hce],jC.no E HR.out (hb3.setCell (p:=⟨w.heap.size+2,0,none⟩) (by simp) _) rfl⟩
theorem zu (s:ByteArray)(year:Int)(w:World)(_hEv:Env w)(hf:bB w w.heap.size A1 A2 A3 A4 f)(hm:Small f)(hc:dY c1 c2 c3 c4 f)(_hs:s.size<=90000)(hE:Pl.aR f=0)(hy:Pl.bQ year 1 3000=false):
  Calls prog 31 #[.agg (fq A1 A2 A3 A4 c1 c2 c3 c4 f),.string s,.int .i64 year] w (jC (Pl.bJ f s year) w):=by
 have HR:Hid (Pl.bJ f s year=.error 1):=Lib.hid (by unfold Pl.bJ;rw[if_neg (fun h=>h hE),if_pos (by simp[Pl.bQ]at hy;omega)])
 have HE:=Lib.hid hE
 clear hE
 have kf:=heap_alloc2_old w (.cells (fq A1 A2 A3 A4 c1 c2 c3 c4 f) 28) (.cells bP 48)
 have kr:=heap_alloc2_new w (.cells (fq A1 A2 A3 A4 c1 c2 c3 c4 f) 28) (.cells bP 48)
 have hb0:Below w.heap.size w ((w.alloc (.cells (fq A1 A2 A3 A4 c1 c2 c3 c4 f) 28)).alloc (.cells bP 48)):=((Below.refl _ w).alloc (Nat.le_refl _) _).alloc (by simp) _
 have hz:((w.alloc (.cells (fq A1 A2 A3 A4 c1 c2 c3 c4 f) 28)).alloc (.cells bP 48)).heap.size=w.heap.size+2:=by simp
 have kf:=(Below.heap_alloc _ (.cells #[.int .i64 0] 29) _ (lO kf)).trans kf
 have kr:=(Below.heap_alloc _ (.cells #[.int .i64 0] 29) _ (lO kr)).trans kr
 have ke:=heap_alloc_new ((w.alloc (.cells (fq A1 A2 A3 A4 c1 c2 c3 c4 f) 28)).alloc (.cells bP 48)) (.cells #[.int .i64 0] 29)
 rw[hz]at ke
 have hb0:=hb0.alloc (by omega) (.cells #[.int .i64 0] 29)
 have hl0:=ak kf underlying28 rfl av
 clear hz
 go_enter_defers func31,ntmps31
 go_wp2_with (first
  |(go_at_call 22;refine(bX A1 A2 A3 A4 c1 c2 c3 c4 f 0 _ HE (hf.up hb0) hm hc).mono ?_;rintro e w1 ⟨rfl,hx⟩;have kf:=kE hx kf;have kr:=kE hx kr;have ke:=kE hx ke;have hb1:Below w.heap.size w w1:=hb0.trans (hx.mono hb0.size);clear hx;obtain⟨W3,Qe,xI,hg3⟩:=aG _ (w.heap.size+1) _ 48 _ bP kr aj rfl (by simp[Value.oneCell']);have Tp:=(hg3.block _ (lO ke) (by simp)).trans ke;have Ro:=Ga (E:=1) Tp)
  |(go_at_call 84;refine(dP _ _ _ _).mono ?_;rintro e w' ⟨rfl,rfl⟩))
 have hb3:Below w.heap.size w W3:=hb1.grown hg3 hb1.size (fun k e=>by cases e;omega)
 have zX:=(Below.heap_setCell W3 ⟨w.heap.size+2,0,none⟩ (.int .i64 1) (w.heap.size+1) (by simp)).trans xI
 have JF:=heap_setCell_same W3 (w.heap.size+2) 0 _ _ (.int .i64 1) Tp
 have hl4:=ak zX underlying48 rfl aj
 obtain⟨hce,hfe⟩:=ah JF
 refine⟨.tuple #[.agg mH,.int .i64 1],by unfold mH;simp[results,results31,go_sem,hl4,hce],jC.no 1 HR.out (hb3.setCell (p:=⟨w.heap.size+2,0,none⟩) (by simp) _) rfl⟩
theorem DZ (s:ByteArray)(year:Int)(w:World)(_hEv:Env w)(hf:bB w w.heap.size A1 A2 A3 A4 f)(hm:Small f)(hc:dY c1 c2 c3 c4 f)(_hs:s.size<=90000)(hE:Pl.aR f=0)(hy:Pl.bQ year 1 3000=true)(hn:(10:UInt8)∈s.data.toList):
  Calls prog 31 #[.agg (fq A1 A2 A3 A4 c1 c2 c3 c4 f),.string s,.int .i64 year] w (jC (Pl.bJ f s year) w):=by
 have HR:Hid (Pl.bJ f s year=.error 4):=Lib.hid (by unfold Pl.bJ;rw[if_neg (fun h=>h hE),if_neg (by simp[Pl.bQ]at hy;omega),if_pos hn])
 have HE:=Lib.hid hE
 have hnl:decide (0<=Lib.indexByte s.data.toList 10)=true:=by rw[uO];exact decide_eq_true hn
 clear hE hn
 have kf:=heap_alloc2_old w (.cells (fq A1 A2 A3 A4 c1 c2 c3 c4 f) 28) (.cells bP 48)
 have kr:=heap_alloc2_new w (.cells (fq A1 A2 A3 A4 c1 c2 c3 c4 f) 28) (.cells bP 48)
 have hb0:Below w.heap.size w ((w.alloc (.cells (fq A1 A2 A3 A4 c1 c2 c3 c4 f) 28)).alloc (.cells bP 48)):=((Below.refl _ w).alloc (Nat.le_refl _) _).alloc (by simp) _
 have hz:((w.alloc (.cells (fq A1 A2 A3 A4 c1 c2 c3 c4 f) 28)).alloc (.cells bP 48)).heap.size=w.heap.size+2:=by simp
 have kf:=(Below.heap_alloc _ (.cells #[.int .i64 0] 29) _ (lO kf)).trans kf
 have kr:=(Below.heap_alloc _ (.cells #[.int .i64 0] 29) _ (lO kr)).trans kr
 have ke:=heap_alloc_new ((w.alloc (.cells (fq A1 A2 A3 A4 c1 c2 c3 c4 f) 28)).alloc (.cells bP 48)) (.cells #[.int .i64 0] 29)
 rw[hz]at ke
 have hb0:=hb0.alloc (by omega) (.cells #[.int .i64 0] 29)
 have hl0:=ak kf underlying28 rfl av
 clear hz
 go_enter_defers func31,ntmps31
 go_wp2_with (first
  |(go_at_call 22;refine(bX A1 A2 A3 A4 c1 c2 c3 c4 f 0 _ HE (hf.up hb0) hm hc).mono ?_;rintro e w1 ⟨rfl,hx⟩;have kf:=kE hx kf;have kr:=kE hx kr;have ke:=kE hx ke;have hb1:Below w.heap.size w w1:=hb0.trans (hx.mono hb0.size);clear hx;skip)
  |(go_at_call 84;refine(dP _ _ _ _).mono ?_;rintro e w' ⟨rfl,rfl⟩)
  |(go_at_call 98;refine(zW s _).mono ?_;rintro e w' ⟨rfl,rfl⟩;rw[hnl])
  |(go_at_call 97;refine(bD _ _).mono ?_;rintro e w2 ⟨rfl,hx⟩;have kr:=kE hx kr;have ke:=kE hx ke;have hb2:Below w.heap.size w w2:=hb1.trans (hx.mono hb1.size)))
 refine leaves_cons (f:=96) (args:= #[.pointer (some ⟨w.heap.size+2,0,none⟩)]) (by simp) (by simp[go_sem]) ?_
 refine(iY _ _ _ _ ke).mono ?_
 rintro e u' w'' ⟨rfl,rfl,rfl⟩
 have zX:=(Below.heap_setCell w2 ⟨w.heap.size+2,0,none⟩ (.int .i64 4) (w.heap.size+1) (by simp)).trans kr
 have JF:=heap_setCell_same w2 (w.heap.size+2) 0 _ _ (.int .i64 4) ke
 have hl4:=ak zX underlying48 rfl aj
 obtain⟨hce,hfe⟩:=ah JF
 exact⟨.tuple #[.agg mH,.int .i64 4],by unfold mH;simp[results,results31,go_sem,hl4,hce],jC.no 4 (HR.out) (hb2.setCell (p:=⟨w.heap.size+2,0,none⟩) (by simp) _) rfl⟩
theorem zw (s:ByteArray)(year:Int)(w:World)(CZ:Env w)(hf:bB w w.heap.size A1 A2 A3 A4 f)(hm:Small f)(hc:dY c1 c2 c3 c4 f)(hs:s.size<=90000)(hE:Pl.aR f=0)(hy:Pl.bQ year 1 3000=true)(hn: ¬(10:UInt8)∈s.data.toList):
  Calls prog 31 #[.agg (fq A1 A2 A3 A4 c1 c2 c3 c4 f),.string s,.int .i64 year] w (jC (Pl.bJ f s year) w):=by
 have HR:Hid (Pl.bJ f s year=match Pl.form (Pl.aW s)with|Option.none=> .error 4|some x=>Pl.jF f x year):=Lib.hid (by unfold Pl.bJ;rw[if_neg (fun h=>h hE),if_neg (by simp[Pl.bQ]at hy;omega),if_neg hn];rfl)
 have HE:=Lib.hid hE
 have hnl:decide (0<=Lib.indexByte s.data.toList 10)=false:=by rw[uO];exact decide_eq_false hn
 clear hE hn
 have kf:=heap_alloc2_old w (.cells (fq A1 A2 A3 A4 c1 c2 c3 c4 f) 28) (.cells bP 48)
 have kr:=heap_alloc2_new w (.cells (fq A1 A2 A3 A4 c1 c2 c3 c4 f) 28) (.cells bP 48)
 have hb0:Below w.heap.size w ((w.alloc (.cells (fq A1 A2 A3 A4 c1 c2 c3 c4 f) 28)).alloc (.cells bP 48)):=((Below.refl _ w).alloc (Nat.le_refl _) _).alloc (by simp) _
 have hz:((w.alloc (.cells (fq A1 A2 A3 A4 c1 c2 c3 c4 f) 28)).alloc (.cells bP 48)).heap.size=w.heap.size+2:=by simp
 have kf:=(Below.heap_alloc _ (.cells #[.int .i64 0] 29) _ (lO kf)).trans kf
 have kr:=(Below.heap_alloc _ (.cells #[.int .i64 0] 29) _ (lO kr)).trans kr
 have ke:=heap_alloc_new ((w.alloc (.cells (fq A1 A2 A3 A4 c1 c2 c3 c4 f) 28)).alloc (.cells bP 48)) (.cells #[.int .i64 0] 29)
 rw[hz]at ke
 have hb0:=hb0.alloc (by omega) (.cells #[.int .i64 0] 29)
 have hl0:=ak kf underlying28 rfl av
 clear hz
 go_enter_defers func31,ntmps31
 go_wp2_with (first
  |(go_at_call 22;refine(bX A1 A2 A3 A4 c1 c2 c3 c4 f 0 _ HE (hf.up hb0) hm hc).mono ?_;rintro e w1 ⟨rfl,hx⟩;have kf:=kE hx kf;have kr:=kE hx kr;have ke:=kE hx ke;have hb1:Below w.heap.size w w1:=hb0.trans (hx.mono hb0.size);clear hx;skip)
  |(go_at_call 84;refine(dP _ _ _ _).mono ?_;rintro e w' ⟨rfl,rfl⟩)
  |(go_at_call 98;refine(zW s _).mono ?_;rintro e w' ⟨rfl,rfl⟩;rw[hnl])
  |(go_at_call 97;refine(uYs _ _).mono ?_;rintro e w' ⟨rfl,rfl⟩))
 clear hnl hl0 hb0
 refine wp_region_held_drew (S:=fun W=>(loadVar 28 ⟨w.heap.size,0,none⟩).run prog W=.ok (.agg (fq A1 A2 A3 A4 c1 c2 c3 c4 f)) W) (by kernel_rfl) (ak kf underlying28 rfl av) (fun hHeld=> ?_)
 have hb:Below w.heap.size w w1.drew:=hb1.drew
 have kf:w1.drew.heap[w.heap.size]?=_:=kf
 have kr:w1.drew.heap[w.heap.size+1]?=_:=kr
 have ke:w1.drew.heap[w.heap.size+2]?=_:=ke
 clear hb1
 generalize w1.drew=W1 at*
 refine cK 0 (some 23) (v:= ?v0) rfl rfl (by kernel_rfl) (by kernel_rfl) (by kernel_rfl) (fun c a w h=>nJ 23 _ _ (by decide) (by decide) c a w h) (Or.inl ⟨by rfl,fun W hW=> ?hy0⟩) (by assumption) ?hr0
 case hy0=>(try dsimp only at hW);go_simp;try with_reducible rfl
 try simp only[au]
 refine cK 3 (some 26) (v:= ?v3) rfl rfl (by kernel_rfl) (by kernel_rfl) (by kernel_rfl) (fun c a w h=>nJ 26 _ _ (by decide) (by decide) c a w h) (Or.inl ⟨by rfl,fun W hW=> ?hy3⟩) (by assumption) ?hr3
 case hy3=>(try dsimp only at hW);go_simp;try with_reducible rfl
 try simp only[au]
 refine cK 4 (some 27) (v:= ?v4) rfl rfl (by kernel_rfl) (by kernel_rfl) (by kernel_rfl) (fun c a w h=>nJ 27 _ _ (by decide) (by decide) c a w h) (Or.inl ⟨by rfl,fun W hW=> ?hy4⟩) (by assumption) ?hr4
 case hy4=>(try dsimp only at hW);go_simp;try with_reducible rfl
 try simp only[au]
 refine wpAnyH_ready (rs:=[1]) (by kernel_rfl) (by simp) ?_
 refine aI (some 24) rfl rfl (fun K hK=> ?_) AllReadyH.nil
 go_simp
 refine(Bz s _ (CZ.up hb) (by omega)).mono ?_
 rintro e w2 ⟨b,cw,rfl,hcw,hbw,hx,hnm⟩
 have hb:Below w.heap.size w w2:=hb.trans (hx.mono hb.size)
 have kf:=kE hx kf
 have kr:=kE hx kr
 have ke:=kE hx ke
 clear hx
 refine hK.out _ _ (ak kf underlying28 rfl av) (fun hHeld=> ?_)
 clear hK K
 try simp only[au]
 refine wpAnyH_ready (rs:=[2]) (by kernel_rfl) (by simp) ?_
 refine aI (some 25) rfl rfl (fun K hK=> ?_) AllReadyH.nil
 go_simp
 refine(DN _ cw (Pl.aW s) _ (CZ.up hb) hnm hcw (LP hs)).mono ?_
 rintro e w3 ⟨hx,Nu⟩
 have hb:Below w.heap.size w w3:=hb.trans (hx.mono hb.size)
 have hsz2:w2.heap.size<=w3.heap.size:=hx.size
 have hn2:w.heap.size+2<w2.heap.size:=(lO ke)
 have kf:=kE hx kf
 have kr:=kE hx kr
 have ke:=kE hx ke
 cases hfm:Pl.form (Pl.aW s)with
 |none=>
  rw[hfm]at Nu
  subst Nu
  refine leaves_cons (f:=96) (args:= #[.pointer (some ⟨w.heap.size+2,0,none⟩)]) (by simp) (by simp[go_sem]) ?_
  refine(iY _ _ _ _ ke).mono ?_
  rintro e u' w'' ⟨rfl,rfl,rfl⟩
  have zX:=(Below.heap_setCell w3 ⟨w.heap.size+2,0,none⟩ (.int .i64 4) (w.heap.size+1) (by simp)).trans kr
  have JF:=heap_setCell_same w3 (w.heap.size+2) 0 _ _ (.int .i64 4) ke
  have hl4:=ak zX underlying48 rfl aj
  obtain⟨hce,hfe⟩:=ah JF
  exact⟨.tuple #[.agg mH,.int .i64 4],by unfold mH;simp[results,results31,go_sem,hl4,hce],jC.no 4 (by rw[HR.out,hfm]) (hb.setCell (p:=⟨w.heap.size+2,0,none⟩) (by simp) _) rfl⟩
 |some x=>
 rw[hfm]at Nu
 obtain⟨v,rfl,hF⟩:=Nu
 have WW:=Lib.hid hfm
 have hx5:=Jy hfm
 clear hx hfm
 refine hK.out _ _ (ak kf underlying28 rfl av) (fun hHeld=> ?_)
 clear hK K
 try simp only[au]
 refine wpAnyH_ready (rs:=[5]) (by kernel_rfl) (by simp) ?_
 refine aI (some 28) rfl rfl (fun K hK=> ?_) AllReadyH.nil
 go_simp
 refine(Rb A1 A2 A3 A4 c1 c2 c3 c4 f w2.heap.size w3.heap.size v x year w3 hF (Nat.le_refl _) (by omega) ((hf.below hb).more (by omega)) hsz2 hm hc HE.out).mono ?_
 rintro e w4 ⟨hx,K6⟩
 have hb:Below w.heap.size w w4:=hb.trans (hx.mono (by omega))
 have kf:=(hx.block _ (by omega)).trans kf
 have kr:=(hx.block _ (by omega)).trans kr
 have ke:=(hx.block _ (by omega)).trans ke
 cases hmd:Pl.jF f x year with
 |error E=>
  rw[hmd]at K6
  subst K6
  refine leaves_cons (f:=96) (args:= #[.pointer (some ⟨w.heap.size+2,0,none⟩)]) (by simp) (by simp[go_sem]) ?_
  refine(iY _ _ _ _ ke).mono ?_
  rintro e u' w'' ⟨rfl,rfl,rfl⟩
  have zX:=(Below.heap_setCell w4 ⟨w.heap.size+2,0,none⟩ (.int .i64 E) (w.heap.size+1) (by simp)).trans kr
  have JF:=heap_setCell_same w4 (w.heap.size+2) 0 _ _ (.int .i64 E) ke
  have hl4:=ak zX underlying48 rfl aj
  obtain⟨hce,hfe⟩:=ah JF
  exact⟨.tuple #[.agg mH,.int .i64 E],by unfold mH;simp[results,results31,go_sem,hl4,hce],jC.no E (by rw[HR.out,WW.out];exact hmd) (hb.setCell (p:=⟨w.heap.size+2,0,none⟩) (by simp) _) rfl⟩
 |ok c=>
 rw[hmd]at K6
 subst K6
 have Yr:=Lib.hid hmd
 clear hx hmd
 refine hK.out _ _ (ak kf underlying28 rfl av) (fun hHeld=> ?_)
 clear hK K
 try simp only[au]
 obtain⟨W5,ZU,FM,hg5⟩:=aG w4 (w.heap.size+1) _ 48 _ (kq c) kr aj rfl (by simp[Value.oneCell'])
 have UD:=(hg5.block _ (lO kf) (by simp)).trans kf
 have WZ:=(hg5.block _ (lO ke) (by simp)).trans ke
 have hb5:Below w.heap.size w W5:=hb.grown hg5 hb.size (fun k e=>by cases e;omega)
 refine wpAnyH_ready (rs:=[6]) (by kernel_rfl) (by simp) ?_
 refine aI none rfl rfl (fun K hK=> ?_) AllReadyH.nil
 go_simp
 refine hK.out _ _ (ak UD underlying28 rfl av) (fun hHeld=> ?_)
 clear hK K
 try simp only[au]
 have Yt:=Ga (E:=0) WZ
 have Yu:=(Below.heap_setCell W5 ⟨w.heap.size+2,0,none⟩ (.int .i64 0) w.heap.size (by simp)).trans UD
 have Vu:=(Below.heap_setCell W5 ⟨w.heap.size+2,0,none⟩ (.int .i64 0) (w.heap.size+1) (by simp)).trans FM
 have Yv:=heap_setCell_same W5 (w.heap.size+2) 0 _ _ (.int .i64 0) WZ
 have hb6:Below w.heap.size w (W5.setCell ⟨w.heap.size+2,0,none⟩ (.int .i64 0)):=hb5.setCell (p:=⟨w.heap.size+2,0,none⟩) (by simp) _
 refine wpAnyH_ready (rs:=[7]) (by kernel_rfl) (by simp) ?_
 refine aI none rfl rfl (fun K hK=> ?_) AllReadyH.nil
 go_simp
 refine hK.out _ _ (ak Yu underlying28 rfl av) (fun hHeld=> ?_)
 clear hK K
 try simp only[au]
 refine wpAnyH_done (by kernel_rfl) ?_ _
 generalize W5.setCell ⟨w.heap.size+2,0,none⟩ (.int .i64 0)=W6 at*
 have Yw:=ak Vu underlying48 rfl aj
 obtain⟨hce,hfe⟩:=ah Yv
 go_wp2
 refine leaves_cons (f:=96) (args:= #[.pointer (some ⟨w.heap.size+2,0,none⟩)]) (by simp) (by simp[go_sem]) ?_
 refine(oV _ _).mono ?_
 rintro e u' w'' ⟨rfl,rfl,rfl⟩
 exact⟨.tuple #[.agg (kq c),.int .i64 0],by simp[results,results31,go_sem,Yw,hce],jC.ok c (by rw[HR.out,WW.out];exact Yr.out) hb6 rfl⟩
theorem qQ (s:ByteArray)(year:Int)(w:World)(CZ:Env w)(hf:bB w w.heap.size A1 A2 A3 A4 f)(hm:Small f)(hc:dY c1 c2 c3 c4 f)(hs:s.size<=90000):
  Calls prog 31 #[.agg (fq A1 A2 A3 A4 c1 c2 c3 c4 f),.string s,.int .i64 year] w (jC (Pl.bJ f s year) w):=by
 by_cases hE:Pl.aR f=0
 ·cases hy:Pl.bQ year 1 3000 with
  |false=>exact zu A1 A2 A3 A4 c1 c2 c3 c4 f s year w CZ hf hm hc hs hE hy
  |true=>
   by_cases hn:(10:UInt8)∈s.data.toList
   ·exact DZ A1 A2 A3 A4 c1 c2 c3 c4 f s year w CZ hf hm hc hs hE hy hn
   ·exact zw A1 A2 A3 A4 c1 c2 c3 c4 f s year w CZ hf hm hc hs hE hy hn
 ·exact xP A1 A2 A3 A4 c1 c2 c3 c4 f s year w CZ hf hm hc hs hE
