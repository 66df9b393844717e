/- Part U32 of the proof: Sy Sz Al Fe. -/
import Derived.Test.YtcffonnijhhhiaaGreatDoorProg
import Derived.WalkKit
import Derived.WalkLawsBesides
import Derived.WalkSpells
import Derived.Handy
import Derived.Lib.Hide
import Derived.Great.BuildSlice
import Derived.Deep.QuietTactic
import Derived.BigQuiet
import Derived.Deep.RegionHeld3
import Derived.Deep.DeepCutAuto
import Derived.Test.YtcffonnijhhhiaaGreatDoorU19
import Derived.Test.YtcffonnijhhhiaaGreatDoorU21
import Derived.Test.YtcffonnijhhhiaaGreatDoorU30
import Derived.Test.YtcffonnijhhhiaaGreatDoorU23
import Derived.Test.YtcffonnijhhhiaaGreatDoorU31
import Derived.Test.YtcffonnijhhhiaaGreatDoorU15
set_option linter.all false
set_option linter.unusedSimpArgs false
set_option linter.unusedVariables false
set_option linter.unusedSectionVars false
namespace Go.Proofs.Rt
def digs :Nat→Nat→List UInt8
 |0,u=>[UInt8.ofNat (48+u)]
 |f+1,u=>if u<10 then [UInt8.ofNat (48+u)]else digs f (u/10)++[UInt8.ofNat (48+u%10)]
theorem digs_eq : ∀(f u:Nat),u<10^(f+1)→Go.Lib.decDigits u=digs f u
 |0,u,h=>by rw[Go.Lib.decDigits,dif_pos (by simpa using h)];rfl
 |f+1,u,h=>by
  rw[Go.Lib.decDigits]
  unfold digs
  by_cases h1:u<10
  ·rw[dif_pos h1,if_pos h1]
  ·rw[dif_neg h1,if_neg h1,digs_eq f (u/10) (by rw[Nat.pow_succ]at h;omega)]
theorem itoa_digs (u:Nat)(h:u<100000):Go.Lib.itoa (u:Int)=digs 4 u:=by
 unfold Go.Lib.itoa
 rw[if_neg (by omega),Int.toNat_natCast,digs_eq 4 u h]
def rowD (x:Deal):List UInt8:=digs 4 x.id.toNat++[32]++digs 4 x.day.toNat++[32]++word x.kind++(nums x).flatMap fun n=>[32]++digs 4 n.toNat
theorem row_digs {x:Deal}(h1:0≤x.id∧x.id<100000)(h2:0≤x.day∧x.day<100000)(h3: ∀n∈nums x,0≤n∧n<100000):row x=rowD x:=by
 have e: ∀n:Int,0≤n∧n<100000→Go.Lib.itoa n=digs 4 n.toNat:=fun n h=>by
  have:=itoa_digs n.toNat (by omega)
  rwa[Int.toNat_of_nonneg h.1]at this
 unfold row rowD head
 rw[e _ h1,e _ h2]
 congr 1
 generalize nums x=l at h3
 induction l with
 |nil=>rfl
 |cons a l ih=>rw[List.flatMap_cons,List.flatMap_cons,e _ (h3 a (by simp)),ih fun n hn=>h3 n (by simp[hn])]
theorem read_of {s:List UInt8}{w:List (List UInt8)}{x:Deal}(hs:Go.Lib.split s [32]=w)(hw:readW w=x)(h4:4≤w.length∧w.length≤24∧fine w=true∧formed x=true)(hr:rowD x=s)(h1:0≤x.id∧x.id<100000)(h2:0≤x.day∧x.day<100000)
  (h3: ∀n∈nums x,0≤n∧n<100000):read s=(x,0):=by
 unfold read
 rw[hs]
 unfold readOk
 rw[hw,row_digs h1 h2 h3,hr,h4.2.2.1,h4.2.2.2]
 simp[h4.1,h4.2.1]
def d1 :Deal:=⟨1,0,1,10,0,0,1,0,900,[],[]⟩
def s1 :List UInt8:=[49,32,48,32,101,110,116,101,114,32,49,48,32,49,32,57,48,48]
def d2 :Deal:=⟨2,0,1,20,0,0,2,0,500,[],[]⟩
def s2 :List UInt8:=[50,32,48,32,101,110,116,101,114,32,50,48,32,50,32,53,48,48]
def d3 :Deal:=⟨3,5,2,10,0,1,3,2520,0,[],[]⟩
def s3 :List UInt8:=[51,32,53,32,103,114,97,110,116,32,49,48,32,49,32,51,32,50,53,50,48]
def d4 :Deal:=⟨4,6,5,10,20,0,0,0,0,[],[]⟩
def s4 :List UInt8:=[52,32,54,32,119,97,121,32,49,48,32,50,48]
def d5 :Deal:=⟨5,7,7,10,0,0,4,0,12,[],[]⟩
def s5 :List UInt8:=[53,32,55,32,115,116,105,110,116,32,49,48,32,52,32,49,50]
def d6 :Deal:=⟨6,8,3,10,0,0,0,0,0,[11,12],[400,500]⟩
def s6 :List UInt8:=[54,32,56,32,100,105,118,105,100,101,32,49,48,32,49,49,32,52,48,48,32,49,50,32,53,48,48]
def d7 :Deal:=⟨7,9,2,11,0,3,1,2520,0,[],[]⟩
def s7 :List UInt8:=[55,32,57,32,103,114,97,110,116,32,49,49,32,51,32,49,32,50,53,50,48]
def d8 :Deal:=⟨8,12,6,12,20,0,0,0,0,[],[]⟩
def s8 :List UInt8:=[56,32,49,50,32,114,101,108,101,97,115,101,32,49,50,32,50,48]
def d9 :Deal:=⟨9,12,4,13,0,0,0,0,0,[11,12],[]⟩
def s9 :List UInt8:=[57,32,49,50,32,109,101,114,103,101,32,49,51,32,49,49,32,49,50]
def sampleL :List Deal:=[d1,d2,d3,d4,d5,d6,d7,d8]
theorem read1 :read s1=(d1,0):=read_of (w:=[[49],[48],[101,110,116,101,114],[49,48],[49],[57,48,48]]) (by decide+kernel) (by decide+kernel) (by decide+kernel) (by decide+kernel) (by decide) (by decide) (by decide)
theorem read2 :read s2=(d2,0):=read_of (w:=[[50],[48],[101,110,116,101,114],[50,48],[50],[53,48,48]]) (by decide+kernel) (by decide+kernel) (by decide+kernel) (by decide+kernel) (by decide) (by decide) (by decide)
theorem read3 :read s3=(d3,0):=read_of (w:=[[51],[53],[103,114,97,110,116],[49,48],[49],[51],[50,53,50,48]]) (by decide+kernel) (by decide+kernel) (by decide+kernel) (by decide+kernel) (by decide) (by decide) (by decide)
theorem read4 :read s4=(d4,0):=read_of (w:=[[52],[54],[119,97,121],[49,48],[50,48]]) (by decide+kernel) (by decide+kernel) (by decide+kernel) (by decide+kernel) (by decide) (by decide) (by decide)
theorem read5 :read s5=(d5,0):=read_of (w:=[[53],[55],[115,116,105,110,116],[49,48],[52],[49,50]]) (by decide+kernel) (by decide+kernel) (by decide+kernel) (by decide+kernel) (by decide) (by decide) (by decide)
theorem read6 :read s6=(d6,0):=read_of (w:=[[54],[56],[100,105,118,105,100,101],[49,48],[49,49],[52,48,48],[49,50],[53,48,48]]) (by decide+kernel) (by decide+kernel) (by decide+kernel) (by decide+kernel) (by decide) (by decide) (by decide)
theorem read7 :read s7=(d7,0):=read_of (w:=[[55],[57],[103,114,97,110,116],[49,49],[51],[49],[50,53,50,48]]) (by decide+kernel) (by decide+kernel) (by decide+kernel) (by decide+kernel) (by decide) (by decide) (by decide)
theorem read8 :read s8=(d8,0):=read_of (w:=[[56],[49,50],[114,101,108,101,97,115,101],[49,50],[50,48]]) (by decide+kernel) (by decide+kernel) (by decide+kernel) (by decide+kernel) (by decide) (by decide) (by decide)
theorem read9 :read s9=(d9,0):=read_of (w:=[[57],[49,50],[109,101,114,103,101],[49,51],[49,49],[49,50]]) (by decide+kernel) (by decide+kernel) (by decide+kernel) (by decide+kernel) (by decide) (by decide) (by decide)
end Go.Proofs.Rt
namespace Go.Proofs.YtcffonnijhhhiaaGreatDoor
open Go Go.RowKit
theorem app1 :appE [] Rt.d1=0:=by decide+kernel
theorem app2 :appE [Rt.d1] Rt.d2=0:=by decide+kernel
theorem app3 :appE [Rt.d1,Rt.d2] Rt.d3=0:=by decide+kernel
theorem app4 :appE [Rt.d1,Rt.d2,Rt.d3] Rt.d4=0:=by decide+kernel
theorem app5 :appE [Rt.d1,Rt.d2,Rt.d3,Rt.d4] Rt.d5=0:=by decide+kernel
theorem app6 :appE [Rt.d1,Rt.d2,Rt.d3,Rt.d4,Rt.d5] Rt.d6=0:=by decide+kernel
theorem app7 :appE [Rt.d1,Rt.d2,Rt.d3,Rt.d4,Rt.d5,Rt.d6] Rt.d7=0:=by decide+kernel
theorem app8 :appE [Rt.d1,Rt.d2,Rt.d3,Rt.d4,Rt.d5,Rt.d6,Rt.d7] Rt.d8=0:=by decide+kernel
theorem app9 :appE Rt.sampleL Rt.d9=71:=by decide+kernel
theorem chk :(Rt.check Rt.sampleL).2=0:=by decide+kernel
theorem fal : Rt.partE Rt.sampleL 4 = 0 ∧ (Rt.partF Rt.sampleL 4).map (·.id) = [4, 8] := by decide +kernel
theorem nee :Rt.needsE Rt.sampleL 7=0∧Rt.needsR Rt.sampleL 7=[1,3,6]:=by decide+kernel
theorem rise_of {l m:List Int}(h:m.Perm l)(hs:m.Pairwise (fun x y:Int=>x≤y)):Rt.rise l=m:=(rise_eq ⟨h,hs,h.length_eq⟩).symm
theorem linP :Rt.linePs Rt.sampleL 12=[0,5]:=rise_of (by decide+kernel) (by decide)
theorem linR :Rt.lineRs Rt.sampleL 12=[10]:=rise_of (by decide+kernel) (by decide)
theorem lin :Rt.lineE Rt.sampleL 12=0∧Rt.lineI Rt.sampleL 12=[1,6]∧Rt.linedR Rt.sampleL 12=[10]:=by
 have h0:Rt.lineE Rt.sampleL 12=0:=by
  unfold Rt.lineE
  rw[linP,chk]
  rfl
 refine⟨h0,?_,?_⟩
 ·unfold Rt.lineI Rt.linedP
  rw[h0,linP]
  decide+kernel
 ·unfold Rt.linedR
  rw[h0,linR]
  rfl
theorem chg :changedI Rt.sampleL 8 9=[11]:=by
 unfold changedI Rt.changedR
 rw[if_pos chk,rise_of (m:=[11,11,12,12,20,20]) (by decide+kernel) (by decide)]
 decide+kernel
theorem tot :Rt.total (onR Rt.sampleL 8).lots=1400:=by decide+kernel
theorem par :partsR (onR Rt.sampleL 8) 12 3=2520:=by decide+kernel
theorem frr :forR (onR Rt.sampleL 8) 20=[11,12]:=by decide+kernel
theorem bea :beastsR (onR Rt.sampleL 8) 11=12:=by decide+kernel
end Go.Proofs.YtcffonnijhhhiaaGreatDoor
namespace Go.Proofs.Rt
def rowsL :List (List UInt8):=[s1,s2,s3,s4,s5,s6,s7,s8]
def smp (j:Nat):Deal:=sampleL.getD j noDeal
def sms (j:Nat):ByteArray:=⟨(rowsL.getD j []).toArray⟩
theorem smp_next {j:Nat}(h:j<8):sampleL.take j++[smp j]=sampleL.take (j+1):=by
 rcases(show j=0∨j=1∨j=2∨j=3∨j=4∨j=5∨j=6∨j=7 by omega)with rfl|rfl|rfl|rfl|rfl|rfl|rfl|rfl<;>rfl
theorem smp_read {j:Nat}(h:j<8):read (sms j).data.toList=(smp j,0)∧(sms j).size≤1000:=by
 rcases(show j=0∨j=1∨j=2∨j=3∨j=4∨j=5∨j=6∨j=7 by omega)with rfl|rfl|rfl|rfl|rfl|rfl|rfl|rfl
 ·exact⟨read1,by decide⟩
 ·exact⟨read2,by decide⟩
 ·exact⟨read3,by decide⟩
 ·exact⟨read4,by decide⟩
 ·exact⟨read5,by decide⟩
 ·exact⟨read6,by decide⟩
 ·exact⟨read7,by decide⟩
 ·exact⟨read8,by decide⟩
end Go.Proofs.Rt
namespace Go.Proofs.YtcffonnijhhhiaaGreatDoor
open Go Go.RowKit Go.Maps Mp
attribute [-simp] Prod.forall Prod.exists
attribute [-go_sem] loadVar storeVar Builtin.append_
attribute [local go_sem] lk_int lk_u8 lk_ints lk_str
theorem smp_app {j:Nat}(h:j<8):appE (Rt.sampleL.take j) (Rt.smp j)=0:=by
 rcases(show j=0∨j=1∨j=2∨j=3∨j=4∨j=5∨j=6∨j=7 by omega)with rfl|rfl|rfl|rfl|rfl|rfl|rfl|rfl
 ·exact app1
 ·exact app2
 ·exact app3
 ·exact app4
 ·exact app5
 ·exact app6
 ·exact app7
 ·exact app8
structure Smp (w:World)(A:Option Addr)(c:Nat)(L:List Dp):Prop where
 lies:Dls w w.heap.size A L
 is:dls L=Rt.sampleL
 cap:L.length≤c
theorem Smp.len {w:World}{A:Option Addr}{c:Nat}{L:List Dp}(h:Smp w A c L):L.length=8:=by
 have:=congrArg List.length h.is
 rw[List.length_map]at this
 exact this
theorem Smp.up {w w':World}{A:Option Addr}{c:Nat}{L:List Dp}(h:Smp w A c L)(hb:Below w.heap.size w w'):Smp w' A c L:=⟨h.lies.up hb,h.is,h.cap⟩
theorem smp_cells {w:World}{b:Nat}(h:w.heap[b]?=some (.cells #[.string {data:= #[49,32,48,32,101,110,116,101,114,32,49,48,32,49,32,57,48,48]},.string {data:= #[50,32,48,32,101,110,116,101,114,32,50,48,32,50,32,53,48,48]},.string {data:= #[51,32,53,32,103,114,97,110,116,32,49,48,32,49,32,51,32,50,53,50,48]},.string {data:= #[52,32,54,32,119,97,121,32,49,48,32,50,48]},.string {data:= #[53,32,55,32,115,116,105,110,116,32,49,48,32,52,32,49,50]},.string {data:= #[54,32,56,32,100,105,118,105,100,101,32,49,48,32,49,49,32,52,48,48,32,49,50,32,53,48,48]},.string {data:= #[55,32,57,32,103,114,97,110,116,32,49,49,32,51,32,49,32,50,53,50,48]},.string {data:= #[56,32,49,50,32,114,101,108,101,97,115,101,32,49,50,32,50,48]}] 9 (0,0))){j:Nat}(hj:j<8):w.cell? ⟨b,j,none⟩=some (.string (Rt.sms j)):=by
 rw[(blk_cells h).1 j]
 rcases(show j=0∨j=1∨j=2∨j=3∨j=4∨j=5∨j=6∨j=7 by omega)with rfl|rfl|rfl|rfl|rfl|rfl|rfl|rfl<;>rfl
attribute [local irreducible] loadVar storeVar
set_option maxRecDepth 100000 in
set_option maxHeartbeats 4000000 in
theorem sample_a (w:World)(hE:Env w):Calls Tryz.prog 85 #[] w fun e w'=> ∃A c L,e=.returned (.slice A 8 c)∧Hid (Smp w' A c L)∧Below w.heap.size w w':=by
 obtain⟨W1,hW1⟩: ∃W1,W1=w.alloc (.cells #[.string {data:= #[49,32,48,32,101,110,116,101,114,32,49,48,32,49,32,57,48,48]},.string {data:= #[50,32,48,32,101,110,116,101,114,32,50,48,32,50,32,53,48,48]},.string {data:= #[51,32,53,32,103,114,97,110,116,32,49,48,32,49,32,51,32,50,53,50,48]},.string {data:= #[52,32,54,32,119,97,121,32,49,48,32,50,48]},.string {data:= #[53,32,55,32,115,116,105,110,116,32,49,48,32,52,32,49,50]},.string {data:= #[54,32,56,32,100,105,118,105,100,101,32,49,48,32,49,49,32,52,48,48,32,49,50,32,53,48,48]},.string {data:= #[55,32,57,32,103,114,97,110,116,32,49,49,32,51,32,49,32,50,53,50,48]},.string {data:= #[56,32,49,50,32,114,101,108,101,97,115,101,32,49,50,32,50,48]}] 9):=⟨_,rfl⟩
 have b1:Below w.heap.size w W1:=by rw[hW1];go_grown
 have k1:W1.heap[w.heap.size]?=some (.cells #[.string {data:= #[49,32,48,32,101,110,116,101,114,32,49,48,32,49,32,57,48,48]},.string {data:= #[50,32,48,32,101,110,116,101,114,32,50,48,32,50,32,53,48,48]},.string {data:= #[51,32,53,32,103,114,97,110,116,32,49,48,32,49,32,51,32,50,53,50,48]},.string {data:= #[52,32,54,32,119,97,121,32,49,48,32,50,48]},.string {data:= #[53,32,55,32,115,116,105,110,116,32,49,48,32,52,32,49,50]},.string {data:= #[54,32,56,32,100,105,118,105,100,101,32,49,48,32,49,49,32,52,48,48,32,49,50,32,53,48,48]},.string {data:= #[55,32,57,32,103,114,97,110,116,32,49,49,32,51,32,49,32,50,53,50,48]},.string {data:= #[56,32,49,50,32,114,101,108,101,97,115,101,32,49,50,32,50,48]}] 9 (0,0)):=by rw[hW1];exact heap_alloc_new w _
 have z1:W1.heap.size=w.heap.size+1:=by rw[hW1];simp
 have HB1:=Lib.hid b1
 have HK1:Hid (∀V:World,Below W1.heap.size W1 V→ ∀j,j<8→V.cell? ⟨w.heap.size,j,none⟩=some (.string (Rt.sms j))):=Lib.hid fun V hV j hj=>smp_cells ((hV.block _ (by omega)).trans k1) hj
 have HZ1:=Lib.hid z1
 have HE:=Lib.hid hE
 have HRef:=Lib.hid (Below.refl W1.heap.size W1)
 have HD0:Hid (Dls W1 W1.heap.size none ([]:List Dp)∧dls ([]:List Dp)=Rt.sampleL.take 0∧([]:List Dp).length=0∧0≤0):=Lib.hid ⟨⟨.inl rfl,fun p hp=>(by cases hp)⟩,rfl,rfl,Nat.le_refl _⟩
 clear b1 k1 z1 hE
 go_enter Tryz.func85,Tryz.ntmps85
 go_wp2
 rw[←hW1]
 clear hW1
 go_loopw [1,8] (fun v i wr=> ∃(j:Nat) (A:Option Addr) (c:Nat) (L:List Dp),j≤8∧i=.int .i64 j∧v=.slice A j c∧Hid (Dls wr wr.heap.size A L∧dls L=Rt.sampleL.take j∧L.length=j∧j≤c)∧Hid (Below W1.heap.size W1 wr)) (fun _ i _=>8-(intOf i).toNat)
 case atStart=>exact⟨0,none,0,[],by omega,rfl,rfl,HD0,HRef⟩
 case round=>
  obtain⟨j,A,c,L,hj,rfl,rfl,HD,HBr⟩:=hrel
  by_cases hlt:j<8
  ·have hji:(j:Int)<8:=by omega
   have q1:=HK1.out wr HBr.out j hlt
   obtain⟨hrd,hsz⟩:=Rt.smp_read hlt
   obtain⟨b,hb⟩: ∃b,Rt.sms j=b:=⟨_,rfl⟩
   rw[hb]at q1 hrd hsz
   have bw:Below w.heap.size w wr:=HB1.out.trans (HBr.out.mono (by have:=HZ1.out;omega))
   have hre:=read_a b wr (HE.out.up bw) (by omega)
   unfold EndRd at hre
   rw[hrd]at hre
   have HX:=Lib.hid (smp_app hlt)
   have HN:=Lib.hid (Rt.smp_next hlt)
   obtain⟨x,hx⟩: ∃x,Rt.smp j=x:=⟨_,rfl⟩
   rw[hx]at hre HX HN
   clear hb hrd hsz bw hx
   go_wp2_with fail
   refine hre.mono ?_
   clear hre
   rintro e w5 ⟨y,E,A1,A2,c1,c2,hy,rfl,hds,h1,h2,b5⟩
   cases hy
   have hD5:=HD.out.1.up b5
   obtain⟨w6,st,k6,g6⟩:=st_row (w5.alloc (.cells zcs 24)) w5.heap.size 24 24 zcs (xcs x A1 A2 c1 c2) (heap_alloc_new w5 _) info_deal rfl (by simp[Value.oneCell'])
   have l6:=ld_row k6 Tryz.underlying24 rfl info_deal
   have b56:Below w5.heap.size w5 w6:=((Below.refl _ w5).alloc (Nat.le_refl _) _).grown g6 (by simp) (by intro k e;cases e;exact Nat.le_refl _)
   have hap:=append_a A c L x A1 A2 c1 c2 w6 (hD5.up b56) (by have:=HD.out.2.2.1;omega) (hds.up b56) h1 h2
   unfold EndA at hap
   rw[HD.out.2.1,HX.out]at hap
   simp only[if_true]at hap
   rw[HD.out.2.2.1]at hap
   have HB6:=Lib.hid (HBr.out.trans ((b5.trans (b56.mono b5.size)).mono HBr.out.size))
   clear hD5 k6 g6 b56 hds h1 h2 b5
   go_wp2_with fail
   refine hap.mono ?_
   clear hap
   rintro e w7 ⟨b7,A',c',M,rfl,hM,hd,hl,hc,_⟩
   have HB7:=Lib.hid (HB6.out.trans (b7.mono HB6.out.size))
   have HM:Hid (Dls w7 w7.heap.size A' M∧dls M=Rt.sampleL.take (j+1)∧M.length=j+1∧j+1≤c'):=Lib.hid ⟨hM,by rw[hd,HN.out],hl,hc⟩
   clear b7 hM hd hl hc
   go_wp2
   go_roundw
   case rel=>exact⟨j+1,A',c',M,by omega,by go_num,rfl,HM,HB7⟩
   case measure=>first|(simp[intOf];done)|(simp[intOf];omega)
  ·obtain rfl:j=8:=by omega
   go_wp2
   go_ret
   obtain⟨d1,d2,d3,d4⟩:=HD.out
   exact⟨A,c,L,rfl,Lib.hid ⟨d1,d2,by omega⟩,HB1.out.trans (HBr.out.mono (by have:=HZ1.out;omega))⟩
end Go.Proofs.YtcffonnijhhhiaaGreatDoor
namespace Go.Proofs.YtcffonnijhhhiaaGreatDoor
open Go Go.RowKit Go.Maps Mp
attribute [-simp] Prod.forall Prod.exists
attribute [-go_sem] loadVar storeVar Builtin.append_
attribute [local go_sem] lk_int lk_u8 lk_ints lk_str
theorem al_falls {w:World}{A:Option Addr}{c:Nat}{L:List Dp}(h:Smp w A c L):Calls Tryz.prog 52 #[.slice A 8 c,.int .i64 4] w fun e w'=> ∃A' c',e=.returned (.tuple #[.slice A' 2 c',.int .i64 0])∧Hid (Ints w' w'.heap.size A' [4,8])∧Below w.heap.size w w':=by
 have hl:=h.len
 have hm:L.length≤1000000:=by omega
 have:=falls_a A c L 4 w h.lies hm
 rw[h.is,fal.1,fal.2,hl]at this
 refine this.mono ?_
 rintro e w' ⟨A',c',rfl,ho,b⟩
 obtain⟨A9,c9,e9,hs,_⟩:=own_seg layI ho
 cases e9
 exact⟨A',c',rfl,Lib.hid hs,b⟩
theorem al_needs {w:World}{A:Option Addr}{c:Nat}{L:List Dp}(h:Smp w A c L):Calls Tryz.prog 51 #[.slice A 8 c,.int .i64 7] w fun e w'=> ∃A' c',e=.returned (.tuple #[.slice A' 3 c',.int .i64 0])∧Hid (Ints w' w'.heap.size A' [1,3,6])∧Below w.heap.size w w':=by
 have hl:=h.len
 have hm:L.length≤1000000:=by omega
 have:=needsOf_a A c L 7 w h.lies hm h.cap
 rw[h.is,nee.1,nee.2,hl]at this
 refine this.mono ?_
 rintro e w' ⟨A',c',rfl,ho,b⟩
 obtain⟨A9,c9,e9,hs,_⟩:=own_seg layI ho
 cases e9
 exact⟨A',c',rfl,Lib.hid hs,b⟩
theorem al_line {w:World}{A:Option Addr}{c:Nat}{L:List Dp}(h:Smp w A c L):Calls Tryz.prog 37 #[.slice A 8 c,.int .i64 12] w fun e w'=> ∃A' c',e=.returned (.tuple #[.slice A' 2 c',.int .i64 0])∧Hid (Ints w' w'.heap.size A' [1,6])∧Below w.heap.size w w':=by
 have hl:=h.len
 have hm:L.length≤1000000:=by omega
 have:=lines_a A c L 12 w h.lies hm h.cap
 unfold EndLe at this
 rw[h.is,lin.1,lin.2.1,hl]at this
 refine this.mono ?_
 rintro e w' ⟨A',c',rfl,ho,b⟩
 obtain⟨A9,c9,e9,hs,_⟩:=own_seg layI ho
 cases e9
 exact⟨A',c',rfl,Lib.hid hs,b⟩
theorem al_roots {w:World}{A:Option Addr}{c:Nat}{L:List Dp}(h:Smp w A c L):Calls Tryz.prog 39 #[.slice A 8 c,.int .i64 12] w fun e w'=> ∃A' c',e=.returned (.tuple #[.slice A' 1 c',.int .i64 0])∧Hid (Ints w' w'.heap.size A' [10])∧Below w.heap.size w w':=by
 have hl:=h.len
 have hm:L.length≤1000000:=by omega
 have:=roots_a A c L 12 w h.lies hm
 unfold EndLe at this
 rw[h.is,lin.1,lin.2.2,hl]at this
 refine this.mono ?_
 rintro e w' ⟨A',c',rfl,ho,b⟩
 obtain⟨A9,c9,e9,hs,_⟩:=own_seg layI ho
 cases e9
 exact⟨A',c',rfl,Lib.hid hs,b⟩
theorem al_changed {w:World}{A:Option Addr}{c:Nat}{L:List Dp}(h:Smp w A c L):Calls Tryz.prog 65 #[.slice A 8 c,.int .i64 8,.int .i64 9] w fun e w'=> ∃A' c',e=.returned (.tuple #[.slice A' 1 c',.int .i64 0])∧Hid (Ints w' w'.heap.size A' [11])∧Below w.heap.size w w':=by
 have hl:=h.len
 have hm:L.length≤1000000:=by omega
 have:=changed_a A c L 8 9 w h.lies hm
 rw[h.is,chg,chk,hl]at this
 exact this.mono fun e w' ⟨A',c',e1,hi,b⟩=>⟨A',c',e1,Lib.hid hi,b⟩
theorem al_total {w:World}{A:Option Addr}{c:Nat}{L:List Dp}(h:Smp w A c L):Calls Tryz.prog 45 #[.slice A 8 c,.int .i64 8] w fun e w'=>e=.returned (.int .i64 1400)∧Below w.heap.size w w':=by
 have hl:=h.len
 have hm:L.length≤1000000:=by omega
 have:=total_a A c L 8 w h.lies hm
 rw[h.is,tot,hl]at this
 exact this
theorem al_parts {w:World}{A:Option Addr}{c:Nat}{L:List Dp}(h:Smp w A c L):Calls Tryz.prog 48 #[.slice A 8 c,.int .i64 8,.int .i64 12,.int .i64 3] w fun e w'=>e=.returned (.int .i64 2520)∧Below w.heap.size w w':=by
 have hl:=h.len
 have hm:L.length≤1000000:=by omega
 have:=parts_a A c L 8 12 3 w h.lies hm (by constructor<;>decide) (by constructor<;>decide)
 rw[h.is,par,hl]at this
 exact this
theorem al_for {w:World}{A:Option Addr}{c:Nat}{L:List Dp}(h:Smp w A c L):Calls Tryz.prog 73 #[.slice A 8 c,.int .i64 8,.int .i64 20] w fun e w'=> ∃A' c',e=.returned (.slice A' 2 c')∧Hid (Ints w' w'.heap.size A' [11,12])∧Below w.heap.size w w':=by
 have hl:=h.len
 have hm:L.length≤1000000:=by omega
 have:=for_a A c L 8 20 w h.lies hm
 unfold EndN at this
 rw[h.is,frr,hl]at this
 refine this.mono ?_
 rintro e w' ⟨A',c',rfl,ho,b⟩
 obtain⟨A9,c9,e9,hs,_⟩:=own_seg layI ho
 cases e9
 exact⟨A',c',rfl,Lib.hid hs,b⟩
theorem al_beasts {w:World}{A:Option Addr}{c:Nat}{L:List Dp}(h:Smp w A c L):Calls Tryz.prog 66 #[.slice A 8 c,.int .i64 8,.int .i64 11] w fun e w'=>e=.returned (.int .i64 12)∧Below w.heap.size w w':=by
 have hl:=h.len
 have hm:L.length≤1000000:=by omega
 have:=beasts_a A c L 8 11 w h.lies hm
 rw[h.is,bea,hl]at this
 exact this
theorem al_append {w:World}{A:Option Addr}{c:Nat}{L:List Dp}(h:Smp w A c L)(A1 A2:Option Addr)(c1 c2:Nat)(hx:DS w w.heap.size A1 A2 Rt.d9)(h1:Rt.d9.into.length≤c1)(h2:Rt.d9.sizes.length≤c2):Calls Tryz.prog 33 #[.slice A 8 c,.agg (xcs Rt.d9 A1 A2 c1 c2)] w fun e w'=>e=.returned (.tuple #[.slice none 0 0,.int .i64 71])∧Below w.heap.size w w':=by
 have hl:=h.len
 have hm:L.length≤1000000:=by omega
 have:=append_a A c L Rt.d9 A1 A2 c1 c2 w h.lies hm hx h1 h2
 unfold EndA at this
 rw[h.is,app9]at this
 simp only[show ¬((71:Int)=0) by decide,if_false]at this
 rw[hl]at this
 exact this.mono fun e w' ⟨b,e1⟩=>⟨e1,b⟩
theorem al_read (w:World)(hE:Env w):Calls Tryz.prog 25 #[.string {data:= #[57,32,49,50,32,109,101,114,103,101,32,49,51,32,49,49,32,49,50]}] w fun e w'=> ∃A1 A2 c1 c2,e=.returned (.tuple #[.agg (xcs Rt.d9 A1 A2 c1 c2),.int .i64 0])∧Hid (DS w' w'.heap.size A1 A2 Rt.d9∧Rt.d9.into.length≤c1∧Rt.d9.sizes.length≤c2)∧Below w.heap.size w w':=by
 have:=read_a ⟨#[57,32,49,50,32,109,101,114,103,101,32,49,51,32,49,49,32,49,50]⟩ w hE (by decide)
 refine this.mono ?_
 rintro e w' ⟨y,E,A1,A2,c1,c2,hy,rfl,hd,h1,h2,b⟩
 have h9:Rt.read (⟨#[57,32,49,50,32,109,101,114,103,101,32,49,51,32,49,49,32,49,50]⟩:ByteArray).data.toList=(Rt.d9,0):=Rt.read9
 rw[h9]at hy
 cases hy
 exact⟨A1,A2,c1,c2,rfl,Lib.hid ⟨hd,h1,h2⟩,b⟩
theorem al_eq {l:List Int}{n:Nat}(hn:l.length=n)(hl:n≤1000)(A B:Option Addr)(c d:Nat)(w:World)(h1:Ints w w.heap.size A l)(h2:Ints w w.heap.size B l):Calls Tryz.prog 41 #[.slice A n c,.slice B n d] w fun e w'=>e=.returned (.bool true)∧Below w.heap.size w w':=by
 subst hn
 have:=eqI_a A B c d l l w h1 h2 (by omega) (by omega)
 rw[decide_eq_true rfl]at this
 exact this
theorem ints3 {w:World}{b:Nat}{n m k:Int}(h:w.heap[b]?=some (.cells #[.int .i64 n,.int .i64 m,.int .i64 k] 3 (0,0))):Ints w w.heap.size (some ⟨b,0,none⟩) [n,m,k]:=by
 refine .inr ⟨b,0,rfl,(Array.getElem?_eq_some_iff.1 h).1,fun i x hi j v hv=> ?_⟩
 cases j with
 |succ j=>simp[encInt]at hv
 |zero=>
  simp[encInt]at hv
  subst hv
  rw[(blk_cells h).1]
  match i,hi with
  |0,hi=>simp at hi;subst hi;rfl
  |1,hi=>simp at hi;subst hi;rfl
  |2,hi=>simp at hi;subst hi;rfl
attribute [local irreducible] loadVar storeVar
set_option maxRecDepth 100000 in
set_option maxHeartbeats 8000000 in
theorem alive_a (w:World)(hE:Env w):Calls Tryz.prog 22 #[] w fun e w'=>e=.returned (.bool true)∧Below w.heap.size w w':=by
 have HE:=Lib.hid hE
 have hsm:=sample_a w hE
 clear hE
 go_enter Tryz.func22,Tryz.ntmps22
 go_wp2_with fail
 refine hsm.mono ?_
 clear hsm
 rintro e w1 ⟨A,c,L,rfl,HS,b1⟩
 have hct:=al_falls HS.out
 go_wp2_with fail
 refine hct.mono ?_
 clear hct
 rintro e w2 ⟨Aa,ca,rfl,Ia,b2⟩
 replace b1:=b1.trans (b2.mono b1.size)
 replace HS:=Lib.hid (HS.out.up b2)
 clear b2
 have hct:=al_needs HS.out
 go_wp2_with fail
 refine hct.mono ?_
 clear hct
 rintro e w3 ⟨Ab,cb,rfl,Ib,b2⟩
 replace b1:=b1.trans (b2.mono b1.size)
 replace HS:=Lib.hid (HS.out.up b2)
 replace Ia:=Lib.hid (Ia.out.up b2)
 clear b2
 have hct:=al_line HS.out
 go_wp2_with fail
 refine hct.mono ?_
 clear hct
 rintro e w4 ⟨Ac,cc,rfl,Ic,b2⟩
 replace b1:=b1.trans (b2.mono b1.size)
 replace HS:=Lib.hid (HS.out.up b2)
 replace Ia:=Lib.hid (Ia.out.up b2)
 replace Ib:=Lib.hid (Ib.out.up b2)
 clear b2
 have hct:=al_roots HS.out
 go_wp2_with fail
 refine hct.mono ?_
 clear hct
 rintro e w5 ⟨Ad,cd,rfl,Id,b2⟩
 replace b1:=b1.trans (b2.mono b1.size)
 replace HS:=Lib.hid (HS.out.up b2)
 replace Ia:=Lib.hid (Ia.out.up b2)
 replace Ib:=Lib.hid (Ib.out.up b2)
 replace Ic:=Lib.hid (Ic.out.up b2)
 clear b2
 have hct:=al_read w5 (HE.out.up b1)
 go_wp2_with fail
 refine hct.mono ?_
 clear hct
 rintro e w6 ⟨A1,A2,c1,c2,rfl,HX,b2⟩
 replace b1:=b1.trans (b2.mono b1.size)
 replace HS:=Lib.hid (HS.out.up b2)
 replace Ia:=Lib.hid (Ia.out.up b2)
 replace Ib:=Lib.hid (Ib.out.up b2)
 replace Ic:=Lib.hid (Ic.out.up b2)
 replace Id:=Lib.hid (Id.out.up b2)
 clear b2
 obtain⟨wx,st,kx,gx⟩:=st_row (w6.alloc (.cells zcs 24)) w6.heap.size 24 24 zcs (xcs Rt.d9 A1 A2 c1 c2) (heap_alloc_new w6 _) info_deal rfl (by simp[Value.oneCell'])
 have lx:=ld_row kx Tryz.underlying24 rfl info_deal
 have b2:Below w6.heap.size w6 wx:=((Below.refl _ w6).alloc (Nat.le_refl _) _).grown gx (by simp) (by intro k e;cases e;exact Nat.le_refl _)
 clear kx gx
 replace HX:=Lib.hid (And.intro (HX.out.1.up b2) HX.out.2)
 replace b1:=b1.trans (b2.mono b1.size)
 replace HS:=Lib.hid (HS.out.up b2)
 replace Ia:=Lib.hid (Ia.out.up b2)
 replace Ib:=Lib.hid (Ib.out.up b2)
 replace Ic:=Lib.hid (Ic.out.up b2)
 replace Id:=Lib.hid (Id.out.up b2)
 clear b2
 have hct:=al_append HS.out A1 A2 c1 c2 HX.out.1 HX.out.2.1 HX.out.2.2
 go_wp2_with fail
 refine hct.mono ?_
 clear hct
 rintro e w7 ⟨rfl,b2⟩
 clear st lx HX
 replace b1:=b1.trans (b2.mono b1.size)
 replace HS:=Lib.hid (HS.out.up b2)
 replace Ia:=Lib.hid (Ia.out.up b2)
 replace Ib:=Lib.hid (Ib.out.up b2)
 replace Ic:=Lib.hid (Ic.out.up b2)
 replace Id:=Lib.hid (Id.out.up b2)
 clear b2
 have hct:=al_changed HS.out
 go_wp2_with fail
 refine hct.mono ?_
 clear hct
 rintro e w8 ⟨Ae,ce,rfl,Ie,b2⟩
 replace b1:=b1.trans (b2.mono b1.size)
 replace HS:=Lib.hid (HS.out.up b2)
 replace Ia:=Lib.hid (Ia.out.up b2)
 replace Ib:=Lib.hid (Ib.out.up b2)
 replace Ic:=Lib.hid (Ic.out.up b2)
 replace Id:=Lib.hid (Id.out.up b2)
 clear b2
 have b2:Below w8.heap.size w8 (w8.alloc (.cells #[.int .i64 4,.int .i64 8] 3)):=(Below.refl _ w8).alloc (Nat.le_refl _) _
 have hct:=al_eq (l:=[4,8]) rfl (by decide) Aa (some ⟨w8.heap.size,0,none⟩) ca 2 (w8.alloc (.cells #[.int .i64 4,.int .i64 8] 3)) (Ia.out.up b2) (ints2 (heap_alloc_new w8 (.cells #[.int .i64 4,.int .i64 8] 3)))
 replace b1:=b1.trans (b2.mono b1.size)
 replace HS:=Lib.hid (HS.out.up b2)
 replace Ia:=Lib.hid (Ia.out.up b2)
 replace Ib:=Lib.hid (Ib.out.up b2)
 replace Ic:=Lib.hid (Ic.out.up b2)
 replace Id:=Lib.hid (Id.out.up b2)
 replace Ie:=Lib.hid (Ie.out.up b2)
 clear b2
 go_wp2_with fail
 refine hct.mono ?_
 clear hct
 rintro e w9 ⟨rfl,b2⟩
 replace b1:=b1.trans (b2.mono b1.size)
 replace HS:=Lib.hid (HS.out.up b2)
 replace Ia:=Lib.hid (Ia.out.up b2)
 replace Ib:=Lib.hid (Ib.out.up b2)
 replace Ic:=Lib.hid (Ic.out.up b2)
 replace Id:=Lib.hid (Id.out.up b2)
 replace Ie:=Lib.hid (Ie.out.up b2)
 clear b2
 have b2:Below w9.heap.size w9 (w9.alloc (.cells #[.int .i64 1,.int .i64 3,.int .i64 6] 3)):=(Below.refl _ w9).alloc (Nat.le_refl _) _
 have hct:=al_eq (l:=[1,3,6]) rfl (by decide) Ab (some ⟨w9.heap.size,0,none⟩) cb 3 (w9.alloc (.cells #[.int .i64 1,.int .i64 3,.int .i64 6] 3)) (Ib.out.up b2) (ints3 (heap_alloc_new w9 (.cells #[.int .i64 1,.int .i64 3,.int .i64 6] 3)))
 replace b1:=b1.trans (b2.mono b1.size)
 replace HS:=Lib.hid (HS.out.up b2)
 replace Ia:=Lib.hid (Ia.out.up b2)
 replace Ib:=Lib.hid (Ib.out.up b2)
 replace Ic:=Lib.hid (Ic.out.up b2)
 replace Id:=Lib.hid (Id.out.up b2)
 replace Ie:=Lib.hid (Ie.out.up b2)
 clear b2
 go_wp2_with fail
 refine hct.mono ?_
 clear hct
 rintro e w10 ⟨rfl,b2⟩
 replace b1:=b1.trans (b2.mono b1.size)
 replace HS:=Lib.hid (HS.out.up b2)
 replace Ia:=Lib.hid (Ia.out.up b2)
 replace Ib:=Lib.hid (Ib.out.up b2)
 replace Ic:=Lib.hid (Ic.out.up b2)
 replace Id:=Lib.hid (Id.out.up b2)
 replace Ie:=Lib.hid (Ie.out.up b2)
 clear b2
 have b2:Below w10.heap.size w10 (w10.alloc (.cells #[.int .i64 1,.int .i64 6] 3)):=(Below.refl _ w10).alloc (Nat.le_refl _) _
 have hct:=al_eq (l:=[1,6]) rfl (by decide) Ac (some ⟨w10.heap.size,0,none⟩) cc 2 (w10.alloc (.cells #[.int .i64 1,.int .i64 6] 3)) (Ic.out.up b2) (ints2 (heap_alloc_new w10 (.cells #[.int .i64 1,.int .i64 6] 3)))
 replace b1:=b1.trans (b2.mono b1.size)
 replace HS:=Lib.hid (HS.out.up b2)
 replace Ia:=Lib.hid (Ia.out.up b2)
 replace Ib:=Lib.hid (Ib.out.up b2)
 replace Ic:=Lib.hid (Ic.out.up b2)
 replace Id:=Lib.hid (Id.out.up b2)
 replace Ie:=Lib.hid (Ie.out.up b2)
 clear b2
 go_wp2_with fail
 refine hct.mono ?_
 clear hct
 rintro e w11 ⟨rfl,b2⟩
 replace b1:=b1.trans (b2.mono b1.size)
 replace HS:=Lib.hid (HS.out.up b2)
 replace Ia:=Lib.hid (Ia.out.up b2)
 replace Ib:=Lib.hid (Ib.out.up b2)
 replace Ic:=Lib.hid (Ic.out.up b2)
 replace Id:=Lib.hid (Id.out.up b2)
 replace Ie:=Lib.hid (Ie.out.up b2)
 clear b2
 have b2:Below w11.heap.size w11 (w11.alloc (.cells #[.int .i64 10] 3)):=(Below.refl _ w11).alloc (Nat.le_refl _) _
 have hct:=al_eq (l:=[10]) rfl (by decide) Ad (some ⟨w11.heap.size,0,none⟩) cd 1 (w11.alloc (.cells #[.int .i64 10] 3)) (Id.out.up b2) (ints1 (heap_alloc_new w11 (.cells #[.int .i64 10] 3)))
 replace b1:=b1.trans (b2.mono b1.size)
 replace HS:=Lib.hid (HS.out.up b2)
 replace Ia:=Lib.hid (Ia.out.up b2)
 replace Ib:=Lib.hid (Ib.out.up b2)
 replace Ic:=Lib.hid (Ic.out.up b2)
 replace Id:=Lib.hid (Id.out.up b2)
 replace Ie:=Lib.hid (Ie.out.up b2)
 clear b2
 go_wp2_with fail
 refine hct.mono ?_
 clear hct
 rintro e w12 ⟨rfl,b2⟩
 replace b1:=b1.trans (b2.mono b1.size)
 replace HS:=Lib.hid (HS.out.up b2)
 replace Ia:=Lib.hid (Ia.out.up b2)
 replace Ib:=Lib.hid (Ib.out.up b2)
 replace Ic:=Lib.hid (Ic.out.up b2)
 replace Id:=Lib.hid (Id.out.up b2)
 replace Ie:=Lib.hid (Ie.out.up b2)
 clear b2
 have b2:Below w12.heap.size w12 (w12.alloc (.cells #[.int .i64 11] 3)):=(Below.refl _ w12).alloc (Nat.le_refl _) _
 have hct:=al_eq (l:=[11]) rfl (by decide) Ae (some ⟨w12.heap.size,0,none⟩) ce 1 (w12.alloc (.cells #[.int .i64 11] 3)) (Ie.out.up b2) (ints1 (heap_alloc_new w12 (.cells #[.int .i64 11] 3)))
 replace b1:=b1.trans (b2.mono b1.size)
 replace HS:=Lib.hid (HS.out.up b2)
 replace Ia:=Lib.hid (Ia.out.up b2)
 replace Ib:=Lib.hid (Ib.out.up b2)
 replace Ic:=Lib.hid (Ic.out.up b2)
 replace Id:=Lib.hid (Id.out.up b2)
 replace Ie:=Lib.hid (Ie.out.up b2)
 clear b2
 go_wp2_with fail
 refine hct.mono ?_
 clear hct
 rintro e w13 ⟨rfl,b2⟩
 replace b1:=b1.trans (b2.mono b1.size)
 replace HS:=Lib.hid (HS.out.up b2)
 replace Ia:=Lib.hid (Ia.out.up b2)
 replace Ib:=Lib.hid (Ib.out.up b2)
 replace Ic:=Lib.hid (Ic.out.up b2)
 replace Id:=Lib.hid (Id.out.up b2)
 replace Ie:=Lib.hid (Ie.out.up b2)
 clear b2
 clear Ia Ib Ic Id Ie
 have hct:=al_total HS.out
 go_wp2_with fail
 refine hct.mono ?_
 clear hct
 rintro e w14 ⟨rfl,b2⟩
 replace b1:=b1.trans (b2.mono b1.size)
 replace HS:=Lib.hid (HS.out.up b2)
 clear b2
 have hct:=al_parts HS.out
 go_wp2_with fail
 refine hct.mono ?_
 clear hct
 rintro e w15 ⟨rfl,b2⟩
 replace b1:=b1.trans (b2.mono b1.size)
 replace HS:=Lib.hid (HS.out.up b2)
 clear b2
 have hct:=al_for HS.out
 go_wp2_with fail
 refine hct.mono ?_
 clear hct
 rintro e w16 ⟨Af,cf,rfl,If,b2⟩
 replace b1:=b1.trans (b2.mono b1.size)
 replace HS:=Lib.hid (HS.out.up b2)
 clear b2
 have b2:Below w16.heap.size w16 (w16.alloc (.cells #[.int .i64 11,.int .i64 12] 3)):=(Below.refl _ w16).alloc (Nat.le_refl _) _
 have hct:=al_eq (l:=[11,12]) rfl (by decide) Af (some ⟨w16.heap.size,0,none⟩) cf 2 (w16.alloc (.cells #[.int .i64 11,.int .i64 12] 3)) (If.out.up b2) (ints2 (heap_alloc_new w16 (.cells #[.int .i64 11,.int .i64 12] 3)))
 replace b1:=b1.trans (b2.mono b1.size)
 replace HS:=Lib.hid (HS.out.up b2)
 replace If:=Lib.hid (If.out.up b2)
 clear b2
 go_wp2_with fail
 refine hct.mono ?_
 clear hct
 rintro e w17 ⟨rfl,b2⟩
 replace b1:=b1.trans (b2.mono b1.size)
 replace HS:=Lib.hid (HS.out.up b2)
 replace If:=Lib.hid (If.out.up b2)
 clear b2
 have hct:=al_beasts HS.out
 go_wp2_with fail
 refine hct.mono ?_
 clear hct
 rintro e w18 ⟨rfl,b2⟩
 replace b1:=b1.trans (b2.mono b1.size)
 replace HS:=Lib.hid (HS.out.up b2)
 replace If:=Lib.hid (If.out.up b2)
 clear b2
 go_wp2
 go_ret
 exact⟨rfl,b1⟩
end Go.Proofs.YtcffonnijhhhiaaGreatDoor
namespace Go.Proofs.Rt
def few (l:List Deal)(most:Int):Bool:=decide ((l.length:Int)≤most)&&l.all fun x=>decide (x.into.length≤12)&&decide (x.sizes.length≤12)
end Go.Proofs.Rt
namespace Go.Proofs.YtcffonnijhhhiaaGreatDoor
open Go Go.RowKit Go.Maps Mp
attribute [-simp] Prod.forall Prod.exists
attribute [-go_sem] loadVar storeVar Builtin.append_
attribute [local go_sem] lk_int lk_u8 lk_ints
structure Dlo (w:World)(B:Nat)(A:Option Addr)(L:List Dp):Prop where
 seg:Seg encD 11 w B A L
 each: ∀p∈L,Ints w B p.A1 p.x.into∧Ints w B p.A2 p.x.sizes∧p.x.into.length≤p.c1∧p.x.sizes.length≤p.c2
theorem Dlo.few {w:World}{B:Nat}{A:Option Addr}{L:List Dp}(h:Dlo w B A L){most:Int}(hf:Rt.few (dls L) most=true):Dls w B A L∧(L.length:Int)≤most:=by
 unfold Rt.few at hf
 simp only[Bool.and_eq_true,decide_eq_true_eq,List.all_eq_true,List.length_map]at hf
 refine⟨⟨h.seg,fun p hp=> ?_⟩,hf.1⟩
 obtain⟨h1,h2,h3,h4⟩:=h.each p hp
 have h5:=hf.2 p.x (List.mem_map.2 ⟨p,hp,rfl⟩)
 exact⟨⟨h1,h2,by omega,by omega⟩,h3,h4⟩
set_option maxRecDepth 100000 in
set_option maxHeartbeats 2000000 in
theorem few_a (A:Option Addr)(c:Nat)(L:List Dp)(most:Int)(w:World)(h:Seg encD 11 w w.heap.size A L)(hm:L.length≤maxLen)(h0:0≤most∧most≤1000000):Calls Tryz.prog 30 #[.slice A L.length c,.int .i64 most] w fun e w'=>e=.returned (.bool (Rt.few (dls L) most))∧w'=w:=by
 obtain⟨b,hb⟩: ∃b,Rt.few (dls L) most=b:=⟨_,rfl⟩
 rw[hb]
 by_cases hl:(L.length:Int)≤most
 case neg=>
  have hbf:b=false:=by
   rw[←hb]
   unfold Rt.few
   rw[decide_eq_false (by simpa using hl)]
   rfl
  subst hbf
  have hl2:most<(L.length:Int):=by omega
  clear hb h
  go_enter Tryz.func30,Tryz.ntmps30
  go_wp2
  go_ret
  exact⟨rfl,rfl⟩
 have HB:Hid (b=(dls L).all fun x=>decide (x.into.length≤12)&&decide (x.sizes.length≤12)):=Lib.hid (by
  rw[←hb]
  unfold Rt.few
  rw[decide_eq_true (by simpa using hl)]
  rfl)
 have HH:=Lib.hid h
 obtain⟨n,hn⟩: ∃n,L.length=n:=⟨_,rfl⟩
 have hn1:n≤1000000:=by omega
 have hl2: ¬most<(n:Int):=by omega
 have HN:=Lib.hid hn
 rw[hn]
 clear h hb hn hl hm
 go_enter Tryz.func30,Tryz.ntmps30
 go_wp2
 go_loopw [5] (fun v wr=> ∃j:Nat,j≤n∧v=.int .i64 (j:Int)∧Hid (∀i,i<j→ ∀p,L[i]?=some p→p.x.into.length≤12∧p.x.sizes.length≤12)∧wr=w) (fun v _=>n-(intOf v).toNat)
 case atStart=>exact⟨0,by omega,rfl,Lib.hid (fun i h=>by omega),rfl⟩
 case round=>
  obtain⟨j,hj,rfl,HI,rfl⟩:=hrel
  by_cases hlt:j<n
  ·have hlL:j<L.length:=by rw[HN.out];exact hlt
   obtain⟨bi,oi,ei,hbi,hc⟩:=Seg.at_ HH.out hlL
   have q1:=hc 9 _ rfl
   have q2:=hc 10 _ rfl
   have hnx:L[j].x.into.length≤12→L[j].x.sizes.length≤12→Hid (∀i,i<j+1→ ∀p,L[i]?=some p→p.x.into.length≤12∧p.x.sizes.length≤12):=fun g1 g2=>Lib.hid fun i hi p hp=>by
    by_cases e:i=j
    ·subst e
     rw[List.getElem?_eq_getElem hlL]at hp
     cases hp
     exact⟨g1,g2⟩
    ·exact HI.out i (by omega) p hp
   have hbad: ¬(L[j].x.into.length≤12∧L[j].x.sizes.length≤12)→Hid (b=false):=fun hno=>Lib.hid (by
    rw[HB.out]
    refine Bool.eq_false_iff.2 fun hall=>hno ?_
    have:=List.all_eq_true.1 hall L[j].x (List.mem_map.2 ⟨L[j],List.getElem_mem hlL,rfl⟩)
    simpa using this)
   have HNX:=Lib.hid hnx
   have HBD:=Lib.hid hbad
   obtain⟨p,hp⟩: ∃p,L[j]=p:=⟨_,rfl⟩
   rw[hp]at q1 q2 HNX HBD
   obtain⟨n1,hn1'⟩: ∃n1,p.x.into.length=n1:=⟨_,rfl⟩
   obtain⟨n2,hn2'⟩: ∃n2,p.x.sizes.length=n2:=⟨_,rfl⟩
   rw[hn1']at q1 HNX HBD
   rw[hn2']at q2 HNX HBD
   clear hc hnx hbad hp hn1' hn2'
   subst ei
   by_cases g1:n1≤12
   ·have g1i: ¬(12:Int)<(n1:Int):=by omega
    by_cases g2:n2≤12
    ·have g2i: ¬(12:Int)<(n2:Int):=by omega
     have HJ:=HNX.out g1 g2
     go_wp2
     go_roundw
     case rel=>exact⟨j+1,by omega,by go_num,HJ,trivial⟩
     case measure=>first|(simp[intOf];done)|(simp[intOf];omega)
    ·have g2i:(12:Int)<(n2:Int):=by omega
     have HJ:=HBD.out (fun h=>g2 h.2)
     go_wp2
     go_ret
     exact⟨congrArg (fun b=>Ending.returned (.bool b)) HJ.out.symm,rfl⟩
   ·have g1i:(12:Int)<(n1:Int):=by omega
    have HJ:=HBD.out (fun h=>g1 h.1)
    go_wp2
    go_ret
    exact⟨congrArg (fun b=>Ending.returned (.bool b)) HJ.out.symm,rfl⟩
  ·obtain rfl:n=j:=by omega
   have HJ:Hid (b=true):=Lib.hid (by
    rw[HB.out]
    refine List.all_eq_true.2 fun x hx=> ?_
    obtain⟨p,hp,rfl⟩:=List.mem_map.1 hx
    obtain⟨i,hi⟩:=List.getElem?_of_mem hp
    have hlt2:=(List.getElem?_eq_some_iff.1 hi).1
    have:=HI.out i (by rw[HN.out]at hlt2;exact hlt2) p hi
    simpa using this)
   go_wp2
   go_ret
   exact⟨congrArg (fun b=>Ending.returned (.bool b)) HJ.out.symm,rfl⟩
end Go.Proofs.YtcffonnijhhhiaaGreatDoor
