/- Part U00 of the proof: Sl So Rg Pa Pb. -/
import Derived.Shelf.Sort.Plain
import Derived.Shelf.Slices.CompactI
import Derived.Shelf.Slices.In.SortNone
import Derived.Shelf.Slices.Cells
import Derived.Ground.NamesProg
import Derived.Ground.Names2Prog
import Derived.Test.YtcffonnijhhhiaaGreatDoorProg
import Derived.Shelf.SlSortCmp.Whole1
import Derived.Shelf.SlSortCmp.WholeK
import Derived.Shelf.SlSortCmp.NoneTotal
import Derived.Shelf.SlGeneric
import Derived.Ground.SlsfProg
import Derived.RangeFuncNested
import Derived.RangeFuncBound
import Derived.RangeFuncCalls
import Derived.RangeFuncLeaves
set_option linter.all false
set_option linter.unusedSimpArgs false
set_option linter.unusedVariables false
set_option linter.unusedSectionVars false
namespace Go.Proofs
open Go.Shelf
def Tryz.lays189_ren :Go.Shelf.Ren:=⟨fun|189=>134|125=>191|257=>190|128=>238|129=>239|294=>229|295=>230|296=>231|297=>232|298=>233|299=>234|216=>235|300=>236|301=>237|328=>271|329=>272|330=>273|331=>274|332=>275|215=>187|343=>307|n=>n,fun|28=>22|3=>3|46=>208|0=>0|51=>254|53=>256|4=>4|183=>247|182=>246|131=>168|5=>5|9=>9|218=>279|222=>283|228=>310|229=>311|n=>n,fun|n=>n⟩
theorem Tryz.lays189 :Go.Proofs.Lays.n189 Tryz.prog Tryz.lays189_ren:= {
 mixed:=by kernel_rfl
 f125:=Tryz.func191.trans (congrArg some (by kernel_rfl))
 f128:=Tryz.func238.trans (congrArg some (by kernel_rfl))
 f129:=Tryz.func239.trans (congrArg some (by kernel_rfl))
 f189:=Tryz.func134.trans (congrArg some (by kernel_rfl))
 f215:=Tryz.func187.trans (congrArg some (by kernel_rfl))
 f216:=Tryz.func235.trans (congrArg some (by kernel_rfl))
 f257:=Tryz.func190.trans (congrArg some (by kernel_rfl))
 f294:=Tryz.func229.trans (congrArg some (by kernel_rfl))
 f295:=Tryz.func230.trans (congrArg some (by kernel_rfl))
 f296:=Tryz.func231.trans (congrArg some (by kernel_rfl))
 f297:=Tryz.func232.trans (congrArg some (by kernel_rfl))
 f298:=Tryz.func233.trans (congrArg some (by kernel_rfl))
 f299:=Tryz.func234.trans (congrArg some (by kernel_rfl))
 f300:=Tryz.func236.trans (congrArg some (by kernel_rfl))
 f301:=Tryz.func237.trans (congrArg some (by kernel_rfl))
 f328:=Tryz.func271.trans (congrArg some (by kernel_rfl))
 f329:=Tryz.func272.trans (congrArg some (by kernel_rfl))
 f330:=Tryz.func273.trans (congrArg some (by kernel_rfl))
 f331:=Tryz.func274.trans (congrArg some (by kernel_rfl))
 f332:=Tryz.func275.trans (congrArg some (by kernel_rfl))
 f343:=Tryz.func307.trans (congrArg some (by kernel_rfl))
 t0:=Tryz.underlying0
 a0:=Tryz.isAgg0
 z0:=Tryz.sizeOf0
 v0:=Tryz.zeroValue0
 t3:=Tryz.underlying3
 a3:=Tryz.isAgg3
 z3:=Tryz.sizeOf3
 v3:=Tryz.zeroValue3
 t4:=Tryz.underlying4
 a4:=Tryz.isAgg4
 z4:=Tryz.sizeOf4
 v4:=Tryz.zeroValue4
 t5:=Tryz.underlying5
 a5:=Tryz.isAgg5
 z5:=Tryz.sizeOf5
 v5:=Tryz.zeroValue5
 t9:=Tryz.underlying9
 a9:=Tryz.isAgg9
 z9:=Tryz.sizeOf9
 v9:=Tryz.zeroValue9
 t28:=Tryz.underlying22
 a28:=Tryz.isAgg22
 z28:=Tryz.sizeOf22
 v28:=Tryz.zeroValue22
 t46:=Tryz.underlying208
 a46:=Tryz.isAgg208
 z46:=Tryz.sizeOf208
 v46:=Tryz.zeroValue208
 t51:=Tryz.underlying254
 a51:=Tryz.isAgg254
 z51:=Tryz.sizeOf254
 v51:=Tryz.zeroValue254
 t53:=Tryz.underlying256
 a53:=Tryz.isAgg256
 z53:=Tryz.sizeOf256
 v53:=Tryz.zeroValue256
 t131:=Tryz.underlying168
 a131:=Tryz.isAgg168
 z131:=Tryz.sizeOf168
 v131:=Tryz.zeroValue168
 t182:=Tryz.underlying246
 a182:=Tryz.isAgg246
 z182:=Tryz.sizeOf246
 v182:=Tryz.zeroValue246
 t183:=Tryz.underlying247
 a183:=Tryz.isAgg247
 z183:=Tryz.sizeOf247
 v183:=Tryz.zeroValue247
 t218:=Tryz.underlying279
 a218:=Tryz.isAgg279
 z218:=Tryz.sizeOf279
 v218:=Tryz.zeroValue279
 t222:=Tryz.underlying283
 a222:=Tryz.isAgg283
 z222:=Tryz.sizeOf283
 v222:=Tryz.zeroValue283
 t228:=Tryz.underlying310
 a228:=Tryz.isAgg310
 z228:=Tryz.sizeOf310
 v228:=Tryz.zeroValue310
 t229:=Tryz.underlying311
 a229:=Tryz.isAgg311
 z229:=Tryz.sizeOf311
 v229:=Tryz.zeroValue311}
open Go.Sort Go.RowKit in
theorem Tryz.slices_Sort_int (blk off cap:Nat)(zs:List Int)(w:World)(hH:Holds (Value.int .i64) w blk off zs.toArray)(hblk:blk<w.heap.size)(hsz:zs.length<4611686018427387904):
  Calls Tryz.prog 134 #[.slice (some ⟨blk,off,none⟩) zs.length cap] w fun e w'=>
   e=.returned (.tuple #[])∧ ∃n os,w'=grow (putRow (Value.int .i64) (Sort.ahead w n) blk off (zs.mergeSort fun x y=>decide (x≤y)).toArray) os:=Any.slices_Sort_int Tryz.lays189 blk off cap zs w hH hblk hsz
def Tryz.laysNm220_ren :Go.Shelf.Ren:=⟨fun|20=>136|n=>n,fun|22=>22|3=>3|4=>4|0=>0|n=>n,fun|n=>n⟩
theorem Tryz.laysNm220 :Go.Proofs.Lays2.n20 Tryz.prog Tryz.laysNm220_ren:= {
 mixed:=by kernel_rfl
 f20:=Tryz.func136.trans (congrArg some (by kernel_rfl))
 t0:=Tryz.underlying0
 a0:=Tryz.isAgg0
 z0:=Tryz.sizeOf0
 v0:=Tryz.zeroValue0
 t3:=Tryz.underlying3
 a3:=Tryz.isAgg3
 z3:=Tryz.sizeOf3
 v3:=Tryz.zeroValue3
 t4:=Tryz.underlying4
 a4:=Tryz.isAgg4
 z4:=Tryz.sizeOf4
 v4:=Tryz.zeroValue4
 t22:=Tryz.underlying22
 a22:=Tryz.isAgg22
 z22:=Tryz.sizeOf22
 v22:=Tryz.zeroValue22
 i3:=by kernel_rfl}
open Go.RowKit Go.Lib Go.Sort in
theorem Tryz.slices_Compact_int (blk off cap:Nat)(zs:List Int)(w:World)(hH:Holds (Value.int .i64) w blk off zs.toArray)(hsz:zs.length≤9223372036854775807)(hcap:zs.length≤cap):
  Calls Tryz.prog 136 #[.slice (some ⟨blk,off,none⟩) zs.length cap] w fun e w'=>e=.returned (.slice (some ⟨blk,off,none⟩) (Lib.compact zs).length cap)∧ ∃q,w'=putRow (Value.int .i64) (Sort.ahead w q) blk off (Lib.compact zs++List.replicate (zs.length-(Lib.compact zs).length) 0).toArray:=Any.slices_Compact_int Tryz.laysNm220 blk off cap zs w hH hsz hcap
open Go.RowKit Go.Lib Go.Sort in
theorem Tryz.slices_Compact_int_empty (a:Option Addr)(cap:Nat)(w:World):
  Calls Tryz.prog 136 #[.slice a 0 cap] w fun e w'=>e=.returned (.slice a 0 cap)∧w'=w:=Any.slices_Compact_int_empty Tryz.laysNm220 a cap w
open Go.RowKit Go.Sort in
theorem Tryz.slices_Sort_int_none (p:Option Addr)(cap:Nat)(w:World):
  Calls Tryz.prog 134 #[.slice p 0 cap] w fun e w'=>e=.returned (.tuple #[])∧w'=w:=Any.slices_Sort_int_none Tryz.lays189 p cap w
end Go.Proofs
namespace Go.Proofs
open Go.Shelf
def Tryz.sortI_ren :Go.Shelf.Ren:=⟨fun|6=>226|15=>191|14=>269|28=>238|29=>239|20=>299|21=>300|22=>301|23=>302|24=>303|25=>304|26=>305|27=>306|46=>328|47=>272|48=>273|49=>329|50=>330|57=>334|n=>n,fun|22=>22|24=>3|25=>148|3=>3|39=>208|0=>0|53=>254|55=>256|4=>4|46=>247|45=>246|50=>168|5=>5|9=>9|66=>279|70=>283|76=>310|77=>311|n=>n,fun|n=>n⟩
theorem Tryz.sortI :Go.Proofs.SlLaysF.n6 Tryz.prog Tryz.sortI_ren:= {
 mixed:=by kernel_rfl
 f6:=⟨Tryz.f226.name,by decide,Tryz.func226.trans (congrArg some (by kernel_rfl))⟩
 f14:=⟨Tryz.f269.name,by decide,Tryz.func269.trans (congrArg some (by kernel_rfl))⟩
 f15:=Tryz.func191.trans (congrArg some (by kernel_rfl))
 f20:=⟨Tryz.f299.name,by decide,Tryz.func299.trans (congrArg some (by kernel_rfl))⟩
 f21:=⟨Tryz.f300.name,by decide,Tryz.func300.trans (congrArg some (by kernel_rfl))⟩
 f22:=⟨Tryz.f301.name,by decide,Tryz.func301.trans (congrArg some (by kernel_rfl))⟩
 f23:=⟨Tryz.f302.name,by decide,Tryz.func302.trans (congrArg some (by kernel_rfl))⟩
 f24:=⟨Tryz.f303.name,by decide,Tryz.func303.trans (congrArg some (by kernel_rfl))⟩
 f25:=⟨Tryz.f304.name,by decide,Tryz.func304.trans (congrArg some (by kernel_rfl))⟩
 f26:=⟨Tryz.f305.name,by decide,Tryz.func305.trans (congrArg some (by kernel_rfl))⟩
 f27:=⟨Tryz.f306.name,by decide,Tryz.func306.trans (congrArg some (by kernel_rfl))⟩
 f28:=Tryz.func238.trans (congrArg some (by kernel_rfl))
 f29:=Tryz.func239.trans (congrArg some (by kernel_rfl))
 f46:=⟨Tryz.f328.name,by decide,Tryz.func328.trans (congrArg some (by kernel_rfl))⟩
 f47:=Tryz.func272.trans (congrArg some (by kernel_rfl))
 f48:=Tryz.func273.trans (congrArg some (by kernel_rfl))
 f49:=⟨Tryz.f329.name,by decide,Tryz.func329.trans (congrArg some (by kernel_rfl))⟩
 f50:=⟨Tryz.f330.name,by decide,Tryz.func330.trans (congrArg some (by kernel_rfl))⟩
 f57:=⟨Tryz.f334.name,by decide,Tryz.func334.trans (congrArg some (by kernel_rfl))⟩
 t0:=Tryz.underlying0
 a0:=Tryz.isAgg0
 z0:=Tryz.sizeOf0
 v0:=Tryz.zeroValue0
 t3:=Tryz.underlying3
 a3:=Tryz.isAgg3
 z3:=Tryz.sizeOf3
 v3:=Tryz.zeroValue3
 t4:=Tryz.underlying4
 a4:=Tryz.isAgg4
 z4:=Tryz.sizeOf4
 v4:=Tryz.zeroValue4
 t5:=Tryz.underlying5
 a5:=Tryz.isAgg5
 z5:=Tryz.sizeOf5
 v5:=Tryz.zeroValue5
 t9:=Tryz.underlying9
 a9:=Tryz.isAgg9
 z9:=Tryz.sizeOf9
 v9:=Tryz.zeroValue9
 t22:=Tryz.underlying22
 a22:=Tryz.isAgg22
 z22:=Tryz.sizeOf22
 v22:=Tryz.zeroValue22
 a24:=Tryz.isAgg3
 z24:=Tryz.sizeOf3
 t25:=Tryz.underlying148
 a25:=Tryz.isAgg148
 z25:=Tryz.sizeOf148
 v25:=Tryz.zeroValue148
 t39:=Tryz.underlying208
 a39:=Tryz.isAgg208
 z39:=Tryz.sizeOf208
 v39:=Tryz.zeroValue208
 t45:=Tryz.underlying246
 a45:=Tryz.isAgg246
 z45:=Tryz.sizeOf246
 v45:=Tryz.zeroValue246
 t46:=Tryz.underlying247
 a46:=Tryz.isAgg247
 z46:=Tryz.sizeOf247
 v46:=Tryz.zeroValue247
 t50:=Tryz.underlying168
 a50:=Tryz.isAgg168
 z50:=Tryz.sizeOf168
 v50:=Tryz.zeroValue168
 t53:=Tryz.underlying254
 a53:=Tryz.isAgg254
 z53:=Tryz.sizeOf254
 v53:=Tryz.zeroValue254
 t55:=Tryz.underlying256
 a55:=Tryz.isAgg256
 z55:=Tryz.sizeOf256
 v55:=Tryz.zeroValue256
 t66:=Tryz.underlying279
 a66:=Tryz.isAgg279
 z66:=Tryz.sizeOf279
 v66:=Tryz.zeroValue279
 t70:=Tryz.underlying283
 a70:=Tryz.isAgg283
 z70:=Tryz.sizeOf283
 v70:=Tryz.zeroValue283
 t76:=Tryz.underlying310
 a76:=Tryz.isAgg310
 z76:=Tryz.sizeOf310
 v76:=Tryz.zeroValue310
 t77:=Tryz.underlying311
 a77:=Tryz.isAgg311
 z77:=Tryz.sizeOf311
 v77:=Tryz.zeroValue311}
def Tryz.sortP_ren :Go.Shelf.Ren:=⟨fun|6=>266|15=>191|14=>298|28=>238|29=>239|20=>320|21=>321|22=>322|23=>323|24=>324|25=>325|26=>326|27=>327|46=>331|47=>272|48=>273|49=>332|50=>333|57=>335|n=>n,fun|22=>196|24=>163|25=>198|3=>3|39=>208|0=>0|53=>254|55=>256|4=>4|46=>247|45=>246|50=>168|5=>5|9=>9|66=>279|70=>283|76=>310|77=>311|n=>n,fun|n=>n⟩
theorem Tryz.sortP :Go.Proofs.SlLaysF0.n6 Tryz.prog Tryz.sortP_ren:= {
 mixed:=by kernel_rfl
 f6:=⟨Tryz.f266.name,by decide,Tryz.func266.trans (congrArg some (by kernel_rfl))⟩
 f14:=⟨Tryz.f298.name,by decide,Tryz.func298.trans (congrArg some (by kernel_rfl))⟩
 f15:=Tryz.func191.trans (congrArg some (by kernel_rfl))
 f20:=⟨Tryz.f320.name,by decide,Tryz.func320.trans (congrArg some (by kernel_rfl))⟩
 f21:=⟨Tryz.f321.name,by decide,Tryz.func321.trans (congrArg some (by kernel_rfl))⟩
 f22:=⟨Tryz.f322.name,by decide,Tryz.func322.trans (congrArg some (by kernel_rfl))⟩
 f23:=⟨Tryz.f323.name,by decide,Tryz.func323.trans (congrArg some (by kernel_rfl))⟩
 f24:=⟨Tryz.f324.name,by decide,Tryz.func324.trans (congrArg some (by kernel_rfl))⟩
 f25:=⟨Tryz.f325.name,by decide,Tryz.func325.trans (congrArg some (by kernel_rfl))⟩
 f26:=⟨Tryz.f326.name,by decide,Tryz.func326.trans (congrArg some (by kernel_rfl))⟩
 f27:=⟨Tryz.f327.name,by decide,Tryz.func327.trans (congrArg some (by kernel_rfl))⟩
 f28:=Tryz.func238.trans (congrArg some (by kernel_rfl))
 f29:=Tryz.func239.trans (congrArg some (by kernel_rfl))
 f46:=⟨Tryz.f331.name,by decide,Tryz.func331.trans (congrArg some (by kernel_rfl))⟩
 f47:=Tryz.func272.trans (congrArg some (by kernel_rfl))
 f48:=Tryz.func273.trans (congrArg some (by kernel_rfl))
 f49:=⟨Tryz.f332.name,by decide,Tryz.func332.trans (congrArg some (by kernel_rfl))⟩
 f50:=⟨Tryz.f333.name,by decide,Tryz.func333.trans (congrArg some (by kernel_rfl))⟩
 f57:=⟨Tryz.f335.name,by decide,Tryz.func335.trans (congrArg some (by kernel_rfl))⟩
 t0:=Tryz.underlying0
 a0:=Tryz.isAgg0
 z0:=Tryz.sizeOf0
 v0:=Tryz.zeroValue0
 t3:=Tryz.underlying3
 a3:=Tryz.isAgg3
 z3:=Tryz.sizeOf3
 v3:=Tryz.zeroValue3
 t4:=Tryz.underlying4
 a4:=Tryz.isAgg4
 z4:=Tryz.sizeOf4
 v4:=Tryz.zeroValue4
 t5:=Tryz.underlying5
 a5:=Tryz.isAgg5
 z5:=Tryz.sizeOf5
 v5:=Tryz.zeroValue5
 t9:=Tryz.underlying9
 a9:=Tryz.isAgg9
 z9:=Tryz.sizeOf9
 v9:=Tryz.zeroValue9
 t22:=Tryz.underlying196
 a22:=Tryz.isAgg196
 z22:=Tryz.sizeOf196
 v22:=Tryz.zeroValue196
 t25:=Tryz.underlying198
 a25:=Tryz.isAgg198
 z25:=Tryz.sizeOf198
 v25:=Tryz.zeroValue198
 t39:=Tryz.underlying208
 a39:=Tryz.isAgg208
 z39:=Tryz.sizeOf208
 v39:=Tryz.zeroValue208
 t45:=Tryz.underlying246
 a45:=Tryz.isAgg246
 z45:=Tryz.sizeOf246
 v45:=Tryz.zeroValue246
 t46:=Tryz.underlying247
 a46:=Tryz.isAgg247
 z46:=Tryz.sizeOf247
 v46:=Tryz.zeroValue247
 t50:=Tryz.underlying168
 a50:=Tryz.isAgg168
 z50:=Tryz.sizeOf168
 v50:=Tryz.zeroValue168
 t53:=Tryz.underlying254
 a53:=Tryz.isAgg254
 z53:=Tryz.sizeOf254
 v53:=Tryz.zeroValue254
 t55:=Tryz.underlying256
 a55:=Tryz.isAgg256
 z55:=Tryz.sizeOf256
 v55:=Tryz.zeroValue256
 t66:=Tryz.underlying279
 a66:=Tryz.isAgg279
 z66:=Tryz.sizeOf279
 v66:=Tryz.zeroValue279
 t70:=Tryz.underlying283
 a70:=Tryz.isAgg283
 z70:=Tryz.sizeOf283
 v70:=Tryz.zeroValue283
 t76:=Tryz.underlying310
 a76:=Tryz.isAgg310
 z76:=Tryz.sizeOf310
 v76:=Tryz.zeroValue310
 t77:=Tryz.underlying311
 a77:=Tryz.isAgg311
 z77:=Tryz.sizeOf311
 v77:=Tryz.zeroValue311}
end Go.Proofs
namespace Go.Proofs.YtcffonnijhhhiaaGreatDoor
open Go.RowKit
theorem wpIn_rangeFunc_sx {F : Fence} {n : Nat} {P : Program} {α σ : Type} {g : Operand} {ps : Array Tmp} {assign body : Code} {Q : Exit → Act → World → Prop} {a : Act} {w : World}
    (hro : F.round = none) (h1 : 1 ≤ n) {gf : Nat} {lb : Array Value} (hg : a.eval g = .func (.func gf) #[] lb) (hFg : F.fn gf) (eg : ∀ args w, (callFunc gf args).run P w = .ok (.enter gf args) w)
    {encs : α → Array Value} (hps : ∀ x, (encs x).size = ps.size) (next : σ → α → Option σ) (s0 : σ) (Dn : σ → Prop) (St : σ → α → Prop) (Pre : σ → α → Prop) (I : σ → World → Prop) (Ix : σ → α → World → Prop) (Ax : α → Act → World → Prop)
    (hIput : ∀ s W r r', W.heap[w.heap.size + 1]? = some (.loop r) → I s W → I s (W.putObj (w.heap.size + 1) (.loop r')))
    (hXput : ∀ s x W r r', W.heap[w.heap.size + 1]? = some (.loop r) → Ix s x W → Ix s x (W.putObj (w.heap.size + 1) (.loop r')))
    (hAput : ∀ x a' W r r', W.heap[w.heap.size + 1]? = some (.loop r) → Ax x a' W → Ax x a' (W.putObj (w.heap.size + 1) (.loop r')))
    (h0 : ∀ r, I s0 ((w.alloc (.deferred (some []))).alloc (.loop r)))
    (hseq : ∀ (rec rec' : Loop) (W1 : World),
      (∀ s x W, Pre s x → I s W → W.heap[w.heap.size + 1]? = some (.loop rec) → W.heap[w.heap.size]? = some (.deferred (some [])) →
        YieldAt F (n - 1 - 1) P (w.heap.size + 1) (encs x) W fun e W' =>
          (∃ s', next s x = some s' ∧ e = .returned (.bool true) ∧ I s' W' ∧ W'.heap[w.heap.size + 1]? = some (.loop rec) ∧ W'.heap[w.heap.size]? = some (.deferred (some []))) ∨
          (next s x = none ∧ e = .returned (.bool false) ∧ Ix s x W' ∧ W'.heap[w.heap.size + 1]? = some (.loop rec') ∧ W'.heap[w.heap.size]? = some (.deferred (some [])))) →
      I s0 W1 → W1.heap[w.heap.size + 1]? = some (.loop rec) → W1.heap[w.heap.size]? = some (.deferred (some [])) →
      CallsIn F (n - 1) P gf (#[.func (.yield (w.heap.size + 1)) #[] #[]] ++ lb) W1 fun e W' => (∃ v, e = .returned v) ∧
        ((∃ s1, Dn s1 ∧ I s1 W' ∧ W'.heap[w.heap.size + 1]? = some (.loop rec) ∧ W'.heap[w.heap.size]? = some (.deferred (some []))) ∨
         (∃ s x, St s x ∧ Ix s x W' ∧ W'.heap[w.heap.size + 1]? = some (.loop rec') ∧ W'.heap[w.heap.size]? = some (.deferred (some [])))))
    (hassign : ∀ s x W (K : Act → World → Prop) r, Pre s x → I s W → W.heap[w.heap.size + 1]? = some (.loop r) → W.heap[w.heap.size]? = some (.deferred (some [])) →
      (∀ a' W', I s W' → Ax x a' W' → W'.heap[w.heap.size + 1]? = some (.loop r) → W'.heap[w.heap.size]? = some (.deferred (some [])) → K a' W') →
      assign.wpIn (F.inRound (w.heap.size + 1)) (n - 1 - 1) P (Exit.then K (fun _ _ _ => False)) { tmps := (ps.zip (encs x)).foldl (fun t (p, v) => t.setIfInBounds p v) a.tmps, defers := [] } W)
    (hbody : ∀ s x a' W r, Pre s x → I s W → Ax x a' W → W.heap[w.heap.size + 1]? = some (.loop r) → W.heap[w.heap.size]? = some (.deferred (some [])) →
      body.wpIn (F.inRound (w.heap.size + 1)) (n - 1 - 1) P (fun e _ W' => W'.heap[w.heap.size + 1]? = some (.loop r) ∧ W'.heap[w.heap.size]? = some (.deferred (some [])) ∧
        ((e = .normal ∧ ∃ s', next s x = some s' ∧ I s' W') ∨ (e = .ret ∧ next s x = none ∧ Ix s x W'))) a' W)
    (hdone : ∀ s1 W, Dn s1 → I s1 W → W.heap[w.heap.size]? = some (.deferred (some [])) → Q .normal { a with defers := { target := .collected w.heap.size, args := #[] } :: a.defers } W)
    (hstop : ∀ s x W, St s x → Ix s x W → W.heap[w.heap.size]? = some (.deferred (some [])) → Code.ret.wpIn F n P Q { a with defers := { target := .collected w.heap.size, args := #[] } :: a.defers } W) :
    (Code.rangeFunc g ps assign body).wpIn F n P Q a w := by
  refine wpIn_rangeFunc ?_
  intro fn hfn
  rw [hro]
  obtain ⟨rec, hrec⟩ : ∃ rec : LoopState → Option Code → Loop, rec = fun st pe => { state := st, pending := pe, fn, tmps := a.tmps, params := ps, assign, body, defers := w.heap.size } := ⟨_, rfl⟩
  obtain ⟨W1, hW1⟩ : ∃ W1, (w.alloc (.deferred (some []))).alloc (.loop (rec .ready none)) = W1 := ⟨_, rfl⟩
  have hL1 : W1.heap[w.heap.size + 1]? = some (.loop (rec .ready none)) := by
    rw [← hW1]; have := World.alloc_heap_new (w.alloc (.deferred (some []))) (.loop (rec .ready none)); rwa [World.size_alloc] at this
  have hK1 : W1.heap[w.heap.size]? = some (.deferred (some [])) := by
    rw [← hW1]; exact (Below.heap_alloc _ _ _ (by simp)).trans (World.alloc_heap_new w _)
  have hI1 : I s0 W1 := by rw [← hW1]; exact h0 _
  refine ⟨w.heap.size + 1, [{ target := .collected w.heap.size, args := #[] }], W1, { target := .fn (.func gf) lb, args := #[.func (.yield (w.heap.size + 1)) #[] #[]] }, W1, gf,
    #[.func (.yield (w.heap.size + 1)) #[] #[]] ++ lb, W1, ?_, ?_, ?_, ?_, fun _ => h1, ?_⟩
  · rw [← hW1, hrec]; exact run_enterLoop_outer _ _ _ _ _
  · simp only [resolve, hg]
    simp [go_sem]
  · intro f' hf'; simp [Target.leads] at hf'; subst hf'; exact hFg
  · simp [invoke, go_sem, eg]
  · refine (hseq (rec .ready none) (rec .done (some .ret)) W1 ?_ hI1 hL1 hK1).mono ?_
    · rintro s x W hpre hi hl hk
      have hlt : w.heap.size + 1 < W.heap.size := (Array.getElem?_eq_some_iff.1 hl).1
      have hy := run_yield (P := P) (args := encs x) hl (by rw [hrec]; exact hps x)
      rw [hrec] at hy
      refine ⟨fn, _, assign, body, hy, roundIn_of_wpIn hfn (hassign s x W _ (rec .ready none) hpre hi hl hk ?_)⟩
      clear hy
      intro a' Wa hia hax hla hka
      have hlta : w.heap.size + 1 < Wa.heap.size := (Array.getElem?_eq_some_iff.1 hla).1
      refine ⟨_, run_beginRound hla (by rw [hrec]), ?_⟩
      have hl2 : (Wa.putObj (w.heap.size + 1) (.loop { rec .ready none with state := .busy })).heap[w.heap.size + 1]? = some (.loop { rec .ready none with state := .busy }) := World.putObj_heap_same hlta
      have hk2 : (Wa.putObj (w.heap.size + 1) (.loop { rec .ready none with state := .busy })).heap[w.heap.size]? = some (.deferred (some [])) := (World.putObj_heap_other (by omega)).trans hka
      refine wpIn_mono (hbody s x a' _ _ hpre (hIput _ _ _ _ hla hia) (hAput _ _ _ _ _ hla hax) hl2 hk2) ?_
      rintro e a3 W3 hp
      obtain ⟨hl3, hk3, hp⟩ := hp
      have hlt3 := (Array.getElem?_eq_some_iff.1 hl3).1
      rcases hp with ⟨rfl, s', hn, hi3⟩ | ⟨rfl, hn, hx3⟩
      · have hr := run_endRound (P := P) none hl3
        rw [hrec] at hr
        refine ⟨_, _, hr, .inl ⟨s', hn, rfl, hIput _ _ _ _ hl3 hi3, ?_, (World.putObj_heap_other (by omega)).trans hk3⟩⟩
        rw [World.putObj_heap_same hlt3, hrec]
        rfl
      · have hr := run_endRound (P := P) (some .ret) hl3
        rw [hrec] at hr
        refine ⟨_, _, hr, .inr ⟨hn, rfl, hXput _ _ _ _ _ hl3 hx3, ?_, (World.putObj_heap_other (by omega)).trans hk3⟩⟩
        rw [World.putObj_heap_same hlt3, hrec]
        rfl
    · rintro e W2 ⟨⟨v, rfl⟩, ⟨s1, hd, hi, hl, hk⟩ | ⟨s, x, hs, hx, hl, hk⟩⟩
      · exact ⟨none, _, by have := run_endLoop (P := P) hl (by rw [hrec]; simp); rw [hrec] at this; exact this, hdone _ _ hd (hIput _ _ _ _ hl hi) ((World.putObj_heap_other (by omega)).trans hk)⟩
      · exact ⟨some .ret, _, by have := run_endLoop (P := P) hl (by rw [hrec]; simp); rw [hrec] at this; exact this, hstop _ _ _ hs (hXput _ _ _ _ _ hl hx) ((World.putObj_heap_other (by omega)).trans hk)⟩
end Go.Proofs.YtcffonnijhhhiaaGreatDoor
namespace Go.Proofs.Rt
structure Deal where
 id:Int
 day:Int
 kind:Nat
 lot:Int
 other:Int
 fr:Int
 to:Int
 parts:Int
 size:Int
 into:List Int
 sizes:List Int
 deriving DecidableEq,Inhabited
structure Lot where
 number:Int
 size:Int
 held:List (Int×Int)
 deriving DecidableEq,Inhabited
structure Ease where
 over:Int
 of:Int
 deal:Int
 deriving DecidableEq,Inhabited
structure Stint where
 lot:Int
 owner:Int
 beasts:Int
 deal:Int
 deriving DecidableEq,Inhabited
structure Roll where
 lots:List Lot
 eases:List Ease
 stints:List Stint
 deriving DecidableEq,Inhabited
structure St where
 roll:Roll
 used:List Int
 deriving DecidableEq,Inhabited
def St.begun :St:=⟨⟨[],[],[]⟩,[]⟩
def inR (n a b:Int):Bool:=decide (a≤n)&&decide (n≤b)
def isId (n:Int):Bool:=inR n 1 1000000
def lotsOk (l:List Int):Bool:=decide (2≤l.length)&&decide (l.length≤10)&&l.all isId&&decide l.Nodup
def only (x:Deal)(other fr to parts size into sizes:Bool):Bool:=
 (other||x.other==0)&&(fr||x.fr==0)&&(to||x.to==0)&&(parts||x.parts==0)&&(size||x.size==0)&&(into||x.into==[])&&(sizes||x.sizes==[])
def formed (x:Deal):Bool:=
 isId x.id&&inR x.day 0 100000&&isId x.lot&&
 match x.kind with
 |1=>only x false false true false true false false&&isId x.to&&inR x.size 1 10000000000
 |2=>only x false true true true false false false&&isId x.to&&isId x.fr&&x.fr !=x.to&&inR x.parts 1 5040
 | 3 => only x false false false false false true true && lotsOk x.into && x.sizes.length == x.into.length && x.sizes.all (inR · 1 10000000000)
 |4=>only x false false false false false true false&&lotsOk x.into
 |5=>only x true false false false false false false&&isId x.other&&x.other !=x.lot
 |6=>only x true false false false false false false&&isId x.other&&x.other !=x.lot
 |7=>only x false false true false true false false&&isId x.to&&inR x.size 1 1000
 |8=>only x false false true false false false false&&isId x.to
 |_=>false
def lotOf (l:List Lot)(n:Int):Option Lot:=l.find? (fun x=>x.number==n)
def easeOf (l:List Ease)(a b:Int):Option Ease:=l.find? (fun x=>x.over==a&&x.of==b)
def stintOf (l:List Stint)(a b:Int):Option Stint:=l.find? (fun x=>x.lot==a&&x.owner==b)
def heldBy (l : List (Int × Int)) (o : Int) : Int := ((l.find? (fun x => x.1 == o)).map (·.2)).getD 0
def sizeOf (l : List Lot) (n : Int) : Int := ((lotOf l n).map (·.size)).getD 0
def heldOf (l : List Lot) (n : Int) : List (Int × Int) := ((lotOf l n).map (·.held)).getD []
def sumI :List Int→Int
 | []=>0
 |a::l=>a+sumI l
def sameStints (l:List Stint)(a b:Int):Bool:=
 l.all fun x => if x.lot == a || x.lot == b then ((stintOf l (a + b - x.lot) x.owner).map (·.beasts)) == some x.beasts else true
def missing (r:Roll)(x:Deal):Bool:=
 match x.kind with
 |2|3|7=>(lotOf r.lots x.lot).isNone
 |4=> !x.into.all fun n=>(lotOf r.lots n).isSome
 |5=>(lotOf r.lots x.lot).isNone||(lotOf r.lots x.other).isNone
 |6=>(easeOf r.eases x.lot x.other).isNone
 |8=>(stintOf r.stints x.lot x.to).isNone
 |_=>false
def twice (s:St)(x:Deal):Bool:=
 match x.kind with
 |1|4=>s.used.contains x.lot
 |3=>x.into.any s.used.contains
 |5=>(easeOf s.roll.eases x.lot x.other).isSome
 |7=>(stintOf s.roll.stints x.lot x.to).isSome
 |_=>false
def unlike (r:Roll)(x:Deal):Bool:=
 match x.kind with
 |3=>sumI x.sizes !=sizeOf r.lots x.lot
 |4=>
  let f:=x.into.headD 0
  x.into.any (fun n=>heldOf r.lots f !=heldOf r.lots n)||x.into.tail.any (fun n=> !sameStints r.stints f n)||decide (10000000000<sumI (x.into.map (sizeOf r.lots)))
 |_=>false
def possible (s:St)(x:Deal):Int:=
 if missing s.roll x then 5 else if twice s x then 6
 else if x.kind=2∧heldBy (heldOf s.roll.lots x.lot) x.fr<x.parts then 70 else if unlike s.roll x then 71 else 0
def put :List Lot→Lot→List Lot
 | [],x=>[x]
 |y::l,x=>if x.number<y.number then x::y::l else y::put l x
def gone (l:List Lot)(n:Int):List Lot:=l.filter fun x=>x.number !=n
def insEase :List Ease→Ease→List Ease
 | [],x=>[x]
 |y::l,x=>if y.over<x.over∨y.over=x.over∧y.of<x.of then y::insEase l x else x::y::l
def putEase (l:List Ease)(x:Ease):List Ease:=
 if (easeOf l x.over x.of).isSome then l.map fun y=>if y.over=x.over∧y.of=x.of then {y with deal:=min y.deal x.deal} else y else insEase l x
def putStint :List Stint→Stint→List Stint
 | [],x=>[x]
 |y::l,x=>if y.lot<x.lot∨y.lot=x.lot∧y.owner<x.owner then y::putStint l x else x::y::l
def grant :List (Int×Int)→Int→Int→List (Int×Int)
 | [],o,b=>[(o,b)]
 |h::l,o,b=>if o<h.1 then (o,b)::h::l else if h.1=o then (if 0<h.2+b then (o,h.2+b)::l else l)else h::grant l o b
def divide (r:Roll)(x:Deal):Roll:=
  ⟨(x.into.zip x.sizes).foldl (fun l p=>put l ⟨p.1,p.2,heldOf r.lots x.lot⟩) (gone r.lots x.lot),
   r.eases.foldl (fun l e=>if e.over≠x.lot∧e.of≠x.lot then putEase l e else x.into.foldl (fun l n=>putEase l (if e.over=x.lot then {e with over:=n} else {e with of:=n})) l) [],
   r.stints.foldl (fun l s=>if s.lot≠x.lot then putStint l s else x.into.foldl (fun l n=>putStint l {s with lot:=n}) l) []⟩
def merge (r:Roll)(x:Deal):Roll:=
  let f:=x.into.headD 0
  ⟨put (x.into.foldl gone r.lots) ⟨x.lot,sumI (x.into.map (sizeOf r.lots)),heldOf r.lots f⟩,
   r.eases.foldl (fun l e=>if x.into.contains e.over&&x.into.contains e.of then l else putEase l ⟨if x.into.contains e.over then x.lot else e.over,if x.into.contains e.of then x.lot else e.of,e.deal⟩) [],
   r.stints.foldl (fun l s=>if s.lot=f then putStint l {s with lot:=x.lot} else if x.into.contains s.lot then l else putStint l s) []⟩
def does (s:St)(x:Deal):St:=
 let r:=s.roll
 match x.kind with
 |1=>⟨{r with lots:=put r.lots ⟨x.lot,x.size,[(x.to,5040)]⟩},s.used++[x.lot]⟩
 |2=>⟨{r with lots:=put (gone r.lots x.lot) ⟨x.lot,sizeOf r.lots x.lot,grant (grant (heldOf r.lots x.lot) x.fr (-x.parts)) x.to x.parts⟩},s.used⟩
 |3=>⟨divide r x,s.used++x.into⟩
 |4=>⟨merge r x,s.used++[x.lot]⟩
 |5=>⟨{r with eases:=putEase r.eases ⟨x.lot,x.other,x.id⟩},s.used⟩
 |6=>⟨{r with eases:=r.eases.filter fun e=> !(e.over==x.lot&&e.of==x.other)},s.used⟩
 |7=>⟨{r with stints:=putStint r.stints ⟨x.lot,x.to,x.size,x.id⟩},s.used⟩
 |8=>⟨{r with stints:=r.stints.filter fun e=> !(e.lot==x.lot&&e.owner==x.to)},s.used⟩
 |_=>s
def refused (s:St)(l:List Deal)(x:Deal):Int:=
 if 400≤l.length then 2 else if !formed x then 1 else if l.any (fun y=>y.id==x.id)then 6
 else if (l.getLast?.map fun y=>decide (x.day<y.day))=some true then 7 else possible s x
def checkGo (s:St)(done:List Deal):List Deal→Int×Int
 | []=>(0,0)
 |x::l=>if refused s done x=0 then checkGo (does s x) (done++[x]) l else (done.length,refused s done x)
def check (l:List Deal):Int×Int:=checkGo St.begun [] l
def stOf (l:List Deal):St:=l.foldl does St.begun
def onDay (l:List Deal)(day:Int):List Deal:=l.filter fun x=>decide (x.day≤day)
theorem lotOf_put {l:List Lot}{x:Lot}{n:Int}(h: ∀y∈l,y.number≠x.number):lotOf (put l x) n=if x.number=n then some x else lotOf l n:=by
 induction l with
 |nil=>
  unfold put lotOf
  rw[List.find?_cons]
  by_cases e:x.number=n
  ·simp[e]
  ·simp[e,beq_eq_false_iff_ne.2 e]
 |cons y l ih=>
  have ih:=ih (fun z hz=>h z (by simp[hz]))
  unfold put
  by_cases hlt:x.number<y.number
  ·rw[if_pos hlt]
   unfold lotOf
   rw[List.find?_cons]
   by_cases e:x.number=n
   ·simp[e]
   ·simp only[beq_eq_false_iff_ne.2 e,if_neg e]
  ·rw[if_neg hlt]
   unfold lotOf at ih ⊢
   rw[List.find?_cons,List.find?_cons]
   by_cases e:y.number=n
   ·have hx:x.number≠n:=fun hx=>h y (by simp) (e.trans hx.symm)
    simp[e,hx]
   ·simp only[beq_eq_false_iff_ne.2 e,ih]
theorem lotOf_gone {l:List Lot}{m n:Int}:lotOf (gone l m) n=if m=n then none else lotOf l n:=by
 unfold lotOf gone
 induction l with
 |nil=>simp
 |cons y l ih=>
  rw[List.filter_cons,List.find?_cons]
  by_cases e:y.number=m
  ·rw[if_neg (by simp[e]),ih]
   by_cases h:m=n
   ·rw[if_pos h,if_pos h]
   ·have:(y.number==n)=false:=beq_eq_false_iff_ne.2 (by rw[e];exact h)
    simp only[if_neg h,this]
  ·rw[if_pos (by simp[e]),List.find?_cons,ih]
   by_cases h:y.number=n
   ·have hm:m≠n:=fun hm=>e (h.trans hm.symm)
    simp[h,hm]
   ·simp only[beq_eq_false_iff_ne.2 h]
def asc :List Int→Prop
 | []=>True
 |a::l=>(∀b∈l,a<b)∧asc l
theorem mem_put {l:List Lot}{x y:Lot}:y∈put l x↔y=x∨y∈l:=by
 induction l with
 |nil=>simp[put]
 |cons z l ih=>
  unfold put
  split
  ·simp
  ·simp only[List.mem_cons,ih]
   constructor
   ·rintro(h|h|h)<;>simp[h]
   ·rintro(h|h|h)<;>simp[h]
theorem asc_put {l : List Lot} {x : Lot} (h : asc (l.map (·.number))) (hn : ∀ y ∈ l, y.number ≠ x.number) : asc ((put l x).map (·.number)) := by
 induction l with
 |nil=>simp[put,asc]
 |cons z l ih=>
  obtain⟨h1,h2⟩:=h
  unfold put
  split
  ·rename_i hlt
   refine⟨fun b hb=> ?_,h1,h2⟩
   rcases List.mem_cons.1 hb with rfl|hb
   ·exact hlt
   ·exact Int.lt_trans hlt (h1 b hb)
  ·rename_i hlt
   refine⟨fun b hb=> ?_,ih h2 (fun y hy=>hn y (by simp[hy]))⟩
   obtain⟨y,hy,rfl⟩:=List.mem_map.1 hb
   rcases mem_put.1 hy with rfl|hy
   ·have:=hn z (by simp)
    show z.number<y.number
    omega
   ·exact h1 _ (List.mem_map_of_mem hy)
theorem asc_gone {l : List Lot} {n : Int} (h : asc (l.map (·.number))) : asc ((gone l n).map (·.number)) := by
 induction l with
 |nil=>exact h
 |cons z l ih=>
  obtain⟨h1,h2⟩:=h
  unfold gone
  rw[List.filter_cons]
  split
  ·refine⟨fun b hb=> ?_,ih h2⟩
   obtain⟨y,hy,rfl⟩:=List.mem_map.1 hb
   exact h1 _ (List.mem_map_of_mem (List.mem_filter.1 hy).1)
  ·exact ih h2
theorem held_none {l:List (Int×Int)}{o:Int}(h: ∀y∈l,y.1≠o):heldBy l o=0:=by
 unfold heldBy
 rw[List.find?_eq_none.2 (fun y hy=>by simpa using h y hy)]
 rfl
theorem held_cons (h:Int×Int)(l:List (Int×Int))(o:Int):heldBy (h::l) o=if h.1=o then h.2 else heldBy l o:=by
 unfold heldBy
 rw[List.find?_cons]
 by_cases e:h.1=o
 ·simp[e]
 ·simp only[beq_eq_false_iff_ne.2 e,if_neg e]
theorem held_grant {l : List (Int × Int)} {o b q : Int} (h : asc (l.map (·.1))) (hb : 0 ≤ heldBy l o + b) : heldBy (grant l o b) q = if o = q then heldBy l o + b else heldBy l q := by
 induction l with
 |nil=>
  unfold grant
  rw[held_cons]
  show(if o=q then b else 0)=if o=q then 0+b else 0
  rw[Int.zero_add]
 |cons z l ih=>
  obtain⟨h1,h2⟩:=h
  have h1': ∀y∈l,z.1<y.1:=fun y hy=>h1 _ (List.mem_map_of_mem hy)
  have hz: ∀y∈l,y.1≠z.1:=fun y hy=>by have:=h1' y hy;omega
  unfold grant
  by_cases hlt:o<z.1
  ·rw[if_pos hlt,held_cons]
   have:heldBy (z::l) o=0:=held_none (fun y hy=>by
    rcases List.mem_cons.1 hy with rfl|hy
    ·omega
    ·have:=h1' y hy;omega)
   rw[this]
   simp
  ·rw[if_neg hlt]
   by_cases e:z.1=o
   ·subst e
    rw[if_pos rfl]
    rw[held_cons,if_pos rfl]at hb ⊢
    split
    ·rw[held_cons,held_cons]
     by_cases hq:z.1=q<;>simp[hq]
    ·rename_i hp
     rw[held_cons]
     by_cases hq:z.1=q
     ·subst hq
      rw[if_pos rfl,held_none hz]
      omega
     ·simp[hq]
   ·rw[if_neg e,held_cons,held_cons]
    have hb':0≤heldBy l o+b:=by rw[held_cons,if_neg e]at hb;exact hb
    rw[ih h2 hb',held_cons,if_neg e]
    by_cases hq:z.1=q
    ·have:o≠q:=fun h=>e (hq.trans h.symm)
     simp[hq,this]
    ·simp[hq]
end Go.Proofs.Rt
namespace Go.Proofs.Rt
def before (a b:Int×Int):Prop:=a.1<b.1∨a.1=b.1∧a.2<b.2
instance (a b : Int × Int) : Decidable (before a b) := by unfold before; infer_instance
theorem before.trans {a b c:Int×Int}(h:before a b)(k:before b c):before a c:=by unfold before at*;omega
theorem before.ne {a b:Int×Int}(h:before a b):a≠b:=by rintro rfl;unfold before at h;omega
theorem before.tri {a b:Int×Int}(h: ¬before a b)(k:a≠b):before b a:=by
 unfold before at*
 have: ¬(a.1=b.1∧a.2=b.2):=fun⟨x,y⟩=>k (Prod.ext x y)
 omega
def asc2 :List (Int×Int)→Prop
 | []=>True
 |a::l=>(∀b∈l,before a b)∧asc2 l
def Ease.key (x:Ease):Int×Int:=(x.over,x.of)
def Stint.key (x:Stint):Int×Int:=(x.lot,x.owner)
def findK {α:Type}(key:α→Int×Int)(l:List α)(k:Int×Int):Option α:=l.find? fun x=>key x==k
def insK {α:Type}(key:α→Int×Int):List α→α→List α
 | [],x=>[x]
 |y::l,x=>if before (key y) (key x)then y::insK key l x else x::y::l
variable {α : Type} (key : α → Int × Int)
theorem findK_nil (k:Int×Int):findK key [] k=none:=rfl
theorem findK_cons (y:α)(l:List α)(k:Int×Int):findK key (y::l) k=if key y=k then some y else findK key l k:=by
 unfold findK
 rw[List.find?_cons]
 by_cases e:key y=k
 ·simp[e]
 ·simp only[beq_eq_false_iff_ne.2 e,if_neg e]
theorem findK_ins (l:List α)(x:α)(k:Int×Int)(h: ∀y∈l,key y≠key x):findK key (insK key l x) k=if key x=k then some x else findK key l k:=by
 induction l with
 |nil=>unfold insK;rw[findK_cons]
 |cons y l ih=>
  have ih:=ih (fun z hz=>h z (by simp[hz]))
  have hy:=h y (by simp)
  unfold insK
  split
  ·rw[findK_cons,findK_cons,ih]
   by_cases e:key y=k
   ·have: ¬key x=k:=fun h=>hy (e.trans h.symm)
    rw[if_pos e,if_pos e,if_neg this]
   ·rw[if_neg e,if_neg e]
  ·rw[findK_cons]
theorem mem_insK {l:List α}{x y:α}:y∈insK key l x↔y=x∨y∈l:=by
 induction l with
 |nil=>simp[insK]
 |cons z l ih=>
  unfold insK
  split
  ·simp only[List.mem_cons,ih]
   constructor
   ·rintro(h|h|h)<;>simp[h]
   ·rintro(h|h|h)<;>simp[h]
  ·simp
theorem asc_insK {l:List α}{x:α}(h:asc2 (l.map key))(hn: ∀y∈l,key y≠key x):asc2 ((insK key l x).map key):=by
 induction l with
 |nil=>exact⟨fun b hb=>(by cases hb),trivial⟩
 |cons z l ih=>
  obtain⟨h1,h2⟩:=h
  unfold insK
  split
  ·rename_i hlt
   refine⟨fun b hb=> ?_,ih h2 (fun y hy=>hn y (by simp[hy]))⟩
   obtain⟨y,hy,rfl⟩:=List.mem_map.1 hb
   rcases(mem_insK key).1 hy with rfl|hy
   ·exact hlt
   ·exact h1 _ (List.mem_map_of_mem hy)
  ·rename_i hlt
   have hz:=before.tri hlt (hn z (by simp))
   refine⟨fun b hb=> ?_,h1,h2⟩
   rcases List.mem_cons.1 hb with rfl|hb
   ·exact hz
   ·exact hz.trans (h1 b hb)
theorem findK_filter (l:List α)(p:Int×Int→Bool)(k:Int×Int):findK key (l.filter fun x=>p (key x)) k=if p k then findK key l k else none:=by
 induction l with
 |nil=>simp[findK]
 |cons y l ih=>
  rw[List.filter_cons,findK_cons]
  by_cases e:key y=k
  ·subst e
   rw[if_pos rfl]
   split
   ·rw[findK_cons,if_pos rfl]
   ·rename_i hp
    rw[ih,if_neg hp]
  ·rw[if_neg e,←ih]
   split
   ·rw[findK_cons,if_neg e]
   ·rfl
theorem asc_filterK {l:List α}{p:α→Bool}(h:asc2 (l.map key)):asc2 ((l.filter p).map key):=by
 induction l with
 |nil=>exact h
 |cons z l ih=>
  obtain⟨h1,h2⟩:=h
  rw[List.filter_cons]
  split
  ·refine⟨fun b hb=> ?_,ih h2⟩
   obtain⟨y,hy,rfl⟩:=List.mem_map.1 hb
   exact h1 _ (List.mem_map_of_mem (List.mem_filter.1 hy).1)
  ·exact ih h2
theorem findK_some {l:List α}{k:Int×Int}{x:α}(h:findK key l k=some x):x∈l∧key x=k:=by
 unfold findK at h
 exact⟨List.mem_of_find?_eq_some h,by simpa using List.find?_some h⟩
theorem findK_mem {l:List α}{x:α}(h:asc2 (l.map key))(hx:x∈l):findK key l (key x)=some x:=by
 induction l with
 |nil=>cases hx
 |cons y l ih=>
  obtain⟨h1,h2⟩:=h
  rw[findK_cons]
  rcases List.mem_cons.1 hx with rfl|hx
  ·rw[if_pos rfl]
  ·rw[if_neg (h1 _ (List.mem_map_of_mem hx)).ne,ih h2 hx]
theorem easeOf_eq (l:List Ease)(a b:Int):easeOf l a b=findK Ease.key l (a,b):=by
 unfold easeOf findK
 congr 1
theorem stintOf_eq (l:List Stint)(a b:Int):stintOf l a b=findK Stint.key l (a,b):=by
 unfold stintOf findK
 congr 1
theorem putStint_eq (l:List Stint)(x:Stint):putStint l x=insK Stint.key l x:=by
 induction l with
 |nil=>rfl
 |cons y l ih=>unfold putStint insK;rw[ih];rfl
theorem insEase_eq (l:List Ease)(x:Ease):insEase l x=insK Ease.key l x:=by
 induction l with
 |nil=>rfl
 |cons y l ih=>unfold insEase insK;rw[ih];rfl
def lesser :Option Int→Int→Int
 |none,d=>d
 |some e,d=>min e d
theorem findK_putEase (l : List Ease) (x : Ease) (k : Int × Int) : findK Ease.key (putEase l x) k = if x.key = k then some { x with deal := lesser ((findK Ease.key l x.key).map (·.deal)) x.deal } else findK Ease.key l k := by
 unfold putEase
 rw[easeOf_eq]
 show findK Ease.key (if (findK Ease.key l x.key).isSome=true then _ else _) k=_
 split
 ·rename_i hs
  obtain⟨z,hz⟩:=Option.isSome_iff_exists.1 hs
  rw[hz]
  clear hs
  revert hz
  induction l with
  |nil=>intro hz;cases hz
  |cons y l ih=>
   intro hz
   rw[List.map_cons,findK_cons,findK_cons]
   rw[findK_cons]at hz
   by_cases e:y.key=x.key
   ·have e1 : y.over = x.over := congrArg (·.1) e
    have e2 : y.of = x.of := congrArg (·.2) e
    rw[if_pos e]at hz
    have hyz:y=_:=Option.some.inj hz
    rw[←hyz]
    clear hz hyz
    rw[if_pos (show y.over=x.over∧y.of=x.of from⟨e1,e2⟩)]
    have ek:Ease.key {y with deal:=min y.deal x.deal}=x.key:=e
    rw[ek]
    by_cases hk:x.key=k
    ·rw[if_pos hk,if_pos hk]
     show some (Ease.mk y.over y.of (min y.deal x.deal))=some (Ease.mk x.over x.of (min y.deal x.deal))
     rw[e1,e2]
    ·rw[if_neg hk,if_neg hk,if_neg (by rw[e];exact hk)]
     have: ∀(m:List Ease),findK Ease.key (m.map fun y=>if y.over=x.over∧y.of=x.of then {y with deal:=min y.deal x.deal} else y) k=findK Ease.key m k:=by
      intro m
      induction m with
      |nil=>rfl
      |cons w m ihm=>
       rw[List.map_cons,findK_cons,findK_cons,ihm]
       by_cases hw:w.over=x.over∧w.of=x.of
       ·rw[if_pos hw]
        have hwk:w.key=x.key:=Prod.ext hw.1 hw.2
        have hwk':Ease.key {w with deal:=min w.deal x.deal}=x.key:=hwk
        rw[hwk',hwk,if_neg hk,if_neg hk]
       ·rw[if_neg hw]
     exact this l
   ·rw[if_neg e]at hz
    have hne: ¬(y.over=x.over∧y.of=x.of):=fun h=>e (Prod.ext h.1 h.2)
    simp only[if_neg hne]
    rw[ih hz]
    by_cases hk:y.key=k
    ·have: ¬x.key=k:=fun h=>e (hk.trans h.symm)
     rw[if_pos hk,if_pos hk,if_neg this]
    ·rw[if_neg hk,if_neg hk]
 ·rename_i hs
  have hn:findK Ease.key l x.key=none:=by simpa using hs
  rw[insEase_eq,findK_ins Ease.key l x k (fun y hy e=>by
   unfold findK at hn
   have:=List.find?_eq_none.1 hn y hy
   simp[e]at this),hn]
  rfl
theorem asc_putEase {l:List Ease}{x:Ease}(h:asc2 (l.map Ease.key)):asc2 ((putEase l x).map Ease.key):=by
 unfold putEase
 rw[easeOf_eq]
 show asc2 (List.map Ease.key (if (findK Ease.key l x.key).isSome=true then _ else _))
 split
 ·rw[List.map_map]
  have:(Ease.key∘fun y:Ease=>if y.over=x.over∧y.of=x.of then {y with deal:=min y.deal x.deal} else y)=Ease.key:=by
   funext y
   show Ease.key (if y.over=x.over∧y.of=x.of then {y with deal:=min y.deal x.deal} else y)=Ease.key y
   split<;>rfl
  rw[this]
  exact h
 ·rename_i hs
  have hn:findK Ease.key l x.key=none:=by simpa using hs
  rw[insEase_eq]
  exact asc_insK Ease.key h (fun y hy e=>by
   unfold findK at hn
   have:=List.find?_eq_none.1 hn y hy
   simp[e]at this)
end Go.Proofs.Rt
