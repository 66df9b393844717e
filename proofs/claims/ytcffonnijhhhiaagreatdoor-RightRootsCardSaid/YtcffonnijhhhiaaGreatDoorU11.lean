/- Part U11 of the proof: Sd. -/
import Derived.Test.YtcffonnijhhhiaaGreatDoorProg
import Derived.WalkKit
import Derived.WalkLawsBesides
import Derived.WalkSpells
import Derived.Handy
import Derived.Lib.Hide
import Derived.Great.BuildSlice
import Derived.Deep.QuietTactic
import Derived.BigQuiet
import Derived.Deep.RegionHeld3
import Derived.Deep.DeepCutAuto
import Derived.Test.YtcffonnijhhhiaaGreatDoorU10
set_option linter.all false
set_option linter.unusedSimpArgs false
set_option linter.unusedVariables false
set_option linter.unusedSectionVars false
namespace Go.Proofs.YtcffonnijhhhiaaGreatDoor
open Go Go.RowKit Mp
theorem Rt.sameD_iff {a b:Dl}:Rt.sameD a b=true↔a=b:=by
 obtain⟨a1,a2,a3,a4,a5,a6,a7,a8,a9,a10,a11⟩:=a
 obtain⟨b1,b2,b3,b4,b5,b6,b7,b8,b9,b10,b11⟩:=b
 unfold Rt.sameD
 simp only[Bool.and_eq_true,beq_iff_eq,decide_eq_true_eq,Rt.Deal.mk.injEq,and_assoc]
set_option maxRecDepth 100000 in
set_option maxHeartbeats 4000000 in
theorem same_a (a b:Dl)(A1 A2 B1 B2:Option Addr)(c1 c2 d1 d2:Nat)(w:World)(ha:DS w w.heap.size A1 A2 a)(hb:DS w w.heap.size B1 B2 b):
  Calls Tryz.prog 98 #[.agg (xcs a A1 A2 c1 c2),.agg (xcs b B1 B2 d1 d2)] w fun e w'=>e=.returned (.bool (Rt.sameD a b))∧Below w.heap.size w w':=by
 obtain⟨w1,hw1⟩: ∃w1:World,w1=(w.alloc (oDl a A1 A2 c1 c2)).alloc (oDl b B1 B2 d1 d2):=⟨_,rfl⟩
 have k1:w1.heap[w.heap.size]?=some (oDl a A1 A2 c1 c2):=by rw[hw1];exact(Below.heap_alloc _ _ _ (by simp)).trans (heap_alloc_new w _)
 have k2:w1.heap[w.heap.size+1]?=some (oDl b B1 B2 d1 d2):=by rw[hw1];exact heap_at (by simp)
 have b1:Below w.heap.size w w1:=by rw[hw1];go_grown
 have z1:=(Array.getElem?_eq_some_iff.1 k1).1
 have z2:=(Array.getElem?_eq_some_iff.1 k2).1
 have e1:=eqI_a A1 B1 c1 d1 a.into b.into w1 (ha.up b1).into (hb.up b1).into (by have:=ha.li;omega) (by have:=hb.li;omega)
 have e2: ∀W,Below w.heap.size w W→Calls Tryz.prog 41 #[.slice A2 a.sizes.length c2,.slice B2 b.sizes.length d2] W fun e w'=>e=.returned (.bool (decide (a.sizes=b.sizes)))∧Below W.heap.size W w':=
  fun W hW=>eqI_a A2 B2 c2 d2 a.sizes b.sizes W (ha.up hW).sizes (hb.up hW).sizes (by have:=ha.ls;omega) (by have:=hb.ls;omega)
 obtain⟨hc1,hf1⟩:=blk_cells k1
 obtain⟨hc2,hf2⟩:=blk_cells k2
 have HW:=Lib.hid hw1
 have HE:=Lib.hid e2
 clear e2
 by_cases t0:a.id=b.id
 case neg=>
  have HV:=Lib.hid (show Rt.sameD a b=false by rw[Bool.eq_false_iff];intro h;rw[Rt.sameD_iff]at h;exact t0 (by rw[h]))
  have q0:(a.id==b.id)=false:=by simpa using t0
  clear t0 e1
  go_enter Tryz.func98,Tryz.ntmps98
  go_wp2
  rw[←HW.out]
  go_ret
  exact⟨ret_bool HV.out.symm,b1⟩
 by_cases t1:a.day=b.day
 case neg=>
  have HV:=Lib.hid (show Rt.sameD a b=false by rw[Bool.eq_false_iff];intro h;rw[Rt.sameD_iff]at h;exact t1 (by rw[h]))
  have q0:(a.id==b.id)=true:=by simpa using t0
  have q1:(a.day==b.day)=false:=by simpa using t1
  clear t0 t1 e1
  go_enter Tryz.func98,Tryz.ntmps98
  go_wp2
  rw[←HW.out]
  go_ret
  exact⟨ret_bool HV.out.symm,b1⟩
 by_cases t2:a.kind=b.kind
 case neg=>
  have HV:=Lib.hid (show Rt.sameD a b=false by rw[Bool.eq_false_iff];intro h;rw[Rt.sameD_iff]at h;exact t2 (by rw[h]))
  have q0:(a.id==b.id)=true:=by simpa using t0
  have q1:(a.day==b.day)=true:=by simpa using t1
  have q2:(a.kind==b.kind)=false:=by simpa using t2
  have q2':(((a.kind:Nat):Int)==((b.kind:Nat):Int))=false:=by rw[beq_eq_false_iff_ne];omega
  clear t0 t1 t2 e1
  go_enter Tryz.func98,Tryz.ntmps98
  go_wp2
  rw[←HW.out]
  go_ret
  exact⟨ret_bool HV.out.symm,b1⟩
 by_cases t3:a.lot=b.lot
 case neg=>
  have HV:=Lib.hid (show Rt.sameD a b=false by rw[Bool.eq_false_iff];intro h;rw[Rt.sameD_iff]at h;exact t3 (by rw[h]))
  have q0:(a.id==b.id)=true:=by simpa using t0
  have q1:(a.day==b.day)=true:=by simpa using t1
  have q2:(a.kind==b.kind)=true:=by simpa using t2
  have q3:(a.lot==b.lot)=false:=by simpa using t3
  have q2':(((a.kind:Nat):Int)==((b.kind:Nat):Int))=true:=by simp only[beq_iff_eq];omega
  clear t0 t1 t2 t3 e1
  go_enter Tryz.func98,Tryz.ntmps98
  go_wp2
  rw[←HW.out]
  go_ret
  exact⟨ret_bool HV.out.symm,b1⟩
 by_cases t4:a.other=b.other
 case neg=>
  have HV:=Lib.hid (show Rt.sameD a b=false by rw[Bool.eq_false_iff];intro h;rw[Rt.sameD_iff]at h;exact t4 (by rw[h]))
  have q0:(a.id==b.id)=true:=by simpa using t0
  have q1:(a.day==b.day)=true:=by simpa using t1
  have q2:(a.kind==b.kind)=true:=by simpa using t2
  have q3:(a.lot==b.lot)=true:=by simpa using t3
  have q4:(a.other==b.other)=false:=by simpa using t4
  have q2':(((a.kind:Nat):Int)==((b.kind:Nat):Int))=true:=by simp only[beq_iff_eq];omega
  clear t0 t1 t2 t3 t4 e1
  go_enter Tryz.func98,Tryz.ntmps98
  go_wp2
  rw[←HW.out]
  go_ret
  exact⟨ret_bool HV.out.symm,b1⟩
 by_cases t5:a.fr=b.fr
 case neg=>
  have HV:=Lib.hid (show Rt.sameD a b=false by rw[Bool.eq_false_iff];intro h;rw[Rt.sameD_iff]at h;exact t5 (by rw[h]))
  have q0:(a.id==b.id)=true:=by simpa using t0
  have q1:(a.day==b.day)=true:=by simpa using t1
  have q2:(a.kind==b.kind)=true:=by simpa using t2
  have q3:(a.lot==b.lot)=true:=by simpa using t3
  have q4:(a.other==b.other)=true:=by simpa using t4
  have q5:(a.fr==b.fr)=false:=by simpa using t5
  have q2':(((a.kind:Nat):Int)==((b.kind:Nat):Int))=true:=by simp only[beq_iff_eq];omega
  clear t0 t1 t2 t3 t4 t5 e1
  go_enter Tryz.func98,Tryz.ntmps98
  go_wp2
  rw[←HW.out]
  go_ret
  exact⟨ret_bool HV.out.symm,b1⟩
 by_cases t6:a.to=b.to
 case neg=>
  have HV:=Lib.hid (show Rt.sameD a b=false by rw[Bool.eq_false_iff];intro h;rw[Rt.sameD_iff]at h;exact t6 (by rw[h]))
  have q0:(a.id==b.id)=true:=by simpa using t0
  have q1:(a.day==b.day)=true:=by simpa using t1
  have q2:(a.kind==b.kind)=true:=by simpa using t2
  have q3:(a.lot==b.lot)=true:=by simpa using t3
  have q4:(a.other==b.other)=true:=by simpa using t4
  have q5:(a.fr==b.fr)=true:=by simpa using t5
  have q6:(a.to==b.to)=false:=by simpa using t6
  have q2':(((a.kind:Nat):Int)==((b.kind:Nat):Int))=true:=by simp only[beq_iff_eq];omega
  clear t0 t1 t2 t3 t4 t5 t6 e1
  go_enter Tryz.func98,Tryz.ntmps98
  go_wp2
  rw[←HW.out]
  go_ret
  exact⟨ret_bool HV.out.symm,b1⟩
 by_cases t7:a.parts=b.parts
 case neg=>
  have HV:=Lib.hid (show Rt.sameD a b=false by rw[Bool.eq_false_iff];intro h;rw[Rt.sameD_iff]at h;exact t7 (by rw[h]))
  have q0:(a.id==b.id)=true:=by simpa using t0
  have q1:(a.day==b.day)=true:=by simpa using t1
  have q2:(a.kind==b.kind)=true:=by simpa using t2
  have q3:(a.lot==b.lot)=true:=by simpa using t3
  have q4:(a.other==b.other)=true:=by simpa using t4
  have q5:(a.fr==b.fr)=true:=by simpa using t5
  have q6:(a.to==b.to)=true:=by simpa using t6
  have q7:(a.parts==b.parts)=false:=by simpa using t7
  have q2':(((a.kind:Nat):Int)==((b.kind:Nat):Int))=true:=by simp only[beq_iff_eq];omega
  clear t0 t1 t2 t3 t4 t5 t6 t7 e1
  go_enter Tryz.func98,Tryz.ntmps98
  go_wp2
  rw[←HW.out]
  go_ret
  exact⟨ret_bool HV.out.symm,b1⟩
 by_cases t8:a.size=b.size
 case neg=>
  have HV:=Lib.hid (show Rt.sameD a b=false by rw[Bool.eq_false_iff];intro h;rw[Rt.sameD_iff]at h;exact t8 (by rw[h]))
  have q0:(a.id==b.id)=true:=by simpa using t0
  have q1:(a.day==b.day)=true:=by simpa using t1
  have q2:(a.kind==b.kind)=true:=by simpa using t2
  have q3:(a.lot==b.lot)=true:=by simpa using t3
  have q4:(a.other==b.other)=true:=by simpa using t4
  have q5:(a.fr==b.fr)=true:=by simpa using t5
  have q6:(a.to==b.to)=true:=by simpa using t6
  have q7:(a.parts==b.parts)=true:=by simpa using t7
  have q8:(a.size==b.size)=false:=by simpa using t8
  have q2':(((a.kind:Nat):Int)==((b.kind:Nat):Int))=true:=by simp only[beq_iff_eq];omega
  clear t0 t1 t2 t3 t4 t5 t6 t7 t8 e1
  go_enter Tryz.func98,Tryz.ntmps98
  go_wp2
  rw[←HW.out]
  go_ret
  exact⟨ret_bool HV.out.symm,b1⟩
 have HT:=Lib.hid (show Rt.sameD a b=(decide (a.into=b.into)&&decide (a.sizes=b.sizes)) by unfold Rt.sameD;simp[t0,t1,t2,t3,t4,t5,t6,t7,t8])
 have q0:(a.id==b.id)=true:=by simpa using t0
 have q1:(a.day==b.day)=true:=by simpa using t1
 have q2:(a.kind==b.kind)=true:=by simpa using t2
 have q3:(a.lot==b.lot)=true:=by simpa using t3
 have q4:(a.other==b.other)=true:=by simpa using t4
 have q5:(a.fr==b.fr)=true:=by simpa using t5
 have q6:(a.to==b.to)=true:=by simpa using t6
 have q7:(a.parts==b.parts)=true:=by simpa using t7
 have q8:(a.size==b.size)=true:=by simpa using t8
 have q2':(((a.kind:Nat):Int)==((b.kind:Nat):Int))=true:=by simp only[beq_iff_eq];omega
 clear t0 t1 t2 t3 t4 t5 t6 t7 t8
 generalize decide (a.into=b.into)=v at e1 HT
 have HE2:=HE.out
 generalize decide (a.sizes=b.sizes)=u at HE2 HT
 have HE3:=Lib.hid HE2
 clear HE2 HE
 cases v with
 |false=>
  go_enter Tryz.func98,Tryz.ntmps98
  go_wp2_with fail
  rw[←HW.out]
  refine e1.mono ?_
  rintro e w2 ⟨rfl,hx⟩
  go_wp2
  go_ret
  exact⟨ret_bool (by rw[HT.out];rfl),b1.trans (hx.mono b1.size)⟩
 |true=>
  go_enter Tryz.func98,Tryz.ntmps98
  go_wp2_with fail
  rw[←HW.out]
  refine e1.mono ?_
  rintro e w2 ⟨rfl,hx⟩
  have b2:=b1.trans (hx.mono b1.size)
  obtain⟨hc3,hf3⟩:=blk_cells ((hx.block _ z1).trans k1)
  obtain⟨hc4,hf4⟩:=blk_cells ((hx.block _ z2).trans k2)
  go_wp2_with fail
  refine(HE3.out w2 b2).mono ?_
  rintro e w3 ⟨rfl,hy⟩
  go_wp2
  go_ret
  exact⟨ret_bool (by rw[HT.out];simp),b2.trans (hy.mono b2.size)⟩
end Go.Proofs.YtcffonnijhhhiaaGreatDoor
