/- Proved: parts of the walk. -/
import Derived.Test.YtgbpekeoegfjpaaGreatDoorVZ09
set_option maxRecDepth 100000
set_option maxHeartbeats 4000000
namespace Go.Proofs
open Tryz RowKit
attribute [-go_sem] Builtin.append_
section
variable {α : Type} {enc : α -> List Value} {ST ET : TypeId} {z : Value} {size bytes : Nat}
theorem oP (L:Lay enc ST ET z size bytes){n₀ k:Nat}{w1:World}{v:Value}{l:List α}(hr:w1.ownsRow n₀ ET size v k (l.flatMap enc))(r:List α)(m:Nat)(hm:r.length=m+1)(cs:Array Value)(hcs:cs.toList=r.flatMap enc)
  (h63:k+(m+1)<=maxLen) (hb:(k+(m+1))*bytes<=140737488355328) (hn:n₀<=w1.heap.size):
  ∃g' cap' w2,(Builtin.append_ #[ST,ST] ST #[v,.slice (some ⟨w1.heap.size,0,none⟩) (m+1) (m+1)]).run prog (w1.alloc (.cells cs ET))=.ok (.slice (some ⟨g',0,none⟩) (k+(m+1)) cap') w2∧
   w2.ownsRow n₀ ET size (.slice (some ⟨g',0,none⟩) (k+(m+1)) cap') (k+(m+1)) ((l++r).flatMap enc)∧w1.grownBy w2 v.ownBlock∧(v.ownBlock=some g'∨w1.heap.size<=g'):=by
 obtain⟨i0,hi0,hz0,hz1,hz2⟩:=info_parts L.hi
 have hcell: ∀j u,(r.flatMap enc)[j]?=some u->(w1.alloc (.cells cs ET)).cell? ((⟨w1.heap.size,0,none⟩:Addr).add j)=some u:=by
  intro j u hj
  rw[Go.WideShapes.add_plain,Nat.zero_add,(ah (World.alloc_heap_new w1 (.cells cs ET))).1,<-Array.getElem?_toList,hcs]
  exact hj
 have hone: ∀u∈r.flatMap enc,u.oneCell'=true:=by
  intro u hu
  obtain⟨x,_,hx⟩:=List.mem_flatMap.1 hu
  exact L.hone x u hx
 obtain⟨v',w2,hrun,hown,hgrow,hn2,hat⟩:=run_append_own_at (P:=prog) (w:=w1.alloc (.cells cs ET)) n₀ ST ST ET i0 _ size bytes L.ht hi0 hz0 hz1 hz2 L.hz L.hs v k (l.flatMap enc) (hr.alloc _) ⟨w1.heap.size,0,none⟩ (m+1) (m+1) (r.flatMap enc)
  (by rw[oL enc size L.henc,hm]) hcell hone h63 hb (by simp only[World.size_alloc];omega)
 obtain⟨g',cap',rfl⟩:=ownsRow_succ (k:=k+m) hown
 exact⟨g',cap',w2,hrun,by rw[List.flatMap_append];exact hown,((World.grownBy_alloc w1 (.cells cs ET) none).but _).trans hgrow,by
  rcases hat with h|h
  ·exact .inl (by rw[<-h];rfl)
  ·refine .inr ?_
   have:g'=w1.heap.size+1:=by simpa [Value.ownBlock]using h
   omega⟩
end
theorem own_ne {W:World}{n₀:Nat}{e t:TypeId}{size n b:Nat}{v:Value}{xs:List Value}{cs:Array Value}{p:Nat×Nat}(h:W.ownsRow n₀ e size v n xs)(hb:W.heap[b]?=some (.cells cs t p))(hne:t≠e):v.ownBlock≠some b:=by
 rcases h.2 with ⟨h2,_⟩|⟨g,cap,cur,h2,_,h4,_⟩
 ·rw[h2];simp[Value.ownBlock]
 ·rw[h2]
  intro h
  have:g=b:=by simpa [Value.ownBlock]using h
  subst this
  rw[h4]at hb
  simp only[Option.some.injEq,Obj.cells.injEq]at hb
  exact hne hb.2.1.symm
theorem fF {W:World}{n₀:Nat}{e e':TypeId}{s s' n n':Nat}{v v':Value}{xs xs':List Value}(h:W.ownsRow n₀ e s v n xs)(h':W.ownsRow n₀ e' s' v' n' xs')(hne:e≠e'):v'.ownBlock=none∨v'.ownBlock≠v.ownBlock:=by
 rcases h.2 with ⟨h2,_⟩|⟨g,cap,cur,h2,_,h4,_⟩
 ·rcases h'.2 with ⟨h3,_⟩|⟨g',cap',cur',h3,_,_,_⟩
  ·exact .inl (by rw[h3];rfl)
  ·exact .inr (by rw[h2,h3];simp[Value.ownBlock])
 ·refine .inr ?_
  rw[h2]
  exact own_ne h' h4 hne
def Oy (v1 v2 v3 v4:Value)(i:Nat):Prop:=v1.ownBlock=some i∨v2.ownBlock=some i∨v3.ownBlock=some i∨v4.ownBlock=some i
def Ox (bf br:Nat)(v1 v2 v3 v4:Value)(i:Nat):Prop:=i=bf∨i=br∨Oy v1 v2 v3 v4 i
structure aU (bf:Nat)(X:Nat->Prop)(w w':World):Prop where
 b:Below bf w w'
 k: ∀i,i<w.heap.size-> ¬X i->w'.heap[i]?=w.heap[i]?
theorem aU.trans {bf:Nat}{X:Nat->Prop}{a b c:World}(h:aU bf X a b)(h':aU bf X b c):aU bf X a c:=
 ⟨h.b.trans h'.b,fun i hi hx=>(h'.k i (by have:=h.b.size;omega) hx).trans (h.k i hi hx)⟩
theorem aU.of_below {bf:Nat}{X:Nat->Prop}{a b:World}(hb:Below a.heap.size a b)(h:bf<=a.heap.size):aU bf X a b:=
 ⟨hb.mono h,fun i hi _=>hb.block i hi⟩
theorem h_ {bf br:Nat}{v1 v2 v3 v4:Value}{w w':World}{cs:Array Value}{p:Nat×Nat}(hrd:w.heap[br]?=some (.cells cs 188 p))(hlt:bf<br)(hg:w.grownBy w' (some br)):aU bf (Ox bf br v1 v2 v3 v4) w w':=
 ⟨⟨hg.os,hg.tape,hg.output,hg.size,fun k hk=>hg.block k (by have:=(lO hrd);omega) (by simp;omega)⟩,
  fun i hi hx=>hg.block i hi (fun e=>by cases e;exact hx (.inr (.inl rfl)))⟩
def New (X:Nat->Prop)(n:Nat)(v1 v2 v3 v4:Value):Prop:= ∀i,Oy v1 v2 v3 v4 i->X i∨n<=i
structure fu (bf:Nat)(f:Pl.aL)(W:World)(v1 v2 v3 v4:Value):Prop where
 box:W.heap[bf]?=some (.cells #[v1,v2,v3,v4] 28 (0,0))
 o1:W.ownsRow (bf+1) 50 2 v1 f.st.length (f.st.flatMap nA)
 o2:W.ownsRow (bf+1) 9 1 v2 f.li.length (f.li.flatMap fU)
 o3:W.ownsRow (bf+1) 112 4 v3 f.pa.length (f.pa.flatMap mG)
 o4:W.ownsRow (bf+1) 114 2 v4 f.va.length (f.va.flatMap oF)
section
variable {bf : Nat} {f : Pl.aL} {W W' : World} {v1 v2 v3 v4 : Value}
theorem fu.lt (h:fu bf f W v1 v2 v3 v4):bf<W.heap.size:=(Array.getElem?_eq_some_iff.1 h.box).1
theorem fu.kept (h:fu bf f W v1 v2 v3 v4){br:Nat}{cs:Array Value}(hb:W.heap[br]?=some (.cells cs 188 (0,0)))(hg:W.grownBy W' (some br)):fu bf f W' v1 v2 v3 v4:=by
 have hne:some bf≠some br:=by
  intro e;cases e;rw[h.box]at hb;cases hb
 exact⟨(hg.block bf h.lt hne).trans h.box,h.o1.kept hg (.inr (own_ne h.o1 hb (by decide))),h.o2.kept hg (.inr (own_ne h.o2 hb (by decide))),h.o3.kept hg (.inr (own_ne h.o3 hb (by decide))),h.o4.kept hg (.inr (own_ne h.o4 hb (by decide)))⟩
theorem fu.below (h:fu bf f W v1 v2 v3 v4)(hb:Below W.heap.size W W'):fu bf f W' v1 v2 v3 v4:=
 ⟨(hb.block bf h.lt).trans h.box,own_below h.o1 hb,own_below h.o2 hb,own_below h.o3 hb,own_below h.o4 hb⟩
theorem cB (W:World)(b j:Nat)(u:Value):W.grownBy (W.setCell ⟨b,j,none⟩ u) (some b):=
 ⟨rfl,rfl,rfl,by simp,fun k _ hne=>Below.heap_setCell _ _ _ _ (by simp at hne;simpa using hne)⟩
theorem gq {n₀:Nat}{e:TypeId}{size n:Nat}{v:Value}{xs:List Value}{b:Nat}{u:Value}{j:Nat}(h:W.ownsRow n₀ e size v n xs)(hb:b<n₀):(W.setCell ⟨b,j,none⟩ u).ownsRow n₀ e size v n xs:=by
 refine h.kept (cB W b j u) (.inr ?_)
 rcases h.2 with ⟨h2,_⟩|⟨g,cap,cur,h2,h3,_,_⟩
 ·rw[h2];simp[Value.ownBlock]
 ·rw[h2];simp[Value.ownBlock];omega
theorem K_ (h:fu bf f W v1 v2 v3 v4)(x:(ByteArray×Int))(hk:f.st.length<=100000):
  ∃g' cap' w2,(Builtin.append_ #[23,23] 23 #[v1,.slice (some ⟨W.heap.size,0,none⟩) 1 1]).run prog (W.alloc (.cells #[.string x.1,.int .i64 x.2] 50))=.ok (.slice (some ⟨g',0,none⟩) (f.st.length+1) cap') w2∧
   w2.heap[bf]?=some (.cells #[v1,v2,v3,v4] 28 (0,0))∧
   fu bf {f with st:=f.st++[x]} (w2.setCell ⟨bf,0,none⟩ (.slice (some ⟨g',0,none⟩) (f.st.length+1) cap')) (.slice (some ⟨g',0,none⟩) (f.st.length+1) cap') v2 v3 v4∧(∀br,aU bf (Ox bf br v1 v2 v3 v4) W (w2.setCell ⟨bf,0,none⟩ (.slice (some ⟨g',0,none⟩) (f.st.length+1) cap')))∧W.heap.size<=w2.heap.size∧(∀br n,n<=W.heap.size->New (Ox bf br v1 v2 v3 v4) n (.slice (some ⟨g',0,none⟩) (f.st.length+1) cap') v2 v3 v4):=by
 obtain⟨g',cap',w2,hrun,hown,hg,hat⟩:=oP vS h.o1 [x] 0 rfl #[.string x.1,.int .i64 x.2] (by simp[nA]) (by unfold maxLen;omega) (by omega) h.lt
 have hb:w2.heap[bf]?=some (.cells #[v1,v2,v3,v4] 28 (0,0)):=(hg.block bf h.lt (own_ne h.o1 h.box (by decide)).symm).trans h.box
 have hlt:bf<w2.heap.size:=(lO hb)
 refine⟨g',cap',w2,hrun,hb,⟨?_,by rw[List.length_append];exact gq hown (by omega),gq (h.o2.kept hg (fF h.o1 h.o2 (by decide))) (by omega),gq (h.o3.kept hg (fF h.o1 h.o3 (by decide))) (by omega),gq (h.o4.kept hg (fF h.o1 h.o4 (by decide))) (by omega)⟩,fun br=> ?_,hg.size,fun br n hn i hi=> ?_⟩
 ·have:=heap_setCell_same w2 bf 0 _ _ (.slice (some ⟨g',0,none⟩) (f.st.length+1) cap') hb
  exact this
 ·have hB:Below bf W w2:=⟨hg.os,hg.tape,hg.output,hg.size,fun k hk'=>hg.block k (by have:=h.lt;omega) (fun e=>by have:=(h.o1.lt k e.symm).1;omega)⟩
  refine⟨hB.setCell (p:=⟨bf,0,none⟩) (Nat.le_refl _) _,fun i hi hx=> ?_⟩
  rw[Below.heap_setCell _ _ _ _ (by rintro rfl;exact hx (.inl rfl))]
  exact hg.block i hi (fun e=>hx (.inr (.inr (.inl e.symm))))
 ·rcases hi with h|h|h|h
  ·have h:g'=i:=by simpa [Value.ownBlock]using h
   subst h
   rcases hat with h|h
   ·exact .inl (.inr (.inr (.inl h)))
   ·exact .inr (by omega)
  ·exact .inl (.inr (.inr (.inr (.inl h))))
  ·exact .inl (.inr (.inr (.inr (.inr (.inl h)))))
  ·exact .inl (.inr (.inr (.inr (.inr (.inr h)))))
theorem La (h:fu bf f W v1 v2 v3 v4)(x:ByteArray)(hk:f.li.length<=100000):
  ∃g' cap' w2,(Builtin.append_ #[24,24] 24 #[v2,.slice (some ⟨W.heap.size,0,none⟩) 1 1]).run prog (W.alloc (.cells #[.string x] 9))=.ok (.slice (some ⟨g',0,none⟩) (f.li.length+1) cap') w2∧
   w2.heap[bf]?=some (.cells #[v1,v2,v3,v4] 28 (0,0))∧
   fu bf {f with li:=f.li++[x]} (w2.setCell ⟨bf,1,none⟩ (.slice (some ⟨g',0,none⟩) (f.li.length+1) cap')) v1 (.slice (some ⟨g',0,none⟩) (f.li.length+1) cap') v3 v4∧(∀br,aU bf (Ox bf br v1 v2 v3 v4) W (w2.setCell ⟨bf,1,none⟩ (.slice (some ⟨g',0,none⟩) (f.li.length+1) cap')))∧W.heap.size<=w2.heap.size∧(∀br n,n<=W.heap.size->New (Ox bf br v1 v2 v3 v4) n v1 (.slice (some ⟨g',0,none⟩) (f.li.length+1) cap') v3 v4):=by
 obtain⟨g',cap',w2,hrun,hown,hg,hat⟩:=oP gy h.o2 [x] 0 rfl #[.string x] (by simp[fU]) (by unfold maxLen;omega) (by omega) h.lt
 have hb:w2.heap[bf]?=some (.cells #[v1,v2,v3,v4] 28 (0,0)):=(hg.block bf h.lt (own_ne h.o2 h.box (by decide)).symm).trans h.box
 have hlt:bf<w2.heap.size:=(lO hb)
 refine⟨g',cap',w2,hrun,hb,⟨?_,gq (h.o1.kept hg (fF h.o2 h.o1 (by decide))) (by omega),by rw[List.length_append];exact gq hown (by omega),gq (h.o3.kept hg (fF h.o2 h.o3 (by decide))) (by omega),gq (h.o4.kept hg (fF h.o2 h.o4 (by decide))) (by omega)⟩,fun br=> ?_,hg.size,fun br n hn i hi=> ?_⟩
 ·have:=heap_setCell_same w2 bf 1 _ _ (.slice (some ⟨g',0,none⟩) (f.li.length+1) cap') hb
  exact this
 ·have hB:Below bf W w2:=⟨hg.os,hg.tape,hg.output,hg.size,fun k hk'=>hg.block k (by have:=h.lt;omega) (fun e=>by have:=(h.o2.lt k e.symm).1;omega)⟩
  refine⟨hB.setCell (p:=⟨bf,1,none⟩) (Nat.le_refl _) _,fun i hi hx=> ?_⟩
  rw[Below.heap_setCell _ _ _ _ (by rintro rfl;exact hx (.inl rfl))]
  exact hg.block i hi (fun e=>hx (.inr (.inr (.inr (.inl e.symm)))))
 ·rcases hi with h|h|h|h
  ·exact .inl (.inr (.inr (.inl h)))
  ·have h:g'=i:=by simpa [Value.ownBlock]using h
   subst h
   rcases hat with h|h
   ·exact .inl (.inr (.inr (.inr (.inl h))))
   ·exact .inr (by omega)
  ·exact .inl (.inr (.inr (.inr (.inr (.inl h)))))
  ·exact .inl (.inr (.inr (.inr (.inr (.inr h)))))
theorem Lb (h:fu bf f W v1 v2 v3 v4)(x:Pl.oz)(hk:f.pa.length<=100000):
  ∃g' cap' w2,(Builtin.append_ #[25,25] 25 #[v3,.slice (some ⟨W.heap.size,0,none⟩) 1 1]).run prog (W.alloc (.cells #[.string x.name,.int .i64 x.dH,.int .i64 x.fr,.int .i64 x.till] 112))=.ok (.slice (some ⟨g',0,none⟩) (f.pa.length+1) cap') w2∧
   w2.heap[bf]?=some (.cells #[v1,v2,v3,v4] 28 (0,0))∧
   fu bf {f with pa:=f.pa++[x]} (w2.setCell ⟨bf,2,none⟩ (.slice (some ⟨g',0,none⟩) (f.pa.length+1) cap')) v1 v2 (.slice (some ⟨g',0,none⟩) (f.pa.length+1) cap') v4∧(∀br,aU bf (Ox bf br v1 v2 v3 v4) W (w2.setCell ⟨bf,2,none⟩ (.slice (some ⟨g',0,none⟩) (f.pa.length+1) cap')))∧W.heap.size<=w2.heap.size∧(∀br n,n<=W.heap.size->New (Ox bf br v1 v2 v3 v4) n v1 v2 (.slice (some ⟨g',0,none⟩) (f.pa.length+1) cap') v4):=by
 obtain⟨g',cap',w2,hrun,hown,hg,hat⟩:=oP vT h.o3 [x] 0 rfl #[.string x.name,.int .i64 x.dH,.int .i64 x.fr,.int .i64 x.till] (by simp[mG]) (by unfold maxLen;omega) (by omega) h.lt
 have hb:w2.heap[bf]?=some (.cells #[v1,v2,v3,v4] 28 (0,0)):=(hg.block bf h.lt (own_ne h.o3 h.box (by decide)).symm).trans h.box
 have hlt:bf<w2.heap.size:=(lO hb)
 refine⟨g',cap',w2,hrun,hb,⟨?_,gq (h.o1.kept hg (fF h.o3 h.o1 (by decide))) (by omega),gq (h.o2.kept hg (fF h.o3 h.o2 (by decide))) (by omega),by rw[List.length_append];exact gq hown (by omega),gq (h.o4.kept hg (fF h.o3 h.o4 (by decide))) (by omega)⟩,fun br=> ?_,hg.size,fun br n hn i hi=> ?_⟩
 ·have:=heap_setCell_same w2 bf 2 _ _ (.slice (some ⟨g',0,none⟩) (f.pa.length+1) cap') hb
  exact this
 ·have hB:Below bf W w2:=⟨hg.os,hg.tape,hg.output,hg.size,fun k hk'=>hg.block k (by have:=h.lt;omega) (fun e=>by have:=(h.o3.lt k e.symm).1;omega)⟩
  refine⟨hB.setCell (p:=⟨bf,2,none⟩) (Nat.le_refl _) _,fun i hi hx=> ?_⟩
  rw[Below.heap_setCell _ _ _ _ (by rintro rfl;exact hx (.inl rfl))]
  exact hg.block i hi (fun e=>hx (.inr (.inr (.inr (.inr (.inl e.symm))))))
 ·rcases hi with h|h|h|h
  ·exact .inl (.inr (.inr (.inl h)))
  ·exact .inl (.inr (.inr (.inr (.inl h))))
  ·have h:g'=i:=by simpa [Value.ownBlock]using h
   subst h
   rcases hat with h|h
   ·exact .inl (.inr (.inr (.inr (.inr (.inl h)))))
   ·exact .inr (by omega)
  ·exact .inl (.inr (.inr (.inr (.inr (.inr h)))))
theorem Lc (h:fu bf f W v1 v2 v3 v4)(x:(Int×Int))(hk:f.va.length<=100000):
  ∃g' cap' w2,(Builtin.append_ #[26,26] 26 #[v4,.slice (some ⟨W.heap.size,0,none⟩) 1 1]).run prog (W.alloc (.cells (i2 x.1 x.2) 114))=.ok (.slice (some ⟨g',0,none⟩) (f.va.length+1) cap') w2∧
   w2.heap[bf]?=some (.cells #[v1,v2,v3,v4] 28 (0,0))∧
   fu bf {f with va:=f.va++[x]} (w2.setCell ⟨bf,3,none⟩ (.slice (some ⟨g',0,none⟩) (f.va.length+1) cap')) v1 v2 v3 (.slice (some ⟨g',0,none⟩) (f.va.length+1) cap')∧(∀br,aU bf (Ox bf br v1 v2 v3 v4) W (w2.setCell ⟨bf,3,none⟩ (.slice (some ⟨g',0,none⟩) (f.va.length+1) cap')))∧W.heap.size<=w2.heap.size∧(∀br n,n<=W.heap.size->New (Ox bf br v1 v2 v3 v4) n v1 v2 v3 (.slice (some ⟨g',0,none⟩) (f.va.length+1) cap')):=by
 obtain⟨g',cap',w2,hrun,hown,hg,hat⟩:=oP vU h.o4 [x] 0 rfl (i2 x.1 x.2) (by simp[oF]) (by unfold maxLen;omega) (by omega) h.lt
 have hb:w2.heap[bf]?=some (.cells #[v1,v2,v3,v4] 28 (0,0)):=(hg.block bf h.lt (own_ne h.o4 h.box (by decide)).symm).trans h.box
 have hlt:bf<w2.heap.size:=(lO hb)
 refine⟨g',cap',w2,hrun,hb,⟨?_,gq (h.o1.kept hg (fF h.o4 h.o1 (by decide))) (by omega),gq (h.o2.kept hg (fF h.o4 h.o2 (by decide))) (by omega),gq (h.o3.kept hg (fF h.o4 h.o3 (by decide))) (by omega),by rw[List.length_append];exact gq hown (by omega)⟩,fun br=> ?_,hg.size,fun br n hn i hi=> ?_⟩
 ·have:=heap_setCell_same w2 bf 3 _ _ (.slice (some ⟨g',0,none⟩) (f.va.length+1) cap') hb
  exact this
 ·have hB:Below bf W w2:=⟨hg.os,hg.tape,hg.output,hg.size,fun k hk'=>hg.block k (by have:=h.lt;omega) (fun e=>by have:=(h.o4.lt k e.symm).1;omega)⟩
  refine⟨hB.setCell (p:=⟨bf,3,none⟩) (Nat.le_refl _) _,fun i hi hx=> ?_⟩
  rw[Below.heap_setCell _ _ _ _ (by rintro rfl;exact hx (.inl rfl))]
  exact hg.block i hi (fun e=>hx (.inr (.inr (.inr (.inr (.inr e.symm))))))
 ·rcases hi with h|h|h|h
  ·exact .inl (.inr (.inr (.inl h)))
  ·exact .inl (.inr (.inr (.inr (.inl h))))
  ·exact .inl (.inr (.inr (.inr (.inr (.inl h)))))
  ·have h:g'=i:=by simpa [Value.ownBlock]using h
   subst h
   rcases hat with h|h
   ·exact .inl (.inr (.inr (.inr (.inr (.inr h)))))
   ·exact .inr (by omega)
end
end Go.Proofs
namespace Go.Proofs
open Tryz RowKit
variable (A1 A2 A3 A4 : Option Addr) (c1 c2 c3 c4 : Nat) (f : Pl.aL)
attribute [-go_sem] run_equalIn_agg storeVar loadVar
attribute [local go_sem] bZ bH dU aT eB
def jf (n₀ N:Nat)(w:World)(o:Option Pl.aZ)(e:Ending)(w':World):Prop:=
 aU n₀ (fun i=>i<N) w w'∧match o with
  |some c=>e=.returned (.agg (kq c))
  |none=>e=.panicked (gave 5)
theorem jf.ok {n₀ N:Nat}{w w':World}{o:Option Pl.aZ}{e:Ending}(c:Pl.aZ)(ho:o=some c)(hb:aU n₀ (fun i=>i<N) w w')(he:e=.returned (.agg (kq c))):jf n₀ N w o e w':=by subst ho;exact⟨hb,he⟩
theorem jf.no {n₀ N:Nat}{w w':World}{o:Option Pl.aZ}{e:Ending}(ho:o=none)(hb:aU n₀ (fun i=>i<N) w w')(he:e=.panicked (gave 5)):jf n₀ N w o e w':=by subst ho;exact⟨hb,he⟩
theorem bB.more {w:World}{B B':Nat}{A1 A2 A3 A4:Option Addr}{f:Pl.aL}(h:bB w B A1 A2 A3 A4 f)(hB:B<=B'):bB w B' A1 A2 A3 A4 f:=⟨h.st.more hB,h.li.more hB,h.pa.more hB,h.va.more hB⟩
theorem bB.below {w w':World}{B:Nat}{A1 A2 A3 A4:Option Addr}{f:Pl.aL}(h:bB w B A1 A2 A3 A4 f)(hb:Below B w w'):bB w' B A1 A2 A3 A4 f:=⟨h.st.below hb,h.li.below hb,h.pa.below hb,h.va.below hb⟩
theorem Bj (f:Pl.aL)(l fr:ByteArray)(size er:Int)(year:Int):Pl.looked f ⟨1,l,⟨#[]⟩,fr,⟨#[]⟩,size,er,Pl.bF.zero⟩ year=(Pl.eX f l).bind fun(i0:Nat)=>(Pl.dW f fr).bind fun(i1:Nat)=>some (⟨1,((i0:Nat):Int),0,((i1:Nat):Int),0,size,er,Pl.bF.zero⟩:Pl.aZ):=by
 unfold Pl.looked
 cases Pl.eX f l<;>cases Pl.dW f fr<;>rfl
theorem FK (n₀ N:Nat)(l fr:ByteArray)(size er:Int)(b0 b1 b2 b3:Nat)(year:Int)(w:World)(hf:bB w n₀ A1 A2 A3 A4 f)(hn:n₀<=w.heap.size)(hm:Small f)
  (k0:w.heap[b0]?=some (.cells #[.string l] 9 (0,0))) (k1:w.heap[b1]?=some (.cells #[.string fr] 9 (0,0))) (k2:w.heap[b2]?=some (.cells #[.int .i64 size] 3 (0,0))) (k3:w.heap[b3]?=some (.cells #[.int .i64 er] 3 (0,0))):
  Calls prog 223 #[.agg (fq A1 A2 A3 A4 c1 c2 c3 c4 f),.int .i64 year,.pointer (some ⟨b0,0,none⟩),.pointer (some ⟨b1,0,none⟩),.pointer (some ⟨b2,0,none⟩),.pointer (some ⟨b3,0,none⟩)] w (jf n₀ N w (Pl.looked f ⟨1,l,⟨#[]⟩,fr,⟨#[]⟩,size,er,Pl.bF.zero⟩ year)):=by
 have zl:=(lO k0)
 have zm:=(lO k1)
 have zn:=(lO k2)
 have FL:=(lO k3)
 have HL:=Lib.hid (Bj f l fr size er year)
 have kf:=heap_alloc2_old w (.cells (fq A1 A2 A3 A4 c1 c2 c3 c4 f) 28) (.cells bP 48)
 have kr:=heap_alloc2_new w (.cells (fq A1 A2 A3 A4 c1 c2 c3 c4 f) 28) (.cells bP 48)
 have hb:Below w.heap.size w ((w.alloc (.cells (fq A1 A2 A3 A4 c1 c2 c3 c4 f) 28)).alloc (.cells bP 48)):=((Below.refl _ w).alloc (Nat.le_refl _) _).alloc (by simp) _
 have k0:=(hb.block b0 (lO k0)).trans k0
 have k1:=(hb.block b1 (lO k1)).trans k1
 have k2:=(hb.block b2 (lO k2)).trans k2
 have k3:=(hb.block b3 (lO k3)).trans k3
 go_enter func223,ntmps223
 go_wp2
 generalize (w.alloc (.cells (fq A1 A2 A3 A4 c1 c2 c3 c4 f) 28)).alloc (.cells bP 48)=W0 at*
 have hlt:=(lO kr)
 refine wp_region_held_drew (S:=fun W=>(loadVar 28 ⟨w.heap.size,0,none⟩).run prog W=.ok (.agg (fq A1 A2 A3 A4 c1 c2 c3 c4 f)) W∧W.cell? ⟨b0,0,none⟩=some (.string l)∧W.cell? ⟨b1,0,none⟩=some (.string fr)∧W.cell? ⟨b2,0,none⟩=some (.int .i64 size)∧W.cell? ⟨b3,0,none⟩=some (.int .i64 er)) (by kernel_rfl) ⟨ak kf underlying28 rfl av,(ah k0).1 0,(ah k1).1 0,(ah k2).1 0,(ah k3).1 0⟩ (fun hHeld=> ?_)
 have hb:Below w.heap.size w W0.drew:=hb.drew
 have kf:W0.drew.heap[w.heap.size]?=_:=kf
 have kr:W0.drew.heap[w.heap.size+1]?=_:=kr
 have k0:W0.drew.heap[b0]?=_:=k0
 have k1:W0.drew.heap[b1]?=_:=k1
 have k2:W0.drew.heap[b2]?=_:=k2
 have k3:W0.drew.heap[b3]?=_:=k3
 have hlt:w.heap.size+1<W0.drew.heap.size:=hlt
 generalize W0.drew=W0 at*
 refine tJ 0 9 rfl rfl ?_
 try simp only[au]
 refine tJ 1 10 rfl rfl ?_
 try simp only[au]
 refine tJ 3 12 rfl rfl ?_
 try simp only[au]
 refine tJ 4 13 rfl rfl ?_
 try simp only[au]
 refine tJ 6 15 rfl rfl ?_
 try simp only[au]
 refine tJ 7 16 rfl rfl ?_
 try simp only[au]
 refine wpAnyH_ready (rs:=[2]) (by kernel_rfl) (by simp) ?_
 refine aI (some 11) rfl rfl (fun K hK=> ?_) AllReadyH.nil
 go_simp
 refine(iX A1 A2 A3 A4 c1 c2 c3 c4 f l _ ((hf.below (hb.mono hn)).more (by have:=hb.size;omega)).li hm.li).mono ?_
 rintro e w1 ⟨he,hx⟩
 have hb:Below w.heap.size w w1:=hb.trans (hx.mono hb.size)
 cases h0:Pl.eX f l with
 |none=>
  rw[h0]at he
  subst he
  exact⟨rfl,jf.no (by rw[HL.out,h0];rfl) (aU.of_below hb hn) rfl⟩
 |some i0=>
 rw[h0]at he
 subst he
 have H0:=Lib.hid h0
 clear h0
 have kf:=kE hx kf
 have kr:=kE hx kr
 have k0:=kE hx k0
 have k1:=kE hx k1
 have k2:=kE hx k2
 have k3:=kE hx k3
 clear hx
 refine hK.out _ _ ⟨ak kf underlying28 rfl av,(ah k0).1 0,(ah k1).1 0,(ah k2).1 0,(ah k3).1 0⟩ (fun hHeld=> ?_)
 clear hK K
 try simp only[au]
 refine wpAnyH_ready (rs:=[5]) (by kernel_rfl) (by simp) ?_
 refine aI (some 14) rfl rfl (fun K hK=> ?_) AllReadyH.nil
 go_simp
 refine(eF A1 A2 A3 A4 c1 c2 c3 c4 f fr _ ((hf.below (hb.mono hn)).more (by have:=hb.size;omega)).st hm.st).mono ?_
 rintro e w2 ⟨he,hx⟩
 have hb:Below w.heap.size w w2:=hb.trans (hx.mono hb.size)
 cases h1:Pl.dW f fr with
 |none=>
  rw[h1]at he
  subst he
  exact⟨rfl,jf.no (by rw[HL.out,H0.out,h1];rfl) (aU.of_below hb hn) rfl⟩
 |some i1=>
 rw[h1]at he
 subst he
 have H1:=Lib.hid h1
 clear h1
 have kf:=kE hx kf
 have kr:=kE hx kr
 have k0:=kE hx k0
 have k1:=kE hx k1
 have k2:=kE hx k2
 have k3:=kE hx k3
 clear hx
 refine hK.out _ _ ⟨ak kf underlying28 rfl av,(ah k0).1 0,(ah k1).1 0,(ah k2).1 0,(ah k3).1 0⟩ (fun hHeld=> ?_)
 clear hK K
 try simp only[au]
 refine tJ 8 17 rfl rfl ?_
 try simp only[au]
 obtain⟨W5,hst,FM,hg⟩:=aG _ (w.heap.size+1) _ 48 _ (ka 1 (i0:Int) 0 (i1:Int) 0 size er) kr aj rfl (by simp[Value.oneCell'])
 have hld:=ak FM underlying48 rfl aj
 have hb5:Below w.heap.size w W5:=hb.grown hg hb.size (fun k e=>by cases e;omega)
 have kf:=(hg.block _ (lO kf) (by simp)).trans kf
 have k0:=(hg.block _ (lO k0) (by have:=zl;simp;omega)).trans k0
 have k1:=(hg.block _ (lO k1) (by have:=zm;simp;omega)).trans k1
 have k2:=(hg.block _ (lO k2) (by have:=zn;simp;omega)).trans k2
 have k3:=(hg.block _ (lO k3) (by have:=FL;simp;omega)).trans k3
 refine wpAnyH_ready (rs:=[9]) (by kernel_rfl) (by simp) ?_
 refine aI none rfl rfl (fun K hK=> ?_) AllReadyH.nil
 go_simp
 refine hK.out _ _ ⟨ak kf underlying28 rfl av,(ah k0).1 0,(ah k1).1 0,(ah k2).1 0,(ah k3).1 0⟩ (fun hHeld=> ?_)
 clear hK K
 try simp only[au]
 refine wpAnyH_done (by kernel_rfl) ?_ _
 go_wp2
 refine bodyPost_ret (v:=.agg (ka 1 (i0:Int) 0 (i1:Int) 0 size er)) (by simp[results,results223,go_sem,hld]) rfl ?_
 exact jf.ok ⟨1,i0,0,i1,0,size,er,Pl.bF.zero⟩ (by rw[HL.out,H0.out,H1.out];rfl) (aU.of_below hb5 hn) rfl
theorem Bl (f:Pl.aL)(l o fr:ByteArray)(size er:Int)(year:Int):Pl.looked f ⟨2,l,o,fr,⟨#[]⟩,size,er,Pl.bF.zero⟩ year=(Pl.eX f l).bind fun(i0:Nat)=>(Pl.eX f o).bind fun(i1:Nat)=>(Pl.dW f fr).bind fun(i2:Nat)=>some (⟨2,((i0:Nat):Int),((i1:Nat):Int),((i2:Nat):Int),0,size,er,Pl.bF.zero⟩:Pl.aZ):=by
 unfold Pl.looked
 cases Pl.eX f l<;>cases Pl.eX f o<;>cases Pl.dW f fr<;>rfl
theorem FN (n₀ N:Nat)(l o fr:ByteArray)(size er:Int)(b0 b1 b2 b3 b4:Nat)(year:Int)(w:World)(hf:bB w n₀ A1 A2 A3 A4 f)(hn:n₀<=w.heap.size)(hm:Small f)
  (k0:w.heap[b0]?=some (.cells #[.string l] 9 (0,0))) (k1:w.heap[b1]?=some (.cells #[.string o] 9 (0,0))) (k2:w.heap[b2]?=some (.cells #[.string fr] 9 (0,0))) (k3:w.heap[b3]?=some (.cells #[.int .i64 size] 3 (0,0))) (k4:w.heap[b4]?=some (.cells #[.int .i64 er] 3 (0,0))):
  Calls prog 225 #[.agg (fq A1 A2 A3 A4 c1 c2 c3 c4 f),.int .i64 year,.pointer (some ⟨b0,0,none⟩),.pointer (some ⟨b1,0,none⟩),.pointer (some ⟨b2,0,none⟩),.pointer (some ⟨b3,0,none⟩),.pointer (some ⟨b4,0,none⟩)] w (jf n₀ N w (Pl.looked f ⟨2,l,o,fr,⟨#[]⟩,size,er,Pl.bF.zero⟩ year)):=by
 have zl:=(lO k0)
 have zm:=(lO k1)
 have zn:=(lO k2)
 have FL:=(lO k3)
 have QJ:=(lO k4)
 have HL:=Lib.hid (Bl f l o fr size er year)
 have kf:=heap_alloc2_old w (.cells (fq A1 A2 A3 A4 c1 c2 c3 c4 f) 28) (.cells bP 48)
 have kr:=heap_alloc2_new w (.cells (fq A1 A2 A3 A4 c1 c2 c3 c4 f) 28) (.cells bP 48)
 have hb:Below w.heap.size w ((w.alloc (.cells (fq A1 A2 A3 A4 c1 c2 c3 c4 f) 28)).alloc (.cells bP 48)):=((Below.refl _ w).alloc (Nat.le_refl _) _).alloc (by simp) _
 have k0:=(hb.block b0 (lO k0)).trans k0
 have k1:=(hb.block b1 (lO k1)).trans k1
 have k2:=(hb.block b2 (lO k2)).trans k2
 have k3:=(hb.block b3 (lO k3)).trans k3
 have k4:=(hb.block b4 (lO k4)).trans k4
 go_enter func225,ntmps225
 go_wp2
 generalize (w.alloc (.cells (fq A1 A2 A3 A4 c1 c2 c3 c4 f) 28)).alloc (.cells bP 48)=W0 at*
 have hlt:=(lO kr)
 refine wp_region_held_drew (S:=fun W=>(loadVar 28 ⟨w.heap.size,0,none⟩).run prog W=.ok (.agg (fq A1 A2 A3 A4 c1 c2 c3 c4 f)) W∧W.cell? ⟨b0,0,none⟩=some (.string l)∧W.cell? ⟨b1,0,none⟩=some (.string o)∧W.cell? ⟨b2,0,none⟩=some (.string fr)∧W.cell? ⟨b3,0,none⟩=some (.int .i64 size)∧W.cell? ⟨b4,0,none⟩=some (.int .i64 er)) (by kernel_rfl) ⟨ak kf underlying28 rfl av,(ah k0).1 0,(ah k1).1 0,(ah k2).1 0,(ah k3).1 0,(ah k4).1 0⟩ (fun hHeld=> ?_)
 have hb:Below w.heap.size w W0.drew:=hb.drew
 have kf:W0.drew.heap[w.heap.size]?=_:=kf
 have kr:W0.drew.heap[w.heap.size+1]?=_:=kr
 have k0:W0.drew.heap[b0]?=_:=k0
 have k1:W0.drew.heap[b1]?=_:=k1
 have k2:W0.drew.heap[b2]?=_:=k2
 have k3:W0.drew.heap[b3]?=_:=k3
 have k4:W0.drew.heap[b4]?=_:=k4
 have hlt:w.heap.size+1<W0.drew.heap.size:=hlt
 generalize W0.drew=W0 at*
 refine tJ 0 10 rfl rfl ?_
 try simp only[au]
 refine tJ 1 11 rfl rfl ?_
 try simp only[au]
 refine tJ 3 13 rfl rfl ?_
 try simp only[au]
 refine tJ 4 14 rfl rfl ?_
 try simp only[au]
 refine tJ 6 16 rfl rfl ?_
 try simp only[au]
 refine tJ 7 17 rfl rfl ?_
 try simp only[au]
 refine tJ 9 19 rfl rfl ?_
 try simp only[au]
 refine tJ 10 20 rfl rfl ?_
 try simp only[au]
 refine wpAnyH_ready (rs:=[2]) (by kernel_rfl) (by simp) ?_
 refine aI (some 12) rfl rfl (fun K hK=> ?_) AllReadyH.nil
 go_simp
 refine(iX A1 A2 A3 A4 c1 c2 c3 c4 f l _ ((hf.below (hb.mono hn)).more (by have:=hb.size;omega)).li hm.li).mono ?_
 rintro e w1 ⟨he,hx⟩
 have hb:Below w.heap.size w w1:=hb.trans (hx.mono hb.size)
 cases h0:Pl.eX f l with
 |none=>
  rw[h0]at he
  subst he
  exact⟨rfl,jf.no (by rw[HL.out,h0];rfl) (aU.of_below hb hn) rfl⟩
 |some i0=>
 rw[h0]at he
 subst he
 have H0:=Lib.hid h0
 clear h0
 have kf:=kE hx kf
 have kr:=kE hx kr
 have k0:=kE hx k0
 have k1:=kE hx k1
 have k2:=kE hx k2
 have k3:=kE hx k3
 have k4:=kE hx k4
 clear hx
 refine hK.out _ _ ⟨ak kf underlying28 rfl av,(ah k0).1 0,(ah k1).1 0,(ah k2).1 0,(ah k3).1 0,(ah k4).1 0⟩ (fun hHeld=> ?_)
 clear hK K
 try simp only[au]
 refine wpAnyH_ready (rs:=[5]) (by kernel_rfl) (by simp) ?_
 refine aI (some 15) rfl rfl (fun K hK=> ?_) AllReadyH.nil
 go_simp
 refine(iX A1 A2 A3 A4 c1 c2 c3 c4 f o _ ((hf.below (hb.mono hn)).more (by have:=hb.size;omega)).li hm.li).mono ?_
 rintro e w2 ⟨he,hx⟩
 have hb:Below w.heap.size w w2:=hb.trans (hx.mono hb.size)
 cases h1:Pl.eX f o with
 |none=>
  rw[h1]at he
  subst he
  exact⟨rfl,jf.no (by rw[HL.out,H0.out,h1];rfl) (aU.of_below hb hn) rfl⟩
 |some i1=>
 rw[h1]at he
 subst he
 have H1:=Lib.hid h1
 clear h1
 have kf:=kE hx kf
 have kr:=kE hx kr
 have k0:=kE hx k0
 have k1:=kE hx k1
 have k2:=kE hx k2
 have k3:=kE hx k3
 have k4:=kE hx k4
 clear hx
 refine hK.out _ _ ⟨ak kf underlying28 rfl av,(ah k0).1 0,(ah k1).1 0,(ah k2).1 0,(ah k3).1 0,(ah k4).1 0⟩ (fun hHeld=> ?_)
 clear hK K
 try simp only[au]
 refine wpAnyH_ready (rs:=[8]) (by kernel_rfl) (by simp) ?_
 refine aI (some 18) rfl rfl (fun K hK=> ?_) AllReadyH.nil
 go_simp
 refine(eF A1 A2 A3 A4 c1 c2 c3 c4 f fr _ ((hf.below (hb.mono hn)).more (by have:=hb.size;omega)).st hm.st).mono ?_
 rintro e w3 ⟨he,hx⟩
 have hb:Below w.heap.size w w3:=hb.trans (hx.mono hb.size)
 cases h2:Pl.dW f fr with
 |none=>
  rw[h2]at he
  subst he
  exact⟨rfl,jf.no (by rw[HL.out,H0.out,H1.out,h2];rfl) (aU.of_below hb hn) rfl⟩
 |some i2=>
 rw[h2]at he
 subst he
 have H2:=Lib.hid h2
 clear h2
 have kf:=kE hx kf
 have kr:=kE hx kr
 have k0:=kE hx k0
 have k1:=kE hx k1
 have k2:=kE hx k2
 have k3:=kE hx k3
 have k4:=kE hx k4
 clear hx
 refine hK.out _ _ ⟨ak kf underlying28 rfl av,(ah k0).1 0,(ah k1).1 0,(ah k2).1 0,(ah k3).1 0,(ah k4).1 0⟩ (fun hHeld=> ?_)
 clear hK K
 try simp only[au]
 refine tJ 11 21 rfl rfl ?_
 try simp only[au]
 obtain⟨W5,hst,FM,hg⟩:=aG _ (w.heap.size+1) _ 48 _ (ka 2 (i0:Int) (i1:Int) (i2:Int) 0 size er) kr aj rfl (by simp[Value.oneCell'])
 have hld:=ak FM underlying48 rfl aj
 have hb5:Below w.heap.size w W5:=hb.grown hg hb.size (fun k e=>by cases e;omega)
 have kf:=(hg.block _ (lO kf) (by simp)).trans kf
 have k0:=(hg.block _ (lO k0) (by have:=zl;simp;omega)).trans k0
 have k1:=(hg.block _ (lO k1) (by have:=zm;simp;omega)).trans k1
 have k2:=(hg.block _ (lO k2) (by have:=zn;simp;omega)).trans k2
 have k3:=(hg.block _ (lO k3) (by have:=FL;simp;omega)).trans k3
 have k4:=(hg.block _ (lO k4) (by have:=QJ;simp;omega)).trans k4
 refine wpAnyH_ready (rs:=[12]) (by kernel_rfl) (by simp) ?_
 refine aI none rfl rfl (fun K hK=> ?_) AllReadyH.nil
 go_simp
 refine hK.out _ _ ⟨ak kf underlying28 rfl av,(ah k0).1 0,(ah k1).1 0,(ah k2).1 0,(ah k3).1 0,(ah k4).1 0⟩ (fun hHeld=> ?_)
 clear hK K
 try simp only[au]
 refine wpAnyH_done (by kernel_rfl) ?_ _
 go_wp2
 refine bodyPost_ret (v:=.agg (ka 2 (i0:Int) (i1:Int) (i2:Int) 0 size er)) (by simp[results,results225,go_sem,hld]) rfl ?_
 exact jf.ok ⟨2,i0,i1,i2,0,size,er,Pl.bF.zero⟩ (by rw[HL.out,H0.out,H1.out,H2.out];rfl) (aU.of_below hb5 hn) rfl
theorem Bn (f:Pl.aL)(l o fr t:ByteArray)(year:Int):Pl.looked f ⟨4,l,o,fr,t,0,0,Pl.bF.zero⟩ year=(Pl.eX f l).bind fun(i0:Nat)=>(Pl.eX f o).bind fun(i1:Nat)=>(Pl.dW f fr).bind fun(i2:Nat)=>(Pl.dW f t).bind fun(i3:Nat)=>some (⟨4,((i0:Nat):Int),((i1:Nat):Int),((i2:Nat):Int),((i3:Nat):Int),0,0,Pl.bF.zero⟩:Pl.aZ):=by
 unfold Pl.looked
 cases Pl.eX f l<;>cases Pl.eX f o<;>cases Pl.dW f fr<;>cases Pl.dW f t<;>rfl
theorem FP (n₀ N:Nat)(l o fr t:ByteArray)(b0 b1 b2 b3:Nat)(year:Int)(w:World)(hf:bB w n₀ A1 A2 A3 A4 f)(hn:n₀<=w.heap.size)(hm:Small f)
  (k0:w.heap[b0]?=some (.cells #[.string l] 9 (0,0))) (k1:w.heap[b1]?=some (.cells #[.string o] 9 (0,0))) (k2:w.heap[b2]?=some (.cells #[.string fr] 9 (0,0))) (k3:w.heap[b3]?=some (.cells #[.string t] 9 (0,0))):
  Calls prog 227 #[.agg (fq A1 A2 A3 A4 c1 c2 c3 c4 f),.int .i64 year,.pointer (some ⟨b0,0,none⟩),.pointer (some ⟨b1,0,none⟩),.pointer (some ⟨b2,0,none⟩),.pointer (some ⟨b3,0,none⟩)] w (jf n₀ N w (Pl.looked f ⟨4,l,o,fr,t,0,0,Pl.bF.zero⟩ year)):=by
 have zl:=(lO k0)
 have zm:=(lO k1)
 have zn:=(lO k2)
 have FL:=(lO k3)
 have HL:=Lib.hid (Bn f l o fr t year)
 have kf:=heap_alloc2_old w (.cells (fq A1 A2 A3 A4 c1 c2 c3 c4 f) 28) (.cells bP 48)
 have kr:=heap_alloc2_new w (.cells (fq A1 A2 A3 A4 c1 c2 c3 c4 f) 28) (.cells bP 48)
 have hb:Below w.heap.size w ((w.alloc (.cells (fq A1 A2 A3 A4 c1 c2 c3 c4 f) 28)).alloc (.cells bP 48)):=((Below.refl _ w).alloc (Nat.le_refl _) _).alloc (by simp) _
 have k0:=(hb.block b0 (lO k0)).trans k0
 have k1:=(hb.block b1 (lO k1)).trans k1
 have k2:=(hb.block b2 (lO k2)).trans k2
 have k3:=(hb.block b3 (lO k3)).trans k3
 go_enter func227,ntmps227
 go_wp2
 generalize (w.alloc (.cells (fq A1 A2 A3 A4 c1 c2 c3 c4 f) 28)).alloc (.cells bP 48)=W0 at*
 have hlt:=(lO kr)
 refine wp_region_held_drew (S:=fun W=>(loadVar 28 ⟨w.heap.size,0,none⟩).run prog W=.ok (.agg (fq A1 A2 A3 A4 c1 c2 c3 c4 f)) W∧W.cell? ⟨b0,0,none⟩=some (.string l)∧W.cell? ⟨b1,0,none⟩=some (.string o)∧W.cell? ⟨b2,0,none⟩=some (.string fr)∧W.cell? ⟨b3,0,none⟩=some (.string t)) (by kernel_rfl) ⟨ak kf underlying28 rfl av,(ah k0).1 0,(ah k1).1 0,(ah k2).1 0,(ah k3).1 0⟩ (fun hHeld=> ?_)
 have hb:Below w.heap.size w W0.drew:=hb.drew
 have kf:W0.drew.heap[w.heap.size]?=_:=kf
 have kr:W0.drew.heap[w.heap.size+1]?=_:=kr
 have k0:W0.drew.heap[b0]?=_:=k0
 have k1:W0.drew.heap[b1]?=_:=k1
 have k2:W0.drew.heap[b2]?=_:=k2
 have k3:W0.drew.heap[b3]?=_:=k3
 have hlt:w.heap.size+1<W0.drew.heap.size:=hlt
 generalize W0.drew=W0 at*
 refine tJ 0 9 rfl rfl ?_
 try simp only[au]
 refine tJ 1 10 rfl rfl ?_
 try simp only[au]
 refine tJ 3 12 rfl rfl ?_
 try simp only[au]
 refine tJ 4 13 rfl rfl ?_
 try simp only[au]
 refine tJ 6 15 rfl rfl ?_
 try simp only[au]
 refine tJ 7 16 rfl rfl ?_
 try simp only[au]
 refine tJ 9 18 rfl rfl ?_
 try simp only[au]
 refine tJ 10 19 rfl rfl ?_
 try simp only[au]
 refine wpAnyH_ready (rs:=[2]) (by kernel_rfl) (by simp) ?_
 refine aI (some 11) rfl rfl (fun K hK=> ?_) AllReadyH.nil
 go_simp
 refine(iX A1 A2 A3 A4 c1 c2 c3 c4 f l _ ((hf.below (hb.mono hn)).more (by have:=hb.size;omega)).li hm.li).mono ?_
 rintro e w1 ⟨he,hx⟩
 have hb:Below w.heap.size w w1:=hb.trans (hx.mono hb.size)
 cases h0:Pl.eX f l with
 |none=>
  rw[h0]at he
  subst he
  exact⟨rfl,jf.no (by rw[HL.out,h0];rfl) (aU.of_below hb hn) rfl⟩
 |some i0=>
 rw[h0]at he
 subst he
 have H0:=Lib.hid h0
 clear h0
 have kf:=kE hx kf
 have kr:=kE hx kr
 have k0:=kE hx k0
 have k1:=kE hx k1
 have k2:=kE hx k2
 have k3:=kE hx k3
 clear hx
 refine hK.out _ _ ⟨ak kf underlying28 rfl av,(ah k0).1 0,(ah k1).1 0,(ah k2).1 0,(ah k3).1 0⟩ (fun hHeld=> ?_)
 clear hK K
 try simp only[au]
 refine wpAnyH_ready (rs:=[5]) (by kernel_rfl) (by simp) ?_
 refine aI (some 14) rfl rfl (fun K hK=> ?_) AllReadyH.nil
 go_simp
 refine(iX A1 A2 A3 A4 c1 c2 c3 c4 f o _ ((hf.below (hb.mono hn)).more (by have:=hb.size;omega)).li hm.li).mono ?_
 rintro e w2 ⟨he,hx⟩
 have hb:Below w.heap.size w w2:=hb.trans (hx.mono hb.size)
 cases h1:Pl.eX f o with
 |none=>
  rw[h1]at he
  subst he
  exact⟨rfl,jf.no (by rw[HL.out,H0.out,h1];rfl) (aU.of_below hb hn) rfl⟩
 |some i1=>
 rw[h1]at he
 subst he
 have H1:=Lib.hid h1
 clear h1
 have kf:=kE hx kf
 have kr:=kE hx kr
 have k0:=kE hx k0
 have k1:=kE hx k1
 have k2:=kE hx k2
 have k3:=kE hx k3
 clear hx
 refine hK.out _ _ ⟨ak kf underlying28 rfl av,(ah k0).1 0,(ah k1).1 0,(ah k2).1 0,(ah k3).1 0⟩ (fun hHeld=> ?_)
 clear hK K
 try simp only[au]
 refine wpAnyH_ready (rs:=[8]) (by kernel_rfl) (by simp) ?_
 refine aI (some 17) rfl rfl (fun K hK=> ?_) AllReadyH.nil
 go_simp
 refine(eF A1 A2 A3 A4 c1 c2 c3 c4 f fr _ ((hf.below (hb.mono hn)).more (by have:=hb.size;omega)).st hm.st).mono ?_
 rintro e w3 ⟨he,hx⟩
 have hb:Below w.heap.size w w3:=hb.trans (hx.mono hb.size)
 cases h2:Pl.dW f fr with
 |none=>
  rw[h2]at he
  subst he
  exact⟨rfl,jf.no (by rw[HL.out,H0.out,H1.out,h2];rfl) (aU.of_below hb hn) rfl⟩
 |some i2=>
 rw[h2]at he
 subst he
 have H2:=Lib.hid h2
 clear h2
 have kf:=kE hx kf
 have kr:=kE hx kr
 have k0:=kE hx k0
 have k1:=kE hx k1
 have k2:=kE hx k2
 have k3:=kE hx k3
 clear hx
 refine hK.out _ _ ⟨ak kf underlying28 rfl av,(ah k0).1 0,(ah k1).1 0,(ah k2).1 0,(ah k3).1 0⟩ (fun hHeld=> ?_)
 clear hK K
 try simp only[au]
 refine wpAnyH_ready (rs:=[11]) (by kernel_rfl) (by simp) ?_
 refine aI (some 20) rfl rfl (fun K hK=> ?_) AllReadyH.nil
 go_simp
 refine(eF A1 A2 A3 A4 c1 c2 c3 c4 f t _ ((hf.below (hb.mono hn)).more (by have:=hb.size;omega)).st hm.st).mono ?_
 rintro e w4 ⟨he,hx⟩
 have hb:Below w.heap.size w w4:=hb.trans (hx.mono hb.size)
 cases h3:Pl.dW f t with
 |none=>
  rw[h3]at he
  subst he
  exact⟨rfl,jf.no (by rw[HL.out,H0.out,H1.out,H2.out,h3];rfl) (aU.of_below hb hn) rfl⟩
 |some i3=>
 rw[h3]at he
 subst he
 have H3:=Lib.hid h3
 clear h3
 have kf:=kE hx kf
 have kr:=kE hx kr
 have k0:=kE hx k0
 have k1:=kE hx k1
 have k2:=kE hx k2
 have k3:=kE hx k3
 clear hx
 refine hK.out _ _ ⟨ak kf underlying28 rfl av,(ah k0).1 0,(ah k1).1 0,(ah k2).1 0,(ah k3).1 0⟩ (fun hHeld=> ?_)
 clear hK K
 try simp only[au]
 refine tJ 12 21 rfl rfl ?_
 try simp only[au]
 obtain⟨W5,hst,FM,hg⟩:=aG _ (w.heap.size+1) _ 48 _ (ka 4 (i0:Int) (i1:Int) (i2:Int) (i3:Int) 0 0) kr aj rfl (by simp[Value.oneCell'])
 have hld:=ak FM underlying48 rfl aj
 have hb5:Below w.heap.size w W5:=hb.grown hg hb.size (fun k e=>by cases e;omega)
 have kf:=(hg.block _ (lO kf) (by simp)).trans kf
 have k0:=(hg.block _ (lO k0) (by have:=zl;simp;omega)).trans k0
 have k1:=(hg.block _ (lO k1) (by have:=zm;simp;omega)).trans k1
 have k2:=(hg.block _ (lO k2) (by have:=zn;simp;omega)).trans k2
 have k3:=(hg.block _ (lO k3) (by have:=FL;simp;omega)).trans k3
 refine wpAnyH_ready (rs:=[13]) (by kernel_rfl) (by simp) ?_
 refine aI none rfl rfl (fun K hK=> ?_) AllReadyH.nil
 go_simp
 refine hK.out _ _ ⟨ak kf underlying28 rfl av,(ah k0).1 0,(ah k1).1 0,(ah k2).1 0,(ah k3).1 0⟩ (fun hHeld=> ?_)
 clear hK K
 try simp only[au]
 refine wpAnyH_done (by kernel_rfl) ?_ _
 go_wp2
 refine bodyPost_ret (v:=.agg (ka 4 (i0:Int) (i1:Int) (i2:Int) (i3:Int) 0 0)) (by simp[results,results227,go_sem,hld]) rfl ?_
 exact jf.ok ⟨4,i0,i1,i2,i3,0,0,Pl.bF.zero⟩ (by rw[HL.out,H0.out,H1.out,H2.out,H3.out];rfl) (aU.of_below hb5 hn) rfl
theorem Bo (f:Pl.aL)(l fr t:ByteArray)(size er:Int)(year:Int):Pl.looked f ⟨5,l,⟨#[]⟩,fr,t,size,er,Pl.bF.zero⟩ year=(Pl.eX f l).bind fun(i0:Nat)=>(Pl.dW f fr).bind fun(i1:Nat)=>(Pl.dW f t).bind fun(i2:Nat)=>some (⟨5,((i0:Nat):Int),0,((i1:Nat):Int),((i2:Nat):Int),size,er,Pl.bF.zero⟩:Pl.aZ):=by
 unfold Pl.looked
 cases Pl.eX f l<;>cases Pl.dW f fr<;>cases Pl.dW f t<;>rfl
theorem FQ (n₀ N:Nat)(l fr t:ByteArray)(size er:Int)(b0 b1 b2 b3 b4:Nat)(year:Int)(w:World)(hf:bB w n₀ A1 A2 A3 A4 f)(hn:n₀<=w.heap.size)(hm:Small f)
  (k0:w.heap[b0]?=some (.cells #[.string l] 9 (0,0))) (k1:w.heap[b1]?=some (.cells #[.string fr] 9 (0,0))) (k2:w.heap[b2]?=some (.cells #[.string t] 9 (0,0))) (k3:w.heap[b3]?=some (.cells #[.int .i64 size] 3 (0,0))) (k4:w.heap[b4]?=some (.cells #[.int .i64 er] 3 (0,0))):
  Calls prog 229 #[.agg (fq A1 A2 A3 A4 c1 c2 c3 c4 f),.int .i64 year,.pointer (some ⟨b0,0,none⟩),.pointer (some ⟨b1,0,none⟩),.pointer (some ⟨b2,0,none⟩),.pointer (some ⟨b3,0,none⟩),.pointer (some ⟨b4,0,none⟩)] w (jf n₀ N w (Pl.looked f ⟨5,l,⟨#[]⟩,fr,t,size,er,Pl.bF.zero⟩ year)):=by
 have zl:=(lO k0)
 have zm:=(lO k1)
 have zn:=(lO k2)
 have FL:=(lO k3)
 have QJ:=(lO k4)
 have HL:=Lib.hid (Bo f l fr t size er year)
 have kf:=heap_alloc2_old w (.cells (fq A1 A2 A3 A4 c1 c2 c3 c4 f) 28) (.cells bP 48)
 have kr:=heap_alloc2_new w (.cells (fq A1 A2 A3 A4 c1 c2 c3 c4 f) 28) (.cells bP 48)
 have hb:Below w.heap.size w ((w.alloc (.cells (fq A1 A2 A3 A4 c1 c2 c3 c4 f) 28)).alloc (.cells bP 48)):=((Below.refl _ w).alloc (Nat.le_refl _) _).alloc (by simp) _
 have k0:=(hb.block b0 (lO k0)).trans k0
 have k1:=(hb.block b1 (lO k1)).trans k1
 have k2:=(hb.block b2 (lO k2)).trans k2
 have k3:=(hb.block b3 (lO k3)).trans k3
 have k4:=(hb.block b4 (lO k4)).trans k4
 go_enter func229,ntmps229
 go_wp2
 generalize (w.alloc (.cells (fq A1 A2 A3 A4 c1 c2 c3 c4 f) 28)).alloc (.cells bP 48)=W0 at*
 have hlt:=(lO kr)
 refine wp_region_held_drew (S:=fun W=>(loadVar 28 ⟨w.heap.size,0,none⟩).run prog W=.ok (.agg (fq A1 A2 A3 A4 c1 c2 c3 c4 f)) W∧W.cell? ⟨b0,0,none⟩=some (.string l)∧W.cell? ⟨b1,0,none⟩=some (.string fr)∧W.cell? ⟨b2,0,none⟩=some (.string t)∧W.cell? ⟨b3,0,none⟩=some (.int .i64 size)∧W.cell? ⟨b4,0,none⟩=some (.int .i64 er)) (by kernel_rfl) ⟨ak kf underlying28 rfl av,(ah k0).1 0,(ah k1).1 0,(ah k2).1 0,(ah k3).1 0,(ah k4).1 0⟩ (fun hHeld=> ?_)
 have hb:Below w.heap.size w W0.drew:=hb.drew
 have kf:W0.drew.heap[w.heap.size]?=_:=kf
 have kr:W0.drew.heap[w.heap.size+1]?=_:=kr
 have k0:W0.drew.heap[b0]?=_:=k0
 have k1:W0.drew.heap[b1]?=_:=k1
 have k2:W0.drew.heap[b2]?=_:=k2
 have k3:W0.drew.heap[b3]?=_:=k3
 have k4:W0.drew.heap[b4]?=_:=k4
 have hlt:w.heap.size+1<W0.drew.heap.size:=hlt
 generalize W0.drew=W0 at*
 refine tJ 0 10 rfl rfl ?_
 try simp only[au]
 refine tJ 1 11 rfl rfl ?_
 try simp only[au]
 refine tJ 3 13 rfl rfl ?_
 try simp only[au]
 refine tJ 4 14 rfl rfl ?_
 try simp only[au]
 refine tJ 6 16 rfl rfl ?_
 try simp only[au]
 refine tJ 7 17 rfl rfl ?_
 try simp only[au]
 refine tJ 9 19 rfl rfl ?_
 try simp only[au]
 refine tJ 10 20 rfl rfl ?_
 try simp only[au]
 refine wpAnyH_ready (rs:=[2]) (by kernel_rfl) (by simp) ?_
 refine aI (some 12) rfl rfl (fun K hK=> ?_) AllReadyH.nil
 go_simp
 refine(iX A1 A2 A3 A4 c1 c2 c3 c4 f l _ ((hf.below (hb.mono hn)).more (by have:=hb.size;omega)).li hm.li).mono ?_
 rintro e w1 ⟨he,hx⟩
 have hb:Below w.heap.size w w1:=hb.trans (hx.mono hb.size)
 cases h0:Pl.eX f l with
 |none=>
  rw[h0]at he
  subst he
  exact⟨rfl,jf.no (by rw[HL.out,h0];rfl) (aU.of_below hb hn) rfl⟩
 |some i0=>
 rw[h0]at he
 subst he
 have H0:=Lib.hid h0
 clear h0
 have kf:=kE hx kf
 have kr:=kE hx kr
 have k0:=kE hx k0
 have k1:=kE hx k1
 have k2:=kE hx k2
 have k3:=kE hx k3
 have k4:=kE hx k4
 clear hx
 refine hK.out _ _ ⟨ak kf underlying28 rfl av,(ah k0).1 0,(ah k1).1 0,(ah k2).1 0,(ah k3).1 0,(ah k4).1 0⟩ (fun hHeld=> ?_)
 clear hK K
 try simp only[au]
 refine wpAnyH_ready (rs:=[5]) (by kernel_rfl) (by simp) ?_
 refine aI (some 15) rfl rfl (fun K hK=> ?_) AllReadyH.nil
 go_simp
 refine(eF A1 A2 A3 A4 c1 c2 c3 c4 f fr _ ((hf.below (hb.mono hn)).more (by have:=hb.size;omega)).st hm.st).mono ?_
 rintro e w2 ⟨he,hx⟩
 have hb:Below w.heap.size w w2:=hb.trans (hx.mono hb.size)
 cases h1:Pl.dW f fr with
 |none=>
  rw[h1]at he
  subst he
  exact⟨rfl,jf.no (by rw[HL.out,H0.out,h1];rfl) (aU.of_below hb hn) rfl⟩
 |some i1=>
 rw[h1]at he
 subst he
 have H1:=Lib.hid h1
 clear h1
 have kf:=kE hx kf
 have kr:=kE hx kr
 have k0:=kE hx k0
 have k1:=kE hx k1
 have k2:=kE hx k2
 have k3:=kE hx k3
 have k4:=kE hx k4
 clear hx
 refine hK.out _ _ ⟨ak kf underlying28 rfl av,(ah k0).1 0,(ah k1).1 0,(ah k2).1 0,(ah k3).1 0,(ah k4).1 0⟩ (fun hHeld=> ?_)
 clear hK K
 try simp only[au]
 refine wpAnyH_ready (rs:=[8]) (by kernel_rfl) (by simp) ?_
 refine aI (some 18) rfl rfl (fun K hK=> ?_) AllReadyH.nil
 go_simp
 refine(eF A1 A2 A3 A4 c1 c2 c3 c4 f t _ ((hf.below (hb.mono hn)).more (by have:=hb.size;omega)).st hm.st).mono ?_
 rintro e w3 ⟨he,hx⟩
 have hb:Below w.heap.size w w3:=hb.trans (hx.mono hb.size)
 cases h2:Pl.dW f t with
 |none=>
  rw[h2]at he
  subst he
  exact⟨rfl,jf.no (by rw[HL.out,H0.out,H1.out,h2];rfl) (aU.of_below hb hn) rfl⟩
 |some i2=>
 rw[h2]at he
 subst he
 have H2:=Lib.hid h2
 clear h2
 have kf:=kE hx kf
 have kr:=kE hx kr
 have k0:=kE hx k0
 have k1:=kE hx k1
 have k2:=kE hx k2
 have k3:=kE hx k3
 have k4:=kE hx k4
 clear hx
 refine hK.out _ _ ⟨ak kf underlying28 rfl av,(ah k0).1 0,(ah k1).1 0,(ah k2).1 0,(ah k3).1 0,(ah k4).1 0⟩ (fun hHeld=> ?_)
 clear hK K
 try simp only[au]
 refine tJ 11 21 rfl rfl ?_
 try simp only[au]
 obtain⟨W5,hst,FM,hg⟩:=aG _ (w.heap.size+1) _ 48 _ (ka 5 (i0:Int) 0 (i1:Int) (i2:Int) size er) kr aj rfl (by simp[Value.oneCell'])
 have hld:=ak FM underlying48 rfl aj
 have hb5:Below w.heap.size w W5:=hb.grown hg hb.size (fun k e=>by cases e;omega)
 have kf:=(hg.block _ (lO kf) (by simp)).trans kf
 have k0:=(hg.block _ (lO k0) (by have:=zl;simp;omega)).trans k0
 have k1:=(hg.block _ (lO k1) (by have:=zm;simp;omega)).trans k1
 have k2:=(hg.block _ (lO k2) (by have:=zn;simp;omega)).trans k2
 have k3:=(hg.block _ (lO k3) (by have:=FL;simp;omega)).trans k3
 have k4:=(hg.block _ (lO k4) (by have:=QJ;simp;omega)).trans k4
 refine wpAnyH_ready (rs:=[12]) (by kernel_rfl) (by simp) ?_
 refine aI none rfl rfl (fun K hK=> ?_) AllReadyH.nil
 go_simp
 refine hK.out _ _ ⟨ak kf underlying28 rfl av,(ah k0).1 0,(ah k1).1 0,(ah k2).1 0,(ah k3).1 0,(ah k4).1 0⟩ (fun hHeld=> ?_)
 clear hK K
 try simp only[au]
 refine wpAnyH_done (by kernel_rfl) ?_ _
 go_wp2
 refine bodyPost_ret (v:=.agg (ka 5 (i0:Int) 0 (i1:Int) (i2:Int) size er)) (by simp[results,results229,go_sem,hld]) rfl ?_
 exact jf.ok ⟨5,i0,0,i1,i2,size,er,Pl.bF.zero⟩ (by rw[HL.out,H0.out,H1.out,H2.out];rfl) (aU.of_below hb5 hn) rfl
