/- Proved: parts of the walk. -/
import Derived.Test.YtgbpekeoegfjpaaGreatDoorYZ05
namespace Go.Proofs
open Tryz RowKit
attribute [-go_sem] Builtin.append_
section
variable {α : Type} {enc : α -> List Value} {ST ET : TypeId} {z : Value} {size bytes : Nat}
theorem oP (L:Lay enc ST ET z size bytes){n₀ k:Nat}{w1:World}{v:Value}{l:List α}(hr:w1.ownsRow n₀ ET size v k (l.flatMap enc))(r:List α)(m:Nat)(hm:r.length=m+1)(cs:Array Value)(hcs:cs.toList=r.flatMap enc)
  (h63:k+(m+1)<=maxLen) (hb:(k+(m+1))*bytes<=140737488355328) (hn:n₀<=w1.heap.size):
  ∃g' cap' w2,(Builtin.append_ #[ST,ST] ST #[v,.slice (some ⟨w1.heap.size,0,none⟩) (m+1) (m+1)]).run prog (w1.alloc (.cells cs ET))=.ok (.slice (some ⟨g',0,none⟩) (k+(m+1)) cap') w2∧
   w2.ownsRow n₀ ET size (.slice (some ⟨g',0,none⟩) (k+(m+1)) cap') (k+(m+1)) ((l++r).flatMap enc)∧w1.grownBy w2 v.ownBlock∧(v.ownBlock=some g'∨w1.heap.size<=g'):=by
 obtain⟨i0,hi0,hz0,hz1,hz2⟩:=info_parts L.hi
 have hcell: ∀j u,(r.flatMap enc)[j]?=some u->(w1.alloc (.cells cs ET)).cell? ((⟨w1.heap.size,0,none⟩:Addr).add j)=some u:=by
  intro j u hj
  rw[Go.WideShapes.add_plain,Nat.zero_add,(ah (World.alloc_heap_new w1 (.cells cs ET))).1,<-Array.getElem?_toList,hcs]
  exact hj
 have hone: ∀u∈r.flatMap enc,u.oneCell'=true:=by
  intro u hu
  obtain⟨x,_,hx⟩:=List.mem_flatMap.1 hu
  exact L.hone x u hx
 obtain⟨v',w2,hrun,hown,hgrow,hn2,hat⟩:=run_append_own_at (P:=prog) (w:=w1.alloc (.cells cs ET)) n₀ ST ST ET i0 _ size bytes L.ht hi0 hz0 hz1 hz2 L.hz L.hs v k (l.flatMap enc) (hr.alloc _) ⟨w1.heap.size,0,none⟩ (m+1) (m+1) (r.flatMap enc)
  (by rw[oL enc size L.henc,hm]) hcell hone h63 hb (by simp only[World.size_alloc];omega)
 obtain⟨g',cap',rfl⟩:=ownsRow_succ (k:=k+m) hown
 exact⟨g',cap',w2,hrun,by rw[List.flatMap_append];exact hown,((World.grownBy_alloc w1 (.cells cs ET) none).but _).trans hgrow,by
  rcases hat with h|h
  ·exact .inl (by rw[<-h];rfl)
  ·refine .inr ?_
   have:g'=w1.heap.size+1:=by simpa [Value.ownBlock]using h
   omega⟩
end
theorem own_ne {W:World}{n₀:Nat}{e t:TypeId}{size n b:Nat}{v:Value}{xs:List Value}{cs:Array Value}{p:Nat×Nat}(h:W.ownsRow n₀ e size v n xs)(hb:W.heap[b]?=some (.cells cs t p))(hne:t≠e):v.ownBlock≠some b:=by
 rcases h.2 with ⟨h2,_⟩|⟨g,cap,cur,h2,_,h4,_⟩
 ·rw[h2];simp[Value.ownBlock]
 ·rw[h2]
  intro h
  have:g=b:=by simpa [Value.ownBlock]using h
  subst this
  rw[h4]at hb
  simp only[Option.some.injEq,Obj.cells.injEq]at hb
  exact hne hb.2.1.symm
theorem fF {W:World}{n₀:Nat}{e e':TypeId}{s s' n n':Nat}{v v':Value}{xs xs':List Value}(h:W.ownsRow n₀ e s v n xs)(h':W.ownsRow n₀ e' s' v' n' xs')(hne:e≠e'):v'.ownBlock=none∨v'.ownBlock≠v.ownBlock:=by
 rcases h.2 with ⟨h2,_⟩|⟨g,cap,cur,h2,_,h4,_⟩
 ·rcases h'.2 with ⟨h3,_⟩|⟨g',cap',cur',h3,_,_,_⟩
  ·exact .inl (by rw[h3];rfl)
  ·exact .inr (by rw[h2,h3];simp[Value.ownBlock])
 ·refine .inr ?_
  rw[h2]
  exact own_ne h' h4 hne
def Oy (v1 v2 v3 v4:Value)(i:Nat):Prop:=v1.ownBlock=some i∨v2.ownBlock=some i∨v3.ownBlock=some i∨v4.ownBlock=some i
def Ox (bf br:Nat)(v1 v2 v3 v4:Value)(i:Nat):Prop:=i=bf∨i=br∨Oy v1 v2 v3 v4 i
structure aU (bf:Nat)(X:Nat->Prop)(w w':World):Prop where
 b:Below bf w w'
 k: ∀i,i<w.heap.size-> ¬X i->w'.heap[i]?=w.heap[i]?
theorem aU.trans {bf:Nat}{X:Nat->Prop}{a b c:World}(h:aU bf X a b)(h':aU bf X b c):aU bf X a c:=
 ⟨h.b.trans h'.b,fun i hi hx=>(h'.k i (by have:=h.b.size;omega) hx).trans (h.k i hi hx)⟩
theorem aU.of_below {bf:Nat}{X:Nat->Prop}{a b:World}(hb:Below a.heap.size a b)(h:bf<=a.heap.size):aU bf X a b:=
 ⟨hb.mono h,fun i hi _=>hb.block i hi⟩
theorem h_ {bf br:Nat}{v1 v2 v3 v4:Value}{w w':World}{cs:Array Value}{p:Nat×Nat}(hrd:w.heap[br]?=some (.cells cs 188 p))(hlt:bf<br)(hg:w.grownBy w' (some br)):aU bf (Ox bf br v1 v2 v3 v4) w w':=
 ⟨⟨hg.os,hg.tape,hg.output,hg.size,fun k hk=>hg.block k (by have:=(lO hrd);omega) (by simp;omega)⟩,
  fun i hi hx=>hg.block i hi (fun e=>by cases e;exact hx (.inr (.inl rfl)))⟩
def New (X:Nat->Prop)(n:Nat)(v1 v2 v3 v4:Value):Prop:= ∀i,Oy v1 v2 v3 v4 i->X i∨n<=i
structure fu (bf:Nat)(f:Pl.aL)(W:World)(v1 v2 v3 v4:Value):Prop where
 box:W.heap[bf]?=some (.cells #[v1,v2,v3,v4] 28 (0,0))
 o1:W.ownsRow (bf+1) 50 2 v1 f.st.length (f.st.flatMap nA)
 o2:W.ownsRow (bf+1) 9 1 v2 f.li.length (f.li.flatMap fU)
 o3:W.ownsRow (bf+1) 112 4 v3 f.pa.length (f.pa.flatMap mG)
 o4:W.ownsRow (bf+1) 114 2 v4 f.va.length (f.va.flatMap oF)
section
variable {bf : Nat} {f : Pl.aL} {W W' : World} {v1 v2 v3 v4 : Value}
theorem fu.lt (h:fu bf f W v1 v2 v3 v4):bf<W.heap.size:=(Array.getElem?_eq_some_iff.1 h.box).1
theorem fu.kept (h:fu bf f W v1 v2 v3 v4){br:Nat}{cs:Array Value}(hb:W.heap[br]?=some (.cells cs 188 (0,0)))(hg:W.grownBy W' (some br)):fu bf f W' v1 v2 v3 v4:=by
 have hne:some bf≠some br:=by
  intro e;cases e;rw[h.box]at hb;cases hb
 exact⟨(hg.block bf h.lt hne).trans h.box,h.o1.kept hg (.inr (own_ne h.o1 hb (by decide))),h.o2.kept hg (.inr (own_ne h.o2 hb (by decide))),h.o3.kept hg (.inr (own_ne h.o3 hb (by decide))),h.o4.kept hg (.inr (own_ne h.o4 hb (by decide)))⟩
theorem fu.below (h:fu bf f W v1 v2 v3 v4)(hb:Below W.heap.size W W'):fu bf f W' v1 v2 v3 v4:=
 ⟨(hb.block bf h.lt).trans h.box,own_below h.o1 hb,own_below h.o2 hb,own_below h.o3 hb,own_below h.o4 hb⟩
theorem cB (W:World)(b j:Nat)(u:Value):W.grownBy (W.setCell ⟨b,j,none⟩ u) (some b):=
 ⟨rfl,rfl,rfl,by simp,fun k _ hne=>Below.heap_setCell _ _ _ _ (by simp at hne;simpa using hne)⟩
theorem gq {n₀:Nat}{e:TypeId}{size n:Nat}{v:Value}{xs:List Value}{b:Nat}{u:Value}{j:Nat}(h:W.ownsRow n₀ e size v n xs)(hb:b<n₀):(W.setCell ⟨b,j,none⟩ u).ownsRow n₀ e size v n xs:=by
 refine h.kept (cB W b j u) (.inr ?_)
 rcases h.2 with ⟨h2,_⟩|⟨g,cap,cur,h2,h3,_,_⟩
 ·rw[h2];simp[Value.ownBlock]
 ·rw[h2];simp[Value.ownBlock];omega
theorem K_ (h:fu bf f W v1 v2 v3 v4)(x:(ByteArray×Int))(hk:f.st.length<=100000):
  ∃g' cap' w2,(Builtin.append_ #[23,23] 23 #[v1,.slice (some ⟨W.heap.size,0,none⟩) 1 1]).run prog (W.alloc (.cells #[.string x.1,.int .i64 x.2] 50))=.ok (.slice (some ⟨g',0,none⟩) (f.st.length+1) cap') w2∧
   w2.heap[bf]?=some (.cells #[v1,v2,v3,v4] 28 (0,0))∧
   fu bf {f with st:=f.st++[x]} (w2.setCell ⟨bf,0,none⟩ (.slice (some ⟨g',0,none⟩) (f.st.length+1) cap')) (.slice (some ⟨g',0,none⟩) (f.st.length+1) cap') v2 v3 v4∧(∀br,aU bf (Ox bf br v1 v2 v3 v4) W (w2.setCell ⟨bf,0,none⟩ (.slice (some ⟨g',0,none⟩) (f.st.length+1) cap')))∧W.heap.size<=w2.heap.size∧(∀br n,n<=W.heap.size->New (Ox bf br v1 v2 v3 v4) n (.slice (some ⟨g',0,none⟩) (f.st.length+1) cap') v2 v3 v4):=by
 obtain⟨g',cap',w2,hrun,hown,hg,hat⟩:=oP vS h.o1 [x] 0 rfl #[.string x.1,.int .i64 x.2] (by simp[nA]) (by unfold maxLen;omega) (by omega) h.lt
 have hb:w2.heap[bf]?=some (.cells #[v1,v2,v3,v4] 28 (0,0)):=(hg.block bf h.lt (own_ne h.o1 h.box (by decide)).symm).trans h.box
 have hlt:bf<w2.heap.size:=(lO hb)
 refine⟨g',cap',w2,hrun,hb,⟨?_,by rw[List.length_append];exact gq hown (by omega),gq (h.o2.kept hg (fF h.o1 h.o2 (by decide))) (by omega),gq (h.o3.kept hg (fF h.o1 h.o3 (by decide))) (by omega),gq (h.o4.kept hg (fF h.o1 h.o4 (by decide))) (by omega)⟩,fun br=> ?_,hg.size,fun br n hn i hi=> ?_⟩
 ·have:=heap_setCell_same w2 bf 0 _ _ (.slice (some ⟨g',0,none⟩) (f.st.length+1) cap') hb
  exact this
 ·have hB:Below bf W w2:=⟨hg.os,hg.tape,hg.output,hg.size,fun k hk'=>hg.block k (by have:=h.lt;omega) (fun e=>by have:=(h.o1.lt k e.symm).1;omega)⟩
  refine⟨hB.setCell (p:=⟨bf,0,none⟩) (Nat.le_refl _) _,fun i hi hx=> ?_⟩
  rw[Below.heap_setCell _ _ _ _ (by rintro rfl;exact hx (.inl rfl))]
  exact hg.block i hi (fun e=>hx (.inr (.inr (.inl e.symm))))
 ·rcases hi with h|h|h|h
  ·have h:g'=i:=by simpa [Value.ownBlock]using h
   subst h
   rcases hat with h|h
   ·exact .inl (.inr (.inr (.inl h)))
   ·exact .inr (by omega)
  ·exact .inl (.inr (.inr (.inr (.inl h))))
  ·exact .inl (.inr (.inr (.inr (.inr (.inl h)))))
  ·exact .inl (.inr (.inr (.inr (.inr (.inr h)))))
theorem La (h:fu bf f W v1 v2 v3 v4)(x:ByteArray)(hk:f.li.length<=100000):
  ∃g' cap' w2,(Builtin.append_ #[24,24] 24 #[v2,.slice (some ⟨W.heap.size,0,none⟩) 1 1]).run prog (W.alloc (.cells #[.string x] 9))=.ok (.slice (some ⟨g',0,none⟩) (f.li.length+1) cap') w2∧
   w2.heap[bf]?=some (.cells #[v1,v2,v3,v4] 28 (0,0))∧
   fu bf {f with li:=f.li++[x]} (w2.setCell ⟨bf,1,none⟩ (.slice (some ⟨g',0,none⟩) (f.li.length+1) cap')) v1 (.slice (some ⟨g',0,none⟩) (f.li.length+1) cap') v3 v4∧(∀br,aU bf (Ox bf br v1 v2 v3 v4) W (w2.setCell ⟨bf,1,none⟩ (.slice (some ⟨g',0,none⟩) (f.li.length+1) cap')))∧W.heap.size<=w2.heap.size∧(∀br n,n<=W.heap.size->New (Ox bf br v1 v2 v3 v4) n v1 (.slice (some ⟨g',0,none⟩) (f.li.length+1) cap') v3 v4):=by
 obtain⟨g',cap',w2,hrun,hown,hg,hat⟩:=oP gy h.o2 [x] 0 rfl #[.string x] (by simp[fU]) (by unfold maxLen;omega) (by omega) h.lt
 have hb:w2.heap[bf]?=some (.cells #[v1,v2,v3,v4] 28 (0,0)):=(hg.block bf h.lt (own_ne h.o2 h.box (by decide)).symm).trans h.box
 have hlt:bf<w2.heap.size:=(lO hb)
 refine⟨g',cap',w2,hrun,hb,⟨?_,gq (h.o1.kept hg (fF h.o2 h.o1 (by decide))) (by omega),by rw[List.length_append];exact gq hown (by omega),gq (h.o3.kept hg (fF h.o2 h.o3 (by decide))) (by omega),gq (h.o4.kept hg (fF h.o2 h.o4 (by decide))) (by omega)⟩,fun br=> ?_,hg.size,fun br n hn i hi=> ?_⟩
 ·have:=heap_setCell_same w2 bf 1 _ _ (.slice (some ⟨g',0,none⟩) (f.li.length+1) cap') hb
  exact this
 ·have hB:Below bf W w2:=⟨hg.os,hg.tape,hg.output,hg.size,fun k hk'=>hg.block k (by have:=h.lt;omega) (fun e=>by have:=(h.o2.lt k e.symm).1;omega)⟩
  refine⟨hB.setCell (p:=⟨bf,1,none⟩) (Nat.le_refl _) _,fun i hi hx=> ?_⟩
  rw[Below.heap_setCell _ _ _ _ (by rintro rfl;exact hx (.inl rfl))]
  exact hg.block i hi (fun e=>hx (.inr (.inr (.inr (.inl e.symm)))))
 ·rcases hi with h|h|h|h
  ·exact .inl (.inr (.inr (.inl h)))
  ·have h:g'=i:=by simpa [Value.ownBlock]using h
   subst h
   rcases hat with h|h
   ·exact .inl (.inr (.inr (.inr (.inl h))))
   ·exact .inr (by omega)
  ·exact .inl (.inr (.inr (.inr (.inr (.inl h)))))
  ·exact .inl (.inr (.inr (.inr (.inr (.inr h)))))
theorem Lb (h:fu bf f W v1 v2 v3 v4)(x:Pl.oz)(hk:f.pa.length<=100000):
  ∃g' cap' w2,(Builtin.append_ #[25,25] 25 #[v3,.slice (some ⟨W.heap.size,0,none⟩) 1 1]).run prog (W.alloc (.cells #[.string x.name,.int .i64 x.dH,.int .i64 x.fr,.int .i64 x.till] 112))=.ok (.slice (some ⟨g',0,none⟩) (f.pa.length+1) cap') w2∧
   w2.heap[bf]?=some (.cells #[v1,v2,v3,v4] 28 (0,0))∧
   fu bf {f with pa:=f.pa++[x]} (w2.setCell ⟨bf,2,none⟩ (.slice (some ⟨g',0,none⟩) (f.pa.length+1) cap')) v1 v2 (.slice (some ⟨g',0,none⟩) (f.pa.length+1) cap') v4∧(∀br,aU bf (Ox bf br v1 v2 v3 v4) W (w2.setCell ⟨bf,2,none⟩ (.slice (some ⟨g',0,none⟩) (f.pa.length+1) cap')))∧W.heap.size<=w2.heap.size∧(∀br n,n<=W.heap.size->New (Ox bf br v1 v2 v3 v4) n v1 v2 (.slice (some ⟨g',0,none⟩) (f.pa.length+1) cap') v4):=by
 obtain⟨g',cap',w2,hrun,hown,hg,hat⟩:=oP vT h.o3 [x] 0 rfl #[.string x.name,.int .i64 x.dH,.int .i64 x.fr,.int .i64 x.till] (by simp[mG]) (by unfold maxLen;omega) (by omega) h.lt
 have hb:w2.heap[bf]?=some (.cells #[v1,v2,v3,v4] 28 (0,0)):=(hg.block bf h.lt (own_ne h.o3 h.box (by decide)).symm).trans h.box
 have hlt:bf<w2.heap.size:=(lO hb)
 refine⟨g',cap',w2,hrun,hb,⟨?_,gq (h.o1.kept hg (fF h.o3 h.o1 (by decide))) (by omega),gq (h.o2.kept hg (fF h.o3 h.o2 (by decide))) (by omega),by rw[List.length_append];exact gq hown (by omega),gq (h.o4.kept hg (fF h.o3 h.o4 (by decide))) (by omega)⟩,fun br=> ?_,hg.size,fun br n hn i hi=> ?_⟩
 ·have:=heap_setCell_same w2 bf 2 _ _ (.slice (some ⟨g',0,none⟩) (f.pa.length+1) cap') hb
  exact this
 ·have hB:Below bf W w2:=⟨hg.os,hg.tape,hg.output,hg.size,fun k hk'=>hg.block k (by have:=h.lt;omega) (fun e=>by have:=(h.o3.lt k e.symm).1;omega)⟩
  refine⟨hB.setCell (p:=⟨bf,2,none⟩) (Nat.le_refl _) _,fun i hi hx=> ?_⟩
  rw[Below.heap_setCell _ _ _ _ (by rintro rfl;exact hx (.inl rfl))]
  exact hg.block i hi (fun e=>hx (.inr (.inr (.inr (.inr (.inl e.symm))))))
 ·rcases hi with h|h|h|h
  ·exact .inl (.inr (.inr (.inl h)))
  ·exact .inl (.inr (.inr (.inr (.inl h))))
  ·have h:g'=i:=by simpa [Value.ownBlock]using h
   subst h
   rcases hat with h|h
   ·exact .inl (.inr (.inr (.inr (.inr (.inl h)))))
   ·exact .inr (by omega)
  ·exact .inl (.inr (.inr (.inr (.inr (.inr h)))))
theorem Lc (h:fu bf f W v1 v2 v3 v4)(x:(Int×Int))(hk:f.va.length<=100000):
  ∃g' cap' w2,(Builtin.append_ #[26,26] 26 #[v4,.slice (some ⟨W.heap.size,0,none⟩) 1 1]).run prog (W.alloc (.cells (i2 x.1 x.2) 114))=.ok (.slice (some ⟨g',0,none⟩) (f.va.length+1) cap') w2∧
   w2.heap[bf]?=some (.cells #[v1,v2,v3,v4] 28 (0,0))∧
   fu bf {f with va:=f.va++[x]} (w2.setCell ⟨bf,3,none⟩ (.slice (some ⟨g',0,none⟩) (f.va.length+1) cap')) v1 v2 v3 (.slice (some ⟨g',0,none⟩) (f.va.length+1) cap')∧(∀br,aU bf (Ox bf br v1 v2 v3 v4) W (w2.setCell ⟨bf,3,none⟩ (.slice (some ⟨g',0,none⟩) (f.va.length+1) cap')))∧W.heap.size<=w2.heap.size∧(∀br n,n<=W.heap.size->New (Ox bf br v1 v2 v3 v4) n v1 v2 v3 (.slice (some ⟨g',0,none⟩) (f.va.length+1) cap')):=by
 obtain⟨g',cap',w2,hrun,hown,hg,hat⟩:=oP vU h.o4 [x] 0 rfl (i2 x.1 x.2) (by simp[oF]) (by unfold maxLen;omega) (by omega) h.lt
 have hb:w2.heap[bf]?=some (.cells #[v1,v2,v3,v4] 28 (0,0)):=(hg.block bf h.lt (own_ne h.o4 h.box (by decide)).symm).trans h.box
 have hlt:bf<w2.heap.size:=(lO hb)
 refine⟨g',cap',w2,hrun,hb,⟨?_,gq (h.o1.kept hg (fF h.o4 h.o1 (by decide))) (by omega),gq (h.o2.kept hg (fF h.o4 h.o2 (by decide))) (by omega),gq (h.o3.kept hg (fF h.o4 h.o3 (by decide))) (by omega),by rw[List.length_append];exact gq hown (by omega)⟩,fun br=> ?_,hg.size,fun br n hn i hi=> ?_⟩
 ·have:=heap_setCell_same w2 bf 3 _ _ (.slice (some ⟨g',0,none⟩) (f.va.length+1) cap') hb
  exact this
 ·have hB:Below bf W w2:=⟨hg.os,hg.tape,hg.output,hg.size,fun k hk'=>hg.block k (by have:=h.lt;omega) (fun e=>by have:=(h.o4.lt k e.symm).1;omega)⟩
  refine⟨hB.setCell (p:=⟨bf,3,none⟩) (Nat.le_refl _) _,fun i hi hx=> ?_⟩
  rw[Below.heap_setCell _ _ _ _ (by rintro rfl;exact hx (.inl rfl))]
  exact hg.block i hi (fun e=>hx (.inr (.inr (.inr (.inr (.inr e.symm))))))
 ·rcases hi with h|h|h|h
  ·exact .inl (.inr (.inr (.inl h)))
  ·exact .inl (.inr (.inr (.inr (.inl h))))
  ·exact .inl (.inr (.inr (.inr (.inr (.inl h)))))
  ·have h:g'=i:=by simpa [Value.ownBlock]using h
   subst h
   rcases hat with h|h
   ·exact .inl (.inr (.inr (.inr (.inr (.inr h)))))
   ·exact .inr (by omega)
end
