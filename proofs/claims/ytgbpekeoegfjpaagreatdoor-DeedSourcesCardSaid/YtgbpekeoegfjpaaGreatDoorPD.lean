/- TOp in one text. -/
import Derived.Test.YtgbpekeoegfjpaaGreatDoorPC
import Derived.Test.YtgbpekeoegfjpaaGreatDoorProg
import Derived.WalkKit
import Derived.WalkLawsBesides
import Derived.WalkSpells
import Derived.Handy
import Derived.Lib.Hide
import Derived.Great.BuildSlice
import Derived.Deep.QuietTactic
import Derived.BigQuiet
import Derived.Deep.RegionHeld3
import Derived.Deep.DeepCutAuto
set_option maxRecDepth 100000
namespace Go.Proofs.YtgbpekeoegfjpaaGreatDoor
open Go.RowKit
attribute [-go_sem] run_equalIn_agg loadVar storeVar Builtin.append_ Instr.buildSlice
attribute [local go_sem] lv_int lv_bool lv_u8 lv_string lv_strings sv_int sv_string sv_nms lv_stas lv_pars lv_vars sv_stas sv_pars sv_vars bs_var bs_sta bs_lim bs_par
theorem idx_mapT {α β:Type}(g:α->β)(p:β->Bool)(l:List α):Pl.idx p (l.map g)=Pl.idx (fun x=>p (g x)) l:=by
 induction l with
 |nil=>rfl
 |cons a l ih=>simp only[List.map_cons,Pl.idx];rw[ih]
theorem pos_lt {o:Option Nat}:Pl.pos o<0↔o=none:=by
 cases o with
 |none=>exact⟨fun _=>rfl,fun _=>by show(-1:Int)<0;omega⟩
 |some i=>exact⟨fun h=>by exfalso;have:(i:Int)<0:=h;omega,fun h=>by cases h⟩
set_option maxHeartbeats 16000000 in
theorem ad_par (A1 A2 A3 A4:Option Addr)(c1 c2 c3 c4:Nat)(f:Pl.Fld)(n s1 s2 s3:ByteArray)(gm om cm:Nat)(w:World)(hf:FldS w w.heap.size A1 A2 A3 A4 f)(hm:Small f)(hc:Caps c1 c2 c3 c4 f)
  (u1: ∀W,Below w.heap.size w W->W.cell? ⟨gm,om,none⟩=some (.string s1)) (u2: ∀W,Below w.heap.size w W->W.cell? ⟨gm,om+1,none⟩=some (.string s2)) (u3: ∀W,Below w.heap.size w W->W.cell? ⟨gm,om+2,none⟩=some (.string s3)):
  Calls Tryz.prog 77 #[.agg (fq A1 A2 A3 A4 c1 c2 c3 c4 f),.agg #[.string ⟨#[112,97,114,99,101,108]⟩,.string n,.slice (some ⟨gm,om,none⟩) 3 cm,.int .i64 0,.int .i64 0]] w (EndAd (Pl.added f (.parcel n s1 s2 s3)) A1 A2 A3 A4 w):=by
 have H:=ad_w w (fq A1 A2 A3 A4 c1 c2 c3 c4 f) #[.string ⟨#[112,97,114,99,101,108]⟩,.string n,.slice (some ⟨gm,om,none⟩) 3 cm,.int .i64 0,.int .i64 0]
 obtain⟨W0,hW0⟩: ∃W,(((w.alloc (.cells (fq A1 A2 A3 A4 c1 c2 c3 c4 f) 28)).alloc (.cells #[.string ⟨#[112,97,114,99,101,108]⟩,.string n,.slice (some ⟨gm,om,none⟩) 3 cm,.int .i64 0,.int .i64 0] 106)).alloc (.cells #[.slice none 0 0,.slice none 0 0,.slice none 0 0,.slice none 0 0] 28))=W:=⟨_,rfl⟩
 rw[hW0]at H
 have hl:f.pa.length<=100000:=hm.pa
 have hsn:f.sn.length=f.st.length:=by unfold Pl.Fld.sn;simp
 have hst:=hm.st
 have hli:=hm.li
 have p1:=fun W (hW:Below w.heap.size w W)=>place_b A2 c2 f.li s1 W (hf.li.up hW) (by omega)
 have pn:=fun W (hW:Below w.heap.size w W)=>names_b0 A1 A2 A3 A4 c1 c2 c3 c4 f W (hf.up hW) hm
 have p2:=fun W B d (hN:Nms W W.heap.size B f.sn)=>place_b B d f.sn s2 W hN (by omega)
 have p3:=fun W B d (hN:Nms W W.heap.size B f.sn)=>place_b B d f.sn s3 W hN (by omega)
 clear hsn hst hli
 obtain⟨oi,hoi⟩: ∃z_,Pl.idx (fun x=>decide (x=s1)) f.li=z_:=⟨_,rfl⟩
 obtain⟨oj,hoj⟩: ∃z_,Pl.idx (fun x=>decide (x=s2)) f.sn=z_:=⟨_,rfl⟩
 obtain⟨ok,hok⟩: ∃z_,Pl.idx (fun x=>decide (x=s3)) f.sn=z_:=⟨_,rfl⟩
 rw[hoi]at p1
 rw[hoj]at p2
 rw[hok]at p3
 have r1: ∀o,Pl.idx (fun x=>decide (x=s2)) f.sn=o->Pl.idx (fun x:ByteArray×Int=>decide (x.1=s2)) f.st=o:=fun o h=>by rw[<-h];exact(idx_mapT Prod.fst (fun x=>decide (x=s2)) f.st).symm
 have r2: ∀o,Pl.idx (fun x=>decide (x=s3)) f.sn=o->Pl.idx (fun x:ByteArray×Int=>decide (x.1=s3)) f.st=o:=fun o h=>by rw[<-h];exact(idx_mapT Prod.fst (fun x=>decide (x=s3)) f.st).symm
 have H1:Hid (∀i j k,oi=some i->oj=some j->ok=some k->Pl.added f (.parcel n s1 s2 s3)=if i+1<f.li.length then .ok {f with pa:=f.pa++[⟨n,i,j,k⟩]} else .error 1):=Lib.hid fun i j k h1 h2 h3=>by
  have q1:=hoi.trans h1
  have q2:=r1 _ (hoj.trans h2)
  have q3:=r2 _ (hok.trans h3)
  unfold Pl.added
  simp only[q1,q2,q3]
 have H0:Hid (oi=none∨oj=none∨ok=none->Pl.added f (.parcel n s1 s2 s3)=.error 5):=Lib.hid fun h=>by
  have q1:=hoi
  have q2:=r1 _ hoj
  have q3:=r2 _ hok
  unfold Pl.added
  simp only[q1,q2,q3]
  rcases h with rfl|rfl|rfl
  ·rfl
  ·cases oi<;>rfl
  ·cases oi<;>cases oj<;>rfl
 have hbi: ∀i,oi=some i->i<100001:=fun i hi=>by have:=Pl.idx_lt (hoi.trans hi);have:=hm.li;omega
 clear r1 r2 hoi hoj hok
 obtain⟨a,ha⟩: ∃z_,Pl.pos oi=z_:=⟨_,rfl⟩
 obtain⟨b,hb⟩: ∃z_,Pl.pos oj=z_:=⟨_,rfl⟩
 obtain⟨t,ht⟩: ∃z_,Pl.pos ok=z_:=⟨_,rfl⟩
 rw[ha]at p1
 rw[hb]at p2
 rw[ht]at p3
 obtain⟨hcf,hff⟩:=blk_cells H.kf
 obtain⟨hcx,hfx⟩:=blk_cells H.kx
 go_enter Tryz.func77,Tryz.ntmps77
 go_wp2
 clear hcf hff hcx hfx
 replace H:=H.drew
 refine wp_region_held_drew (S:=fun W=>W.cell? ⟨w.heap.size,1,none⟩=some (.slice A2 f.li.length c2)∧W.cell? ⟨w.heap.size+1,2,none⟩=some (.slice (some ⟨gm,om,none⟩) 3 cm)∧W.cell? ⟨gm,om,none⟩=some (.string s1)) (by kernel_rfl) ⟨(blk_cells H.kf).1 1,(blk_cells H.kx).1 2,u1 _ H.all⟩ (fun hHeld=> ?_)
 obtain⟨V1,hV1⟩: ∃X,W0.drew=X:=⟨_,rfl⟩
 rw[hV1]at H ⊢
 clear hV1 hHeld
 have hHeld:=(show((fun W=>W.cell? ⟨w.heap.size,1,none⟩=some (.slice A2 f.li.length c2)∧W.cell? ⟨w.heap.size+1,2,none⟩=some (.slice (some ⟨gm,om,none⟩) 3 cm)∧W.cell? ⟨gm,om,none⟩=some (.string s1)) V1) from⟨(blk_cells H.kf).1 1,(blk_cells H.kx).1 2,u1 _ H.all⟩)
 refine takeH 0 (some 52) (v:= ?_) rfl rfl (by kernel_rfl) (by kernel_rfl) (by kernel_rfl) (fun _ _ _ h=>h) (Or.inl ⟨by rfl,fun W hW=> ?_⟩) (by assumption) ?_
 rotate_left
 ·(try dsimp only at hW);obtain⟨s1',s2',s3'⟩:=hW;go_simp;try with_reducible rfl
 try simp only[Act.put,List.setIfInBounds_toArray,List.set_cons_zero,List.set_cons_succ]
 refine takeH 1 (some 53) (v:= ?_) rfl rfl (by kernel_rfl) (by kernel_rfl) (by kernel_rfl) (fun _ _ _ h=>h) (Or.inl ⟨by rfl,fun W hW=> ?_⟩) (by assumption) ?_
 rotate_left
 ·(try dsimp only at hW);obtain⟨s1',s2',s3'⟩:=hW;go_simp;try with_reducible rfl
 try simp only[Act.put,List.setIfInBounds_toArray,List.set_cons_zero,List.set_cons_succ]
 refine takeH 2 (some 54) (v:= ?_) rfl rfl (by kernel_rfl) (by kernel_rfl) (by kernel_rfl) (fun _ _ _ h=>h) (Or.inl ⟨by rfl,fun W hW=> ?_⟩) (by assumption) ?_
 rotate_left
 ·(try dsimp only at hW);obtain⟨s1',s2',s3'⟩:=hW;go_simp;try with_reducible rfl
 try simp only[Act.put,List.setIfInBounds_toArray,List.set_cons_zero,List.set_cons_succ]
 refine takeH 3 (some 55) (v:= ?_) rfl rfl (by kernel_rfl) (by kernel_rfl) (by kernel_rfl) (fun _ _ _ h=>h) (Or.inl ⟨by rfl,fun W hW=> ?_⟩) (by assumption) ?_
 rotate_left
 ·(try dsimp only at hW);obtain⟨s1',s2',s3'⟩:=hW;go_simp;try with_reducible rfl
 try simp only[Act.put,List.setIfInBounds_toArray,List.set_cons_zero,List.set_cons_succ]
 refine takeH 4 (some 56) (v:= ?_) rfl rfl (by kernel_rfl) (by kernel_rfl) (by kernel_rfl) (fun _ _ _ h=>h) (Or.inl ⟨by rfl,fun W hW=> ?_⟩) (by assumption) ?_
 rotate_left
 ·(try dsimp only at hW);obtain⟨s1',s2',s3'⟩:=hW;go_simp;try with_reducible rfl
 try simp only[Act.put,List.setIfInBounds_toArray,List.set_cons_zero,List.set_cons_succ]
 refine takeH 5 (some 57) (v:= ?_) rfl rfl (by kernel_rfl) (by kernel_rfl) (by kernel_rfl) (fun _ _ _ h=>h) (Or.inl ⟨by rfl,fun W hW=> ?_⟩) (by assumption) ?_
 rotate_left
 ·(try dsimp only at hW);obtain⟨s1',s2',s3'⟩:=hW;go_simp;try with_reducible rfl
 try simp only[Act.put,List.setIfInBounds_toArray,List.set_cons_zero,List.set_cons_succ]
 refine wpAnyH_ready (rs:=[6]) (by kernel_rfl) (by simp) ?_
 refine readyH (some 58) rfl rfl (fun K hK=> ?_) AllReadyH.nil
 go_simp
 refine(p1 _ H.all).mono ?_
 rintro e w' ⟨rfl,rfl⟩
 refine hK.out _ _ ⟨(blk_cells H.kf).1 1,(blk_cells H.kx).1 2,u1 _ H.all⟩ (fun hHeld=> ?_)
 clear hK K
 try simp only[Act.put,List.setIfInBounds_toArray,List.set_cons_zero,List.set_cons_succ]
 refine takeH 7 (some 6) (v:= ?_) rfl rfl (by kernel_rfl) (by kernel_rfl) (by kernel_rfl) (fun _ _ _ h=>h) (Or.inl ⟨by rfl,fun W hW=> ?_⟩) (by assumption) ?_
 rotate_left
 ·(try dsimp only at hW);obtain⟨s1',s2',s3'⟩:=hW;go_simp;try with_reducible rfl
 try simp only[Act.put,List.setIfInBounds_toArray,List.set_cons_zero,List.set_cons_succ]
 refine wpAnyH_done (by kernel_rfl) ?_ _
 clear hHeld
 obtain⟨hcf,hff⟩:=blk_cells H.kf
 obtain⟨hcx,hfx⟩:=blk_cells H.kx
 go_wp2_with fail
 clear hcf hff hcx hfx
 replace H:=H.drew
 refine wp_region_held_drew (S:=fun W=>(loadVar 28 ⟨w.heap.size,0,none⟩).run Tryz.prog W=.ok (.agg (fq A1 A2 A3 A4 c1 c2 c3 c4 f)) W∧W.cell? ⟨w.heap.size+1,2,none⟩=some (.slice (some ⟨gm,om,none⟩) 3 cm)∧W.cell? ⟨gm,om+1,none⟩=some (.string s2)) (by kernel_rfl) ⟨ld_row H.kf Tryz.underlying28 rfl info_fld,(blk_cells H.kx).1 2,u2 _ H.all⟩ (fun hHeld=> ?_)
 obtain⟨V2,hV2⟩: ∃X,V1.drew=X:=⟨_,rfl⟩
 rw[hV2]at H ⊢
 clear hV2 hHeld
 have hHeld:=(show((fun W=>(loadVar 28 ⟨w.heap.size,0,none⟩).run Tryz.prog W=.ok (.agg (fq A1 A2 A3 A4 c1 c2 c3 c4 f)) W∧W.cell? ⟨w.heap.size+1,2,none⟩=some (.slice (some ⟨gm,om,none⟩) 3 cm)∧W.cell? ⟨gm,om+1,none⟩=some (.string s2)) V2) from⟨ld_row H.kf Tryz.underlying28 rfl info_fld,(blk_cells H.kx).1 2,u2 _ H.all⟩)
 refine takeH 0 (some 59) (v:= ?_) rfl rfl (by kernel_rfl) (by kernel_rfl) (by kernel_rfl) (fun _ _ _ h=>h) (Or.inl ⟨by rfl,fun W hW=> ?_⟩) (by assumption) ?_
 rotate_left
 ·(try dsimp only at hW);obtain⟨s1',s2',s3'⟩:=hW;go_simp;try with_reducible rfl
 try simp only[Act.put,List.setIfInBounds_toArray,List.set_cons_zero,List.set_cons_succ]
 refine takeH 2 (some 61) (v:= ?_) rfl rfl (by kernel_rfl) (by kernel_rfl) (by kernel_rfl) (fun _ _ _ h=>h) (Or.inl ⟨by rfl,fun W hW=> ?_⟩) (by assumption) ?_
 rotate_left
 ·(try dsimp only at hW);obtain⟨s1',s2',s3'⟩:=hW;go_simp;try with_reducible rfl
 try simp only[Act.put,List.setIfInBounds_toArray,List.set_cons_zero,List.set_cons_succ]
 refine takeH 3 (some 62) (v:= ?_) rfl rfl (by kernel_rfl) (by kernel_rfl) (by kernel_rfl) (fun _ _ _ h=>h) (Or.inl ⟨by rfl,fun W hW=> ?_⟩) (by assumption) ?_
 rotate_left
 ·(try dsimp only at hW);obtain⟨s1',s2',s3'⟩:=hW;go_simp;try with_reducible rfl
 try simp only[Act.put,List.setIfInBounds_toArray,List.set_cons_zero,List.set_cons_succ]
 refine takeH 4 (some 63) (v:= ?_) rfl rfl (by kernel_rfl) (by kernel_rfl) (by kernel_rfl) (fun _ _ _ h=>h) (Or.inl ⟨by rfl,fun W hW=> ?_⟩) (by assumption) ?_
 rotate_left
 ·(try dsimp only at hW);obtain⟨s1',s2',s3'⟩:=hW;go_simp;try with_reducible rfl
 try simp only[Act.put,List.setIfInBounds_toArray,List.set_cons_zero,List.set_cons_succ]
 refine takeH 5 (some 64) (v:= ?_) rfl rfl (by kernel_rfl) (by kernel_rfl) (by kernel_rfl) (fun _ _ _ h=>h) (Or.inl ⟨by rfl,fun W hW=> ?_⟩) (by assumption) ?_
 rotate_left
 ·(try dsimp only at hW);obtain⟨s1',s2',s3'⟩:=hW;go_simp;try with_reducible rfl
 try simp only[Act.put,List.setIfInBounds_toArray,List.set_cons_zero,List.set_cons_succ]
 refine wpAnyH_ready (rs:=[1]) (by kernel_rfl) (by simp) ?_
 refine readyH (some 60) rfl rfl (fun K hK=> ?_) AllReadyH.nil
 go_simp
 refine(pn _ H.all).mono ?_
 rintro e V2n ⟨B,d,rfl,hN,hd,_,hx⟩
 replace H:=H.upB hx
 clear hx
 refine hK.out _ _ ⟨ld_row H.kf Tryz.underlying28 rfl info_fld,(blk_cells H.kx).1 2,u2 _ H.all⟩ (fun hHeld=> ?_)
 clear hK K
 try simp only[Act.put,List.setIfInBounds_toArray,List.set_cons_zero,List.set_cons_succ]
 refine wpAnyH_ready (rs:=[6]) (by kernel_rfl) (by simp) ?_
 refine readyH (some 65) rfl rfl (fun K hK=> ?_) AllReadyH.nil
 go_simp
 refine(p2 _ B d hN).mono ?_
 rintro e w'' ⟨rfl,rfl⟩
 refine hK.out _ _ ⟨ld_row H.kf Tryz.underlying28 rfl info_fld,(blk_cells H.kx).1 2,u2 _ H.all⟩ (fun hHeld=> ?_)
 clear hK K hN hd
 try simp only[Act.put,List.setIfInBounds_toArray,List.set_cons_zero,List.set_cons_succ]
 refine takeH 7 (some 7) (v:= ?_) rfl rfl (by kernel_rfl) (by kernel_rfl) (by kernel_rfl) (fun _ _ _ h=>h) (Or.inl ⟨by rfl,fun W hW=> ?_⟩) (by assumption) ?_
 rotate_left
 ·(try dsimp only at hW);obtain⟨s1',s2',s3'⟩:=hW;go_simp;try with_reducible rfl
 try simp only[Act.put,List.setIfInBounds_toArray,List.set_cons_zero,List.set_cons_succ]
 refine wpAnyH_done (by kernel_rfl) ?_ _
 clear hHeld
 obtain⟨hcf,hff⟩:=blk_cells H.kf
 obtain⟨hcx,hfx⟩:=blk_cells H.kx
 go_wp2_with fail
 clear hcf hff hcx hfx
 replace H:=H.drew
 refine wp_region_held_drew (S:=fun W=>(loadVar 28 ⟨w.heap.size,0,none⟩).run Tryz.prog W=.ok (.agg (fq A1 A2 A3 A4 c1 c2 c3 c4 f)) W∧W.cell? ⟨w.heap.size+1,2,none⟩=some (.slice (some ⟨gm,om,none⟩) 3 cm)∧W.cell? ⟨gm,om+2,none⟩=some (.string s3)) (by kernel_rfl) ⟨ld_row H.kf Tryz.underlying28 rfl info_fld,(blk_cells H.kx).1 2,u3 _ H.all⟩ (fun hHeld=> ?_)
 obtain⟨V3,hV3⟩: ∃X,V2n.drew=X:=⟨_,rfl⟩
 rw[hV3]at H ⊢
 clear hV3 hHeld
 have hHeld:=(show((fun W=>(loadVar 28 ⟨w.heap.size,0,none⟩).run Tryz.prog W=.ok (.agg (fq A1 A2 A3 A4 c1 c2 c3 c4 f)) W∧W.cell? ⟨w.heap.size+1,2,none⟩=some (.slice (some ⟨gm,om,none⟩) 3 cm)∧W.cell? ⟨gm,om+2,none⟩=some (.string s3)) V3) from⟨ld_row H.kf Tryz.underlying28 rfl info_fld,(blk_cells H.kx).1 2,u3 _ H.all⟩)
 refine takeH 0 (some 66) (v:= ?_) rfl rfl (by kernel_rfl) (by kernel_rfl) (by kernel_rfl) (fun _ _ _ h=>h) (Or.inl ⟨by rfl,fun W hW=> ?_⟩) (by assumption) ?_
 rotate_left
 ·(try dsimp only at hW);obtain⟨s1',s2',s3'⟩:=hW;go_simp;try with_reducible rfl
 try simp only[Act.put,List.setIfInBounds_toArray,List.set_cons_zero,List.set_cons_succ]
 refine takeH 2 (some 68) (v:= ?_) rfl rfl (by kernel_rfl) (by kernel_rfl) (by kernel_rfl) (fun _ _ _ h=>h) (Or.inl ⟨by rfl,fun W hW=> ?_⟩) (by assumption) ?_
 rotate_left
 ·(try dsimp only at hW);obtain⟨s1',s2',s3'⟩:=hW;go_simp;try with_reducible rfl
 try simp only[Act.put,List.setIfInBounds_toArray,List.set_cons_zero,List.set_cons_succ]
 refine takeH 3 (some 69) (v:= ?_) rfl rfl (by kernel_rfl) (by kernel_rfl) (by kernel_rfl) (fun _ _ _ h=>h) (Or.inl ⟨by rfl,fun W hW=> ?_⟩) (by assumption) ?_
 rotate_left
 ·(try dsimp only at hW);obtain⟨s1',s2',s3'⟩:=hW;go_simp;try with_reducible rfl
 try simp only[Act.put,List.setIfInBounds_toArray,List.set_cons_zero,List.set_cons_succ]
 refine takeH 4 (some 70) (v:= ?_) rfl rfl (by kernel_rfl) (by kernel_rfl) (by kernel_rfl) (fun _ _ _ h=>h) (Or.inl ⟨by rfl,fun W hW=> ?_⟩) (by assumption) ?_
 rotate_left
 ·(try dsimp only at hW);obtain⟨s1',s2',s3'⟩:=hW;go_simp;try with_reducible rfl
 try simp only[Act.put,List.setIfInBounds_toArray,List.set_cons_zero,List.set_cons_succ]
 refine takeH 5 (some 71) (v:= ?_) rfl rfl (by kernel_rfl) (by kernel_rfl) (by kernel_rfl) (fun _ _ _ h=>h) (Or.inl ⟨by rfl,fun W hW=> ?_⟩) (by assumption) ?_
 rotate_left
 ·(try dsimp only at hW);obtain⟨s1',s2',s3'⟩:=hW;go_simp;try with_reducible rfl
 try simp only[Act.put,List.setIfInBounds_toArray,List.set_cons_zero,List.set_cons_succ]
 refine wpAnyH_ready (rs:=[1]) (by kernel_rfl) (by simp) ?_
 refine readyH (some 67) rfl rfl (fun K hK=> ?_) AllReadyH.nil
 go_simp
 refine(pn _ H.all).mono ?_
 rintro e V3n ⟨B,d,rfl,hN,hd,_,hx⟩
 replace H:=H.upB hx
 clear hx
 refine hK.out _ _ ⟨ld_row H.kf Tryz.underlying28 rfl info_fld,(blk_cells H.kx).1 2,u3 _ H.all⟩ (fun hHeld=> ?_)
 clear hK K
 try simp only[Act.put,List.setIfInBounds_toArray,List.set_cons_zero,List.set_cons_succ]
 refine wpAnyH_ready (rs:=[6]) (by kernel_rfl) (by simp) ?_
 refine readyH (some 72) rfl rfl (fun K hK=> ?_) AllReadyH.nil
 go_simp
 refine(p3 _ B d hN).mono ?_
 rintro e w'' ⟨rfl,rfl⟩
 refine hK.out _ _ ⟨ld_row H.kf Tryz.underlying28 rfl info_fld,(blk_cells H.kx).1 2,u3 _ H.all⟩ (fun hHeld=> ?_)
 clear hK K hN hd
 try simp only[Act.put,List.setIfInBounds_toArray,List.set_cons_zero,List.set_cons_succ]
 refine takeH 7 (some 8) (v:= ?_) rfl rfl (by kernel_rfl) (by kernel_rfl) (by kernel_rfl) (fun _ _ _ h=>h) (Or.inl ⟨by rfl,fun W hW=> ?_⟩) (by assumption) ?_
 rotate_left
 ·(try dsimp only at hW);obtain⟨s1',s2',s3'⟩:=hW;go_simp;try with_reducible rfl
 try simp only[Act.put,List.setIfInBounds_toArray,List.set_cons_zero,List.set_cons_succ]
 refine wpAnyH_done (by kernel_rfl) ?_ _
 clear hHeld
 obtain⟨hcf,hff⟩:=blk_cells H.kf
 obtain⟨hcx,hfx⟩:=blk_cells H.kx
 clear p1 p2 p3 pn u1 u2 u3
 by_cases hlost:a<0∨b<0∨t<0
 ·have HE:Hid (Pl.added f (.parcel n s1 s2 s3)=.error 5):=Lib.hid (H0.out (by
   rcases hlost with h|h|h
   ·exact .inl (pos_lt.1 (by rw[ha];exact h))
   ·exact .inr (.inl (pos_lt.1 (by rw[hb];exact h)))
   ·exact .inr (.inr (pos_lt.1 (by rw[ht];exact h)))))
  clear H0 H1 ha hb ht
  have hl3:a<0∨(¬a<0∧b<0)∨(¬a<0∧ ¬b<0∧t<0):=by omega
  clear hlost
  rcases hl3 with h1|⟨h1,h2⟩|⟨h1,h2,h3⟩
  all_goals (
   obtain⟨W9,lb9,st9,l9,hB9⟩:=ad_same H rfl (by simp[Value.oneCell'])
   go_wp2_with fail
   refine bodyPost_ret (v:=.tuple #[.agg (fq A1 A2 A3 A4 c1 c2 c3 c4 f),.int .i64 5]) (by simp[results,Tryz.results77,go_sem,l9]) rfl ?_
   exact⟨A1,A2,A3,A4,c1,c2,c3,c4,f,5,rfl,.inr ⟨HE.out,by decide⟩,hf.up hB9,hc,fun n hn r1 r2 r3 r4=>⟨r1,r2,r3,r4⟩,hB9⟩)
 ·have h1: ¬a<0:=by omega
  have h2: ¬b<0:=by omega
  have h3: ¬t<0:=by omega
  clear hlost
  obtain⟨i,rfl⟩: ∃i,oi=some i:=by
   cases oi with
   |none=>exact absurd (by rw[<-ha];exact pos_lt.2 rfl) h1
   |some i=>exact⟨i,rfl⟩
  obtain⟨j,rfl⟩: ∃j,oj=some j:=by
   cases oj with
   |none=>exact absurd (by rw[<-hb];exact pos_lt.2 rfl) h2
   |some i=>exact⟨i,rfl⟩
  obtain⟨k,rfl⟩: ∃k,ok=some k:=by
   cases ok with
   |none=>exact absurd (by rw[<-ht];exact pos_lt.2 rfl) h3
   |some i=>exact⟨i,rfl⟩
  have ha':a=(i:Int):=ha.symm
  have hb':b=(j:Int):=hb.symm
  have ht':t=(k:Int):=ht.symm
  have hi:=hbi i rfl
  have e1:IntKind.i64.wrap (a+1)=a+1:=IntWalk.i64_in _ (by omega)
  by_cases hlast:i+1<f.li.length
  ·have g1: ¬a+1>=(f.li.length:Int):=by omega
   have g1': ¬(f.li.length:Int)<=a+1:=by omega
   have hadd:Pl.added f (.parcel n s1 s2 s3)=.ok {f with pa:=f.pa++[(⟨n,a,b,t⟩:Pl.Par)]}:=by rw[ha',hb',ht',H1.out i j k rfl rfl rfl];exact if_pos hlast
   clear H0 H1 ha hb ht ha' hb' ht' hbi
   have HW:Hid (w.heap.size+3<=V3n.drew.heap.size):=Lib.hid (lO H.kr)
   have HG:Hid (w.heap.size<=V3n.drew.heap.size):=Lib.hid (Nat.le_trans (by omega) HW.out)
   have bs0:=fun W=>bs_nil lay_par W
   go_wp2_with fail
   obtain⟨g1A,d1A,W1A,g2A,d2A,W2A,raA,rbA,hbaA,CA⟩:=copy_A (W:=V3n.drew) (A:=A3) (c:=c3) (l:=f.pa) (x:=(⟨n,a,b,t⟩:Pl.Par)) (cs:= #[.string n,.int .i64 a,.int .i64 b,.int .i64 t]) lay_par (hf.pa.up H.drew.all) (by omega) (by omega) (by simp[encPar])
   obtain⟨g1B,d1B,W1B,g2B,d2B,W2B,raB,rbB,hbaB,CB⟩:=copy_B (W:=V3n.drew) (A:=A3) (c:=c3) (l:=f.pa) (x:=(⟨n,a,b,t⟩:Pl.Par)) (cs:= #[.string n,.int .i64 a,.int .i64 b,.int .i64 t]) lay_par (hf.pa.up H.drew.all) (by omega) (by omega) (by simp[encPar])
   obtain⟨g1C,d1C,W1C,g2C,d2C,W2C,raC,rbC,hbaC,CC⟩:=copy_C (W:=V3n.drew) (A:=A3) (c:=c3) (l:=f.pa) (x:=(⟨n,a,b,t⟩:Pl.Par)) (cs:= #[.string n,.int .i64 a,.int .i64 b,.int .i64 t]) lay_par (hf.pa.up H.drew.all) (by omega) (by omega) (by simp[encPar])
   have raA:(Builtin.append_ #[25,25] 25 #[.slice (some ⟨V3n.heap.size,0,none⟩) 0 0,.slice A3 f.pa.length c3]).run Tryz.prog (V3n.alloc (.cells #[] 112)).drew=.ok (.slice (some ⟨g1A,0,none⟩) f.pa.length d1A) W1A:=raA
   have raB:(Builtin.append_ #[25,25] 25 #[.slice (some ⟨V3n.heap.size,0,none⟩) 0 0,.slice A3 f.pa.length c3]).run Tryz.prog ((V3n.alloc (.cells #[] 112)).alloc (.cells #[.string n,.int .i64 a,.int .i64 b,.int .i64 t] 112)).drew=.ok (.slice (some ⟨g1B,0,none⟩) f.pa.length d1B) W1B:=raB
   have raC:(Builtin.append_ #[25,25] 25 #[.slice (some ⟨V3n.heap.size+1,0,none⟩) 0 0,.slice A3 f.pa.length c3]).run Tryz.prog ((V3n.alloc (.cells #[.string n,.int .i64 a,.int .i64 b,.int .i64 t] 112)).alloc (.cells #[] 112)).drew=.ok (.slice (some ⟨g1C,0,none⟩) f.pa.length d1C) W1C:=raC
   have rbB:(Builtin.append_ #[25,25] 25 #[.slice (some ⟨g1B,0,none⟩) f.pa.length d1B,.slice (some ⟨V3n.heap.size+1,0,none⟩) 1 1]).run Tryz.prog W1B=.ok (.slice (some ⟨g2B,0,none⟩) (f.pa.length+1) d2B) W2B:=rbB
   have rbC:(Builtin.append_ #[25,25] 25 #[.slice (some ⟨g1C,0,none⟩) f.pa.length d1C,.slice (some ⟨V3n.heap.size,0,none⟩) 1 1]).run Tryz.prog W1C=.ok (.slice (some ⟨g2C,0,none⟩) (f.pa.length+1) d2C) W2C:=rbC
   have H2A:=H.drew.upB CA.all
   have H1A:=H.drew.upB hbaA
   obtain⟨W9A,lbA,stA,l9A,hkA,hzA,hBA⟩:=ad_fin H2A 2 (.slice (some ⟨g2A,0,none⟩) (f.pa.length+1) d2A) #[.slice A1 f.st.length c1,.slice A2 f.li.length c2,.slice (some ⟨g2A,0,none⟩) (f.pa.length+1) d2A,.slice A4 f.va.length c4] rfl rfl (by simp[Value.oneCell'])
   obtain⟨hcbA,hfbA⟩:=blk_cells H2A.kf
   have H2B:=H.drew.upB CB.all
   obtain⟨W9B,lbB,stB,l9B,hkB,hzB,hBB⟩:=ad_fin H2B 2 (.slice (some ⟨g2B,0,none⟩) (f.pa.length+1) d2B) #[.slice A1 f.st.length c1,.slice A2 f.li.length c2,.slice (some ⟨g2B,0,none⟩) (f.pa.length+1) d2B,.slice A4 f.va.length c4] rfl rfl (by simp[Value.oneCell'])
   obtain⟨hcbB,hfbB⟩:=blk_cells H2B.kf
   have H2C:=H.drew.upB CC.all
   obtain⟨W9C,lbC,stC,l9C,hkC,hzC,hBC⟩:=ad_fin H2C 2 (.slice (some ⟨g2C,0,none⟩) (f.pa.length+1) d2C) #[.slice A1 f.st.length c1,.slice A2 f.li.length c2,.slice (some ⟨g2C,0,none⟩) (f.pa.length+1) d2C,.slice A4 f.va.length c4] rfl rfl (by simp[Value.oneCell'])
   obtain⟨hcbC,hfbC⟩:=blk_cells H2C.kf
   have q0:=H.drew
   have q1:=(H.upB (((Below.refl _ V3n).alloc (Nat.le_refl _) (.cells #[] 112)))).drew
   have q3:=(H.upB (((Below.refl _ V3n).alloc (Nat.le_refl _) (.cells #[.string n,.int .i64 a,.int .i64 b,.int .i64 t] 112)))).drew
   have q2:=(H.upB ((((Below.refl _ V3n).alloc (Nat.le_refl _) (.cells #[] 112)).alloc (by simp) (.cells #[.string n,.int .i64 a,.int .i64 b,.int .i64 t] 112)))).drew
   have q4:=(H.upB ((((Below.refl _ V3n).alloc (Nat.le_refl _) (.cells #[.string n,.int .i64 a,.int .i64 b,.int .i64 t] 112)).alloc (by simp) (.cells #[] 112)))).drew
   have f0:(V3n).cell? ⟨w.heap.size,2,none⟩=some (.slice A3 f.pa.length c3):=(blk_cells q0.kf).1 2
   have f1:((V3n.alloc (.cells #[] 112))).cell? ⟨w.heap.size,2,none⟩=some (.slice A3 f.pa.length c3):=(blk_cells q1.kf).1 2
   have f2:((V3n.alloc (.cells #[.string n,.int .i64 a,.int .i64 b,.int .i64 t] 112))).cell? ⟨w.heap.size,2,none⟩=some (.slice A3 f.pa.length c3):=(blk_cells q3.kf).1 2
   have f3:(((V3n.alloc (.cells #[] 112)).alloc (.cells #[.string n,.int .i64 a,.int .i64 b,.int .i64 t] 112))).cell? ⟨w.heap.size,2,none⟩=some (.slice A3 f.pa.length c3):=(blk_cells q2.kf).1 2
   have f4:(((V3n.alloc (.cells #[.string n,.int .i64 a,.int .i64 b,.int .i64 t] 112)).alloc (.cells #[] 112))).cell? ⟨w.heap.size,2,none⟩=some (.slice A3 f.pa.length c3):=(blk_cells q4.kf).1 2
   have p0:=H1A.upB ((Below.refl _ W1A).alloc (Nat.le_refl _) (.cells #[.string n,.int .i64 a,.int .i64 b,.int .i64 t] 112))
   have H1B:=H.drew.upB hbaB
   have H1C:=H.drew.upB hbaC
   have z1:=(Below.heap_setCell W2A ⟨w.heap.size,2,none⟩ (.slice (some ⟨g2A,0,none⟩) (f.pa.length+1) d2A) (w.heap.size+1) (by simp)).trans H2A.kx
   have z2:=(Below.heap_setCell W2B ⟨w.heap.size,2,none⟩ (.slice (some ⟨g2B,0,none⟩) (f.pa.length+1) d2B) (w.heap.size+1) (by simp)).trans H2B.kx
   have z3:=(Below.heap_setCell W2C ⟨w.heap.size,2,none⟩ (.slice (some ⟨g2C,0,none⟩) (f.pa.length+1) d2C) (w.heap.size+1) (by simp)).trans H2C.kx
   have finA:EndAd (Pl.added f (.parcel n s1 s2 s3)) A1 A2 A3 A4 w (.returned (.tuple #[.agg #[.slice A1 f.st.length c1,.slice A2 f.li.length c2,.slice (some ⟨g2A,0,none⟩) (f.pa.length+1) d2A,.slice A4 f.va.length c4],.int .i64 0])) W9A:=
    ⟨A1,A2,some ⟨g2A,0,none⟩,A4,c1,c2,d2A,c4,{f with pa:=f.pa++[(⟨n,a,b,t⟩:Pl.Par)]},0,by simp,.inl ⟨hadd,rfl⟩,⟨hf.st.up hBA,hf.li.up hBA,seg_same CA.seg (fun hg=>hkA _ (Nat.le_trans HW.out CA.new) hg) hzA,hf.va.up hBA⟩,⟨hc.st,hc.li,CA.cap,hc.va⟩,fun n hn r1 r2 r3 r4=>⟨r1,r2,fun a e=>by cases e;exact Nat.le_trans (Nat.le_trans hn (HG.out)) CA.new,r4⟩,hBA⟩
   have finB:EndAd (Pl.added f (.parcel n s1 s2 s3)) A1 A2 A3 A4 w (.returned (.tuple #[.agg #[.slice A1 f.st.length c1,.slice A2 f.li.length c2,.slice (some ⟨g2B,0,none⟩) (f.pa.length+1) d2B,.slice A4 f.va.length c4],.int .i64 0])) W9B:=
    ⟨A1,A2,some ⟨g2B,0,none⟩,A4,c1,c2,d2B,c4,{f with pa:=f.pa++[(⟨n,a,b,t⟩:Pl.Par)]},0,by simp,.inl ⟨hadd,rfl⟩,⟨hf.st.up hBB,hf.li.up hBB,seg_same CB.seg (fun hg=>hkB _ (Nat.le_trans HW.out CB.new) hg) hzB,hf.va.up hBB⟩,⟨hc.st,hc.li,CB.cap,hc.va⟩,fun n hn r1 r2 r3 r4=>⟨r1,r2,fun a e=>by cases e;exact Nat.le_trans (Nat.le_trans hn (HG.out)) CB.new,r4⟩,hBB⟩
   have finC:EndAd (Pl.added f (.parcel n s1 s2 s3)) A1 A2 A3 A4 w (.returned (.tuple #[.agg #[.slice A1 f.st.length c1,.slice A2 f.li.length c2,.slice (some ⟨g2C,0,none⟩) (f.pa.length+1) d2C,.slice A4 f.va.length c4],.int .i64 0])) W9C:=
    ⟨A1,A2,some ⟨g2C,0,none⟩,A4,c1,c2,d2C,c4,{f with pa:=f.pa++[(⟨n,a,b,t⟩:Pl.Par)]},0,by simp,.inl ⟨hadd,rfl⟩,⟨hf.st.up hBC,hf.li.up hBC,seg_same CC.seg (fun hg=>hkC _ (Nat.le_trans HW.out CC.new) hg) hzC,hf.va.up hBC⟩,⟨hc.st,hc.li,CC.cap,hc.va⟩,fun n hn r1 r2 r3 r4=>⟨r1,r2,fun a e=>by cases e;exact Nat.le_trans (Nat.le_trans hn (HG.out)) CC.new,r4⟩,hBC⟩
   refine wp_region_held_drew (S:=fun W=>W.cell? ⟨w.heap.size+1,1,none⟩=some (.string n)) (by kernel_rfl) ((blk_cells q0.kx).1 1) (fun hHeld=> ?_)
   refine takeH 1 (some 92) (v:= ?_) rfl rfl (by kernel_rfl) (by kernel_rfl) (by kernel_rfl) (fun _ _ _ h=>h) (Or.inl ⟨by rfl,fun W hW=> ?_⟩) (by assumption) ?_
   rotate_left
   ·(try dsimp only at hW);go_simp;try with_reducible rfl
   try simp only[Act.put,List.setIfInBounds_toArray,List.set_cons_zero,List.set_cons_succ]
   refine takeH 4 (some 95) (v:= ?_) rfl rfl (by kernel_rfl) (by kernel_rfl) (by kernel_rfl) (fun _ _ _ h=>h) (Or.inl ⟨by rfl,fun W hW=> ?_⟩) (by assumption) ?_
   rotate_left
   ·(try dsimp only at hW);go_simp;try with_reducible rfl
   try simp only[Act.put,List.setIfInBounds_toArray,List.set_cons_zero,List.set_cons_succ]
   refine takeH 5 (some 96) (v:= ?_) rfl rfl (by kernel_rfl) (by kernel_rfl) (by kernel_rfl) (fun _ _ _ h=>h) (Or.inl ⟨by rfl,fun W hW=> ?_⟩) (by assumption) ?_
   rotate_left
   ·(try dsimp only at hW);go_simp;try with_reducible rfl
   try simp only[Act.put,List.setIfInBounds_toArray,List.set_cons_zero,List.set_cons_succ]
   refine takeH 6 (some 97) (v:= ?_) rfl rfl (by kernel_rfl) (by kernel_rfl) (by kernel_rfl) (fun _ _ _ h=>h) (Or.inl ⟨by rfl,fun W hW=> ?_⟩) (by assumption) ?_
   rotate_left
   ·(try dsimp only at hW);go_simp;try with_reducible rfl
   try simp only[Act.put,List.setIfInBounds_toArray,List.set_cons_zero,List.set_cons_succ]
   refine takeH 7 (some 98) (v:= ?_) rfl rfl (by kernel_rfl) (by kernel_rfl) (by kernel_rfl) (fun _ _ _ h=>h) (Or.inl ⟨by rfl,fun W hW=> ?_⟩) (by assumption) ?_
   rotate_left
   ·(try dsimp only at hW);go_simp;try with_reducible rfl
   try simp only[Act.put,List.setIfInBounds_toArray,List.set_cons_zero,List.set_cons_succ]
   refine takeH 8 (some 99) (v:= ?_) rfl rfl (by kernel_rfl) (by kernel_rfl) (by kernel_rfl) (fun _ _ _ h=>h) (Or.inl ⟨by rfl,fun W hW=> ?_⟩) (by assumption) ?_
   rotate_left
   ·(try dsimp only at hW);go_simp;try with_reducible rfl
   try simp only[Act.put,List.setIfInBounds_toArray,List.set_cons_zero,List.set_cons_succ]
   refine takeH 9 (some 100) (v:= ?_) rfl rfl (by kernel_rfl) (by kernel_rfl) (by kernel_rfl) (fun _ _ _ h=>h) (Or.inl ⟨by rfl,fun W hW=> ?_⟩) (by assumption) ?_
   rotate_left
   ·(try dsimp only at hW);go_simp;try with_reducible rfl
   try simp only[Act.put,List.setIfInBounds_toArray,List.set_cons_zero,List.set_cons_succ]
   refine wpAnyH_ready (rs:=[0,2,10]) (by kernel_rfl) (by simp) ?_;refine readyH (some 91) rfl rfl (fun K hK=> ?_) (readyH (some 93) rfl rfl (fun K hK=> ?_) (readyH (some 101) rfl rfl (fun K hK=> ?_) AllReadyH.nil))
   all_goals (
    go_simp
    refine hK.out _ _ ?_ (fun hHeld=> ?_)
    first|exact(blk_cells q0.kx).1 1|exact(blk_cells q1.kx).1 1|exact(blk_cells q2.kx).1 1|exact(blk_cells q3.kx).1 1|exact(blk_cells q4.kx).1 1|exact(blk_cells H1A.kx).1 1|exact(blk_cells p0.kx).1 1|exact(blk_cells H1B.kx).1 1|exact(blk_cells H1C.kx).1 1|exact(blk_cells H2A.kx).1 1|exact(blk_cells H2B.kx).1 1|exact(blk_cells H2C.kx).1 1|exact(blk_cells z1).1 1|exact(blk_cells z2).1 1|exact(blk_cells z3).1 1
    clear hK K
    try simp only[Act.put,List.setIfInBounds_toArray,List.set_cons_zero,List.set_cons_succ])
   refine wpAnyH_ready (rs:=[2,10]) (by kernel_rfl) (by simp) ?_;refine readyH (some 93) rfl rfl (fun K hK=> ?_) (readyH (some 101) rfl rfl (fun K hK=> ?_) AllReadyH.nil)
   rotate_left 2
   refine wpAnyH_ready (rs:=[0,10]) (by kernel_rfl) (by simp) ?_;refine readyH (some 91) rfl rfl (fun K hK=> ?_) (readyH (some 101) rfl rfl (fun K hK=> ?_) AllReadyH.nil)
   rotate_left 2
   refine wpAnyH_ready (rs:=[0,2]) (by kernel_rfl) (by simp) ?_;refine readyH (some 91) rfl rfl (fun K hK=> ?_) (readyH (some 93) rfl rfl (fun K hK=> ?_) AllReadyH.nil)
   rotate_left 2
   all_goals (
    go_simp
    refine hK.out _ _ ?_ (fun hHeld=> ?_)
    first|exact(blk_cells q0.kx).1 1|exact(blk_cells q1.kx).1 1|exact(blk_cells q2.kx).1 1|exact(blk_cells q3.kx).1 1|exact(blk_cells q4.kx).1 1|exact(blk_cells H1A.kx).1 1|exact(blk_cells p0.kx).1 1|exact(blk_cells H1B.kx).1 1|exact(blk_cells H1C.kx).1 1|exact(blk_cells H2A.kx).1 1|exact(blk_cells H2B.kx).1 1|exact(blk_cells H2C.kx).1 1|exact(blk_cells z1).1 1|exact(blk_cells z2).1 1|exact(blk_cells z3).1 1
    clear hK K
    try simp only[Act.put,List.setIfInBounds_toArray,List.set_cons_zero,List.set_cons_succ])
   refine wpAnyH_ready (rs:=[3,10]) (by kernel_rfl) (by simp) ?_;refine readyH (some 94) rfl rfl (fun K hK=> ?_) (readyH (some 101) rfl rfl (fun K hK=> ?_) AllReadyH.nil)
   rotate_left 2
   refine wpAnyH_ready (rs:=[2]) (by kernel_rfl) (by simp) ?_;refine readyH (some 93) rfl rfl (fun K hK=> ?_) AllReadyH.nil
   rotate_left 1
   refine wpAnyH_ready (rs:=[3,10]) (by kernel_rfl) (by simp) ?_;refine readyH (some 94) rfl rfl (fun K hK=> ?_) (readyH (some 101) rfl rfl (fun K hK=> ?_) AllReadyH.nil)
   rotate_left 2
   refine wpAnyH_ready (rs:=[0]) (by kernel_rfl) (by simp) ?_;refine readyH (some 91) rfl rfl (fun K hK=> ?_) AllReadyH.nil
   rotate_left 1
   refine wpAnyH_ready (rs:=[2]) (by kernel_rfl) (by simp) ?_;refine readyH (some 93) rfl rfl (fun K hK=> ?_) AllReadyH.nil
   rotate_left 1
   refine wpAnyH_ready (rs:=[0]) (by kernel_rfl) (by simp) ?_;refine readyH (some 91) rfl rfl (fun K hK=> ?_) AllReadyH.nil
   rotate_left 1
   all_goals (
    go_simp
    refine hK.out _ _ ?_ (fun hHeld=> ?_)
    first|exact(blk_cells q0.kx).1 1|exact(blk_cells q1.kx).1 1|exact(blk_cells q2.kx).1 1|exact(blk_cells q3.kx).1 1|exact(blk_cells q4.kx).1 1|exact(blk_cells H1A.kx).1 1|exact(blk_cells p0.kx).1 1|exact(blk_cells H1B.kx).1 1|exact(blk_cells H1C.kx).1 1|exact(blk_cells H2A.kx).1 1|exact(blk_cells H2B.kx).1 1|exact(blk_cells H2C.kx).1 1|exact(blk_cells z1).1 1|exact(blk_cells z2).1 1|exact(blk_cells z3).1 1
    clear hK K
    try simp only[Act.put,List.setIfInBounds_toArray,List.set_cons_zero,List.set_cons_succ])
   refine wpAnyH_ready (rs:=[10]) (by kernel_rfl) (by simp) ?_;refine readyH (some 101) rfl rfl (fun K hK=> ?_) AllReadyH.nil
   rotate_left 1
   refine wpAnyH_ready (rs:=[3]) (by kernel_rfl) (by simp) ?_;refine readyH (some 94) rfl rfl (fun K hK=> ?_) AllReadyH.nil
   rotate_left 1
   refine wpAnyH_ready (rs:=[3]) (by kernel_rfl) (by simp) ?_;refine readyH (some 94) rfl rfl (fun K hK=> ?_) AllReadyH.nil
   rotate_left 1
   refine wpAnyH_ready (rs:=[10]) (by kernel_rfl) (by simp) ?_;refine readyH (some 101) rfl rfl (fun K hK=> ?_) AllReadyH.nil
   rotate_left 1
   refine wpAnyH_ready (rs:=[3]) (by kernel_rfl) (by simp) ?_;refine readyH (some 94) rfl rfl (fun K hK=> ?_) AllReadyH.nil
   rotate_left 1
   refine wpAnyH_ready (rs:=[3]) (by kernel_rfl) (by simp) ?_;refine readyH (some 94) rfl rfl (fun K hK=> ?_) AllReadyH.nil
   rotate_left 1
   refine wpAnyH_ready (rs:=[3]) (by kernel_rfl) (by simp) ?_;refine readyH (some 94) rfl rfl (fun K hK=> ?_) AllReadyH.nil
   rotate_left 1
   refine wpAnyH_ready (rs:=[3]) (by kernel_rfl) (by simp) ?_;refine readyH (some 94) rfl rfl (fun K hK=> ?_) AllReadyH.nil
   rotate_left 1
   all_goals (
    go_simp
    refine hK.out _ _ ?_ (fun hHeld=> ?_)
    first|exact(blk_cells q0.kx).1 1|exact(blk_cells q1.kx).1 1|exact(blk_cells q2.kx).1 1|exact(blk_cells q3.kx).1 1|exact(blk_cells q4.kx).1 1|exact(blk_cells H1A.kx).1 1|exact(blk_cells p0.kx).1 1|exact(blk_cells H1B.kx).1 1|exact(blk_cells H1C.kx).1 1|exact(blk_cells H2A.kx).1 1|exact(blk_cells H2B.kx).1 1|exact(blk_cells H2C.kx).1 1|exact(blk_cells z1).1 1|exact(blk_cells z2).1 1|exact(blk_cells z3).1 1
    clear hK K
    try simp only[Act.put,List.setIfInBounds_toArray,List.set_cons_zero,List.set_cons_succ])
   all_goals (refine wpAnyH_ready (rs:=[11]) (by kernel_rfl) (by simp) ?_;refine readyH (some 102) rfl rfl (fun K hK=> ?_) AllReadyH.nil)
   all_goals (
    go_simp
    refine hK.out _ _ ?_ (fun hHeld=> ?_)
    first|exact(blk_cells q0.kx).1 1|exact(blk_cells q1.kx).1 1|exact(blk_cells q2.kx).1 1|exact(blk_cells q3.kx).1 1|exact(blk_cells q4.kx).1 1|exact(blk_cells H1A.kx).1 1|exact(blk_cells p0.kx).1 1|exact(blk_cells H1B.kx).1 1|exact(blk_cells H1C.kx).1 1|exact(blk_cells H2A.kx).1 1|exact(blk_cells H2B.kx).1 1|exact(blk_cells H2C.kx).1 1|exact(blk_cells z1).1 1|exact(blk_cells z2).1 1|exact(blk_cells z3).1 1
    clear hK K
    try simp only[Act.put,List.setIfInBounds_toArray,List.set_cons_zero,List.set_cons_succ])
   all_goals (
    refine takeH 12 (some 103) (v:= ?_) rfl rfl (by kernel_rfl) (by kernel_rfl) (by kernel_rfl) (fun _ _ _ h=>h) (Or.inl ⟨by rfl,fun W hW=> ?_⟩) (by assumption) ?_
    rotate_left
    ·(try dsimp only at hW);go_simp;try with_reducible rfl
    try simp only[Act.put,List.setIfInBounds_toArray,List.set_cons_zero,List.set_cons_succ])
   all_goals (refine wpAnyH_ready (rs:=[13]) (by kernel_rfl) (by simp) ?_;refine readyH none rfl rfl (fun K hK=> ?_) AllReadyH.nil)
   all_goals (
    go_simp
    refine hK.out _ _ ?_ (fun hHeld=> ?_)
    first|exact(blk_cells q0.kx).1 1|exact(blk_cells q1.kx).1 1|exact(blk_cells q2.kx).1 1|exact(blk_cells q3.kx).1 1|exact(blk_cells q4.kx).1 1|exact(blk_cells H1A.kx).1 1|exact(blk_cells p0.kx).1 1|exact(blk_cells H1B.kx).1 1|exact(blk_cells H1C.kx).1 1|exact(blk_cells H2A.kx).1 1|exact(blk_cells H2B.kx).1 1|exact(blk_cells H2C.kx).1 1|exact(blk_cells z1).1 1|exact(blk_cells z2).1 1|exact(blk_cells z3).1 1
    clear hK K
    try simp only[Act.put,List.setIfInBounds_toArray,List.set_cons_zero,List.set_cons_succ])
   all_goals refine wpAnyH_done (by kernel_rfl) ?_ _
   all_goals go_wp2_with fail
   all_goals first|(refine bodyPost_ret (v:=.tuple #[.agg #[.slice A1 f.st.length c1,.slice A2 f.li.length c2,.slice (some ⟨g2A,0,none⟩) (f.pa.length+1) d2A,.slice A4 f.va.length c4],.int .i64 0]) (by simp[results,Tryz.results77,go_sem,l9A]) rfl ?_;exact finA)|(refine bodyPost_ret (v:=.tuple #[.agg #[.slice A1 f.st.length c1,.slice A2 f.li.length c2,.slice (some ⟨g2B,0,none⟩) (f.pa.length+1) d2B,.slice A4 f.va.length c4],.int .i64 0]) (by simp[results,Tryz.results77,go_sem,l9B]) rfl ?_;exact finB)|(refine bodyPost_ret (v:=.tuple #[.agg #[.slice A1 f.st.length c1,.slice A2 f.li.length c2,.slice (some ⟨g2C,0,none⟩) (f.pa.length+1) d2C,.slice A4 f.va.length c4],.int .i64 0]) (by simp[results,Tryz.results77,go_sem,l9C]) rfl ?_;exact finC)
  ·have g1:a+1>=(f.li.length:Int):=by omega
   have g1':(f.li.length:Int)<=a+1:=by omega
   have HE:Hid (Pl.added f (.parcel n s1 s2 s3)=.error 1):=Lib.hid (by rw[H1.out i j k rfl rfl rfl];exact if_neg hlast)
   clear H0 H1 ha hb ht ha' hb' ht' hbi
   obtain⟨W9,lb9,st9,l9,hB9⟩:=ad_same H rfl (by simp[Value.oneCell'])
   go_wp2_with fail
   refine bodyPost_ret (v:=.tuple #[.agg (fq A1 A2 A3 A4 c1 c2 c3 c4 f),.int .i64 1]) (by simp[results,Tryz.results77,go_sem,l9]) rfl ?_
   exact⟨A1,A2,A3,A4,c1,c2,c3,c4,f,1,rfl,.inr ⟨HE.out,by decide⟩,hf.up hB9,hc,fun n hn r1 r2 r3 r4=>⟨r1,r2,r3,r4⟩,hB9⟩
end Go.Proofs.YtgbpekeoegfjpaaGreatDoor
