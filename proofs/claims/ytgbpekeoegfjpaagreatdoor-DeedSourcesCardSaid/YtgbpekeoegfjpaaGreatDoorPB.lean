/- TNc in one text. -/
import Derived.Test.YtgbpekeoegfjpaaGreatDoorP9
import Derived.Test.YtgbpekeoegfjpaaGreatDoorProg
import Derived.WalkKit
import Derived.WalkLawsBesides
import Derived.WalkSpells
import Derived.Handy
import Derived.Lib.Hide
import Derived.Great.BuildSlice
import Derived.Deep.QuietTactic
import Derived.BigQuiet
import Derived.Deep.RegionHeld3
import Derived.Deep.DeepCutAuto
set_option maxRecDepth 100000
namespace Go.Proofs.YtgbpekeoegfjpaaGreatDoor
open Go.RowKit
attribute [-go_sem] run_equalIn_agg loadVar storeVar
attribute [local go_sem] lv_int lv_bool lv_u8 lv_string lv_strings sv_int sv_string sv_nms
set_option maxHeartbeats 32000000 in
theorem it_sta (b off c0:Nat)(x y:ByteArray)(w:World)(u0: ∀W,Below w.heap.size w W->W.cell? ⟨b,off,none⟩=some (.string ⟨#[115,116,97,116,105,111,110]⟩))(u1: ∀W,Below w.heap.size w W->W.cell? ⟨b,off+1,none⟩=some (.string x))(u2: ∀W,Below w.heap.size w W->W.cell? ⟨b,off+2,none⟩=some (.string y))(hsx:x.size<=100000)(hsy:y.size<=100000):
  Calls Tryz.prog 76 #[.slice (some ⟨b,off,none⟩) 3 c0] w (EndIt (Pl.item [⟨#[115,116,97,116,105,111,110]⟩,x,y]) x b off c0 w):=by
 obtain⟨W1,st1,H⟩:=it_w w ⟨#[115,116,97,116,105,111,110]⟩
 have a0:=u0 _ (((Below.refl _ w).alloc (Nat.le_refl _) (.cells #[.string ⟨#[]⟩,.string ⟨#[]⟩,.slice none 0 0,.int .i64 0,.int .i64 0] 106)))
 have a0':=u0 _ (Below.refl _ w)
 have a1:=u1 _ H.all
 have kx1:=H.kx
 replace H:=H.set 1 (.string x)
 simp only[q1,q2,q3]at H
 obtain⟨hcw,hfw⟩:=blk_cells (show W1.heap[w.heap.size+1]?=some (.cells #[.string ⟨#[115,116,97,116,105,111,110]⟩,.string ⟨#[]⟩,.slice none 0 0,.int .i64 0,.int .i64 0] 106 (0,0)) from kx1)
 obtain⟨WX,hWX⟩: ∃X,W1.setCell ⟨w.heap.size+1,1,none⟩ (.string x)=X:=⟨_,rfl⟩
 rw[hWX]at H
 clear kx1
 obtain⟨hcx,hfx⟩:=blk_cells H.kx
 have a2:=u0 _ H.all
 have a4:=u2 _ H.all
 have hit:Pl.item [⟨#[115,116,97,116,105,111,110]⟩,x,y]=if Pl.isName x=true then (Pl.numF y).map (Pl.Item.station x)else none:=rfl
 obtain⟨bn,hbn⟩: ∃z,Pl.isName x=z:=⟨_,rfl⟩
 have pn:=fun W=>isName_b x W (by omega)
 rw[hbn]at hit pn
 obtain⟨ova,hova⟩: ∃z_,Pl.numF y=z_:=⟨_,rfl⟩
 obtain⟨va,hva⟩: ∃z_,ova.getD 0=z_:=⟨_,rfl⟩
 obtain⟨ba,hba⟩: ∃z_,ova.isSome=z_:=⟨_,rfl⟩
 have pva:Calls Tryz.prog 147 #[.string y] WX fun e w'=>e=.returned (.tuple #[.int .i64 va,.bool ba])∧WX=w':=by rw[<-hva,<-hba];exact number3_h y ova WX (Lib.hid hova) (by omega)
 rw[hova]at hit
 have HI:=Lib.hid hit
 clear hit hova hbn
 go_enter Tryz.func76,Tryz.ntmps76
 go_wp2_with fail
 refine pva.mono ?_
 clear pva
 rintro e w' ⟨rfl,rfl⟩
 replace H:=H.set 3 (.int .i64 va)
 simp only[q1,q2,q3]at H
 obtain⟨WY,hWY⟩: ∃X,WX.setCell ⟨w.heap.size+1,3,none⟩ (.int .i64 va)=X:=⟨_,rfl⟩
 rw[hWY]at H
 go_wp2
 clear a0 a0' a1 hWX st1 hWY hcw hfw hcx hfx a2 a4
 replace H:=H.drew
 have a3:=u1 _ H.all
 have lx:=ld_row H.kx Tryz.underlying106 rfl info_itm
 obtain⟨W9,st9,kr9,hg9⟩:=st_row WY.drew w.heap.size 106 106 #[.string ⟨#[]⟩,.string ⟨#[]⟩,.slice none 0 0,.int .i64 0,.int .i64 0] #[.string ⟨#[115,116,97,116,105,111,110]⟩,.string x,.slice none 0 0,.int .i64 va,.int .i64 0] H.kr info_itm rfl (by simp[Value.oneCell'])
 have l9:=ld_row kr9 Tryz.underlying106 rfl info_itm
 have hB9:Below w.heap.size w W9:=H.all.grown hg9 H.all.size (fun j e=>by cases e;exact Nat.le_refl _)
 have lx9:=ld_row ((hg9.block _ (lO H.kx) (by simp)).trans H.kx) Tryz.underlying106 rfl info_itm
 have a9:=u1 _ hB9
 refine wp_region_held_drew (S:=fun W=>(loadVar 106 ⟨w.heap.size+1,0,none⟩).run Tryz.prog W=.ok (.agg #[.string ⟨#[115,116,97,116,105,111,110]⟩,.string x,.slice none 0 0,.int .i64 va,.int .i64 0]) W∧W.cell? ⟨b,off+1,none⟩=some (.string x)) (by kernel_rfl) ⟨lx,a3⟩ (fun hHeld=> ?_)
 refine takeH 0 (some 73) (v:= ?_) rfl rfl (by kernel_rfl) (by kernel_rfl) (by kernel_rfl) (fun _ _ _ h=>h) (Or.inl ⟨by rfl,fun W hW=> ?_⟩) (by assumption) ?_
 rotate_left
 ·(try dsimp only at hW);obtain⟨s1,s2⟩:=hW;go_simp;try with_reducible rfl
 try simp only[Act.put,q1,q2,q3]
 refine takeH 1 (some 74) (v:= ?_) rfl rfl (by kernel_rfl) (by kernel_rfl) (by kernel_rfl) (fun _ _ _ h=>h) (Or.inl ⟨by rfl,fun W hW=> ?_⟩) (by assumption) ?_
 rotate_left
 ·(try dsimp only at hW);obtain⟨s1,s2⟩:=hW;go_simp;try with_reducible rfl
 try simp only[Act.put,q1,q2,q3]
 refine takeH 2 (some 75) (v:= ?_) rfl rfl (by kernel_rfl) (by kernel_rfl) (by kernel_rfl) (fun _ _ _ h=>h) (Or.inl ⟨by rfl,fun W hW=> ?_⟩) (by assumption) ?_
 rotate_left
 ·(try dsimp only at hW);obtain⟨s1,s2⟩:=hW;go_simp;try with_reducible rfl
 try simp only[Act.put,q1,q2,q3]
 cases ba with
 | false=>
  refine takeH 3 (some 76) (v:=undef) rfl rfl (by kernel_rfl) (by kernel_rfl) (by kernel_rfl) (fun _ _ _ h=>h) (Or.inr ⟨by rfl,rfl⟩) (by assumption) ?_
  try simp only[Act.put,q1,q2,q3]
  refine takeH 4 (some 77) (v:=undef) rfl rfl (by kernel_rfl) (by kernel_rfl) (by kernel_rfl) (fun _ _ _ h=>h) (Or.inr ⟨by rfl,rfl⟩) (by assumption) ?_
  try simp only[Act.put,q1,q2,q3]
  refine takeH 5 (some 78) (v:=undef) rfl rfl (by kernel_rfl) (by kernel_rfl) (by kernel_rfl) (fun _ _ _ h=>h) (Or.inr ⟨by rfl,rfl⟩) (by assumption) ?_
  try simp only[Act.put,q1,q2,q3]
  refine takeH 6 (some 79) (v:=undef) rfl rfl (by kernel_rfl) (by kernel_rfl) (by kernel_rfl) (fun _ _ _ h=>h) (Or.inr ⟨by rfl,rfl⟩) (by assumption) ?_
  try simp only[Act.put,q1,q2,q3]
  refine takeH 7 (some 80) (v:= ?_) rfl rfl (by kernel_rfl) (by kernel_rfl) (by kernel_rfl) (fun _ _ _ h=>h) (Or.inl ⟨by rfl,fun W hW=> ?_⟩) (by assumption) ?_
  rotate_left
  ·(try dsimp only at hW);obtain⟨s1,s2⟩:=hW;go_simp;try with_reducible rfl
  try simp only[Act.put,q1,q2,q3]
  refine wpAnyH_ready (rs:=[8]) (by kernel_rfl) (by simp) ?_
  refine readyH none rfl rfl (fun K hK=> ?_) AllReadyH.nil
  go_simp
  refine hK.out _ _ ⟨lx9,a9⟩ (fun hHeld=> ?_)
  clear hK K
  try simp only[Act.put,q1,q2,q3]
  refine takeH 9 (some 3) (v:= ?_) rfl rfl (by kernel_rfl) (by kernel_rfl) (by kernel_rfl) (fun _ _ _ h=>h) (Or.inl ⟨by rfl,fun W hW=> ?_⟩) (by assumption) ?_
  rotate_left
  ·(try dsimp only at hW);obtain⟨s1,s2⟩:=hW;go_simp;try with_reducible rfl
  try simp only[Act.put,q1,q2,q3]
  refine wpAnyH_done (by kernel_rfl) ?_ _
  go_wp2
  have:(if bn=true then ova.map (Pl.Item.station x)else none)=none:=by
   cases ova with
   |none=>cases bn<;>rfl
   |some v=>cases hba
  rw[HI.out,this]
  refine bodyPost_ret (v:=.tuple #[.agg #[.string ⟨#[115,116,97,116,105,111,110]⟩,.string x,.slice none 0 0,.int .i64 va,.int .i64 0],.bool false]) (by simp[results,Tryz.results76,go_sem,l9]) rfl ?_
  exact⟨#[.string ⟨#[115,116,97,116,105,111,110]⟩,.string x,.slice none 0 0,.int .i64 va,.int .i64 0],rfl,rfl,by simp[Value.oneCell'],(fun q hq=>by simp at hq),hB9⟩
 | true=>
  refine takeH 3 (some 76) (v:= ?_) rfl rfl (by kernel_rfl) (by kernel_rfl) (by kernel_rfl) (fun _ _ _ h=>h) (Or.inl ⟨by rfl,fun W hW=> ?_⟩) (by assumption) ?_
  rotate_left
  ·(try dsimp only at hW);obtain⟨s1,s2⟩:=hW;go_simp;try with_reducible rfl
  try simp only[Act.put,q1,q2,q3]
  refine takeH 4 (some 77) (v:= ?_) rfl rfl (by kernel_rfl) (by kernel_rfl) (by kernel_rfl) (fun _ _ _ h=>h) (Or.inl ⟨by rfl,fun W hW=> ?_⟩) (by assumption) ?_
  rotate_left
  ·(try dsimp only at hW);obtain⟨s1,s2⟩:=hW;go_simp;try with_reducible rfl
  try simp only[Act.put,q1,q2,q3]
  refine takeH 5 (some 78) (v:= ?_) rfl rfl (by kernel_rfl) (by kernel_rfl) (by kernel_rfl) (fun _ _ _ h=>h) (Or.inl ⟨by rfl,fun W hW=> ?_⟩) (by assumption) ?_
  rotate_left
  ·(try dsimp only at hW);obtain⟨s1,s2⟩:=hW;go_simp;try with_reducible rfl
  try simp only[Act.put,q1,q2,q3]
  refine wpAnyH_ready (rs:=[6]) (by kernel_rfl) (by simp) ?_
  refine readyH (some 79) rfl rfl (fun K hK=> ?_) AllReadyH.nil
  go_simp
  refine(pn _).mono ?_
  rintro e w' ⟨rfl,rfl⟩
  refine hK.out _ _ ⟨lx,a3⟩ (fun hHeld=> ?_)
  clear hK K
  try simp only[Act.put,q1,q2,q3]
  refine takeH 7 (some 80) (v:= ?_) rfl rfl (by kernel_rfl) (by kernel_rfl) (by kernel_rfl) (fun _ _ _ h=>h) (Or.inl ⟨by rfl,fun W hW=> ?_⟩) (by assumption) ?_
  rotate_left
  ·(try dsimp only at hW);obtain⟨s1,s2⟩:=hW;go_simp;try with_reducible rfl
  try simp only[Act.put,q1,q2,q3]
  refine wpAnyH_ready (rs:=[8]) (by kernel_rfl) (by simp) ?_
  refine readyH none rfl rfl (fun K hK=> ?_) AllReadyH.nil
  go_simp
  refine hK.out _ _ ⟨lx9,a9⟩ (fun hHeld=> ?_)
  clear hK K
  try simp only[Act.put,q1,q2,q3]
  refine takeH 9 (some 3) (v:= ?_) rfl rfl (by kernel_rfl) (by kernel_rfl) (by kernel_rfl) (fun _ _ _ h=>h) (Or.inl ⟨by rfl,fun W hW=> ?_⟩) (by assumption) ?_
  rotate_left
  ·(try dsimp only at hW);obtain⟨s1,s2⟩:=hW;go_simp;try with_reducible rfl
  try simp only[Act.put,q1,q2,q3]
  refine wpAnyH_done (by kernel_rfl) ?_ _
  go_wp2
  obtain⟨v1,rfl⟩: ∃v1,ova=some v1:=Option.isSome_iff_exists.1 hba
  rw[HI.out]
  cases bn with
  |false=>
   refine bodyPost_ret (v:=.tuple #[.agg #[.string ⟨#[115,116,97,116,105,111,110]⟩,.string x,.slice none 0 0,.int .i64 va,.int .i64 0],.bool false]) (by simp[results,Tryz.results76,go_sem,l9]) rfl ?_
   exact⟨#[.string ⟨#[115,116,97,116,105,111,110]⟩,.string x,.slice none 0 0,.int .i64 va,.int .i64 0],rfl,rfl,by simp[Value.oneCell'],(fun q hq=>by simp at hq),hB9⟩
  |true=>
   refine bodyPost_ret (v:=.tuple #[.agg #[.string ⟨#[115,116,97,116,105,111,110]⟩,.string x,.slice none 0 0,.int .i64 va,.int .i64 0],.bool true]) (by simp[results,Tryz.results76,go_sem,l9]) rfl ?_
   exact⟨#[.string ⟨#[115,116,97,116,105,111,110]⟩,.string x,.slice none 0 0,.int .i64 va,.int .i64 0],rfl,rfl,by simp[Value.oneCell'],(fun q hq=>by simp at hq;subst hq;rw[show v1=va from hva];rfl),hB9⟩
set_option maxHeartbeats 32000000 in
theorem it_par (b off c0:Nat)(x y p q:ByteArray)(w:World)(u0: ∀W,Below w.heap.size w W->W.cell? ⟨b,off,none⟩=some (.string ⟨#[112,97,114,99,101,108]⟩))(u1: ∀W,Below w.heap.size w W->W.cell? ⟨b,off+1,none⟩=some (.string x))(u2: ∀W,Below w.heap.size w W->W.cell? ⟨b,off+2,none⟩=some (.string y))(u3: ∀W,Below w.heap.size w W->W.cell? ⟨b,off+3,none⟩=some (.string p))(u4: ∀W,Below w.heap.size w W->W.cell? ⟨b,off+4,none⟩=some (.string q))(hsx:x.size<=100000)(hsy:y.size<=100000)(hsp:p.size<=100000)(hsq:q.size<=100000)(hc0:5<=c0):
  Calls Tryz.prog 76 #[.slice (some ⟨b,off,none⟩) 5 c0] w (EndIt (Pl.item [⟨#[112,97,114,99,101,108]⟩,x,y,p,q]) x b off c0 w):=by
 obtain⟨W1,st1,H⟩:=it_w w ⟨#[112,97,114,99,101,108]⟩
 have a0:=u0 _ (((Below.refl _ w).alloc (Nat.le_refl _) (.cells #[.string ⟨#[]⟩,.string ⟨#[]⟩,.slice none 0 0,.int .i64 0,.int .i64 0] 106)))
 have a0':=u0 _ (Below.refl _ w)
 have a1:=u1 _ H.all
 have kx1:=H.kx
 replace H:=H.set 1 (.string x)
 simp only[q1,q2,q3]at H
 obtain⟨hcw,hfw⟩:=blk_cells (show W1.heap[w.heap.size+1]?=some (.cells #[.string ⟨#[112,97,114,99,101,108]⟩,.string ⟨#[]⟩,.slice none 0 0,.int .i64 0,.int .i64 0] 106 (0,0)) from kx1)
 obtain⟨WX,hWX⟩: ∃X,W1.setCell ⟨w.heap.size+1,1,none⟩ (.string x)=X:=⟨_,rfl⟩
 rw[hWX]at H
 clear kx1
 obtain⟨hcx,hfx⟩:=blk_cells H.kx
 have a2:=u0 _ H.all
 have hit:Pl.item [⟨#[112,97,114,99,101,108]⟩,x,y,p,q]=if Pl.isName x=true∧Pl.isName y=true∧Pl.isName p=true∧Pl.isName q=true then some (.parcel x y p q)else none:=by
  show(if (⟨#[112,97,114,99,101,108]⟩:ByteArray)=Pl.wParcel∧Pl.isName x=true∧Pl.isName y=true∧Pl.isName p=true∧Pl.isName q=true then some (Pl.Item.parcel x y p q)else none)=_
  unfold Pl.wParcel
  simp
 obtain⟨b1,hb1⟩: ∃z,Pl.isName x=z:=⟨_,rfl⟩
 have pn1:=fun W=>isName_b x W (by omega)
 rw[hb1]at hit pn1
 obtain⟨b2,hb2⟩: ∃z,Pl.isName y=z:=⟨_,rfl⟩
 have pn2:=fun W=>isName_b y W (by omega)
 rw[hb2]at hit pn2
 obtain⟨b3,hb3⟩: ∃z,Pl.isName p=z:=⟨_,rfl⟩
 have pn3:=fun W=>isName_b p W (by omega)
 rw[hb3]at hit pn3
 obtain⟨b4,hb4⟩: ∃z,Pl.isName q=z:=⟨_,rfl⟩
 have pn4:=fun W=>isName_b q W (by omega)
 rw[hb4]at hit pn4
 have HI:=Lib.hid hit
 clear hit hb1 hb2 hb3 hb4
 have m1:(2:Int)<=(c0:Int):=by omega
 have m2:(5:Int)<=(c0:Int):=by omega
 go_enter Tryz.func76,Tryz.ntmps76
 replace H:=H.set 2 (.slice (some ⟨b,off+2,none⟩) 3 (c0-2))
 simp only[q1,q2,q3]at H
 obtain⟨WY,hWY⟩: ∃X,WX.setCell ⟨w.heap.size+1,2,none⟩ (.slice (some ⟨b,off+2,none⟩) 3 (c0-2))=X:=⟨_,rfl⟩
 rw[hWY]at H
 go_wp2
 clear a0 a0' a1 hWX st1 hWY hcw hfw hcx hfx a2
 replace H:=H.drew
 have t1:=u1 _ H.all
 have t2:=u2 _ H.all
 have t3:=u3 _ H.all
 have t4:=u4 _ H.all
 have lx:=ld_row H.kx Tryz.underlying106 rfl info_itm
 obtain⟨W9,st9,kr9,hg9⟩:=st_row WY.drew w.heap.size 106 106 #[.string ⟨#[]⟩,.string ⟨#[]⟩,.slice none 0 0,.int .i64 0,.int .i64 0] #[.string ⟨#[112,97,114,99,101,108]⟩,.string x,.slice (some ⟨b,off+2,none⟩) 3 (c0-2),.int .i64 0,.int .i64 0] H.kr info_itm rfl (by simp[Value.oneCell'])
 have l9:=ld_row kr9 Tryz.underlying106 rfl info_itm
 have hB9:Below w.heap.size w W9:=H.all.grown hg9 H.all.size (fun j e=>by cases e;exact Nat.le_refl _)
 have lx9:=ld_row ((hg9.block _ (lO H.kx) (by simp)).trans H.kx) Tryz.underlying106 rfl info_itm
 have y1:=u1 _ hB9
 have y2:=u2 _ hB9
 have y3:=u3 _ hB9
 have y4:=u4 _ hB9
 refine wp_region_held_drew (S:=fun W=>(loadVar 106 ⟨w.heap.size+1,0,none⟩).run Tryz.prog W=.ok (.agg #[.string ⟨#[112,97,114,99,101,108]⟩,.string x,.slice (some ⟨b,off+2,none⟩) 3 (c0-2),.int .i64 0,.int .i64 0]) W∧W.cell? ⟨b,off+1,none⟩=some (.string x)∧W.cell? ⟨b,off+2,none⟩=some (.string y)∧W.cell? ⟨b,off+3,none⟩=some (.string p)∧W.cell? ⟨b,off+4,none⟩=some (.string q)) (by kernel_rfl) ⟨lx,t1,t2,t3,t4⟩ (fun hHeld=> ?_)
 refine takeH 0 (some 107) (v:= ?_) rfl rfl (by kernel_rfl) (by kernel_rfl) (by kernel_rfl) (fun _ _ _ h=>h) (Or.inl ⟨by rfl,fun W hW=> ?_⟩) (by assumption) ?_
 rotate_left
 ·(try dsimp only at hW);obtain⟨s1,s2,s3,s4,s5⟩:=hW;go_simp;try with_reducible rfl
 try simp only[Act.put,q1,q2,q3]
 refine takeH 1 (some 108) (v:= ?_) rfl rfl (by kernel_rfl) (by kernel_rfl) (by kernel_rfl) (fun _ _ _ h=>h) (Or.inl ⟨by rfl,fun W hW=> ?_⟩) (by assumption) ?_
 rotate_left
 ·(try dsimp only at hW);obtain⟨s1,s2,s3,s4,s5⟩:=hW;go_simp;try with_reducible rfl
 try simp only[Act.put,q1,q2,q3]
 refine takeH 2 (some 109) (v:= ?_) rfl rfl (by kernel_rfl) (by kernel_rfl) (by kernel_rfl) (fun _ _ _ h=>h) (Or.inl ⟨by rfl,fun W hW=> ?_⟩) (by assumption) ?_
 rotate_left
 ·(try dsimp only at hW);obtain⟨s1,s2,s3,s4,s5⟩:=hW;go_simp;try with_reducible rfl
 try simp only[Act.put,q1,q2,q3]
 refine takeH 3 (some 110) (v:= ?_) rfl rfl (by kernel_rfl) (by kernel_rfl) (by kernel_rfl) (fun _ _ _ h=>h) (Or.inl ⟨by rfl,fun W hW=> ?_⟩) (by assumption) ?_
 rotate_left
 ·(try dsimp only at hW);obtain⟨s1,s2,s3,s4,s5⟩:=hW;go_simp;try with_reducible rfl
 try simp only[Act.put,q1,q2,q3]
 refine wpAnyH_ready (rs:=[4]) (by kernel_rfl) (by simp) ?_
 refine readyH (some 111) rfl rfl (fun K hK=> ?_) AllReadyH.nil
 go_simp
 refine(pn1 _).mono ?_
 rintro e w' ⟨rfl,rfl⟩
 refine hK.out _ _ ⟨lx,t1,t2,t3,t4⟩ (fun hHeld=> ?_)
 clear hK K
 try simp only[Act.put,q1,q2,q3]
 refine takeH 5 (some 112) (v:= ?_) rfl rfl (by kernel_rfl) (by kernel_rfl) (by kernel_rfl) (fun _ _ _ h=>h) (Or.inl ⟨by rfl,fun W hW=> ?_⟩) (by assumption) ?_
 rotate_left
 ·(try dsimp only at hW);obtain⟨s1,s2,s3,s4,s5⟩:=hW;go_simp;try with_reducible rfl
 try simp only[Act.put,q1,q2,q3]
 cases b1
 all_goals first
  |(
   refine takeH 6 (some 113) (v:= ?_) rfl rfl (by kernel_rfl) (by kernel_rfl) (by kernel_rfl) (fun _ _ _ h=>h) (Or.inl ⟨by rfl,fun W hW=> ?_⟩) (by assumption) ?_
   rotate_left
   ·(try dsimp only at hW);obtain⟨s1,s2,s3,s4,s5⟩:=hW;go_simp;try with_reducible rfl
   try simp only[Act.put,q1,q2,q3]
   refine takeH 7 (some 114) (v:= ?_) rfl rfl (by kernel_rfl) (by kernel_rfl) (by kernel_rfl) (fun _ _ _ h=>h) (Or.inl ⟨by rfl,fun W hW=> ?_⟩) (by assumption) ?_
   rotate_left
   ·(try dsimp only at hW);obtain⟨s1,s2,s3,s4,s5⟩:=hW;go_simp;try with_reducible rfl
   try simp only[Act.put,q1,q2,q3]
   refine takeH 8 (some 115) (v:= ?_) rfl rfl (by kernel_rfl) (by kernel_rfl) (by kernel_rfl) (fun _ _ _ h=>h) (Or.inl ⟨by rfl,fun W hW=> ?_⟩) (by assumption) ?_
   rotate_left
   ·(try dsimp only at hW);obtain⟨s1,s2,s3,s4,s5⟩:=hW;go_simp;try with_reducible rfl
   try simp only[Act.put,q1,q2,q3]
   refine wpAnyH_ready (rs:=[9]) (by kernel_rfl) (by simp) ?_
   refine readyH (some 116) rfl rfl (fun K hK=> ?_) AllReadyH.nil
   go_simp
   refine(pn2 _).mono ?_
   rintro e w' ⟨rfl,rfl⟩
   refine hK.out _ _ ⟨lx,t1,t2,t3,t4⟩ (fun hHeld=> ?_)
   clear hK K
   try simp only[Act.put,q1,q2,q3])
  |(
   refine takeH 6 (some 113) (v:=undef) rfl rfl (by kernel_rfl) (by kernel_rfl) (by kernel_rfl) (fun _ _ _ h=>h) (Or.inr ⟨by rfl,rfl⟩) (by assumption) ?_
   try simp only[Act.put,q1,q2,q3]
   refine takeH 7 (some 114) (v:=undef) rfl rfl (by kernel_rfl) (by kernel_rfl) (by kernel_rfl) (fun _ _ _ h=>h) (Or.inr ⟨by rfl,rfl⟩) (by assumption) ?_
   try simp only[Act.put,q1,q2,q3]
   refine takeH 8 (some 115) (v:=undef) rfl rfl (by kernel_rfl) (by kernel_rfl) (by kernel_rfl) (fun _ _ _ h=>h) (Or.inr ⟨by rfl,rfl⟩) (by assumption) ?_
   try simp only[Act.put,q1,q2,q3]
   refine takeH 9 (some 116) (v:=undef) rfl rfl (by kernel_rfl) (by kernel_rfl) (by kernel_rfl) (fun _ _ _ h=>h) (Or.inr ⟨by rfl,rfl⟩) (by assumption) ?_
   try simp only[Act.put,q1,q2,q3])
 all_goals (
  refine takeH 10 (some 117) (v:= ?_) rfl rfl (by kernel_rfl) (by kernel_rfl) (by kernel_rfl) (fun _ _ _ h=>h) (Or.inl ⟨by rfl,fun W hW=> ?_⟩) (by assumption) ?_
  rotate_left
  ·(try dsimp only at hW);obtain⟨s1,s2,s3,s4,s5⟩:=hW;go_simp;try with_reducible rfl
  try simp only[Act.put,q1,q2,q3]
  refine takeH 11 (some 118) (v:= ?_) rfl rfl (by kernel_rfl) (by kernel_rfl) (by kernel_rfl) (fun _ _ _ h=>h) (Or.inl ⟨by rfl,fun W hW=> ?_⟩) (by assumption) ?_
  rotate_left
  ·(try dsimp only at hW);obtain⟨s1,s2,s3,s4,s5⟩:=hW;go_simp;try with_reducible rfl
  try simp only[Act.put,q1,q2,q3])
 all_goals cases b2
 all_goals first
  |(
   refine takeH 12 (some 119) (v:= ?_) rfl rfl (by kernel_rfl) (by kernel_rfl) (by kernel_rfl) (fun _ _ _ h=>h) (Or.inl ⟨by rfl,fun W hW=> ?_⟩) (by assumption) ?_
   rotate_left
   ·(try dsimp only at hW);obtain⟨s1,s2,s3,s4,s5⟩:=hW;go_simp;try with_reducible rfl
   try simp only[Act.put,q1,q2,q3]
   refine takeH 13 (some 120) (v:= ?_) rfl rfl (by kernel_rfl) (by kernel_rfl) (by kernel_rfl) (fun _ _ _ h=>h) (Or.inl ⟨by rfl,fun W hW=> ?_⟩) (by assumption) ?_
   rotate_left
   ·(try dsimp only at hW);obtain⟨s1,s2,s3,s4,s5⟩:=hW;go_simp;try with_reducible rfl
   try simp only[Act.put,q1,q2,q3]
   refine takeH 14 (some 121) (v:= ?_) rfl rfl (by kernel_rfl) (by kernel_rfl) (by kernel_rfl) (fun _ _ _ h=>h) (Or.inl ⟨by rfl,fun W hW=> ?_⟩) (by assumption) ?_
   rotate_left
   ·(try dsimp only at hW);obtain⟨s1,s2,s3,s4,s5⟩:=hW;go_simp;try with_reducible rfl
   try simp only[Act.put,q1,q2,q3]
   refine wpAnyH_ready (rs:=[15]) (by kernel_rfl) (by simp) ?_
   refine readyH (some 122) rfl rfl (fun K hK=> ?_) AllReadyH.nil
   go_simp
   refine(pn3 _).mono ?_
   rintro e w' ⟨rfl,rfl⟩
   refine hK.out _ _ ⟨lx,t1,t2,t3,t4⟩ (fun hHeld=> ?_)
   clear hK K
   try simp only[Act.put,q1,q2,q3])
  |(
   refine takeH 12 (some 119) (v:=undef) rfl rfl (by kernel_rfl) (by kernel_rfl) (by kernel_rfl) (fun _ _ _ h=>h) (Or.inr ⟨by rfl,rfl⟩) (by assumption) ?_
   try simp only[Act.put,q1,q2,q3]
   refine takeH 13 (some 120) (v:=undef) rfl rfl (by kernel_rfl) (by kernel_rfl) (by kernel_rfl) (fun _ _ _ h=>h) (Or.inr ⟨by rfl,rfl⟩) (by assumption) ?_
   try simp only[Act.put,q1,q2,q3]
   refine takeH 14 (some 121) (v:=undef) rfl rfl (by kernel_rfl) (by kernel_rfl) (by kernel_rfl) (fun _ _ _ h=>h) (Or.inr ⟨by rfl,rfl⟩) (by assumption) ?_
   try simp only[Act.put,q1,q2,q3]
   refine takeH 15 (some 122) (v:=undef) rfl rfl (by kernel_rfl) (by kernel_rfl) (by kernel_rfl) (fun _ _ _ h=>h) (Or.inr ⟨by rfl,rfl⟩) (by assumption) ?_
   try simp only[Act.put,q1,q2,q3])
 all_goals (
  refine takeH 16 (some 123) (v:= ?_) rfl rfl (by kernel_rfl) (by kernel_rfl) (by kernel_rfl) (fun _ _ _ h=>h) (Or.inl ⟨by rfl,fun W hW=> ?_⟩) (by assumption) ?_
  rotate_left
  ·(try dsimp only at hW);obtain⟨s1,s2,s3,s4,s5⟩:=hW;go_simp;try with_reducible rfl
  try simp only[Act.put,q1,q2,q3]
  refine takeH 17 (some 124) (v:= ?_) rfl rfl (by kernel_rfl) (by kernel_rfl) (by kernel_rfl) (fun _ _ _ h=>h) (Or.inl ⟨by rfl,fun W hW=> ?_⟩) (by assumption) ?_
  rotate_left
  ·(try dsimp only at hW);obtain⟨s1,s2,s3,s4,s5⟩:=hW;go_simp;try with_reducible rfl
  try simp only[Act.put,q1,q2,q3])
 all_goals cases b3
 all_goals first
  |(
   refine takeH 18 (some 125) (v:= ?_) rfl rfl (by kernel_rfl) (by kernel_rfl) (by kernel_rfl) (fun _ _ _ h=>h) (Or.inl ⟨by rfl,fun W hW=> ?_⟩) (by assumption) ?_
   rotate_left
   ·(try dsimp only at hW);obtain⟨s1,s2,s3,s4,s5⟩:=hW;go_simp;try with_reducible rfl
   try simp only[Act.put,q1,q2,q3]
   refine takeH 19 (some 126) (v:= ?_) rfl rfl (by kernel_rfl) (by kernel_rfl) (by kernel_rfl) (fun _ _ _ h=>h) (Or.inl ⟨by rfl,fun W hW=> ?_⟩) (by assumption) ?_
   rotate_left
   ·(try dsimp only at hW);obtain⟨s1,s2,s3,s4,s5⟩:=hW;go_simp;try with_reducible rfl
   try simp only[Act.put,q1,q2,q3]
   refine takeH 20 (some 127) (v:= ?_) rfl rfl (by kernel_rfl) (by kernel_rfl) (by kernel_rfl) (fun _ _ _ h=>h) (Or.inl ⟨by rfl,fun W hW=> ?_⟩) (by assumption) ?_
   rotate_left
   ·(try dsimp only at hW);obtain⟨s1,s2,s3,s4,s5⟩:=hW;go_simp;try with_reducible rfl
   try simp only[Act.put,q1,q2,q3]
   refine wpAnyH_ready (rs:=[21]) (by kernel_rfl) (by simp) ?_
   refine readyH (some 128) rfl rfl (fun K hK=> ?_) AllReadyH.nil
   go_simp
   refine(pn4 _).mono ?_
   rintro e w' ⟨rfl,rfl⟩
   refine hK.out _ _ ⟨lx,t1,t2,t3,t4⟩ (fun hHeld=> ?_)
   clear hK K
   try simp only[Act.put,q1,q2,q3])
  |(
   refine takeH 18 (some 125) (v:=undef) rfl rfl (by kernel_rfl) (by kernel_rfl) (by kernel_rfl) (fun _ _ _ h=>h) (Or.inr ⟨by rfl,rfl⟩) (by assumption) ?_
   try simp only[Act.put,q1,q2,q3]
   refine takeH 19 (some 126) (v:=undef) rfl rfl (by kernel_rfl) (by kernel_rfl) (by kernel_rfl) (fun _ _ _ h=>h) (Or.inr ⟨by rfl,rfl⟩) (by assumption) ?_
   try simp only[Act.put,q1,q2,q3]
   refine takeH 20 (some 127) (v:=undef) rfl rfl (by kernel_rfl) (by kernel_rfl) (by kernel_rfl) (fun _ _ _ h=>h) (Or.inr ⟨by rfl,rfl⟩) (by assumption) ?_
   try simp only[Act.put,q1,q2,q3]
   refine takeH 21 (some 128) (v:=undef) rfl rfl (by kernel_rfl) (by kernel_rfl) (by kernel_rfl) (fun _ _ _ h=>h) (Or.inr ⟨by rfl,rfl⟩) (by assumption) ?_
   try simp only[Act.put,q1,q2,q3])
 all_goals (
  refine takeH 22 (some 129) (v:= ?_) rfl rfl (by kernel_rfl) (by kernel_rfl) (by kernel_rfl) (fun _ _ _ h=>h) (Or.inl ⟨by rfl,fun W hW=> ?_⟩) (by assumption) ?_
  rotate_left
  ·(try dsimp only at hW);obtain⟨s1,s2,s3,s4,s5⟩:=hW;go_simp;try with_reducible rfl
  try simp only[Act.put,q1,q2,q3])
 all_goals cases b4
 all_goals (
  refine wpAnyH_ready (rs:=[23]) (by kernel_rfl) (by simp) ?_
  refine readyH none rfl rfl (fun K hK=> ?_) AllReadyH.nil
  go_simp
  refine hK.out _ _ ⟨lx9,y1,y2,y3,y4⟩ (fun hHeld=> ?_)
  clear hK K
  try simp only[Act.put,q1,q2,q3]
  refine takeH 24 (some 3) (v:= ?_) rfl rfl (by kernel_rfl) (by kernel_rfl) (by kernel_rfl) (fun _ _ _ h=>h) (Or.inl ⟨by rfl,fun W hW=> ?_⟩) (by assumption) ?_
  rotate_left
  ·(try dsimp only at hW);obtain⟨s1,s2,s3,s4,s5⟩:=hW;go_simp;try with_reducible rfl
  try simp only[Act.put,q1,q2,q3]
  refine wpAnyH_done (by kernel_rfl) ?_ _
  go_wp2
  rw[HI.out]
  first
   |(refine bodyPost_ret (v:=.tuple #[.agg #[.string ⟨#[112,97,114,99,101,108]⟩,.string x,.slice (some ⟨b,off+2,none⟩) 3 (c0-2),.int .i64 0,.int .i64 0],.bool false]) (by simp[results,Tryz.results76,go_sem,l9]) rfl ?_;exact⟨_,rfl,rfl,by simp[Value.oneCell'],(fun q hq=>by simp at hq),hB9⟩)
   |(refine bodyPost_ret (v:=.tuple #[.agg #[.string ⟨#[112,97,114,99,101,108]⟩,.string x,.slice (some ⟨b,off+2,none⟩) 3 (c0-2),.int .i64 0,.int .i64 0],.bool true]) (by simp[results,Tryz.results76,go_sem,l9]) rfl ?_;exact⟨_,rfl,rfl,by simp[Value.oneCell'],(fun q hq=>by simp at hq;subst hq;rfl),hB9⟩))
end Go.Proofs.YtgbpekeoegfjpaaGreatDoor
