/- Each Go function computes its plain twin,by program. -/
import Derived.Test.YtcgffkkagmkhkaaGreatDoorWk1
namespace Go.Proofs.YtcgffkkagmkhkaaGreatDoor
open Go
open Go.Proofs.Tryz
set_option maxRecDepth 4000 in
theorem Uv (w : World) (Ag : Value) (Aj : List Ed) (Aw : Slc (view w []) 5 Ag (Aj.map Ed.enc)) (Ab : Value) (Al : List Es) (Ao : Slc (view w []) 3 Ab (Al.map Es.enc)) (Bc : Int) (r : Int × List (List Ei)) (h : Ng Aj Al Bc = some r) :
    Calls prog 37 [Ag,Ab,iV Bc].toArray w (Ret w [] fun τ v w'=>∃ (b : Nat) (u1 : Value) (rs : List RS),v = .pointer (some ⟨b,0,none⟩) ∧ Slc (Un τ b) 1 u1 (rs.map RS.enc) ∧ Iz (Se (Un τ b)) r.2 rs ∧ Grp w w' [] [.blk b [Ag,iV r.1,u1,iV Bc,.slice none 0 0,iV 0,iV 0,bV false] 86]):=by
 refine Kw [] [] func37 rfl ntmps37 rfl (by simp) (by simp [fps]) (by simp [fps]) fun a S=>?_
 unfold Ng at h
 replace S:=S.k3 0 1 2 rfl
 refine Fs ?_
 refine Fg ?_
 refine lv S (Ra rfl) rfl ?_;clear S;intro a S
 refine Ld ?_
 refine Tn ?_
 refine Fs ?_
 refine Fg ?_
 refine lv S (Rm (S.tm rfl)) rfl ?_;clear S;intro a S
 refine lv S (Rm (S.tm rfl)) rfl ?_;clear S;intro a S
 refine lv S (Nl bt_86 (pv:=[(0,Ag),(3,iV Bc)]) ⟨rfl,(S.tm rfl),rfl,(S.tm rfl),trivial⟩ (cs:=[Ag,iV 0,.slice none 0 0,iV Bc,.slice none 0 0,iV 0,iV 0,bV false]) (by obtain ⟨_,_,hv⟩:=(Eh Aw);rw [hv];clear hv;kernel_rfl)) rfl ?_;clear S;intro a S
 refine Qp S (S.tm rfl) (cs:=[Ag,iV 0,.slice none 0 0,iV Bc,.slice none 0 0,iV 0,iV 0,bV false]) rfl rfl ?_;clear S;intro a w1 b1 hz1 hk1 S
 replace S:=S.nil 117 1
 refine lv S (Ra (S.tm rfl)) rfl ?_;clear S;intro a S
 refine Ld ?_
 refine Tn ?_
 refine Fs ?_
 refine Fs ?_
 refine Fg ?_
 refine lv S (Rm (S.tm rfl)) rfl ?_;clear S;intro a S
 refine lv S (Fy Rg (S.tm rfl) (Eh Ao)) rfl ?_;clear S;intro a S
 refine lv S (Rm rfl) rfl ?_;clear S;intro a S
 refine Ld ?_
 refine Tn ?_
 replace S : Sx w [] nov ([.own (.slice none 0 0) 117 1 ([] : List RS).length (([] : List RS).flatMap RS.enc),.blk b1 [Ag,iV 0,(.slice none 0 0),iV Bc,(.slice none 0 0),iV 0,iV 0,bV false] 86] ++ Ln 120 2 Ei.enc (([] : List RS).map (·.val)) ([] : List (List Ei))) [(0,Ag),(1,Ab),(2,iV Bc),(7,.pointer (some ⟨b1,0,none⟩)),(16,Ab),(17,iV (Al.length : Int)),(18,iV 0)] 120 a w1:=S.sub (subR rfl)
 obtain ⟨j1,hj1,h⟩:=Ge h
 refine Ft (fun a w'=>∃ x1 : Int,∃ x2 : List (List Ei),∃ rs : List RS,∃ v1 : Value,j1 x1 x2 = some r ∧ rs.length = x2.length ∧ Sx w [] nov ([.own v1 117 1 rs.length (rs.flatMap RS.enc),.blk b1 [Ag,iV x1,v1,iV Bc,(.slice none 0 0),iV 0,iV 0,bV false] 86] ++ Ln 120 2 Ei.enc (rs.map (·.val)) x2) [(7,.pointer (some ⟨b1,0,none⟩))] 120 a w') ?_ ?_
 ·refine wp_block (Hh (fun (ys1 : List Es) a w'=>∃ i1 : Nat,∃ x1 : Int,∃ x2 : List (List Ei),∃ rs : List RS,∃ v1 : Value,(∃ dn,Al = dn ++ ys1 ∧ dn.length = i1) ∧ Gc Aj Al Bc j1 ys1 i1 x1 x2 = some r ∧ rs.length = x2.length ∧ Sx w [] nov ([.own v1 117 1 rs.length (rs.flatMap RS.enc),.blk b1 [Ag,iV x1,v1,iV Bc,(.slice none 0 0),iV 0,iV 0,bV false] 86] ++ Ln 120 2 Ei.enc (rs.map (·.val)) x2) [(0,Ag),(1,Ab),(2,iV Bc),(7,.pointer (some ⟨b1,0,none⟩)),(16,Ab),(17,iV (Al.length : Int)),(18,iV (i1 : Int))] 120 a w') List.length Al ⟨0,0,[],[],_,⟨[],rfl,rfl⟩,h,rfl,S.sub (subR rfl)⟩ ?_)
  clear S h;rintro ys1 a w2 ⟨i1,x1,x2,rs,v1,⟨dn,hd1,hi1⟩,h,hl,S⟩
  cases ys1 with
  | nil =>
   rw [Gc.eq_1] at h
   refine Fr (Vb S Fm rfl rfl rfl fun a S=>Dl ?_)
   exact Fs (wp_cond_false ((S.tm rfl).trans (congrArg Value.bool (Ih hd1 hi1))) (wp_exit (Fj (Fj (He (Tn ⟨x1,x2,rs,v1,h,hl,S.sub (subR rfl)⟩))))))
  | cons y1 ys1 =>
   rw [Gc.eq_2] at h
   refine Fr (Vb S Fm rfl rfl rfl fun a S=>Dl ?_)
   refine Fs (wp_cond_true ((S.tm rfl).trans (congrArg Value.bool (Hb hd1 hi1))) (wp_skip (Tn (Fs ?_))))
   refine wp_block ?_
   refine Fs ?_
   refine Fg ?_
   refine lv S (Rm (S.tm rfl)) rfl ?_;clear S;intro a S
   obtain ⟨b2,o1,hm1,hr1⟩:=Ff (a:=a) (x:=.tmp 16) (y:=.tmp 18) (ty:=0) Rg Ao (Ig hd1 hi1) rfl (S.tm rfl) (S.tm rfl)
   refine lv S (hr1 _) rfl ?_;clear S;intro a S
   clear hr1
   refine lv S (Hf isAgg59 sizeOf59 (off:=o1) (o:=0) (part:=(Es.enc y1)) rfl rfl (S.tm rfl) (hm1.at S.emb0)) rfl ?_;clear S;intro a S
   refine Lm S zeroValue59 (cs:=[sV En,sV En,iV 0]) rfl rfl ?_;clear S;intro a w3 b3 hz2 hk2 S
   refine lv S (Ra (S.tm rfl)) rfl ?_;clear S;intro a S
   refine Ki S (S.tm rfl) (S.tm rfl) (i:=0) (off:=0) rfl sizeOf59 (vs:=(Es.enc y1)) rfl rfl rfl rfl ?_;clear S;intro w4 hk3 S
   refine Ld ?_
   refine Tn ?_
   replace S : Sx w [] nov ([.blk b3 (Es.enc y1) 59,.own v1 117 1 rs.length (rs.flatMap RS.enc),.blk b1 [Ag,iV x1,v1,iV Bc,(.slice none 0 0),iV 0,iV 0,bV false] 86] ++ Ln 120 2 Ei.enc (rs.map (·.val)) x2) [(0,Ag),(1,Ab),(2,iV Bc),(7,.pointer (some ⟨b1,0,none⟩)),(8,iV (i1 : Int)),(9,.pointer (some ⟨b3,0,none⟩)),(16,Ab),(17,iV (Al.length : Int)),(18,iV (i1 : Int))] 120 a w4:=S.sub (subR rfl)
   obtain ⟨j2,hj2,h⟩:=Ge h
   refine Fs ?_
   refine Fs ?_
   refine Gq [] ([]) Tryz.mixed S rfl (by kernel_rfl) ?_;clear S;intro w5 hk4 hsel S
   refine Jn [0,1,2,3,4,5,6,7,8,9,10,11,12] hsel (by kernel_rfl) rfl ?_
   clear hsel
   refine Fk S rfl (Rm (S.tm rfl)) rfl ?_;clear S;intro a S
   refine Fk S rfl (Mc (S.tm rfl) rfl) rfl ?_;clear S;intro a S
   refine Fk S rfl (Rm (S.tm rfl)) rfl ?_;clear S;intro a S
   obtain ⟨jc,hjc,h⟩:=Ge h
   refine Ya 10 (fun a w'=>∃ c1,jc c1 = some r ∧ Keep [] w5 w' ∧ Sx w [] nov ([.blk b3 (Es.enc y1) 59,.own v1 117 1 rs.length (rs.flatMap RS.enc),.blk b1 [Ag,iV x1,v1,iV Bc,(.slice none 0 0),iV 0,iV 0,bV false] 86] ++ Ln 120 2 Ei.enc (rs.map (·.val)) x2) [(0,Ag),(1,Ab),(2,iV Bc),(7,.pointer (some ⟨b1,0,none⟩)),(9,.pointer (some ⟨b3,0,none⟩)),(16,Ab),(17,iV (Al.length : Int)),(18,iV (i1 : Int)),(35,bV c1)] 120 a w') ?_ ?_
   ·rcases Bool.eq_false_or_eq_true (decide ((i1 : Int) = 0)) with hb1 | hb1
    ·replace h:=Py h hb1
     iterate 9 (refine Pv S rfl rfl rfl rfl (Nu hb1) rfl ?_ rfl;clear S;intro a S)
     refine Fk S rfl (Od true hb1 (S.tm rfl) rfl) rfl ?_;clear S;intro a S
     refine Hx ?_
     exact ⟨_,h,Keep.refl _ _,S.nf [true,true,true] rfl (subR rfl)⟩
    ·replace h:=Pz h hb1
     refine Gx S rfl rfl rfl rfl hb1 ?_
     refine Io S (Rm (S.tm rfl)) rfl ?_;clear S;intro a S
     refine Gx S rfl rfl rfl rfl hb1 ?_
     refine Io S (Rm (S.tm rfl)) rfl ?_;clear S;intro a S
     refine Gx S rfl rfl rfl rfl hb1 ?_
     refine Io S (Iq (S.tm rfl) rfl) rfl ?_;clear S;intro a S
     refine Gx S rfl rfl rfl rfl hb1 ?_
     obtain ⟨hc1,h⟩:=Hu h
     obtain ⟨b4,o2,hm2,hr2⟩:=Ff (a:=a) (x:=.tmp 26) (y:=.tmp 28) (ty:=0) Rg Ao (El hc1).1 (El hc1).2 (S.tm rfl) (S.tm rfl)
     refine Io S (hr2 _) rfl ?_;clear S;intro a S
     clear hr2
     refine Gx S rfl rfl rfl rfl hb1 ?_
     refine Io S (Fz Rt (S.tm rfl)) rfl ?_;clear S;intro a S
     refine Gx S rfl rfl rfl rfl hb1 ?_
     refine Io S (Gt isAgg9 (off:=o2) (o:=0) (S.tm rfl) (hm2.at S.emb0) rfl) rfl ?_;clear S;intro a S
     refine Gx S rfl rfl rfl rfl hb1 ?_
     refine Io S (Fz Rt (S.tm rfl)) rfl ?_;clear S;intro a S
     refine Gx S rfl rfl rfl rfl hb1 ?_
     refine Io S (Lj isAgg9 (S.tm rfl) (S.cell (i:=0) rfl rfl)) rfl ?_;clear S;intro a S
     refine Gx S rfl rfl rfl rfl hb1 ?_
     refine Io S (EZ (S.tm rfl) (S.tm rfl)) rfl ?_;clear S;intro a S
     refine Fk S rfl (Oe hb1 (S.tm rfl) (S.tm rfl)) rfl ?_;clear S;intro a S
     refine Hx ?_
     exact ⟨_,h,Keep.refl _ _,S.nf [true,true,true] rfl (subR rfl)⟩
   clear S h;rintro a w6 ⟨c1,h,hk5,S⟩;rw [hjc] at h;clear hjc jc
   refine Hx ?_
   refine Tn ?_
   refine Ft (fun a w'=>∃ x3 : List (List Ei),∃ rs3 : List RS,∃ v3 : Value,j2 x3 = some r ∧ rs3.length = x3.length ∧ Sx w [] nov ([.blk b3 (Es.enc y1) 59,.own v3 117 1 rs3.length (rs3.flatMap RS.enc),.blk b1 [Ag,iV x1,v3,iV Bc,(.slice none 0 0),iV 0,iV 0,bV false] 86] ++ Ln 120 2 Ei.enc (rs3.map (·.val)) x3) [(0,Ag),(1,Ab),(2,iV Bc),(7,.pointer (some ⟨b1,0,none⟩)),(9,.pointer (some ⟨b3,0,none⟩)),(16,Ab),(17,iV (Al.length : Int)),(18,iV (i1 : Int))] 120 a w') ?_ ?_
   ·refine Xx (S.tm rfl) (fun hb2=>?_) (fun hb2=>?_)
    ·replace h:=Py h hb2
     obtain ⟨hc2,h⟩:=Hu h
     obtain ⟨hc3,h⟩:=Hu h
     refine Gq [12] (v1.ownBlock.toList) Tryz.mixed S rfl (by kernel_rfl) ?_;clear S;intro w12 hk10 hsel S
     refine Ij 0 S hsel rfl rfl (by kernel_rfl) (by kernel_rfl) rfl (fun _=>(Rm (S.tm rfl))) ?_;clear S;intro a S
     refine Ij 1 S hsel rfl rfl (by kernel_rfl) (by kernel_rfl) rfl (fun _=>(Rm (S.tm rfl))) ?_;clear S;intro a S
     refine Ij 2 S hsel rfl rfl (by kernel_rfl) (by kernel_rfl) rfl (fun _=>(Fu (S.tm rfl))) ?_;clear S;intro a S
     refine Ij 3 S hsel rfl rfl (by kernel_rfl) (by kernel_rfl) rfl (fun _=>(Fz Xi (S.tm rfl))) ?_;clear S;intro a S
     refine Ej 4 S hsel rfl (by kernel_rfl) (by kernel_rfl) (by kernel_rfl) (by kernel_rfl) rfl (fun _ hw=>(Gt isAgg84 (off:=0) (o:=2) (S.tm rfl) ((S.blk_mem (i:=2) (cells:=[Ag,iV x1,v1,iV Bc,(.slice none 0 0),iV 0,iV 0,bV false]) (b:=b1) (T:=86) rfl (Ob (i:=1) (j:=2) (e:=_) (e':=.blk b1 [Ag,iV x1,v1,iV Bc,(.slice none 0 0),iV 0,iV 0,bV false] 86) S rfl rfl rfl)).kept hw) rfl)) ?_;clear S;intro a S
     refine Ij 5 S hsel rfl rfl (by kernel_rfl) (by kernel_rfl) rfl (fun _=>(Rm (S.tm rfl))) ?_;clear S;intro a S
     refine Ij 6 S hsel rfl rfl (by kernel_rfl) (by kernel_rfl) rfl (fun _=>(Fy Jp (S.tm rfl) (Eh Aw))) ?_;clear S;intro a S
     refine Ga 7 (by kernel_rfl) rfl ?_
     refine HS (Z:=(Ei.mk 0 0)) S Zv Ei.enc_ok (by kernel_rfl) rfl rfl (S.tm rfl) (mk_lo hc2) (mk_hi hc2) rfl ?_;clear S;intro a w13 b7 hz5 hk11 S
     refine Ld ?_
     refine Gn (Keep.none hk11) ?_
     refine Ga 8 (by kernel_rfl) rfl ?_
     refine Fo S underlying84 sizeOf117 zeroValue117 rfl rfl (pv:=[(0,(.slice (some ⟨b7,0,none⟩) ((Aj.length : Int).toNat) ((Aj.length : Int).toNat)))]) ⟨rfl,(S.tm rfl),trivial⟩ (cs:=[(.slice (some ⟨b7,0,none⟩) ((Aj.length : Int).toNat) ((Aj.length : Int).toNat))]) (by kernel_rfl) rfl ?_;clear S;intro a w14 b8 hz6 hk12 S
     refine Ld ?_
     refine Gn (Keep.none hk12) ?_
     refine Ga 9 (by kernel_rfl) rfl ?_
     have hone : (Value.slice (some ⟨b7,0,none⟩) ((Aj.length : Int).toNat) ((Aj.length : Int).toNat)).oneCell' = true:=Eo.one ⟨_,_,rfl⟩
     refine Ov DN RS.enc_ok S (S.tm rfl) (i:=3) rfl (S.tm rfl) (j:=0) rfl (ys:=[(⟨(.slice (some ⟨b7,0,none⟩) ((Aj.length : Int).toNat) ((Aj.length : Int).toNat)),hone⟩ : RS)]) rfl rfl rfl rfl (by have:=Le hc3;simp;omega) rfl ?_;clear S;intro v3 a w15 hk13 S
     refine Ld ?_
     refine Gn hk13 ?_
     refine Ij 10 S hsel rfl rfl (by kernel_rfl) (by kernel_rfl) rfl (fun _=>(Fu (S.tm rfl))) ?_;clear S;intro a S
     refine Ij 11 S hsel rfl rfl (by kernel_rfl) (by kernel_rfl) rfl (fun _=>(Fz Xi (S.tm rfl))) ?_;clear S;intro a S
     refine Zc 12 ([b1]) rfl (by kernel_rfl) rfl ?_
     refine Ki S (S.tm rfl) (S.tm rfl) (i:=4) (off:=2) rfl sizeOf84 (vs:=[v3]) (Eo.cells (Nc (S.own_at (i:=3) rfl))) rfl rfl (Ys (Eo.one (Nc (S.own_at (i:=3) rfl))) rfl) ?_;clear S;intro w16 hk14 S
     refine Ld ?_
     refine Zd ?_
     refine Ta (by kernel_rfl) ?_
     clear hsel
     replace S : Sx w [] nov (.own (.slice (some ⟨b7,0,none⟩) ((Aj.length : Int).toNat) ((Aj.length : Int).toNat)) 120 2 (List.replicate ((Aj.length : Int).toNat) (Ei.mk 0 0)).length ((List.replicate ((Aj.length : Int).toNat) (Ei.mk 0 0)).flatMap Ei.enc) :: ([.blk b3 (Es.enc y1) 59,.own v3 117 1 (rs ++ [(⟨(.slice (some ⟨b7,0,none⟩) ((Aj.length : Int).toNat) ((Aj.length : Int).toNat)),hone⟩ : RS)]).length ((rs ++ [(⟨(.slice (some ⟨b7,0,none⟩) ((Aj.length : Int).toNat) ((Aj.length : Int).toNat)),hone⟩ : RS)]).flatMap RS.enc),.blk b1 [Ag,iV x1,v3,iV Bc,(.slice none 0 0),iV 0,iV 0,bV false] 86] ++ Ln 120 2 Ei.enc (rs.map (·.val)) x2)) [(0,Ag),(1,Ab),(2,iV Bc),(7,.pointer (some ⟨b1,0,none⟩)),(9,.pointer (some ⟨b3,0,none⟩)),(16,Ab),(17,iV (Al.length : Int)),(18,iV (i1 : Int))] 120 a w16:=(Sx.drop S (List.sublist_cons_self _ _)).sub (subR rfl)
     replace S:=Sx.join_rows (by rw [List.length_map];exact hl) S
     refine Tn ⟨x2 ++ [List.replicate ((Aj.length : Int).toNat) (Ei.mk 0 0)],rs ++ [(⟨(.slice (some ⟨b7,0,none⟩) ((Aj.length : Int).toNat) ((Aj.length : Int).toNat)),hone⟩ : RS)],v3,h,by simp [hl],?_⟩
     rw [List.map_append]
     exact S
    ·replace h:=Pz h hb2
     exact wp_skip (Tn ⟨x2,rs,v1,h,hl,S.sub (subR rfl)⟩)
   clear S h;rintro a w7 ⟨x3,rs3,v3,h,hl3,S⟩;rw [hj2] at h
   refine Tn ?_
   obtain ⟨hc4,h⟩:=Hu h
   obtain ⟨hc5,h⟩:=Hu h
   have hx3:=(El hc4).1
   have hz3:=(El hc4).2
   have hlr : ((rs3.length : Nat) : Int) = (x3.length : Int):=by rw [hl3]
   generalize hrow : nth x3 (W ((x3.length : Int) - 1)) = row at h hc5 hx3
   generalize hjr : (W ((x3.length : Int) - 1)).toNat = jr at h hx3 hz3
   obtain ⟨rw1,hr3⟩ : ∃ q,rs3[jr]? = some q:=⟨_,List.getElem?_eq_getElem (by rw [hl3];exact (List.getElem?_eq_some_iff.1 hx3).1)⟩
   have hv3 : (rs3.map (·.val))[jr]? = some rw1.val:=by rw [List.getElem?_map,hr3];rfl
   replace S:=S.take_row hv3 hx3
   generalize hkk : Ef Aj y1.Item = kk at h hc5
   obtain ⟨sp,hsp,hzk⟩ : ∃ sp,row[kk.toNat]? = some sp ∧ nth row kk = sp:=⟨_,(El hc5).1,rfl⟩
   rw [hzk] at h
   obtain ⟨j3,hj3,h⟩:=Ge h
   refine Fs ?_
   refine Fg ?_
   refine lv S (Rm (S.tm rfl)) rfl ?_;clear S;intro a S
   refine lv S (Fz Xe (S.tm rfl)) rfl ?_;clear S;intro a S
   refine lv S (Lj isAgg9 (S.tm rfl) (S.cell (i:=1) rfl rfl)) rfl ?_;clear S;intro a S
   refine Em S (fun _=>Eg (vs:=[Ag,sV y1.Item]) ⟨(S.tm rfl),(S.tm rfl),trivial⟩ call39) (Pg _ Ag Aj (Aw.mono (S.le_arg Fh)) y1.Item _ hkk) rfl ?_;clear S;intro v4 a w17 hv1 hk15 hn1 S
   subst hv1
   refine lv S (Ra (S.tm rfl)) rfl ?_;clear S;intro a S
   refine Ld ?_
   refine Tn ?_
   refine Fs ?_
   refine Gq [] ([]) Tryz.mixed S rfl (by kernel_rfl) ?_;clear S;intro w18 hk16 hsel S
   refine Jn [0,1,2,3,4,5,6,7,8,9,10,11,12,13,14] hsel (by kernel_rfl) rfl ?_
   clear hsel
   refine Fk S rfl (Rm (S.tm rfl)) rfl ?_;clear S;intro a S
   refine Fk S rfl (Fu (S.tm rfl)) rfl ?_;clear S;intro a S
   refine Fk S rfl (Fz Xi (S.tm rfl)) rfl ?_;clear S;intro a S
   refine Fk S rfl (Lj isAgg84 (S.tm rfl) (S.cell (i:=3) rfl rfl)) rfl ?_;clear S;intro a S
   refine Fk S rfl (Rm (S.tm rfl)) rfl ?_;clear S;intro a S
   refine Fk S rfl (Fu (S.tm rfl)) rfl ?_;clear S;intro a S
   refine Fk S rfl (Fz Xi (S.tm rfl)) rfl ?_;clear S;intro a S
   refine Fk S rfl (Lj isAgg84 (S.tm rfl) (S.cell (i:=3) rfl rfl)) rfl ?_;clear S;intro a S
   refine Fk S rfl (Fy DN (S.tm rfl) (Nc (S.own_at (i:=2) rfl))) rfl ?_;clear S;intro a S
   refine Fk S rfl (Iq (S.tm rfl) rfl) rfl ?_;clear S;intro a S
   obtain ⟨b9,hg2,hr6⟩:=Gz (a:=a) (x:=.tmp 55) (y:=.tmp 61) (ty:=0) DN RS.enc_ok S (i:=2) rfl hr3 (by rw [hlr];exact hz3) (S.tm rfl) (S.tm rfl)
   refine Fk S rfl (hr6 _) rfl ?_;clear S;intro a S
   clear hr6
   refine Fk S rfl (Gt isAgg117 (off:=jr * 1) (o:=0) (cs:=[rw1.val]) (v:=rw1.val) (S.tm rfl) (show Nd w18 b9 _ [rw1.val] from Nb (enc:=RS.enc) RS.enc_ok S (i:=2) rfl hg2 hr3) rfl) rfl ?_;clear S;intro a S
   refine Fk S rfl (Rm (S.tm rfl)) rfl ?_;clear S;intro a S
   obtain ⟨b10,hg3,hr7⟩:=Gz (a:=a) (x:=.tmp 63) (y:=.tmp 64) (ty:=0) Zv Ei.enc_ok S (i:=0) rfl hsp (El hc5).2 (S.tm rfl) (S.tm rfl)
   refine Fk S rfl (hr7 _) rfl ?_;clear S;intro a S
   clear hr7
   refine Fk S rfl (Ra (S.tm rfl)) rfl ?_;clear S;intro a S
   refine Hx ?_
   refine Tn ?_
   replace S : Sx w [] nov ([.own rw1.val 120 2 row.length (row.flatMap Ei.enc)] ++ ([.blk b3 (Es.enc y1) 59,.own v3 117 1 rs3.length (rs3.flatMap RS.enc),.blk b1 [Ag,iV x1,v3,iV Bc,(.slice none 0 0),iV 0,iV 0,bV false] 86] ++ Ln 120 2 Ei.enc ((rs3.map (·.val)).set jr (.slice none 0 0)) (x3.set jr []))) [(0,Ag),(1,Ab),(2,iV Bc),(7,.pointer (some ⟨b1,0,none⟩)),(9,.pointer (some ⟨b3,0,none⟩)),(10,iV kk),(11,.pointer (some ⟨b10,kk.toNat * 2,none⟩)),(16,Ab),(17,iV (Al.length : Int)),(18,iV (i1 : Int))] 120 a w18:=S.sub (subR rfl)
   refine Fs ?_
   refine Fs ?_
   refine Fg ?_
   refine lv S (Rm (S.tm rfl)) rfl ?_;clear S;intro a S
   refine lv S (Fu (S.tm rfl)) rfl ?_;clear S;intro a S
   refine lv S (Fz Tc (S.tm rfl)) rfl ?_;clear S;intro a S
   refine lv S (Gt isAgg3 (off:=kk.toNat * 2) (o:=1) (S.tm rfl) (Nb Ei.enc_ok S (i:=0) rfl hg3 hsp) rfl) rfl ?_;clear S;intro a S
   refine lv S (Mc (S.tm rfl) rfl) rfl ?_;clear S;intro a S
   refine Ld ?_
   refine Tn ?_
   refine Ft (fun a w'=>∃ x4 : Int,j3 x4 = some r ∧ Sx w [] nov ([.own rw1.val 120 2 (row.set kk.toNat (Ei.mk (if decide (sp.last_ = 0) then y1.Heat else sp.first_) sp.last_)).length ((row.set kk.toNat (Ei.mk (if decide (sp.last_ = 0) then y1.Heat else sp.first_) sp.last_)).flatMap Ei.enc)] ++ ([.blk b3 (Es.enc y1) 59,.own v3 117 1 rs3.length (rs3.flatMap RS.enc),.blk b1 [Ag,iV x4,v3,iV Bc,(.slice none 0 0),iV 0,iV 0,bV false] 86] ++ Ln 120 2 Ei.enc ((rs3.map (·.val)).set jr (.slice none 0 0)) (x3.set jr []))) [(0,Ag),(1,Ab),(2,iV Bc),(7,.pointer (some ⟨b1,0,none⟩)),(9,.pointer (some ⟨b3,0,none⟩)),(11,.pointer (some ⟨b10,kk.toNat * 2,none⟩)),(16,Ab),(17,iV (Al.length : Int)),(18,iV (i1 : Int))] 120 a w') ?_ ?_
   ·refine Xx (S.tm rfl) (fun hb3=>?_) (fun hb3=>?_)
    ·replace h:=Py h hb3
     refine Fg ?_
     refine lv S (Rm (S.tm rfl)) rfl ?_;clear S;intro a S
     refine lv S (Fz Sr (S.tm rfl)) rfl ?_;clear S;intro a S
     refine lv S (Lj isAgg3 (S.tm rfl) (S.cell (i:=1) rfl rfl)) rfl ?_;clear S;intro a S
     refine lv S (Fu (S.tm rfl)) rfl ?_;clear S;intro a S
     refine lv S (Fz DT (S.tm rfl)) rfl ?_;clear S;intro a S
     refine Mt (c:=0) (j:=kk.toNat) (Ei.mk y1.Heat sp.last_) Ei.enc_ok S (S.tm rfl) (S.tm rfl) (i:=0) rfl hg3 hsp sizeOf3 (vs:=[iV y1.Heat]) rfl rfl rfl rfl rfl ?_;clear S;intro w19 hk17 S
     refine Ld (Tn ⟨x1,h,?_⟩)
     rw [if_pos hb3]
     exact S.sub (subR rfl)
    ·replace h:=Pz h hb3
     obtain ⟨hc6,h⟩:=Hu h
     refine Fs ?_
     refine Gq [] ([]) Tryz.mixed S rfl (by kernel_rfl) ?_;clear S;intro w19 hk17 hsel S
     refine Jn [0,1,2,3,4,5,6,7,8,9,10,11,12,13,14,15,16,17,18,19,20,21,22,23,24,25,26,27,28,29] hsel (by kernel_rfl) rfl ?_
     clear hsel
     refine Fk S rfl (Fz Sr (S.tm rfl)) rfl ?_;clear S;intro a S
     refine Fk S rfl (Lj isAgg3 (S.tm rfl) (S.cell (i:=1) rfl rfl)) rfl ?_;clear S;intro a S
     refine Fk S rfl (Rm (S.tm rfl)) rfl ?_;clear S;intro a S
     refine Fk S rfl (Fu (S.tm rfl)) rfl ?_;clear S;intro a S
     refine Fk S rfl (Fz Tc (S.tm rfl)) rfl ?_;clear S;intro a S
     refine Fk S rfl (Gt isAgg3 (off:=kk.toNat * 2) (o:=1) (cs:=[iV sp.first_,iV sp.last_]) (v:=iV sp.last_) (S.tm rfl) (show Nd w19 b10 _ [iV sp.first_,iV sp.last_] from Nb (enc:=Ei.enc) Ei.enc_ok S (i:=0) rfl hg3 hsp) rfl) rfl ?_;clear S;intro a S
     refine Fk S rfl (Iq (S.tm rfl) (S.tm rfl)) rfl ?_;clear S;intro a S
     refine Fk S rfl (Iq (S.tm rfl) rfl) rfl ?_;clear S;intro a S
     refine Fk S rfl (Rm (S.tm rfl)) rfl ?_;clear S;intro a S
     refine Fk S rfl (Rm (S.tm rfl)) rfl ?_;clear S;intro a S
     obtain ⟨b11,o3,hm3,hr8⟩:=Ff (a:=a) (x:=.tmp 84) (y:=.tmp 85) (ty:=0) Jp Aw (El hc6).1 (El hc6).2 (S.tm rfl) (S.tm rfl)
     refine Fk S rfl (hr8 _) rfl ?_;clear S;intro a S
     clear hr8
     refine Fk S rfl (Fz Ua (S.tm rfl)) rfl ?_;clear S;intro a S
     refine Fk S rfl (Gt isAgg3 (off:=o3) (o:=2) (S.tm rfl) (hm3.at S.emb0) rfl) rfl ?_;clear S;intro a S
     refine Fk S rfl (Xw (S.tm rfl) (S.tm rfl)) rfl ?_;clear S;intro a S
     refine Fk S rfl (Fz Sr (S.tm rfl)) rfl ?_;clear S;intro a S
     refine Fk S rfl (Lj isAgg3 (S.tm rfl) (S.cell (i:=1) rfl rfl)) rfl ?_;clear S;intro a S
     refine Fk S rfl (Rm (S.tm rfl)) rfl ?_;clear S;intro a S
     refine Fk S rfl (Fu (S.tm rfl)) rfl ?_;clear S;intro a S
     refine Fk S rfl (Fz Tc (S.tm rfl)) rfl ?_;clear S;intro a S
     refine Fk S rfl (Gt isAgg3 (off:=kk.toNat * 2) (o:=1) (cs:=[iV sp.first_,iV sp.last_]) (v:=iV sp.last_) (S.tm rfl) (show Nd w19 b10 _ [iV sp.first_,iV sp.last_] from Nb (enc:=Ei.enc) Ei.enc_ok S (i:=0) rfl hg3 hsp) rfl) rfl ?_;clear S;intro a S
     refine Fk S rfl (Iq (S.tm rfl) (S.tm rfl)) rfl ?_;clear S;intro a S
     refine Fk S rfl (Rm (S.tm rfl)) rfl ?_;clear S;intro a S
     refine Fk S rfl (Rm (S.tm rfl)) rfl ?_;clear S;intro a S
     obtain ⟨b12,o4,hm4,hr9⟩:=Ff (a:=a) (x:=.tmp 97) (y:=.tmp 98) (ty:=0) Jp Aw (El hc6).1 (El hc6).2 (S.tm rfl) (S.tm rfl)
     refine Fk S rfl (hr9 _) rfl ?_;clear S;intro a S
     clear hr9
     refine Fk S rfl (Fz Zf (S.tm rfl)) rfl ?_;clear S;intro a S
     refine Fk S rfl (Gt isAgg3 (off:=o4) (o:=3) (S.tm rfl) (hm4.at S.emb0) rfl) rfl ?_;clear S;intro a S
     refine Fk S rfl (Xw (S.tm rfl) (S.tm rfl)) rfl ?_;clear S;intro a S
     refine Fk S rfl (Gd (S.tm rfl) (S.tm rfl)) rfl ?_;clear S;intro a S
     refine Fk S rfl (Rm (S.tm rfl)) rfl ?_;clear S;intro a S
     refine Fk S rfl (Fm (S.tm rfl) (S.tm rfl)) rfl ?_;clear S;intro a S
     refine Hx ?_
     refine Tn ?_
     have hsj : row.set kk.toNat (Ei.mk (if decide (sp.last_ = 0) then y1.Heat else sp.first_) sp.last_) = row:=by rw [if_neg (by rw [hb3];simp)];exact FG hsp
     rw [hsj]
     refine Xx (S.tm rfl) (fun hb4=>?_) (fun hb4=>?_)
     ·replace h:=Py h hb4
      refine Fg ?_
      refine lv S (Rm (S.tm rfl)) rfl ?_;clear S;intro a S
      refine lv S (Fu (S.tm rfl)) rfl ?_;clear S;intro a S
      refine lv S (Fz CI (S.tm rfl)) rfl ?_;clear S;intro a S
      refine lv S (Lj isAgg3 (S.tm rfl) (S.cell (i:=3) rfl rfl)) rfl ?_;clear S;intro a S
      refine lv S (Gd (S.tm rfl) rfl) rfl ?_;clear S;intro a S
      refine lv S (Fu (S.tm rfl)) rfl ?_;clear S;intro a S
      refine lv S (Fz CI (S.tm rfl)) rfl ?_;clear S;intro a S
      refine Ki S (S.tm rfl) (S.tm rfl) (i:=3) (off:=1) rfl sizeOf3 (vs:=[iV (W (x1 + 1))]) rfl rfl rfl rfl ?_;clear S;intro w20 hk18 S
      exact Ld (Tn ⟨W (x1 + 1),h,S.sub (subR rfl)⟩)
     ·replace h:=Pz h hb4
      exact wp_skip (Tn ⟨x1,h,S.sub (subR rfl)⟩)
   clear S h;rintro a w19 ⟨x4,h,S⟩;rw [hj3] at h
   have hsp2 : (row.set kk.toNat (Ei.mk (if decide (sp.last_ = 0) then y1.Heat else sp.first_) sp.last_))[kk.toNat]? = some (Ei.mk (if decide (sp.last_ = 0) then y1.Heat else sp.first_) sp.last_):=Vp hsp
   have hss : (row.set kk.toNat (Ei.mk (if decide (sp.last_ = 0) then y1.Heat else sp.first_) sp.last_)).set kk.toNat (Ei.mk (if decide (sp.last_ = 0) then y1.Heat else sp.first_) y1.Heat) = row.set kk.toNat (Ei.mk (if decide (sp.last_ = 0) then y1.Heat else sp.first_) y1.Heat):=List.set_set ..
   generalize row.set kk.toNat (Ei.mk (if decide (sp.last_ = 0) then y1.Heat else sp.first_) sp.last_) = rowj at S hsp2 hss
   refine Tn ?_
   refine Fg ?_
   refine lv S (Rm (S.tm rfl)) rfl ?_;clear S;intro a S
   refine lv S (Fz Sr (S.tm rfl)) rfl ?_;clear S;intro a S
   refine lv S (Lj isAgg3 (S.tm rfl) (S.cell (i:=1) rfl rfl)) rfl ?_;clear S;intro a S
   refine lv S (Fu (S.tm rfl)) rfl ?_;clear S;intro a S
   refine lv S (Fz Tc (S.tm rfl)) rfl ?_;clear S;intro a S
   refine Mt (c:=1) (j:=kk.toNat) (Ei.mk (if decide (sp.last_ = 0) then y1.Heat else sp.first_) y1.Heat) Ei.enc_ok S (S.tm rfl) (S.tm rfl) (i:=0) rfl hg3 hsp2 sizeOf3 (vs:=[iV y1.Heat]) rfl rfl rfl rfl rfl ?_;clear S;intro w20 hk18 S
   rw [hss] at S
   replace S : Sx w [] nov (.own rw1.val 120 2 (row.set kk.toNat (Ei.mk (if decide (sp.last_ = 0) then y1.Heat else sp.first_) y1.Heat)).length ((row.set kk.toNat (Ei.mk (if decide (sp.last_ = 0) then y1.Heat else sp.first_) y1.Heat)).flatMap Ei.enc) :: ([.blk b3 (Es.enc y1) 59,.own v3 117 1 rs3.length (rs3.flatMap RS.enc),.blk b1 [Ag,iV x4,v3,iV Bc,(.slice none 0 0),iV 0,iV 0,bV false] 86] ++ Ln 120 2 Ei.enc ((rs3.map (·.val)).set jr (.slice none 0 0)) (x3.set jr []))) [(0,Ag),(1,Ab),(2,iV Bc),(7,.pointer (some ⟨b1,0,none⟩)),(16,Ab),(17,iV (Al.length : Int)),(18,iV (i1 : Int))] 120 a w20:=S.sub (subR rfl)
   replace S:=S.put_row (Vp hv3) (Vp hx3)
   rw [List.set_set,FG hv3,List.set_set] at S
   refine Ld ?_
   refine Jc (Tn (Fg (Vq S Gd rfl rfl rfl fun a S=>Vm S rfl rfl fun a S=>Dl ?_)))
   exact ⟨ys1,⟨i1 + 1,x4,x3.set jr (row.set kk.toNat (Ei.mk (if decide (sp.last_ = 0) then y1.Heat else sp.first_) y1.Heat)),rs3,v3,⟨_,(hd1).trans (List.append_cons _ _ _),by simp [hi1]⟩,h,by rw [List.length_set];exact hl3,S.nf [false,true,true] rfl ⟨rfl,rfl,rfl,rfl,rfl,rfl,(congrArg (fun z=>some (Value.int .i64 z)) (Hc hd1 hi1 (Jx Ao))),trivial⟩⟩,Nat.lt_succ_self _⟩
 clear S h;rintro a w2 ⟨x1,x2,rs,v1,h,hl,S⟩;rw [hj1] at h;clear hj1 j1
 obtain rfl:=Option.some.inj h
 obtain ⟨φ1,hl1,hrows,S⟩:=Sx.seeRows rfl (by rw [List.length_map];exact hl) S
 obtain ⟨φ2,hl2,hown,S⟩:=S.freezeT (xs:=rs) (enc:=RS.enc) (i:=0) rfl (fun _ h=>by cases h)
 refine Tn ?_
 refine Fs ?_
 refine Fg ?_
 refine lv S (Rm (S.tm rfl)) rfl ?_;clear S;intro a S
 refine lv S (Ra (S.tm rfl)) rfl ?_;clear S;intro a S
 refine Ld ?_
 refine Tn ?_
 refine wp_ret ?_
 have hR : Iz (Se φ2) x2 rs:=by
  exact (Zu hrows).chg fun x y hq=>Fv Ei.enc_ok (hq.mono hl2)
 exact Fw S results37 rfl ⟨b1,v1,rs,rfl,(Fv RS.enc_ok hown).mono (S.le_hideB (i:=0) rfl),Pm (S.le_hideB (i:=0) rfl) hR,S.grp [0] [] rfl rfl rfl⟩
theorem Mf (w : World) (Bw : Value) (Bj : List Int) (Ca : Slc (view w []) 1 Bw (Bj.map eInt)) (r : (List Int)) (h : Ps Bj = some r) :
    Calls prog 56 [Bw].toArray w (Ret w [] fun τ v _=>Of τ 3 1 v r.length (r.flatMap eInt)):=by
 refine Fe func56 rfl ntmps56 rfl fun a S=>?_
 unfold Ps at h
 replace S:=S.k1 0 rfl
 refine Fr (Vk S rfl rfl fun a S=>Dl (Fs (Fr (Vm S rfl rfl fun a S=>lv S (DD underlying22 (Eh Ca) (S.tm rfl) rfl) rfl fun a S=>Ld ?_))))
 refine Tn (Xx (S.tm rfl) (fun hb1=>?_) (fun hb1=>?_))
 ·have hx1:=DC Ca hb1
  subst hx1
  replace h : some ([] : List Int) = some r:=h
  refine Fr (Vk S rfl rfl fun a S=>Dl (wp_ret (Ek ?_)))
  obtain rfl:=Option.some.inj h
  exact Fw S results56 rfl (Jz _ _ _)
 ·refine wp_skip (Tn (Fr (Wg S underlying22 sizeOf3 rfl ?_)));clear S;intro a w1 b1 hz1 hk1 S
  refine Vm S rfl rfl ?_;clear S;intro a S
  replace S:=S.litOwn (i:=0) (xs:=([] : List Int)) rfl Gw rfl rfl rfl
  replace S:=S.nk [.own (.slice (some ⟨b1,0,none⟩) 0 0) 3 1 (([] : List Int) : List Int).length ((([] : List Int) : List Int).flatMap eInt)] [(0,Bw),(2,.slice none 0 0),(3,Bw),(4,bV (HO Bw)),(5,(.slice (some ⟨b1,0,none⟩) 0 0)),(6,Bw)] [] rfl (subR rfl)
  obtain ⟨hc1,h⟩:=Hu h
  refine Xy (Y:=[]) Ll Gw S (S.tm rfl) (i:=0) rfl (S.tm rfl) (Ca.mono (S.le_arg (fun _ h=>by cases h))) rfl rfl (by have:=Le hc1;omega) rfl ?_;clear S;intro v1 a w2 hk2 S
  refine Va S rfl rfl fun a S=>Dl (wp_ret ?_)
  obtain rfl:=Option.some.inj h
  exact Fw S results56 rfl (Qb S (i:=0) rfl rfl)
theorem Wp (w : World) (Bv : Int) (r : List Int) (h : Ql Bv = some r) : Calls prog 90 [(.slice none 0 0),iV Bv].toArray w (Ret w [] fun τ v _=>Of τ 3 1 v r.length (r.flatMap eInt)):=by
  unfold Ql at h
  obtain ⟨hc,h⟩:=Hu h
  obtain rfl:=Option.some.inj h
  simp only [Bool.and_eq_true,decide_eq_true_eq] at hc
  exact IE (enc:=eInt) Tryz.laysg90 Ll rfl rfl hc.1 hc.2 w
theorem Jm (w : World) (Cr : Value) (Cl : List (List Int)) (Dm : List RS) (Ci : Slc (view w []) 1 Cr (Dm.map RS.enc)) (Cj : Iz (Rp (view w [])) Cl Dm) (r : (List Int)) (h : Nh Cl = some r) :
    Calls prog 57 [Cr].toArray w (Ret w [] fun τ v _=>Of τ 3 1 v r.length (r.flatMap eInt)):=by
 refine Fe func57 rfl ntmps57 rfl fun a S=>?_
 unfold Nh at h
 replace S:=S.k1 0 rfl
 refine Fr (Vk S rfl rfl fun a S=>Dz (Vk S rfl rfl fun a S=>Dl (Fs ?_)))
 refine Fr (Vm S rfl rfl fun a S=>lv S (Fy CG (S.tm rfl) (Tb Ci Cj)) rfl fun a S=>lv S (Rm rfl) rfl fun a S=>Dl ?_)
 replace S:=S.k5 0 3 9 10 11 rfl
 obtain ⟨j1,hj1,h⟩:=Ge h
 refine Ft (fun a w'=>∃ x1 : Int,j1 x1 = some r ∧ Sx w [] nov [] [(0,Cr),(3,iV x1)] 36 a w') ?_ ?_
 ·refine wp_block (Hh (fun (ys1 : List (List Int)) a w'=>∃ i1 : Nat,∃ x1 : Int,(∃ dn,Cl = dn ++ ys1 ∧ dn.length = i1) ∧ Hl j1 ys1 i1 x1 = some r ∧ Sx w [] nov [] [(0,Cr),(3,iV x1),(9,Cr),(10,iV (Cl.length : Int)),(11,iV (i1 : Int))] 36 a w') List.length Cl ⟨0,0,⟨[],rfl,rfl⟩,h,S.nf [] rfl (subR rfl)⟩ ?_)
  clear S h;rintro ys1 a w1 ⟨i1,x1,⟨dn,hd1,hi1⟩,h,S⟩
  cases ys1 with
  | nil =>
   rw [Hl.eq_1] at h
   refine Fr (Vb S Fm rfl rfl rfl fun a S=>Ld ?_)
   replace S:=S.k6 0 3 9 10 11 12 rfl
   exact Tn (Fs (wp_cond_false ((S.tm rfl).trans (congrArg Value.bool (Ih hd1 hi1))) (wp_exit (Fj (Fj (He (Tn (⟨x1,h,S.nf [] rfl (subR rfl)⟩))))))))
  | cons y1 ys1 =>
   rw [Hl.eq_2] at h
   refine Fr (Vb S Fm rfl rfl rfl fun a S=>Ld ?_)
   replace S:=S.k6 0 3 9 10 11 12 rfl
   refine Tn (Fs (wp_cond_true ((S.tm rfl).trans (congrArg Value.bool (Hb hd1 hi1))) (wp_skip (Tn (Fs (wp_block (Fs (Fg ?_))))))))
   obtain ⟨r1,hg1,hl1⟩:=Iz.at Cj (Ig hd1 hi1)
   have hs1:=hl1
   obtain ⟨b1,o1,hm1,hr1⟩:=Ff (a:=a) (x:=.tmp 9) (y:=.tmp 11) (ty:=0) CG Ci hg1 rfl (S.tm rfl) (S.tm rfl)
   refine lv S (hr1 _) rfl ?_;clear S;intro a S
   clear hr1
   refine lv S (Gt isAgg22 (off:=o1) (o:=0) (S.tm rfl) (hm1.at S.emb0) rfl) rfl fun a S=>Va S rfl rfl fun a S=>Dz (Vm S rfl rfl fun a S=>Vm S rfl rfl fun a S=>lv S (Fy Ll (S.tm rfl) (Eh hs1)) rfl fun a S=>Vb S Gd rfl rfl rfl fun a S=>Va S rfl rfl ?_);clear S;intro a S
   refine Dz (Vm S rfl rfl fun a S=>Vq S Fm rfl rfl rfl fun a S=>Ld ?_)
   replace S:=S.k6 0 3 9 10 11 20 rfl
   refine Tn (Fc h (S.tm rfl) (fun hb1 h=>?_) (fun hb1 h=>?_))
   ·cases h
   ·exact wp_skip (Jc (Tn (Fg (Vq S Gd rfl rfl rfl fun a S=>Vm S rfl rfl fun a S=>Dl (⟨ys1,⟨i1 + 1,W (x1 + (y1.length : Int)),⟨_,(hd1).trans (List.append_cons _ _ _),by simp [hi1]⟩,h,S.nf [] rfl ⟨rfl,rfl,rfl,rfl,(congrArg (fun z=>some (Value.int .i64 z)) (Hc hd1 hi1 (Um Ci Cj))),trivial⟩⟩,Nat.lt_succ_self _⟩)))))
 clear S h;rintro a w2 ⟨x1,h,S⟩;rw [hj1] at h;clear hj1 j1
 refine Tn (Fr (Vm S rfl rfl ?_));clear S;intro a S
 obtain ⟨r2,hr2,h⟩:=Gf h
 have hz1:=S.keep.size
 refine Em S (fun _=>Eg (vs:=[.slice none 0 0,iV x1]) ⟨rfl,(S.tm rfl),trivial⟩ call90) (Wp _ x1 _ hr2) rfl ?_;clear S;intro v1 a w3 hv1 hk1 hn1 S
 replace S:=S.take hn1 hz1 hv1
 refine Va S rfl rfl fun a S=>Dl (Fs (Fr (Vm S rfl rfl fun a S=>lv S (Fy CG (S.tm rfl) (Tb Ci Cj)) rfl fun a S=>lv S (Rm rfl) rfl fun a S=>Dl ?_)))
 replace S:=(S.nl [.own v1 3 1 r2.length (r2.flatMap eInt)] [true] rfl).k4 6 25 26 27 rfl
 obtain ⟨j2,hj2,h⟩:=Ge h
 refine Ft (fun a w'=>∃ x2 : List Int,∃ v2 : Value,j2 x2 = some r ∧ Sx w [] nov [.own v2 3 1 x2.length (x2.flatMap eInt)] [(6,v2)] 36 a w') ?_ ?_
 ·refine wp_block (Hh (fun (ys2 : List (List Int)) a w'=>∃ i2 : Nat,∃ x2 : List Int,∃ v2 : Value,(∃ dn,Cl = dn ++ ys2 ∧ dn.length = i2) ∧ Hm j2 ys2 i2 x2 = some r ∧ Sx w [] nov [.own v2 3 1 x2.length (x2.flatMap eInt)] [(6,v2),(25,Cr),(26,iV (Cl.length : Int)),(27,iV (i2 : Int))] 36 a w') List.length Cl ⟨0,r2,v1,⟨[],rfl,rfl⟩,h,S.nf [true] rfl (subR rfl)⟩ ?_)
  clear S h;rintro ys2 a w4 ⟨i2,x2,v2,⟨dn,hd2,hi2⟩,h,S⟩
  cases ys2 with
  | nil =>
   rw [Hm.eq_1] at h
   refine Fr (Vb S Fm rfl rfl rfl fun a S=>Ld ?_)
   replace S:=S.k5 6 25 26 27 28 rfl
   exact Tn (Fs (wp_cond_false ((S.tm rfl).trans (congrArg Value.bool (Ih hd2 hi2))) (wp_exit (Fj (Fj (He (Tn (⟨x2,v2,h,S.nf [true] rfl ⟨rfl,trivial⟩⟩))))))))
  | cons y2 ys2 =>
   rw [Hm.eq_2] at h
   refine Fr (Vb S Fm rfl rfl rfl fun a S=>Ld ?_)
   replace S:=S.k5 6 25 26 27 28 rfl
   refine Tn (Fs (wp_cond_true ((S.tm rfl).trans (congrArg Value.bool (Hb hd2 hi2))) (wp_skip (Tn (Fs (wp_block (Fs (Fg ?_))))))))
   obtain ⟨r3,hg2,hl2⟩:=Iz.at Cj (Ig hd2 hi2)
   have hs2:=hl2
   obtain ⟨b2,o2,hm2,hr3⟩:=Ff (a:=a) (x:=.tmp 25) (y:=.tmp 27) (ty:=0) CG Ci hg2 rfl (S.tm rfl) (S.tm rfl)
   refine lv S (hr3 _) rfl ?_;clear S;intro a S
   clear hr3
   refine lv S (Gt isAgg22 (off:=o2) (o:=0) (S.tm rfl) (hm2.at S.emb0) rfl) rfl fun a S=>Va S rfl rfl fun a S=>Dl (Fg (Vm S rfl rfl fun a S=>Vm S rfl rfl ?_));clear S;intro a S
   obtain ⟨hc1,h⟩:=Hu h
   refine Xy (Y:=[]) Ll Gw S (S.tm rfl) (i:=0) rfl (S.tm rfl) (hs2.mono (S.le_arg (fun _ h=>by cases h))) rfl rfl (by have:=Le hc1;omega) rfl ?_;clear S;intro v3 a w6 hk2 S
   exact Va S rfl rfl fun a S=>Ld (Jc (Tn (Fg (Vq S Gd rfl rfl rfl fun a S=>Vm S rfl rfl fun a S=>Dl (⟨ys2,⟨i2 + 1,(x2 ++ y2),v3,⟨_,(hd2).trans (List.append_cons _ _ _),by simp [hi2]⟩,h,S.nf [true] rfl ⟨rfl,rfl,rfl,(congrArg (fun z=>some (Value.int .i64 z)) (Hc hd2 hi2 (Um Ci Cj))),trivial⟩⟩,Nat.lt_succ_self _⟩)))))
 clear S h;rintro a w5 ⟨x2,v2,h,S⟩;rw [hj2] at h;clear hj2 j2
 refine Tn (Fr (Vm S rfl rfl fun a S=>Va S rfl rfl fun a S=>Dl (wp_ret ?_)))
 obtain rfl:=Option.some.inj h
 exact Fw S results57 rfl (Qb S (i:=0) rfl rfl)
theorem Rd (w : World) (Az : Ed) (Dx : Int) (r : Int) (h : Hy Az Dx = r) :
    Calls prog 58 [.agg (Ed.enc Az).toArray,iV Dx].toArray w (Ret w [] fun _ v _=>v = iV r):=by
 refine Fe func58 rfl ntmps58 rfl fun a S=>?_
 unfold Hy at h
 replace S:=S.k2 0 1 rfl
 refine Fr (Qp S (S.tm rfl) (cs:=(Ed.enc Az)) rfl rfl ?_);clear S;intro a w1 b1 hz1 hk1 S
 refine Vk S rfl rfl fun a S=>Dz (Vm S rfl rfl fun a S=>Vq S Iq rfl rfl rfl fun a S=>Vf Ua S rfl rfl fun a S=>Vl isAgg3 0 S rfl rfl rfl rfl fun a S=>Vf Zf S rfl rfl fun a S=>Vl isAgg3 0 S rfl rfl rfl rfl ?_);clear S;intro a S
 refine Vb S Gd rfl rfl rfl fun a S=>Vb S Xw rfl rfl rfl fun a S=>Va S rfl rfl fun a S=>Dl (wp_ret ?_)
 subst h
 exact Fw S results58 rfl rfl
set_option maxHeartbeats 8000000 in
set_option maxRecDepth 20000 in
theorem Yu (self : (List Ed) → Int → (List (List Ei)) → Int → (List Int) → Int → Int → Bool → (List Int) → (List Int) → Option ((List Int) × Int × Int × Bool)) (hself : ∀ (w : World) (X : List Nat) (Ai : Nat) (Ac : Value) (Aq : List Ed) (_ : Slc (view w X) 5 Ac (Aq.map Ed.enc)) (Ad : Int) (Aa : Value) (Bk : List (List Ei)) (Bl : List RS) (_ : Slc (view w X) 1 Aa (Bl.map RS.enc)) (_ : Iz (Se (view w X)) Bk Bl) (Ah : Int) (Ap : Value) (Av : List Int) (_ : (LEnt.own Ap 3 1 Av.length (Av.flatMap eInt)).holds w) (As : Int) (Ax : Int) (Ay : Bool) (_ : (LEnt.blk Ai [Ac,iV Ad,Aa,iV Ah,Ap,iV As,iV Ax,bV Ay] 86).holds w) (Ak : Value) (Am : List Int) (_ : (LEnt.own Ak 3 1 Am.length (Am.flatMap eInt)).holds w) (Bb : Value) (Ar : List Int) (_ : Slc (view w X) 1 Bb (Ar.map eInt)) (_ : X.Nodup) (_ : X = fps [.blk Ai [Ac,iV Ad,Aa,iV Ah,Ap,iV As,iV Ax,bV Ay] 86,.own Ap 3 1 Av.length (Av.flatMap eInt),.own Ak 3 1 Am.length (Am.flatMap eInt)]) (r : (List Int) × Int × Int × Bool) (_ : self Aq Ad Bk Ah Av As Ax Ay Am Ar = some r),
    Calls prog 38 [.pointer (some ⟨Ai,0,none⟩),Ak,Bb].toArray w (Ret w X fun _ v w'=>∃ y1 : Value,Grp w w' X [.blk Ai [Ac,iV Ad,Aa,iV Ah,y1,iV r.2.1,iV r.2.2.1,bV r.2.2.2] 86,.own y1 3 1 r.1.length (r.1.flatMap eInt)] ∧ v = .tuple #[])) (w : World) (X : List Nat) (Ai : Nat) (Ac : Value) (Aq : List Ed) (Bm : Slc (view w X) 5 Ac (Aq.map Ed.enc)) (Ad : Int) (Aa : Value) (Bk : List (List Ei)) (Bl : List RS) (Bn : Slc (view w X) 1 Aa (Bl.map RS.enc)) (Bo : Iz (Se (view w X)) Bk Bl) (Ah : Int) (Ap : Value) (Av : List Int) (Dc : (LEnt.own Ap 3 1 Av.length (Av.flatMap eInt)).holds w) (As : Int) (Ax : Int) (Ay : Bool) (Ds : (LEnt.blk Ai [Ac,iV Ad,Aa,iV Ah,Ap,iV As,iV Ax,bV Ay] 86).holds w) (Ak : Value) (Am : List Int) (Dt : (LEnt.own Ak 3 1 Am.length (Am.flatMap eInt)).holds w) (Bb : Value) (Ar : List Int) (Cg : Slc (view w X) 1 Bb (Ar.map eInt)) (hXn : X.Nodup) (hXe : X = fps [.blk Ai [Ac,iV Ad,Aa,iV Ah,Ap,iV As,iV Ax,bV Ay] 86,.own Ap 3 1 Av.length (Av.flatMap eInt),.own Ak 3 1 Am.length (Am.flatMap eInt)]) (r : (List Int) × Int × Int × Bool) (h : Sc self Aq Ad Bk Ah Av As Ax Ay Am Ar = some r) :
    Calls prog 38 [.pointer (some ⟨Ai,0,none⟩),Ak,Bb].toArray w (Ret w X fun _ v w'=>∃ y1 : Value,Grp w w' X [.blk Ai [Ac,iV Ad,Aa,iV Ah,y1,iV r.2.1,iV r.2.2.1,bV r.2.2.2] 86,.own y1 3 1 r.1.length (r.1.flatMap eInt)] ∧ v = .tuple #[]):=by
 refine Kw X [.blk Ai [Ac,iV Ad,Aa,iV Ah,Ap,iV As,iV Ax,bV Ay] 86,.own Ap 3 1 Av.length (Av.flatMap eInt),.own Ak 3 1 Am.length (Am.flatMap eInt)] func38 rfl ntmps38 rfl (fun e he=>by simp only [List.mem_cons,List.not_mem_nil,or_false] at he;rcases he with rfl | rfl | rfl <;> assumption) (by rw [← hXe];exact hXn) (fun b hb=>by rw [hXe];exact hb) fun a S=>?_
 unfold Sc at h
 replace S:=(S.nl [.blk Ai [Ac,iV Ad,Aa,iV Ah,Ap,iV As,iV Ax,bV Ay] 86,.own Ap 3 1 Av.length (Av.flatMap eInt),.own Ak 3 1 Am.length (Am.flatMap eInt)] [true,true,true] rfl).k3 0 1 2 rfl
 refine Fs (Fr (Vm S rfl rfl fun a S=>lv S (Fy Ll (S.tm rfl) (Eh Cg)) rfl fun a S=>Vq S Kh rfl rfl rfl fun a S=>Dl (Fc h (S.tm rfl) (fun hb1 h=>?_) (fun hb1 h=>?_))))
 ·refine Fs (Fr (Vm S rfl rfl fun a S=>lv S (Fy Ll (S.tm rfl) (Eh Cg)) rfl fun a S=>lv S (Rm rfl) rfl fun a S=>Dl ?_))
  replace S:=S.k6 0 1 2 24 25 26 rfl
  obtain ⟨j1,hj1,h⟩:=Ge h
  refine Ft (fun a w'=>∃ x1 : Int,∃ x2 : Int,∃ x3 : Bool,∃ x4 : List Int,∃ φ1 : View,∃ v1 : Value,j1 x1 x2 x3 x4 = some r ∧ View.le nov φ1 ∧ Sx w X φ1 [.blk Ai [Ac,iV Ad,Aa,iV Ah,v1,iV x1,iV x2,bV x3] 86,.own v1 3 1 x4.length (x4.flatMap eInt),.own Ak 3 1 Am.length (Am.flatMap eInt)] [] 208 a w') ?_ ?_
  ·refine wp_block (Hh (fun (ys1 : List Int) a w'=>∃ i1 : Nat,∃ x1 : Int,∃ x2 : Int,∃ x3 : Bool,∃ x4 : List Int,∃ φ1 : View,∃ v1 : Value,(∃ dn,Ar = dn ++ ys1 ∧ dn.length = i1) ∧ Kz Am Ar self Aq Ad Bk Ah j1 ys1 i1 x1 x2 x3 x4 = some r ∧ View.le nov φ1 ∧ Sx w X φ1 [.blk Ai [Ac,iV Ad,Aa,iV Ah,v1,iV x1,iV x2,bV x3] 86,.own v1 3 1 x4.length (x4.flatMap eInt),.own Ak 3 1 Am.length (Am.flatMap eInt)] [(0,.pointer (some ⟨Ai,0,none⟩)),(1,Ak),(2,Bb),(24,Bb),(25,iV (Ar.length : Int)),(26,iV (i1 : Int))] 208 a w') List.length Ar ⟨0,As,Ax,Ay,Av,nov,Ap,⟨[],rfl,rfl⟩,h,View.le_refl _,S.nf [true,true,true] rfl (subR rfl)⟩ ?_)
   clear S h;rintro ys1 a w1 ⟨i1,x1,x2,x3,x4,φ1,v1,⟨dn,hd1,hi1⟩,h,hl1,S⟩
   cases ys1 with
   | nil =>
    rw [Kz.eq_1] at h
    refine Fr (Vb S Fm rfl rfl rfl fun a S=>Ld ?_)
    replace S:=S.k7 0 1 2 24 25 26 27 rfl
    exact Tn (Fs (wp_cond_false ((S.tm rfl).trans (congrArg Value.bool (Ih hd1 hi1))) (wp_exit (Fj (Fj (He (Tn (⟨x1,x2,x3,x4,φ1,v1,h,hl1,S.nf [true,true,true] rfl trivial⟩))))))))
   | cons y1 ys1 =>
    rw [Kz.eq_2] at h
    refine Fr (Vb S Fm rfl rfl rfl fun a S=>Ld ?_)
    replace S:=S.k7 0 1 2 24 25 26 27 rfl
    refine Tn (Fs (wp_cond_true ((S.tm rfl).trans (congrArg Value.bool (Hb hd1 hi1))) (wp_skip (Tn (Fs (wp_block (Fr (Vm S rfl rfl ?_))))))));clear S;intro a S
    obtain ⟨b1,o1,hm1,hr1⟩:=Ff (a:=a) (x:=.tmp 24) (y:=.tmp 26) (ty:=0) Ll Cg (Ig hd1 hi1) rfl (S.tm rfl) (S.tm rfl)
    refine lv S (hr1 _) rfl ?_;clear S;intro a S
    clear hr1
    refine lv S (Gt isAgg3 (off:=o1) (o:=0) (S.tm rfl) (hm1.at S.emb0) rfl) rfl fun a S=>Va S rfl rfl fun a S=>Va S rfl rfl fun a S=>Dl ?_
    obtain ⟨j2,hj2,h⟩:=Ge h
    refine Ft (fun a w'=>∃ x5 : Int,∃ x6 : Int,∃ x7 : Bool,∃ x8 : List Int,∃ φ2 : View,∃ v2 : Value,j2 x5 x6 x7 x8 = some r ∧ View.le φ1 φ2 ∧ Sx w X φ2 [.blk Ai [Ac,iV Ad,Aa,iV Ah,v2,iV x5,iV x6,bV x7] 86,.own v2 3 1 x8.length (x8.flatMap eInt),.own Ak 3 1 Am.length (Am.flatMap eInt)] [(0,.pointer (some ⟨Ai,0,none⟩)),(1,Ak),(2,Bb),(24,Bb),(25,iV (Ar.length : Int)),(26,iV (i1 : Int))] 208 a w') ?_ ?_
    ·obtain ⟨r1,hr2,h⟩:=Gf h
     obtain ⟨hc1,h⟩:=Hu h
     obtain ⟨hc2,h⟩:=Hu h
     obtain ⟨hc3,h⟩:=Hu h
     obtain ⟨r2,hr6,h⟩:=Gf h
     obtain ⟨r3,hr7,h⟩:=Gf h
     refine Gq [] (v1.ownBlock.toList ++ [Ai]) Tryz.mixed S rfl (by kernel_rfl) ?_;clear S;intro w10 hk7 hsel S
     refine Ej 0 S hsel rfl rfl rfl (by kernel_rfl) (by kernel_rfl) rfl (fun _ hw=>(Rm (S.tm rfl))) fun a S=>Ej 1 S hsel rfl rfl rfl (by kernel_rfl) (by kernel_rfl) rfl (fun _ hw=>(Rm (S.tm rfl))) fun a S=>Ej 3 S hsel rfl rfl rfl (by kernel_rfl) (by kernel_rfl) rfl (fun _ hw=>(Rm (S.tm rfl))) fun a S=>Ej 6 S hsel rfl rfl rfl (by kernel_rfl) (by kernel_rfl) rfl (fun _ hw=>(Rm (S.tm rfl))) fun a S=>Ej 7 S hsel rfl rfl rfl (by kernel_rfl) (by kernel_rfl) rfl (fun _ hw=>(Rm (S.tm rfl))) ?_;clear S;intro a S
     obtain ⟨v10,hs4,hr8⟩:=Zs (a:=a) (x:=.tmp 37) (y':=.tmp 38) (ty:=22) Ll Cg (S.tm rfl) (S.tm rfl) hc2
     refine Ej 8 S hsel rfl rfl rfl (by kernel_rfl) (by kernel_rfl) rfl (fun _ hw=>(hr8 _)) ?_;clear S;intro a S
     clear hr8
     refine Ej 9 S hsel rfl rfl rfl (by kernel_rfl) (by kernel_rfl) rfl (fun _ hw=>(Rm (S.tm rfl))) fun a S=>Ej 10 S hsel rfl rfl rfl (by kernel_rfl) (by kernel_rfl) rfl (fun _ hw=>(Rm (S.tm rfl))) fun a S=>Ej 11 S hsel rfl rfl rfl (by kernel_rfl) (by kernel_rfl) rfl (fun _ hw=>(Gd (S.tm rfl) rfl)) ?_;clear S;intro a S
     obtain ⟨v11,hs5,hr9⟩:=HK (a:=a) (x:=.tmp 40) (y:=.tmp 42) (ty:=22) Ll Cg (S.tm rfl) (S.tm rfl) hc3
     refine Ej 12 S hsel rfl rfl rfl (by kernel_rfl) (by kernel_rfl) rfl (fun _ hw=>(hr9 _)) ?_;clear S;intro a S
     clear hr9
     refine d_loud3 2 4 13 (by kernel_rfl) rfl rfl rfl ?_ ?_ ?_
     ·have hz5:=S.keep.size
      refine Em S (fun _=>Eg (vs:=[Ak]) ⟨(S.tm rfl),trivial⟩ call56) (Mf _ Ak Am (Mr Gw S (i:=2) rfl (Gr (e':=.own Ak 3 1 Am.length (Am.flatMap eInt)))) _ hr2) rfl ?_;clear S;intro v12 a w11 hv4 hk8 hn4 S
      replace S:=S.take hn4 hz5 hv4
      refine Ld (Og (v12.ownBlock.toList ++ (v1.ownBlock.toList ++ [Ai])) (Keep.none hk8) (DH hv4) (Wx 4 13 (by kernel_rfl) rfl rfl ?_ ?_))
      ·refine Fo S underlying22 sizeOf3 zeroValue3 rfl rfl (pv:=[(0,iV y1)]) ⟨rfl,(S.tm rfl),trivial⟩ (cs:=[iV y1]) (by kernel_rfl) rfl ?_;clear S;intro a w12 b4 hz6 hk9 S
       refine Ld (Gn (Keep.none hk9) (Wx 5 13 (by kernel_rfl) rfl rfl ?_ ?_))
       ·refine Ms Ll Gw S (S.tm rfl) (i:=1) rfl (S.tm rfl) (j:=0) rfl (ys:=[y1]) rfl rfl rfl rfl (by have:=Le hc1;omega) rfl ?_;clear S;intro v13 a w13 hk10 hf1 S
        refine Ld ?_
        refine Og (v13.ownBlock.toList ++ (v1.ownBlock.toList ++ [Ai])) (hk10.sub (by intro y hy;simp at hy ⊢;simp [hy])) (by intro y hy;simp at hy ⊢;exact (hy.elim (fun hy=>(by rcases hf1 y hy with hy | hy <;> simp [hy])) (fun hy=>(hy.elim (fun hy=>(by simp [hy])) (fun hy=>(by simp [hy])))))) ?_
        refine Ga 13 (by kernel_rfl) rfl (Fo S underlying153 sizeOf22 zeroValue22 rfl rfl (pv:=[(0,v10),(1,v11)]) ⟨rfl,(S.tm rfl),rfl,(S.tm rfl),trivial⟩ (cs:=[v10,v11]) (Rj (Eh hs4) (Eh hs5)) rfl ?_);clear S;intro a w14 b5 hz7 hk11 S
        refine Ld (Gn (Keep.none hk11) (Ga 14 (by kernel_rfl) rfl ?_))
        have hr10 : Iz (Rp (join (view w X) φ1)) ([cut Ar 0 (i1 : Int),cut Ar (W ((i1 : Int) + 1)) Ar.length] : List (List Int)) ([⟨v10,Eo.one (Eh hs4)⟩,⟨v11,Eo.one (Eh hs5)⟩] : List RS):=(Iz.cons (hs4.mono (le_join_left _ _)) (Iz.cons (hs5.mono (le_join_left _ _)) Iz.nil))
        replace S:=S.litOwn (i:=0) (xs:=([⟨v10,Eo.one (Eh hs4)⟩,⟨v11,Eo.one (Eh hs5)⟩] : List RS)) rfl RS.enc_ok rfl rfl rfl
        replace S:=S.nk [.own (.slice (some ⟨b5,0,none⟩) 2 2) 22 1 ([⟨v10,Eo.one (Eh hs4)⟩,⟨v11,Eo.one (Eh hs5)⟩] : List RS).length (([⟨v10,Eo.one (Eh hs4)⟩,⟨v11,Eo.one (Eh hs5)⟩] : List RS).flatMap RS.enc),.blk b4 [iV y1] 3,.own v13 3 1 (r1 ++ [y1]).length ((r1 ++ [y1]).flatMap eInt),.blk Ai [Ac,iV Ad,Aa,iV Ah,v1,iV x1,iV x2,bV x3] 86,.own v1 3 1 x4.length (x4.flatMap eInt),.own Ak 3 1 Am.length (Am.flatMap eInt)] [(0,.pointer (some ⟨Ai,0,none⟩)),(1,Ak),(2,Bb),(6,iV (i1 : Int)),(7,iV y1),(24,Bb),(25,iV (Ar.length : Int)),(26,iV (i1 : Int)),(27,bV (decide ((i1 : Int) < (Ar.length : Int)))),(28,iV (i1 : Int)),(29,.pointer (some ⟨b1,o1,none⟩)),(30,iV y1),(31,.pointer (some ⟨Ai,0,none⟩)),(32,Ak),(33,v12),(34,iV y1),(35,.slice (some ⟨b4,0,none⟩) 1 1),(36,v13),(37,Bb),(38,iV (i1 : Int)),(39,v10),(40,Bb),(41,iV (i1 : Int)),(42,iV (W ((i1 : Int) + 1))),(43,v11),(44,(.slice (some ⟨b5,0,none⟩) 2 2))] [] rfl (subR rfl)
        have hz8:=S.keep.size
        refine Em S (fun _=>Eg (vs:=[(.slice (some ⟨b5,0,none⟩) 2 2)]) ⟨(S.tm rfl),trivial⟩ call57) (Jm _ (.slice (some ⟨b5,0,none⟩) 2 2) ([cut Ar 0 (i1 : Int),cut Ar (W ((i1 : Int) + 1)) Ar.length] : List (List Int)) ([⟨v10,Eo.one (Eh hs4)⟩,⟨v11,Eo.one (Eh hs5)⟩] : List RS) (Mr RS.enc_ok S (i:=0) rfl (Gr (e':=.own (.slice (some ⟨b5,0,none⟩) 2 2) 22 1 ([⟨v10,Eo.one (Eh hs4)⟩,⟨v11,Eo.one (Eh hs5)⟩] : List RS).length (([⟨v10,Eo.one (Eh hs4)⟩,⟨v11,Eo.one (Eh hs5)⟩] : List RS).flatMap RS.enc)))) (Sp (So (S.le_arg Fh) (S.le_new Fh)) hr10) _ hr6) rfl ?_;clear S;intro v14 a w15 hv5 hk12 hn5 S
        obtain ⟨φ4,hl4,hm3,S⟩:=S.see' hn5 hz8
        have hs6:=hv5.mono hm3
        refine Ld (Gn (Keep.none hk12) (Ga 15 (by kernel_rfl) rfl (Qc [3,4,2] [0,1,5] (Ls:=[.blk Ai [Ac,iV Ad,Aa,iV Ah,v1,iV x1,iV x2,bV x3] 86,.own v1 3 1 x4.length (x4.flatMap eInt),.own v13 3 1 (r1 ++ [y1]).length ((r1 ++ [y1]).flatMap eInt)]) (Lr:=[.own (.slice (some ⟨b5,0,none⟩) 2 2) 22 1 ([⟨v10,Eo.one (Eh hs4)⟩,⟨v11,Eo.one (Eh hs5)⟩] : List RS).length (([⟨v10,Eo.one (Eh hs4)⟩,⟨v11,Eo.one (Eh hs5)⟩] : List RS).flatMap RS.enc),.blk b4 [iV y1] 3,.own Ak 3 1 Am.length (Am.flatMap eInt)]) (Y:=[Ai] ++ (v1.ownBlock.toList ++ v13.ownBlock.toList)) S rfl rfl rfl (by simp [Jg,Ke,LEnt.fp]) (fun _=>Eg (vs:=[.pointer (some ⟨Ai,0,none⟩),v13,v14]) ⟨(S.tm rfl),(S.tm rfl),(S.tm rfl),trivial⟩ call38) (hself _ ([Ai] ++ (v1.ownBlock.toList ++ v13.ownBlock.toList)) Ai Ac Aq (Bm.mono (S.le_arg (Gb (Ew (i:=3) (e:=.blk Ai [Ac,iV Ad,Aa,iV Ah,v1,iV x1,iV x2,bV x3] 86) rfl) (Gb (Ew (i:=4) (e:=.own v1 3 1 x4.length (x4.flatMap eInt)) rfl) (Ew (i:=2) (e:=.own v13 3 1 (r1 ++ [y1]).length ((r1 ++ [y1]).flatMap eInt)) rfl))))) Ad Aa Bk Bl (Bn.mono (S.le_arg (Gb (Ew (i:=3) (e:=.blk Ai [Ac,iV Ad,Aa,iV Ah,v1,iV x1,iV x2,bV x3] 86) rfl) (Gb (Ew (i:=4) (e:=.own v1 3 1 x4.length (x4.flatMap eInt)) rfl) (Ew (i:=2) (e:=.own v13 3 1 (r1 ++ [y1]).length ((r1 ++ [y1]).flatMap eInt)) rfl))))) (Pm (S.le_arg (Gb (Ew (i:=3) (e:=.blk Ai [Ac,iV Ad,Aa,iV Ah,v1,iV x1,iV x2,bV x3] 86) rfl) (Gb (Ew (i:=4) (e:=.own v1 3 1 x4.length (x4.flatMap eInt)) rfl) (Ew (i:=2) (e:=.own v13 3 1 (r1 ++ [y1]).length ((r1 ++ [y1]).flatMap eInt)) rfl)))) Bo) Ah v1 x4 (S.holds _ (List.mem_of_getElem? (i:=4) rfl)) x1 x2 x3 (S.holds _ (List.mem_of_getElem? (i:=3) rfl)) v13 (r1 ++ [y1]) (S.holds _ (List.mem_of_getElem? (i:=2) rfl)) v14 r2 ((Fv Gw hs6).mono (S.le_new (Gb (Ew (i:=3) (e:=.blk Ai [Ac,iV Ad,Aa,iV Ah,v1,iV x1,iV x2,bV x3] 86) rfl) (Gb (Ew (i:=4) (e:=.own v1 3 1 x4.length (x4.flatMap eInt)) rfl) (Ew (i:=2) (e:=.own v13 3 1 (r1 ++ [y1]).length ((r1 ++ [y1]).flatMap eInt)) rfl))))) (S.ndg [3,4,2] [0,1,5] rfl rfl rfl (by simp [Jg,Ke,LEnt.fp])) (by simp [Jg,Ke,LEnt.fp]) _ hr7) rfl ?_)));clear S;intro v15 a w16 hv6 hk13 hn6 S
        obtain ⟨v16,hg2,hv6⟩:=hv6;replace S:=S _ hg2;clear hg2
        subst hv6
        refine Ld ?_
        refine Gn (hk13.sub (by intro y hy;simp at hy ⊢;rcases hy with hy | hy | hy <;> simp [hy])) ?_
        refine Ta (by kernel_rfl) ?_
        clear hsel
        replace S:=(S.nl [.blk Ai [Ac,iV Ad,Aa,iV Ah,v16,iV r3.2.1,iV r3.2.2.1,bV r3.2.2.2] 86,.own v16 3 1 r3.1.length (r3.1.flatMap eInt),.own Ak 3 1 Am.length (Am.flatMap eInt)] [true,true,false,false,true] rfl).k6 0 1 2 24 25 26 rfl
        exact Tn (⟨r3.2.1,r3.2.2.1,r3.2.2.2,r3.1,φ4,v16,h,hl4,S.nf [true,true,true] rfl (subR rfl)⟩)
       ·refine Fo S underlying153 sizeOf22 zeroValue22 rfl rfl (pv:=[(0,v10),(1,v11)]) ⟨rfl,(S.tm rfl),rfl,(S.tm rfl),trivial⟩ (cs:=[v10,v11]) (Rj (Eh hs4) (Eh hs5)) rfl ?_;clear S;intro a w17 b6 hz9 hk14 S
        refine Ld (Gn (Keep.none hk14) (Ga 5 (by kernel_rfl) rfl ?_))
        refine Ms Ll Gw S (S.tm rfl) (i:=2) rfl (S.tm rfl) (j:=1) rfl (ys:=[y1]) rfl rfl rfl rfl (by have:=Le hc1;omega) rfl ?_;clear S;intro v17 a w18 hk15 hf2 S
        refine Ld ?_
        refine Og (v17.ownBlock.toList ++ (v1.ownBlock.toList ++ [Ai])) (hk15.sub (by intro y hy;simp at hy ⊢;simp [hy])) (by intro y hy;simp at hy ⊢;exact (hy.elim (fun hy=>(by rcases hf2 y hy with hy | hy <;> simp [hy])) (fun hy=>(hy.elim (fun hy=>(by simp [hy])) (fun hy=>(by simp [hy])))))) ?_
        refine Ga 14 (by kernel_rfl) rfl ?_
        have hr11 : Iz (Rp (join (view w X) φ1)) ([cut Ar 0 (i1 : Int),cut Ar (W ((i1 : Int) + 1)) Ar.length] : List (List Int)) ([⟨v10,Eo.one (Eh hs4)⟩,⟨v11,Eo.one (Eh hs5)⟩] : List RS):=(Iz.cons (hs4.mono (le_join_left _ _)) (Iz.cons (hs5.mono (le_join_left _ _)) Iz.nil))
        replace S:=S.litOwn (i:=0) (xs:=([⟨v10,Eo.one (Eh hs4)⟩,⟨v11,Eo.one (Eh hs5)⟩] : List RS)) rfl RS.enc_ok rfl rfl rfl
        replace S:=S.nk [.own (.slice (some ⟨b6,0,none⟩) 2 2) 22 1 ([⟨v10,Eo.one (Eh hs4)⟩,⟨v11,Eo.one (Eh hs5)⟩] : List RS).length (([⟨v10,Eo.one (Eh hs4)⟩,⟨v11,Eo.one (Eh hs5)⟩] : List RS).flatMap RS.enc),.blk b4 [iV y1] 3,.own v17 3 1 (r1 ++ [y1]).length ((r1 ++ [y1]).flatMap eInt),.blk Ai [Ac,iV Ad,Aa,iV Ah,v1,iV x1,iV x2,bV x3] 86,.own v1 3 1 x4.length (x4.flatMap eInt),.own Ak 3 1 Am.length (Am.flatMap eInt)] [(0,.pointer (some ⟨Ai,0,none⟩)),(1,Ak),(2,Bb),(6,iV (i1 : Int)),(7,iV y1),(24,Bb),(25,iV (Ar.length : Int)),(26,iV (i1 : Int)),(27,bV (decide ((i1 : Int) < (Ar.length : Int)))),(28,iV (i1 : Int)),(29,.pointer (some ⟨b1,o1,none⟩)),(30,iV y1),(31,.pointer (some ⟨Ai,0,none⟩)),(32,Ak),(33,v12),(34,iV y1),(35,.slice (some ⟨b4,0,none⟩) 1 1),(36,v17),(37,Bb),(38,iV (i1 : Int)),(39,v10),(40,Bb),(41,iV (i1 : Int)),(42,iV (W ((i1 : Int) + 1))),(43,v11),(44,(.slice (some ⟨b6,0,none⟩) 2 2))] [] rfl (subR rfl)
        have hz10:=S.keep.size
        refine Em S (fun _=>Eg (vs:=[(.slice (some ⟨b6,0,none⟩) 2 2)]) ⟨(S.tm rfl),trivial⟩ call57) (Jm _ (.slice (some ⟨b6,0,none⟩) 2 2) ([cut Ar 0 (i1 : Int),cut Ar (W ((i1 : Int) + 1)) Ar.length] : List (List Int)) ([⟨v10,Eo.one (Eh hs4)⟩,⟨v11,Eo.one (Eh hs5)⟩] : List RS) (Mr RS.enc_ok S (i:=0) rfl (Gr (e':=.own (.slice (some ⟨b6,0,none⟩) 2 2) 22 1 ([⟨v10,Eo.one (Eh hs4)⟩,⟨v11,Eo.one (Eh hs5)⟩] : List RS).length (([⟨v10,Eo.one (Eh hs4)⟩,⟨v11,Eo.one (Eh hs5)⟩] : List RS).flatMap RS.enc)))) (Sp (So (S.le_arg Fh) (S.le_new Fh)) hr11) _ hr6) rfl ?_;clear S;intro v18 a w19 hv7 hk16 hn7 S
        obtain ⟨φ5,hl5,hm4,S⟩:=S.see' hn7 hz10
        have hs7:=hv7.mono hm4
        refine Ld (Gn (Keep.none hk16) (Ga 15 (by kernel_rfl) rfl (Qc [3,4,2] [0,1,5] (Ls:=[.blk Ai [Ac,iV Ad,Aa,iV Ah,v1,iV x1,iV x2,bV x3] 86,.own v1 3 1 x4.length (x4.flatMap eInt),.own v17 3 1 (r1 ++ [y1]).length ((r1 ++ [y1]).flatMap eInt)]) (Lr:=[.own (.slice (some ⟨b6,0,none⟩) 2 2) 22 1 ([⟨v10,Eo.one (Eh hs4)⟩,⟨v11,Eo.one (Eh hs5)⟩] : List RS).length (([⟨v10,Eo.one (Eh hs4)⟩,⟨v11,Eo.one (Eh hs5)⟩] : List RS).flatMap RS.enc),.blk b4 [iV y1] 3,.own Ak 3 1 Am.length (Am.flatMap eInt)]) (Y:=[Ai] ++ (v1.ownBlock.toList ++ v17.ownBlock.toList)) S rfl rfl rfl (by simp [Jg,Ke,LEnt.fp]) (fun _=>Eg (vs:=[.pointer (some ⟨Ai,0,none⟩),v17,v18]) ⟨(S.tm rfl),(S.tm rfl),(S.tm rfl),trivial⟩ call38) (hself _ ([Ai] ++ (v1.ownBlock.toList ++ v17.ownBlock.toList)) Ai Ac Aq (Bm.mono (S.le_arg (Gb (Ew (i:=3) (e:=.blk Ai [Ac,iV Ad,Aa,iV Ah,v1,iV x1,iV x2,bV x3] 86) rfl) (Gb (Ew (i:=4) (e:=.own v1 3 1 x4.length (x4.flatMap eInt)) rfl) (Ew (i:=2) (e:=.own v17 3 1 (r1 ++ [y1]).length ((r1 ++ [y1]).flatMap eInt)) rfl))))) Ad Aa Bk Bl (Bn.mono (S.le_arg (Gb (Ew (i:=3) (e:=.blk Ai [Ac,iV Ad,Aa,iV Ah,v1,iV x1,iV x2,bV x3] 86) rfl) (Gb (Ew (i:=4) (e:=.own v1 3 1 x4.length (x4.flatMap eInt)) rfl) (Ew (i:=2) (e:=.own v17 3 1 (r1 ++ [y1]).length ((r1 ++ [y1]).flatMap eInt)) rfl))))) (Pm (S.le_arg (Gb (Ew (i:=3) (e:=.blk Ai [Ac,iV Ad,Aa,iV Ah,v1,iV x1,iV x2,bV x3] 86) rfl) (Gb (Ew (i:=4) (e:=.own v1 3 1 x4.length (x4.flatMap eInt)) rfl) (Ew (i:=2) (e:=.own v17 3 1 (r1 ++ [y1]).length ((r1 ++ [y1]).flatMap eInt)) rfl)))) Bo) Ah v1 x4 (S.holds _ (List.mem_of_getElem? (i:=4) rfl)) x1 x2 x3 (S.holds _ (List.mem_of_getElem? (i:=3) rfl)) v17 (r1 ++ [y1]) (S.holds _ (List.mem_of_getElem? (i:=2) rfl)) v18 r2 ((Fv Gw hs7).mono (S.le_new (Gb (Ew (i:=3) (e:=.blk Ai [Ac,iV Ad,Aa,iV Ah,v1,iV x1,iV x2,bV x3] 86) rfl) (Gb (Ew (i:=4) (e:=.own v1 3 1 x4.length (x4.flatMap eInt)) rfl) (Ew (i:=2) (e:=.own v17 3 1 (r1 ++ [y1]).length ((r1 ++ [y1]).flatMap eInt)) rfl))))) (S.ndg [3,4,2] [0,1,5] rfl rfl rfl (by simp [Jg,Ke,LEnt.fp])) (by simp [Jg,Ke,LEnt.fp]) _ hr7) rfl ?_)));clear S;intro v19 a w20 hv8 hk17 hn8 S
        obtain ⟨v20,hg3,hv8⟩:=hv8;replace S:=S _ hg3;clear hg3
        subst hv8
        refine Ld ?_
        refine Gn (hk17.sub (by intro y hy;simp at hy ⊢;rcases hy with hy | hy | hy <;> simp [hy])) ?_
        refine Ta (by kernel_rfl) ?_
        clear hsel
        replace S:=(S.nl [.blk Ai [Ac,iV Ad,Aa,iV Ah,v20,iV r3.2.1,iV r3.2.2.1,bV r3.2.2.2] 86,.own v20 3 1 r3.1.length (r3.1.flatMap eInt),.own Ak 3 1 Am.length (Am.flatMap eInt)] [true,true,false,false,true] rfl).k6 0 1 2 24 25 26 rfl
        exact Tn (⟨r3.2.1,r3.2.2.1,r3.2.2.2,r3.1,φ5,v20,h,hl5,S.nf [true,true,true] rfl (subR rfl)⟩)
      ·refine Fo S underlying153 sizeOf22 zeroValue22 rfl rfl (pv:=[(0,v10),(1,v11)]) ⟨rfl,(S.tm rfl),rfl,(S.tm rfl),trivial⟩ (cs:=[v10,v11]) (Rj (Eh hs4) (Eh hs5)) rfl ?_;clear S;intro a w21 b7 hz11 hk18 S
       refine Ld (Gn (Keep.none hk18) (Ga 4 (by kernel_rfl) rfl (Fo S underlying22 sizeOf3 zeroValue3 rfl rfl (pv:=[(0,iV y1)]) ⟨rfl,(S.tm rfl),trivial⟩ (cs:=[iV y1]) (by kernel_rfl) rfl ?_)));clear S;intro a w22 b8 hz12 hk19 S
       refine Ld (Gn (Keep.none hk19) (Ga 5 (by kernel_rfl) rfl ?_))
       refine Ms Ll Gw S (S.tm rfl) (i:=2) rfl (S.tm rfl) (j:=0) rfl (ys:=[y1]) rfl rfl rfl rfl (by have:=Le hc1;omega) rfl ?_;clear S;intro v21 a w23 hk20 hf3 S
       refine Ld ?_
       refine Og (v21.ownBlock.toList ++ (v1.ownBlock.toList ++ [Ai])) (hk20.sub (by intro y hy;simp at hy ⊢;simp [hy])) (by intro y hy;simp at hy ⊢;exact (hy.elim (fun hy=>(by rcases hf3 y hy with hy | hy <;> simp [hy])) (fun hy=>(hy.elim (fun hy=>(by simp [hy])) (fun hy=>(by simp [hy])))))) ?_
       refine Ga 14 (by kernel_rfl) rfl ?_
       have hr12 : Iz (Rp (join (view w X) φ1)) ([cut Ar 0 (i1 : Int),cut Ar (W ((i1 : Int) + 1)) Ar.length] : List (List Int)) ([⟨v10,Eo.one (Eh hs4)⟩,⟨v11,Eo.one (Eh hs5)⟩] : List RS):=(Iz.cons (hs4.mono (le_join_left _ _)) (Iz.cons (hs5.mono (le_join_left _ _)) Iz.nil))
       replace S:=S.litOwn (i:=1) (xs:=([⟨v10,Eo.one (Eh hs4)⟩,⟨v11,Eo.one (Eh hs5)⟩] : List RS)) rfl RS.enc_ok rfl rfl rfl
       replace S:=S.nk [.blk b8 [iV y1] 3,.own (.slice (some ⟨b7,0,none⟩) 2 2) 22 1 ([⟨v10,Eo.one (Eh hs4)⟩,⟨v11,Eo.one (Eh hs5)⟩] : List RS).length (([⟨v10,Eo.one (Eh hs4)⟩,⟨v11,Eo.one (Eh hs5)⟩] : List RS).flatMap RS.enc),.own v21 3 1 (r1 ++ [y1]).length ((r1 ++ [y1]).flatMap eInt),.blk Ai [Ac,iV Ad,Aa,iV Ah,v1,iV x1,iV x2,bV x3] 86,.own v1 3 1 x4.length (x4.flatMap eInt),.own Ak 3 1 Am.length (Am.flatMap eInt)] [(0,.pointer (some ⟨Ai,0,none⟩)),(1,Ak),(2,Bb),(6,iV (i1 : Int)),(7,iV y1),(24,Bb),(25,iV (Ar.length : Int)),(26,iV (i1 : Int)),(27,bV (decide ((i1 : Int) < (Ar.length : Int)))),(28,iV (i1 : Int)),(29,.pointer (some ⟨b1,o1,none⟩)),(30,iV y1),(31,.pointer (some ⟨Ai,0,none⟩)),(32,Ak),(33,v12),(34,iV y1),(35,.slice (some ⟨b8,0,none⟩) 1 1),(36,v21),(37,Bb),(38,iV (i1 : Int)),(39,v10),(40,Bb),(41,iV (i1 : Int)),(42,iV (W ((i1 : Int) + 1))),(43,v11),(44,(.slice (some ⟨b7,0,none⟩) 2 2))] [] rfl (subR rfl)
       have hz13:=S.keep.size
       refine Em S (fun _=>Eg (vs:=[(.slice (some ⟨b7,0,none⟩) 2 2)]) ⟨(S.tm rfl),trivial⟩ call57) (Jm _ (.slice (some ⟨b7,0,none⟩) 2 2) ([cut Ar 0 (i1 : Int),cut Ar (W ((i1 : Int) + 1)) Ar.length] : List (List Int)) ([⟨v10,Eo.one (Eh hs4)⟩,⟨v11,Eo.one (Eh hs5)⟩] : List RS) (Mr RS.enc_ok S (i:=1) rfl (Gr (e':=.own (.slice (some ⟨b7,0,none⟩) 2 2) 22 1 ([⟨v10,Eo.one (Eh hs4)⟩,⟨v11,Eo.one (Eh hs5)⟩] : List RS).length (([⟨v10,Eo.one (Eh hs4)⟩,⟨v11,Eo.one (Eh hs5)⟩] : List RS).flatMap RS.enc)))) (Sp (So (S.le_arg Fh) (S.le_new Fh)) hr12) _ hr6) rfl ?_;clear S;intro v22 a w24 hv9 hk21 hn9 S
       obtain ⟨φ6,hl6,hm5,S⟩:=S.see' hn9 hz13
       have hs8:=hv9.mono hm5
       refine Ld (Gn (Keep.none hk21) (Ga 15 (by kernel_rfl) rfl (Qc [3,4,2] [0,1,5] (Ls:=[.blk Ai [Ac,iV Ad,Aa,iV Ah,v1,iV x1,iV x2,bV x3] 86,.own v1 3 1 x4.length (x4.flatMap eInt),.own v21 3 1 (r1 ++ [y1]).length ((r1 ++ [y1]).flatMap eInt)]) (Lr:=[.blk b8 [iV y1] 3,.own (.slice (some ⟨b7,0,none⟩) 2 2) 22 1 ([⟨v10,Eo.one (Eh hs4)⟩,⟨v11,Eo.one (Eh hs5)⟩] : List RS).length (([⟨v10,Eo.one (Eh hs4)⟩,⟨v11,Eo.one (Eh hs5)⟩] : List RS).flatMap RS.enc),.own Ak 3 1 Am.length (Am.flatMap eInt)]) (Y:=[Ai] ++ (v1.ownBlock.toList ++ v21.ownBlock.toList)) S rfl rfl rfl (by simp [Jg,Ke,LEnt.fp]) (fun _=>Eg (vs:=[.pointer (some ⟨Ai,0,none⟩),v21,v22]) ⟨(S.tm rfl),(S.tm rfl),(S.tm rfl),trivial⟩ call38) (hself _ ([Ai] ++ (v1.ownBlock.toList ++ v21.ownBlock.toList)) Ai Ac Aq (Bm.mono (S.le_arg (Gb (Ew (i:=3) (e:=.blk Ai [Ac,iV Ad,Aa,iV Ah,v1,iV x1,iV x2,bV x3] 86) rfl) (Gb (Ew (i:=4) (e:=.own v1 3 1 x4.length (x4.flatMap eInt)) rfl) (Ew (i:=2) (e:=.own v21 3 1 (r1 ++ [y1]).length ((r1 ++ [y1]).flatMap eInt)) rfl))))) Ad Aa Bk Bl (Bn.mono (S.le_arg (Gb (Ew (i:=3) (e:=.blk Ai [Ac,iV Ad,Aa,iV Ah,v1,iV x1,iV x2,bV x3] 86) rfl) (Gb (Ew (i:=4) (e:=.own v1 3 1 x4.length (x4.flatMap eInt)) rfl) (Ew (i:=2) (e:=.own v21 3 1 (r1 ++ [y1]).length ((r1 ++ [y1]).flatMap eInt)) rfl))))) (Pm (S.le_arg (Gb (Ew (i:=3) (e:=.blk Ai [Ac,iV Ad,Aa,iV Ah,v1,iV x1,iV x2,bV x3] 86) rfl) (Gb (Ew (i:=4) (e:=.own v1 3 1 x4.length (x4.flatMap eInt)) rfl) (Ew (i:=2) (e:=.own v21 3 1 (r1 ++ [y1]).length ((r1 ++ [y1]).flatMap eInt)) rfl)))) Bo) Ah v1 x4 (S.holds _ (List.mem_of_getElem? (i:=4) rfl)) x1 x2 x3 (S.holds _ (List.mem_of_getElem? (i:=3) rfl)) v21 (r1 ++ [y1]) (S.holds _ (List.mem_of_getElem? (i:=2) rfl)) v22 r2 ((Fv Gw hs8).mono (S.le_new (Gb (Ew (i:=3) (e:=.blk Ai [Ac,iV Ad,Aa,iV Ah,v1,iV x1,iV x2,bV x3] 86) rfl) (Gb (Ew (i:=4) (e:=.own v1 3 1 x4.length (x4.flatMap eInt)) rfl) (Ew (i:=2) (e:=.own v21 3 1 (r1 ++ [y1]).length ((r1 ++ [y1]).flatMap eInt)) rfl))))) (S.ndg [3,4,2] [0,1,5] rfl rfl rfl (by simp [Jg,Ke,LEnt.fp])) (by simp [Jg,Ke,LEnt.fp]) _ hr7) rfl ?_)));clear S;intro v23 a w25 hv10 hk22 hn10 S
       obtain ⟨v24,hg4,hv10⟩:=hv10;replace S:=S _ hg4;clear hg4
       subst hv10
       refine Ld ?_
       refine Gn (hk22.sub (by intro y hy;simp at hy ⊢;rcases hy with hy | hy | hy <;> simp [hy])) ?_
       refine Ta (by kernel_rfl) ?_
       clear hsel
       replace S:=(S.nl [.blk Ai [Ac,iV Ad,Aa,iV Ah,v24,iV r3.2.1,iV r3.2.2.1,bV r3.2.2.2] 86,.own v24 3 1 r3.1.length (r3.1.flatMap eInt),.own Ak 3 1 Am.length (Am.flatMap eInt)] [true,true,false,false,true] rfl).k6 0 1 2 24 25 26 rfl
       exact Tn (⟨r3.2.1,r3.2.2.1,r3.2.2.2,r3.1,φ6,v24,h,hl6,S.nf [true,true,true] rfl (subR rfl)⟩)
     ·refine Fo S underlying22 sizeOf3 zeroValue3 rfl rfl (pv:=[(0,iV y1)]) ⟨rfl,(S.tm rfl),trivial⟩ (cs:=[iV y1]) (by kernel_rfl) rfl ?_;clear S;intro a w26 b9 hz14 hk23 S
      refine Ld (Gn (Keep.none hk23) (Wx 2 13 (by kernel_rfl) rfl rfl ?_ ?_))
      ·have hz15:=S.keep.size
       refine Em S (fun _=>Eg (vs:=[Ak]) ⟨(S.tm rfl),trivial⟩ call56) (Mf _ Ak Am (Mr Gw S (i:=3) rfl (Gr (e':=.own Ak 3 1 Am.length (Am.flatMap eInt)))) _ hr2) rfl ?_;clear S;intro v25 a w27 hv11 hk24 hn11 S
       replace S:=S.take hn11 hz15 hv11
       refine Ld (Og (v25.ownBlock.toList ++ (v1.ownBlock.toList ++ [Ai])) (Keep.none hk24) (DH hv11) (Wx 5 13 (by kernel_rfl) rfl rfl ?_ ?_))
       ·refine Ms Ll Gw S (S.tm rfl) (i:=0) rfl (S.tm rfl) (j:=1) rfl (ys:=[y1]) rfl rfl rfl rfl (by have:=Le hc1;omega) rfl ?_;clear S;intro v26 a w28 hk25 hf4 S
        refine Ld ?_
        refine Og (v26.ownBlock.toList ++ (v1.ownBlock.toList ++ [Ai])) (hk25.sub (by intro y hy;simp at hy ⊢;simp [hy])) (by intro y hy;simp at hy ⊢;exact (hy.elim (fun hy=>(by rcases hf4 y hy with hy | hy <;> simp [hy])) (fun hy=>(hy.elim (fun hy=>(by simp [hy])) (fun hy=>(by simp [hy])))))) ?_
        refine Ga 13 (by kernel_rfl) rfl (Fo S underlying153 sizeOf22 zeroValue22 rfl rfl (pv:=[(0,v10),(1,v11)]) ⟨rfl,(S.tm rfl),rfl,(S.tm rfl),trivial⟩ (cs:=[v10,v11]) (Rj (Eh hs4) (Eh hs5)) rfl ?_);clear S;intro a w29 b10 hz16 hk26 S
        refine Ld (Gn (Keep.none hk26) (Ga 14 (by kernel_rfl) rfl ?_))
        have hr13 : Iz (Rp (join (view w X) φ1)) ([cut Ar 0 (i1 : Int),cut Ar (W ((i1 : Int) + 1)) Ar.length] : List (List Int)) ([⟨v10,Eo.one (Eh hs4)⟩,⟨v11,Eo.one (Eh hs5)⟩] : List RS):=(Iz.cons (hs4.mono (le_join_left _ _)) (Iz.cons (hs5.mono (le_join_left _ _)) Iz.nil))
        replace S:=S.litOwn (i:=0) (xs:=([⟨v10,Eo.one (Eh hs4)⟩,⟨v11,Eo.one (Eh hs5)⟩] : List RS)) rfl RS.enc_ok rfl rfl rfl
        replace S:=S.nk [.own (.slice (some ⟨b10,0,none⟩) 2 2) 22 1 ([⟨v10,Eo.one (Eh hs4)⟩,⟨v11,Eo.one (Eh hs5)⟩] : List RS).length (([⟨v10,Eo.one (Eh hs4)⟩,⟨v11,Eo.one (Eh hs5)⟩] : List RS).flatMap RS.enc),.own v26 3 1 (r1 ++ [y1]).length ((r1 ++ [y1]).flatMap eInt),.blk b9 [iV y1] 3,.blk Ai [Ac,iV Ad,Aa,iV Ah,v1,iV x1,iV x2,bV x3] 86,.own v1 3 1 x4.length (x4.flatMap eInt),.own Ak 3 1 Am.length (Am.flatMap eInt)] [(0,.pointer (some ⟨Ai,0,none⟩)),(1,Ak),(2,Bb),(6,iV (i1 : Int)),(7,iV y1),(24,Bb),(25,iV (Ar.length : Int)),(26,iV (i1 : Int)),(27,bV (decide ((i1 : Int) < (Ar.length : Int)))),(28,iV (i1 : Int)),(29,.pointer (some ⟨b1,o1,none⟩)),(30,iV y1),(31,.pointer (some ⟨Ai,0,none⟩)),(32,Ak),(33,v25),(34,iV y1),(35,.slice (some ⟨b9,0,none⟩) 1 1),(36,v26),(37,Bb),(38,iV (i1 : Int)),(39,v10),(40,Bb),(41,iV (i1 : Int)),(42,iV (W ((i1 : Int) + 1))),(43,v11),(44,(.slice (some ⟨b10,0,none⟩) 2 2))] [] rfl (subR rfl)
        have hz17:=S.keep.size
        refine Em S (fun _=>Eg (vs:=[(.slice (some ⟨b10,0,none⟩) 2 2)]) ⟨(S.tm rfl),trivial⟩ call57) (Jm _ (.slice (some ⟨b10,0,none⟩) 2 2) ([cut Ar 0 (i1 : Int),cut Ar (W ((i1 : Int) + 1)) Ar.length] : List (List Int)) ([⟨v10,Eo.one (Eh hs4)⟩,⟨v11,Eo.one (Eh hs5)⟩] : List RS) (Mr RS.enc_ok S (i:=0) rfl (Gr (e':=.own (.slice (some ⟨b10,0,none⟩) 2 2) 22 1 ([⟨v10,Eo.one (Eh hs4)⟩,⟨v11,Eo.one (Eh hs5)⟩] : List RS).length (([⟨v10,Eo.one (Eh hs4)⟩,⟨v11,Eo.one (Eh hs5)⟩] : List RS).flatMap RS.enc)))) (Sp (So (S.le_arg Fh) (S.le_new Fh)) hr13) _ hr6) rfl ?_;clear S;intro v27 a w30 hv12 hk27 hn12 S
        obtain ⟨φ7,hl7,hm6,S⟩:=S.see' hn12 hz17
        have hs9:=hv12.mono hm6
        refine Ld (Gn (Keep.none hk27) (Ga 15 (by kernel_rfl) rfl (Qc [3,4,1] [0,2,5] (Ls:=[.blk Ai [Ac,iV Ad,Aa,iV Ah,v1,iV x1,iV x2,bV x3] 86,.own v1 3 1 x4.length (x4.flatMap eInt),.own v26 3 1 (r1 ++ [y1]).length ((r1 ++ [y1]).flatMap eInt)]) (Lr:=[.own (.slice (some ⟨b10,0,none⟩) 2 2) 22 1 ([⟨v10,Eo.one (Eh hs4)⟩,⟨v11,Eo.one (Eh hs5)⟩] : List RS).length (([⟨v10,Eo.one (Eh hs4)⟩,⟨v11,Eo.one (Eh hs5)⟩] : List RS).flatMap RS.enc),.blk b9 [iV y1] 3,.own Ak 3 1 Am.length (Am.flatMap eInt)]) (Y:=[Ai] ++ (v1.ownBlock.toList ++ v26.ownBlock.toList)) S rfl rfl rfl (by simp [Jg,Ke,LEnt.fp]) (fun _=>Eg (vs:=[.pointer (some ⟨Ai,0,none⟩),v26,v27]) ⟨(S.tm rfl),(S.tm rfl),(S.tm rfl),trivial⟩ call38) (hself _ ([Ai] ++ (v1.ownBlock.toList ++ v26.ownBlock.toList)) Ai Ac Aq (Bm.mono (S.le_arg (Gb (Ew (i:=3) (e:=.blk Ai [Ac,iV Ad,Aa,iV Ah,v1,iV x1,iV x2,bV x3] 86) rfl) (Gb (Ew (i:=4) (e:=.own v1 3 1 x4.length (x4.flatMap eInt)) rfl) (Ew (i:=1) (e:=.own v26 3 1 (r1 ++ [y1]).length ((r1 ++ [y1]).flatMap eInt)) rfl))))) Ad Aa Bk Bl (Bn.mono (S.le_arg (Gb (Ew (i:=3) (e:=.blk Ai [Ac,iV Ad,Aa,iV Ah,v1,iV x1,iV x2,bV x3] 86) rfl) (Gb (Ew (i:=4) (e:=.own v1 3 1 x4.length (x4.flatMap eInt)) rfl) (Ew (i:=1) (e:=.own v26 3 1 (r1 ++ [y1]).length ((r1 ++ [y1]).flatMap eInt)) rfl))))) (Pm (S.le_arg (Gb (Ew (i:=3) (e:=.blk Ai [Ac,iV Ad,Aa,iV Ah,v1,iV x1,iV x2,bV x3] 86) rfl) (Gb (Ew (i:=4) (e:=.own v1 3 1 x4.length (x4.flatMap eInt)) rfl) (Ew (i:=1) (e:=.own v26 3 1 (r1 ++ [y1]).length ((r1 ++ [y1]).flatMap eInt)) rfl)))) Bo) Ah v1 x4 (S.holds _ (List.mem_of_getElem? (i:=4) rfl)) x1 x2 x3 (S.holds _ (List.mem_of_getElem? (i:=3) rfl)) v26 (r1 ++ [y1]) (S.holds _ (List.mem_of_getElem? (i:=1) rfl)) v27 r2 ((Fv Gw hs9).mono (S.le_new (Gb (Ew (i:=3) (e:=.blk Ai [Ac,iV Ad,Aa,iV Ah,v1,iV x1,iV x2,bV x3] 86) rfl) (Gb (Ew (i:=4) (e:=.own v1 3 1 x4.length (x4.flatMap eInt)) rfl) (Ew (i:=1) (e:=.own v26 3 1 (r1 ++ [y1]).length ((r1 ++ [y1]).flatMap eInt)) rfl))))) (S.ndg [3,4,1] [0,2,5] rfl rfl rfl (by simp [Jg,Ke,LEnt.fp])) (by simp [Jg,Ke,LEnt.fp]) _ hr7) rfl ?_)));clear S;intro v28 a w31 hv13 hk28 hn13 S
        obtain ⟨v29,hg5,hv13⟩:=hv13;replace S:=S _ hg5;clear hg5
        subst hv13
        refine Ld ?_
        refine Gn (hk28.sub (by intro y hy;simp at hy ⊢;rcases hy with hy | hy | hy <;> simp [hy])) ?_
        refine Ta (by kernel_rfl) ?_
        clear hsel
        replace S:=(S.nl [.blk Ai [Ac,iV Ad,Aa,iV Ah,v29,iV r3.2.1,iV r3.2.2.1,bV r3.2.2.2] 86,.own v29 3 1 r3.1.length (r3.1.flatMap eInt),.own Ak 3 1 Am.length (Am.flatMap eInt)] [true,true,false,false,true] rfl).k6 0 1 2 24 25 26 rfl
        exact Tn (⟨r3.2.1,r3.2.2.1,r3.2.2.2,r3.1,φ7,v29,h,hl7,S.nf [true,true,true] rfl (subR rfl)⟩)
       ·refine Fo S underlying153 sizeOf22 zeroValue22 rfl rfl (pv:=[(0,v10),(1,v11)]) ⟨rfl,(S.tm rfl),rfl,(S.tm rfl),trivial⟩ (cs:=[v10,v11]) (Rj (Eh hs4) (Eh hs5)) rfl ?_;clear S;intro a w32 b11 hz18 hk29 S
        refine Ld (Gn (Keep.none hk29) (Ga 5 (by kernel_rfl) rfl ?_))
        refine Ms Ll Gw S (S.tm rfl) (i:=1) rfl (S.tm rfl) (j:=2) rfl (ys:=[y1]) rfl rfl rfl rfl (by have:=Le hc1;omega) rfl ?_;clear S;intro v30 a w33 hk30 hf5 S
        refine Ld ?_
        refine Og (v30.ownBlock.toList ++ (v1.ownBlock.toList ++ [Ai])) (hk30.sub (by intro y hy;simp at hy ⊢;simp [hy])) (by intro y hy;simp at hy ⊢;exact (hy.elim (fun hy=>(by rcases hf5 y hy with hy | hy <;> simp [hy])) (fun hy=>(hy.elim (fun hy=>(by simp [hy])) (fun hy=>(by simp [hy])))))) ?_
        refine Ga 14 (by kernel_rfl) rfl ?_
        have hr14 : Iz (Rp (join (view w X) φ1)) ([cut Ar 0 (i1 : Int),cut Ar (W ((i1 : Int) + 1)) Ar.length] : List (List Int)) ([⟨v10,Eo.one (Eh hs4)⟩,⟨v11,Eo.one (Eh hs5)⟩] : List RS):=(Iz.cons (hs4.mono (le_join_left _ _)) (Iz.cons (hs5.mono (le_join_left _ _)) Iz.nil))
        replace S:=S.litOwn (i:=0) (xs:=([⟨v10,Eo.one (Eh hs4)⟩,⟨v11,Eo.one (Eh hs5)⟩] : List RS)) rfl RS.enc_ok rfl rfl rfl
        replace S:=S.nk [.own (.slice (some ⟨b11,0,none⟩) 2 2) 22 1 ([⟨v10,Eo.one (Eh hs4)⟩,⟨v11,Eo.one (Eh hs5)⟩] : List RS).length (([⟨v10,Eo.one (Eh hs4)⟩,⟨v11,Eo.one (Eh hs5)⟩] : List RS).flatMap RS.enc),.own v30 3 1 (r1 ++ [y1]).length ((r1 ++ [y1]).flatMap eInt),.blk b9 [iV y1] 3,.blk Ai [Ac,iV Ad,Aa,iV Ah,v1,iV x1,iV x2,bV x3] 86,.own v1 3 1 x4.length (x4.flatMap eInt),.own Ak 3 1 Am.length (Am.flatMap eInt)] [(0,.pointer (some ⟨Ai,0,none⟩)),(1,Ak),(2,Bb),(6,iV (i1 : Int)),(7,iV y1),(24,Bb),(25,iV (Ar.length : Int)),(26,iV (i1 : Int)),(27,bV (decide ((i1 : Int) < (Ar.length : Int)))),(28,iV (i1 : Int)),(29,.pointer (some ⟨b1,o1,none⟩)),(30,iV y1),(31,.pointer (some ⟨Ai,0,none⟩)),(32,Ak),(33,v25),(34,iV y1),(35,.slice (some ⟨b9,0,none⟩) 1 1),(36,v30),(37,Bb),(38,iV (i1 : Int)),(39,v10),(40,Bb),(41,iV (i1 : Int)),(42,iV (W ((i1 : Int) + 1))),(43,v11),(44,(.slice (some ⟨b11,0,none⟩) 2 2))] [] rfl (subR rfl)
        have hz19:=S.keep.size
        refine Em S (fun _=>Eg (vs:=[(.slice (some ⟨b11,0,none⟩) 2 2)]) ⟨(S.tm rfl),trivial⟩ call57) (Jm _ (.slice (some ⟨b11,0,none⟩) 2 2) ([cut Ar 0 (i1 : Int),cut Ar (W ((i1 : Int) + 1)) Ar.length] : List (List Int)) ([⟨v10,Eo.one (Eh hs4)⟩,⟨v11,Eo.one (Eh hs5)⟩] : List RS) (Mr RS.enc_ok S (i:=0) rfl (Gr (e':=.own (.slice (some ⟨b11,0,none⟩) 2 2) 22 1 ([⟨v10,Eo.one (Eh hs4)⟩,⟨v11,Eo.one (Eh hs5)⟩] : List RS).length (([⟨v10,Eo.one (Eh hs4)⟩,⟨v11,Eo.one (Eh hs5)⟩] : List RS).flatMap RS.enc)))) (Sp (So (S.le_arg Fh) (S.le_new Fh)) hr14) _ hr6) rfl ?_;clear S;intro v31 a w34 hv14 hk31 hn14 S
        obtain ⟨φ8,hl8,hm7,S⟩:=S.see' hn14 hz19
        have hs10:=hv14.mono hm7
        refine Ld (Gn (Keep.none hk31) (Ga 15 (by kernel_rfl) rfl (Qc [3,4,1] [0,2,5] (Ls:=[.blk Ai [Ac,iV Ad,Aa,iV Ah,v1,iV x1,iV x2,bV x3] 86,.own v1 3 1 x4.length (x4.flatMap eInt),.own v30 3 1 (r1 ++ [y1]).length ((r1 ++ [y1]).flatMap eInt)]) (Lr:=[.own (.slice (some ⟨b11,0,none⟩) 2 2) 22 1 ([⟨v10,Eo.one (Eh hs4)⟩,⟨v11,Eo.one (Eh hs5)⟩] : List RS).length (([⟨v10,Eo.one (Eh hs4)⟩,⟨v11,Eo.one (Eh hs5)⟩] : List RS).flatMap RS.enc),.blk b9 [iV y1] 3,.own Ak 3 1 Am.length (Am.flatMap eInt)]) (Y:=[Ai] ++ (v1.ownBlock.toList ++ v30.ownBlock.toList)) S rfl rfl rfl (by simp [Jg,Ke,LEnt.fp]) (fun _=>Eg (vs:=[.pointer (some ⟨Ai,0,none⟩),v30,v31]) ⟨(S.tm rfl),(S.tm rfl),(S.tm rfl),trivial⟩ call38) (hself _ ([Ai] ++ (v1.ownBlock.toList ++ v30.ownBlock.toList)) Ai Ac Aq (Bm.mono (S.le_arg (Gb (Ew (i:=3) (e:=.blk Ai [Ac,iV Ad,Aa,iV Ah,v1,iV x1,iV x2,bV x3] 86) rfl) (Gb (Ew (i:=4) (e:=.own v1 3 1 x4.length (x4.flatMap eInt)) rfl) (Ew (i:=1) (e:=.own v30 3 1 (r1 ++ [y1]).length ((r1 ++ [y1]).flatMap eInt)) rfl))))) Ad Aa Bk Bl (Bn.mono (S.le_arg (Gb (Ew (i:=3) (e:=.blk Ai [Ac,iV Ad,Aa,iV Ah,v1,iV x1,iV x2,bV x3] 86) rfl) (Gb (Ew (i:=4) (e:=.own v1 3 1 x4.length (x4.flatMap eInt)) rfl) (Ew (i:=1) (e:=.own v30 3 1 (r1 ++ [y1]).length ((r1 ++ [y1]).flatMap eInt)) rfl))))) (Pm (S.le_arg (Gb (Ew (i:=3) (e:=.blk Ai [Ac,iV Ad,Aa,iV Ah,v1,iV x1,iV x2,bV x3] 86) rfl) (Gb (Ew (i:=4) (e:=.own v1 3 1 x4.length (x4.flatMap eInt)) rfl) (Ew (i:=1) (e:=.own v30 3 1 (r1 ++ [y1]).length ((r1 ++ [y1]).flatMap eInt)) rfl)))) Bo) Ah v1 x4 (S.holds _ (List.mem_of_getElem? (i:=4) rfl)) x1 x2 x3 (S.holds _ (List.mem_of_getElem? (i:=3) rfl)) v30 (r1 ++ [y1]) (S.holds _ (List.mem_of_getElem? (i:=1) rfl)) v31 r2 ((Fv Gw hs10).mono (S.le_new (Gb (Ew (i:=3) (e:=.blk Ai [Ac,iV Ad,Aa,iV Ah,v1,iV x1,iV x2,bV x3] 86) rfl) (Gb (Ew (i:=4) (e:=.own v1 3 1 x4.length (x4.flatMap eInt)) rfl) (Ew (i:=1) (e:=.own v30 3 1 (r1 ++ [y1]).length ((r1 ++ [y1]).flatMap eInt)) rfl))))) (S.ndg [3,4,1] [0,2,5] rfl rfl rfl (by simp [Jg,Ke,LEnt.fp])) (by simp [Jg,Ke,LEnt.fp]) _ hr7) rfl ?_)));clear S;intro v32 a w35 hv15 hk32 hn15 S
        obtain ⟨v33,hg6,hv15⟩:=hv15;replace S:=S _ hg6;clear hg6
        subst hv15
        refine Ld ?_
        refine Gn (hk32.sub (by intro y hy;simp at hy ⊢;rcases hy with hy | hy | hy <;> simp [hy])) ?_
        refine Ta (by kernel_rfl) ?_
        clear hsel
        replace S:=(S.nl [.blk Ai [Ac,iV Ad,Aa,iV Ah,v33,iV r3.2.1,iV r3.2.2.1,bV r3.2.2.2] 86,.own v33 3 1 r3.1.length (r3.1.flatMap eInt),.own Ak 3 1 Am.length (Am.flatMap eInt)] [true,true,false,false,true] rfl).k6 0 1 2 24 25 26 rfl
        exact Tn (⟨r3.2.1,r3.2.2.1,r3.2.2.2,r3.1,φ8,v33,h,hl8,S.nf [true,true,true] rfl (subR rfl)⟩)
      ·refine Fo S underlying153 sizeOf22 zeroValue22 rfl rfl (pv:=[(0,v10),(1,v11)]) ⟨rfl,(S.tm rfl),rfl,(S.tm rfl),trivial⟩ (cs:=[v10,v11]) (Rj (Eh hs4) (Eh hs5)) rfl ?_;clear S;intro a w36 b12 hz20 hk33 S
       refine Ld (Gn (Keep.none hk33) (Ga 2 (by kernel_rfl) rfl ?_))
       have hz21:=S.keep.size
       refine Em S (fun _=>Eg (vs:=[Ak]) ⟨(S.tm rfl),trivial⟩ call56) (Mf _ Ak Am (Mr Gw S (i:=4) rfl (Gr (e':=.own Ak 3 1 Am.length (Am.flatMap eInt)))) _ hr2) rfl ?_;clear S;intro v34 a w37 hv16 hk34 hn16 S
       replace S:=S.take hn16 hz21 hv16
       refine Ld (Og (v34.ownBlock.toList ++ (v1.ownBlock.toList ++ [Ai])) (Keep.none hk34) (DH hv16) (Ga 5 (by kernel_rfl) rfl ?_))
       refine Ms Ll Gw S (S.tm rfl) (i:=0) rfl (S.tm rfl) (j:=2) rfl (ys:=[y1]) rfl rfl rfl rfl (by have:=Le hc1;omega) rfl ?_;clear S;intro v35 a w38 hk35 hf6 S
       refine Ld ?_
       refine Og (v35.ownBlock.toList ++ (v1.ownBlock.toList ++ [Ai])) (hk35.sub (by intro y hy;simp at hy ⊢;simp [hy])) (by intro y hy;simp at hy ⊢;exact (hy.elim (fun hy=>(by rcases hf6 y hy with hy | hy <;> simp [hy])) (fun hy=>(hy.elim (fun hy=>(by simp [hy])) (fun hy=>(by simp [hy])))))) ?_
       refine Ga 14 (by kernel_rfl) rfl ?_
       have hr15 : Iz (Rp (join (view w X) φ1)) ([cut Ar 0 (i1 : Int),cut Ar (W ((i1 : Int) + 1)) Ar.length] : List (List Int)) ([⟨v10,Eo.one (Eh hs4)⟩,⟨v11,Eo.one (Eh hs5)⟩] : List RS):=(Iz.cons (hs4.mono (le_join_left _ _)) (Iz.cons (hs5.mono (le_join_left _ _)) Iz.nil))
       replace S:=S.litOwn (i:=1) (xs:=([⟨v10,Eo.one (Eh hs4)⟩,⟨v11,Eo.one (Eh hs5)⟩] : List RS)) rfl RS.enc_ok rfl rfl rfl
       replace S:=S.nk [.own v35 3 1 (r1 ++ [y1]).length ((r1 ++ [y1]).flatMap eInt),.own (.slice (some ⟨b12,0,none⟩) 2 2) 22 1 ([⟨v10,Eo.one (Eh hs4)⟩,⟨v11,Eo.one (Eh hs5)⟩] : List RS).length (([⟨v10,Eo.one (Eh hs4)⟩,⟨v11,Eo.one (Eh hs5)⟩] : List RS).flatMap RS.enc),.blk b9 [iV y1] 3,.blk Ai [Ac,iV Ad,Aa,iV Ah,v1,iV x1,iV x2,bV x3] 86,.own v1 3 1 x4.length (x4.flatMap eInt),.own Ak 3 1 Am.length (Am.flatMap eInt)] [(0,.pointer (some ⟨Ai,0,none⟩)),(1,Ak),(2,Bb),(6,iV (i1 : Int)),(7,iV y1),(24,Bb),(25,iV (Ar.length : Int)),(26,iV (i1 : Int)),(27,bV (decide ((i1 : Int) < (Ar.length : Int)))),(28,iV (i1 : Int)),(29,.pointer (some ⟨b1,o1,none⟩)),(30,iV y1),(31,.pointer (some ⟨Ai,0,none⟩)),(32,Ak),(33,v34),(34,iV y1),(35,.slice (some ⟨b9,0,none⟩) 1 1),(36,v35),(37,Bb),(38,iV (i1 : Int)),(39,v10),(40,Bb),(41,iV (i1 : Int)),(42,iV (W ((i1 : Int) + 1))),(43,v11),(44,(.slice (some ⟨b12,0,none⟩) 2 2))] [] rfl (subR rfl)
       have hz22:=S.keep.size
       refine Em S (fun _=>Eg (vs:=[(.slice (some ⟨b12,0,none⟩) 2 2)]) ⟨(S.tm rfl),trivial⟩ call57) (Jm _ (.slice (some ⟨b12,0,none⟩) 2 2) ([cut Ar 0 (i1 : Int),cut Ar (W ((i1 : Int) + 1)) Ar.length] : List (List Int)) ([⟨v10,Eo.one (Eh hs4)⟩,⟨v11,Eo.one (Eh hs5)⟩] : List RS) (Mr RS.enc_ok S (i:=1) rfl (Gr (e':=.own (.slice (some ⟨b12,0,none⟩) 2 2) 22 1 ([⟨v10,Eo.one (Eh hs4)⟩,⟨v11,Eo.one (Eh hs5)⟩] : List RS).length (([⟨v10,Eo.one (Eh hs4)⟩,⟨v11,Eo.one (Eh hs5)⟩] : List RS).flatMap RS.enc)))) (Sp (So (S.le_arg Fh) (S.le_new Fh)) hr15) _ hr6) rfl ?_;clear S;intro v36 a w39 hv17 hk36 hn17 S
       obtain ⟨φ9,hl9,hm8,S⟩:=S.see' hn17 hz22
       have hs11:=hv17.mono hm8
       refine Ld (Gn (Keep.none hk36) (Ga 15 (by kernel_rfl) rfl (Qc [3,4,0] [1,2,5] (Ls:=[.blk Ai [Ac,iV Ad,Aa,iV Ah,v1,iV x1,iV x2,bV x3] 86,.own v1 3 1 x4.length (x4.flatMap eInt),.own v35 3 1 (r1 ++ [y1]).length ((r1 ++ [y1]).flatMap eInt)]) (Lr:=[.own (.slice (some ⟨b12,0,none⟩) 2 2) 22 1 ([⟨v10,Eo.one (Eh hs4)⟩,⟨v11,Eo.one (Eh hs5)⟩] : List RS).length (([⟨v10,Eo.one (Eh hs4)⟩,⟨v11,Eo.one (Eh hs5)⟩] : List RS).flatMap RS.enc),.blk b9 [iV y1] 3,.own Ak 3 1 Am.length (Am.flatMap eInt)]) (Y:=[Ai] ++ (v1.ownBlock.toList ++ v35.ownBlock.toList)) S rfl rfl rfl (by simp [Jg,Ke,LEnt.fp]) (fun _=>Eg (vs:=[.pointer (some ⟨Ai,0,none⟩),v35,v36]) ⟨(S.tm rfl),(S.tm rfl),(S.tm rfl),trivial⟩ call38) (hself _ ([Ai] ++ (v1.ownBlock.toList ++ v35.ownBlock.toList)) Ai Ac Aq (Bm.mono (S.le_arg (Gb (Ew (i:=3) (e:=.blk Ai [Ac,iV Ad,Aa,iV Ah,v1,iV x1,iV x2,bV x3] 86) rfl) (Gb (Ew (i:=4) (e:=.own v1 3 1 x4.length (x4.flatMap eInt)) rfl) (Ew (i:=0) (e:=.own v35 3 1 (r1 ++ [y1]).length ((r1 ++ [y1]).flatMap eInt)) rfl))))) Ad Aa Bk Bl (Bn.mono (S.le_arg (Gb (Ew (i:=3) (e:=.blk Ai [Ac,iV Ad,Aa,iV Ah,v1,iV x1,iV x2,bV x3] 86) rfl) (Gb (Ew (i:=4) (e:=.own v1 3 1 x4.length (x4.flatMap eInt)) rfl) (Ew (i:=0) (e:=.own v35 3 1 (r1 ++ [y1]).length ((r1 ++ [y1]).flatMap eInt)) rfl))))) (Pm (S.le_arg (Gb (Ew (i:=3) (e:=.blk Ai [Ac,iV Ad,Aa,iV Ah,v1,iV x1,iV x2,bV x3] 86) rfl) (Gb (Ew (i:=4) (e:=.own v1 3 1 x4.length (x4.flatMap eInt)) rfl) (Ew (i:=0) (e:=.own v35 3 1 (r1 ++ [y1]).length ((r1 ++ [y1]).flatMap eInt)) rfl)))) Bo) Ah v1 x4 (S.holds _ (List.mem_of_getElem? (i:=4) rfl)) x1 x2 x3 (S.holds _ (List.mem_of_getElem? (i:=3) rfl)) v35 (r1 ++ [y1]) (S.holds _ (List.mem_of_getElem? (i:=0) rfl)) v36 r2 ((Fv Gw hs11).mono (S.le_new (Gb (Ew (i:=3) (e:=.blk Ai [Ac,iV Ad,Aa,iV Ah,v1,iV x1,iV x2,bV x3] 86) rfl) (Gb (Ew (i:=4) (e:=.own v1 3 1 x4.length (x4.flatMap eInt)) rfl) (Ew (i:=0) (e:=.own v35 3 1 (r1 ++ [y1]).length ((r1 ++ [y1]).flatMap eInt)) rfl))))) (S.ndg [3,4,0] [1,2,5] rfl rfl rfl (by simp [Jg,Ke,LEnt.fp])) (by simp [Jg,Ke,LEnt.fp]) _ hr7) rfl ?_)));clear S;intro v37 a w40 hv18 hk37 hn18 S
       obtain ⟨v38,hg7,hv18⟩:=hv18;replace S:=S _ hg7;clear hg7
       subst hv18
       refine Ld ?_
       refine Gn (hk37.sub (by intro y hy;simp at hy ⊢;rcases hy with hy | hy | hy <;> simp [hy])) ?_
       refine Ta (by kernel_rfl) ?_
       clear hsel
       replace S:=(S.nl [.blk Ai [Ac,iV Ad,Aa,iV Ah,v38,iV r3.2.1,iV r3.2.2.1,bV r3.2.2.2] 86,.own v38 3 1 r3.1.length (r3.1.flatMap eInt),.own Ak 3 1 Am.length (Am.flatMap eInt)] [true,true,false,false,true] rfl).k6 0 1 2 24 25 26 rfl
       exact Tn (⟨r3.2.1,r3.2.2.1,r3.2.2.2,r3.1,φ9,v38,h,hl9,S.nf [true,true,true] rfl (subR rfl)⟩)
     ·refine Fo S underlying153 sizeOf22 zeroValue22 rfl rfl (pv:=[(0,v10),(1,v11)]) ⟨rfl,(S.tm rfl),rfl,(S.tm rfl),trivial⟩ (cs:=[v10,v11]) (Rj (Eh hs4) (Eh hs5)) rfl ?_;clear S;intro a w41 b13 hz23 hk38 S
      refine Ld (Gn (Keep.none hk38) (Wx 2 4 (by kernel_rfl) rfl rfl ?_ ?_))
      ·have hz24:=S.keep.size
       refine Em S (fun _=>Eg (vs:=[Ak]) ⟨(S.tm rfl),trivial⟩ call56) (Mf _ Ak Am (Mr Gw S (i:=3) rfl (Gr (e':=.own Ak 3 1 Am.length (Am.flatMap eInt)))) _ hr2) rfl ?_;clear S;intro v39 a w42 hv19 hk39 hn19 S
       replace S:=S.take hn19 hz24 hv19
       refine Ld (Og (v39.ownBlock.toList ++ (v1.ownBlock.toList ++ [Ai])) (Keep.none hk39) (DH hv19) (Ga 4 (by kernel_rfl) rfl (Fo S underlying22 sizeOf3 zeroValue3 rfl rfl (pv:=[(0,iV y1)]) ⟨rfl,(S.tm rfl),trivial⟩ (cs:=[iV y1]) (by kernel_rfl) rfl ?_)));clear S;intro a w43 b14 hz25 hk40 S
       refine Ld (Gn (Keep.none hk40) (Ga 5 (by kernel_rfl) rfl ?_))
       refine Ms Ll Gw S (S.tm rfl) (i:=1) rfl (S.tm rfl) (j:=0) rfl (ys:=[y1]) rfl rfl rfl rfl (by have:=Le hc1;omega) rfl ?_;clear S;intro v40 a w44 hk41 hf7 S
       refine Ld ?_
       refine Og (v40.ownBlock.toList ++ (v1.ownBlock.toList ++ [Ai])) (hk41.sub (by intro y hy;simp at hy ⊢;simp [hy])) (by intro y hy;simp at hy ⊢;exact (hy.elim (fun hy=>(by rcases hf7 y hy with hy | hy <;> simp [hy])) (fun hy=>(hy.elim (fun hy=>(by simp [hy])) (fun hy=>(by simp [hy])))))) ?_
       refine Ga 14 (by kernel_rfl) rfl ?_
       have hr16 : Iz (Rp (join (view w X) φ1)) ([cut Ar 0 (i1 : Int),cut Ar (W ((i1 : Int) + 1)) Ar.length] : List (List Int)) ([⟨v10,Eo.one (Eh hs4)⟩,⟨v11,Eo.one (Eh hs5)⟩] : List RS):=(Iz.cons (hs4.mono (le_join_left _ _)) (Iz.cons (hs5.mono (le_join_left _ _)) Iz.nil))
       replace S:=S.litOwn (i:=2) (xs:=([⟨v10,Eo.one (Eh hs4)⟩,⟨v11,Eo.one (Eh hs5)⟩] : List RS)) rfl RS.enc_ok rfl rfl rfl
       replace S:=S.nk [.blk b14 [iV y1] 3,.own v40 3 1 (r1 ++ [y1]).length ((r1 ++ [y1]).flatMap eInt),.own (.slice (some ⟨b13,0,none⟩) 2 2) 22 1 ([⟨v10,Eo.one (Eh hs4)⟩,⟨v11,Eo.one (Eh hs5)⟩] : List RS).length (([⟨v10,Eo.one (Eh hs4)⟩,⟨v11,Eo.one (Eh hs5)⟩] : List RS).flatMap RS.enc),.blk Ai [Ac,iV Ad,Aa,iV Ah,v1,iV x1,iV x2,bV x3] 86,.own v1 3 1 x4.length (x4.flatMap eInt),.own Ak 3 1 Am.length (Am.flatMap eInt)] [(0,.pointer (some ⟨Ai,0,none⟩)),(1,Ak),(2,Bb),(6,iV (i1 : Int)),(7,iV y1),(24,Bb),(25,iV (Ar.length : Int)),(26,iV (i1 : Int)),(27,bV (decide ((i1 : Int) < (Ar.length : Int)))),(28,iV (i1 : Int)),(29,.pointer (some ⟨b1,o1,none⟩)),(30,iV y1),(31,.pointer (some ⟨Ai,0,none⟩)),(32,Ak),(33,v39),(34,iV y1),(35,.slice (some ⟨b14,0,none⟩) 1 1),(36,v40),(37,Bb),(38,iV (i1 : Int)),(39,v10),(40,Bb),(41,iV (i1 : Int)),(42,iV (W ((i1 : Int) + 1))),(43,v11),(44,(.slice (some ⟨b13,0,none⟩) 2 2))] [] rfl (subR rfl)
       have hz26:=S.keep.size
       refine Em S (fun _=>Eg (vs:=[(.slice (some ⟨b13,0,none⟩) 2 2)]) ⟨(S.tm rfl),trivial⟩ call57) (Jm _ (.slice (some ⟨b13,0,none⟩) 2 2) ([cut Ar 0 (i1 : Int),cut Ar (W ((i1 : Int) + 1)) Ar.length] : List (List Int)) ([⟨v10,Eo.one (Eh hs4)⟩,⟨v11,Eo.one (Eh hs5)⟩] : List RS) (Mr RS.enc_ok S (i:=2) rfl (Gr (e':=.own (.slice (some ⟨b13,0,none⟩) 2 2) 22 1 ([⟨v10,Eo.one (Eh hs4)⟩,⟨v11,Eo.one (Eh hs5)⟩] : List RS).length (([⟨v10,Eo.one (Eh hs4)⟩,⟨v11,Eo.one (Eh hs5)⟩] : List RS).flatMap RS.enc)))) (Sp (So (S.le_arg Fh) (S.le_new Fh)) hr16) _ hr6) rfl ?_;clear S;intro v41 a w45 hv20 hk42 hn20 S
       obtain ⟨φ10,hl10,hm9,S⟩:=S.see' hn20 hz26
       have hs12:=hv20.mono hm9
       refine Ld (Gn (Keep.none hk42) (Ga 15 (by kernel_rfl) rfl (Qc [3,4,1] [0,2,5] (Ls:=[.blk Ai [Ac,iV Ad,Aa,iV Ah,v1,iV x1,iV x2,bV x3] 86,.own v1 3 1 x4.length (x4.flatMap eInt),.own v40 3 1 (r1 ++ [y1]).length ((r1 ++ [y1]).flatMap eInt)]) (Lr:=[.blk b14 [iV y1] 3,.own (.slice (some ⟨b13,0,none⟩) 2 2) 22 1 ([⟨v10,Eo.one (Eh hs4)⟩,⟨v11,Eo.one (Eh hs5)⟩] : List RS).length (([⟨v10,Eo.one (Eh hs4)⟩,⟨v11,Eo.one (Eh hs5)⟩] : List RS).flatMap RS.enc),.own Ak 3 1 Am.length (Am.flatMap eInt)]) (Y:=[Ai] ++ (v1.ownBlock.toList ++ v40.ownBlock.toList)) S rfl rfl rfl (by simp [Jg,Ke,LEnt.fp]) (fun _=>Eg (vs:=[.pointer (some ⟨Ai,0,none⟩),v40,v41]) ⟨(S.tm rfl),(S.tm rfl),(S.tm rfl),trivial⟩ call38) (hself _ ([Ai] ++ (v1.ownBlock.toList ++ v40.ownBlock.toList)) Ai Ac Aq (Bm.mono (S.le_arg (Gb (Ew (i:=3) (e:=.blk Ai [Ac,iV Ad,Aa,iV Ah,v1,iV x1,iV x2,bV x3] 86) rfl) (Gb (Ew (i:=4) (e:=.own v1 3 1 x4.length (x4.flatMap eInt)) rfl) (Ew (i:=1) (e:=.own v40 3 1 (r1 ++ [y1]).length ((r1 ++ [y1]).flatMap eInt)) rfl))))) Ad Aa Bk Bl (Bn.mono (S.le_arg (Gb (Ew (i:=3) (e:=.blk Ai [Ac,iV Ad,Aa,iV Ah,v1,iV x1,iV x2,bV x3] 86) rfl) (Gb (Ew (i:=4) (e:=.own v1 3 1 x4.length (x4.flatMap eInt)) rfl) (Ew (i:=1) (e:=.own v40 3 1 (r1 ++ [y1]).length ((r1 ++ [y1]).flatMap eInt)) rfl))))) (Pm (S.le_arg (Gb (Ew (i:=3) (e:=.blk Ai [Ac,iV Ad,Aa,iV Ah,v1,iV x1,iV x2,bV x3] 86) rfl) (Gb (Ew (i:=4) (e:=.own v1 3 1 x4.length (x4.flatMap eInt)) rfl) (Ew (i:=1) (e:=.own v40 3 1 (r1 ++ [y1]).length ((r1 ++ [y1]).flatMap eInt)) rfl)))) Bo) Ah v1 x4 (S.holds _ (List.mem_of_getElem? (i:=4) rfl)) x1 x2 x3 (S.holds _ (List.mem_of_getElem? (i:=3) rfl)) v40 (r1 ++ [y1]) (S.holds _ (List.mem_of_getElem? (i:=1) rfl)) v41 r2 ((Fv Gw hs12).mono (S.le_new (Gb (Ew (i:=3) (e:=.blk Ai [Ac,iV Ad,Aa,iV Ah,v1,iV x1,iV x2,bV x3] 86) rfl) (Gb (Ew (i:=4) (e:=.own v1 3 1 x4.length (x4.flatMap eInt)) rfl) (Ew (i:=1) (e:=.own v40 3 1 (r1 ++ [y1]).length ((r1 ++ [y1]).flatMap eInt)) rfl))))) (S.ndg [3,4,1] [0,2,5] rfl rfl rfl (by simp [Jg,Ke,LEnt.fp])) (by simp [Jg,Ke,LEnt.fp]) _ hr7) rfl ?_)));clear S;intro v42 a w46 hv21 hk43 hn21 S
       obtain ⟨v43,hg8,hv21⟩:=hv21;replace S:=S _ hg8;clear hg8
       subst hv21
       refine Ld ?_
       refine Gn (hk43.sub (by intro y hy;simp at hy ⊢;rcases hy with hy | hy | hy <;> simp [hy])) ?_
       refine Ta (by kernel_rfl) ?_
       clear hsel
       replace S:=(S.nl [.blk Ai [Ac,iV Ad,Aa,iV Ah,v43,iV r3.2.1,iV r3.2.2.1,bV r3.2.2.2] 86,.own v43 3 1 r3.1.length (r3.1.flatMap eInt),.own Ak 3 1 Am.length (Am.flatMap eInt)] [true,true,false,false,true] rfl).k6 0 1 2 24 25 26 rfl
       exact Tn (⟨r3.2.1,r3.2.2.1,r3.2.2.2,r3.1,φ10,v43,h,hl10,S.nf [true,true,true] rfl (subR rfl)⟩)
      ·refine Fo S underlying22 sizeOf3 zeroValue3 rfl rfl (pv:=[(0,iV y1)]) ⟨rfl,(S.tm rfl),trivial⟩ (cs:=[iV y1]) (by kernel_rfl) rfl ?_;clear S;intro a w47 b15 hz27 hk44 S
       refine Ld (Gn (Keep.none hk44) (Ga 2 (by kernel_rfl) rfl ?_))
       have hz28:=S.keep.size
       refine Em S (fun _=>Eg (vs:=[Ak]) ⟨(S.tm rfl),trivial⟩ call56) (Mf _ Ak Am (Mr Gw S (i:=4) rfl (Gr (e':=.own Ak 3 1 Am.length (Am.flatMap eInt)))) _ hr2) rfl ?_;clear S;intro v44 a w48 hv22 hk45 hn22 S
       replace S:=S.take hn22 hz28 hv22
       refine Ld (Og (v44.ownBlock.toList ++ (v1.ownBlock.toList ++ [Ai])) (Keep.none hk45) (DH hv22) (Ga 5 (by kernel_rfl) rfl ?_))
       refine Ms Ll Gw S (S.tm rfl) (i:=0) rfl (S.tm rfl) (j:=1) rfl (ys:=[y1]) rfl rfl rfl rfl (by have:=Le hc1;omega) rfl ?_;clear S;intro v45 a w49 hk46 hf8 S
       refine Ld ?_
       refine Og (v45.ownBlock.toList ++ (v1.ownBlock.toList ++ [Ai])) (hk46.sub (by intro y hy;simp at hy ⊢;simp [hy])) (by intro y hy;simp at hy ⊢;exact (hy.elim (fun hy=>(by rcases hf8 y hy with hy | hy <;> simp [hy])) (fun hy=>(hy.elim (fun hy=>(by simp [hy])) (fun hy=>(by simp [hy])))))) ?_
       refine Ga 14 (by kernel_rfl) rfl ?_
       have hr17 : Iz (Rp (join (view w X) φ1)) ([cut Ar 0 (i1 : Int),cut Ar (W ((i1 : Int) + 1)) Ar.length] : List (List Int)) ([⟨v10,Eo.one (Eh hs4)⟩,⟨v11,Eo.one (Eh hs5)⟩] : List RS):=(Iz.cons (hs4.mono (le_join_left _ _)) (Iz.cons (hs5.mono (le_join_left _ _)) Iz.nil))
       replace S:=S.litOwn (i:=2) (xs:=([⟨v10,Eo.one (Eh hs4)⟩,⟨v11,Eo.one (Eh hs5)⟩] : List RS)) rfl RS.enc_ok rfl rfl rfl
       replace S:=S.nk [.own v45 3 1 (r1 ++ [y1]).length ((r1 ++ [y1]).flatMap eInt),.blk b15 [iV y1] 3,.own (.slice (some ⟨b13,0,none⟩) 2 2) 22 1 ([⟨v10,Eo.one (Eh hs4)⟩,⟨v11,Eo.one (Eh hs5)⟩] : List RS).length (([⟨v10,Eo.one (Eh hs4)⟩,⟨v11,Eo.one (Eh hs5)⟩] : List RS).flatMap RS.enc),.blk Ai [Ac,iV Ad,Aa,iV Ah,v1,iV x1,iV x2,bV x3] 86,.own v1 3 1 x4.length (x4.flatMap eInt),.own Ak 3 1 Am.length (Am.flatMap eInt)] [(0,.pointer (some ⟨Ai,0,none⟩)),(1,Ak),(2,Bb),(6,iV (i1 : Int)),(7,iV y1),(24,Bb),(25,iV (Ar.length : Int)),(26,iV (i1 : Int)),(27,bV (decide ((i1 : Int) < (Ar.length : Int)))),(28,iV (i1 : Int)),(29,.pointer (some ⟨b1,o1,none⟩)),(30,iV y1),(31,.pointer (some ⟨Ai,0,none⟩)),(32,Ak),(33,v44),(34,iV y1),(35,.slice (some ⟨b15,0,none⟩) 1 1),(36,v45),(37,Bb),(38,iV (i1 : Int)),(39,v10),(40,Bb),(41,iV (i1 : Int)),(42,iV (W ((i1 : Int) + 1))),(43,v11),(44,(.slice (some ⟨b13,0,none⟩) 2 2))] [] rfl (subR rfl)
       have hz29:=S.keep.size
       refine Em S (fun _=>Eg (vs:=[(.slice (some ⟨b13,0,none⟩) 2 2)]) ⟨(S.tm rfl),trivial⟩ call57) (Jm _ (.slice (some ⟨b13,0,none⟩) 2 2) ([cut Ar 0 (i1 : Int),cut Ar (W ((i1 : Int) + 1)) Ar.length] : List (List Int)) ([⟨v10,Eo.one (Eh hs4)⟩,⟨v11,Eo.one (Eh hs5)⟩] : List RS) (Mr RS.enc_ok S (i:=2) rfl (Gr (e':=.own (.slice (some ⟨b13,0,none⟩) 2 2) 22 1 ([⟨v10,Eo.one (Eh hs4)⟩,⟨v11,Eo.one (Eh hs5)⟩] : List RS).length (([⟨v10,Eo.one (Eh hs4)⟩,⟨v11,Eo.one (Eh hs5)⟩] : List RS).flatMap RS.enc)))) (Sp (So (S.le_arg Fh) (S.le_new Fh)) hr17) _ hr6) rfl ?_;clear S;intro v46 a w50 hv23 hk47 hn23 S
       obtain ⟨φ11,hl11,hm10,S⟩:=S.see' hn23 hz29
       have hs13:=hv23.mono hm10
       refine Ld (Gn (Keep.none hk47) (Ga 15 (by kernel_rfl) rfl (Qc [3,4,0] [1,2,5] (Ls:=[.blk Ai [Ac,iV Ad,Aa,iV Ah,v1,iV x1,iV x2,bV x3] 86,.own v1 3 1 x4.length (x4.flatMap eInt),.own v45 3 1 (r1 ++ [y1]).length ((r1 ++ [y1]).flatMap eInt)]) (Lr:=[.blk b15 [iV y1] 3,.own (.slice (some ⟨b13,0,none⟩) 2 2) 22 1 ([⟨v10,Eo.one (Eh hs4)⟩,⟨v11,Eo.one (Eh hs5)⟩] : List RS).length (([⟨v10,Eo.one (Eh hs4)⟩,⟨v11,Eo.one (Eh hs5)⟩] : List RS).flatMap RS.enc),.own Ak 3 1 Am.length (Am.flatMap eInt)]) (Y:=[Ai] ++ (v1.ownBlock.toList ++ v45.ownBlock.toList)) S rfl rfl rfl (by simp [Jg,Ke,LEnt.fp]) (fun _=>Eg (vs:=[.pointer (some ⟨Ai,0,none⟩),v45,v46]) ⟨(S.tm rfl),(S.tm rfl),(S.tm rfl),trivial⟩ call38) (hself _ ([Ai] ++ (v1.ownBlock.toList ++ v45.ownBlock.toList)) Ai Ac Aq (Bm.mono (S.le_arg (Gb (Ew (i:=3) (e:=.blk Ai [Ac,iV Ad,Aa,iV Ah,v1,iV x1,iV x2,bV x3] 86) rfl) (Gb (Ew (i:=4) (e:=.own v1 3 1 x4.length (x4.flatMap eInt)) rfl) (Ew (i:=0) (e:=.own v45 3 1 (r1 ++ [y1]).length ((r1 ++ [y1]).flatMap eInt)) rfl))))) Ad Aa Bk Bl (Bn.mono (S.le_arg (Gb (Ew (i:=3) (e:=.blk Ai [Ac,iV Ad,Aa,iV Ah,v1,iV x1,iV x2,bV x3] 86) rfl) (Gb (Ew (i:=4) (e:=.own v1 3 1 x4.length (x4.flatMap eInt)) rfl) (Ew (i:=0) (e:=.own v45 3 1 (r1 ++ [y1]).length ((r1 ++ [y1]).flatMap eInt)) rfl))))) (Pm (S.le_arg (Gb (Ew (i:=3) (e:=.blk Ai [Ac,iV Ad,Aa,iV Ah,v1,iV x1,iV x2,bV x3] 86) rfl) (Gb (Ew (i:=4) (e:=.own v1 3 1 x4.length (x4.flatMap eInt)) rfl) (Ew (i:=0) (e:=.own v45 3 1 (r1 ++ [y1]).length ((r1 ++ [y1]).flatMap eInt)) rfl)))) Bo) Ah v1 x4 (S.holds _ (List.mem_of_getElem? (i:=4) rfl)) x1 x2 x3 (S.holds _ (List.mem_of_getElem? (i:=3) rfl)) v45 (r1 ++ [y1]) (S.holds _ (List.mem_of_getElem? (i:=0) rfl)) v46 r2 ((Fv Gw hs13).mono (S.le_new (Gb (Ew (i:=3) (e:=.blk Ai [Ac,iV Ad,Aa,iV Ah,v1,iV x1,iV x2,bV x3] 86) rfl) (Gb (Ew (i:=4) (e:=.own v1 3 1 x4.length (x4.flatMap eInt)) rfl) (Ew (i:=0) (e:=.own v45 3 1 (r1 ++ [y1]).length ((r1 ++ [y1]).flatMap eInt)) rfl))))) (S.ndg [3,4,0] [1,2,5] rfl rfl rfl (by simp [Jg,Ke,LEnt.fp])) (by simp [Jg,Ke,LEnt.fp]) _ hr7) rfl ?_)));clear S;intro v47 a w51 hv24 hk48 hn24 S
       obtain ⟨v48,hg9,hv24⟩:=hv24;replace S:=S _ hg9;clear hg9
       subst hv24
       refine Ld ?_
       refine Gn (hk48.sub (by intro y hy;simp at hy ⊢;rcases hy with hy | hy | hy <;> simp [hy])) ?_
       refine Ta (by kernel_rfl) ?_
       clear hsel
       replace S:=(S.nl [.blk Ai [Ac,iV Ad,Aa,iV Ah,v48,iV r3.2.1,iV r3.2.2.1,bV r3.2.2.2] 86,.own v48 3 1 r3.1.length (r3.1.flatMap eInt),.own Ak 3 1 Am.length (Am.flatMap eInt)] [true,true,false,false,true] rfl).k6 0 1 2 24 25 26 rfl
       exact Tn (⟨r3.2.1,r3.2.2.1,r3.2.2.2,r3.1,φ11,v48,h,hl11,S.nf [true,true,true] rfl (subR rfl)⟩)
    clear S h;rintro a w3 ⟨x5,x6,x7,x8,φ2,v2,h,hl2,S⟩;rw [hj2] at h;clear hj2 j2
    exact Jc (Tn (Fg (Vq S Gd rfl rfl rfl fun a S=>Vm S rfl rfl fun a S=>Dl (⟨ys1,⟨i1 + 1,x5,x6,x7,x8,φ2,v2,⟨_,(hd1).trans (List.append_cons _ _ _),by simp [hi1]⟩,h,(View.le_trans hl1 hl2),S.nf [true,true,true] rfl ⟨rfl,rfl,rfl,rfl,rfl,(congrArg (fun z=>some (Value.int .i64 z)) (Hc hd1 hi1 (Jx Cg))),trivial⟩⟩,Nat.lt_succ_self _⟩))))
  clear S h;rintro a w2 ⟨x1,x2,x3,x4,φ1,v1,h,hl1,S⟩;rw [hj1] at h;clear hj1 j1
  refine Tn (wp_ret (Ek ?_))
  obtain rfl:=Option.some.inj h
  exact Qu S results38 ⟨v1,S.grp [0,1] [2] rfl rfl rfl,rfl⟩
 ·refine wp_skip (Tn (Fr (Vm S rfl rfl fun a S=>Vu S Fu rfl rfl fun a S=>Vf Xh S rfl rfl fun a S=>Vl isAgg26 0 S rfl rfl rfl rfl fun a S=>lv S (Fy Jp (S.tm rfl) (Eh Bm)) rfl ?_)));clear S;intro a S
  obtain ⟨hc4,h⟩:=Hu h
  refine HS (Z:=0) S Ll Gw (by kernel_rfl) rfl rfl (S.tm rfl) (mk_lo hc4) (mk_hi hc4) rfl ?_;clear S;intro a w52 b16 hz30 hk49 S
  refine Va S rfl rfl fun a S=>Dz (Vk S rfl rfl fun a S=>Vk S rfl rfl fun a S=>Ld ?_)
  replace S:=(S.nl [.own (.slice (some ⟨b16,0,none⟩) ((Aq.length : Int).toNat) ((Aq.length : Int).toNat)) 3 1 (List.replicate ((Aq.length : Int).toNat) 0 : List Int).length ((List.replicate ((Aq.length : Int).toNat) 0 : List Int).flatMap eInt),.blk Ai [Ac,iV Ad,Aa,iV Ah,Ap,iV As,iV Ax,bV Ay] 86,.own Ap 3 1 Av.length (Av.flatMap eInt),.own Ak 3 1 Am.length (Am.flatMap eInt)] [true,true,true,true] rfl).k5 0 1 8 9 10 rfl
  refine Tn (Fs (Fr (Vm S rfl rfl fun a S=>lv S (Fy Ll (S.tm rfl) (Nc (S.own_at (i:=3) rfl))) rfl fun a S=>lv S (Rm rfl) rfl fun a S=>Dl ?_)))
  replace S:=S.k8 0 1 8 9 10 54 55 56 rfl
  have hm11:=Tr (S.own_at (i:=3) rfl)
  obtain ⟨j3,hj3,h⟩:=Ge h
  refine Ft (fun a w'=>∃ x9 : List Int,∃ x11 : Int,∃ v49 : Value,j3 x9 x11 = some r ∧ Sx w X nov [.own v49 3 1 x9.length (x9.flatMap eInt),.blk Ai [Ac,iV Ad,Aa,iV Ah,Ap,iV As,iV Ax,bV Ay] 86,.own Ap 3 1 Av.length (Av.flatMap eInt),.own Ak 3 1 Am.length (Am.flatMap eInt)] [(0,.pointer (some ⟨Ai,0,none⟩)),(1,Ak),(8,v49),(10,iV x11)] 208 a w') ?_ ?_
  ·refine wp_block (Hh (fun (ys2 : List Int) a w'=>∃ i2 : Nat,∃ x9 : List Int,∃ x10 : Int,∃ x11 : Int,∃ v49 : Value,(∃ dn,Am = dn ++ ys2 ∧ dn.length = i2) ∧ La Aq j3 ys2 i2 x9 x10 x11 = some r ∧ Sx w X nov [.own v49 3 1 x9.length (x9.flatMap eInt),.blk Ai [Ac,iV Ad,Aa,iV Ah,Ap,iV As,iV Ax,bV Ay] 86,.own Ap 3 1 Av.length (Av.flatMap eInt),.own Ak 3 1 Am.length (Am.flatMap eInt)] [(0,.pointer (some ⟨Ai,0,none⟩)),(1,Ak),(8,v49),(9,iV x10),(10,iV x11),(54,Ak),(55,iV (Am.length : Int)),(56,iV (i2 : Int))] 208 a w') List.length Am ⟨0,(List.replicate ((Aq.length : Int).toNat) 0 : List Int),0,0,(.slice (some ⟨b16,0,none⟩) ((Aq.length : Int).toNat) ((Aq.length : Int).toNat)),⟨[],rfl,rfl⟩,h,S.nf [true,true,true,true] rfl (subR rfl)⟩ ?_)
   clear S h;rintro ys2 a w53 ⟨i2,x9,x10,x11,v49,⟨dn,hd2,hi2⟩,h,S⟩
   cases ys2 with
   | nil =>
    rw [La.eq_1] at h
    refine Fr (Vb S Fm rfl rfl rfl fun a S=>Ld ?_)
    replace S:=S.k9 0 1 8 9 10 54 55 56 57 rfl
    exact Tn (Fs (wp_cond_false ((S.tm rfl).trans (congrArg Value.bool (Ih hd2 hi2))) (wp_exit (Fj (Fj (He (Tn (⟨x9,x11,v49,h,S.nf [true,true,true,true] rfl (subR rfl)⟩))))))))
   | cons y2 ys2 =>
    rw [La.eq_2] at h
    refine Fr (Vb S Fm rfl rfl rfl fun a S=>Ld ?_)
    replace S:=S.k9 0 1 8 9 10 54 55 56 57 rfl
    refine Tn (Fs (wp_cond_true ((S.tm rfl).trans (congrArg Value.bool (Hb hd2 hi2))) (wp_skip (Tn (Fs (wp_block (Fs (Fg ?_))))))))
    obtain ⟨b17,hg10,hr18⟩:=Gz (a:=a) (x:=.tmp 54) (y:=.tmp 56) (ty:=0) Ll Gw S (i:=3) rfl (Ig hd2 hi2) rfl (S.tm rfl) (S.tm rfl)
    refine lv S (hr18 _) rfl ?_;clear S;intro a S
    clear hr18
    refine lv S (Gt isAgg3 (off:=i2 * 1) (o:=0) (S.tm rfl) (Nb Gw S (i:=3) rfl hg10 (Ig hd2 hi2)) rfl) rfl fun a S=>Va S rfl rfl fun a S=>Dz (Vm S rfl rfl fun a S=>Vu S Fu rfl rfl fun a S=>Vf Xh S rfl rfl fun a S=>Vl isAgg26 1 S rfl rfl rfl rfl fun a S=>Vm S rfl rfl ?_);clear S;intro a S
    obtain ⟨hc5,h⟩:=Hu h
    obtain ⟨b18,o3,hm13,hr19⟩:=Ff (a:=a) (x:=.tmp 63) (y:=.tmp 64) (ty:=0) Jp Bm (El hc5).1 (El hc5).2 (S.tm rfl) (S.tm rfl)
    refine lv S (hr19 _) rfl ?_;clear S;intro a S
    clear hr19
    refine lv S (Hf isAgg54 sizeOf54 (off:=o3) (o:=0) (part:=(Ed.enc (nth Aq y2))) rfl rfl (S.tm rfl) (hm13.at S.emb0)) rfl fun a S=>Lm S zeroValue54 (cs:=[sV En,iV 0,iV 0,iV 0,iV 0]) rfl rfl ?_;clear S;intro a w55 b19 hz31 hk50 S
    refine Ki S (S.tm rfl) (S.tm rfl) (i:=0) (off:=0) rfl sizeOf54 (vs:=(Ed.enc (nth Aq y2))) rfl rfl rfl rfl ?_;clear S;intro w56 hk51 S
    refine Ld ?_
    replace S:=(S.nl [.blk b19 (Ed.enc (nth Aq y2)) 54,.own v49 3 1 x9.length (x9.flatMap eInt),.blk Ai [Ac,iV Ad,Aa,iV Ah,Ap,iV As,iV Ax,bV Ay] 86,.own Ap 3 1 Av.length (Av.flatMap eInt),.own Ak 3 1 Am.length (Am.flatMap eInt)] [true,true,true,true,true] rfl).k9 0 1 8 9 12 13 54 55 56 rfl
    refine Tn (Fs (Fg ?_))
    iterate 3 (refine Vm S rfl rfl ?_;clear S;intro a S)
    obtain ⟨hc6,h⟩:=Hu h
    obtain ⟨b20,hg11,hr20⟩:=Gz (a:=a) (x:=.tmp 67) (y:=.tmp 68) (ty:=0) Ll Gw S (i:=1) rfl (El hc6).1 (El hc6).2 (S.tm rfl) (S.tm rfl)
    refine lv S (hr20 _) rfl ?_;clear S;intro a S
    clear hr20
    refine Mt (c:=0) (j:=y2.toNat) x10 Gw S (S.tm rfl) (S.tm rfl) (i:=1) rfl hg11 (El hc6).1 sizeOf3 (vs:=[iV x10]) rfl rfl rfl rfl rfl ?_;clear S;intro w58 hk53 S
    refine Dl (Fs (Gq [] ([]) Tryz.mixed S rfl (by kernel_rfl) ?_));clear S;intro w60 hk55 hsel S
    refine Ej 0 S hsel rfl rfl rfl (by kernel_rfl) (by kernel_rfl) rfl (fun _ hw=>(Rm (S.tm rfl))) fun a S=>Ej 1 S hsel rfl rfl rfl (by kernel_rfl) (by kernel_rfl) rfl (fun _ hw=>(Hf isAgg54 sizeOf54 (off:=0) (o:=0) (part:=(Ed.enc (nth Aq y2))) rfl rfl (S.tm rfl) ((S.blk_mem (i:=0) (cells:=(Ed.enc (nth Aq y2))) (b:=b19) (T:=54) rfl (Gr (e':=.blk b19 (Ed.enc (nth Aq y2)) 54))).kept hw))) fun a S=>Ej 2 S hsel rfl rfl rfl (by kernel_rfl) (by kernel_rfl) rfl (fun _ hw=>(Fz Rs (S.tm rfl))) fun a S=>Ej 3 S hsel rfl rfl rfl (by kernel_rfl) (by kernel_rfl) rfl (fun _ hw=>(Gt isAgg3 (off:=0) (o:=1) (S.tm rfl) ((S.blk_mem (i:=0) (cells:=(Ed.enc (nth Aq y2))) (b:=b19) (T:=54) rfl (Gr (e':=.blk b19 (Ed.enc (nth Aq y2)) 54))).kept hw) rfl)) fun a S=>Ej 6 S hsel rfl rfl rfl (by kernel_rfl) (by kernel_rfl) rfl (fun _ hw=>(Fz Ua (S.tm rfl))) fun a S=>Ej 7 S hsel rfl rfl rfl (by kernel_rfl) (by kernel_rfl) rfl (fun _ hw=>(Gt isAgg3 (off:=0) (o:=2) (S.tm rfl) ((S.blk_mem (i:=0) (cells:=(Ed.enc (nth Aq y2))) (b:=b19) (T:=54) rfl (Gr (e':=.blk b19 (Ed.enc (nth Aq y2)) 54))).kept hw) rfl)) fun a S=>Ga 4 (by kernel_rfl) rfl (Em S (fun _=>Eg (vs:=[.agg (Ed.enc (nth Aq y2)).toArray,iV ((nth Aq y2).Heats)]) ⟨(S.tm rfl),(S.tm rfl),trivial⟩ call58) (Rd _ (nth Aq y2) ((nth Aq y2).Heats) _ rfl) rfl ?_);clear S;intro v51 a w61 hv26 hk56 hn26 S
    subst hv26
    refine Ld (Gn hk56 (Jn [5,8,9] hsel (by kernel_rfl) rfl ?_))
    clear hsel
    refine Fk S rfl (Gd (S.tm rfl) (S.tm rfl)) rfl fun a S=>Fk S rfl (Gd (S.tm rfl) (S.tm rfl)) rfl fun a S=>Fk S rfl (Ra (S.tm rfl)) rfl fun a S=>Hx ?_
    replace S:=(S.nl [.blk b19 (Ed.enc (nth Aq y2)) 54,.own v49 3 1 (x9.set y2.toNat x10).length ((x9.set y2.toNat x10).flatMap eInt),.blk Ai [Ac,iV Ad,Aa,iV Ah,Ap,iV As,iV Ax,bV Ay] 86,.own Ap 3 1 Av.length (Av.flatMap eInt),.own Ak 3 1 Am.length (Am.flatMap eInt)] [true,true,true,true,true] rfl).k8 0 1 8 10 13 54 55 56 rfl
    refine Tn (Fg (Vm S rfl rfl fun a S=>Vf CH S rfl rfl fun a S=>Vl isAgg3 0 S rfl rfl rfl rfl fun a S=>Vb S Gd rfl rfl rfl fun a S=>Va S rfl rfl fun a S=>Ld (Jc (Tn (Fg ?_)))))
    exact Vq S Gd rfl rfl rfl fun a S=>Vm S rfl rfl fun a S=>Dl (⟨ys2,⟨i2 + 1,(x9.set y2.toNat x10),W ((W ((W (x10 + (Hy (nth Aq y2) ((nth Aq y2).Heats)))) + ((nth Aq y2).Long))) + ((nth Aq y2).Break)),W ((W (x10 + (Hy (nth Aq y2) ((nth Aq y2).Heats)))) + ((nth Aq y2).Long)),v49,⟨_,(hd2).trans (List.append_cons _ _ _),by simp [hi2]⟩,h,S.nf [false,true,true,true,true] rfl ⟨rfl,rfl,rfl,rfl,rfl,rfl,rfl,(congrArg (fun z=>some (Value.int .i64 z)) (Hc hd2 hi2 hm11)),trivial⟩⟩,Nat.lt_succ_self _⟩)
  clear S h;rintro a w54 ⟨x9,x11,v49,h,S⟩;rw [hj3] at h;clear hj3 j3
  refine Tn (Fr (Vm S rfl rfl fun a S=>Vu S Fu rfl rfl fun a S=>Vf CI S rfl rfl fun a S=>Vl isAgg3 1 S rfl rfl rfl rfl fun a S=>Va S rfl rfl fun a S=>Dl (Fs ?_)))
  refine Fr (Vm S rfl rfl fun a S=>Vu S Fu rfl rfl fun a S=>Vf Xi S rfl rfl fun a S=>Vl isAgg84 1 S rfl rfl rfl rfl fun a S=>lv S (Fy DN (S.tm rfl) (Tb Bn Bo)) rfl fun a S=>lv S (Rm rfl) rfl fun a S=>Ld ?_)
  replace S:=S.k8 0 1 8 10 14 92 93 94 rfl
  refine Tn ?_
  obtain ⟨j4,hj4,h⟩:=Ge h
  refine Ft (fun a w'=>∃ x12 : Int,j4 x12 = some r ∧ Sx w X nov [.own v49 3 1 x9.length (x9.flatMap eInt),.blk Ai [Ac,iV Ad,Aa,iV Ah,Ap,iV As,iV Ax,bV Ay] 86,.own Ap 3 1 Av.length (Av.flatMap eInt),.own Ak 3 1 Am.length (Am.flatMap eInt)] [(0,.pointer (some ⟨Ai,0,none⟩)),(1,Ak),(10,iV x11),(14,iV x12)] 208 a w') ?_ ?_
  ·refine wp_block (Hh (fun (ys3 : List (List Ei)) a w'=>∃ i3 : Nat,∃ x12 : Int,(∃ dn,Bk = dn ++ ys3 ∧ dn.length = i3) ∧ Lc x9 Aq Ah Am j4 ys3 i3 x12 = some r ∧ Sx w X nov [.own v49 3 1 x9.length (x9.flatMap eInt),.blk Ai [Ac,iV Ad,Aa,iV Ah,Ap,iV As,iV Ax,bV Ay] 86,.own Ap 3 1 Av.length (Av.flatMap eInt),.own Ak 3 1 Am.length (Am.flatMap eInt)] [(0,.pointer (some ⟨Ai,0,none⟩)),(1,Ak),(8,v49),(10,iV x11),(14,iV x12),(92,Aa),(93,iV (Bk.length : Int)),(94,iV (i3 : Int))] 208 a w') List.length Bk ⟨0,Ad,⟨[],rfl,rfl⟩,h,S.nf [true,true,true,true] rfl (subR rfl)⟩ ?_)
   clear S h;rintro ys3 a w62 ⟨i3,x12,⟨dn,hd3,hi3⟩,h,S⟩
   cases ys3 with
   | nil =>
    rw [Lc.eq_1] at h
    refine Fr (Vb S Fm rfl rfl rfl fun a S=>Ld ?_)
    replace S:=S.k9 0 1 8 10 14 92 93 94 95 rfl
    exact Tn (Fs (wp_cond_false ((S.tm rfl).trans (congrArg Value.bool (Ih hd3 hi3))) (wp_exit (Fj (Fj (He (Tn (⟨x12,h,S.nf [true,true,true,true] rfl (subR rfl)⟩))))))))
   | cons y3 ys3 =>
    rw [Lc.eq_2] at h
    refine Fr (Vb S Fm rfl rfl rfl fun a S=>Ld ?_)
    replace S:=S.k9 0 1 8 10 14 92 93 94 95 rfl
    refine Tn (Fs (wp_cond_true ((S.tm rfl).trans (congrArg Value.bool (Hb hd3 hi3))) (wp_skip (Tn (Fs (wp_block (Fs (Fg ?_))))))))
    obtain ⟨r4,hg12,hl12⟩:=Iz.at Bo (Ig hd3 hi3)
    have hs14:=hl12
    obtain ⟨b21,o5,hm15,hr21⟩:=Ff (a:=a) (x:=.tmp 92) (y:=.tmp 94) (ty:=0) DN Bn hg12 rfl (S.tm rfl) (S.tm rfl)
    refine lv S (hr21 _) rfl ?_;clear S;intro a S
    clear hr21
    refine lv S (Gt isAgg117 (off:=o5) (o:=0) (S.tm rfl) (hm15.at S.emb0) rfl) rfl fun a S=>Va S rfl rfl fun a S=>Dz (Vk S rfl rfl fun a S=>Dl (Fs (Fg ?_)))
    refine Vm S rfl rfl fun a S=>lv S (Fy Ll (S.tm rfl) (Nc (S.own_at (i:=3) rfl))) rfl fun a S=>lv S (Rm rfl) rfl fun a S=>Ld ?_
    replace S:=S.k13 0 1 8 10 14 16 17 92 93 94 98 99 100 rfl
    refine Tn ?_
    have hm16:=Tr (S.own_at (i:=3) rfl)
    obtain ⟨j5,hj5,h⟩:=Ge h
    refine Ft (fun a w'=>∃ x13 : Int,j5 x13 = some r ∧ Sx w X nov [.own v49 3 1 x9.length (x9.flatMap eInt),.blk Ai [Ac,iV Ad,Aa,iV Ah,Ap,iV As,iV Ax,bV Ay] 86,.own Ap 3 1 Av.length (Av.flatMap eInt),.own Ak 3 1 Am.length (Am.flatMap eInt)] [(0,.pointer (some ⟨Ai,0,none⟩)),(1,Ak),(8,v49),(10,iV x11),(14,iV x13),(92,Aa),(93,iV (Bk.length : Int)),(94,iV (i3 : Int))] 208 a w') ?_ ?_
    ·refine wp_block (Hh (fun (ys4 : List Int) a w'=>∃ i4 : Nat,∃ x13 : Int,∃ x14 : Int,(∃ dn,Am = dn ++ ys4 ∧ dn.length = i4) ∧ Lb y3 x9 Aq Ah j5 ys4 i4 x13 x14 = some r ∧ Sx w X nov [.own v49 3 1 x9.length (x9.flatMap eInt),.blk Ai [Ac,iV Ad,Aa,iV Ah,Ap,iV As,iV Ax,bV Ay] 86,.own Ap 3 1 Av.length (Av.flatMap eInt),.own Ak 3 1 Am.length (Am.flatMap eInt)] [(0,.pointer (some ⟨Ai,0,none⟩)),(1,Ak),(8,v49),(10,iV x11),(14,iV x13),(16,r4.val),(17,iV x14),(92,Aa),(93,iV (Bk.length : Int)),(94,iV (i3 : Int)),(98,Ak),(99,iV (Am.length : Int)),(100,iV (i4 : Int))] 208 a w') List.length Am ⟨0,x12,(-1),⟨[],rfl,rfl⟩,h,S.nf [true,true,true,true] rfl (subR rfl)⟩ ?_)
     clear S h;rintro ys4 a w64 ⟨i4,x13,x14,⟨dn,hd4,hi4⟩,h,S⟩
     cases ys4 with
     | nil =>
      rw [Lb.eq_1] at h
      refine Fr (Vb S Fm rfl rfl rfl fun a S=>Ld ?_)
      replace S:=S.k14 0 1 8 10 14 16 17 92 93 94 98 99 100 101 rfl
      exact Tn (Fs (wp_cond_false ((S.tm rfl).trans (congrArg Value.bool (Ih hd4 hi4))) (wp_exit (Fj (Fj (He (Tn (⟨x13,h,S.nf [true,true,true,true] rfl (subR rfl)⟩))))))))
     | cons y4 ys4 =>
      rw [Lb.eq_2] at h
      refine Fr (Vb S Fm rfl rfl rfl fun a S=>Ld ?_)
      replace S:=S.k14 0 1 8 10 14 16 17 92 93 94 98 99 100 101 rfl
      refine Tn (Fs (wp_cond_true ((S.tm rfl).trans (congrArg Value.bool (Hb hd4 hi4))) (wp_skip (Tn (Fs ?_)))))
      obtain ⟨j6,hj6,h⟩:=Ge h
      refine Ft (fun a w'=>∃ x15 : Int,∃ x16 : Int,j6 x15 x16 = some r ∧ Sx w X nov [.own v49 3 1 x9.length (x9.flatMap eInt),.blk Ai [Ac,iV Ad,Aa,iV Ah,Ap,iV As,iV Ax,bV Ay] 86,.own Ap 3 1 Av.length (Av.flatMap eInt),.own Ak 3 1 Am.length (Am.flatMap eInt)] [(0,.pointer (some ⟨Ai,0,none⟩)),(1,Ak),(8,v49),(10,iV x11),(14,iV x15),(16,r4.val),(17,iV x16),(92,Aa),(93,iV (Bk.length : Int)),(94,iV (i3 : Int)),(98,Ak),(99,iV (Am.length : Int)),(100,iV (i4 : Int))] 208 a w') ?_ ?_
      ·refine wp_block (Fs (Fg ?_))
       obtain ⟨b22,hg13,hr22⟩:=Gz (a:=a) (x:=.tmp 98) (y:=.tmp 100) (ty:=0) Ll Gw S (i:=3) rfl (Ig hd4 hi4) rfl (S.tm rfl) (S.tm rfl)
       refine lv S (hr22 _) rfl ?_;clear S;intro a S
       clear hr22
       refine lv S (Gt isAgg3 (off:=i4 * 1) (o:=0) (S.tm rfl) (Nb Gw S (i:=3) rfl hg13 (Ig hd4 hi4)) rfl) rfl fun a S=>Va S rfl rfl fun a S=>Ld ?_
       replace S:=S.k14 0 1 8 10 14 16 17 19 92 93 94 98 99 100 rfl
       refine Tn (Fs (Fr (Vm S rfl rfl fun a S=>Vm S rfl rfl ?_)));clear S;intro a S
       obtain ⟨hc7,h⟩:=Hu h
       obtain ⟨b23,o7,hm18,hr23⟩:=Ff (a:=a) (x:=.tmp 104) (y:=.tmp 105) (ty:=0) Zv hs14 (El hc7).1 (El hc7).2 (S.tm rfl) (S.tm rfl)
       refine lv S (hr23 _) rfl ?_;clear S;intro a S
       clear hr23
       refine Vf Tc S rfl rfl fun a S=>lv S (Gt isAgg3 (off:=o7) (o:=1) (S.tm rfl) (hm18.at S.emb0) rfl) rfl fun a S=>Vq S Mc rfl rfl rfl fun a S=>Ld ?_
       replace S:=S.k15 0 1 8 10 14 16 17 19 92 93 94 98 99 100 109 rfl
       refine Tn (Fc h (S.tm rfl) (fun hb2 h=>?_) (fun hb2 h=>?_))
       ·exact wp_exit (Fj (He (Tn (⟨x13,x14,h,S.nf [true,true,true,true] rfl (subR rfl)⟩))))
       ·refine wp_skip (Tn (Fs (Fs ?_)))
        obtain ⟨hc8,h⟩:=Hu h
        obtain ⟨hc9,h⟩:=Hu h
        obtain ⟨hc10,h⟩:=Hu h
        refine Gq [] ([]) Tryz.mixed S rfl (by kernel_rfl) ?_;clear S;intro w68 hk58 hsel S
        refine Ej 0 S hsel rfl rfl rfl (by kernel_rfl) (by kernel_rfl) rfl (fun _ hw=>(Rm (S.tm rfl))) fun a S=>Ej 1 S hsel rfl rfl rfl (by kernel_rfl) (by kernel_rfl) rfl (fun _ hw=>(Rm (S.tm rfl))) ?_;clear S;intro a S
        obtain ⟨b27,hg15,hr27⟩:=Gz (a:=a) (x:=.tmp 110) (y:=.tmp 111) (ty:=0) Ll Gw S (i:=0) rfl (El hc8).1 (El hc8).2 (S.tm rfl) (S.tm rfl)
        refine Ej 2 S hsel rfl rfl rfl (by kernel_rfl) (by kernel_rfl) rfl (fun _ hw=>(hr27 _)) ?_;clear S;intro a S
        clear hr27
        refine Ej 3 S hsel rfl rfl rfl (by kernel_rfl) (by kernel_rfl) rfl (fun _ hw=>(Gt isAgg3 (off:=y4.toNat * 1) (o:=0) (S.tm rfl) ((Pb Gw S (i:=0) rfl hg15 (El hc8).1 (Gr (e':=.own v49 3 1 x9.length (x9.flatMap eInt)))).kept hw) rfl)) fun a S=>Ej 4 S hsel rfl rfl rfl (by kernel_rfl) (by kernel_rfl) rfl (fun _ hw=>(Rm (S.tm rfl))) fun a S=>Ej 5 S hsel rfl rfl rfl (by kernel_rfl) (by kernel_rfl) rfl (fun _ hw=>(Fu (S.tm rfl))) fun a S=>Ej 6 S hsel rfl rfl rfl (by kernel_rfl) (by kernel_rfl) rfl (fun _ hw=>(Fz Xh (S.tm rfl))) fun a S=>Ej 7 S hsel rfl rfl rfl (by kernel_rfl) (by kernel_rfl) rfl (fun _ hw=>(Gt isAgg26 (off:=0) (o:=0) (S.tm rfl) ((S.blk_mem (i:=1) (cells:=[Ac,iV Ad,Aa,iV Ah,Ap,iV As,iV Ax,bV Ay]) (b:=Ai) (T:=86) rfl (Gr (e':=.blk Ai [Ac,iV Ad,Aa,iV Ah,Ap,iV As,iV Ax,bV Ay] 86))).kept hw) rfl)) fun a S=>Ej 8 S hsel rfl rfl rfl (by kernel_rfl) (by kernel_rfl) rfl (fun _ hw=>(Rm (S.tm rfl))) ?_;clear S;intro a S
        obtain ⟨b28,o12,hm23,hr28⟩:=Ff (a:=a) (x:=.tmp 117) (y:=.tmp 118) (ty:=0) Jp (Bm.mono (S.le_arg Fh)) (El hc9).1 (El hc9).2 (S.tm rfl) (S.tm rfl)
        refine Ej 9 S hsel rfl rfl rfl (by kernel_rfl) (by kernel_rfl) rfl (fun _ hw=>hr28 _) ?_;clear S;intro a S
        clear hr28
        refine Ej 10 S hsel rfl rfl rfl (by kernel_rfl) (by kernel_rfl) rfl (fun _ hw=>(Hf isAgg54 sizeOf54 (off:=o12) (o:=0) (part:=(Ed.enc (nth Aq y4))) rfl rfl (S.tm rfl) (hm23.kept hw))) fun a S=>Ej 11 S hsel rfl rfl rfl (by kernel_rfl) (by kernel_rfl) rfl (fun _ hw=>(Rm (S.tm rfl))) fun a S=>Ej 12 S hsel rfl rfl rfl (by kernel_rfl) (by kernel_rfl) rfl (fun _ hw=>(Rm (S.tm rfl))) ?_;clear S;intro a S
        obtain ⟨b29,o13,hm24,hr29⟩:=Ff (a:=a) (x:=.tmp 121) (y:=.tmp 122) (ty:=0) Zv (hs14.mono (S.le_arg Fh)) (El hc10).1 (El hc10).2 (S.tm rfl) (S.tm rfl)
        refine Ej 13 S hsel rfl rfl rfl (by kernel_rfl) (by kernel_rfl) rfl (fun _ hw=>hr29 _) ?_;clear S;intro a S
        clear hr29
        refine Ej 14 S hsel rfl rfl rfl (by kernel_rfl) (by kernel_rfl) rfl (fun _ hw=>(Fz DT (S.tm rfl))) fun a S=>Ej 15 S hsel rfl rfl rfl (by kernel_rfl) (by kernel_rfl) rfl (fun _ hw=>(Gt isAgg3 (off:=o13) (o:=0) (S.tm rfl) (hm24.kept hw) rfl)) fun a S=>Ga 16 (by kernel_rfl) rfl (Em S (fun _=>Eg (vs:=[.agg (Ed.enc (nth Aq y4)).toArray,iV ((nth y3 y4).first_)]) ⟨(S.tm rfl),(S.tm rfl),trivial⟩ call58) (Rd _ (nth Aq y4) ((nth y3 y4).first_) _ rfl) rfl ?_);clear S;intro v53 a w69 hv28 hk59 hn28 S
        subst hv28
        refine Ld (Gn hk59 (Jn [17,18] hsel (by kernel_rfl) rfl ?_))
        clear hsel
        refine Fk S rfl (Gd (S.tm rfl) (S.tm rfl)) rfl fun a S=>Fk S rfl (Ra (S.tm rfl)) rfl fun a S=>Hx ?_
        replace S:=S.k15 0 1 8 10 14 16 17 19 20 92 93 94 98 99 100 rfl
        refine Tn (Fr (Vm S rfl rfl fun a S=>Vq S Ph rfl rfl rfl fun a S=>Vm S rfl rfl fun a S=>Jy 9 (fun a w'=>Keep [] w69 w' ∧ Sx w X nov [.own v49 3 1 x9.length (x9.flatMap eInt),.blk Ai [Ac,iV Ad,Aa,iV Ah,Ap,iV As,iV Ax,bV Ay] 86,.own Ap 3 1 Av.length (Av.flatMap eInt),.own Ak 3 1 Am.length (Am.flatMap eInt)] [(0,.pointer (some ⟨Ai,0,none⟩)),(1,Ak),(8,v49),(10,iV x11),(14,iV x13),(16,r4.val),(19,iV y4),(92,Aa),(93,iV (Bk.length : Int)),(94,iV (i3 : Int)),(98,Ak),(99,iV (Am.length : Int)),(100,iV (i4 : Int)),(139,bV ((decide (0 ≤ x14)) && (decide ((W ((W ((nth x9 y4) + (Hy (nth Aq y4) ((nth y3 y4).first_)))) - x14)) < Ah))))] 208 a w') ?_ ?_))
        ·rcases Bool.eq_false_or_eq_true (decide (0 ≤ x14)) with hb3 | hb3
         ·refine Er S rfl rfl rfl hb3 (Vm S rfl rfl fun a S=>Er S rfl rfl rfl hb3 (Vm S rfl rfl fun a S=>Er S rfl rfl rfl hb3 (Vb S Iq rfl rfl rfl fun a S=>Er S rfl rfl rfl hb3 (Vm S rfl rfl fun a S=>Er S rfl rfl rfl hb3 (Vu S Fu rfl rfl fun a S=>Er S rfl rfl rfl hb3 ?_)))))
          exact Vf fa_86_3 S rfl rfl fun a S=>Er S rfl rfl rfl hb3 (Vl isAgg3 1 S rfl rfl rfl rfl fun a S=>Er S rfl rfl rfl hb3 (Vb S Fm rfl rfl rfl fun a S=>lv S (Ju hb3 (S.tm rfl) (S.tm rfl)) rfl fun a S=>Dl (⟨Keep.refl _ _,S.nf [true,true,true,true] rfl (subR rfl)⟩)))
         ·iterate 8 (refine Iy S rfl rfl rfl (Lk hb3) rfl ?_ rfl;clear S;intro a S)
          exact lv S (Jv (decide ((W ((W ((nth x9 y4) + (Hy (nth Aq y4) ((nth y3 y4).first_)))) - x14)) < Ah)) hb3 (S.tm rfl) rfl) rfl fun a S=>Dl (⟨Keep.refl _ _,S.nf [true,true,true,true] rfl (subR rfl)⟩)
        clear S;rintro a w70 ⟨hk60,S⟩
        refine Dl ?_
        obtain ⟨j7,hj7,h⟩:=Ge h
        refine Ft (fun a w'=>∃ x17 : Int,j7 x17 = some r ∧ Sx w X nov [.own v49 3 1 x9.length (x9.flatMap eInt),.blk Ai [Ac,iV Ad,Aa,iV Ah,Ap,iV As,iV Ax,bV Ay] 86,.own Ap 3 1 Av.length (Av.flatMap eInt),.own Ak 3 1 Am.length (Am.flatMap eInt)] [(0,.pointer (some ⟨Ai,0,none⟩)),(1,Ak),(8,v49),(10,iV x11),(14,iV x17),(16,r4.val),(19,iV y4),(92,Aa),(93,iV (Bk.length : Int)),(94,iV (i3 : Int)),(98,Ak),(99,iV (Am.length : Int)),(100,iV (i4 : Int))] 208 a w') ?_ ?_
        ·refine Fc h (S.tm rfl) (fun hb4 h=>?_) (fun hb4 h=>?_)
         ·refine Fg (Vm S rfl rfl fun a S=>Vq S Gd rfl rfl rfl fun a S=>Va S rfl rfl fun a S=>Ld ?_)
          replace S:=S.k13 0 1 8 10 14 16 19 92 93 94 98 99 100 rfl
          exact Tn (⟨W (x13 + 1),h,S.nf [true,true,true,true] rfl (subR rfl)⟩)
         ·exact wp_skip (Tn (⟨x13,h,S.nf [true,true,true,true] rfl (subR rfl)⟩))
        clear S h;rintro a w71 ⟨x17,h,S⟩;rw [hj7] at h;clear hj7 j7
        refine Tn ?_
        obtain ⟨hc11,h⟩:=Hu h
        obtain ⟨hc12,h⟩:=Hu h
        obtain ⟨hc13,h⟩:=Hu h
        obtain ⟨hc14,h⟩:=Hu h
        refine Gq [] ([]) Tryz.mixed S rfl (by kernel_rfl) ?_;clear S;intro w73 hk62 hsel S
        refine Ej 0 S hsel rfl rfl rfl (by kernel_rfl) (by kernel_rfl) rfl (fun _ hw=>(Rm (S.tm rfl))) fun a S=>Ej 1 S hsel rfl rfl rfl (by kernel_rfl) (by kernel_rfl) rfl (fun _ hw=>(Rm (S.tm rfl))) ?_;clear S;intro a S
        obtain ⟨b34,hg17,hr34⟩:=Gz (a:=a) (x:=.tmp 142) (y:=.tmp 143) (ty:=0) Ll Gw S (i:=0) rfl (El hc11).1 (El hc11).2 (S.tm rfl) (S.tm rfl)
        refine Ej 2 S hsel rfl rfl rfl (by kernel_rfl) (by kernel_rfl) rfl (fun _ hw=>(hr34 _)) ?_;clear S;intro a S
        clear hr34
        refine Ej 3 S hsel rfl rfl rfl (by kernel_rfl) (by kernel_rfl) rfl (fun _ hw=>(Gt isAgg3 (off:=y4.toNat * 1) (o:=0) (S.tm rfl) ((Pb Gw S (i:=0) rfl hg17 (El hc11).1 (Gr (e':=.own v49 3 1 x9.length (x9.flatMap eInt)))).kept hw) rfl)) fun a S=>Ej 4 S hsel rfl rfl rfl (by kernel_rfl) (by kernel_rfl) rfl (fun _ hw=>(Rm (S.tm rfl))) fun a S=>Ej 5 S hsel rfl rfl rfl (by kernel_rfl) (by kernel_rfl) rfl (fun _ hw=>(Fu (S.tm rfl))) fun a S=>Ej 6 S hsel rfl rfl rfl (by kernel_rfl) (by kernel_rfl) rfl (fun _ hw=>(Fz Xh (S.tm rfl))) fun a S=>Ej 7 S hsel rfl rfl rfl (by kernel_rfl) (by kernel_rfl) rfl (fun _ hw=>(Gt isAgg26 (off:=0) (o:=0) (S.tm rfl) ((S.blk_mem (i:=1) (cells:=[Ac,iV Ad,Aa,iV Ah,Ap,iV As,iV Ax,bV Ay]) (b:=Ai) (T:=86) rfl (Gr (e':=.blk Ai [Ac,iV Ad,Aa,iV Ah,Ap,iV As,iV Ax,bV Ay] 86))).kept hw) rfl)) fun a S=>Ej 8 S hsel rfl rfl rfl (by kernel_rfl) (by kernel_rfl) rfl (fun _ hw=>(Rm (S.tm rfl))) ?_;clear S;intro a S
        obtain ⟨b35,o19,hm30,hr35⟩:=Ff (a:=a) (x:=.tmp 149) (y:=.tmp 150) (ty:=0) Jp (Bm.mono (S.le_arg Fh)) (El hc12).1 (El hc12).2 (S.tm rfl) (S.tm rfl)
        refine Ej 9 S hsel rfl rfl rfl (by kernel_rfl) (by kernel_rfl) rfl (fun _ hw=>hr35 _) ?_;clear S;intro a S
        clear hr35
        refine Ej 10 S hsel rfl rfl rfl (by kernel_rfl) (by kernel_rfl) rfl (fun _ hw=>(Hf isAgg54 sizeOf54 (off:=o19) (o:=0) (part:=(Ed.enc (nth Aq y4))) rfl rfl (S.tm rfl) (hm30.kept hw))) fun a S=>Ej 11 S hsel rfl rfl rfl (by kernel_rfl) (by kernel_rfl) rfl (fun _ hw=>(Rm (S.tm rfl))) fun a S=>Ej 12 S hsel rfl rfl rfl (by kernel_rfl) (by kernel_rfl) rfl (fun _ hw=>(Rm (S.tm rfl))) ?_;clear S;intro a S
        obtain ⟨b36,o20,hm31,hr36⟩:=Ff (a:=a) (x:=.tmp 153) (y:=.tmp 154) (ty:=0) Zv (hs14.mono (S.le_arg Fh)) (El hc13).1 (El hc13).2 (S.tm rfl) (S.tm rfl)
        refine Ej 13 S hsel rfl rfl rfl (by kernel_rfl) (by kernel_rfl) rfl (fun _ hw=>hr36 _) ?_;clear S;intro a S
        clear hr36
        refine Ej 14 S hsel rfl rfl rfl (by kernel_rfl) (by kernel_rfl) rfl (fun _ hw=>(Fz Tc (S.tm rfl))) fun a S=>Ej 15 S hsel rfl rfl rfl (by kernel_rfl) (by kernel_rfl) rfl (fun _ hw=>(Gt isAgg3 (off:=o20) (o:=1) (S.tm rfl) (hm31.kept hw) rfl)) fun a S=>Ej 18 S hsel rfl rfl rfl (by kernel_rfl) (by kernel_rfl) rfl (fun _ hw=>(Rm (S.tm rfl))) fun a S=>Ej 19 S hsel rfl rfl rfl (by kernel_rfl) (by kernel_rfl) rfl (fun _ hw=>(Fu (S.tm rfl))) fun a S=>Ej 20 S hsel rfl rfl rfl (by kernel_rfl) (by kernel_rfl) rfl (fun _ hw=>(Fz Xh (S.tm rfl))) fun a S=>Ej 21 S hsel rfl rfl rfl (by kernel_rfl) (by kernel_rfl) rfl (fun _ hw=>(Gt isAgg26 (off:=0) (o:=0) (S.tm rfl) ((S.blk_mem (i:=1) (cells:=[Ac,iV Ad,Aa,iV Ah,Ap,iV As,iV Ax,bV Ay]) (b:=Ai) (T:=86) rfl (Gr (e':=.blk Ai [Ac,iV Ad,Aa,iV Ah,Ap,iV As,iV Ax,bV Ay] 86))).kept hw) rfl)) fun a S=>Ej 22 S hsel rfl rfl rfl (by kernel_rfl) (by kernel_rfl) rfl (fun _ hw=>(Rm (S.tm rfl))) ?_;clear S;intro a S
        obtain ⟨b37,o21,hm32,hr37⟩:=Ff (a:=a) (x:=.tmp 163) (y:=.tmp 164) (ty:=0) Jp (Bm.mono (S.le_arg Fh)) (El hc14).1 (El hc14).2 (S.tm rfl) (S.tm rfl)
        refine Ej 23 S hsel rfl rfl rfl (by kernel_rfl) (by kernel_rfl) rfl (fun _ hw=>hr37 _) ?_;clear S;intro a S
        clear hr37
        refine Ej 24 S hsel rfl rfl rfl (by kernel_rfl) (by kernel_rfl) rfl (fun _ hw=>(Fz Ua (S.tm rfl))) fun a S=>Ej 25 S hsel rfl rfl rfl (by kernel_rfl) (by kernel_rfl) rfl (fun _ hw=>(Gt isAgg3 (off:=o21) (o:=2) (S.tm rfl) (hm32.kept hw) rfl)) fun a S=>Ga 16 (by kernel_rfl) rfl (Em S (fun _=>Eg (vs:=[.agg (Ed.enc (nth Aq y4)).toArray,iV ((nth y3 y4).last_)]) ⟨(S.tm rfl),(S.tm rfl),trivial⟩ call58) (Rd _ (nth Aq y4) ((nth y3 y4).last_) _ rfl) rfl ?_);clear S;intro v55 a w74 hv30 hk63 hn30 S
        subst hv30
        refine Ld (Gn hk63 (Jn [17,26,27] hsel (by kernel_rfl) rfl ?_))
        clear hsel
        refine Fk S rfl (Gd (S.tm rfl) (S.tm rfl)) rfl fun a S=>Fk S rfl (Gd (S.tm rfl) (S.tm rfl)) rfl fun a S=>Fk S rfl (Ra (S.tm rfl)) rfl fun a S=>Hx ?_
        replace S:=S.k13 0 1 8 10 14 16 17 92 93 94 98 99 100 rfl
        exact Jc (Tn (⟨x17,W ((W ((nth x9 y4) + (Hy (nth Aq y4) ((nth y3 y4).last_)))) + ((nth Aq y4).Long)),h,S.nf [true,true,true,true] rfl (subR rfl)⟩))
      clear S h;rintro a w66 ⟨x15,x16,h,S⟩;rw [hj6] at h;clear hj6 j6
      exact Tn (Fg (Vq S Gd rfl rfl rfl fun a S=>Vm S rfl rfl fun a S=>Dl (⟨ys4,⟨i4 + 1,x15,x16,⟨_,(hd4).trans (List.append_cons _ _ _),by simp [hi4]⟩,h,S.nf [true,true,true,true] rfl ⟨rfl,rfl,rfl,rfl,rfl,rfl,rfl,rfl,rfl,rfl,rfl,rfl,(congrArg (fun z=>some (Value.int .i64 z)) (Hc hd4 hi4 hm16)),trivial⟩⟩,Nat.lt_succ_self _⟩)))
    clear S h;rintro a w65 ⟨x13,h,S⟩;rw [hj5] at h;clear hj5 j5
    exact Jc (Tn (Fg (Vq S Gd rfl rfl rfl fun a S=>Vm S rfl rfl fun a S=>Dl (⟨ys3,⟨i3 + 1,x13,⟨_,(hd3).trans (List.append_cons _ _ _),by simp [hi3]⟩,h,S.nf [true,true,true,true] rfl ⟨rfl,rfl,rfl,rfl,rfl,rfl,rfl,(congrArg (fun z=>some (Value.int .i64 z)) (Hc hd3 hi3 (Um Bn Bo))),trivial⟩⟩,Nat.lt_succ_self _⟩))))
  clear S h;rintro a w63 ⟨x12,h,S⟩;rw [hj4] at h;clear hj4 j4
  refine Tn (Fs ?_)
  obtain ⟨j8,hj8,h⟩:=Ge h
  refine Ft (fun a w'=>∃ x18 : Bool,j8 x18 = some r ∧ Sx w X nov [.blk Ai [Ac,iV Ad,Aa,iV Ah,Ap,iV As,iV Ax,bV Ay] 86,.own Ap 3 1 Av.length (Av.flatMap eInt),.own Ak 3 1 Am.length (Am.flatMap eInt)] [(0,.pointer (some ⟨Ai,0,none⟩)),(1,Ak),(10,iV x11),(14,iV x12),(192,bV x18)] 208 a w') ?_ ?_
  ·rcases Bool.eq_false_or_eq_true (!Ay) with hb5 | hb5
   ·replace h:=Py h hb5
    refine Gq [] ([]) Tryz.mixed S rfl (by kernel_rfl) ?_;clear S;intro w76 hk64 hsel S
    refine Jn [0,1,2,3,4,5,6,7,8,9,10,11,12,13,14,15,16,17,18,19,20,21] hsel (by kernel_rfl) rfl ?_
    clear hsel
    refine Fk S rfl (Rm (S.tm rfl)) rfl fun a S=>Fk S rfl (Fu (S.tm rfl)) rfl fun a S=>Fk S rfl (Fz CK (S.tm rfl)) rfl fun a S=>Fk S rfl (Lj isAgg4 (S.tm rfl) (S.cell (i:=1) rfl rfl)) rfl fun a S=>Fk S rfl (Jd (S.tm rfl)) rfl fun a S=>Fk S rfl (Rm (S.tm rfl)) rfl ?_;clear S;intro a S
    iterate 15 (refine Pv S rfl rfl rfl rfl (Nu hb5) rfl ?_ rfl;clear S;intro a S)
    refine Fk S rfl (Mz hb5 (S.tm rfl) rfl) rfl fun a S=>Hx ?_
    replace S:=S.d0.k5 0 1 10 14 192 rfl
    exact Tn (⟨true,h,S.nf [true,true,true] rfl (subR rfl)⟩)
   ·replace h:=Pz h hb5
    refine Gq [] ([]) Tryz.mixed S rfl (by kernel_rfl) ?_;clear S;intro w81 hk69 hsel S
    refine Ej 0 S hsel rfl rfl rfl (by kernel_rfl) (by kernel_rfl) rfl (fun _ hw=>(Rm (S.tm rfl))) fun a S=>Ej 1 S hsel rfl rfl rfl (by kernel_rfl) (by kernel_rfl) rfl (fun _ hw=>(Fu (S.tm rfl))) fun a S=>Ej 2 S hsel rfl rfl rfl (by kernel_rfl) (by kernel_rfl) rfl (fun _ hw=>(Fz CK (S.tm rfl))) fun a S=>Ej 3 S hsel rfl rfl rfl (by kernel_rfl) (by kernel_rfl) rfl (fun _ hw=>(Gt isAgg4 (off:=0) (o:=7) (S.tm rfl) ((S.blk_mem (i:=1) (cells:=[Ac,iV Ad,Aa,iV Ah,Ap,iV As,iV Ax,bV Ay]) (b:=Ai) (T:=86) rfl (Gr (e':=.blk Ai [Ac,iV Ad,Aa,iV Ah,Ap,iV As,iV Ax,bV Ay] 86))).kept hw) rfl)) fun a S=>Ej 4 S hsel rfl rfl rfl (by kernel_rfl) (by kernel_rfl) rfl (fun _ hw=>(Jd (S.tm rfl))) fun a S=>Ej 5 S hsel rfl rfl rfl (by kernel_rfl) (by kernel_rfl) rfl (fun _ hw=>(Rm (S.tm rfl))) fun a S=>Fb 6 S hsel rfl rfl rfl rfl hb5 rfl rfl (by kernel_rfl) (by kernel_rfl) rfl (fun _ hw=>(Rm (S.tm rfl))) fun a S=>Fb 7 S hsel rfl rfl rfl rfl hb5 rfl rfl (by kernel_rfl) (by kernel_rfl) rfl (fun _ hw=>(Rm (S.tm rfl))) fun a S=>Fb 8 S hsel rfl rfl rfl rfl hb5 rfl rfl (by kernel_rfl) (by kernel_rfl) rfl (fun _ hw=>(Fu (S.tm rfl))) fun a S=>Fb 9 S hsel rfl rfl rfl rfl hb5 rfl rfl (by kernel_rfl) (by kernel_rfl) rfl (fun _ hw=>(Fz CJ (S.tm rfl))) fun a S=>Fb 10 S hsel rfl rfl rfl rfl hb5 rfl rfl (by kernel_rfl) (by kernel_rfl) rfl (fun _ hw=>(Gt isAgg3 (off:=0) (o:=5) (S.tm rfl) ((S.blk_mem (i:=1) (cells:=[Ac,iV Ad,Aa,iV Ah,Ap,iV As,iV Ax,bV Ay]) (b:=Ai) (T:=86) rfl (Gr (e':=.blk Ai [Ac,iV Ad,Aa,iV Ah,Ap,iV As,iV Ax,bV Ay] 86))).kept hw) rfl)) ?_;clear S;intro a S
    refine Fb 12 S hsel rfl rfl rfl rfl hb5 rfl rfl (by kernel_rfl) (by kernel_rfl) rfl (fun _ hw=>(Rm (S.tm rfl))) fun a S=>Fb 13 S hsel rfl rfl rfl rfl hb5 rfl rfl (by kernel_rfl) (by kernel_rfl) rfl (fun _ hw=>(Rm (S.tm rfl))) fun a S=>Fb 14 S hsel rfl rfl rfl rfl hb5 rfl rfl (by kernel_rfl) (by kernel_rfl) rfl (fun _ hw=>(Fu (S.tm rfl))) fun a S=>Fb 15 S hsel rfl rfl rfl rfl hb5 rfl rfl (by kernel_rfl) (by kernel_rfl) rfl (fun _ hw=>(Fz FL (S.tm rfl))) fun a S=>Fb 16 S hsel rfl rfl rfl rfl hb5 rfl rfl (by kernel_rfl) (by kernel_rfl) rfl (fun _ hw=>(Gt isAgg3 (off:=0) (o:=6) (S.tm rfl) ((S.blk_mem (i:=1) (cells:=[Ac,iV Ad,Aa,iV Ah,Ap,iV As,iV Ax,bV Ay]) (b:=Ai) (T:=86) rfl (Gr (e':=.blk Ai [Ac,iV Ad,Aa,iV Ah,Ap,iV As,iV Ax,bV Ay] 86))).kept hw) rfl)) fun a S=>Ga 11 (by kernel_rfl) rfl (Er S rfl rfl rfl hb5 (Em S (fun _=>Eg (vs:=[iV x12,iV As]) ⟨(S.tm rfl),(S.tm rfl),trivial⟩ call60) (Ol _ x12 As _ rfl) rfl ?_));clear S;intro v59 a w82 hv34 hk70 hn34 S
    subst hv34
    refine Ld (Gn hk70 (Ga 17 (by kernel_rfl) rfl (Er S rfl rfl rfl hb5 (Em S (fun _=>Eg (vs:=[iV x11,iV Ax]) ⟨(S.tm rfl),(S.tm rfl),trivial⟩ call60) (Ol _ x11 Ax _ rfl) rfl ?_))));clear S;intro v60 a w83 hv35 hk71 hn35 S
    subst hv35
    refine Ld (Gn hk71 (Ga 18 (by kernel_rfl) rfl (Er S rfl rfl rfl hb5 (Fo S underlying22 sizeOf3 zeroValue3 rfl rfl (pv:=[(0,iV (Gg x12 As)),(1,iV (Gg x11 Ax))]) ⟨rfl,(S.tm rfl),rfl,(S.tm rfl),trivial⟩ (cs:=[iV (Gg x12 As),iV (Gg x11 Ax)]) (by kernel_rfl) rfl ?_))));clear S;intro a w84 b39 hz33 hk72 S
    refine Ld (Gn hk72 (Ga 19 (by kernel_rfl) rfl (Er S rfl rfl rfl hb5 (Em S (fun _=>Eg (vs:=[.slice (some ⟨b39,0,none⟩) 2 2]) ⟨(S.tm rfl),trivial⟩ call59) (Wj _ (.slice (some ⟨b39,0,none⟩) 2 2) [(Gg x12 As),(Gg x11 Ax)] (Ou Gw S (i:=0) rfl rfl rfl rfl ((Gr (e':=.blk b39 [iV (Gg x12 As),iV (Gg x11 Ax)] 3)) _ rfl)) _ rfl) rfl ?_))));clear S;intro v61 a w85 hv36 hk73 hn36 S
    subst hv36
    refine Ld (Gn hk73 (Jn [20,21] hsel (by kernel_rfl) rfl ?_))
    clear hsel
    refine Gx S rfl rfl rfl rfl hb5 (Io S (Fm (S.tm rfl) rfl) rfl fun a S=>Fk S rfl (Na hb5 (S.tm rfl) (S.tm rfl)) rfl fun a S=>Hx ?_)
    replace S:=(S.nl [.blk Ai [Ac,iV Ad,Aa,iV Ah,Ap,iV As,iV Ax,bV Ay] 86,.own Ap 3 1 Av.length (Av.flatMap eInt),.own Ak 3 1 Am.length (Am.flatMap eInt)] [false,false,true,true,true] rfl).k5 0 1 10 14 192 rfl
    exact Tn (⟨decide ((Nm [(Gg x12 As),(Gg x11 Ax)]) < 0),h,S.nf [true,true,true] rfl (subR rfl)⟩)
  clear S h;rintro a w75 ⟨x18,h,S⟩;rw [hj8] at h;clear hj8 j8
  refine Tn ?_
  obtain ⟨j9,hj9,h⟩:=Ge h
  refine Ft (fun a w'=>∃ x19 : Int,∃ x20 : Int,∃ x21 : Bool,∃ x22 : List Int,∃ v62 : Value,j9 x19 x20 x21 x22 = some r ∧ Sx w X nov [.blk Ai [Ac,iV Ad,Aa,iV Ah,v62,iV x19,iV x20,bV x21] 86,.own v62 3 1 x22.length (x22.flatMap eInt)] [] 208 a w') ?_ ?_
  ·refine Fc h (S.tm rfl) (fun hb6 h=>?_) (fun hb6 h=>?_)
   ·refine Fg ?_
    iterate 7 (refine Vm S rfl rfl ?_;clear S;intro a S)
    refine Vu S Fu rfl rfl fun a S=>Vf FK S rfl rfl fun a S=>Ki S (S.tm rfl) (S.tm rfl) (i:=0) (off:=4) rfl sizeOf22 (vs:=[Ak]) (Eo.cells (Nc (S.own_at (i:=2) rfl))) rfl rfl (Ys (Eo.one (Nc (S.own_at (i:=2) rfl))) rfl) ?_;clear S;intro w87 hk74 S
    refine Vu S Fu rfl rfl fun a S=>Vf CJ S rfl rfl fun a S=>Ki S (S.tm rfl) (S.tm rfl) (i:=0) (off:=5) rfl sizeOf3 (vs:=[iV x12]) rfl rfl rfl rfl ?_;clear S;intro w88 hk75 S
    refine Vu S Fu rfl rfl fun a S=>Vf FL S rfl rfl fun a S=>Ki S (S.tm rfl) (S.tm rfl) (i:=0) (off:=6) rfl sizeOf3 (vs:=[iV x11]) rfl rfl rfl rfl ?_;clear S;intro w89 hk76 S
    refine Vu S Fu rfl rfl fun a S=>Vf CK S rfl rfl fun a S=>Ki S (S.tm rfl) rfl (i:=0) (off:=7) rfl sizeOf4 (vs:=[bV true]) rfl rfl rfl rfl ?_;clear S;intro w90 hk77 S
    refine Ld ?_
    replace S:=(S.nl [.blk Ai [Ac,iV Ad,Aa,iV Ah,Ak,iV x12,iV x11,bV true] 86,.own Ak 3 1 Am.length (Am.flatMap eInt)] [true,false,true] rfl).k0
    exact Tn (⟨x12,x11,true,Am,Ak,h,S.nf [true,true] rfl trivial⟩)
   ·exact wp_skip (Tn (⟨As,Ax,Ay,Av,Ap,h,S.nf [true,true,false] rfl trivial⟩))
  clear S h;rintro a w86 ⟨x19,x20,x21,x22,v62,h,S⟩;rw [hj9] at h;clear hj9 j9
  obtain rfl:=Option.some.inj h
  exact Qu S results38 ⟨v62,S.grp [0,1] [] rfl rfl rfl,rfl⟩
theorem AP (m : Nat) : ∀ (w : World) (X : List Nat) (Ai : Nat) (Ac : Value) (Aq : List Ed) (_ : Slc (view w X) 5 Ac (Aq.map Ed.enc)) (Ad : Int) (Aa : Value) (Bk : List (List Ei)) (Bl : List RS) (_ : Slc (view w X) 1 Aa (Bl.map RS.enc)) (_ : Iz (Se (view w X)) Bk Bl) (Ah : Int) (Ap : Value) (Av : List Int) (_ : (LEnt.own Ap 3 1 Av.length (Av.flatMap eInt)).holds w) (As : Int) (Ax : Int) (Ay : Bool) (_ : (LEnt.blk Ai [Ac,iV Ad,Aa,iV Ah,Ap,iV As,iV Ax,bV Ay] 86).holds w) (Ak : Value) (Am : List Int) (_ : (LEnt.own Ak 3 1 Am.length (Am.flatMap eInt)).holds w) (Bb : Value) (Ar : List Int) (_ : Slc (view w X) 1 Bb (Ar.map eInt)) (_ : X.Nodup) (_ : X = fps [.blk Ai [Ac,iV Ad,Aa,iV Ah,Ap,iV As,iV Ax,bV Ay] 86,.own Ap 3 1 Av.length (Av.flatMap eInt),.own Ak 3 1 Am.length (Am.flatMap eInt)]) (r : (List Int) × Int × Int × Bool) (_ : Mv m Aq Ad Bk Ah Av As Ax Ay Am Ar = some r),
    Calls prog 38 [.pointer (some ⟨Ai,0,none⟩),Ak,Bb].toArray w (Ret w X fun _ v w'=>∃ y1 : Value,Grp w w' X [.blk Ai [Ac,iV Ad,Aa,iV Ah,y1,iV r.2.1,iV r.2.2.1,bV r.2.2.2] 86,.own y1 3 1 r.1.length (r.1.flatMap eInt)] ∧ v = .tuple #[]):=by
  induction m with
  | zero=>intros;rename_i h;rw [Mv] at h;cases h
  | succ m ih=>exact fun w X Ai Ac Aq Bm Ad Aa Bk Bl Bn Bo Ah Ap Av Dc As Ax Ay Ds Ak Am Dt Bb Ar Cg hXn hXe r h=>Yu (Mv m) ih w X Ai Ac Aq Bm Ad Aa Bk Bl Bn Bo Ah Ap Av Dc As Ax Ay Ds Ak Am Dt Bb Ar Cg hXn hXe r h
set_option maxRecDepth 20000 in
theorem Yg (w : World) (Ag : Value) (Aj : List Ed) (Aw : Slc (view w []) 5 Ag (Aj.map Ed.enc)) (Ab : Value) (Al : List Es) (Ao : Slc (view w []) 3 Ab (Al.map Es.enc)) (Bc : Int) (r : (List ByteArray) × Int × Int) (h : Qg Aj Al Bc = some r) :
    Calls prog 11 [Ag,Ab,iV Bc].toArray w (Ret w [] fun τ v _=>∃ u1 : Value,v = .tuple #[u1,iV r.2.1,iV r.2.2] ∧ Of τ 9 1 u1 r.1.length (r.1.flatMap Si)):=by
 refine Fe func11 rfl ntmps11 rfl fun a S=>?_
 unfold Qg at h
 replace S:=S.k3 0 1 2 rfl
 refine Fs (Fg ?_)
 iterate 3 (refine Vk S rfl rfl ?_;clear S;intro a S)
 refine Dl (Fs (Fr (Vm S rfl rfl fun a S=>Vm S rfl rfl ?_)));clear S;intro a S
 obtain ⟨r1,hr1,h⟩:=Gf h
 refine Em S (fun _=>Eg (vs:=[Ag,Ab]) ⟨(S.tm rfl),(S.tm rfl),trivial⟩ call30) (Rh _ Ag Aj (Aw.mono (S.le_arg Fh)) Ab Al (Ao.mono (S.le_arg Fh)) _ hr1) rfl ?_;clear S;intro v1 a w1 hv1 hk1 hn1 S
 subst hv1
 refine Va S rfl rfl fun a S=>Dz (Vm S rfl rfl fun a S=>Vq S Mq rfl rfl rfl fun a S=>Dl (Fc h (S.tm rfl) (fun hb1 h=>?_) (fun hb1 h=>?_)))
 ·refine Fr (Vm S rfl rfl fun a S=>Vk S rfl rfl fun a S=>Vk S rfl rfl fun a S=>Va S rfl rfl fun a S=>Dl (wp_ret (Ek ?_)))
  obtain rfl:=Option.some.inj h
  exact Uj S results11 rfl rfl rfl ⟨_,rfl,(Jz _ _ _)⟩
 ·refine wp_skip (Tn (Fs (Fr (Vm S rfl rfl fun a S=>lv S (Fy Jp (S.tm rfl) (Eh Aw)) rfl fun a S=>Vq S Kh rfl rfl rfl fun a S=>Ld ?_))))
  replace S:=S.k4 0 1 2 25 rfl
  refine Tn (Fc h (S.tm rfl) (fun hb2 h=>?_) (fun hb2 h=>?_))
  ·refine Fs (Fg ?_)
   iterate 3 (refine Vk S rfl rfl ?_;clear S;intro a S)
   refine Dl (wp_ret (Ek ?_))
   obtain rfl:=Option.some.inj h
   exact Uj S results11 rfl rfl rfl ⟨_,rfl,(Jz _ _ _)⟩
  ·refine wp_skip (Tn (Fs (Fr (Vm S rfl rfl fun a S=>Em S (fun _=>Eg (vs:=[iV Bc,iV 0,iV 3600000]) ⟨(S.tm rfl),rfl,rfl,trivial⟩ call32) (Gk _ Bc 0 3600000 _ rfl) rfl ?_))));clear S;intro v2 a w2 hv2 hk2 hn2 S
   subst hv2
   refine Vu S Jd rfl rfl fun a S=>Vm S rfl rfl ?_;clear S;intro a S
   obtain ⟨j1,hj1,h⟩:=Ge h
   refine Jy 5 (fun a w'=>∃ x1 : Bool,∃ φ1 : View,j1 x1 = some r ∧ View.le nov φ1 ∧ Sx w [] φ1 [] [(0,Ag),(1,Ab),(2,iV Bc),(34,bV x1)] 79 a w') ?_ ?_
   ·rcases Bool.eq_false_or_eq_true (!(Ev Bc 0 3600000)) with hb3 | hb3
    ·replace h:=Py h hb3
     iterate 4 (refine Iy S rfl rfl rfl (Nu hb3) rfl ?_ rfl;clear S;intro a S)
     exact Vq S (Mz hb3) rfl rfl rfl fun a S=>Dl (⟨true,nov,h,(View.le_refl _),S.nf [] rfl (subR rfl)⟩)
    ·replace h:=Pz h hb3
     refine Er S rfl rfl rfl hb3 (Vm S rfl rfl fun a S=>Er S rfl rfl rfl hb3 ?_)
     obtain ⟨r2,hr2,h⟩:=Gf h
     have hz1:=S.keep.size
     refine Em S (fun _=>Eg (vs:=[Ag,iV 0]) ⟨(S.tm rfl),rfl,trivial⟩ call34) (Pq _ Ag Aj (Aw.mono (S.le_arg Fh)) 0 _ hr2) rfl ?_;clear S;intro v3 a w4 hv3 hk3 hn3 S
     obtain ⟨φ2,hl2,hm1,S⟩:=S.see' hn3 hz1
     have hs1:=hv3.mono hm1
     refine Er S rfl rfl rfl hb3 ?_
     obtain ⟨r3,hr3,h⟩:=Gf h
     refine Em S (fun _=>Eg (vs:=[v3,iV 0]) ⟨(S.tm rfl),rfl,trivial⟩ call33) (Rc _ v3 r2 ((Fv Ee.enc_ok hs1).mono (S.le_new Fh)) 0 _ hr3) rfl ?_;clear S;intro v4 a w5 hv4 hk4 hn4 S
     subst hv4
     exact Er S rfl rfl rfl hb3 (Vq S Kh rfl rfl rfl fun a S=>lv S (Na hb3 (S.tm rfl) (S.tm rfl)) rfl fun a S=>Dl (⟨decide (345686400000 < r3),φ2,h,hl2,S.nf [] rfl (subR rfl)⟩))
   clear S h;rintro a w3 ⟨x1,φ1,h,hl1,S⟩;rw [hj1] at h;clear hj1 j1
   refine Dl (Fc h (S.tm rfl) (fun hb4 h=>?_) (fun hb4 h=>?_))
   ·refine Fs (Fg ?_)
    iterate 3 (refine Vk S rfl rfl ?_;clear S;intro a S)
    refine Dl (wp_ret (Ek ?_))
    obtain rfl:=Option.some.inj h
    exact Uj S results11 rfl rfl rfl ⟨_,rfl,(Jz _ _ _)⟩
   ·refine wp_skip (Tn (Fr (Vm S rfl rfl ?_)));clear S;intro a S
    obtain ⟨r4,hr4,h⟩:=Gf h
    have hz2:=S.keep.size
    refine Em S (fun _=>Eg (vs:=[Ag]) ⟨(S.tm rfl),trivial⟩ call21) (Rw _ Ag Aj (Aw.mono (S.le_arg Fh)) _ hr4) rfl ?_;clear S;intro v5 a w6 hv5 hk5 hn5 S
    replace S:=S.take hn5 hz2 hv5
    refine Va S rfl rfl fun a S=>Dz (Vm S rfl rfl ?_);clear S;intro a S
    obtain ⟨r5,hr5,h⟩:=Gf h
    refine Nv 0 S rfl (fun _=>.own v5 54 5 r5.length (r5.flatMap Ed.enc)) (fun _=>Eg (vs:=[v5,.func (.func 35) #[] #[]]) ⟨(S.tm rfl),rfl,trivial⟩ call22) (Pa _ v5 r4 (S.holds _ (List.mem_of_getElem? (i:=0) rfl)) _ hr5) rfl (fun _ _ _ h=>⟨h.1,fun _ hc=>hc⟩) ?_;clear S;intro v6 a w7 hv6 hk6 hn6 S
    replace hv6:=hv6.2
    subst hv6
    refine Dl (Fs (Fg ?_))
    iterate 3 (refine Vm S rfl rfl ?_;clear S;intro a S)
    obtain ⟨φ3,hl3,hs2,S⟩:=S.freezeT (xs:=r5) (enc:=Ed.enc) (i:=0) rfl (fun _ h=>by cases h)
    replace S:=S.nk [] [(0,Ag),(1,Ab),(2,iV Bc),(10,v5),(34,bV x1),(35,Ag),(36,v5),(37,v5),(39,v5),(40,Ab),(41,iV Bc)] [] rfl (subR rfl)
    obtain ⟨r6,hr6,h⟩:=Gf h
    have hz3:=S.keep.size
    refine Qc [] [] (Ls:=[]) (Lr:=[]) (Y:=[]) S rfl rfl rfl rfl (fun _=>Eg (vs:=[v5,Ab,iV Bc]) ⟨(S.tm rfl),(S.tm rfl),(S.tm rfl),trivial⟩ call37) (Uv _ v5 r5 ((Fv Ed.enc_ok hs2).mono (S.le_new Fh)) Ab Al (Ao.mono (S.le_arg Fh)) Bc _ hr6) rfl ?_;clear S;intro v7 a w8 hv7 hk7 hn7 S
    obtain ⟨b1,u3,rs1,rfl,hs3,hr7,hg1⟩:=hv7;replace S:=S _ hg1;clear hg1
    obtain ⟨φ4,hl4,hm2,S⟩:=Sx.growB (L:=[]) S hn7 hz3
    replace hs3:=hs3.mono hm2
    replace hr7:=Pm hm2 hr7
    refine Va S rfl rfl fun a S=>Dz (Vk S rfl rfl ?_);clear S;intro a S
    replace S:=S.nil 3 1
    refine Dl (Fs (Fr (Vm S rfl rfl fun a S=>lv S (Fy Jp (S.tm rfl) (Eh (Fv Ed.enc_ok hs2))) rfl fun a S=>lv S (Rm rfl) rfl fun a S=>Ld ?_)))
    replace S:=(S.nl [.own (.slice none 0 0) 3 1 ([] : List Int).length (([] : List Int).flatMap eInt),.blk b1 [v5,iV r6.1,u3,iV Bc,.slice none 0 0,iV 0,iV 0,bV false] 86] [true,true] rfl).k5 10 11 12 44 45 rfl
    refine Tn ?_
    obtain ⟨j2,hj2,h⟩:=Ge h
    refine Ft (fun a w'=>∃ x2 : List Int,∃ v8 : Value,j2 x2 = some r ∧ Sx w [] φ4 [.own v8 3 1 x2.length (x2.flatMap eInt),.blk b1 [v5,iV r6.1,u3,iV Bc,.slice none 0 0,iV 0,iV 0,bV false] 86] [(10,v5),(11,.pointer (some ⟨b1,0,none⟩)),(12,v8)] 79 a w') ?_ ?_
    ·refine wp_block (Hh (fun (ys1 : List Ed) a w'=>∃ i1 : Nat,∃ x2 : List Int,∃ v8 : Value,(∃ dn,r5 = dn ++ ys1 ∧ dn.length = i1) ∧ Jh j2 ys1 i1 x2 = some r ∧ Sx w [] φ4 [.own v8 3 1 x2.length (x2.flatMap eInt),.blk b1 [v5,iV r6.1,u3,iV Bc,.slice none 0 0,iV 0,iV 0,bV false] 86] [(10,v5),(11,.pointer (some ⟨b1,0,none⟩)),(12,v8),(44,iV (r5.length : Int)),(45,iV (i1 : Int))] 79 a w') List.length r5 ⟨0,([] : List Int),(.slice none 0 0),⟨[],rfl,rfl⟩,h,S.nf [true,true] rfl (subR rfl)⟩ ?_)
     clear S h;rintro ys1 a w9 ⟨i1,x2,v8,⟨dn,hd1,hi1⟩,h,S⟩
     cases ys1 with
     | nil =>
      rw [Jh.eq_1] at h
      refine Fr (Vb S Fm rfl rfl rfl fun a S=>Ld ?_)
      replace S:=S.k6 10 11 12 44 45 46 rfl
      exact Tn (Fs (wp_cond_false ((S.tm rfl).trans (congrArg Value.bool (Ih hd1 hi1))) (wp_exit (Fj (Fj (He (Tn (⟨x2,v8,h,S.nf [true,true] rfl (subR rfl)⟩))))))))
     | cons y1 ys1 =>
      rw [Jh.eq_2] at h
      refine Fr (Vb S Fm rfl rfl rfl fun a S=>Ld ?_)
      replace S:=S.k6 10 11 12 44 45 46 rfl
      refine Tn (Fs (wp_cond_true ((S.tm rfl).trans (congrArg Value.bool (Hb hd1 hi1))) (wp_skip (Tn (Fs (wp_block (Fr (Vm S rfl rfl fun a S=>Va S rfl rfl ?_))))))));clear S;intro a S
      refine Dl (Fg (Vm S rfl rfl fun a S=>Vm S rfl rfl fun a S=>Fo S underlying22 sizeOf3 zeroValue3 rfl rfl (pv:=[(0,iV (i1 : Int))]) ⟨rfl,(S.tm rfl),trivial⟩ (cs:=[iV (i1 : Int)]) (by kernel_rfl) rfl ?_));clear S;intro a w11 b2 hz4 hk8 S
      obtain ⟨hc1,h⟩:=Hu h
      refine Ov Ll Gw S (S.tm rfl) (i:=1) rfl (S.tm rfl) (j:=0) rfl (ys:=[(i1 : Int)]) rfl rfl rfl rfl (by have:=Le hc1;omega) rfl ?_;clear S;intro v9 a w12 hk9 S
      exact Va S rfl rfl fun a S=>Ld (Jc (Tn (Fg (Vq S Gd rfl rfl rfl fun a S=>Vm S rfl rfl fun a S=>Dl (⟨ys1,⟨i1 + 1,(x2 ++ [(i1 : Int)]),v9,⟨_,(hd1).trans (List.append_cons _ _ _),by simp [hi1]⟩,h,S.nf [false,true,true] rfl ⟨rfl,rfl,rfl,rfl,(congrArg (fun z=>some (Value.int .i64 z)) (Hc hd1 hi1 (Jx (Fv Ed.enc_ok hs2)))),trivial⟩⟩,Nat.lt_succ_self _⟩)))))
    clear S h;rintro a w10 ⟨x2,v8,h,S⟩;rw [hj2] at h;clear hj2 j2
    refine Tn (Fr (Vm S rfl rfl fun a S=>Vm S rfl rfl ?_));clear S;intro a S
    replace S:=S.nil 3 1
    replace S:=S.nil 3 1
    obtain ⟨r7,hr8,h⟩:=Gf h
    refine Qc [3,1,0] [2] (Ls:=[.blk b1 [v5,iV r6.1,u3,iV Bc,(.slice none 0 0),iV 0,iV 0,bV false] 86,.own (.slice none 0 0) 3 1 ([] : List Int).length (([] : List Int).flatMap eInt),.own (.slice none 0 0) 3 1 ([] : List Int).length (([] : List Int).flatMap eInt)]) (Lr:=[.own v8 3 1 x2.length (x2.flatMap eInt)]) (Y:=[b1] ++ ((Value.ownBlock (.slice none 0 0)).toList ++ (Value.ownBlock (.slice none 0 0)).toList)) S rfl rfl rfl (by simp [Jg,Ke,LEnt.fp]) (fun _=>Eg (vs:=[.pointer (some ⟨b1,0,none⟩),.slice none 0 0,v8]) ⟨(S.tm rfl),rfl,(S.tm rfl),trivial⟩ call38) (AP 16 _ ([b1] ++ ((Value.ownBlock (.slice none 0 0)).toList ++ (Value.ownBlock (.slice none 0 0)).toList)) b1 v5 r5 ((Fv Ed.enc_ok hs2).mono (View.le_trans hl4 (S.le_new (Gb (Ew (i:=3) (e:=.blk b1 [v5,iV r6.1,u3,iV Bc,(.slice none 0 0),iV 0,iV 0,bV false] 86) rfl) (Gb (Ew (i:=1) (e:=.own (.slice none 0 0) 3 1 ([] : List Int).length (([] : List Int).flatMap eInt)) rfl) (Ew (i:=0) (e:=.own (.slice none 0 0) 3 1 ([] : List Int).length (([] : List Int).flatMap eInt)) rfl)))))) r6.1 u3 r6.2 rs1 (hs3.mono (S.le_new (Gb (Ew (i:=3) (e:=.blk b1 [v5,iV r6.1,u3,iV Bc,(.slice none 0 0),iV 0,iV 0,bV false] 86) rfl) (Gb (Ew (i:=1) (e:=.own (.slice none 0 0) 3 1 ([] : List Int).length (([] : List Int).flatMap eInt)) rfl) (Ew (i:=0) (e:=.own (.slice none 0 0) 3 1 ([] : List Int).length (([] : List Int).flatMap eInt)) rfl))))) (Pm (S.le_new (Gb (Ew (i:=3) (e:=.blk b1 [v5,iV r6.1,u3,iV Bc,(.slice none 0 0),iV 0,iV 0,bV false] 86) rfl) (Gb (Ew (i:=1) (e:=.own (.slice none 0 0) 3 1 ([] : List Int).length (([] : List Int).flatMap eInt)) rfl) (Ew (i:=0) (e:=.own (.slice none 0 0) 3 1 ([] : List Int).length (([] : List Int).flatMap eInt)) rfl)))) hr7) Bc (.slice none 0 0) ([] : List Int) (S.holds _ (List.mem_of_getElem? (i:=1) rfl)) 0 0 false (S.holds _ (List.mem_of_getElem? (i:=3) rfl)) (.slice none 0 0) ([] : List Int) (S.holds _ (List.mem_of_getElem? (i:=0) rfl)) v8 x2 (Mr Gw S (i:=2) rfl (Tt (Ob (i:=3) (j:=2) (e:=.blk b1 [v5,iV r6.1,u3,iV Bc,(.slice none 0 0),iV 0,iV 0,bV false] 86) (e':=.own v8 3 1 x2.length (x2.flatMap eInt)) S rfl rfl rfl) (Tt (Ob (i:=1) (j:=2) (e:=.own (.slice none 0 0) 3 1 ([] : List Int).length (([] : List Int).flatMap eInt)) (e':=.own v8 3 1 x2.length (x2.flatMap eInt)) S rfl rfl rfl) (Ob (i:=0) (j:=2) (e:=.own (.slice none 0 0) 3 1 ([] : List Int).length (([] : List Int).flatMap eInt)) (e':=.own v8 3 1 x2.length (x2.flatMap eInt)) S rfl rfl rfl)))) (S.ndg [3,1,0] [2] rfl rfl rfl (by simp [Jg,Ke,LEnt.fp])) (by simp [Jg,Ke,LEnt.fp]) _ hr8) rfl ?_;clear S;intro v10 a w13 hv8 hk10 hn8 S
    obtain ⟨v11,hg2,hv8⟩:=hv8;replace S:=S _ hg2;clear hg2
    subst hv8
    refine Dz (Vk S rfl rfl ?_);clear S;intro a S
    replace S:=S.nil 9 1
    refine Dl (Fs (Fr (Vm S rfl rfl fun a S=>Vu S Fu rfl rfl fun a S=>Vf FK S rfl rfl fun a S=>Vl isAgg22 1 S rfl rfl rfl rfl fun a S=>lv S (Fy Ll (S.tm rfl) (Nc (S.own_at (i:=2) rfl))) rfl fun a S=>lv S (Rm rfl) rfl ?_)));clear S;intro a S
    refine Dl ?_
    replace S:=(S.nl [.own (.slice none 0 0) 9 1 ([] : List ByteArray).length (([] : List ByteArray).flatMap Si),.blk b1 [v5,iV r6.1,u3,iV Bc,v11,iV r7.2.1,iV r7.2.2.1,bV r7.2.2.2] 86,.own v11 3 1 r7.1.length (r7.1.flatMap eInt)] [true,true,true,false] rfl).k6 10 11 14 59 60 61 rfl
    have hm3:=Tr (S.own_at (i:=2) rfl)
    obtain ⟨j3,hj3,h⟩:=Ge h
    refine Ft (fun a w'=>∃ x3 : List ByteArray,∃ v12 : Value,j3 x3 = some r ∧ Sx w [] φ4 [.own v12 9 1 x3.length (x3.flatMap Si),.blk b1 [v5,iV r6.1,u3,iV Bc,v11,iV r7.2.1,iV r7.2.2.1,bV r7.2.2.2] 86,.own v11 3 1 r7.1.length (r7.1.flatMap eInt)] [(11,.pointer (some ⟨b1,0,none⟩)),(14,v12)] 79 a w') ?_ ?_
    ·refine wp_block (Hh (fun (ys2 : List Int) a w'=>∃ i2 : Nat,∃ x3 : List ByteArray,∃ v12 : Value,(∃ dn,r7.1 = dn ++ ys2 ∧ dn.length = i2) ∧ Ip r5 j3 ys2 i2 x3 = some r ∧ Sx w [] φ4 [.own v12 9 1 x3.length (x3.flatMap Si),.blk b1 [v5,iV r6.1,u3,iV Bc,v11,iV r7.2.1,iV r7.2.2.1,bV r7.2.2.2] 86,.own v11 3 1 r7.1.length (r7.1.flatMap eInt)] [(10,v5),(11,.pointer (some ⟨b1,0,none⟩)),(14,v12),(59,v11),(60,iV (r7.1.length : Int)),(61,iV (i2 : Int))] 79 a w') List.length r7.1 ⟨0,([] : List ByteArray),(.slice none 0 0),⟨[],rfl,rfl⟩,h,S.nf [true,true,true] rfl (subR rfl)⟩ ?_)
     clear S h;rintro ys2 a w14 ⟨i2,x3,v12,⟨dn,hd2,hi2⟩,h,S⟩
     cases ys2 with
     | nil =>
      rw [Ip.eq_1] at h
      refine Fr (Vb S Fm rfl rfl rfl fun a S=>Ld ?_)
      replace S:=S.k7 10 11 14 59 60 61 62 rfl
      exact Tn (Fs (wp_cond_false ((S.tm rfl).trans (congrArg Value.bool (Ih hd2 hi2))) (wp_exit (Fj (Fj (He (Tn (⟨x3,v12,h,S.nf [true,true,true] rfl (subR rfl)⟩))))))))
     | cons y2 ys2 =>
      rw [Ip.eq_2] at h
      refine Fr (Vb S Fm rfl rfl rfl fun a S=>Ld ?_)
      replace S:=S.k7 10 11 14 59 60 61 62 rfl
      refine Tn (Fs (wp_cond_true ((S.tm rfl).trans (congrArg Value.bool (Hb hd2 hi2))) (wp_skip (Tn (Fs (wp_block (Fs (Fg ?_))))))))
      obtain ⟨b3,hg3,hr9⟩:=Gz (a:=a) (x:=.tmp 59) (y:=.tmp 61) (ty:=0) Ll Gw S (i:=2) rfl (Ig hd2 hi2) rfl (S.tm rfl) (S.tm rfl)
      refine lv S (hr9 _) rfl ?_;clear S;intro a S
      clear hr9
      refine lv S (Gt isAgg3 (off:=i2 * 1) (o:=0) (S.tm rfl) (Nb Gw S (i:=2) rfl hg3 (Ig hd2 hi2)) rfl) rfl fun a S=>Va S rfl rfl fun a S=>Dl (Fg ?_)
      iterate 3 (refine Vm S rfl rfl ?_;clear S;intro a S)
      obtain ⟨hc2,h⟩:=Hu h
      obtain ⟨b4,o2,hm5,hr10⟩:=Ff (a:=a) (x:=.tmp 66) (y:=.tmp 67) (ty:=0) Jp (Fv Ed.enc_ok hs2) (El hc2).1 (El hc2).2 (S.tm rfl) (S.tm rfl)
      refine lv S (hr10 _) rfl ?_;clear S;intro a S
      clear hr10
      refine Vf Qn S rfl rfl fun a S=>lv S (Gt isAgg9 (off:=o2) (o:=0) (S.tm rfl) ((hm5.mono hl4).at S.emb) rfl) rfl fun a S=>Fo S underlying47 sizeOf9 zeroValue9 rfl rfl (pv:=[(0,sV ((nth r5 y2).Key))]) ⟨rfl,(S.tm rfl),trivial⟩ (cs:=[sV ((nth r5 y2).Key)]) (by kernel_rfl) rfl ?_;clear S;intro a w16 b5 hz5 hk11 S
      obtain ⟨hc3,h⟩:=Hu h
      refine Ov Qi Rr S (S.tm rfl) (i:=1) rfl (S.tm rfl) (j:=0) rfl (ys:=[(nth r5 y2).Key]) rfl rfl rfl rfl (by have:=Le hc3;omega) rfl ?_;clear S;intro v13 a w17 hk12 S
      refine Va S rfl rfl fun a S=>Ld ?_
      replace S:=(S.nl [.own v13 9 1 (x3 ++ [(nth r5 y2).Key]).length ((x3 ++ [(nth r5 y2).Key]).flatMap Si),.blk b1 [v5,iV r6.1,u3,iV Bc,v11,iV r7.2.1,iV r7.2.2.1,bV r7.2.2.2] 86,.own v11 3 1 r7.1.length (r7.1.flatMap eInt)] [false,true,true,true] rfl).k6 10 11 14 59 60 61 rfl
      exact Jc (Tn (Fg (Vq S Gd rfl rfl rfl fun a S=>Vm S rfl rfl fun a S=>Dl (⟨ys2,⟨i2 + 1,(x3 ++ [(nth r5 y2).Key]),v13,⟨_,(hd2).trans (List.append_cons _ _ _),by simp [hi2]⟩,h,S.nf [true,true,true] rfl ⟨rfl,rfl,rfl,rfl,rfl,(congrArg (fun z=>some (Value.int .i64 z)) (Hc hd2 hi2 hm3)),trivial⟩⟩,Nat.lt_succ_self _⟩))))
    clear S h;rintro a w15 ⟨x3,v12,h,S⟩;rw [hj3] at h;clear hj3 j3
    refine Tn (Fs (Gq [] ([]) Tryz.mixed S rfl (by kernel_rfl) ?_));clear S;intro w18 hk13 hsel S
    refine Jn [0,1,2,3,4,5,6,7] hsel (by kernel_rfl) rfl ?_
    clear hsel
    refine Fk S rfl (Rm (S.tm rfl)) rfl fun a S=>Fk S rfl (Rm (S.tm rfl)) rfl fun a S=>Fk S rfl (Fu (S.tm rfl)) rfl fun a S=>Fk S rfl (Fz CJ (S.tm rfl)) rfl fun a S=>Fk S rfl (Lj isAgg3 (S.tm rfl) (S.cell (i:=1) rfl rfl)) rfl fun a S=>Fk S rfl (Ra (S.tm rfl)) rfl fun a S=>Fk S rfl (Ra (S.tm rfl)) rfl fun a S=>Fk S rfl (Ra rfl) rfl fun a S=>Hx ?_
    replace S:=S.d2.d1.k3 6 7 8 rfl
    refine Tn (wp_ret ?_)
    obtain rfl:=Option.some.inj h
    exact Uj S results11 rfl rfl rfl ⟨_,rfl,(Qb S (i:=0) rfl rfl)⟩
theorem Ub (w : World) (Bw : Value) (Bj : List ByteArray) (Ca : Slc (view w []) 1 Bw (Bj.map Si)) (Dp : ByteArray) (r : Int) (h : Pw Bj Dp = r) :
    Calls prog 63 [Bw,sV Dp].toArray w (Ret w [] fun _ v _=>v = iV r):=by
 refine Fe func63 rfl ntmps63 rfl fun a S=>?_
 unfold Pw at h
 replace S:=S.k2 0 1 rfl
 refine Fr (Vk S rfl rfl fun a S=>Dl (Fs (Fr (Vm S rfl rfl fun a S=>lv S (Fy Qi (S.tm rfl) (Eh Ca)) rfl fun a S=>lv S (Rm rfl) rfl ?_))));clear S;intro a S
 refine Dl ?_
 replace S:=S.k4 0 1 7 8 rfl
 obtain ⟨j1,hj1,h⟩:=Ge h
 refine Ft (fun a w'=>j1 = r ∧ Sx w [] nov [] [] 19 a w') ?_ ?_
 ·refine wp_block (Hh (fun (ys1 : List ByteArray) a w'=>∃ i1 : Nat,(∃ dn,Bj = dn ++ ys1 ∧ dn.length = i1) ∧ Iu Dp j1 ys1 i1 = r ∧ Sx w [] nov [] [(0,Bw),(1,sV Dp),(7,iV (Bj.length : Int)),(8,iV (i1 : Int))] 19 a w') List.length Bj ⟨0,⟨[],rfl,rfl⟩,h,S.nf [] rfl (subR rfl)⟩ ?_)
  clear S h;rintro ys1 a w1 ⟨i1,⟨dn,hd1,hi1⟩,h,S⟩
  cases ys1 with
  | nil =>
   rw [Iu.eq_1] at h
   refine Fr (Vb S Fm rfl rfl rfl fun a S=>Ld ?_)
   replace S:=S.k5 0 1 7 8 9 rfl
   exact Tn (Fs (wp_cond_false ((S.tm rfl).trans (congrArg Value.bool (Ih hd1 hi1))) (wp_exit (Fj (Fj (He (Tn (⟨h,S.nf [] rfl trivial⟩))))))))
  | cons y1 ys1 =>
   rw [Iu.eq_2] at h
   refine Fr (Vb S Fm rfl rfl rfl fun a S=>Ld ?_)
   replace S:=S.k5 0 1 7 8 9 rfl
   refine Tn (Fs (wp_cond_true ((S.tm rfl).trans (congrArg Value.bool (Hb hd1 hi1))) (wp_skip (Tn (Fs (wp_block (Fr (Vm S rfl rfl fun a S=>Va S rfl rfl ?_))))))));clear S;intro a S
   refine Dl (Fs (Fg ?_))
   iterate 3 (refine Vm S rfl rfl ?_;clear S;intro a S)
   obtain ⟨b1,o1,hm1,hr1⟩:=Ff (a:=a) (x:=.tmp 12) (y:=.tmp 13) (ty:=0) Qi Ca (Ig hd1 hi1) rfl (S.tm rfl) (S.tm rfl)
   refine lv S (hr1 _) rfl ?_;clear S;intro a S
   clear hr1
   refine lv S (Gt isAgg9 (off:=o1) (o:=0) (S.tm rfl) (hm1.at S.emb0) rfl) rfl fun a S=>Vb S Tp rfl rfl rfl fun a S=>Dl (Fc h (S.tm rfl) (fun hb1 h=>?_) (fun hb1 h=>?_))
   ·refine Fr (Vm S rfl rfl fun a S=>Va S rfl rfl fun a S=>Ld ?_)
    replace S:=S.k1 4 rfl
    refine Tn (wp_ret (Gu (Ek (Ek (Gu (Ek (Ek ?_)))))))
    subst h
    exact Fw S results63 rfl rfl
   ·exact wp_skip (Jc (Tn (Fg (Vq S Gd rfl rfl rfl fun a S=>Vm S rfl rfl fun a S=>Dl (⟨ys1,⟨i1 + 1,⟨_,(hd1).trans (List.append_cons _ _ _),by simp [hi1]⟩,h,S.nf [] rfl ⟨rfl,rfl,rfl,(congrArg (fun z=>some (Value.int .i64 z)) (Hc hd1 hi1 (Jx Ca))),trivial⟩⟩,Nat.lt_succ_self _⟩)))))
 clear S h;rintro a w2 ⟨h,S⟩;rw [hj1] at h;clear hj1 j1
 refine Tn (Fr (Vk S rfl rfl fun a S=>Dl (wp_ret ?_)))
 subst h
 exact Fw S results63 rfl rfl
theorem Pu (w : World) (Bw : Value) (Bj : List ByteArray) (Ca : Slc (view w []) 1 Bw (Bj.map Si)) (Dp : ByteArray) (r : Bool) (h : Gy Bj Dp = r) :
    Calls prog 40 [Bw,sV Dp].toArray w (Ret w [] fun _ v _=>v = bV r):=by
 refine Fe func40 rfl ntmps40 rfl fun a S=>?_
 unfold Gy at h
 replace S:=S.k2 0 1 rfl
 refine Fr (Vk S rfl rfl fun a S=>Dz (Vm S rfl rfl fun a S=>Vm S rfl rfl fun a S=>Em S (fun _=>Eg (vs:=[Bw,sV Dp]) ⟨(S.tm rfl),(S.tm rfl),trivial⟩ call63) (Ub _ Bw Bj (Ca.mono (S.le_arg Fh)) Dp _ rfl) rfl ?_));clear S;intro v1 a w1 hv1 hk1 hn1 S
 subst hv1
 refine Vq S Ph rfl rfl rfl fun a S=>Va S rfl rfl fun a S=>Dl (wp_ret ?_)
 subst h
 exact Fw S results40 rfl rfl
theorem Yh (w : World) (Ag : Value) (Aj : List Ed) (Aw : Slc (view w []) 5 Ag (Aj.map Ed.enc)) (Cz : Value) (Cw : List ByteArray) (Cv : Slc (view w []) 1 Cz (Cw.map Si)) (r : (List Ed) × Int) (h : Qh Aj Cw = some r) :
    Calls prog 12 [Ag,Cz].toArray w (Ret w [] fun τ v _=>∃ u1 : Value,v = .tuple #[u1,iV r.2] ∧ Of τ 54 5 u1 r.1.length (r.1.flatMap Ed.enc)):=by
 refine Fe func12 rfl ntmps12 rfl fun a S=>?_
 unfold Qh at h
 replace S:=S.k2 0 1 rfl
 refine Fr (Vk S rfl rfl fun a S=>Vk S rfl rfl fun a S=>Dl (Fs (Fr (Vm S rfl rfl ?_))));clear S;intro a S
 obtain ⟨r1,hr1,h⟩:=Gf h
 refine Em S (fun _=>Eg (vs:=[Ag]) ⟨(S.tm rfl),trivial⟩ call28) (Mx _ Ag Aj (Aw.mono (S.le_arg Fh)) _ hr1) rfl ?_;clear S;intro v1 a w1 hv1 hk1 hn1 S
 subst hv1
 refine Va S rfl rfl fun a S=>Dz (Vm S rfl rfl fun a S=>Vq S Mq rfl rfl rfl fun a S=>Dl (Fc h (S.tm rfl) (fun hb1 h=>?_) (fun hb1 h=>?_)))
 ·refine Fr (Vm S rfl rfl fun a S=>Vk S rfl rfl fun a S=>Va S rfl rfl fun a S=>Dl (wp_ret (Ek ?_)))
  obtain rfl:=Option.some.inj h
  exact Kx S results12 rfl rfl ⟨_,rfl,(Jz _ _ _)⟩
 ·refine wp_skip (Tn (Fs (Fr (Vm S rfl rfl fun a S=>lv S (Fy Qi (S.tm rfl) (Eh Cv)) rfl fun a S=>Vm S rfl rfl fun a S=>lv S (Fy Jp (S.tm rfl) (Eh Aw)) rfl fun a S=>Vb S Mq rfl rfl rfl fun a S=>Ld ?_))))
  refine Tn (Fc h (S.tm rfl) (fun hb2 h=>?_) (fun hb2 h=>?_))
  ·refine Fr (Vk S rfl rfl fun a S=>Vk S rfl rfl fun a S=>Dl (wp_ret (Ek ?_)))
   obtain rfl:=Option.some.inj h
   exact Kx S results12 rfl rfl ⟨_,rfl,(Jz _ _ _)⟩
  ·refine wp_skip (Tn (Fr (Vk S rfl rfl ?_)));clear S;intro a S
   replace S:=S.nil 54 5
   refine Ld ?_
   replace S:=(S.nl [.own (.slice none 0 0) 54 5 ([] : List Ed).length (([] : List Ed).flatMap Ed.enc)] [true] rfl).k3 0 1 7 rfl
   refine Tn (Fs (Fr (Vm S rfl rfl fun a S=>lv S (Fy Qi (S.tm rfl) (Eh Cv)) rfl fun a S=>lv S (Rm rfl) rfl fun a S=>Dl ?_)))
   replace S:=S.k6 0 1 7 21 22 23 rfl
   obtain ⟨j1,hj1,h⟩:=Ge h
   refine Ft (fun a w'=>∃ x1 : List Ed,∃ v2 : Value,j1 x1 = some r ∧ Sx w [] nov [.own v2 54 5 x1.length (x1.flatMap Ed.enc)] [(7,v2)] 47 a w') ?_ ?_
   ·refine wp_block (Hh (fun (ys1 : List ByteArray) a w'=>∃ i1 : Nat,∃ x1 : List Ed,∃ v2 : Value,(∃ dn,Cw = dn ++ ys1 ∧ dn.length = i1) ∧ Ji Aj Cw j1 ys1 i1 x1 = some r ∧ Sx w [] nov [.own v2 54 5 x1.length (x1.flatMap Ed.enc)] [(0,Ag),(1,Cz),(7,v2),(21,Cz),(22,iV (Cw.length : Int)),(23,iV (i1 : Int))] 47 a w') List.length Cw ⟨0,([] : List Ed),(.slice none 0 0),⟨[],rfl,rfl⟩,h,S.nf [true] rfl (subR rfl)⟩ ?_)
    clear S h;rintro ys1 a w2 ⟨i1,x1,v2,⟨dn,hd1,hi1⟩,h,S⟩
    cases ys1 with
    | nil =>
     rw [Ji.eq_1] at h
     refine Fr (Vb S Fm rfl rfl rfl fun a S=>Ld ?_)
     replace S:=S.k7 0 1 7 21 22 23 24 rfl
     exact Tn (Fs (wp_cond_false ((S.tm rfl).trans (congrArg Value.bool (Ih hd1 hi1))) (wp_exit (Fj (Fj (He (Tn (⟨x1,v2,h,S.nf [true] rfl ⟨rfl,trivial⟩⟩))))))))
    | cons y1 ys1 =>
     rw [Ji.eq_2] at h
     refine Fr (Vb S Fm rfl rfl rfl fun a S=>Ld ?_)
     replace S:=S.k7 0 1 7 21 22 23 24 rfl
     refine Tn (Fs (wp_cond_true ((S.tm rfl).trans (congrArg Value.bool (Hb hd1 hi1))) (wp_skip (Tn (Fs (wp_block (Fr (Vm S rfl rfl ?_))))))));clear S;intro a S
     obtain ⟨b1,o1,hm1,hr2⟩:=Ff (a:=a) (x:=.tmp 21) (y:=.tmp 23) (ty:=0) Qi Cv (Ig hd1 hi1) rfl (S.tm rfl) (S.tm rfl)
     refine lv S (hr2 _) rfl ?_;clear S;intro a S
     clear hr2
     refine lv S (Gt isAgg9 (off:=o1) (o:=0) (S.tm rfl) (hm1.at S.emb0) rfl) rfl fun a S=>Va S rfl rfl fun a S=>Va S rfl rfl fun a S=>Dz (Vm S rfl rfl fun a S=>Vm S rfl rfl fun a S=>Em S (fun _=>Eg (vs:=[Ag,sV y1]) ⟨(S.tm rfl),(S.tm rfl),trivial⟩ call39) (Pg _ Ag Aj (Aw.mono (S.le_arg Fh)) y1 _ rfl) rfl ?_);clear S;intro v3 a w4 hv2 hk2 hn2 S
     subst hv2
     refine Va S rfl rfl fun a S=>Ld ?_
     replace S:=S.k9 0 1 7 8 9 10 21 22 23 rfl
     refine Tn (Fs (Fr (Vm S rfl rfl fun a S=>Vq S Fm rfl rfl rfl fun a S=>Dl (Fc h (S.tm rfl) (fun hb3 h=>?_) (fun hb3 h=>?_)))))
     ·refine Fr (Vk S rfl rfl fun a S=>Vk S rfl rfl fun a S=>Dl (wp_ret (Ek (Gu (Ek (Ek ?_))))))
      refine Gu (Ek (Ek ?_))
      obtain rfl:=Option.some.inj h
      exact Kx S results12 rfl rfl ⟨_,rfl,(Jz _ _ _)⟩
     ·refine wp_skip (Tn (Fs (Fr (Vm S rfl rfl fun a S=>Vm S rfl rfl ?_))));clear S;intro a S
      obtain ⟨hc1,h⟩:=Hu h
      obtain ⟨v4,hs1,hr3⟩:=Zs (a:=a) (x:=.tmp 33) (y':=.tmp 34) (ty:=47) Qi Cv (S.tm rfl) (S.tm rfl) hc1
      refine lv S (hr3 _) rfl ?_;clear S;intro a S
      clear hr3
      refine Vm S rfl rfl fun a S=>Em S (fun _=>Eg (vs:=[v4,sV y1]) ⟨(S.tm rfl),(S.tm rfl),trivial⟩ call40) (Pu _ v4 (cut Cw 0 (i1 : Int)) (hs1.mono (S.le_arg Fh)) y1 _ rfl) rfl ?_;clear S;intro v5 a w5 hv3 hk3 hn3 S
      subst hv3
      refine Ld ?_
      replace S:=S.k8 0 1 7 10 21 22 23 37 rfl
      refine Tn (Fc h (S.tm rfl) (fun hb4 h=>?_) (fun hb4 h=>?_))
      ·refine Fr (Vk S rfl rfl fun a S=>Vk S rfl rfl fun a S=>Dl (wp_ret (Ek (Gu (Ek (Ek ?_))))))
       refine Gu (Ek (Ek ?_))
       obtain rfl:=Option.some.inj h
       exact Kx S results12 rfl rfl ⟨_,rfl,(Jz _ _ _)⟩
      ·refine wp_skip (Tn (Fg ?_))
       iterate 3 (refine Vm S rfl rfl ?_;clear S;intro a S)
       obtain ⟨hc2,h⟩:=Hu h
       obtain ⟨b2,o2,hm2,hr4⟩:=Ff (a:=a) (x:=.tmp 39) (y:=.tmp 40) (ty:=0) Jp Aw (El hc2).1 (El hc2).2 (S.tm rfl) (S.tm rfl)
       refine lv S (hr4 _) rfl ?_;clear S;intro a S
       clear hr4
       refine lv S (Hf isAgg54 sizeOf54 (off:=o2) (o:=0) (part:=(Ed.enc (nth Aj (Ef Aj y1)))) rfl rfl (S.tm rfl) (hm2.at S.emb0)) rfl fun a S=>Fo S underlying26 sizeOf54 zeroValue54 rfl rfl (pv:=[(0,.agg (Ed.enc (nth Aj (Ef Aj y1))).toArray)]) ⟨rfl,(S.tm rfl),trivial⟩ (cs:=[sV ((nth Aj (Ef Aj y1)).Key),iV ((nth Aj (Ef Aj y1)).Heats),iV ((nth Aj (Ef Aj y1)).Long),iV ((nth Aj (Ef Aj y1)).Gap),iV ((nth Aj (Ef Aj y1)).Break)]) (by kernel_rfl) rfl ?_;clear S;intro a w6 b3 hz1 hk4 S
       obtain ⟨hc3,h⟩:=Hu h
       refine Ov Jp Ed.enc_ok S (S.tm rfl) (i:=1) rfl (S.tm rfl) (j:=0) rfl (ys:=[(nth Aj (Ef Aj y1))]) rfl rfl rfl rfl (by have:=Le hc3;omega) rfl ?_;clear S;intro v6 a w7 hk5 S
       refine Va S rfl rfl fun a S=>Ld ?_
       replace S:=(S.nl [.own v6 54 5 (x1 ++ [(nth Aj (Ef Aj y1))]).length ((x1 ++ [(nth Aj (Ef Aj y1))]).flatMap Ed.enc)] [false,true] rfl).k6 0 1 7 21 22 23 rfl
       exact Jc (Tn (Fg (Vq S Gd rfl rfl rfl fun a S=>Vm S rfl rfl fun a S=>Dl (⟨ys1,⟨i1 + 1,(x1 ++ [(nth Aj (Ef Aj y1))]),v6,⟨_,(hd1).trans (List.append_cons _ _ _),by simp [hi1]⟩,h,S.nf [true] rfl ⟨rfl,rfl,rfl,rfl,rfl,(congrArg (fun z=>some (Value.int .i64 z)) (Hc hd1 hi1 (Jx Cv))),trivial⟩⟩,Nat.lt_succ_self _⟩))))
   clear S h;rintro a w3 ⟨x1,v2,h,S⟩;rw [hj1] at h;clear hj1 j1
   refine Tn (Fr (Vm S rfl rfl fun a S=>Va S rfl rfl fun a S=>Vk S rfl rfl fun a S=>Dl (wp_ret ?_)))
   obtain rfl:=Option.some.inj h
   exact Kx S results12 rfl rfl ⟨_,rfl,(Qb S (i:=0) rfl rfl)⟩
theorem Tj (w : World) (Ab : Value) (Al : List Ed) (De : (LEnt.own Ab 54 5 Al.length (Al.flatMap Ed.enc)).holds w) (r : (List Ed)) (h : Lt Al = some r) :
    Calls prog 13 [Ab].toArray w (Ret w (Ab.ownBlock.toList) fun _ v w'=>(LEnt.own Ab 54 5 r.length (r.flatMap Ed.enc)).holds w' ∧ v = .tuple #[]):=by
 refine Kw (Ab.ownBlock.toList) [.own Ab 54 5 Al.length (Al.flatMap Ed.enc)] func13 rfl ntmps13 rfl (fun e he=>by simp only [List.mem_singleton] at he;subst he;exact De) (Kb _) (Lh _) fun a S=>?_
 unfold Lt at h
 replace S:=(S.nl [.own Ab 54 5 Al.length (Al.flatMap Ed.enc)] [true] rfl).k1 0 rfl
 refine Fr (Lm S zeroValue54 (cs:=[sV En,iV 0,iV 0,iV 0,iV 0]) rfl rfl ?_);clear S;intro a w1 b1 hz1 hk1 S
 refine Dz (Vm S rfl rfl fun a S=>lv S (Fy Jp (S.tm rfl) (Nc (S.own_at (i:=1) rfl))) rfl fun a S=>lv S (Rm rfl) rfl fun a S=>Dl ?_)
 replace S:=(S.nl [.blk b1 [sV En,iV 0,iV 0,iV 0,iV 0] 54,.own Ab 54 5 Al.length (Al.flatMap Ed.enc)] [true,true] rfl).k4 0 2 5 6 rfl
 have hm1:=Tr (S.own_at (i:=1) rfl)
 obtain ⟨j1,hj1,h⟩:=Ge h
 refine Ft (fun a w'=>∃ x1 : List Ed,j1 x1 = some r ∧ Sx w (Ab.ownBlock.toList) nov [.blk b1 [sV En,iV 0,iV 0,iV 0,iV 0] 54,.own Ab 54 5 x1.length (x1.flatMap Ed.enc)] [] 14 a w') ?_ ?_
 ·refine wp_block (Hh (fun (ys1 : List Ed) a w'=>∃ i1 : Nat,∃ x1 : List Ed,(∃ dn,Al = dn ++ ys1 ∧ dn.length = i1) ∧ Hr j1 ys1 i1 x1 = some r ∧ Sx w (Ab.ownBlock.toList) nov [.blk b1 [sV En,iV 0,iV 0,iV 0,iV 0] 54,.own Ab 54 5 x1.length (x1.flatMap Ed.enc)] [(0,Ab),(2,.pointer (some ⟨b1,0,none⟩)),(5,iV (Al.length : Int)),(6,iV (i1 : Int))] 14 a w') List.length Al ⟨0,Al,⟨[],rfl,rfl⟩,h,S.nf [true,true] rfl (subR rfl)⟩ ?_)
  clear S h;rintro ys1 a w2 ⟨i1,x1,⟨dn,hd1,hi1⟩,h,S⟩
  cases ys1 with
  | nil =>
   rw [Hr.eq_1] at h
   refine Fr (Vb S Fm rfl rfl rfl fun a S=>Ld ?_)
   replace S:=S.k5 0 2 5 6 7 rfl
   exact Tn (Fs (wp_cond_false ((S.tm rfl).trans (congrArg Value.bool (Ih hd1 hi1))) (wp_exit (Fj (Fj (He (Tn (⟨x1,h,S.nf [true,true] rfl trivial⟩))))))))
  | cons y1 ys1 =>
   rw [Hr.eq_2] at h
   refine Fr (Vb S Fm rfl rfl rfl fun a S=>Ld ?_)
   replace S:=S.k5 0 2 5 6 7 rfl
   refine Tn (Fs (wp_cond_true ((S.tm rfl).trans (congrArg Value.bool (Hb hd1 hi1))) (wp_skip (Tn (Fs (wp_block (Fr (Vm S rfl rfl fun a S=>Va S rfl rfl ?_))))))));clear S;intro a S
   refine Dl (Fg (Vm S rfl rfl fun a S=>Vm S rfl rfl fun a S=>lv S (Hf isAgg54 sizeOf54 (off:=0) (o:=0) (part:=[sV En,iV 0,iV 0,iV 0,iV 0]) rfl rfl (S.tm rfl) (S.cellsAt (i:=0) rfl)) rfl ?_));clear S;intro a S
   obtain ⟨hc1,h⟩:=Hu h
   obtain ⟨b2,hg1,hr1⟩:=Gz (a:=a) (x:=.tmp 9) (y:=.tmp 10) (ty:=0) Jp Ed.enc_ok S (i:=1) rfl (El hc1).1 (El hc1).2 (S.tm rfl) (S.tm rfl)
   refine lv S (hr1 _) rfl ?_;clear S;intro a S
   clear hr1
   refine Mt (c:=0) (j:=(i1 : Int).toNat) (Ed.mk En 0 0 0 0) Ed.enc_ok S (S.tm rfl) (S.tm rfl) (i:=1) rfl hg1 (El hc1).1 sizeOf54 (vs:=[sV En,iV 0,iV 0,iV 0,iV 0]) rfl rfl rfl rfl rfl ?_;clear S;intro w5 hk3 S
   exact Ld (Jc (Tn (Fg (Vq S Gd rfl rfl rfl fun a S=>Vm S rfl rfl fun a S=>Dl (⟨ys1,⟨i1 + 1,(x1.set ((i1 : Int).toNat) (Ed.mk En 0 0 0 0)),⟨_,(hd1).trans (List.append_cons _ _ _),by simp [hi1]⟩,h,S.nf [true,true] rfl ⟨rfl,rfl,rfl,(congrArg (fun z=>some (Value.int .i64 z)) (Hc hd1 hi1 hm1)),trivial⟩⟩,Nat.lt_succ_self _⟩)))))
 clear S h;rintro a w3 ⟨x1,h,S⟩;rw [hj1] at h;clear hj1 j1
 obtain rfl:=Option.some.inj h
 exact Qu S results13 ⟨(S.holds _ (List.mem_of_getElem? (i:=1) rfl)),rfl⟩
set_option maxRecDepth 20000 in
theorem Uw (w : World) (Ag : Value) (Aj : List Ed) (Aw : Slc (view w []) 5 Ag (Aj.map Ed.enc)) (Ab : Value) (Al : List Ey) (Ao : Slc (view w []) 3 Ab (Al.map Ey.enc)) (r : Int) (h : Pd Aj Al = some r) :
    Calls prog 64 [Ag,Ab].toArray w (Ret w [] fun _ v _=>v = iV r):=by
 refine Fe func64 rfl ntmps64 rfl fun a S=>?_
 unfold Pd at h
 replace S:=S.k2 0 1 rfl
 refine Fr (Vk S rfl rfl fun a S=>Dl (Fs (Fr (Vm S rfl rfl ?_))));clear S;intro a S
 obtain ⟨r1,hr1,h⟩:=Gf h
 refine Em S (fun _=>Eg (vs:=[Ag]) ⟨(S.tm rfl),trivial⟩ call28) (Mx _ Ag Aj (Aw.mono (S.le_arg Fh)) _ hr1) rfl ?_;clear S;intro v1 a w1 hv1 hk1 hn1 S
 subst hv1
 refine Va S rfl rfl fun a S=>Dz (Vm S rfl rfl fun a S=>Vq S Mq rfl rfl rfl fun a S=>Dl (Fc h (S.tm rfl) (fun hb1 h=>?_) (fun hb1 h=>?_)))
 ·refine Fr (Vm S rfl rfl fun a S=>Va S rfl rfl fun a S=>Dl (wp_ret (Ek ?_)))
  obtain rfl:=Option.some.inj h
  exact Fw S results64 rfl rfl
 ·refine wp_skip (Tn (Fs (Fr (Vm S rfl rfl fun a S=>lv S (Fy Sk (S.tm rfl) (Eh Ao)) rfl fun a S=>Vq S Kh rfl rfl rfl fun a S=>Dl (Fc h (S.tm rfl) (fun hb2 h=>?_) (fun hb2 h=>?_))))))
  ·refine Fr (Vk S rfl rfl fun a S=>Dl (wp_ret (Ek ?_)))
   obtain rfl:=Option.some.inj h
   exact Fw S results64 rfl rfl
  ·refine wp_skip (Tn (Fr (Vk S rfl rfl fun a S=>Dl (Fs (Fr (Vm S rfl rfl ?_))))));clear S;intro a S
   refine lv S (Fy Sk (S.tm rfl) (Eh Ao)) rfl fun a S=>lv S (Rm rfl) rfl fun a S=>Ld ?_
   replace S:=S.k6 0 1 6 19 20 21 rfl
   refine Tn ?_
   obtain ⟨j1,hj1,h⟩:=Ge h
   refine Ft (fun a w'=>j1 = some r ∧ Sx w [] nov [] [] 72 a w') ?_ ?_
   ·refine wp_block (Hh (fun (ys1 : List Ey) a w'=>∃ i1 : Nat,∃ x1 : Int,(∃ dn,Al = dn ++ ys1 ∧ dn.length = i1) ∧ Ic Aj Al j1 ys1 i1 x1 = some r ∧ Sx w [] nov [] [(0,Ag),(1,Ab),(6,iV x1),(19,Ab),(20,iV (Al.length : Int)),(21,iV (i1 : Int))] 72 a w') List.length Al ⟨0,(-1),⟨[],rfl,rfl⟩,h,S.nf [] rfl (subR rfl)⟩ ?_)
    clear S h;rintro ys1 a w2 ⟨i1,x1,⟨dn,hd1,hi1⟩,h,S⟩
    cases ys1 with
    | nil =>
     rw [Ic.eq_1] at h
     refine Fr (Vb S Fm rfl rfl rfl fun a S=>Ld ?_)
     replace S:=S.k7 0 1 6 19 20 21 22 rfl
     exact Tn (Fs (wp_cond_false ((S.tm rfl).trans (congrArg Value.bool (Ih hd1 hi1))) (wp_exit (Fj (Fj (He (Tn (⟨h,S.nf [] rfl trivial⟩))))))))
    | cons y1 ys1 =>
     rw [Ic.eq_2] at h
     refine Fr (Vb S Fm rfl rfl rfl fun a S=>Ld ?_)
     replace S:=S.k7 0 1 6 19 20 21 22 rfl
     refine Tn (Fs (wp_cond_true ((S.tm rfl).trans (congrArg Value.bool (Hb hd1 hi1))) (wp_skip (Tn (Fs (wp_block (Fr (Vm S rfl rfl ?_))))))));clear S;intro a S
     obtain ⟨b1,o1,hm1,hr2⟩:=Ff (a:=a) (x:=.tmp 19) (y:=.tmp 21) (ty:=0) Sk Ao (Ig hd1 hi1) rfl (S.tm rfl) (S.tm rfl)
     refine lv S (hr2 _) rfl ?_;clear S;intro a S
     clear hr2
     refine lv S (Hf isAgg62 sizeOf62 (off:=o1) (o:=0) (part:=(Ey.enc y1)) rfl rfl (S.tm rfl) (hm1.at S.emb0)) rfl fun a S=>Lm S zeroValue62 (cs:=[sV En,iV 0,iV 0]) rfl rfl ?_;clear S;intro a w4 b2 hz1 hk2 S
     refine Va S rfl rfl fun a S=>Ki S (S.tm rfl) (S.tm rfl) (i:=0) (off:=0) rfl sizeOf62 (vs:=(Ey.enc y1)) rfl rfl rfl rfl ?_;clear S;intro w5 hk3 S
     refine Dz (Vm S rfl rfl fun a S=>Vf Xf S rfl rfl fun a S=>Vl isAgg9 0 S rfl rfl rfl rfl fun a S=>Em S (fun _=>Eg (vs:=[Ag,sV y1.Item]) ⟨(S.tm rfl),(S.tm rfl),trivial⟩ call39) (Pg _ Ag Aj (Aw.mono (S.le_arg Fh)) y1.Item _ rfl) rfl ?_);clear S;intro v2 a w6 hv2 hk4 hn2 S
     subst hv2
     refine Va S rfl rfl fun a S=>Ld ?_
     replace S:=(S.nl [.blk b2 (Ey.enc y1) 62] [true] rfl).k9 0 1 6 7 8 9 19 20 21 rfl
     refine Tn (Fs (Fr (Vm S rfl rfl fun a S=>Vq S Fm rfl rfl rfl fun a S=>Dl (Fc h (S.tm rfl) (fun hb3 h=>?_) (fun hb3 h=>?_)))))
     ·refine Fr (Vk S rfl rfl fun a S=>Dl (wp_ret (Ek (Gu (Ek (Ek (Gu ?_)))))))
      refine Ek (Ek ?_)
      obtain rfl:=Option.some.inj h
      exact Fw S results64 rfl rfl
     ·refine wp_skip (Tn (Fs (Fs ?_)))
      obtain ⟨j2,hj2,h⟩:=Ge h
      refine Ft (fun a w'=>∃ x2 : Bool,j2 x2 = some r ∧ Sx w [] nov [.blk b2 (Ey.enc y1) 62] [(0,Ag),(1,Ab),(6,iV x1),(7,iV (i1 : Int)),(8,.pointer (some ⟨b2,0,none⟩)),(9,iV (Ef Aj y1.Item)),(19,Ab),(20,iV (Al.length : Int)),(21,iV (i1 : Int)),(46,bV x2)] 72 a w') ?_ ?_
      ·obtain ⟨hc1,h⟩:=Hu h
       rcases Bool.eq_false_or_eq_true (!(Ev y1.Heat 1 ((nth Aj (Ef Aj y1.Item)).Heats))) with hb4 | hb4
       ·replace h:=Py h hb4
        refine Gq [] ([]) Tryz.mixed S rfl (by kernel_rfl) ?_;clear S;intro w10 hk7 hsel S
        refine Ej 0 S hsel rfl rfl rfl (by kernel_rfl) (by kernel_rfl) rfl (fun _ hw=>(Fz Vw (S.tm rfl))) fun a S=>Ej 1 S hsel rfl rfl rfl (by kernel_rfl) (by kernel_rfl) rfl (fun _ hw=>(Gt isAgg3 (off:=0) (o:=1) (S.tm rfl) ((S.blk_mem (i:=0) (cells:=(Ey.enc y1)) (b:=b2) (T:=62) rfl (Gr (e':=.blk b2 (Ey.enc y1) 62))).kept hw) rfl)) fun a S=>Ej 2 S hsel rfl rfl rfl (by kernel_rfl) (by kernel_rfl) rfl (fun _ hw=>(Rm (S.tm rfl))) fun a S=>Ej 3 S hsel rfl rfl rfl (by kernel_rfl) (by kernel_rfl) rfl (fun _ hw=>(Rm (S.tm rfl))) ?_;clear S;intro a S
        obtain ⟨b5,o4,hm4,hr5⟩:=Ff (a:=a) (x:=.tmp 34) (y:=.tmp 35) (ty:=0) Jp (Aw.mono (S.le_arg Fh)) (El hc1).1 (El hc1).2 (S.tm rfl) (S.tm rfl)
        refine Ej 4 S hsel rfl rfl rfl (by kernel_rfl) (by kernel_rfl) rfl (fun _ hw=>hr5 _) ?_;clear S;intro a S
        clear hr5
        refine Ej 5 S hsel rfl rfl rfl (by kernel_rfl) (by kernel_rfl) rfl (fun _ hw=>(Fz Rs (S.tm rfl))) fun a S=>Ej 6 S hsel rfl rfl rfl (by kernel_rfl) (by kernel_rfl) rfl (fun _ hw=>(Gt isAgg3 (off:=o4) (o:=1) (S.tm rfl) (hm4.kept hw) rfl)) fun a S=>Ga 7 (by kernel_rfl) rfl (Em S (fun _=>Eg (vs:=[iV y1.Heat,iV 1,iV ((nth Aj (Ef Aj y1.Item)).Heats)]) ⟨(S.tm rfl),rfl,(S.tm rfl),trivial⟩ call32) (Gk _ y1.Heat 1 ((nth Aj (Ef Aj y1.Item)).Heats) _ rfl) rfl ?_);clear S;intro v5 a w11 hv5 hk8 hn5 S
        subst hv5
        refine Ld (Gn hk8 (Jn [8,9,10,11,12,13,14] hsel (by kernel_rfl) rfl ?_))
        clear hsel
        refine Fk S rfl (Jd (S.tm rfl)) rfl fun a S=>Fk S rfl (Rm (S.tm rfl)) rfl ?_;clear S;intro a S
        iterate 4 (refine Pv S rfl rfl rfl rfl (Nu hb4) rfl ?_ rfl;clear S;intro a S)
        refine Fk S rfl (Mz hb4 (S.tm rfl) rfl) rfl fun a S=>Hx ?_
        replace S:=S.k10 0 1 6 7 8 9 19 20 21 46 rfl
        exact Tn (⟨true,h,S.nf [true] rfl (subR rfl)⟩)
       ·replace h:=Pz h hb4
        refine Gq [] ([]) Tryz.mixed S rfl (by kernel_rfl) ?_;clear S;intro w14 hk11 hsel S
        refine Ej 0 S hsel rfl rfl rfl (by kernel_rfl) (by kernel_rfl) rfl (fun _ hw=>(Fz Vw (S.tm rfl))) fun a S=>Ej 1 S hsel rfl rfl rfl (by kernel_rfl) (by kernel_rfl) rfl (fun _ hw=>(Gt isAgg3 (off:=0) (o:=1) (S.tm rfl) ((S.blk_mem (i:=0) (cells:=(Ey.enc y1)) (b:=b2) (T:=62) rfl (Gr (e':=.blk b2 (Ey.enc y1) 62))).kept hw) rfl)) fun a S=>Ej 2 S hsel rfl rfl rfl (by kernel_rfl) (by kernel_rfl) rfl (fun _ hw=>(Rm (S.tm rfl))) fun a S=>Ej 3 S hsel rfl rfl rfl (by kernel_rfl) (by kernel_rfl) rfl (fun _ hw=>(Rm (S.tm rfl))) ?_;clear S;intro a S
        obtain ⟨b7,o6,hm6,hr7⟩:=Ff (a:=a) (x:=.tmp 34) (y:=.tmp 35) (ty:=0) Jp (Aw.mono (S.le_arg Fh)) (El hc1).1 (El hc1).2 (S.tm rfl) (S.tm rfl)
        refine Ej 4 S hsel rfl rfl rfl (by kernel_rfl) (by kernel_rfl) rfl (fun _ hw=>hr7 _) ?_;clear S;intro a S
        clear hr7
        refine Ej 5 S hsel rfl rfl rfl (by kernel_rfl) (by kernel_rfl) rfl (fun _ hw=>(Fz Rs (S.tm rfl))) fun a S=>Ej 6 S hsel rfl rfl rfl (by kernel_rfl) (by kernel_rfl) rfl (fun _ hw=>(Gt isAgg3 (off:=o6) (o:=1) (S.tm rfl) (hm6.kept hw) rfl)) fun a S=>Ga 7 (by kernel_rfl) rfl (Em S (fun _=>Eg (vs:=[iV y1.Heat,iV 1,iV ((nth Aj (Ef Aj y1.Item)).Heats)]) ⟨(S.tm rfl),rfl,(S.tm rfl),trivial⟩ call32) (Gk _ y1.Heat 1 ((nth Aj (Ef Aj y1.Item)).Heats) _ rfl) rfl ?_);clear S;intro v8 a w15 hv8 hk12 hn8 S
        subst hv8
        refine Ld (Gn hk12 (Ej 8 S hsel rfl rfl rfl (by kernel_rfl) (by kernel_rfl) rfl (fun _ hw=>(Jd (S.tm rfl))) fun a S=>Ej 9 S hsel rfl rfl rfl (by kernel_rfl) (by kernel_rfl) rfl (fun _ hw=>(Rm (S.tm rfl))) fun a S=>Fb 10 S hsel rfl rfl rfl rfl hb4 rfl rfl (by kernel_rfl) (by kernel_rfl) rfl (fun _ hw=>(Fz Xg (S.tm rfl))) fun a S=>Fb 11 S hsel rfl rfl rfl rfl hb4 rfl rfl (by kernel_rfl) (by kernel_rfl) rfl (fun _ hw=>(Gt isAgg3 (off:=0) (o:=2) (S.tm rfl) ((S.blk_mem (i:=0) (cells:=(Ey.enc y1)) (b:=b2) (T:=62) rfl (Gr (e':=.blk b2 (Ey.enc y1) 62))).kept hw) rfl)) fun a S=>Ga 12 (by kernel_rfl) rfl (Er S rfl rfl rfl hb4 (Em S (fun _=>Eg (vs:=[iV y1.At]) ⟨(S.tm rfl),trivial⟩ call51) (Pf _ y1.At _ rfl) rfl ?_))));clear S;intro v9 a w16 hv9 hk13 hn9 S
        subst hv9
        refine Ld (Gn hk13 (Jn [13,14] hsel (by kernel_rfl) rfl ?_))
        clear hsel
        refine Gx S rfl rfl rfl rfl hb4 (Io S (Jd (S.tm rfl)) rfl fun a S=>Fk S rfl (Na hb4 (S.tm rfl) (S.tm rfl)) rfl fun a S=>Hx ?_)
        replace S:=S.k14 0 1 6 7 8 9 19 20 21 42 43 44 45 46 rfl
        exact Tn (⟨!(It y1.At),h,S.nf [true] rfl (subR rfl)⟩)
      clear S h;rintro a w7 ⟨x2,h,S⟩;rw [hj2] at h;clear hj2 j2
      refine Tn (Fc h (S.tm rfl) (fun hb5 h=>?_) (fun hb5 h=>?_))
      ·refine Fr (Vk S rfl rfl fun a S=>Dl (wp_ret (Ek (Gu (Ek (Ek (Gu ?_)))))))
       refine Ek (Ek ?_)
       obtain rfl:=Option.some.inj h
       exact Fw S results64 rfl rfl
      ·refine wp_skip (Tn (Fr (Vm S rfl rfl fun a S=>Vq S Xw rfl rfl rfl fun a S=>Vf Vw S rfl rfl fun a S=>Vl isAgg3 0 S rfl rfl rfl rfl fun a S=>Vb S Gd rfl rfl rfl fun a S=>Va S rfl rfl fun a S=>Ld ?_)))
       replace S:=S.k9 0 1 6 7 8 10 19 20 21 rfl
       refine Tn (Fs (Fs (Gq [] ([]) Tryz.mixed S rfl (by kernel_rfl) ?_)));clear S;intro w17 hk14 hsel S
       refine Jn [0,1,2,3,4,5,6,7,8,9,10,11,12,13,14,15,16,17] hsel (by kernel_rfl) rfl ?_
       clear hsel
       refine Fk S rfl (Rm (S.tm rfl)) rfl fun a S=>Fk S rfl (Rm (S.tm rfl)) rfl fun a S=>Fk S rfl (Ss (S.tm rfl) (S.tm rfl)) rfl fun a S=>Fk S rfl (Rm (S.tm rfl)) rfl ?_;clear S;intro a S
       obtain ⟨j3,hj3,h⟩:=Ge h
       refine Ya 14 (fun a w'=>∃ c1,j3 c1 = some r ∧ Keep [] w17 w' ∧ Sx w [] nov [.blk b2 (Ey.enc y1) 62] [(0,Ag),(1,Ab),(10,iV (W ((W ((Ef Aj y1.Item) * 61)) + y1.Heat))),(19,Ab),(20,iV (Al.length : Int)),(21,iV (i1 : Int)),(69,bV c1)] 72 a w') ?_ ?_
       ·rcases Bool.eq_false_or_eq_true (decide ((W ((W ((Ef Aj y1.Item) * 61)) + y1.Heat)) ≤ x1)) with hb6 | hb6
        ·replace h:=Py h hb6
         iterate 3 (refine Pv S rfl rfl rfl rfl (Nu hb6) rfl ?_ rfl;clear S;intro a S)
         iterate 9 (refine s_skipU S rfl rfl rfl rfl rfl ?_;clear S;intro a S)
         exact Pv S rfl rfl rfl rfl (Nu hb6) rfl (fun a S=>Fk S rfl (Od true hb6 (S.tm rfl) rfl) rfl fun a S=>Hx (⟨_,h,Keep.refl _ _,S.nf [true] rfl (subR rfl)⟩)) rfl
        ·replace h:=Pz h hb6
         refine Gx S rfl rfl rfl rfl hb6 (Io S (Rm (S.tm rfl)) rfl fun a S=>Gx S rfl rfl rfl rfl hb6 (Io S (Kh (S.tm rfl) rfl) rfl fun a S=>Gx S rfl rfl rfl rfl hb6 (Io S (Rm (S.tm rfl)) rfl ?_)));clear S;intro a S
         obtain ⟨j4,hj4,h⟩:=Ge h
         refine Ya 10 (fun a w'=>∃ c2,j4 c2 = some r ∧ Keep [] w17 w' ∧ Sx w [] nov [.blk b2 (Ey.enc y1) 62] [(0,Ag),(1,Ab),(10,iV (W ((W ((Ef Aj y1.Item) * 61)) + y1.Heat))),(19,Ab),(20,iV (Al.length : Int)),(21,iV (i1 : Int)),(55,bV (decide ((W ((W ((Ef Aj y1.Item) * 61)) + y1.Heat)) ≤ x1))),(56,iV (i1 : Int)),(57,bV (decide (0 < (i1 : Int)))),(58,bV (decide (0 < (i1 : Int)))),(68,bV c2)] 72 a w') ?_ ?_
         ·rcases Bool.eq_false_or_eq_true (decide (0 < (i1 : Int))) with hb7 | hb7
          ·replace h:=Py h hb7
           refine Gx S rfl rfl rfl rfl hb7 (Io S (Fz Xg (S.tm rfl)) rfl fun a S=>Gx S rfl rfl rfl rfl hb7 (Io S (Lj isAgg3 (S.tm rfl) (S.cell (i:=0) rfl rfl)) rfl fun a S=>Gx S rfl rfl rfl rfl hb7 (Io S (Rm (S.tm rfl)) rfl fun a S=>Gx S rfl rfl rfl rfl hb7 (Io S (Rm (S.tm rfl)) rfl fun a S=>Gx S rfl rfl rfl rfl hb7 (Io S (Iq (S.tm rfl) rfl) rfl fun a S=>Gx S rfl rfl rfl rfl hb7 ?_)))))
           obtain ⟨hc2,h⟩:=Hu h
           obtain ⟨b8,o7,hm7,hr8⟩:=Ff (a:=a) (x:=.tmp 61) (y:=.tmp 63) (ty:=0) Sk Ao (El hc2).1 (El hc2).2 (S.tm rfl) (S.tm rfl)
           refine Io S (hr8 _) rfl ?_;clear S;intro a S
           clear hr8
           exact Gx S rfl rfl rfl rfl hb7 (Io S (Fz Xg (S.tm rfl)) rfl fun a S=>Gx S rfl rfl rfl rfl hb7 (Io S (Gt isAgg3 (off:=o7) (o:=2) (S.tm rfl) (hm7.at S.emb0) rfl) rfl fun a S=>Gx S rfl rfl rfl rfl hb7 (Io S (Fm (S.tm rfl) (S.tm rfl)) rfl fun a S=>Gx S rfl rfl rfl rfl hb6 (Io S (Ju hb7 (S.tm rfl) (S.tm rfl)) rfl fun a S=>Hx (⟨_,h,Keep.refl _ _,S.nf [true] rfl (subR rfl)⟩)))))
          ·replace h:=Pz h hb7
           iterate 9 (refine Pv S rfl rfl rfl rfl (Lk hb7) rfl ?_ rfl;clear S;intro a S)
           exact Gx S rfl rfl rfl rfl hb6 (Io S (Jv true hb7 (S.tm rfl) rfl) rfl fun a S=>Hx (⟨_,h,Keep.refl _ _,S.nf [true] rfl (subR rfl)⟩))
         clear S h;rintro a w19 ⟨c2,h,hk15,S⟩;rw [hj4] at h;clear hj4 j4
         exact Fk S rfl (Oe hb6 (S.tm rfl) (S.tm rfl)) rfl fun a S=>Hx (⟨_,h,hk15,S.nf [true] rfl (subR rfl)⟩)
       clear S h;rintro a w18 ⟨c1,h,hk16,S⟩;rw [hj3] at h;clear hj3 j3
       refine Hx ?_
       replace S:=S.n0.k7 0 1 10 19 20 21 69 rfl
       refine Tn (Fc h (S.tm rfl) (fun hb8 h=>?_) (fun hb8 h=>?_))
       ·refine Fr (Vk S rfl rfl fun a S=>Dl (wp_ret (Ek (Gu (Ek (Ek (Gu ?_)))))))
        refine Ek (Ek ?_)
        obtain rfl:=Option.some.inj h
        exact Fw S results64 rfl rfl
       ·refine wp_skip (Tn (Fg (Vm S rfl rfl fun a S=>Va S rfl rfl fun a S=>Ld (Jc (Tn (Fg (Vq S Gd rfl rfl rfl fun a S=>Vm S rfl rfl ?_)))))));clear S;intro a S
        exact Dl (⟨ys1,⟨i1 + 1,W ((W ((Ef Aj y1.Item) * 61)) + y1.Heat),⟨_,(hd1).trans (List.append_cons _ _ _),by simp [hi1]⟩,h,S.nf [] rfl ⟨rfl,rfl,rfl,rfl,rfl,(congrArg (fun z=>some (Value.int .i64 z)) (Hc hd1 hi1 (Jx Ao))),trivial⟩⟩,Nat.lt_succ_self _⟩)
   clear S h;rintro a w3 ⟨h,S⟩;rw [hj1] at h;clear hj1 j1
   refine Tn (Fr (Vk S rfl rfl fun a S=>Dl (wp_ret ?_)))
   obtain rfl:=Option.some.inj h
   exact Fw S results64 rfl rfl
set_option maxRecDepth 20000 in
theorem Yv (w : World) (Ag : Value) (Aj : List Ed) (Aw : Slc (view w []) 5 Ag (Aj.map Ed.enc)) (Bd : Int) (Ab : Value) (Al : List Ey) (Ao : Slc (view w []) 3 Ab (Al.map Ey.enc)) (r : (List Ee) × (List Ee)) (h : Qx Aj Bd Al = some r) :
    Calls prog 65 [Ag,iV Bd,Ab].toArray w (Ret w [] fun τ v _=>∃ u1 : Value,∃ u2 : Value,v = .tuple #[u1,u2] ∧ Of τ 40 4 u1 r.1.length (r.1.flatMap Ee.enc) ∧ Of τ 40 4 u2 r.2.length (r.2.flatMap Ee.enc)):=by
 refine Fe func65 rfl ntmps65 rfl fun a S=>?_
 unfold Qx at h
 replace S:=S.k3 0 1 2 rfl
 refine Fr (Vk S rfl rfl ?_);clear S;intro a S
 replace S:=S.nil 40 4
 refine Vk S rfl rfl fun a S=>Dz (Vm S rfl rfl fun a S=>Vm S rfl rfl ?_);clear S;intro a S
 obtain ⟨r1,hr1,h⟩:=Gf h
 have hz1:=S.keep.size
 refine Em S (fun _=>Eg (vs:=[Ag,iV Bd]) ⟨(S.tm rfl),(S.tm rfl),trivial⟩ call34) (Pq _ Ag Aj (Aw.mono (S.le_arg Fh)) Bd _ hr1) rfl ?_;clear S;intro v1 a w1 hv1 hk1 hn1 S
 obtain ⟨φ1,hl1,hm1,S⟩:=S.see' hn1 hz1
 have hs1:=hv1.mono hm1
 refine Va S rfl rfl fun a S=>Dz (Vr (κ:=An) (ν:=Int) S rfl (fun x=>Value.agg (An.enc x).toArray) (Value.int .i64) ?_);clear S;intro a w2 b1 hz2 hk2 S
 refine Va S rfl rfl fun a S=>Dz (Vr (κ:=An) (ν:=Bool) S rfl (fun x=>Value.agg (An.enc x).toArray) Value.bool ?_);clear S;intro a w3 b2 hz3 hk3 S
 refine Va S rfl rfl fun a S=>Dl (Fs (Fr (Vm S rfl rfl fun a S=>lv S (Fy Sk (S.tm rfl) (Eh Ao)) rfl fun a S=>lv S (Rm rfl) rfl fun a S=>Ld ?_)))
 replace S:=(S.nl [.map b2 (Hz (fun x=>Value.agg (An.enc x).toArray) Value.bool ([] : List (An × Bool))) ([] : List (An × Bool)).length,.map b1 (Hz (fun x=>Value.agg (An.enc x).toArray) (Value.int .i64) ([] : List (An × Int))) ([] : List (An × Int)).length,.own (.slice none 0 0) 40 4 ([] : List Ee).length (([] : List Ee).flatMap Ee.enc)] [true,true,true] rfl).k7 6 7 8 9 22 23 24 rfl
 refine Tn ?_
 obtain ⟨j1,hj1,h⟩:=Ge h
 refine Ft (fun a w'=>∃ x1 : List (An × Bool),∃ x2 : List (An × Int),j1 x1 x2 = some r ∧ Sx w [] φ1 [.map b2 (Hz (fun x=>Value.agg (An.enc x).toArray) Value.bool x1) x1.length,.map b1 (Hz (fun x=>Value.agg (An.enc x).toArray) (Value.int .i64) x2) x2.length,.own (.slice none 0 0) 40 4 ([] : List Ee).length (([] : List Ee).flatMap Ee.enc)] [(6,(.slice none 0 0)),(7,v1),(8,.map (some b1)),(9,.map (some b2))] 118 a w') ?_ ?_
 ·refine wp_block (Hh (fun (ys1 : List Ey) a w'=>∃ i1 : Nat,∃ x1 : List (An × Bool),∃ x2 : List (An × Int),(∃ dn,Al = dn ++ ys1 ∧ dn.length = i1) ∧ Kd j1 ys1 i1 x1 x2 = some r ∧ Sx w [] φ1 [.map b2 (Hz (fun x=>Value.agg (An.enc x).toArray) Value.bool x1) x1.length,.map b1 (Hz (fun x=>Value.agg (An.enc x).toArray) (Value.int .i64) x2) x2.length,.own (.slice none 0 0) 40 4 ([] : List Ee).length (([] : List Ee).flatMap Ee.enc)] [(6,(.slice none 0 0)),(7,v1),(8,.map (some b1)),(9,.map (some b2)),(22,Ab),(23,iV (Al.length : Int)),(24,iV (i1 : Int))] 118 a w') List.length Al ⟨0,([] : List (An × Bool)),([] : List (An × Int)),⟨[],rfl,rfl⟩,h,S.nf [true,true,true] rfl (subR rfl)⟩ ?_)
  clear S h;rintro ys1 a w4 ⟨i1,x1,x2,⟨dn,hd1,hi1⟩,h,S⟩
  cases ys1 with
  | nil =>
   rw [Kd.eq_1] at h
   refine Fr (Vb S Fm rfl rfl rfl fun a S=>Ld ?_)
   replace S:=S.k8 6 7 8 9 22 23 24 25 rfl
   exact Tn (Fs (wp_cond_false ((S.tm rfl).trans (congrArg Value.bool (Ih hd1 hi1))) (wp_exit (Fj (Fj (He (Tn (⟨x1,x2,h,S.nf [true,true,true] rfl (subR rfl)⟩))))))))
  | cons y1 ys1 =>
   rw [Kd.eq_2] at h
   refine Fr (Vb S Fm rfl rfl rfl fun a S=>Ld ?_)
   replace S:=S.k8 6 7 8 9 22 23 24 25 rfl
   refine Tn (Fs (wp_cond_true ((S.tm rfl).trans (congrArg Value.bool (Hb hd1 hi1))) (wp_skip (Tn (Fs (wp_block (Fs (Fg ?_))))))))
   obtain ⟨b3,o1,hm2,hr2⟩:=Ff (a:=a) (x:=.tmp 22) (y:=.tmp 24) (ty:=0) Sk Ao (Ig hd1 hi1) rfl (S.tm rfl) (S.tm rfl)
   refine lv S (hr2 _) rfl ?_;clear S;intro a S
   clear hr2
   refine lv S (Hf isAgg62 sizeOf62 (off:=o1) (o:=0) (part:=(Ey.enc y1)) rfl rfl (S.tm rfl) (hm2.at S.emb0)) rfl fun a S=>Lm S zeroValue62 (cs:=[sV En,iV 0,iV 0]) rfl rfl ?_;clear S;intro a w6 b4 hz4 hk4 S
   refine Ki S (S.tm rfl) (S.tm rfl) (i:=0) (off:=0) rfl sizeOf62 (vs:=(Ey.enc y1)) rfl rfl rfl rfl ?_;clear S;intro w7 hk5 S
   refine Dl (Gq [] ([b1] ++ [b2]) Tryz.mixed S rfl (by kernel_rfl) ?_);clear S;intro w10 hk8 hsel S
   refine Ej 0 S hsel rfl rfl rfl (by kernel_rfl) (by kernel_rfl) rfl (fun _ hw=>(Rm (S.tm rfl))) fun a S=>Ej 1 S hsel rfl rfl rfl (by kernel_rfl) (by kernel_rfl) rfl (fun _ hw=>(Fz Xf (S.tm rfl))) fun a S=>Ej 2 S hsel rfl rfl rfl (by kernel_rfl) (by kernel_rfl) rfl (fun _ hw=>(Gt isAgg9 (off:=0) (o:=0) (S.tm rfl) ((S.blk_mem (i:=0) (cells:=(Ey.enc y1)) (b:=b4) (T:=62) rfl (Tt (Ob (i:=2) (j:=0) (e:=.map b1 (Hz (fun x=>Value.agg (An.enc x).toArray) (Value.int .i64) x2) x2.length) (e':=.blk b4 (Ey.enc y1) 62) S rfl rfl rfl) (Ob (i:=1) (j:=0) (e:=.map b2 (Hz (fun x=>Value.agg (An.enc x).toArray) Value.bool x1) x1.length) (e':=.blk b4 (Ey.enc y1) 62) S rfl rfl rfl))).kept hw) rfl)) fun a S=>Ej 3 S hsel rfl rfl rfl (by kernel_rfl) (by kernel_rfl) rfl (fun _ hw=>(Fz Vw (S.tm rfl))) fun a S=>Ej 4 S hsel rfl rfl rfl (by kernel_rfl) (by kernel_rfl) rfl (fun _ hw=>(Gt isAgg3 (off:=0) (o:=1) (S.tm rfl) ((S.blk_mem (i:=0) (cells:=(Ey.enc y1)) (b:=b4) (T:=62) rfl (Tt (Ob (i:=2) (j:=0) (e:=.map b1 (Hz (fun x=>Value.agg (An.enc x).toArray) (Value.int .i64) x2) x2.length) (e':=.blk b4 (Ey.enc y1) 62) S rfl rfl rfl) (Ob (i:=1) (j:=0) (e:=.map b2 (Hz (fun x=>Value.agg (An.enc x).toArray) Value.bool x1) x1.length) (e':=.blk b4 (Ey.enc y1) 62) S rfl rfl rfl))).kept hw) rfl)) fun a S=>Ej 5 S hsel rfl rfl rfl (by kernel_rfl) (by kernel_rfl) rfl (fun _ hw=>(Nl Zz (pv:=[(0,sV y1.Item),(1,iV y1.Heat)]) ⟨rfl,(S.tm rfl),rfl,(S.tm rfl),trivial⟩ (cs:=[sV y1.Item,iV y1.Heat]) (by kernel_rfl))) fun a S=>Ej 6 S hsel rfl rfl rfl (by kernel_rfl) (by kernel_rfl) rfl (fun _ hw=>(Rm (S.tm rfl))) ?_;clear S;intro a S
   refine Ej 7 S hsel rfl rfl rfl (by kernel_rfl) (by kernel_rfl) rfl (fun _ hw=>(Fz Xf (S.tm rfl))) fun a S=>Ej 8 S hsel rfl rfl rfl (by kernel_rfl) (by kernel_rfl) rfl (fun _ hw=>(Gt isAgg9 (off:=0) (o:=0) (S.tm rfl) ((S.blk_mem (i:=0) (cells:=(Ey.enc y1)) (b:=b4) (T:=62) rfl (Tt (Ob (i:=2) (j:=0) (e:=.map b1 (Hz (fun x=>Value.agg (An.enc x).toArray) (Value.int .i64) x2) x2.length) (e':=.blk b4 (Ey.enc y1) 62) S rfl rfl rfl) (Ob (i:=1) (j:=0) (e:=.map b2 (Hz (fun x=>Value.agg (An.enc x).toArray) Value.bool x1) x1.length) (e':=.blk b4 (Ey.enc y1) 62) S rfl rfl rfl))).kept hw) rfl)) fun a S=>Ej 9 S hsel rfl rfl rfl (by kernel_rfl) (by kernel_rfl) rfl (fun _ hw=>(Fz Vw (S.tm rfl))) fun a S=>Ej 10 S hsel rfl rfl rfl (by kernel_rfl) (by kernel_rfl) rfl (fun _ hw=>(Gt isAgg3 (off:=0) (o:=1) (S.tm rfl) ((S.blk_mem (i:=0) (cells:=(Ey.enc y1)) (b:=b4) (T:=62) rfl (Tt (Ob (i:=2) (j:=0) (e:=.map b1 (Hz (fun x=>Value.agg (An.enc x).toArray) (Value.int .i64) x2) x2.length) (e':=.blk b4 (Ey.enc y1) 62) S rfl rfl rfl) (Ob (i:=1) (j:=0) (e:=.map b2 (Hz (fun x=>Value.agg (An.enc x).toArray) Value.bool x1) x1.length) (e':=.blk b4 (Ey.enc y1) 62) S rfl rfl rfl))).kept hw) rfl)) fun a S=>Ej 11 S hsel rfl rfl rfl (by kernel_rfl) (by kernel_rfl) rfl (fun _ hw=>(Nl Zz (pv:=[(0,sV y1.Item),(1,iV y1.Heat)]) ⟨rfl,(S.tm rfl),rfl,(S.tm rfl),trivial⟩ (cs:=[sV y1.Item,iV y1.Heat]) (by kernel_rfl))) fun a S=>Ej 12 S hsel rfl rfl rfl (by kernel_rfl) (by kernel_rfl) rfl (fun _ hw=>(Fz Xg (S.tm rfl))) ?_;clear S;intro a S
   refine Ej 13 S hsel rfl rfl rfl (by kernel_rfl) (by kernel_rfl) rfl (fun _ hw=>(Gt isAgg3 (off:=0) (o:=2) (S.tm rfl) ((S.blk_mem (i:=0) (cells:=(Ey.enc y1)) (b:=b4) (T:=62) rfl (Tt (Ob (i:=2) (j:=0) (e:=.map b1 (Hz (fun x=>Value.agg (An.enc x).toArray) (Value.int .i64) x2) x2.length) (e':=.blk b4 (Ey.enc y1) 62) S rfl rfl rfl) (Ob (i:=1) (j:=0) (e:=.map b2 (Hz (fun x=>Value.agg (An.enc x).toArray) Value.bool x1) x1.length) (e':=.blk b4 (Ey.enc y1) 62) S rfl rfl rfl))).kept hw) rfl)) fun a S=>Ga 14 (by kernel_rfl) rfl (Sn (kv:=(fun x=>Value.agg (An.enc x).toArray)) (vv:=(Value.int .i64)) (m:=x2) (key:=(An.mk y1.Item y1.Heat)) (val:=y1.At) S (i:=2) rfl underlying155 Td (S.tm rfl) (S.tm rfl) (S.tm rfl) ?_);clear S;intro w11 hk9 S
   refine Ld ?_
   refine Gn (hk9.sub (by intro y hy;simp at hy ⊢;simp [hy])) ?_
   refine Ga 15 (by kernel_rfl) rfl (Sn (kv:=(fun x=>Value.agg (An.enc x).toArray)) (vv:=Value.bool) (m:=x1) (key:=(An.mk y1.Item y1.Heat)) (val:=true) S (i:=1) rfl underlying156 Td (S.tm rfl) (S.tm rfl) rfl ?_);clear S;intro w12 hk10 S
   refine Ld ?_
   refine Gn (hk10.sub (by intro y hy;simp at hy ⊢;simp [hy])) ?_
   refine Ta (by kernel_rfl) ?_
   clear hsel
   replace S:=(S.nl [.map b2 (Hz (fun x=>Value.agg (An.enc x).toArray) Value.bool (Nz x1 (An.mk y1.Item y1.Heat) true)) (Nz x1 (An.mk y1.Item y1.Heat) true).length,.map b1 (Hz (fun x=>Value.agg (An.enc x).toArray) (Value.int .i64) (Nz x2 (An.mk y1.Item y1.Heat) y1.At)) (Nz x2 (An.mk y1.Item y1.Heat) y1.At).length,.own (.slice none 0 0) 40 4 ([] : List Ee).length (([] : List Ee).flatMap Ee.enc)] [false,true,true,true] rfl).k7 6 7 8 9 22 23 24 rfl
   exact Jc (Tn (Fg (Vq S Gd rfl rfl rfl fun a S=>Vm S rfl rfl fun a S=>Dl (⟨ys1,⟨i1 + 1,(Nz x1 (An.mk y1.Item y1.Heat) true),(Nz x2 (An.mk y1.Item y1.Heat) y1.At),⟨_,(hd1).trans (List.append_cons _ _ _),by simp [hi1]⟩,h,S.nf [true,true,true] rfl ⟨rfl,rfl,rfl,rfl,rfl,rfl,(congrArg (fun z=>some (Value.int .i64 z)) (Hc hd1 hi1 (Jx Ao))),trivial⟩⟩,Nat.lt_succ_self _⟩))))
 clear S h;rintro a w5 ⟨x1,x2,h,S⟩;rw [hj1] at h;clear hj1 j1
 refine Tn (Fs (Fr (Vm S rfl rfl fun a S=>lv S (Fy Nw (S.tm rfl) (Eh (Fv Ee.enc_ok hs1))) rfl fun a S=>lv S (Rm rfl) rfl fun a S=>Dl ?_)))
 replace S:=S.k7 6 7 8 9 43 44 45 rfl
 obtain ⟨j2,hj2,h⟩:=Ge h
 refine Ft (fun a w'=>∃ x3 : List Ee,∃ v2 : Value,j2 x3 = some r ∧ Sx w [] φ1 [.map b2 (Hz (fun x=>Value.agg (An.enc x).toArray) Value.bool x1) x1.length,.map b1 (Hz (fun x=>Value.agg (An.enc x).toArray) (Value.int .i64) x2) x2.length,.own v2 40 4 x3.length (x3.flatMap Ee.enc)] [(6,v2),(7,v1)] 118 a w') ?_ ?_
 ·refine wp_block (Hh (fun (ys2 : List Ee) a w'=>∃ i2 : Nat,∃ x3 : List Ee,∃ v2 : Value,(∃ dn,r1 = dn ++ ys2 ∧ dn.length = i2) ∧ Je x1 x2 r1 j2 ys2 i2 x3 = some r ∧ Sx w [] φ1 [.map b2 (Hz (fun x=>Value.agg (An.enc x).toArray) Value.bool x1) x1.length,.map b1 (Hz (fun x=>Value.agg (An.enc x).toArray) (Value.int .i64) x2) x2.length,.own v2 40 4 x3.length (x3.flatMap Ee.enc)] [(6,v2),(7,v1),(8,.map (some b1)),(9,.map (some b2)),(43,v1),(44,iV (r1.length : Int)),(45,iV (i2 : Int))] 118 a w') List.length r1 ⟨0,([] : List Ee),(.slice none 0 0),⟨[],rfl,rfl⟩,h,S.nf [true,true,true] rfl (subR rfl)⟩ ?_)
  clear S h;rintro ys2 a w13 ⟨i2,x3,v2,⟨dn,hd2,hi2⟩,h,S⟩
  cases ys2 with
  | nil =>
   rw [Je.eq_1] at h
   refine Fr (Vb S Fm rfl rfl rfl fun a S=>Ld ?_)
   replace S:=S.k8 6 7 8 9 43 44 45 46 rfl
   exact Tn (Fs (wp_cond_false ((S.tm rfl).trans (congrArg Value.bool (Ih hd2 hi2))) (wp_exit (Fj (Fj (He (Tn (⟨x3,v2,h,S.nf [true,true,true] rfl (subR rfl)⟩))))))))
  | cons y2 ys2 =>
   rw [Je.eq_2] at h
   refine Fr (Vb S Fm rfl rfl rfl fun a S=>Ld ?_)
   replace S:=S.k8 6 7 8 9 43 44 45 46 rfl
   refine Tn (Fs (wp_cond_true ((S.tm rfl).trans (congrArg Value.bool (Hb hd2 hi2))) (wp_skip (Tn (Fs (wp_block (Fr (Vm S rfl rfl ?_))))))));clear S;intro a S
   obtain ⟨b5,o2,hm3,hr3⟩:=Ff (a:=a) (x:=.tmp 43) (y:=.tmp 45) (ty:=0) Nw (Fv Ee.enc_ok hs1) (Ig hd2 hi2) rfl (S.tm rfl) (S.tm rfl)
   refine lv S (hr3 _) rfl ?_;clear S;intro a S
   clear hr3
   refine lv S (Hf isAgg40 sizeOf40 (off:=o2) (o:=0) (part:=(Ee.enc y2)) rfl rfl (S.tm rfl) (hm3.at S.emb)) rfl fun a S=>Lm S zeroValue40 (cs:=[sV En,iV 0,iV 0,iV 0]) rfl rfl ?_;clear S;intro a w15 b6 hz5 hk11 S
   refine Va S rfl rfl fun a S=>Ki S (S.tm rfl) (S.tm rfl) (i:=0) (off:=0) rfl sizeOf40 (vs:=(Ee.enc y2)) rfl rfl rfl rfl ?_;clear S;intro w16 hk12 S
   refine Dz (Vf FI S rfl rfl fun a S=>Vl isAgg9 0 S rfl rfl rfl rfl fun a S=>Vf FJ S rfl rfl fun a S=>Vl isAgg3 0 S rfl rfl rfl rfl fun a S=>lv S (Nl Zz (pv:=[(0,sV y2.Item),(1,iV y2.Heat)]) ⟨rfl,(S.tm rfl),rfl,(S.tm rfl),trivial⟩ (cs:=[sV y2.Item,iV y2.Heat]) (by kernel_rfl)) rfl fun a S=>Lm S zeroValue150 (cs:=[sV En,iV 0]) rfl rfl ?_);clear S;intro a w17 b7 hz6 hk13 S
   refine Ki S (S.tm rfl) (S.tm rfl) (i:=0) (off:=0) rfl sizeOf150 (vs:=[sV y2.Item,iV y2.Heat]) rfl rfl rfl rfl ?_;clear S;intro w18 hk14 S
   refine Ld ?_
   replace S:=(S.nl [.blk b7 [sV y2.Item,iV y2.Heat] 150,.blk b6 (Ee.enc y2) 40,.map b2 (Hz (fun x=>Value.agg (An.enc x).toArray) Value.bool x1) x1.length,.map b1 (Hz (fun x=>Value.agg (An.enc x).toArray) (Value.int .i64) x2) x2.length,.own v2 40 4 x3.length (x3.flatMap Ee.enc)] [true,true,true,true,true] rfl).k10 6 7 8 9 12 13 14 43 44 45 rfl
   refine Tn (Fr (Vf Pt S rfl rfl fun a S=>Vf Vv S rfl rfl fun a S=>Vl isAgg3 1 S rfl rfl rfl rfl fun a S=>Vf Pt S rfl rfl fun a S=>Vf Vt S rfl rfl fun a S=>Vl isAgg3 1 S rfl rfl rfl rfl fun a S=>Vb S Iq rfl rfl rfl fun a S=>Va S rfl rfl ?_));clear S;intro a S
   refine Ld ?_
   replace S:=S.k11 6 7 8 9 12 13 14 15 43 44 45 rfl
   refine Tn (Fr (Vf Pt S rfl rfl fun a S=>Vf Vt S rfl rfl fun a S=>Vl isAgg3 1 S rfl rfl rfl rfl fun a S=>Va S rfl rfl fun a S=>Ld ?_))
   replace S:=S.k12 6 7 8 9 12 13 14 15 16 43 44 45 rfl
   refine Tn (Fs (Fr (Vm S rfl rfl fun a S=>Vq S Kh rfl rfl rfl fun a S=>Dl ?_)))
   obtain ⟨j3,hj3,h⟩:=Ge h
   refine Ft (fun a w'=>∃ x4 : Int,j3 x4 = some r ∧ Sx w [] φ1 [.blk b7 [sV y2.Item,iV y2.Heat] 150,.blk b6 (Ee.enc y2) 40,.map b2 (Hz (fun x=>Value.agg (An.enc x).toArray) Value.bool x1) x1.length,.map b1 (Hz (fun x=>Value.agg (An.enc x).toArray) (Value.int .i64) x2) x2.length,.own v2 40 4 x3.length (x3.flatMap Ee.enc)] [(6,v2),(7,v1),(8,.map (some b1)),(9,.map (some b2)),(12,iV (i2 : Int)),(13,.pointer (some ⟨b6,0,none⟩)),(14,.pointer (some ⟨b7,0,none⟩)),(15,iV (W (y2.Time.To - y2.Time.From))),(16,iV x4),(43,v1),(44,iV (r1.length : Int)),(45,iV (i2 : Int))] 118 a w') ?_ ?_
   ·refine Fc h (S.tm rfl) (fun hb1 h=>?_) (fun hb1 h=>?_)
    ·refine Gq [] ([]) Tryz.mixed S rfl (by kernel_rfl) ?_;clear S;intro w20 hk15 hsel S
     refine Jn [0,1,2,3,4,5,6,7,8,9,10,11,12,13,14,15,16,17,18,19,20,21] hsel (by kernel_rfl) rfl ?_
     clear hsel
     iterate 3 (refine Fk S rfl (Rm (S.tm rfl)) rfl ?_;clear S;intro a S)
     refine Fk S rfl (Iq (S.tm rfl) rfl) rfl ?_;clear S;intro a S
     obtain ⟨hc1,h⟩:=Hu h
     obtain ⟨b8,hg1,hr4⟩:=Gz (a:=a) (x:=.tmp 68) (y:=.tmp 70) (ty:=0) Nw Ee.enc_ok S (i:=4) rfl (El hc1).1 (El hc1).2 (S.tm rfl) (S.tm rfl)
     refine Fk S rfl (hr4 _) rfl ?_;clear S;intro a S
     clear hr4
     refine Fk S rfl (Fz Pt (S.tm rfl)) rfl fun a S=>Fk S rfl (Fz Vv (S.tm rfl)) rfl fun a S=>Fk S rfl (Gt isAgg3 (off:=((W ((i2 : Int) - 1)).toNat) * 4) (o:=3) (S.tm rfl) (Nb Ee.enc_ok S (i:=4) rfl hg1 (El hc1).1) rfl) rfl fun a S=>Fk S rfl (Fz Pt (S.tm rfl)) rfl fun a S=>Fk S rfl (Fz Vt (S.tm rfl)) rfl fun a S=>Fk S rfl (Lj isAgg3 (S.tm rfl) (S.cell (i:=1) rfl rfl)) rfl fun a S=>Fk S rfl (Gd (S.tm rfl) (S.tm rfl)) rfl fun a S=>Fk S rfl (Rm (S.tm rfl)) rfl fun a S=>Fk S rfl (Rm (S.tm rfl)) rfl fun a S=>Fk S rfl (Iq (S.tm rfl) rfl) rfl ?_;clear S;intro a S
     obtain ⟨hc2,h⟩:=Hu h
     obtain ⟨b9,o4,hm5,hr5⟩:=Ff (a:=a) (x:=.tmp 79) (y:=.tmp 81) (ty:=0) Nw (Fv Ee.enc_ok hs1) (El hc2).1 (El hc2).2 (S.tm rfl) (S.tm rfl)
     refine Fk S rfl (hr5 _) rfl ?_;clear S;intro a S
     clear hr5
     refine Fk S rfl (Fz Pt (S.tm rfl)) rfl fun a S=>Fk S rfl (Fz Vv (S.tm rfl)) rfl fun a S=>Fk S rfl (Gt isAgg3 (off:=o4) (o:=3) (S.tm rfl) (hm5.at S.emb) rfl) rfl fun a S=>Fk S rfl (Iq (S.tm rfl) (S.tm rfl)) rfl fun a S=>Fk S rfl (FA (S.tm rfl) (S.tm rfl)) rfl fun a S=>Fk S rfl (Ra (S.tm rfl)) rfl fun a S=>Hx ?_
     replace S:=S.k12 6 7 8 9 12 13 14 15 16 43 44 45 rfl
     exact Tn (⟨Xt y2.Time.From (W ((W ((((nth x3 (W ((i2 : Int) - 1))).Time).To) + y2.Time.From)) - (((nth r1 (W ((i2 : Int) - 1))).Time).To))),h,S.nf [true,true,true,true,true] rfl (subR rfl)⟩)
    ·exact wp_skip (Tn (⟨y2.Time.From,h,S.nf [true,true,true,true,true] rfl (subR rfl)⟩))
   clear S h;rintro a w19 ⟨x4,h,S⟩;rw [hj3] at h;clear hj3 j3
   refine Tn (Fs (Fr (Vm S rfl rfl fun a S=>lv S (Hf isAgg150 sizeOf150 (off:=0) (o:=0) (part:=[sV y2.Item,iV y2.Heat]) rfl rfl (S.tm rfl) (S.cellsAt (i:=0) rfl)) rfl fun a S=>lv S (Vs (kv:=(fun x=>Value.agg (An.enc x).toArray)) (vv:=Value.bool) (m:=x1) (key:=(An.mk y2.Item y2.Heat)) (z:=false) (S.map_at (i:=2) rfl) underlying156 Td zeroValue4 (S.tm rfl) (S.tm rfl)) rfl fun a S=>Ld ?_)))
   replace S:=S.k13 6 7 8 9 12 13 14 15 16 43 44 45 90 rfl
   refine Tn ?_
   obtain ⟨j4,hj4,h⟩:=Ge h
   refine Ft (fun a w'=>∃ x5 : Int,j4 x5 = some r ∧ Sx w [] φ1 [.blk b6 (Ee.enc y2) 40,.map b2 (Hz (fun x=>Value.agg (An.enc x).toArray) Value.bool x1) x1.length,.map b1 (Hz (fun x=>Value.agg (An.enc x).toArray) (Value.int .i64) x2) x2.length,.own v2 40 4 x3.length (x3.flatMap Ee.enc)] [(6,v2),(7,v1),(8,.map (some b1)),(9,.map (some b2)),(13,.pointer (some ⟨b6,0,none⟩)),(15,iV (W (y2.Time.To - y2.Time.From))),(16,iV x5),(43,v1),(44,iV (r1.length : Int)),(45,iV (i2 : Int))] 118 a w') ?_ ?_
   ·refine Fc h (S.tm rfl) (fun hb2 h=>?_) (fun hb2 h=>?_)
    ·refine Fr (Vm S rfl rfl fun a S=>lv S (Hf isAgg150 sizeOf150 (off:=0) (o:=0) (part:=[sV y2.Item,iV y2.Heat]) rfl rfl (S.tm rfl) (S.cellsAt (i:=0) rfl)) rfl fun a S=>lv S (Vs (kv:=(fun x=>Value.agg (An.enc x).toArray)) (vv:=(Value.int .i64)) (m:=x2) (key:=(An.mk y2.Item y2.Heat)) (z:=0) (S.map_at (i:=3) rfl) underlying155 Td zeroValue3 (S.tm rfl) (S.tm rfl)) rfl fun a S=>Va S rfl rfl fun a S=>Ld ?_)
     replace S:=S.d0.k11 6 7 8 9 12 13 15 16 43 44 45 rfl
     refine Tn (Fr (Vm S rfl rfl fun a S=>Vq S Kh rfl rfl rfl fun a S=>Dl ?_))
     obtain ⟨j5,hj5,h⟩:=Ge h
     refine Ft (fun a w'=>∃ x6 : Int,j5 x6 = some r ∧ Sx w [] φ1 [.blk b6 (Ee.enc y2) 40,.map b2 (Hz (fun x=>Value.agg (An.enc x).toArray) Value.bool x1) x1.length,.map b1 (Hz (fun x=>Value.agg (An.enc x).toArray) (Value.int .i64) x2) x2.length,.own v2 40 4 x3.length (x3.flatMap Ee.enc)] [(6,v2),(7,v1),(8,.map (some b1)),(9,.map (some b2)),(13,.pointer (some ⟨b6,0,none⟩)),(15,iV (W (y2.Time.To - y2.Time.From))),(16,iV x6),(43,v1),(44,iV (r1.length : Int)),(45,iV (i2 : Int))] 118 a w') ?_ ?_
     ·refine Fc h (S.tm rfl) (fun hb3 h=>?_) (fun hb3 h=>?_)
      ·refine Fg ?_
       iterate 3 (refine Vm S rfl rfl ?_;clear S;intro a S)
       refine Vq S Iq rfl rfl rfl ?_;clear S;intro a S
       obtain ⟨hc3,h⟩:=Hu h
       obtain ⟨b10,hg2,hr6⟩:=Gz (a:=a) (x:=.tmp 97) (y:=.tmp 99) (ty:=0) Nw Ee.enc_ok S (i:=3) rfl (El hc3).1 (El hc3).2 (S.tm rfl) (S.tm rfl)
       refine lv S (hr6 _) rfl ?_;clear S;intro a S
       clear hr6
       refine Vf Pt S rfl rfl fun a S=>Vf Vv S rfl rfl fun a S=>lv S (Gt isAgg3 (off:=((W ((i2 : Int) - 1)).toNat) * 4) (o:=3) (S.tm rfl) (Nb Ee.enc_ok S (i:=3) rfl hg2 (El hc3).1) rfl) rfl fun a S=>Vb S FA rfl rfl rfl fun a S=>Va S rfl rfl fun a S=>Ld ?_
       replace S:=S.k10 6 7 8 9 13 15 16 43 44 45 rfl
       exact Tn (⟨Xt (Jj x2 (An.mk y2.Item y2.Heat) 0) (((nth x3 (W ((i2 : Int) - 1))).Time).To),h,S.nf [true,true,true,true] rfl (subR rfl)⟩)
      ·exact wp_skip (Tn (⟨Jj x2 (An.mk y2.Item y2.Heat) 0,h,S.nf [true,true,true,true] rfl (subR rfl)⟩))
     clear S h;rintro a w22 ⟨x6,h,S⟩;rw [hj5] at h;clear hj5 j5
     exact Tn (⟨x6,h,S.nf [true,true,true,true] rfl (subR rfl)⟩)
    ·exact wp_skip (Tn (⟨x4,h,S.nf [false,true,true,true,true] rfl (subR rfl)⟩))
   clear S h;rintro a w21 ⟨x5,h,S⟩;rw [hj4] at h;clear hj4 j4
   refine Tn (Fs (Fg ?_))
   iterate 3 (refine Vm S rfl rfl ?_;clear S;intro a S)
   refine Vb S Gd rfl rfl rfl fun a S=>lv S (Nl bt_38 (pv:=[(0,iV x5),(1,iV (W (x5 + (W (y2.Time.To - y2.Time.From)))))]) ⟨rfl,(S.tm rfl),rfl,(S.tm rfl),trivial⟩ (cs:=[iV x5,iV (W (x5 + (W (y2.Time.To - y2.Time.From))))]) (by kernel_rfl)) rfl fun a S=>Vf Pt S rfl rfl fun a S=>Ki S (S.tm rfl) (S.tm rfl) (i:=0) (off:=2) rfl sizeOf38 (vs:=[iV x5,iV (W (x5 + (W (y2.Time.To - y2.Time.From))))]) rfl rfl rfl rfl ?_;clear S;intro w23 hk16 S
   refine Ld ?_
   replace S:=(S.nl [.blk b6 [sV y2.Item,iV y2.Heat,iV x5,iV (W (x5 + (W (y2.Time.To - y2.Time.From))))] 40,.map b2 (Hz (fun x=>Value.agg (An.enc x).toArray) Value.bool x1) x1.length,.map b1 (Hz (fun x=>Value.agg (An.enc x).toArray) (Value.int .i64) x2) x2.length,.own v2 40 4 x3.length (x3.flatMap Ee.enc)] [true,true,true,true] rfl).k8 6 7 8 9 13 43 44 45 rfl
   refine Tn (Fg (Vm S rfl rfl fun a S=>lv S (Hf isAgg40 sizeOf40 (off:=0) (o:=0) (part:=[sV y2.Item,iV y2.Heat,iV x5,iV (W (x5 + (W (y2.Time.To - y2.Time.From))))]) rfl rfl (S.tm rfl) (S.cellsAt (i:=0) rfl)) rfl fun a S=>Fo S underlying32 sizeOf40 zeroValue40 rfl rfl (pv:=[(0,.agg #[sV y2.Item,iV y2.Heat,iV x5,iV (W (x5 + (W (y2.Time.To - y2.Time.From))))])]) ⟨rfl,(S.tm rfl),trivial⟩ (cs:=[sV y2.Item,iV y2.Heat,iV x5,iV (W (x5 + (W (y2.Time.To - y2.Time.From))))]) (by kernel_rfl) rfl ?_));clear S;intro a w24 b11 hz7 hk17 S
   obtain ⟨hc4,h⟩:=Hu h
   refine Ov Nw Ee.enc_ok S (S.tm rfl) (i:=4) rfl (S.tm rfl) (j:=0) rfl (ys:=[(Ee.mk y2.Item y2.Heat (Gs.mk x5 (W (x5 + (W (y2.Time.To - y2.Time.From))))))]) rfl rfl rfl rfl (by have:=Le hc4;omega) rfl ?_;clear S;intro v3 a w25 hk18 S
   exact Va S rfl rfl fun a S=>Ld (Jc (Tn (Fg (Vq S Gd rfl rfl rfl fun a S=>Vm S rfl rfl fun a S=>Dl (⟨ys2,⟨i2 + 1,(x3 ++ [(Ee.mk y2.Item y2.Heat (Gs.mk x5 (W (x5 + (W (y2.Time.To - y2.Time.From))))))]),v3,⟨_,(hd2).trans (List.append_cons _ _ _),by simp [hi2]⟩,h,S.nf [false,false,true,true,true] rfl ⟨rfl,rfl,rfl,rfl,rfl,rfl,(congrArg (fun z=>some (Value.int .i64 z)) (Hc hd2 hi2 (Jx (Fv Ee.enc_ok hs1)))),trivial⟩⟩,Nat.lt_succ_self _⟩)))))
 clear S h;rintro a w14 ⟨x3,v2,h,S⟩;rw [hj2] at h;clear hj2 j2
 refine Tn (Fr (Vm S rfl rfl fun a S=>Vm S rfl rfl fun a S=>Va S rfl rfl fun a S=>Va S rfl rfl fun a S=>Dl (wp_ret ?_)))
 obtain rfl:=Option.some.inj h
 exact Kx S results65 rfl rfl ⟨_,_,rfl,(Qb S (i:=2) rfl rfl),((hs1).mono S.le_newer)⟩
theorem Ux (w : World) (Ag : Value) (Aj : List Ed) (Aw : Slc (view w []) 5 Ag (Aj.map Ed.enc)) (Bd : Int) (Ab : Value) (Al : List Ey) (Ao : Slc (view w []) 3 Ab (Al.map Ey.enc)) (r : (List Ee) × (List Ee) × Int) (h : Pe Aj Bd Al = some r) :
    Calls prog 41 [Ag,iV Bd,Ab].toArray w (Ret w [] fun τ v _=>∃ u1 : Value,∃ u2 : Value,v = .tuple #[u1,u2,iV r.2.2] ∧ Of τ 40 4 u1 r.1.length (r.1.flatMap Ee.enc) ∧ Of τ 40 4 u2 r.2.1.length (r.2.1.flatMap Ee.enc)):=by
 refine Fe func41 rfl ntmps41 rfl fun a S=>?_
 unfold Pe at h
 replace S:=S.k3 0 1 2 rfl
 refine Fs (Fg ?_)
 iterate 3 (refine Vk S rfl rfl ?_;clear S;intro a S)
 refine Dl (Fs (Fr (Vm S rfl rfl fun a S=>Vm S rfl rfl ?_)));clear S;intro a S
 obtain ⟨r1,hr1,h⟩:=Gf h
 refine Em S (fun _=>Eg (vs:=[Ag,Ab]) ⟨(S.tm rfl),(S.tm rfl),trivial⟩ call64) (Uw _ Ag Aj (Aw.mono (S.le_arg Fh)) Ab Al (Ao.mono (S.le_arg Fh)) _ hr1) rfl ?_;clear S;intro v1 a w1 hv1 hk1 hn1 S
 subst hv1
 refine Va S rfl rfl fun a S=>Dz (Vm S rfl rfl fun a S=>Vq S Mq rfl rfl rfl fun a S=>Dl (Fc h (S.tm rfl) (fun hb1 h=>?_) (fun hb1 h=>?_)))
 ·refine Fr (Vm S rfl rfl fun a S=>Vk S rfl rfl fun a S=>Vk S rfl rfl fun a S=>Va S rfl rfl fun a S=>Dl (wp_ret (Ek ?_)))
  obtain rfl:=Option.some.inj h
  exact Uj S results41 rfl rfl rfl ⟨_,_,rfl,(Jz _ _ _),(Jz _ _ _)⟩
 ·refine wp_skip (Tn (Fs (Fr (Vm S rfl rfl fun a S=>Em S (fun _=>Eg (vs:=[iV Bd]) ⟨(S.tm rfl),trivial⟩ call51) (Pf _ Bd _ rfl) rfl ?_))));clear S;intro v2 a w2 hv2 hk2 hn2 S
  subst hv2
  refine Vu S Jd rfl rfl fun a S=>Ld ?_
  replace S:=S.k4 0 1 2 18 rfl
  refine Tn (Fc h (S.tm rfl) (fun hb2 h=>?_) (fun hb2 h=>?_))
  ·refine Fs (Fg ?_)
   iterate 3 (refine Vk S rfl rfl ?_;clear S;intro a S)
   refine Dl (wp_ret (Ek ?_))
   obtain rfl:=Option.some.inj h
   exact Uj S results41 rfl rfl rfl ⟨_,_,rfl,(Jz _ _ _),(Jz _ _ _)⟩
  ·refine wp_skip (Tn (Fs (Fg ?_)))
   iterate 3 (refine Vm S rfl rfl ?_;clear S;intro a S)
   obtain ⟨r2,hr2,h⟩:=Gf h
   have hz1:=S.keep.size
   refine Em S (fun _=>Eg (vs:=[Ag,iV Bd,Ab]) ⟨(S.tm rfl),(S.tm rfl),(S.tm rfl),trivial⟩ call65) (Yv _ Ag Aj (Aw.mono (S.le_arg Fh)) Bd Ab Al (Ao.mono (S.le_arg Fh)) _ hr2) rfl ?_;clear S;intro v3 a w3 hv3 hk3 hn3 S
   obtain ⟨u1,u2,rfl,ho1,ho2⟩:=hv3
   obtain ⟨φ1,hl1,hm1,S⟩:=S.see' hn3 hz1
   have hs1:=ho1.mono hm1
   have hs2:=ho2.mono hm1
   refine Vm S rfl rfl fun a S=>Vq S Gv rfl rfl rfl fun a S=>Vq S Gv rfl rfl rfl fun a S=>Va S rfl rfl fun a S=>Va S rfl rfl fun a S=>Dl (Fs (Fr (Vm S rfl rfl ?_)));clear S;intro a S
   refine Vm S rfl rfl ?_;clear S;intro a S
   obtain ⟨r3,hr3,h⟩:=Gf h
   refine Em S (fun _=>Eg (vs:=[u1,iV Bd]) ⟨(S.tm rfl),(S.tm rfl),trivial⟩ call33) (Rc _ u1 r2.1 ((Fv Ee.enc_ok hs1).mono (S.le_new Fh)) Bd _ hr3) rfl ?_;clear S;intro v4 a w4 hv4 hk4 hn4 S
   subst hv4
   refine Vq S Kh rfl rfl rfl fun a S=>Ld ?_
   replace S:=S.k3 6 7 29 rfl
   refine Tn (Fc h (S.tm rfl) (fun hb3 h=>?_) (fun hb3 h=>?_))
   ·refine Fs (Fg ?_)
    iterate 3 (refine Vk S rfl rfl ?_;clear S;intro a S)
    refine Dl (wp_ret (Ek ?_))
    obtain rfl:=Option.some.inj h
    exact Uj S results41 rfl rfl rfl ⟨_,_,rfl,(Jz _ _ _),(Jz _ _ _)⟩
   ·refine wp_skip (Tn (Fr (Vm S rfl rfl fun a S=>Vm S rfl rfl fun a S=>Va S rfl rfl fun a S=>Va S rfl rfl fun a S=>Vk S rfl rfl fun a S=>Dl ?_)))
    refine wp_ret ?_
    obtain rfl:=Option.some.inj h
    exact Uj S results41 rfl rfl rfl ⟨_,_,rfl,((hs1).mono S.le_newer),((hs2).mono S.le_newer)⟩
theorem Yw (w : World) (Ag : Value) (Aj : List Ed) (Aw : Slc (view w []) 5 Ag (Aj.map Ed.enc)) (Bd : Int) (Ab : Value) (Al : List Ey) (Ao : Slc (view w []) 3 Ab (Al.map Ey.enc)) (r : (List Ee) × Int) (h : Qy Aj Bd Al = some r) :
    Calls prog 14 [Ag,iV Bd,Ab].toArray w (Ret w [] fun τ v _=>∃ u1 : Value,v = .tuple #[u1,iV r.2] ∧ Of τ 40 4 u1 r.1.length (r.1.flatMap Ee.enc)):=by
 refine Fe func14 rfl ntmps14 rfl fun a S=>?_
 unfold Qy at h
 replace S:=S.k3 0 1 2 rfl
 refine Fr (Vk S rfl rfl fun a S=>Vk S rfl rfl fun a S=>Dl (Fs (Fg ?_)))
 iterate 3 (refine Vm S rfl rfl ?_;clear S;intro a S)
 obtain ⟨r1,hr1,h⟩:=Gf h
 have hz1:=S.keep.size
 refine Em S (fun _=>Eg (vs:=[Ag,iV Bd,Ab]) ⟨(S.tm rfl),(S.tm rfl),(S.tm rfl),trivial⟩ call41) (Ux _ Ag Aj (Aw.mono (S.le_arg Fh)) Bd Ab Al (Ao.mono (S.le_arg Fh)) _ hr1) rfl ?_;clear S;intro v1 a w1 hv1 hk1 hn1 S
 obtain ⟨u1,u2,rfl,ho1,ho2⟩:=hv1
 obtain ⟨φ1,hl1,hm1,S⟩:=S.see' hn1 hz1
 have hs1:=ho1.mono hm1
 have hs2:=ho2.mono hm1
 refine Vm S rfl rfl ?_;clear S;intro a S
 iterate 3 (refine Vq S Gv rfl rfl rfl ?_;clear S;intro a S)
 iterate 3 (refine Va S rfl rfl ?_;clear S;intro a S)
 refine Ld ?_
 replace S:=S.k2 8 10 rfl
 refine Tn (Fr (Vm S rfl rfl fun a S=>Vm S rfl rfl fun a S=>Va S rfl rfl fun a S=>Va S rfl rfl fun a S=>Dl (wp_ret ?_)))
 obtain rfl:=Option.some.inj h
 exact Kx S results14 rfl rfl ⟨_,rfl,((hs1).mono S.le_newer)⟩
set_option maxRecDepth 20000 in
theorem Uy (w : World) (Cm : Value) (Cn : List Ed) (Cc : Slc (view w []) 5 Cm (Cn.map Ed.enc)) (Co : Value) (Cp : List Ed) (Cu : Slc (view w []) 5 Co (Cp.map Ed.enc)) (r : Bool) (h : Ni Cn Cp = some r) :
    Calls prog 15 [Cm,Co].toArray w (Ret w [] fun _ v _=>v = bV r):=by
 refine Fe func15 rfl ntmps15 rfl fun a S=>?_
 unfold Ni at h
 replace S:=S.k2 0 1 rfl
 refine Fr (Vk S rfl rfl fun a S=>Dl (Fs (Fr (Vm S rfl rfl fun a S=>lv S (Fy Jp (S.tm rfl) (Eh Cc)) rfl fun a S=>Vm S rfl rfl ?_))));clear S;intro a S
 refine lv S (Fy Jp (S.tm rfl) (Eh Cu)) rfl fun a S=>Vb S Mq rfl rfl rfl fun a S=>Dl (Fc h (S.tm rfl) (fun hb1 h=>?_) (fun hb1 h=>?_))
 ·refine Fr (Vk S rfl rfl fun a S=>Dl (wp_ret (Ek ?_)))
  obtain rfl:=Option.some.inj h
  exact Fw S results15 rfl rfl
 ·refine wp_skip (Tn (Fs (Fr (Vm S rfl rfl fun a S=>lv S (Fy Jp (S.tm rfl) (Eh Cc)) rfl fun a S=>lv S (Rm rfl) rfl fun a S=>Dl ?_))))
  replace S:=S.k4 0 1 12 13 rfl
  obtain ⟨j1,hj1,h⟩:=Ge h
  refine Ft (fun a w'=>j1 = some r ∧ Sx w [] nov [] [] 26 a w') ?_ ?_
  ·refine wp_block (Hh (fun (ys1 : List Ed) a w'=>∃ i1 : Nat,(∃ dn,Cn = dn ++ ys1 ∧ dn.length = i1) ∧ Iv Cp j1 ys1 i1 = some r ∧ Sx w [] nov [] [(0,Cm),(1,Co),(12,iV (Cn.length : Int)),(13,iV (i1 : Int))] 26 a w') List.length Cn ⟨0,⟨[],rfl,rfl⟩,h,S.nf [] rfl (subR rfl)⟩ ?_)
   clear S h;rintro ys1 a w1 ⟨i1,⟨dn,hd1,hi1⟩,h,S⟩
   cases ys1 with
   | nil =>
    rw [Iv.eq_1] at h
    refine Fr (Vb S Fm rfl rfl rfl fun a S=>Ld ?_)
    replace S:=S.k5 0 1 12 13 14 rfl
    exact Tn (Fs (wp_cond_false ((S.tm rfl).trans (congrArg Value.bool (Ih hd1 hi1))) (wp_exit (Fj (Fj (He (Tn (⟨h,S.nf [] rfl trivial⟩))))))))
   | cons y1 ys1 =>
    rw [Iv.eq_2] at h
    refine Fr (Vb S Fm rfl rfl rfl fun a S=>Ld ?_)
    replace S:=S.k5 0 1 12 13 14 rfl
    refine Tn (Fs (wp_cond_true ((S.tm rfl).trans (congrArg Value.bool (Hb hd1 hi1))) (wp_skip (Tn (Fs (wp_block (Fr (Vm S rfl rfl fun a S=>Va S rfl rfl ?_))))))));clear S;intro a S
    refine Dl (Fs (Gq [] ([]) Tryz.mixed S rfl (by kernel_rfl) ?_));clear S;intro w3 hk1 hsel S
    refine Jn [0,1,2,3,4,5,6,7,8] hsel (by kernel_rfl) rfl ?_
    clear hsel
    refine Fk S rfl (Rm (S.tm rfl)) rfl fun a S=>Fk S rfl (Rm (S.tm rfl)) rfl ?_;clear S;intro a S
    obtain ⟨b1,o1,hm1,hr1⟩:=Ff (a:=a) (x:=.tmp 16) (y:=.tmp 17) (ty:=0) Jp Cc (Ig hd1 hi1) rfl (S.tm rfl) (S.tm rfl)
    refine Fk S rfl (hr1 _) rfl ?_;clear S;intro a S
    clear hr1
    refine Fk S rfl (Hf isAgg54 sizeOf54 (off:=o1) (o:=0) (part:=(Ed.enc y1)) rfl rfl (S.tm rfl) (hm1.at S.emb0)) rfl fun a S=>Fk S rfl (Rm (S.tm rfl)) rfl fun a S=>Fk S rfl (Rm (S.tm rfl)) rfl ?_;clear S;intro a S
    obtain ⟨hc1,h⟩:=Hu h
    obtain ⟨b2,o2,hm2,hr2⟩:=Ff (a:=a) (x:=.tmp 20) (y:=.tmp 21) (ty:=0) Jp Cu (El hc1).1 (El hc1).2 (S.tm rfl) (S.tm rfl)
    refine Fk S rfl (hr2 _) rfl ?_;clear S;intro a S
    clear hr2
    refine Fk S rfl (Hf isAgg54 sizeOf54 (off:=o2) (o:=0) (part:=(Ed.enc (nth Cp (i1 : Int)))) rfl rfl (S.tm rfl) (hm2.at S.emb0)) rfl fun a S=>Fk S rfl (GQ (m:=y1) (n:=(nth Cp (i1 : Int))) (S.tm rfl) (S.tm rfl)) rfl fun a S=>Hx ?_
    replace S:=S.k5 0 1 12 13 24 rfl
    refine Tn (Fc h (S.tm rfl) (fun hb2 h=>?_) (fun hb2 h=>?_))
    ·refine Fr (Vk S rfl rfl fun a S=>Dl (wp_ret (Gu (Ek (Ek (Gu (Ek ?_)))))))
     refine Ek ?_
     obtain rfl:=Option.some.inj h
     exact Fw S results15 rfl rfl
    ·exact wp_skip (Jc (Tn (Fg (Vq S Gd rfl rfl rfl fun a S=>Vm S rfl rfl fun a S=>Dl (⟨ys1,⟨i1 + 1,⟨_,(hd1).trans (List.append_cons _ _ _),by simp [hi1]⟩,h,S.nf [] rfl ⟨rfl,rfl,rfl,(congrArg (fun z=>some (Value.int .i64 z)) (Hc hd1 hi1 (Jx Cc))),trivial⟩⟩,Nat.lt_succ_self _⟩)))))
  clear S h;rintro a w2 ⟨h,S⟩;rw [hj1] at h;clear hj1 j1
  refine Tn (Fr (Vk S rfl rfl fun a S=>Dl (wp_ret ?_)))
  obtain rfl:=Option.some.inj h
  exact Fw S results15 rfl rfl
set_option maxRecDepth 20000 in
theorem Uz (w : World) (Cm : Value) (Cn : List Es) (Cc : Slc (view w []) 3 Cm (Cn.map Es.enc)) (Co : Value) (Cp : List Es) (Cu : Slc (view w []) 3 Co (Cp.map Es.enc)) (r : Bool) (h : Nj Cn Cp = some r) :
    Calls prog 16 [Cm,Co].toArray w (Ret w [] fun _ v _=>v = bV r):=by
 refine Fe func16 rfl ntmps16 rfl fun a S=>?_
 unfold Nj at h
 replace S:=S.k2 0 1 rfl
 refine Fr (Vk S rfl rfl fun a S=>Dl (Fs (Fr (Vm S rfl rfl fun a S=>lv S (Fy Rg (S.tm rfl) (Eh Cc)) rfl fun a S=>Vm S rfl rfl ?_))));clear S;intro a S
 refine lv S (Fy Rg (S.tm rfl) (Eh Cu)) rfl fun a S=>Vb S Mq rfl rfl rfl fun a S=>Dl (Fc h (S.tm rfl) (fun hb1 h=>?_) (fun hb1 h=>?_))
 ·refine Fr (Vk S rfl rfl fun a S=>Dl (wp_ret (Ek ?_)))
  obtain rfl:=Option.some.inj h
  exact Fw S results16 rfl rfl
 ·refine wp_skip (Tn (Fs (Fr (Vm S rfl rfl fun a S=>lv S (Fy Rg (S.tm rfl) (Eh Cc)) rfl fun a S=>lv S (Rm rfl) rfl fun a S=>Dl ?_))))
  replace S:=S.k4 0 1 12 13 rfl
  obtain ⟨j1,hj1,h⟩:=Ge h
  refine Ft (fun a w'=>j1 = some r ∧ Sx w [] nov [] [] 26 a w') ?_ ?_
  ·refine wp_block (Hh (fun (ys1 : List Es) a w'=>∃ i1 : Nat,(∃ dn,Cn = dn ++ ys1 ∧ dn.length = i1) ∧ Iw Cp j1 ys1 i1 = some r ∧ Sx w [] nov [] [(0,Cm),(1,Co),(12,iV (Cn.length : Int)),(13,iV (i1 : Int))] 26 a w') List.length Cn ⟨0,⟨[],rfl,rfl⟩,h,S.nf [] rfl (subR rfl)⟩ ?_)
   clear S h;rintro ys1 a w1 ⟨i1,⟨dn,hd1,hi1⟩,h,S⟩
   cases ys1 with
   | nil =>
    rw [Iw.eq_1] at h
    refine Fr (Vb S Fm rfl rfl rfl fun a S=>Ld ?_)
    replace S:=S.k5 0 1 12 13 14 rfl
    exact Tn (Fs (wp_cond_false ((S.tm rfl).trans (congrArg Value.bool (Ih hd1 hi1))) (wp_exit (Fj (Fj (He (Tn (⟨h,S.nf [] rfl trivial⟩))))))))
   | cons y1 ys1 =>
    rw [Iw.eq_2] at h
    refine Fr (Vb S Fm rfl rfl rfl fun a S=>Ld ?_)
    replace S:=S.k5 0 1 12 13 14 rfl
    refine Tn (Fs (wp_cond_true ((S.tm rfl).trans (congrArg Value.bool (Hb hd1 hi1))) (wp_skip (Tn (Fs (wp_block (Fr (Vm S rfl rfl fun a S=>Va S rfl rfl ?_))))))));clear S;intro a S
    refine Dl (Fs (Gq [] ([]) Tryz.mixed S rfl (by kernel_rfl) ?_));clear S;intro w3 hk1 hsel S
    refine Jn [0,1,2,3,4,5,6,7,8] hsel (by kernel_rfl) rfl ?_
    clear hsel
    refine Fk S rfl (Rm (S.tm rfl)) rfl fun a S=>Fk S rfl (Rm (S.tm rfl)) rfl ?_;clear S;intro a S
    obtain ⟨b1,o1,hm1,hr1⟩:=Ff (a:=a) (x:=.tmp 16) (y:=.tmp 17) (ty:=0) Rg Cc (Ig hd1 hi1) rfl (S.tm rfl) (S.tm rfl)
    refine Fk S rfl (hr1 _) rfl ?_;clear S;intro a S
    clear hr1
    refine Fk S rfl (Hf isAgg59 sizeOf59 (off:=o1) (o:=0) (part:=(Es.enc y1)) rfl rfl (S.tm rfl) (hm1.at S.emb0)) rfl fun a S=>Fk S rfl (Rm (S.tm rfl)) rfl fun a S=>Fk S rfl (Rm (S.tm rfl)) rfl ?_;clear S;intro a S
    obtain ⟨hc1,h⟩:=Hu h
    obtain ⟨b2,o2,hm2,hr2⟩:=Ff (a:=a) (x:=.tmp 20) (y:=.tmp 21) (ty:=0) Rg Cu (El hc1).1 (El hc1).2 (S.tm rfl) (S.tm rfl)
    refine Fk S rfl (hr2 _) rfl ?_;clear S;intro a S
    clear hr2
    refine Fk S rfl (Hf isAgg59 sizeOf59 (off:=o2) (o:=0) (part:=(Es.enc (nth Cp (i1 : Int)))) rfl rfl (S.tm rfl) (hm2.at S.emb0)) rfl fun a S=>Fk S rfl (GR (m:=y1) (n:=(nth Cp (i1 : Int))) (S.tm rfl) (S.tm rfl)) rfl fun a S=>Hx ?_
    replace S:=S.k5 0 1 12 13 24 rfl
    refine Tn (Fc h (S.tm rfl) (fun hb2 h=>?_) (fun hb2 h=>?_))
    ·refine Fr (Vk S rfl rfl fun a S=>Dl (wp_ret (Gu (Ek (Ek (Gu (Ek ?_)))))))
     refine Ek ?_
     obtain rfl:=Option.some.inj h
     exact Fw S results16 rfl rfl
    ·exact wp_skip (Jc (Tn (Fg (Vq S Gd rfl rfl rfl fun a S=>Vm S rfl rfl fun a S=>Dl (⟨ys1,⟨i1 + 1,⟨_,(hd1).trans (List.append_cons _ _ _),by simp [hi1]⟩,h,S.nf [] rfl ⟨rfl,rfl,rfl,(congrArg (fun z=>some (Value.int .i64 z)) (Hc hd1 hi1 (Jx Cc))),trivial⟩⟩,Nat.lt_succ_self _⟩)))))
  clear S h;rintro a w2 ⟨h,S⟩;rw [hj1] at h;clear hj1 j1
  refine Tn (Fr (Vk S rfl rfl fun a S=>Dl (wp_ret ?_)))
  obtain rfl:=Option.some.inj h
  exact Fw S results16 rfl rfl
set_option maxRecDepth 20000 in
theorem Vc (w : World) (Cm : Value) (Cn : List Ey) (Cc : Slc (view w []) 3 Cm (Cn.map Ey.enc)) (Co : Value) (Cp : List Ey) (Cu : Slc (view w []) 3 Co (Cp.map Ey.enc)) (r : Bool) (h : Nk Cn Cp = some r) :
    Calls prog 17 [Cm,Co].toArray w (Ret w [] fun _ v _=>v = bV r):=by
 refine Fe func17 rfl ntmps17 rfl fun a S=>?_
 unfold Nk at h
 replace S:=S.k2 0 1 rfl
 refine Fr (Vk S rfl rfl fun a S=>Dl (Fs (Fr (Vm S rfl rfl fun a S=>lv S (Fy Sk (S.tm rfl) (Eh Cc)) rfl fun a S=>Vm S rfl rfl ?_))));clear S;intro a S
 refine lv S (Fy Sk (S.tm rfl) (Eh Cu)) rfl fun a S=>Vb S Mq rfl rfl rfl fun a S=>Dl (Fc h (S.tm rfl) (fun hb1 h=>?_) (fun hb1 h=>?_))
 ·refine Fr (Vk S rfl rfl fun a S=>Dl (wp_ret (Ek ?_)))
  obtain rfl:=Option.some.inj h
  exact Fw S results17 rfl rfl
 ·refine wp_skip (Tn (Fs (Fr (Vm S rfl rfl fun a S=>lv S (Fy Sk (S.tm rfl) (Eh Cc)) rfl fun a S=>lv S (Rm rfl) rfl fun a S=>Dl ?_))))
  replace S:=S.k4 0 1 12 13 rfl
  obtain ⟨j1,hj1,h⟩:=Ge h
  refine Ft (fun a w'=>j1 = some r ∧ Sx w [] nov [] [] 26 a w') ?_ ?_
  ·refine wp_block (Hh (fun (ys1 : List Ey) a w'=>∃ i1 : Nat,(∃ dn,Cn = dn ++ ys1 ∧ dn.length = i1) ∧ Ix Cp j1 ys1 i1 = some r ∧ Sx w [] nov [] [(0,Cm),(1,Co),(12,iV (Cn.length : Int)),(13,iV (i1 : Int))] 26 a w') List.length Cn ⟨0,⟨[],rfl,rfl⟩,h,S.nf [] rfl (subR rfl)⟩ ?_)
   clear S h;rintro ys1 a w1 ⟨i1,⟨dn,hd1,hi1⟩,h,S⟩
   cases ys1 with
   | nil =>
    rw [Ix.eq_1] at h
    refine Fr (Vb S Fm rfl rfl rfl fun a S=>Ld ?_)
    replace S:=S.k5 0 1 12 13 14 rfl
    exact Tn (Fs (wp_cond_false ((S.tm rfl).trans (congrArg Value.bool (Ih hd1 hi1))) (wp_exit (Fj (Fj (He (Tn (⟨h,S.nf [] rfl trivial⟩))))))))
   | cons y1 ys1 =>
    rw [Ix.eq_2] at h
    refine Fr (Vb S Fm rfl rfl rfl fun a S=>Ld ?_)
    replace S:=S.k5 0 1 12 13 14 rfl
    refine Tn (Fs (wp_cond_true ((S.tm rfl).trans (congrArg Value.bool (Hb hd1 hi1))) (wp_skip (Tn (Fs (wp_block (Fr (Vm S rfl rfl fun a S=>Va S rfl rfl ?_))))))));clear S;intro a S
    refine Dl (Fs (Gq [] ([]) Tryz.mixed S rfl (by kernel_rfl) ?_));clear S;intro w3 hk1 hsel S
    refine Jn [0,1,2,3,4,5,6,7,8] hsel (by kernel_rfl) rfl ?_
    clear hsel
    refine Fk S rfl (Rm (S.tm rfl)) rfl fun a S=>Fk S rfl (Rm (S.tm rfl)) rfl ?_;clear S;intro a S
    obtain ⟨b1,o1,hm1,hr1⟩:=Ff (a:=a) (x:=.tmp 16) (y:=.tmp 17) (ty:=0) Sk Cc (Ig hd1 hi1) rfl (S.tm rfl) (S.tm rfl)
    refine Fk S rfl (hr1 _) rfl ?_;clear S;intro a S
    clear hr1
    refine Fk S rfl (Hf isAgg62 sizeOf62 (off:=o1) (o:=0) (part:=(Ey.enc y1)) rfl rfl (S.tm rfl) (hm1.at S.emb0)) rfl fun a S=>Fk S rfl (Rm (S.tm rfl)) rfl fun a S=>Fk S rfl (Rm (S.tm rfl)) rfl ?_;clear S;intro a S
    obtain ⟨hc1,h⟩:=Hu h
    obtain ⟨b2,o2,hm2,hr2⟩:=Ff (a:=a) (x:=.tmp 20) (y:=.tmp 21) (ty:=0) Sk Cu (El hc1).1 (El hc1).2 (S.tm rfl) (S.tm rfl)
    refine Fk S rfl (hr2 _) rfl ?_;clear S;intro a S
    clear hr2
    refine Fk S rfl (Hf isAgg62 sizeOf62 (off:=o2) (o:=0) (part:=(Ey.enc (nth Cp (i1 : Int)))) rfl rfl (S.tm rfl) (hm2.at S.emb0)) rfl fun a S=>Fk S rfl (GS (m:=y1) (n:=(nth Cp (i1 : Int))) (S.tm rfl) (S.tm rfl)) rfl fun a S=>Hx ?_
    replace S:=S.k5 0 1 12 13 24 rfl
    refine Tn (Fc h (S.tm rfl) (fun hb2 h=>?_) (fun hb2 h=>?_))
    ·refine Fr (Vk S rfl rfl fun a S=>Dl (wp_ret (Gu (Ek (Ek (Gu (Ek ?_)))))))
     refine Ek ?_
     obtain rfl:=Option.some.inj h
     exact Fw S results17 rfl rfl
    ·exact wp_skip (Jc (Tn (Fg (Vq S Gd rfl rfl rfl fun a S=>Vm S rfl rfl fun a S=>Dl (⟨ys1,⟨i1 + 1,⟨_,(hd1).trans (List.append_cons _ _ _),by simp [hi1]⟩,h,S.nf [] rfl ⟨rfl,rfl,rfl,(congrArg (fun z=>some (Value.int .i64 z)) (Hc hd1 hi1 (Jx Cc))),trivial⟩⟩,Nat.lt_succ_self _⟩)))))
  clear S h;rintro a w2 ⟨h,S⟩;rw [hj1] at h;clear hj1 j1
  refine Tn (Fr (Vk S rfl rfl fun a S=>Dl (wp_ret ?_)))
  obtain rfl:=Option.some.inj h
  exact Fw S results17 rfl rfl
theorem Ug (w : World) (Bt : Int) (r : Bool) (h : Sd Bt = r) :
    Calls prog 92 [iV Bt].toArray w (Ret w [] fun _ v _=>v = bV r):=by
 refine Fe func92 rfl ntmps92 rfl fun a S=>?_
 unfold Sd at h
 replace S:=S.k1 0 rfl
 refine Fr (Vk S rfl rfl fun a S=>Dz (Vm S rfl rfl fun a S=>lv S (Zo (S.tm rfl) rfl (by decide)) rfl fun a S=>Vq S Mc rfl rfl rfl fun a S=>Vm S rfl rfl ?_));clear S;intro a S
 refine Jy 9 (fun a w'=>Keep [] w w' ∧ Sx w [] nov [] [(15,bV ((decide ((Int.tmod Bt 4) = 0)) && ((!decide ((Int.tmod Bt 100) = 0)) || (decide ((Int.tmod Bt 400) = 0)))))] 16 a w') ?_ ?_
 ·rcases Bool.eq_false_or_eq_true (decide ((Int.tmod Bt 4) = 0)) with hb1 | hb1
  ·refine Er S rfl rfl rfl hb1 (Vm S rfl rfl fun a S=>Er S rfl rfl rfl hb1 (lv S (Zo (S.tm rfl) rfl (by decide)) rfl fun a S=>Er S rfl rfl rfl hb1 (Vq S Mq rfl rfl rfl fun a S=>Er S rfl rfl rfl hb1 (Vm S rfl rfl fun a S=>Jy 4 (fun a w'=>Keep [] w w' ∧ Sx w [] nov [] [(6,bV (decide ((Int.tmod Bt 4) = 0))),(14,bV ((!decide ((Int.tmod Bt 100) = 0)) || (decide ((Int.tmod Bt 400) = 0))))] 16 a w') ?_ ?_))))
   ·rcases Bool.eq_false_or_eq_true (!decide ((Int.tmod Bt 100) = 0)) with hb2 | hb2
    ·iterate 3 (refine Iy S rfl rfl rfl (Nu hb2) rfl ?_ rfl;clear S;intro a S)
     exact Er S rfl rfl rfl hb1 (lv S (Od (decide ((Int.tmod Bt 400) = 0)) hb2 (S.tm rfl) rfl) rfl fun a S=>Dl (⟨Keep.refl _ _,S.nf [] rfl (subR rfl)⟩))
    ·exact Er S rfl rfl rfl hb2 (Vm S rfl rfl fun a S=>Er S rfl rfl rfl hb2 (lv S (Zo (S.tm rfl) rfl (by decide)) rfl fun a S=>Er S rfl rfl rfl hb2 (Vq S Mc rfl rfl rfl fun a S=>Er S rfl rfl rfl hb1 (lv S (Oe hb2 (S.tm rfl) (S.tm rfl)) rfl fun a S=>Dl (⟨Keep.refl _ _,S.nf [] rfl (subR rfl)⟩)))))
   clear S;rintro a w2 ⟨hk1,S⟩
   exact lv S (Ju hb1 (S.tm rfl) (S.tm rfl)) rfl fun a S=>Dl (⟨hk1,S.nf [] rfl ⟨rfl,trivial⟩⟩)
  ·iterate 4 (refine Iy S rfl rfl rfl (Lk hb1) rfl ?_ rfl;clear S;intro a S)
   iterate 3 (refine CC S rfl rfl rfl rfl ?_;clear S;intro a S)
   exact Iy S rfl rfl rfl (Lk hb1) rfl (fun a S=>lv S (Jv ((!decide ((Int.tmod Bt 100) = 0)) || (decide ((Int.tmod Bt 400) = 0))) hb1 (S.tm rfl) rfl) rfl fun a S=>Dl (⟨Keep.refl _ _,S.nf [] rfl ⟨rfl,trivial⟩⟩)) rfl
 clear S;rintro a w1 ⟨hk2,S⟩
 refine Va S rfl rfl fun a S=>Dl (wp_ret ?_)
 subst h
 exact Fw S results92 rfl rfl
theorem Rz (w : World) (Bt : Int) (Cx : Int) (r : Int) (h : Km Bt Cx = r) :
    Calls prog 66 [iV Bt,iV Cx].toArray w (Ret w [] fun _ v _=>v = iV r):=by
 refine Fe func66 rfl ntmps66 rfl fun a S=>?_
 unfold Km at h
 replace S:=S.k2 0 1 rfl
 refine Fr (Vk S rfl rfl fun a S=>Dl (Fs (Fr (Vm S rfl rfl fun a S=>Dl ?_))))
 refine wp_block (Fr (Vq S Mc rfl rfl rfl fun a S=>Va S rfl rfl fun a S=>Dl (Fc h (S.tm rfl) (fun hb1 h=>?_) (fun hb1 h=>?_))))
 ·refine Fs (Fr (Vm S rfl rfl fun a S=>Em S (fun _=>Eg (vs:=[iV Bt]) ⟨(S.tm rfl),trivial⟩ call92) (Ug _ Bt _ rfl) rfl ?_));clear S;intro v1 a w1 hv1 hk1 hn1 S
  subst hv1
  refine Dl (Fc h (S.tm rfl) (fun hb2 h=>?_) (fun hb2 h=>?_))
  ·refine Fr (Vk S rfl rfl fun a S=>Dl (wp_ret (Ek (Gu (Ek ?_)))))
   subst h
   exact Fw S results66 rfl rfl
  ·refine wp_skip (Tn (Fr (Vk S rfl rfl fun a S=>Dl (wp_ret (Gu (Ek ?_))))))
   subst h
   exact Fw S results66 rfl rfl
 ·refine Fs (Fr (Vq S Mc rfl rfl rfl fun a S=>Va S rfl rfl fun a S=>Dl ?_))
  obtain ⟨j1,hj1,h⟩:=Ge h
  refine Ft (fun a w'=>∃ x1 : Bool,j1 x1 = r ∧ Sx w [] nov [] [(10,bV x1)] 15 a w') ?_ ?_
  ·refine Fc h (S.tm rfl) (fun hb3 h=>?_) (fun hb3 h=>?_)
   ·exact wp_skip (Tn (⟨decide (Cx = 4),h,S.nf [] rfl ⟨rfl,trivial⟩⟩))
   ·refine Fr (Vq S Mc rfl rfl rfl fun a S=>Va S rfl rfl fun a S=>Dl ?_)
    obtain ⟨j2,hj2,h⟩:=Ge h
    refine Ft (fun a w'=>∃ x2 : Bool,j2 x2 = r ∧ Sx w [] nov [] [(10,bV x2)] 15 a w') ?_ ?_
    ·refine Fc h (S.tm rfl) (fun hb4 h=>?_) (fun hb4 h=>?_)
     ·exact wp_skip (Tn (⟨decide (Cx = 6),h,S.nf [] rfl ⟨rfl,trivial⟩⟩))
     ·refine Fr (Vq S Mc rfl rfl rfl fun a S=>Va S rfl rfl fun a S=>Dl ?_)
      obtain ⟨j3,hj3,h⟩:=Ge h
      refine Ft (fun a w'=>∃ x3 : Bool,j3 x3 = r ∧ Sx w [] nov [] [(10,bV x3)] 15 a w') ?_ ?_
      ·refine Fc h (S.tm rfl) (fun hb5 h=>?_) (fun hb5 h=>?_)
       ·exact wp_skip (Tn (⟨decide (Cx = 9),h,S.nf [] rfl ⟨rfl,trivial⟩⟩))
       ·exact Fg (Vq S Mc rfl rfl rfl fun a S=>Va S rfl rfl fun a S=>Dl (⟨decide (Cx = 11),h,S.nf [] rfl ⟨rfl,trivial⟩⟩))
      clear S h;rintro a w4 ⟨x3,h,S⟩;rw [hj3] at h;clear hj3 j3
      exact Tn (⟨x3,h,S.nf [] rfl ⟨rfl,trivial⟩⟩)
    clear S h;rintro a w3 ⟨x2,h,S⟩;rw [hj2] at h;clear hj2 j2
    exact Tn (⟨x2,h,S.nf [] rfl ⟨rfl,trivial⟩⟩)
  clear S h;rintro a w2 ⟨x1,h,S⟩;rw [hj1] at h;clear hj1 j1
  refine Tn (Fc h (S.tm rfl) (fun hb6 h=>?_) (fun hb6 h=>?_))
  ·refine Fr (Vk S rfl rfl fun a S=>Dl (wp_ret (Gu (Ek ?_))))
   subst h
   exact Fw S results66 rfl rfl
  ·refine wp_skip (Jc (Tn (Fr (Vk S rfl rfl fun a S=>Dl (wp_ret ?_)))))
   subst h
   exact Fw S results66 rfl rfl
theorem Sb (w : World) (Bt : Int) (r : Int) (h : Mp Bt = r) :
    Calls prog 67 [iV Bt].toArray w (Ret w [] fun _ v _=>v = iV r):=by
 refine Fe func67 rfl ntmps67 rfl fun a S=>?_
 unfold Mp at h
 replace S:=S.k1 0 rfl
 refine Fr (Vk S rfl rfl fun a S=>Dl (Fs (Fr (Vm S rfl rfl fun a S=>Em S (fun _=>Eg (vs:=[iV Bt]) ⟨(S.tm rfl),trivial⟩ call92) (Ug _ Bt _ rfl) rfl ?_))));clear S;intro v1 a w1 hv1 hk1 hn1 S
 subst hv1
 refine Dl (Fc h (S.tm rfl) (fun hb1 h=>?_) (fun hb1 h=>?_))
 ·refine Fr (Vk S rfl rfl fun a S=>Dl (wp_ret (Ek ?_)))
  subst h
  exact Fw S results67 rfl rfl
 ·refine wp_skip (Tn (Fr (Vk S rfl rfl fun a S=>Dl (wp_ret ?_))))
  subst h
  exact Fw S results67 rfl rfl
theorem Yi (w : World) (Bv : Int) (r : Bool) (h : St Bv = r) :
    Calls prog 68 [iV Bv].toArray w (Ret w [] fun _ v _=>v = bV r):=by
 refine Fe func68 rfl ntmps68 rfl fun a S=>?_
 unfold St at h
 replace S:=S.k1 0 rfl
 refine Fr (Vk S rfl rfl fun a S=>Dz (Vm S rfl rfl fun a S=>Em S (fun _=>Eg (vs:=[iV Bv,iV (-40000),iV 4000]) ⟨(S.tm rfl),rfl,rfl,trivial⟩ call32) (Gk _ Bv (-40000) 4000 _ rfl) rfl ?_));clear S;intro v1 a w1 hv1 hk1 hn1 S
 subst hv1
 refine Va S rfl rfl fun a S=>Dl (wp_ret ?_)
 subst h
 exact Fw S results68 rfl rfl
end Go.Proofs.YtcgffkkagmkhkaaGreatDoor
