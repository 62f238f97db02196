/- Each Go function computes its plain twin,by program. -/
import Derived.Test.YtombbefepcipcaaGreatDoorWk1
namespace Go.Proofs.YtombbefepcipcaaGreatDoor
open Go
open Go.Proofs.Tryz
set_option maxHeartbeats 8000000 in
set_option maxRecDepth 20000 in
theorem Yc (self : (List An) → Int → (List (List Dw)) → Int → (List Int) → Int → Int → Bool → (List Int) → (List Int) → Option ((List Int) × Int × Int × Bool)) (hself : ∀ (w : World) (X : List Nat) (Ae : Nat) (U : Value) (Al : List An) (_ : Slc (view w X) 5 U (Al.map An.enc)) (V : Int) (O : Value) (Bg : List (List Dw)) (Bi : List RS) (_ : Slc (view w X) 1 O (Bi.map RS.enc)) (_ : Ii (Rh (view w X)) Bg Bi) (Ab : Int) (Aj : Value) (Ar : List Int) (_ : (LEnt.own Aj 3 1 Ar.length (Ar.flatMap eInt)).holds w) (Aq : Int) (As : Int) (Au : Bool) (_ : (LEnt.blk Ae [U,iV V,O,iV Ab,Aj,iV Aq,iV As,bV Au] 65).holds w) (Ag : Value) (Ai : List Int) (_ : (LEnt.own Ag 3 1 Ai.length (Ai.flatMap eInt)).holds w) (Ay : Value) (Ap : List Int) (_ : Slc (view w X) 1 Ay (Ap.map eInt)) (_ : X.Nodup) (_ : X = fps [.blk Ae [U,iV V,O,iV Ab,Aj,iV Aq,iV As,bV Au] 65,.own Aj 3 1 Ar.length (Ar.flatMap eInt),.own Ag 3 1 Ai.length (Ai.flatMap eInt)]) (r : (List Int) × Int × Int × Bool) (_ : self Al V Bg Ab Ar Aq As Au Ai Ap = some r),
    Calls prog 26 [.pointer (some ⟨Ae,0,none⟩),Ag,Ay].toArray w (Ret w X fun _ v w'=>∃ y1 : Value,Grp w w' X [.blk Ae [U,iV V,O,iV Ab,y1,iV r.2.1,iV r.2.2.1,bV r.2.2.2] 65,.own y1 3 1 r.1.length (r.1.flatMap eInt)] ∧ v = .tuple #[])) (w : World) (X : List Nat) (Ae : Nat) (U : Value) (Al : List An) (Bk : Slc (view w X) 5 U (Al.map An.enc)) (V : Int) (O : Value) (Bg : List (List Dw)) (Bi : List RS) (Bm : Slc (view w X) 1 O (Bi.map RS.enc)) (Bn : Ii (Rh (view w X)) Bg Bi) (Ab : Int) (Aj : Value) (Ar : List Int) (Cx : (LEnt.own Aj 3 1 Ar.length (Ar.flatMap eInt)).holds w) (Aq : Int) (As : Int) (Au : Bool) (Do : (LEnt.blk Ae [U,iV V,O,iV Ab,Aj,iV Aq,iV As,bV Au] 65).holds w) (Ag : Value) (Ai : List Int) (Dp : (LEnt.own Ag 3 1 Ai.length (Ai.flatMap eInt)).holds w) (Ay : Value) (Ap : List Int) (Cd : Slc (view w X) 1 Ay (Ap.map eInt)) (hXn : X.Nodup) (hXe : X = fps [.blk Ae [U,iV V,O,iV Ab,Aj,iV Aq,iV As,bV Au] 65,.own Aj 3 1 Ar.length (Ar.flatMap eInt),.own Ag 3 1 Ai.length (Ai.flatMap eInt)]) (r : (List Int) × Int × Int × Bool) (h : Rf self Al V Bg Ab Ar Aq As Au Ai Ap = some r) :
    Calls prog 26 [.pointer (some ⟨Ae,0,none⟩),Ag,Ay].toArray w (Ret w X fun _ v w'=>∃ y1 : Value,Grp w w' X [.blk Ae [U,iV V,O,iV Ab,y1,iV r.2.1,iV r.2.2.1,bV r.2.2.2] 65,.own y1 3 1 r.1.length (r.1.flatMap eInt)] ∧ v = .tuple #[]):=by
 refine Kz X [.blk Ae [U,iV V,O,iV Ab,Aj,iV Aq,iV As,bV Au] 65,.own Aj 3 1 Ar.length (Ar.flatMap eInt),.own Ag 3 1 Ai.length (Ai.flatMap eInt)] func26 rfl ntmps26 rfl (fun e he=>by simp only [List.mem_cons,List.not_mem_nil,or_false] at he;rcases he with rfl | rfl | rfl <;> assumption) (by rw [← hXe];exact hXn) (fun b hb=>by rw [hXe];exact hb) fun a S=>?_
 unfold Rf at h
 replace S:=(S.nl [.blk Ae [U,iV V,O,iV Ab,Aj,iV Aq,iV As,bV Au] 65,.own Aj 3 1 Ar.length (Ar.flatMap eInt),.own Ag 3 1 Ai.length (Ai.flatMap eInt)] [true,true,true] rfl).k3 0 1 2 rfl
 refine Fs (Fr (Vm S rfl rfl fun a S=>lv S (Gc Js (S.tm rfl) (Dy Cd)) rfl fun a S=>Vq S Kp rfl rfl rfl fun a S=>Dl (Fc h (S.tm rfl) (fun hb1 h=>?_) (fun hb1 h=>?_))))
 ·refine Fs (Fr (Vm S rfl rfl fun a S=>lv S (Gc Js (S.tm rfl) (Dy Cd)) rfl fun a S=>lv S (Rm rfl) rfl fun a S=>Dl ?_))
  replace S:=S.k6 0 1 2 24 25 26 rfl
  obtain ⟨j1,hj1,h⟩:=Gh h
  refine Fv (fun a w'=>∃ x1 : Int,∃ x2 : Int,∃ x3 : Bool,∃ x4 : List Int,∃ φ1 : View,∃ v1 : Value,j1 x1 x2 x3 x4 = some r ∧ View.le nov φ1 ∧ Sx w X φ1 [.blk Ae [U,iV V,O,iV Ab,v1,iV x1,iV x2,bV x3] 65,.own v1 3 1 x4.length (x4.flatMap eInt),.own Ag 3 1 Ai.length (Ai.flatMap eInt)] [] 208 a w') ?_ ?_
  ·refine wp_block (Hr (fun (ys1 : List Int) a w'=>∃ i1 : Nat,∃ x1 : Int,∃ x2 : Int,∃ x3 : Bool,∃ x4 : List Int,∃ φ1 : View,∃ v1 : Value,(∃ dn,Ap = dn ++ ys1 ∧ dn.length = i1) ∧ Kh Ai Ap self Al V Bg Ab j1 ys1 i1 x1 x2 x3 x4 = some r ∧ View.le nov φ1 ∧ Sx w X φ1 [.blk Ae [U,iV V,O,iV Ab,v1,iV x1,iV x2,bV x3] 65,.own v1 3 1 x4.length (x4.flatMap eInt),.own Ag 3 1 Ai.length (Ai.flatMap eInt)] [(0,.pointer (some ⟨Ae,0,none⟩)),(1,Ag),(2,Ay),(24,Ay),(25,iV (Ap.length : Int)),(26,iV (i1 : Int))] 208 a w') List.length Ap ⟨0,Aq,As,Au,Ar,nov,Aj,⟨[],rfl,rfl⟩,h,View.le_refl _,S.nf [true,true,true] rfl (subR rfl)⟩ ?_)
   clear S h;rintro ys1 a w1 ⟨i1,x1,x2,x3,x4,φ1,v1,⟨dn,hd1,hi1⟩,h,hl1,S⟩
   cases ys1 with
   | nil =>
    rw [Kh.eq_1] at h
    refine Fr (Vb S Fu rfl rfl rfl fun a S=>Ld ?_)
    replace S:=S.k7 0 1 2 24 25 26 27 rfl
    exact Tn (Fs (wp_cond_false ((S.tm rfl).trans (congrArg Value.bool (Jd hd1 hi1))) (wp_exit (Fj (Fj (Hp (Tn (⟨x1,x2,x3,x4,φ1,v1,h,hl1,S.nf [true,true,true] rfl trivial⟩))))))))
   | cons y1 ys1 =>
    rw [Kh.eq_2] at h
    refine Fr (Vb S Fu rfl rfl rfl fun a S=>Ld ?_)
    replace S:=S.k7 0 1 2 24 25 26 27 rfl
    refine Tn (Fs (wp_cond_true ((S.tm rfl).trans (congrArg Value.bool (Hx hd1 hi1))) (wp_skip (Tn (Fs (wp_block (Fr (Vm S rfl rfl ?_))))))));clear S;intro a S
    obtain ⟨b1,o1,hm1,hr1⟩:=Fo (a:=a) (x:=.tmp 24) (y:=.tmp 26) (ty:=0) Js Cd (Il hd1 hi1) rfl (S.tm rfl) (S.tm rfl)
    refine lv S (hr1 _) rfl ?_;clear S;intro a S
    clear hr1
    refine lv S (Ha isAgg3 (off:=o1) (o:=0) (S.tm rfl) (hm1.at S.emb0) rfl) rfl fun a S=>Va S rfl rfl fun a S=>Va S rfl rfl fun a S=>Dl ?_
    obtain ⟨j2,hj2,h⟩:=Gh h
    refine Fv (fun a w'=>∃ x5 : Int,∃ x6 : Int,∃ x7 : Bool,∃ x8 : List Int,∃ φ2 : View,∃ v2 : Value,j2 x5 x6 x7 x8 = some r ∧ View.le φ1 φ2 ∧ Sx w X φ2 [.blk Ae [U,iV V,O,iV Ab,v2,iV x5,iV x6,bV x7] 65,.own v2 3 1 x8.length (x8.flatMap eInt),.own Ag 3 1 Ai.length (Ai.flatMap eInt)] [(0,.pointer (some ⟨Ae,0,none⟩)),(1,Ag),(2,Ay),(24,Ay),(25,iV (Ap.length : Int)),(26,iV (i1 : Int))] 208 a w') ?_ ?_
    ·obtain ⟨r1,hr2,h⟩:=Gs h
     obtain ⟨hc1,h⟩:=Hs h
     obtain ⟨hc2,h⟩:=Hs h
     obtain ⟨hc3,h⟩:=Hs h
     obtain ⟨r2,hr6,h⟩:=Gs h
     obtain ⟨r3,hr7,h⟩:=Gs h
     refine Gz [] (v1.ownBlock.toList ++ [Ae]) Tryz.mixed S rfl (by kernel_rfl) ?_;clear S;intro w10 hk7 hsel S
     refine Ec 0 S hsel rfl rfl rfl (by kernel_rfl) (by kernel_rfl) rfl (fun _ hw=>(Rm (S.tm rfl))) fun a S=>Ec 1 S hsel rfl rfl rfl (by kernel_rfl) (by kernel_rfl) rfl (fun _ hw=>(Rm (S.tm rfl))) fun a S=>Ec 3 S hsel rfl rfl rfl (by kernel_rfl) (by kernel_rfl) rfl (fun _ hw=>(Rm (S.tm rfl))) fun a S=>Ec 6 S hsel rfl rfl rfl (by kernel_rfl) (by kernel_rfl) rfl (fun _ hw=>(Rm (S.tm rfl))) fun a S=>Ec 7 S hsel rfl rfl rfl (by kernel_rfl) (by kernel_rfl) rfl (fun _ hw=>(Rm (S.tm rfl))) ?_;clear S;intro a S
     obtain ⟨v10,hs4,hr8⟩:=Ze (a:=a) (x:=.tmp 37) (y':=.tmp 38) (ty:=22) Js Cd (S.tm rfl) (S.tm rfl) hc2
     refine Ec 8 S hsel rfl rfl rfl (by kernel_rfl) (by kernel_rfl) rfl (fun _ hw=>(hr8 _)) ?_;clear S;intro a S
     clear hr8
     refine Ec 9 S hsel rfl rfl rfl (by kernel_rfl) (by kernel_rfl) rfl (fun _ hw=>(Rm (S.tm rfl))) fun a S=>Ec 10 S hsel rfl rfl rfl (by kernel_rfl) (by kernel_rfl) rfl (fun _ hw=>(Rm (S.tm rfl))) fun a S=>Ec 11 S hsel rfl rfl rfl (by kernel_rfl) (by kernel_rfl) rfl (fun _ hw=>(Gf (S.tm rfl) rfl)) ?_;clear S;intro a S
     obtain ⟨v11,hs5,hr9⟩:=II (a:=a) (x:=.tmp 40) (y:=.tmp 42) (ty:=22) Js Cd (S.tm rfl) (S.tm rfl) hc3
     refine Ec 12 S hsel rfl rfl rfl (by kernel_rfl) (by kernel_rfl) rfl (fun _ hw=>(hr9 _)) ?_;clear S;intro a S
     clear hr9
     refine d_loud3 2 4 13 (by kernel_rfl) rfl rfl rfl ?_ ?_ ?_
     ·have hz5:=S.keep.size
      refine Eg S (fun _=>Eb (vs:=[Ag]) ⟨(S.tm rfl),trivial⟩ call43) (Lh _ Ag Ai (Kt Ge S (i:=2) rfl (Gm (e':=.own Ag 3 1 Ai.length (Ai.flatMap eInt)))) _ hr2) rfl ?_;clear S;intro v12 a w11 hv4 hk8 hn4 S
      replace S:=S.take hn4 hz5 hv4
      refine Ld (Mx (v12.ownBlock.toList ++ (v1.ownBlock.toList ++ [Ae])) (Keep.none hk8) (DU hv4) (We 4 13 (by kernel_rfl) rfl rfl ?_ ?_))
      ·refine Ff S underlying22 sizeOf3 zeroValue3 rfl rfl (pv:=[(0,iV y1)]) ⟨rfl,(S.tm rfl),trivial⟩ (cs:=[iV y1]) (by kernel_rfl) rfl ?_;clear S;intro a w12 b4 hz6 hk9 S
       refine Ld (Gr (Keep.none hk9) (We 5 13 (by kernel_rfl) rfl rfl ?_ ?_))
       ·refine Lv Js Ge S (S.tm rfl) (i:=1) rfl (S.tm rfl) (j:=0) rfl (ys:=[y1]) rfl rfl rfl rfl (by have:=Kl hc1;omega) rfl ?_;clear S;intro v13 a w13 hk10 hf1 S
        refine Ld ?_
        refine Mx (v13.ownBlock.toList ++ (v1.ownBlock.toList ++ [Ae])) (hk10.sub (by intro y hy;simp at hy ⊢;simp [hy])) (by intro y hy;simp at hy ⊢;exact (hy.elim (fun hy=>(by rcases hf1 y hy with hy | hy <;> simp [hy])) (fun hy=>(hy.elim (fun hy=>(by simp [hy])) (fun hy=>(by simp [hy])))))) ?_
        refine Fy 13 (by kernel_rfl) rfl (Ff S underlying133 sizeOf22 zeroValue22 rfl rfl (pv:=[(0,v10),(1,v11)]) ⟨rfl,(S.tm rfl),rfl,(S.tm rfl),trivial⟩ (cs:=[v10,v11]) (Qj (Dy hs4) (Dy hs5)) rfl ?_);clear S;intro a w14 b5 hz7 hk11 S
        refine Ld (Gr (Keep.none hk11) (Fy 14 (by kernel_rfl) rfl ?_))
        have hr10 : Ii (Qn (join (view w X) φ1)) ([cut Ap 0 (i1 : Int),cut Ap (W ((i1 : Int) + 1)) Ap.length] : List (List Int)) ([⟨v10,Ei.one (Dy hs4)⟩,⟨v11,Ei.one (Dy hs5)⟩] : List RS):=(Ii.cons (hs4.mono (le_join_left _ _)) (Ii.cons (hs5.mono (le_join_left _ _)) Ii.nil))
        replace S:=S.litOwn (i:=0) (xs:=([⟨v10,Ei.one (Dy hs4)⟩,⟨v11,Ei.one (Dy hs5)⟩] : List RS)) rfl RS.enc_ok rfl rfl rfl
        replace S:=S.nk [.own (.slice (some ⟨b5,0,none⟩) 2 2) 22 1 ([⟨v10,Ei.one (Dy hs4)⟩,⟨v11,Ei.one (Dy hs5)⟩] : List RS).length (([⟨v10,Ei.one (Dy hs4)⟩,⟨v11,Ei.one (Dy hs5)⟩] : List RS).flatMap RS.enc),.blk b4 [iV y1] 3,.own v13 3 1 (r1 ++ [y1]).length ((r1 ++ [y1]).flatMap eInt),.blk Ae [U,iV V,O,iV Ab,v1,iV x1,iV x2,bV x3] 65,.own v1 3 1 x4.length (x4.flatMap eInt),.own Ag 3 1 Ai.length (Ai.flatMap eInt)] [(0,.pointer (some ⟨Ae,0,none⟩)),(1,Ag),(2,Ay),(6,iV (i1 : Int)),(7,iV y1),(24,Ay),(25,iV (Ap.length : Int)),(26,iV (i1 : Int)),(27,bV (decide ((i1 : Int) < (Ap.length : Int)))),(28,iV (i1 : Int)),(29,.pointer (some ⟨b1,o1,none⟩)),(30,iV y1),(31,.pointer (some ⟨Ae,0,none⟩)),(32,Ag),(33,v12),(34,iV y1),(35,.slice (some ⟨b4,0,none⟩) 1 1),(36,v13),(37,Ay),(38,iV (i1 : Int)),(39,v10),(40,Ay),(41,iV (i1 : Int)),(42,iV (W ((i1 : Int) + 1))),(43,v11),(44,(.slice (some ⟨b5,0,none⟩) 2 2))] [] rfl (subR rfl)
        have hz8:=S.keep.size
        refine Eg S (fun _=>Eb (vs:=[(.slice (some ⟨b5,0,none⟩) 2 2)]) ⟨(S.tm rfl),trivial⟩ call44) (It _ (.slice (some ⟨b5,0,none⟩) 2 2) ([cut Ap 0 (i1 : Int),cut Ap (W ((i1 : Int) + 1)) Ap.length] : List (List Int)) ([⟨v10,Ei.one (Dy hs4)⟩,⟨v11,Ei.one (Dy hs5)⟩] : List RS) (Kt RS.enc_ok S (i:=0) rfl (Gm (e':=.own (.slice (some ⟨b5,0,none⟩) 2 2) 22 1 ([⟨v10,Ei.one (Dy hs4)⟩,⟨v11,Ei.one (Dy hs5)⟩] : List RS).length (([⟨v10,Ei.one (Dy hs4)⟩,⟨v11,Ei.one (Dy hs5)⟩] : List RS).flatMap RS.enc)))) (Ry (Rx (S.le_arg Fk) (S.le_new Fk)) hr10) _ hr6) rfl ?_;clear S;intro v14 a w15 hv5 hk12 hn5 S
        obtain ⟨φ4,hl4,hm3,S⟩:=S.see' hn5 hz8
        have hs6:=hv5.mono hm3
        refine Ld (Gr (Keep.none hk12) (Fy 15 (by kernel_rfl) rfl (Pb [3,4,2] [0,1,5] (Ls:=[.blk Ae [U,iV V,O,iV Ab,v1,iV x1,iV x2,bV x3] 65,.own v1 3 1 x4.length (x4.flatMap eInt),.own v13 3 1 (r1 ++ [y1]).length ((r1 ++ [y1]).flatMap eInt)]) (Lr:=[.own (.slice (some ⟨b5,0,none⟩) 2 2) 22 1 ([⟨v10,Ei.one (Dy hs4)⟩,⟨v11,Ei.one (Dy hs5)⟩] : List RS).length (([⟨v10,Ei.one (Dy hs4)⟩,⟨v11,Ei.one (Dy hs5)⟩] : List RS).flatMap RS.enc),.blk b4 [iV y1] 3,.own Ag 3 1 Ai.length (Ai.flatMap eInt)]) (Y:=[Ae] ++ (v1.ownBlock.toList ++ v13.ownBlock.toList)) S rfl rfl rfl (by simp [Im,Jn,LEnt.fp]) (fun _=>Eb (vs:=[.pointer (some ⟨Ae,0,none⟩),v13,v14]) ⟨(S.tm rfl),(S.tm rfl),(S.tm rfl),trivial⟩ call26) (hself _ ([Ae] ++ (v1.ownBlock.toList ++ v13.ownBlock.toList)) Ae U Al (Bk.mono (S.le_arg (Fq (Er (i:=3) (e:=.blk Ae [U,iV V,O,iV Ab,v1,iV x1,iV x2,bV x3] 65) rfl) (Fq (Er (i:=4) (e:=.own v1 3 1 x4.length (x4.flatMap eInt)) rfl) (Er (i:=2) (e:=.own v13 3 1 (r1 ++ [y1]).length ((r1 ++ [y1]).flatMap eInt)) rfl))))) V O Bg Bi (Bm.mono (S.le_arg (Fq (Er (i:=3) (e:=.blk Ae [U,iV V,O,iV Ab,v1,iV x1,iV x2,bV x3] 65) rfl) (Fq (Er (i:=4) (e:=.own v1 3 1 x4.length (x4.flatMap eInt)) rfl) (Er (i:=2) (e:=.own v13 3 1 (r1 ++ [y1]).length ((r1 ++ [y1]).flatMap eInt)) rfl))))) (Oi (S.le_arg (Fq (Er (i:=3) (e:=.blk Ae [U,iV V,O,iV Ab,v1,iV x1,iV x2,bV x3] 65) rfl) (Fq (Er (i:=4) (e:=.own v1 3 1 x4.length (x4.flatMap eInt)) rfl) (Er (i:=2) (e:=.own v13 3 1 (r1 ++ [y1]).length ((r1 ++ [y1]).flatMap eInt)) rfl)))) Bn) Ab v1 x4 (S.holds _ (List.mem_of_getElem? (i:=4) rfl)) x1 x2 x3 (S.holds _ (List.mem_of_getElem? (i:=3) rfl)) v13 (r1 ++ [y1]) (S.holds _ (List.mem_of_getElem? (i:=2) rfl)) v14 r2 ((Fw Ge hs6).mono (S.le_new (Fq (Er (i:=3) (e:=.blk Ae [U,iV V,O,iV Ab,v1,iV x1,iV x2,bV x3] 65) rfl) (Fq (Er (i:=4) (e:=.own v1 3 1 x4.length (x4.flatMap eInt)) rfl) (Er (i:=2) (e:=.own v13 3 1 (r1 ++ [y1]).length ((r1 ++ [y1]).flatMap eInt)) rfl))))) (S.ndg [3,4,2] [0,1,5] rfl rfl rfl (by simp [Im,Jn,LEnt.fp])) (by simp [Im,Jn,LEnt.fp]) _ hr7) rfl ?_)));clear S;intro v15 a w16 hv6 hk13 hn6 S
        obtain ⟨v16,hg2,hv6⟩:=hv6;replace S:=S _ hg2;clear hg2
        subst hv6
        refine Ld ?_
        refine Gr (hk13.sub (by intro y hy;simp at hy ⊢;rcases hy with hy | hy | hy <;> simp [hy])) ?_
        refine Sg (by kernel_rfl) ?_
        clear hsel
        replace S:=(S.nl [.blk Ae [U,iV V,O,iV Ab,v16,iV r3.2.1,iV r3.2.2.1,bV r3.2.2.2] 65,.own v16 3 1 r3.1.length (r3.1.flatMap eInt),.own Ag 3 1 Ai.length (Ai.flatMap eInt)] [true,true,false,false,true] rfl).k6 0 1 2 24 25 26 rfl
        exact Tn (⟨r3.2.1,r3.2.2.1,r3.2.2.2,r3.1,φ4,v16,h,hl4,S.nf [true,true,true] rfl (subR rfl)⟩)
       ·refine Ff S underlying133 sizeOf22 zeroValue22 rfl rfl (pv:=[(0,v10),(1,v11)]) ⟨rfl,(S.tm rfl),rfl,(S.tm rfl),trivial⟩ (cs:=[v10,v11]) (Qj (Dy hs4) (Dy hs5)) rfl ?_;clear S;intro a w17 b6 hz9 hk14 S
        refine Ld (Gr (Keep.none hk14) (Fy 5 (by kernel_rfl) rfl ?_))
        refine Lv Js Ge S (S.tm rfl) (i:=2) rfl (S.tm rfl) (j:=1) rfl (ys:=[y1]) rfl rfl rfl rfl (by have:=Kl hc1;omega) rfl ?_;clear S;intro v17 a w18 hk15 hf2 S
        refine Ld ?_
        refine Mx (v17.ownBlock.toList ++ (v1.ownBlock.toList ++ [Ae])) (hk15.sub (by intro y hy;simp at hy ⊢;simp [hy])) (by intro y hy;simp at hy ⊢;exact (hy.elim (fun hy=>(by rcases hf2 y hy with hy | hy <;> simp [hy])) (fun hy=>(hy.elim (fun hy=>(by simp [hy])) (fun hy=>(by simp [hy])))))) ?_
        refine Fy 14 (by kernel_rfl) rfl ?_
        have hr11 : Ii (Qn (join (view w X) φ1)) ([cut Ap 0 (i1 : Int),cut Ap (W ((i1 : Int) + 1)) Ap.length] : List (List Int)) ([⟨v10,Ei.one (Dy hs4)⟩,⟨v11,Ei.one (Dy hs5)⟩] : List RS):=(Ii.cons (hs4.mono (le_join_left _ _)) (Ii.cons (hs5.mono (le_join_left _ _)) Ii.nil))
        replace S:=S.litOwn (i:=0) (xs:=([⟨v10,Ei.one (Dy hs4)⟩,⟨v11,Ei.one (Dy hs5)⟩] : List RS)) rfl RS.enc_ok rfl rfl rfl
        replace S:=S.nk [.own (.slice (some ⟨b6,0,none⟩) 2 2) 22 1 ([⟨v10,Ei.one (Dy hs4)⟩,⟨v11,Ei.one (Dy hs5)⟩] : List RS).length (([⟨v10,Ei.one (Dy hs4)⟩,⟨v11,Ei.one (Dy hs5)⟩] : List RS).flatMap RS.enc),.blk b4 [iV y1] 3,.own v17 3 1 (r1 ++ [y1]).length ((r1 ++ [y1]).flatMap eInt),.blk Ae [U,iV V,O,iV Ab,v1,iV x1,iV x2,bV x3] 65,.own v1 3 1 x4.length (x4.flatMap eInt),.own Ag 3 1 Ai.length (Ai.flatMap eInt)] [(0,.pointer (some ⟨Ae,0,none⟩)),(1,Ag),(2,Ay),(6,iV (i1 : Int)),(7,iV y1),(24,Ay),(25,iV (Ap.length : Int)),(26,iV (i1 : Int)),(27,bV (decide ((i1 : Int) < (Ap.length : Int)))),(28,iV (i1 : Int)),(29,.pointer (some ⟨b1,o1,none⟩)),(30,iV y1),(31,.pointer (some ⟨Ae,0,none⟩)),(32,Ag),(33,v12),(34,iV y1),(35,.slice (some ⟨b4,0,none⟩) 1 1),(36,v17),(37,Ay),(38,iV (i1 : Int)),(39,v10),(40,Ay),(41,iV (i1 : Int)),(42,iV (W ((i1 : Int) + 1))),(43,v11),(44,(.slice (some ⟨b6,0,none⟩) 2 2))] [] rfl (subR rfl)
        have hz10:=S.keep.size
        refine Eg S (fun _=>Eb (vs:=[(.slice (some ⟨b6,0,none⟩) 2 2)]) ⟨(S.tm rfl),trivial⟩ call44) (It _ (.slice (some ⟨b6,0,none⟩) 2 2) ([cut Ap 0 (i1 : Int),cut Ap (W ((i1 : Int) + 1)) Ap.length] : List (List Int)) ([⟨v10,Ei.one (Dy hs4)⟩,⟨v11,Ei.one (Dy hs5)⟩] : List RS) (Kt RS.enc_ok S (i:=0) rfl (Gm (e':=.own (.slice (some ⟨b6,0,none⟩) 2 2) 22 1 ([⟨v10,Ei.one (Dy hs4)⟩,⟨v11,Ei.one (Dy hs5)⟩] : List RS).length (([⟨v10,Ei.one (Dy hs4)⟩,⟨v11,Ei.one (Dy hs5)⟩] : List RS).flatMap RS.enc)))) (Ry (Rx (S.le_arg Fk) (S.le_new Fk)) hr11) _ hr6) rfl ?_;clear S;intro v18 a w19 hv7 hk16 hn7 S
        obtain ⟨φ5,hl5,hm4,S⟩:=S.see' hn7 hz10
        have hs7:=hv7.mono hm4
        refine Ld (Gr (Keep.none hk16) (Fy 15 (by kernel_rfl) rfl (Pb [3,4,2] [0,1,5] (Ls:=[.blk Ae [U,iV V,O,iV Ab,v1,iV x1,iV x2,bV x3] 65,.own v1 3 1 x4.length (x4.flatMap eInt),.own v17 3 1 (r1 ++ [y1]).length ((r1 ++ [y1]).flatMap eInt)]) (Lr:=[.own (.slice (some ⟨b6,0,none⟩) 2 2) 22 1 ([⟨v10,Ei.one (Dy hs4)⟩,⟨v11,Ei.one (Dy hs5)⟩] : List RS).length (([⟨v10,Ei.one (Dy hs4)⟩,⟨v11,Ei.one (Dy hs5)⟩] : List RS).flatMap RS.enc),.blk b4 [iV y1] 3,.own Ag 3 1 Ai.length (Ai.flatMap eInt)]) (Y:=[Ae] ++ (v1.ownBlock.toList ++ v17.ownBlock.toList)) S rfl rfl rfl (by simp [Im,Jn,LEnt.fp]) (fun _=>Eb (vs:=[.pointer (some ⟨Ae,0,none⟩),v17,v18]) ⟨(S.tm rfl),(S.tm rfl),(S.tm rfl),trivial⟩ call26) (hself _ ([Ae] ++ (v1.ownBlock.toList ++ v17.ownBlock.toList)) Ae U Al (Bk.mono (S.le_arg (Fq (Er (i:=3) (e:=.blk Ae [U,iV V,O,iV Ab,v1,iV x1,iV x2,bV x3] 65) rfl) (Fq (Er (i:=4) (e:=.own v1 3 1 x4.length (x4.flatMap eInt)) rfl) (Er (i:=2) (e:=.own v17 3 1 (r1 ++ [y1]).length ((r1 ++ [y1]).flatMap eInt)) rfl))))) V O Bg Bi (Bm.mono (S.le_arg (Fq (Er (i:=3) (e:=.blk Ae [U,iV V,O,iV Ab,v1,iV x1,iV x2,bV x3] 65) rfl) (Fq (Er (i:=4) (e:=.own v1 3 1 x4.length (x4.flatMap eInt)) rfl) (Er (i:=2) (e:=.own v17 3 1 (r1 ++ [y1]).length ((r1 ++ [y1]).flatMap eInt)) rfl))))) (Oi (S.le_arg (Fq (Er (i:=3) (e:=.blk Ae [U,iV V,O,iV Ab,v1,iV x1,iV x2,bV x3] 65) rfl) (Fq (Er (i:=4) (e:=.own v1 3 1 x4.length (x4.flatMap eInt)) rfl) (Er (i:=2) (e:=.own v17 3 1 (r1 ++ [y1]).length ((r1 ++ [y1]).flatMap eInt)) rfl)))) Bn) Ab v1 x4 (S.holds _ (List.mem_of_getElem? (i:=4) rfl)) x1 x2 x3 (S.holds _ (List.mem_of_getElem? (i:=3) rfl)) v17 (r1 ++ [y1]) (S.holds _ (List.mem_of_getElem? (i:=2) rfl)) v18 r2 ((Fw Ge hs7).mono (S.le_new (Fq (Er (i:=3) (e:=.blk Ae [U,iV V,O,iV Ab,v1,iV x1,iV x2,bV x3] 65) rfl) (Fq (Er (i:=4) (e:=.own v1 3 1 x4.length (x4.flatMap eInt)) rfl) (Er (i:=2) (e:=.own v17 3 1 (r1 ++ [y1]).length ((r1 ++ [y1]).flatMap eInt)) rfl))))) (S.ndg [3,4,2] [0,1,5] rfl rfl rfl (by simp [Im,Jn,LEnt.fp])) (by simp [Im,Jn,LEnt.fp]) _ hr7) rfl ?_)));clear S;intro v19 a w20 hv8 hk17 hn8 S
        obtain ⟨v20,hg3,hv8⟩:=hv8;replace S:=S _ hg3;clear hg3
        subst hv8
        refine Ld ?_
        refine Gr (hk17.sub (by intro y hy;simp at hy ⊢;rcases hy with hy | hy | hy <;> simp [hy])) ?_
        refine Sg (by kernel_rfl) ?_
        clear hsel
        replace S:=(S.nl [.blk Ae [U,iV V,O,iV Ab,v20,iV r3.2.1,iV r3.2.2.1,bV r3.2.2.2] 65,.own v20 3 1 r3.1.length (r3.1.flatMap eInt),.own Ag 3 1 Ai.length (Ai.flatMap eInt)] [true,true,false,false,true] rfl).k6 0 1 2 24 25 26 rfl
        exact Tn (⟨r3.2.1,r3.2.2.1,r3.2.2.2,r3.1,φ5,v20,h,hl5,S.nf [true,true,true] rfl (subR rfl)⟩)
      ·refine Ff S underlying133 sizeOf22 zeroValue22 rfl rfl (pv:=[(0,v10),(1,v11)]) ⟨rfl,(S.tm rfl),rfl,(S.tm rfl),trivial⟩ (cs:=[v10,v11]) (Qj (Dy hs4) (Dy hs5)) rfl ?_;clear S;intro a w21 b7 hz11 hk18 S
       refine Ld (Gr (Keep.none hk18) (Fy 4 (by kernel_rfl) rfl (Ff S underlying22 sizeOf3 zeroValue3 rfl rfl (pv:=[(0,iV y1)]) ⟨rfl,(S.tm rfl),trivial⟩ (cs:=[iV y1]) (by kernel_rfl) rfl ?_)));clear S;intro a w22 b8 hz12 hk19 S
       refine Ld (Gr (Keep.none hk19) (Fy 5 (by kernel_rfl) rfl ?_))
       refine Lv Js Ge S (S.tm rfl) (i:=2) rfl (S.tm rfl) (j:=0) rfl (ys:=[y1]) rfl rfl rfl rfl (by have:=Kl hc1;omega) rfl ?_;clear S;intro v21 a w23 hk20 hf3 S
       refine Ld ?_
       refine Mx (v21.ownBlock.toList ++ (v1.ownBlock.toList ++ [Ae])) (hk20.sub (by intro y hy;simp at hy ⊢;simp [hy])) (by intro y hy;simp at hy ⊢;exact (hy.elim (fun hy=>(by rcases hf3 y hy with hy | hy <;> simp [hy])) (fun hy=>(hy.elim (fun hy=>(by simp [hy])) (fun hy=>(by simp [hy])))))) ?_
       refine Fy 14 (by kernel_rfl) rfl ?_
       have hr12 : Ii (Qn (join (view w X) φ1)) ([cut Ap 0 (i1 : Int),cut Ap (W ((i1 : Int) + 1)) Ap.length] : List (List Int)) ([⟨v10,Ei.one (Dy hs4)⟩,⟨v11,Ei.one (Dy hs5)⟩] : List RS):=(Ii.cons (hs4.mono (le_join_left _ _)) (Ii.cons (hs5.mono (le_join_left _ _)) Ii.nil))
       replace S:=S.litOwn (i:=1) (xs:=([⟨v10,Ei.one (Dy hs4)⟩,⟨v11,Ei.one (Dy hs5)⟩] : List RS)) rfl RS.enc_ok rfl rfl rfl
       replace S:=S.nk [.blk b8 [iV y1] 3,.own (.slice (some ⟨b7,0,none⟩) 2 2) 22 1 ([⟨v10,Ei.one (Dy hs4)⟩,⟨v11,Ei.one (Dy hs5)⟩] : List RS).length (([⟨v10,Ei.one (Dy hs4)⟩,⟨v11,Ei.one (Dy hs5)⟩] : List RS).flatMap RS.enc),.own v21 3 1 (r1 ++ [y1]).length ((r1 ++ [y1]).flatMap eInt),.blk Ae [U,iV V,O,iV Ab,v1,iV x1,iV x2,bV x3] 65,.own v1 3 1 x4.length (x4.flatMap eInt),.own Ag 3 1 Ai.length (Ai.flatMap eInt)] [(0,.pointer (some ⟨Ae,0,none⟩)),(1,Ag),(2,Ay),(6,iV (i1 : Int)),(7,iV y1),(24,Ay),(25,iV (Ap.length : Int)),(26,iV (i1 : Int)),(27,bV (decide ((i1 : Int) < (Ap.length : Int)))),(28,iV (i1 : Int)),(29,.pointer (some ⟨b1,o1,none⟩)),(30,iV y1),(31,.pointer (some ⟨Ae,0,none⟩)),(32,Ag),(33,v12),(34,iV y1),(35,.slice (some ⟨b8,0,none⟩) 1 1),(36,v21),(37,Ay),(38,iV (i1 : Int)),(39,v10),(40,Ay),(41,iV (i1 : Int)),(42,iV (W ((i1 : Int) + 1))),(43,v11),(44,(.slice (some ⟨b7,0,none⟩) 2 2))] [] rfl (subR rfl)
       have hz13:=S.keep.size
       refine Eg S (fun _=>Eb (vs:=[(.slice (some ⟨b7,0,none⟩) 2 2)]) ⟨(S.tm rfl),trivial⟩ call44) (It _ (.slice (some ⟨b7,0,none⟩) 2 2) ([cut Ap 0 (i1 : Int),cut Ap (W ((i1 : Int) + 1)) Ap.length] : List (List Int)) ([⟨v10,Ei.one (Dy hs4)⟩,⟨v11,Ei.one (Dy hs5)⟩] : List RS) (Kt RS.enc_ok S (i:=1) rfl (Gm (e':=.own (.slice (some ⟨b7,0,none⟩) 2 2) 22 1 ([⟨v10,Ei.one (Dy hs4)⟩,⟨v11,Ei.one (Dy hs5)⟩] : List RS).length (([⟨v10,Ei.one (Dy hs4)⟩,⟨v11,Ei.one (Dy hs5)⟩] : List RS).flatMap RS.enc)))) (Ry (Rx (S.le_arg Fk) (S.le_new Fk)) hr12) _ hr6) rfl ?_;clear S;intro v22 a w24 hv9 hk21 hn9 S
       obtain ⟨φ6,hl6,hm5,S⟩:=S.see' hn9 hz13
       have hs8:=hv9.mono hm5
       refine Ld (Gr (Keep.none hk21) (Fy 15 (by kernel_rfl) rfl (Pb [3,4,2] [0,1,5] (Ls:=[.blk Ae [U,iV V,O,iV Ab,v1,iV x1,iV x2,bV x3] 65,.own v1 3 1 x4.length (x4.flatMap eInt),.own v21 3 1 (r1 ++ [y1]).length ((r1 ++ [y1]).flatMap eInt)]) (Lr:=[.blk b8 [iV y1] 3,.own (.slice (some ⟨b7,0,none⟩) 2 2) 22 1 ([⟨v10,Ei.one (Dy hs4)⟩,⟨v11,Ei.one (Dy hs5)⟩] : List RS).length (([⟨v10,Ei.one (Dy hs4)⟩,⟨v11,Ei.one (Dy hs5)⟩] : List RS).flatMap RS.enc),.own Ag 3 1 Ai.length (Ai.flatMap eInt)]) (Y:=[Ae] ++ (v1.ownBlock.toList ++ v21.ownBlock.toList)) S rfl rfl rfl (by simp [Im,Jn,LEnt.fp]) (fun _=>Eb (vs:=[.pointer (some ⟨Ae,0,none⟩),v21,v22]) ⟨(S.tm rfl),(S.tm rfl),(S.tm rfl),trivial⟩ call26) (hself _ ([Ae] ++ (v1.ownBlock.toList ++ v21.ownBlock.toList)) Ae U Al (Bk.mono (S.le_arg (Fq (Er (i:=3) (e:=.blk Ae [U,iV V,O,iV Ab,v1,iV x1,iV x2,bV x3] 65) rfl) (Fq (Er (i:=4) (e:=.own v1 3 1 x4.length (x4.flatMap eInt)) rfl) (Er (i:=2) (e:=.own v21 3 1 (r1 ++ [y1]).length ((r1 ++ [y1]).flatMap eInt)) rfl))))) V O Bg Bi (Bm.mono (S.le_arg (Fq (Er (i:=3) (e:=.blk Ae [U,iV V,O,iV Ab,v1,iV x1,iV x2,bV x3] 65) rfl) (Fq (Er (i:=4) (e:=.own v1 3 1 x4.length (x4.flatMap eInt)) rfl) (Er (i:=2) (e:=.own v21 3 1 (r1 ++ [y1]).length ((r1 ++ [y1]).flatMap eInt)) rfl))))) (Oi (S.le_arg (Fq (Er (i:=3) (e:=.blk Ae [U,iV V,O,iV Ab,v1,iV x1,iV x2,bV x3] 65) rfl) (Fq (Er (i:=4) (e:=.own v1 3 1 x4.length (x4.flatMap eInt)) rfl) (Er (i:=2) (e:=.own v21 3 1 (r1 ++ [y1]).length ((r1 ++ [y1]).flatMap eInt)) rfl)))) Bn) Ab v1 x4 (S.holds _ (List.mem_of_getElem? (i:=4) rfl)) x1 x2 x3 (S.holds _ (List.mem_of_getElem? (i:=3) rfl)) v21 (r1 ++ [y1]) (S.holds _ (List.mem_of_getElem? (i:=2) rfl)) v22 r2 ((Fw Ge hs8).mono (S.le_new (Fq (Er (i:=3) (e:=.blk Ae [U,iV V,O,iV Ab,v1,iV x1,iV x2,bV x3] 65) rfl) (Fq (Er (i:=4) (e:=.own v1 3 1 x4.length (x4.flatMap eInt)) rfl) (Er (i:=2) (e:=.own v21 3 1 (r1 ++ [y1]).length ((r1 ++ [y1]).flatMap eInt)) rfl))))) (S.ndg [3,4,2] [0,1,5] rfl rfl rfl (by simp [Im,Jn,LEnt.fp])) (by simp [Im,Jn,LEnt.fp]) _ hr7) rfl ?_)));clear S;intro v23 a w25 hv10 hk22 hn10 S
       obtain ⟨v24,hg4,hv10⟩:=hv10;replace S:=S _ hg4;clear hg4
       subst hv10
       refine Ld ?_
       refine Gr (hk22.sub (by intro y hy;simp at hy ⊢;rcases hy with hy | hy | hy <;> simp [hy])) ?_
       refine Sg (by kernel_rfl) ?_
       clear hsel
       replace S:=(S.nl [.blk Ae [U,iV V,O,iV Ab,v24,iV r3.2.1,iV r3.2.2.1,bV r3.2.2.2] 65,.own v24 3 1 r3.1.length (r3.1.flatMap eInt),.own Ag 3 1 Ai.length (Ai.flatMap eInt)] [true,true,false,false,true] rfl).k6 0 1 2 24 25 26 rfl
       exact Tn (⟨r3.2.1,r3.2.2.1,r3.2.2.2,r3.1,φ6,v24,h,hl6,S.nf [true,true,true] rfl (subR rfl)⟩)
     ·refine Ff S underlying22 sizeOf3 zeroValue3 rfl rfl (pv:=[(0,iV y1)]) ⟨rfl,(S.tm rfl),trivial⟩ (cs:=[iV y1]) (by kernel_rfl) rfl ?_;clear S;intro a w26 b9 hz14 hk23 S
      refine Ld (Gr (Keep.none hk23) (We 2 13 (by kernel_rfl) rfl rfl ?_ ?_))
      ·have hz15:=S.keep.size
       refine Eg S (fun _=>Eb (vs:=[Ag]) ⟨(S.tm rfl),trivial⟩ call43) (Lh _ Ag Ai (Kt Ge S (i:=3) rfl (Gm (e':=.own Ag 3 1 Ai.length (Ai.flatMap eInt)))) _ hr2) rfl ?_;clear S;intro v25 a w27 hv11 hk24 hn11 S
       replace S:=S.take hn11 hz15 hv11
       refine Ld (Mx (v25.ownBlock.toList ++ (v1.ownBlock.toList ++ [Ae])) (Keep.none hk24) (DU hv11) (We 5 13 (by kernel_rfl) rfl rfl ?_ ?_))
       ·refine Lv Js Ge S (S.tm rfl) (i:=0) rfl (S.tm rfl) (j:=1) rfl (ys:=[y1]) rfl rfl rfl rfl (by have:=Kl hc1;omega) rfl ?_;clear S;intro v26 a w28 hk25 hf4 S
        refine Ld ?_
        refine Mx (v26.ownBlock.toList ++ (v1.ownBlock.toList ++ [Ae])) (hk25.sub (by intro y hy;simp at hy ⊢;simp [hy])) (by intro y hy;simp at hy ⊢;exact (hy.elim (fun hy=>(by rcases hf4 y hy with hy | hy <;> simp [hy])) (fun hy=>(hy.elim (fun hy=>(by simp [hy])) (fun hy=>(by simp [hy])))))) ?_
        refine Fy 13 (by kernel_rfl) rfl (Ff S underlying133 sizeOf22 zeroValue22 rfl rfl (pv:=[(0,v10),(1,v11)]) ⟨rfl,(S.tm rfl),rfl,(S.tm rfl),trivial⟩ (cs:=[v10,v11]) (Qj (Dy hs4) (Dy hs5)) rfl ?_);clear S;intro a w29 b10 hz16 hk26 S
        refine Ld (Gr (Keep.none hk26) (Fy 14 (by kernel_rfl) rfl ?_))
        have hr13 : Ii (Qn (join (view w X) φ1)) ([cut Ap 0 (i1 : Int),cut Ap (W ((i1 : Int) + 1)) Ap.length] : List (List Int)) ([⟨v10,Ei.one (Dy hs4)⟩,⟨v11,Ei.one (Dy hs5)⟩] : List RS):=(Ii.cons (hs4.mono (le_join_left _ _)) (Ii.cons (hs5.mono (le_join_left _ _)) Ii.nil))
        replace S:=S.litOwn (i:=0) (xs:=([⟨v10,Ei.one (Dy hs4)⟩,⟨v11,Ei.one (Dy hs5)⟩] : List RS)) rfl RS.enc_ok rfl rfl rfl
        replace S:=S.nk [.own (.slice (some ⟨b10,0,none⟩) 2 2) 22 1 ([⟨v10,Ei.one (Dy hs4)⟩,⟨v11,Ei.one (Dy hs5)⟩] : List RS).length (([⟨v10,Ei.one (Dy hs4)⟩,⟨v11,Ei.one (Dy hs5)⟩] : List RS).flatMap RS.enc),.own v26 3 1 (r1 ++ [y1]).length ((r1 ++ [y1]).flatMap eInt),.blk b9 [iV y1] 3,.blk Ae [U,iV V,O,iV Ab,v1,iV x1,iV x2,bV x3] 65,.own v1 3 1 x4.length (x4.flatMap eInt),.own Ag 3 1 Ai.length (Ai.flatMap eInt)] [(0,.pointer (some ⟨Ae,0,none⟩)),(1,Ag),(2,Ay),(6,iV (i1 : Int)),(7,iV y1),(24,Ay),(25,iV (Ap.length : Int)),(26,iV (i1 : Int)),(27,bV (decide ((i1 : Int) < (Ap.length : Int)))),(28,iV (i1 : Int)),(29,.pointer (some ⟨b1,o1,none⟩)),(30,iV y1),(31,.pointer (some ⟨Ae,0,none⟩)),(32,Ag),(33,v25),(34,iV y1),(35,.slice (some ⟨b9,0,none⟩) 1 1),(36,v26),(37,Ay),(38,iV (i1 : Int)),(39,v10),(40,Ay),(41,iV (i1 : Int)),(42,iV (W ((i1 : Int) + 1))),(43,v11),(44,(.slice (some ⟨b10,0,none⟩) 2 2))] [] rfl (subR rfl)
        have hz17:=S.keep.size
        refine Eg S (fun _=>Eb (vs:=[(.slice (some ⟨b10,0,none⟩) 2 2)]) ⟨(S.tm rfl),trivial⟩ call44) (It _ (.slice (some ⟨b10,0,none⟩) 2 2) ([cut Ap 0 (i1 : Int),cut Ap (W ((i1 : Int) + 1)) Ap.length] : List (List Int)) ([⟨v10,Ei.one (Dy hs4)⟩,⟨v11,Ei.one (Dy hs5)⟩] : List RS) (Kt RS.enc_ok S (i:=0) rfl (Gm (e':=.own (.slice (some ⟨b10,0,none⟩) 2 2) 22 1 ([⟨v10,Ei.one (Dy hs4)⟩,⟨v11,Ei.one (Dy hs5)⟩] : List RS).length (([⟨v10,Ei.one (Dy hs4)⟩,⟨v11,Ei.one (Dy hs5)⟩] : List RS).flatMap RS.enc)))) (Ry (Rx (S.le_arg Fk) (S.le_new Fk)) hr13) _ hr6) rfl ?_;clear S;intro v27 a w30 hv12 hk27 hn12 S
        obtain ⟨φ7,hl7,hm6,S⟩:=S.see' hn12 hz17
        have hs9:=hv12.mono hm6
        refine Ld (Gr (Keep.none hk27) (Fy 15 (by kernel_rfl) rfl (Pb [3,4,1] [0,2,5] (Ls:=[.blk Ae [U,iV V,O,iV Ab,v1,iV x1,iV x2,bV x3] 65,.own v1 3 1 x4.length (x4.flatMap eInt),.own v26 3 1 (r1 ++ [y1]).length ((r1 ++ [y1]).flatMap eInt)]) (Lr:=[.own (.slice (some ⟨b10,0,none⟩) 2 2) 22 1 ([⟨v10,Ei.one (Dy hs4)⟩,⟨v11,Ei.one (Dy hs5)⟩] : List RS).length (([⟨v10,Ei.one (Dy hs4)⟩,⟨v11,Ei.one (Dy hs5)⟩] : List RS).flatMap RS.enc),.blk b9 [iV y1] 3,.own Ag 3 1 Ai.length (Ai.flatMap eInt)]) (Y:=[Ae] ++ (v1.ownBlock.toList ++ v26.ownBlock.toList)) S rfl rfl rfl (by simp [Im,Jn,LEnt.fp]) (fun _=>Eb (vs:=[.pointer (some ⟨Ae,0,none⟩),v26,v27]) ⟨(S.tm rfl),(S.tm rfl),(S.tm rfl),trivial⟩ call26) (hself _ ([Ae] ++ (v1.ownBlock.toList ++ v26.ownBlock.toList)) Ae U Al (Bk.mono (S.le_arg (Fq (Er (i:=3) (e:=.blk Ae [U,iV V,O,iV Ab,v1,iV x1,iV x2,bV x3] 65) rfl) (Fq (Er (i:=4) (e:=.own v1 3 1 x4.length (x4.flatMap eInt)) rfl) (Er (i:=1) (e:=.own v26 3 1 (r1 ++ [y1]).length ((r1 ++ [y1]).flatMap eInt)) rfl))))) V O Bg Bi (Bm.mono (S.le_arg (Fq (Er (i:=3) (e:=.blk Ae [U,iV V,O,iV Ab,v1,iV x1,iV x2,bV x3] 65) rfl) (Fq (Er (i:=4) (e:=.own v1 3 1 x4.length (x4.flatMap eInt)) rfl) (Er (i:=1) (e:=.own v26 3 1 (r1 ++ [y1]).length ((r1 ++ [y1]).flatMap eInt)) rfl))))) (Oi (S.le_arg (Fq (Er (i:=3) (e:=.blk Ae [U,iV V,O,iV Ab,v1,iV x1,iV x2,bV x3] 65) rfl) (Fq (Er (i:=4) (e:=.own v1 3 1 x4.length (x4.flatMap eInt)) rfl) (Er (i:=1) (e:=.own v26 3 1 (r1 ++ [y1]).length ((r1 ++ [y1]).flatMap eInt)) rfl)))) Bn) Ab v1 x4 (S.holds _ (List.mem_of_getElem? (i:=4) rfl)) x1 x2 x3 (S.holds _ (List.mem_of_getElem? (i:=3) rfl)) v26 (r1 ++ [y1]) (S.holds _ (List.mem_of_getElem? (i:=1) rfl)) v27 r2 ((Fw Ge hs9).mono (S.le_new (Fq (Er (i:=3) (e:=.blk Ae [U,iV V,O,iV Ab,v1,iV x1,iV x2,bV x3] 65) rfl) (Fq (Er (i:=4) (e:=.own v1 3 1 x4.length (x4.flatMap eInt)) rfl) (Er (i:=1) (e:=.own v26 3 1 (r1 ++ [y1]).length ((r1 ++ [y1]).flatMap eInt)) rfl))))) (S.ndg [3,4,1] [0,2,5] rfl rfl rfl (by simp [Im,Jn,LEnt.fp])) (by simp [Im,Jn,LEnt.fp]) _ hr7) rfl ?_)));clear S;intro v28 a w31 hv13 hk28 hn13 S
        obtain ⟨v29,hg5,hv13⟩:=hv13;replace S:=S _ hg5;clear hg5
        subst hv13
        refine Ld ?_
        refine Gr (hk28.sub (by intro y hy;simp at hy ⊢;rcases hy with hy | hy | hy <;> simp [hy])) ?_
        refine Sg (by kernel_rfl) ?_
        clear hsel
        replace S:=(S.nl [.blk Ae [U,iV V,O,iV Ab,v29,iV r3.2.1,iV r3.2.2.1,bV r3.2.2.2] 65,.own v29 3 1 r3.1.length (r3.1.flatMap eInt),.own Ag 3 1 Ai.length (Ai.flatMap eInt)] [true,true,false,false,true] rfl).k6 0 1 2 24 25 26 rfl
        exact Tn (⟨r3.2.1,r3.2.2.1,r3.2.2.2,r3.1,φ7,v29,h,hl7,S.nf [true,true,true] rfl (subR rfl)⟩)
       ·refine Ff S underlying133 sizeOf22 zeroValue22 rfl rfl (pv:=[(0,v10),(1,v11)]) ⟨rfl,(S.tm rfl),rfl,(S.tm rfl),trivial⟩ (cs:=[v10,v11]) (Qj (Dy hs4) (Dy hs5)) rfl ?_;clear S;intro a w32 b11 hz18 hk29 S
        refine Ld (Gr (Keep.none hk29) (Fy 5 (by kernel_rfl) rfl ?_))
        refine Lv Js Ge S (S.tm rfl) (i:=1) rfl (S.tm rfl) (j:=2) rfl (ys:=[y1]) rfl rfl rfl rfl (by have:=Kl hc1;omega) rfl ?_;clear S;intro v30 a w33 hk30 hf5 S
        refine Ld ?_
        refine Mx (v30.ownBlock.toList ++ (v1.ownBlock.toList ++ [Ae])) (hk30.sub (by intro y hy;simp at hy ⊢;simp [hy])) (by intro y hy;simp at hy ⊢;exact (hy.elim (fun hy=>(by rcases hf5 y hy with hy | hy <;> simp [hy])) (fun hy=>(hy.elim (fun hy=>(by simp [hy])) (fun hy=>(by simp [hy])))))) ?_
        refine Fy 14 (by kernel_rfl) rfl ?_
        have hr14 : Ii (Qn (join (view w X) φ1)) ([cut Ap 0 (i1 : Int),cut Ap (W ((i1 : Int) + 1)) Ap.length] : List (List Int)) ([⟨v10,Ei.one (Dy hs4)⟩,⟨v11,Ei.one (Dy hs5)⟩] : List RS):=(Ii.cons (hs4.mono (le_join_left _ _)) (Ii.cons (hs5.mono (le_join_left _ _)) Ii.nil))
        replace S:=S.litOwn (i:=0) (xs:=([⟨v10,Ei.one (Dy hs4)⟩,⟨v11,Ei.one (Dy hs5)⟩] : List RS)) rfl RS.enc_ok rfl rfl rfl
        replace S:=S.nk [.own (.slice (some ⟨b11,0,none⟩) 2 2) 22 1 ([⟨v10,Ei.one (Dy hs4)⟩,⟨v11,Ei.one (Dy hs5)⟩] : List RS).length (([⟨v10,Ei.one (Dy hs4)⟩,⟨v11,Ei.one (Dy hs5)⟩] : List RS).flatMap RS.enc),.own v30 3 1 (r1 ++ [y1]).length ((r1 ++ [y1]).flatMap eInt),.blk b9 [iV y1] 3,.blk Ae [U,iV V,O,iV Ab,v1,iV x1,iV x2,bV x3] 65,.own v1 3 1 x4.length (x4.flatMap eInt),.own Ag 3 1 Ai.length (Ai.flatMap eInt)] [(0,.pointer (some ⟨Ae,0,none⟩)),(1,Ag),(2,Ay),(6,iV (i1 : Int)),(7,iV y1),(24,Ay),(25,iV (Ap.length : Int)),(26,iV (i1 : Int)),(27,bV (decide ((i1 : Int) < (Ap.length : Int)))),(28,iV (i1 : Int)),(29,.pointer (some ⟨b1,o1,none⟩)),(30,iV y1),(31,.pointer (some ⟨Ae,0,none⟩)),(32,Ag),(33,v25),(34,iV y1),(35,.slice (some ⟨b9,0,none⟩) 1 1),(36,v30),(37,Ay),(38,iV (i1 : Int)),(39,v10),(40,Ay),(41,iV (i1 : Int)),(42,iV (W ((i1 : Int) + 1))),(43,v11),(44,(.slice (some ⟨b11,0,none⟩) 2 2))] [] rfl (subR rfl)
        have hz19:=S.keep.size
        refine Eg S (fun _=>Eb (vs:=[(.slice (some ⟨b11,0,none⟩) 2 2)]) ⟨(S.tm rfl),trivial⟩ call44) (It _ (.slice (some ⟨b11,0,none⟩) 2 2) ([cut Ap 0 (i1 : Int),cut Ap (W ((i1 : Int) + 1)) Ap.length] : List (List Int)) ([⟨v10,Ei.one (Dy hs4)⟩,⟨v11,Ei.one (Dy hs5)⟩] : List RS) (Kt RS.enc_ok S (i:=0) rfl (Gm (e':=.own (.slice (some ⟨b11,0,none⟩) 2 2) 22 1 ([⟨v10,Ei.one (Dy hs4)⟩,⟨v11,Ei.one (Dy hs5)⟩] : List RS).length (([⟨v10,Ei.one (Dy hs4)⟩,⟨v11,Ei.one (Dy hs5)⟩] : List RS).flatMap RS.enc)))) (Ry (Rx (S.le_arg Fk) (S.le_new Fk)) hr14) _ hr6) rfl ?_;clear S;intro v31 a w34 hv14 hk31 hn14 S
        obtain ⟨φ8,hl8,hm7,S⟩:=S.see' hn14 hz19
        have hs10:=hv14.mono hm7
        refine Ld (Gr (Keep.none hk31) (Fy 15 (by kernel_rfl) rfl (Pb [3,4,1] [0,2,5] (Ls:=[.blk Ae [U,iV V,O,iV Ab,v1,iV x1,iV x2,bV x3] 65,.own v1 3 1 x4.length (x4.flatMap eInt),.own v30 3 1 (r1 ++ [y1]).length ((r1 ++ [y1]).flatMap eInt)]) (Lr:=[.own (.slice (some ⟨b11,0,none⟩) 2 2) 22 1 ([⟨v10,Ei.one (Dy hs4)⟩,⟨v11,Ei.one (Dy hs5)⟩] : List RS).length (([⟨v10,Ei.one (Dy hs4)⟩,⟨v11,Ei.one (Dy hs5)⟩] : List RS).flatMap RS.enc),.blk b9 [iV y1] 3,.own Ag 3 1 Ai.length (Ai.flatMap eInt)]) (Y:=[Ae] ++ (v1.ownBlock.toList ++ v30.ownBlock.toList)) S rfl rfl rfl (by simp [Im,Jn,LEnt.fp]) (fun _=>Eb (vs:=[.pointer (some ⟨Ae,0,none⟩),v30,v31]) ⟨(S.tm rfl),(S.tm rfl),(S.tm rfl),trivial⟩ call26) (hself _ ([Ae] ++ (v1.ownBlock.toList ++ v30.ownBlock.toList)) Ae U Al (Bk.mono (S.le_arg (Fq (Er (i:=3) (e:=.blk Ae [U,iV V,O,iV Ab,v1,iV x1,iV x2,bV x3] 65) rfl) (Fq (Er (i:=4) (e:=.own v1 3 1 x4.length (x4.flatMap eInt)) rfl) (Er (i:=1) (e:=.own v30 3 1 (r1 ++ [y1]).length ((r1 ++ [y1]).flatMap eInt)) rfl))))) V O Bg Bi (Bm.mono (S.le_arg (Fq (Er (i:=3) (e:=.blk Ae [U,iV V,O,iV Ab,v1,iV x1,iV x2,bV x3] 65) rfl) (Fq (Er (i:=4) (e:=.own v1 3 1 x4.length (x4.flatMap eInt)) rfl) (Er (i:=1) (e:=.own v30 3 1 (r1 ++ [y1]).length ((r1 ++ [y1]).flatMap eInt)) rfl))))) (Oi (S.le_arg (Fq (Er (i:=3) (e:=.blk Ae [U,iV V,O,iV Ab,v1,iV x1,iV x2,bV x3] 65) rfl) (Fq (Er (i:=4) (e:=.own v1 3 1 x4.length (x4.flatMap eInt)) rfl) (Er (i:=1) (e:=.own v30 3 1 (r1 ++ [y1]).length ((r1 ++ [y1]).flatMap eInt)) rfl)))) Bn) Ab v1 x4 (S.holds _ (List.mem_of_getElem? (i:=4) rfl)) x1 x2 x3 (S.holds _ (List.mem_of_getElem? (i:=3) rfl)) v30 (r1 ++ [y1]) (S.holds _ (List.mem_of_getElem? (i:=1) rfl)) v31 r2 ((Fw Ge hs10).mono (S.le_new (Fq (Er (i:=3) (e:=.blk Ae [U,iV V,O,iV Ab,v1,iV x1,iV x2,bV x3] 65) rfl) (Fq (Er (i:=4) (e:=.own v1 3 1 x4.length (x4.flatMap eInt)) rfl) (Er (i:=1) (e:=.own v30 3 1 (r1 ++ [y1]).length ((r1 ++ [y1]).flatMap eInt)) rfl))))) (S.ndg [3,4,1] [0,2,5] rfl rfl rfl (by simp [Im,Jn,LEnt.fp])) (by simp [Im,Jn,LEnt.fp]) _ hr7) rfl ?_)));clear S;intro v32 a w35 hv15 hk32 hn15 S
        obtain ⟨v33,hg6,hv15⟩:=hv15;replace S:=S _ hg6;clear hg6
        subst hv15
        refine Ld ?_
        refine Gr (hk32.sub (by intro y hy;simp at hy ⊢;rcases hy with hy | hy | hy <;> simp [hy])) ?_
        refine Sg (by kernel_rfl) ?_
        clear hsel
        replace S:=(S.nl [.blk Ae [U,iV V,O,iV Ab,v33,iV r3.2.1,iV r3.2.2.1,bV r3.2.2.2] 65,.own v33 3 1 r3.1.length (r3.1.flatMap eInt),.own Ag 3 1 Ai.length (Ai.flatMap eInt)] [true,true,false,false,true] rfl).k6 0 1 2 24 25 26 rfl
        exact Tn (⟨r3.2.1,r3.2.2.1,r3.2.2.2,r3.1,φ8,v33,h,hl8,S.nf [true,true,true] rfl (subR rfl)⟩)
      ·refine Ff S underlying133 sizeOf22 zeroValue22 rfl rfl (pv:=[(0,v10),(1,v11)]) ⟨rfl,(S.tm rfl),rfl,(S.tm rfl),trivial⟩ (cs:=[v10,v11]) (Qj (Dy hs4) (Dy hs5)) rfl ?_;clear S;intro a w36 b12 hz20 hk33 S
       refine Ld (Gr (Keep.none hk33) (Fy 2 (by kernel_rfl) rfl ?_))
       have hz21:=S.keep.size
       refine Eg S (fun _=>Eb (vs:=[Ag]) ⟨(S.tm rfl),trivial⟩ call43) (Lh _ Ag Ai (Kt Ge S (i:=4) rfl (Gm (e':=.own Ag 3 1 Ai.length (Ai.flatMap eInt)))) _ hr2) rfl ?_;clear S;intro v34 a w37 hv16 hk34 hn16 S
       replace S:=S.take hn16 hz21 hv16
       refine Ld (Mx (v34.ownBlock.toList ++ (v1.ownBlock.toList ++ [Ae])) (Keep.none hk34) (DU hv16) (Fy 5 (by kernel_rfl) rfl ?_))
       refine Lv Js Ge S (S.tm rfl) (i:=0) rfl (S.tm rfl) (j:=2) rfl (ys:=[y1]) rfl rfl rfl rfl (by have:=Kl hc1;omega) rfl ?_;clear S;intro v35 a w38 hk35 hf6 S
       refine Ld ?_
       refine Mx (v35.ownBlock.toList ++ (v1.ownBlock.toList ++ [Ae])) (hk35.sub (by intro y hy;simp at hy ⊢;simp [hy])) (by intro y hy;simp at hy ⊢;exact (hy.elim (fun hy=>(by rcases hf6 y hy with hy | hy <;> simp [hy])) (fun hy=>(hy.elim (fun hy=>(by simp [hy])) (fun hy=>(by simp [hy])))))) ?_
       refine Fy 14 (by kernel_rfl) rfl ?_
       have hr15 : Ii (Qn (join (view w X) φ1)) ([cut Ap 0 (i1 : Int),cut Ap (W ((i1 : Int) + 1)) Ap.length] : List (List Int)) ([⟨v10,Ei.one (Dy hs4)⟩,⟨v11,Ei.one (Dy hs5)⟩] : List RS):=(Ii.cons (hs4.mono (le_join_left _ _)) (Ii.cons (hs5.mono (le_join_left _ _)) Ii.nil))
       replace S:=S.litOwn (i:=1) (xs:=([⟨v10,Ei.one (Dy hs4)⟩,⟨v11,Ei.one (Dy hs5)⟩] : List RS)) rfl RS.enc_ok rfl rfl rfl
       replace S:=S.nk [.own v35 3 1 (r1 ++ [y1]).length ((r1 ++ [y1]).flatMap eInt),.own (.slice (some ⟨b12,0,none⟩) 2 2) 22 1 ([⟨v10,Ei.one (Dy hs4)⟩,⟨v11,Ei.one (Dy hs5)⟩] : List RS).length (([⟨v10,Ei.one (Dy hs4)⟩,⟨v11,Ei.one (Dy hs5)⟩] : List RS).flatMap RS.enc),.blk b9 [iV y1] 3,.blk Ae [U,iV V,O,iV Ab,v1,iV x1,iV x2,bV x3] 65,.own v1 3 1 x4.length (x4.flatMap eInt),.own Ag 3 1 Ai.length (Ai.flatMap eInt)] [(0,.pointer (some ⟨Ae,0,none⟩)),(1,Ag),(2,Ay),(6,iV (i1 : Int)),(7,iV y1),(24,Ay),(25,iV (Ap.length : Int)),(26,iV (i1 : Int)),(27,bV (decide ((i1 : Int) < (Ap.length : Int)))),(28,iV (i1 : Int)),(29,.pointer (some ⟨b1,o1,none⟩)),(30,iV y1),(31,.pointer (some ⟨Ae,0,none⟩)),(32,Ag),(33,v34),(34,iV y1),(35,.slice (some ⟨b9,0,none⟩) 1 1),(36,v35),(37,Ay),(38,iV (i1 : Int)),(39,v10),(40,Ay),(41,iV (i1 : Int)),(42,iV (W ((i1 : Int) + 1))),(43,v11),(44,(.slice (some ⟨b12,0,none⟩) 2 2))] [] rfl (subR rfl)
       have hz22:=S.keep.size
       refine Eg S (fun _=>Eb (vs:=[(.slice (some ⟨b12,0,none⟩) 2 2)]) ⟨(S.tm rfl),trivial⟩ call44) (It _ (.slice (some ⟨b12,0,none⟩) 2 2) ([cut Ap 0 (i1 : Int),cut Ap (W ((i1 : Int) + 1)) Ap.length] : List (List Int)) ([⟨v10,Ei.one (Dy hs4)⟩,⟨v11,Ei.one (Dy hs5)⟩] : List RS) (Kt RS.enc_ok S (i:=1) rfl (Gm (e':=.own (.slice (some ⟨b12,0,none⟩) 2 2) 22 1 ([⟨v10,Ei.one (Dy hs4)⟩,⟨v11,Ei.one (Dy hs5)⟩] : List RS).length (([⟨v10,Ei.one (Dy hs4)⟩,⟨v11,Ei.one (Dy hs5)⟩] : List RS).flatMap RS.enc)))) (Ry (Rx (S.le_arg Fk) (S.le_new Fk)) hr15) _ hr6) rfl ?_;clear S;intro v36 a w39 hv17 hk36 hn17 S
       obtain ⟨φ9,hl9,hm8,S⟩:=S.see' hn17 hz22
       have hs11:=hv17.mono hm8
       refine Ld (Gr (Keep.none hk36) (Fy 15 (by kernel_rfl) rfl (Pb [3,4,0] [1,2,5] (Ls:=[.blk Ae [U,iV V,O,iV Ab,v1,iV x1,iV x2,bV x3] 65,.own v1 3 1 x4.length (x4.flatMap eInt),.own v35 3 1 (r1 ++ [y1]).length ((r1 ++ [y1]).flatMap eInt)]) (Lr:=[.own (.slice (some ⟨b12,0,none⟩) 2 2) 22 1 ([⟨v10,Ei.one (Dy hs4)⟩,⟨v11,Ei.one (Dy hs5)⟩] : List RS).length (([⟨v10,Ei.one (Dy hs4)⟩,⟨v11,Ei.one (Dy hs5)⟩] : List RS).flatMap RS.enc),.blk b9 [iV y1] 3,.own Ag 3 1 Ai.length (Ai.flatMap eInt)]) (Y:=[Ae] ++ (v1.ownBlock.toList ++ v35.ownBlock.toList)) S rfl rfl rfl (by simp [Im,Jn,LEnt.fp]) (fun _=>Eb (vs:=[.pointer (some ⟨Ae,0,none⟩),v35,v36]) ⟨(S.tm rfl),(S.tm rfl),(S.tm rfl),trivial⟩ call26) (hself _ ([Ae] ++ (v1.ownBlock.toList ++ v35.ownBlock.toList)) Ae U Al (Bk.mono (S.le_arg (Fq (Er (i:=3) (e:=.blk Ae [U,iV V,O,iV Ab,v1,iV x1,iV x2,bV x3] 65) rfl) (Fq (Er (i:=4) (e:=.own v1 3 1 x4.length (x4.flatMap eInt)) rfl) (Er (i:=0) (e:=.own v35 3 1 (r1 ++ [y1]).length ((r1 ++ [y1]).flatMap eInt)) rfl))))) V O Bg Bi (Bm.mono (S.le_arg (Fq (Er (i:=3) (e:=.blk Ae [U,iV V,O,iV Ab,v1,iV x1,iV x2,bV x3] 65) rfl) (Fq (Er (i:=4) (e:=.own v1 3 1 x4.length (x4.flatMap eInt)) rfl) (Er (i:=0) (e:=.own v35 3 1 (r1 ++ [y1]).length ((r1 ++ [y1]).flatMap eInt)) rfl))))) (Oi (S.le_arg (Fq (Er (i:=3) (e:=.blk Ae [U,iV V,O,iV Ab,v1,iV x1,iV x2,bV x3] 65) rfl) (Fq (Er (i:=4) (e:=.own v1 3 1 x4.length (x4.flatMap eInt)) rfl) (Er (i:=0) (e:=.own v35 3 1 (r1 ++ [y1]).length ((r1 ++ [y1]).flatMap eInt)) rfl)))) Bn) Ab v1 x4 (S.holds _ (List.mem_of_getElem? (i:=4) rfl)) x1 x2 x3 (S.holds _ (List.mem_of_getElem? (i:=3) rfl)) v35 (r1 ++ [y1]) (S.holds _ (List.mem_of_getElem? (i:=0) rfl)) v36 r2 ((Fw Ge hs11).mono (S.le_new (Fq (Er (i:=3) (e:=.blk Ae [U,iV V,O,iV Ab,v1,iV x1,iV x2,bV x3] 65) rfl) (Fq (Er (i:=4) (e:=.own v1 3 1 x4.length (x4.flatMap eInt)) rfl) (Er (i:=0) (e:=.own v35 3 1 (r1 ++ [y1]).length ((r1 ++ [y1]).flatMap eInt)) rfl))))) (S.ndg [3,4,0] [1,2,5] rfl rfl rfl (by simp [Im,Jn,LEnt.fp])) (by simp [Im,Jn,LEnt.fp]) _ hr7) rfl ?_)));clear S;intro v37 a w40 hv18 hk37 hn18 S
       obtain ⟨v38,hg7,hv18⟩:=hv18;replace S:=S _ hg7;clear hg7
       subst hv18
       refine Ld ?_
       refine Gr (hk37.sub (by intro y hy;simp at hy ⊢;rcases hy with hy | hy | hy <;> simp [hy])) ?_
       refine Sg (by kernel_rfl) ?_
       clear hsel
       replace S:=(S.nl [.blk Ae [U,iV V,O,iV Ab,v38,iV r3.2.1,iV r3.2.2.1,bV r3.2.2.2] 65,.own v38 3 1 r3.1.length (r3.1.flatMap eInt),.own Ag 3 1 Ai.length (Ai.flatMap eInt)] [true,true,false,false,true] rfl).k6 0 1 2 24 25 26 rfl
       exact Tn (⟨r3.2.1,r3.2.2.1,r3.2.2.2,r3.1,φ9,v38,h,hl9,S.nf [true,true,true] rfl (subR rfl)⟩)
     ·refine Ff S underlying133 sizeOf22 zeroValue22 rfl rfl (pv:=[(0,v10),(1,v11)]) ⟨rfl,(S.tm rfl),rfl,(S.tm rfl),trivial⟩ (cs:=[v10,v11]) (Qj (Dy hs4) (Dy hs5)) rfl ?_;clear S;intro a w41 b13 hz23 hk38 S
      refine Ld (Gr (Keep.none hk38) (We 2 4 (by kernel_rfl) rfl rfl ?_ ?_))
      ·have hz24:=S.keep.size
       refine Eg S (fun _=>Eb (vs:=[Ag]) ⟨(S.tm rfl),trivial⟩ call43) (Lh _ Ag Ai (Kt Ge S (i:=3) rfl (Gm (e':=.own Ag 3 1 Ai.length (Ai.flatMap eInt)))) _ hr2) rfl ?_;clear S;intro v39 a w42 hv19 hk39 hn19 S
       replace S:=S.take hn19 hz24 hv19
       refine Ld (Mx (v39.ownBlock.toList ++ (v1.ownBlock.toList ++ [Ae])) (Keep.none hk39) (DU hv19) (Fy 4 (by kernel_rfl) rfl (Ff S underlying22 sizeOf3 zeroValue3 rfl rfl (pv:=[(0,iV y1)]) ⟨rfl,(S.tm rfl),trivial⟩ (cs:=[iV y1]) (by kernel_rfl) rfl ?_)));clear S;intro a w43 b14 hz25 hk40 S
       refine Ld (Gr (Keep.none hk40) (Fy 5 (by kernel_rfl) rfl ?_))
       refine Lv Js Ge S (S.tm rfl) (i:=1) rfl (S.tm rfl) (j:=0) rfl (ys:=[y1]) rfl rfl rfl rfl (by have:=Kl hc1;omega) rfl ?_;clear S;intro v40 a w44 hk41 hf7 S
       refine Ld ?_
       refine Mx (v40.ownBlock.toList ++ (v1.ownBlock.toList ++ [Ae])) (hk41.sub (by intro y hy;simp at hy ⊢;simp [hy])) (by intro y hy;simp at hy ⊢;exact (hy.elim (fun hy=>(by rcases hf7 y hy with hy | hy <;> simp [hy])) (fun hy=>(hy.elim (fun hy=>(by simp [hy])) (fun hy=>(by simp [hy])))))) ?_
       refine Fy 14 (by kernel_rfl) rfl ?_
       have hr16 : Ii (Qn (join (view w X) φ1)) ([cut Ap 0 (i1 : Int),cut Ap (W ((i1 : Int) + 1)) Ap.length] : List (List Int)) ([⟨v10,Ei.one (Dy hs4)⟩,⟨v11,Ei.one (Dy hs5)⟩] : List RS):=(Ii.cons (hs4.mono (le_join_left _ _)) (Ii.cons (hs5.mono (le_join_left _ _)) Ii.nil))
       replace S:=S.litOwn (i:=2) (xs:=([⟨v10,Ei.one (Dy hs4)⟩,⟨v11,Ei.one (Dy hs5)⟩] : List RS)) rfl RS.enc_ok rfl rfl rfl
       replace S:=S.nk [.blk b14 [iV y1] 3,.own v40 3 1 (r1 ++ [y1]).length ((r1 ++ [y1]).flatMap eInt),.own (.slice (some ⟨b13,0,none⟩) 2 2) 22 1 ([⟨v10,Ei.one (Dy hs4)⟩,⟨v11,Ei.one (Dy hs5)⟩] : List RS).length (([⟨v10,Ei.one (Dy hs4)⟩,⟨v11,Ei.one (Dy hs5)⟩] : List RS).flatMap RS.enc),.blk Ae [U,iV V,O,iV Ab,v1,iV x1,iV x2,bV x3] 65,.own v1 3 1 x4.length (x4.flatMap eInt),.own Ag 3 1 Ai.length (Ai.flatMap eInt)] [(0,.pointer (some ⟨Ae,0,none⟩)),(1,Ag),(2,Ay),(6,iV (i1 : Int)),(7,iV y1),(24,Ay),(25,iV (Ap.length : Int)),(26,iV (i1 : Int)),(27,bV (decide ((i1 : Int) < (Ap.length : Int)))),(28,iV (i1 : Int)),(29,.pointer (some ⟨b1,o1,none⟩)),(30,iV y1),(31,.pointer (some ⟨Ae,0,none⟩)),(32,Ag),(33,v39),(34,iV y1),(35,.slice (some ⟨b14,0,none⟩) 1 1),(36,v40),(37,Ay),(38,iV (i1 : Int)),(39,v10),(40,Ay),(41,iV (i1 : Int)),(42,iV (W ((i1 : Int) + 1))),(43,v11),(44,(.slice (some ⟨b13,0,none⟩) 2 2))] [] rfl (subR rfl)
       have hz26:=S.keep.size
       refine Eg S (fun _=>Eb (vs:=[(.slice (some ⟨b13,0,none⟩) 2 2)]) ⟨(S.tm rfl),trivial⟩ call44) (It _ (.slice (some ⟨b13,0,none⟩) 2 2) ([cut Ap 0 (i1 : Int),cut Ap (W ((i1 : Int) + 1)) Ap.length] : List (List Int)) ([⟨v10,Ei.one (Dy hs4)⟩,⟨v11,Ei.one (Dy hs5)⟩] : List RS) (Kt RS.enc_ok S (i:=2) rfl (Gm (e':=.own (.slice (some ⟨b13,0,none⟩) 2 2) 22 1 ([⟨v10,Ei.one (Dy hs4)⟩,⟨v11,Ei.one (Dy hs5)⟩] : List RS).length (([⟨v10,Ei.one (Dy hs4)⟩,⟨v11,Ei.one (Dy hs5)⟩] : List RS).flatMap RS.enc)))) (Ry (Rx (S.le_arg Fk) (S.le_new Fk)) hr16) _ hr6) rfl ?_;clear S;intro v41 a w45 hv20 hk42 hn20 S
       obtain ⟨φ10,hl10,hm9,S⟩:=S.see' hn20 hz26
       have hs12:=hv20.mono hm9
       refine Ld (Gr (Keep.none hk42) (Fy 15 (by kernel_rfl) rfl (Pb [3,4,1] [0,2,5] (Ls:=[.blk Ae [U,iV V,O,iV Ab,v1,iV x1,iV x2,bV x3] 65,.own v1 3 1 x4.length (x4.flatMap eInt),.own v40 3 1 (r1 ++ [y1]).length ((r1 ++ [y1]).flatMap eInt)]) (Lr:=[.blk b14 [iV y1] 3,.own (.slice (some ⟨b13,0,none⟩) 2 2) 22 1 ([⟨v10,Ei.one (Dy hs4)⟩,⟨v11,Ei.one (Dy hs5)⟩] : List RS).length (([⟨v10,Ei.one (Dy hs4)⟩,⟨v11,Ei.one (Dy hs5)⟩] : List RS).flatMap RS.enc),.own Ag 3 1 Ai.length (Ai.flatMap eInt)]) (Y:=[Ae] ++ (v1.ownBlock.toList ++ v40.ownBlock.toList)) S rfl rfl rfl (by simp [Im,Jn,LEnt.fp]) (fun _=>Eb (vs:=[.pointer (some ⟨Ae,0,none⟩),v40,v41]) ⟨(S.tm rfl),(S.tm rfl),(S.tm rfl),trivial⟩ call26) (hself _ ([Ae] ++ (v1.ownBlock.toList ++ v40.ownBlock.toList)) Ae U Al (Bk.mono (S.le_arg (Fq (Er (i:=3) (e:=.blk Ae [U,iV V,O,iV Ab,v1,iV x1,iV x2,bV x3] 65) rfl) (Fq (Er (i:=4) (e:=.own v1 3 1 x4.length (x4.flatMap eInt)) rfl) (Er (i:=1) (e:=.own v40 3 1 (r1 ++ [y1]).length ((r1 ++ [y1]).flatMap eInt)) rfl))))) V O Bg Bi (Bm.mono (S.le_arg (Fq (Er (i:=3) (e:=.blk Ae [U,iV V,O,iV Ab,v1,iV x1,iV x2,bV x3] 65) rfl) (Fq (Er (i:=4) (e:=.own v1 3 1 x4.length (x4.flatMap eInt)) rfl) (Er (i:=1) (e:=.own v40 3 1 (r1 ++ [y1]).length ((r1 ++ [y1]).flatMap eInt)) rfl))))) (Oi (S.le_arg (Fq (Er (i:=3) (e:=.blk Ae [U,iV V,O,iV Ab,v1,iV x1,iV x2,bV x3] 65) rfl) (Fq (Er (i:=4) (e:=.own v1 3 1 x4.length (x4.flatMap eInt)) rfl) (Er (i:=1) (e:=.own v40 3 1 (r1 ++ [y1]).length ((r1 ++ [y1]).flatMap eInt)) rfl)))) Bn) Ab v1 x4 (S.holds _ (List.mem_of_getElem? (i:=4) rfl)) x1 x2 x3 (S.holds _ (List.mem_of_getElem? (i:=3) rfl)) v40 (r1 ++ [y1]) (S.holds _ (List.mem_of_getElem? (i:=1) rfl)) v41 r2 ((Fw Ge hs12).mono (S.le_new (Fq (Er (i:=3) (e:=.blk Ae [U,iV V,O,iV Ab,v1,iV x1,iV x2,bV x3] 65) rfl) (Fq (Er (i:=4) (e:=.own v1 3 1 x4.length (x4.flatMap eInt)) rfl) (Er (i:=1) (e:=.own v40 3 1 (r1 ++ [y1]).length ((r1 ++ [y1]).flatMap eInt)) rfl))))) (S.ndg [3,4,1] [0,2,5] rfl rfl rfl (by simp [Im,Jn,LEnt.fp])) (by simp [Im,Jn,LEnt.fp]) _ hr7) rfl ?_)));clear S;intro v42 a w46 hv21 hk43 hn21 S
       obtain ⟨v43,hg8,hv21⟩:=hv21;replace S:=S _ hg8;clear hg8
       subst hv21
       refine Ld ?_
       refine Gr (hk43.sub (by intro y hy;simp at hy ⊢;rcases hy with hy | hy | hy <;> simp [hy])) ?_
       refine Sg (by kernel_rfl) ?_
       clear hsel
       replace S:=(S.nl [.blk Ae [U,iV V,O,iV Ab,v43,iV r3.2.1,iV r3.2.2.1,bV r3.2.2.2] 65,.own v43 3 1 r3.1.length (r3.1.flatMap eInt),.own Ag 3 1 Ai.length (Ai.flatMap eInt)] [true,true,false,false,true] rfl).k6 0 1 2 24 25 26 rfl
       exact Tn (⟨r3.2.1,r3.2.2.1,r3.2.2.2,r3.1,φ10,v43,h,hl10,S.nf [true,true,true] rfl (subR rfl)⟩)
      ·refine Ff S underlying22 sizeOf3 zeroValue3 rfl rfl (pv:=[(0,iV y1)]) ⟨rfl,(S.tm rfl),trivial⟩ (cs:=[iV y1]) (by kernel_rfl) rfl ?_;clear S;intro a w47 b15 hz27 hk44 S
       refine Ld (Gr (Keep.none hk44) (Fy 2 (by kernel_rfl) rfl ?_))
       have hz28:=S.keep.size
       refine Eg S (fun _=>Eb (vs:=[Ag]) ⟨(S.tm rfl),trivial⟩ call43) (Lh _ Ag Ai (Kt Ge S (i:=4) rfl (Gm (e':=.own Ag 3 1 Ai.length (Ai.flatMap eInt)))) _ hr2) rfl ?_;clear S;intro v44 a w48 hv22 hk45 hn22 S
       replace S:=S.take hn22 hz28 hv22
       refine Ld (Mx (v44.ownBlock.toList ++ (v1.ownBlock.toList ++ [Ae])) (Keep.none hk45) (DU hv22) (Fy 5 (by kernel_rfl) rfl ?_))
       refine Lv Js Ge S (S.tm rfl) (i:=0) rfl (S.tm rfl) (j:=1) rfl (ys:=[y1]) rfl rfl rfl rfl (by have:=Kl hc1;omega) rfl ?_;clear S;intro v45 a w49 hk46 hf8 S
       refine Ld ?_
       refine Mx (v45.ownBlock.toList ++ (v1.ownBlock.toList ++ [Ae])) (hk46.sub (by intro y hy;simp at hy ⊢;simp [hy])) (by intro y hy;simp at hy ⊢;exact (hy.elim (fun hy=>(by rcases hf8 y hy with hy | hy <;> simp [hy])) (fun hy=>(hy.elim (fun hy=>(by simp [hy])) (fun hy=>(by simp [hy])))))) ?_
       refine Fy 14 (by kernel_rfl) rfl ?_
       have hr17 : Ii (Qn (join (view w X) φ1)) ([cut Ap 0 (i1 : Int),cut Ap (W ((i1 : Int) + 1)) Ap.length] : List (List Int)) ([⟨v10,Ei.one (Dy hs4)⟩,⟨v11,Ei.one (Dy hs5)⟩] : List RS):=(Ii.cons (hs4.mono (le_join_left _ _)) (Ii.cons (hs5.mono (le_join_left _ _)) Ii.nil))
       replace S:=S.litOwn (i:=2) (xs:=([⟨v10,Ei.one (Dy hs4)⟩,⟨v11,Ei.one (Dy hs5)⟩] : List RS)) rfl RS.enc_ok rfl rfl rfl
       replace S:=S.nk [.own v45 3 1 (r1 ++ [y1]).length ((r1 ++ [y1]).flatMap eInt),.blk b15 [iV y1] 3,.own (.slice (some ⟨b13,0,none⟩) 2 2) 22 1 ([⟨v10,Ei.one (Dy hs4)⟩,⟨v11,Ei.one (Dy hs5)⟩] : List RS).length (([⟨v10,Ei.one (Dy hs4)⟩,⟨v11,Ei.one (Dy hs5)⟩] : List RS).flatMap RS.enc),.blk Ae [U,iV V,O,iV Ab,v1,iV x1,iV x2,bV x3] 65,.own v1 3 1 x4.length (x4.flatMap eInt),.own Ag 3 1 Ai.length (Ai.flatMap eInt)] [(0,.pointer (some ⟨Ae,0,none⟩)),(1,Ag),(2,Ay),(6,iV (i1 : Int)),(7,iV y1),(24,Ay),(25,iV (Ap.length : Int)),(26,iV (i1 : Int)),(27,bV (decide ((i1 : Int) < (Ap.length : Int)))),(28,iV (i1 : Int)),(29,.pointer (some ⟨b1,o1,none⟩)),(30,iV y1),(31,.pointer (some ⟨Ae,0,none⟩)),(32,Ag),(33,v44),(34,iV y1),(35,.slice (some ⟨b15,0,none⟩) 1 1),(36,v45),(37,Ay),(38,iV (i1 : Int)),(39,v10),(40,Ay),(41,iV (i1 : Int)),(42,iV (W ((i1 : Int) + 1))),(43,v11),(44,(.slice (some ⟨b13,0,none⟩) 2 2))] [] rfl (subR rfl)
       have hz29:=S.keep.size
       refine Eg S (fun _=>Eb (vs:=[(.slice (some ⟨b13,0,none⟩) 2 2)]) ⟨(S.tm rfl),trivial⟩ call44) (It _ (.slice (some ⟨b13,0,none⟩) 2 2) ([cut Ap 0 (i1 : Int),cut Ap (W ((i1 : Int) + 1)) Ap.length] : List (List Int)) ([⟨v10,Ei.one (Dy hs4)⟩,⟨v11,Ei.one (Dy hs5)⟩] : List RS) (Kt RS.enc_ok S (i:=2) rfl (Gm (e':=.own (.slice (some ⟨b13,0,none⟩) 2 2) 22 1 ([⟨v10,Ei.one (Dy hs4)⟩,⟨v11,Ei.one (Dy hs5)⟩] : List RS).length (([⟨v10,Ei.one (Dy hs4)⟩,⟨v11,Ei.one (Dy hs5)⟩] : List RS).flatMap RS.enc)))) (Ry (Rx (S.le_arg Fk) (S.le_new Fk)) hr17) _ hr6) rfl ?_;clear S;intro v46 a w50 hv23 hk47 hn23 S
       obtain ⟨φ11,hl11,hm10,S⟩:=S.see' hn23 hz29
       have hs13:=hv23.mono hm10
       refine Ld (Gr (Keep.none hk47) (Fy 15 (by kernel_rfl) rfl (Pb [3,4,0] [1,2,5] (Ls:=[.blk Ae [U,iV V,O,iV Ab,v1,iV x1,iV x2,bV x3] 65,.own v1 3 1 x4.length (x4.flatMap eInt),.own v45 3 1 (r1 ++ [y1]).length ((r1 ++ [y1]).flatMap eInt)]) (Lr:=[.blk b15 [iV y1] 3,.own (.slice (some ⟨b13,0,none⟩) 2 2) 22 1 ([⟨v10,Ei.one (Dy hs4)⟩,⟨v11,Ei.one (Dy hs5)⟩] : List RS).length (([⟨v10,Ei.one (Dy hs4)⟩,⟨v11,Ei.one (Dy hs5)⟩] : List RS).flatMap RS.enc),.own Ag 3 1 Ai.length (Ai.flatMap eInt)]) (Y:=[Ae] ++ (v1.ownBlock.toList ++ v45.ownBlock.toList)) S rfl rfl rfl (by simp [Im,Jn,LEnt.fp]) (fun _=>Eb (vs:=[.pointer (some ⟨Ae,0,none⟩),v45,v46]) ⟨(S.tm rfl),(S.tm rfl),(S.tm rfl),trivial⟩ call26) (hself _ ([Ae] ++ (v1.ownBlock.toList ++ v45.ownBlock.toList)) Ae U Al (Bk.mono (S.le_arg (Fq (Er (i:=3) (e:=.blk Ae [U,iV V,O,iV Ab,v1,iV x1,iV x2,bV x3] 65) rfl) (Fq (Er (i:=4) (e:=.own v1 3 1 x4.length (x4.flatMap eInt)) rfl) (Er (i:=0) (e:=.own v45 3 1 (r1 ++ [y1]).length ((r1 ++ [y1]).flatMap eInt)) rfl))))) V O Bg Bi (Bm.mono (S.le_arg (Fq (Er (i:=3) (e:=.blk Ae [U,iV V,O,iV Ab,v1,iV x1,iV x2,bV x3] 65) rfl) (Fq (Er (i:=4) (e:=.own v1 3 1 x4.length (x4.flatMap eInt)) rfl) (Er (i:=0) (e:=.own v45 3 1 (r1 ++ [y1]).length ((r1 ++ [y1]).flatMap eInt)) rfl))))) (Oi (S.le_arg (Fq (Er (i:=3) (e:=.blk Ae [U,iV V,O,iV Ab,v1,iV x1,iV x2,bV x3] 65) rfl) (Fq (Er (i:=4) (e:=.own v1 3 1 x4.length (x4.flatMap eInt)) rfl) (Er (i:=0) (e:=.own v45 3 1 (r1 ++ [y1]).length ((r1 ++ [y1]).flatMap eInt)) rfl)))) Bn) Ab v1 x4 (S.holds _ (List.mem_of_getElem? (i:=4) rfl)) x1 x2 x3 (S.holds _ (List.mem_of_getElem? (i:=3) rfl)) v45 (r1 ++ [y1]) (S.holds _ (List.mem_of_getElem? (i:=0) rfl)) v46 r2 ((Fw Ge hs13).mono (S.le_new (Fq (Er (i:=3) (e:=.blk Ae [U,iV V,O,iV Ab,v1,iV x1,iV x2,bV x3] 65) rfl) (Fq (Er (i:=4) (e:=.own v1 3 1 x4.length (x4.flatMap eInt)) rfl) (Er (i:=0) (e:=.own v45 3 1 (r1 ++ [y1]).length ((r1 ++ [y1]).flatMap eInt)) rfl))))) (S.ndg [3,4,0] [1,2,5] rfl rfl rfl (by simp [Im,Jn,LEnt.fp])) (by simp [Im,Jn,LEnt.fp]) _ hr7) rfl ?_)));clear S;intro v47 a w51 hv24 hk48 hn24 S
       obtain ⟨v48,hg9,hv24⟩:=hv24;replace S:=S _ hg9;clear hg9
       subst hv24
       refine Ld ?_
       refine Gr (hk48.sub (by intro y hy;simp at hy ⊢;rcases hy with hy | hy | hy <;> simp [hy])) ?_
       refine Sg (by kernel_rfl) ?_
       clear hsel
       replace S:=(S.nl [.blk Ae [U,iV V,O,iV Ab,v48,iV r3.2.1,iV r3.2.2.1,bV r3.2.2.2] 65,.own v48 3 1 r3.1.length (r3.1.flatMap eInt),.own Ag 3 1 Ai.length (Ai.flatMap eInt)] [true,true,false,false,true] rfl).k6 0 1 2 24 25 26 rfl
       exact Tn (⟨r3.2.1,r3.2.2.1,r3.2.2.2,r3.1,φ11,v48,h,hl11,S.nf [true,true,true] rfl (subR rfl)⟩)
    clear S h;rintro a w3 ⟨x5,x6,x7,x8,φ2,v2,h,hl2,S⟩;rw [hj2] at h;clear hj2 j2
    exact Ja (Tn (Fg (Vq S Gf rfl rfl rfl fun a S=>Vm S rfl rfl fun a S=>Dl (⟨ys1,⟨i1 + 1,x5,x6,x7,x8,φ2,v2,⟨_,(hd1).trans (List.append_cons _ _ _),by simp [hi1]⟩,h,(View.le_trans hl1 hl2),S.nf [true,true,true] rfl ⟨rfl,rfl,rfl,rfl,rfl,(congrArg (fun z=>some (Value.int .i64 z)) (Hy hd1 hi1 (Km Cd))),trivial⟩⟩,Nat.lt_succ_self _⟩))))
  clear S h;rintro a w2 ⟨x1,x2,x3,x4,φ1,v1,h,hl1,S⟩;rw [hj1] at h;clear hj1 j1
  refine Tn (wp_ret (Ee ?_))
  obtain rfl:=Option.some.inj h
  exact Rp S results26 ⟨v1,S.grp [0,1] [2] rfl rfl rfl,rfl⟩
 ·refine wp_skip (Tn (Fr (Vm S rfl rfl fun a S=>Vu S Ft rfl rfl fun a S=>Vf Wk S rfl rfl fun a S=>Vl isAgg26 0 S rfl rfl rfl rfl fun a S=>lv S (Gc Jr (S.tm rfl) (Dy Bk)) rfl ?_)));clear S;intro a S
  obtain ⟨hc4,h⟩:=Hs h
  refine IR (Z:=0) S Js Ge (by kernel_rfl) rfl rfl (S.tm rfl) (mk_lo hc4) (mk_hi hc4) rfl ?_;clear S;intro a w52 b16 hz30 hk49 S
  refine Va S rfl rfl fun a S=>Dz (Vk S rfl rfl fun a S=>Vk S rfl rfl fun a S=>Ld ?_)
  replace S:=(S.nl [.own (.slice (some ⟨b16,0,none⟩) ((Al.length : Int).toNat) ((Al.length : Int).toNat)) 3 1 (List.replicate ((Al.length : Int).toNat) 0 : List Int).length ((List.replicate ((Al.length : Int).toNat) 0 : List Int).flatMap eInt),.blk Ae [U,iV V,O,iV Ab,Aj,iV Aq,iV As,bV Au] 65,.own Aj 3 1 Ar.length (Ar.flatMap eInt),.own Ag 3 1 Ai.length (Ai.flatMap eInt)] [true,true,true,true] rfl).k5 0 1 8 9 10 rfl
  refine Tn (Fs (Fr (Vm S rfl rfl fun a S=>lv S (Gc Js (S.tm rfl) (Om (S.own_at (i:=3) rfl))) rfl fun a S=>lv S (Rm rfl) rfl fun a S=>Dl ?_)))
  replace S:=S.k8 0 1 8 9 10 54 55 56 rfl
  have hm11:=Yi (S.own_at (i:=3) rfl)
  obtain ⟨j3,hj3,h⟩:=Gh h
  refine Fv (fun a w'=>∃ x9 : List Int,∃ x11 : Int,∃ v49 : Value,j3 x9 x11 = some r ∧ Sx w X nov [.own v49 3 1 x9.length (x9.flatMap eInt),.blk Ae [U,iV V,O,iV Ab,Aj,iV Aq,iV As,bV Au] 65,.own Aj 3 1 Ar.length (Ar.flatMap eInt),.own Ag 3 1 Ai.length (Ai.flatMap eInt)] [(0,.pointer (some ⟨Ae,0,none⟩)),(1,Ag),(8,v49),(10,iV x11)] 208 a w') ?_ ?_
  ·refine wp_block (Hr (fun (ys2 : List Int) a w'=>∃ i2 : Nat,∃ x9 : List Int,∃ x10 : Int,∃ x11 : Int,∃ v49 : Value,(∃ dn,Ai = dn ++ ys2 ∧ dn.length = i2) ∧ Ki Al j3 ys2 i2 x9 x10 x11 = some r ∧ Sx w X nov [.own v49 3 1 x9.length (x9.flatMap eInt),.blk Ae [U,iV V,O,iV Ab,Aj,iV Aq,iV As,bV Au] 65,.own Aj 3 1 Ar.length (Ar.flatMap eInt),.own Ag 3 1 Ai.length (Ai.flatMap eInt)] [(0,.pointer (some ⟨Ae,0,none⟩)),(1,Ag),(8,v49),(9,iV x10),(10,iV x11),(54,Ag),(55,iV (Ai.length : Int)),(56,iV (i2 : Int))] 208 a w') List.length Ai ⟨0,(List.replicate ((Al.length : Int).toNat) 0 : List Int),0,0,(.slice (some ⟨b16,0,none⟩) ((Al.length : Int).toNat) ((Al.length : Int).toNat)),⟨[],rfl,rfl⟩,h,S.nf [true,true,true,true] rfl (subR rfl)⟩ ?_)
   clear S h;rintro ys2 a w53 ⟨i2,x9,x10,x11,v49,⟨dn,hd2,hi2⟩,h,S⟩
   cases ys2 with
   | nil =>
    rw [Ki.eq_1] at h
    refine Fr (Vb S Fu rfl rfl rfl fun a S=>Ld ?_)
    replace S:=S.k9 0 1 8 9 10 54 55 56 57 rfl
    exact Tn (Fs (wp_cond_false ((S.tm rfl).trans (congrArg Value.bool (Jd hd2 hi2))) (wp_exit (Fj (Fj (Hp (Tn (⟨x9,x11,v49,h,S.nf [true,true,true,true] rfl (subR rfl)⟩))))))))
   | cons y2 ys2 =>
    rw [Ki.eq_2] at h
    refine Fr (Vb S Fu rfl rfl rfl fun a S=>Ld ?_)
    replace S:=S.k9 0 1 8 9 10 54 55 56 57 rfl
    refine Tn (Fs (wp_cond_true ((S.tm rfl).trans (congrArg Value.bool (Hx hd2 hi2))) (wp_skip (Tn (Fs (wp_block (Fs (Fg ?_))))))))
    obtain ⟨b17,hg10,hr18⟩:=Gv (a:=a) (x:=.tmp 54) (y:=.tmp 56) (ty:=0) Js Ge S (i:=3) rfl (Il hd2 hi2) rfl (S.tm rfl) (S.tm rfl)
    refine lv S (hr18 _) rfl ?_;clear S;intro a S
    clear hr18
    refine lv S (Ha isAgg3 (off:=i2 * 1) (o:=0) (S.tm rfl) (Nm Ge S (i:=3) rfl hg10 (Il hd2 hi2)) rfl) rfl fun a S=>Va S rfl rfl fun a S=>Dz (Vm S rfl rfl fun a S=>Vu S Ft rfl rfl fun a S=>Vf Wk S rfl rfl fun a S=>Vl isAgg26 1 S rfl rfl rfl rfl fun a S=>Vm S rfl rfl ?_);clear S;intro a S
    obtain ⟨hc5,h⟩:=Hs h
    obtain ⟨b18,o3,hm13,hr19⟩:=Fo (a:=a) (x:=.tmp 63) (y:=.tmp 64) (ty:=0) Jr Bk (Ef hc5).1 (Ef hc5).2 (S.tm rfl) (S.tm rfl)
    refine lv S (hr19 _) rfl ?_;clear S;intro a S
    clear hr19
    refine lv S (Ie isAgg43 sizeOf43 (off:=o3) (o:=0) (part:=(An.enc (nth Al y2))) rfl rfl (S.tm rfl) (hm13.at S.emb0)) rfl fun a S=>Nw S zeroValue43 (cs:=[sV Eo,iV 0,iV 0,iV 0,iV 0]) rfl rfl ?_;clear S;intro a w55 b19 hz31 hk50 S
    refine Kq S (S.tm rfl) (S.tm rfl) (i:=0) (off:=0) rfl sizeOf43 (vs:=(An.enc (nth Al y2))) rfl rfl rfl rfl ?_;clear S;intro w56 hk51 S
    refine Ld ?_
    replace S:=(S.nl [.blk b19 (An.enc (nth Al y2)) 43,.own v49 3 1 x9.length (x9.flatMap eInt),.blk Ae [U,iV V,O,iV Ab,Aj,iV Aq,iV As,bV Au] 65,.own Aj 3 1 Ar.length (Ar.flatMap eInt),.own Ag 3 1 Ai.length (Ai.flatMap eInt)] [true,true,true,true,true] rfl).k9 0 1 8 9 12 13 54 55 56 rfl
    refine Tn (Fs (Fg ?_))
    iterate 3 (refine Vm S rfl rfl ?_;clear S;intro a S)
    obtain ⟨hc6,h⟩:=Hs h
    obtain ⟨b20,hg11,hr20⟩:=Gv (a:=a) (x:=.tmp 67) (y:=.tmp 68) (ty:=0) Js Ge S (i:=1) rfl (Ef hc6).1 (Ef hc6).2 (S.tm rfl) (S.tm rfl)
    refine lv S (hr20 _) rfl ?_;clear S;intro a S
    clear hr20
    refine Ng (c:=0) (j:=y2.toNat) x10 Ge S (S.tm rfl) (S.tm rfl) (i:=1) rfl hg11 (Ef hc6).1 sizeOf3 (vs:=[iV x10]) rfl rfl rfl rfl rfl ?_;clear S;intro w58 hk53 S
    refine Dl (Fs (Gz [] ([]) Tryz.mixed S rfl (by kernel_rfl) ?_));clear S;intro w60 hk55 hsel S
    refine Ec 0 S hsel rfl rfl rfl (by kernel_rfl) (by kernel_rfl) rfl (fun _ hw=>(Rm (S.tm rfl))) fun a S=>Ec 1 S hsel rfl rfl rfl (by kernel_rfl) (by kernel_rfl) rfl (fun _ hw=>(Ie isAgg43 sizeOf43 (off:=0) (o:=0) (part:=(An.enc (nth Al y2))) rfl rfl (S.tm rfl) ((S.blk_mem (i:=0) (cells:=(An.enc (nth Al y2))) (b:=b19) (T:=43) rfl (Gm (e':=.blk b19 (An.enc (nth Al y2)) 43))).kept hw))) fun a S=>Ec 2 S hsel rfl rfl rfl (by kernel_rfl) (by kernel_rfl) rfl (fun _ hw=>(Gi Td (S.tm rfl))) fun a S=>Ec 3 S hsel rfl rfl rfl (by kernel_rfl) (by kernel_rfl) rfl (fun _ hw=>(Ha isAgg3 (off:=0) (o:=1) (S.tm rfl) ((S.blk_mem (i:=0) (cells:=(An.enc (nth Al y2))) (b:=b19) (T:=43) rfl (Gm (e':=.blk b19 (An.enc (nth Al y2)) 43))).kept hw) rfl)) fun a S=>Ec 6 S hsel rfl rfl rfl (by kernel_rfl) (by kernel_rfl) rfl (fun _ hw=>(Gi Te (S.tm rfl))) fun a S=>Ec 7 S hsel rfl rfl rfl (by kernel_rfl) (by kernel_rfl) rfl (fun _ hw=>(Ha isAgg3 (off:=0) (o:=2) (S.tm rfl) ((S.blk_mem (i:=0) (cells:=(An.enc (nth Al y2))) (b:=b19) (T:=43) rfl (Gm (e':=.blk b19 (An.enc (nth Al y2)) 43))).kept hw) rfl)) fun a S=>Fy 4 (by kernel_rfl) rfl (Eg S (fun _=>Eb (vs:=[.agg (An.enc (nth Al y2)).toArray,iV ((nth Al y2).Heats)]) ⟨(S.tm rfl),(S.tm rfl),trivial⟩ call45) (Qd _ (nth Al y2) ((nth Al y2).Heats) _ rfl) rfl ?_);clear S;intro v51 a w61 hv26 hk56 hn26 S
    subst hv26
    refine Ld (Gr hk56 (Jy [5,8,9] hsel (by kernel_rfl) rfl ?_))
    clear hsel
    refine Gb S rfl (Gf (S.tm rfl) (S.tm rfl)) rfl fun a S=>Gb S rfl (Gf (S.tm rfl) (S.tm rfl)) rfl fun a S=>Gb S rfl (Ra (S.tm rfl)) rfl fun a S=>Ix ?_
    replace S:=(S.nl [.blk b19 (An.enc (nth Al y2)) 43,.own v49 3 1 (x9.set y2.toNat x10).length ((x9.set y2.toNat x10).flatMap eInt),.blk Ae [U,iV V,O,iV Ab,Aj,iV Aq,iV As,bV Au] 65,.own Aj 3 1 Ar.length (Ar.flatMap eInt),.own Ag 3 1 Ai.length (Ai.flatMap eInt)] [true,true,true,true,true] rfl).k8 0 1 8 10 13 54 55 56 rfl
    refine Tn (Fg (Vm S rfl rfl fun a S=>Vf CL S rfl rfl fun a S=>Vl isAgg3 0 S rfl rfl rfl rfl fun a S=>Vb S Gf rfl rfl rfl fun a S=>Va S rfl rfl fun a S=>Ld (Ja (Tn (Fg ?_)))))
    exact Vq S Gf rfl rfl rfl fun a S=>Vm S rfl rfl fun a S=>Dl (⟨ys2,⟨i2 + 1,(x9.set y2.toNat x10),W ((W ((W (x10 + (Gg (nth Al y2) ((nth Al y2).Heats)))) + ((nth Al y2).Long))) + ((nth Al y2).Break)),W ((W (x10 + (Gg (nth Al y2) ((nth Al y2).Heats)))) + ((nth Al y2).Long)),v49,⟨_,(hd2).trans (List.append_cons _ _ _),by simp [hi2]⟩,h,S.nf [false,true,true,true,true] rfl ⟨rfl,rfl,rfl,rfl,rfl,rfl,rfl,(congrArg (fun z=>some (Value.int .i64 z)) (Hy hd2 hi2 hm11)),trivial⟩⟩,Nat.lt_succ_self _⟩)
  clear S h;rintro a w54 ⟨x9,x11,v49,h,S⟩;rw [hj3] at h;clear hj3 j3
  refine Tn (Fr (Vm S rfl rfl fun a S=>Vu S Ft rfl rfl fun a S=>Vf CM S rfl rfl fun a S=>Vl isAgg3 1 S rfl rfl rfl rfl fun a S=>Va S rfl rfl fun a S=>Dl (Fs ?_)))
  refine Fr (Vm S rfl rfl fun a S=>Vu S Ft rfl rfl fun a S=>Vf Wl S rfl rfl fun a S=>Vl isAgg63 1 S rfl rfl rfl rfl fun a S=>lv S (Gc DZ (S.tm rfl) (Sh Bm Bn)) rfl fun a S=>lv S (Rm rfl) rfl fun a S=>Ld ?_)
  replace S:=S.k8 0 1 8 10 14 92 93 94 rfl
  refine Tn ?_
  obtain ⟨j4,hj4,h⟩:=Gh h
  refine Fv (fun a w'=>∃ x12 : Int,j4 x12 = some r ∧ Sx w X nov [.own v49 3 1 x9.length (x9.flatMap eInt),.blk Ae [U,iV V,O,iV Ab,Aj,iV Aq,iV As,bV Au] 65,.own Aj 3 1 Ar.length (Ar.flatMap eInt),.own Ag 3 1 Ai.length (Ai.flatMap eInt)] [(0,.pointer (some ⟨Ae,0,none⟩)),(1,Ag),(10,iV x11),(14,iV x12)] 208 a w') ?_ ?_
  ·refine wp_block (Hr (fun (ys3 : List (List Dw)) a w'=>∃ i3 : Nat,∃ x12 : Int,(∃ dn,Bg = dn ++ ys3 ∧ dn.length = i3) ∧ Kk x9 Al Ab Ai j4 ys3 i3 x12 = some r ∧ Sx w X nov [.own v49 3 1 x9.length (x9.flatMap eInt),.blk Ae [U,iV V,O,iV Ab,Aj,iV Aq,iV As,bV Au] 65,.own Aj 3 1 Ar.length (Ar.flatMap eInt),.own Ag 3 1 Ai.length (Ai.flatMap eInt)] [(0,.pointer (some ⟨Ae,0,none⟩)),(1,Ag),(8,v49),(10,iV x11),(14,iV x12),(92,O),(93,iV (Bg.length : Int)),(94,iV (i3 : Int))] 208 a w') List.length Bg ⟨0,V,⟨[],rfl,rfl⟩,h,S.nf [true,true,true,true] rfl (subR rfl)⟩ ?_)
   clear S h;rintro ys3 a w62 ⟨i3,x12,⟨dn,hd3,hi3⟩,h,S⟩
   cases ys3 with
   | nil =>
    rw [Kk.eq_1] at h
    refine Fr (Vb S Fu rfl rfl rfl fun a S=>Ld ?_)
    replace S:=S.k9 0 1 8 10 14 92 93 94 95 rfl
    exact Tn (Fs (wp_cond_false ((S.tm rfl).trans (congrArg Value.bool (Jd hd3 hi3))) (wp_exit (Fj (Fj (Hp (Tn (⟨x12,h,S.nf [true,true,true,true] rfl (subR rfl)⟩))))))))
   | cons y3 ys3 =>
    rw [Kk.eq_2] at h
    refine Fr (Vb S Fu rfl rfl rfl fun a S=>Ld ?_)
    replace S:=S.k9 0 1 8 10 14 92 93 94 95 rfl
    refine Tn (Fs (wp_cond_true ((S.tm rfl).trans (congrArg Value.bool (Hx hd3 hi3))) (wp_skip (Tn (Fs (wp_block (Fs (Fg ?_))))))))
    obtain ⟨r4,hg12,hl12⟩:=Ii.at Bn (Il hd3 hi3)
    have hs14:=hl12
    obtain ⟨b21,o5,hm15,hr21⟩:=Fo (a:=a) (x:=.tmp 92) (y:=.tmp 94) (ty:=0) DZ Bm hg12 rfl (S.tm rfl) (S.tm rfl)
    refine lv S (hr21 _) rfl ?_;clear S;intro a S
    clear hr21
    refine lv S (Ha isAgg100 (off:=o5) (o:=0) (S.tm rfl) (hm15.at S.emb0) rfl) rfl fun a S=>Va S rfl rfl fun a S=>Dz (Vk S rfl rfl fun a S=>Dl (Fs (Fg ?_)))
    refine Vm S rfl rfl fun a S=>lv S (Gc Js (S.tm rfl) (Om (S.own_at (i:=3) rfl))) rfl fun a S=>lv S (Rm rfl) rfl fun a S=>Ld ?_
    replace S:=S.k13 0 1 8 10 14 16 17 92 93 94 98 99 100 rfl
    refine Tn ?_
    have hm16:=Yi (S.own_at (i:=3) rfl)
    obtain ⟨j5,hj5,h⟩:=Gh h
    refine Fv (fun a w'=>∃ x13 : Int,j5 x13 = some r ∧ Sx w X nov [.own v49 3 1 x9.length (x9.flatMap eInt),.blk Ae [U,iV V,O,iV Ab,Aj,iV Aq,iV As,bV Au] 65,.own Aj 3 1 Ar.length (Ar.flatMap eInt),.own Ag 3 1 Ai.length (Ai.flatMap eInt)] [(0,.pointer (some ⟨Ae,0,none⟩)),(1,Ag),(8,v49),(10,iV x11),(14,iV x13),(92,O),(93,iV (Bg.length : Int)),(94,iV (i3 : Int))] 208 a w') ?_ ?_
    ·refine wp_block (Hr (fun (ys4 : List Int) a w'=>∃ i4 : Nat,∃ x13 : Int,∃ x14 : Int,(∃ dn,Ai = dn ++ ys4 ∧ dn.length = i4) ∧ Kj y3 x9 Al Ab j5 ys4 i4 x13 x14 = some r ∧ Sx w X nov [.own v49 3 1 x9.length (x9.flatMap eInt),.blk Ae [U,iV V,O,iV Ab,Aj,iV Aq,iV As,bV Au] 65,.own Aj 3 1 Ar.length (Ar.flatMap eInt),.own Ag 3 1 Ai.length (Ai.flatMap eInt)] [(0,.pointer (some ⟨Ae,0,none⟩)),(1,Ag),(8,v49),(10,iV x11),(14,iV x13),(16,r4.val),(17,iV x14),(92,O),(93,iV (Bg.length : Int)),(94,iV (i3 : Int)),(98,Ag),(99,iV (Ai.length : Int)),(100,iV (i4 : Int))] 208 a w') List.length Ai ⟨0,x12,(-1),⟨[],rfl,rfl⟩,h,S.nf [true,true,true,true] rfl (subR rfl)⟩ ?_)
     clear S h;rintro ys4 a w64 ⟨i4,x13,x14,⟨dn,hd4,hi4⟩,h,S⟩
     cases ys4 with
     | nil =>
      rw [Kj.eq_1] at h
      refine Fr (Vb S Fu rfl rfl rfl fun a S=>Ld ?_)
      replace S:=S.k14 0 1 8 10 14 16 17 92 93 94 98 99 100 101 rfl
      exact Tn (Fs (wp_cond_false ((S.tm rfl).trans (congrArg Value.bool (Jd hd4 hi4))) (wp_exit (Fj (Fj (Hp (Tn (⟨x13,h,S.nf [true,true,true,true] rfl (subR rfl)⟩))))))))
     | cons y4 ys4 =>
      rw [Kj.eq_2] at h
      refine Fr (Vb S Fu rfl rfl rfl fun a S=>Ld ?_)
      replace S:=S.k14 0 1 8 10 14 16 17 92 93 94 98 99 100 101 rfl
      refine Tn (Fs (wp_cond_true ((S.tm rfl).trans (congrArg Value.bool (Hx hd4 hi4))) (wp_skip (Tn (Fs ?_)))))
      obtain ⟨j6,hj6,h⟩:=Gh h
      refine Fv (fun a w'=>∃ x15 : Int,∃ x16 : Int,j6 x15 x16 = some r ∧ Sx w X nov [.own v49 3 1 x9.length (x9.flatMap eInt),.blk Ae [U,iV V,O,iV Ab,Aj,iV Aq,iV As,bV Au] 65,.own Aj 3 1 Ar.length (Ar.flatMap eInt),.own Ag 3 1 Ai.length (Ai.flatMap eInt)] [(0,.pointer (some ⟨Ae,0,none⟩)),(1,Ag),(8,v49),(10,iV x11),(14,iV x15),(16,r4.val),(17,iV x16),(92,O),(93,iV (Bg.length : Int)),(94,iV (i3 : Int)),(98,Ag),(99,iV (Ai.length : Int)),(100,iV (i4 : Int))] 208 a w') ?_ ?_
      ·refine wp_block (Fs (Fg ?_))
       obtain ⟨b22,hg13,hr22⟩:=Gv (a:=a) (x:=.tmp 98) (y:=.tmp 100) (ty:=0) Js Ge S (i:=3) rfl (Il hd4 hi4) rfl (S.tm rfl) (S.tm rfl)
       refine lv S (hr22 _) rfl ?_;clear S;intro a S
       clear hr22
       refine lv S (Ha isAgg3 (off:=i4 * 1) (o:=0) (S.tm rfl) (Nm Ge S (i:=3) rfl hg13 (Il hd4 hi4)) rfl) rfl fun a S=>Va S rfl rfl fun a S=>Ld ?_
       replace S:=S.k14 0 1 8 10 14 16 17 19 92 93 94 98 99 100 rfl
       refine Tn (Fs (Fr (Vm S rfl rfl fun a S=>Vm S rfl rfl ?_)));clear S;intro a S
       obtain ⟨hc7,h⟩:=Hs h
       obtain ⟨b23,o7,hm18,hr23⟩:=Fo (a:=a) (x:=.tmp 104) (y:=.tmp 105) (ty:=0) Zi hs14 (Ef hc7).1 (Ef hc7).2 (S.tm rfl) (S.tm rfl)
       refine lv S (hr23 _) rfl ?_;clear S;intro a S
       clear hr23
       refine Vf Sj S rfl rfl fun a S=>lv S (Ha isAgg3 (off:=o7) (o:=1) (S.tm rfl) (hm18.at S.emb0) rfl) rfl fun a S=>Vq S Ko rfl rfl rfl fun a S=>Ld ?_
       replace S:=S.k15 0 1 8 10 14 16 17 19 92 93 94 98 99 100 109 rfl
       refine Tn (Fc h (S.tm rfl) (fun hb2 h=>?_) (fun hb2 h=>?_))
       ·exact wp_exit (Fj (Hp (Tn (⟨x13,x14,h,S.nf [true,true,true,true] rfl (subR rfl)⟩))))
       ·refine wp_skip (Tn (Fs (Fs ?_)))
        obtain ⟨hc8,h⟩:=Hs h
        obtain ⟨hc9,h⟩:=Hs h
        obtain ⟨hc10,h⟩:=Hs h
        refine Gz [] ([]) Tryz.mixed S rfl (by kernel_rfl) ?_;clear S;intro w68 hk58 hsel S
        refine Ec 0 S hsel rfl rfl rfl (by kernel_rfl) (by kernel_rfl) rfl (fun _ hw=>(Rm (S.tm rfl))) fun a S=>Ec 1 S hsel rfl rfl rfl (by kernel_rfl) (by kernel_rfl) rfl (fun _ hw=>(Rm (S.tm rfl))) ?_;clear S;intro a S
        obtain ⟨b27,hg15,hr27⟩:=Gv (a:=a) (x:=.tmp 110) (y:=.tmp 111) (ty:=0) Js Ge S (i:=0) rfl (Ef hc8).1 (Ef hc8).2 (S.tm rfl) (S.tm rfl)
        refine Ec 2 S hsel rfl rfl rfl (by kernel_rfl) (by kernel_rfl) rfl (fun _ hw=>(hr27 _)) ?_;clear S;intro a S
        clear hr27
        refine Ec 3 S hsel rfl rfl rfl (by kernel_rfl) (by kernel_rfl) rfl (fun _ hw=>(Ha isAgg3 (off:=y4.toNat * 1) (o:=0) (S.tm rfl) ((Mr Ge S (i:=0) rfl hg15 (Ef hc8).1 (Gm (e':=.own v49 3 1 x9.length (x9.flatMap eInt)))).kept hw) rfl)) fun a S=>Ec 4 S hsel rfl rfl rfl (by kernel_rfl) (by kernel_rfl) rfl (fun _ hw=>(Rm (S.tm rfl))) fun a S=>Ec 5 S hsel rfl rfl rfl (by kernel_rfl) (by kernel_rfl) rfl (fun _ hw=>(Ft (S.tm rfl))) fun a S=>Ec 6 S hsel rfl rfl rfl (by kernel_rfl) (by kernel_rfl) rfl (fun _ hw=>(Gi Wk (S.tm rfl))) fun a S=>Ec 7 S hsel rfl rfl rfl (by kernel_rfl) (by kernel_rfl) rfl (fun _ hw=>(Ha isAgg26 (off:=0) (o:=0) (S.tm rfl) ((S.blk_mem (i:=1) (cells:=[U,iV V,O,iV Ab,Aj,iV Aq,iV As,bV Au]) (b:=Ae) (T:=65) rfl (Gm (e':=.blk Ae [U,iV V,O,iV Ab,Aj,iV Aq,iV As,bV Au] 65))).kept hw) rfl)) fun a S=>Ec 8 S hsel rfl rfl rfl (by kernel_rfl) (by kernel_rfl) rfl (fun _ hw=>(Rm (S.tm rfl))) ?_;clear S;intro a S
        obtain ⟨b28,o12,hm23,hr28⟩:=Fo (a:=a) (x:=.tmp 117) (y:=.tmp 118) (ty:=0) Jr (Bk.mono (S.le_arg Fk)) (Ef hc9).1 (Ef hc9).2 (S.tm rfl) (S.tm rfl)
        refine Ec 9 S hsel rfl rfl rfl (by kernel_rfl) (by kernel_rfl) rfl (fun _ hw=>hr28 _) ?_;clear S;intro a S
        clear hr28
        refine Ec 10 S hsel rfl rfl rfl (by kernel_rfl) (by kernel_rfl) rfl (fun _ hw=>(Ie isAgg43 sizeOf43 (off:=o12) (o:=0) (part:=(An.enc (nth Al y4))) rfl rfl (S.tm rfl) (hm23.kept hw))) fun a S=>Ec 11 S hsel rfl rfl rfl (by kernel_rfl) (by kernel_rfl) rfl (fun _ hw=>(Rm (S.tm rfl))) fun a S=>Ec 12 S hsel rfl rfl rfl (by kernel_rfl) (by kernel_rfl) rfl (fun _ hw=>(Rm (S.tm rfl))) ?_;clear S;intro a S
        obtain ⟨b29,o13,hm24,hr29⟩:=Fo (a:=a) (x:=.tmp 121) (y:=.tmp 122) (ty:=0) Zi (hs14.mono (S.le_arg Fk)) (Ef hc10).1 (Ef hc10).2 (S.tm rfl) (S.tm rfl)
        refine Ec 13 S hsel rfl rfl rfl (by kernel_rfl) (by kernel_rfl) rfl (fun _ hw=>hr29 _) ?_;clear S;intro a S
        clear hr29
        refine Ec 14 S hsel rfl rfl rfl (by kernel_rfl) (by kernel_rfl) rfl (fun _ hw=>(Gi EA (S.tm rfl))) fun a S=>Ec 15 S hsel rfl rfl rfl (by kernel_rfl) (by kernel_rfl) rfl (fun _ hw=>(Ha isAgg3 (off:=o13) (o:=0) (S.tm rfl) (hm24.kept hw) rfl)) fun a S=>Fy 16 (by kernel_rfl) rfl (Eg S (fun _=>Eb (vs:=[.agg (An.enc (nth Al y4)).toArray,iV ((nth y3 y4).first_)]) ⟨(S.tm rfl),(S.tm rfl),trivial⟩ call45) (Qd _ (nth Al y4) ((nth y3 y4).first_) _ rfl) rfl ?_);clear S;intro v53 a w69 hv28 hk59 hn28 S
        subst hv28
        refine Ld (Gr hk59 (Jy [17,18] hsel (by kernel_rfl) rfl ?_))
        clear hsel
        refine Gb S rfl (Gf (S.tm rfl) (S.tm rfl)) rfl fun a S=>Gb S rfl (Ra (S.tm rfl)) rfl fun a S=>Ix ?_
        replace S:=S.k15 0 1 8 10 14 16 17 19 20 92 93 94 98 99 100 rfl
        refine Tn (Fr (Vm S rfl rfl fun a S=>Vq S Ns rfl rfl rfl fun a S=>Vm S rfl rfl fun a S=>Jm 9 (fun a w'=>Keep [] w69 w' ∧ Sx w X nov [.own v49 3 1 x9.length (x9.flatMap eInt),.blk Ae [U,iV V,O,iV Ab,Aj,iV Aq,iV As,bV Au] 65,.own Aj 3 1 Ar.length (Ar.flatMap eInt),.own Ag 3 1 Ai.length (Ai.flatMap eInt)] [(0,.pointer (some ⟨Ae,0,none⟩)),(1,Ag),(8,v49),(10,iV x11),(14,iV x13),(16,r4.val),(19,iV y4),(92,O),(93,iV (Bg.length : Int)),(94,iV (i3 : Int)),(98,Ag),(99,iV (Ai.length : Int)),(100,iV (i4 : Int)),(139,bV ((decide (0 ≤ x14)) && (decide ((W ((W ((nth x9 y4) + (Gg (nth Al y4) ((nth y3 y4).first_)))) - x14)) < Ab))))] 208 a w') ?_ ?_))
        ·rcases Bool.eq_false_or_eq_true (decide (0 ≤ x14)) with hb3 | hb3
         ·refine Ej S rfl rfl rfl hb3 (Vm S rfl rfl fun a S=>Ej S rfl rfl rfl hb3 (Vm S rfl rfl fun a S=>Ej S rfl rfl rfl hb3 (Vb S Iw rfl rfl rfl fun a S=>Ej S rfl rfl rfl hb3 (Vm S rfl rfl fun a S=>Ej S rfl rfl rfl hb3 (Vu S Ft rfl rfl fun a S=>Ej S rfl rfl rfl hb3 ?_)))))
          exact Vf fa_65_3 S rfl rfl fun a S=>Ej S rfl rfl rfl hb3 (Vl isAgg3 1 S rfl rfl rfl rfl fun a S=>Ej S rfl rfl rfl hb3 (Vb S Fu rfl rfl rfl fun a S=>lv S (Jk hb3 (S.tm rfl) (S.tm rfl)) rfl fun a S=>Dl (⟨Keep.refl _ _,S.nf [true,true,true,true] rfl (subR rfl)⟩)))
         ·iterate 8 (refine Ik S rfl rfl rfl (Lg hb3) rfl ?_ rfl;clear S;intro a S)
          exact lv S (Jl (decide ((W ((W ((nth x9 y4) + (Gg (nth Al y4) ((nth y3 y4).first_)))) - x14)) < Ab)) hb3 (S.tm rfl) rfl) rfl fun a S=>Dl (⟨Keep.refl _ _,S.nf [true,true,true,true] rfl (subR rfl)⟩)
        clear S;rintro a w70 ⟨hk60,S⟩
        refine Dl ?_
        obtain ⟨j7,hj7,h⟩:=Gh h
        refine Fv (fun a w'=>∃ x17 : Int,j7 x17 = some r ∧ Sx w X nov [.own v49 3 1 x9.length (x9.flatMap eInt),.blk Ae [U,iV V,O,iV Ab,Aj,iV Aq,iV As,bV Au] 65,.own Aj 3 1 Ar.length (Ar.flatMap eInt),.own Ag 3 1 Ai.length (Ai.flatMap eInt)] [(0,.pointer (some ⟨Ae,0,none⟩)),(1,Ag),(8,v49),(10,iV x11),(14,iV x17),(16,r4.val),(19,iV y4),(92,O),(93,iV (Bg.length : Int)),(94,iV (i3 : Int)),(98,Ag),(99,iV (Ai.length : Int)),(100,iV (i4 : Int))] 208 a w') ?_ ?_
        ·refine Fc h (S.tm rfl) (fun hb4 h=>?_) (fun hb4 h=>?_)
         ·refine Fg (Vm S rfl rfl fun a S=>Vq S Gf rfl rfl rfl fun a S=>Va S rfl rfl fun a S=>Ld ?_)
          replace S:=S.k13 0 1 8 10 14 16 19 92 93 94 98 99 100 rfl
          exact Tn (⟨W (x13 + 1),h,S.nf [true,true,true,true] rfl (subR rfl)⟩)
         ·exact wp_skip (Tn (⟨x13,h,S.nf [true,true,true,true] rfl (subR rfl)⟩))
        clear S h;rintro a w71 ⟨x17,h,S⟩;rw [hj7] at h;clear hj7 j7
        refine Tn ?_
        obtain ⟨hc11,h⟩:=Hs h
        obtain ⟨hc12,h⟩:=Hs h
        obtain ⟨hc13,h⟩:=Hs h
        obtain ⟨hc14,h⟩:=Hs h
        refine Gz [] ([]) Tryz.mixed S rfl (by kernel_rfl) ?_;clear S;intro w73 hk62 hsel S
        refine Ec 0 S hsel rfl rfl rfl (by kernel_rfl) (by kernel_rfl) rfl (fun _ hw=>(Rm (S.tm rfl))) fun a S=>Ec 1 S hsel rfl rfl rfl (by kernel_rfl) (by kernel_rfl) rfl (fun _ hw=>(Rm (S.tm rfl))) ?_;clear S;intro a S
        obtain ⟨b34,hg17,hr34⟩:=Gv (a:=a) (x:=.tmp 142) (y:=.tmp 143) (ty:=0) Js Ge S (i:=0) rfl (Ef hc11).1 (Ef hc11).2 (S.tm rfl) (S.tm rfl)
        refine Ec 2 S hsel rfl rfl rfl (by kernel_rfl) (by kernel_rfl) rfl (fun _ hw=>(hr34 _)) ?_;clear S;intro a S
        clear hr34
        refine Ec 3 S hsel rfl rfl rfl (by kernel_rfl) (by kernel_rfl) rfl (fun _ hw=>(Ha isAgg3 (off:=y4.toNat * 1) (o:=0) (S.tm rfl) ((Mr Ge S (i:=0) rfl hg17 (Ef hc11).1 (Gm (e':=.own v49 3 1 x9.length (x9.flatMap eInt)))).kept hw) rfl)) fun a S=>Ec 4 S hsel rfl rfl rfl (by kernel_rfl) (by kernel_rfl) rfl (fun _ hw=>(Rm (S.tm rfl))) fun a S=>Ec 5 S hsel rfl rfl rfl (by kernel_rfl) (by kernel_rfl) rfl (fun _ hw=>(Ft (S.tm rfl))) fun a S=>Ec 6 S hsel rfl rfl rfl (by kernel_rfl) (by kernel_rfl) rfl (fun _ hw=>(Gi Wk (S.tm rfl))) fun a S=>Ec 7 S hsel rfl rfl rfl (by kernel_rfl) (by kernel_rfl) rfl (fun _ hw=>(Ha isAgg26 (off:=0) (o:=0) (S.tm rfl) ((S.blk_mem (i:=1) (cells:=[U,iV V,O,iV Ab,Aj,iV Aq,iV As,bV Au]) (b:=Ae) (T:=65) rfl (Gm (e':=.blk Ae [U,iV V,O,iV Ab,Aj,iV Aq,iV As,bV Au] 65))).kept hw) rfl)) fun a S=>Ec 8 S hsel rfl rfl rfl (by kernel_rfl) (by kernel_rfl) rfl (fun _ hw=>(Rm (S.tm rfl))) ?_;clear S;intro a S
        obtain ⟨b35,o19,hm30,hr35⟩:=Fo (a:=a) (x:=.tmp 149) (y:=.tmp 150) (ty:=0) Jr (Bk.mono (S.le_arg Fk)) (Ef hc12).1 (Ef hc12).2 (S.tm rfl) (S.tm rfl)
        refine Ec 9 S hsel rfl rfl rfl (by kernel_rfl) (by kernel_rfl) rfl (fun _ hw=>hr35 _) ?_;clear S;intro a S
        clear hr35
        refine Ec 10 S hsel rfl rfl rfl (by kernel_rfl) (by kernel_rfl) rfl (fun _ hw=>(Ie isAgg43 sizeOf43 (off:=o19) (o:=0) (part:=(An.enc (nth Al y4))) rfl rfl (S.tm rfl) (hm30.kept hw))) fun a S=>Ec 11 S hsel rfl rfl rfl (by kernel_rfl) (by kernel_rfl) rfl (fun _ hw=>(Rm (S.tm rfl))) fun a S=>Ec 12 S hsel rfl rfl rfl (by kernel_rfl) (by kernel_rfl) rfl (fun _ hw=>(Rm (S.tm rfl))) ?_;clear S;intro a S
        obtain ⟨b36,o20,hm31,hr36⟩:=Fo (a:=a) (x:=.tmp 153) (y:=.tmp 154) (ty:=0) Zi (hs14.mono (S.le_arg Fk)) (Ef hc13).1 (Ef hc13).2 (S.tm rfl) (S.tm rfl)
        refine Ec 13 S hsel rfl rfl rfl (by kernel_rfl) (by kernel_rfl) rfl (fun _ hw=>hr36 _) ?_;clear S;intro a S
        clear hr36
        refine Ec 14 S hsel rfl rfl rfl (by kernel_rfl) (by kernel_rfl) rfl (fun _ hw=>(Gi Sj (S.tm rfl))) fun a S=>Ec 15 S hsel rfl rfl rfl (by kernel_rfl) (by kernel_rfl) rfl (fun _ hw=>(Ha isAgg3 (off:=o20) (o:=1) (S.tm rfl) (hm31.kept hw) rfl)) fun a S=>Ec 18 S hsel rfl rfl rfl (by kernel_rfl) (by kernel_rfl) rfl (fun _ hw=>(Rm (S.tm rfl))) fun a S=>Ec 19 S hsel rfl rfl rfl (by kernel_rfl) (by kernel_rfl) rfl (fun _ hw=>(Ft (S.tm rfl))) fun a S=>Ec 20 S hsel rfl rfl rfl (by kernel_rfl) (by kernel_rfl) rfl (fun _ hw=>(Gi Wk (S.tm rfl))) fun a S=>Ec 21 S hsel rfl rfl rfl (by kernel_rfl) (by kernel_rfl) rfl (fun _ hw=>(Ha isAgg26 (off:=0) (o:=0) (S.tm rfl) ((S.blk_mem (i:=1) (cells:=[U,iV V,O,iV Ab,Aj,iV Aq,iV As,bV Au]) (b:=Ae) (T:=65) rfl (Gm (e':=.blk Ae [U,iV V,O,iV Ab,Aj,iV Aq,iV As,bV Au] 65))).kept hw) rfl)) fun a S=>Ec 22 S hsel rfl rfl rfl (by kernel_rfl) (by kernel_rfl) rfl (fun _ hw=>(Rm (S.tm rfl))) ?_;clear S;intro a S
        obtain ⟨b37,o21,hm32,hr37⟩:=Fo (a:=a) (x:=.tmp 163) (y:=.tmp 164) (ty:=0) Jr (Bk.mono (S.le_arg Fk)) (Ef hc14).1 (Ef hc14).2 (S.tm rfl) (S.tm rfl)
        refine Ec 23 S hsel rfl rfl rfl (by kernel_rfl) (by kernel_rfl) rfl (fun _ hw=>hr37 _) ?_;clear S;intro a S
        clear hr37
        refine Ec 24 S hsel rfl rfl rfl (by kernel_rfl) (by kernel_rfl) rfl (fun _ hw=>(Gi Te (S.tm rfl))) fun a S=>Ec 25 S hsel rfl rfl rfl (by kernel_rfl) (by kernel_rfl) rfl (fun _ hw=>(Ha isAgg3 (off:=o21) (o:=2) (S.tm rfl) (hm32.kept hw) rfl)) fun a S=>Fy 16 (by kernel_rfl) rfl (Eg S (fun _=>Eb (vs:=[.agg (An.enc (nth Al y4)).toArray,iV ((nth y3 y4).last_)]) ⟨(S.tm rfl),(S.tm rfl),trivial⟩ call45) (Qd _ (nth Al y4) ((nth y3 y4).last_) _ rfl) rfl ?_);clear S;intro v55 a w74 hv30 hk63 hn30 S
        subst hv30
        refine Ld (Gr hk63 (Jy [17,26,27] hsel (by kernel_rfl) rfl ?_))
        clear hsel
        refine Gb S rfl (Gf (S.tm rfl) (S.tm rfl)) rfl fun a S=>Gb S rfl (Gf (S.tm rfl) (S.tm rfl)) rfl fun a S=>Gb S rfl (Ra (S.tm rfl)) rfl fun a S=>Ix ?_
        replace S:=S.k13 0 1 8 10 14 16 17 92 93 94 98 99 100 rfl
        exact Ja (Tn (⟨x17,W ((W ((nth x9 y4) + (Gg (nth Al y4) ((nth y3 y4).last_)))) + ((nth Al y4).Long)),h,S.nf [true,true,true,true] rfl (subR rfl)⟩))
      clear S h;rintro a w66 ⟨x15,x16,h,S⟩;rw [hj6] at h;clear hj6 j6
      exact Tn (Fg (Vq S Gf rfl rfl rfl fun a S=>Vm S rfl rfl fun a S=>Dl (⟨ys4,⟨i4 + 1,x15,x16,⟨_,(hd4).trans (List.append_cons _ _ _),by simp [hi4]⟩,h,S.nf [true,true,true,true] rfl ⟨rfl,rfl,rfl,rfl,rfl,rfl,rfl,rfl,rfl,rfl,rfl,rfl,(congrArg (fun z=>some (Value.int .i64 z)) (Hy hd4 hi4 hm16)),trivial⟩⟩,Nat.lt_succ_self _⟩)))
    clear S h;rintro a w65 ⟨x13,h,S⟩;rw [hj5] at h;clear hj5 j5
    exact Ja (Tn (Fg (Vq S Gf rfl rfl rfl fun a S=>Vm S rfl rfl fun a S=>Dl (⟨ys3,⟨i3 + 1,x13,⟨_,(hd3).trans (List.append_cons _ _ _),by simp [hi3]⟩,h,S.nf [true,true,true,true] rfl ⟨rfl,rfl,rfl,rfl,rfl,rfl,rfl,(congrArg (fun z=>some (Value.int .i64 z)) (Hy hd3 hi3 (Tt Bm Bn))),trivial⟩⟩,Nat.lt_succ_self _⟩))))
  clear S h;rintro a w63 ⟨x12,h,S⟩;rw [hj4] at h;clear hj4 j4
  refine Tn (Fs ?_)
  obtain ⟨j8,hj8,h⟩:=Gh h
  refine Fv (fun a w'=>∃ x18 : Bool,j8 x18 = some r ∧ Sx w X nov [.blk Ae [U,iV V,O,iV Ab,Aj,iV Aq,iV As,bV Au] 65,.own Aj 3 1 Ar.length (Ar.flatMap eInt),.own Ag 3 1 Ai.length (Ai.flatMap eInt)] [(0,.pointer (some ⟨Ae,0,none⟩)),(1,Ag),(10,iV x11),(14,iV x12),(192,bV x18)] 208 a w') ?_ ?_
  ·rcases Bool.eq_false_or_eq_true (!Au) with hb5 | hb5
   ·replace h:=Qr h hb5
    refine Gz [] ([]) Tryz.mixed S rfl (by kernel_rfl) ?_;clear S;intro w76 hk64 hsel S
    refine Jy [0,1,2,3,4,5,6,7,8,9,10,11,12,13,14,15,16,17,18,19,20,21] hsel (by kernel_rfl) rfl ?_
    clear hsel
    refine Gb S rfl (Rm (S.tm rfl)) rfl fun a S=>Gb S rfl (Ft (S.tm rfl)) rfl fun a S=>Gb S rfl (Gi CO (S.tm rfl)) rfl fun a S=>Gb S rfl (Ky isAgg4 (S.tm rfl) (S.cell (i:=1) rfl rfl)) rfl fun a S=>Gb S rfl (Ip (S.tm rfl)) rfl fun a S=>Gb S rfl (Rm (S.tm rfl)) rfl ?_;clear S;intro a S
    iterate 15 (refine Rb S rfl rfl rfl rfl (Nf hb5) rfl ?_ rfl;clear S;intro a S)
    refine Gb S rfl (Nk hb5 (S.tm rfl) rfl) rfl fun a S=>Ix ?_
    replace S:=S.d0.k5 0 1 10 14 192 rfl
    exact Tn (⟨true,h,S.nf [true,true,true] rfl (subR rfl)⟩)
   ·replace h:=Qs h hb5
    refine Gz [] ([]) Tryz.mixed S rfl (by kernel_rfl) ?_;clear S;intro w81 hk69 hsel S
    refine Ec 0 S hsel rfl rfl rfl (by kernel_rfl) (by kernel_rfl) rfl (fun _ hw=>(Rm (S.tm rfl))) fun a S=>Ec 1 S hsel rfl rfl rfl (by kernel_rfl) (by kernel_rfl) rfl (fun _ hw=>(Ft (S.tm rfl))) fun a S=>Ec 2 S hsel rfl rfl rfl (by kernel_rfl) (by kernel_rfl) rfl (fun _ hw=>(Gi CO (S.tm rfl))) fun a S=>Ec 3 S hsel rfl rfl rfl (by kernel_rfl) (by kernel_rfl) rfl (fun _ hw=>(Ha isAgg4 (off:=0) (o:=7) (S.tm rfl) ((S.blk_mem (i:=1) (cells:=[U,iV V,O,iV Ab,Aj,iV Aq,iV As,bV Au]) (b:=Ae) (T:=65) rfl (Gm (e':=.blk Ae [U,iV V,O,iV Ab,Aj,iV Aq,iV As,bV Au] 65))).kept hw) rfl)) fun a S=>Ec 4 S hsel rfl rfl rfl (by kernel_rfl) (by kernel_rfl) rfl (fun _ hw=>(Ip (S.tm rfl))) fun a S=>Ec 5 S hsel rfl rfl rfl (by kernel_rfl) (by kernel_rfl) rfl (fun _ hw=>(Rm (S.tm rfl))) fun a S=>Ew 6 S hsel rfl rfl rfl rfl hb5 rfl rfl (by kernel_rfl) (by kernel_rfl) rfl (fun _ hw=>(Rm (S.tm rfl))) fun a S=>Ew 7 S hsel rfl rfl rfl rfl hb5 rfl rfl (by kernel_rfl) (by kernel_rfl) rfl (fun _ hw=>(Rm (S.tm rfl))) fun a S=>Ew 8 S hsel rfl rfl rfl rfl hb5 rfl rfl (by kernel_rfl) (by kernel_rfl) rfl (fun _ hw=>(Ft (S.tm rfl))) fun a S=>Ew 9 S hsel rfl rfl rfl rfl hb5 rfl rfl (by kernel_rfl) (by kernel_rfl) rfl (fun _ hw=>(Gi CN (S.tm rfl))) fun a S=>Ew 10 S hsel rfl rfl rfl rfl hb5 rfl rfl (by kernel_rfl) (by kernel_rfl) rfl (fun _ hw=>(Ha isAgg3 (off:=0) (o:=5) (S.tm rfl) ((S.blk_mem (i:=1) (cells:=[U,iV V,O,iV Ab,Aj,iV Aq,iV As,bV Au]) (b:=Ae) (T:=65) rfl (Gm (e':=.blk Ae [U,iV V,O,iV Ab,Aj,iV Aq,iV As,bV Au] 65))).kept hw) rfl)) ?_;clear S;intro a S
    refine Ew 12 S hsel rfl rfl rfl rfl hb5 rfl rfl (by kernel_rfl) (by kernel_rfl) rfl (fun _ hw=>(Rm (S.tm rfl))) fun a S=>Ew 13 S hsel rfl rfl rfl rfl hb5 rfl rfl (by kernel_rfl) (by kernel_rfl) rfl (fun _ hw=>(Rm (S.tm rfl))) fun a S=>Ew 14 S hsel rfl rfl rfl rfl hb5 rfl rfl (by kernel_rfl) (by kernel_rfl) rfl (fun _ hw=>(Ft (S.tm rfl))) fun a S=>Ew 15 S hsel rfl rfl rfl rfl hb5 rfl rfl (by kernel_rfl) (by kernel_rfl) rfl (fun _ hw=>(Gi GF (S.tm rfl))) fun a S=>Ew 16 S hsel rfl rfl rfl rfl hb5 rfl rfl (by kernel_rfl) (by kernel_rfl) rfl (fun _ hw=>(Ha isAgg3 (off:=0) (o:=6) (S.tm rfl) ((S.blk_mem (i:=1) (cells:=[U,iV V,O,iV Ab,Aj,iV Aq,iV As,bV Au]) (b:=Ae) (T:=65) rfl (Gm (e':=.blk Ae [U,iV V,O,iV Ab,Aj,iV Aq,iV As,bV Au] 65))).kept hw) rfl)) fun a S=>Fy 11 (by kernel_rfl) rfl (Ej S rfl rfl rfl hb5 (Eg S (fun _=>Eb (vs:=[iV x12,iV Aq]) ⟨(S.tm rfl),(S.tm rfl),trivial⟩ call47) (Nb _ x12 Aq _ rfl) rfl ?_));clear S;intro v59 a w82 hv34 hk70 hn34 S
    subst hv34
    refine Ld (Gr hk70 (Fy 17 (by kernel_rfl) rfl (Ej S rfl rfl rfl hb5 (Eg S (fun _=>Eb (vs:=[iV x11,iV As]) ⟨(S.tm rfl),(S.tm rfl),trivial⟩ call47) (Nb _ x11 As _ rfl) rfl ?_))));clear S;intro v60 a w83 hv35 hk71 hn35 S
    subst hv35
    refine Ld (Gr hk71 (Fy 18 (by kernel_rfl) rfl (Ej S rfl rfl rfl hb5 (Ff S underlying22 sizeOf3 zeroValue3 rfl rfl (pv:=[(0,iV (Ga x12 Aq)),(1,iV (Ga x11 As))]) ⟨rfl,(S.tm rfl),rfl,(S.tm rfl),trivial⟩ (cs:=[iV (Ga x12 Aq),iV (Ga x11 As)]) (by kernel_rfl) rfl ?_))));clear S;intro a w84 b39 hz33 hk72 S
    refine Ld (Gr hk72 (Fy 19 (by kernel_rfl) rfl (Ej S rfl rfl rfl hb5 (Eg S (fun _=>Eb (vs:=[.slice (some ⟨b39,0,none⟩) 2 2]) ⟨(S.tm rfl),trivial⟩ call46) (Vg _ (.slice (some ⟨b39,0,none⟩) 2 2) [(Ga x12 Aq),(Ga x11 As)] (Ob Ge S (i:=0) rfl rfl rfl rfl ((Gm (e':=.blk b39 [iV (Ga x12 Aq),iV (Ga x11 As)] 3)) _ rfl)) _ rfl) rfl ?_))));clear S;intro v61 a w85 hv36 hk73 hn36 S
    subst hv36
    refine Ld (Gr hk73 (Jy [20,21] hsel (by kernel_rfl) rfl ?_))
    clear hsel
    refine Ig S rfl rfl rfl rfl hb5 (Jq S (Fu (S.tm rfl) rfl) rfl fun a S=>Gb S rfl (Nl hb5 (S.tm rfl) (S.tm rfl)) rfl fun a S=>Ix ?_)
    replace S:=(S.nl [.blk Ae [U,iV V,O,iV Ab,Aj,iV Aq,iV As,bV Au] 65,.own Aj 3 1 Ar.length (Ar.flatMap eInt),.own Ag 3 1 Ai.length (Ai.flatMap eInt)] [false,false,true,true,true] rfl).k5 0 1 10 14 192 rfl
    exact Tn (⟨decide ((Mk [(Ga x12 Aq),(Ga x11 As)]) < 0),h,S.nf [true,true,true] rfl (subR rfl)⟩)
  clear S h;rintro a w75 ⟨x18,h,S⟩;rw [hj8] at h;clear hj8 j8
  refine Tn ?_
  obtain ⟨j9,hj9,h⟩:=Gh h
  refine Fv (fun a w'=>∃ x19 : Int,∃ x20 : Int,∃ x21 : Bool,∃ x22 : List Int,∃ v62 : Value,j9 x19 x20 x21 x22 = some r ∧ Sx w X nov [.blk Ae [U,iV V,O,iV Ab,v62,iV x19,iV x20,bV x21] 65,.own v62 3 1 x22.length (x22.flatMap eInt)] [] 208 a w') ?_ ?_
  ·refine Fc h (S.tm rfl) (fun hb6 h=>?_) (fun hb6 h=>?_)
   ·refine Fg ?_
    iterate 7 (refine Vm S rfl rfl ?_;clear S;intro a S)
    refine Vu S Ft rfl rfl fun a S=>Vf GE S rfl rfl fun a S=>Kq S (S.tm rfl) (S.tm rfl) (i:=0) (off:=4) rfl sizeOf22 (vs:=[Ag]) (Ei.cells (Om (S.own_at (i:=2) rfl))) rfl rfl (Ya (Ei.one (Om (S.own_at (i:=2) rfl))) rfl) ?_;clear S;intro w87 hk74 S
    refine Vu S Ft rfl rfl fun a S=>Vf CN S rfl rfl fun a S=>Kq S (S.tm rfl) (S.tm rfl) (i:=0) (off:=5) rfl sizeOf3 (vs:=[iV x12]) rfl rfl rfl rfl ?_;clear S;intro w88 hk75 S
    refine Vu S Ft rfl rfl fun a S=>Vf GF S rfl rfl fun a S=>Kq S (S.tm rfl) (S.tm rfl) (i:=0) (off:=6) rfl sizeOf3 (vs:=[iV x11]) rfl rfl rfl rfl ?_;clear S;intro w89 hk76 S
    refine Vu S Ft rfl rfl fun a S=>Vf CO S rfl rfl fun a S=>Kq S (S.tm rfl) rfl (i:=0) (off:=7) rfl sizeOf4 (vs:=[bV true]) rfl rfl rfl rfl ?_;clear S;intro w90 hk77 S
    refine Ld ?_
    replace S:=(S.nl [.blk Ae [U,iV V,O,iV Ab,Ag,iV x12,iV x11,bV true] 65,.own Ag 3 1 Ai.length (Ai.flatMap eInt)] [true,false,true] rfl).k0
    exact Tn (⟨x12,x11,true,Ai,Ag,h,S.nf [true,true] rfl trivial⟩)
   ·exact wp_skip (Tn (⟨Aq,As,Au,Ar,Aj,h,S.nf [true,true,false] rfl trivial⟩))
  clear S h;rintro a w86 ⟨x19,x20,x21,x22,v62,h,S⟩;rw [hj9] at h;clear hj9 j9
  obtain rfl:=Option.some.inj h
  exact Rp S results26 ⟨v62,S.grp [0,1] [] rfl rfl rfl,rfl⟩
theorem Zy (m : Nat) : ∀ (w : World) (X : List Nat) (Ae : Nat) (U : Value) (Al : List An) (_ : Slc (view w X) 5 U (Al.map An.enc)) (V : Int) (O : Value) (Bg : List (List Dw)) (Bi : List RS) (_ : Slc (view w X) 1 O (Bi.map RS.enc)) (_ : Ii (Rh (view w X)) Bg Bi) (Ab : Int) (Aj : Value) (Ar : List Int) (_ : (LEnt.own Aj 3 1 Ar.length (Ar.flatMap eInt)).holds w) (Aq : Int) (As : Int) (Au : Bool) (_ : (LEnt.blk Ae [U,iV V,O,iV Ab,Aj,iV Aq,iV As,bV Au] 65).holds w) (Ag : Value) (Ai : List Int) (_ : (LEnt.own Ag 3 1 Ai.length (Ai.flatMap eInt)).holds w) (Ay : Value) (Ap : List Int) (_ : Slc (view w X) 1 Ay (Ap.map eInt)) (_ : X.Nodup) (_ : X = fps [.blk Ae [U,iV V,O,iV Ab,Aj,iV Aq,iV As,bV Au] 65,.own Aj 3 1 Ar.length (Ar.flatMap eInt),.own Ag 3 1 Ai.length (Ai.flatMap eInt)]) (r : (List Int) × Int × Int × Bool) (_ : Lx m Al V Bg Ab Ar Aq As Au Ai Ap = some r),
    Calls prog 26 [.pointer (some ⟨Ae,0,none⟩),Ag,Ay].toArray w (Ret w X fun _ v w'=>∃ y1 : Value,Grp w w' X [.blk Ae [U,iV V,O,iV Ab,y1,iV r.2.1,iV r.2.2.1,bV r.2.2.2] 65,.own y1 3 1 r.1.length (r.1.flatMap eInt)] ∧ v = .tuple #[]):=by
  induction m with
  | zero=>intros;rename_i h;rw [Lx] at h;cases h
  | succ m ih=>exact fun w X Ae U Al Bk V O Bg Bi Bm Bn Ab Aj Ar Cx Aq As Au Do Ag Ai Dp Ay Ap Cd hXn hXe r h=>Yc (Lx m) ih w X Ae U Al Bk V O Bg Bi Bm Bn Ab Aj Ar Cx Aq As Au Do Ag Ai Dp Ay Ap Cd hXn hXe r h
set_option maxRecDepth 20000 in
theorem Xd (w : World) (Ah : Value) (Ak : List An) (Bd : Slc (view w []) 5 Ah (Ak.map An.enc)) (Ad : Value) (Ao : List Eh) (Am : Slc (view w []) 3 Ad (Ao.map Eh.enc)) (Az : Int) (r : (List ByteArray) × Int × Int) (h : Pd Ak Ao Az = some r) :
    Calls prog 7 [Ah,Ad,iV Az].toArray w (Ret w [] fun τ v _=>∃ u1 : Value,v = .tuple #[u1,iV r.2.1,iV r.2.2] ∧ Oa τ 9 1 u1 r.1.length (r.1.flatMap Qi)):=by
 refine Fe func7 rfl ntmps7 rfl fun a S=>?_
 unfold Pd at h
 replace S:=S.k3 0 1 2 rfl
 refine Fs (Fg ?_)
 iterate 3 (refine Vk S rfl rfl ?_;clear S;intro a S)
 refine Dl (Fs (Fr (Vm S rfl rfl fun a S=>Vm S rfl rfl ?_)));clear S;intro a S
 obtain ⟨r1,hr1,h⟩:=Gs h
 refine Eg S (fun _=>Eb (vs:=[Ah,Ad]) ⟨(S.tm rfl),(S.tm rfl),trivial⟩ call19) (Qh _ Ah Ak (Bd.mono (S.le_arg Fk)) Ad Ao (Am.mono (S.le_arg Fk)) _ hr1) rfl ?_;clear S;intro v1 a w1 hv1 hk1 hn1 S
 subst hv1
 refine Va S rfl rfl fun a S=>Dz (Vm S rfl rfl fun a S=>Vq S Mj rfl rfl rfl fun a S=>Dl (Fc h (S.tm rfl) (fun hb1 h=>?_) (fun hb1 h=>?_)))
 ·refine Fr (Vm S rfl rfl fun a S=>Vk S rfl rfl fun a S=>Vk S rfl rfl fun a S=>Va S rfl rfl fun a S=>Dl (wp_ret (Ee ?_)))
  obtain rfl:=Option.some.inj h
  exact CB S results7 rfl rfl rfl ⟨_,rfl,(Kn _ _ _)⟩
 ·refine wp_skip (Tn (Fs (Fr (Vm S rfl rfl fun a S=>lv S (Gc Jr (S.tm rfl) (Dy Bd)) rfl fun a S=>Vq S Kp rfl rfl rfl fun a S=>Ld ?_))))
  replace S:=S.k4 0 1 2 25 rfl
  refine Tn (Fc h (S.tm rfl) (fun hb2 h=>?_) (fun hb2 h=>?_))
  ·refine Fs (Fg ?_)
   iterate 3 (refine Vk S rfl rfl ?_;clear S;intro a S)
   refine Dl (wp_ret (Ee ?_))
   obtain rfl:=Option.some.inj h
   exact CB S results7 rfl rfl rfl ⟨_,rfl,(Kn _ _ _)⟩
  ·refine wp_skip (Tn (Fs (Fr (Vm S rfl rfl fun a S=>Eg S (fun _=>Eb (vs:=[iV Az,iV 0,iV 3600000]) ⟨(S.tm rfl),rfl,rfl,trivial⟩ call20) (Gq _ Az 0 3600000 _ rfl) rfl ?_))));clear S;intro v2 a w2 hv2 hk2 hn2 S
   subst hv2
   refine Vu S Ip rfl rfl fun a S=>Vm S rfl rfl ?_;clear S;intro a S
   obtain ⟨j1,hj1,h⟩:=Gh h
   refine Jm 5 (fun a w'=>∃ x1 : Bool,∃ φ1 : View,j1 x1 = some r ∧ View.le nov φ1 ∧ Sx w [] φ1 [] [(0,Ah),(1,Ad),(2,iV Az),(34,bV x1)] 79 a w') ?_ ?_
   ·rcases Bool.eq_false_or_eq_true (!(En Az 0 3600000)) with hb3 | hb3
    ·replace h:=Qr h hb3
     iterate 4 (refine Ik S rfl rfl rfl (Nf hb3) rfl ?_ rfl;clear S;intro a S)
     exact Vq S (Nk hb3) rfl rfl rfl fun a S=>Dl (⟨true,nov,h,(View.le_refl _),S.nf [] rfl (subR rfl)⟩)
    ·replace h:=Qs h hb3
     refine Ej S rfl rfl rfl hb3 (Vm S rfl rfl fun a S=>Ej S rfl rfl rfl hb3 ?_)
     obtain ⟨r2,hr2,h⟩:=Gs h
     have hz1:=S.keep.size
     refine Eg S (fun _=>Eb (vs:=[Ah,iV 0]) ⟨(S.tm rfl),rfl,trivial⟩ call22) (Qx _ Ah Ak (Bd.mono (S.le_arg Fk)) 0 _ hr2) rfl ?_;clear S;intro v3 a w4 hv3 hk3 hn3 S
     obtain ⟨φ2,hl2,hm1,S⟩:=S.see' hn3 hz1
     have hs1:=hv3.mono hm1
     refine Ej S rfl rfl rfl hb3 ?_
     obtain ⟨r3,hr3,h⟩:=Gs h
     refine Eg S (fun _=>Eb (vs:=[v3,iV 0]) ⟨(S.tm rfl),rfl,trivial⟩ call21) (Rr _ v3 r2 ((Fw Dx.enc_ok hs1).mono (S.le_new Fk)) 0 _ hr3) rfl ?_;clear S;intro v4 a w5 hv4 hk4 hn4 S
     subst hv4
     exact Ej S rfl rfl rfl hb3 (Vq S Kp rfl rfl rfl fun a S=>lv S (Nl hb3 (S.tm rfl) (S.tm rfl)) rfl fun a S=>Dl (⟨decide (345686400000 < r3),φ2,h,hl2,S.nf [] rfl (subR rfl)⟩))
   clear S h;rintro a w3 ⟨x1,φ1,h,hl1,S⟩;rw [hj1] at h;clear hj1 j1
   refine Dl (Fc h (S.tm rfl) (fun hb4 h=>?_) (fun hb4 h=>?_))
   ·refine Fs (Fg ?_)
    iterate 3 (refine Vk S rfl rfl ?_;clear S;intro a S)
    refine Dl (wp_ret (Ee ?_))
    obtain rfl:=Option.some.inj h
    exact CB S results7 rfl rfl rfl ⟨_,rfl,(Kn _ _ _)⟩
   ·refine wp_skip (Tn (Fr (Vm S rfl rfl ?_)));clear S;intro a S
    obtain ⟨r4,hr4,h⟩:=Gs h
    have hz2:=S.keep.size
    refine Eg S (fun _=>Eb (vs:=[Ah]) ⟨(S.tm rfl),trivial⟩ call15) (Qw _ Ah Ak (Bd.mono (S.le_arg Fk)) _ hr4) rfl ?_;clear S;intro v5 a w6 hv5 hk5 hn5 S
    replace S:=S.take hn5 hz2 hv5
    refine Va S rfl rfl fun a S=>Dz (Vm S rfl rfl ?_);clear S;intro a S
    obtain ⟨r5,hr5,h⟩:=Gs h
    refine Pa 0 S rfl (fun _=>.own v5 43 5 r5.length (r5.flatMap An.enc)) (fun _=>Eb (vs:=[v5,.func (.func 23) #[] #[]]) ⟨(S.tm rfl),rfl,trivial⟩ call16) (Nu _ v5 r4 (S.holds _ (List.mem_of_getElem? (i:=0) rfl)) _ hr5) rfl (fun _ _ _ h=>⟨h.1,fun _ hc=>hc⟩) ?_;clear S;intro v6 a w7 hv6 hk6 hn6 S
    replace hv6:=hv6.2
    subst hv6
    refine Dl (Fs (Fg ?_))
    iterate 3 (refine Vm S rfl rfl ?_;clear S;intro a S)
    obtain ⟨φ3,hl3,hs2,S⟩:=S.freezeT (xs:=r5) (enc:=An.enc) (i:=0) rfl (fun _ h=>by cases h)
    replace S:=S.nk [] [(0,Ah),(1,Ad),(2,iV Az),(10,v5),(34,bV x1),(35,Ah),(36,v5),(37,v5),(39,v5),(40,Ad),(41,iV Az)] [] rfl (subR rfl)
    obtain ⟨r6,hr6,h⟩:=Gs h
    have hz3:=S.keep.size
    refine Pb [] [] (Ls:=[]) (Lr:=[]) (Y:=[]) S rfl rfl rfl rfl (fun _=>Eb (vs:=[v5,Ad,iV Az]) ⟨(S.tm rfl),(S.tm rfl),(S.tm rfl),trivial⟩ call25) (Ug _ v5 r5 ((Fw An.enc_ok hs2).mono (S.le_new Fk)) Ad Ao (Am.mono (S.le_arg Fk)) Az _ hr6) rfl ?_;clear S;intro v7 a w8 hv7 hk7 hn7 S
    obtain ⟨b1,u3,rs1,rfl,hs3,hr7,hg1⟩:=hv7;replace S:=S _ hg1;clear hg1
    obtain ⟨φ4,hl4,hm2,S⟩:=Sx.growB (L:=[]) S hn7 hz3
    replace hs3:=hs3.mono hm2
    replace hr7:=Oi hm2 hr7
    refine Va S rfl rfl fun a S=>Dz (Vk S rfl rfl ?_);clear S;intro a S
    replace S:=S.nil 3 1
    refine Dl (Fs (Fr (Vm S rfl rfl fun a S=>lv S (Gc Jr (S.tm rfl) (Dy (Fw An.enc_ok hs2))) rfl fun a S=>lv S (Rm rfl) rfl fun a S=>Ld ?_)))
    replace S:=(S.nl [.own (.slice none 0 0) 3 1 ([] : List Int).length (([] : List Int).flatMap eInt),.blk b1 [v5,iV r6.1,u3,iV Az,.slice none 0 0,iV 0,iV 0,bV false] 65] [true,true] rfl).k5 10 11 12 44 45 rfl
    refine Tn ?_
    obtain ⟨j2,hj2,h⟩:=Gh h
    refine Fv (fun a w'=>∃ x2 : List Int,∃ v8 : Value,j2 x2 = some r ∧ Sx w [] φ4 [.own v8 3 1 x2.length (x2.flatMap eInt),.blk b1 [v5,iV r6.1,u3,iV Az,.slice none 0 0,iV 0,iV 0,bV false] 65] [(10,v5),(11,.pointer (some ⟨b1,0,none⟩)),(12,v8)] 79 a w') ?_ ?_
    ·refine wp_block (Hr (fun (ys1 : List An) a w'=>∃ i1 : Nat,∃ x2 : List Int,∃ v8 : Value,(∃ dn,r5 = dn ++ ys1 ∧ dn.length = i1) ∧ Io j2 ys1 i1 x2 = some r ∧ Sx w [] φ4 [.own v8 3 1 x2.length (x2.flatMap eInt),.blk b1 [v5,iV r6.1,u3,iV Az,.slice none 0 0,iV 0,iV 0,bV false] 65] [(10,v5),(11,.pointer (some ⟨b1,0,none⟩)),(12,v8),(44,iV (r5.length : Int)),(45,iV (i1 : Int))] 79 a w') List.length r5 ⟨0,([] : List Int),(.slice none 0 0),⟨[],rfl,rfl⟩,h,S.nf [true,true] rfl (subR rfl)⟩ ?_)
     clear S h;rintro ys1 a w9 ⟨i1,x2,v8,⟨dn,hd1,hi1⟩,h,S⟩
     cases ys1 with
     | nil =>
      rw [Io.eq_1] at h
      refine Fr (Vb S Fu rfl rfl rfl fun a S=>Ld ?_)
      replace S:=S.k6 10 11 12 44 45 46 rfl
      exact Tn (Fs (wp_cond_false ((S.tm rfl).trans (congrArg Value.bool (Jd hd1 hi1))) (wp_exit (Fj (Fj (Hp (Tn (⟨x2,v8,h,S.nf [true,true] rfl (subR rfl)⟩))))))))
     | cons y1 ys1 =>
      rw [Io.eq_2] at h
      refine Fr (Vb S Fu rfl rfl rfl fun a S=>Ld ?_)
      replace S:=S.k6 10 11 12 44 45 46 rfl
      refine Tn (Fs (wp_cond_true ((S.tm rfl).trans (congrArg Value.bool (Hx hd1 hi1))) (wp_skip (Tn (Fs (wp_block (Fr (Vm S rfl rfl fun a S=>Va S rfl rfl ?_))))))));clear S;intro a S
      refine Dl (Fg (Vm S rfl rfl fun a S=>Vm S rfl rfl fun a S=>Ff S underlying22 sizeOf3 zeroValue3 rfl rfl (pv:=[(0,iV (i1 : Int))]) ⟨rfl,(S.tm rfl),trivial⟩ (cs:=[iV (i1 : Int)]) (by kernel_rfl) rfl ?_));clear S;intro a w11 b2 hz4 hk8 S
      obtain ⟨hc1,h⟩:=Hs h
      refine Nj Js Ge S (S.tm rfl) (i:=1) rfl (S.tm rfl) (j:=0) rfl (ys:=[(i1 : Int)]) rfl rfl rfl rfl (by have:=Kl hc1;omega) rfl ?_;clear S;intro v9 a w12 hk9 S
      exact Va S rfl rfl fun a S=>Ld (Ja (Tn (Fg (Vq S Gf rfl rfl rfl fun a S=>Vm S rfl rfl fun a S=>Dl (⟨ys1,⟨i1 + 1,(x2 ++ [(i1 : Int)]),v9,⟨_,(hd1).trans (List.append_cons _ _ _),by simp [hi1]⟩,h,S.nf [false,true,true] rfl ⟨rfl,rfl,rfl,rfl,(congrArg (fun z=>some (Value.int .i64 z)) (Hy hd1 hi1 (Km (Fw An.enc_ok hs2)))),trivial⟩⟩,Nat.lt_succ_self _⟩)))))
    clear S h;rintro a w10 ⟨x2,v8,h,S⟩;rw [hj2] at h;clear hj2 j2
    refine Tn (Fr (Vm S rfl rfl fun a S=>Vm S rfl rfl ?_));clear S;intro a S
    replace S:=S.nil 3 1
    replace S:=S.nil 3 1
    obtain ⟨r7,hr8,h⟩:=Gs h
    refine Pb [3,1,0] [2] (Ls:=[.blk b1 [v5,iV r6.1,u3,iV Az,(.slice none 0 0),iV 0,iV 0,bV false] 65,.own (.slice none 0 0) 3 1 ([] : List Int).length (([] : List Int).flatMap eInt),.own (.slice none 0 0) 3 1 ([] : List Int).length (([] : List Int).flatMap eInt)]) (Lr:=[.own v8 3 1 x2.length (x2.flatMap eInt)]) (Y:=[b1] ++ ((Value.ownBlock (.slice none 0 0)).toList ++ (Value.ownBlock (.slice none 0 0)).toList)) S rfl rfl rfl (by simp [Im,Jn,LEnt.fp]) (fun _=>Eb (vs:=[.pointer (some ⟨b1,0,none⟩),.slice none 0 0,v8]) ⟨(S.tm rfl),rfl,(S.tm rfl),trivial⟩ call26) (Zy 16 _ ([b1] ++ ((Value.ownBlock (.slice none 0 0)).toList ++ (Value.ownBlock (.slice none 0 0)).toList)) b1 v5 r5 ((Fw An.enc_ok hs2).mono (View.le_trans hl4 (S.le_new (Fq (Er (i:=3) (e:=.blk b1 [v5,iV r6.1,u3,iV Az,(.slice none 0 0),iV 0,iV 0,bV false] 65) rfl) (Fq (Er (i:=1) (e:=.own (.slice none 0 0) 3 1 ([] : List Int).length (([] : List Int).flatMap eInt)) rfl) (Er (i:=0) (e:=.own (.slice none 0 0) 3 1 ([] : List Int).length (([] : List Int).flatMap eInt)) rfl)))))) r6.1 u3 r6.2 rs1 (hs3.mono (S.le_new (Fq (Er (i:=3) (e:=.blk b1 [v5,iV r6.1,u3,iV Az,(.slice none 0 0),iV 0,iV 0,bV false] 65) rfl) (Fq (Er (i:=1) (e:=.own (.slice none 0 0) 3 1 ([] : List Int).length (([] : List Int).flatMap eInt)) rfl) (Er (i:=0) (e:=.own (.slice none 0 0) 3 1 ([] : List Int).length (([] : List Int).flatMap eInt)) rfl))))) (Oi (S.le_new (Fq (Er (i:=3) (e:=.blk b1 [v5,iV r6.1,u3,iV Az,(.slice none 0 0),iV 0,iV 0,bV false] 65) rfl) (Fq (Er (i:=1) (e:=.own (.slice none 0 0) 3 1 ([] : List Int).length (([] : List Int).flatMap eInt)) rfl) (Er (i:=0) (e:=.own (.slice none 0 0) 3 1 ([] : List Int).length (([] : List Int).flatMap eInt)) rfl)))) hr7) Az (.slice none 0 0) ([] : List Int) (S.holds _ (List.mem_of_getElem? (i:=1) rfl)) 0 0 false (S.holds _ (List.mem_of_getElem? (i:=3) rfl)) (.slice none 0 0) ([] : List Int) (S.holds _ (List.mem_of_getElem? (i:=0) rfl)) v8 x2 (Kt Ge S (i:=2) rfl (CD (Rw (i:=3) (j:=2) (e:=.blk b1 [v5,iV r6.1,u3,iV Az,(.slice none 0 0),iV 0,iV 0,bV false] 65) (e':=.own v8 3 1 x2.length (x2.flatMap eInt)) S rfl rfl rfl) (CD (Rw (i:=1) (j:=2) (e:=.own (.slice none 0 0) 3 1 ([] : List Int).length (([] : List Int).flatMap eInt)) (e':=.own v8 3 1 x2.length (x2.flatMap eInt)) S rfl rfl rfl) (Rw (i:=0) (j:=2) (e:=.own (.slice none 0 0) 3 1 ([] : List Int).length (([] : List Int).flatMap eInt)) (e':=.own v8 3 1 x2.length (x2.flatMap eInt)) S rfl rfl rfl)))) (S.ndg [3,1,0] [2] rfl rfl rfl (by simp [Im,Jn,LEnt.fp])) (by simp [Im,Jn,LEnt.fp]) _ hr8) rfl ?_;clear S;intro v10 a w13 hv8 hk10 hn8 S
    obtain ⟨v11,hg2,hv8⟩:=hv8;replace S:=S _ hg2;clear hg2
    subst hv8
    refine Dz (Vk S rfl rfl ?_);clear S;intro a S
    replace S:=S.nil 9 1
    refine Dl (Fs (Fr (Vm S rfl rfl fun a S=>Vu S Ft rfl rfl fun a S=>Vf GE S rfl rfl fun a S=>Vl isAgg22 1 S rfl rfl rfl rfl fun a S=>lv S (Gc Js (S.tm rfl) (Om (S.own_at (i:=2) rfl))) rfl fun a S=>lv S (Rm rfl) rfl ?_)));clear S;intro a S
    refine Dl ?_
    replace S:=(S.nl [.own (.slice none 0 0) 9 1 ([] : List ByteArray).length (([] : List ByteArray).flatMap Qi),.blk b1 [v5,iV r6.1,u3,iV Az,v11,iV r7.2.1,iV r7.2.2.1,bV r7.2.2.2] 65,.own v11 3 1 r7.1.length (r7.1.flatMap eInt)] [true,true,true,false] rfl).k6 10 11 14 59 60 61 rfl
    have hm3:=Yi (S.own_at (i:=2) rfl)
    obtain ⟨j3,hj3,h⟩:=Gh h
    refine Fv (fun a w'=>∃ x3 : List ByteArray,∃ v12 : Value,j3 x3 = some r ∧ Sx w [] φ4 [.own v12 9 1 x3.length (x3.flatMap Qi),.blk b1 [v5,iV r6.1,u3,iV Az,v11,iV r7.2.1,iV r7.2.2.1,bV r7.2.2.2] 65,.own v11 3 1 r7.1.length (r7.1.flatMap eInt)] [(11,.pointer (some ⟨b1,0,none⟩)),(14,v12)] 79 a w') ?_ ?_
    ·refine wp_block (Hr (fun (ys2 : List Int) a w'=>∃ i2 : Nat,∃ x3 : List ByteArray,∃ v12 : Value,(∃ dn,r7.1 = dn ++ ys2 ∧ dn.length = i2) ∧ Ic r5 j3 ys2 i2 x3 = some r ∧ Sx w [] φ4 [.own v12 9 1 x3.length (x3.flatMap Qi),.blk b1 [v5,iV r6.1,u3,iV Az,v11,iV r7.2.1,iV r7.2.2.1,bV r7.2.2.2] 65,.own v11 3 1 r7.1.length (r7.1.flatMap eInt)] [(10,v5),(11,.pointer (some ⟨b1,0,none⟩)),(14,v12),(59,v11),(60,iV (r7.1.length : Int)),(61,iV (i2 : Int))] 79 a w') List.length r7.1 ⟨0,([] : List ByteArray),(.slice none 0 0),⟨[],rfl,rfl⟩,h,S.nf [true,true,true] rfl (subR rfl)⟩ ?_)
     clear S h;rintro ys2 a w14 ⟨i2,x3,v12,⟨dn,hd2,hi2⟩,h,S⟩
     cases ys2 with
     | nil =>
      rw [Ic.eq_1] at h
      refine Fr (Vb S Fu rfl rfl rfl fun a S=>Ld ?_)
      replace S:=S.k7 10 11 14 59 60 61 62 rfl
      exact Tn (Fs (wp_cond_false ((S.tm rfl).trans (congrArg Value.bool (Jd hd2 hi2))) (wp_exit (Fj (Fj (Hp (Tn (⟨x3,v12,h,S.nf [true,true,true] rfl (subR rfl)⟩))))))))
     | cons y2 ys2 =>
      rw [Ic.eq_2] at h
      refine Fr (Vb S Fu rfl rfl rfl fun a S=>Ld ?_)
      replace S:=S.k7 10 11 14 59 60 61 62 rfl
      refine Tn (Fs (wp_cond_true ((S.tm rfl).trans (congrArg Value.bool (Hx hd2 hi2))) (wp_skip (Tn (Fs (wp_block (Fs (Fg ?_))))))))
      obtain ⟨b3,hg3,hr9⟩:=Gv (a:=a) (x:=.tmp 59) (y:=.tmp 61) (ty:=0) Js Ge S (i:=2) rfl (Il hd2 hi2) rfl (S.tm rfl) (S.tm rfl)
      refine lv S (hr9 _) rfl ?_;clear S;intro a S
      clear hr9
      refine lv S (Ha isAgg3 (off:=i2 * 1) (o:=0) (S.tm rfl) (Nm Ge S (i:=2) rfl hg3 (Il hd2 hi2)) rfl) rfl fun a S=>Va S rfl rfl fun a S=>Dl (Fg ?_)
      iterate 3 (refine Vm S rfl rfl ?_;clear S;intro a S)
      obtain ⟨hc2,h⟩:=Hs h
      obtain ⟨b4,o2,hm5,hr10⟩:=Fo (a:=a) (x:=.tmp 66) (y:=.tmp 67) (ty:=0) Jr (Fw An.enc_ok hs2) (Ef hc2).1 (Ef hc2).2 (S.tm rfl) (S.tm rfl)
      refine lv S (hr10 _) rfl ?_;clear S;intro a S
      clear hr10
      refine Vf Ph S rfl rfl fun a S=>lv S (Ha isAgg9 (off:=o2) (o:=0) (S.tm rfl) ((hm5.mono hl4).at S.emb) rfl) rfl fun a S=>Ff S underlying31 sizeOf9 zeroValue9 rfl rfl (pv:=[(0,sV ((nth r5 y2).Key))]) ⟨rfl,(S.tm rfl),trivial⟩ (cs:=[sV ((nth r5 y2).Key)]) (by kernel_rfl) rfl ?_;clear S;intro a w16 b5 hz5 hk11 S
      obtain ⟨hc3,h⟩:=Hs h
      refine Nj Pn Pt S (S.tm rfl) (i:=1) rfl (S.tm rfl) (j:=0) rfl (ys:=[(nth r5 y2).Key]) rfl rfl rfl rfl (by have:=Kl hc3;omega) rfl ?_;clear S;intro v13 a w17 hk12 S
      refine Va S rfl rfl fun a S=>Ld ?_
      replace S:=(S.nl [.own v13 9 1 (x3 ++ [(nth r5 y2).Key]).length ((x3 ++ [(nth r5 y2).Key]).flatMap Qi),.blk b1 [v5,iV r6.1,u3,iV Az,v11,iV r7.2.1,iV r7.2.2.1,bV r7.2.2.2] 65,.own v11 3 1 r7.1.length (r7.1.flatMap eInt)] [false,true,true,true] rfl).k6 10 11 14 59 60 61 rfl
      exact Ja (Tn (Fg (Vq S Gf rfl rfl rfl fun a S=>Vm S rfl rfl fun a S=>Dl (⟨ys2,⟨i2 + 1,(x3 ++ [(nth r5 y2).Key]),v13,⟨_,(hd2).trans (List.append_cons _ _ _),by simp [hi2]⟩,h,S.nf [true,true,true] rfl ⟨rfl,rfl,rfl,rfl,rfl,(congrArg (fun z=>some (Value.int .i64 z)) (Hy hd2 hi2 hm3)),trivial⟩⟩,Nat.lt_succ_self _⟩))))
    clear S h;rintro a w15 ⟨x3,v12,h,S⟩;rw [hj3] at h;clear hj3 j3
    refine Tn (Fs (Gz [] ([]) Tryz.mixed S rfl (by kernel_rfl) ?_));clear S;intro w18 hk13 hsel S
    refine Jy [0,1,2,3,4,5,6,7] hsel (by kernel_rfl) rfl ?_
    clear hsel
    refine Gb S rfl (Rm (S.tm rfl)) rfl fun a S=>Gb S rfl (Rm (S.tm rfl)) rfl fun a S=>Gb S rfl (Ft (S.tm rfl)) rfl fun a S=>Gb S rfl (Gi CN (S.tm rfl)) rfl fun a S=>Gb S rfl (Ky isAgg3 (S.tm rfl) (S.cell (i:=1) rfl rfl)) rfl fun a S=>Gb S rfl (Ra (S.tm rfl)) rfl fun a S=>Gb S rfl (Ra (S.tm rfl)) rfl fun a S=>Gb S rfl (Ra rfl) rfl fun a S=>Ix ?_
    replace S:=S.d2.d1.k3 6 7 8 rfl
    refine Tn (wp_ret ?_)
    obtain rfl:=Option.some.inj h
    exact CB S results7 rfl rfl rfl ⟨_,rfl,(Oy S (i:=0) rfl rfl)⟩
theorem Tf (w : World) (Bc : Value) (Ba : List ByteArray) (Bu : Slc (view w []) 1 Bc (Ba.map Qi)) (Dm : ByteArray) (r : Int) (h : Ms Ba Dm = r) :
    Calls prog 50 [Bc,sV Dm].toArray w (Ret w [] fun _ v _=>v = iV r):=by
 refine Fe func50 rfl ntmps50 rfl fun a S=>?_
 unfold Ms at h
 replace S:=S.k2 0 1 rfl
 refine Fr (Vk S rfl rfl fun a S=>Dl (Fs (Fr (Vm S rfl rfl fun a S=>lv S (Gc Pn (S.tm rfl) (Dy Bu)) rfl fun a S=>lv S (Rm rfl) rfl ?_))));clear S;intro a S
 refine Dl ?_
 replace S:=S.k4 0 1 7 8 rfl
 obtain ⟨j1,hj1,h⟩:=Gh h
 refine Fv (fun a w'=>j1 = r ∧ Sx w [] nov [] [] 19 a w') ?_ ?_
 ·refine wp_block (Hr (fun (ys1 : List ByteArray) a w'=>∃ i1 : Nat,(∃ dn,Ba = dn ++ ys1 ∧ dn.length = i1) ∧ Hc Dm j1 ys1 i1 = r ∧ Sx w [] nov [] [(0,Bc),(1,sV Dm),(7,iV (Ba.length : Int)),(8,iV (i1 : Int))] 19 a w') List.length Ba ⟨0,⟨[],rfl,rfl⟩,h,S.nf [] rfl (subR rfl)⟩ ?_)
  clear S h;rintro ys1 a w1 ⟨i1,⟨dn,hd1,hi1⟩,h,S⟩
  cases ys1 with
  | nil =>
   rw [Hc.eq_1] at h
   refine Fr (Vb S Fu rfl rfl rfl fun a S=>Ld ?_)
   replace S:=S.k5 0 1 7 8 9 rfl
   exact Tn (Fs (wp_cond_false ((S.tm rfl).trans (congrArg Value.bool (Jd hd1 hi1))) (wp_exit (Fj (Fj (Hp (Tn (⟨h,S.nf [] rfl trivial⟩))))))))
  | cons y1 ys1 =>
   rw [Hc.eq_2] at h
   refine Fr (Vb S Fu rfl rfl rfl fun a S=>Ld ?_)
   replace S:=S.k5 0 1 7 8 9 rfl
   refine Tn (Fs (wp_cond_true ((S.tm rfl).trans (congrArg Value.bool (Hx hd1 hi1))) (wp_skip (Tn (Fs (wp_block (Fr (Vm S rfl rfl fun a S=>Va S rfl rfl ?_))))))));clear S;intro a S
   refine Dl (Fs (Fg ?_))
   iterate 3 (refine Vm S rfl rfl ?_;clear S;intro a S)
   obtain ⟨b1,o1,hm1,hr1⟩:=Fo (a:=a) (x:=.tmp 12) (y:=.tmp 13) (ty:=0) Pn Bu (Il hd1 hi1) rfl (S.tm rfl) (S.tm rfl)
   refine lv S (hr1 _) rfl ?_;clear S;intro a S
   clear hr1
   refine lv S (Ha isAgg9 (off:=o1) (o:=0) (S.tm rfl) (hm1.at S.emb0) rfl) rfl fun a S=>Vb S Sv rfl rfl rfl fun a S=>Dl (Fc h (S.tm rfl) (fun hb1 h=>?_) (fun hb1 h=>?_))
   ·refine Fr (Vm S rfl rfl fun a S=>Va S rfl rfl fun a S=>Ld ?_)
    replace S:=S.k1 4 rfl
    refine Tn (wp_ret (Gy (Ee (Ee (Gy (Ee (Ee ?_)))))))
    subst h
    exact Fz S results50 rfl rfl
   ·exact wp_skip (Ja (Tn (Fg (Vq S Gf rfl rfl rfl fun a S=>Vm S rfl rfl fun a S=>Dl (⟨ys1,⟨i1 + 1,⟨_,(hd1).trans (List.append_cons _ _ _),by simp [hi1]⟩,h,S.nf [] rfl ⟨rfl,rfl,rfl,(congrArg (fun z=>some (Value.int .i64 z)) (Hy hd1 hi1 (Km Bu))),trivial⟩⟩,Nat.lt_succ_self _⟩)))))
 clear S h;rintro a w2 ⟨h,S⟩;rw [hj1] at h;clear hj1 j1
 refine Tn (Fr (Vk S rfl rfl fun a S=>Dl (wp_ret ?_)))
 subst h
 exact Fz S results50 rfl rfl
theorem Ou (w : World) (Bc : Value) (Ba : List ByteArray) (Bu : Slc (view w []) 1 Bc (Ba.map Qi)) (Dm : ByteArray) (r : Bool) (h : Gn Ba Dm = r) :
    Calls prog 29 [Bc,sV Dm].toArray w (Ret w [] fun _ v _=>v = bV r):=by
 refine Fe func29 rfl ntmps29 rfl fun a S=>?_
 unfold Gn at h
 replace S:=S.k2 0 1 rfl
 refine Fr (Vk S rfl rfl fun a S=>Dz (Vm S rfl rfl fun a S=>Vm S rfl rfl fun a S=>Eg S (fun _=>Eb (vs:=[Bc,sV Dm]) ⟨(S.tm rfl),(S.tm rfl),trivial⟩ call50) (Tf _ Bc Ba (Bu.mono (S.le_arg Fk)) Dm _ rfl) rfl ?_));clear S;intro v1 a w1 hv1 hk1 hn1 S
 subst hv1
 refine Vq S Ns rfl rfl rfl fun a S=>Va S rfl rfl fun a S=>Dl (wp_ret ?_)
 subst h
 exact Fz S results29 rfl rfl
theorem Sn (w : World) (Ah : Value) (Ak : List An) (Bd : Slc (view w []) 5 Ah (Ak.map An.enc)) (Ct : Value) (Cp : List ByteArray) (Co : Slc (view w []) 1 Ct (Cp.map Qi)) (r : (List An) × Int) (h : Ml Ak Cp = some r) :
    Calls prog 8 [Ah,Ct].toArray w (Ret w [] fun τ v _=>∃ u1 : Value,v = .tuple #[u1,iV r.2] ∧ Oa τ 43 5 u1 r.1.length (r.1.flatMap An.enc)):=by
 refine Fe func8 rfl ntmps8 rfl fun a S=>?_
 unfold Ml at h
 replace S:=S.k2 0 1 rfl
 refine Fr (Vk S rfl rfl fun a S=>Vk S rfl rfl fun a S=>Dl (Fs (Fr (Vm S rfl rfl ?_))));clear S;intro a S
 obtain ⟨r1,hr1,h⟩:=Gs h
 refine Eg S (fun _=>Eb (vs:=[Ah]) ⟨(S.tm rfl),trivial⟩ call27) (Nt _ Ah Ak (Bd.mono (S.le_arg Fk)) _ hr1) rfl ?_;clear S;intro v1 a w1 hv1 hk1 hn1 S
 subst hv1
 refine Va S rfl rfl fun a S=>Dz (Vm S rfl rfl fun a S=>Vq S Mj rfl rfl rfl fun a S=>Dl (Fc h (S.tm rfl) (fun hb1 h=>?_) (fun hb1 h=>?_)))
 ·refine Fr (Vm S rfl rfl fun a S=>Vk S rfl rfl fun a S=>Va S rfl rfl fun a S=>Dl (wp_ret (Ee ?_)))
  obtain rfl:=Option.some.inj h
  exact Jx S results8 rfl rfl ⟨_,rfl,(Kn _ _ _)⟩
 ·refine wp_skip (Tn (Fs (Fr (Vm S rfl rfl fun a S=>lv S (Gc Pn (S.tm rfl) (Dy Co)) rfl fun a S=>Vm S rfl rfl fun a S=>lv S (Gc Jr (S.tm rfl) (Dy Bd)) rfl fun a S=>Vb S Mj rfl rfl rfl fun a S=>Ld ?_))))
  refine Tn (Fc h (S.tm rfl) (fun hb2 h=>?_) (fun hb2 h=>?_))
  ·refine Fr (Vk S rfl rfl fun a S=>Vk S rfl rfl fun a S=>Dl (wp_ret (Ee ?_)))
   obtain rfl:=Option.some.inj h
   exact Jx S results8 rfl rfl ⟨_,rfl,(Kn _ _ _)⟩
  ·refine wp_skip (Tn (Fr (Vk S rfl rfl ?_)));clear S;intro a S
   replace S:=S.nil 43 5
   refine Ld ?_
   replace S:=(S.nl [.own (.slice none 0 0) 43 5 ([] : List An).length (([] : List An).flatMap An.enc)] [true] rfl).k3 0 1 7 rfl
   refine Tn (Fs (Fr (Vm S rfl rfl fun a S=>lv S (Gc Pn (S.tm rfl) (Dy Co)) rfl fun a S=>lv S (Rm rfl) rfl fun a S=>Dl ?_)))
   replace S:=S.k6 0 1 7 21 22 23 rfl
   obtain ⟨j1,hj1,h⟩:=Gh h
   refine Fv (fun a w'=>∃ x1 : List An,∃ v2 : Value,j1 x1 = some r ∧ Sx w [] nov [.own v2 43 5 x1.length (x1.flatMap An.enc)] [(7,v2)] 47 a w') ?_ ?_
   ·refine wp_block (Hr (fun (ys1 : List ByteArray) a w'=>∃ i1 : Nat,∃ x1 : List An,∃ v2 : Value,(∃ dn,Cp = dn ++ ys1 ∧ dn.length = i1) ∧ Je Ak Cp j1 ys1 i1 x1 = some r ∧ Sx w [] nov [.own v2 43 5 x1.length (x1.flatMap An.enc)] [(0,Ah),(1,Ct),(7,v2),(21,Ct),(22,iV (Cp.length : Int)),(23,iV (i1 : Int))] 47 a w') List.length Cp ⟨0,([] : List An),(.slice none 0 0),⟨[],rfl,rfl⟩,h,S.nf [true] rfl (subR rfl)⟩ ?_)
    clear S h;rintro ys1 a w2 ⟨i1,x1,v2,⟨dn,hd1,hi1⟩,h,S⟩
    cases ys1 with
    | nil =>
     rw [Je.eq_1] at h
     refine Fr (Vb S Fu rfl rfl rfl fun a S=>Ld ?_)
     replace S:=S.k7 0 1 7 21 22 23 24 rfl
     exact Tn (Fs (wp_cond_false ((S.tm rfl).trans (congrArg Value.bool (Jd hd1 hi1))) (wp_exit (Fj (Fj (Hp (Tn (⟨x1,v2,h,S.nf [true] rfl ⟨rfl,trivial⟩⟩))))))))
    | cons y1 ys1 =>
     rw [Je.eq_2] at h
     refine Fr (Vb S Fu rfl rfl rfl fun a S=>Ld ?_)
     replace S:=S.k7 0 1 7 21 22 23 24 rfl
     refine Tn (Fs (wp_cond_true ((S.tm rfl).trans (congrArg Value.bool (Hx hd1 hi1))) (wp_skip (Tn (Fs (wp_block (Fr (Vm S rfl rfl ?_))))))));clear S;intro a S
     obtain ⟨b1,o1,hm1,hr2⟩:=Fo (a:=a) (x:=.tmp 21) (y:=.tmp 23) (ty:=0) Pn Co (Il hd1 hi1) rfl (S.tm rfl) (S.tm rfl)
     refine lv S (hr2 _) rfl ?_;clear S;intro a S
     clear hr2
     refine lv S (Ha isAgg9 (off:=o1) (o:=0) (S.tm rfl) (hm1.at S.emb0) rfl) rfl fun a S=>Va S rfl rfl fun a S=>Va S rfl rfl fun a S=>Dz (Vm S rfl rfl fun a S=>Vm S rfl rfl fun a S=>Eg S (fun _=>Eb (vs:=[Ah,sV y1]) ⟨(S.tm rfl),(S.tm rfl),trivial⟩ call28) (Qc _ Ah Ak (Bd.mono (S.le_arg Fk)) y1 _ rfl) rfl ?_);clear S;intro v3 a w4 hv2 hk2 hn2 S
     subst hv2
     refine Va S rfl rfl fun a S=>Ld ?_
     replace S:=S.k9 0 1 7 8 9 10 21 22 23 rfl
     refine Tn (Fs (Fr (Vm S rfl rfl fun a S=>Vq S Fu rfl rfl rfl fun a S=>Dl (Fc h (S.tm rfl) (fun hb3 h=>?_) (fun hb3 h=>?_)))))
     ·refine Fr (Vk S rfl rfl fun a S=>Vk S rfl rfl fun a S=>Dl (wp_ret (Ee (Gy (Ee (Ee ?_))))))
      refine Gy (Ee (Ee ?_))
      obtain rfl:=Option.some.inj h
      exact Jx S results8 rfl rfl ⟨_,rfl,(Kn _ _ _)⟩
     ·refine wp_skip (Tn (Fs (Fr (Vm S rfl rfl fun a S=>Vm S rfl rfl ?_))));clear S;intro a S
      obtain ⟨hc1,h⟩:=Hs h
      obtain ⟨v4,hs1,hr3⟩:=Ze (a:=a) (x:=.tmp 33) (y':=.tmp 34) (ty:=31) Pn Co (S.tm rfl) (S.tm rfl) hc1
      refine lv S (hr3 _) rfl ?_;clear S;intro a S
      clear hr3
      refine Vm S rfl rfl fun a S=>Eg S (fun _=>Eb (vs:=[v4,sV y1]) ⟨(S.tm rfl),(S.tm rfl),trivial⟩ call29) (Ou _ v4 (cut Cp 0 (i1 : Int)) (hs1.mono (S.le_arg Fk)) y1 _ rfl) rfl ?_;clear S;intro v5 a w5 hv3 hk3 hn3 S
      subst hv3
      refine Ld ?_
      replace S:=S.k8 0 1 7 10 21 22 23 37 rfl
      refine Tn (Fc h (S.tm rfl) (fun hb4 h=>?_) (fun hb4 h=>?_))
      ·refine Fr (Vk S rfl rfl fun a S=>Vk S rfl rfl fun a S=>Dl (wp_ret (Ee (Gy (Ee (Ee ?_))))))
       refine Gy (Ee (Ee ?_))
       obtain rfl:=Option.some.inj h
       exact Jx S results8 rfl rfl ⟨_,rfl,(Kn _ _ _)⟩
      ·refine wp_skip (Tn (Fg ?_))
       iterate 3 (refine Vm S rfl rfl ?_;clear S;intro a S)
       obtain ⟨hc2,h⟩:=Hs h
       obtain ⟨b2,o2,hm2,hr4⟩:=Fo (a:=a) (x:=.tmp 39) (y:=.tmp 40) (ty:=0) Jr Bd (Ef hc2).1 (Ef hc2).2 (S.tm rfl) (S.tm rfl)
       refine lv S (hr4 _) rfl ?_;clear S;intro a S
       clear hr4
       refine lv S (Ie isAgg43 sizeOf43 (off:=o2) (o:=0) (part:=(An.enc (nth Ak (Ea Ak y1)))) rfl rfl (S.tm rfl) (hm2.at S.emb0)) rfl fun a S=>Ff S underlying26 sizeOf43 zeroValue43 rfl rfl (pv:=[(0,.agg (An.enc (nth Ak (Ea Ak y1))).toArray)]) ⟨rfl,(S.tm rfl),trivial⟩ (cs:=[sV ((nth Ak (Ea Ak y1)).Key),iV ((nth Ak (Ea Ak y1)).Heats),iV ((nth Ak (Ea Ak y1)).Long),iV ((nth Ak (Ea Ak y1)).Gap),iV ((nth Ak (Ea Ak y1)).Break)]) (by kernel_rfl) rfl ?_;clear S;intro a w6 b3 hz1 hk4 S
       obtain ⟨hc3,h⟩:=Hs h
       refine Nj Jr An.enc_ok S (S.tm rfl) (i:=1) rfl (S.tm rfl) (j:=0) rfl (ys:=[(nth Ak (Ea Ak y1))]) rfl rfl rfl rfl (by have:=Kl hc3;omega) rfl ?_;clear S;intro v6 a w7 hk5 S
       refine Va S rfl rfl fun a S=>Ld ?_
       replace S:=(S.nl [.own v6 43 5 (x1 ++ [(nth Ak (Ea Ak y1))]).length ((x1 ++ [(nth Ak (Ea Ak y1))]).flatMap An.enc)] [false,true] rfl).k6 0 1 7 21 22 23 rfl
       exact Ja (Tn (Fg (Vq S Gf rfl rfl rfl fun a S=>Vm S rfl rfl fun a S=>Dl (⟨ys1,⟨i1 + 1,(x1 ++ [(nth Ak (Ea Ak y1))]),v6,⟨_,(hd1).trans (List.append_cons _ _ _),by simp [hi1]⟩,h,S.nf [true] rfl ⟨rfl,rfl,rfl,rfl,rfl,(congrArg (fun z=>some (Value.int .i64 z)) (Hy hd1 hi1 (Km Co))),trivial⟩⟩,Nat.lt_succ_self _⟩))))
   clear S h;rintro a w3 ⟨x1,v2,h,S⟩;rw [hj1] at h;clear hj1 j1
   refine Tn (Fr (Vm S rfl rfl fun a S=>Va S rfl rfl fun a S=>Vk S rfl rfl fun a S=>Dl (wp_ret ?_)))
   obtain rfl:=Option.some.inj h
   exact Jx S results8 rfl rfl ⟨_,rfl,(Oy S (i:=0) rfl rfl)⟩
theorem Qe (w : World) (Ad : Value) (Ao : List Int) (Am : Slc (view w []) 1 Ad (Ao.map eInt)) (r : Int) (h : Fm Ao = r) :
    Calls prog 9 [Ad].toArray w (Ret w [] fun _ v _=>v = iV r):=by
 refine Fe func9 rfl ntmps9 rfl fun a S=>?_
 unfold Fm at h
 replace S:=S.k1 0 rfl
 refine Fr (Vk S rfl rfl fun a S=>Dl (Fs (Fr (Vm S rfl rfl fun a S=>lv S (Gc sl_69 (S.tm rfl) (Dy Am)) rfl fun a S=>lv S (Rm rfl) rfl ?_))));clear S;intro a S
 refine Dl ?_
 replace S:=S.k3 5 6 7 rfl
 obtain ⟨j1,hj1,h⟩:=Gh h
 refine Fv (fun a w'=>j1 = r ∧ Sx w [] nov [] [] 15 a w') ?_ ?_
 ·refine wp_block (Hr (fun (ys1 : List Int) a w'=>∃ i1 : Nat,(∃ dn,Ao = dn ++ ys1 ∧ dn.length = i1) ∧ Hj j1 ys1 i1 = r ∧ Sx w [] nov [] [(5,Ad),(6,iV (Ao.length : Int)),(7,iV (i1 : Int))] 15 a w') List.length Ao ⟨0,⟨[],rfl,rfl⟩,h,S.nf [] rfl (subR rfl)⟩ ?_)
  clear S h;rintro ys1 a w1 ⟨i1,⟨dn,hd1,hi1⟩,h,S⟩
  cases ys1 with
  | nil =>
   rw [Hj.eq_1] at h
   refine Fr (Vb S Fu rfl rfl rfl fun a S=>Ld ?_)
   replace S:=S.k4 5 6 7 8 rfl
   exact Tn (Fs (wp_cond_false ((S.tm rfl).trans (congrArg Value.bool (Jd hd1 hi1))) (wp_exit (Fj (Fj (Hp (Tn (⟨h,S.nf [] rfl trivial⟩))))))))
  | cons y1 ys1 =>
   rw [Hj.eq_2] at h
   refine Fr (Vb S Fu rfl rfl rfl fun a S=>Ld ?_)
   replace S:=S.k4 5 6 7 8 rfl
   refine Tn (Fs (wp_cond_true ((S.tm rfl).trans (congrArg Value.bool (Hx hd1 hi1))) (wp_skip (Tn (Fs (wp_block (Fs (Fg ?_))))))))
   obtain ⟨b1,o1,hm1,hr1⟩:=Fo (a:=a) (x:=.tmp 5) (y:=.tmp 7) (ty:=0) sl_69 Am (Il hd1 hi1) rfl (S.tm rfl) (S.tm rfl)
   refine lv S (hr1 _) rfl ?_;clear S;intro a S
   clear hr1
   refine lv S (Ha isAgg32 (off:=o1) (o:=0) (S.tm rfl) (hm1.at S.emb0) rfl) rfl fun a S=>Va S rfl rfl fun a S=>Dz (Vm S rfl rfl fun a S=>Vq S Mj rfl rfl rfl fun a S=>Dl (Fc h (S.tm rfl) (fun hb1 h=>?_) (fun hb1 h=>?_)))
   ·refine Fr (Vm S rfl rfl fun a S=>Va S rfl rfl fun a S=>Dl (wp_ret (Gy (Ee (Ee (Gy ?_))))))
    refine Ee (Ee ?_)
    subst h
    exact Fz S results9 rfl rfl
   ·exact wp_skip (Ja (Tn (Fg (Vq S Gf rfl rfl rfl fun a S=>Vm S rfl rfl fun a S=>Dl (⟨ys1,⟨i1 + 1,⟨_,(hd1).trans (List.append_cons _ _ _),by simp [hi1]⟩,h,S.nf [] rfl ⟨rfl,rfl,(congrArg (fun z=>some (Value.int .i64 z)) (Hy hd1 hi1 (Km Am))),trivial⟩⟩,Nat.lt_succ_self _⟩)))))
 clear S h;rintro a w2 ⟨h,S⟩;rw [hj1] at h;clear hj1 j1
 refine Tn (Fr (Vk S rfl rfl fun a S=>Dl (wp_ret ?_)))
 subst h
 exact Fz S results9 rfl rfl
theorem Sa (w : World) (Bo : Int) (r : Bool) (h : Oh Bo = r) :
    Calls prog 79 [iV Bo].toArray w (Ret w [] fun _ v _=>v = bV r):=by
 refine Fe func79 rfl ntmps79 rfl fun a S=>?_
 unfold Oh at h
 replace S:=S.k1 0 rfl
 refine Fr (Vk S rfl rfl fun a S=>Dz (Vm S rfl rfl fun a S=>Vq S Ns rfl rfl rfl fun a S=>Vm S rfl rfl fun a S=>Jm 3 (fun a w'=>Keep [] w w' ∧ Sx w [] nov [] [(8,bV ((decide (0 ≤ Bo)) && (decide (Bo < 345686400000))))] 9 a w') ?_ ?_))
 ·rcases Bool.eq_false_or_eq_true (decide (0 ≤ Bo)) with hb1 | hb1
  ·exact Ej S rfl rfl rfl hb1 (Vm S rfl rfl fun a S=>Ej S rfl rfl rfl hb1 (Vq S Fu rfl rfl rfl fun a S=>lv S (Jk hb1 (S.tm rfl) (S.tm rfl)) rfl fun a S=>Dl (⟨Keep.refl _ _,S.nf [] rfl ⟨rfl,trivial⟩⟩)))
  ·exact Ik S rfl rfl rfl (Lg hb1) rfl (fun a S=>Ik S rfl rfl rfl (Lg hb1) rfl (fun a S=>lv S (Jl (decide (Bo < 345686400000)) hb1 (S.tm rfl) rfl) rfl fun a S=>Dl (⟨Keep.refl _ _,S.nf [] rfl ⟨rfl,trivial⟩⟩)) rfl) rfl
 clear S;rintro a w1 ⟨hk1,S⟩
 refine Va S rfl rfl fun a S=>Dl (wp_ret ?_)
 subst h
 exact Fz S results79 rfl rfl
theorem So (w : World) (Ad : Value) (Ao : List An) (Am : Slc (view w []) 5 Ad (Ao.map An.enc)) (Bh : Int) (r : (List Dx) × Int) (h : Np Ao Bh = some r) :
    Calls prog 51 [Ad,iV Bh].toArray w (Ret w [] fun τ v _=>∃ u1 : Value,v = .tuple #[u1,iV r.2] ∧ Oa τ 75 4 u1 r.1.length (r.1.flatMap Dx.enc)):=by
 refine Fe func51 rfl ntmps51 rfl fun a S=>?_
 unfold Np at h
 replace S:=S.k2 0 1 rfl
 refine Fr (Vk S rfl rfl fun a S=>Vk S rfl rfl fun a S=>Dl (Fs (Fr (Vm S rfl rfl fun a S=>Eg S (fun _=>Eb (vs:=[iV Bh]) ⟨(S.tm rfl),trivial⟩ call79) (Sa _ Bh _ rfl) rfl ?_))));clear S;intro v1 a w1 hv1 hk1 hn1 S
 subst hv1
 refine Vu S Ip rfl rfl fun a S=>Dl (Fc h (S.tm rfl) (fun hb1 h=>?_) (fun hb1 h=>?_))
 ·refine Fr (Vk S rfl rfl fun a S=>Vk S rfl rfl fun a S=>Dl (wp_ret (Ee ?_)))
  obtain rfl:=Option.some.inj h
  exact Jx S results51 rfl rfl ⟨_,rfl,(Kn _ _ _)⟩
 ·refine wp_skip (Tn (Fr (Vm S rfl rfl fun a S=>Vm S rfl rfl ?_)));clear S;intro a S
  obtain ⟨r1,hr1,h⟩:=Gs h
  have hz1:=S.keep.size
  refine Eg S (fun _=>Eb (vs:=[Ad,iV Bh]) ⟨(S.tm rfl),(S.tm rfl),trivial⟩ call22) (Qx _ Ad Ao (Am.mono (S.le_arg Fk)) Bh _ hr1) rfl ?_;clear S;intro v2 a w2 hv2 hk2 hn2 S
  obtain ⟨φ1,hl1,hm1,S⟩:=S.see' hn2 hz1
  have hs1:=hv2.mono hm1
  refine Va S rfl rfl fun a S=>Dl (Fs (Fr (Vm S rfl rfl fun a S=>Vm S rfl rfl ?_)));clear S;intro a S
  obtain ⟨r2,hr2,h⟩:=Gs h
  refine Eg S (fun _=>Eb (vs:=[v2,iV Bh]) ⟨(S.tm rfl),(S.tm rfl),trivial⟩ call21) (Rr _ v2 r1 ((Fw Dx.enc_ok hs1).mono (S.le_new Fk)) Bh _ hr2) rfl ?_;clear S;intro v3 a w3 hv3 hk3 hn3 S
  subst hv3
  refine Vq S Kp rfl rfl rfl fun a S=>Ld ?_
  replace S:=S.k2 6 16 rfl
  refine Tn (Fc h (S.tm rfl) (fun hb2 h=>?_) (fun hb2 h=>?_))
  ·refine Fr (Vk S rfl rfl fun a S=>Vk S rfl rfl fun a S=>Dl (wp_ret (Ee ?_)))
   obtain rfl:=Option.some.inj h
   exact Jx S results51 rfl rfl ⟨_,rfl,(Kn _ _ _)⟩
  ·refine wp_skip (Tn (Fr (Vm S rfl rfl fun a S=>Va S rfl rfl fun a S=>Vk S rfl rfl fun a S=>Dl (wp_ret ?_))))
   obtain rfl:=Option.some.inj h
   exact Jx S results51 rfl rfl ⟨_,rfl,((hs1).mono S.le_newer)⟩
theorem Xe (w : World) (Cu : Value) (Dd : List Dx) (De : Slc (view w []) 4 Cu (Dd.map Dx.enc)) (r : (List (Ed × Dx))) (h : Jf Dd = r) :
    Calls prog 80 [Cu].toArray w (Ret w [] fun τ v _=>∃ b : Nat,v = .map (some b) ∧ τ b = some (.map (La (fun x=>Value.agg (Ed.enc x).toArray) (fun x=>Value.agg (Dx.enc x).toArray) r) r.length)):=by
 refine Fe func80 rfl ntmps80 rfl fun a S=>?_
 unfold Jf at h
 replace S:=S.k1 0 rfl
 refine Fr (Vk S rfl rfl fun a S=>Dz (AP (κ:=Ed) (ν:=Dx) S rfl (fun x=>Value.agg (Ed.enc x).toArray) (fun x=>Value.agg (Dx.enc x).toArray) ?_));clear S;intro a w1 b1 hz1 hk1 S
 refine Va S rfl rfl fun a S=>Dl (Fs (Fr (Vm S rfl rfl fun a S=>lv S (Gc Py (S.tm rfl) (Dy De)) rfl fun a S=>lv S (Rm rfl) rfl fun a S=>Dl ?_)))
 replace S:=(S.nl [.map b1 (La (fun x=>Value.agg (Ed.enc x).toArray) (fun x=>Value.agg (Dx.enc x).toArray) ([] : List (Ed × Dx))) ([] : List (Ed × Dx)).length] [true] rfl).k4 3 7 8 9 rfl
 obtain ⟨j1,hj1,h⟩:=Gh h
 refine Fv (fun a w'=>∃ x1 : List (Ed × Dx),j1 x1 = r ∧ Sx w [] nov [.map b1 (La (fun x=>Value.agg (Ed.enc x).toArray) (fun x=>Value.agg (Dx.enc x).toArray) x1) x1.length] [(3,.map (some b1))] 22 a w') ?_ ?_
 ·refine wp_block (Hr (fun (ys1 : List Dx) a w'=>∃ i1 : Nat,∃ x1 : List (Ed × Dx),(∃ dn,Dd = dn ++ ys1 ∧ dn.length = i1) ∧ Hv j1 ys1 i1 x1 = r ∧ Sx w [] nov [.map b1 (La (fun x=>Value.agg (Ed.enc x).toArray) (fun x=>Value.agg (Dx.enc x).toArray) x1) x1.length] [(3,.map (some b1)),(7,Cu),(8,iV (Dd.length : Int)),(9,iV (i1 : Int))] 22 a w') List.length Dd ⟨0,([] : List (Ed × Dx)),⟨[],rfl,rfl⟩,h,S.nf [true] rfl (subR rfl)⟩ ?_)
  clear S h;rintro ys1 a w2 ⟨i1,x1,⟨dn,hd1,hi1⟩,h,S⟩
  cases ys1 with
  | nil =>
   rw [Hv.eq_1] at h
   refine Fr (Vb S Fu rfl rfl rfl fun a S=>Ld ?_)
   replace S:=S.k5 3 7 8 9 10 rfl
   exact Tn (Fs (wp_cond_false ((S.tm rfl).trans (congrArg Value.bool (Jd hd1 hi1))) (wp_exit (Fj (Fj (Hp (Tn (⟨x1,h,S.nf [true] rfl ⟨rfl,trivial⟩⟩))))))))
  | cons y1 ys1 =>
   rw [Hv.eq_2] at h
   refine Fr (Vb S Fu rfl rfl rfl fun a S=>Ld ?_)
   replace S:=S.k5 3 7 8 9 10 rfl
   refine Tn (Fs (wp_cond_true ((S.tm rfl).trans (congrArg Value.bool (Hx hd1 hi1))) (wp_skip (Tn (Fs (wp_block (Fs (Fg ?_))))))))
   obtain ⟨b2,o1,hm1,hr1⟩:=Fo (a:=a) (x:=.tmp 7) (y:=.tmp 9) (ty:=0) Py De (Il hd1 hi1) rfl (S.tm rfl) (S.tm rfl)
   refine lv S (hr1 _) rfl ?_;clear S;intro a S
   clear hr1
   refine lv S (Ie isAgg75 sizeOf75 (off:=o1) (o:=0) (part:=(Dx.enc y1)) rfl rfl (S.tm rfl) (hm1.at S.emb0)) rfl fun a S=>Nw S zeroValue75 (cs:=[sV Eo,iV 0,iV 0,iV 0]) rfl rfl ?_;clear S;intro a w4 b3 hz2 hk2 S
   refine Kq S (S.tm rfl) (S.tm rfl) (i:=0) (off:=0) rfl sizeOf75 (vs:=(Dx.enc y1)) rfl rfl rfl rfl ?_;clear S;intro w5 hk3 S
   refine Dl (Fg (Vm S rfl rfl fun a S=>Vf fa_75_0 S rfl rfl fun a S=>Vl isAgg9 0 S rfl rfl rfl rfl fun a S=>Vf fa_75_1 S rfl rfl fun a S=>Vl isAgg3 0 S rfl rfl rfl rfl fun a S=>lv S (Pk IW (pv:=[(0,sV y1.Item),(1,iV y1.Heat)]) ⟨rfl,(S.tm rfl),rfl,(S.tm rfl),trivial⟩ (cs:=[sV y1.Item,iV y1.Heat]) (by kernel_rfl)) rfl fun a S=>lv S (Ie isAgg75 sizeOf75 (off:=0) (o:=0) (part:=(Dx.enc y1)) rfl rfl (S.tm rfl) (S.cellsAt (i:=0) rfl)) rfl fun a S=>Xv (kv:=(fun x=>Value.agg (Ed.enc x).toArray)) (vv:=(fun x=>Value.agg (Dx.enc x).toArray)) (m:=x1) (key:=(Ed.mk y1.Item y1.Heat)) (val:=y1) S (i:=1) rfl underlying135 EB (S.tm rfl) (S.tm rfl) (S.tm rfl) ?_));clear S;intro w6 hk4 S
   refine Ld ?_
   replace S:=(S.nl [.map b1 (La (fun x=>Value.agg (Ed.enc x).toArray) (fun x=>Value.agg (Dx.enc x).toArray) (Po x1 (Ed.mk y1.Item y1.Heat) y1)) (Po x1 (Ed.mk y1.Item y1.Heat) y1).length] [false,true] rfl).k4 3 7 8 9 rfl
   exact Ja (Tn (Fg (Vq S Gf rfl rfl rfl fun a S=>Vm S rfl rfl fun a S=>Dl (⟨ys1,⟨i1 + 1,(Po x1 (Ed.mk y1.Item y1.Heat) y1),⟨_,(hd1).trans (List.append_cons _ _ _),by simp [hi1]⟩,h,S.nf [true] rfl ⟨rfl,rfl,rfl,(congrArg (fun z=>some (Value.int .i64 z)) (Hy hd1 hi1 (Km De))),trivial⟩⟩,Nat.lt_succ_self _⟩))))
 clear S h;rintro a w3 ⟨x1,h,S⟩;rw [hj1] at h;clear hj1 j1
 refine Tn (Fr (Vm S rfl rfl fun a S=>Va S rfl rfl fun a S=>Dl (wp_ret ?_)))
 subst h
 exact Fz S results80 rfl ⟨_,rfl,S.map_ret (i:=0) rfl rfl⟩
theorem Uv (w : World) (Bb : Dx) (Bf : Dx) (r : Int) (h : Jo Bb Bf = r) :
    Calls prog 99 [.agg (Dx.enc Bb).toArray,.agg (Dx.enc Bf).toArray].toArray w (Ret w [] fun _ v _=>v = iV r):=by
 refine Fe func99 rfl ntmps99 rfl fun a S=>?_
 unfold Jo at h
 replace S:=S.k2 0 1 rfl
 refine Fr (Ox S (S.tm rfl) (cs:=(Dx.enc Bb)) rfl rfl ?_);clear S;intro a w1 b1 hz1 hk1 S
 refine Ox S (S.tm rfl) (cs:=(Dx.enc Bf)) rfl rfl ?_;clear S;intro a w2 b2 hz2 hk2 S
 refine Vk S rfl rfl fun a S=>Dz (Vf Wm S rfl rfl fun a S=>Vf CP S rfl rfl fun a S=>Vl isAgg3 1 S rfl rfl rfl rfl fun a S=>Vf Wm S rfl rfl fun a S=>Vf CP S rfl rfl fun a S=>Vl isAgg3 0 S rfl rfl rfl rfl ?_);clear S;intro a S
 refine Eg S (fun _=>Eb (vs:=[iV Bb.Time.From,iV Bf.Time.From]) ⟨(S.tm rfl),(S.tm rfl),trivial⟩ call47) (Nb _ Bb.Time.From Bf.Time.From _ rfl) rfl ?_;clear S;intro v1 a w3 hv1 hk3 hn1 S
 subst hv1
 refine Va S rfl rfl fun a S=>Dl (wp_ret ?_)
 subst h
 exact Fz S results99 rfl rfl
set_option maxRecDepth 20000 in
theorem Ll (w : World) (Aa : Value) (Ax : List Dx) (Bx : (LEnt.own Aa 75 4 Ax.length (Ax.flatMap Dx.enc)).holds w) (Bb : Int) (Bf : Int) (r : (List Dx)) (h : Gl Ax Bb Bf = some r) :
    Calls prog 110 [Aa,iV Bb,iV Bf,.func (.func 99) #[] #[]].toArray w (Ret w (Aa.ownBlock.toList) fun _ v w'=>(LEnt.own Aa 75 4 r.length (r.flatMap Dx.enc)).holds w' ∧ v = .tuple #[]):=by
 refine Kz (Aa.ownBlock.toList) [.own Aa 75 4 Ax.length (Ax.flatMap Dx.enc)] func110 rfl ntmps110 rfl (fun e he=>by simp only [List.mem_singleton] at he;subst he;exact Bx) (Kf _) (Lm _) fun a S=>?_
 unfold Gl at h
 replace S:=(S.nl [.own Aa 75 4 Ax.length (Ax.flatMap Dx.enc)] [true] rfl).k4 0 1 2 3 rfl
 refine Fr (Vm S rfl rfl fun a S=>Vq S Gf rfl rfl rfl fun a S=>Va S rfl rfl fun a S=>Dl ?_)
 replace S:=S.k5 0 1 2 3 8 rfl
 obtain ⟨j1,hj1,h⟩:=Gh h
 refine Fv (fun a w'=>∃ x1 : List Dx,j1 x1 = some r ∧ Sx w (Aa.ownBlock.toList) nov [.own Aa 75 4 x1.length (x1.flatMap Dx.enc)] [] 53 a w') ?_ ?_
 ·refine wp_block (Hr (fun (m1 : Nat) a w'=>∃ x1 : List Dx,∃ x2 : Int,Et Bf Bb j1 m1 x1 x2 = some r ∧ Sx w (Aa.ownBlock.toList) nov [.own Aa 75 4 x1.length (x1.flatMap Dx.enc)] [(0,Aa),(1,iV Bb),(2,iV Bf),(3,.func (.func 99) #[] #[]),(8,iV x2)] 53 a w') id ((Bf - (W (Bb + 1))).toNat + 2) ⟨Ax,W (Bb + 1),h,S.nf [true] rfl (subR rfl)⟩ ?_)
  clear S h;rintro m1 a w1 ⟨x1,x2,h,S⟩
  cases m1 with
  | zero=>rw [Et.eq_1] at h;cases h
  | succ m1 =>
   rw [Et.eq_2] at h
   refine Fs (Fr (Vm S rfl rfl fun a S=>Vm S rfl rfl fun a S=>Vb S Fu rfl rfl rfl fun a S=>Dl (Fc h (S.tm rfl) (fun hb1 h=>?_) (fun hb1 h=>?_))))
   ·refine wp_skip (Tn (Fs (wp_block (Fr (Vm S rfl rfl fun a S=>Va S rfl rfl fun a S=>Dl ?_)))))
    replace S:=S.k6 0 1 2 3 8 9 rfl
    obtain ⟨j2,hj2,h⟩:=Gh h
    refine Fv (fun a w'=>∃ x3 : List Dx,j2 x3 = some r ∧ Sx w (Aa.ownBlock.toList) nov [.own Aa 75 4 x3.length (x3.flatMap Dx.enc)] [(0,Aa),(1,iV Bb),(2,iV Bf),(3,.func (.func 99) #[] #[]),(8,iV x2)] 53 a w') ?_ ?_
    ·refine wp_block (Hr (fun (m2 : Nat) a w'=>∃ x3 : List Dx,∃ x4 : Int,Em Bb j2 m2 x3 x4 = some r ∧ Sx w (Aa.ownBlock.toList) nov [.own Aa 75 4 x3.length (x3.flatMap Dx.enc)] [(0,Aa),(1,iV Bb),(2,iV Bf),(3,.func (.func 99) #[] #[]),(8,iV x2),(9,iV x4)] 53 a w') id ((x2 - Bb).toNat + 2) ⟨x1,x2,h,S.nf [true] rfl (subR rfl)⟩ ?_)
     clear S h;rintro m2 a w3 ⟨x3,x4,h,S⟩
     cases m2 with
     | zero=>rw [Em.eq_1] at h;cases h
     | succ m2 =>
      rw [Em.eq_2] at h
      refine Fs (Fs ?_)
      obtain ⟨j3,hj3,h⟩:=Gh h
      refine Fv (fun a w'=>∃ x5 : Bool,j3 x5 = some r ∧ Sx w (Aa.ownBlock.toList) nov [.own Aa 75 4 x3.length (x3.flatMap Dx.enc)] [(0,Aa),(1,iV Bb),(2,iV Bf),(3,.func (.func 99) #[] #[]),(8,iV x2),(9,iV x4),(34,bV x5)] 53 a w') ?_ ?_
      ·rcases Bool.eq_false_or_eq_true (decide (Bb < x4)) with hb2 | hb2
       ·replace h:=Qr h hb2
        obtain ⟨hc1,h⟩:=Hs h
        obtain ⟨hc2,h⟩:=Hs h
        refine Gz [] ([]) Tryz.mixed S rfl (by kernel_rfl) ?_;clear S;intro w7 hk2 hsel S
        refine Ec 0 S hsel rfl rfl rfl (by kernel_rfl) (by kernel_rfl) rfl (fun _ hw=>(Rm (S.tm rfl))) fun a S=>Ec 1 S hsel rfl rfl rfl (by kernel_rfl) (by kernel_rfl) rfl (fun _ hw=>(Rm (S.tm rfl))) fun a S=>Ec 2 S hsel rfl rfl rfl (by kernel_rfl) (by kernel_rfl) rfl (fun _ hw=>(Kp (S.tm rfl) (S.tm rfl))) fun a S=>Ec 3 S hsel rfl rfl rfl (by kernel_rfl) (by kernel_rfl) rfl (fun _ hw=>(Rm (S.tm rfl))) fun a S=>Ew 4 S hsel rfl rfl rfl rfl hb2 rfl rfl (by kernel_rfl) (by kernel_rfl) rfl (fun _ hw=>(Rm (S.tm rfl))) fun a S=>Ew 5 S hsel rfl rfl rfl rfl hb2 rfl rfl (by kernel_rfl) (by kernel_rfl) rfl (fun _ hw=>(Rm (S.tm rfl))) fun a S=>Ew 6 S hsel rfl rfl rfl rfl hb2 rfl rfl (by kernel_rfl) (by kernel_rfl) rfl (fun _ hw=>(Rm (S.tm rfl))) ?_;clear S;intro a S
        obtain ⟨b3,hg3,hr3⟩:=Gv (a:=a) (x:=.tmp 23) (y:=.tmp 24) (ty:=0) Py Dx.enc_ok S (i:=0) rfl (Ef hc1).1 (Ef hc1).2 (S.tm rfl) (S.tm rfl)
        refine Ew 7 S hsel rfl rfl rfl rfl hb2 rfl rfl (by kernel_rfl) (by kernel_rfl) rfl (fun _ hw=>(hr3 _)) ?_;clear S;intro a S
        clear hr3
        refine Ew 8 S hsel rfl rfl rfl rfl hb2 rfl rfl (by kernel_rfl) (by kernel_rfl) rfl (fun _ hw=>(Ie isAgg75 sizeOf75 (off:=x4.toNat * 4) (o:=0) (part:=(Dx.enc (Dx.mk ((nth x3 x4).Item) ((nth x3 x4).Heat) ((nth x3 x4).Time)))) rfl rfl (S.tm rfl) ((Mr Dx.enc_ok S (i:=0) rfl hg3 (Ef hc1).1 (Gm (e':=.own Aa 75 4 x3.length (x3.flatMap Dx.enc)))).kept hw))) fun a S=>Ew 9 S hsel rfl rfl rfl rfl hb2 rfl rfl (by kernel_rfl) (by kernel_rfl) rfl (fun _ hw=>(Rm (S.tm rfl))) fun a S=>Ew 10 S hsel rfl rfl rfl rfl hb2 rfl rfl (by kernel_rfl) (by kernel_rfl) rfl (fun _ hw=>(Rm (S.tm rfl))) fun a S=>Ew 11 S hsel rfl rfl rfl rfl hb2 rfl rfl (by kernel_rfl) (by kernel_rfl) rfl (fun _ hw=>(Iw (S.tm rfl) rfl)) ?_;clear S;intro a S
        obtain ⟨b4,hg4,hr4⟩:=Gv (a:=a) (x:=.tmp 27) (y:=.tmp 29) (ty:=0) Py Dx.enc_ok S (i:=0) rfl (Ef hc2).1 (Ef hc2).2 (S.tm rfl) (S.tm rfl)
        refine Ew 12 S hsel rfl rfl rfl rfl hb2 rfl rfl (by kernel_rfl) (by kernel_rfl) rfl (fun _ hw=>(hr4 _)) ?_;clear S;intro a S
        clear hr4
        refine Ew 13 S hsel rfl rfl rfl rfl hb2 rfl rfl (by kernel_rfl) (by kernel_rfl) rfl (fun _ hw=>(Ie isAgg75 sizeOf75 (off:=((W (x4 - 1)).toNat) * 4) (o:=0) (part:=(Dx.enc (Dx.mk ((nth x3 (W (x4 - 1))).Item) ((nth x3 (W (x4 - 1))).Heat) ((nth x3 (W (x4 - 1))).Time)))) rfl rfl (S.tm rfl) ((Mr Dx.enc_ok S (i:=0) rfl hg4 (Ef hc2).1 (Gm (e':=.own Aa 75 4 x3.length (x3.flatMap Dx.enc)))).kept hw))) fun a S=>Fy 14 (by kernel_rfl) rfl (Ej S rfl rfl rfl hb2 (Eg S (fun _=>Ro (cap:=[]) (S.tm rfl) (vs:=[.agg (Dx.enc (Dx.mk ((nth x3 x4).Item) ((nth x3 x4).Heat) ((nth x3 x4).Time))).toArray,.agg (Dx.enc (Dx.mk ((nth x3 (W (x4 - 1))).Item) ((nth x3 (W (x4 - 1))).Heat) ((nth x3 (W (x4 - 1))).Time))).toArray]) ⟨(S.tm rfl),(S.tm rfl),trivial⟩ call99) (Uv _ (Dx.mk ((nth x3 x4).Item) ((nth x3 x4).Heat) ((nth x3 x4).Time)) (Dx.mk ((nth x3 (W (x4 - 1))).Item) ((nth x3 (W (x4 - 1))).Heat) ((nth x3 (W (x4 - 1))).Time)) _ rfl) rfl ?_));clear S;intro v2 a w8 hv2 hk3 hn2 S
        subst hv2
        refine Ld (Gr hk3 (Jy [15,16] hsel (by kernel_rfl) rfl ?_))
        clear hsel
        refine Ig S rfl rfl rfl rfl hb2 (Jq S (Fu (S.tm rfl) rfl) rfl fun a S=>Gb S rfl (Nk hb2 (S.tm rfl) (S.tm rfl)) rfl fun a S=>Ix ?_)
        replace S:=S.nk [.own Aa 75 4 x3.length (x3.flatMap Dx.enc)] [(0,Aa),(1,iV Bb),(2,iV Bf),(3,.func (.func 99) #[] #[]),(8,iV x2),(9,iV x4),(22,.func (.func 99) #[] #[]),(23,Aa),(24,iV x4),(25,.pointer (some ⟨b3,x4.toNat * 4,none⟩)),(26,.agg (Dx.enc (Dx.mk ((nth x3 x4).Item) ((nth x3 x4).Heat) ((nth x3 x4).Time))).toArray),(27,Aa),(28,iV x4),(29,iV (W (x4 - 1))),(30,.pointer (some ⟨b4,((W (x4 - 1)).toNat) * 4,none⟩)),(31,.agg (Dx.enc (Dx.mk ((nth x3 (W (x4 - 1))).Item) ((nth x3 (W (x4 - 1))).Heat) ((nth x3 (W (x4 - 1))).Time))).toArray),(32,iV (Jo (Dx.mk ((nth x3 x4).Item) ((nth x3 x4).Heat) ((nth x3 x4).Time)) (Dx.mk ((nth x3 (W (x4 - 1))).Item) ((nth x3 (W (x4 - 1))).Heat) ((nth x3 (W (x4 - 1))).Time)))),(33,bV (decide ((Jo (Dx.mk ((nth x3 x4).Item) ((nth x3 x4).Heat) ((nth x3 x4).Time)) (Dx.mk ((nth x3 (W (x4 - 1))).Item) ((nth x3 (W (x4 - 1))).Heat) ((nth x3 (W (x4 - 1))).Time))) < 0))),(34,bV (decide ((Jo (Dx.mk ((nth x3 x4).Item) ((nth x3 x4).Heat) ((nth x3 x4).Time)) (Dx.mk ((nth x3 (W (x4 - 1))).Item) ((nth x3 (W (x4 - 1))).Heat) ((nth x3 (W (x4 - 1))).Time))) < 0)))] [true] rfl (subR rfl)
        exact Tn (⟨decide ((Jo (Dx.mk ((nth x3 x4).Item) ((nth x3 x4).Heat) ((nth x3 x4).Time)) (Dx.mk ((nth x3 (W (x4 - 1))).Item) ((nth x3 (W (x4 - 1))).Heat) ((nth x3 (W (x4 - 1))).Time))) < 0),h,S.nf [true] rfl (subR rfl)⟩)
       ·replace h:=Qs h hb2
        refine Gz [] ([]) Tryz.mixed S rfl (by kernel_rfl) ?_;clear S;intro w9 hk4 hsel S
        refine Jy [0,1,2,3,4,5,6,7,8,9,10,11,12,13,14,15,16] hsel (by kernel_rfl) rfl ?_
        clear hsel
        refine Gb S rfl (Rm (S.tm rfl)) rfl fun a S=>Gb S rfl (Rm (S.tm rfl)) rfl fun a S=>Gb S rfl (Kp (S.tm rfl) (S.tm rfl)) rfl fun a S=>Gb S rfl (Rm (S.tm rfl)) rfl ?_;clear S;intro a S
        iterate 12 (refine Rb S rfl rfl rfl rfl (Lg hb2) rfl ?_ rfl;clear S;intro a S)
        refine Gb S rfl (Nl hb2 (S.tm rfl) rfl) rfl fun a S=>Ix ?_
        replace S:=S.k7 0 1 2 3 8 9 34 rfl
        exact Tn (⟨false,h,S.nf [true] rfl (subR rfl)⟩)
      clear S h;rintro a w5 ⟨x5,h,S⟩;rw [hj3] at h;clear hj3 j3
      refine Tn (Fc h (S.tm rfl) (fun hb3 h=>?_) (fun hb3 h=>?_))
      ·refine wp_skip (Tn (Fs (wp_block ?_)))
       obtain ⟨hc3,h⟩:=Hs h
       obtain ⟨hc4,h⟩:=Hs h
       obtain ⟨hc5,h⟩:=Hs h
       obtain ⟨hc6,h⟩:=Hs h
       refine Gz [15,17] ([]) Tryz.mixed S rfl (by kernel_rfl) ?_;clear S;intro w14 hk9 hsel S
       refine Gw 0 S hsel rfl rfl (by kernel_rfl) (by kernel_rfl) rfl (fun _=>(Rm (S.tm rfl))) fun a S=>Gw 1 S hsel rfl rfl (by kernel_rfl) (by kernel_rfl) rfl (fun _=>(Rm (S.tm rfl))) fun a S=>Gw 2 S hsel rfl rfl (by kernel_rfl) (by kernel_rfl) rfl (fun _=>(Rm (S.tm rfl))) fun a S=>Gw 3 S hsel rfl rfl (by kernel_rfl) (by kernel_rfl) rfl (fun _=>(Rm (S.tm rfl))) fun a S=>Gw 4 S hsel rfl rfl (by kernel_rfl) (by kernel_rfl) rfl (fun _=>(Iw (S.tm rfl) rfl)) fun a S=>Gw 5 S hsel rfl rfl (by kernel_rfl) (by kernel_rfl) rfl (fun _=>(Rm (S.tm rfl))) fun a S=>Gw 6 S hsel rfl rfl (by kernel_rfl) (by kernel_rfl) rfl (fun _=>(Rm (S.tm rfl))) fun a S=>Gw 7 S hsel rfl rfl (by kernel_rfl) (by kernel_rfl) rfl (fun _=>(Iw (S.tm rfl) rfl)) ?_;clear S;intro a S
       obtain ⟨b9,hg9,hr9⟩:=Gv (a:=a) (x:=.tmp 42) (y:=.tmp 44) (ty:=0) Py Dx.enc_ok S (i:=0) rfl (Ef hc3).1 (Ef hc3).2 (S.tm rfl) (S.tm rfl)
       refine Gw 8 S hsel rfl rfl (by kernel_rfl) (by kernel_rfl) rfl (fun _=>(hr9 _)) ?_;clear S;intro a S
       clear hr9
       refine Ec 9 S hsel rfl (by kernel_rfl) (by kernel_rfl) (by kernel_rfl) (by kernel_rfl) rfl (fun _ hw=>(Ie isAgg75 sizeOf75 (off:=((W (x4 - 1)).toNat) * 4) (o:=0) (part:=(Dx.enc (Dx.mk ((nth x3 (W (x4 - 1))).Item) ((nth x3 (W (x4 - 1))).Heat) ((nth x3 (W (x4 - 1))).Time)))) rfl rfl (S.tm rfl) ((Mr Dx.enc_ok S (i:=0) rfl hg9 (Ef hc3).1 (Gm (e':=.own Aa 75 4 x3.length (x3.flatMap Dx.enc)))).kept hw))) fun a S=>Gw 10 S hsel rfl rfl (by kernel_rfl) (by kernel_rfl) rfl (fun _=>(Rm (S.tm rfl))) fun a S=>Gw 11 S hsel rfl rfl (by kernel_rfl) (by kernel_rfl) rfl (fun _=>(Rm (S.tm rfl))) ?_;clear S;intro a S
       obtain ⟨b10,hg10,hr10⟩:=Gv (a:=a) (x:=.tmp 47) (y:=.tmp 48) (ty:=0) Py Dx.enc_ok S (i:=0) rfl (Ef hc4).1 (Ef hc4).2 (S.tm rfl) (S.tm rfl)
       refine Gw 12 S hsel rfl rfl (by kernel_rfl) (by kernel_rfl) rfl (fun _=>(hr10 _)) ?_;clear S;intro a S
       clear hr10
       refine Ec 13 S hsel rfl (by kernel_rfl) (by kernel_rfl) (by kernel_rfl) (by kernel_rfl) rfl (fun _ hw=>(Ie isAgg75 sizeOf75 (off:=x4.toNat * 4) (o:=0) (part:=(Dx.enc (Dx.mk ((nth x3 x4).Item) ((nth x3 x4).Heat) ((nth x3 x4).Time)))) rfl rfl (S.tm rfl) ((Mr Dx.enc_ok S (i:=0) rfl hg10 (Ef hc4).1 (Gm (e':=.own Aa 75 4 x3.length (x3.flatMap Dx.enc)))).kept hw))) ?_;clear S;intro a S
       obtain ⟨b11,hg11,hr11⟩:=Gv (a:=a) (x:=.tmp 37) (y:=.tmp 38) (ty:=0) Py Dx.enc_ok S (i:=0) rfl (Ef hc5).1 (Ef hc5).2 (S.tm rfl) (S.tm rfl)
       refine Gw 14 S hsel rfl rfl (by kernel_rfl) (by kernel_rfl) rfl (fun _=>(hr11 _)) ?_;clear S;intro a S
       clear hr11
       refine Wc 15 (Aa.ownBlock.toList) rfl (by kernel_rfl) rfl (Ng (c:=0) (j:=x4.toNat) (Dx.mk ((nth x3 (W (x4 - 1))).Item) ((nth x3 (W (x4 - 1))).Heat) ((nth x3 (W (x4 - 1))).Time)) Dx.enc_ok S (S.tm rfl) (S.tm rfl) (i:=0) rfl hg11 (Ef hc5).1 sizeOf75 (vs:=[sV ((nth x3 (W (x4 - 1))).Item),iV ((nth x3 (W (x4 - 1))).Heat),iV (((nth x3 (W (x4 - 1))).Time).From),iV (((nth x3 (W (x4 - 1))).Time).To)]) rfl rfl rfl rfl rfl ?_);clear S;intro w16 hk11 S
       refine Ld (Wd ?_)
       obtain ⟨b12,hg12,hr12⟩:=Gv (a:=a) (x:=.tmp 39) (y:=.tmp 41) (ty:=0) Py Dx.enc_ok S (i:=0) rfl (Ef hc6).1 (Ef hc6).2 (S.tm rfl) (S.tm rfl)
       refine Ec 16 S hsel rfl rfl rfl (by kernel_rfl) (by kernel_rfl) rfl (fun _ hw=>(hr12 _)) ?_;clear S;intro a S
       clear hr12
       refine Fy 17 (by kernel_rfl) rfl (Ng (c:=0) (j:=(W (x4 - 1)).toNat) (Dx.mk ((nth x3 x4).Item) ((nth x3 x4).Heat) ((nth x3 x4).Time)) Dx.enc_ok S (S.tm rfl) (S.tm rfl) (i:=0) rfl hg12 (Ef hc6).1 sizeOf75 (vs:=[sV ((nth x3 x4).Item),iV ((nth x3 x4).Heat),iV (((nth x3 x4).Time).From),iV (((nth x3 x4).Time).To)]) rfl rfl rfl rfl rfl ?_);clear S;intro w18 hk13 S
       refine Ld (Gr hk13 (Sg (by kernel_rfl) ?_))
       clear hsel
       replace S:=(S.nl [.own Aa 75 4 ((x3.set x4.toNat (Dx.mk ((nth x3 (W (x4 - 1))).Item) ((nth x3 (W (x4 - 1))).Heat) ((nth x3 (W (x4 - 1))).Time))).set ((W (x4 - 1)).toNat) (Dx.mk ((nth x3 x4).Item) ((nth x3 x4).Heat) ((nth x3 x4).Time))).length (((x3.set x4.toNat (Dx.mk ((nth x3 (W (x4 - 1))).Item) ((nth x3 (W (x4 - 1))).Heat) ((nth x3 (W (x4 - 1))).Time))).set ((W (x4 - 1)).toNat) (Dx.mk ((nth x3 x4).Item) ((nth x3 x4).Heat) ((nth x3 x4).Time))).flatMap Dx.enc)] [true] rfl).k6 0 1 2 3 8 9 rfl
       exact Ja (Tn (Fg (Vm S rfl rfl fun a S=>Vq S Iw rfl rfl rfl fun a S=>Va S rfl rfl fun a S=>Dl (⟨m2,⟨((x3.set x4.toNat (Dx.mk ((nth x3 (W (x4 - 1))).Item) ((nth x3 (W (x4 - 1))).Heat) ((nth x3 (W (x4 - 1))).Time))).set ((W (x4 - 1)).toNat) (Dx.mk ((nth x3 x4).Item) ((nth x3 x4).Heat) ((nth x3 x4).Time))),W (x4 - 1),h,S.nf [true] rfl ⟨rfl,rfl,rfl,rfl,rfl,rfl,trivial⟩⟩,Nat.lt_succ_self _⟩))))
      ·exact wp_exit (Fj (Fj (Hp (Tn (⟨x3,h,S.nf [true] rfl (subR rfl)⟩)))))
    clear S h;rintro a w4 ⟨x3,h,S⟩;rw [hj2] at h;clear hj2 j2
    exact Ja (Tn (Fg (Vm S rfl rfl fun a S=>Vq S Gf rfl rfl rfl fun a S=>Va S rfl rfl fun a S=>Dl (⟨m1,⟨x3,W (x2 + 1),h,S.nf [true] rfl ⟨rfl,rfl,rfl,rfl,rfl,trivial⟩⟩,Nat.lt_succ_self _⟩))))
   ·exact wp_exit (Fj (Fj (Hp (Tn (⟨x1,h,S.nf [true] rfl trivial⟩)))))
 clear S h;rintro a w2 ⟨x1,h,S⟩;rw [hj1] at h;clear hj1 j1
 obtain rfl:=Option.some.inj h
 exact Rp S results110 ⟨(S.holds _ (List.mem_of_getElem? (i:=0) rfl)),rfl⟩
theorem Mp (w : World) (Aa : Value) (Ax : List Dx) (Bx : (LEnt.own Aa 75 4 Ax.length (Ax.flatMap Dx.enc)).holds w) (Bb : Int) (Bf : Int) (Cb : Int) (r : (List Dx)) (h : Ho Ax Bb Bf Cb = some r) :
    Calls prog 106 [Aa,iV Bb,iV Bf,iV Cb,.func (.func 99) #[] #[]].toArray w (Ret w (Aa.ownBlock.toList) fun _ v w'=>(LEnt.own Aa 75 4 r.length (r.flatMap Dx.enc)).holds w' ∧ v = .tuple #[]):=by
 refine Kz (Aa.ownBlock.toList) [.own Aa 75 4 Ax.length (Ax.flatMap Dx.enc)] func106 rfl ntmps106 rfl (fun e he=>by simp only [List.mem_singleton] at he;subst he;exact Bx) (Kf _) (Lm _) fun a S=>?_
 unfold Ho at h
 replace S:=(S.nl [.own Aa 75 4 Ax.length (Ax.flatMap Dx.enc)] [true] rfl).k5 0 1 2 3 4 rfl
 refine Fr (Vk S rfl rfl fun a S=>Dz (Vk S rfl rfl fun a S=>Dl ?_))
 replace S:=S.k6 0 1 2 3 4 10 rfl
 refine Fv (fun a w'=>False) ?_ ?_
 ·refine wp_block (Hr (fun (m1 : Nat) a w'=>∃ x1 : Int,∃ x2 : Int,∃ x3 : Int,∃ x4 : Bool,Fb Ax m1 x1 x2 x3 x4 = some r ∧ Sx w (Aa.ownBlock.toList) nov [.own Aa 75 4 Ax.length (Ax.flatMap Dx.enc)] [(0,Aa),(1,iV x1),(2,iV x2),(3,iV x3),(4,.func (.func 99) #[] #[]),(10,bV x4)] 148 a w') id 4611686018427387904 ⟨Bb,Bf,Cb,true,h,S.nf [true] rfl (subR rfl)⟩ ?_)
  clear S h;rintro m1 a w1 ⟨x1,x2,x3,x4,h,S⟩
  cases m1 with
  | zero=>rw [Fb.eq_1] at h;cases h
  | succ m1 =>
   rw [Fb.eq_2] at h
   refine wp_block (Fr (Vm S rfl rfl fun a S=>Vm S rfl rfl fun a S=>Vb S Iw rfl rfl rfl fun a S=>Va S rfl rfl fun a S=>Dl (Fs (Fs ?_))))
   refine Fg (Vm S rfl rfl fun a S=>Vq S St rfl rfl rfl fun a S=>Dl (Fc h (S.tm rfl) (fun hb1 h=>?_) (fun hb1 h=>?_)))
   ·refine Fs (Fg ?_)
    iterate 4 (refine Vm S rfl rfl ?_;clear S;intro a S)
    obtain ⟨r1,hr1,h⟩:=Gs h
    refine Pa 0 S rfl (fun _=>.own Aa 75 4 r1.length (r1.flatMap Dx.enc)) (fun _=>Eb (vs:=[Aa,iV x1,iV x2,.func (.func 99) #[] #[]]) ⟨(S.tm rfl),(S.tm rfl),(S.tm rfl),(S.tm rfl),trivial⟩ call110) (Ll _ Aa Ax (S.holds _ (List.mem_of_getElem? (i:=0) rfl)) x1 x2 _ hr1) rfl (fun _ _ _ h=>⟨h.1,fun _ hc=>hc⟩) ?_;clear S;intro v1 a w3 hv1 hk1 hn1 S
    replace hv1:=hv1.2
    subst hv1
    refine Ld ?_
    replace S:=(S.nl [.own Aa 75 4 r1.length (r1.flatMap Dx.enc)] [true] rfl).k0
    refine Tn (wp_ret (Ee (Gy (Ee (Gy (Ee ?_))))))
    obtain rfl:=Option.some.inj h
    exact Rp S results106 ⟨(S.holds _ (List.mem_of_getElem? (i:=0) rfl)),rfl⟩
   ·refine wp_skip (Tn (Fs (Fr (Vm S rfl rfl fun a S=>Vq S Ko rfl rfl rfl fun a S=>Dl (Fc h (S.tm rfl) (fun hb2 h=>?_) (fun hb2 h=>?_))))))
    ·refine Fs ?_
     cases h
    ·refine wp_skip (Tn (Fs (Fr (Vm S rfl rfl fun a S=>Vu S Ip rfl rfl fun a S=>Ld ?_))))
     replace S:=S.k1 39 rfl
     refine Tn (Fc h (S.tm rfl) (fun hb3 h=>?_) (fun hb3 h=>?_))
     ·refine Fs ?_
      cases h
     ·refine wp_skip (Tn (Fs ?_))
      cases h
 exact fun _ _ h=>h.elim
theorem Nv (w : World) (Bp : Value) (Av : List Dx) (Cy : (LEnt.own Bp 75 4 Av.length (Av.flatMap Dx.enc)).holds w) (r : (List Dx)) (h : Gp Av = some r) :
    Calls prog 98 [Bp,.func (.func 99) #[] #[]].toArray w (Ret w (Bp.ownBlock.toList) fun _ v w'=>(LEnt.own Bp 75 4 r.length (r.flatMap Dx.enc)).holds w' ∧ v = .tuple #[]):=by
 refine Kz (Bp.ownBlock.toList) [.own Bp 75 4 Av.length (Av.flatMap Dx.enc)] func98 rfl ntmps98 rfl (fun e he=>by simp only [List.mem_singleton] at he;subst he;exact Cy) (Kf _) (Lm _) fun a S=>?_
 unfold Gp at h
 replace S:=(S.nl [.own Bp 75 4 Av.length (Av.flatMap Dx.enc)] [true] rfl).k2 0 1 rfl
 refine Fr (Vm S rfl rfl fun a S=>lv S (Gc Py (S.tm rfl) (Om (S.own_at (i:=0) rfl))) rfl fun a S=>Va S rfl rfl fun a S=>Dl (Fg ?_))
 iterate 3 (refine Vm S rfl rfl ?_;clear S;intro a S)
 refine Vu S (Pe underlying3 underlying97) rfl rfl ?_;clear S;intro a S
 obtain ⟨r1,hr1,h⟩:=Gs h
 refine Eg S (fun _=>Eb (vs:=[.int .u64 (IntKind.wrap .u64 (Av.length : Int))]) ⟨(S.tm rfl),trivial⟩ call38) (Ud _ (IntKind.wrap .u64 (Av.length : Int)) _ hr1) rfl ?_;clear S;intro v1 a w1 hv1 hk1 hn1 S
 subst hv1
 refine Vm S rfl rfl ?_;clear S;intro a S
 obtain ⟨r2,hr2,h⟩:=Gs h
 refine Pa 0 S rfl (fun _=>.own Bp 75 4 r2.length (r2.flatMap Dx.enc)) (fun _=>Eb (vs:=[Bp,iV 0,iV (Av.length : Int),iV r1,.func (.func 99) #[] #[]]) ⟨(S.tm rfl),rfl,(S.tm rfl),(S.tm rfl),(S.tm rfl),trivial⟩ call106) (Mp _ Bp Av (S.holds _ (List.mem_of_getElem? (i:=0) rfl)) 0 (Av.length : Int) r1 _ hr2) rfl (fun _ _ _ h=>⟨h.1,fun _ hc=>hc⟩) ?_;clear S;intro v2 a w2 hv2 hk2 hn2 S
 replace hv2:=hv2.2
 subst hv2
 refine Ld ?_
 obtain rfl:=Option.some.inj h
 exact Rp S results98 ⟨(S.holds _ (List.mem_of_getElem? (i:=0) rfl)),rfl⟩
theorem Xf (w : World) (Df : Nat) (Bz : List (Ed × Dx)) (Dt : (view w []) Df = some (.map (La (fun x=>Value.agg (Ed.enc x).toArray) (fun x=>Value.agg (Dx.enc x).toArray) Bz) Bz.length)) (Ad : Value) (Ao : List Eh) (Am : Slc (view w []) 3 Ad (Ao.map Eh.enc)) (Dh : ByteArray) (r : (List Dx)) (h : Ln Bz Ao Dh = some r) :
    Calls prog 81 [.map (some Df),Ad,sV Dh].toArray w (Ret w [] fun τ v _=>Oa τ 75 4 v r.length (r.flatMap Dx.enc)):=by
 refine Fe func81 rfl ntmps81 rfl fun a S=>?_
 unfold Ln at h
 replace S:=S.k3 0 1 2 rfl
 refine Fr (Vk S rfl rfl fun a S=>Dz (Vk S rfl rfl ?_));clear S;intro a S
 replace S:=S.nil 75 4
 refine Dl (Fs (Fr (Vm S rfl rfl fun a S=>lv S (Gc Si (S.tm rfl) (Dy Am)) rfl fun a S=>lv S (Rm rfl) rfl fun a S=>Dl ?_)))
 replace S:=(S.nl [.own (.slice none 0 0) 75 4 ([] : List Dx).length (([] : List Dx).flatMap Dx.enc)] [true] rfl).k6 0 2 7 10 11 12 rfl
 obtain ⟨j1,hj1,h⟩:=Gh h
 refine Fv (fun a w'=>∃ x1 : List Dx,∃ v1 : Value,j1 x1 = some r ∧ Sx w [] nov [.own v1 75 4 x1.length (x1.flatMap Dx.enc)] [(7,v1)] 34 a w') ?_ ?_
 ·refine wp_block (Hr (fun (ys1 : List Eh) a w'=>∃ i1 : Nat,∃ x1 : List Dx,∃ v1 : Value,(∃ dn,Ao = dn ++ ys1 ∧ dn.length = i1) ∧ Jp Dh Bz j1 ys1 i1 x1 = some r ∧ Sx w [] nov [.own v1 75 4 x1.length (x1.flatMap Dx.enc)] [(0,.map (some Df)),(2,sV Dh),(7,v1),(10,Ad),(11,iV (Ao.length : Int)),(12,iV (i1 : Int))] 34 a w') List.length Ao ⟨0,([] : List Dx),(.slice none 0 0),⟨[],rfl,rfl⟩,h,S.nf [true] rfl (subR rfl)⟩ ?_)
  clear S h;rintro ys1 a w1 ⟨i1,x1,v1,⟨dn,hd1,hi1⟩,h,S⟩
  cases ys1 with
  | nil =>
   rw [Jp.eq_1] at h
   refine Fr (Vb S Fu rfl rfl rfl fun a S=>Ld ?_)
   replace S:=S.k7 0 2 7 10 11 12 13 rfl
   exact Tn (Fs (wp_cond_false ((S.tm rfl).trans (congrArg Value.bool (Jd hd1 hi1))) (wp_exit (Fj (Fj (Hp (Tn (⟨x1,v1,h,S.nf [true] rfl ⟨rfl,trivial⟩⟩))))))))
  | cons y1 ys1 =>
   rw [Jp.eq_2] at h
   refine Fr (Vb S Fu rfl rfl rfl fun a S=>Ld ?_)
   replace S:=S.k7 0 2 7 10 11 12 13 rfl
   refine Tn (Fs (wp_cond_true ((S.tm rfl).trans (congrArg Value.bool (Hx hd1 hi1))) (wp_skip (Tn (Fs ?_)))))
   obtain ⟨j2,hj2,h⟩:=Gh h
   refine Fv (fun a w'=>∃ x2 : List Dx,∃ v2 : Value,j2 x2 = some r ∧ Sx w [] nov [.own v2 75 4 x2.length (x2.flatMap Dx.enc)] [(0,.map (some Df)),(2,sV Dh),(7,v2),(10,Ad),(11,iV (Ao.length : Int)),(12,iV (i1 : Int))] 34 a w') ?_ ?_
   ·refine wp_block (Fs (Fg ?_))
    obtain ⟨b1,o1,hm1,hr1⟩:=Fo (a:=a) (x:=.tmp 10) (y:=.tmp 12) (ty:=0) Si Am (Il hd1 hi1) rfl (S.tm rfl) (S.tm rfl)
    refine lv S (hr1 _) rfl ?_;clear S;intro a S
    clear hr1
    refine lv S (Ie isAgg52 sizeOf52 (off:=o1) (o:=0) (part:=(Eh.enc y1)) rfl rfl (S.tm rfl) (hm1.at S.emb0)) rfl fun a S=>Nw S zeroValue52 (cs:=[sV Eo,sV Eo,iV 0]) rfl rfl ?_;clear S;intro a w4 b2 hz1 hk1 S
    refine Kq S (S.tm rfl) (S.tm rfl) (i:=0) (off:=0) rfl sizeOf52 (vs:=(Eh.enc y1)) rfl rfl rfl rfl ?_;clear S;intro w5 hk2 S
    refine Dz (Vf Qq S rfl rfl fun a S=>Vl isAgg9 0 S rfl rfl rfl rfl fun a S=>Vm S rfl rfl fun a S=>Vb S Sv rfl rfl rfl fun a S=>Dl ?_)
    obtain ⟨j3,hj3,h⟩:=Gh h
    refine Fv (fun a w'=>∃ x3 : List Dx,∃ v3 : Value,j3 x3 = some r ∧ Sx w [] nov [.own v3 75 4 x3.length (x3.flatMap Dx.enc)] [(0,.map (some Df)),(2,sV Dh),(7,v3),(10,Ad),(11,iV (Ao.length : Int)),(12,iV (i1 : Int))] 34 a w') ?_ ?_
    ·refine Fc h (S.tm rfl) (fun hb1 h=>?_) (fun hb1 h=>?_)
     ·refine Fg (Vm S rfl rfl fun a S=>Vm S rfl rfl fun a S=>Vf Wj S rfl rfl fun a S=>Vl isAgg9 0 S rfl rfl rfl rfl fun a S=>Vf Rz S rfl rfl fun a S=>Vl isAgg3 0 S rfl rfl rfl rfl fun a S=>lv S (Pk IW (pv:=[(0,sV y1.Item),(1,iV y1.Heat)]) ⟨rfl,(S.tm rfl),rfl,(S.tm rfl),trivial⟩ (cs:=[sV y1.Item,iV y1.Heat]) (by kernel_rfl)) rfl fun a S=>lv S (AQ (kv:=(fun x=>Value.agg (Ed.enc x).toArray)) (vv:=(fun x=>Value.agg (Dx.enc x).toArray)) (m:=Bz) (key:=(Ed.mk y1.Item y1.Heat)) (z:=(Dx.mk Eo 0 (Gt.mk 0 0))) (S.emb0 _ _ Dt) underlying135 EB zeroValue75 (S.tm rfl) (S.tm rfl)) rfl fun a S=>Ff S underlying57 sizeOf75 zeroValue75 rfl rfl (pv:=[(0,.agg (Dx.enc (Kw Bz (Ed.mk y1.Item y1.Heat) (Dx.mk Eo 0 (Gt.mk 0 0)))).toArray)]) ⟨rfl,(S.tm rfl),trivial⟩ (cs:=[sV ((Kw Bz (Ed.mk y1.Item y1.Heat) (Dx.mk Eo 0 (Gt.mk 0 0))).Item),iV ((Kw Bz (Ed.mk y1.Item y1.Heat) (Dx.mk Eo 0 (Gt.mk 0 0))).Heat),iV (((Kw Bz (Ed.mk y1.Item y1.Heat) (Dx.mk Eo 0 (Gt.mk 0 0))).Time).From),iV (((Kw Bz (Ed.mk y1.Item y1.Heat) (Dx.mk Eo 0 (Gt.mk 0 0))).Time).To)]) (by kernel_rfl) rfl ?_);clear S;intro a w7 b3 hz2 hk3 S
      obtain ⟨hc1,h⟩:=Hs h
      refine Nj Py Dx.enc_ok S (S.tm rfl) (i:=2) rfl (S.tm rfl) (j:=0) rfl (ys:=[(Dx.mk ((Kw Bz (Ed.mk y1.Item y1.Heat) (Dx.mk Eo 0 (Gt.mk 0 0))).Item) ((Kw Bz (Ed.mk y1.Item y1.Heat) (Dx.mk Eo 0 (Gt.mk 0 0))).Heat) ((Kw Bz (Ed.mk y1.Item y1.Heat) (Dx.mk Eo 0 (Gt.mk 0 0))).Time))]) rfl rfl rfl rfl (by have:=Kl hc1;omega) rfl ?_;clear S;intro v4 a w8 hk4 S
      refine Va S rfl rfl fun a S=>Ld ?_
      replace S:=(S.nl [.own v4 75 4 (x1 ++ [(Dx.mk ((Kw Bz (Ed.mk y1.Item y1.Heat) (Dx.mk Eo 0 (Gt.mk 0 0))).Item) ((Kw Bz (Ed.mk y1.Item y1.Heat) (Dx.mk Eo 0 (Gt.mk 0 0))).Heat) ((Kw Bz (Ed.mk y1.Item y1.Heat) (Dx.mk Eo 0 (Gt.mk 0 0))).Time))]).length ((x1 ++ [(Dx.mk ((Kw Bz (Ed.mk y1.Item y1.Heat) (Dx.mk Eo 0 (Gt.mk 0 0))).Item) ((Kw Bz (Ed.mk y1.Item y1.Heat) (Dx.mk Eo 0 (Gt.mk 0 0))).Heat) ((Kw Bz (Ed.mk y1.Item y1.Heat) (Dx.mk Eo 0 (Gt.mk 0 0))).Time))]).flatMap Dx.enc)] [false,false,true] rfl).k6 0 2 7 10 11 12 rfl
      exact Tn (⟨(x1 ++ [(Dx.mk ((Kw Bz (Ed.mk y1.Item y1.Heat) (Dx.mk Eo 0 (Gt.mk 0 0))).Item) ((Kw Bz (Ed.mk y1.Item y1.Heat) (Dx.mk Eo 0 (Gt.mk 0 0))).Heat) ((Kw Bz (Ed.mk y1.Item y1.Heat) (Dx.mk Eo 0 (Gt.mk 0 0))).Time))]),v4,h,S.nf [true] rfl (subR rfl)⟩)
     ·exact wp_skip (Tn (⟨x1,v1,h,S.nf [false,true] rfl (subR rfl)⟩))
    clear S h;rintro a w6 ⟨x3,v3,h,S⟩;rw [hj3] at h;clear hj3 j3
    exact Ja (Tn (⟨x3,v3,h,S.nf [true] rfl (subR rfl)⟩))
   clear S h;rintro a w3 ⟨x2,v2,h,S⟩;rw [hj2] at h;clear hj2 j2
   exact Tn (Fg (Vq S Gf rfl rfl rfl fun a S=>Vm S rfl rfl fun a S=>Dl (⟨ys1,⟨i1 + 1,x2,v2,⟨_,(hd1).trans (List.append_cons _ _ _),by simp [hi1]⟩,h,S.nf [true] rfl ⟨rfl,rfl,rfl,rfl,rfl,(congrArg (fun z=>some (Value.int .i64 z)) (Hy hd1 hi1 (Km Am))),trivial⟩⟩,Nat.lt_succ_self _⟩)))
 clear S h;rintro a w2 ⟨x1,v1,h,S⟩;rw [hj1] at h;clear hj1 j1
 refine Tn (Fr (Vm S rfl rfl ?_));clear S;intro a S
 obtain ⟨r1,hr2,h⟩:=Gs h
 refine Pa 0 S rfl (fun _=>.own v1 75 4 r1.length (r1.flatMap Dx.enc)) (fun _=>Eb (vs:=[v1,.func (.func 99) #[] #[]]) ⟨(S.tm rfl),rfl,trivial⟩ call98) (Nv _ v1 x1 (S.holds _ (List.mem_of_getElem? (i:=0) rfl)) _ hr2) rfl (fun _ _ _ h=>⟨h.1,fun _ hc=>hc⟩) ?_;clear S;intro v5 a w9 hv1 hk5 hn1 S
 replace hv1:=hv1.2
 subst hv1
 refine Dz (Vm S rfl rfl fun a S=>Va S rfl rfl fun a S=>Dl (wp_ret ?_))
 obtain rfl:=Option.some.inj h
 exact Fz S results81 rfl (Oy S (i:=0) rfl rfl)
set_option maxRecDepth 20000 in
theorem Xg (w : World) (Cu : Value) (Dd : List Dx) (De : Slc (view w []) 4 Cu (Dd.map Dx.enc)) (Ad : Value) (Ao : List Eh) (Am : Slc (view w []) 3 Ad (Ao.map Eh.enc)) (r : (List Eu)) (h : Nq Dd Ao = some r) :
    Calls prog 52 [Cu,Ad].toArray w (Ret w [] fun τ v _=>Oa τ 77 10 v r.length (r.flatMap Eu.enc)):=by
 refine Fe func52 rfl ntmps52 rfl fun a S=>?_
 unfold Nq at h
 replace S:=S.k2 0 1 rfl
 refine Fr (Vk S rfl rfl fun a S=>Dz (Vm S rfl rfl ?_));clear S;intro a S
 have hz1:=S.keep.size
 refine Eg S (fun _=>Eb (vs:=[Cu]) ⟨(S.tm rfl),trivial⟩ call80) (Xe _ Cu Dd (De.mono (S.le_arg Fk)) _ rfl) rfl ?_;clear S;intro v1 a w1 hv1 hk1 hn1 S
 obtain ⟨φ1,hl1,hm1,S⟩:=S.see' hn1 hz1
 obtain ⟨b1,rfl,hq1⟩:=hv1
 replace hq1:=hm1 _ _ hq1
 refine Va S rfl rfl fun a S=>Dz (Vk S rfl rfl ?_);clear S;intro a S
 replace S:=S.nil 77 10
 refine Dl (Fs (Fr (Vm S rfl rfl fun a S=>lv S (Gc Si (S.tm rfl) (Dy Am)) rfl fun a S=>lv S (Rm rfl) rfl fun a S=>Dl ?_)))
 replace S:=(S.nl [.own (.slice none 0 0) 77 10 ([] : List Eu).length (([] : List Eu).flatMap Eu.enc)] [true] rfl).k6 1 5 6 13 14 15 rfl
 obtain ⟨j1,hj1,h⟩:=Gh h
 refine Fv (fun a w'=>∃ x1 : List Eu,∃ φ2 : View,∃ v2 : Value,j1 x1 = some r ∧ View.le φ1 φ2 ∧ Sx w [] φ2 [.own v2 77 10 x1.length (x1.flatMap Eu.enc)] [(6,v2)] 75 a w') ?_ ?_
 ·refine wp_block (Hr (fun (ys1 : List Eh) a w'=>∃ i1 : Nat,∃ x1 : List Eu,∃ φ2 : View,∃ v2 : Value,(∃ dn,Ao = dn ++ ys1 ∧ dn.length = i1) ∧ Hk Dd Ao j1 ys1 i1 x1 = some r ∧ View.le φ1 φ2 ∧ Sx w [] φ2 [.own v2 77 10 x1.length (x1.flatMap Eu.enc)] [(1,Ad),(5,.map (some b1)),(6,v2),(13,Ad),(14,iV (Ao.length : Int)),(15,iV (i1 : Int))] 75 a w') List.length Ao ⟨0,([] : List Eu),φ1,(.slice none 0 0),⟨[],rfl,rfl⟩,h,View.le_refl _,S.nf [true] rfl (subR rfl)⟩ ?_)
  clear S h;rintro ys1 a w2 ⟨i1,x1,φ2,v2,⟨dn,hd1,hi1⟩,h,hl2,S⟩
  cases ys1 with
  | nil =>
   rw [Hk.eq_1] at h
   refine Fr (Vb S Fu rfl rfl rfl fun a S=>Ld ?_)
   replace S:=S.k7 1 5 6 13 14 15 16 rfl
   exact Tn (Fs (wp_cond_false ((S.tm rfl).trans (congrArg Value.bool (Jd hd1 hi1))) (wp_exit (Fj (Fj (Hp (Tn (⟨x1,φ2,v2,h,hl2,S.nf [true] rfl ⟨rfl,trivial⟩⟩))))))))
  | cons y1 ys1 =>
   rw [Hk.eq_2] at h
   refine Fr (Vb S Fu rfl rfl rfl fun a S=>Ld ?_)
   replace S:=S.k7 1 5 6 13 14 15 16 rfl
   refine Tn (Fs (wp_cond_true ((S.tm rfl).trans (congrArg Value.bool (Hx hd1 hi1))) (wp_skip (Tn (Fs ?_)))))
   obtain ⟨j2,hj2,h⟩:=Gh h
   refine Fv (fun a w'=>∃ x2 : List Eu,∃ φ3 : View,∃ v3 : Value,j2 x2 = some r ∧ View.le φ2 φ3 ∧ Sx w [] φ3 [.own v3 77 10 x2.length (x2.flatMap Eu.enc)] [(1,Ad),(5,.map (some b1)),(6,v3),(13,Ad),(14,iV (Ao.length : Int)),(15,iV (i1 : Int))] 75 a w') ?_ ?_
   ·refine wp_block (Fr (Vm S rfl rfl ?_));clear S;intro a S
    obtain ⟨b2,o1,hm2,hr1⟩:=Fo (a:=a) (x:=.tmp 13) (y:=.tmp 15) (ty:=0) Si Am (Il hd1 hi1) rfl (S.tm rfl) (S.tm rfl)
    refine lv S (hr1 _) rfl ?_;clear S;intro a S
    clear hr1
    refine lv S (Ie isAgg52 sizeOf52 (off:=o1) (o:=0) (part:=(Eh.enc y1)) rfl rfl (S.tm rfl) (hm2.at S.emb0)) rfl fun a S=>Nw S zeroValue52 (cs:=[sV Eo,sV Eo,iV 0]) rfl rfl ?_;clear S;intro a w5 b3 hz2 hk2 S
    refine Va S rfl rfl fun a S=>Kq S (S.tm rfl) (S.tm rfl) (i:=0) (off:=0) rfl sizeOf52 (vs:=(Eh.enc y1)) rfl rfl rfl rfl ?_;clear S;intro w6 hk3 S
    refine Dl (Fs (Fs (Gz [] ([]) Tryz.mixed S rfl (by kernel_rfl) ?_)));clear S;intro w7 hk4 hsel S
    refine Jy [0,1,2,3,4,5,6,7,8,9,10,11,12] hsel (by kernel_rfl) rfl ?_
    clear hsel
    refine Gb S rfl (Rm (S.tm rfl)) rfl fun a S=>Gb S rfl (Kp (S.tm rfl) rfl) rfl fun a S=>Gb S rfl (Rm (S.tm rfl)) rfl ?_;clear S;intro a S
    obtain ⟨j3,hj3,h⟩:=Gh h
    refine CG 10 (fun a w'=>∃ c1,j3 c1 = some r ∧ Keep [] w7 w' ∧ Sx w [] φ2 [.blk b3 (Eh.enc y1) 52,.own v2 77 10 x1.length (x1.flatMap Eu.enc)] [(1,Ad),(5,.map (some b1)),(6,v2),(8,.pointer (some ⟨b3,0,none⟩)),(13,Ad),(14,iV (Ao.length : Int)),(15,iV (i1 : Int)),(32,bV c1)] 75 a w') ?_ ?_
    ·rcases Bool.eq_false_or_eq_true (decide (0 < (i1 : Int))) with hb1 | hb1
     ·replace h:=Qr h hb1
      refine Ig S rfl rfl rfl rfl hb1 (Jq S (Rm (S.tm rfl)) rfl fun a S=>Ig S rfl rfl rfl rfl hb1 (Jq S (Rm (S.tm rfl)) rfl fun a S=>Ig S rfl rfl rfl rfl hb1 (Jq S (Iw (S.tm rfl) rfl) rfl fun a S=>Ig S rfl rfl rfl rfl hb1 ?_)))
      obtain ⟨hc1,h⟩:=Hs h
      obtain ⟨b4,o2,hm3,hr2⟩:=Fo (a:=a) (x:=.tmp 23) (y:=.tmp 25) (ty:=0) Si Am (Ef hc1).1 (Ef hc1).2 (S.tm rfl) (S.tm rfl)
      refine Jq S (hr2 _) rfl ?_;clear S;intro a S
      clear hr2
      refine Ig S rfl rfl rfl rfl hb1 (Jq S (Gi Qq (S.tm rfl)) rfl fun a S=>Ig S rfl rfl rfl rfl hb1 (Jq S (Ha isAgg9 (off:=o2) (o:=0) (S.tm rfl) (hm3.at S.emb0) rfl) rfl fun a S=>Ig S rfl rfl rfl rfl hb1 (Jq S (Gi Qq (S.tm rfl)) rfl fun a S=>Ig S rfl rfl rfl rfl hb1 (Jq S (Ky isAgg9 (S.tm rfl) (S.cell (i:=0) rfl rfl)) rfl fun a S=>Ig S rfl rfl rfl rfl hb1 (Jq S (Sv (S.tm rfl) (S.tm rfl)) rfl fun a S=>Gb S rfl (Jk hb1 (S.tm rfl) (S.tm rfl)) rfl ?_)))));clear S;intro a S
      exact Ix (⟨_,h,Keep.refl _ _,S.nf [true,true] rfl (subR rfl)⟩)
     ·replace h:=Qs h hb1
      iterate 9 (refine Rb S rfl rfl rfl rfl (Lg hb1) rfl ?_ rfl;clear S;intro a S)
      exact Gb S rfl (Jl true hb1 (S.tm rfl) rfl) rfl fun a S=>Ix (⟨_,h,Keep.refl _ _,S.nf [true,true] rfl (subR rfl)⟩)
    clear S h;rintro a w8 ⟨c1,h,hk5,S⟩;rw [hj3] at h;clear hj3 j3
    refine Ix ?_
    replace S:=(S.nl [.blk b3 (Eh.enc y1) 52,.own v2 77 10 x1.length (x1.flatMap Eu.enc)] [true,true] rfl).k8 1 5 6 8 13 14 15 32 rfl
    refine Tn (Fc h (S.tm rfl) (fun hb2 h=>?_) (fun hb2 h=>?_))
    ·exact wp_exit (Fj (Hp (Tn (⟨x1,φ2,v2,h,(View.le_refl _),S.nf [false,true] rfl (subR rfl)⟩))))
    ·refine wp_skip (Tn (Fr (Vm S rfl rfl fun a S=>Vm S rfl rfl fun a S=>Vf Qq S rfl rfl fun a S=>Vl isAgg9 0 S rfl rfl rfl rfl ?_)));clear S;intro a S
     obtain ⟨r1,hr3,h⟩:=Gs h
     have hz3:=S.keep.size
     refine Eg S (fun _=>Eb (vs:=[.map (some b1),Ad,sV y1.Who]) ⟨(S.tm rfl),(S.tm rfl),(S.tm rfl),trivial⟩ call81) (Xf _ b1 (Jf Dd) ((View.le_trans hl2 (S.le_new Fk)) _ _ hq1) Ad Ao (Am.mono (S.le_arg Fk)) y1.Who _ hr3) rfl ?_;clear S;intro v4 a w9 hv2 hk6 hn2 S
     obtain ⟨φ4,hl4,hm4,S⟩:=S.see' hn2 hz3
     have hs1:=hv2.mono hm4
     refine Va S rfl rfl fun a S=>Dz (Vk S rfl rfl fun a S=>Ld ?_)
     replace S:=S.k9 1 5 6 8 9 10 13 14 15 rfl
     refine Tn ?_
     obtain ⟨j4,hj4,h⟩:=Gh h
     refine Fv (fun a w'=>∃ x3 : List Eu,∃ v5 : Value,j4 x3 = some r ∧ Sx w [] φ4 [.blk b3 (Eh.enc y1) 52,.own v5 77 10 x3.length (x3.flatMap Eu.enc)] [(1,Ad),(5,.map (some b1)),(6,v5),(13,Ad),(14,iV (Ao.length : Int)),(15,iV (i1 : Int))] 75 a w') ?_ ?_
     ·refine wp_block (Hr (fun (m1 : Nat) a w'=>∃ x3 : List Eu,∃ x4 : Int,∃ v5 : Value,Jg r1 y1 j4 m1 x3 x4 = some r ∧ Sx w [] φ4 [.blk b3 (Eh.enc y1) 52,.own v5 77 10 x3.length (x3.flatMap Eu.enc)] [(1,Ad),(5,.map (some b1)),(6,v5),(8,.pointer (some ⟨b3,0,none⟩)),(9,v4),(10,iV x4),(13,Ad),(14,iV (Ao.length : Int)),(15,iV (i1 : Int))] 75 a w') id (((r1.length : Int) - 1).toNat + 2) ⟨x1,1,v2,h,S.nf [true,true] rfl (subR rfl)⟩ ?_)
      clear S h;rintro m1 a w10 ⟨x3,x4,v5,h,S⟩
      cases m1 with
      | zero=>rw [Jg.eq_1] at h;cases h
      | succ m1 =>
       rw [Jg.eq_2] at h
       refine Fs (Fr (Vm S rfl rfl fun a S=>Vm S rfl rfl fun a S=>lv S (Gc Py (S.tm rfl) (Dy (Fw Dx.enc_ok hs1))) rfl fun a S=>Vb S Fu rfl rfl rfl fun a S=>Dl (Fc h (S.tm rfl) (fun hb3 h=>?_) (fun hb3 h=>?_))))
       ·refine wp_skip (Tn (Fs (wp_block ?_)))
        obtain ⟨hc2,h⟩:=Hs h
        obtain ⟨hc3,h⟩:=Hs h
        obtain ⟨hc4,h⟩:=Hs h
        obtain ⟨hc5,h⟩:=Hs h
        obtain ⟨hc6,h⟩:=Hs h
        refine Gz [] (v5.ownBlock.toList) Tryz.mixed S rfl (by kernel_rfl) ?_;clear S;intro w14 hk9 hsel S
        refine Ec 0 S hsel rfl rfl rfl (by kernel_rfl) (by kernel_rfl) rfl (fun _ hw=>(Rm (S.tm rfl))) fun a S=>Ec 1 S hsel rfl rfl rfl (by kernel_rfl) (by kernel_rfl) rfl (fun _ hw=>(Gi Qq (S.tm rfl))) fun a S=>Ec 2 S hsel rfl rfl rfl (by kernel_rfl) (by kernel_rfl) rfl (fun _ hw=>(Ha isAgg9 (off:=0) (o:=0) (S.tm rfl) ((S.blk_mem (i:=0) (cells:=(Eh.enc y1)) (b:=b3) (T:=52) rfl (Rw (i:=1) (j:=0) (e:=.own v5 77 10 x3.length (x3.flatMap Eu.enc)) (e':=.blk b3 (Eh.enc y1) 52) S rfl rfl rfl)).kept hw) rfl)) fun a S=>Ec 3 S hsel rfl rfl rfl (by kernel_rfl) (by kernel_rfl) rfl (fun _ hw=>(Rm (S.tm rfl))) fun a S=>Ec 4 S hsel rfl rfl rfl (by kernel_rfl) (by kernel_rfl) rfl (fun _ hw=>(Rm (S.tm rfl))) fun a S=>Ec 5 S hsel rfl rfl rfl (by kernel_rfl) (by kernel_rfl) rfl (fun _ hw=>(Iw (S.tm rfl) rfl)) ?_;clear S;intro a S
        obtain ⟨b10,o7,hm9,hr8⟩:=Fo (a:=a) (x:=.tmp 47) (y:=.tmp 49) (ty:=0) Py ((Fw Dx.enc_ok hs1).mono (S.le_new (Er (i:=1) (e:=.own v5 77 10 x3.length (x3.flatMap Eu.enc)) rfl))) (Ef hc2).1 (Ef hc2).2 (S.tm rfl) (S.tm rfl)
        refine Ec 6 S hsel rfl rfl rfl (by kernel_rfl) (by kernel_rfl) rfl (fun _ hw=>hr8 _) ?_;clear S;intro a S
        clear hr8
        refine Ec 7 S hsel rfl rfl rfl (by kernel_rfl) (by kernel_rfl) rfl (fun _ hw=>(Ie isAgg75 sizeOf75 (off:=o7) (o:=0) (part:=(Dx.enc (Dx.mk ((nth r1 (W (x4 - 1))).Item) ((nth r1 (W (x4 - 1))).Heat) ((nth r1 (W (x4 - 1))).Time)))) rfl rfl (S.tm rfl) (hm9.kept hw))) fun a S=>Ec 8 S hsel rfl rfl rfl (by kernel_rfl) (by kernel_rfl) rfl (fun _ hw=>(Rm (S.tm rfl))) fun a S=>Ec 9 S hsel rfl rfl rfl (by kernel_rfl) (by kernel_rfl) rfl (fun _ hw=>(Rm (S.tm rfl))) ?_;clear S;intro a S
        obtain ⟨b11,o8,hm10,hr9⟩:=Fo (a:=a) (x:=.tmp 52) (y:=.tmp 53) (ty:=0) Py ((Fw Dx.enc_ok hs1).mono (S.le_new (Er (i:=1) (e:=.own v5 77 10 x3.length (x3.flatMap Eu.enc)) rfl))) (Ef hc3).1 (Ef hc3).2 (S.tm rfl) (S.tm rfl)
        refine Ec 10 S hsel rfl rfl rfl (by kernel_rfl) (by kernel_rfl) rfl (fun _ hw=>hr9 _) ?_;clear S;intro a S
        clear hr9
        refine Ec 11 S hsel rfl rfl rfl (by kernel_rfl) (by kernel_rfl) rfl (fun _ hw=>(Ie isAgg75 sizeOf75 (off:=o8) (o:=0) (part:=(Dx.enc (Dx.mk ((nth r1 x4).Item) ((nth r1 x4).Heat) ((nth r1 x4).Time)))) rfl rfl (S.tm rfl) (hm10.kept hw))) fun a S=>Ec 12 S hsel rfl rfl rfl (by kernel_rfl) (by kernel_rfl) rfl (fun _ hw=>(Rm (S.tm rfl))) fun a S=>Ec 13 S hsel rfl rfl rfl (by kernel_rfl) (by kernel_rfl) rfl (fun _ hw=>(Rm (S.tm rfl))) ?_;clear S;intro a S
        obtain ⟨b12,o9,hm11,hr10⟩:=Fo (a:=a) (x:=.tmp 56) (y:=.tmp 57) (ty:=0) Py ((Fw Dx.enc_ok hs1).mono (S.le_new (Er (i:=1) (e:=.own v5 77 10 x3.length (x3.flatMap Eu.enc)) rfl))) (Ef hc4).1 (Ef hc4).2 (S.tm rfl) (S.tm rfl)
        refine Ec 14 S hsel rfl rfl rfl (by kernel_rfl) (by kernel_rfl) rfl (fun _ hw=>hr10 _) ?_;clear S;intro a S
        clear hr10
        refine Ec 15 S hsel rfl rfl rfl (by kernel_rfl) (by kernel_rfl) rfl (fun _ hw=>(Gi Wm (S.tm rfl))) fun a S=>Ec 16 S hsel rfl rfl rfl (by kernel_rfl) (by kernel_rfl) rfl (fun _ hw=>(Gi CP (S.tm rfl))) fun a S=>Ec 17 S hsel rfl rfl rfl (by kernel_rfl) (by kernel_rfl) rfl (fun _ hw=>(Ha isAgg3 (off:=o9) (o:=2) (S.tm rfl) (hm11.kept hw) rfl)) fun a S=>Ec 18 S hsel rfl rfl rfl (by kernel_rfl) (by kernel_rfl) rfl (fun _ hw=>(Rm (S.tm rfl))) fun a S=>Ec 19 S hsel rfl rfl rfl (by kernel_rfl) (by kernel_rfl) rfl (fun _ hw=>(Rm (S.tm rfl))) fun a S=>Ec 20 S hsel rfl rfl rfl (by kernel_rfl) (by kernel_rfl) rfl (fun _ hw=>(Iw (S.tm rfl) rfl)) ?_;clear S;intro a S
        obtain ⟨b13,o10,hm12,hr11⟩:=Fo (a:=a) (x:=.tmp 62) (y:=.tmp 64) (ty:=0) Py ((Fw Dx.enc_ok hs1).mono (S.le_new (Er (i:=1) (e:=.own v5 77 10 x3.length (x3.flatMap Eu.enc)) rfl))) (Ef hc5).1 (Ef hc5).2 (S.tm rfl) (S.tm rfl)
        refine Ec 21 S hsel rfl rfl rfl (by kernel_rfl) (by kernel_rfl) rfl (fun _ hw=>hr11 _) ?_;clear S;intro a S
        clear hr11
        refine Ec 22 S hsel rfl rfl rfl (by kernel_rfl) (by kernel_rfl) rfl (fun _ hw=>(Gi Wm (S.tm rfl))) fun a S=>Ec 23 S hsel rfl rfl rfl (by kernel_rfl) (by kernel_rfl) rfl (fun _ hw=>(Gi GG (S.tm rfl))) fun a S=>Ec 24 S hsel rfl rfl rfl (by kernel_rfl) (by kernel_rfl) rfl (fun _ hw=>(Ha isAgg3 (off:=o10) (o:=3) (S.tm rfl) (hm12.kept hw) rfl)) fun a S=>Ec 25 S hsel rfl rfl rfl (by kernel_rfl) (by kernel_rfl) rfl (fun _ hw=>(Iw (S.tm rfl) (S.tm rfl))) fun a S=>Ec 26 S hsel rfl rfl rfl (by kernel_rfl) (by kernel_rfl) rfl (fun _ hw=>(Pk bt_77 (pv:=[(0,sV y1.Who),(1,.agg (Dx.enc (Dx.mk ((nth r1 (W (x4 - 1))).Item) ((nth r1 (W (x4 - 1))).Heat) ((nth r1 (W (x4 - 1))).Time))).toArray),(2,.agg (Dx.enc (Dx.mk ((nth r1 x4).Item) ((nth r1 x4).Heat) ((nth r1 x4).Time))).toArray),(3,iV (W ((((nth r1 x4).Time).From) - (((nth r1 (W (x4 - 1))).Time).To))))]) ⟨rfl,(S.tm rfl),rfl,(S.tm rfl),rfl,(S.tm rfl),rfl,(S.tm rfl),trivial⟩ (cs:=[sV y1.Who,sV ((nth r1 (W (x4 - 1))).Item),iV ((nth r1 (W (x4 - 1))).Heat),iV (((nth r1 (W (x4 - 1))).Time).From),iV (((nth r1 (W (x4 - 1))).Time).To),sV ((nth r1 x4).Item),iV ((nth r1 x4).Heat),iV (((nth r1 x4).Time).From),iV (((nth r1 x4).Time).To),iV (W ((((nth r1 x4).Time).From) - (((nth r1 (W (x4 - 1))).Time).To)))]) (by kernel_rfl))) fun a S=>Fy 27 (by kernel_rfl) rfl (Ff S underlying38 sizeOf77 zeroValue77 rfl rfl (pv:=[(0,.agg (Eu.enc (Eu.mk y1.Who (Dx.mk ((nth r1 (W (x4 - 1))).Item) ((nth r1 (W (x4 - 1))).Heat) ((nth r1 (W (x4 - 1))).Time)) (Dx.mk ((nth r1 x4).Item) ((nth r1 x4).Heat) ((nth r1 x4).Time)) (W ((((nth r1 x4).Time).From) - (((nth r1 (W (x4 - 1))).Time).To))))).toArray)]) ⟨rfl,(S.tm rfl),trivial⟩ (cs:=[sV y1.Who,sV ((nth r1 (W (x4 - 1))).Item),iV ((nth r1 (W (x4 - 1))).Heat),iV (((nth r1 (W (x4 - 1))).Time).From),iV (((nth r1 (W (x4 - 1))).Time).To),sV ((nth r1 x4).Item),iV ((nth r1 x4).Heat),iV (((nth r1 x4).Time).From),iV (((nth r1 x4).Time).To),iV (W ((((nth r1 x4).Time).From) - (((nth r1 (W (x4 - 1))).Time).To)))]) (by kernel_rfl) rfl ?_);clear S;intro a w15 b14 hz5 hk10 S
        refine Ld (Gr (Keep.none hk10) (Fy 28 (by kernel_rfl) rfl ?_))
        refine Lv Ua Eu.enc_ok S (S.tm rfl) (i:=2) rfl (S.tm rfl) (j:=0) rfl (ys:=[(Eu.mk y1.Who (Dx.mk ((nth r1 (W (x4 - 1))).Item) ((nth r1 (W (x4 - 1))).Heat) ((nth r1 (W (x4 - 1))).Time)) (Dx.mk ((nth r1 x4).Item) ((nth r1 x4).Heat) ((nth r1 x4).Time)) (W ((((nth r1 x4).Time).From) - (((nth r1 (W (x4 - 1))).Time).To))))]) rfl rfl rfl rfl (by have:=Kl hc6;omega) rfl ?_;clear S;intro v7 a w16 hk11 hf1 S
        refine Ld ?_
        refine Mx (v7.ownBlock.toList) hk11 (by intro y hy;simp at hy ⊢;exact (by rcases hf1 y hy with hy | hy <;> simp [hy])) ?_
        refine Jy [29] hsel (by kernel_rfl) rfl ?_
        clear hsel
        refine Gb S rfl (Ra (S.tm rfl)) rfl fun a S=>Ix ?_
        replace S:=(S.nl [.blk b3 (Eh.enc y1) 52,.own v7 77 10 (x3 ++ [(Eu.mk y1.Who (Dx.mk ((nth r1 (W (x4 - 1))).Item) ((nth r1 (W (x4 - 1))).Heat) ((nth r1 (W (x4 - 1))).Time)) (Dx.mk ((nth r1 x4).Item) ((nth r1 x4).Heat) ((nth r1 x4).Time)) (W ((((nth r1 x4).Time).From) - (((nth r1 (W (x4 - 1))).Time).To))))]).length ((x3 ++ [(Eu.mk y1.Who (Dx.mk ((nth r1 (W (x4 - 1))).Item) ((nth r1 (W (x4 - 1))).Heat) ((nth r1 (W (x4 - 1))).Time)) (Dx.mk ((nth r1 x4).Item) ((nth r1 x4).Heat) ((nth r1 x4).Time)) (W ((((nth r1 x4).Time).From) - (((nth r1 (W (x4 - 1))).Time).To))))]).flatMap Eu.enc)] [false,true,true] rfl).k9 1 5 6 8 9 10 13 14 15 rfl
        exact Ja (Tn (Fg (Vm S rfl rfl fun a S=>Vq S Gf rfl rfl rfl fun a S=>Va S rfl rfl fun a S=>Dl (⟨m1,⟨(x3 ++ [(Eu.mk y1.Who (Dx.mk ((nth r1 (W (x4 - 1))).Item) ((nth r1 (W (x4 - 1))).Heat) ((nth r1 (W (x4 - 1))).Time)) (Dx.mk ((nth r1 x4).Item) ((nth r1 x4).Heat) ((nth r1 x4).Time)) (W ((((nth r1 x4).Time).From) - (((nth r1 (W (x4 - 1))).Time).To))))]),W (x4 + 1),v7,h,S.nf [true,true] rfl ⟨rfl,rfl,rfl,rfl,rfl,rfl,rfl,rfl,rfl,trivial⟩⟩,Nat.lt_succ_self _⟩))))
       ·exact wp_exit (Fj (Fj (Hp (Tn (⟨x3,v5,h,S.nf [true,true] rfl (subR rfl)⟩)))))
     clear S h;rintro a w11 ⟨x3,v5,h,S⟩;rw [hj4] at h;clear hj4 j4
     exact Ja (Tn (⟨x3,φ4,v5,h,hl4,S.nf [false,true] rfl (subR rfl)⟩))
   clear S h;rintro a w4 ⟨x2,φ3,v3,h,hl3,S⟩;rw [hj2] at h;clear hj2 j2
   exact Tn (Fg (Vq S Gf rfl rfl rfl fun a S=>Vm S rfl rfl fun a S=>Dl (⟨ys1,⟨i1 + 1,x2,φ3,v3,⟨_,(hd1).trans (List.append_cons _ _ _),by simp [hi1]⟩,h,(View.le_trans hl2 hl3),S.nf [true] rfl ⟨rfl,rfl,rfl,rfl,rfl,(congrArg (fun z=>some (Value.int .i64 z)) (Hy hd1 hi1 (Km Am))),trivial⟩⟩,Nat.lt_succ_self _⟩)))
 clear S h;rintro a w3 ⟨x1,φ2,v2,h,hl2,S⟩;rw [hj1] at h;clear hj1 j1
 refine Tn (Fr (Vm S rfl rfl fun a S=>Va S rfl rfl fun a S=>Dl (wp_ret ?_)))
 obtain rfl:=Option.some.inj h
 exact Fz S results52 rfl (Oy S (i:=0) rfl rfl)
theorem Xh (w : World) (Ah : Value) (Ak : List An) (Bd : Slc (view w []) 5 Ah (Ak.map An.enc)) (Ad : Value) (Ao : List Eh) (Am : Slc (view w []) 3 Ad (Ao.map Eh.enc)) (Bh : Int) (r : (List Eu) × Int) (h : Qp Ak Ao Bh = some r) :
    Calls prog 30 [Ah,Ad,iV Bh].toArray w (Ret w [] fun τ v _=>∃ u1 : Value,v = .tuple #[u1,iV r.2] ∧ Oa τ 77 10 u1 r.1.length (r.1.flatMap Eu.enc)):=by
 refine Fe func30 rfl ntmps30 rfl fun a S=>?_
 unfold Qp at h
 replace S:=S.k3 0 1 2 rfl
 refine Fr (Vk S rfl rfl fun a S=>Vk S rfl rfl fun a S=>Dl (Fs (Fr (Vm S rfl rfl fun a S=>Vm S rfl rfl ?_))));clear S;intro a S
 obtain ⟨r1,hr1,h⟩:=Gs h
 refine Eg S (fun _=>Eb (vs:=[Ah,Ad]) ⟨(S.tm rfl),(S.tm rfl),trivial⟩ call19) (Qh _ Ah Ak (Bd.mono (S.le_arg Fk)) Ad Ao (Am.mono (S.le_arg Fk)) _ hr1) rfl ?_;clear S;intro v1 a w1 hv1 hk1 hn1 S
 subst hv1
 refine Va S rfl rfl fun a S=>Dz (Vm S rfl rfl fun a S=>Vq S Mj rfl rfl rfl fun a S=>Dl (Fc h (S.tm rfl) (fun hb1 h=>?_) (fun hb1 h=>?_)))
 ·refine Fr (Vm S rfl rfl fun a S=>Vk S rfl rfl fun a S=>Va S rfl rfl fun a S=>Dl (wp_ret (Ee ?_)))
  obtain rfl:=Option.some.inj h
  exact Jx S results30 rfl rfl ⟨_,rfl,(Kn _ _ _)⟩
 ·refine wp_skip (Tn (Fr (Vm S rfl rfl fun a S=>Vm S rfl rfl ?_)));clear S;intro a S
  obtain ⟨r2,hr2,h⟩:=Gs h
  have hz1:=S.keep.size
  refine Eg S (fun _=>Eb (vs:=[Ah,iV Bh]) ⟨(S.tm rfl),(S.tm rfl),trivial⟩ call51) (So _ Ah Ak (Bd.mono (S.le_arg Fk)) Bh _ hr2) rfl ?_;clear S;intro v2 a w2 hv2 hk2 hn2 S
  obtain ⟨u1,rfl,ho1⟩:=hv2
  obtain ⟨φ1,hl1,hm1,S⟩:=S.see' hn2 hz1
  have hs1:=ho1.mono hm1
  refine Vm S rfl rfl fun a S=>Vq S Gu rfl rfl rfl fun a S=>Vq S Gu rfl rfl rfl fun a S=>Va S rfl rfl fun a S=>Va S rfl rfl fun a S=>Ld ?_
  replace S:=S.k3 1 9 10 rfl
  refine Tn (Fs (Fr (Vm S rfl rfl fun a S=>Vq S Mj rfl rfl rfl fun a S=>Dl (Fc h (S.tm rfl) (fun hb2 h=>?_) (fun hb2 h=>?_)))))
  ·refine Fr (Vm S rfl rfl fun a S=>Vk S rfl rfl fun a S=>Va S rfl rfl fun a S=>Dl (wp_ret (Ee ?_)))
   obtain rfl:=Option.some.inj h
   exact Jx S results30 rfl rfl ⟨_,rfl,(Kn _ _ _)⟩
  ·refine wp_skip (Tn (Fr (Vm S rfl rfl fun a S=>Vm S rfl rfl ?_)));clear S;intro a S
   obtain ⟨r3,hr3,h⟩:=Gs h
   have hz2:=S.keep.size
   refine Eg S (fun _=>Eb (vs:=[u1,Ad]) ⟨(S.tm rfl),(S.tm rfl),trivial⟩ call52) (Xg _ u1 r2.1 ((Fw Dx.enc_ok hs1).mono (S.le_new Fk)) Ad Ao (Am.mono (S.le_arg Fk)) _ hr3) rfl ?_;clear S;intro v3 a w3 hv3 hk3 hn3 S
   obtain ⟨φ2,hl2,hm2,S⟩:=S.see' hn3 hz2
   have hs2:=hv3.mono hm2
   refine Va S rfl rfl fun a S=>Vk S rfl rfl fun a S=>Dl (wp_ret ?_)
   obtain rfl:=Option.some.inj h
   exact Jx S results30 rfl rfl ⟨_,rfl,((hs2).mono S.le_newer)⟩
theorem Rd (w : World) (Av : Eu) (Cz : Nat) (Dn : Int) (Da : (view w []) Cz = some (.cells [iV Dn].toArray 3 (0,0))) (r : Bool) (h : Oq Av Dn = r) :
    Calls prog 32 [.agg (Eu.enc Av).toArray,.pointer (some ⟨Cz,0,none⟩)].toArray w (Ret w [] fun _ v _=>v = bV r):=by
 refine Fe func32 rfl ntmps32 rfl fun a S=>?_
 unfold Oq at h
 replace S:=S.k2 0 1 rfl
 refine Fr (Ox S (S.tm rfl) (cs:=(Eu.enc Av)) rfl rfl ?_);clear S;intro a w1 b1 hz1 hk1 S
 refine Vk S rfl rfl fun a S=>Dz (Vf fa_77_3 S rfl rfl fun a S=>Vl isAgg3 0 S rfl rfl rfl rfl fun a S=>lv S (Ha isAgg3 (off:=0) (o:=0) (S.tm rfl) ((CA Da).at S.emb0) rfl) rfl fun a S=>Vb S Ns rfl rfl rfl fun a S=>Va S rfl rfl fun a S=>Ld ?_)
 refine Tn (wp_ret ?_)
 subst h
 exact Fz S results32 rfl rfl
theorem Ni (w : World) (Bc : Value) (Ba : List Eu) (Bu : Slc (view w []) 10 Bc (Ba.map Eu.enc)) (Cc : Nat) (Cr : Int) (Cw : (view w []) Cc = some (.cells [iV Cr].toArray 3 (0,0))) (r : Int) (h : Fp Ba Cr = r) :
    Calls prog 53 [Bc,.func (.func 32) #[] #[.pointer (some ⟨Cc,0,none⟩)]].toArray w (Ret w [] fun _ v _=>v = iV r):=by
 refine Fe func53 rfl ntmps53 rfl fun a S=>?_
 unfold Fp at h
 replace S:=S.k2 0 1 rfl
 refine Fr (Vk S rfl rfl fun a S=>Dl (Fs (Fr (Vm S rfl rfl fun a S=>lv S (Gc Ua (S.tm rfl) (Dy Bu)) rfl fun a S=>lv S (Rm rfl) rfl ?_))));clear S;intro a S
 refine Dl ?_
 replace S:=S.k4 0 1 7 8 rfl
 obtain ⟨j1,hj1,h⟩:=Gh h
 refine Fv (fun a w'=>j1 = r ∧ Sx w [] nov [] [] 19 a w') ?_ ?_
 ·refine wp_block (Hr (fun (ys1 : List Eu) a w'=>∃ i1 : Nat,(∃ dn,Ba = dn ++ ys1 ∧ dn.length = i1) ∧ Fh Cr j1 ys1 i1 = r ∧ Sx w [] nov [] [(0,Bc),(1,.func (.func 32) #[] #[.pointer (some ⟨Cc,0,none⟩)]),(7,iV (Ba.length : Int)),(8,iV (i1 : Int))] 19 a w') List.length Ba ⟨0,⟨[],rfl,rfl⟩,h,S.nf [] rfl (subR rfl)⟩ ?_)
  clear S h;rintro ys1 a w1 ⟨i1,⟨dn,hd1,hi1⟩,h,S⟩
  cases ys1 with
  | nil =>
   rw [Fh.eq_1] at h
   refine Fr (Vb S Fu rfl rfl rfl fun a S=>Ld ?_)
   replace S:=S.k5 0 1 7 8 9 rfl
   exact Tn (Fs (wp_cond_false ((S.tm rfl).trans (congrArg Value.bool (Jd hd1 hi1))) (wp_exit (Fj (Fj (Hp (Tn (⟨h,S.nf [] rfl trivial⟩))))))))
  | cons y1 ys1 =>
   rw [Fh.eq_2] at h
   refine Fr (Vb S Fu rfl rfl rfl fun a S=>Ld ?_)
   replace S:=S.k5 0 1 7 8 9 rfl
   refine Tn (Fs (wp_cond_true ((S.tm rfl).trans (congrArg Value.bool (Hx hd1 hi1))) (wp_skip (Tn (Fs (wp_block (Fr (Vm S rfl rfl fun a S=>Va S rfl rfl ?_))))))));clear S;intro a S
   refine Dl (Fs (Fg ?_))
   iterate 3 (refine Vm S rfl rfl ?_;clear S;intro a S)
   obtain ⟨b1,o1,hm1,hr1⟩:=Fo (a:=a) (x:=.tmp 12) (y:=.tmp 13) (ty:=0) Ua Bu (Il hd1 hi1) rfl (S.tm rfl) (S.tm rfl)
   refine lv S (hr1 _) rfl ?_;clear S;intro a S
   clear hr1
   refine lv S (Ie isAgg77 sizeOf77 (off:=o1) (o:=0) (part:=(Eu.enc y1)) rfl rfl (S.tm rfl) (hm1.at S.emb0)) rfl fun a S=>Eg S (fun _=>Ro (cap:=[.pointer (some ⟨Cc,0,none⟩)]) (S.tm rfl) (vs:=[.agg (Eu.enc y1).toArray]) ⟨(S.tm rfl),trivial⟩ call32) (Rd _ y1 Cc Cr ((S.le_arg Fk) _ _ Cw) _ rfl) rfl ?_;clear S;intro v1 a w3 hv1 hk1 hn1 S
   subst hv1
   refine Dl (Fc h (S.tm rfl) (fun hb1 h=>?_) (fun hb1 h=>?_))
   ·refine Fr (Vm S rfl rfl fun a S=>Va S rfl rfl fun a S=>Ld ?_)
    replace S:=S.k1 4 rfl
    refine Tn (wp_ret (Gy (Ee (Ee (Gy (Ee (Ee ?_)))))))
    subst h
    exact Fz S results53 rfl rfl
   ·exact wp_skip (Ja (Tn (Fg (Vq S Gf rfl rfl rfl fun a S=>Vm S rfl rfl fun a S=>Dl (⟨ys1,⟨i1 + 1,⟨_,(hd1).trans (List.append_cons _ _ _),by simp [hi1]⟩,h,S.nf [] rfl ⟨rfl,rfl,rfl,(congrArg (fun z=>some (Value.int .i64 z)) (Hy hd1 hi1 (Km Bu))),trivial⟩⟩,Nat.lt_succ_self _⟩)))))
 clear S h;rintro a w2 ⟨h,S⟩;rw [hj1] at h;clear hj1 j1
 refine Tn (Fr (Vk S rfl rfl fun a S=>Dl (wp_ret ?_)))
 subst h
 exact Fz S results53 rfl rfl
theorem Nc (w : World) (Bc : Value) (Ba : List Eu) (Du : (LEnt.own Bc 77 10 Ba.length (Ba.flatMap Eu.enc)).holds w) (Ca : Nat) (Cm : Int) (Dg : (view w (Bc.ownBlock.toList)) Ca = some (.cells [iV Cm].toArray 3 (0,0))) (r : (List Eu)) (h : Ib Ba Cm = some r) :
    Calls prog 31 [Bc,.func (.func 32) #[] #[.pointer (some ⟨Ca,0,none⟩)]].toArray w (Ret w (Bc.ownBlock.toList) fun _ v w'=>(LEnt.own v 77 10 r.length (r.flatMap Eu.enc)).holds w' ∧ v.ownBlock = Bc.ownBlock):=by
 refine Kz (Bc.ownBlock.toList) [.own Bc 77 10 Ba.length (Ba.flatMap Eu.enc)] func31 rfl ntmps31 rfl (fun e he=>by simp only [List.mem_singleton] at he;subst he;exact Du) (Kf _) (Lm _) fun a S=>?_
 unfold Ib at h
 replace S:=(S.nl [.own Bc 77 10 Ba.length (Ba.flatMap Eu.enc)] [true] rfl).k2 0 1 rfl
 refine Fr (Vk S rfl rfl fun a S=>Dz (Vm S rfl rfl fun a S=>Vm S rfl rfl fun a S=>Eg S (fun _=>Eb (vs:=[Bc,.func (.func 32) #[] #[.pointer (some ⟨Ca,0,none⟩)]]) ⟨(S.tm rfl),(S.tm rfl),trivial⟩ call53) (Ni _ Bc Ba (Kt Eu.enc_ok S (i:=0) rfl (Gm (e':=.own Bc 77 10 Ba.length (Ba.flatMap Eu.enc)))) Ca Cm ((S.le_arg Fk) _ _ Dg) _ rfl) rfl ?_));clear S;intro v1 a w1 hv1 hk1 hn1 S
 subst hv1
 refine Va S rfl rfl fun a S=>Dl (Fs (Fr (Vm S rfl rfl fun a S=>Vq S Ko rfl rfl rfl fun a S=>Dl (Fc h (S.tm rfl) (fun hb1 h=>?_) (fun hb1 h=>?_)))))
 ·refine Fr (Vm S rfl rfl fun a S=>Va S rfl rfl fun a S=>Dl (wp_ret (Ee ?_)))
  obtain rfl:=Option.some.inj h
  exact Fz S results31 rfl ⟨(S.holds _ (List.mem_of_getElem? (i:=0) rfl)),rfl⟩
 ·refine wp_skip (Tn (Fs (Fr (Vm S rfl rfl fun a S=>Vq S Gf rfl rfl rfl fun a S=>Va S rfl rfl fun a S=>Dl ?_))))
  replace S:=S.k4 0 1 5 6 rfl
  obtain ⟨j1,hj1,h⟩:=Gh h
  refine Fv (fun a w'=>∃ x1 : List Eu,∃ x2 : Int,j1 x1 x2 = some r ∧ Sx w (Bc.ownBlock.toList) nov [.own Bc 77 10 x1.length (x1.flatMap Eu.enc)] [(0,Bc),(5,iV x2)] 42 a w') ?_ ?_
  ·refine wp_block (Hr (fun (m1 : Nat) a w'=>∃ x1 : List Eu,∃ x2 : Int,∃ x3 : Int,Ez Cm j1 m1 x1 x2 x3 = some r ∧ Sx w (Bc.ownBlock.toList) nov [.own Bc 77 10 x1.length (x1.flatMap Eu.enc)] [(0,Bc),(1,.func (.func 32) #[] #[.pointer (some ⟨Ca,0,none⟩)]),(5,iV x2),(6,iV x3)] 42 a w') id (((Ba.length : Int) - (W ((Fp Ba Cm) + 1))).toNat + 2) ⟨Ba,(Fp Ba Cm),W ((Fp Ba Cm) + 1),h,S.nf [true] rfl (subR rfl)⟩ ?_)
   clear S h;rintro m1 a w2 ⟨x1,x2,x3,h,S⟩
   cases m1 with
   | zero=>rw [Ez.eq_1] at h;cases h
   | succ m1 =>
    rw [Ez.eq_2] at h
    refine Fs (Fr (Vm S rfl rfl fun a S=>Vm S rfl rfl fun a S=>lv S (Gc Ua (S.tm rfl) (Om (S.own_at (i:=0) rfl))) rfl fun a S=>Vb S Fu rfl rfl rfl fun a S=>Dl (Fc h (S.tm rfl) (fun hb2 h=>?_) (fun hb2 h=>?_))))
    ·refine wp_skip (Tn (Fs ?_))
     obtain ⟨j2,hj2,h⟩:=Gh h
     refine Fv (fun a w'=>∃ x4 : List Eu,∃ x5 : Int,j2 x4 x5 = some r ∧ Sx w (Bc.ownBlock.toList) nov [.own Bc 77 10 x4.length (x4.flatMap Eu.enc)] [(0,Bc),(1,.func (.func 32) #[] #[.pointer (some ⟨Ca,0,none⟩)]),(5,iV x5),(6,iV x3)] 42 a w') ?_ ?_
     ·refine wp_block (Fr (Vm S rfl rfl fun a S=>Vm S rfl rfl ?_));clear S;intro a S
      obtain ⟨hc1,h⟩:=Hs h
      obtain ⟨b1,hg1,hr1⟩:=Gv (a:=a) (x:=.tmp 22) (y:=.tmp 23) (ty:=0) Ua Eu.enc_ok S (i:=0) rfl (Ef hc1).1 (Ef hc1).2 (S.tm rfl) (S.tm rfl)
      refine lv S (hr1 _) rfl ?_;clear S;intro a S
      clear hr1
      refine lv S (Ie isAgg77 sizeOf77 (off:=x3.toNat * 10) (o:=0) (part:=(Eu.enc (Eu.mk ((nth x1 x3).Who) (Dx.mk (((nth x1 x3).From).Item) (((nth x1 x3).From).Heat) (((nth x1 x3).From).Time)) (Dx.mk (((nth x1 x3).To).Item) (((nth x1 x3).To).Heat) (((nth x1 x3).To).Time)) ((nth x1 x3).Long)))) rfl rfl (S.tm rfl) (Nm Eu.enc_ok S (i:=0) rfl hg1 (Ef hc1).1)) rfl fun a S=>Nw S zeroValue77 (cs:=[sV Eo,sV Eo,iV 0,iV 0,iV 0,sV Eo,iV 0,iV 0,iV 0,iV 0]) rfl rfl ?_;clear S;intro a w5 b2 hz1 hk2 S
      refine Kq S (S.tm rfl) (S.tm rfl) (i:=0) (off:=0) rfl sizeOf77 (vs:=(Eu.enc (Eu.mk ((nth x1 x3).Who) (Dx.mk (((nth x1 x3).From).Item) (((nth x1 x3).From).Heat) (((nth x1 x3).From).Time)) (Dx.mk (((nth x1 x3).To).Item) (((nth x1 x3).To).Heat) (((nth x1 x3).To).Time)) ((nth x1 x3).Long)))) rfl rfl rfl rfl ?_;clear S;intro w6 hk3 S
      refine Dz (Vm S rfl rfl fun a S=>lv S (Ie isAgg77 sizeOf77 (off:=0) (o:=0) (part:=(Eu.enc (Eu.mk ((nth x1 x3).Who) (Dx.mk (((nth x1 x3).From).Item) (((nth x1 x3).From).Heat) (((nth x1 x3).From).Time)) (Dx.mk (((nth x1 x3).To).Item) (((nth x1 x3).To).Heat) (((nth x1 x3).To).Time)) ((nth x1 x3).Long)))) rfl rfl (S.tm rfl) (S.cellsAt (i:=0) rfl)) rfl fun a S=>Eg S (fun _=>Ro (cap:=[.pointer (some ⟨Ca,0,none⟩)]) (S.tm rfl) (vs:=[.agg (Eu.enc (Eu.mk ((nth x1 x3).Who) (Dx.mk (((nth x1 x3).From).Item) (((nth x1 x3).From).Heat) (((nth x1 x3).From).Time)) (Dx.mk (((nth x1 x3).To).Item) (((nth x1 x3).To).Heat) (((nth x1 x3).To).Time)) ((nth x1 x3).Long))).toArray]) ⟨(S.tm rfl),trivial⟩ call32) (Rd _ (Eu.mk ((nth x1 x3).Who) (Dx.mk (((nth x1 x3).From).Item) (((nth x1 x3).From).Heat) (((nth x1 x3).From).Time)) (Dx.mk (((nth x1 x3).To).Item) (((nth x1 x3).To).Heat) (((nth x1 x3).To).Time)) ((nth x1 x3).Long)) Ca Cm ((S.le_arg Fk) _ _ Dg) _ rfl) rfl ?_);clear S;intro v2 a w7 hv2 hk4 hn2 S
      subst hv2
      refine Vu S Ip rfl rfl fun a S=>Ld ?_
      replace S:=(S.nl [.blk b2 (Eu.enc (Eu.mk ((nth x1 x3).Who) (Dx.mk (((nth x1 x3).From).Item) (((nth x1 x3).From).Heat) (((nth x1 x3).From).Time)) (Dx.mk (((nth x1 x3).To).Item) (((nth x1 x3).To).Heat) (((nth x1 x3).To).Time)) ((nth x1 x3).Long))) 77,.own Bc 77 10 x1.length (x1.flatMap Eu.enc)] [true,true] rfl).k6 0 1 5 6 7 29 rfl
      refine Tn ?_
      obtain ⟨j3,hj3,h⟩:=Gh h
      refine Fv (fun a w'=>∃ x6 : List Eu,∃ x7 : Int,j3 x6 x7 = some r ∧ Sx w (Bc.ownBlock.toList) nov [.blk b2 (Eu.enc (Eu.mk ((nth x1 x3).Who) (Dx.mk (((nth x1 x3).From).Item) (((nth x1 x3).From).Heat) (((nth x1 x3).From).Time)) (Dx.mk (((nth x1 x3).To).Item) (((nth x1 x3).To).Heat) (((nth x1 x3).To).Time)) ((nth x1 x3).Long))) 77,.own Bc 77 10 x6.length (x6.flatMap Eu.enc)] [(0,Bc),(1,.func (.func 32) #[] #[.pointer (some ⟨Ca,0,none⟩)]),(5,iV x7),(6,iV x3)] 42 a w') ?_ ?_
      ·refine Fc h (S.tm rfl) (fun hb3 h=>?_) (fun hb3 h=>?_)
       ·refine Fr (Vm S rfl rfl fun a S=>Vm S rfl rfl fun a S=>lv S (Ie isAgg77 sizeOf77 (off:=0) (o:=0) (part:=(Eu.enc (Eu.mk ((nth x1 x3).Who) (Dx.mk (((nth x1 x3).From).Item) (((nth x1 x3).From).Heat) (((nth x1 x3).From).Time)) (Dx.mk (((nth x1 x3).To).Item) (((nth x1 x3).To).Heat) (((nth x1 x3).To).Time)) ((nth x1 x3).Long)))) rfl rfl (S.tm rfl) (S.cellsAt (i:=0) rfl)) rfl ?_);clear S;intro a S
        obtain ⟨hc2,h⟩:=Hs h
        obtain ⟨b3,hg2,hr2⟩:=Gv (a:=a) (x:=.tmp 30) (y:=.tmp 31) (ty:=0) Ua Eu.enc_ok S (i:=1) rfl (Ef hc2).1 (Ef hc2).2 (S.tm rfl) (S.tm rfl)
        refine lv S (hr2 _) rfl ?_;clear S;intro a S
        clear hr2
        refine Ng (c:=0) (j:=x2.toNat) (Eu.mk ((nth x1 x3).Who) (Dx.mk (((nth x1 x3).From).Item) (((nth x1 x3).From).Heat) (((nth x1 x3).From).Time)) (Dx.mk (((nth x1 x3).To).Item) (((nth x1 x3).To).Heat) (((nth x1 x3).To).Time)) ((nth x1 x3).Long)) Eu.enc_ok S (S.tm rfl) (S.tm rfl) (i:=1) rfl hg2 (Ef hc2).1 sizeOf77 (vs:=[sV ((nth x1 x3).Who),sV (((nth x1 x3).From).Item),iV (((nth x1 x3).From).Heat),iV ((((nth x1 x3).From).Time).From),iV ((((nth x1 x3).From).Time).To),sV (((nth x1 x3).To).Item),iV (((nth x1 x3).To).Heat),iV ((((nth x1 x3).To).Time).From),iV ((((nth x1 x3).To).Time).To),iV ((nth x1 x3).Long)]) rfl rfl rfl rfl rfl ?_;clear S;intro w10 hk6 S
        exact Dl (Fg (Vm S rfl rfl fun a S=>Vq S Gf rfl rfl rfl fun a S=>Va S rfl rfl fun a S=>Dl (⟨(x1.set x2.toNat (Eu.mk ((nth x1 x3).Who) (Dx.mk (((nth x1 x3).From).Item) (((nth x1 x3).From).Heat) (((nth x1 x3).From).Time)) (Dx.mk (((nth x1 x3).To).Item) (((nth x1 x3).To).Heat) (((nth x1 x3).To).Time)) ((nth x1 x3).Long))),W (x2 + 1),h,S.nf [true,true] rfl (subR rfl)⟩)))
       ·exact wp_skip (Tn (⟨x1,x2,h,S.nf [true,true] rfl (subR rfl)⟩))
      clear S h;rintro a w8 ⟨x6,x7,h,S⟩;rw [hj3] at h;clear hj3 j3
      exact Ja (Tn (⟨x6,x7,h,S.nf [false,true] rfl (subR rfl)⟩))
     clear S h;rintro a w4 ⟨x4,x5,h,S⟩;rw [hj2] at h;clear hj2 j2
     exact Tn (Fg (Vm S rfl rfl fun a S=>Vq S Gf rfl rfl rfl fun a S=>Va S rfl rfl fun a S=>Dl (⟨m1,⟨x4,x5,W (x3 + 1),h,S.nf [true] rfl ⟨rfl,rfl,rfl,rfl,trivial⟩⟩,Nat.lt_succ_self _⟩)))
    ·exact wp_exit (Fj (Fj (Hp (Tn (⟨x1,x2,h,S.nf [true] rfl (subR rfl)⟩)))))
  clear S h;rintro a w3 ⟨x1,x2,h,S⟩;rw [hj1] at h;clear hj1 j1
  refine Tn (Fr (Vm S rfl rfl fun a S=>Vm S rfl rfl ?_));clear S;intro a S
  obtain ⟨hc3,h⟩:=Hs h
  obtain ⟨u1,hu1,hr3⟩:=rn_subl (a:=a) (x:=.tmp 36) (y:=.tmp 37) (ty:=38) Ua S (i:=0) rfl (S.tm rfl) (S.tm rfl) hc3
  refine lv S (hr3 _) rfl ?_;clear S;intro a S
  clear hr3
  refine l_clear (zl:=x2) (zh:=(x1.length : Int)) (z:=(Eu.mk Eo (Dx.mk Eo 0 (Gt.mk 0 0)) (Dx.mk Eo 0 (Gt.mk 0 0)) 0)) Ua rfl Eu.enc_ok S (i:=0) rfl hu1 (S.tm rfl) zeroValue77 rfl ?_;clear S;intro w11 hk7 S
  refine Dz (Vm S rfl rfl fun a S=>Vm S rfl rfl ?_);clear S;intro a S
  obtain ⟨hc4,h⟩:=Hs h
  obtain ⟨u2,hu2,hr4⟩:=rn_subh (a:=a) (x:=.tmp 39) (y':=.tmp 40) (ty:=38) Ua S (i:=0) rfl (S.tm rfl) (S.tm rfl) hc4
  refine lv S (hr4 _) rfl ?_;clear S;intro a S
  clear hr4
  refine Va S rfl rfl fun a S=>Dl (wp_ret ?_)
  obtain ⟨S,hz2⟩:=S.ownCut (zh:=x2) Eu.enc_ok (i:=0) rfl hu2
  obtain rfl:=Option.some.inj h
  exact Fz S results31 rfl ⟨(S.holds _ (List.mem_of_getElem? (i:=0) rfl)),(CH.block hu2)⟩
theorem Sp (w : World) (Ah : Value) (Ak : List An) (Bd : Slc (view w []) 5 Ah (Ak.map An.enc)) (Ad : Value) (Ao : List Eh) (Am : Slc (view w []) 3 Ad (Ao.map Eh.enc)) (Bh : Int) (Az : Int) (r : (List Eu) × Int) (h : Mm Ak Ao Bh Az = some r) :
    Calls prog 10 [Ah,Ad,iV Bh,iV Az].toArray w (Ret w [] fun τ v _=>∃ u1 : Value,v = .tuple #[u1,iV r.2] ∧ Oa τ 77 10 u1 r.1.length (r.1.flatMap Eu.enc)):=by
 refine Fe func10 rfl ntmps10 rfl fun a S=>?_
 unfold Mm at h
 replace S:=S.k4 0 1 2 3 rfl
 refine Fr (Ox S (S.tm rfl) (cs:=[iV Az]) rfl rfl ?_);clear S;intro a w1 b1 hz1 hk1 S
 refine Vk S rfl rfl fun a S=>Vk S rfl rfl fun a S=>Dl (Fs (Fg ?_))
 iterate 3 (refine Vm S rfl rfl ?_;clear S;intro a S)
 obtain ⟨r1,hr1,h⟩:=Gs h
 have hz2:=S.keep.size
 refine Eg S (fun _=>Eb (vs:=[Ah,Ad,iV Bh]) ⟨(S.tm rfl),(S.tm rfl),(S.tm rfl),trivial⟩ call30) (Xh _ Ah Ak (Bd.mono (S.le_arg Fk)) Ad Ao (Am.mono (S.le_arg Fk)) Bh _ hr1) rfl ?_;clear S;intro v1 a w2 hv1 hk2 hn1 S
 obtain ⟨u1,rfl,ho1⟩:=hv1
 replace S:=S.take hn1 hz2 ho1
 refine Vm S rfl rfl fun a S=>Vq S Gu rfl rfl rfl fun a S=>Vq S Gu rfl rfl rfl fun a S=>Va S rfl rfl fun a S=>Va S rfl rfl fun a S=>Ld ?_
 replace S:=(S.nl [.own u1 77 10 r1.1.length (r1.1.flatMap Eu.enc),.blk b1 [iV Az] 3] [true,true] rfl).k3 7 10 11 rfl
 refine Tn (Fs (Fr (Vm S rfl rfl fun a S=>Vq S Mj rfl rfl rfl fun a S=>Dl (Fc h (S.tm rfl) (fun hb1 h=>?_) (fun hb1 h=>?_)))))
 ·refine Fr (Vm S rfl rfl fun a S=>Vk S rfl rfl fun a S=>Va S rfl rfl fun a S=>Dl (wp_ret (Ee ?_)))
  obtain rfl:=Option.some.inj h
  exact Jx S results10 rfl rfl ⟨_,rfl,(Kn _ _ _)⟩
 ·refine wp_skip (Tn (Fs (Fr (Vl isAgg3 1 S rfl rfl rfl rfl fun a S=>Eg S (fun _=>Eb (vs:=[iV Az,iV 0,iV 3600000]) ⟨(S.tm rfl),rfl,rfl,trivial⟩ call20) (Gq _ Az 0 3600000 _ rfl) rfl ?_))));clear S;intro v2 a w3 hv2 hk3 hn2 S
  subst hv2
  refine Vu S Ip rfl rfl fun a S=>Dl (Fc h (S.tm rfl) (fun hb2 h=>?_) (fun hb2 h=>?_))
  ·refine Fr (Vk S rfl rfl fun a S=>Vk S rfl rfl fun a S=>Dl (wp_ret (Ee ?_)))
   obtain rfl:=Option.some.inj h
   exact Jx S results10 rfl rfl ⟨_,rfl,(Kn _ _ _)⟩
  ·refine wp_skip (Tn (Fr (Vm S rfl rfl fun a S=>lv S (Xt (us:=#[]) (xs:=[].toArray) (ys:=[.tmp 7].toArray) (by simp) (evA ⟨(S.tm rfl),trivial⟩ (vs:=[.pointer (some ⟨b1,0,none⟩)]))) rfl ?_)));clear S;intro a S
   obtain ⟨r2,hr2,h⟩:=Gs h
   have hz3:=S.keep.size
   refine Pa 0 S rfl (fun v3=>.own v3 77 10 r2.length (r2.flatMap Eu.enc)) (fun _=>Eb (vs:=[u1,.func (.func 32) #[] #[.pointer (some ⟨b1,0,none⟩)]]) ⟨(S.tm rfl),(S.tm rfl),trivial⟩ call31) (Nc _ u1 r1.1 (S.holds _ (List.mem_of_getElem? (i:=0) rfl)) b1 Az (S.blk_view (i:=1) rfl ((Rw (i:=0) (j:=1) (e:=.own u1 77 10 r1.1.length (r1.1.flatMap Eu.enc)) (e':=.blk b1 [iV Az] 3) S rfl rfl rfl) _ rfl)) _ hr2) rfl (fun _ _ _ h=>⟨h.1,fun _ hc=>h.2.symm.trans hc⟩) ?_;clear S;intro v3 a w4 hv3 hk4 hn3 S
   clear hv3
   refine Va S rfl rfl fun a S=>Vk S rfl rfl fun a S=>Dl (wp_ret ?_)
   obtain rfl:=Option.some.inj h
   exact Jx S results10 rfl rfl ⟨_,rfl,(Oy S (i:=0) rfl rfl)⟩
theorem Yd (w : World) (Ac : Nat) (Af : Value) (Bj : List Int) (Bl : Slc (view w [Ac]) 1 Af (Bj.map eInt)) (Aw : Int) (Bw : (LEnt.blk Ac [Af,iV Aw] 25).holds w) (Bo : Int) (r : (List Int) × Int) (h : Pv Bj Aw Bo = some r) :
    Calls prog 11 [.pointer (some ⟨Ac,0,none⟩),iV Bo].toArray w (Ret w [Ac] fun τ v w'=>(LEnt.blk Ac [Af,iV r.2] 25).holds w' ∧ Oa τ 3 1 v r.1.length (r.1.flatMap eInt)):=by
 refine Kz [Ac] [.blk Ac [Af,iV Aw] 25] func11 rfl ntmps11 rfl (fun e he=>by simp only [List.mem_singleton] at he;subst he;exact Bw) (by simp [fps,LEnt.fp]) (by simp [fps,LEnt.fp]) fun a S=>?_
 unfold Pv at h
 replace S:=(S.nl [.blk Ac [Af,iV Aw] 25] [true] rfl).k2 0 1 rfl
 refine Fr (Vk S rfl rfl fun a S=>Dz (Vk S rfl rfl ?_));clear S;intro a S
 replace S:=S.nil 3 1
 refine Dl (Fs (Fr (Vm S rfl rfl fun a S=>lv S (Rm rfl) rfl fun a S=>Dl ?_)))
 replace S:=(S.nl [.own (.slice none 0 0) 3 1 ([] : List Int).length (([] : List Int).flatMap eInt),.blk Ac [Af,iV Aw] 25] [true,true] rfl).k5 0 1 5 9 10 rfl
 obtain ⟨j1,hj1,h⟩:=Gh h
 refine Fv (fun a w'=>∃ x1 : List Int,∃ v1 : Value,j1 x1 = some r ∧ Sx w [Ac] nov [.own v1 3 1 x1.length (x1.flatMap eInt),.blk Ac [Af,iV Aw] 25] [(0,.pointer (some ⟨Ac,0,none⟩)),(1,iV Bo),(5,v1)] 43 a w') ?_ ?_
 ·refine wp_block (Hr (fun (m1 : Nat) a w'=>∃ x1 : List Int,∃ x2 : Int,∃ v1 : Value,Jb Bo j1 m1 x1 x2 = some r ∧ Sx w [Ac] nov [.own v1 3 1 x1.length (x1.flatMap eInt),.blk Ac [Af,iV Aw] 25] [(0,.pointer (some ⟨Ac,0,none⟩)),(1,iV Bo),(5,v1),(9,iV Bo),(10,iV x2)] 43 a w') id ((Bo - 0).toNat + 2) ⟨([] : List Int),0,(.slice none 0 0),h,S.nf [true,true] rfl (subR rfl)⟩ ?_)
  clear S h;rintro m1 a w1 ⟨x1,x2,v1,h,S⟩
  cases m1 with
  | zero=>rw [Jb.eq_1] at h;cases h
  | succ m1 =>
   rw [Jb.eq_2] at h
   refine Fr (Vb S Fu rfl rfl rfl fun a S=>Dl (Fs (Fc h (S.tm rfl) (fun hb1 h=>?_) (fun hb1 h=>?_))))
   ·refine wp_skip (Tn (Fs (wp_block (Fr (Vm S rfl rfl fun a S=>Va S rfl rfl fun a S=>Dl (Fg ?_))))))
    refine Vm S rfl rfl fun a S=>Vm S rfl rfl fun a S=>Ff S underlying22 sizeOf3 zeroValue3 rfl rfl (pv:=[(0,iV x2)]) ⟨rfl,(S.tm rfl),trivial⟩ (cs:=[iV x2]) (by kernel_rfl) rfl ?_;clear S;intro a w3 b1 hz1 hk1 S
    obtain ⟨hc1,h⟩:=Hs h
    refine Nj Js Ge S (S.tm rfl) (i:=1) rfl (S.tm rfl) (j:=0) rfl (ys:=[x2]) rfl rfl rfl rfl (by have:=Kl hc1;omega) rfl ?_;clear S;intro v2 a w4 hk2 S
    exact Va S rfl rfl fun a S=>Ld (Ja (Tn (Fg (Vq S Gf rfl rfl rfl fun a S=>Vm S rfl rfl fun a S=>Dl (⟨m1,⟨(x1 ++ [x2]),W (x2 + 1),v2,h,S.nf [false,true,true] rfl ⟨rfl,rfl,rfl,rfl,rfl,trivial⟩⟩,Nat.lt_succ_self _⟩)))))
   ·exact wp_exit (Fj (Fj (Hp (Tn (⟨x1,v1,h,S.nf [true,true] rfl (subR rfl)⟩)))))
 clear S h;rintro a w2 ⟨x1,v1,h,S⟩;rw [hj1] at h;clear hj1 j1
 refine Tn (Fs (Fr (Vm S rfl rfl fun a S=>Vq S Iw rfl rfl rfl fun a S=>Va S rfl rfl fun a S=>Dl ?_)))
 replace S:=S.k3 0 5 7 rfl
 obtain ⟨j2,hj2,h⟩:=Gh h
 refine Fv (fun a w'=>∃ x3 : List Int,∃ x4 : Int,∃ v3 : Value,j2 x3 x4 = some r ∧ Sx w [Ac] nov [.own v3 3 1 x3.length (x3.flatMap eInt),.blk Ac [Af,iV x4] 25] [(5,v3)] 43 a w') ?_ ?_
 ·refine wp_block (Hr (fun (m2 : Nat) a w'=>∃ x3 : List Int,∃ x4 : Int,∃ x5 : Int,∃ v3 : Value,Jc Bj j2 m2 x3 x4 x5 = some r ∧ Sx w [Ac] nov [.own v3 3 1 x3.length (x3.flatMap eInt),.blk Ac [Af,iV x4] 25] [(0,.pointer (some ⟨Ac,0,none⟩)),(5,v3),(7,iV x5)] 43 a w') id (((W (Bo - 1)) - 0).toNat + 2) ⟨x1,Aw,W (Bo - 1),v1,h,S.nf [true,true] rfl (subR rfl)⟩ ?_)
  clear S h;rintro m2 a w5 ⟨x3,x4,x5,v3,h,S⟩
  cases m2 with
  | zero=>rw [Jc.eq_1] at h;cases h
  | succ m2 =>
   rw [Jc.eq_2] at h
   refine Fs (Fr (Vm S rfl rfl fun a S=>Vq S Kp rfl rfl rfl fun a S=>Dl (Fc h (S.tm rfl) (fun hb2 h=>?_) (fun hb2 h=>?_))))
   ·refine wp_skip (Tn (Fs (wp_block (Fr (Vm S rfl rfl fun a S=>Vm S rfl rfl fun a S=>Vq S Gf rfl rfl rfl ?_)))));clear S;intro a S
    obtain ⟨r1,hr1,h⟩:=Gs h
    refine Lu 1 S (b:=Ac) rfl rfl (fun _=>.blk Ac [Af,iV r1.2] 25) (fun _=>Eb (vs:=[.pointer (some ⟨Ac,0,none⟩),iV (W (x5 + 1))]) ⟨(S.tm rfl),(S.tm rfl),trivial⟩ call18) (Qa _ Ac Af Bj (Bl.mono (S.le_arg (Er (i:=1) (e:=.blk Ac [Af,iV x4] 25) rfl))) x4 (S.holds _ (List.mem_of_getElem? (i:=1) rfl)) (W (x5 + 1)) _ hr1) rfl (fun _ _ _ h=>⟨h.1,fun _ hc=>by cases hc;rfl⟩) ?_;clear S;intro v4 a w7 hv1 hk3 hn1 S
    replace hv1:=hv1.2
    subst hv1
    refine Va S rfl rfl fun a S=>Dl ?_
    obtain ⟨hc2,h⟩:=Hs h
    obtain ⟨hc3,h⟩:=Hs h
    obtain ⟨hc4,h⟩:=Hs h
    obtain ⟨hc5,h⟩:=Hs h
    refine Gz [13,15] ([]) Tryz.mixed S rfl (by kernel_rfl) ?_;clear S;intro w12 hk8 hsel S
    refine Gw 0 S hsel rfl rfl (by kernel_rfl) (by kernel_rfl) rfl (fun _=>(Rm (S.tm rfl))) fun a S=>Gw 1 S hsel rfl rfl (by kernel_rfl) (by kernel_rfl) rfl (fun _=>(Rm (S.tm rfl))) fun a S=>Gw 2 S hsel rfl rfl (by kernel_rfl) (by kernel_rfl) rfl (fun _=>(Rm (S.tm rfl))) fun a S=>Gw 3 S hsel rfl rfl (by kernel_rfl) (by kernel_rfl) rfl (fun _=>(Rm (S.tm rfl))) fun a S=>Gw 4 S hsel rfl rfl (by kernel_rfl) (by kernel_rfl) rfl (fun _=>(Rm (S.tm rfl))) fun a S=>Gw 5 S hsel rfl rfl (by kernel_rfl) (by kernel_rfl) rfl (fun _=>(Rm (S.tm rfl))) ?_;clear S;intro a S
    obtain ⟨b6,hg5,hr6⟩:=Gv (a:=a) (x:=.tmp 32) (y:=.tmp 33) (ty:=0) Js Ge S (i:=0) rfl (Ef hc2).1 (Ef hc2).2 (S.tm rfl) (S.tm rfl)
    refine Gw 6 S hsel rfl rfl (by kernel_rfl) (by kernel_rfl) rfl (fun _=>(hr6 _)) ?_;clear S;intro a S
    clear hr6
    refine Ec 7 S hsel rfl (by kernel_rfl) (by kernel_rfl) (by kernel_rfl) (by kernel_rfl) rfl (fun _ hw=>(Ha isAgg3 (off:=r1.1.toNat * 1) (o:=0) (S.tm rfl) ((Mr Ge S (i:=0) rfl hg5 (Ef hc2).1 (Gm (e':=.own v3 3 1 x3.length (x3.flatMap eInt)))).kept hw) rfl)) fun a S=>Gw 8 S hsel rfl rfl (by kernel_rfl) (by kernel_rfl) rfl (fun _=>(Rm (S.tm rfl))) fun a S=>Gw 9 S hsel rfl rfl (by kernel_rfl) (by kernel_rfl) rfl (fun _=>(Rm (S.tm rfl))) ?_;clear S;intro a S
    obtain ⟨b7,hg6,hr7⟩:=Gv (a:=a) (x:=.tmp 36) (y:=.tmp 37) (ty:=0) Js Ge S (i:=0) rfl (Ef hc3).1 (Ef hc3).2 (S.tm rfl) (S.tm rfl)
    refine Gw 10 S hsel rfl rfl (by kernel_rfl) (by kernel_rfl) rfl (fun _=>(hr7 _)) ?_;clear S;intro a S
    clear hr7
    refine Ec 11 S hsel rfl (by kernel_rfl) (by kernel_rfl) (by kernel_rfl) (by kernel_rfl) rfl (fun _ hw=>(Ha isAgg3 (off:=x5.toNat * 1) (o:=0) (S.tm rfl) ((Mr Ge S (i:=0) rfl hg6 (Ef hc3).1 (Gm (e':=.own v3 3 1 x3.length (x3.flatMap eInt)))).kept hw) rfl)) ?_;clear S;intro a S
    obtain ⟨b8,hg7,hr8⟩:=Gv (a:=a) (x:=.tmp 28) (y:=.tmp 29) (ty:=0) Js Ge S (i:=0) rfl (Ef hc4).1 (Ef hc4).2 (S.tm rfl) (S.tm rfl)
    refine Gw 12 S hsel rfl rfl (by kernel_rfl) (by kernel_rfl) rfl (fun _=>(hr8 _)) ?_;clear S;intro a S
    clear hr8
    refine Wc 13 (v3.ownBlock.toList) rfl (by kernel_rfl) rfl (Ng (c:=0) (j:=x5.toNat) (nth x3 r1.1) Ge S (S.tm rfl) (S.tm rfl) (i:=0) rfl hg7 (Ef hc4).1 sizeOf3 (vs:=[iV (nth x3 r1.1)]) rfl rfl rfl rfl rfl ?_);clear S;intro w14 hk10 S
    refine Ld (Wd ?_)
    obtain ⟨b9,hg8,hr9⟩:=Gv (a:=a) (x:=.tmp 30) (y:=.tmp 31) (ty:=0) Js Ge S (i:=0) rfl (Ef hc5).1 (Ef hc5).2 (S.tm rfl) (S.tm rfl)
    refine Ec 14 S hsel rfl rfl rfl (by kernel_rfl) (by kernel_rfl) rfl (fun _ hw=>(hr9 _)) ?_;clear S;intro a S
    clear hr9
    refine Fy 15 (by kernel_rfl) rfl (Ng (c:=0) (j:=r1.1.toNat) (nth x3 x5) Ge S (S.tm rfl) (S.tm rfl) (i:=0) rfl hg8 (Ef hc5).1 sizeOf3 (vs:=[iV (nth x3 x5)]) rfl rfl rfl rfl rfl ?_);clear S;intro w16 hk12 S
    refine Ld (Gr hk12 (Sg (by kernel_rfl) ?_))
    clear hsel
    replace S:=(S.nl [.own v3 3 1 ((x3.set x5.toNat (nth x3 r1.1)).set r1.1.toNat (nth x3 x5)).length (((x3.set x5.toNat (nth x3 r1.1)).set r1.1.toNat (nth x3 x5)).flatMap eInt),.blk Ac [Af,iV r1.2] 25] [true,true] rfl).k3 0 5 7 rfl
    exact Ja (Tn (Fg (Vm S rfl rfl fun a S=>Vq S Iw rfl rfl rfl fun a S=>Va S rfl rfl fun a S=>Dl (⟨m2,⟨((x3.set x5.toNat (nth x3 r1.1)).set r1.1.toNat (nth x3 x5)),r1.2,W (x5 - 1),v3,h,S.nf [true,true] rfl ⟨rfl,rfl,rfl,trivial⟩⟩,Nat.lt_succ_self _⟩))))
   ·exact wp_exit (Fj (Fj (Hp (Tn (⟨x3,x4,v3,h,S.nf [true,true] rfl ⟨rfl,trivial⟩⟩)))))
 clear S h;rintro a w6 ⟨x3,x4,v3,h,S⟩;rw [hj2] at h;clear hj2 j2
 refine Tn (Fr (Vm S rfl rfl fun a S=>Va S rfl rfl fun a S=>Dl (wp_ret ?_)))
 obtain rfl:=Option.some.inj h
 exact Fz S results11 rfl ⟨(S.holds _ (List.mem_of_getElem? (i:=1) rfl)),(Zd S (i:=0) rfl (fun c hc hh=>Um S (i:=1) rfl rfl (j:=0) rfl rfl (by simp at hc;subst hc;exact hh)))⟩
theorem Tj (w : World) (Bs : Int) (r : Bool) (h : Rg Bs = r) :
    Calls prog 82 [iV Bs].toArray w (Ret w [] fun _ v _=>v = bV r):=by
 refine Fe func82 rfl ntmps82 rfl fun a S=>?_
 unfold Rg at h
 replace S:=S.k1 0 rfl
 refine Fr (Vk S rfl rfl fun a S=>Dz (Vm S rfl rfl fun a S=>lv S (Za (S.tm rfl) rfl (by decide)) rfl fun a S=>Vq S Ko rfl rfl rfl fun a S=>Vm S rfl rfl ?_));clear S;intro a S
 refine Jm 9 (fun a w'=>Keep [] w w' ∧ Sx w [] nov [] [(15,bV ((decide ((Int.tmod Bs 4) = 0)) && ((!decide ((Int.tmod Bs 100) = 0)) || (decide ((Int.tmod Bs 400) = 0)))))] 16 a w') ?_ ?_
 ·rcases Bool.eq_false_or_eq_true (decide ((Int.tmod Bs 4) = 0)) with hb1 | hb1
  ·refine Ej S rfl rfl rfl hb1 (Vm S rfl rfl fun a S=>Ej S rfl rfl rfl hb1 (lv S (Za (S.tm rfl) rfl (by decide)) rfl fun a S=>Ej S rfl rfl rfl hb1 (Vq S Mj rfl rfl rfl fun a S=>Ej S rfl rfl rfl hb1 (Vm S rfl rfl fun a S=>Jm 4 (fun a w'=>Keep [] w w' ∧ Sx w [] nov [] [(6,bV (decide ((Int.tmod Bs 4) = 0))),(14,bV ((!decide ((Int.tmod Bs 100) = 0)) || (decide ((Int.tmod Bs 400) = 0))))] 16 a w') ?_ ?_))))
   ·rcases Bool.eq_false_or_eq_true (!decide ((Int.tmod Bs 100) = 0)) with hb2 | hb2
    ·iterate 3 (refine Ik S rfl rfl rfl (Nf hb2) rfl ?_ rfl;clear S;intro a S)
     exact Ej S rfl rfl rfl hb1 (lv S (Mv (decide ((Int.tmod Bs 400) = 0)) hb2 (S.tm rfl) rfl) rfl fun a S=>Dl (⟨Keep.refl _ _,S.nf [] rfl (subR rfl)⟩))
    ·exact Ej S rfl rfl rfl hb2 (Vm S rfl rfl fun a S=>Ej S rfl rfl rfl hb2 (lv S (Za (S.tm rfl) rfl (by decide)) rfl fun a S=>Ej S rfl rfl rfl hb2 (Vq S Ko rfl rfl rfl fun a S=>Ej S rfl rfl rfl hb1 (lv S (Mw hb2 (S.tm rfl) (S.tm rfl)) rfl fun a S=>Dl (⟨Keep.refl _ _,S.nf [] rfl (subR rfl)⟩)))))
   clear S;rintro a w2 ⟨hk1,S⟩
   exact lv S (Jk hb1 (S.tm rfl) (S.tm rfl)) rfl fun a S=>Dl (⟨hk1,S.nf [] rfl ⟨rfl,trivial⟩⟩)
  ·iterate 4 (refine Ik S rfl rfl rfl (Lg hb1) rfl ?_ rfl;clear S;intro a S)
   iterate 3 (refine CC S rfl rfl rfl rfl ?_;clear S;intro a S)
   exact Ik S rfl rfl rfl (Lg hb1) rfl (fun a S=>lv S (Jl ((!decide ((Int.tmod Bs 100) = 0)) || (decide ((Int.tmod Bs 400) = 0))) hb1 (S.tm rfl) rfl) rfl fun a S=>Dl (⟨Keep.refl _ _,S.nf [] rfl ⟨rfl,trivial⟩⟩)) rfl
 clear S;rintro a w1 ⟨hk2,S⟩
 refine Va S rfl rfl fun a S=>Dl (wp_ret ?_)
 subst h
 exact Fz S results82 rfl rfl
theorem Rc (w : World) (Bs : Int) (Cs : Int) (r : Int) (h : Ju Bs Cs = r) :
    Calls prog 54 [iV Bs,iV Cs].toArray w (Ret w [] fun _ v _=>v = iV r):=by
 refine Fe func54 rfl ntmps54 rfl fun a S=>?_
 unfold Ju at h
 replace S:=S.k2 0 1 rfl
 refine Fr (Vk S rfl rfl fun a S=>Dl (Fs (Fr (Vm S rfl rfl fun a S=>Dl ?_))))
 refine wp_block (Fr (Vq S Ko rfl rfl rfl fun a S=>Va S rfl rfl fun a S=>Dl (Fc h (S.tm rfl) (fun hb1 h=>?_) (fun hb1 h=>?_))))
 ·refine Fs (Fr (Vm S rfl rfl fun a S=>Eg S (fun _=>Eb (vs:=[iV Bs]) ⟨(S.tm rfl),trivial⟩ call82) (Tj _ Bs _ rfl) rfl ?_));clear S;intro v1 a w1 hv1 hk1 hn1 S
  subst hv1
  refine Dl (Fc h (S.tm rfl) (fun hb2 h=>?_) (fun hb2 h=>?_))
  ·refine Fr (Vk S rfl rfl fun a S=>Dl (wp_ret (Ee (Gy (Ee ?_)))))
   subst h
   exact Fz S results54 rfl rfl
  ·refine wp_skip (Tn (Fr (Vk S rfl rfl fun a S=>Dl (wp_ret (Gy (Ee ?_))))))
   subst h
   exact Fz S results54 rfl rfl
 ·refine Fs (Fr (Vq S Ko rfl rfl rfl fun a S=>Va S rfl rfl fun a S=>Dl ?_))
  obtain ⟨j1,hj1,h⟩:=Gh h
  refine Fv (fun a w'=>∃ x1 : Bool,j1 x1 = r ∧ Sx w [] nov [] [(10,bV x1)] 15 a w') ?_ ?_
  ·refine Fc h (S.tm rfl) (fun hb3 h=>?_) (fun hb3 h=>?_)
   ·exact wp_skip (Tn (⟨decide (Cs = 4),h,S.nf [] rfl ⟨rfl,trivial⟩⟩))
   ·refine Fr (Vq S Ko rfl rfl rfl fun a S=>Va S rfl rfl fun a S=>Dl ?_)
    obtain ⟨j2,hj2,h⟩:=Gh h
    refine Fv (fun a w'=>∃ x2 : Bool,j2 x2 = r ∧ Sx w [] nov [] [(10,bV x2)] 15 a w') ?_ ?_
    ·refine Fc h (S.tm rfl) (fun hb4 h=>?_) (fun hb4 h=>?_)
     ·exact wp_skip (Tn (⟨decide (Cs = 6),h,S.nf [] rfl ⟨rfl,trivial⟩⟩))
     ·refine Fr (Vq S Ko rfl rfl rfl fun a S=>Va S rfl rfl fun a S=>Dl ?_)
      obtain ⟨j3,hj3,h⟩:=Gh h
      refine Fv (fun a w'=>∃ x3 : Bool,j3 x3 = r ∧ Sx w [] nov [] [(10,bV x3)] 15 a w') ?_ ?_
      ·refine Fc h (S.tm rfl) (fun hb5 h=>?_) (fun hb5 h=>?_)
       ·exact wp_skip (Tn (⟨decide (Cs = 9),h,S.nf [] rfl ⟨rfl,trivial⟩⟩))
       ·exact Fg (Vq S Ko rfl rfl rfl fun a S=>Va S rfl rfl fun a S=>Dl (⟨decide (Cs = 11),h,S.nf [] rfl ⟨rfl,trivial⟩⟩))
      clear S h;rintro a w4 ⟨x3,h,S⟩;rw [hj3] at h;clear hj3 j3
      exact Tn (⟨x3,h,S.nf [] rfl ⟨rfl,trivial⟩⟩)
    clear S h;rintro a w3 ⟨x2,h,S⟩;rw [hj2] at h;clear hj2 j2
    exact Tn (⟨x2,h,S.nf [] rfl ⟨rfl,trivial⟩⟩)
  clear S h;rintro a w2 ⟨x1,h,S⟩;rw [hj1] at h;clear hj1 j1
  refine Tn (Fc h (S.tm rfl) (fun hb6 h=>?_) (fun hb6 h=>?_))
  ·refine Fr (Vk S rfl rfl fun a S=>Dl (wp_ret (Gy (Ee ?_))))
   subst h
   exact Fz S results54 rfl rfl
  ·refine wp_skip (Ja (Tn (Fr (Vk S rfl rfl fun a S=>Dl (wp_ret ?_)))))
   subst h
   exact Fz S results54 rfl rfl
theorem Re (w : World) (Bs : Int) (r : Int) (h : Lt Bs = r) :
    Calls prog 55 [iV Bs].toArray w (Ret w [] fun _ v _=>v = iV r):=by
 refine Fe func55 rfl ntmps55 rfl fun a S=>?_
 unfold Lt at h
 replace S:=S.k1 0 rfl
 refine Fr (Vk S rfl rfl fun a S=>Dl (Fs (Fr (Vm S rfl rfl fun a S=>Eg S (fun _=>Eb (vs:=[iV Bs]) ⟨(S.tm rfl),trivial⟩ call82) (Tj _ Bs _ rfl) rfl ?_))));clear S;intro v1 a w1 hv1 hk1 hn1 S
 subst hv1
 refine Dl (Fc h (S.tm rfl) (fun hb1 h=>?_) (fun hb1 h=>?_))
 ·refine Fr (Vk S rfl rfl fun a S=>Dl (wp_ret (Ee ?_)))
  subst h
  exact Fz S results55 rfl rfl
 ·refine wp_skip (Tn (Fr (Vk S rfl rfl fun a S=>Dl (wp_ret ?_))))
  subst h
  exact Fz S results55 rfl rfl
theorem Xi (w : World) (Bo : Int) (r : Bool) (h : Sb Bo = r) :
    Calls prog 56 [iV Bo].toArray w (Ret w [] fun _ v _=>v = bV r):=by
 refine Fe func56 rfl ntmps56 rfl fun a S=>?_
 unfold Sb at h
 replace S:=S.k1 0 rfl
 refine Fr (Vk S rfl rfl fun a S=>Dz (Vm S rfl rfl fun a S=>Eg S (fun _=>Eb (vs:=[iV Bo,iV (-40000),iV 4000]) ⟨(S.tm rfl),rfl,rfl,trivial⟩ call20) (Gq _ Bo (-40000) 4000 _ rfl) rfl ?_));clear S;intro v1 a w1 hv1 hk1 hn1 S
 subst hv1
 refine Va S rfl rfl fun a S=>Dl (wp_ret ?_)
 subst h
 exact Fz S results56 rfl rfl
set_option maxRecDepth 20000 in
theorem Xj (w : World) (Be : Jj) (r : Int × Int) (h : Sc Be = some r) :
    Calls prog 33 [.agg (Jj.enc Be).toArray].toArray w (Ret w [] fun _ v _=>v = .tuple #[iV r.1,iV r.2]):=by
 refine Fe func33 rfl ntmps33 rfl fun a S=>?_
 unfold Sc at h
 replace S:=S.k1 0 rfl
 refine Fr (Ox S (S.tm rfl) (cs:=(Jj.enc Be)) rfl rfl ?_);clear S;intro a w1 b1 hz1 hk1 S
 refine Vk S rfl rfl fun a S=>Vk S rfl rfl fun a S=>Dl (Fs (Fs ?_))
 obtain ⟨j1,hj1,h⟩:=Gh h
 refine Fv (fun a w'=>∃ x1 : Bool,j1 x1 = some r ∧ Sx w [] nov [.blk b1 (Jj.enc Be) 82] [(1,.pointer (some ⟨b1,0,none⟩)),(28,bV x1)] 68 a w') ?_ ?_
 ·rcases Bool.eq_false_or_eq_true (!(En Be.Year 1900 2100)) with hb1 | hb1
  ·replace h:=Qr h hb1
   rcases Bool.eq_false_or_eq_true true with hb2 | hb2
   ·replace h:=Qr h hb2
    refine Gz [] ([]) Tryz.mixed S rfl (by kernel_rfl) ?_;clear S;intro w6 hk5 hsel S
    refine Ec 0 S hsel rfl rfl rfl (by kernel_rfl) (by kernel_rfl) rfl (fun _ hw=>(Gi Ri (S.tm rfl))) fun a S=>Ec 1 S hsel rfl rfl rfl (by kernel_rfl) (by kernel_rfl) rfl (fun _ hw=>(Ha isAgg3 (off:=0) (o:=0) (S.tm rfl) ((S.blk_mem (i:=0) (cells:=(Jj.enc Be)) (b:=b1) (T:=82) rfl (Gm (e':=.blk b1 (Jj.enc Be) 82))).kept hw) rfl)) fun a S=>Fy 2 (by kernel_rfl) rfl (Eg S (fun _=>Eb (vs:=[iV Be.Year,iV 1900,iV 2100]) ⟨(S.tm rfl),rfl,rfl,trivial⟩ call20) (Gq _ Be.Year 1900 2100 _ rfl) rfl ?_);clear S;intro v4 a w7 hv4 hk6 hn4 S
    subst hv4
    refine Ld (Gr hk6 (Jy [3,4,5,6,7,8,9,10,11,12,13,14,15,16,17,18,19,20] hsel (by kernel_rfl) rfl ?_))
    clear hsel
    refine Gb S rfl (Ip (S.tm rfl)) rfl fun a S=>Gb S rfl (Rm (S.tm rfl)) rfl ?_;clear S;intro a S
    iterate 4 (refine Rb S rfl rfl rfl rfl (Nf hb1) rfl ?_ rfl;clear S;intro a S)
    refine Gb S rfl (Nk hb1 (S.tm rfl) rfl) rfl fun a S=>Gb S rfl (Rm (S.tm rfl)) rfl ?_;clear S;intro a S
    iterate 9 (refine Rb S rfl rfl rfl rfl (Nf hb2) rfl ?_ rfl;clear S;intro a S)
    refine Gb S rfl (Nk hb2 (S.tm rfl) rfl) rfl fun a S=>Ix ?_
    replace S:=(S.nl [.blk b1 (Jj.enc Be) 82] [true] rfl).k2 1 28 rfl
    exact Tn (⟨true,h,S.nf [true] rfl (subR rfl)⟩)
   ·replace h:=Qs h hb2
    refine Gz [] ([]) Tryz.mixed S rfl (by kernel_rfl) ?_;clear S;intro w11 hk10 hsel S
    refine Ec 0 S hsel rfl rfl rfl (by kernel_rfl) (by kernel_rfl) rfl (fun _ hw=>(Gi Ri (S.tm rfl))) fun a S=>Ec 1 S hsel rfl rfl rfl (by kernel_rfl) (by kernel_rfl) rfl (fun _ hw=>(Ha isAgg3 (off:=0) (o:=0) (S.tm rfl) ((S.blk_mem (i:=0) (cells:=(Jj.enc Be)) (b:=b1) (T:=82) rfl (Gm (e':=.blk b1 (Jj.enc Be) 82))).kept hw) rfl)) fun a S=>Fy 2 (by kernel_rfl) rfl (Eg S (fun _=>Eb (vs:=[iV Be.Year,iV 1900,iV 2100]) ⟨(S.tm rfl),rfl,rfl,trivial⟩ call20) (Gq _ Be.Year 1900 2100 _ rfl) rfl ?_);clear S;intro v8 a w12 hv8 hk11 hn8 S
    subst hv8
    refine Ld (Gr hk11 (Ec 3 S hsel rfl rfl rfl (by kernel_rfl) (by kernel_rfl) rfl (fun _ hw=>(Ip (S.tm rfl))) fun a S=>Ec 4 S hsel rfl rfl rfl (by kernel_rfl) (by kernel_rfl) rfl (fun _ hw=>(Rm (S.tm rfl))) fun a S=>BY 5 S hsel rfl rfl rfl rfl (Nf hb1) rfl (by kernel_rfl) (by kernel_rfl) rfl fun a S=>BY 6 S hsel rfl rfl rfl rfl (Nf hb1) rfl (by kernel_rfl) (by kernel_rfl) rfl fun a S=>BY 7 S hsel rfl rfl rfl rfl (Nf hb1) rfl (by kernel_rfl) (by kernel_rfl) rfl fun a S=>BY 8 S hsel rfl rfl rfl rfl (Nf hb1) rfl (by kernel_rfl) (by kernel_rfl) rfl fun a S=>Ec 9 S hsel rfl rfl rfl (by kernel_rfl) (by kernel_rfl) rfl (fun _ hw=>(Nk hb1 (S.tm rfl) rfl)) fun a S=>Ec 10 S hsel rfl rfl rfl (by kernel_rfl) (by kernel_rfl) rfl (fun _ hw=>(Rm (S.tm rfl))) fun a S=>Ew 11 S hsel rfl rfl rfl rfl hb2 rfl rfl (by kernel_rfl) (by kernel_rfl) rfl (fun _ hw=>(Gi CQ (S.tm rfl))) ?_));clear S;intro a S
    refine Ew 12 S hsel rfl rfl rfl rfl hb2 rfl rfl (by kernel_rfl) (by kernel_rfl) rfl (fun _ hw=>(Ha isAgg3 (off:=0) (o:=2) (S.tm rfl) ((S.blk_mem (i:=0) (cells:=(Jj.enc Be)) (b:=b1) (T:=82) rfl (Gm (e':=.blk b1 (Jj.enc Be) 82))).kept hw) rfl)) fun a S=>Ew 13 S hsel rfl rfl rfl rfl hb2 rfl rfl (by kernel_rfl) (by kernel_rfl) rfl (fun _ hw=>(Gi Ri (S.tm rfl))) fun a S=>Ew 14 S hsel rfl rfl rfl rfl hb2 rfl rfl (by kernel_rfl) (by kernel_rfl) rfl (fun _ hw=>(Ha isAgg3 (off:=0) (o:=0) (S.tm rfl) ((S.blk_mem (i:=0) (cells:=(Jj.enc Be)) (b:=b1) (T:=82) rfl (Gm (e':=.blk b1 (Jj.enc Be) 82))).kept hw) rfl)) fun a S=>Ew 15 S hsel rfl rfl rfl rfl hb2 rfl rfl (by kernel_rfl) (by kernel_rfl) rfl (fun _ hw=>(Gi Wn (S.tm rfl))) fun a S=>Ew 16 S hsel rfl rfl rfl rfl hb2 rfl rfl (by kernel_rfl) (by kernel_rfl) rfl (fun _ hw=>(Ha isAgg3 (off:=0) (o:=1) (S.tm rfl) ((S.blk_mem (i:=0) (cells:=(Jj.enc Be)) (b:=b1) (T:=82) rfl (Gm (e':=.blk b1 (Jj.enc Be) 82))).kept hw) rfl)) fun a S=>Fy 17 (by kernel_rfl) rfl (Ej S rfl rfl rfl hb2 (Eg S (fun _=>Eb (vs:=[iV Be.Year,iV Be.Month]) ⟨(S.tm rfl),(S.tm rfl),trivial⟩ call54) (Rc _ Be.Year Be.Month _ rfl) rfl ?_));clear S;intro v9 a w13 hv9 hk12 hn9 S
    subst hv9
    refine Ld (Gr hk12 (Fy 18 (by kernel_rfl) rfl (Ej S rfl rfl rfl hb2 (Eg S (fun _=>Eb (vs:=[iV Be.Day,iV 1,iV (Ju Be.Year Be.Month)]) ⟨(S.tm rfl),rfl,(S.tm rfl),trivial⟩ call20) (Gq _ Be.Day 1 (Ju Be.Year Be.Month) _ rfl) rfl ?_))));clear S;intro v10 a w14 hv10 hk13 hn10 S
    subst hv10
    refine Ld (Gr hk13 (Jy [19,20] hsel (by kernel_rfl) rfl ?_))
    clear hsel
    refine Ig S rfl rfl rfl rfl hb2 (Jq S (Ip (S.tm rfl)) rfl fun a S=>Gb S rfl (Nl hb2 (S.tm rfl) (S.tm rfl)) rfl fun a S=>Ix ?_)
    replace S:=(S.nl [.blk b1 (Jj.enc Be) 82] [true] rfl).k2 1 28 rfl
    exact Tn (⟨!(En Be.Day 1 (Ju Be.Year Be.Month)),h,S.nf [true] rfl (subR rfl)⟩)
  ·replace h:=Qs h hb1
   rcases Bool.eq_false_or_eq_true (!(En Be.Month 1 12)) with hb3 | hb3
   ·replace h:=Qr h hb3
    refine Gz [] ([]) Tryz.mixed S rfl (by kernel_rfl) ?_;clear S;intro w19 hk18 hsel S
    refine Ec 0 S hsel rfl rfl rfl (by kernel_rfl) (by kernel_rfl) rfl (fun _ hw=>(Gi Ri (S.tm rfl))) fun a S=>Ec 1 S hsel rfl rfl rfl (by kernel_rfl) (by kernel_rfl) rfl (fun _ hw=>(Ha isAgg3 (off:=0) (o:=0) (S.tm rfl) ((S.blk_mem (i:=0) (cells:=(Jj.enc Be)) (b:=b1) (T:=82) rfl (Gm (e':=.blk b1 (Jj.enc Be) 82))).kept hw) rfl)) fun a S=>Fy 2 (by kernel_rfl) rfl (Eg S (fun _=>Eb (vs:=[iV Be.Year,iV 1900,iV 2100]) ⟨(S.tm rfl),rfl,rfl,trivial⟩ call20) (Gq _ Be.Year 1900 2100 _ rfl) rfl ?_);clear S;intro v15 a w20 hv15 hk19 hn15 S
    subst hv15
    refine Ld (Gr hk19 (Ec 3 S hsel rfl rfl rfl (by kernel_rfl) (by kernel_rfl) rfl (fun _ hw=>(Ip (S.tm rfl))) fun a S=>Ec 4 S hsel rfl rfl rfl (by kernel_rfl) (by kernel_rfl) rfl (fun _ hw=>(Rm (S.tm rfl))) fun a S=>Ew 5 S hsel rfl rfl rfl rfl hb1 rfl rfl (by kernel_rfl) (by kernel_rfl) rfl (fun _ hw=>(Gi Wn (S.tm rfl))) fun a S=>Ew 6 S hsel rfl rfl rfl rfl hb1 rfl rfl (by kernel_rfl) (by kernel_rfl) rfl (fun _ hw=>(Ha isAgg3 (off:=0) (o:=1) (S.tm rfl) ((S.blk_mem (i:=0) (cells:=(Jj.enc Be)) (b:=b1) (T:=82) rfl (Gm (e':=.blk b1 (Jj.enc Be) 82))).kept hw) rfl)) fun a S=>Fy 7 (by kernel_rfl) rfl (Ej S rfl rfl rfl hb1 (Eg S (fun _=>Eb (vs:=[iV Be.Month,iV 1,iV 12]) ⟨(S.tm rfl),rfl,rfl,trivial⟩ call20) (Gq _ Be.Month 1 12 _ rfl) rfl ?_))));clear S;intro v16 a w21 hv16 hk20 hn16 S
    subst hv16
    refine Ld (Gr hk20 (Jy [8,9,10,11,12,13,14,15,16,17,18,19,20] hsel (by kernel_rfl) rfl ?_))
    clear hsel
    refine Ig S rfl rfl rfl rfl hb1 (Jq S (Ip (S.tm rfl)) rfl fun a S=>Gb S rfl (Nl hb1 (S.tm rfl) (S.tm rfl)) rfl fun a S=>Gb S rfl (Rm (S.tm rfl)) rfl ?_);clear S;intro a S
    iterate 9 (refine Rb S rfl rfl rfl rfl (Nf hb3) rfl ?_ rfl;clear S;intro a S)
    refine Gb S rfl (Nk hb3 (S.tm rfl) rfl) rfl fun a S=>Ix ?_
    replace S:=(S.nl [.blk b1 (Jj.enc Be) 82] [true] rfl).k2 1 28 rfl
    exact Tn (⟨true,h,S.nf [true] rfl (subR rfl)⟩)
   ·replace h:=Qs h hb3
    refine Gz [] ([]) Tryz.mixed S rfl (by kernel_rfl) ?_;clear S;intro w26 hk25 hsel S
    refine Ec 0 S hsel rfl rfl rfl (by kernel_rfl) (by kernel_rfl) rfl (fun _ hw=>(Gi Ri (S.tm rfl))) fun a S=>Ec 1 S hsel rfl rfl rfl (by kernel_rfl) (by kernel_rfl) rfl (fun _ hw=>(Ha isAgg3 (off:=0) (o:=0) (S.tm rfl) ((S.blk_mem (i:=0) (cells:=(Jj.enc Be)) (b:=b1) (T:=82) rfl (Gm (e':=.blk b1 (Jj.enc Be) 82))).kept hw) rfl)) fun a S=>Fy 2 (by kernel_rfl) rfl (Eg S (fun _=>Eb (vs:=[iV Be.Year,iV 1900,iV 2100]) ⟨(S.tm rfl),rfl,rfl,trivial⟩ call20) (Gq _ Be.Year 1900 2100 _ rfl) rfl ?_);clear S;intro v21 a w27 hv21 hk26 hn21 S
    subst hv21
    refine Ld (Gr hk26 (Ec 3 S hsel rfl rfl rfl (by kernel_rfl) (by kernel_rfl) rfl (fun _ hw=>(Ip (S.tm rfl))) fun a S=>Ec 4 S hsel rfl rfl rfl (by kernel_rfl) (by kernel_rfl) rfl (fun _ hw=>(Rm (S.tm rfl))) fun a S=>Ew 5 S hsel rfl rfl rfl rfl hb1 rfl rfl (by kernel_rfl) (by kernel_rfl) rfl (fun _ hw=>(Gi Wn (S.tm rfl))) fun a S=>Ew 6 S hsel rfl rfl rfl rfl hb1 rfl rfl (by kernel_rfl) (by kernel_rfl) rfl (fun _ hw=>(Ha isAgg3 (off:=0) (o:=1) (S.tm rfl) ((S.blk_mem (i:=0) (cells:=(Jj.enc Be)) (b:=b1) (T:=82) rfl (Gm (e':=.blk b1 (Jj.enc Be) 82))).kept hw) rfl)) fun a S=>Fy 7 (by kernel_rfl) rfl (Ej S rfl rfl rfl hb1 (Eg S (fun _=>Eb (vs:=[iV Be.Month,iV 1,iV 12]) ⟨(S.tm rfl),rfl,rfl,trivial⟩ call20) (Gq _ Be.Month 1 12 _ rfl) rfl ?_))));clear S;intro v22 a w28 hv22 hk27 hn22 S
    subst hv22
    refine Ld (Gr hk27 (Ew 8 S hsel rfl rfl rfl rfl hb1 rfl rfl (by kernel_rfl) (by kernel_rfl) rfl (fun _ hw=>(Ip (S.tm rfl))) fun a S=>Ec 9 S hsel rfl rfl rfl (by kernel_rfl) (by kernel_rfl) rfl (fun _ hw=>(Nl hb1 (S.tm rfl) (S.tm rfl))) fun a S=>Ec 10 S hsel rfl rfl rfl (by kernel_rfl) (by kernel_rfl) rfl (fun _ hw=>(Rm (S.tm rfl))) fun a S=>Ew 11 S hsel rfl rfl rfl rfl hb3 rfl rfl (by kernel_rfl) (by kernel_rfl) rfl (fun _ hw=>(Gi CQ (S.tm rfl))) fun a S=>Ew 12 S hsel rfl rfl rfl rfl hb3 rfl rfl (by kernel_rfl) (by kernel_rfl) rfl (fun _ hw=>(Ha isAgg3 (off:=0) (o:=2) (S.tm rfl) ((S.blk_mem (i:=0) (cells:=(Jj.enc Be)) (b:=b1) (T:=82) rfl (Gm (e':=.blk b1 (Jj.enc Be) 82))).kept hw) rfl)) fun a S=>Ew 13 S hsel rfl rfl rfl rfl hb3 rfl rfl (by kernel_rfl) (by kernel_rfl) rfl (fun _ hw=>(Gi Ri (S.tm rfl))) fun a S=>Ew 14 S hsel rfl rfl rfl rfl hb3 rfl rfl (by kernel_rfl) (by kernel_rfl) rfl (fun _ hw=>(Ha isAgg3 (off:=0) (o:=0) (S.tm rfl) ((S.blk_mem (i:=0) (cells:=(Jj.enc Be)) (b:=b1) (T:=82) rfl (Gm (e':=.blk b1 (Jj.enc Be) 82))).kept hw) rfl)) fun a S=>Ew 15 S hsel rfl rfl rfl rfl hb3 rfl rfl (by kernel_rfl) (by kernel_rfl) rfl (fun _ hw=>(Gi Wn (S.tm rfl))) fun a S=>Ew 16 S hsel rfl rfl rfl rfl hb3 rfl rfl (by kernel_rfl) (by kernel_rfl) rfl (fun _ hw=>(Ha isAgg3 (off:=0) (o:=1) (S.tm rfl) ((S.blk_mem (i:=0) (cells:=(Jj.enc Be)) (b:=b1) (T:=82) rfl (Gm (e':=.blk b1 (Jj.enc Be) 82))).kept hw) rfl)) ?_));clear S;intro a S
    refine Fy 17 (by kernel_rfl) rfl (Ej S rfl rfl rfl hb3 (Eg S (fun _=>Eb (vs:=[iV Be.Year,iV Be.Month]) ⟨(S.tm rfl),(S.tm rfl),trivial⟩ call54) (Rc _ Be.Year Be.Month _ rfl) rfl ?_));clear S;intro v23 a w29 hv23 hk28 hn23 S
    subst hv23
    refine Ld (Gr hk28 (Fy 18 (by kernel_rfl) rfl (Ej S rfl rfl rfl hb3 (Eg S (fun _=>Eb (vs:=[iV Be.Day,iV 1,iV (Ju Be.Year Be.Month)]) ⟨(S.tm rfl),rfl,(S.tm rfl),trivial⟩ call20) (Gq _ Be.Day 1 (Ju Be.Year Be.Month) _ rfl) rfl ?_))));clear S;intro v24 a w30 hv24 hk29 hn24 S
    subst hv24
    refine Ld (Gr hk29 (Jy [19,20] hsel (by kernel_rfl) rfl ?_))
    clear hsel
    refine Ig S rfl rfl rfl rfl hb3 (Jq S (Ip (S.tm rfl)) rfl fun a S=>Gb S rfl (Nl hb3 (S.tm rfl) (S.tm rfl)) rfl fun a S=>Ix ?_)
    replace S:=(S.nl [.blk b1 (Jj.enc Be) 82] [true] rfl).k2 1 28 rfl
    exact Tn (⟨!(En Be.Day 1 (Ju Be.Year Be.Month)),h,S.nf [true] rfl (subR rfl)⟩)
 clear S h;rintro a w2 ⟨x1,h,S⟩;rw [hj1] at h;clear hj1 j1
 refine Tn (Fc h (S.tm rfl) (fun hb4 h=>?_) (fun hb4 h=>?_))
 ·refine Fr (Vk S rfl rfl fun a S=>Vk S rfl rfl fun a S=>Dl (wp_ret (Ee ?_)))
  obtain rfl:=Option.some.inj h
  exact Jx S results33 rfl rfl rfl
 ·refine wp_skip (Tn (Fr (Vf CQ S rfl rfl fun a S=>Vl isAgg3 0 S rfl rfl rfl rfl fun a S=>Vq S Iw rfl rfl rfl fun a S=>Va S rfl rfl fun a S=>Dl (Fs ?_))))
  refine Fr (Vk S rfl rfl fun a S=>Dl ?_)
  replace S:=S.k3 1 4 5 rfl
  obtain ⟨j2,hj2,h⟩:=Gh h
  refine Fv (fun a w'=>∃ x2 : Int,j2 x2 = some r ∧ Sx w [] nov [.blk b1 (Jj.enc Be) 82] [(1,.pointer (some ⟨b1,0,none⟩)),(4,iV x2)] 68 a w') ?_ ?_
  ·refine wp_block (Hr (fun (m1 : Nat) a w'=>∃ x2 : Int,∃ x3 : Int,Kb Be j2 m1 x2 x3 = some r ∧ Sx w [] nov [.blk b1 (Jj.enc Be) 82] [(1,.pointer (some ⟨b1,0,none⟩)),(4,iV x2),(5,iV x3)] 68 a w') id ((Be.Month - 1).toNat + 2) ⟨W (Be.Day - 1),1,h,S.nf [true] rfl (subR rfl)⟩ ?_)
   clear S h;rintro m1 a w31 ⟨x2,x3,h,S⟩
   cases m1 with
   | zero=>rw [Kb.eq_1] at h;cases h
   | succ m1 =>
    rw [Kb.eq_2] at h
    refine Fs (Fr (Vm S rfl rfl fun a S=>Vf Wn S rfl rfl fun a S=>Vl isAgg3 0 S rfl rfl rfl rfl fun a S=>Vb S Fu rfl rfl rfl fun a S=>Dl (Fc h (S.tm rfl) (fun hb5 h=>?_) (fun hb5 h=>?_))))
    ·refine wp_skip (Tn (Fs (wp_block (Fg (Vm S rfl rfl fun a S=>Vf Ri S rfl rfl fun a S=>Vl isAgg3 0 S rfl rfl rfl rfl fun a S=>Vm S rfl rfl fun a S=>Eg S (fun _=>Eb (vs:=[iV Be.Year,iV x3]) ⟨(S.tm rfl),(S.tm rfl),trivial⟩ call54) (Rc _ Be.Year x3 _ rfl) rfl ?_)))));clear S;intro v25 a w33 hv25 hk30 hn25 S
     subst hv25
     refine Vb S Gf rfl rfl rfl fun a S=>Va S rfl rfl fun a S=>Ld (Ja (Tn (Fg (Vm S rfl rfl fun a S=>Vq S Gf rfl rfl rfl fun a S=>Va S rfl rfl fun a S=>Ld ?_))))
     replace S:=S.k3 1 4 5 rfl
     exact Tn (⟨m1,⟨W (x2 + (Ju Be.Year x3)),W (x3 + 1),h,S.nf [true] rfl ⟨rfl,rfl,rfl,trivial⟩⟩,Nat.lt_succ_self _⟩)
    ·exact wp_exit (Fj (Fj (Hp (Tn (⟨x2,h,S.nf [true] rfl (subR rfl)⟩)))))
  clear S h;rintro a w32 ⟨x2,h,S⟩;rw [hj2] at h;clear hj2 j2
  refine Tn (Fs (Fr (Vk S rfl rfl fun a S=>Dl ?_)))
  replace S:=S.k3 1 4 6 rfl
  obtain ⟨j3,hj3,h⟩:=Gh h
  refine Fv (fun a w'=>∃ x4 : Int,j3 x4 = some r ∧ Sx w [] nov [.blk b1 (Jj.enc Be) 82] [(1,.pointer (some ⟨b1,0,none⟩)),(4,iV x4)] 68 a w') ?_ ?_
  ·refine wp_block (Hr (fun (m2 : Nat) a w'=>∃ x4 : Int,∃ x5 : Int,Kc Be j3 m2 x4 x5 = some r ∧ Sx w [] nov [.blk b1 (Jj.enc Be) 82] [(1,.pointer (some ⟨b1,0,none⟩)),(4,iV x4),(6,iV x5)] 68 a w') id ((Be.Year - 2024).toNat + 2) ⟨x2,2024,h,S.nf [true] rfl (subR rfl)⟩ ?_)
   clear S h;rintro m2 a w34 ⟨x4,x5,h,S⟩
   cases m2 with
   | zero=>rw [Kc.eq_1] at h;cases h
   | succ m2 =>
    rw [Kc.eq_2] at h
    refine Fs (Fr (Vm S rfl rfl fun a S=>Vf Ri S rfl rfl fun a S=>Vl isAgg3 0 S rfl rfl rfl rfl fun a S=>Vb S Fu rfl rfl rfl fun a S=>Dl (Fc h (S.tm rfl) (fun hb6 h=>?_) (fun hb6 h=>?_))))
    ·refine wp_skip (Tn (Fs (wp_block (Fg (Vm S rfl rfl fun a S=>Vm S rfl rfl fun a S=>Eg S (fun _=>Eb (vs:=[iV x5]) ⟨(S.tm rfl),trivial⟩ call55) (Re _ x5 _ rfl) rfl ?_)))));clear S;intro v26 a w36 hv26 hk31 hn26 S
     subst hv26
     refine Vb S Gf rfl rfl rfl fun a S=>Va S rfl rfl fun a S=>Ld (Ja (Tn (Fg (Vm S rfl rfl fun a S=>Vq S Gf rfl rfl rfl fun a S=>Va S rfl rfl fun a S=>Dl ?_))))
     exact ⟨m2,⟨W (x4 + (Lt x5)),W (x5 + 1),h,S.nf [true] rfl ⟨rfl,rfl,rfl,trivial⟩⟩,Nat.lt_succ_self _⟩
    ·exact wp_exit (Fj (Fj (Hp (Tn (⟨x4,h,S.nf [true] rfl (subR rfl)⟩)))))
  clear S h;rintro a w35 ⟨x4,h,S⟩;rw [hj3] at h;clear hj3 j3
  refine Tn (Fs (Fr (Vf Ri S rfl rfl fun a S=>Vl isAgg3 0 S rfl rfl rfl rfl fun a S=>Va S rfl rfl fun a S=>Dl ?_)))
  replace S:=S.n0.k2 4 7 rfl
  obtain ⟨j4,hj4,h⟩:=Gh h
  refine Fv (fun a w'=>∃ x6 : Int,j4 x6 = some r ∧ Sx w [] nov [] [(4,iV x6)] 68 a w') ?_ ?_
  ·refine wp_block (Hr (fun (m3 : Nat) a w'=>∃ x6 : Int,∃ x7 : Int,Kd j4 m3 x6 x7 = some r ∧ Sx w [] nov [] [(4,iV x6),(7,iV x7)] 68 a w') id ((2024 - Be.Year).toNat + 2) ⟨x4,Be.Year,h,S.nf [] rfl (subR rfl)⟩ ?_)
   clear S h;rintro m3 a w37 ⟨x6,x7,h,S⟩
   cases m3 with
   | zero=>rw [Kd.eq_1] at h;cases h
   | succ m3 =>
    rw [Kd.eq_2] at h
    refine Fs (Fr (Vm S rfl rfl fun a S=>Vq S Fu rfl rfl rfl fun a S=>Dl (Fc h (S.tm rfl) (fun hb7 h=>?_) (fun hb7 h=>?_))))
    ·refine wp_skip (Tn (Fs (wp_block (Fg (Vm S rfl rfl fun a S=>Vm S rfl rfl fun a S=>Eg S (fun _=>Eb (vs:=[iV x7]) ⟨(S.tm rfl),trivial⟩ call55) (Re _ x7 _ rfl) rfl ?_)))));clear S;intro v27 a w39 hv27 hk32 hn27 S
     subst hv27
     refine Vb S Iw rfl rfl rfl fun a S=>Va S rfl rfl fun a S=>Ld (Ja (Tn (Fg (Vm S rfl rfl fun a S=>Vq S Gf rfl rfl rfl fun a S=>Va S rfl rfl fun a S=>Dl ?_))))
     exact ⟨m3,⟨W (x6 - (Lt x7)),W (x7 + 1),h,S.nf [] rfl ⟨rfl,rfl,trivial⟩⟩,Nat.lt_succ_self _⟩
    ·exact wp_exit (Fj (Fj (Hp (Tn (⟨x6,h,S.nf [] rfl ⟨rfl,trivial⟩⟩)))))
  clear S h;rintro a w38 ⟨x6,h,S⟩;rw [hj4] at h;clear hj4 j4
  refine Tn (Fs (Fr (Vm S rfl rfl fun a S=>Eg S (fun _=>Eb (vs:=[iV x6]) ⟨(S.tm rfl),trivial⟩ call56) (Xi _ x6 _ rfl) rfl ?_)));clear S;intro v28 a w40 hv28 hk33 hn28 S
  subst hv28
  refine Vu S Ip rfl rfl fun a S=>Dl (Fc h (S.tm rfl) (fun hb8 h=>?_) (fun hb8 h=>?_))
  ·refine Fr (Vk S rfl rfl fun a S=>Vk S rfl rfl fun a S=>Dl (wp_ret (Ee ?_)))
   obtain rfl:=Option.some.inj h
   exact Jx S results33 rfl rfl rfl
  ·refine wp_skip (Tn (Fr (Vm S rfl rfl fun a S=>Va S rfl rfl fun a S=>Vk S rfl rfl fun a S=>Dl (wp_ret ?_))))
   obtain rfl:=Option.some.inj h
   exact Jx S results33 rfl rfl rfl
theorem Uh (w : World) (Ad : Value) (Ao : List An) (Am : Slc (view w []) 5 Ad (Ao.map An.enc)) (Bh : Int) (r : (List Dx) × Int) (h : Pw Ao Bh = some r) :
    Calls prog 57 [Ad,iV Bh].toArray w (Ret w [] fun τ v _=>∃ u1 : Value,v = .tuple #[u1,iV r.2] ∧ Oa τ 75 4 u1 r.1.length (r.1.flatMap Dx.enc)):=by
 refine Fe func57 rfl ntmps57 rfl fun a S=>?_
 unfold Pw at h
 replace S:=S.k2 0 1 rfl
 refine Fr (Vk S rfl rfl fun a S=>Vk S rfl rfl fun a S=>Dl (Fs (Fr (Vm S rfl rfl ?_))));clear S;intro a S
 obtain ⟨r1,hr1,h⟩:=Gs h
 refine Eg S (fun _=>Eb (vs:=[Ad]) ⟨(S.tm rfl),trivial⟩ call27) (Nt _ Ad Ao (Am.mono (S.le_arg Fk)) _ hr1) rfl ?_;clear S;intro v1 a w1 hv1 hk1 hn1 S
 subst hv1
 refine Va S rfl rfl fun a S=>Dz (Vm S rfl rfl fun a S=>Vq S Mj rfl rfl rfl fun a S=>Dl (Fc h (S.tm rfl) (fun hb1 h=>?_) (fun hb1 h=>?_)))
 ·refine Fr (Vm S rfl rfl fun a S=>Vk S rfl rfl fun a S=>Va S rfl rfl fun a S=>Dl (wp_ret (Ee ?_)))
  obtain rfl:=Option.some.inj h
  exact Jx S results57 rfl rfl ⟨_,rfl,(Kn _ _ _)⟩
 ·refine wp_skip (Tn (Fr (Vm S rfl rfl fun a S=>Vm S rfl rfl ?_)));clear S;intro a S
  obtain ⟨r2,hr2,h⟩:=Gs h
  have hz1:=S.keep.size
  refine Eg S (fun _=>Eb (vs:=[Ad,iV Bh]) ⟨(S.tm rfl),(S.tm rfl),trivial⟩ call51) (So _ Ad Ao (Am.mono (S.le_arg Fk)) Bh _ hr2) rfl ?_;clear S;intro v2 a w2 hv2 hk2 hn2 S
  obtain ⟨u1,rfl,ho1⟩:=hv2
  obtain ⟨φ1,hl1,hm1,S⟩:=S.see' hn2 hz1
  have hs1:=ho1.mono hm1
  refine Vq S Gu rfl rfl rfl fun a S=>Vq S Gu rfl rfl rfl fun a S=>Va S rfl rfl fun a S=>Va S rfl rfl fun a S=>Dl (wp_ret ?_)
  obtain rfl:=Option.some.inj h
  exact Jx S results57 rfl rfl ⟨_,rfl,((hs1).mono S.le_newer)⟩
end Go.Proofs.YtombbefepcipcaaGreatDoor
