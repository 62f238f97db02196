/- Each Go function computes its plain twin,by program. -/
import Derived.Test.YtlndicofaomdaaaGreatDoorWk1
namespace Go.Proofs.YtlndicofaomdaaaGreatDoor
open Go
open Go.Proofs.Tryz
set_option maxHeartbeats 8000000 in
set_option maxRecDepth 20000 in
theorem AH (self : (List An) → Int → (List (List Ew)) → Int → (List Int) → Int → Int → Bool → (List Int) → (List Int) → Option ((List Int) × Int × Int × Bool)) (hself : ∀ (w : World) (X : List Nat) (Ag : Nat) (Aa : Value) (Am : List An) (_ : Slc (view w X) 5 Aa (Am.map An.enc)) (Ac : Int) (V : Value) (Bj : List (List Ew)) (Bm : List RS) (_ : Slc (view w X) 1 V (Bm.map RS.enc)) (_ : Ko (Ve (view w X)) Bj Bm) (Af : Int) (Al : Value) (Az : List Int) (_ : (LEnt.own Al 3 1 Az.length (Az.flatMap eInt)).holds w) (Ax : Int) (Ba : Int) (Bb : Bool) (_ : (LEnt.blk Ag [Aa,iV Ac,V,iV Af,Al,iV Ax,iV Ba,bV Bb] 70).holds w) (Ah : Value) (Aj : List Int) (_ : (LEnt.own Ah 3 1 Aj.length (Aj.flatMap eInt)).holds w) (Bf : Value) (Aq : List Int) (_ : Slc (view w X) 1 Bf (Aq.map eInt)) (_ : X.Nodup) (_ : X = fps [.blk Ag [Aa,iV Ac,V,iV Af,Al,iV Ax,iV Ba,bV Bb] 70,.own Al 3 1 Az.length (Az.flatMap eInt),.own Ah 3 1 Aj.length (Aj.flatMap eInt)]) (r : (List Int) × Int × Int × Bool) (_ : self Am Ac Bj Af Az Ax Ba Bb Aj Aq = some r),
    Calls prog 33 [.pointer (some ⟨Ag,0,none⟩),Ah,Bf].toArray w (Ret w X fun _ v w'=>∃ y1 : Value,Grp w w' X [.blk Ag [Aa,iV Ac,V,iV Af,y1,iV r.2.1,iV r.2.2.1,bV r.2.2.2] 70,.own y1 3 1 r.1.length (r.1.flatMap eInt)] ∧ v = .tuple #[])) (w : World) (X : List Nat) (Ag : Nat) (Aa : Value) (Am : List An) (Bq : Slc (view w X) 5 Aa (Am.map An.enc)) (Ac : Int) (V : Value) (Bj : List (List Ew)) (Bm : List RS) (Bx : Slc (view w X) 1 V (Bm.map RS.enc)) (By : Ko (Ve (view w X)) Bj Bm) (Af : Int) (Al : Value) (Az : List Int) (Dx : (LEnt.own Al 3 1 Az.length (Az.flatMap eInt)).holds w) (Ax : Int) (Ba : Int) (Bb : Bool) (Eq : (LEnt.blk Ag [Aa,iV Ac,V,iV Af,Al,iV Ax,iV Ba,bV Bb] 70).holds w) (Ah : Value) (Aj : List Int) (Er : (LEnt.own Ah 3 1 Aj.length (Aj.flatMap eInt)).holds w) (Bf : Value) (Aq : List Int) (Cv : Slc (view w X) 1 Bf (Aq.map eInt)) (hXn : X.Nodup) (hXe : X = fps [.blk Ag [Aa,iV Ac,V,iV Af,Al,iV Ax,iV Ba,bV Bb] 70,.own Al 3 1 Az.length (Az.flatMap eInt),.own Ah 3 1 Aj.length (Aj.flatMap eInt)]) (r : (List Int) × Int × Int × Bool) (h : Te self Am Ac Bj Af Az Ax Ba Bb Aj Aq = some r) :
    Calls prog 33 [.pointer (some ⟨Ag,0,none⟩),Ah,Bf].toArray w (Ret w X fun _ v w'=>∃ y1 : Value,Grp w w' X [.blk Ag [Aa,iV Ac,V,iV Af,y1,iV r.2.1,iV r.2.2.1,bV r.2.2.2] 70,.own y1 3 1 r.1.length (r.1.flatMap eInt)] ∧ v = .tuple #[]):=by
 refine Lp X [.blk Ag [Aa,iV Ac,V,iV Af,Al,iV Ax,iV Ba,bV Bb] 70,.own Al 3 1 Az.length (Az.flatMap eInt),.own Ah 3 1 Aj.length (Aj.flatMap eInt)] func33 rfl ntmps33 rfl (fun e he=>by simp only [List.mem_cons,List.not_mem_nil,or_false] at he;rcases he with rfl | rfl | rfl <;> assumption) (by rw [← hXe];exact hXn) (fun b hb=>by rw [hXe];exact hb) fun a S=>?_
 unfold Te at h
 replace S:=(S.nl [.blk Ag [Aa,iV Ac,V,iV Af,Al,iV Ax,iV Ba,bV Bb] 70,.own Al 3 1 Az.length (Az.flatMap eInt),.own Ah 3 1 Aj.length (Aj.flatMap eInt)] [true,true,true] rfl).k3 0 1 2 rfl
 refine Fs (Fr (Vm S rfl rfl fun a S=>lv S (Gh Lj (S.tm rfl) (Ey Cv)) rfl fun a S=>Vq S Na rfl rfl rfl fun a S=>Dl (Fc h (S.tm rfl) (fun hb1 h=>?_) (fun hb1 h=>?_))))
 ·refine Fs (Fr (Vm S rfl rfl fun a S=>lv S (Gh Lj (S.tm rfl) (Ey Cv)) rfl fun a S=>lv S (Rm rfl) rfl fun a S=>Dl ?_))
  replace S:=S.k6 0 1 2 24 25 26 rfl
  obtain ⟨j1,hj1,h⟩:=Ha h
  refine Gv (fun a w'=>∃ x1 : Int,∃ x2 : Int,∃ x3 : Bool,∃ x4 : List Int,∃ φ1 : View,∃ v1 : Value,j1 x1 x2 x3 x4 = some r ∧ View.le nov φ1 ∧ Sx w X φ1 [.blk Ag [Aa,iV Ac,V,iV Af,v1,iV x1,iV x2,bV x3] 70,.own v1 3 1 x4.length (x4.flatMap eInt),.own Ah 3 1 Aj.length (Aj.flatMap eInt)] [] 208 a w') ?_ ?_
  ·refine wp_block (Iv (fun (ys1 : List Int) a w'=>∃ i1 : Nat,∃ x1 : Int,∃ x2 : Int,∃ x3 : Bool,∃ x4 : List Int,∃ φ1 : View,∃ v1 : Value,(∃ dn,Aq = dn ++ ys1 ∧ dn.length = i1) ∧ Lu Aj Aq self Am Ac Bj Af j1 ys1 i1 x1 x2 x3 x4 = some r ∧ View.le nov φ1 ∧ Sx w X φ1 [.blk Ag [Aa,iV Ac,V,iV Af,v1,iV x1,iV x2,bV x3] 70,.own v1 3 1 x4.length (x4.flatMap eInt),.own Ah 3 1 Aj.length (Aj.flatMap eInt)] [(0,.pointer (some ⟨Ag,0,none⟩)),(1,Ah),(2,Bf),(24,Bf),(25,iV (Aq.length : Int)),(26,iV (i1 : Int))] 208 a w') List.length Aq ⟨0,Ax,Ba,Bb,Az,nov,Al,⟨[],rfl,rfl⟩,h,View.le_refl _,S.nf [true,true,true] rfl (subR rfl)⟩ ?_)
   clear S h;rintro ys1 a w1 ⟨i1,x1,x2,x3,x4,φ1,v1,⟨dn,hd1,hi1⟩,h,hl1,S⟩
   cases ys1 with
   | nil =>
    rw [Lu.eq_1] at h
    refine Fr (Vb S Gb rfl rfl rfl fun a S=>Ld ?_)
    replace S:=S.k7 0 1 2 24 25 26 27 rfl
    exact Tn (Fs (wp_cond_false ((S.tm rfl).trans (congrArg Value.bool (Jr hd1 hi1))) (wp_exit (Gk (Gk (Jc (Tn (⟨x1,x2,x3,x4,φ1,v1,h,hl1,S.nf [true,true,true] rfl trivial⟩))))))))
   | cons y1 ys1 =>
    rw [Lu.eq_2] at h
    refine Fr (Vb S Gb rfl rfl rfl fun a S=>Ld ?_)
    replace S:=S.k7 0 1 2 24 25 26 27 rfl
    refine Tn (Fs (wp_cond_true ((S.tm rfl).trans (congrArg Value.bool (Ih hd1 hi1))) (wp_skip (Tn (Fs (wp_block (Fr (Vm S rfl rfl ?_))))))));clear S;intro a S
    obtain ⟨b1,o1,hm1,hr1⟩:=Gd (a:=a) (x:=.tmp 24) (y:=.tmp 26) (ty:=0) Lj Cv (Jd hd1 hi1) rfl (S.tm rfl) (S.tm rfl)
    refine lv S (hr1 _) rfl ?_;clear S;intro a S
    clear hr1
    refine lv S (Hr isAgg3 (off:=o1) (o:=0) (S.tm rfl) (hm1.at S.emb0) rfl) rfl fun a S=>Va S rfl rfl fun a S=>Va S rfl rfl fun a S=>Dl ?_
    obtain ⟨j2,hj2,h⟩:=Ha h
    refine Gv (fun a w'=>∃ x5 : Int,∃ x6 : Int,∃ x7 : Bool,∃ x8 : List Int,∃ φ2 : View,∃ v2 : Value,j2 x5 x6 x7 x8 = some r ∧ View.le φ1 φ2 ∧ Sx w X φ2 [.blk Ag [Aa,iV Ac,V,iV Af,v2,iV x5,iV x6,bV x7] 70,.own v2 3 1 x8.length (x8.flatMap eInt),.own Ah 3 1 Aj.length (Aj.flatMap eInt)] [(0,.pointer (some ⟨Ag,0,none⟩)),(1,Ah),(2,Bf),(24,Bf),(25,iV (Aq.length : Int)),(26,iV (i1 : Int))] 208 a w') ?_ ?_
    ·obtain ⟨r1,hr2,h⟩:=He h
     obtain ⟨hc1,h⟩:=Ig h
     obtain ⟨hc2,h⟩:=Ig h
     obtain ⟨hc3,h⟩:=Ig h
     obtain ⟨r2,hr6,h⟩:=He h
     obtain ⟨r3,hr7,h⟩:=He h
     refine Hx [] (v1.ownBlock.toList ++ [Ag]) Tryz.mixed S rfl (by kernel_rfl) ?_;clear S;intro w10 hk7 hsel S
     refine Fj 0 S hsel rfl rfl rfl (by kernel_rfl) (by kernel_rfl) rfl (fun _ hw=>(Rm (S.tm rfl))) fun a S=>Fj 1 S hsel rfl rfl rfl (by kernel_rfl) (by kernel_rfl) rfl (fun _ hw=>(Rm (S.tm rfl))) fun a S=>Fj 3 S hsel rfl rfl rfl (by kernel_rfl) (by kernel_rfl) rfl (fun _ hw=>(Rm (S.tm rfl))) fun a S=>Fj 6 S hsel rfl rfl rfl (by kernel_rfl) (by kernel_rfl) rfl (fun _ hw=>(Rm (S.tm rfl))) fun a S=>Fj 7 S hsel rfl rfl rfl (by kernel_rfl) (by kernel_rfl) rfl (fun _ hw=>(Rm (S.tm rfl))) ?_;clear S;intro a S
     obtain ⟨v10,hs4,hr8⟩:=We (a:=a) (x:=.tmp 37) (y':=.tmp 38) (ty:=22) Lj Cv (S.tm rfl) (S.tm rfl) hc2
     refine Fj 8 S hsel rfl rfl rfl (by kernel_rfl) (by kernel_rfl) rfl (fun _ hw=>(hr8 _)) ?_;clear S;intro a S
     clear hr8
     refine Fj 9 S hsel rfl rfl rfl (by kernel_rfl) (by kernel_rfl) rfl (fun _ hw=>(Rm (S.tm rfl))) fun a S=>Fj 10 S hsel rfl rfl rfl (by kernel_rfl) (by kernel_rfl) rfl (fun _ hw=>(Rm (S.tm rfl))) fun a S=>Fj 11 S hsel rfl rfl rfl (by kernel_rfl) (by kernel_rfl) rfl (fun _ hw=>(Gx (S.tm rfl) rfl)) ?_;clear S;intro a S
     obtain ⟨v11,hs5,hr9⟩:=FG (a:=a) (x:=.tmp 40) (y:=.tmp 42) (ty:=22) Lj Cv (S.tm rfl) (S.tm rfl) hc3
     refine Fj 12 S hsel rfl rfl rfl (by kernel_rfl) (by kernel_rfl) rfl (fun _ hw=>(hr9 _)) ?_;clear S;intro a S
     clear hr9
     refine d_loud3 2 4 13 (by kernel_rfl) rfl rfl rfl ?_ ?_ ?_
     ·have hz5:=S.keep.size
      refine Fo S (fun _=>Fa (vs:=[Ah]) ⟨(S.tm rfl),trivial⟩ call53) (Nj _ Ah Aj (Ll Hi S (i:=2) rfl (Ij (e':=.own Ah 3 1 Aj.length (Aj.flatMap eInt)))) _ hr2) rfl ?_;clear S;intro v12 a w11 hv4 hk8 hn4 S
      replace S:=S.take hn4 hz5 hv4
      refine Ld (Nk (v12.ownBlock.toList ++ (v1.ownBlock.toList ++ [Ag])) (Keep.none hk8) (BA hv4) (Tv 4 13 (by kernel_rfl) rfl rfl ?_ ?_))
      ·refine Fw S underlying22 sizeOf3 zeroValue3 rfl rfl (pv:=[(0,iV y1)]) ⟨rfl,(S.tm rfl),trivial⟩ (cs:=[iV y1]) (by kernel_rfl) rfl ?_;clear S;intro a w12 b4 hz6 hk9 S
       refine Ld (Hb (Keep.none hk9) (Tv 5 13 (by kernel_rfl) rfl rfl ?_ ?_))
       ·refine Mi Lj Hi S (S.tm rfl) (i:=1) rfl (S.tm rfl) (j:=0) rfl (ys:=[y1]) rfl rfl rfl rfl (by have:=Ky hc1;omega) rfl ?_;clear S;intro v13 a w13 hk10 hf1 S
        refine Ld ?_
        refine Nk (v13.ownBlock.toList ++ (v1.ownBlock.toList ++ [Ag])) (hk10.sub (by intro y hy;simp at hy ⊢;simp [hy])) (by intro y hy;simp at hy ⊢;exact (hy.elim (fun hy=>(by rcases hf1 y hy with hy | hy <;> simp [hy])) (fun hy=>(hy.elim (fun hy=>(by simp [hy])) (fun hy=>(by simp [hy])))))) ?_
        refine Gq 13 (by kernel_rfl) rfl (Fw S underlying121 sizeOf22 zeroValue22 rfl rfl (pv:=[(0,v10),(1,v11)]) ⟨rfl,(S.tm rfl),rfl,(S.tm rfl),trivial⟩ (cs:=[v10,v11]) (Sn (Ey hs4) (Ey hs5)) rfl ?_);clear S;intro a w14 b5 hz7 hk11 S
        refine Ld (Hb (Keep.none hk11) (Gq 14 (by kernel_rfl) rfl ?_))
        have hr10 : Ko (So (join (view w X) φ1)) ([cut Aq 0 (i1 : Int),cut Aq (W ((i1 : Int) + 1)) Aq.length] : List (List Int)) ([⟨v10,Fl.one (Ey hs4)⟩,⟨v11,Fl.one (Ey hs5)⟩] : List RS):=(Ko.cons (hs4.mono (le_join_left _ _)) (Ko.cons (hs5.mono (le_join_left _ _)) Ko.nil))
        replace S:=S.litOwn (i:=0) (xs:=([⟨v10,Fl.one (Ey hs4)⟩,⟨v11,Fl.one (Ey hs5)⟩] : List RS)) rfl RS.enc_ok rfl rfl rfl
        replace S:=S.nk [.own (.slice (some ⟨b5,0,none⟩) 2 2) 22 1 ([⟨v10,Fl.one (Ey hs4)⟩,⟨v11,Fl.one (Ey hs5)⟩] : List RS).length (([⟨v10,Fl.one (Ey hs4)⟩,⟨v11,Fl.one (Ey hs5)⟩] : List RS).flatMap RS.enc),.blk b4 [iV y1] 3,.own v13 3 1 (r1 ++ [y1]).length ((r1 ++ [y1]).flatMap eInt),.blk Ag [Aa,iV Ac,V,iV Af,v1,iV x1,iV x2,bV x3] 70,.own v1 3 1 x4.length (x4.flatMap eInt),.own Ah 3 1 Aj.length (Aj.flatMap eInt)] [(0,.pointer (some ⟨Ag,0,none⟩)),(1,Ah),(2,Bf),(6,iV (i1 : Int)),(7,iV y1),(24,Bf),(25,iV (Aq.length : Int)),(26,iV (i1 : Int)),(27,bV (decide ((i1 : Int) < (Aq.length : Int)))),(28,iV (i1 : Int)),(29,.pointer (some ⟨b1,o1,none⟩)),(30,iV y1),(31,.pointer (some ⟨Ag,0,none⟩)),(32,Ah),(33,v12),(34,iV y1),(35,.slice (some ⟨b4,0,none⟩) 1 1),(36,v13),(37,Bf),(38,iV (i1 : Int)),(39,v10),(40,Bf),(41,iV (i1 : Int)),(42,iV (W ((i1 : Int) + 1))),(43,v11),(44,(.slice (some ⟨b5,0,none⟩) 2 2))] [] rfl (subR rfl)
        have hz8:=S.keep.size
        refine Fo S (fun _=>Fa (vs:=[(.slice (some ⟨b5,0,none⟩) 2 2)]) ⟨(S.tm rfl),trivial⟩ call54) (Kk _ (.slice (some ⟨b5,0,none⟩) 2 2) ([cut Aq 0 (i1 : Int),cut Aq (W ((i1 : Int) + 1)) Aq.length] : List (List Int)) ([⟨v10,Fl.one (Ey hs4)⟩,⟨v11,Fl.one (Ey hs5)⟩] : List RS) (Ll RS.enc_ok S (i:=0) rfl (Ij (e':=.own (.slice (some ⟨b5,0,none⟩) 2 2) 22 1 ([⟨v10,Fl.one (Ey hs4)⟩,⟨v11,Fl.one (Ey hs5)⟩] : List RS).length (([⟨v10,Fl.one (Ey hs4)⟩,⟨v11,Fl.one (Ey hs5)⟩] : List RS).flatMap RS.enc)))) (Tx (Tw (S.le_arg Fy) (S.le_new Fy)) hr10) _ hr6) rfl ?_;clear S;intro v14 a w15 hv5 hk12 hn5 S
        obtain ⟨φ4,hl4,hm3,S⟩:=S.see' hn5 hz8
        have hs6:=hv5.mono hm3
        refine Ld (Hb (Keep.none hk12) (Gq 15 (by kernel_rfl) rfl (Pc [3,4,2] [0,1,5] (Ls:=[.blk Ag [Aa,iV Ac,V,iV Af,v1,iV x1,iV x2,bV x3] 70,.own v1 3 1 x4.length (x4.flatMap eInt),.own v13 3 1 (r1 ++ [y1]).length ((r1 ++ [y1]).flatMap eInt)]) (Lr:=[.own (.slice (some ⟨b5,0,none⟩) 2 2) 22 1 ([⟨v10,Fl.one (Ey hs4)⟩,⟨v11,Fl.one (Ey hs5)⟩] : List RS).length (([⟨v10,Fl.one (Ey hs4)⟩,⟨v11,Fl.one (Ey hs5)⟩] : List RS).flatMap RS.enc),.blk b4 [iV y1] 3,.own Ah 3 1 Aj.length (Aj.flatMap eInt)]) (Y:=[Ag] ++ (v1.ownBlock.toList ++ v13.ownBlock.toList)) S rfl rfl rfl (by simp [Im,Ju,LEnt.fp]) (fun _=>Fa (vs:=[.pointer (some ⟨Ag,0,none⟩),v13,v14]) ⟨(S.tm rfl),(S.tm rfl),(S.tm rfl),trivial⟩ call33) (hself _ ([Ag] ++ (v1.ownBlock.toList ++ v13.ownBlock.toList)) Ag Aa Am (Bq.mono (S.le_arg (Fq (Fh (i:=3) (e:=.blk Ag [Aa,iV Ac,V,iV Af,v1,iV x1,iV x2,bV x3] 70) rfl) (Fq (Fh (i:=4) (e:=.own v1 3 1 x4.length (x4.flatMap eInt)) rfl) (Fh (i:=2) (e:=.own v13 3 1 (r1 ++ [y1]).length ((r1 ++ [y1]).flatMap eInt)) rfl))))) Ac V Bj Bm (Bx.mono (S.le_arg (Fq (Fh (i:=3) (e:=.blk Ag [Aa,iV Ac,V,iV Af,v1,iV x1,iV x2,bV x3] 70) rfl) (Fq (Fh (i:=4) (e:=.own v1 3 1 x4.length (x4.flatMap eInt)) rfl) (Fh (i:=2) (e:=.own v13 3 1 (r1 ++ [y1]).length ((r1 ++ [y1]).flatMap eInt)) rfl))))) (Ry (S.le_arg (Fq (Fh (i:=3) (e:=.blk Ag [Aa,iV Ac,V,iV Af,v1,iV x1,iV x2,bV x3] 70) rfl) (Fq (Fh (i:=4) (e:=.own v1 3 1 x4.length (x4.flatMap eInt)) rfl) (Fh (i:=2) (e:=.own v13 3 1 (r1 ++ [y1]).length ((r1 ++ [y1]).flatMap eInt)) rfl)))) By) Af v1 x4 (S.holds _ (List.mem_of_getElem? (i:=4) rfl)) x1 x2 x3 (S.holds _ (List.mem_of_getElem? (i:=3) rfl)) v13 (r1 ++ [y1]) (S.holds _ (List.mem_of_getElem? (i:=2) rfl)) v14 r2 ((Gw Hi hs6).mono (S.le_new (Fq (Fh (i:=3) (e:=.blk Ag [Aa,iV Ac,V,iV Af,v1,iV x1,iV x2,bV x3] 70) rfl) (Fq (Fh (i:=4) (e:=.own v1 3 1 x4.length (x4.flatMap eInt)) rfl) (Fh (i:=2) (e:=.own v13 3 1 (r1 ++ [y1]).length ((r1 ++ [y1]).flatMap eInt)) rfl))))) (S.ndg [3,4,2] [0,1,5] rfl rfl rfl (by simp [Im,Ju,LEnt.fp])) (by simp [Im,Ju,LEnt.fp]) _ hr7) rfl ?_)));clear S;intro v15 a w16 hv6 hk13 hn6 S
        obtain ⟨v16,hg2,hv6⟩:=hv6;replace S:=S _ hg2;clear hg2
        subst hv6
        refine Ld ?_
        refine Hb (hk13.sub (by intro y hy;simp at hy ⊢;rcases hy with hy | hy | hy <;> simp [hy])) ?_
        refine Ss (by kernel_rfl) ?_
        clear hsel
        replace S:=(S.nl [.blk Ag [Aa,iV Ac,V,iV Af,v16,iV r3.2.1,iV r3.2.2.1,bV r3.2.2.2] 70,.own v16 3 1 r3.1.length (r3.1.flatMap eInt),.own Ah 3 1 Aj.length (Aj.flatMap eInt)] [true,true,false,false,true] rfl).k6 0 1 2 24 25 26 rfl
        exact Tn (⟨r3.2.1,r3.2.2.1,r3.2.2.2,r3.1,φ4,v16,h,hl4,S.nf [true,true,true] rfl (subR rfl)⟩)
       ·refine Fw S underlying121 sizeOf22 zeroValue22 rfl rfl (pv:=[(0,v10),(1,v11)]) ⟨rfl,(S.tm rfl),rfl,(S.tm rfl),trivial⟩ (cs:=[v10,v11]) (Sn (Ey hs4) (Ey hs5)) rfl ?_;clear S;intro a w17 b6 hz9 hk14 S
        refine Ld (Hb (Keep.none hk14) (Gq 5 (by kernel_rfl) rfl ?_))
        refine Mi Lj Hi S (S.tm rfl) (i:=2) rfl (S.tm rfl) (j:=1) rfl (ys:=[y1]) rfl rfl rfl rfl (by have:=Ky hc1;omega) rfl ?_;clear S;intro v17 a w18 hk15 hf2 S
        refine Ld ?_
        refine Nk (v17.ownBlock.toList ++ (v1.ownBlock.toList ++ [Ag])) (hk15.sub (by intro y hy;simp at hy ⊢;simp [hy])) (by intro y hy;simp at hy ⊢;exact (hy.elim (fun hy=>(by rcases hf2 y hy with hy | hy <;> simp [hy])) (fun hy=>(hy.elim (fun hy=>(by simp [hy])) (fun hy=>(by simp [hy])))))) ?_
        refine Gq 14 (by kernel_rfl) rfl ?_
        have hr11 : Ko (So (join (view w X) φ1)) ([cut Aq 0 (i1 : Int),cut Aq (W ((i1 : Int) + 1)) Aq.length] : List (List Int)) ([⟨v10,Fl.one (Ey hs4)⟩,⟨v11,Fl.one (Ey hs5)⟩] : List RS):=(Ko.cons (hs4.mono (le_join_left _ _)) (Ko.cons (hs5.mono (le_join_left _ _)) Ko.nil))
        replace S:=S.litOwn (i:=0) (xs:=([⟨v10,Fl.one (Ey hs4)⟩,⟨v11,Fl.one (Ey hs5)⟩] : List RS)) rfl RS.enc_ok rfl rfl rfl
        replace S:=S.nk [.own (.slice (some ⟨b6,0,none⟩) 2 2) 22 1 ([⟨v10,Fl.one (Ey hs4)⟩,⟨v11,Fl.one (Ey hs5)⟩] : List RS).length (([⟨v10,Fl.one (Ey hs4)⟩,⟨v11,Fl.one (Ey hs5)⟩] : List RS).flatMap RS.enc),.blk b4 [iV y1] 3,.own v17 3 1 (r1 ++ [y1]).length ((r1 ++ [y1]).flatMap eInt),.blk Ag [Aa,iV Ac,V,iV Af,v1,iV x1,iV x2,bV x3] 70,.own v1 3 1 x4.length (x4.flatMap eInt),.own Ah 3 1 Aj.length (Aj.flatMap eInt)] [(0,.pointer (some ⟨Ag,0,none⟩)),(1,Ah),(2,Bf),(6,iV (i1 : Int)),(7,iV y1),(24,Bf),(25,iV (Aq.length : Int)),(26,iV (i1 : Int)),(27,bV (decide ((i1 : Int) < (Aq.length : Int)))),(28,iV (i1 : Int)),(29,.pointer (some ⟨b1,o1,none⟩)),(30,iV y1),(31,.pointer (some ⟨Ag,0,none⟩)),(32,Ah),(33,v12),(34,iV y1),(35,.slice (some ⟨b4,0,none⟩) 1 1),(36,v17),(37,Bf),(38,iV (i1 : Int)),(39,v10),(40,Bf),(41,iV (i1 : Int)),(42,iV (W ((i1 : Int) + 1))),(43,v11),(44,(.slice (some ⟨b6,0,none⟩) 2 2))] [] rfl (subR rfl)
        have hz10:=S.keep.size
        refine Fo S (fun _=>Fa (vs:=[(.slice (some ⟨b6,0,none⟩) 2 2)]) ⟨(S.tm rfl),trivial⟩ call54) (Kk _ (.slice (some ⟨b6,0,none⟩) 2 2) ([cut Aq 0 (i1 : Int),cut Aq (W ((i1 : Int) + 1)) Aq.length] : List (List Int)) ([⟨v10,Fl.one (Ey hs4)⟩,⟨v11,Fl.one (Ey hs5)⟩] : List RS) (Ll RS.enc_ok S (i:=0) rfl (Ij (e':=.own (.slice (some ⟨b6,0,none⟩) 2 2) 22 1 ([⟨v10,Fl.one (Ey hs4)⟩,⟨v11,Fl.one (Ey hs5)⟩] : List RS).length (([⟨v10,Fl.one (Ey hs4)⟩,⟨v11,Fl.one (Ey hs5)⟩] : List RS).flatMap RS.enc)))) (Tx (Tw (S.le_arg Fy) (S.le_new Fy)) hr11) _ hr6) rfl ?_;clear S;intro v18 a w19 hv7 hk16 hn7 S
        obtain ⟨φ5,hl5,hm4,S⟩:=S.see' hn7 hz10
        have hs7:=hv7.mono hm4
        refine Ld (Hb (Keep.none hk16) (Gq 15 (by kernel_rfl) rfl (Pc [3,4,2] [0,1,5] (Ls:=[.blk Ag [Aa,iV Ac,V,iV Af,v1,iV x1,iV x2,bV x3] 70,.own v1 3 1 x4.length (x4.flatMap eInt),.own v17 3 1 (r1 ++ [y1]).length ((r1 ++ [y1]).flatMap eInt)]) (Lr:=[.own (.slice (some ⟨b6,0,none⟩) 2 2) 22 1 ([⟨v10,Fl.one (Ey hs4)⟩,⟨v11,Fl.one (Ey hs5)⟩] : List RS).length (([⟨v10,Fl.one (Ey hs4)⟩,⟨v11,Fl.one (Ey hs5)⟩] : List RS).flatMap RS.enc),.blk b4 [iV y1] 3,.own Ah 3 1 Aj.length (Aj.flatMap eInt)]) (Y:=[Ag] ++ (v1.ownBlock.toList ++ v17.ownBlock.toList)) S rfl rfl rfl (by simp [Im,Ju,LEnt.fp]) (fun _=>Fa (vs:=[.pointer (some ⟨Ag,0,none⟩),v17,v18]) ⟨(S.tm rfl),(S.tm rfl),(S.tm rfl),trivial⟩ call33) (hself _ ([Ag] ++ (v1.ownBlock.toList ++ v17.ownBlock.toList)) Ag Aa Am (Bq.mono (S.le_arg (Fq (Fh (i:=3) (e:=.blk Ag [Aa,iV Ac,V,iV Af,v1,iV x1,iV x2,bV x3] 70) rfl) (Fq (Fh (i:=4) (e:=.own v1 3 1 x4.length (x4.flatMap eInt)) rfl) (Fh (i:=2) (e:=.own v17 3 1 (r1 ++ [y1]).length ((r1 ++ [y1]).flatMap eInt)) rfl))))) Ac V Bj Bm (Bx.mono (S.le_arg (Fq (Fh (i:=3) (e:=.blk Ag [Aa,iV Ac,V,iV Af,v1,iV x1,iV x2,bV x3] 70) rfl) (Fq (Fh (i:=4) (e:=.own v1 3 1 x4.length (x4.flatMap eInt)) rfl) (Fh (i:=2) (e:=.own v17 3 1 (r1 ++ [y1]).length ((r1 ++ [y1]).flatMap eInt)) rfl))))) (Ry (S.le_arg (Fq (Fh (i:=3) (e:=.blk Ag [Aa,iV Ac,V,iV Af,v1,iV x1,iV x2,bV x3] 70) rfl) (Fq (Fh (i:=4) (e:=.own v1 3 1 x4.length (x4.flatMap eInt)) rfl) (Fh (i:=2) (e:=.own v17 3 1 (r1 ++ [y1]).length ((r1 ++ [y1]).flatMap eInt)) rfl)))) By) Af v1 x4 (S.holds _ (List.mem_of_getElem? (i:=4) rfl)) x1 x2 x3 (S.holds _ (List.mem_of_getElem? (i:=3) rfl)) v17 (r1 ++ [y1]) (S.holds _ (List.mem_of_getElem? (i:=2) rfl)) v18 r2 ((Gw Hi hs7).mono (S.le_new (Fq (Fh (i:=3) (e:=.blk Ag [Aa,iV Ac,V,iV Af,v1,iV x1,iV x2,bV x3] 70) rfl) (Fq (Fh (i:=4) (e:=.own v1 3 1 x4.length (x4.flatMap eInt)) rfl) (Fh (i:=2) (e:=.own v17 3 1 (r1 ++ [y1]).length ((r1 ++ [y1]).flatMap eInt)) rfl))))) (S.ndg [3,4,2] [0,1,5] rfl rfl rfl (by simp [Im,Ju,LEnt.fp])) (by simp [Im,Ju,LEnt.fp]) _ hr7) rfl ?_)));clear S;intro v19 a w20 hv8 hk17 hn8 S
        obtain ⟨v20,hg3,hv8⟩:=hv8;replace S:=S _ hg3;clear hg3
        subst hv8
        refine Ld ?_
        refine Hb (hk17.sub (by intro y hy;simp at hy ⊢;rcases hy with hy | hy | hy <;> simp [hy])) ?_
        refine Ss (by kernel_rfl) ?_
        clear hsel
        replace S:=(S.nl [.blk Ag [Aa,iV Ac,V,iV Af,v20,iV r3.2.1,iV r3.2.2.1,bV r3.2.2.2] 70,.own v20 3 1 r3.1.length (r3.1.flatMap eInt),.own Ah 3 1 Aj.length (Aj.flatMap eInt)] [true,true,false,false,true] rfl).k6 0 1 2 24 25 26 rfl
        exact Tn (⟨r3.2.1,r3.2.2.1,r3.2.2.2,r3.1,φ5,v20,h,hl5,S.nf [true,true,true] rfl (subR rfl)⟩)
      ·refine Fw S underlying121 sizeOf22 zeroValue22 rfl rfl (pv:=[(0,v10),(1,v11)]) ⟨rfl,(S.tm rfl),rfl,(S.tm rfl),trivial⟩ (cs:=[v10,v11]) (Sn (Ey hs4) (Ey hs5)) rfl ?_;clear S;intro a w21 b7 hz11 hk18 S
       refine Ld (Hb (Keep.none hk18) (Gq 4 (by kernel_rfl) rfl (Fw S underlying22 sizeOf3 zeroValue3 rfl rfl (pv:=[(0,iV y1)]) ⟨rfl,(S.tm rfl),trivial⟩ (cs:=[iV y1]) (by kernel_rfl) rfl ?_)));clear S;intro a w22 b8 hz12 hk19 S
       refine Ld (Hb (Keep.none hk19) (Gq 5 (by kernel_rfl) rfl ?_))
       refine Mi Lj Hi S (S.tm rfl) (i:=2) rfl (S.tm rfl) (j:=0) rfl (ys:=[y1]) rfl rfl rfl rfl (by have:=Ky hc1;omega) rfl ?_;clear S;intro v21 a w23 hk20 hf3 S
       refine Ld ?_
       refine Nk (v21.ownBlock.toList ++ (v1.ownBlock.toList ++ [Ag])) (hk20.sub (by intro y hy;simp at hy ⊢;simp [hy])) (by intro y hy;simp at hy ⊢;exact (hy.elim (fun hy=>(by rcases hf3 y hy with hy | hy <;> simp [hy])) (fun hy=>(hy.elim (fun hy=>(by simp [hy])) (fun hy=>(by simp [hy])))))) ?_
       refine Gq 14 (by kernel_rfl) rfl ?_
       have hr12 : Ko (So (join (view w X) φ1)) ([cut Aq 0 (i1 : Int),cut Aq (W ((i1 : Int) + 1)) Aq.length] : List (List Int)) ([⟨v10,Fl.one (Ey hs4)⟩,⟨v11,Fl.one (Ey hs5)⟩] : List RS):=(Ko.cons (hs4.mono (le_join_left _ _)) (Ko.cons (hs5.mono (le_join_left _ _)) Ko.nil))
       replace S:=S.litOwn (i:=1) (xs:=([⟨v10,Fl.one (Ey hs4)⟩,⟨v11,Fl.one (Ey hs5)⟩] : List RS)) rfl RS.enc_ok rfl rfl rfl
       replace S:=S.nk [.blk b8 [iV y1] 3,.own (.slice (some ⟨b7,0,none⟩) 2 2) 22 1 ([⟨v10,Fl.one (Ey hs4)⟩,⟨v11,Fl.one (Ey hs5)⟩] : List RS).length (([⟨v10,Fl.one (Ey hs4)⟩,⟨v11,Fl.one (Ey hs5)⟩] : List RS).flatMap RS.enc),.own v21 3 1 (r1 ++ [y1]).length ((r1 ++ [y1]).flatMap eInt),.blk Ag [Aa,iV Ac,V,iV Af,v1,iV x1,iV x2,bV x3] 70,.own v1 3 1 x4.length (x4.flatMap eInt),.own Ah 3 1 Aj.length (Aj.flatMap eInt)] [(0,.pointer (some ⟨Ag,0,none⟩)),(1,Ah),(2,Bf),(6,iV (i1 : Int)),(7,iV y1),(24,Bf),(25,iV (Aq.length : Int)),(26,iV (i1 : Int)),(27,bV (decide ((i1 : Int) < (Aq.length : Int)))),(28,iV (i1 : Int)),(29,.pointer (some ⟨b1,o1,none⟩)),(30,iV y1),(31,.pointer (some ⟨Ag,0,none⟩)),(32,Ah),(33,v12),(34,iV y1),(35,.slice (some ⟨b8,0,none⟩) 1 1),(36,v21),(37,Bf),(38,iV (i1 : Int)),(39,v10),(40,Bf),(41,iV (i1 : Int)),(42,iV (W ((i1 : Int) + 1))),(43,v11),(44,(.slice (some ⟨b7,0,none⟩) 2 2))] [] rfl (subR rfl)
       have hz13:=S.keep.size
       refine Fo S (fun _=>Fa (vs:=[(.slice (some ⟨b7,0,none⟩) 2 2)]) ⟨(S.tm rfl),trivial⟩ call54) (Kk _ (.slice (some ⟨b7,0,none⟩) 2 2) ([cut Aq 0 (i1 : Int),cut Aq (W ((i1 : Int) + 1)) Aq.length] : List (List Int)) ([⟨v10,Fl.one (Ey hs4)⟩,⟨v11,Fl.one (Ey hs5)⟩] : List RS) (Ll RS.enc_ok S (i:=1) rfl (Ij (e':=.own (.slice (some ⟨b7,0,none⟩) 2 2) 22 1 ([⟨v10,Fl.one (Ey hs4)⟩,⟨v11,Fl.one (Ey hs5)⟩] : List RS).length (([⟨v10,Fl.one (Ey hs4)⟩,⟨v11,Fl.one (Ey hs5)⟩] : List RS).flatMap RS.enc)))) (Tx (Tw (S.le_arg Fy) (S.le_new Fy)) hr12) _ hr6) rfl ?_;clear S;intro v22 a w24 hv9 hk21 hn9 S
       obtain ⟨φ6,hl6,hm5,S⟩:=S.see' hn9 hz13
       have hs8:=hv9.mono hm5
       refine Ld (Hb (Keep.none hk21) (Gq 15 (by kernel_rfl) rfl (Pc [3,4,2] [0,1,5] (Ls:=[.blk Ag [Aa,iV Ac,V,iV Af,v1,iV x1,iV x2,bV x3] 70,.own v1 3 1 x4.length (x4.flatMap eInt),.own v21 3 1 (r1 ++ [y1]).length ((r1 ++ [y1]).flatMap eInt)]) (Lr:=[.blk b8 [iV y1] 3,.own (.slice (some ⟨b7,0,none⟩) 2 2) 22 1 ([⟨v10,Fl.one (Ey hs4)⟩,⟨v11,Fl.one (Ey hs5)⟩] : List RS).length (([⟨v10,Fl.one (Ey hs4)⟩,⟨v11,Fl.one (Ey hs5)⟩] : List RS).flatMap RS.enc),.own Ah 3 1 Aj.length (Aj.flatMap eInt)]) (Y:=[Ag] ++ (v1.ownBlock.toList ++ v21.ownBlock.toList)) S rfl rfl rfl (by simp [Im,Ju,LEnt.fp]) (fun _=>Fa (vs:=[.pointer (some ⟨Ag,0,none⟩),v21,v22]) ⟨(S.tm rfl),(S.tm rfl),(S.tm rfl),trivial⟩ call33) (hself _ ([Ag] ++ (v1.ownBlock.toList ++ v21.ownBlock.toList)) Ag Aa Am (Bq.mono (S.le_arg (Fq (Fh (i:=3) (e:=.blk Ag [Aa,iV Ac,V,iV Af,v1,iV x1,iV x2,bV x3] 70) rfl) (Fq (Fh (i:=4) (e:=.own v1 3 1 x4.length (x4.flatMap eInt)) rfl) (Fh (i:=2) (e:=.own v21 3 1 (r1 ++ [y1]).length ((r1 ++ [y1]).flatMap eInt)) rfl))))) Ac V Bj Bm (Bx.mono (S.le_arg (Fq (Fh (i:=3) (e:=.blk Ag [Aa,iV Ac,V,iV Af,v1,iV x1,iV x2,bV x3] 70) rfl) (Fq (Fh (i:=4) (e:=.own v1 3 1 x4.length (x4.flatMap eInt)) rfl) (Fh (i:=2) (e:=.own v21 3 1 (r1 ++ [y1]).length ((r1 ++ [y1]).flatMap eInt)) rfl))))) (Ry (S.le_arg (Fq (Fh (i:=3) (e:=.blk Ag [Aa,iV Ac,V,iV Af,v1,iV x1,iV x2,bV x3] 70) rfl) (Fq (Fh (i:=4) (e:=.own v1 3 1 x4.length (x4.flatMap eInt)) rfl) (Fh (i:=2) (e:=.own v21 3 1 (r1 ++ [y1]).length ((r1 ++ [y1]).flatMap eInt)) rfl)))) By) Af v1 x4 (S.holds _ (List.mem_of_getElem? (i:=4) rfl)) x1 x2 x3 (S.holds _ (List.mem_of_getElem? (i:=3) rfl)) v21 (r1 ++ [y1]) (S.holds _ (List.mem_of_getElem? (i:=2) rfl)) v22 r2 ((Gw Hi hs8).mono (S.le_new (Fq (Fh (i:=3) (e:=.blk Ag [Aa,iV Ac,V,iV Af,v1,iV x1,iV x2,bV x3] 70) rfl) (Fq (Fh (i:=4) (e:=.own v1 3 1 x4.length (x4.flatMap eInt)) rfl) (Fh (i:=2) (e:=.own v21 3 1 (r1 ++ [y1]).length ((r1 ++ [y1]).flatMap eInt)) rfl))))) (S.ndg [3,4,2] [0,1,5] rfl rfl rfl (by simp [Im,Ju,LEnt.fp])) (by simp [Im,Ju,LEnt.fp]) _ hr7) rfl ?_)));clear S;intro v23 a w25 hv10 hk22 hn10 S
       obtain ⟨v24,hg4,hv10⟩:=hv10;replace S:=S _ hg4;clear hg4
       subst hv10
       refine Ld ?_
       refine Hb (hk22.sub (by intro y hy;simp at hy ⊢;rcases hy with hy | hy | hy <;> simp [hy])) ?_
       refine Ss (by kernel_rfl) ?_
       clear hsel
       replace S:=(S.nl [.blk Ag [Aa,iV Ac,V,iV Af,v24,iV r3.2.1,iV r3.2.2.1,bV r3.2.2.2] 70,.own v24 3 1 r3.1.length (r3.1.flatMap eInt),.own Ah 3 1 Aj.length (Aj.flatMap eInt)] [true,true,false,false,true] rfl).k6 0 1 2 24 25 26 rfl
       exact Tn (⟨r3.2.1,r3.2.2.1,r3.2.2.2,r3.1,φ6,v24,h,hl6,S.nf [true,true,true] rfl (subR rfl)⟩)
     ·refine Fw S underlying22 sizeOf3 zeroValue3 rfl rfl (pv:=[(0,iV y1)]) ⟨rfl,(S.tm rfl),trivial⟩ (cs:=[iV y1]) (by kernel_rfl) rfl ?_;clear S;intro a w26 b9 hz14 hk23 S
      refine Ld (Hb (Keep.none hk23) (Tv 2 13 (by kernel_rfl) rfl rfl ?_ ?_))
      ·have hz15:=S.keep.size
       refine Fo S (fun _=>Fa (vs:=[Ah]) ⟨(S.tm rfl),trivial⟩ call53) (Nj _ Ah Aj (Ll Hi S (i:=3) rfl (Ij (e':=.own Ah 3 1 Aj.length (Aj.flatMap eInt)))) _ hr2) rfl ?_;clear S;intro v25 a w27 hv11 hk24 hn11 S
       replace S:=S.take hn11 hz15 hv11
       refine Ld (Nk (v25.ownBlock.toList ++ (v1.ownBlock.toList ++ [Ag])) (Keep.none hk24) (BA hv11) (Tv 5 13 (by kernel_rfl) rfl rfl ?_ ?_))
       ·refine Mi Lj Hi S (S.tm rfl) (i:=0) rfl (S.tm rfl) (j:=1) rfl (ys:=[y1]) rfl rfl rfl rfl (by have:=Ky hc1;omega) rfl ?_;clear S;intro v26 a w28 hk25 hf4 S
        refine Ld ?_
        refine Nk (v26.ownBlock.toList ++ (v1.ownBlock.toList ++ [Ag])) (hk25.sub (by intro y hy;simp at hy ⊢;simp [hy])) (by intro y hy;simp at hy ⊢;exact (hy.elim (fun hy=>(by rcases hf4 y hy with hy | hy <;> simp [hy])) (fun hy=>(hy.elim (fun hy=>(by simp [hy])) (fun hy=>(by simp [hy])))))) ?_
        refine Gq 13 (by kernel_rfl) rfl (Fw S underlying121 sizeOf22 zeroValue22 rfl rfl (pv:=[(0,v10),(1,v11)]) ⟨rfl,(S.tm rfl),rfl,(S.tm rfl),trivial⟩ (cs:=[v10,v11]) (Sn (Ey hs4) (Ey hs5)) rfl ?_);clear S;intro a w29 b10 hz16 hk26 S
        refine Ld (Hb (Keep.none hk26) (Gq 14 (by kernel_rfl) rfl ?_))
        have hr13 : Ko (So (join (view w X) φ1)) ([cut Aq 0 (i1 : Int),cut Aq (W ((i1 : Int) + 1)) Aq.length] : List (List Int)) ([⟨v10,Fl.one (Ey hs4)⟩,⟨v11,Fl.one (Ey hs5)⟩] : List RS):=(Ko.cons (hs4.mono (le_join_left _ _)) (Ko.cons (hs5.mono (le_join_left _ _)) Ko.nil))
        replace S:=S.litOwn (i:=0) (xs:=([⟨v10,Fl.one (Ey hs4)⟩,⟨v11,Fl.one (Ey hs5)⟩] : List RS)) rfl RS.enc_ok rfl rfl rfl
        replace S:=S.nk [.own (.slice (some ⟨b10,0,none⟩) 2 2) 22 1 ([⟨v10,Fl.one (Ey hs4)⟩,⟨v11,Fl.one (Ey hs5)⟩] : List RS).length (([⟨v10,Fl.one (Ey hs4)⟩,⟨v11,Fl.one (Ey hs5)⟩] : List RS).flatMap RS.enc),.own v26 3 1 (r1 ++ [y1]).length ((r1 ++ [y1]).flatMap eInt),.blk b9 [iV y1] 3,.blk Ag [Aa,iV Ac,V,iV Af,v1,iV x1,iV x2,bV x3] 70,.own v1 3 1 x4.length (x4.flatMap eInt),.own Ah 3 1 Aj.length (Aj.flatMap eInt)] [(0,.pointer (some ⟨Ag,0,none⟩)),(1,Ah),(2,Bf),(6,iV (i1 : Int)),(7,iV y1),(24,Bf),(25,iV (Aq.length : Int)),(26,iV (i1 : Int)),(27,bV (decide ((i1 : Int) < (Aq.length : Int)))),(28,iV (i1 : Int)),(29,.pointer (some ⟨b1,o1,none⟩)),(30,iV y1),(31,.pointer (some ⟨Ag,0,none⟩)),(32,Ah),(33,v25),(34,iV y1),(35,.slice (some ⟨b9,0,none⟩) 1 1),(36,v26),(37,Bf),(38,iV (i1 : Int)),(39,v10),(40,Bf),(41,iV (i1 : Int)),(42,iV (W ((i1 : Int) + 1))),(43,v11),(44,(.slice (some ⟨b10,0,none⟩) 2 2))] [] rfl (subR rfl)
        have hz17:=S.keep.size
        refine Fo S (fun _=>Fa (vs:=[(.slice (some ⟨b10,0,none⟩) 2 2)]) ⟨(S.tm rfl),trivial⟩ call54) (Kk _ (.slice (some ⟨b10,0,none⟩) 2 2) ([cut Aq 0 (i1 : Int),cut Aq (W ((i1 : Int) + 1)) Aq.length] : List (List Int)) ([⟨v10,Fl.one (Ey hs4)⟩,⟨v11,Fl.one (Ey hs5)⟩] : List RS) (Ll RS.enc_ok S (i:=0) rfl (Ij (e':=.own (.slice (some ⟨b10,0,none⟩) 2 2) 22 1 ([⟨v10,Fl.one (Ey hs4)⟩,⟨v11,Fl.one (Ey hs5)⟩] : List RS).length (([⟨v10,Fl.one (Ey hs4)⟩,⟨v11,Fl.one (Ey hs5)⟩] : List RS).flatMap RS.enc)))) (Tx (Tw (S.le_arg Fy) (S.le_new Fy)) hr13) _ hr6) rfl ?_;clear S;intro v27 a w30 hv12 hk27 hn12 S
        obtain ⟨φ7,hl7,hm6,S⟩:=S.see' hn12 hz17
        have hs9:=hv12.mono hm6
        refine Ld (Hb (Keep.none hk27) (Gq 15 (by kernel_rfl) rfl (Pc [3,4,1] [0,2,5] (Ls:=[.blk Ag [Aa,iV Ac,V,iV Af,v1,iV x1,iV x2,bV x3] 70,.own v1 3 1 x4.length (x4.flatMap eInt),.own v26 3 1 (r1 ++ [y1]).length ((r1 ++ [y1]).flatMap eInt)]) (Lr:=[.own (.slice (some ⟨b10,0,none⟩) 2 2) 22 1 ([⟨v10,Fl.one (Ey hs4)⟩,⟨v11,Fl.one (Ey hs5)⟩] : List RS).length (([⟨v10,Fl.one (Ey hs4)⟩,⟨v11,Fl.one (Ey hs5)⟩] : List RS).flatMap RS.enc),.blk b9 [iV y1] 3,.own Ah 3 1 Aj.length (Aj.flatMap eInt)]) (Y:=[Ag] ++ (v1.ownBlock.toList ++ v26.ownBlock.toList)) S rfl rfl rfl (by simp [Im,Ju,LEnt.fp]) (fun _=>Fa (vs:=[.pointer (some ⟨Ag,0,none⟩),v26,v27]) ⟨(S.tm rfl),(S.tm rfl),(S.tm rfl),trivial⟩ call33) (hself _ ([Ag] ++ (v1.ownBlock.toList ++ v26.ownBlock.toList)) Ag Aa Am (Bq.mono (S.le_arg (Fq (Fh (i:=3) (e:=.blk Ag [Aa,iV Ac,V,iV Af,v1,iV x1,iV x2,bV x3] 70) rfl) (Fq (Fh (i:=4) (e:=.own v1 3 1 x4.length (x4.flatMap eInt)) rfl) (Fh (i:=1) (e:=.own v26 3 1 (r1 ++ [y1]).length ((r1 ++ [y1]).flatMap eInt)) rfl))))) Ac V Bj Bm (Bx.mono (S.le_arg (Fq (Fh (i:=3) (e:=.blk Ag [Aa,iV Ac,V,iV Af,v1,iV x1,iV x2,bV x3] 70) rfl) (Fq (Fh (i:=4) (e:=.own v1 3 1 x4.length (x4.flatMap eInt)) rfl) (Fh (i:=1) (e:=.own v26 3 1 (r1 ++ [y1]).length ((r1 ++ [y1]).flatMap eInt)) rfl))))) (Ry (S.le_arg (Fq (Fh (i:=3) (e:=.blk Ag [Aa,iV Ac,V,iV Af,v1,iV x1,iV x2,bV x3] 70) rfl) (Fq (Fh (i:=4) (e:=.own v1 3 1 x4.length (x4.flatMap eInt)) rfl) (Fh (i:=1) (e:=.own v26 3 1 (r1 ++ [y1]).length ((r1 ++ [y1]).flatMap eInt)) rfl)))) By) Af v1 x4 (S.holds _ (List.mem_of_getElem? (i:=4) rfl)) x1 x2 x3 (S.holds _ (List.mem_of_getElem? (i:=3) rfl)) v26 (r1 ++ [y1]) (S.holds _ (List.mem_of_getElem? (i:=1) rfl)) v27 r2 ((Gw Hi hs9).mono (S.le_new (Fq (Fh (i:=3) (e:=.blk Ag [Aa,iV Ac,V,iV Af,v1,iV x1,iV x2,bV x3] 70) rfl) (Fq (Fh (i:=4) (e:=.own v1 3 1 x4.length (x4.flatMap eInt)) rfl) (Fh (i:=1) (e:=.own v26 3 1 (r1 ++ [y1]).length ((r1 ++ [y1]).flatMap eInt)) rfl))))) (S.ndg [3,4,1] [0,2,5] rfl rfl rfl (by simp [Im,Ju,LEnt.fp])) (by simp [Im,Ju,LEnt.fp]) _ hr7) rfl ?_)));clear S;intro v28 a w31 hv13 hk28 hn13 S
        obtain ⟨v29,hg5,hv13⟩:=hv13;replace S:=S _ hg5;clear hg5
        subst hv13
        refine Ld ?_
        refine Hb (hk28.sub (by intro y hy;simp at hy ⊢;rcases hy with hy | hy | hy <;> simp [hy])) ?_
        refine Ss (by kernel_rfl) ?_
        clear hsel
        replace S:=(S.nl [.blk Ag [Aa,iV Ac,V,iV Af,v29,iV r3.2.1,iV r3.2.2.1,bV r3.2.2.2] 70,.own v29 3 1 r3.1.length (r3.1.flatMap eInt),.own Ah 3 1 Aj.length (Aj.flatMap eInt)] [true,true,false,false,true] rfl).k6 0 1 2 24 25 26 rfl
        exact Tn (⟨r3.2.1,r3.2.2.1,r3.2.2.2,r3.1,φ7,v29,h,hl7,S.nf [true,true,true] rfl (subR rfl)⟩)
       ·refine Fw S underlying121 sizeOf22 zeroValue22 rfl rfl (pv:=[(0,v10),(1,v11)]) ⟨rfl,(S.tm rfl),rfl,(S.tm rfl),trivial⟩ (cs:=[v10,v11]) (Sn (Ey hs4) (Ey hs5)) rfl ?_;clear S;intro a w32 b11 hz18 hk29 S
        refine Ld (Hb (Keep.none hk29) (Gq 5 (by kernel_rfl) rfl ?_))
        refine Mi Lj Hi S (S.tm rfl) (i:=1) rfl (S.tm rfl) (j:=2) rfl (ys:=[y1]) rfl rfl rfl rfl (by have:=Ky hc1;omega) rfl ?_;clear S;intro v30 a w33 hk30 hf5 S
        refine Ld ?_
        refine Nk (v30.ownBlock.toList ++ (v1.ownBlock.toList ++ [Ag])) (hk30.sub (by intro y hy;simp at hy ⊢;simp [hy])) (by intro y hy;simp at hy ⊢;exact (hy.elim (fun hy=>(by rcases hf5 y hy with hy | hy <;> simp [hy])) (fun hy=>(hy.elim (fun hy=>(by simp [hy])) (fun hy=>(by simp [hy])))))) ?_
        refine Gq 14 (by kernel_rfl) rfl ?_
        have hr14 : Ko (So (join (view w X) φ1)) ([cut Aq 0 (i1 : Int),cut Aq (W ((i1 : Int) + 1)) Aq.length] : List (List Int)) ([⟨v10,Fl.one (Ey hs4)⟩,⟨v11,Fl.one (Ey hs5)⟩] : List RS):=(Ko.cons (hs4.mono (le_join_left _ _)) (Ko.cons (hs5.mono (le_join_left _ _)) Ko.nil))
        replace S:=S.litOwn (i:=0) (xs:=([⟨v10,Fl.one (Ey hs4)⟩,⟨v11,Fl.one (Ey hs5)⟩] : List RS)) rfl RS.enc_ok rfl rfl rfl
        replace S:=S.nk [.own (.slice (some ⟨b11,0,none⟩) 2 2) 22 1 ([⟨v10,Fl.one (Ey hs4)⟩,⟨v11,Fl.one (Ey hs5)⟩] : List RS).length (([⟨v10,Fl.one (Ey hs4)⟩,⟨v11,Fl.one (Ey hs5)⟩] : List RS).flatMap RS.enc),.own v30 3 1 (r1 ++ [y1]).length ((r1 ++ [y1]).flatMap eInt),.blk b9 [iV y1] 3,.blk Ag [Aa,iV Ac,V,iV Af,v1,iV x1,iV x2,bV x3] 70,.own v1 3 1 x4.length (x4.flatMap eInt),.own Ah 3 1 Aj.length (Aj.flatMap eInt)] [(0,.pointer (some ⟨Ag,0,none⟩)),(1,Ah),(2,Bf),(6,iV (i1 : Int)),(7,iV y1),(24,Bf),(25,iV (Aq.length : Int)),(26,iV (i1 : Int)),(27,bV (decide ((i1 : Int) < (Aq.length : Int)))),(28,iV (i1 : Int)),(29,.pointer (some ⟨b1,o1,none⟩)),(30,iV y1),(31,.pointer (some ⟨Ag,0,none⟩)),(32,Ah),(33,v25),(34,iV y1),(35,.slice (some ⟨b9,0,none⟩) 1 1),(36,v30),(37,Bf),(38,iV (i1 : Int)),(39,v10),(40,Bf),(41,iV (i1 : Int)),(42,iV (W ((i1 : Int) + 1))),(43,v11),(44,(.slice (some ⟨b11,0,none⟩) 2 2))] [] rfl (subR rfl)
        have hz19:=S.keep.size
        refine Fo S (fun _=>Fa (vs:=[(.slice (some ⟨b11,0,none⟩) 2 2)]) ⟨(S.tm rfl),trivial⟩ call54) (Kk _ (.slice (some ⟨b11,0,none⟩) 2 2) ([cut Aq 0 (i1 : Int),cut Aq (W ((i1 : Int) + 1)) Aq.length] : List (List Int)) ([⟨v10,Fl.one (Ey hs4)⟩,⟨v11,Fl.one (Ey hs5)⟩] : List RS) (Ll RS.enc_ok S (i:=0) rfl (Ij (e':=.own (.slice (some ⟨b11,0,none⟩) 2 2) 22 1 ([⟨v10,Fl.one (Ey hs4)⟩,⟨v11,Fl.one (Ey hs5)⟩] : List RS).length (([⟨v10,Fl.one (Ey hs4)⟩,⟨v11,Fl.one (Ey hs5)⟩] : List RS).flatMap RS.enc)))) (Tx (Tw (S.le_arg Fy) (S.le_new Fy)) hr14) _ hr6) rfl ?_;clear S;intro v31 a w34 hv14 hk31 hn14 S
        obtain ⟨φ8,hl8,hm7,S⟩:=S.see' hn14 hz19
        have hs10:=hv14.mono hm7
        refine Ld (Hb (Keep.none hk31) (Gq 15 (by kernel_rfl) rfl (Pc [3,4,1] [0,2,5] (Ls:=[.blk Ag [Aa,iV Ac,V,iV Af,v1,iV x1,iV x2,bV x3] 70,.own v1 3 1 x4.length (x4.flatMap eInt),.own v30 3 1 (r1 ++ [y1]).length ((r1 ++ [y1]).flatMap eInt)]) (Lr:=[.own (.slice (some ⟨b11,0,none⟩) 2 2) 22 1 ([⟨v10,Fl.one (Ey hs4)⟩,⟨v11,Fl.one (Ey hs5)⟩] : List RS).length (([⟨v10,Fl.one (Ey hs4)⟩,⟨v11,Fl.one (Ey hs5)⟩] : List RS).flatMap RS.enc),.blk b9 [iV y1] 3,.own Ah 3 1 Aj.length (Aj.flatMap eInt)]) (Y:=[Ag] ++ (v1.ownBlock.toList ++ v30.ownBlock.toList)) S rfl rfl rfl (by simp [Im,Ju,LEnt.fp]) (fun _=>Fa (vs:=[.pointer (some ⟨Ag,0,none⟩),v30,v31]) ⟨(S.tm rfl),(S.tm rfl),(S.tm rfl),trivial⟩ call33) (hself _ ([Ag] ++ (v1.ownBlock.toList ++ v30.ownBlock.toList)) Ag Aa Am (Bq.mono (S.le_arg (Fq (Fh (i:=3) (e:=.blk Ag [Aa,iV Ac,V,iV Af,v1,iV x1,iV x2,bV x3] 70) rfl) (Fq (Fh (i:=4) (e:=.own v1 3 1 x4.length (x4.flatMap eInt)) rfl) (Fh (i:=1) (e:=.own v30 3 1 (r1 ++ [y1]).length ((r1 ++ [y1]).flatMap eInt)) rfl))))) Ac V Bj Bm (Bx.mono (S.le_arg (Fq (Fh (i:=3) (e:=.blk Ag [Aa,iV Ac,V,iV Af,v1,iV x1,iV x2,bV x3] 70) rfl) (Fq (Fh (i:=4) (e:=.own v1 3 1 x4.length (x4.flatMap eInt)) rfl) (Fh (i:=1) (e:=.own v30 3 1 (r1 ++ [y1]).length ((r1 ++ [y1]).flatMap eInt)) rfl))))) (Ry (S.le_arg (Fq (Fh (i:=3) (e:=.blk Ag [Aa,iV Ac,V,iV Af,v1,iV x1,iV x2,bV x3] 70) rfl) (Fq (Fh (i:=4) (e:=.own v1 3 1 x4.length (x4.flatMap eInt)) rfl) (Fh (i:=1) (e:=.own v30 3 1 (r1 ++ [y1]).length ((r1 ++ [y1]).flatMap eInt)) rfl)))) By) Af v1 x4 (S.holds _ (List.mem_of_getElem? (i:=4) rfl)) x1 x2 x3 (S.holds _ (List.mem_of_getElem? (i:=3) rfl)) v30 (r1 ++ [y1]) (S.holds _ (List.mem_of_getElem? (i:=1) rfl)) v31 r2 ((Gw Hi hs10).mono (S.le_new (Fq (Fh (i:=3) (e:=.blk Ag [Aa,iV Ac,V,iV Af,v1,iV x1,iV x2,bV x3] 70) rfl) (Fq (Fh (i:=4) (e:=.own v1 3 1 x4.length (x4.flatMap eInt)) rfl) (Fh (i:=1) (e:=.own v30 3 1 (r1 ++ [y1]).length ((r1 ++ [y1]).flatMap eInt)) rfl))))) (S.ndg [3,4,1] [0,2,5] rfl rfl rfl (by simp [Im,Ju,LEnt.fp])) (by simp [Im,Ju,LEnt.fp]) _ hr7) rfl ?_)));clear S;intro v32 a w35 hv15 hk32 hn15 S
        obtain ⟨v33,hg6,hv15⟩:=hv15;replace S:=S _ hg6;clear hg6
        subst hv15
        refine Ld ?_
        refine Hb (hk32.sub (by intro y hy;simp at hy ⊢;rcases hy with hy | hy | hy <;> simp [hy])) ?_
        refine Ss (by kernel_rfl) ?_
        clear hsel
        replace S:=(S.nl [.blk Ag [Aa,iV Ac,V,iV Af,v33,iV r3.2.1,iV r3.2.2.1,bV r3.2.2.2] 70,.own v33 3 1 r3.1.length (r3.1.flatMap eInt),.own Ah 3 1 Aj.length (Aj.flatMap eInt)] [true,true,false,false,true] rfl).k6 0 1 2 24 25 26 rfl
        exact Tn (⟨r3.2.1,r3.2.2.1,r3.2.2.2,r3.1,φ8,v33,h,hl8,S.nf [true,true,true] rfl (subR rfl)⟩)
      ·refine Fw S underlying121 sizeOf22 zeroValue22 rfl rfl (pv:=[(0,v10),(1,v11)]) ⟨rfl,(S.tm rfl),rfl,(S.tm rfl),trivial⟩ (cs:=[v10,v11]) (Sn (Ey hs4) (Ey hs5)) rfl ?_;clear S;intro a w36 b12 hz20 hk33 S
       refine Ld (Hb (Keep.none hk33) (Gq 2 (by kernel_rfl) rfl ?_))
       have hz21:=S.keep.size
       refine Fo S (fun _=>Fa (vs:=[Ah]) ⟨(S.tm rfl),trivial⟩ call53) (Nj _ Ah Aj (Ll Hi S (i:=4) rfl (Ij (e':=.own Ah 3 1 Aj.length (Aj.flatMap eInt)))) _ hr2) rfl ?_;clear S;intro v34 a w37 hv16 hk34 hn16 S
       replace S:=S.take hn16 hz21 hv16
       refine Ld (Nk (v34.ownBlock.toList ++ (v1.ownBlock.toList ++ [Ag])) (Keep.none hk34) (BA hv16) (Gq 5 (by kernel_rfl) rfl ?_))
       refine Mi Lj Hi S (S.tm rfl) (i:=0) rfl (S.tm rfl) (j:=2) rfl (ys:=[y1]) rfl rfl rfl rfl (by have:=Ky hc1;omega) rfl ?_;clear S;intro v35 a w38 hk35 hf6 S
       refine Ld ?_
       refine Nk (v35.ownBlock.toList ++ (v1.ownBlock.toList ++ [Ag])) (hk35.sub (by intro y hy;simp at hy ⊢;simp [hy])) (by intro y hy;simp at hy ⊢;exact (hy.elim (fun hy=>(by rcases hf6 y hy with hy | hy <;> simp [hy])) (fun hy=>(hy.elim (fun hy=>(by simp [hy])) (fun hy=>(by simp [hy])))))) ?_
       refine Gq 14 (by kernel_rfl) rfl ?_
       have hr15 : Ko (So (join (view w X) φ1)) ([cut Aq 0 (i1 : Int),cut Aq (W ((i1 : Int) + 1)) Aq.length] : List (List Int)) ([⟨v10,Fl.one (Ey hs4)⟩,⟨v11,Fl.one (Ey hs5)⟩] : List RS):=(Ko.cons (hs4.mono (le_join_left _ _)) (Ko.cons (hs5.mono (le_join_left _ _)) Ko.nil))
       replace S:=S.litOwn (i:=1) (xs:=([⟨v10,Fl.one (Ey hs4)⟩,⟨v11,Fl.one (Ey hs5)⟩] : List RS)) rfl RS.enc_ok rfl rfl rfl
       replace S:=S.nk [.own v35 3 1 (r1 ++ [y1]).length ((r1 ++ [y1]).flatMap eInt),.own (.slice (some ⟨b12,0,none⟩) 2 2) 22 1 ([⟨v10,Fl.one (Ey hs4)⟩,⟨v11,Fl.one (Ey hs5)⟩] : List RS).length (([⟨v10,Fl.one (Ey hs4)⟩,⟨v11,Fl.one (Ey hs5)⟩] : List RS).flatMap RS.enc),.blk b9 [iV y1] 3,.blk Ag [Aa,iV Ac,V,iV Af,v1,iV x1,iV x2,bV x3] 70,.own v1 3 1 x4.length (x4.flatMap eInt),.own Ah 3 1 Aj.length (Aj.flatMap eInt)] [(0,.pointer (some ⟨Ag,0,none⟩)),(1,Ah),(2,Bf),(6,iV (i1 : Int)),(7,iV y1),(24,Bf),(25,iV (Aq.length : Int)),(26,iV (i1 : Int)),(27,bV (decide ((i1 : Int) < (Aq.length : Int)))),(28,iV (i1 : Int)),(29,.pointer (some ⟨b1,o1,none⟩)),(30,iV y1),(31,.pointer (some ⟨Ag,0,none⟩)),(32,Ah),(33,v34),(34,iV y1),(35,.slice (some ⟨b9,0,none⟩) 1 1),(36,v35),(37,Bf),(38,iV (i1 : Int)),(39,v10),(40,Bf),(41,iV (i1 : Int)),(42,iV (W ((i1 : Int) + 1))),(43,v11),(44,(.slice (some ⟨b12,0,none⟩) 2 2))] [] rfl (subR rfl)
       have hz22:=S.keep.size
       refine Fo S (fun _=>Fa (vs:=[(.slice (some ⟨b12,0,none⟩) 2 2)]) ⟨(S.tm rfl),trivial⟩ call54) (Kk _ (.slice (some ⟨b12,0,none⟩) 2 2) ([cut Aq 0 (i1 : Int),cut Aq (W ((i1 : Int) + 1)) Aq.length] : List (List Int)) ([⟨v10,Fl.one (Ey hs4)⟩,⟨v11,Fl.one (Ey hs5)⟩] : List RS) (Ll RS.enc_ok S (i:=1) rfl (Ij (e':=.own (.slice (some ⟨b12,0,none⟩) 2 2) 22 1 ([⟨v10,Fl.one (Ey hs4)⟩,⟨v11,Fl.one (Ey hs5)⟩] : List RS).length (([⟨v10,Fl.one (Ey hs4)⟩,⟨v11,Fl.one (Ey hs5)⟩] : List RS).flatMap RS.enc)))) (Tx (Tw (S.le_arg Fy) (S.le_new Fy)) hr15) _ hr6) rfl ?_;clear S;intro v36 a w39 hv17 hk36 hn17 S
       obtain ⟨φ9,hl9,hm8,S⟩:=S.see' hn17 hz22
       have hs11:=hv17.mono hm8
       refine Ld (Hb (Keep.none hk36) (Gq 15 (by kernel_rfl) rfl (Pc [3,4,0] [1,2,5] (Ls:=[.blk Ag [Aa,iV Ac,V,iV Af,v1,iV x1,iV x2,bV x3] 70,.own v1 3 1 x4.length (x4.flatMap eInt),.own v35 3 1 (r1 ++ [y1]).length ((r1 ++ [y1]).flatMap eInt)]) (Lr:=[.own (.slice (some ⟨b12,0,none⟩) 2 2) 22 1 ([⟨v10,Fl.one (Ey hs4)⟩,⟨v11,Fl.one (Ey hs5)⟩] : List RS).length (([⟨v10,Fl.one (Ey hs4)⟩,⟨v11,Fl.one (Ey hs5)⟩] : List RS).flatMap RS.enc),.blk b9 [iV y1] 3,.own Ah 3 1 Aj.length (Aj.flatMap eInt)]) (Y:=[Ag] ++ (v1.ownBlock.toList ++ v35.ownBlock.toList)) S rfl rfl rfl (by simp [Im,Ju,LEnt.fp]) (fun _=>Fa (vs:=[.pointer (some ⟨Ag,0,none⟩),v35,v36]) ⟨(S.tm rfl),(S.tm rfl),(S.tm rfl),trivial⟩ call33) (hself _ ([Ag] ++ (v1.ownBlock.toList ++ v35.ownBlock.toList)) Ag Aa Am (Bq.mono (S.le_arg (Fq (Fh (i:=3) (e:=.blk Ag [Aa,iV Ac,V,iV Af,v1,iV x1,iV x2,bV x3] 70) rfl) (Fq (Fh (i:=4) (e:=.own v1 3 1 x4.length (x4.flatMap eInt)) rfl) (Fh (i:=0) (e:=.own v35 3 1 (r1 ++ [y1]).length ((r1 ++ [y1]).flatMap eInt)) rfl))))) Ac V Bj Bm (Bx.mono (S.le_arg (Fq (Fh (i:=3) (e:=.blk Ag [Aa,iV Ac,V,iV Af,v1,iV x1,iV x2,bV x3] 70) rfl) (Fq (Fh (i:=4) (e:=.own v1 3 1 x4.length (x4.flatMap eInt)) rfl) (Fh (i:=0) (e:=.own v35 3 1 (r1 ++ [y1]).length ((r1 ++ [y1]).flatMap eInt)) rfl))))) (Ry (S.le_arg (Fq (Fh (i:=3) (e:=.blk Ag [Aa,iV Ac,V,iV Af,v1,iV x1,iV x2,bV x3] 70) rfl) (Fq (Fh (i:=4) (e:=.own v1 3 1 x4.length (x4.flatMap eInt)) rfl) (Fh (i:=0) (e:=.own v35 3 1 (r1 ++ [y1]).length ((r1 ++ [y1]).flatMap eInt)) rfl)))) By) Af v1 x4 (S.holds _ (List.mem_of_getElem? (i:=4) rfl)) x1 x2 x3 (S.holds _ (List.mem_of_getElem? (i:=3) rfl)) v35 (r1 ++ [y1]) (S.holds _ (List.mem_of_getElem? (i:=0) rfl)) v36 r2 ((Gw Hi hs11).mono (S.le_new (Fq (Fh (i:=3) (e:=.blk Ag [Aa,iV Ac,V,iV Af,v1,iV x1,iV x2,bV x3] 70) rfl) (Fq (Fh (i:=4) (e:=.own v1 3 1 x4.length (x4.flatMap eInt)) rfl) (Fh (i:=0) (e:=.own v35 3 1 (r1 ++ [y1]).length ((r1 ++ [y1]).flatMap eInt)) rfl))))) (S.ndg [3,4,0] [1,2,5] rfl rfl rfl (by simp [Im,Ju,LEnt.fp])) (by simp [Im,Ju,LEnt.fp]) _ hr7) rfl ?_)));clear S;intro v37 a w40 hv18 hk37 hn18 S
       obtain ⟨v38,hg7,hv18⟩:=hv18;replace S:=S _ hg7;clear hg7
       subst hv18
       refine Ld ?_
       refine Hb (hk37.sub (by intro y hy;simp at hy ⊢;rcases hy with hy | hy | hy <;> simp [hy])) ?_
       refine Ss (by kernel_rfl) ?_
       clear hsel
       replace S:=(S.nl [.blk Ag [Aa,iV Ac,V,iV Af,v38,iV r3.2.1,iV r3.2.2.1,bV r3.2.2.2] 70,.own v38 3 1 r3.1.length (r3.1.flatMap eInt),.own Ah 3 1 Aj.length (Aj.flatMap eInt)] [true,true,false,false,true] rfl).k6 0 1 2 24 25 26 rfl
       exact Tn (⟨r3.2.1,r3.2.2.1,r3.2.2.2,r3.1,φ9,v38,h,hl9,S.nf [true,true,true] rfl (subR rfl)⟩)
     ·refine Fw S underlying121 sizeOf22 zeroValue22 rfl rfl (pv:=[(0,v10),(1,v11)]) ⟨rfl,(S.tm rfl),rfl,(S.tm rfl),trivial⟩ (cs:=[v10,v11]) (Sn (Ey hs4) (Ey hs5)) rfl ?_;clear S;intro a w41 b13 hz23 hk38 S
      refine Ld (Hb (Keep.none hk38) (Tv 2 4 (by kernel_rfl) rfl rfl ?_ ?_))
      ·have hz24:=S.keep.size
       refine Fo S (fun _=>Fa (vs:=[Ah]) ⟨(S.tm rfl),trivial⟩ call53) (Nj _ Ah Aj (Ll Hi S (i:=3) rfl (Ij (e':=.own Ah 3 1 Aj.length (Aj.flatMap eInt)))) _ hr2) rfl ?_;clear S;intro v39 a w42 hv19 hk39 hn19 S
       replace S:=S.take hn19 hz24 hv19
       refine Ld (Nk (v39.ownBlock.toList ++ (v1.ownBlock.toList ++ [Ag])) (Keep.none hk39) (BA hv19) (Gq 4 (by kernel_rfl) rfl (Fw S underlying22 sizeOf3 zeroValue3 rfl rfl (pv:=[(0,iV y1)]) ⟨rfl,(S.tm rfl),trivial⟩ (cs:=[iV y1]) (by kernel_rfl) rfl ?_)));clear S;intro a w43 b14 hz25 hk40 S
       refine Ld (Hb (Keep.none hk40) (Gq 5 (by kernel_rfl) rfl ?_))
       refine Mi Lj Hi S (S.tm rfl) (i:=1) rfl (S.tm rfl) (j:=0) rfl (ys:=[y1]) rfl rfl rfl rfl (by have:=Ky hc1;omega) rfl ?_;clear S;intro v40 a w44 hk41 hf7 S
       refine Ld ?_
       refine Nk (v40.ownBlock.toList ++ (v1.ownBlock.toList ++ [Ag])) (hk41.sub (by intro y hy;simp at hy ⊢;simp [hy])) (by intro y hy;simp at hy ⊢;exact (hy.elim (fun hy=>(by rcases hf7 y hy with hy | hy <;> simp [hy])) (fun hy=>(hy.elim (fun hy=>(by simp [hy])) (fun hy=>(by simp [hy])))))) ?_
       refine Gq 14 (by kernel_rfl) rfl ?_
       have hr16 : Ko (So (join (view w X) φ1)) ([cut Aq 0 (i1 : Int),cut Aq (W ((i1 : Int) + 1)) Aq.length] : List (List Int)) ([⟨v10,Fl.one (Ey hs4)⟩,⟨v11,Fl.one (Ey hs5)⟩] : List RS):=(Ko.cons (hs4.mono (le_join_left _ _)) (Ko.cons (hs5.mono (le_join_left _ _)) Ko.nil))
       replace S:=S.litOwn (i:=2) (xs:=([⟨v10,Fl.one (Ey hs4)⟩,⟨v11,Fl.one (Ey hs5)⟩] : List RS)) rfl RS.enc_ok rfl rfl rfl
       replace S:=S.nk [.blk b14 [iV y1] 3,.own v40 3 1 (r1 ++ [y1]).length ((r1 ++ [y1]).flatMap eInt),.own (.slice (some ⟨b13,0,none⟩) 2 2) 22 1 ([⟨v10,Fl.one (Ey hs4)⟩,⟨v11,Fl.one (Ey hs5)⟩] : List RS).length (([⟨v10,Fl.one (Ey hs4)⟩,⟨v11,Fl.one (Ey hs5)⟩] : List RS).flatMap RS.enc),.blk Ag [Aa,iV Ac,V,iV Af,v1,iV x1,iV x2,bV x3] 70,.own v1 3 1 x4.length (x4.flatMap eInt),.own Ah 3 1 Aj.length (Aj.flatMap eInt)] [(0,.pointer (some ⟨Ag,0,none⟩)),(1,Ah),(2,Bf),(6,iV (i1 : Int)),(7,iV y1),(24,Bf),(25,iV (Aq.length : Int)),(26,iV (i1 : Int)),(27,bV (decide ((i1 : Int) < (Aq.length : Int)))),(28,iV (i1 : Int)),(29,.pointer (some ⟨b1,o1,none⟩)),(30,iV y1),(31,.pointer (some ⟨Ag,0,none⟩)),(32,Ah),(33,v39),(34,iV y1),(35,.slice (some ⟨b14,0,none⟩) 1 1),(36,v40),(37,Bf),(38,iV (i1 : Int)),(39,v10),(40,Bf),(41,iV (i1 : Int)),(42,iV (W ((i1 : Int) + 1))),(43,v11),(44,(.slice (some ⟨b13,0,none⟩) 2 2))] [] rfl (subR rfl)
       have hz26:=S.keep.size
       refine Fo S (fun _=>Fa (vs:=[(.slice (some ⟨b13,0,none⟩) 2 2)]) ⟨(S.tm rfl),trivial⟩ call54) (Kk _ (.slice (some ⟨b13,0,none⟩) 2 2) ([cut Aq 0 (i1 : Int),cut Aq (W ((i1 : Int) + 1)) Aq.length] : List (List Int)) ([⟨v10,Fl.one (Ey hs4)⟩,⟨v11,Fl.one (Ey hs5)⟩] : List RS) (Ll RS.enc_ok S (i:=2) rfl (Ij (e':=.own (.slice (some ⟨b13,0,none⟩) 2 2) 22 1 ([⟨v10,Fl.one (Ey hs4)⟩,⟨v11,Fl.one (Ey hs5)⟩] : List RS).length (([⟨v10,Fl.one (Ey hs4)⟩,⟨v11,Fl.one (Ey hs5)⟩] : List RS).flatMap RS.enc)))) (Tx (Tw (S.le_arg Fy) (S.le_new Fy)) hr16) _ hr6) rfl ?_;clear S;intro v41 a w45 hv20 hk42 hn20 S
       obtain ⟨φ10,hl10,hm9,S⟩:=S.see' hn20 hz26
       have hs12:=hv20.mono hm9
       refine Ld (Hb (Keep.none hk42) (Gq 15 (by kernel_rfl) rfl (Pc [3,4,1] [0,2,5] (Ls:=[.blk Ag [Aa,iV Ac,V,iV Af,v1,iV x1,iV x2,bV x3] 70,.own v1 3 1 x4.length (x4.flatMap eInt),.own v40 3 1 (r1 ++ [y1]).length ((r1 ++ [y1]).flatMap eInt)]) (Lr:=[.blk b14 [iV y1] 3,.own (.slice (some ⟨b13,0,none⟩) 2 2) 22 1 ([⟨v10,Fl.one (Ey hs4)⟩,⟨v11,Fl.one (Ey hs5)⟩] : List RS).length (([⟨v10,Fl.one (Ey hs4)⟩,⟨v11,Fl.one (Ey hs5)⟩] : List RS).flatMap RS.enc),.own Ah 3 1 Aj.length (Aj.flatMap eInt)]) (Y:=[Ag] ++ (v1.ownBlock.toList ++ v40.ownBlock.toList)) S rfl rfl rfl (by simp [Im,Ju,LEnt.fp]) (fun _=>Fa (vs:=[.pointer (some ⟨Ag,0,none⟩),v40,v41]) ⟨(S.tm rfl),(S.tm rfl),(S.tm rfl),trivial⟩ call33) (hself _ ([Ag] ++ (v1.ownBlock.toList ++ v40.ownBlock.toList)) Ag Aa Am (Bq.mono (S.le_arg (Fq (Fh (i:=3) (e:=.blk Ag [Aa,iV Ac,V,iV Af,v1,iV x1,iV x2,bV x3] 70) rfl) (Fq (Fh (i:=4) (e:=.own v1 3 1 x4.length (x4.flatMap eInt)) rfl) (Fh (i:=1) (e:=.own v40 3 1 (r1 ++ [y1]).length ((r1 ++ [y1]).flatMap eInt)) rfl))))) Ac V Bj Bm (Bx.mono (S.le_arg (Fq (Fh (i:=3) (e:=.blk Ag [Aa,iV Ac,V,iV Af,v1,iV x1,iV x2,bV x3] 70) rfl) (Fq (Fh (i:=4) (e:=.own v1 3 1 x4.length (x4.flatMap eInt)) rfl) (Fh (i:=1) (e:=.own v40 3 1 (r1 ++ [y1]).length ((r1 ++ [y1]).flatMap eInt)) rfl))))) (Ry (S.le_arg (Fq (Fh (i:=3) (e:=.blk Ag [Aa,iV Ac,V,iV Af,v1,iV x1,iV x2,bV x3] 70) rfl) (Fq (Fh (i:=4) (e:=.own v1 3 1 x4.length (x4.flatMap eInt)) rfl) (Fh (i:=1) (e:=.own v40 3 1 (r1 ++ [y1]).length ((r1 ++ [y1]).flatMap eInt)) rfl)))) By) Af v1 x4 (S.holds _ (List.mem_of_getElem? (i:=4) rfl)) x1 x2 x3 (S.holds _ (List.mem_of_getElem? (i:=3) rfl)) v40 (r1 ++ [y1]) (S.holds _ (List.mem_of_getElem? (i:=1) rfl)) v41 r2 ((Gw Hi hs12).mono (S.le_new (Fq (Fh (i:=3) (e:=.blk Ag [Aa,iV Ac,V,iV Af,v1,iV x1,iV x2,bV x3] 70) rfl) (Fq (Fh (i:=4) (e:=.own v1 3 1 x4.length (x4.flatMap eInt)) rfl) (Fh (i:=1) (e:=.own v40 3 1 (r1 ++ [y1]).length ((r1 ++ [y1]).flatMap eInt)) rfl))))) (S.ndg [3,4,1] [0,2,5] rfl rfl rfl (by simp [Im,Ju,LEnt.fp])) (by simp [Im,Ju,LEnt.fp]) _ hr7) rfl ?_)));clear S;intro v42 a w46 hv21 hk43 hn21 S
       obtain ⟨v43,hg8,hv21⟩:=hv21;replace S:=S _ hg8;clear hg8
       subst hv21
       refine Ld ?_
       refine Hb (hk43.sub (by intro y hy;simp at hy ⊢;rcases hy with hy | hy | hy <;> simp [hy])) ?_
       refine Ss (by kernel_rfl) ?_
       clear hsel
       replace S:=(S.nl [.blk Ag [Aa,iV Ac,V,iV Af,v43,iV r3.2.1,iV r3.2.2.1,bV r3.2.2.2] 70,.own v43 3 1 r3.1.length (r3.1.flatMap eInt),.own Ah 3 1 Aj.length (Aj.flatMap eInt)] [true,true,false,false,true] rfl).k6 0 1 2 24 25 26 rfl
       exact Tn (⟨r3.2.1,r3.2.2.1,r3.2.2.2,r3.1,φ10,v43,h,hl10,S.nf [true,true,true] rfl (subR rfl)⟩)
      ·refine Fw S underlying22 sizeOf3 zeroValue3 rfl rfl (pv:=[(0,iV y1)]) ⟨rfl,(S.tm rfl),trivial⟩ (cs:=[iV y1]) (by kernel_rfl) rfl ?_;clear S;intro a w47 b15 hz27 hk44 S
       refine Ld (Hb (Keep.none hk44) (Gq 2 (by kernel_rfl) rfl ?_))
       have hz28:=S.keep.size
       refine Fo S (fun _=>Fa (vs:=[Ah]) ⟨(S.tm rfl),trivial⟩ call53) (Nj _ Ah Aj (Ll Hi S (i:=4) rfl (Ij (e':=.own Ah 3 1 Aj.length (Aj.flatMap eInt)))) _ hr2) rfl ?_;clear S;intro v44 a w48 hv22 hk45 hn22 S
       replace S:=S.take hn22 hz28 hv22
       refine Ld (Nk (v44.ownBlock.toList ++ (v1.ownBlock.toList ++ [Ag])) (Keep.none hk45) (BA hv22) (Gq 5 (by kernel_rfl) rfl ?_))
       refine Mi Lj Hi S (S.tm rfl) (i:=0) rfl (S.tm rfl) (j:=1) rfl (ys:=[y1]) rfl rfl rfl rfl (by have:=Ky hc1;omega) rfl ?_;clear S;intro v45 a w49 hk46 hf8 S
       refine Ld ?_
       refine Nk (v45.ownBlock.toList ++ (v1.ownBlock.toList ++ [Ag])) (hk46.sub (by intro y hy;simp at hy ⊢;simp [hy])) (by intro y hy;simp at hy ⊢;exact (hy.elim (fun hy=>(by rcases hf8 y hy with hy | hy <;> simp [hy])) (fun hy=>(hy.elim (fun hy=>(by simp [hy])) (fun hy=>(by simp [hy])))))) ?_
       refine Gq 14 (by kernel_rfl) rfl ?_
       have hr17 : Ko (So (join (view w X) φ1)) ([cut Aq 0 (i1 : Int),cut Aq (W ((i1 : Int) + 1)) Aq.length] : List (List Int)) ([⟨v10,Fl.one (Ey hs4)⟩,⟨v11,Fl.one (Ey hs5)⟩] : List RS):=(Ko.cons (hs4.mono (le_join_left _ _)) (Ko.cons (hs5.mono (le_join_left _ _)) Ko.nil))
       replace S:=S.litOwn (i:=2) (xs:=([⟨v10,Fl.one (Ey hs4)⟩,⟨v11,Fl.one (Ey hs5)⟩] : List RS)) rfl RS.enc_ok rfl rfl rfl
       replace S:=S.nk [.own v45 3 1 (r1 ++ [y1]).length ((r1 ++ [y1]).flatMap eInt),.blk b15 [iV y1] 3,.own (.slice (some ⟨b13,0,none⟩) 2 2) 22 1 ([⟨v10,Fl.one (Ey hs4)⟩,⟨v11,Fl.one (Ey hs5)⟩] : List RS).length (([⟨v10,Fl.one (Ey hs4)⟩,⟨v11,Fl.one (Ey hs5)⟩] : List RS).flatMap RS.enc),.blk Ag [Aa,iV Ac,V,iV Af,v1,iV x1,iV x2,bV x3] 70,.own v1 3 1 x4.length (x4.flatMap eInt),.own Ah 3 1 Aj.length (Aj.flatMap eInt)] [(0,.pointer (some ⟨Ag,0,none⟩)),(1,Ah),(2,Bf),(6,iV (i1 : Int)),(7,iV y1),(24,Bf),(25,iV (Aq.length : Int)),(26,iV (i1 : Int)),(27,bV (decide ((i1 : Int) < (Aq.length : Int)))),(28,iV (i1 : Int)),(29,.pointer (some ⟨b1,o1,none⟩)),(30,iV y1),(31,.pointer (some ⟨Ag,0,none⟩)),(32,Ah),(33,v44),(34,iV y1),(35,.slice (some ⟨b15,0,none⟩) 1 1),(36,v45),(37,Bf),(38,iV (i1 : Int)),(39,v10),(40,Bf),(41,iV (i1 : Int)),(42,iV (W ((i1 : Int) + 1))),(43,v11),(44,(.slice (some ⟨b13,0,none⟩) 2 2))] [] rfl (subR rfl)
       have hz29:=S.keep.size
       refine Fo S (fun _=>Fa (vs:=[(.slice (some ⟨b13,0,none⟩) 2 2)]) ⟨(S.tm rfl),trivial⟩ call54) (Kk _ (.slice (some ⟨b13,0,none⟩) 2 2) ([cut Aq 0 (i1 : Int),cut Aq (W ((i1 : Int) + 1)) Aq.length] : List (List Int)) ([⟨v10,Fl.one (Ey hs4)⟩,⟨v11,Fl.one (Ey hs5)⟩] : List RS) (Ll RS.enc_ok S (i:=2) rfl (Ij (e':=.own (.slice (some ⟨b13,0,none⟩) 2 2) 22 1 ([⟨v10,Fl.one (Ey hs4)⟩,⟨v11,Fl.one (Ey hs5)⟩] : List RS).length (([⟨v10,Fl.one (Ey hs4)⟩,⟨v11,Fl.one (Ey hs5)⟩] : List RS).flatMap RS.enc)))) (Tx (Tw (S.le_arg Fy) (S.le_new Fy)) hr17) _ hr6) rfl ?_;clear S;intro v46 a w50 hv23 hk47 hn23 S
       obtain ⟨φ11,hl11,hm10,S⟩:=S.see' hn23 hz29
       have hs13:=hv23.mono hm10
       refine Ld (Hb (Keep.none hk47) (Gq 15 (by kernel_rfl) rfl (Pc [3,4,0] [1,2,5] (Ls:=[.blk Ag [Aa,iV Ac,V,iV Af,v1,iV x1,iV x2,bV x3] 70,.own v1 3 1 x4.length (x4.flatMap eInt),.own v45 3 1 (r1 ++ [y1]).length ((r1 ++ [y1]).flatMap eInt)]) (Lr:=[.blk b15 [iV y1] 3,.own (.slice (some ⟨b13,0,none⟩) 2 2) 22 1 ([⟨v10,Fl.one (Ey hs4)⟩,⟨v11,Fl.one (Ey hs5)⟩] : List RS).length (([⟨v10,Fl.one (Ey hs4)⟩,⟨v11,Fl.one (Ey hs5)⟩] : List RS).flatMap RS.enc),.own Ah 3 1 Aj.length (Aj.flatMap eInt)]) (Y:=[Ag] ++ (v1.ownBlock.toList ++ v45.ownBlock.toList)) S rfl rfl rfl (by simp [Im,Ju,LEnt.fp]) (fun _=>Fa (vs:=[.pointer (some ⟨Ag,0,none⟩),v45,v46]) ⟨(S.tm rfl),(S.tm rfl),(S.tm rfl),trivial⟩ call33) (hself _ ([Ag] ++ (v1.ownBlock.toList ++ v45.ownBlock.toList)) Ag Aa Am (Bq.mono (S.le_arg (Fq (Fh (i:=3) (e:=.blk Ag [Aa,iV Ac,V,iV Af,v1,iV x1,iV x2,bV x3] 70) rfl) (Fq (Fh (i:=4) (e:=.own v1 3 1 x4.length (x4.flatMap eInt)) rfl) (Fh (i:=0) (e:=.own v45 3 1 (r1 ++ [y1]).length ((r1 ++ [y1]).flatMap eInt)) rfl))))) Ac V Bj Bm (Bx.mono (S.le_arg (Fq (Fh (i:=3) (e:=.blk Ag [Aa,iV Ac,V,iV Af,v1,iV x1,iV x2,bV x3] 70) rfl) (Fq (Fh (i:=4) (e:=.own v1 3 1 x4.length (x4.flatMap eInt)) rfl) (Fh (i:=0) (e:=.own v45 3 1 (r1 ++ [y1]).length ((r1 ++ [y1]).flatMap eInt)) rfl))))) (Ry (S.le_arg (Fq (Fh (i:=3) (e:=.blk Ag [Aa,iV Ac,V,iV Af,v1,iV x1,iV x2,bV x3] 70) rfl) (Fq (Fh (i:=4) (e:=.own v1 3 1 x4.length (x4.flatMap eInt)) rfl) (Fh (i:=0) (e:=.own v45 3 1 (r1 ++ [y1]).length ((r1 ++ [y1]).flatMap eInt)) rfl)))) By) Af v1 x4 (S.holds _ (List.mem_of_getElem? (i:=4) rfl)) x1 x2 x3 (S.holds _ (List.mem_of_getElem? (i:=3) rfl)) v45 (r1 ++ [y1]) (S.holds _ (List.mem_of_getElem? (i:=0) rfl)) v46 r2 ((Gw Hi hs13).mono (S.le_new (Fq (Fh (i:=3) (e:=.blk Ag [Aa,iV Ac,V,iV Af,v1,iV x1,iV x2,bV x3] 70) rfl) (Fq (Fh (i:=4) (e:=.own v1 3 1 x4.length (x4.flatMap eInt)) rfl) (Fh (i:=0) (e:=.own v45 3 1 (r1 ++ [y1]).length ((r1 ++ [y1]).flatMap eInt)) rfl))))) (S.ndg [3,4,0] [1,2,5] rfl rfl rfl (by simp [Im,Ju,LEnt.fp])) (by simp [Im,Ju,LEnt.fp]) _ hr7) rfl ?_)));clear S;intro v47 a w51 hv24 hk48 hn24 S
       obtain ⟨v48,hg9,hv24⟩:=hv24;replace S:=S _ hg9;clear hg9
       subst hv24
       refine Ld ?_
       refine Hb (hk48.sub (by intro y hy;simp at hy ⊢;rcases hy with hy | hy | hy <;> simp [hy])) ?_
       refine Ss (by kernel_rfl) ?_
       clear hsel
       replace S:=(S.nl [.blk Ag [Aa,iV Ac,V,iV Af,v48,iV r3.2.1,iV r3.2.2.1,bV r3.2.2.2] 70,.own v48 3 1 r3.1.length (r3.1.flatMap eInt),.own Ah 3 1 Aj.length (Aj.flatMap eInt)] [true,true,false,false,true] rfl).k6 0 1 2 24 25 26 rfl
       exact Tn (⟨r3.2.1,r3.2.2.1,r3.2.2.2,r3.1,φ11,v48,h,hl11,S.nf [true,true,true] rfl (subR rfl)⟩)
    clear S h;rintro a w3 ⟨x5,x6,x7,x8,φ2,v2,h,hl2,S⟩;rw [hj2] at h;clear hj2 j2
    exact Kb (Tn (Fg (Vq S Gx rfl rfl rfl fun a S=>Vm S rfl rfl fun a S=>Dl (⟨ys1,⟨i1 + 1,x5,x6,x7,x8,φ2,v2,⟨_,(hd1).trans (List.append_cons _ _ _),by simp [hi1]⟩,h,(View.le_trans hl1 hl2),S.nf [true,true,true] rfl ⟨rfl,rfl,rfl,rfl,rfl,(congrArg (fun z=>some (Value.int .i64 z)) (Ii hd1 hi1 (Kl Cv))),trivial⟩⟩,Nat.lt_succ_self _⟩))))
  clear S h;rintro a w2 ⟨x1,x2,x3,x4,φ1,v1,h,hl1,S⟩;rw [hj1] at h;clear hj1 j1
  refine Tn (wp_ret (Fk ?_))
  obtain rfl:=Option.some.inj h
  exact Tz S results33 ⟨v1,S.grp [0,1] [2] rfl rfl rfl,rfl⟩
 ·refine wp_skip (Tn (Fr (Vm S rfl rfl fun a S=>Vu S Fv rfl rfl fun a S=>Vf Yr S rfl rfl fun a S=>Vl isAgg26 0 S rfl rfl rfl rfl fun a S=>lv S (Gh Il (S.tm rfl) (Ey Bq)) rfl ?_)));clear S;intro a S
  obtain ⟨hc4,h⟩:=Ig h
  refine KV (Z:=0) S Lj Hi (by kernel_rfl) rfl rfl (S.tm rfl) (mk_lo hc4) (mk_hi hc4) rfl ?_;clear S;intro a w52 b16 hz30 hk49 S
  refine Va S rfl rfl fun a S=>Dz (Vk S rfl rfl fun a S=>Vk S rfl rfl fun a S=>Ld ?_)
  replace S:=(S.nl [.own (.slice (some ⟨b16,0,none⟩) ((Am.length : Int).toNat) ((Am.length : Int).toNat)) 3 1 (List.replicate ((Am.length : Int).toNat) 0 : List Int).length ((List.replicate ((Am.length : Int).toNat) 0 : List Int).flatMap eInt),.blk Ag [Aa,iV Ac,V,iV Af,Al,iV Ax,iV Ba,bV Bb] 70,.own Al 3 1 Az.length (Az.flatMap eInt),.own Ah 3 1 Aj.length (Aj.flatMap eInt)] [true,true,true,true] rfl).k5 0 1 8 9 10 rfl
  refine Tn (Fs (Fr (Vm S rfl rfl fun a S=>lv S (Gh Lj (S.tm rfl) (Ly (S.own_at (i:=3) rfl))) rfl fun a S=>lv S (Rm rfl) rfl fun a S=>Dl ?_)))
  replace S:=S.k8 0 1 8 9 10 54 55 56 rfl
  have hm11:=Yk (S.own_at (i:=3) rfl)
  obtain ⟨j3,hj3,h⟩:=Ha h
  refine Gv (fun a w'=>∃ x9 : List Int,∃ x11 : Int,∃ v49 : Value,j3 x9 x11 = some r ∧ Sx w X nov [.own v49 3 1 x9.length (x9.flatMap eInt),.blk Ag [Aa,iV Ac,V,iV Af,Al,iV Ax,iV Ba,bV Bb] 70,.own Al 3 1 Az.length (Az.flatMap eInt),.own Ah 3 1 Aj.length (Aj.flatMap eInt)] [(0,.pointer (some ⟨Ag,0,none⟩)),(1,Ah),(8,v49),(10,iV x11)] 208 a w') ?_ ?_
  ·refine wp_block (Iv (fun (ys2 : List Int) a w'=>∃ i2 : Nat,∃ x9 : List Int,∃ x10 : Int,∃ x11 : Int,∃ v49 : Value,(∃ dn,Aj = dn ++ ys2 ∧ dn.length = i2) ∧ Lv Am j3 ys2 i2 x9 x10 x11 = some r ∧ Sx w X nov [.own v49 3 1 x9.length (x9.flatMap eInt),.blk Ag [Aa,iV Ac,V,iV Af,Al,iV Ax,iV Ba,bV Bb] 70,.own Al 3 1 Az.length (Az.flatMap eInt),.own Ah 3 1 Aj.length (Aj.flatMap eInt)] [(0,.pointer (some ⟨Ag,0,none⟩)),(1,Ah),(8,v49),(9,iV x10),(10,iV x11),(54,Ah),(55,iV (Aj.length : Int)),(56,iV (i2 : Int))] 208 a w') List.length Aj ⟨0,(List.replicate ((Am.length : Int).toNat) 0 : List Int),0,0,(.slice (some ⟨b16,0,none⟩) ((Am.length : Int).toNat) ((Am.length : Int).toNat)),⟨[],rfl,rfl⟩,h,S.nf [true,true,true,true] rfl (subR rfl)⟩ ?_)
   clear S h;rintro ys2 a w53 ⟨i2,x9,x10,x11,v49,⟨dn,hd2,hi2⟩,h,S⟩
   cases ys2 with
   | nil =>
    rw [Lv.eq_1] at h
    refine Fr (Vb S Gb rfl rfl rfl fun a S=>Ld ?_)
    replace S:=S.k9 0 1 8 9 10 54 55 56 57 rfl
    exact Tn (Fs (wp_cond_false ((S.tm rfl).trans (congrArg Value.bool (Jr hd2 hi2))) (wp_exit (Gk (Gk (Jc (Tn (⟨x9,x11,v49,h,S.nf [true,true,true,true] rfl (subR rfl)⟩))))))))
   | cons y2 ys2 =>
    rw [Lv.eq_2] at h
    refine Fr (Vb S Gb rfl rfl rfl fun a S=>Ld ?_)
    replace S:=S.k9 0 1 8 9 10 54 55 56 57 rfl
    refine Tn (Fs (wp_cond_true ((S.tm rfl).trans (congrArg Value.bool (Ih hd2 hi2))) (wp_skip (Tn (Fs (wp_block (Fs (Fg ?_))))))))
    obtain ⟨b17,hg10,hr18⟩:=Hn (a:=a) (x:=.tmp 54) (y:=.tmp 56) (ty:=0) Lj Hi S (i:=3) rfl (Jd hd2 hi2) rfl (S.tm rfl) (S.tm rfl)
    refine lv S (hr18 _) rfl ?_;clear S;intro a S
    clear hr18
    refine lv S (Hr isAgg3 (off:=i2 * 1) (o:=0) (S.tm rfl) (Kx Hi S (i:=3) rfl hg10 (Jd hd2 hi2)) rfl) rfl fun a S=>Va S rfl rfl fun a S=>Dz (Vm S rfl rfl fun a S=>Vu S Fv rfl rfl fun a S=>Vf Yr S rfl rfl fun a S=>Vl isAgg26 1 S rfl rfl rfl rfl fun a S=>Vm S rfl rfl ?_);clear S;intro a S
    obtain ⟨hc5,h⟩:=Ig h
    obtain ⟨b18,o3,hm13,hr19⟩:=Gd (a:=a) (x:=.tmp 63) (y:=.tmp 64) (ty:=0) Il Bq (Ff hc5).1 (Ff hc5).2 (S.tm rfl) (S.tm rfl)
    refine lv S (hr19 _) rfl ?_;clear S;intro a S
    clear hr19
    refine lv S (Ji isAgg41 sizeOf41 (off:=o3) (o:=0) (part:=(An.enc (nth Am y2))) rfl rfl (S.tm rfl) (hm13.at S.emb0)) rfl fun a S=>Mw S zeroValue41 (cs:=[sV Ga,iV 0,iV 0,iV 0,iV 0]) rfl rfl ?_;clear S;intro a w55 b19 hz31 hk50 S
    refine Ku S (S.tm rfl) (S.tm rfl) (i:=0) (off:=0) rfl sizeOf41 (vs:=(An.enc (nth Am y2))) rfl rfl rfl rfl ?_;clear S;intro w56 hk51 S
    refine Ld ?_
    replace S:=(S.nl [.blk b19 (An.enc (nth Am y2)) 41,.own v49 3 1 x9.length (x9.flatMap eInt),.blk Ag [Aa,iV Ac,V,iV Af,Al,iV Ax,iV Ba,bV Bb] 70,.own Al 3 1 Az.length (Az.flatMap eInt),.own Ah 3 1 Aj.length (Aj.flatMap eInt)] [true,true,true,true,true] rfl).k9 0 1 8 9 12 13 54 55 56 rfl
    refine Tn (Fs (Fg ?_))
    iterate 3 (refine Vm S rfl rfl ?_;clear S;intro a S)
    obtain ⟨hc6,h⟩:=Ig h
    obtain ⟨b20,hg11,hr20⟩:=Hn (a:=a) (x:=.tmp 67) (y:=.tmp 68) (ty:=0) Lj Hi S (i:=1) rfl (Ff hc6).1 (Ff hc6).2 (S.tm rfl) (S.tm rfl)
    refine lv S (hr20 _) rfl ?_;clear S;intro a S
    clear hr20
    refine Ki (c:=0) (j:=y2.toNat) x10 Hi S (S.tm rfl) (S.tm rfl) (i:=1) rfl hg11 (Ff hc6).1 sizeOf3 (vs:=[iV x10]) rfl rfl rfl rfl rfl ?_;clear S;intro w58 hk53 S
    refine Dl (Fs (Hx [] ([]) Tryz.mixed S rfl (by kernel_rfl) ?_));clear S;intro w60 hk55 hsel S
    refine Fj 0 S hsel rfl rfl rfl (by kernel_rfl) (by kernel_rfl) rfl (fun _ hw=>(Rm (S.tm rfl))) fun a S=>Fj 1 S hsel rfl rfl rfl (by kernel_rfl) (by kernel_rfl) rfl (fun _ hw=>(Ji isAgg41 sizeOf41 (off:=0) (o:=0) (part:=(An.enc (nth Am y2))) rfl rfl (S.tm rfl) ((S.blk_mem (i:=0) (cells:=(An.enc (nth Am y2))) (b:=b19) (T:=41) rfl (Ij (e':=.blk b19 (An.enc (nth Am y2)) 41))).kept hw))) fun a S=>Fj 2 S hsel rfl rfl rfl (by kernel_rfl) (by kernel_rfl) rfl (fun _ hw=>(Hk Qn (S.tm rfl))) fun a S=>Fj 3 S hsel rfl rfl rfl (by kernel_rfl) (by kernel_rfl) rfl (fun _ hw=>(Hr isAgg3 (off:=0) (o:=1) (S.tm rfl) ((S.blk_mem (i:=0) (cells:=(An.enc (nth Am y2))) (b:=b19) (T:=41) rfl (Ij (e':=.blk b19 (An.enc (nth Am y2)) 41))).kept hw) rfl)) fun a S=>Fj 6 S hsel rfl rfl rfl (by kernel_rfl) (by kernel_rfl) rfl (fun _ hw=>(Hk Sa (S.tm rfl))) fun a S=>Fj 7 S hsel rfl rfl rfl (by kernel_rfl) (by kernel_rfl) rfl (fun _ hw=>(Hr isAgg3 (off:=0) (o:=2) (S.tm rfl) ((S.blk_mem (i:=0) (cells:=(An.enc (nth Am y2))) (b:=b19) (T:=41) rfl (Ij (e':=.blk b19 (An.enc (nth Am y2)) 41))).kept hw) rfl)) fun a S=>Gq 4 (by kernel_rfl) rfl (Fo S (fun _=>Fa (vs:=[.agg (An.enc (nth Am y2)).toArray,iV ((nth Am y2).Heats)]) ⟨(S.tm rfl),(S.tm rfl),trivial⟩ call55) (Se _ (nth Am y2) ((nth Am y2).Heats) _ rfl) rfl ?_);clear S;intro v51 a w61 hv26 hk56 hn26 S
    subst hv26
    refine Ld (Hb hk56 (Lc [5,8,9] hsel (by kernel_rfl) rfl ?_))
    clear hsel
    refine Gp S rfl (Gx (S.tm rfl) (S.tm rfl)) rfl fun a S=>Gp S rfl (Gx (S.tm rfl) (S.tm rfl)) rfl fun a S=>Gp S rfl (Ra (S.tm rfl)) rfl fun a S=>Kz ?_
    replace S:=(S.nl [.blk b19 (An.enc (nth Am y2)) 41,.own v49 3 1 (x9.set y2.toNat x10).length ((x9.set y2.toNat x10).flatMap eInt),.blk Ag [Aa,iV Ac,V,iV Af,Al,iV Ax,iV Ba,bV Bb] 70,.own Al 3 1 Az.length (Az.flatMap eInt),.own Ah 3 1 Aj.length (Aj.flatMap eInt)] [true,true,true,true,true] rfl).k8 0 1 8 10 13 54 55 56 rfl
    refine Tn (Fg (Vm S rfl rfl fun a S=>Vf Vg S rfl rfl fun a S=>Vl isAgg3 0 S rfl rfl rfl rfl fun a S=>Vb S Gx rfl rfl rfl fun a S=>Va S rfl rfl fun a S=>Ld (Kb (Tn (Fg ?_)))))
    exact Vq S Gx rfl rfl rfl fun a S=>Vm S rfl rfl fun a S=>Dl (⟨ys2,⟨i2 + 1,(x9.set y2.toNat x10),W ((W ((W (x10 + (Hc (nth Am y2) ((nth Am y2).Heats)))) + ((nth Am y2).Long))) + ((nth Am y2).Break)),W ((W (x10 + (Hc (nth Am y2) ((nth Am y2).Heats)))) + ((nth Am y2).Long)),v49,⟨_,(hd2).trans (List.append_cons _ _ _),by simp [hi2]⟩,h,S.nf [false,true,true,true,true] rfl ⟨rfl,rfl,rfl,rfl,rfl,rfl,rfl,(congrArg (fun z=>some (Value.int .i64 z)) (Ii hd2 hi2 hm11)),trivial⟩⟩,Nat.lt_succ_self _⟩)
  clear S h;rintro a w54 ⟨x9,x11,v49,h,S⟩;rw [hj3] at h;clear hj3 j3
  refine Tn (Fr (Vm S rfl rfl fun a S=>Vu S Fv rfl rfl fun a S=>Vf EL S rfl rfl fun a S=>Vl isAgg3 1 S rfl rfl rfl rfl fun a S=>Va S rfl rfl fun a S=>Dl (Fs ?_)))
  refine Fr (Vm S rfl rfl fun a S=>Vu S Fv rfl rfl fun a S=>Vf Ys S rfl rfl fun a S=>Vl isAgg68 1 S rfl rfl rfl rfl fun a S=>lv S (Gh FR (S.tm rfl) (AY Bx By)) rfl fun a S=>lv S (Rm rfl) rfl fun a S=>Ld ?_)
  replace S:=S.k8 0 1 8 10 14 92 93 94 rfl
  refine Tn ?_
  obtain ⟨j4,hj4,h⟩:=Ha h
  refine Gv (fun a w'=>∃ x12 : Int,j4 x12 = some r ∧ Sx w X nov [.own v49 3 1 x9.length (x9.flatMap eInt),.blk Ag [Aa,iV Ac,V,iV Af,Al,iV Ax,iV Ba,bV Bb] 70,.own Al 3 1 Az.length (Az.flatMap eInt),.own Ah 3 1 Aj.length (Aj.flatMap eInt)] [(0,.pointer (some ⟨Ag,0,none⟩)),(1,Ah),(10,iV x11),(14,iV x12)] 208 a w') ?_ ?_
  ·refine wp_block (Iv (fun (ys3 : List (List Ew)) a w'=>∃ i3 : Nat,∃ x12 : Int,(∃ dn,Bj = dn ++ ys3 ∧ dn.length = i3) ∧ Lx x9 Am Af Aj j4 ys3 i3 x12 = some r ∧ Sx w X nov [.own v49 3 1 x9.length (x9.flatMap eInt),.blk Ag [Aa,iV Ac,V,iV Af,Al,iV Ax,iV Ba,bV Bb] 70,.own Al 3 1 Az.length (Az.flatMap eInt),.own Ah 3 1 Aj.length (Aj.flatMap eInt)] [(0,.pointer (some ⟨Ag,0,none⟩)),(1,Ah),(8,v49),(10,iV x11),(14,iV x12),(92,V),(93,iV (Bj.length : Int)),(94,iV (i3 : Int))] 208 a w') List.length Bj ⟨0,Ac,⟨[],rfl,rfl⟩,h,S.nf [true,true,true,true] rfl (subR rfl)⟩ ?_)
   clear S h;rintro ys3 a w62 ⟨i3,x12,⟨dn,hd3,hi3⟩,h,S⟩
   cases ys3 with
   | nil =>
    rw [Lx.eq_1] at h
    refine Fr (Vb S Gb rfl rfl rfl fun a S=>Ld ?_)
    replace S:=S.k9 0 1 8 10 14 92 93 94 95 rfl
    exact Tn (Fs (wp_cond_false ((S.tm rfl).trans (congrArg Value.bool (Jr hd3 hi3))) (wp_exit (Gk (Gk (Jc (Tn (⟨x12,h,S.nf [true,true,true,true] rfl (subR rfl)⟩))))))))
   | cons y3 ys3 =>
    rw [Lx.eq_2] at h
    refine Fr (Vb S Gb rfl rfl rfl fun a S=>Ld ?_)
    replace S:=S.k9 0 1 8 10 14 92 93 94 95 rfl
    refine Tn (Fs (wp_cond_true ((S.tm rfl).trans (congrArg Value.bool (Ih hd3 hi3))) (wp_skip (Tn (Fs (wp_block (Fs (Fg ?_))))))))
    obtain ⟨r4,hg12,hl12⟩:=Ko.at By (Jd hd3 hi3)
    have hs14:=hl12
    obtain ⟨b21,o5,hm15,hr21⟩:=Gd (a:=a) (x:=.tmp 92) (y:=.tmp 94) (ty:=0) FR Bx hg12 rfl (S.tm rfl) (S.tm rfl)
    refine lv S (hr21 _) rfl ?_;clear S;intro a S
    clear hr21
    refine lv S (Hr isAgg89 (off:=o5) (o:=0) (S.tm rfl) (hm15.at S.emb0) rfl) rfl fun a S=>Va S rfl rfl fun a S=>Dz (Vk S rfl rfl fun a S=>Dl (Fs (Fg ?_)))
    refine Vm S rfl rfl fun a S=>lv S (Gh Lj (S.tm rfl) (Ly (S.own_at (i:=3) rfl))) rfl fun a S=>lv S (Rm rfl) rfl fun a S=>Ld ?_
    replace S:=S.k13 0 1 8 10 14 16 17 92 93 94 98 99 100 rfl
    refine Tn ?_
    have hm16:=Yk (S.own_at (i:=3) rfl)
    obtain ⟨j5,hj5,h⟩:=Ha h
    refine Gv (fun a w'=>∃ x13 : Int,j5 x13 = some r ∧ Sx w X nov [.own v49 3 1 x9.length (x9.flatMap eInt),.blk Ag [Aa,iV Ac,V,iV Af,Al,iV Ax,iV Ba,bV Bb] 70,.own Al 3 1 Az.length (Az.flatMap eInt),.own Ah 3 1 Aj.length (Aj.flatMap eInt)] [(0,.pointer (some ⟨Ag,0,none⟩)),(1,Ah),(8,v49),(10,iV x11),(14,iV x13),(92,V),(93,iV (Bj.length : Int)),(94,iV (i3 : Int))] 208 a w') ?_ ?_
    ·refine wp_block (Iv (fun (ys4 : List Int) a w'=>∃ i4 : Nat,∃ x13 : Int,∃ x14 : Int,(∃ dn,Aj = dn ++ ys4 ∧ dn.length = i4) ∧ Lw y3 x9 Am Af j5 ys4 i4 x13 x14 = some r ∧ Sx w X nov [.own v49 3 1 x9.length (x9.flatMap eInt),.blk Ag [Aa,iV Ac,V,iV Af,Al,iV Ax,iV Ba,bV Bb] 70,.own Al 3 1 Az.length (Az.flatMap eInt),.own Ah 3 1 Aj.length (Aj.flatMap eInt)] [(0,.pointer (some ⟨Ag,0,none⟩)),(1,Ah),(8,v49),(10,iV x11),(14,iV x13),(16,r4.val),(17,iV x14),(92,V),(93,iV (Bj.length : Int)),(94,iV (i3 : Int)),(98,Ah),(99,iV (Aj.length : Int)),(100,iV (i4 : Int))] 208 a w') List.length Aj ⟨0,x12,(-1),⟨[],rfl,rfl⟩,h,S.nf [true,true,true,true] rfl (subR rfl)⟩ ?_)
     clear S h;rintro ys4 a w64 ⟨i4,x13,x14,⟨dn,hd4,hi4⟩,h,S⟩
     cases ys4 with
     | nil =>
      rw [Lw.eq_1] at h
      refine Fr (Vb S Gb rfl rfl rfl fun a S=>Ld ?_)
      replace S:=S.k14 0 1 8 10 14 16 17 92 93 94 98 99 100 101 rfl
      exact Tn (Fs (wp_cond_false ((S.tm rfl).trans (congrArg Value.bool (Jr hd4 hi4))) (wp_exit (Gk (Gk (Jc (Tn (⟨x13,h,S.nf [true,true,true,true] rfl (subR rfl)⟩))))))))
     | cons y4 ys4 =>
      rw [Lw.eq_2] at h
      refine Fr (Vb S Gb rfl rfl rfl fun a S=>Ld ?_)
      replace S:=S.k14 0 1 8 10 14 16 17 92 93 94 98 99 100 101 rfl
      refine Tn (Fs (wp_cond_true ((S.tm rfl).trans (congrArg Value.bool (Ih hd4 hi4))) (wp_skip (Tn (Fs ?_)))))
      obtain ⟨j6,hj6,h⟩:=Ha h
      refine Gv (fun a w'=>∃ x15 : Int,∃ x16 : Int,j6 x15 x16 = some r ∧ Sx w X nov [.own v49 3 1 x9.length (x9.flatMap eInt),.blk Ag [Aa,iV Ac,V,iV Af,Al,iV Ax,iV Ba,bV Bb] 70,.own Al 3 1 Az.length (Az.flatMap eInt),.own Ah 3 1 Aj.length (Aj.flatMap eInt)] [(0,.pointer (some ⟨Ag,0,none⟩)),(1,Ah),(8,v49),(10,iV x11),(14,iV x15),(16,r4.val),(17,iV x16),(92,V),(93,iV (Bj.length : Int)),(94,iV (i3 : Int)),(98,Ah),(99,iV (Aj.length : Int)),(100,iV (i4 : Int))] 208 a w') ?_ ?_
      ·refine wp_block (Fs (Fg ?_))
       obtain ⟨b22,hg13,hr22⟩:=Hn (a:=a) (x:=.tmp 98) (y:=.tmp 100) (ty:=0) Lj Hi S (i:=3) rfl (Jd hd4 hi4) rfl (S.tm rfl) (S.tm rfl)
       refine lv S (hr22 _) rfl ?_;clear S;intro a S
       clear hr22
       refine lv S (Hr isAgg3 (off:=i4 * 1) (o:=0) (S.tm rfl) (Kx Hi S (i:=3) rfl hg13 (Jd hd4 hi4)) rfl) rfl fun a S=>Va S rfl rfl fun a S=>Ld ?_
       replace S:=S.k14 0 1 8 10 14 16 17 19 92 93 94 98 99 100 rfl
       refine Tn (Fs (Fr (Vm S rfl rfl fun a S=>Vm S rfl rfl ?_)));clear S;intro a S
       obtain ⟨hc7,h⟩:=Ig h
       obtain ⟨b23,o7,hm18,hr23⟩:=Gd (a:=a) (x:=.tmp 104) (y:=.tmp 105) (ty:=0) FT hs14 (Ff hc7).1 (Ff hc7).2 (S.tm rfl) (S.tm rfl)
       refine lv S (hr23 _) rfl ?_;clear S;intro a S
       clear hr23
       refine Vf Wy S rfl rfl fun a S=>lv S (Hr isAgg3 (off:=o7) (o:=1) (S.tm rfl) (hm18.at S.emb0) rfl) rfl fun a S=>Vq S Px rfl rfl rfl fun a S=>Ld ?_
       replace S:=S.k15 0 1 8 10 14 16 17 19 92 93 94 98 99 100 109 rfl
       refine Tn (Fc h (S.tm rfl) (fun hb2 h=>?_) (fun hb2 h=>?_))
       ·exact wp_exit (Gk (Jc (Tn (⟨x13,x14,h,S.nf [true,true,true,true] rfl (subR rfl)⟩))))
       ·refine wp_skip (Tn (Fs (Fs ?_)))
        obtain ⟨hc8,h⟩:=Ig h
        obtain ⟨hc9,h⟩:=Ig h
        obtain ⟨hc10,h⟩:=Ig h
        refine Hx [] ([]) Tryz.mixed S rfl (by kernel_rfl) ?_;clear S;intro w68 hk58 hsel S
        refine Fj 0 S hsel rfl rfl rfl (by kernel_rfl) (by kernel_rfl) rfl (fun _ hw=>(Rm (S.tm rfl))) fun a S=>Fj 1 S hsel rfl rfl rfl (by kernel_rfl) (by kernel_rfl) rfl (fun _ hw=>(Rm (S.tm rfl))) ?_;clear S;intro a S
        obtain ⟨b27,hg15,hr27⟩:=Hn (a:=a) (x:=.tmp 110) (y:=.tmp 111) (ty:=0) Lj Hi S (i:=0) rfl (Ff hc8).1 (Ff hc8).2 (S.tm rfl) (S.tm rfl)
        refine Fj 2 S hsel rfl rfl rfl (by kernel_rfl) (by kernel_rfl) rfl (fun _ hw=>(hr27 _)) ?_;clear S;intro a S
        clear hr27
        refine Fj 3 S hsel rfl rfl rfl (by kernel_rfl) (by kernel_rfl) rfl (fun _ hw=>(Hr isAgg3 (off:=y4.toNat * 1) (o:=0) (S.tm rfl) ((Qa Hi S (i:=0) rfl hg15 (Ff hc8).1 (Ij (e':=.own v49 3 1 x9.length (x9.flatMap eInt)))).kept hw) rfl)) fun a S=>Fj 4 S hsel rfl rfl rfl (by kernel_rfl) (by kernel_rfl) rfl (fun _ hw=>(Rm (S.tm rfl))) fun a S=>Fj 5 S hsel rfl rfl rfl (by kernel_rfl) (by kernel_rfl) rfl (fun _ hw=>(Fv (S.tm rfl))) fun a S=>Fj 6 S hsel rfl rfl rfl (by kernel_rfl) (by kernel_rfl) rfl (fun _ hw=>(Hk Yr (S.tm rfl))) fun a S=>Fj 7 S hsel rfl rfl rfl (by kernel_rfl) (by kernel_rfl) rfl (fun _ hw=>(Hr isAgg26 (off:=0) (o:=0) (S.tm rfl) ((S.blk_mem (i:=1) (cells:=[Aa,iV Ac,V,iV Af,Al,iV Ax,iV Ba,bV Bb]) (b:=Ag) (T:=70) rfl (Ij (e':=.blk Ag [Aa,iV Ac,V,iV Af,Al,iV Ax,iV Ba,bV Bb] 70))).kept hw) rfl)) fun a S=>Fj 8 S hsel rfl rfl rfl (by kernel_rfl) (by kernel_rfl) rfl (fun _ hw=>(Rm (S.tm rfl))) ?_;clear S;intro a S
        obtain ⟨b28,o12,hm23,hr28⟩:=Gd (a:=a) (x:=.tmp 117) (y:=.tmp 118) (ty:=0) Il (Bq.mono (S.le_arg Fy)) (Ff hc9).1 (Ff hc9).2 (S.tm rfl) (S.tm rfl)
        refine Fj 9 S hsel rfl rfl rfl (by kernel_rfl) (by kernel_rfl) rfl (fun _ hw=>hr28 _) ?_;clear S;intro a S
        clear hr28
        refine Fj 10 S hsel rfl rfl rfl (by kernel_rfl) (by kernel_rfl) rfl (fun _ hw=>(Ji isAgg41 sizeOf41 (off:=o12) (o:=0) (part:=(An.enc (nth Am y4))) rfl rfl (S.tm rfl) (hm23.kept hw))) fun a S=>Fj 11 S hsel rfl rfl rfl (by kernel_rfl) (by kernel_rfl) rfl (fun _ hw=>(Rm (S.tm rfl))) fun a S=>Fj 12 S hsel rfl rfl rfl (by kernel_rfl) (by kernel_rfl) rfl (fun _ hw=>(Rm (S.tm rfl))) ?_;clear S;intro a S
        obtain ⟨b29,o13,hm24,hr29⟩:=Gd (a:=a) (x:=.tmp 121) (y:=.tmp 122) (ty:=0) FT (hs14.mono (S.le_arg Fy)) (Ff hc10).1 (Ff hc10).2 (S.tm rfl) (S.tm rfl)
        refine Fj 13 S hsel rfl rfl rfl (by kernel_rfl) (by kernel_rfl) rfl (fun _ hw=>hr29 _) ?_;clear S;intro a S
        clear hr29
        refine Fj 14 S hsel rfl rfl rfl (by kernel_rfl) (by kernel_rfl) rfl (fun _ hw=>(Hk ID (S.tm rfl))) fun a S=>Fj 15 S hsel rfl rfl rfl (by kernel_rfl) (by kernel_rfl) rfl (fun _ hw=>(Hr isAgg3 (off:=o13) (o:=0) (S.tm rfl) (hm24.kept hw) rfl)) fun a S=>Gq 16 (by kernel_rfl) rfl (Fo S (fun _=>Fa (vs:=[.agg (An.enc (nth Am y4)).toArray,iV ((nth y3 y4).first_)]) ⟨(S.tm rfl),(S.tm rfl),trivial⟩ call55) (Se _ (nth Am y4) ((nth y3 y4).first_) _ rfl) rfl ?_);clear S;intro v53 a w69 hv28 hk59 hn28 S
        subst hv28
        refine Ld (Hb hk59 (Lc [17,18] hsel (by kernel_rfl) rfl ?_))
        clear hsel
        refine Gp S rfl (Gx (S.tm rfl) (S.tm rfl)) rfl fun a S=>Gp S rfl (Ra (S.tm rfl)) rfl fun a S=>Kz ?_
        replace S:=S.k15 0 1 8 10 14 16 17 19 20 92 93 94 98 99 100 rfl
        refine Tn (Fr (Vm S rfl rfl fun a S=>Vq S Qe rfl rfl rfl fun a S=>Vm S rfl rfl fun a S=>Lq 9 (fun a w'=>Keep [] w69 w' ∧ Sx w X nov [.own v49 3 1 x9.length (x9.flatMap eInt),.blk Ag [Aa,iV Ac,V,iV Af,Al,iV Ax,iV Ba,bV Bb] 70,.own Al 3 1 Az.length (Az.flatMap eInt),.own Ah 3 1 Aj.length (Aj.flatMap eInt)] [(0,.pointer (some ⟨Ag,0,none⟩)),(1,Ah),(8,v49),(10,iV x11),(14,iV x13),(16,r4.val),(19,iV y4),(92,V),(93,iV (Bj.length : Int)),(94,iV (i3 : Int)),(98,Ah),(99,iV (Aj.length : Int)),(100,iV (i4 : Int)),(139,bV ((decide (0 ≤ x14)) && (decide ((W ((W ((nth x9 y4) + (Hc (nth Am y4) ((nth y3 y4).first_)))) - x14)) < Af))))] 208 a w') ?_ ?_))
        ·rcases Bool.eq_false_or_eq_true (decide (0 ≤ x14)) with hb3 | hb3
         ·refine Fz S rfl rfl rfl hb3 (Vm S rfl rfl fun a S=>Fz S rfl rfl rfl hb3 (Vm S rfl rfl fun a S=>Fz S rfl rfl rfl hb3 (Vb S Kw rfl rfl rfl fun a S=>Fz S rfl rfl rfl hb3 (Vm S rfl rfl fun a S=>Fz S rfl rfl rfl hb3 (Vu S Fv rfl rfl fun a S=>Fz S rfl rfl rfl hb3 ?_)))))
          exact Vf fa_70_3 S rfl rfl fun a S=>Fz S rfl rfl rfl hb3 (Vl isAgg3 1 S rfl rfl rfl rfl fun a S=>Fz S rfl rfl rfl hb3 (Vb S Gb rfl rfl rfl fun a S=>lv S (Nd hb3 (S.tm rfl) (S.tm rfl)) rfl fun a S=>Dl (⟨Keep.refl _ _,S.nf [true,true,true,true] rfl (subR rfl)⟩)))
         ·iterate 8 (refine Kn S rfl rfl rfl (Ov hb3) rfl ?_ rfl;clear S;intro a S)
          exact lv S (Nf (decide ((W ((W ((nth x9 y4) + (Hc (nth Am y4) ((nth y3 y4).first_)))) - x14)) < Af)) hb3 (S.tm rfl) rfl) rfl fun a S=>Dl (⟨Keep.refl _ _,S.nf [true,true,true,true] rfl (subR rfl)⟩)
        clear S;rintro a w70 ⟨hk60,S⟩
        refine Dl ?_
        obtain ⟨j7,hj7,h⟩:=Ha h
        refine Gv (fun a w'=>∃ x17 : Int,j7 x17 = some r ∧ Sx w X nov [.own v49 3 1 x9.length (x9.flatMap eInt),.blk Ag [Aa,iV Ac,V,iV Af,Al,iV Ax,iV Ba,bV Bb] 70,.own Al 3 1 Az.length (Az.flatMap eInt),.own Ah 3 1 Aj.length (Aj.flatMap eInt)] [(0,.pointer (some ⟨Ag,0,none⟩)),(1,Ah),(8,v49),(10,iV x11),(14,iV x17),(16,r4.val),(19,iV y4),(92,V),(93,iV (Bj.length : Int)),(94,iV (i3 : Int)),(98,Ah),(99,iV (Aj.length : Int)),(100,iV (i4 : Int))] 208 a w') ?_ ?_
        ·refine Fc h (S.tm rfl) (fun hb4 h=>?_) (fun hb4 h=>?_)
         ·refine Fg (Vm S rfl rfl fun a S=>Vq S Gx rfl rfl rfl fun a S=>Va S rfl rfl fun a S=>Ld ?_)
          replace S:=S.k13 0 1 8 10 14 16 19 92 93 94 98 99 100 rfl
          exact Tn (⟨W (x13 + 1),h,S.nf [true,true,true,true] rfl (subR rfl)⟩)
         ·exact wp_skip (Tn (⟨x13,h,S.nf [true,true,true,true] rfl (subR rfl)⟩))
        clear S h;rintro a w71 ⟨x17,h,S⟩;rw [hj7] at h;clear hj7 j7
        refine Tn ?_
        obtain ⟨hc11,h⟩:=Ig h
        obtain ⟨hc12,h⟩:=Ig h
        obtain ⟨hc13,h⟩:=Ig h
        obtain ⟨hc14,h⟩:=Ig h
        refine Hx [] ([]) Tryz.mixed S rfl (by kernel_rfl) ?_;clear S;intro w73 hk62 hsel S
        refine Fj 0 S hsel rfl rfl rfl (by kernel_rfl) (by kernel_rfl) rfl (fun _ hw=>(Rm (S.tm rfl))) fun a S=>Fj 1 S hsel rfl rfl rfl (by kernel_rfl) (by kernel_rfl) rfl (fun _ hw=>(Rm (S.tm rfl))) ?_;clear S;intro a S
        obtain ⟨b34,hg17,hr34⟩:=Hn (a:=a) (x:=.tmp 142) (y:=.tmp 143) (ty:=0) Lj Hi S (i:=0) rfl (Ff hc11).1 (Ff hc11).2 (S.tm rfl) (S.tm rfl)
        refine Fj 2 S hsel rfl rfl rfl (by kernel_rfl) (by kernel_rfl) rfl (fun _ hw=>(hr34 _)) ?_;clear S;intro a S
        clear hr34
        refine Fj 3 S hsel rfl rfl rfl (by kernel_rfl) (by kernel_rfl) rfl (fun _ hw=>(Hr isAgg3 (off:=y4.toNat * 1) (o:=0) (S.tm rfl) ((Qa Hi S (i:=0) rfl hg17 (Ff hc11).1 (Ij (e':=.own v49 3 1 x9.length (x9.flatMap eInt)))).kept hw) rfl)) fun a S=>Fj 4 S hsel rfl rfl rfl (by kernel_rfl) (by kernel_rfl) rfl (fun _ hw=>(Rm (S.tm rfl))) fun a S=>Fj 5 S hsel rfl rfl rfl (by kernel_rfl) (by kernel_rfl) rfl (fun _ hw=>(Fv (S.tm rfl))) fun a S=>Fj 6 S hsel rfl rfl rfl (by kernel_rfl) (by kernel_rfl) rfl (fun _ hw=>(Hk Yr (S.tm rfl))) fun a S=>Fj 7 S hsel rfl rfl rfl (by kernel_rfl) (by kernel_rfl) rfl (fun _ hw=>(Hr isAgg26 (off:=0) (o:=0) (S.tm rfl) ((S.blk_mem (i:=1) (cells:=[Aa,iV Ac,V,iV Af,Al,iV Ax,iV Ba,bV Bb]) (b:=Ag) (T:=70) rfl (Ij (e':=.blk Ag [Aa,iV Ac,V,iV Af,Al,iV Ax,iV Ba,bV Bb] 70))).kept hw) rfl)) fun a S=>Fj 8 S hsel rfl rfl rfl (by kernel_rfl) (by kernel_rfl) rfl (fun _ hw=>(Rm (S.tm rfl))) ?_;clear S;intro a S
        obtain ⟨b35,o19,hm30,hr35⟩:=Gd (a:=a) (x:=.tmp 149) (y:=.tmp 150) (ty:=0) Il (Bq.mono (S.le_arg Fy)) (Ff hc12).1 (Ff hc12).2 (S.tm rfl) (S.tm rfl)
        refine Fj 9 S hsel rfl rfl rfl (by kernel_rfl) (by kernel_rfl) rfl (fun _ hw=>hr35 _) ?_;clear S;intro a S
        clear hr35
        refine Fj 10 S hsel rfl rfl rfl (by kernel_rfl) (by kernel_rfl) rfl (fun _ hw=>(Ji isAgg41 sizeOf41 (off:=o19) (o:=0) (part:=(An.enc (nth Am y4))) rfl rfl (S.tm rfl) (hm30.kept hw))) fun a S=>Fj 11 S hsel rfl rfl rfl (by kernel_rfl) (by kernel_rfl) rfl (fun _ hw=>(Rm (S.tm rfl))) fun a S=>Fj 12 S hsel rfl rfl rfl (by kernel_rfl) (by kernel_rfl) rfl (fun _ hw=>(Rm (S.tm rfl))) ?_;clear S;intro a S
        obtain ⟨b36,o20,hm31,hr36⟩:=Gd (a:=a) (x:=.tmp 153) (y:=.tmp 154) (ty:=0) FT (hs14.mono (S.le_arg Fy)) (Ff hc13).1 (Ff hc13).2 (S.tm rfl) (S.tm rfl)
        refine Fj 13 S hsel rfl rfl rfl (by kernel_rfl) (by kernel_rfl) rfl (fun _ hw=>hr36 _) ?_;clear S;intro a S
        clear hr36
        refine Fj 14 S hsel rfl rfl rfl (by kernel_rfl) (by kernel_rfl) rfl (fun _ hw=>(Hk Wy (S.tm rfl))) fun a S=>Fj 15 S hsel rfl rfl rfl (by kernel_rfl) (by kernel_rfl) rfl (fun _ hw=>(Hr isAgg3 (off:=o20) (o:=1) (S.tm rfl) (hm31.kept hw) rfl)) fun a S=>Fj 18 S hsel rfl rfl rfl (by kernel_rfl) (by kernel_rfl) rfl (fun _ hw=>(Rm (S.tm rfl))) fun a S=>Fj 19 S hsel rfl rfl rfl (by kernel_rfl) (by kernel_rfl) rfl (fun _ hw=>(Fv (S.tm rfl))) fun a S=>Fj 20 S hsel rfl rfl rfl (by kernel_rfl) (by kernel_rfl) rfl (fun _ hw=>(Hk Yr (S.tm rfl))) fun a S=>Fj 21 S hsel rfl rfl rfl (by kernel_rfl) (by kernel_rfl) rfl (fun _ hw=>(Hr isAgg26 (off:=0) (o:=0) (S.tm rfl) ((S.blk_mem (i:=1) (cells:=[Aa,iV Ac,V,iV Af,Al,iV Ax,iV Ba,bV Bb]) (b:=Ag) (T:=70) rfl (Ij (e':=.blk Ag [Aa,iV Ac,V,iV Af,Al,iV Ax,iV Ba,bV Bb] 70))).kept hw) rfl)) fun a S=>Fj 22 S hsel rfl rfl rfl (by kernel_rfl) (by kernel_rfl) rfl (fun _ hw=>(Rm (S.tm rfl))) ?_;clear S;intro a S
        obtain ⟨b37,o21,hm32,hr37⟩:=Gd (a:=a) (x:=.tmp 163) (y:=.tmp 164) (ty:=0) Il (Bq.mono (S.le_arg Fy)) (Ff hc14).1 (Ff hc14).2 (S.tm rfl) (S.tm rfl)
        refine Fj 23 S hsel rfl rfl rfl (by kernel_rfl) (by kernel_rfl) rfl (fun _ hw=>hr37 _) ?_;clear S;intro a S
        clear hr37
        refine Fj 24 S hsel rfl rfl rfl (by kernel_rfl) (by kernel_rfl) rfl (fun _ hw=>(Hk Sa (S.tm rfl))) fun a S=>Fj 25 S hsel rfl rfl rfl (by kernel_rfl) (by kernel_rfl) rfl (fun _ hw=>(Hr isAgg3 (off:=o21) (o:=2) (S.tm rfl) (hm32.kept hw) rfl)) fun a S=>Gq 16 (by kernel_rfl) rfl (Fo S (fun _=>Fa (vs:=[.agg (An.enc (nth Am y4)).toArray,iV ((nth y3 y4).last_)]) ⟨(S.tm rfl),(S.tm rfl),trivial⟩ call55) (Se _ (nth Am y4) ((nth y3 y4).last_) _ rfl) rfl ?_);clear S;intro v55 a w74 hv30 hk63 hn30 S
        subst hv30
        refine Ld (Hb hk63 (Lc [17,26,27] hsel (by kernel_rfl) rfl ?_))
        clear hsel
        refine Gp S rfl (Gx (S.tm rfl) (S.tm rfl)) rfl fun a S=>Gp S rfl (Gx (S.tm rfl) (S.tm rfl)) rfl fun a S=>Gp S rfl (Ra (S.tm rfl)) rfl fun a S=>Kz ?_
        replace S:=S.k13 0 1 8 10 14 16 17 92 93 94 98 99 100 rfl
        exact Kb (Tn (⟨x17,W ((W ((nth x9 y4) + (Hc (nth Am y4) ((nth y3 y4).last_)))) + ((nth Am y4).Long)),h,S.nf [true,true,true,true] rfl (subR rfl)⟩))
      clear S h;rintro a w66 ⟨x15,x16,h,S⟩;rw [hj6] at h;clear hj6 j6
      exact Tn (Fg (Vq S Gx rfl rfl rfl fun a S=>Vm S rfl rfl fun a S=>Dl (⟨ys4,⟨i4 + 1,x15,x16,⟨_,(hd4).trans (List.append_cons _ _ _),by simp [hi4]⟩,h,S.nf [true,true,true,true] rfl ⟨rfl,rfl,rfl,rfl,rfl,rfl,rfl,rfl,rfl,rfl,rfl,rfl,(congrArg (fun z=>some (Value.int .i64 z)) (Ii hd4 hi4 hm16)),trivial⟩⟩,Nat.lt_succ_self _⟩)))
    clear S h;rintro a w65 ⟨x13,h,S⟩;rw [hj5] at h;clear hj5 j5
    exact Kb (Tn (Fg (Vq S Gx rfl rfl rfl fun a S=>Vm S rfl rfl fun a S=>Dl (⟨ys3,⟨i3 + 1,x13,⟨_,(hd3).trans (List.append_cons _ _ _),by simp [hi3]⟩,h,S.nf [true,true,true,true] rfl ⟨rfl,rfl,rfl,rfl,rfl,rfl,rfl,(congrArg (fun z=>some (Value.int .i64 z)) (Ii hd3 hi3 (AZ Bx By))),trivial⟩⟩,Nat.lt_succ_self _⟩))))
  clear S h;rintro a w63 ⟨x12,h,S⟩;rw [hj4] at h;clear hj4 j4
  refine Tn (Fs ?_)
  obtain ⟨j8,hj8,h⟩:=Ha h
  refine Gv (fun a w'=>∃ x18 : Bool,j8 x18 = some r ∧ Sx w X nov [.blk Ag [Aa,iV Ac,V,iV Af,Al,iV Ax,iV Ba,bV Bb] 70,.own Al 3 1 Az.length (Az.flatMap eInt),.own Ah 3 1 Aj.length (Aj.flatMap eInt)] [(0,.pointer (some ⟨Ag,0,none⟩)),(1,Ah),(10,iV x11),(14,iV x12),(192,bV x18)] 208 a w') ?_ ?_
  ·rcases Bool.eq_false_or_eq_true (!Bb) with hb5 | hb5
   ·replace h:=Sy h hb5
    refine Hx [] ([]) Tryz.mixed S rfl (by kernel_rfl) ?_;clear S;intro w76 hk64 hsel S
    refine Lc [0,1,2,3,4,5,6,7,8,9,10,11,12,13,14,15,16,17,18,19,20,21] hsel (by kernel_rfl) rfl ?_
    clear hsel
    refine Gp S rfl (Rm (S.tm rfl)) rfl fun a S=>Gp S rfl (Fv (S.tm rfl)) rfl fun a S=>Gp S rfl (Hk EN (S.tm rfl)) rfl fun a S=>Gp S rfl (Mv isAgg4 (S.tm rfl) (S.cell (i:=1) rfl rfl)) rfl fun a S=>Gp S rfl (Mo (S.tm rfl)) rfl fun a S=>Gp S rfl (Rm (S.tm rfl)) rfl ?_;clear S;intro a S
    iterate 15 (refine Zn S rfl rfl rfl rfl (Tb hb5) rfl ?_ rfl;clear S;intro a S)
    refine Gp S rfl (Rh hb5 (S.tm rfl) rfl) rfl fun a S=>Kz ?_
    replace S:=S.d0.k5 0 1 10 14 192 rfl
    exact Tn (⟨true,h,S.nf [true,true,true] rfl (subR rfl)⟩)
   ·replace h:=Sz h hb5
    refine Hx [] ([]) Tryz.mixed S rfl (by kernel_rfl) ?_;clear S;intro w81 hk69 hsel S
    refine Fj 0 S hsel rfl rfl rfl (by kernel_rfl) (by kernel_rfl) rfl (fun _ hw=>(Rm (S.tm rfl))) fun a S=>Fj 1 S hsel rfl rfl rfl (by kernel_rfl) (by kernel_rfl) rfl (fun _ hw=>(Fv (S.tm rfl))) fun a S=>Fj 2 S hsel rfl rfl rfl (by kernel_rfl) (by kernel_rfl) rfl (fun _ hw=>(Hk EN (S.tm rfl))) fun a S=>Fj 3 S hsel rfl rfl rfl (by kernel_rfl) (by kernel_rfl) rfl (fun _ hw=>(Hr isAgg4 (off:=0) (o:=7) (S.tm rfl) ((S.blk_mem (i:=1) (cells:=[Aa,iV Ac,V,iV Af,Al,iV Ax,iV Ba,bV Bb]) (b:=Ag) (T:=70) rfl (Ij (e':=.blk Ag [Aa,iV Ac,V,iV Af,Al,iV Ax,iV Ba,bV Bb] 70))).kept hw) rfl)) fun a S=>Fj 4 S hsel rfl rfl rfl (by kernel_rfl) (by kernel_rfl) rfl (fun _ hw=>(Mo (S.tm rfl))) fun a S=>Fj 5 S hsel rfl rfl rfl (by kernel_rfl) (by kernel_rfl) rfl (fun _ hw=>(Rm (S.tm rfl))) fun a S=>Hh 6 S hsel rfl rfl rfl rfl hb5 rfl rfl (by kernel_rfl) (by kernel_rfl) rfl (fun _ hw=>(Rm (S.tm rfl))) fun a S=>Hh 7 S hsel rfl rfl rfl rfl hb5 rfl rfl (by kernel_rfl) (by kernel_rfl) rfl (fun _ hw=>(Rm (S.tm rfl))) fun a S=>Hh 8 S hsel rfl rfl rfl rfl hb5 rfl rfl (by kernel_rfl) (by kernel_rfl) rfl (fun _ hw=>(Fv (S.tm rfl))) fun a S=>Hh 9 S hsel rfl rfl rfl rfl hb5 rfl rfl (by kernel_rfl) (by kernel_rfl) rfl (fun _ hw=>(Hk EM (S.tm rfl))) fun a S=>Hh 10 S hsel rfl rfl rfl rfl hb5 rfl rfl (by kernel_rfl) (by kernel_rfl) rfl (fun _ hw=>(Hr isAgg3 (off:=0) (o:=5) (S.tm rfl) ((S.blk_mem (i:=1) (cells:=[Aa,iV Ac,V,iV Af,Al,iV Ax,iV Ba,bV Bb]) (b:=Ag) (T:=70) rfl (Ij (e':=.blk Ag [Aa,iV Ac,V,iV Af,Al,iV Ax,iV Ba,bV Bb] 70))).kept hw) rfl)) ?_;clear S;intro a S
    refine Hh 12 S hsel rfl rfl rfl rfl hb5 rfl rfl (by kernel_rfl) (by kernel_rfl) rfl (fun _ hw=>(Rm (S.tm rfl))) fun a S=>Hh 13 S hsel rfl rfl rfl rfl hb5 rfl rfl (by kernel_rfl) (by kernel_rfl) rfl (fun _ hw=>(Rm (S.tm rfl))) fun a S=>Hh 14 S hsel rfl rfl rfl rfl hb5 rfl rfl (by kernel_rfl) (by kernel_rfl) rfl (fun _ hw=>(Fv (S.tm rfl))) fun a S=>Hh 15 S hsel rfl rfl rfl rfl hb5 rfl rfl (by kernel_rfl) (by kernel_rfl) rfl (fun _ hw=>(Hk IC (S.tm rfl))) fun a S=>Hh 16 S hsel rfl rfl rfl rfl hb5 rfl rfl (by kernel_rfl) (by kernel_rfl) rfl (fun _ hw=>(Hr isAgg3 (off:=0) (o:=6) (S.tm rfl) ((S.blk_mem (i:=1) (cells:=[Aa,iV Ac,V,iV Af,Al,iV Ax,iV Ba,bV Bb]) (b:=Ag) (T:=70) rfl (Ij (e':=.blk Ag [Aa,iV Ac,V,iV Af,Al,iV Ax,iV Ba,bV Bb] 70))).kept hw) rfl)) fun a S=>Gq 11 (by kernel_rfl) rfl (Fz S rfl rfl rfl hb5 (Fo S (fun _=>Fa (vs:=[iV x12,iV Ax]) ⟨(S.tm rfl),(S.tm rfl),trivial⟩ call57) (Rg _ x12 Ax _ rfl) rfl ?_));clear S;intro v59 a w82 hv34 hk70 hn34 S
    subst hv34
    refine Ld (Hb hk70 (Gq 17 (by kernel_rfl) rfl (Fz S rfl rfl rfl hb5 (Fo S (fun _=>Fa (vs:=[iV x11,iV Ba]) ⟨(S.tm rfl),(S.tm rfl),trivial⟩ call57) (Rg _ x11 Ba _ rfl) rfl ?_))));clear S;intro v60 a w83 hv35 hk71 hn35 S
    subst hv35
    refine Ld (Hb hk71 (Gq 18 (by kernel_rfl) rfl (Fz S rfl rfl rfl hb5 (Fw S underlying22 sizeOf3 zeroValue3 rfl rfl (pv:=[(0,iV (Hd x12 Ax)),(1,iV (Hd x11 Ba))]) ⟨rfl,(S.tm rfl),rfl,(S.tm rfl),trivial⟩ (cs:=[iV (Hd x12 Ax),iV (Hd x11 Ba)]) (by kernel_rfl) rfl ?_))));clear S;intro a w84 b39 hz33 hk72 S
    refine Ld (Hb hk72 (Gq 19 (by kernel_rfl) rfl (Fz S rfl rfl rfl hb5 (Fo S (fun _=>Fa (vs:=[.slice (some ⟨b39,0,none⟩) 2 2]) ⟨(S.tm rfl),trivial⟩ call56) (Xq _ (.slice (some ⟨b39,0,none⟩) 2 2) [(Hd x12 Ax),(Hd x11 Ba)] (Lz Hi S (i:=0) rfl rfl rfl rfl ((Ij (e':=.blk b39 [iV (Hd x12 Ax),iV (Hd x11 Ba)] 3)) _ rfl)) _ rfl) rfl ?_))));clear S;intro v61 a w85 hv36 hk73 hn36 S
    subst hv36
    refine Ld (Hb hk73 (Lc [20,21] hsel (by kernel_rfl) rfl ?_))
    clear hsel
    refine Rp S rfl rfl rfl rfl hb5 (Tl S (Gb (S.tm rfl) rfl) rfl fun a S=>Gp S rfl (Ri hb5 (S.tm rfl) (S.tm rfl)) rfl fun a S=>Kz ?_)
    replace S:=(S.nl [.blk Ag [Aa,iV Ac,V,iV Af,Al,iV Ax,iV Ba,bV Bb] 70,.own Al 3 1 Az.length (Az.flatMap eInt),.own Ah 3 1 Aj.length (Aj.flatMap eInt)] [false,false,true,true,true] rfl).k5 0 1 10 14 192 rfl
    exact Tn (⟨decide ((Oq [(Hd x12 Ax),(Hd x11 Ba)]) < 0),h,S.nf [true,true,true] rfl (subR rfl)⟩)
  clear S h;rintro a w75 ⟨x18,h,S⟩;rw [hj8] at h;clear hj8 j8
  refine Tn ?_
  obtain ⟨j9,hj9,h⟩:=Ha h
  refine Gv (fun a w'=>∃ x19 : Int,∃ x20 : Int,∃ x21 : Bool,∃ x22 : List Int,∃ v62 : Value,j9 x19 x20 x21 x22 = some r ∧ Sx w X nov [.blk Ag [Aa,iV Ac,V,iV Af,v62,iV x19,iV x20,bV x21] 70,.own v62 3 1 x22.length (x22.flatMap eInt)] [] 208 a w') ?_ ?_
  ·refine Fc h (S.tm rfl) (fun hb6 h=>?_) (fun hb6 h=>?_)
   ·refine Fg ?_
    iterate 7 (refine Vm S rfl rfl ?_;clear S;intro a S)
    refine Vu S Fv rfl rfl fun a S=>Vf IB S rfl rfl fun a S=>Ku S (S.tm rfl) (S.tm rfl) (i:=0) (off:=4) rfl sizeOf22 (vs:=[Ah]) (Fl.cells (Ly (S.own_at (i:=2) rfl))) rfl rfl (all1 (Fl.one (Ly (S.own_at (i:=2) rfl))) rfl) ?_;clear S;intro w87 hk74 S
    refine Vu S Fv rfl rfl fun a S=>Vf EM S rfl rfl fun a S=>Ku S (S.tm rfl) (S.tm rfl) (i:=0) (off:=5) rfl sizeOf3 (vs:=[iV x12]) rfl rfl rfl rfl ?_;clear S;intro w88 hk75 S
    refine Vu S Fv rfl rfl fun a S=>Vf IC S rfl rfl fun a S=>Ku S (S.tm rfl) (S.tm rfl) (i:=0) (off:=6) rfl sizeOf3 (vs:=[iV x11]) rfl rfl rfl rfl ?_;clear S;intro w89 hk76 S
    refine Vu S Fv rfl rfl fun a S=>Vf EN S rfl rfl fun a S=>Ku S (S.tm rfl) rfl (i:=0) (off:=7) rfl sizeOf4 (vs:=[bV true]) rfl rfl rfl rfl ?_;clear S;intro w90 hk77 S
    refine Ld ?_
    replace S:=(S.nl [.blk Ag [Aa,iV Ac,V,iV Af,Ah,iV x12,iV x11,bV true] 70,.own Ah 3 1 Aj.length (Aj.flatMap eInt)] [true,false,true] rfl).k0
    exact Tn (⟨x12,x11,true,Aj,Ah,h,S.nf [true,true] rfl trivial⟩)
   ·exact wp_skip (Tn (⟨Ax,Ba,Bb,Az,Al,h,S.nf [true,true,false] rfl trivial⟩))
  clear S h;rintro a w86 ⟨x19,x20,x21,x22,v62,h,S⟩;rw [hj9] at h;clear hj9 j9
  obtain rfl:=Option.some.inj h
  exact Tz S results33 ⟨v62,S.grp [0,1] [] rfl rfl rfl,rfl⟩
theorem CE (m : Nat) : ∀ (w : World) (X : List Nat) (Ag : Nat) (Aa : Value) (Am : List An) (_ : Slc (view w X) 5 Aa (Am.map An.enc)) (Ac : Int) (V : Value) (Bj : List (List Ew)) (Bm : List RS) (_ : Slc (view w X) 1 V (Bm.map RS.enc)) (_ : Ko (Ve (view w X)) Bj Bm) (Af : Int) (Al : Value) (Az : List Int) (_ : (LEnt.own Al 3 1 Az.length (Az.flatMap eInt)).holds w) (Ax : Int) (Ba : Int) (Bb : Bool) (_ : (LEnt.blk Ag [Aa,iV Ac,V,iV Af,Al,iV Ax,iV Ba,bV Bb] 70).holds w) (Ah : Value) (Aj : List Int) (_ : (LEnt.own Ah 3 1 Aj.length (Aj.flatMap eInt)).holds w) (Bf : Value) (Aq : List Int) (_ : Slc (view w X) 1 Bf (Aq.map eInt)) (_ : X.Nodup) (_ : X = fps [.blk Ag [Aa,iV Ac,V,iV Af,Al,iV Ax,iV Ba,bV Bb] 70,.own Al 3 1 Az.length (Az.flatMap eInt),.own Ah 3 1 Aj.length (Aj.flatMap eInt)]) (r : (List Int) × Int × Int × Bool) (_ : Nv m Am Ac Bj Af Az Ax Ba Bb Aj Aq = some r),
    Calls prog 33 [.pointer (some ⟨Ag,0,none⟩),Ah,Bf].toArray w (Ret w X fun _ v w'=>∃ y1 : Value,Grp w w' X [.blk Ag [Aa,iV Ac,V,iV Af,y1,iV r.2.1,iV r.2.2.1,bV r.2.2.2] 70,.own y1 3 1 r.1.length (r.1.flatMap eInt)] ∧ v = .tuple #[]):=by
  induction m with
  | zero=>intros;rename_i h;rw [Nv] at h;cases h
  | succ m ih=>exact fun w X Ag Aa Am Bq Ac V Bj Bm Bx By Af Al Az Dx Ax Ba Bb Eq Ah Aj Er Bf Aq Cv hXn hXe r h=>AH (Nv m) ih w X Ag Aa Am Bq Ac V Bj Bm Bx By Af Al Az Dx Ax Ba Bb Eq Ah Aj Er Bf Aq Cv hXn hXe r h
set_option maxRecDepth 20000 in
theorem Zo (w : World) (Ab : Value) (Ae : List An) (As : Slc (view w []) 5 Ab (Ae.map An.enc)) (Ad : Value) (Ar : List Ex) (Ap : Slc (view w []) 3 Ad (Ar.map Ex.enc)) (Aw : Int) (r : (List ByteArray) × Int × Int) (h : Np Ae Ar Aw = some r) :
    Calls prog 7 [Ab,Ad,iV Aw].toArray w (Ret w [] fun τ v _=>∃ u1 : Value,v = .tuple #[u1,iV r.2.1,iV r.2.2] ∧ Pk τ 9 1 u1 r.1.length (r.1.flatMap Ic)):=by
 refine Fe func7 rfl ntmps7 rfl fun a S=>?_
 unfold Np at h
 replace S:=S.k3 0 1 2 rfl
 refine Fs (Fg ?_)
 iterate 3 (refine Vk S rfl rfl ?_;clear S;intro a S)
 refine Dl (Fs (Fr (Vm S rfl rfl fun a S=>Vm S rfl rfl ?_)));clear S;intro a S
 obtain ⟨r1,hr1,h⟩:=He h
 refine Fo S (fun _=>Fa (vs:=[Ab,Ad]) ⟨(S.tm rfl),(S.tm rfl),trivial⟩ call24) (Vz _ Ab Ae (As.mono (S.le_arg Fy)) Ad Ar (Ap.mono (S.le_arg Fy)) _ hr1) rfl ?_;clear S;intro v1 a w1 hv1 hk1 hn1 S
 subst hv1
 refine Va S rfl rfl fun a S=>Dz (Vm S rfl rfl fun a S=>Vq S Qd rfl rfl rfl fun a S=>Dl (Fc h (S.tm rfl) (fun hb1 h=>?_) (fun hb1 h=>?_)))
 ·refine Fr (Vm S rfl rfl fun a S=>Vk S rfl rfl fun a S=>Vk S rfl rfl fun a S=>Va S rfl rfl fun a S=>Dl (wp_ret (Fk ?_)))
  obtain rfl:=Option.some.inj h
  exact EC S results7 rfl rfl rfl ⟨_,rfl,(Mf _ _ _)⟩
 ·refine wp_skip (Tn (Fs (Fr (Vm S rfl rfl fun a S=>lv S (Gh Il (S.tm rfl) (Ey As)) rfl fun a S=>Vq S Na rfl rfl rfl fun a S=>Ld ?_))))
  replace S:=S.k4 0 1 2 25 rfl
  refine Tn (Fc h (S.tm rfl) (fun hb2 h=>?_) (fun hb2 h=>?_))
  ·refine Fs (Fg ?_)
   iterate 3 (refine Vk S rfl rfl ?_;clear S;intro a S)
   refine Dl (wp_ret (Fk ?_))
   obtain rfl:=Option.some.inj h
   exact EC S results7 rfl rfl rfl ⟨_,rfl,(Mf _ _ _)⟩
  ·refine wp_skip (Tn (Fs (Fr (Vm S rfl rfl fun a S=>Fo S (fun _=>Fa (vs:=[iV Aw,iV 0,iV 3600000]) ⟨(S.tm rfl),rfl,rfl,trivial⟩ call25) (Od _ Aw 0 3600000 _ rfl) rfl ?_))));clear S;intro v2 a w2 hv2 hk2 hn2 S
   subst hv2
   refine Vu S Mo rfl rfl fun a S=>Vm S rfl rfl ?_;clear S;intro a S
   obtain ⟨j1,hj1,h⟩:=Ha h
   refine Lq 5 (fun a w'=>∃ x1 : Bool,∃ φ1 : View,j1 x1 = some r ∧ View.le nov φ1 ∧ Sx w [] φ1 [] [(0,Ab),(1,Ad),(2,iV Aw),(34,bV x1)] 79 a w') ?_ ?_
   ·rcases Bool.eq_false_or_eq_true (!(Gy Aw 0 3600000)) with hb3 | hb3
    ·replace h:=Sy h hb3
     iterate 4 (refine Kn S rfl rfl rfl (Tb hb3) rfl ?_ rfl;clear S;intro a S)
     exact Vq S (Rh hb3) rfl rfl rfl fun a S=>Dl (⟨true,nov,h,(View.le_refl _),S.nf [] rfl (subR rfl)⟩)
    ·replace h:=Sz h hb3
     refine Fz S rfl rfl rfl hb3 (Vm S rfl rfl fun a S=>Fz S rfl rfl rfl hb3 ?_)
     obtain ⟨r2,hr2,h⟩:=He h
     have hz1:=S.keep.size
     refine Fo S (fun _=>Fa (vs:=[Ab,iV 0]) ⟨(S.tm rfl),rfl,trivial⟩ call27) (Sv _ Ab Ae (As.mono (S.le_arg Fy)) 0 _ hr2) rfl ?_;clear S;intro v3 a w4 hv3 hk3 hn3 S
     obtain ⟨φ2,hl2,hm1,S⟩:=S.see' hn3 hz1
     have hs1:=hv3.mono hm1
     refine Fz S rfl rfl rfl hb3 ?_
     obtain ⟨r3,hr3,h⟩:=He h
     refine Fo S (fun _=>Fa (vs:=[v3,iV 0]) ⟨(S.tm rfl),rfl,trivial⟩ call26) (Tm _ v3 r2 ((Gw Fb.enc_ok hs1).mono (S.le_new Fy)) 0 _ hr3) rfl ?_;clear S;intro v4 a w5 hv4 hk4 hn4 S
     subst hv4
     exact Fz S rfl rfl rfl hb3 (Vq S Na rfl rfl rfl fun a S=>lv S (Ri hb3 (S.tm rfl) (S.tm rfl)) rfl fun a S=>Dl (⟨decide (345686400000 < r3),φ2,h,hl2,S.nf [] rfl (subR rfl)⟩))
   clear S h;rintro a w3 ⟨x1,φ1,h,hl1,S⟩;rw [hj1] at h;clear hj1 j1
   refine Dl (Fc h (S.tm rfl) (fun hb4 h=>?_) (fun hb4 h=>?_))
   ·refine Fs (Fg ?_)
    iterate 3 (refine Vk S rfl rfl ?_;clear S;intro a S)
    refine Dl (wp_ret (Fk ?_))
    obtain rfl:=Option.some.inj h
    exact EC S results7 rfl rfl rfl ⟨_,rfl,(Mf _ _ _)⟩
   ·refine wp_skip (Tn (Fr (Vm S rfl rfl ?_)));clear S;intro a S
    obtain ⟨r4,hr4,h⟩:=He h
    have hz2:=S.keep.size
    refine Fo S (fun _=>Fa (vs:=[Ab]) ⟨(S.tm rfl),trivial⟩ call28) (On _ Ab Ae (As.mono (S.le_arg Fy)) _ hr4) rfl ?_;clear S;intro v5 a w6 hv5 hk5 hn5 S
    replace S:=S.take hn5 hz2 hv5
    refine Va S rfl rfl fun a S=>Dz (Vm S rfl rfl ?_);clear S;intro a S
    obtain ⟨r5,hr5,h⟩:=He h
    refine Rq 0 S rfl (fun _=>.own v5 41 5 r5.length (r5.flatMap An.enc)) (fun _=>Fa (vs:=[v5,.func (.func 30) #[] #[]]) ⟨(S.tm rfl),rfl,trivial⟩ call29) (Pz _ v5 r4 (S.holds _ (List.mem_of_getElem? (i:=0) rfl)) _ hr5) rfl (fun _ _ _ h=>⟨h.1,fun _ hc=>hc⟩) ?_;clear S;intro v6 a w7 hv6 hk6 hn6 S
    replace hv6:=hv6.2
    subst hv6
    refine Dl (Fs (Fg ?_))
    iterate 3 (refine Vm S rfl rfl ?_;clear S;intro a S)
    obtain ⟨φ3,hl3,hs2,S⟩:=S.freezeT (xs:=r5) (enc:=An.enc) (i:=0) rfl (fun _ h=>by cases h)
    replace S:=S.nk [] [(0,Ab),(1,Ad),(2,iV Aw),(10,v5),(34,bV x1),(35,Ab),(36,v5),(37,v5),(39,v5),(40,Ad),(41,iV Aw)] [] rfl (subR rfl)
    obtain ⟨r6,hr6,h⟩:=He h
    have hz3:=S.keep.size
    refine Pc [] [] (Ls:=[]) (Lr:=[]) (Y:=[]) S rfl rfl rfl rfl (fun _=>Fa (vs:=[v5,Ad,iV Aw]) ⟨(S.tm rfl),(S.tm rfl),(S.tm rfl),trivial⟩ call32) (Wn _ v5 r5 ((Gw An.enc_ok hs2).mono (S.le_new Fy)) Ad Ar (Ap.mono (S.le_arg Fy)) Aw _ hr6) rfl ?_;clear S;intro v7 a w8 hv7 hk7 hn7 S
    obtain ⟨b1,u3,rs1,rfl,hs3,hr7,hg1⟩:=hv7;replace S:=S _ hg1;clear hg1
    obtain ⟨φ4,hl4,hm2,S⟩:=Sx.growB (L:=[]) S hn7 hz3
    replace hs3:=hs3.mono hm2
    replace hr7:=Ry hm2 hr7
    refine Va S rfl rfl fun a S=>Dz (Vk S rfl rfl ?_);clear S;intro a S
    replace S:=S.nil 3 1
    refine Dl (Fs (Fr (Vm S rfl rfl fun a S=>lv S (Gh Il (S.tm rfl) (Ey (Gw An.enc_ok hs2))) rfl fun a S=>lv S (Rm rfl) rfl fun a S=>Ld ?_)))
    replace S:=(S.nl [.own (.slice none 0 0) 3 1 ([] : List Int).length (([] : List Int).flatMap eInt),.blk b1 [v5,iV r6.1,u3,iV Aw,.slice none 0 0,iV 0,iV 0,bV false] 70] [true,true] rfl).k5 10 11 12 44 45 rfl
    refine Tn ?_
    obtain ⟨j2,hj2,h⟩:=Ha h
    refine Gv (fun a w'=>∃ x2 : List Int,∃ v8 : Value,j2 x2 = some r ∧ Sx w [] φ4 [.own v8 3 1 x2.length (x2.flatMap eInt),.blk b1 [v5,iV r6.1,u3,iV Aw,.slice none 0 0,iV 0,iV 0,bV false] 70] [(10,v5),(11,.pointer (some ⟨b1,0,none⟩)),(12,v8)] 79 a w') ?_ ?_
    ·refine wp_block (Iv (fun (ys1 : List An) a w'=>∃ i1 : Nat,∃ x2 : List Int,∃ v8 : Value,(∃ dn,r5 = dn ++ ys1 ∧ dn.length = i1) ∧ Kf j2 ys1 i1 x2 = some r ∧ Sx w [] φ4 [.own v8 3 1 x2.length (x2.flatMap eInt),.blk b1 [v5,iV r6.1,u3,iV Aw,.slice none 0 0,iV 0,iV 0,bV false] 70] [(10,v5),(11,.pointer (some ⟨b1,0,none⟩)),(12,v8),(44,iV (r5.length : Int)),(45,iV (i1 : Int))] 79 a w') List.length r5 ⟨0,([] : List Int),(.slice none 0 0),⟨[],rfl,rfl⟩,h,S.nf [true,true] rfl (subR rfl)⟩ ?_)
     clear S h;rintro ys1 a w9 ⟨i1,x2,v8,⟨dn,hd1,hi1⟩,h,S⟩
     cases ys1 with
     | nil =>
      rw [Kf.eq_1] at h
      refine Fr (Vb S Gb rfl rfl rfl fun a S=>Ld ?_)
      replace S:=S.k6 10 11 12 44 45 46 rfl
      exact Tn (Fs (wp_cond_false ((S.tm rfl).trans (congrArg Value.bool (Jr hd1 hi1))) (wp_exit (Gk (Gk (Jc (Tn (⟨x2,v8,h,S.nf [true,true] rfl (subR rfl)⟩))))))))
     | cons y1 ys1 =>
      rw [Kf.eq_2] at h
      refine Fr (Vb S Gb rfl rfl rfl fun a S=>Ld ?_)
      replace S:=S.k6 10 11 12 44 45 46 rfl
      refine Tn (Fs (wp_cond_true ((S.tm rfl).trans (congrArg Value.bool (Ih hd1 hi1))) (wp_skip (Tn (Fs (wp_block (Fr (Vm S rfl rfl fun a S=>Va S rfl rfl ?_))))))));clear S;intro a S
      refine Dl (Fg (Vm S rfl rfl fun a S=>Vm S rfl rfl fun a S=>Fw S underlying22 sizeOf3 zeroValue3 rfl rfl (pv:=[(0,iV (i1 : Int))]) ⟨rfl,(S.tm rfl),trivial⟩ (cs:=[iV (i1 : Int)]) (by kernel_rfl) rfl ?_));clear S;intro a w11 b2 hz4 hk8 S
      obtain ⟨hc1,h⟩:=Ig h
      refine Nq Lj Hi S (S.tm rfl) (i:=1) rfl (S.tm rfl) (j:=0) rfl (ys:=[(i1 : Int)]) rfl rfl rfl rfl (by have:=Ky hc1;omega) rfl ?_;clear S;intro v9 a w12 hk9 S
      exact Va S rfl rfl fun a S=>Ld (Kb (Tn (Fg (Vq S Gx rfl rfl rfl fun a S=>Vm S rfl rfl fun a S=>Dl (⟨ys1,⟨i1 + 1,(x2 ++ [(i1 : Int)]),v9,⟨_,(hd1).trans (List.append_cons _ _ _),by simp [hi1]⟩,h,S.nf [false,true,true] rfl ⟨rfl,rfl,rfl,rfl,(congrArg (fun z=>some (Value.int .i64 z)) (Ii hd1 hi1 (Kl (Gw An.enc_ok hs2)))),trivial⟩⟩,Nat.lt_succ_self _⟩)))))
    clear S h;rintro a w10 ⟨x2,v8,h,S⟩;rw [hj2] at h;clear hj2 j2
    refine Tn (Fr (Vm S rfl rfl fun a S=>Vm S rfl rfl ?_));clear S;intro a S
    replace S:=S.nil 3 1
    replace S:=S.nil 3 1
    obtain ⟨r7,hr8,h⟩:=He h
    refine Pc [3,1,0] [2] (Ls:=[.blk b1 [v5,iV r6.1,u3,iV Aw,(.slice none 0 0),iV 0,iV 0,bV false] 70,.own (.slice none 0 0) 3 1 ([] : List Int).length (([] : List Int).flatMap eInt),.own (.slice none 0 0) 3 1 ([] : List Int).length (([] : List Int).flatMap eInt)]) (Lr:=[.own v8 3 1 x2.length (x2.flatMap eInt)]) (Y:=[b1] ++ ((Value.ownBlock (.slice none 0 0)).toList ++ (Value.ownBlock (.slice none 0 0)).toList)) S rfl rfl rfl (by simp [Im,Ju,LEnt.fp]) (fun _=>Fa (vs:=[.pointer (some ⟨b1,0,none⟩),.slice none 0 0,v8]) ⟨(S.tm rfl),rfl,(S.tm rfl),trivial⟩ call33) (CE 16 _ ([b1] ++ ((Value.ownBlock (.slice none 0 0)).toList ++ (Value.ownBlock (.slice none 0 0)).toList)) b1 v5 r5 ((Gw An.enc_ok hs2).mono (View.le_trans hl4 (S.le_new (Fq (Fh (i:=3) (e:=.blk b1 [v5,iV r6.1,u3,iV Aw,(.slice none 0 0),iV 0,iV 0,bV false] 70) rfl) (Fq (Fh (i:=1) (e:=.own (.slice none 0 0) 3 1 ([] : List Int).length (([] : List Int).flatMap eInt)) rfl) (Fh (i:=0) (e:=.own (.slice none 0 0) 3 1 ([] : List Int).length (([] : List Int).flatMap eInt)) rfl)))))) r6.1 u3 r6.2 rs1 (hs3.mono (S.le_new (Fq (Fh (i:=3) (e:=.blk b1 [v5,iV r6.1,u3,iV Aw,(.slice none 0 0),iV 0,iV 0,bV false] 70) rfl) (Fq (Fh (i:=1) (e:=.own (.slice none 0 0) 3 1 ([] : List Int).length (([] : List Int).flatMap eInt)) rfl) (Fh (i:=0) (e:=.own (.slice none 0 0) 3 1 ([] : List Int).length (([] : List Int).flatMap eInt)) rfl))))) (Ry (S.le_new (Fq (Fh (i:=3) (e:=.blk b1 [v5,iV r6.1,u3,iV Aw,(.slice none 0 0),iV 0,iV 0,bV false] 70) rfl) (Fq (Fh (i:=1) (e:=.own (.slice none 0 0) 3 1 ([] : List Int).length (([] : List Int).flatMap eInt)) rfl) (Fh (i:=0) (e:=.own (.slice none 0 0) 3 1 ([] : List Int).length (([] : List Int).flatMap eInt)) rfl)))) hr7) Aw (.slice none 0 0) ([] : List Int) (S.holds _ (List.mem_of_getElem? (i:=1) rfl)) 0 0 false (S.holds _ (List.mem_of_getElem? (i:=3) rfl)) (.slice none 0 0) ([] : List Int) (S.holds _ (List.mem_of_getElem? (i:=0) rfl)) v8 x2 (Ll Hi S (i:=2) rfl (Nc (Ke (i:=3) (j:=2) (e:=.blk b1 [v5,iV r6.1,u3,iV Aw,(.slice none 0 0),iV 0,iV 0,bV false] 70) (e':=.own v8 3 1 x2.length (x2.flatMap eInt)) S rfl rfl rfl) (Nc (Ke (i:=1) (j:=2) (e:=.own (.slice none 0 0) 3 1 ([] : List Int).length (([] : List Int).flatMap eInt)) (e':=.own v8 3 1 x2.length (x2.flatMap eInt)) S rfl rfl rfl) (Ke (i:=0) (j:=2) (e:=.own (.slice none 0 0) 3 1 ([] : List Int).length (([] : List Int).flatMap eInt)) (e':=.own v8 3 1 x2.length (x2.flatMap eInt)) S rfl rfl rfl)))) (S.ndg [3,1,0] [2] rfl rfl rfl (by simp [Im,Ju,LEnt.fp])) (by simp [Im,Ju,LEnt.fp]) _ hr8) rfl ?_;clear S;intro v10 a w13 hv8 hk10 hn8 S
    obtain ⟨v11,hg2,hv8⟩:=hv8;replace S:=S _ hg2;clear hg2
    subst hv8
    refine Dz (Vk S rfl rfl ?_);clear S;intro a S
    replace S:=S.nil 9 1
    refine Dl (Fs (Fr (Vm S rfl rfl fun a S=>Vu S Fv rfl rfl fun a S=>Vf IB S rfl rfl fun a S=>Vl isAgg22 1 S rfl rfl rfl rfl fun a S=>lv S (Gh Lj (S.tm rfl) (Ly (S.own_at (i:=2) rfl))) rfl fun a S=>lv S (Rm rfl) rfl ?_)));clear S;intro a S
    refine Dl ?_
    replace S:=(S.nl [.own (.slice none 0 0) 9 1 ([] : List ByteArray).length (([] : List ByteArray).flatMap Ic),.blk b1 [v5,iV r6.1,u3,iV Aw,v11,iV r7.2.1,iV r7.2.2.1,bV r7.2.2.2] 70,.own v11 3 1 r7.1.length (r7.1.flatMap eInt)] [true,true,true,false] rfl).k6 10 11 14 59 60 61 rfl
    have hm3:=Yk (S.own_at (i:=2) rfl)
    obtain ⟨j3,hj3,h⟩:=Ha h
    refine Gv (fun a w'=>∃ x3 : List ByteArray,∃ v12 : Value,j3 x3 = some r ∧ Sx w [] φ4 [.own v12 9 1 x3.length (x3.flatMap Ic),.blk b1 [v5,iV r6.1,u3,iV Aw,v11,iV r7.2.1,iV r7.2.2.1,bV r7.2.2.2] 70,.own v11 3 1 r7.1.length (r7.1.flatMap eInt)] [(11,.pointer (some ⟨b1,0,none⟩)),(14,v12)] 79 a w') ?_ ?_
    ·refine wp_block (Iv (fun (ys2 : List Int) a w'=>∃ i2 : Nat,∃ x3 : List ByteArray,∃ v12 : Value,(∃ dn,r7.1 = dn ++ ys2 ∧ dn.length = i2) ∧ Jx r5 j3 ys2 i2 x3 = some r ∧ Sx w [] φ4 [.own v12 9 1 x3.length (x3.flatMap Ic),.blk b1 [v5,iV r6.1,u3,iV Aw,v11,iV r7.2.1,iV r7.2.2.1,bV r7.2.2.2] 70,.own v11 3 1 r7.1.length (r7.1.flatMap eInt)] [(10,v5),(11,.pointer (some ⟨b1,0,none⟩)),(14,v12),(59,v11),(60,iV (r7.1.length : Int)),(61,iV (i2 : Int))] 79 a w') List.length r7.1 ⟨0,([] : List ByteArray),(.slice none 0 0),⟨[],rfl,rfl⟩,h,S.nf [true,true,true] rfl (subR rfl)⟩ ?_)
     clear S h;rintro ys2 a w14 ⟨i2,x3,v12,⟨dn,hd2,hi2⟩,h,S⟩
     cases ys2 with
     | nil =>
      rw [Jx.eq_1] at h
      refine Fr (Vb S Gb rfl rfl rfl fun a S=>Ld ?_)
      replace S:=S.k7 10 11 14 59 60 61 62 rfl
      exact Tn (Fs (wp_cond_false ((S.tm rfl).trans (congrArg Value.bool (Jr hd2 hi2))) (wp_exit (Gk (Gk (Jc (Tn (⟨x3,v12,h,S.nf [true,true,true] rfl (subR rfl)⟩))))))))
     | cons y2 ys2 =>
      rw [Jx.eq_2] at h
      refine Fr (Vb S Gb rfl rfl rfl fun a S=>Ld ?_)
      replace S:=S.k7 10 11 14 59 60 61 62 rfl
      refine Tn (Fs (wp_cond_true ((S.tm rfl).trans (congrArg Value.bool (Ih hd2 hi2))) (wp_skip (Tn (Fs (wp_block (Fs (Fg ?_))))))))
      obtain ⟨b3,hg3,hr9⟩:=Hn (a:=a) (x:=.tmp 59) (y:=.tmp 61) (ty:=0) Lj Hi S (i:=2) rfl (Jd hd2 hi2) rfl (S.tm rfl) (S.tm rfl)
      refine lv S (hr9 _) rfl ?_;clear S;intro a S
      clear hr9
      refine lv S (Hr isAgg3 (off:=i2 * 1) (o:=0) (S.tm rfl) (Kx Hi S (i:=2) rfl hg3 (Jd hd2 hi2)) rfl) rfl fun a S=>Va S rfl rfl fun a S=>Dl (Fg ?_)
      iterate 3 (refine Vm S rfl rfl ?_;clear S;intro a S)
      obtain ⟨hc2,h⟩:=Ig h
      obtain ⟨b4,o2,hm5,hr10⟩:=Gd (a:=a) (x:=.tmp 66) (y:=.tmp 67) (ty:=0) Il (Gw An.enc_ok hs2) (Ff hc2).1 (Ff hc2).2 (S.tm rfl) (S.tm rfl)
      refine lv S (hr10 _) rfl ?_;clear S;intro a S
      clear hr10
      refine Vf Mz S rfl rfl fun a S=>lv S (Hr isAgg9 (off:=o2) (o:=0) (S.tm rfl) ((hm5.mono hl4).at S.emb) rfl) rfl fun a S=>Fw S underlying31 sizeOf9 zeroValue9 rfl rfl (pv:=[(0,sV ((nth r5 y2).Key))]) ⟨rfl,(S.tm rfl),trivial⟩ (cs:=[sV ((nth r5 y2).Key)]) (by kernel_rfl) rfl ?_;clear S;intro a w16 b5 hz5 hk11 S
      obtain ⟨hc3,h⟩:=Ig h
      refine Nq Kv Jb S (S.tm rfl) (i:=1) rfl (S.tm rfl) (j:=0) rfl (ys:=[(nth r5 y2).Key]) rfl rfl rfl rfl (by have:=Ky hc3;omega) rfl ?_;clear S;intro v13 a w17 hk12 S
      refine Va S rfl rfl fun a S=>Ld ?_
      replace S:=(S.nl [.own v13 9 1 (x3 ++ [(nth r5 y2).Key]).length ((x3 ++ [(nth r5 y2).Key]).flatMap Ic),.blk b1 [v5,iV r6.1,u3,iV Aw,v11,iV r7.2.1,iV r7.2.2.1,bV r7.2.2.2] 70,.own v11 3 1 r7.1.length (r7.1.flatMap eInt)] [false,true,true,true] rfl).k6 10 11 14 59 60 61 rfl
      exact Kb (Tn (Fg (Vq S Gx rfl rfl rfl fun a S=>Vm S rfl rfl fun a S=>Dl (⟨ys2,⟨i2 + 1,(x3 ++ [(nth r5 y2).Key]),v13,⟨_,(hd2).trans (List.append_cons _ _ _),by simp [hi2]⟩,h,S.nf [true,true,true] rfl ⟨rfl,rfl,rfl,rfl,rfl,(congrArg (fun z=>some (Value.int .i64 z)) (Ii hd2 hi2 hm3)),trivial⟩⟩,Nat.lt_succ_self _⟩))))
    clear S h;rintro a w15 ⟨x3,v12,h,S⟩;rw [hj3] at h;clear hj3 j3
    refine Tn (Fs (Hx [] ([]) Tryz.mixed S rfl (by kernel_rfl) ?_));clear S;intro w18 hk13 hsel S
    refine Lc [0,1,2,3,4,5,6,7] hsel (by kernel_rfl) rfl ?_
    clear hsel
    refine Gp S rfl (Rm (S.tm rfl)) rfl fun a S=>Gp S rfl (Rm (S.tm rfl)) rfl fun a S=>Gp S rfl (Fv (S.tm rfl)) rfl fun a S=>Gp S rfl (Hk EM (S.tm rfl)) rfl fun a S=>Gp S rfl (Mv isAgg3 (S.tm rfl) (S.cell (i:=1) rfl rfl)) rfl fun a S=>Gp S rfl (Ra (S.tm rfl)) rfl fun a S=>Gp S rfl (Ra (S.tm rfl)) rfl fun a S=>Gp S rfl (Ra rfl) rfl fun a S=>Kz ?_
    replace S:=S.d2.d1.k3 6 7 8 rfl
    refine Tn (wp_ret ?_)
    obtain rfl:=Option.some.inj h
    exact EC S results7 rfl rfl rfl ⟨_,rfl,(Pu S (i:=0) rfl rfl)⟩
theorem Oa (w : World) (Bz : Int) (Cb : Int) (Bv : Int) (r : Bool) (h : Gr Bz Cb Bv = r) :
    Calls prog 35 [iV Bz,iV Cb,iV Bv].toArray w (Ret w [] fun _ v _=>v = bV r):=by
 refine Fe func35 rfl ntmps35 rfl fun a S=>?_
 unfold Gr at h
 replace S:=S.k3 0 1 2 rfl
 refine Fr (Vk S rfl rfl fun a S=>Dz (Vm S rfl rfl fun a S=>Vm S rfl rfl fun a S=>Vb S Uu rfl rfl rfl fun a S=>Vm S rfl rfl ?_));clear S;intro a S
 refine Lq 4 (fun a w'=>Keep [] w w' ∧ Sx w [] nov [] [(14,bV ((decide (Cb ≤ Bz)) && (decide (Bz ≤ Bv))))] 15 a w') ?_ ?_
 ·rcases Bool.eq_false_or_eq_true (decide (Cb ≤ Bz)) with hb1 | hb1
  ·exact Fz S rfl rfl rfl hb1 (Vm S rfl rfl fun a S=>Fz S rfl rfl rfl hb1 (Vm S rfl rfl fun a S=>Fz S rfl rfl rfl hb1 (Vb S Uu rfl rfl rfl fun a S=>lv S (Nd hb1 (S.tm rfl) (S.tm rfl)) rfl fun a S=>Dl (⟨Keep.refl _ _,S.nf [] rfl ⟨rfl,trivial⟩⟩))))
  ·iterate 3 (refine Kn S rfl rfl rfl (Ov hb1) rfl ?_ rfl;clear S;intro a S)
   exact lv S (Nf (decide (Bz ≤ Bv)) hb1 (S.tm rfl) rfl) rfl fun a S=>Dl (⟨Keep.refl _ _,S.nf [] rfl ⟨rfl,trivial⟩⟩)
 clear S;rintro a w1 ⟨hk1,S⟩
 refine Va S rfl rfl fun a S=>Dl (wp_ret ?_)
 subst h
 exact Gm S results35 rfl rfl
theorem Wo (w : World) (s : ByteArray) (c : Int) (r : Int) (h : Qc s c = r) : Calls prog 89 [.string s,.int .u8 c].toArray w (Ret w [] fun _ v _=>v = .int .i64 r):=by
  subst h
  exact Zw (Any.strings_IndexByte Tryz.lays137 s c w)
theorem Uk (w : World) (Ay : ByteArray) (Du : ByteArray) (r : Bool) (h : Pw Ay Du = some r) :
    Calls prog 68 [sV Ay,sV Du].toArray w (Ret w [] fun _ v _=>v = bV r):=by
 refine Fe func68 rfl ntmps68 rfl fun a S=>?_
 unfold Pw at h
 replace S:=S.k2 0 1 rfl
 refine Fr (Vk S rfl rfl fun a S=>Dl (Fs (Fr (Vm S rfl rfl fun a S=>Vu S (Uw underlying9) rfl rfl fun a S=>lv S (Rm rfl) rfl ?_))));clear S;intro a S
 refine Dl ?_
 replace S:=S.k4 0 1 7 8 rfl
 obtain ⟨j1,hj1,h⟩:=Ha h
 refine Gv (fun a w'=>j1 = some r ∧ Sx w [] nov [] [] 18 a w') ?_ ?_
 ·refine wp_block (Iv (fun (m1 : Nat) a w'=>∃ x1 : Int,Kg Ay Du j1 m1 x1 = some r ∧ Sx w [] nov [] [(0,sV Ay),(1,sV Du),(7,iV (Ay.size : Int)),(8,iV x1)] 18 a w') id (((Ay.size : Int) - 0).toNat + 2) ⟨0,h,S.nf [] rfl (subR rfl)⟩ ?_)
  clear S h;rintro m1 a w1 ⟨x1,h,S⟩
  cases m1 with
  | zero=>rw [Kg.eq_1] at h;cases h
  | succ m1 =>
   rw [Kg.eq_2] at h
   refine Fr (Vb S Gb rfl rfl rfl fun a S=>Dl (Fs (Fc h (S.tm rfl) (fun hb1 h=>?_) (fun hb1 h=>?_))))
   ·refine wp_skip (Tn (Fs (wp_block (Fr (Vm S rfl rfl fun a S=>Va S rfl rfl fun a S=>Dl (Fs ?_))))))
    refine Fg ?_
    iterate 3 (refine Vm S rfl rfl ?_;clear S;intro a S)
    obtain ⟨hc1,h⟩:=Ig h
    refine lv S (Tk underlying9 (S.tm rfl) (S.tm rfl) hc1) rfl fun a S=>Fo S (fun _=>Fa (vs:=[sV Du,.int .u8 (Ts Ay x1)]) ⟨(S.tm rfl),(S.tm rfl),trivial⟩ call89) (Wo _ Du (Ts Ay x1) _ rfl) rfl ?_;clear S;intro v1 a w3 hv1 hk1 hn1 S
    subst hv1
    refine Vq S Gb rfl rfl rfl fun a S=>Dl (Fc h (S.tm rfl) (fun hb2 h=>?_) (fun hb2 h=>?_))
    ·refine Fr (Vk S rfl rfl fun a S=>Dl (wp_ret (Hv (Fk (Fk (Hv (Fk ?_)))))))
     refine Fk ?_
     obtain rfl:=Option.some.inj h
     exact Gm S results68 rfl rfl
    ·exact wp_skip (Kb (Tn (Fg (Vq S Gx rfl rfl rfl fun a S=>Vm S rfl rfl fun a S=>Dl (⟨m1,⟨W (x1 + 1),h,S.nf [] rfl ⟨rfl,rfl,rfl,rfl,trivial⟩⟩,Nat.lt_succ_self _⟩)))))
   ·exact wp_exit (Gk (Gk (Jc (Tn (⟨h,S.nf [] rfl trivial⟩)))))
 clear S h;rintro a w2 ⟨h,S⟩;rw [hj1] at h;clear hj1 j1
 refine Tn (Fr (Vk S rfl rfl fun a S=>Dl (wp_ret ?_)))
 obtain rfl:=Option.some.inj h
 exact Gm S results68 rfl rfl
theorem Vv (w : World) (Ay : ByteArray) (r : Bool) (h : Pp Ay = some r) :
    Calls prog 44 [sV Ay].toArray w (Ret w [] fun _ v _=>v = bV r):=by
 refine Fe func44 rfl ntmps44 rfl fun a S=>?_
 unfold Pp at h
 replace S:=S.k1 0 rfl
 refine Fr (Vk S rfl rfl fun a S=>Dz (Vm S rfl rfl fun a S=>Vu S (Uw underlying9) rfl rfl fun a S=>Fo S (fun _=>Fa (vs:=[iV (Ay.size : Int),iV 1,iV 40]) ⟨(S.tm rfl),rfl,rfl,trivial⟩ call35) (Oa _ (Ay.size : Int) 1 40 _ rfl) rfl ?_));clear S;intro v1 a w1 hv1 hk1 hn1 S
 subst hv1
 refine Vm S rfl rfl ?_;clear S;intro a S
 obtain ⟨j1,hj1,h⟩:=Ha h
 refine Lq 4 (fun a w'=>∃ c1,j1 c1 = some r ∧ Keep [] w1 w' ∧ Sx w [] nov [] [(0,sV Ay),(10,bV c1)] 15 a w') ?_ ?_
 ·rcases Bool.eq_false_or_eq_true (Gr (Ay.size : Int) 1 40) with hb1 | hb1
  ·replace h:=Sy h hb1
   refine Fz S rfl rfl rfl hb1 (Vm S rfl rfl fun a S=>Fz S rfl rfl rfl hb1 ?_)
   obtain ⟨hc1,h⟩:=Ig h
   refine lv S (JK underlying9 (S.tm rfl) rfl hc1) rfl fun a S=>Fz S rfl rfl rfl hb1 ?_
   obtain ⟨r1,hr1,h⟩:=He h
   refine Fo S (fun _=>Fa (vs:=[sV (FE Ay 0 1),sV Jw]) ⟨(S.tm rfl),rfl,trivial⟩ call68) (Uk _ (FE Ay 0 1) Jw _ hr1) rfl ?_;clear S;intro v2 a w3 hv2 hk2 hn2 S
   subst hv2
   exact lv S (Nd hb1 (S.tm rfl) (S.tm rfl)) rfl fun a S=>Dl (⟨_,h,hk2,S.nf [] rfl (subR rfl)⟩)
  ·replace h:=Sz h hb1
   iterate 3 (refine Kn S rfl rfl rfl (Ov hb1) rfl ?_ rfl;clear S;intro a S)
   exact Vq S (Nf true hb1) rfl rfl rfl fun a S=>Dl (⟨_,h,Keep.refl _ _,S.nf [] rfl (subR rfl)⟩)
 clear S h;rintro a w2 ⟨c1,h,hk3,S⟩;rw [hj1] at h;clear hj1 j1
 refine Vm S rfl rfl ?_;clear S;intro a S
 obtain ⟨j2,hj2,h⟩:=Ha h
 refine Lq 3 (fun a w'=>∃ c2,j2 c2 = some r ∧ Keep [] w2 w' ∧ Sx w [] nov [] [(14,bV c2)] 15 a w') ?_ ?_
 ·rcases Bool.eq_false_or_eq_true c1 with hb2 | hb2
  ·replace h:=Sy h hb2
   refine Fz S rfl rfl rfl hb2 (Vm S rfl rfl fun a S=>Fz S rfl rfl rfl hb2 ?_)
   obtain ⟨r2,hr2,h⟩:=He h
   refine Fo S (fun _=>Fa (vs:=[sV Ay,sV Hm]) ⟨(S.tm rfl),rfl,trivial⟩ call68) (Uk _ Ay Hm _ hr2) rfl ?_;clear S;intro v3 a w5 hv3 hk4 hn3 S
   subst hv3
   exact lv S (Nd hb2 (S.tm rfl) (S.tm rfl)) rfl fun a S=>Dl (⟨_,h,hk4,S.nf [] rfl ⟨rfl,trivial⟩⟩)
  ·replace h:=Sz h hb2
   exact Kn S rfl rfl rfl (Ov hb2) rfl (fun a S=>Kn S rfl rfl rfl (Ov hb2) rfl (fun a S=>Vq S (Nf true hb2) rfl rfl rfl fun a S=>Dl (⟨_,h,Keep.refl _ _,S.nf [] rfl ⟨rfl,trivial⟩⟩)) rfl) rfl
 clear S h;rintro a w4 ⟨c2,h,hk5,S⟩;rw [hj2] at h;clear hj2 j2
 refine Va S rfl rfl fun a S=>Dl (wp_ret ?_)
 obtain rfl:=Option.some.inj h
 exact Gm S results44 rfl rfl
theorem Wa (w : World) (Bl : An) (Br : Nat) (Cd : ByteArray) (Cc : (view w []) Br = some (.cells [sV Cd].toArray 9 (0,0))) (r : Bool) (h : Nw Bl Cd = r) :
    Calls prog 60 [.agg (An.enc Bl).toArray,.pointer (some ⟨Br,0,none⟩)].toArray w (Ret w [] fun _ v _=>v = bV r):=by
 refine Fe func60 rfl ntmps60 rfl fun a S=>?_
 unfold Nw at h
 replace S:=S.k2 0 1 rfl
 refine Fr (Pt S (S.tm rfl) (cs:=(An.enc Bl)) rfl rfl ?_);clear S;intro a w1 b1 hz1 hk1 S
 refine Vk S rfl rfl fun a S=>Dz (Vf Mz S rfl rfl fun a S=>Vl isAgg9 0 S rfl rfl rfl rfl fun a S=>lv S (Hr isAgg9 (off:=0) (o:=0) (S.tm rfl) ((Rl Cc).at S.emb0) rfl) rfl fun a S=>Vb S Yg rfl rfl rfl fun a S=>Va S rfl rfl fun a S=>Ld ?_)
 refine Tn (wp_ret ?_)
 subst h
 exact Gm S results60 rfl rfl
theorem Pl (w : World) (Ak : Value) (Ay : List An) (Bo : Slc (view w []) 5 Ak (Ay.map An.enc)) (Bw : Nat) (Cq : ByteArray) (Cx : (view w []) Bw = some (.cells [sV Cq].toArray 9 (0,0))) (r : Int) (h : Js Ay Cq = r) :
    Calls prog 59 [Ak,.func (.func 60) #[] #[.pointer (some ⟨Bw,0,none⟩)]].toArray w (Ret w [] fun _ v _=>v = iV r):=by
 refine Fe func59 rfl ntmps59 rfl fun a S=>?_
 unfold Js at h
 replace S:=S.k2 0 1 rfl
 refine Fr (Vk S rfl rfl fun a S=>Dl (Fs (Fr (Vm S rfl rfl fun a S=>lv S (Gh Il (S.tm rfl) (Ey Bo)) rfl fun a S=>lv S (Rm rfl) rfl ?_))));clear S;intro a S
 refine Dl ?_
 replace S:=S.k4 0 1 7 8 rfl
 obtain ⟨j1,hj1,h⟩:=Ha h
 refine Gv (fun a w'=>j1 = r ∧ Sx w [] nov [] [] 19 a w') ?_ ?_
 ·refine wp_block (Iv (fun (ys1 : List An) a w'=>∃ i1 : Nat,(∃ dn,Ay = dn ++ ys1 ∧ dn.length = i1) ∧ Ft Cq j1 ys1 i1 = r ∧ Sx w [] nov [] [(0,Ak),(1,.func (.func 60) #[] #[.pointer (some ⟨Bw,0,none⟩)]),(7,iV (Ay.length : Int)),(8,iV (i1 : Int))] 19 a w') List.length Ay ⟨0,⟨[],rfl,rfl⟩,h,S.nf [] rfl (subR rfl)⟩ ?_)
  clear S h;rintro ys1 a w1 ⟨i1,⟨dn,hd1,hi1⟩,h,S⟩
  cases ys1 with
  | nil =>
   rw [Ft.eq_1] at h
   refine Fr (Vb S Gb rfl rfl rfl fun a S=>Ld ?_)
   replace S:=S.k5 0 1 7 8 9 rfl
   exact Tn (Fs (wp_cond_false ((S.tm rfl).trans (congrArg Value.bool (Jr hd1 hi1))) (wp_exit (Gk (Gk (Jc (Tn (⟨h,S.nf [] rfl trivial⟩))))))))
  | cons y1 ys1 =>
   rw [Ft.eq_2] at h
   refine Fr (Vb S Gb rfl rfl rfl fun a S=>Ld ?_)
   replace S:=S.k5 0 1 7 8 9 rfl
   refine Tn (Fs (wp_cond_true ((S.tm rfl).trans (congrArg Value.bool (Ih hd1 hi1))) (wp_skip (Tn (Fs (wp_block (Fr (Vm S rfl rfl fun a S=>Va S rfl rfl ?_))))))));clear S;intro a S
   refine Dl (Fs (Fg ?_))
   iterate 3 (refine Vm S rfl rfl ?_;clear S;intro a S)
   obtain ⟨b1,o1,hm1,hr1⟩:=Gd (a:=a) (x:=.tmp 12) (y:=.tmp 13) (ty:=0) Il Bo (Jd hd1 hi1) rfl (S.tm rfl) (S.tm rfl)
   refine lv S (hr1 _) rfl ?_;clear S;intro a S
   clear hr1
   refine lv S (Ji isAgg41 sizeOf41 (off:=o1) (o:=0) (part:=(An.enc y1)) rfl rfl (S.tm rfl) (hm1.at S.emb0)) rfl fun a S=>Fo S (fun _=>Pb (cap:=[.pointer (some ⟨Bw,0,none⟩)]) (S.tm rfl) (vs:=[.agg (An.enc y1).toArray]) ⟨(S.tm rfl),trivial⟩ call60) (Wa _ y1 Bw Cq ((S.le_arg Fy) _ _ Cx) _ rfl) rfl ?_;clear S;intro v1 a w3 hv1 hk1 hn1 S
   subst hv1
   refine Dl (Fc h (S.tm rfl) (fun hb1 h=>?_) (fun hb1 h=>?_))
   ·refine Fr (Vm S rfl rfl fun a S=>Va S rfl rfl fun a S=>Ld ?_)
    replace S:=S.k1 4 rfl
    refine Tn (wp_ret (Hv (Fk (Fk (Hv (Fk (Fk ?_)))))))
    subst h
    exact Gm S results59 rfl rfl
   ·exact wp_skip (Kb (Tn (Fg (Vq S Gx rfl rfl rfl fun a S=>Vm S rfl rfl fun a S=>Dl (⟨ys1,⟨i1 + 1,⟨_,(hd1).trans (List.append_cons _ _ _),by simp [hi1]⟩,h,S.nf [] rfl ⟨rfl,rfl,rfl,(congrArg (fun z=>some (Value.int .i64 z)) (Ii hd1 hi1 (Kl Bo))),trivial⟩⟩,Nat.lt_succ_self _⟩)))))
 clear S h;rintro a w2 ⟨h,S⟩;rw [hj1] at h;clear hj1 j1
 refine Tn (Fr (Vk S rfl rfl fun a S=>Dl (wp_ret ?_)))
 subst h
 exact Gm S results59 rfl rfl
theorem Pr (w : World) (Ad : Value) (Ar : List An) (Ap : Slc (view w []) 5 Ad (Ar.map An.enc)) (Dn : ByteArray) (r : Int) (h : Gl Ar Dn = r) :
    Calls prog 37 [Ad,sV Dn].toArray w (Ret w [] fun _ v _=>v = iV r):=by
 refine Fe func37 rfl ntmps37 rfl fun a S=>?_
 unfold Gl at h
 replace S:=S.k2 0 1 rfl
 refine Fr (Pt S (S.tm rfl) (cs:=[sV Dn]) rfl rfl ?_);clear S;intro a w1 b1 hz1 hk1 S
 refine Vk S rfl rfl fun a S=>Dz (Vm S rfl rfl fun a S=>lv S (Sr (us:=#[]) (xs:=[].toArray) (ys:=[.tmp 3].toArray) (by simp) (evA ⟨(S.tm rfl),trivial⟩ (vs:=[.pointer (some ⟨b1,0,none⟩)]))) rfl fun a S=>Fo S (fun _=>Fa (vs:=[Ad,.func (.func 60) #[] #[.pointer (some ⟨b1,0,none⟩)]]) ⟨(S.tm rfl),(S.tm rfl),trivial⟩ call59) (Pl _ Ad Ar (Ap.mono (S.le_arg Fy)) b1 Dn (S.blk_view (i:=0) rfl ((Ij (e':=.blk b1 [sV Dn] 9)) _ rfl)) _ rfl) rfl ?_);clear S;intro v1 a w2 hv1 hk2 hn1 S
 subst hv1
 refine Va S rfl rfl fun a S=>Dl (wp_ret ?_)
 subst h
 exact Gm S results37 rfl rfl
set_option maxRecDepth 20000 in
theorem Sf (w : World) (Ad : Value) (Ar : List An) (Ap : Slc (view w []) 5 Ad (Ar.map An.enc)) (r : Int) (h : Kr Ar = some r) :
    Calls prog 16 [Ad].toArray w (Ret w [] fun _ v _=>v = iV r):=by
 refine Fe func16 rfl ntmps16 rfl fun a S=>?_
 unfold Kr at h
 replace S:=S.k1 0 rfl
 refine Fr (Vk S rfl rfl fun a S=>Dl (Fs (Fr (Vm S rfl rfl fun a S=>lv S (Gh Il (S.tm rfl) (Ey Ap)) rfl fun a S=>Vq S Na rfl rfl rfl ?_))));clear S;intro a S
 refine Dl (Fc h (S.tm rfl) (fun hb1 h=>?_) (fun hb1 h=>?_))
 ·refine Fr (Vk S rfl rfl fun a S=>Dl (wp_ret (Fk ?_)))
  obtain rfl:=Option.some.inj h
  exact Gm S results16 rfl rfl
 ·refine wp_skip (Tn (Fs (Fr (Vm S rfl rfl fun a S=>lv S (Gh Il (S.tm rfl) (Ey Ap)) rfl fun a S=>lv S (Rm rfl) rfl fun a S=>Dl ?_))))
  replace S:=S.k4 0 8 9 10 rfl
  obtain ⟨j1,hj1,h⟩:=Ha h
  refine Gv (fun a w'=>j1 = some r ∧ Sx w [] nov [] [] 52 a w') ?_ ?_
  ·refine wp_block (Iv (fun (ys1 : List An) a w'=>∃ i1 : Nat,(∃ dn,Ar = dn ++ ys1 ∧ dn.length = i1) ∧ Ip Ar j1 ys1 i1 = some r ∧ Sx w [] nov [] [(0,Ad),(8,Ad),(9,iV (Ar.length : Int)),(10,iV (i1 : Int))] 52 a w') List.length Ar ⟨0,⟨[],rfl,rfl⟩,h,S.nf [] rfl (subR rfl)⟩ ?_)
   clear S h;rintro ys1 a w1 ⟨i1,⟨dn,hd1,hi1⟩,h,S⟩
   cases ys1 with
   | nil =>
    rw [Ip.eq_1] at h
    refine Fr (Vb S Gb rfl rfl rfl fun a S=>Ld ?_)
    replace S:=S.k5 0 8 9 10 11 rfl
    exact Tn (Fs (wp_cond_false ((S.tm rfl).trans (congrArg Value.bool (Jr hd1 hi1))) (wp_exit (Gk (Gk (Jc (Tn (⟨h,S.nf [] rfl trivial⟩))))))))
   | cons y1 ys1 =>
    rw [Ip.eq_2] at h
    refine Fr (Vb S Gb rfl rfl rfl fun a S=>Ld ?_)
    replace S:=S.k5 0 8 9 10 11 rfl
    refine Tn (Fs (wp_cond_true ((S.tm rfl).trans (congrArg Value.bool (Ih hd1 hi1))) (wp_skip (Tn (Fs (wp_block (Fr (Vm S rfl rfl ?_))))))));clear S;intro a S
    obtain ⟨b1,o1,hm1,hr1⟩:=Gd (a:=a) (x:=.tmp 8) (y:=.tmp 10) (ty:=0) Il Ap (Jd hd1 hi1) rfl (S.tm rfl) (S.tm rfl)
    refine lv S (hr1 _) rfl ?_;clear S;intro a S
    clear hr1
    refine lv S (Ji isAgg41 sizeOf41 (off:=o1) (o:=0) (part:=(An.enc y1)) rfl rfl (S.tm rfl) (hm1.at S.emb0)) rfl fun a S=>Mw S zeroValue41 (cs:=[sV Ga,iV 0,iV 0,iV 0,iV 0]) rfl rfl ?_;clear S;intro a w3 b2 hz1 hk1 S
    refine Va S rfl rfl fun a S=>Ku S (S.tm rfl) (S.tm rfl) (i:=0) (off:=0) rfl sizeOf41 (vs:=(An.enc y1)) rfl rfl rfl rfl ?_;clear S;intro w4 hk2 S
    refine Dl (wp_block (Fr (Vf Mz S rfl rfl fun a S=>Vl isAgg9 0 S rfl rfl rfl rfl ?_)));clear S;intro a S
    obtain ⟨r1,hr2,h⟩:=He h
    refine Fo S (fun _=>Fa (vs:=[sV y1.Key]) ⟨(S.tm rfl),trivial⟩ call44) (Vv _ y1.Key _ hr2) rfl ?_;clear S;intro v1 a w5 hv1 hk3 hn1 S
    subst hv1
    refine Vu S Mo rfl rfl fun a S=>Va S rfl rfl fun a S=>Ld ?_
    replace S:=(S.nl [.blk b2 (An.enc y1) 41] [true] rfl).k7 0 3 4 8 9 10 15 rfl
    refine Tn (Fc h (S.tm rfl) (fun hb2 h=>?_) (fun hb2 h=>?_))
    ·refine Fr (Vk S rfl rfl fun a S=>Dl (wp_ret (Hv (Hv (Fk (Fk (Hv ?_)))))))
     refine Fk (Fk ?_)
     obtain rfl:=Option.some.inj h
     exact Gm S results16 rfl rfl
    ·refine Fs ?_
     obtain ⟨hc1,h⟩:=Ig h
     refine Hx [] ([]) Tryz.mixed S rfl (by kernel_rfl) ?_;clear S;intro w7 hk5 hsel S
     refine Fj 0 S hsel rfl rfl rfl (by kernel_rfl) (by kernel_rfl) rfl (fun _ hw=>(Rm (S.tm rfl))) fun a S=>Fj 1 S hsel rfl rfl rfl (by kernel_rfl) (by kernel_rfl) rfl (fun _ hw=>(Rm (S.tm rfl))) ?_;clear S;intro a S
     obtain ⟨v4,hs2,hr4⟩:=We (a:=a) (x:=.tmp 21) (y':=.tmp 22) (ty:=26) Il Ap (S.tm rfl) (S.tm rfl) hc1
     refine Fj 2 S hsel rfl rfl rfl (by kernel_rfl) (by kernel_rfl) rfl (fun _ hw=>(hr4 _)) ?_;clear S;intro a S
     clear hr4
     refine Fj 3 S hsel rfl rfl rfl (by kernel_rfl) (by kernel_rfl) rfl (fun _ hw=>(Hk Mz (S.tm rfl))) fun a S=>Fj 4 S hsel rfl rfl rfl (by kernel_rfl) (by kernel_rfl) rfl (fun _ hw=>(Hr isAgg9 (off:=0) (o:=0) (S.tm rfl) ((S.blk_mem (i:=0) (cells:=(An.enc y1)) (b:=b2) (T:=41) rfl (Ij (e':=.blk b2 (An.enc y1) 41))).kept hw) rfl)) fun a S=>Gq 5 (by kernel_rfl) rfl (Fo S (fun _=>Fa (vs:=[v4,sV y1.Key]) ⟨(S.tm rfl),(S.tm rfl),trivial⟩ call37) (Pr _ v4 (cut Ar 0 (i1 : Int)) (hs2.mono (S.le_arg Fy)) y1.Key _ rfl) rfl ?_);clear S;intro v5 a w8 hv3 hk6 hn3 S
     subst hv3
     refine Ld (Hb hk6 (Lc [6,7] hsel (by kernel_rfl) rfl ?_))
     clear hsel
     refine Gp S rfl (Qe (S.tm rfl) rfl) rfl fun a S=>Gp S rfl (Ra (S.tm rfl)) rfl fun a S=>Kz ?_
     replace S:=S.k6 0 4 8 9 10 20 rfl
     refine Tn (Fc h (S.tm rfl) (fun hb3 h=>?_) (fun hb3 h=>?_))
     ·refine Fr (Vk S rfl rfl fun a S=>Dl (wp_ret (Hv (Hv (Fk (Fk (Hv ?_)))))))
      refine Fk (Fk ?_)
      obtain rfl:=Option.some.inj h
      exact Gm S results16 rfl rfl
     ·refine Fr (Vf Qn S rfl rfl fun a S=>Vl isAgg3 0 S rfl rfl rfl rfl fun a S=>Fo S (fun _=>Fa (vs:=[iV y1.Heats,iV 1,iV 60]) ⟨(S.tm rfl),rfl,rfl,trivial⟩ call35) (Oa _ y1.Heats 1 60 _ rfl) rfl ?_);clear S;intro v6 a w9 hv4 hk7 hn4 S
      subst hv4
      refine Vu S Mo rfl rfl fun a S=>Vm S rfl rfl fun a S=>Lq 5 (fun a w'=>Keep [] w9 w' ∧ Sx w [] nov [.blk b2 (An.enc y1) 41] [(0,Ad),(4,.pointer (some ⟨b2,0,none⟩)),(8,Ad),(9,iV (Ar.length : Int)),(10,iV (i1 : Int)),(38,bV ((!(Gr y1.Heats 1 60)) || (!(Gr y1.Long 1 3600000))))] 52 a w') ?_ ?_
      ·rcases Bool.eq_false_or_eq_true (!(Gr y1.Heats 1 60)) with hb4 | hb4
       ·iterate 4 (refine Kn S rfl rfl rfl (Tb hb4) rfl ?_ rfl;clear S;intro a S)
        exact lv S (Rb (!(Gr y1.Long 1 3600000)) hb4 (S.tm rfl) rfl) rfl fun a S=>Dl (⟨Keep.refl _ _,S.nf [true] rfl (subR rfl)⟩)
       ·refine Fz S rfl rfl rfl hb4 (Vf Sa S rfl rfl fun a S=>Fz S rfl rfl rfl hb4 (Vl isAgg3 0 S rfl rfl rfl rfl fun a S=>Fz S rfl rfl rfl hb4 (Fo S (fun _=>Fa (vs:=[iV y1.Long,iV 1,iV 3600000]) ⟨(S.tm rfl),rfl,rfl,trivial⟩ call35) (Oa _ y1.Long 1 3600000 _ rfl) rfl ?_)));clear S;intro v7 a w11 hv5 hk8 hn5 S
        subst hv5
        exact Fz S rfl rfl rfl hb4 (Vu S Mo rfl rfl fun a S=>lv S (Rc hb4 (S.tm rfl) (S.tm rfl)) rfl fun a S=>Dl (⟨hk8,S.nf [true] rfl (subR rfl)⟩))
      clear S;rintro a w10 ⟨hk9,S⟩
      refine Vm S rfl rfl fun a S=>Lq 5 (fun a w'=>Keep [] w10 w' ∧ Sx w [] nov [.blk b2 (An.enc y1) 41] [(0,Ad),(4,.pointer (some ⟨b2,0,none⟩)),(8,Ad),(9,iV (Ar.length : Int)),(10,iV (i1 : Int)),(44,bV (((!(Gr y1.Heats 1 60)) || (!(Gr y1.Long 1 3600000))) || (!(Gr y1.Gap 0 3600000))))] 52 a w') ?_ ?_
      ·rcases Bool.eq_false_or_eq_true ((!(Gr y1.Heats 1 60)) || (!(Gr y1.Long 1 3600000))) with hb5 | hb5
       ·iterate 4 (refine Kn S rfl rfl rfl (Tb hb5) rfl ?_ rfl;clear S;intro a S)
        exact lv S (Rb (!(Gr y1.Gap 0 3600000)) hb5 (S.tm rfl) rfl) rfl fun a S=>Dl (⟨Keep.refl _ _,S.nf [true] rfl (subR rfl)⟩)
       ·refine Fz S rfl rfl rfl hb5 (Vf Ty S rfl rfl fun a S=>Fz S rfl rfl rfl hb5 (Vl isAgg3 0 S rfl rfl rfl rfl fun a S=>Fz S rfl rfl rfl hb5 (Fo S (fun _=>Fa (vs:=[iV y1.Gap,iV 0,iV 3600000]) ⟨(S.tm rfl),rfl,rfl,trivial⟩ call35) (Oa _ y1.Gap 0 3600000 _ rfl) rfl ?_)));clear S;intro v8 a w13 hv6 hk10 hn6 S
        subst hv6
        exact Fz S rfl rfl rfl hb5 (Vu S Mo rfl rfl fun a S=>lv S (Rc hb5 (S.tm rfl) (S.tm rfl)) rfl fun a S=>Dl (⟨hk10,S.nf [true] rfl (subR rfl)⟩))
      clear S;rintro a w12 ⟨hk11,S⟩
      refine Vm S rfl rfl fun a S=>Lq 5 (fun a w'=>Keep [] w12 w' ∧ Sx w [] nov [.blk b2 (An.enc y1) 41] [(0,Ad),(8,Ad),(9,iV (Ar.length : Int)),(10,iV (i1 : Int)),(50,bV ((((!(Gr y1.Heats 1 60)) || (!(Gr y1.Long 1 3600000))) || (!(Gr y1.Gap 0 3600000))) || (!(Gr y1.Break 0 3600000))))] 52 a w') ?_ ?_
      ·rcases Bool.eq_false_or_eq_true (((!(Gr y1.Heats 1 60)) || (!(Gr y1.Long 1 3600000))) || (!(Gr y1.Gap 0 3600000))) with hb6 | hb6
       ·iterate 4 (refine Kn S rfl rfl rfl (Tb hb6) rfl ?_ rfl;clear S;intro a S)
        exact lv S (Rb (!(Gr y1.Break 0 3600000)) hb6 (S.tm rfl) rfl) rfl fun a S=>Dl (⟨Keep.refl _ _,S.nf [true] rfl (subR rfl)⟩)
       ·refine Fz S rfl rfl rfl hb6 (Vf Vg S rfl rfl fun a S=>Fz S rfl rfl rfl hb6 (Vl isAgg3 0 S rfl rfl rfl rfl fun a S=>Fz S rfl rfl rfl hb6 (Fo S (fun _=>Fa (vs:=[iV y1.Break,iV 0,iV 3600000]) ⟨(S.tm rfl),rfl,rfl,trivial⟩ call35) (Oa _ y1.Break 0 3600000 _ rfl) rfl ?_)));clear S;intro v9 a w15 hv7 hk12 hn7 S
        subst hv7
        exact Fz S rfl rfl rfl hb6 (Vu S Mo rfl rfl fun a S=>lv S (Rc hb6 (S.tm rfl) (S.tm rfl)) rfl fun a S=>Dl (⟨hk12,S.nf [true] rfl (subR rfl)⟩))
      clear S;rintro a w14 ⟨hk13,S⟩
      refine Va S rfl rfl fun a S=>Dl (Fc h (S.tm rfl) (fun hb7 h=>?_) (fun hb7 h=>?_))
      ·refine Fr (Vk S rfl rfl fun a S=>Dl (wp_ret (Hv (Hv (Fk (Fk (Hv ?_)))))))
       refine Fk (Fk ?_)
       obtain rfl:=Option.some.inj h
       exact Gm S results16 rfl rfl
      ·exact wp_skip (Kb (Kb (Tn (Fg (Vq S Gx rfl rfl rfl fun a S=>Vm S rfl rfl fun a S=>Dl (⟨ys1,⟨i1 + 1,⟨_,(hd1).trans (List.append_cons _ _ _),by simp [hi1]⟩,h,S.nf [false] rfl ⟨rfl,rfl,rfl,(congrArg (fun z=>some (Value.int .i64 z)) (Ii hd1 hi1 (Kl Ap))),trivial⟩⟩,Nat.lt_succ_self _⟩))))))
  clear S h;rintro a w2 ⟨h,S⟩;rw [hj1] at h;clear hj1 j1
  refine Tn (Fr (Vk S rfl rfl fun a S=>Dl (wp_ret ?_)))
  obtain rfl:=Option.some.inj h
  exact Gm S results16 rfl rfl
theorem Tc (w : World) (Bl : ByteArray) (r : Bool) (h : Nr Bl = r) :
    Calls prog 88 [sV Bl].toArray w (Ret w [] fun _ v _=>v = bV r):=by
 refine Fe func88 rfl ntmps88 rfl fun a S=>?_
 unfold Nr at h
 replace S:=S.k1 0 rfl
 refine Fr (Vk S rfl rfl fun a S=>Dz (Vm S rfl rfl fun a S=>Vm S rfl rfl fun a S=>Vb S AM rfl rfl rfl fun a S=>Va S rfl rfl ?_));clear S;intro a S
 refine Dl (wp_ret ?_)
 subst h
 exact Gm S results88 rfl rfl
theorem Wb (w : World) (Bl : ByteArray) (Ef : ByteArray) (r : Int) (h : Mj Bl Ef = r) :
    Calls prog 65 [sV Bl,sV Ef].toArray w (Ret w [] fun _ v _=>v = iV r):=by
 refine Fe func65 rfl ntmps65 rfl fun a S=>?_
 unfold Mj at h
 replace S:=S.k2 0 1 rfl
 refine Fr (Vk S rfl rfl fun a S=>Dz (Vm S rfl rfl fun a S=>Fo S (fun _=>Fa (vs:=[sV Bl]) ⟨(S.tm rfl),trivial⟩ call88) (Tc _ Bl _ rfl) rfl ?_));clear S;intro v1 a w1 hv1 hk1 hn1 S
 subst hv1
 refine Va S rfl rfl fun a S=>Dz (Vm S rfl rfl fun a S=>Fo S (fun _=>Fa (vs:=[sV Ef]) ⟨(S.tm rfl),trivial⟩ call88) (Tc _ Ef _ rfl) rfl ?_);clear S;intro v2 a w2 hv2 hk2 hn2 S
 subst hv2
 refine Va S rfl rfl fun a S=>Dl (Fs (Fr (Vm S rfl rfl fun a S=>Dl (Fc h (S.tm rfl) (fun hb1 h=>?_) (fun hb1 h=>?_)))))
 ·refine Fs (Fr (Vm S rfl rfl fun a S=>Dl (Fc h (S.tm rfl) (fun hb2 h=>?_) (fun hb2 h=>?_))))
  ·refine Fr (Vk S rfl rfl fun a S=>Dl (wp_ret (Fk (Fk ?_))))
   subst h
   exact Gm S results65 rfl rfl
  ·refine wp_skip (Tn (Fr (Vk S rfl rfl fun a S=>Dl (wp_ret (Fk ?_)))))
   subst h
   exact Gm S results65 rfl rfl
 ·refine wp_skip (Tn (Fs (Fr (Vm S rfl rfl fun a S=>Dl (Fc h (S.tm rfl) (fun hb3 h=>?_) (fun hb3 h=>?_))))))
  ·refine Fr (Vk S rfl rfl fun a S=>Dl (wp_ret (Fk ?_)))
   subst h
   exact Gm S results65 rfl rfl
  ·refine wp_skip (Tn (Fs (Fr (Vm S rfl rfl fun a S=>Vm S rfl rfl fun a S=>Vb S HS rfl rfl rfl fun a S=>Dl (Fc h (S.tm rfl) (fun hb4 h=>?_) (fun hb4 h=>?_))))))
   ·refine Fr (Vk S rfl rfl fun a S=>Dl (wp_ret (Fk ?_)))
    subst h
    exact Gm S results65 rfl rfl
   ·refine wp_skip (Tn (Fs (Fr (Vm S rfl rfl fun a S=>Vm S rfl rfl fun a S=>Vb S rn_sgtr rfl rfl rfl fun a S=>Ld ?_))))
    replace S:=S.k1 19 rfl
    refine Tn (Fc h (S.tm rfl) (fun hb5 h=>?_) (fun hb5 h=>?_))
    ·refine Fr (Vk S rfl rfl fun a S=>Dl (wp_ret (Fk ?_)))
     subst h
     exact Gm S results65 rfl rfl
    ·refine wp_skip (Tn (Fr (Vk S rfl rfl fun a S=>Dl (wp_ret ?_))))
     subst h
     exact Gm S results65 rfl rfl
theorem Qy (w : World) (Cu : Value) (De : List ByteArray) (Co : Slc (view w []) 1 Cu (De.map Ic)) (Cy : Value) (Dj : List ByteArray) (Di : Slc (view w []) 1 Cy (Dj.map Ic)) (r : Int) (h : Kc De Dj = some r) :
    Calls prog 40 [Cu,Cy].toArray w (Ret w [] fun _ v _=>v = iV r):=by
 refine Fe func40 rfl ntmps40 rfl fun a S=>?_
 unfold Kc at h
 replace S:=S.k2 0 1 rfl
 refine Fr (Vk S rfl rfl fun a S=>Dl (Fs (Fr (Vm S rfl rfl fun a S=>lv S (Gh Kv (S.tm rfl) (Ey Co)) rfl fun a S=>lv S (Rm rfl) rfl ?_))));clear S;intro a S
 refine Dl ?_
 replace S:=S.k5 0 1 9 10 11 rfl
 obtain ⟨j1,hj1,h⟩:=Ha h
 refine Gv (fun a w'=>j1 = some r ∧ Sx w [] nov [] [(0,Cu),(1,Cy)] 36 a w') ?_ ?_
 ·refine wp_block (Iv (fun (ys1 : List ByteArray) a w'=>∃ i1 : Nat,(∃ dn,De = dn ++ ys1 ∧ dn.length = i1) ∧ Hf Dj j1 ys1 i1 = some r ∧ Sx w [] nov [] [(0,Cu),(1,Cy),(9,Cu),(10,iV (De.length : Int)),(11,iV (i1 : Int))] 36 a w') List.length De ⟨0,⟨[],rfl,rfl⟩,h,S.nf [] rfl (subR rfl)⟩ ?_)
  clear S h;rintro ys1 a w1 ⟨i1,⟨dn,hd1,hi1⟩,h,S⟩
  cases ys1 with
  | nil =>
   rw [Hf.eq_1] at h
   refine Fr (Vb S Gb rfl rfl rfl fun a S=>Ld ?_)
   replace S:=S.k6 0 1 9 10 11 12 rfl
   exact Tn (Fs (wp_cond_false ((S.tm rfl).trans (congrArg Value.bool (Jr hd1 hi1))) (wp_exit (Gk (Gk (Jc (Tn (⟨h,S.nf [] rfl (subR rfl)⟩))))))))
  | cons y1 ys1 =>
   rw [Hf.eq_2] at h
   refine Fr (Vb S Gb rfl rfl rfl fun a S=>Ld ?_)
   replace S:=S.k6 0 1 9 10 11 12 rfl
   refine Tn (Fs (wp_cond_true ((S.tm rfl).trans (congrArg Value.bool (Ih hd1 hi1))) (wp_skip (Tn (Fs (wp_block (Fr (Vm S rfl rfl ?_))))))));clear S;intro a S
   obtain ⟨b1,o1,hm1,hr1⟩:=Gd (a:=a) (x:=.tmp 9) (y:=.tmp 11) (ty:=0) Kv Co (Jd hd1 hi1) rfl (S.tm rfl) (S.tm rfl)
   refine lv S (hr1 _) rfl ?_;clear S;intro a S
   clear hr1
   refine lv S (Hr isAgg9 (off:=o1) (o:=0) (S.tm rfl) (hm1.at S.emb0) rfl) rfl fun a S=>Va S rfl rfl fun a S=>Va S rfl rfl fun a S=>Dl (Fs (Fr (Vm S rfl rfl fun a S=>Vm S rfl rfl fun a S=>lv S (Gh Kv (S.tm rfl) (Ey Di)) rfl ?_)));clear S;intro a S
   refine Vb S Qe rfl rfl rfl fun a S=>Ld ?_
   replace S:=S.k8 0 1 5 6 9 10 11 19 rfl
   refine Tn (Fc h (S.tm rfl) (fun hb1 h=>?_) (fun hb1 h=>?_))
   ·refine Fr (Vk S rfl rfl fun a S=>Dl (wp_ret (Fk (Hv (Fk (Fk (Hv ?_)))))))
    refine Fk (Fk ?_)
    obtain rfl:=Option.some.inj h
    exact Gm S results40 rfl rfl
   ·refine wp_skip (Tn (Fr (Vm S rfl rfl fun a S=>Vm S rfl rfl ?_)));clear S;intro a S
    obtain ⟨hc1,h⟩:=Ig h
    obtain ⟨b2,o2,hm2,hr2⟩:=Gd (a:=a) (x:=.tmp 20) (y:=.tmp 21) (ty:=0) Kv Di (Ff hc1).1 (Ff hc1).2 (S.tm rfl) (S.tm rfl)
    refine lv S (hr2 _) rfl ?_;clear S;intro a S
    clear hr2
    refine lv S (Hr isAgg9 (off:=o2) (o:=0) (S.tm rfl) (hm2.at S.emb0) rfl) rfl fun a S=>Va S rfl rfl fun a S=>Dz (Vm S rfl rfl fun a S=>Vm S rfl rfl fun a S=>Fo S (fun _=>Fa (vs:=[sV y1,sV (nth Dj (i1 : Int))]) ⟨(S.tm rfl),(S.tm rfl),trivial⟩ call65) (Wb _ y1 (nth Dj (i1 : Int)) _ rfl) rfl ?_);clear S;intro v1 a w3 hv1 hk1 hn1 S
    subst hv1
    refine Va S rfl rfl fun a S=>Ld ?_
    replace S:=S.k6 0 1 8 9 10 11 rfl
    refine Tn (Fr (Vm S rfl rfl fun a S=>Vq S Qd rfl rfl rfl fun a S=>Dl (Fc h (S.tm rfl) (fun hb2 h=>?_) (fun hb2 h=>?_))))
    ·refine Fr (Vm S rfl rfl fun a S=>Va S rfl rfl fun a S=>Dl (wp_ret (Hv (Fk (Fk (Hv ?_))))))
     refine Fk (Fk ?_)
     obtain rfl:=Option.some.inj h
     exact Gm S results40 rfl rfl
    ·exact wp_skip (Kb (Tn (Fg (Vq S Gx rfl rfl rfl fun a S=>Vm S rfl rfl fun a S=>Dl (⟨ys1,⟨i1 + 1,⟨_,(hd1).trans (List.append_cons _ _ _),by simp [hi1]⟩,h,S.nf [] rfl ⟨rfl,rfl,rfl,rfl,(congrArg (fun z=>some (Value.int .i64 z)) (Ii hd1 hi1 (Kl Co))),trivial⟩⟩,Nat.lt_succ_self _⟩)))))
 clear S h;rintro a w2 ⟨h,S⟩;rw [hj1] at h;clear hj1 j1
 refine Tn (Fs (Fr (Vm S rfl rfl fun a S=>lv S (Gh Kv (S.tm rfl) (Ey Co)) rfl fun a S=>Vm S rfl rfl fun a S=>lv S (Gh Kv (S.tm rfl) (Ey Di)) rfl fun a S=>Vb S Gb rfl rfl rfl fun a S=>Dl ?_)))
 refine Fc h (S.tm rfl) (fun hb3 h=>?_) (fun hb3 h=>?_)
 ·refine Fr (Vk S rfl rfl fun a S=>Dl (wp_ret (Fk ?_)))
  obtain rfl:=Option.some.inj h
  exact Gm S results40 rfl rfl
 ·refine wp_skip (Tn (Fr (Vk S rfl rfl fun a S=>Dl (wp_ret ?_))))
  obtain rfl:=Option.some.inj h
  exact Gm S results40 rfl rfl
theorem Zp (w : World) (Bz : Int) (r : Int) (h : Sp Bz = r) :
    Calls prog 84 [iV Bz].toArray w (Ret w [] fun _ v _=>v = iV r):=by
 refine Fe func84 rfl ntmps84 rfl fun a S=>?_
 unfold Sp at h
 replace S:=S.k1 0 rfl
 refine Fr (Vk S rfl rfl fun a S=>Dl (Fs (wp_block (Fr (Vm S rfl rfl fun a S=>Vq S Gb rfl rfl rfl ?_)))));clear S;intro a S
 refine Va S rfl rfl fun a S=>Dl (Fc h (S.tm rfl) (fun hb1 h=>?_) (fun hb1 h=>?_))
 ·refine Fr (Vk S rfl rfl fun a S=>Dl (wp_ret (Hv (Fk ?_))))
  subst h
  exact Gm S results84 rfl rfl
 ·refine Fr (Vm S rfl rfl fun a S=>Vq S Na rfl rfl rfl fun a S=>Va S rfl rfl fun a S=>Dl (Fc h (S.tm rfl) (fun hb2 h=>?_) (fun hb2 h=>?_)))
  ·refine Fr (Vk S rfl rfl fun a S=>Dl (wp_ret (Hv (Fk ?_))))
   subst h
   exact Gm S results84 rfl rfl
  ·refine wp_skip (Kb (Tn (Fr (Vk S rfl rfl fun a S=>Dl (wp_ret ?_)))))
   subst h
   exact Gm S results84 rfl rfl
theorem Wc (w : World) (Bh : Ex) (Bk : Ex) (r : Int) (h : Nx Bh Bk = some r) :
    Calls prog 58 [.agg (Ex.enc Bh).toArray,.agg (Ex.enc Bk).toArray].toArray w (Ret w [] fun _ v _=>v = iV r):=by
 refine Fe func58 rfl ntmps58 rfl fun a S=>?_
 unfold Nx at h
 replace S:=S.k2 0 1 rfl
 refine Fr (Pt S (S.tm rfl) (cs:=(Ex.enc Bh)) rfl rfl ?_);clear S;intro a w1 b1 hz1 hk1 S
 refine Pt S (S.tm rfl) (cs:=(Ex.enc Bk)) rfl rfl ?_;clear S;intro a w2 b2 hz2 hk2 S
 refine Vk S rfl rfl fun a S=>Dl (Fs (Fr (Vf Qo S rfl rfl fun a S=>Vl isAgg9 1 S rfl rfl rfl rfl fun a S=>Vf Sb S rfl rfl fun a S=>Vl isAgg9 1 S rfl rfl rfl rfl fun a S=>Fw S underlying31 sizeOf9 zeroValue9 rfl rfl (pv:=[(0,sV Bh.Who),(1,sV Bh.Item)]) ⟨rfl,(S.tm rfl),rfl,(S.tm rfl),trivial⟩ (cs:=[sV Bh.Who,sV Bh.Item]) (by kernel_rfl) rfl ?_)));clear S;intro a w3 b3 hz3 hk3 S
 refine Vf Qo S rfl rfl fun a S=>Vl isAgg9 1 S rfl rfl rfl rfl fun a S=>Vf Sb S rfl rfl fun a S=>Vl isAgg9 1 S rfl rfl rfl rfl fun a S=>Fw S underlying31 sizeOf9 zeroValue9 rfl rfl (pv:=[(0,sV Bk.Who),(1,sV Bk.Item)]) ⟨rfl,(S.tm rfl),rfl,(S.tm rfl),trivial⟩ (cs:=[sV Bk.Who,sV Bk.Item]) (by kernel_rfl) rfl ?_;clear S;intro a w4 b4 hz4 hk4 S
 obtain ⟨r1,hr1,h⟩:=He h
 refine Fo S (fun _=>Fa (vs:=[.slice (some ⟨b3,0,none⟩) 2 2,.slice (some ⟨b4,0,none⟩) 2 2]) ⟨(S.tm rfl),(S.tm rfl),trivial⟩ call40) (Qy _ (.slice (some ⟨b3,0,none⟩) 2 2) [Bh.Who,Bh.Item] (Lz Jb S (i:=1) rfl rfl rfl rfl ((Ij (e':=.blk b3 [sV Bh.Who,sV Bh.Item] 9)) _ rfl)) (.slice (some ⟨b4,0,none⟩) 2 2) [Bk.Who,Bk.Item] (Lz Jb S (i:=0) rfl rfl rfl rfl ((Ij (e':=.blk b4 [sV Bk.Who,sV Bk.Item] 9)) _ rfl)) _ hr1) rfl ?_;clear S;intro v1 a w5 hv1 hk5 hn1 S
 subst hv1
 refine Va S rfl rfl fun a S=>Ld ?_
 replace S:=(S.nl [.blk b2 (Ex.enc Bk) 55,.blk b1 (Ex.enc Bh) 55] [false,false,true,true] rfl).k3 2 3 5 rfl
 refine Tn (Fr (Vm S rfl rfl fun a S=>Vq S Qd rfl rfl rfl fun a S=>Dl (Fc h (S.tm rfl) (fun hb1 h=>?_) (fun hb1 h=>?_))))
 ·refine Fr (Vm S rfl rfl fun a S=>Va S rfl rfl fun a S=>Dl (wp_ret (Fk ?_)))
  obtain rfl:=Option.some.inj h
  exact Gm S results58 rfl rfl
 ·refine wp_skip (Tn (Fr (Vf Qp S rfl rfl fun a S=>Vl isAgg3 1 S rfl rfl rfl rfl fun a S=>Vf Qp S rfl rfl fun a S=>Vl isAgg3 0 S rfl rfl rfl rfl fun a S=>Vb S Kw rfl rfl rfl fun a S=>Fo S (fun _=>Fa (vs:=[iV (W (Bh.Heat - Bk.Heat))]) ⟨(S.tm rfl),trivial⟩ call84) (Zp _ (W (Bh.Heat - Bk.Heat)) _ rfl) rfl ?_)));clear S;intro v2 a w6 hv2 hk6 hn2 S
  subst hv2
  refine Va S rfl rfl fun a S=>Dl (wp_ret ?_)
  obtain rfl:=Option.some.inj h
  exact Gm S results58 rfl rfl
set_option maxRecDepth 20000 in
theorem Vh (w : World) (Ab : Value) (Ae : List An) (As : Slc (view w []) 5 Ab (Ae.map An.enc)) (Ad : Value) (Ar : List Ex) (Ap : Slc (view w []) 3 Ad (Ar.map Ex.enc)) (r : Int) (h : Nh Ae Ar = some r) :
    Calls prog 34 [Ab,Ad].toArray w (Ret w [] fun _ v _=>v = iV r):=by
 refine Fe func34 rfl ntmps34 rfl fun a S=>?_
 unfold Nh at h
 replace S:=S.k2 0 1 rfl
 refine Fr (Vk S rfl rfl fun a S=>Dl (Fs (Fr (Vm S rfl rfl ?_))));clear S;intro a S
 obtain ⟨r1,hr1,h⟩:=He h
 refine Fo S (fun _=>Fa (vs:=[Ab]) ⟨(S.tm rfl),trivial⟩ call16) (Sf _ Ab Ae (As.mono (S.le_arg Fy)) _ hr1) rfl ?_;clear S;intro v1 a w1 hv1 hk1 hn1 S
 subst hv1
 refine Va S rfl rfl fun a S=>Dz (Vm S rfl rfl fun a S=>Vq S Qd rfl rfl rfl fun a S=>Dl (Fc h (S.tm rfl) (fun hb1 h=>?_) (fun hb1 h=>?_)))
 ·refine Fr (Vm S rfl rfl fun a S=>Va S rfl rfl fun a S=>Dl (wp_ret (Fk ?_)))
  obtain rfl:=Option.some.inj h
  exact Gm S results34 rfl rfl
 ·refine wp_skip (Tn (Fs (Fr (Vm S rfl rfl fun a S=>lv S (Gh Rz (S.tm rfl) (Ey Ap)) rfl fun a S=>Vq S Na rfl rfl rfl fun a S=>Dl (Fc h (S.tm rfl) (fun hb2 h=>?_) (fun hb2 h=>?_))))))
  ·refine Fr (Vk S rfl rfl fun a S=>Dl (wp_ret (Fk ?_)))
   obtain rfl:=Option.some.inj h
   exact Gm S results34 rfl rfl
  ·refine wp_skip (Tn (Fs (Fr (Vm S rfl rfl fun a S=>lv S (Gh Rz (S.tm rfl) (Ey Ap)) rfl fun a S=>lv S (Rm rfl) rfl fun a S=>Dl ?_))))
   replace S:=S.k5 0 1 17 18 19 rfl
   obtain ⟨j1,hj1,h⟩:=Ha h
   refine Gv (fun a w'=>j1 = some r ∧ Sx w [] nov [] [] 60 a w') ?_ ?_
   ·refine wp_block (Iv (fun (ys1 : List Ex) a w'=>∃ i1 : Nat,(∃ dn,Ar = dn ++ ys1 ∧ dn.length = i1) ∧ Hy Ae Ar j1 ys1 i1 = some r ∧ Sx w [] nov [] [(0,Ab),(1,Ad),(17,Ad),(18,iV (Ar.length : Int)),(19,iV (i1 : Int))] 60 a w') List.length Ar ⟨0,⟨[],rfl,rfl⟩,h,S.nf [] rfl (subR rfl)⟩ ?_)
    clear S h;rintro ys1 a w2 ⟨i1,⟨dn,hd1,hi1⟩,h,S⟩
    cases ys1 with
    | nil =>
     rw [Hy.eq_1] at h
     refine Fr (Vb S Gb rfl rfl rfl fun a S=>Ld ?_)
     replace S:=S.k6 0 1 17 18 19 20 rfl
     exact Tn (Fs (wp_cond_false ((S.tm rfl).trans (congrArg Value.bool (Jr hd1 hi1))) (wp_exit (Gk (Gk (Jc (Tn (⟨h,S.nf [] rfl trivial⟩))))))))
    | cons y1 ys1 =>
     rw [Hy.eq_2] at h
     refine Fr (Vb S Gb rfl rfl rfl fun a S=>Ld ?_)
     replace S:=S.k6 0 1 17 18 19 20 rfl
     refine Tn (Fs (wp_cond_true ((S.tm rfl).trans (congrArg Value.bool (Ih hd1 hi1))) (wp_skip (Tn (Fs (wp_block (Fr (Vm S rfl rfl ?_))))))));clear S;intro a S
     obtain ⟨b1,o1,hm1,hr2⟩:=Gd (a:=a) (x:=.tmp 17) (y:=.tmp 19) (ty:=0) Rz Ap (Jd hd1 hi1) rfl (S.tm rfl) (S.tm rfl)
     refine lv S (hr2 _) rfl ?_;clear S;intro a S
     clear hr2
     refine lv S (Ji isAgg55 sizeOf55 (off:=o1) (o:=0) (part:=(Ex.enc y1)) rfl rfl (S.tm rfl) (hm1.at S.emb0)) rfl fun a S=>Mw S zeroValue55 (cs:=[sV Ga,sV Ga,iV 0]) rfl rfl ?_;clear S;intro a w4 b2 hz1 hk2 S
     refine Va S rfl rfl fun a S=>Ku S (S.tm rfl) (S.tm rfl) (i:=0) (off:=0) rfl sizeOf55 (vs:=(Ex.enc y1)) rfl rfl rfl rfl ?_;clear S;intro w5 hk3 S
     refine Dz (Vm S rfl rfl fun a S=>Vf Sb S rfl rfl fun a S=>Vl isAgg9 0 S rfl rfl rfl rfl fun a S=>Fo S (fun _=>Fa (vs:=[Ab,sV y1.Item]) ⟨(S.tm rfl),(S.tm rfl),trivial⟩ call37) (Pr _ Ab Ae (As.mono (S.le_arg Fy)) y1.Item _ rfl) rfl ?_);clear S;intro v2 a w6 hv2 hk4 hn2 S
     subst hv2
     refine Va S rfl rfl fun a S=>Ld ?_
     replace S:=(S.nl [.blk b2 (Ex.enc y1) 55] [true] rfl).k8 0 1 6 7 8 17 18 19 rfl
     refine Tn (wp_block (Fr (Vf Qo S rfl rfl fun a S=>Vl isAgg9 0 S rfl rfl rfl rfl ?_)));clear S;intro a S
     obtain ⟨r2,hr3,h⟩:=He h
     refine Fo S (fun _=>Fa (vs:=[sV y1.Who]) ⟨(S.tm rfl),trivial⟩ call44) (Vv _ y1.Who _ hr3) rfl ?_;clear S;intro v3 a w7 hv3 hk5 hn3 S
     subst hv3
     refine Vu S Mo rfl rfl fun a S=>Va S rfl rfl fun a S=>Dl (Fc h (S.tm rfl) (fun hb3 h=>?_) (fun hb3 h=>?_))
     ·refine Fr (Vk S rfl rfl fun a S=>Dl (wp_ret (Hv (Hv (Fk (Fk (Hv ?_)))))))
      refine Fk (Fk ?_)
      obtain rfl:=Option.some.inj h
      exact Gm S results34 rfl rfl
     ·refine Fr (Vm S rfl rfl fun a S=>Vq S Gb rfl rfl rfl fun a S=>Va S rfl rfl fun a S=>Ld ?_)
      replace S:=S.k9 0 1 6 7 8 17 18 19 33 rfl
      refine Tn (Fc h (S.tm rfl) (fun hb4 h=>?_) (fun hb4 h=>?_))
      ·refine Fr (Vk S rfl rfl fun a S=>Dl (wp_ret (Hv (Hv (Fk (Fk (Hv ?_)))))))
       refine Fk (Fk ?_)
       obtain rfl:=Option.some.inj h
       exact Gm S results34 rfl rfl
      ·refine Fs ?_
       obtain ⟨hc1,h⟩:=Ig h
       refine Hx [] ([]) Tryz.mixed S rfl (by kernel_rfl) ?_;clear S;intro w9 hk7 hsel S
       refine Fj 0 S hsel rfl rfl rfl (by kernel_rfl) (by kernel_rfl) rfl (fun _ hw=>(Hk Qp (S.tm rfl))) fun a S=>Fj 1 S hsel rfl rfl rfl (by kernel_rfl) (by kernel_rfl) rfl (fun _ hw=>(Hr isAgg3 (off:=0) (o:=2) (S.tm rfl) ((S.blk_mem (i:=0) (cells:=(Ex.enc y1)) (b:=b2) (T:=55) rfl (Ij (e':=.blk b2 (Ex.enc y1) 55))).kept hw) rfl)) fun a S=>Fj 2 S hsel rfl rfl rfl (by kernel_rfl) (by kernel_rfl) rfl (fun _ hw=>(Rm (S.tm rfl))) fun a S=>Fj 3 S hsel rfl rfl rfl (by kernel_rfl) (by kernel_rfl) rfl (fun _ hw=>(Rm (S.tm rfl))) ?_;clear S;intro a S
       obtain ⟨b4,o3,hm3,hr5⟩:=Gd (a:=a) (x:=.tmp 39) (y:=.tmp 40) (ty:=0) Il (As.mono (S.le_arg Fy)) (Ff hc1).1 (Ff hc1).2 (S.tm rfl) (S.tm rfl)
       refine Fj 4 S hsel rfl rfl rfl (by kernel_rfl) (by kernel_rfl) rfl (fun _ hw=>hr5 _) ?_;clear S;intro a S
       clear hr5
       refine Fj 5 S hsel rfl rfl rfl (by kernel_rfl) (by kernel_rfl) rfl (fun _ hw=>(Hk Qn (S.tm rfl))) fun a S=>Fj 6 S hsel rfl rfl rfl (by kernel_rfl) (by kernel_rfl) rfl (fun _ hw=>(Hr isAgg3 (off:=o3) (o:=1) (S.tm rfl) (hm3.kept hw) rfl)) fun a S=>Gq 7 (by kernel_rfl) rfl (Fo S (fun _=>Fa (vs:=[iV y1.Heat,iV 1,iV ((nth Ae (Gl Ae y1.Item)).Heats)]) ⟨(S.tm rfl),rfl,(S.tm rfl),trivial⟩ call35) (Oa _ y1.Heat 1 ((nth Ae (Gl Ae y1.Item)).Heats) _ rfl) rfl ?_);clear S;intro v5 a w10 hv5 hk8 hn5 S
       subst hv5
       refine Ld (Hb hk8 (Lc [8,9] hsel (by kernel_rfl) rfl ?_))
       clear hsel
       refine Gp S rfl (Mo (S.tm rfl)) rfl fun a S=>Gp S rfl (Ra (S.tm rfl)) rfl fun a S=>Kz ?_
       replace S:=S.k8 0 1 6 7 17 18 19 36 rfl
       refine Tn (Fc h (S.tm rfl) (fun hb5 h=>?_) (fun hb5 h=>?_))
       ·refine Fr (Vk S rfl rfl fun a S=>Dl (wp_ret (Hv (Hv (Fk (Fk (Hv ?_)))))))
        refine Fk (Fk ?_)
        obtain rfl:=Option.some.inj h
        exact Gm S results34 rfl rfl
       ·refine Fs ?_
        obtain ⟨j2,hj2,h⟩:=Ha h
        refine Gv (fun a w'=>∃ x1 : Bool,j2 x1 = some r ∧ Sx w [] nov [] [(0,Ab),(1,Ad),(17,Ad),(18,iV (Ar.length : Int)),(19,iV (i1 : Int)),(46,bV x1)] 60 a w') ?_ ?_
        ·rcases Bool.eq_false_or_eq_true (decide (0 < (i1 : Int))) with hb6 | hb6
         ·replace h:=Sy h hb6
          obtain ⟨hc2,h⟩:=Ig h
          obtain ⟨r3,hr7,h⟩:=He h
          refine Hx [] ([]) Tryz.mixed S rfl (by kernel_rfl) ?_;clear S;intro w13 hk10 hsel S
          refine Fj 0 S hsel rfl rfl rfl (by kernel_rfl) (by kernel_rfl) rfl (fun _ hw=>(Rm (S.tm rfl))) fun a S=>Fj 1 S hsel rfl rfl rfl (by kernel_rfl) (by kernel_rfl) rfl (fun _ hw=>(Na (S.tm rfl) rfl)) fun a S=>Fj 2 S hsel rfl rfl rfl (by kernel_rfl) (by kernel_rfl) rfl (fun _ hw=>(Rm (S.tm rfl))) fun a S=>Hh 3 S hsel rfl rfl rfl rfl hb6 rfl rfl (by kernel_rfl) (by kernel_rfl) rfl (fun _ hw=>(Rm (S.tm rfl))) fun a S=>Hh 4 S hsel rfl rfl rfl rfl hb6 rfl rfl (by kernel_rfl) (by kernel_rfl) rfl (fun _ hw=>(Rm (S.tm rfl))) fun a S=>Hh 5 S hsel rfl rfl rfl rfl hb6 rfl rfl (by kernel_rfl) (by kernel_rfl) rfl (fun _ hw=>(Kw (S.tm rfl) rfl)) ?_;clear S;intro a S
          obtain ⟨b6,o5,hm5,hr8⟩:=Gd (a:=a) (x:=.tmp 50) (y:=.tmp 52) (ty:=0) Rz (Ap.mono (S.le_arg Fy)) (Ff hc2).1 (Ff hc2).2 (S.tm rfl) (S.tm rfl)
          refine Hh 6 S hsel rfl rfl rfl rfl hb6 rfl rfl (by kernel_rfl) (by kernel_rfl) rfl (fun _ hw=>hr8 _) ?_;clear S;intro a S
          clear hr8
          refine Hh 7 S hsel rfl rfl rfl rfl hb6 rfl rfl (by kernel_rfl) (by kernel_rfl) rfl (fun _ hw=>(Ji isAgg55 sizeOf55 (off:=o5) (o:=0) (part:=(Ex.enc (nth Ar (W ((i1 : Int) - 1))))) rfl rfl (S.tm rfl) (hm5.kept hw))) fun a S=>Hh 8 S hsel rfl rfl rfl rfl hb6 rfl rfl (by kernel_rfl) (by kernel_rfl) rfl (fun _ hw=>(Ji isAgg55 sizeOf55 (off:=0) (o:=0) (part:=(Ex.enc y1)) rfl rfl (S.tm rfl) ((S.blk_mem (i:=0) (cells:=(Ex.enc y1)) (b:=b2) (T:=55) rfl (Ij (e':=.blk b2 (Ex.enc y1) 55))).kept hw))) fun a S=>Gq 9 (by kernel_rfl) rfl (Fz S rfl rfl rfl hb6 (Fo S (fun _=>Fa (vs:=[.agg (Ex.enc (nth Ar (W ((i1 : Int) - 1)))).toArray,.agg (Ex.enc y1).toArray]) ⟨(S.tm rfl),(S.tm rfl),trivial⟩ call58) (Wc _ (nth Ar (W ((i1 : Int) - 1))) y1 _ hr7) rfl ?_));clear S;intro v7 a w14 hv7 hk11 hn7 S
          subst hv7
          refine Ld (Hb hk11 (Lc [10,11,12] hsel (by kernel_rfl) rfl ?_))
          clear hsel
          refine Rp S rfl rfl rfl rfl hb6 (Tl S (Qe (S.tm rfl) rfl) rfl fun a S=>Gp S rfl (Rh hb6 (S.tm rfl) (S.tm rfl)) rfl fun a S=>Gp S rfl (Ra (S.tm rfl)) rfl fun a S=>Kz ?_)
          replace S:=S.n0.k14 0 1 17 18 19 46 50 51 52 53 54 55 56 57 rfl
          exact Tn (⟨decide (0 ≤ r3),h,S.nf [] rfl (subR rfl)⟩)
         ·replace h:=Sz h hb6
          refine Hx [] ([]) Tryz.mixed S rfl (by kernel_rfl) ?_;clear S;intro w15 hk12 hsel S
          refine Lc [0,1,2,3,4,5,6,7,8,9,10,11,12] hsel (by kernel_rfl) rfl ?_
          clear hsel
          refine Gp S rfl (Rm (S.tm rfl)) rfl fun a S=>Gp S rfl (Na (S.tm rfl) rfl) rfl fun a S=>Gp S rfl (Rm (S.tm rfl)) rfl ?_;clear S;intro a S
          iterate 8 (refine Zn S rfl rfl rfl rfl (Ov hb6) rfl ?_ rfl;clear S;intro a S)
          refine Gp S rfl (Ri hb6 (S.tm rfl) rfl) rfl fun a S=>Gp S rfl (Ra (S.tm rfl)) rfl fun a S=>Kz ?_
          replace S:=S.n0.k6 0 1 17 18 19 46 rfl
          exact Tn (⟨false,h,S.nf [] rfl (subR rfl)⟩)
        clear S h;rintro a w11 ⟨x1,h,S⟩;rw [hj2] at h;clear hj2 j2
        refine Tn (Fc h (S.tm rfl) (fun hb7 h=>?_) (fun hb7 h=>?_))
        ·refine Fr (Vk S rfl rfl fun a S=>Dl (wp_ret (Hv (Hv (Fk (Fk (Hv ?_)))))))
         refine Fk (Fk ?_)
         obtain rfl:=Option.some.inj h
         exact Gm S results34 rfl rfl
        ·exact wp_skip (Kb (Kb (Tn (Fg (Vq S Gx rfl rfl rfl fun a S=>Vm S rfl rfl fun a S=>Dl (⟨ys1,⟨i1 + 1,⟨_,(hd1).trans (List.append_cons _ _ _),by simp [hi1]⟩,h,S.nf [] rfl ⟨rfl,rfl,rfl,rfl,(congrArg (fun z=>some (Value.int .i64 z)) (Ii hd1 hi1 (Kl Ap))),trivial⟩⟩,Nat.lt_succ_self _⟩))))))
   clear S h;rintro a w3 ⟨h,S⟩;rw [hj1] at h;clear hj1 j1
   refine Tn (Fr (Vk S rfl rfl fun a S=>Dl (wp_ret ?_)))
   obtain rfl:=Option.some.inj h
   exact Gm S results34 rfl rfl
theorem Vi (w : World) (Ab : Value) (Ae : List An) (As : Slc (view w []) 5 Ab (Ae.map An.enc)) (Ad : Value) (Ar : List Ex) (Ap : Slc (view w []) 3 Ad (Ar.map Ex.enc)) (Aw : Int) (r : Int) (h : Le Ae Ar Aw = some r) :
    Calls prog 8 [Ab,Ad,iV Aw].toArray w (Ret w [] fun _ v _=>v = iV r):=by
 refine Fe func8 rfl ntmps8 rfl fun a S=>?_
 unfold Le at h
 replace S:=S.k3 0 1 2 rfl
 refine Fr (Vk S rfl rfl fun a S=>Dl (Fs (Fr (Vm S rfl rfl fun a S=>Vm S rfl rfl ?_))));clear S;intro a S
 obtain ⟨r1,hr1,h⟩:=He h
 refine Fo S (fun _=>Fa (vs:=[Ab,Ad]) ⟨(S.tm rfl),(S.tm rfl),trivial⟩ call34) (Vh _ Ab Ae (As.mono (S.le_arg Fy)) Ad Ar (Ap.mono (S.le_arg Fy)) _ hr1) rfl ?_;clear S;intro v1 a w1 hv1 hk1 hn1 S
 subst hv1
 refine Va S rfl rfl fun a S=>Dz (Vm S rfl rfl fun a S=>Vq S Qd rfl rfl rfl fun a S=>Dl (Fc h (S.tm rfl) (fun hb1 h=>?_) (fun hb1 h=>?_)))
 ·refine Fr (Vm S rfl rfl fun a S=>Va S rfl rfl fun a S=>Dl (wp_ret (Fk ?_)))
  obtain rfl:=Option.some.inj h
  exact Gm S results8 rfl rfl
 ·refine wp_skip (Tn (Fs (wp_block (Fr (Vm S rfl rfl fun a S=>lv S (Gh Il (S.tm rfl) (Ey As)) rfl fun a S=>Vq S Na rfl rfl rfl fun a S=>Va S rfl rfl fun a S=>Ld ?_)))))
  refine Tn (Fc h (S.tm rfl) (fun hb2 h=>?_) (fun hb2 h=>?_))
  ·refine Fr (Vk S rfl rfl fun a S=>Dl (wp_ret (Hv (Fk ?_))))
   obtain rfl:=Option.some.inj h
   exact Gm S results8 rfl rfl
  ·refine Fr (Vm S rfl rfl fun a S=>Fo S (fun _=>Fa (vs:=[iV Aw,iV 0,iV 3600000]) ⟨(S.tm rfl),rfl,rfl,trivial⟩ call35) (Oa _ Aw 0 3600000 _ rfl) rfl ?_);clear S;intro v2 a w2 hv2 hk2 hn2 S
   subst hv2
   refine Vu S Mo rfl rfl fun a S=>Va S rfl rfl fun a S=>Ld ?_
   replace S:=S.k2 0 21 rfl
   refine Tn (Fc h (S.tm rfl) (fun hb3 h=>?_) (fun hb3 h=>?_))
   ·refine Fr (Vk S rfl rfl fun a S=>Dl (wp_ret (Hv (Fk ?_))))
    obtain rfl:=Option.some.inj h
    exact Gm S results8 rfl rfl
   ·refine wp_skip (Kb (Tn (Fr (Vk S rfl rfl fun a S=>Dl (Fs (Fs (Fg ?_)))))))
    refine Vm S rfl rfl fun a S=>lv S (Gh Il (S.tm rfl) (Ey As)) rfl fun a S=>lv S (Rm rfl) rfl fun a S=>Dl ?_
    replace S:=S.k4 8 25 26 27 rfl
    obtain ⟨j1,hj1,h⟩:=Ha h
    refine Gv (fun a w'=>∃ x1 : Int,j1 x1 = some r ∧ Sx w [] nov [] [(8,iV x1)] 51 a w') ?_ ?_
    ·refine wp_block (Iv (fun (ys1 : List An) a w'=>∃ i1 : Nat,∃ x1 : Int,(∃ dn,Ae = dn ++ ys1 ∧ dn.length = i1) ∧ Iq j1 ys1 i1 x1 = some r ∧ Sx w [] nov [] [(8,iV x1),(25,Ab),(26,iV (Ae.length : Int)),(27,iV (i1 : Int))] 51 a w') List.length Ae ⟨0,0,⟨[],rfl,rfl⟩,h,S.nf [] rfl (subR rfl)⟩ ?_)
     clear S h;rintro ys1 a w3 ⟨i1,x1,⟨dn,hd1,hi1⟩,h,S⟩
     cases ys1 with
     | nil =>
      rw [Iq.eq_1] at h
      refine Fr (Vb S Gb rfl rfl rfl fun a S=>Ld ?_)
      replace S:=S.k5 8 25 26 27 28 rfl
      exact Tn (Fs (wp_cond_false ((S.tm rfl).trans (congrArg Value.bool (Jr hd1 hi1))) (wp_exit (Gk (Gk (Jc (Tn (⟨x1,h,S.nf [] rfl ⟨rfl,trivial⟩⟩))))))))
     | cons y1 ys1 =>
      rw [Iq.eq_2] at h
      refine Fr (Vb S Gb rfl rfl rfl fun a S=>Ld ?_)
      replace S:=S.k5 8 25 26 27 28 rfl
      refine Tn (Fs (wp_cond_true ((S.tm rfl).trans (congrArg Value.bool (Ih hd1 hi1))) (wp_skip (Tn (Fs (wp_block (Fs (Fg ?_))))))))
      obtain ⟨b1,o1,hm1,hr2⟩:=Gd (a:=a) (x:=.tmp 25) (y:=.tmp 27) (ty:=0) Il As (Jd hd1 hi1) rfl (S.tm rfl) (S.tm rfl)
      refine lv S (hr2 _) rfl ?_;clear S;intro a S
      clear hr2
      refine lv S (Ji isAgg41 sizeOf41 (off:=o1) (o:=0) (part:=(An.enc y1)) rfl rfl (S.tm rfl) (hm1.at S.emb0)) rfl fun a S=>Mw S zeroValue41 (cs:=[sV Ga,iV 0,iV 0,iV 0,iV 0]) rfl rfl ?_;clear S;intro a w5 b2 hz1 hk3 S
      refine Ku S (S.tm rfl) (S.tm rfl) (i:=0) (off:=0) rfl sizeOf41 (vs:=(An.enc y1)) rfl rfl rfl rfl ?_;clear S;intro w6 hk4 S
      refine Dl (Fg (Vm S rfl rfl fun a S=>Vf Qn S rfl rfl fun a S=>Vl isAgg3 0 S rfl rfl rfl rfl fun a S=>Vf Sa S rfl rfl fun a S=>Vl isAgg3 0 S rfl rfl rfl rfl fun a S=>Vb S Xt rfl rfl rfl fun a S=>Vf Qn S rfl rfl fun a S=>Vl isAgg3 0 S rfl rfl rfl rfl ?_));clear S;intro a S
      refine Vq S Kw rfl rfl rfl fun a S=>Vf Ty S rfl rfl fun a S=>Vl isAgg3 0 S rfl rfl rfl rfl fun a S=>Vb S Xt rfl rfl rfl fun a S=>Vb S Gx rfl rfl rfl fun a S=>Vf Vg S rfl rfl fun a S=>Vl isAgg3 0 S rfl rfl rfl rfl fun a S=>Vb S Gx rfl rfl rfl fun a S=>Vb S Gx rfl rfl rfl fun a S=>Va S rfl rfl fun a S=>Ld ?_
      replace S:=S.n0.k4 8 25 26 27 rfl
      exact Kb (Tn (Fg (Vq S Gx rfl rfl rfl fun a S=>Vm S rfl rfl fun a S=>Dl (⟨ys1,⟨i1 + 1,W (x1 + (W ((W ((W (y1.Heats * y1.Long)) + (W ((W (y1.Heats - 1)) * y1.Gap)))) + y1.Break))),⟨_,(hd1).trans (List.append_cons _ _ _),by simp [hi1]⟩,h,S.nf [] rfl ⟨rfl,rfl,rfl,(congrArg (fun z=>some (Value.int .i64 z)) (Ii hd1 hi1 (Kl As))),trivial⟩⟩,Nat.lt_succ_self _⟩))))
    clear S h;rintro a w4 ⟨x1,h,S⟩;rw [hj1] at h;clear hj1 j1
    refine Tn (Fs (Fr (Vm S rfl rfl fun a S=>Vq S Na rfl rfl rfl fun a S=>Dl (Fc h (S.tm rfl) (fun hb4 h=>?_) (fun hb4 h=>?_)))))
    ·refine Fr (Vk S rfl rfl fun a S=>Dl (wp_ret (Fk ?_)))
     obtain rfl:=Option.some.inj h
     exact Gm S results8 rfl rfl
    ·refine wp_skip (Tn (Fr (Vk S rfl rfl fun a S=>Dl (wp_ret ?_))))
     obtain rfl:=Option.some.inj h
     exact Gm S results8 rfl rfl
set_option maxRecDepth 20000 in
theorem Ub (w : World) (Ak : Value) (Ay : List ByteArray) (Eb : (LEnt.own Ak 9 1 Ay.length (Ay.flatMap Ic)).holds w) (r : (List ByteArray)) (h : Kt Ay = some r) :
    Calls prog 86 [Ak].toArray w (Ret w (Ak.ownBlock.toList) fun _ v w'=>(LEnt.own v 9 1 r.length (r.flatMap Ic)).holds w' ∧ v.ownBlock = Ak.ownBlock):=by
 refine Lp (Ak.ownBlock.toList) [.own Ak 9 1 Ay.length (Ay.flatMap Ic)] func86 rfl ntmps86 rfl (fun e he=>by simp only [List.mem_singleton] at he;subst he;exact Eb) (Ml _) (Of _) fun a S=>?_
 unfold Kt at h
 replace S:=(S.nl [.own Ak 9 1 Ay.length (Ay.flatMap Ic)] [true] rfl).k1 0 rfl
 refine Fr (Vk S rfl rfl fun a S=>Dl (Fs (Fr (Vm S rfl rfl fun a S=>lv S (Gh Kv (S.tm rfl) (Ly (S.own_at (i:=0) rfl))) rfl fun a S=>Vq S Gb rfl rfl rfl ?_))));clear S;intro a S
 refine Dl (Fc h (S.tm rfl) (fun hb1 h=>?_) (fun hb1 h=>?_))
 ·refine Fr (Vm S rfl rfl fun a S=>Va S rfl rfl fun a S=>Dl (wp_ret (Fk ?_)))
  obtain rfl:=Option.some.inj h
  exact Gm S results86 rfl ⟨(S.holds _ (List.mem_of_getElem? (i:=0) rfl)),rfl⟩
 ·refine wp_skip (Tn (Fs (Fr (Vk S rfl rfl fun a S=>Dl ?_))))
  replace S:=S.k2 0 3 rfl
  obtain ⟨j1,hj1,h⟩:=Ha h
  refine Gv (fun a w'=>j1 = some r ∧ Sx w (Ak.ownBlock.toList) nov [.own Ak 9 1 Ay.length (Ay.flatMap Ic)] [(0,Ak)] 61 a w') ?_ ?_
  ·refine wp_block (Iv (fun (m1 : Nat) a w'=>∃ x1 : Int,Hp Ay j1 m1 x1 = some r ∧ Sx w (Ak.ownBlock.toList) nov [.own Ak 9 1 Ay.length (Ay.flatMap Ic)] [(0,Ak),(3,iV x1)] 61 a w') id (((Ay.length : Int) - 1).toNat + 2) ⟨1,h,S.nf [true] rfl (subR rfl)⟩ ?_)
   clear S h;rintro m1 a w1 ⟨x1,h,S⟩
   cases m1 with
   | zero=>rw [Hp.eq_1] at h;cases h
   | succ m1 =>
    rw [Hp.eq_2] at h
    refine Fs (Fr (Vm S rfl rfl fun a S=>Vm S rfl rfl fun a S=>lv S (Gh Kv (S.tm rfl) (Ly (S.own_at (i:=0) rfl))) rfl fun a S=>Vb S Gb rfl rfl rfl fun a S=>Dl (Fc h (S.tm rfl) (fun hb2 h=>?_) (fun hb2 h=>?_))))
    ·refine wp_skip (Tn (Fs (wp_block (Fs (Hx [] ([]) Tryz.mixed S rfl (by kernel_rfl) ?_)))));clear S;intro w3 hk1 hsel S
     refine Lc [0,1,2,3,4,5,6,7,8,9] hsel (by kernel_rfl) rfl ?_
     clear hsel
     refine Gp S rfl (Rm (S.tm rfl)) rfl fun a S=>Gp S rfl (Rm (S.tm rfl)) rfl ?_;clear S;intro a S
     obtain ⟨hc1,h⟩:=Ig h
     obtain ⟨b1,hg1,hr1⟩:=Hn (a:=a) (x:=.tmp 16) (y:=.tmp 17) (ty:=0) Kv Jb S (i:=0) rfl (Ff hc1).1 (Ff hc1).2 (S.tm rfl) (S.tm rfl)
     refine Gp S rfl (hr1 _) rfl ?_;clear S;intro a S
     clear hr1
     refine Gp S rfl (Hr isAgg9 (off:=x1.toNat * 1) (o:=0) (S.tm rfl) (Kx Jb S (i:=0) rfl hg1 (Ff hc1).1) rfl) rfl fun a S=>Gp S rfl (Rm (S.tm rfl)) rfl fun a S=>Gp S rfl (Rm (S.tm rfl)) rfl fun a S=>Gp S rfl (Kw (S.tm rfl) rfl) rfl ?_;clear S;intro a S
     obtain ⟨hc2,h⟩:=Ig h
     obtain ⟨b2,hg2,hr2⟩:=Hn (a:=a) (x:=.tmp 20) (y:=.tmp 22) (ty:=0) Kv Jb S (i:=0) rfl (Ff hc2).1 (Ff hc2).2 (S.tm rfl) (S.tm rfl)
     refine Gp S rfl (hr2 _) rfl ?_;clear S;intro a S
     clear hr2
     refine Gp S rfl (Hr isAgg9 (off:=((W (x1 - 1)).toNat) * 1) (o:=0) (S.tm rfl) (Kx Jb S (i:=0) rfl hg2 (Ff hc2).1) rfl) rfl fun a S=>Gp S rfl (Yg (S.tm rfl) (S.tm rfl)) rfl fun a S=>Kz ?_
     replace S:=S.k3 0 3 25 rfl
     refine Tn (Fc h (S.tm rfl) (fun hb3 h=>?_) (fun hb3 h=>?_))
     ·refine Fr (Vm S rfl rfl fun a S=>Vm S rfl rfl ?_);clear S;intro a S
      obtain ⟨hc3,h⟩:=Ig h
      obtain ⟨u1,hu1,hr3⟩:=AN (a:=a) (x:=.tmp 26) (y:=.tmp 27) (ty:=31) Kv S (i:=0) rfl (S.tm rfl) (S.tm rfl) hc3
      refine lv S (hr3 _) rfl ?_;clear S;intro a S
      clear hr3
      refine Va S rfl rfl fun a S=>Dl (Fs (Fr (Vk S rfl rfl fun a S=>Dl ?_)))
      replace S:=S.k4 0 3 4 5 rfl
      obtain ⟨j2,hj2,h⟩:=Ha h
      refine Gv (fun a w'=>∃ x2 : List ByteArray,∃ x3 : Int,j2 x2 x3 = some r ∧ Sx w (Ak.ownBlock.toList) nov [.own Ak 9 1 x2.length (x2.flatMap Ic)] [(0,Ak),(3,iV x3)] 61 a w') ?_ ?_
      ·refine wp_block (Iv (fun (m2 : Nat) a w'=>∃ x2 : List ByteArray,∃ x3 : Int,∃ x4 : Int,Ir Ay x1 j2 m2 x2 x3 x4 = some r ∧ Sx w (Ak.ownBlock.toList) nov [.own Ak 9 1 x2.length (x2.flatMap Ic)] [(0,Ak),(3,iV x3),(4,u1),(5,iV x4)] 61 a w') id (((((Ay.length : Int).toNat - x1.toNat : Nat) : Int) - 1).toNat + 2) ⟨Ay,x1,1,h,S.nf [true] rfl (subR rfl)⟩ ?_)
       clear S h;rintro m2 a w4 ⟨x2,x3,x4,h,S⟩
       cases m2 with
       | zero=>rw [Ir.eq_1] at h;cases h
       | succ m2 =>
        rw [Ir.eq_2] at h
        refine Fs (Fr (Vm S rfl rfl fun a S=>Vm S rfl rfl fun a S=>lv S (Gh Kv (S.tm rfl) (subLen hu1)) rfl fun a S=>Vb S Gb rfl rfl rfl fun a S=>Dl (Fc h (S.tm rfl) (fun hb4 h=>?_) (fun hb4 h=>?_))))
        ·refine wp_skip (Tn (Fs ?_))
         obtain ⟨j3,hj3,h⟩:=Ha h
         refine Gv (fun a w'=>∃ x5 : List ByteArray,∃ x6 : Int,j3 x5 x6 = some r ∧ Sx w (Ak.ownBlock.toList) nov [.own Ak 9 1 x5.length (x5.flatMap Ic)] [(0,Ak),(3,iV x6),(4,u1),(5,iV x4)] 61 a w') ?_ ?_
         ·refine wp_block (Fs (Hx [] ([]) Tryz.mixed S rfl (by kernel_rfl) ?_));clear S;intro w7 hk2 hsel S
          refine Lc [0,1,2,3,4,5,6,7,8,9] hsel (by kernel_rfl) rfl ?_
          clear hsel
          refine Gp S rfl (Rm (S.tm rfl)) rfl fun a S=>Gp S rfl (Rm (S.tm rfl)) rfl ?_;clear S;intro a S
          obtain ⟨hc4,h⟩:=Ig h
          have hj4:=(EI (EJ S (i:=0) rfl hu1) hc4).1
          obtain ⟨b3,hg3,hr4⟩:=Wh (a:=a) (x:=.tmp 35) (y:=.tmp 36) (ty:=0) Kv Jb S (i:=0) rfl hu1 hc4 (S.tm rfl) (S.tm rfl)
          refine Gp S rfl (hr4 _) rfl ?_;clear S;intro a S
          clear hr4
          refine Gp S rfl (Hr isAgg9 (off:=(x1.toNat + x4.toNat) * 1) (o:=0) (S.tm rfl) (Kx Jb S (i:=0) rfl hg3 hj4) rfl) rfl fun a S=>Gp S rfl (Rm (S.tm rfl)) rfl fun a S=>Gp S rfl (Rm (S.tm rfl)) rfl fun a S=>Gp S rfl (Kw (S.tm rfl) rfl) rfl ?_;clear S;intro a S
          obtain ⟨hc5,h⟩:=Ig h
          have hj5:=(EI (EJ S (i:=0) rfl hu1) hc5).1
          obtain ⟨b4,hg4,hr5⟩:=Wh (a:=a) (x:=.tmp 39) (y:=.tmp 41) (ty:=0) Kv Jb S (i:=0) rfl hu1 hc5 (S.tm rfl) (S.tm rfl)
          refine Gp S rfl (hr5 _) rfl ?_;clear S;intro a S
          clear hr5
          refine Gp S rfl (Hr isAgg9 (off:=(x1.toNat + (W (x4 - 1)).toNat) * 1) (o:=0) (S.tm rfl) (Kx Jb S (i:=0) rfl hg4 hj5) rfl) rfl fun a S=>Gp S rfl (AM (S.tm rfl) (S.tm rfl)) rfl fun a S=>Kz ?_
          replace S:=S.k5 0 3 4 5 44 rfl
          refine Tn ?_
          obtain ⟨j4,hj6,h⟩:=Ha h
          refine Gv (fun a w'=>∃ x7 : List ByteArray,∃ x8 : Int,j4 x7 x8 = some r ∧ Sx w (Ak.ownBlock.toList) nov [.own Ak 9 1 x7.length (x7.flatMap Ic)] [(0,Ak),(3,iV x8),(4,u1),(5,iV x4)] 61 a w') ?_ ?_
          ·refine Fc h (S.tm rfl) (fun hb5 h=>?_) (fun hb5 h=>?_)
           ·refine Fs (Fg ?_)
            iterate 4 (refine Vm S rfl rfl ?_;clear S;intro a S)
            obtain ⟨hc6,h⟩:=Ig h
            have hj7:=(EI (EJ S (i:=0) rfl hu1) hc6).1
            obtain ⟨b5,hg5,hr6⟩:=Wh (a:=a) (x:=.tmp 47) (y:=.tmp 48) (ty:=0) Kv Jb S (i:=0) rfl hu1 hc6 (S.tm rfl) (S.tm rfl)
            refine lv S (hr6 _) rfl ?_;clear S;intro a S
            clear hr6
            refine lv S (Hr isAgg9 (off:=(x1.toNat + x4.toNat) * 1) (o:=0) (S.tm rfl) (Kx Jb S (i:=0) rfl hg5 hj7) rfl) rfl ?_;clear S;intro a S
            obtain ⟨hc7,h⟩:=Ig h
            obtain ⟨b6,hg6,hr7⟩:=Hn (a:=a) (x:=.tmp 45) (y:=.tmp 46) (ty:=0) Kv Jb S (i:=0) rfl (Ff hc7).1 (Ff hc7).2 (S.tm rfl) (S.tm rfl)
            refine lv S (hr7 _) rfl ?_;clear S;intro a S
            clear hr7
            refine Ki (c:=0) (j:=x3.toNat) (nth (cut x2 x1 (Ay.length : Int)) x4) Jb S (S.tm rfl) (S.tm rfl) (i:=0) rfl hg6 (Ff hc7).1 sizeOf9 (vs:=[sV (nth (cut x2 x1 (Ay.length : Int)) x4)]) rfl rfl rfl rfl rfl ?_;clear S;intro w10 hk4 S
            exact Dl (Fg (Vm S rfl rfl fun a S=>Vq S Gx rfl rfl rfl fun a S=>Va S rfl rfl fun a S=>Dl (⟨(x2.set x3.toNat (nth (cut x2 x1 (Ay.length : Int)) x4)),W (x3 + 1),h,S.nf [true] rfl (subR rfl)⟩)))
           ·exact wp_skip (Tn (⟨x2,x3,h,S.nf [true] rfl (subR rfl)⟩))
          clear S h;rintro a w8 ⟨x7,x8,h,S⟩;rw [hj6] at h;clear hj6 j4
          exact Kb (Tn (⟨x7,x8,h,S.nf [true] rfl (subR rfl)⟩))
         clear S h;rintro a w6 ⟨x5,x6,h,S⟩;rw [hj3] at h;clear hj3 j3
         exact Tn (Fg (Vm S rfl rfl fun a S=>Vq S Gx rfl rfl rfl fun a S=>Va S rfl rfl fun a S=>Dl (⟨m2,⟨x5,x6,W (x4 + 1),h,S.nf [true] rfl ⟨rfl,rfl,rfl,rfl,trivial⟩⟩,Nat.lt_succ_self _⟩)))
        ·exact wp_exit (Gk (Gk (Jc (Tn (⟨x2,x3,h,S.nf [true] rfl (subR rfl)⟩)))))
      clear S h;rintro a w5 ⟨x2,x3,h,S⟩;rw [hj2] at h;clear hj2 j2
      refine Tn (Fr (Vm S rfl rfl fun a S=>Vm S rfl rfl ?_));clear S;intro a S
      obtain ⟨hc8,h⟩:=Ig h
      obtain ⟨u2,hu2,hr8⟩:=AN (a:=a) (x:=.tmp 54) (y:=.tmp 55) (ty:=31) Kv S (i:=0) rfl (S.tm rfl) (S.tm rfl) hc8
      refine lv S (hr8 _) rfl ?_;clear S;intro a S
      clear hr8
      refine EH (zl:=x3) (zh:=(x2.length : Int)) (z:=Ga) Kv rfl Jb S (i:=0) rfl hu2 (S.tm rfl) zeroValue9 rfl ?_;clear S;intro w11 hk5 S
      refine Dz (Vm S rfl rfl fun a S=>Vm S rfl rfl ?_);clear S;intro a S
      obtain ⟨hc9,h⟩:=Ig h
      obtain ⟨u3,hu3,hr9⟩:=EF (a:=a) (x:=.tmp 57) (y':=.tmp 58) (ty:=31) Kv S (i:=0) rfl (S.tm rfl) (S.tm rfl) hc9
      refine lv S (hr9 _) rfl ?_;clear S;intro a S
      clear hr9
      refine Va S rfl rfl fun a S=>Dl (wp_ret (Hv (Fk (Fk (Hv (Fk (Fk ?_)))))))
      obtain ⟨S,hz1⟩:=S.ownCut (zh:=x3) Jb (i:=0) rfl hu3
      obtain rfl:=Option.some.inj h
      exact Gm S results86 rfl ⟨(S.holds _ (List.mem_of_getElem? (i:=0) rfl)),(Yn.block hu3)⟩
     ·exact wp_skip (Kb (Tn (Fg (Vm S rfl rfl fun a S=>Vq S Gx rfl rfl rfl fun a S=>Va S rfl rfl fun a S=>Dl (⟨m1,⟨W (x1 + 1),h,S.nf [true] rfl ⟨rfl,rfl,trivial⟩⟩,Nat.lt_succ_self _⟩)))))
    ·exact wp_exit (Gk (Gk (Jc (Tn (⟨h,S.nf [true] rfl ⟨rfl,trivial⟩⟩)))))
  clear S h;rintro a w2 ⟨h,S⟩;rw [hj1] at h;clear hj1 j1
  refine Tn (Fr (Vm S rfl rfl fun a S=>Va S rfl rfl fun a S=>Dl (wp_ret ?_)))
  obtain rfl:=Option.some.inj h
  exact Gm S results86 rfl ⟨(S.holds _ (List.mem_of_getElem? (i:=0) rfl)),rfl⟩
set_option maxRecDepth 20000 in
theorem Td (w : World) (Ad : Value) (Ar : List An) (Ap : Slc (view w []) 5 Ad (Ar.map An.enc)) (Be : Int) (r : (List Fb)) (h : Ns Ar Be = some r) :
    Calls prog 64 [Ad,iV Be].toArray w (Ret w [] fun τ v _=>Pk τ 85 4 v r.length (r.flatMap Fb.enc)):=by
 refine Fe func64 rfl ntmps64 rfl fun a S=>?_
 unfold Ns at h
 replace S:=S.k2 0 1 rfl
 refine Fr (Vk S rfl rfl fun a S=>Dz (Vk S rfl rfl ?_));clear S;intro a S
 replace S:=S.nil 85 4
 refine Dl (Fs (Fr (Vm S rfl rfl fun a S=>lv S (Gh Il (S.tm rfl) (Ey Ap)) rfl fun a S=>lv S (Rm rfl) rfl fun a S=>Dl ?_)))
 replace S:=(S.nl [.own (.slice none 0 0) 85 4 ([] : List Fb).length (([] : List Fb).flatMap Fb.enc)] [true] rfl).k6 0 1 5 11 12 13 rfl
 obtain ⟨j1,hj1,h⟩:=Ha h
 refine Gv (fun a w'=>∃ x1 : List Fb,∃ v1 : Value,j1 x1 = some r ∧ Sx w [] nov [.own v1 85 4 x1.length (x1.flatMap Fb.enc)] [(5,v1)] 70 a w') ?_ ?_
 ·refine wp_block (Iv (fun (ys1 : List An) a w'=>∃ i1 : Nat,∃ x1 : List Fb,∃ v1 : Value,(∃ dn,Ar = dn ++ ys1 ∧ dn.length = i1) ∧ Jg Ar Be j1 ys1 i1 x1 = some r ∧ Sx w [] nov [.own v1 85 4 x1.length (x1.flatMap Fb.enc)] [(0,Ad),(1,iV Be),(5,v1),(11,Ad),(12,iV (Ar.length : Int)),(13,iV (i1 : Int))] 70 a w') List.length Ar ⟨0,([] : List Fb),(.slice none 0 0),⟨[],rfl,rfl⟩,h,S.nf [true] rfl (subR rfl)⟩ ?_)
  clear S h;rintro ys1 a w1 ⟨i1,x1,v1,⟨dn,hd1,hi1⟩,h,S⟩
  cases ys1 with
  | nil =>
   rw [Jg.eq_1] at h
   refine Fr (Vb S Gb rfl rfl rfl fun a S=>Ld ?_)
   replace S:=S.k7 0 1 5 11 12 13 14 rfl
   exact Tn (Fs (wp_cond_false ((S.tm rfl).trans (congrArg Value.bool (Jr hd1 hi1))) (wp_exit (Gk (Gk (Jc (Tn (⟨x1,v1,h,S.nf [true] rfl ⟨rfl,trivial⟩⟩))))))))
  | cons y1 ys1 =>
   rw [Jg.eq_2] at h
   refine Fr (Vb S Gb rfl rfl rfl fun a S=>Ld ?_)
   replace S:=S.k7 0 1 5 11 12 13 14 rfl
   refine Tn (Fs (wp_cond_true ((S.tm rfl).trans (congrArg Value.bool (Ih hd1 hi1))) (wp_skip (Tn (Fs (wp_block (Fr (Vm S rfl rfl ?_))))))));clear S;intro a S
   obtain ⟨b1,o1,hm1,hr1⟩:=Gd (a:=a) (x:=.tmp 11) (y:=.tmp 13) (ty:=0) Il Ap (Jd hd1 hi1) rfl (S.tm rfl) (S.tm rfl)
   refine lv S (hr1 _) rfl ?_;clear S;intro a S
   clear hr1
   refine lv S (Ji isAgg41 sizeOf41 (off:=o1) (o:=0) (part:=(An.enc y1)) rfl rfl (S.tm rfl) (hm1.at S.emb0)) rfl fun a S=>Mw S zeroValue41 (cs:=[sV Ga,iV 0,iV 0,iV 0,iV 0]) rfl rfl ?_;clear S;intro a w3 b2 hz1 hk1 S
   refine Va S rfl rfl fun a S=>Ku S (S.tm rfl) (S.tm rfl) (i:=0) (off:=0) rfl sizeOf41 (vs:=(An.enc y1)) rfl rfl rfl rfl ?_;clear S;intro w4 hk2 S
   refine Dz (Vk S rfl rfl fun a S=>Dl ?_)
   replace S:=(S.nl [.blk b2 (An.enc y1) 41,.own v1 85 4 x1.length (x1.flatMap Fb.enc)] [true,true] rfl).k9 0 1 5 6 7 8 11 12 13 rfl
   obtain ⟨j2,hj2,h⟩:=Ha h
   refine Gv (fun a w'=>∃ x2 : List Fb,∃ v2 : Value,j2 x2 = some r ∧ Sx w [] nov [.blk b2 (An.enc y1) 41,.own v2 85 4 x2.length (x2.flatMap Fb.enc)] [(0,Ad),(1,iV Be),(5,v2),(11,Ad),(12,iV (Ar.length : Int)),(13,iV (i1 : Int))] 70 a w') ?_ ?_
   ·refine wp_block (Iv (fun (m1 : Nat) a w'=>∃ x2 : List Fb,∃ x3 : Int,∃ v2 : Value,Io y1 i1 Ar Be j2 m1 x2 x3 = some r ∧ Sx w [] nov [.blk b2 (An.enc y1) 41,.own v2 85 4 x2.length (x2.flatMap Fb.enc)] [(0,Ad),(1,iV Be),(5,v2),(6,iV (i1 : Int)),(7,.pointer (some ⟨b2,0,none⟩)),(8,iV x3),(11,Ad),(12,iV (Ar.length : Int)),(13,iV (i1 : Int))] 70 a w') id ((y1.Heats - 1).toNat + 2) ⟨x1,1,v1,h,S.nf [true,true] rfl (subR rfl)⟩ ?_)
    clear S h;rintro m1 a w5 ⟨x2,x3,v2,h,S⟩
    cases m1 with
    | zero=>rw [Io.eq_1] at h;cases h
    | succ m1 =>
     rw [Io.eq_2] at h
     refine Fs (Fr (Vm S rfl rfl fun a S=>Vf Qn S rfl rfl fun a S=>Vl isAgg3 0 S rfl rfl rfl rfl fun a S=>Vb S Uu rfl rfl rfl fun a S=>Dl (Fc h (S.tm rfl) (fun hb1 h=>?_) (fun hb1 h=>?_))))
     ·refine wp_skip (Tn (Fs (wp_block (Fr (Vm S rfl rfl fun a S=>Va S rfl rfl fun a S=>Ld ?_)))))
      replace S:=S.k10 0 1 5 6 7 8 9 11 12 13 rfl
      refine Tn (Fs (Fr (Vm S rfl rfl fun a S=>lv S (Gh Qk (S.tm rfl) (Ly (S.own_at (i:=1) rfl))) rfl fun a S=>Va S rfl rfl fun a S=>Dl (Fs (Fg ?_)))))
      refine Vm S rfl rfl fun a S=>Vq S Na rfl rfl rfl fun a S=>Ld ?_
      replace S:=S.k12 0 1 5 6 7 8 9 10 11 12 13 28 rfl
      refine Tn ?_
      obtain ⟨j3,hj3,h⟩:=Ha h
      refine Gv (fun a w'=>∃ x4 : Int,j3 x4 = some r ∧ Sx w [] nov [.blk b2 (An.enc y1) 41,.own v2 85 4 x2.length (x2.flatMap Fb.enc)] [(0,Ad),(1,iV Be),(5,v2),(6,iV (i1 : Int)),(7,.pointer (some ⟨b2,0,none⟩)),(8,iV x3),(9,iV x4),(11,Ad),(12,iV (Ar.length : Int)),(13,iV (i1 : Int))] 70 a w') ?_ ?_
      ·refine Fc h (S.tm rfl) (fun hb2 h=>?_) (fun hb2 h=>?_)
       ·refine Fs (Hx [] ([]) Tryz.mixed S rfl (by kernel_rfl) ?_);clear S;intro w8 hk3 hsel S
        refine Lc [0,1,2,3,4,5,6,7,8,9,10] hsel (by kernel_rfl) rfl ?_
        clear hsel
        refine Gp S rfl (Rm (S.tm rfl)) rfl fun a S=>Gp S rfl (Rm (S.tm rfl)) rfl fun a S=>Gp S rfl (Kw (S.tm rfl) rfl) rfl ?_;clear S;intro a S
        obtain ⟨hc1,h⟩:=Ig h
        obtain ⟨b3,hg1,hr2⟩:=Hn (a:=a) (x:=.tmp 29) (y:=.tmp 31) (ty:=0) Qk Fb.enc_ok S (i:=1) rfl (Ff hc1).1 (Ff hc1).2 (S.tm rfl) (S.tm rfl)
        refine Gp S rfl (hr2 _) rfl ?_;clear S;intro a S
        clear hr2
        refine Gp S rfl (Hk Wx (S.tm rfl)) rfl fun a S=>Gp S rfl (Hk Yt (S.tm rfl)) rfl fun a S=>Gp S rfl (Hr isAgg3 (off:=((W ((x2.length : Int) - 1)).toNat) * 4) (o:=3) (S.tm rfl) (Kx Fb.enc_ok S (i:=1) rfl hg1 (Ff hc1).1) rfl) rfl fun a S=>Gp S rfl (Hk Ty (S.tm rfl)) rfl fun a S=>Gp S rfl (Mv isAgg3 (S.tm rfl) (S.cell (i:=0) rfl rfl)) rfl fun a S=>Gp S rfl (Gx (S.tm rfl) (S.tm rfl)) rfl fun a S=>Gp S rfl (Ra (S.tm rfl)) rfl fun a S=>Kz ?_
        replace S:=S.k11 0 1 5 6 7 8 9 10 11 12 13 rfl
        refine Tn (Fr (Vm S rfl rfl fun a S=>Vq S Px rfl rfl rfl fun a S=>Dl ?_))
        obtain ⟨j4,hj4,h⟩:=Ha h
        refine Gv (fun a w'=>∃ x5 : Int,j4 x5 = some r ∧ Sx w [] nov [.blk b2 (An.enc y1) 41,.own v2 85 4 x2.length (x2.flatMap Fb.enc)] [(0,Ad),(1,iV Be),(5,v2),(6,iV (i1 : Int)),(7,.pointer (some ⟨b2,0,none⟩)),(8,iV x3),(9,iV x5),(11,Ad),(12,iV (Ar.length : Int)),(13,iV (i1 : Int))] 70 a w') ?_ ?_
        ·refine Fc h (S.tm rfl) (fun hb3 h=>?_) (fun hb3 h=>?_)
         ·refine Hx [] ([]) Tryz.mixed S rfl (by kernel_rfl) ?_;clear S;intro w10 hk4 hsel S
          refine Lc [0,1,2,3,4,5,6,7,8,9,10,11,12,13,14] hsel (by kernel_rfl) rfl ?_
          clear hsel
          refine Gp S rfl (Rm (S.tm rfl)) rfl fun a S=>Gp S rfl (Rm (S.tm rfl)) rfl fun a S=>Gp S rfl (Kw (S.tm rfl) rfl) rfl ?_;clear S;intro a S
          obtain ⟨hc2,h⟩:=Ig h
          obtain ⟨b4,hg2,hr3⟩:=Hn (a:=a) (x:=.tmp 41) (y:=.tmp 43) (ty:=0) Qk Fb.enc_ok S (i:=1) rfl (Ff hc2).1 (Ff hc2).2 (S.tm rfl) (S.tm rfl)
          refine Gp S rfl (hr3 _) rfl ?_;clear S;intro a S
          clear hr3
          refine Gp S rfl (Hk Wx (S.tm rfl)) rfl fun a S=>Gp S rfl (Hk Yt (S.tm rfl)) rfl fun a S=>Gp S rfl (Hr isAgg3 (off:=((W ((x2.length : Int) - 1)).toNat) * 4) (o:=3) (S.tm rfl) (Kx Fb.enc_ok S (i:=1) rfl hg2 (Ff hc2).1) rfl) rfl fun a S=>Gp S rfl (Rm (S.tm rfl)) rfl fun a S=>Gp S rfl (Rm (S.tm rfl)) rfl fun a S=>Gp S rfl (Kw (S.tm rfl) rfl) rfl ?_;clear S;intro a S
          obtain ⟨hc3,h⟩:=Ig h
          obtain ⟨b5,o4,hm4,hr4⟩:=Gd (a:=a) (x:=.tmp 48) (y:=.tmp 50) (ty:=0) Il Ap (Ff hc3).1 (Ff hc3).2 (S.tm rfl) (S.tm rfl)
          refine Gp S rfl (hr4 _) rfl ?_;clear S;intro a S
          clear hr4
          refine Gp S rfl (Hk Vg (S.tm rfl)) rfl fun a S=>Gp S rfl (Hr isAgg3 (off:=o4) (o:=4) (S.tm rfl) (hm4.at S.emb0) rfl) rfl fun a S=>Gp S rfl (Gx (S.tm rfl) (S.tm rfl)) rfl fun a S=>Gp S rfl (Ra (S.tm rfl)) rfl fun a S=>Kz ?_
          replace S:=S.k10 0 1 5 6 7 8 9 11 12 13 rfl
          exact Tn (⟨W ((((nth x2 (W ((x2.length : Int) - 1))).Time).To) + ((nth Ar (W ((i1 : Int) - 1))).Break)),h,S.nf [true,true] rfl (subR rfl)⟩)
         ·exact wp_skip (Tn (⟨W ((((nth x2 (W ((x2.length : Int) - 1))).Time).To) + y1.Gap),h,S.nf [true,true] rfl (subR rfl)⟩))
        clear S h;rintro a w9 ⟨x5,h,S⟩;rw [hj4] at h;clear hj4 j4
        exact Tn (⟨x5,h,S.nf [true,true] rfl (subR rfl)⟩)
       ·exact wp_skip (Tn (⟨Be,h,S.nf [true,true] rfl (subR rfl)⟩))
      clear S h;rintro a w7 ⟨x4,h,S⟩;rw [hj3] at h;clear hj3 j3
      refine Tn (Fg (Vm S rfl rfl fun a S=>Vf Mz S rfl rfl fun a S=>Vl isAgg9 0 S rfl rfl rfl rfl ?_));clear S;intro a S
      iterate 3 (refine Vm S rfl rfl ?_;clear S;intro a S)
      refine Vf Sa S rfl rfl fun a S=>Vl isAgg3 0 S rfl rfl rfl rfl fun a S=>Vb S Gx rfl rfl rfl fun a S=>lv S (Tj bt_83 (pv:=[(0,iV x4),(1,iV (W (x4 + y1.Long)))]) ⟨rfl,(S.tm rfl),rfl,(S.tm rfl),trivial⟩ (cs:=[iV x4,iV (W (x4 + y1.Long))]) (by kernel_rfl)) rfl fun a S=>lv S (Tj bt_85 (pv:=[(0,sV y1.Key),(1,iV x3),(2,.agg #[iV x4,iV (W (x4 + y1.Long))])]) ⟨rfl,(S.tm rfl),rfl,(S.tm rfl),rfl,(S.tm rfl),trivial⟩ (cs:=[sV y1.Key,iV x3,iV x4,iV (W (x4 + y1.Long))]) (by kernel_rfl)) rfl fun a S=>Fw S underlying59 sizeOf85 zeroValue85 rfl rfl (pv:=[(0,.agg #[sV y1.Key,iV x3,iV x4,iV (W (x4 + y1.Long))])]) ⟨rfl,(S.tm rfl),trivial⟩ (cs:=[sV y1.Key,iV x3,iV x4,iV (W (x4 + y1.Long))]) (by kernel_rfl) rfl ?_;clear S;intro a w11 b6 hz2 hk5 S
      obtain ⟨hc4,h⟩:=Ig h
      refine Nq Qk Fb.enc_ok S (S.tm rfl) (i:=2) rfl (S.tm rfl) (j:=0) rfl (ys:=[(Fb.mk y1.Key x3 (Jj.mk x4 (W (x4 + y1.Long))))]) rfl rfl rfl rfl (by have:=Ky hc4;omega) rfl ?_;clear S;intro v3 a w12 hk6 S
      refine Va S rfl rfl fun a S=>Ld ?_
      replace S:=(S.nl [.blk b2 (An.enc y1) 41,.own v3 85 4 (x2 ++ [(Fb.mk y1.Key x3 (Jj.mk x4 (W (x4 + y1.Long))))]).length ((x2 ++ [(Fb.mk y1.Key x3 (Jj.mk x4 (W (x4 + y1.Long))))]).flatMap Fb.enc)] [false,true,true] rfl).k9 0 1 5 6 7 8 11 12 13 rfl
      exact Kb (Tn (Fg (Vm S rfl rfl fun a S=>Vq S Gx rfl rfl rfl fun a S=>Va S rfl rfl fun a S=>Dl (⟨m1,⟨(x2 ++ [(Fb.mk y1.Key x3 (Jj.mk x4 (W (x4 + y1.Long))))]),W (x3 + 1),v3,h,S.nf [true,true] rfl ⟨rfl,rfl,rfl,rfl,rfl,rfl,rfl,rfl,rfl,trivial⟩⟩,Nat.lt_succ_self _⟩))))
     ·exact wp_exit (Gk (Gk (Jc (Tn (⟨x2,v2,h,S.nf [true,true] rfl (subR rfl)⟩)))))
   clear S h;rintro a w6 ⟨x2,v2,h,S⟩;rw [hj2] at h;clear hj2 j2
   exact Kb (Tn (Fg (Vq S Gx rfl rfl rfl fun a S=>Vm S rfl rfl fun a S=>Dl (⟨ys1,⟨i1 + 1,x2,v2,⟨_,(hd1).trans (List.append_cons _ _ _),by simp [hi1]⟩,h,S.nf [false,true] rfl ⟨rfl,rfl,rfl,rfl,rfl,(congrArg (fun z=>some (Value.int .i64 z)) (Ii hd1 hi1 (Kl Ap))),trivial⟩⟩,Nat.lt_succ_self _⟩))))
 clear S h;rintro a w2 ⟨x1,v1,h,S⟩;rw [hj1] at h;clear hj1 j1
 refine Tn (Fr (Vm S rfl rfl fun a S=>Va S rfl rfl fun a S=>Dl (wp_ret ?_)))
 obtain rfl:=Option.some.inj h
 exact Gm S results64 rfl (Pu S (i:=0) rfl rfl)
set_option maxRecDepth 20000 in
theorem Wp (w : World) (Ak : Value) (Ay : List Ex) (Bo : Slc (view w []) 3 Ak (Ay.map Ex.enc)) (Cw : Ex) (r : Int) (h : Ru Ay Cw = r) :
    Calls prog 114 [Ak,.agg (Ex.enc Cw).toArray].toArray w (Ret w [] fun _ v _=>v = iV r):=by
 refine Fe func114 rfl ntmps114 rfl fun a S=>?_
 unfold Ru at h
 replace S:=S.k2 0 1 rfl
 refine Fr (Pt S (S.tm rfl) (cs:=(Ex.enc Cw)) rfl rfl ?_);clear S;intro a w1 b1 hz1 hk1 S
 refine Vk S rfl rfl fun a S=>Dl (Fs (Fr (Vm S rfl rfl fun a S=>lv S (Gh Rz (S.tm rfl) (Ey Bo)) rfl fun a S=>lv S (Rm rfl) rfl fun a S=>Dl ?_)))
 replace S:=(S.nl [.blk b1 (Ex.enc Cw) 55] [true] rfl).k4 0 3 7 8 rfl
 obtain ⟨j1,hj1,h⟩:=Ha h
 refine Gv (fun a w'=>j1 = r ∧ Sx w [] nov [.blk b1 (Ex.enc Cw) 55] [] 19 a w') ?_ ?_
 ·refine wp_block (Iv (fun (ys1 : List Ex) a w'=>∃ i1 : Nat,(∃ dn,Ay = dn ++ ys1 ∧ dn.length = i1) ∧ Jy Cw j1 ys1 i1 = r ∧ Sx w [] nov [.blk b1 (Ex.enc Cw) 55] [(0,Ak),(3,.pointer (some ⟨b1,0,none⟩)),(7,iV (Ay.length : Int)),(8,iV (i1 : Int))] 19 a w') List.length Ay ⟨0,⟨[],rfl,rfl⟩,h,S.nf [true] rfl (subR rfl)⟩ ?_)
  clear S h;rintro ys1 a w2 ⟨i1,⟨dn,hd1,hi1⟩,h,S⟩
  cases ys1 with
  | nil =>
   rw [Jy.eq_1] at h
   refine Fr (Vb S Gb rfl rfl rfl fun a S=>Ld ?_)
   replace S:=S.k5 0 3 7 8 9 rfl
   exact Tn (Fs (wp_cond_false ((S.tm rfl).trans (congrArg Value.bool (Jr hd1 hi1))) (wp_exit (Gk (Gk (Jc (Tn (⟨h,S.nf [true] rfl trivial⟩))))))))
  | cons y1 ys1 =>
   rw [Jy.eq_2] at h
   refine Fr (Vb S Gb rfl rfl rfl fun a S=>Ld ?_)
   replace S:=S.k5 0 3 7 8 9 rfl
   refine Tn (Fs (wp_cond_true ((S.tm rfl).trans (congrArg Value.bool (Ih hd1 hi1))) (wp_skip (Tn (Fs (wp_block (Fr (Vm S rfl rfl fun a S=>Va S rfl rfl ?_))))))));clear S;intro a S
   refine Dl (Fs (Hx [] ([]) Tryz.mixed S rfl (by kernel_rfl) ?_));clear S;intro w4 hk2 hsel S
   refine Lc [0,1,2,3,4,5] hsel (by kernel_rfl) rfl ?_
   clear hsel
   refine Gp S rfl (Ji isAgg55 sizeOf55 (off:=0) (o:=0) (part:=(Ex.enc Cw)) rfl rfl (S.tm rfl) (S.cellsAt (i:=0) rfl)) rfl fun a S=>Gp S rfl (Rm (S.tm rfl)) rfl fun a S=>Gp S rfl (Rm (S.tm rfl)) rfl ?_;clear S;intro a S
   obtain ⟨b2,o1,hm1,hr1⟩:=Gd (a:=a) (x:=.tmp 12) (y:=.tmp 13) (ty:=0) Rz Bo (Jd hd1 hi1) rfl (S.tm rfl) (S.tm rfl)
   refine Gp S rfl (hr1 _) rfl ?_;clear S;intro a S
   clear hr1
   refine Gp S rfl (Ji isAgg55 sizeOf55 (off:=o1) (o:=0) (part:=(Ex.enc y1)) rfl rfl (S.tm rfl) (hm1.at S.emb0)) rfl fun a S=>Gp S rfl (JS (m:=Cw) (n:=y1) (S.tm rfl) (S.tm rfl)) rfl fun a S=>Kz ?_
   replace S:=S.k6 0 3 5 7 8 16 rfl
   refine Tn (Fc h (S.tm rfl) (fun hb1 h=>?_) (fun hb1 h=>?_))
   ·refine Fr (Vm S rfl rfl fun a S=>Va S rfl rfl fun a S=>Dl (wp_ret (Hv (Fk (Fk (Hv ?_))))))
    refine Fk (Fk ?_)
    subst h
    exact Gm S results114 rfl rfl
   ·exact wp_skip (Kb (Tn (Fg (Vq S Gx rfl rfl rfl fun a S=>Vm S rfl rfl fun a S=>Dl (⟨ys1,⟨i1 + 1,⟨_,(hd1).trans (List.append_cons _ _ _),by simp [hi1]⟩,h,S.nf [true] rfl ⟨rfl,rfl,rfl,(congrArg (fun z=>some (Value.int .i64 z)) (Ii hd1 hi1 (Kl Bo))),trivial⟩⟩,Nat.lt_succ_self _⟩)))))
 clear S h;rintro a w3 ⟨h,S⟩;rw [hj1] at h;clear hj1 j1
 refine Tn (Fr (Vk S rfl rfl fun a S=>Dl (wp_ret ?_)))
 subst h
 exact Gm S results114 rfl rfl
theorem Ul (w : World) (Ak : Value) (Ay : List Ex) (Bo : Slc (view w []) 3 Ak (Ay.map Ex.enc)) (Cw : Ex) (r : Bool) (h : Om Ay Cw = r) :
    Calls prog 105 [Ak,.agg (Ex.enc Cw).toArray].toArray w (Ret w [] fun _ v _=>v = bV r):=by
 refine Fe func105 rfl ntmps105 rfl fun a S=>?_
 unfold Om at h
 replace S:=S.k2 0 1 rfl
 refine Fr (Pt S (S.tm rfl) (cs:=(Ex.enc Cw)) rfl rfl ?_);clear S;intro a w1 b1 hz1 hk1 S
 refine Vk S rfl rfl fun a S=>Dz (Vm S rfl rfl fun a S=>lv S (Ji isAgg55 sizeOf55 (off:=0) (o:=0) (part:=(Ex.enc Cw)) rfl rfl (S.tm rfl) (S.cellsAt (i:=0) rfl)) rfl fun a S=>Fo S (fun _=>Fa (vs:=[Ak,.agg (Ex.enc Cw).toArray]) ⟨(S.tm rfl),(S.tm rfl),trivial⟩ call114) (Wp _ Ak Ay (Bo.mono (S.le_arg Fy)) Cw _ rfl) rfl ?_);clear S;intro v1 a w2 hv1 hk2 hn1 S
 subst hv1
 refine Vq S Qe rfl rfl rfl fun a S=>Va S rfl rfl fun a S=>Dl (wp_ret ?_)
 subst h
 exact Gm S results105 rfl rfl
theorem Sg (w : World) (Ay : Fb) (Br : Nat) (Ce : Value) (Cd : List Ex) (Db : Slc (view w []) 3 Ce (Cd.map Ex.enc)) (Cc : (view w []) Br = some (.cells [Ce].toArray 29 (0,0))) (Ca : Nat) (Ei : ByteArray) (Df : (view w []) Ca = some (.cells [sV Ei].toArray 9 (0,0))) (r : Bool) (h : Lf Ay Cd Ei = r) :
    Calls prog 104 [.agg (Fb.enc Ay).toArray,.pointer (some ⟨Br,0,none⟩),.pointer (some ⟨Ca,0,none⟩)].toArray w (Ret w [] fun _ v _=>v = bV r):=by
 refine Fe func104 rfl ntmps104 rfl fun a S=>?_
 unfold Lf at h
 replace S:=S.k3 0 1 2 rfl
 refine Fr (Pt S (S.tm rfl) (cs:=(Fb.enc Ay)) rfl rfl ?_);clear S;intro a w1 b1 hz1 hk1 S
 refine Vk S rfl rfl fun a S=>Dz (lv S (Hr isAgg29 (off:=0) (o:=0) (S.tm rfl) ((Rl Cc).at S.emb0) rfl) rfl fun a S=>lv S (Hr isAgg9 (off:=0) (o:=0) (S.tm rfl) ((Rl Df).at S.emb0) rfl) rfl fun a S=>Vf fa_85_0 S rfl rfl fun a S=>Vl isAgg9 0 S rfl rfl rfl rfl fun a S=>Vf fa_85_1 S rfl rfl fun a S=>Vl isAgg3 0 S rfl rfl rfl rfl ?_);clear S;intro a S
 refine lv S (Tj bt_55 (pv:=[(0,sV Ei),(1,sV Ay.Item),(2,iV Ay.Heat)]) ⟨rfl,(S.tm rfl),rfl,(S.tm rfl),rfl,(S.tm rfl),trivial⟩ (cs:=[sV Ei,sV Ay.Item,iV Ay.Heat]) (by kernel_rfl)) rfl fun a S=>Fo S (fun _=>Fa (vs:=[Ce,.agg (Ex.enc (Ex.mk Ei Ay.Item Ay.Heat)).toArray]) ⟨(S.tm rfl),(S.tm rfl),trivial⟩ call105) (Ul _ Ce Cd (Db.mono (S.le_arg Fy)) (Ex.mk Ei Ay.Item Ay.Heat) _ rfl) rfl ?_;clear S;intro v1 a w2 hv1 hk2 hn1 S
 subst hv1
 refine Vu S Mo rfl rfl fun a S=>Va S rfl rfl fun a S=>Dl (wp_ret ?_)
 subst h
 exact Gm S results104 rfl rfl
theorem Pi (w : World) (Ak : Value) (Ay : List Fb) (Bo : Slc (view w []) 4 Ak (Ay.map Fb.enc)) (Bw : Nat) (Ej : Value) (Cq : List Ex) (Eu : Slc (view w []) 3 Ej (Cq.map Ex.enc)) (Cx : (view w []) Bw = some (.cells [Ej].toArray 29 (0,0))) (Dv : Nat) (Eo : ByteArray) (Es : (view w []) Dv = some (.cells [sV Eo].toArray 9 (0,0))) (r : Int) (h : Gt Ay Cq Eo = r) :
    Calls prog 113 [Ak,.func (.func 104) #[] #[.pointer (some ⟨Bw,0,none⟩),.pointer (some ⟨Dv,0,none⟩)]].toArray w (Ret w [] fun _ v _=>v = iV r):=by
 refine Fe func113 rfl ntmps113 rfl fun a S=>?_
 unfold Gt at h
 replace S:=S.k2 0 1 rfl
 refine Fr (Vk S rfl rfl fun a S=>Dl (Fs (Fr (Vm S rfl rfl fun a S=>lv S (Gh Qk (S.tm rfl) (Ey Bo)) rfl fun a S=>lv S (Rm rfl) rfl ?_))));clear S;intro a S
 refine Dl ?_
 replace S:=S.k4 0 1 7 8 rfl
 obtain ⟨j1,hj1,h⟩:=Ha h
 refine Gv (fun a w'=>j1 = r ∧ Sx w [] nov [] [] 19 a w') ?_ ?_
 ·refine wp_block (Iv (fun (ys1 : List Fb) a w'=>∃ i1 : Nat,(∃ dn,Ay = dn ++ ys1 ∧ dn.length = i1) ∧ Gi Cq Eo j1 ys1 i1 = r ∧ Sx w [] nov [] [(0,Ak),(1,.func (.func 104) #[] #[.pointer (some ⟨Bw,0,none⟩),.pointer (some ⟨Dv,0,none⟩)]),(7,iV (Ay.length : Int)),(8,iV (i1 : Int))] 19 a w') List.length Ay ⟨0,⟨[],rfl,rfl⟩,h,S.nf [] rfl (subR rfl)⟩ ?_)
  clear S h;rintro ys1 a w1 ⟨i1,⟨dn,hd1,hi1⟩,h,S⟩
  cases ys1 with
  | nil =>
   rw [Gi.eq_1] at h
   refine Fr (Vb S Gb rfl rfl rfl fun a S=>Ld ?_)
   replace S:=S.k5 0 1 7 8 9 rfl
   exact Tn (Fs (wp_cond_false ((S.tm rfl).trans (congrArg Value.bool (Jr hd1 hi1))) (wp_exit (Gk (Gk (Jc (Tn (⟨h,S.nf [] rfl trivial⟩))))))))
  | cons y1 ys1 =>
   rw [Gi.eq_2] at h
   refine Fr (Vb S Gb rfl rfl rfl fun a S=>Ld ?_)
   replace S:=S.k5 0 1 7 8 9 rfl
   refine Tn (Fs (wp_cond_true ((S.tm rfl).trans (congrArg Value.bool (Ih hd1 hi1))) (wp_skip (Tn (Fs (wp_block (Fr (Vm S rfl rfl fun a S=>Va S rfl rfl ?_))))))));clear S;intro a S
   refine Dl (Fs (Fg ?_))
   iterate 3 (refine Vm S rfl rfl ?_;clear S;intro a S)
   obtain ⟨b1,o1,hm1,hr1⟩:=Gd (a:=a) (x:=.tmp 12) (y:=.tmp 13) (ty:=0) Qk Bo (Jd hd1 hi1) rfl (S.tm rfl) (S.tm rfl)
   refine lv S (hr1 _) rfl ?_;clear S;intro a S
   clear hr1
   refine lv S (Ji isAgg85 sizeOf85 (off:=o1) (o:=0) (part:=(Fb.enc y1)) rfl rfl (S.tm rfl) (hm1.at S.emb0)) rfl fun a S=>Fo S (fun _=>Pb (cap:=[.pointer (some ⟨Bw,0,none⟩),.pointer (some ⟨Dv,0,none⟩)]) (S.tm rfl) (vs:=[.agg (Fb.enc y1).toArray]) ⟨(S.tm rfl),trivial⟩ call104) (Sg _ y1 Bw Ej Cq (Eu.mono (S.le_arg Fy)) ((S.le_arg Fy) _ _ Cx) Dv Eo ((S.le_arg Fy) _ _ Es) _ rfl) rfl ?_;clear S;intro v1 a w3 hv1 hk1 hn1 S
   subst hv1
   refine Dl (Fc h (S.tm rfl) (fun hb1 h=>?_) (fun hb1 h=>?_))
   ·refine Fr (Vm S rfl rfl fun a S=>Va S rfl rfl fun a S=>Ld ?_)
    replace S:=S.k1 4 rfl
    refine Tn (wp_ret (Hv (Fk (Fk (Hv (Fk (Fk ?_)))))))
    subst h
    exact Gm S results113 rfl rfl
   ·exact wp_skip (Kb (Tn (Fg (Vq S Gx rfl rfl rfl fun a S=>Vm S rfl rfl fun a S=>Dl (⟨ys1,⟨i1 + 1,⟨_,(hd1).trans (List.append_cons _ _ _),by simp [hi1]⟩,h,S.nf [] rfl ⟨rfl,rfl,rfl,(congrArg (fun z=>some (Value.int .i64 z)) (Ii hd1 hi1 (Kl Bo))),trivial⟩⟩,Nat.lt_succ_self _⟩)))))
 clear S h;rintro a w2 ⟨h,S⟩;rw [hj1] at h;clear hj1 j1
 refine Tn (Fr (Vk S rfl rfl fun a S=>Dl (wp_ret ?_)))
 subst h
 exact Gm S results113 rfl rfl
theorem Ox (w : World) (Ak : Value) (Ay : List Fb) (Eb : (LEnt.own Ak 85 4 Ay.length (Ay.flatMap Fb.enc)).holds w) (Bs : Nat) (Dt : Value) (Cf : List Ex) (Eg : Slc (view w (Ak.ownBlock.toList)) 3 Dt (Cf.map Ex.enc)) (Dg : (view w (Ak.ownBlock.toList)) Bs = some (.cells [Dt].toArray 29 (0,0))) (Cr : Nat) (Dm : ByteArray) (Ec : (view w (Ak.ownBlock.toList)) Cr = some (.cells [sV Dm].toArray 9 (0,0))) (r : (List Fb)) (h : Jk Ay Cf Dm = some r) :
    Calls prog 103 [Ak,.func (.func 104) #[] #[.pointer (some ⟨Bs,0,none⟩),.pointer (some ⟨Cr,0,none⟩)]].toArray w (Ret w (Ak.ownBlock.toList) fun _ v w'=>(LEnt.own v 85 4 r.length (r.flatMap Fb.enc)).holds w' ∧ v.ownBlock = Ak.ownBlock):=by
 refine Lp (Ak.ownBlock.toList) [.own Ak 85 4 Ay.length (Ay.flatMap Fb.enc)] func103 rfl ntmps103 rfl (fun e he=>by simp only [List.mem_singleton] at he;subst he;exact Eb) (Ml _) (Of _) fun a S=>?_
 unfold Jk at h
 replace S:=(S.nl [.own Ak 85 4 Ay.length (Ay.flatMap Fb.enc)] [true] rfl).k2 0 1 rfl
 refine Fr (Vk S rfl rfl fun a S=>Dz (Vm S rfl rfl fun a S=>Vm S rfl rfl fun a S=>Fo S (fun _=>Fa (vs:=[Ak,.func (.func 104) #[] #[.pointer (some ⟨Bs,0,none⟩),.pointer (some ⟨Cr,0,none⟩)]]) ⟨(S.tm rfl),(S.tm rfl),trivial⟩ call113) (Pi _ Ak Ay (Ll Fb.enc_ok S (i:=0) rfl (Ij (e':=.own Ak 85 4 Ay.length (Ay.flatMap Fb.enc)))) Bs Dt Cf (Eg.mono (S.le_arg Fy)) ((S.le_arg Fy) _ _ Dg) Cr Dm ((S.le_arg Fy) _ _ Ec) _ rfl) rfl ?_));clear S;intro v1 a w1 hv1 hk1 hn1 S
 subst hv1
 refine Va S rfl rfl fun a S=>Dl (Fs (Fr (Vm S rfl rfl fun a S=>Vq S Px rfl rfl rfl fun a S=>Dl (Fc h (S.tm rfl) (fun hb1 h=>?_) (fun hb1 h=>?_)))))
 ·refine Fr (Vm S rfl rfl fun a S=>Va S rfl rfl fun a S=>Dl (wp_ret (Fk ?_)))
  obtain rfl:=Option.some.inj h
  exact Gm S results103 rfl ⟨(S.holds _ (List.mem_of_getElem? (i:=0) rfl)),rfl⟩
 ·refine wp_skip (Tn (Fs (Fr (Vm S rfl rfl fun a S=>Vq S Gx rfl rfl rfl fun a S=>Va S rfl rfl fun a S=>Dl ?_))))
  replace S:=S.k4 0 1 5 6 rfl
  obtain ⟨j1,hj1,h⟩:=Ha h
  refine Gv (fun a w'=>∃ x1 : List Fb,∃ x2 : Int,j1 x1 x2 = some r ∧ Sx w (Ak.ownBlock.toList) nov [.own Ak 85 4 x1.length (x1.flatMap Fb.enc)] [(0,Ak),(5,iV x2)] 42 a w') ?_ ?_
  ·refine wp_block (Iv (fun (m1 : Nat) a w'=>∃ x1 : List Fb,∃ x2 : Int,∃ x3 : Int,Gf Cf Dm j1 m1 x1 x2 x3 = some r ∧ Sx w (Ak.ownBlock.toList) nov [.own Ak 85 4 x1.length (x1.flatMap Fb.enc)] [(0,Ak),(1,.func (.func 104) #[] #[.pointer (some ⟨Bs,0,none⟩),.pointer (some ⟨Cr,0,none⟩)]),(5,iV x2),(6,iV x3)] 42 a w') id (((Ay.length : Int) - (W ((Gt Ay Cf Dm) + 1))).toNat + 2) ⟨Ay,(Gt Ay Cf Dm),W ((Gt Ay Cf Dm) + 1),h,S.nf [true] rfl (subR rfl)⟩ ?_)
   clear S h;rintro m1 a w2 ⟨x1,x2,x3,h,S⟩
   cases m1 with
   | zero=>rw [Gf.eq_1] at h;cases h
   | succ m1 =>
    rw [Gf.eq_2] at h
    refine Fs (Fr (Vm S rfl rfl fun a S=>Vm S rfl rfl fun a S=>lv S (Gh Qk (S.tm rfl) (Ly (S.own_at (i:=0) rfl))) rfl fun a S=>Vb S Gb rfl rfl rfl fun a S=>Dl (Fc h (S.tm rfl) (fun hb2 h=>?_) (fun hb2 h=>?_))))
    ·refine wp_skip (Tn (Fs ?_))
     obtain ⟨j2,hj2,h⟩:=Ha h
     refine Gv (fun a w'=>∃ x4 : List Fb,∃ x5 : Int,j2 x4 x5 = some r ∧ Sx w (Ak.ownBlock.toList) nov [.own Ak 85 4 x4.length (x4.flatMap Fb.enc)] [(0,Ak),(1,.func (.func 104) #[] #[.pointer (some ⟨Bs,0,none⟩),.pointer (some ⟨Cr,0,none⟩)]),(5,iV x5),(6,iV x3)] 42 a w') ?_ ?_
     ·refine wp_block (Fr (Vm S rfl rfl fun a S=>Vm S rfl rfl ?_));clear S;intro a S
      obtain ⟨hc1,h⟩:=Ig h
      obtain ⟨b1,hg1,hr1⟩:=Hn (a:=a) (x:=.tmp 22) (y:=.tmp 23) (ty:=0) Qk Fb.enc_ok S (i:=0) rfl (Ff hc1).1 (Ff hc1).2 (S.tm rfl) (S.tm rfl)
      refine lv S (hr1 _) rfl ?_;clear S;intro a S
      clear hr1
      refine lv S (Ji isAgg85 sizeOf85 (off:=x3.toNat * 4) (o:=0) (part:=(Fb.enc (Fb.mk ((nth x1 x3).Item) ((nth x1 x3).Heat) ((nth x1 x3).Time)))) rfl rfl (S.tm rfl) (Kx Fb.enc_ok S (i:=0) rfl hg1 (Ff hc1).1)) rfl fun a S=>Mw S zeroValue85 (cs:=[sV Ga,iV 0,iV 0,iV 0]) rfl rfl ?_;clear S;intro a w5 b2 hz1 hk2 S
      refine Ku S (S.tm rfl) (S.tm rfl) (i:=0) (off:=0) rfl sizeOf85 (vs:=(Fb.enc (Fb.mk ((nth x1 x3).Item) ((nth x1 x3).Heat) ((nth x1 x3).Time)))) rfl rfl rfl rfl ?_;clear S;intro w6 hk3 S
      refine Dz (Vm S rfl rfl fun a S=>lv S (Ji isAgg85 sizeOf85 (off:=0) (o:=0) (part:=(Fb.enc (Fb.mk ((nth x1 x3).Item) ((nth x1 x3).Heat) ((nth x1 x3).Time)))) rfl rfl (S.tm rfl) (S.cellsAt (i:=0) rfl)) rfl fun a S=>Fo S (fun _=>Pb (cap:=[.pointer (some ⟨Bs,0,none⟩),.pointer (some ⟨Cr,0,none⟩)]) (S.tm rfl) (vs:=[.agg (Fb.enc (Fb.mk ((nth x1 x3).Item) ((nth x1 x3).Heat) ((nth x1 x3).Time))).toArray]) ⟨(S.tm rfl),trivial⟩ call104) (Sg _ (Fb.mk ((nth x1 x3).Item) ((nth x1 x3).Heat) ((nth x1 x3).Time)) Bs Dt Cf (Eg.mono (S.le_arg Fy)) ((S.le_arg Fy) _ _ Dg) Cr Dm ((S.le_arg Fy) _ _ Ec) _ rfl) rfl ?_);clear S;intro v2 a w7 hv2 hk4 hn2 S
      subst hv2
      refine Vu S Mo rfl rfl fun a S=>Ld ?_
      replace S:=(S.nl [.blk b2 (Fb.enc (Fb.mk ((nth x1 x3).Item) ((nth x1 x3).Heat) ((nth x1 x3).Time))) 85,.own Ak 85 4 x1.length (x1.flatMap Fb.enc)] [true,true] rfl).k6 0 1 5 6 7 29 rfl
      refine Tn ?_
      obtain ⟨j3,hj3,h⟩:=Ha h
      refine Gv (fun a w'=>∃ x6 : List Fb,∃ x7 : Int,j3 x6 x7 = some r ∧ Sx w (Ak.ownBlock.toList) nov [.blk b2 (Fb.enc (Fb.mk ((nth x1 x3).Item) ((nth x1 x3).Heat) ((nth x1 x3).Time))) 85,.own Ak 85 4 x6.length (x6.flatMap Fb.enc)] [(0,Ak),(1,.func (.func 104) #[] #[.pointer (some ⟨Bs,0,none⟩),.pointer (some ⟨Cr,0,none⟩)]),(5,iV x7),(6,iV x3)] 42 a w') ?_ ?_
      ·refine Fc h (S.tm rfl) (fun hb3 h=>?_) (fun hb3 h=>?_)
       ·refine Fr (Vm S rfl rfl fun a S=>Vm S rfl rfl fun a S=>lv S (Ji isAgg85 sizeOf85 (off:=0) (o:=0) (part:=(Fb.enc (Fb.mk ((nth x1 x3).Item) ((nth x1 x3).Heat) ((nth x1 x3).Time)))) rfl rfl (S.tm rfl) (S.cellsAt (i:=0) rfl)) rfl ?_);clear S;intro a S
        obtain ⟨hc2,h⟩:=Ig h
        obtain ⟨b3,hg2,hr2⟩:=Hn (a:=a) (x:=.tmp 30) (y:=.tmp 31) (ty:=0) Qk Fb.enc_ok S (i:=1) rfl (Ff hc2).1 (Ff hc2).2 (S.tm rfl) (S.tm rfl)
        refine lv S (hr2 _) rfl ?_;clear S;intro a S
        clear hr2
        refine Ki (c:=0) (j:=x2.toNat) (Fb.mk ((nth x1 x3).Item) ((nth x1 x3).Heat) ((nth x1 x3).Time)) Fb.enc_ok S (S.tm rfl) (S.tm rfl) (i:=1) rfl hg2 (Ff hc2).1 sizeOf85 (vs:=[sV ((nth x1 x3).Item),iV ((nth x1 x3).Heat),iV (((nth x1 x3).Time).From),iV (((nth x1 x3).Time).To)]) rfl rfl rfl rfl rfl ?_;clear S;intro w10 hk6 S
        exact Dl (Fg (Vm S rfl rfl fun a S=>Vq S Gx rfl rfl rfl fun a S=>Va S rfl rfl fun a S=>Dl (⟨(x1.set x2.toNat (Fb.mk ((nth x1 x3).Item) ((nth x1 x3).Heat) ((nth x1 x3).Time))),W (x2 + 1),h,S.nf [true,true] rfl (subR rfl)⟩)))
       ·exact wp_skip (Tn (⟨x1,x2,h,S.nf [true,true] rfl (subR rfl)⟩))
      clear S h;rintro a w8 ⟨x6,x7,h,S⟩;rw [hj3] at h;clear hj3 j3
      exact Kb (Tn (⟨x6,x7,h,S.nf [false,true] rfl (subR rfl)⟩))
     clear S h;rintro a w4 ⟨x4,x5,h,S⟩;rw [hj2] at h;clear hj2 j2
     exact Tn (Fg (Vm S rfl rfl fun a S=>Vq S Gx rfl rfl rfl fun a S=>Va S rfl rfl fun a S=>Dl (⟨m1,⟨x4,x5,W (x3 + 1),h,S.nf [true] rfl ⟨rfl,rfl,rfl,rfl,trivial⟩⟩,Nat.lt_succ_self _⟩)))
    ·exact wp_exit (Gk (Gk (Jc (Tn (⟨x1,x2,h,S.nf [true] rfl (subR rfl)⟩)))))
  clear S h;rintro a w3 ⟨x1,x2,h,S⟩;rw [hj1] at h;clear hj1 j1
  refine Tn (Fr (Vm S rfl rfl fun a S=>Vm S rfl rfl ?_));clear S;intro a S
  obtain ⟨hc3,h⟩:=Ig h
  obtain ⟨u1,hu1,hr3⟩:=AN (a:=a) (x:=.tmp 36) (y:=.tmp 37) (ty:=59) Qk S (i:=0) rfl (S.tm rfl) (S.tm rfl) hc3
  refine lv S (hr3 _) rfl ?_;clear S;intro a S
  clear hr3
  refine EH (zl:=x2) (zh:=(x1.length : Int)) (z:=(Fb.mk Ga 0 (Jj.mk 0 0))) Qk rfl Fb.enc_ok S (i:=0) rfl hu1 (S.tm rfl) zeroValue85 rfl ?_;clear S;intro w11 hk7 S
  refine Dz (Vm S rfl rfl fun a S=>Vm S rfl rfl ?_);clear S;intro a S
  obtain ⟨hc4,h⟩:=Ig h
  obtain ⟨u2,hu2,hr4⟩:=EF (a:=a) (x:=.tmp 39) (y':=.tmp 40) (ty:=59) Qk S (i:=0) rfl (S.tm rfl) (S.tm rfl) hc4
  refine lv S (hr4 _) rfl ?_;clear S;intro a S
  clear hr4
  refine Va S rfl rfl fun a S=>Dl (wp_ret ?_)
  obtain ⟨S,hz2⟩:=S.ownCut (zh:=x2) Fb.enc_ok (i:=0) rfl hu2
  obtain rfl:=Option.some.inj h
  exact Gm S results103 rfl ⟨(S.holds _ (List.mem_of_getElem? (i:=0) rfl)),(Yn.block hu2)⟩
theorem Xh (w : World) (Ab : Value) (Ae : List An) (As : Slc (view w []) 5 Ab (Ae.map An.enc)) (Ad : Value) (Ar : List Ex) (Ap : Slc (view w []) 3 Ad (Ar.map Ex.enc)) (Eh : ByteArray) (Be : Int) (r : (List Fb)) (h : Mk Ae Ar Eh Be = some r) :
    Calls prog 87 [Ab,Ad,sV Eh,iV Be].toArray w (Ret w [] fun τ v _=>Pk τ 85 4 v r.length (r.flatMap Fb.enc)):=by
 refine Fe func87 rfl ntmps87 rfl fun a S=>?_
 unfold Mk at h
 replace S:=S.k4 0 1 2 3 rfl
 refine Fr (Pt S (S.tm rfl) (cs:=[Ad]) (Fl.cells (Ey Ap)) rfl ?_);clear S;intro a w1 b1 hz1 hk1 S
 refine Pt S (S.tm rfl) (cs:=[sV Eh]) rfl rfl ?_;clear S;intro a w2 b2 hz2 hk2 S
 refine Vk S rfl rfl fun a S=>Dz (Vm S rfl rfl fun a S=>Vm S rfl rfl ?_);clear S;intro a S
 obtain ⟨r1,hr1,h⟩:=He h
 have hz3:=S.keep.size
 refine Fo S (fun _=>Fa (vs:=[Ab,iV Be]) ⟨(S.tm rfl),(S.tm rfl),trivial⟩ call64) (Td _ Ab Ae (As.mono (S.le_arg Fy)) Be _ hr1) rfl ?_;clear S;intro v1 a w3 hv1 hk3 hn1 S
 replace S:=S.take hn1 hz3 hv1
 refine lv S (Sr (us:=#[]) (xs:=[].toArray) (ys:=[.tmp 5,.tmp 6].toArray) (by simp) (evA ⟨(S.tm rfl),(S.tm rfl),trivial⟩ (vs:=[.pointer (some ⟨b1,0,none⟩),.pointer (some ⟨b2,0,none⟩)]))) rfl ?_;clear S;intro a S
 obtain ⟨r2,hr2,h⟩:=He h
 have hz4:=S.keep.size
 refine Rq 0 S rfl (fun v2=>.own v2 85 4 r2.length (r2.flatMap Fb.enc)) (fun _=>Fa (vs:=[v1,.func (.func 104) #[] #[.pointer (some ⟨b1,0,none⟩),.pointer (some ⟨b2,0,none⟩)]]) ⟨(S.tm rfl),(S.tm rfl),trivial⟩ call103) (Ox _ v1 r1 (S.holds _ (List.mem_of_getElem? (i:=0) rfl)) b1 Ad Ar (Ap.mono (S.le_arg (Fh (i:=0) (e:=.own v1 85 4 r1.length (r1.flatMap Fb.enc)) rfl))) (S.blk_view (i:=2) rfl ((Ke (i:=0) (j:=2) (e:=.own v1 85 4 r1.length (r1.flatMap Fb.enc)) (e':=.blk b1 [Ad] 29) S rfl rfl rfl) _ rfl)) b2 Eh (S.blk_view (i:=1) rfl ((Ke (i:=0) (j:=1) (e:=.own v1 85 4 r1.length (r1.flatMap Fb.enc)) (e':=.blk b2 [sV Eh] 9) S rfl rfl rfl) _ rfl)) _ hr2) rfl (fun _ _ _ h=>⟨h.1,fun _ hc=>h.2.symm.trans hc⟩) ?_;clear S;intro v2 a w4 hv2 hk4 hn2 S
 clear hv2
 refine Va S rfl rfl fun a S=>Dl (wp_ret ?_)
 obtain rfl:=Option.some.inj h
 exact Gm S results87 rfl (Pu S (i:=0) rfl rfl)
set_option maxRecDepth 20000 in
theorem Xi (w : World) (Ab : Value) (Ae : List An) (As : Slc (view w []) 5 Ab (Ae.map An.enc)) (Ad : Value) (Ar : List Ex) (Ap : Slc (view w []) 3 Ad (Ar.map Ex.enc)) (Be : Int) (r : (List Gn)) (h : Pd Ae Ar Be = some r) :
    Calls prog 62 [Ab,Ad,iV Be].toArray w (Ret w [] fun τ v _=>Pk τ 100 10 v r.length (r.flatMap Gn.enc)):=by
 refine Fe func62 rfl ntmps62 rfl fun a S=>?_
 unfold Pd at h
 replace S:=S.k3 0 1 2 rfl
 refine Fr (Vk S rfl rfl fun a S=>Dz (Vk S rfl rfl ?_));clear S;intro a S
 replace S:=S.nil 9 1
 refine Dl (Fs (Fr (Vm S rfl rfl fun a S=>lv S (Gh Rz (S.tm rfl) (Ey Ap)) rfl fun a S=>lv S (Rm rfl) rfl fun a S=>Dl ?_)))
 replace S:=(S.nl [.own (.slice none 0 0) 9 1 ([] : List ByteArray).length (([] : List ByteArray).flatMap Ic)] [true] rfl).k7 0 1 2 7 15 16 17 rfl
 obtain ⟨j1,hj1,h⟩:=Ha h
 refine Gv (fun a w'=>∃ x1 : List ByteArray,∃ v1 : Value,j1 x1 = some r ∧ Sx w [] nov [.own v1 9 1 x1.length (x1.flatMap Ic)] [(0,Ab),(1,Ad),(2,iV Be),(7,v1)] 75 a w') ?_ ?_
 ·refine wp_block (Iv (fun (ys1 : List Ex) a w'=>∃ i1 : Nat,∃ x1 : List ByteArray,∃ v1 : Value,(∃ dn,Ar = dn ++ ys1 ∧ dn.length = i1) ∧ Jt j1 ys1 i1 x1 = some r ∧ Sx w [] nov [.own v1 9 1 x1.length (x1.flatMap Ic)] [(0,Ab),(1,Ad),(2,iV Be),(7,v1),(15,Ad),(16,iV (Ar.length : Int)),(17,iV (i1 : Int))] 75 a w') List.length Ar ⟨0,([] : List ByteArray),(.slice none 0 0),⟨[],rfl,rfl⟩,h,S.nf [true] rfl (subR rfl)⟩ ?_)
  clear S h;rintro ys1 a w1 ⟨i1,x1,v1,⟨dn,hd1,hi1⟩,h,S⟩
  cases ys1 with
  | nil =>
   rw [Jt.eq_1] at h
   refine Fr (Vb S Gb rfl rfl rfl fun a S=>Ld ?_)
   replace S:=S.k8 0 1 2 7 15 16 17 18 rfl
   exact Tn (Fs (wp_cond_false ((S.tm rfl).trans (congrArg Value.bool (Jr hd1 hi1))) (wp_exit (Gk (Gk (Jc (Tn (⟨x1,v1,h,S.nf [true] rfl (subR rfl)⟩))))))))
  | cons y1 ys1 =>
   rw [Jt.eq_2] at h
   refine Fr (Vb S Gb rfl rfl rfl fun a S=>Ld ?_)
   replace S:=S.k8 0 1 2 7 15 16 17 18 rfl
   refine Tn (Fs (wp_cond_true ((S.tm rfl).trans (congrArg Value.bool (Ih hd1 hi1))) (wp_skip (Tn (Fs (wp_block (Fs (Fg ?_))))))))
   obtain ⟨b1,o1,hm1,hr1⟩:=Gd (a:=a) (x:=.tmp 15) (y:=.tmp 17) (ty:=0) Rz Ap (Jd hd1 hi1) rfl (S.tm rfl) (S.tm rfl)
   refine lv S (hr1 _) rfl ?_;clear S;intro a S
   clear hr1
   refine lv S (Ji isAgg55 sizeOf55 (off:=o1) (o:=0) (part:=(Ex.enc y1)) rfl rfl (S.tm rfl) (hm1.at S.emb0)) rfl fun a S=>Mw S zeroValue55 (cs:=[sV Ga,sV Ga,iV 0]) rfl rfl ?_;clear S;intro a w3 b2 hz1 hk1 S
   refine Ku S (S.tm rfl) (S.tm rfl) (i:=0) (off:=0) rfl sizeOf55 (vs:=(Ex.enc y1)) rfl rfl rfl rfl ?_;clear S;intro w4 hk2 S
   refine Dl (Fg (Vm S rfl rfl fun a S=>Vf Qo S rfl rfl fun a S=>Vl isAgg9 0 S rfl rfl rfl rfl fun a S=>Fw S underlying31 sizeOf9 zeroValue9 rfl rfl (pv:=[(0,sV y1.Who)]) ⟨rfl,(S.tm rfl),trivial⟩ (cs:=[sV y1.Who]) (by kernel_rfl) rfl ?_));clear S;intro a w5 b3 hz2 hk3 S
   obtain ⟨hc1,h⟩:=Ig h
   refine Nq Kv Jb S (S.tm rfl) (i:=2) rfl (S.tm rfl) (j:=0) rfl (ys:=[y1.Who]) rfl rfl rfl rfl (by have:=Ky hc1;omega) rfl ?_;clear S;intro v2 a w6 hk4 S
   refine Va S rfl rfl fun a S=>Ld ?_
   replace S:=(S.nl [.own v2 9 1 (x1 ++ [y1.Who]).length ((x1 ++ [y1.Who]).flatMap Ic)] [false,false,true] rfl).k7 0 1 2 7 15 16 17 rfl
   exact Kb (Tn (Fg (Vq S Gx rfl rfl rfl fun a S=>Vm S rfl rfl fun a S=>Dl (⟨ys1,⟨i1 + 1,(x1 ++ [y1.Who]),v2,⟨_,(hd1).trans (List.append_cons _ _ _),by simp [hi1]⟩,h,S.nf [true] rfl ⟨rfl,rfl,rfl,rfl,rfl,rfl,(congrArg (fun z=>some (Value.int .i64 z)) (Ii hd1 hi1 (Kl Ap))),trivial⟩⟩,Nat.lt_succ_self _⟩))))
 clear S h;rintro a w2 ⟨x1,v1,h,S⟩;rw [hj1] at h;clear hj1 j1
 refine Tn (Fr (Vk S rfl rfl ?_));clear S;intro a S
 replace S:=S.nil 100 10
 refine Dl (Fs (Fr (Vm S rfl rfl ?_)));clear S;intro a S
 obtain ⟨r1,hr2,h⟩:=He h
 have hz3:=S.keep.size
 refine Rq 1 S rfl (fun v3=>.own v3 9 1 r1.length (r1.flatMap Ic)) (fun _=>Fa (vs:=[v1]) ⟨(S.tm rfl),trivial⟩ call86) (Ub _ v1 x1 (S.holds _ (List.mem_of_getElem? (i:=1) rfl)) _ hr2) rfl (fun _ _ _ h=>⟨h.1,fun _ hc=>h.2.symm.trans hc⟩) ?_;clear S;intro v3 a w7 hv1 hk5 hn1 S
 clear hv1
 refine lv S (Gh Kv (S.tm rfl) (Ly (S.own_at (i:=1) rfl))) rfl fun a S=>lv S (Rm rfl) rfl fun a S=>Dl ?_
 replace S:=(S.nl [.own (.slice none 0 0) 100 10 ([] : List Gn).length (([] : List Gn).flatMap Gn.enc),.own v3 9 1 r1.length (r1.flatMap Ic)] [true,true] rfl).k7 0 1 2 10 28 29 30 rfl
 have hm2:=Yk (S.own_at (i:=1) rfl)
 obtain ⟨j2,hj2,h⟩:=Ha h
 refine Gv (fun a w'=>∃ x2 : List Gn,∃ φ1 : View,∃ v4 : Value,j2 x2 = some r ∧ View.le nov φ1 ∧ Sx w [] φ1 [.own v4 100 10 x2.length (x2.flatMap Gn.enc),.own v3 9 1 r1.length (r1.flatMap Ic)] [(10,v4)] 75 a w') ?_ ?_
 ·refine wp_block (Iv (fun (ys2 : List ByteArray) a w'=>∃ i2 : Nat,∃ x2 : List Gn,∃ φ1 : View,∃ v4 : Value,(∃ dn,r1 = dn ++ ys2 ∧ dn.length = i2) ∧ Ht Ae Ar Be j2 ys2 i2 x2 = some r ∧ View.le nov φ1 ∧ Sx w [] φ1 [.own v4 100 10 x2.length (x2.flatMap Gn.enc),.own v3 9 1 r1.length (r1.flatMap Ic)] [(0,Ab),(1,Ad),(2,iV Be),(10,v4),(28,v3),(29,iV (r1.length : Int)),(30,iV (i2 : Int))] 75 a w') List.length r1 ⟨0,([] : List Gn),nov,(.slice none 0 0),⟨[],rfl,rfl⟩,h,View.le_refl _,S.nf [true,true] rfl (subR rfl)⟩ ?_)
  clear S h;rintro ys2 a w8 ⟨i2,x2,φ1,v4,⟨dn,hd2,hi2⟩,h,hl1,S⟩
  cases ys2 with
  | nil =>
   rw [Ht.eq_1] at h
   refine Fr (Vb S Gb rfl rfl rfl fun a S=>Ld ?_)
   replace S:=S.k8 0 1 2 10 28 29 30 31 rfl
   exact Tn (Fs (wp_cond_false ((S.tm rfl).trans (congrArg Value.bool (Jr hd2 hi2))) (wp_exit (Gk (Gk (Jc (Tn (⟨x2,φ1,v4,h,hl1,S.nf [true,true] rfl ⟨rfl,trivial⟩⟩))))))))
  | cons y2 ys2 =>
   rw [Ht.eq_2] at h
   refine Fr (Vb S Gb rfl rfl rfl fun a S=>Ld ?_)
   replace S:=S.k8 0 1 2 10 28 29 30 31 rfl
   refine Tn (Fs (wp_cond_true ((S.tm rfl).trans (congrArg Value.bool (Ih hd2 hi2))) (wp_skip (Tn (Fs (wp_block (Fs (Fg ?_))))))))
   obtain ⟨b4,hg1,hr3⟩:=Hn (a:=a) (x:=.tmp 28) (y:=.tmp 30) (ty:=0) Kv Jb S (i:=1) rfl (Jd hd2 hi2) rfl (S.tm rfl) (S.tm rfl)
   refine lv S (hr3 _) rfl ?_;clear S;intro a S
   clear hr3
   refine lv S (Hr isAgg9 (off:=i2 * 1) (o:=0) (S.tm rfl) (Kx Jb S (i:=1) rfl hg1 (Jd hd2 hi2)) rfl) rfl fun a S=>Va S rfl rfl fun a S=>Dl (Fs (Fg ?_))
   iterate 4 (refine Vm S rfl rfl ?_;clear S;intro a S)
   obtain ⟨r2,hr4,h⟩:=He h
   have hz4:=S.keep.size
   refine Fo S (fun _=>Fa (vs:=[Ab,Ad,sV y2,iV Be]) ⟨(S.tm rfl),(S.tm rfl),(S.tm rfl),(S.tm rfl),trivial⟩ call87) (Xh _ Ab Ae (As.mono (S.le_arg Fy)) Ad Ar (Ap.mono (S.le_arg Fy)) y2 Be _ hr4) rfl ?_;clear S;intro v5 a w10 hv2 hk6 hn2 S
   obtain ⟨φ2,hl2,hm4,S⟩:=S.see' hn2 hz4
   have hs1:=hv2.mono hm4
   refine Va S rfl rfl fun a S=>Ld ?_
   replace S:=S.k9 0 1 2 10 12 13 28 29 30 rfl
   refine Tn (Fr (Vk S rfl rfl fun a S=>Dl ?_))
   replace S:=S.k10 0 1 2 10 12 13 14 28 29 30 rfl
   obtain ⟨j3,hj3,h⟩:=Ha h
   refine Gv (fun a w'=>∃ x3 : List Gn,∃ v6 : Value,j3 x3 = some r ∧ Sx w [] φ2 [.own v6 100 10 x3.length (x3.flatMap Gn.enc),.own v3 9 1 r1.length (r1.flatMap Ic)] [(0,Ab),(1,Ad),(2,iV Be),(10,v6),(28,v3),(29,iV (r1.length : Int)),(30,iV (i2 : Int))] 75 a w') ?_ ?_
   ·refine wp_block (Iv (fun (m1 : Nat) a w'=>∃ x3 : List Gn,∃ x4 : Int,∃ v6 : Value,Kd r2 y2 j3 m1 x3 x4 = some r ∧ Sx w [] φ2 [.own v6 100 10 x3.length (x3.flatMap Gn.enc),.own v3 9 1 r1.length (r1.flatMap Ic)] [(0,Ab),(1,Ad),(2,iV Be),(10,v6),(12,sV y2),(13,v5),(14,iV x4),(28,v3),(29,iV (r1.length : Int)),(30,iV (i2 : Int))] 75 a w') id (((r2.length : Int) - 1).toNat + 2) ⟨x2,1,v4,h,S.nf [true,true] rfl (subR rfl)⟩ ?_)
    clear S h;rintro m1 a w11 ⟨x3,x4,v6,h,S⟩
    cases m1 with
    | zero=>rw [Kd.eq_1] at h;cases h
    | succ m1 =>
     rw [Kd.eq_2] at h
     refine Fs (Fr (Vm S rfl rfl fun a S=>Vm S rfl rfl fun a S=>lv S (Gh Qk (S.tm rfl) (Ey (Gw Fb.enc_ok hs1))) rfl fun a S=>Vb S Gb rfl rfl rfl fun a S=>Dl (Fc h (S.tm rfl) (fun hb1 h=>?_) (fun hb1 h=>?_))))
     ·refine wp_skip (Tn (Fs (wp_block ?_)))
      obtain ⟨hc2,h⟩:=Ig h
      obtain ⟨hc3,h⟩:=Ig h
      obtain ⟨hc4,h⟩:=Ig h
      obtain ⟨hc5,h⟩:=Ig h
      obtain ⟨hc6,h⟩:=Ig h
      refine Hx [] (v6.ownBlock.toList) Tryz.mixed S rfl (by kernel_rfl) ?_;clear S;intro w15 hk9 hsel S
      refine Fj 0 S hsel rfl rfl rfl (by kernel_rfl) (by kernel_rfl) rfl (fun _ hw=>(Rm (S.tm rfl))) fun a S=>Fj 1 S hsel rfl rfl rfl (by kernel_rfl) (by kernel_rfl) rfl (fun _ hw=>(Rm (S.tm rfl))) fun a S=>Fj 2 S hsel rfl rfl rfl (by kernel_rfl) (by kernel_rfl) rfl (fun _ hw=>(Rm (S.tm rfl))) fun a S=>Fj 3 S hsel rfl rfl rfl (by kernel_rfl) (by kernel_rfl) rfl (fun _ hw=>(Rm (S.tm rfl))) fun a S=>Fj 4 S hsel rfl rfl rfl (by kernel_rfl) (by kernel_rfl) rfl (fun _ hw=>(Kw (S.tm rfl) rfl)) ?_;clear S;intro a S
      obtain ⟨b10,o7,hm9,hr9⟩:=Gd (a:=a) (x:=.tmp 47) (y:=.tmp 49) (ty:=0) Qk ((Gw Fb.enc_ok hs1).mono (S.le_new (Fh (i:=0) (e:=.own v6 100 10 x3.length (x3.flatMap Gn.enc)) rfl))) (Ff hc2).1 (Ff hc2).2 (S.tm rfl) (S.tm rfl)
      refine Fj 5 S hsel rfl rfl rfl (by kernel_rfl) (by kernel_rfl) rfl (fun _ hw=>hr9 _) ?_;clear S;intro a S
      clear hr9
      refine Fj 6 S hsel rfl rfl rfl (by kernel_rfl) (by kernel_rfl) rfl (fun _ hw=>(Ji isAgg85 sizeOf85 (off:=o7) (o:=0) (part:=(Fb.enc (Fb.mk ((nth r2 (W (x4 - 1))).Item) ((nth r2 (W (x4 - 1))).Heat) ((nth r2 (W (x4 - 1))).Time)))) rfl rfl (S.tm rfl) (hm9.kept hw))) fun a S=>Fj 7 S hsel rfl rfl rfl (by kernel_rfl) (by kernel_rfl) rfl (fun _ hw=>(Rm (S.tm rfl))) fun a S=>Fj 8 S hsel rfl rfl rfl (by kernel_rfl) (by kernel_rfl) rfl (fun _ hw=>(Rm (S.tm rfl))) ?_;clear S;intro a S
      obtain ⟨b11,o8,hm10,hr10⟩:=Gd (a:=a) (x:=.tmp 52) (y:=.tmp 53) (ty:=0) Qk ((Gw Fb.enc_ok hs1).mono (S.le_new (Fh (i:=0) (e:=.own v6 100 10 x3.length (x3.flatMap Gn.enc)) rfl))) (Ff hc3).1 (Ff hc3).2 (S.tm rfl) (S.tm rfl)
      refine Fj 9 S hsel rfl rfl rfl (by kernel_rfl) (by kernel_rfl) rfl (fun _ hw=>hr10 _) ?_;clear S;intro a S
      clear hr10
      refine Fj 10 S hsel rfl rfl rfl (by kernel_rfl) (by kernel_rfl) rfl (fun _ hw=>(Ji isAgg85 sizeOf85 (off:=o8) (o:=0) (part:=(Fb.enc (Fb.mk ((nth r2 x4).Item) ((nth r2 x4).Heat) ((nth r2 x4).Time)))) rfl rfl (S.tm rfl) (hm10.kept hw))) fun a S=>Fj 11 S hsel rfl rfl rfl (by kernel_rfl) (by kernel_rfl) rfl (fun _ hw=>(Rm (S.tm rfl))) fun a S=>Fj 12 S hsel rfl rfl rfl (by kernel_rfl) (by kernel_rfl) rfl (fun _ hw=>(Rm (S.tm rfl))) ?_;clear S;intro a S
      obtain ⟨b12,o9,hm11,hr11⟩:=Gd (a:=a) (x:=.tmp 56) (y:=.tmp 57) (ty:=0) Qk ((Gw Fb.enc_ok hs1).mono (S.le_new (Fh (i:=0) (e:=.own v6 100 10 x3.length (x3.flatMap Gn.enc)) rfl))) (Ff hc4).1 (Ff hc4).2 (S.tm rfl) (S.tm rfl)
      refine Fj 13 S hsel rfl rfl rfl (by kernel_rfl) (by kernel_rfl) rfl (fun _ hw=>hr11 _) ?_;clear S;intro a S
      clear hr11
      refine Fj 14 S hsel rfl rfl rfl (by kernel_rfl) (by kernel_rfl) rfl (fun _ hw=>(Hk Wx (S.tm rfl))) fun a S=>Fj 15 S hsel rfl rfl rfl (by kernel_rfl) (by kernel_rfl) rfl (fun _ hw=>(Hk fa_83_0 (S.tm rfl))) fun a S=>Fj 16 S hsel rfl rfl rfl (by kernel_rfl) (by kernel_rfl) rfl (fun _ hw=>(Hr isAgg3 (off:=o9) (o:=2) (S.tm rfl) (hm11.kept hw) rfl)) fun a S=>Fj 17 S hsel rfl rfl rfl (by kernel_rfl) (by kernel_rfl) rfl (fun _ hw=>(Rm (S.tm rfl))) fun a S=>Fj 18 S hsel rfl rfl rfl (by kernel_rfl) (by kernel_rfl) rfl (fun _ hw=>(Rm (S.tm rfl))) fun a S=>Fj 19 S hsel rfl rfl rfl (by kernel_rfl) (by kernel_rfl) rfl (fun _ hw=>(Kw (S.tm rfl) rfl)) ?_;clear S;intro a S
      obtain ⟨b13,o10,hm12,hr12⟩:=Gd (a:=a) (x:=.tmp 62) (y:=.tmp 64) (ty:=0) Qk ((Gw Fb.enc_ok hs1).mono (S.le_new (Fh (i:=0) (e:=.own v6 100 10 x3.length (x3.flatMap Gn.enc)) rfl))) (Ff hc5).1 (Ff hc5).2 (S.tm rfl) (S.tm rfl)
      refine Fj 20 S hsel rfl rfl rfl (by kernel_rfl) (by kernel_rfl) rfl (fun _ hw=>hr12 _) ?_;clear S;intro a S
      clear hr12
      refine Fj 21 S hsel rfl rfl rfl (by kernel_rfl) (by kernel_rfl) rfl (fun _ hw=>(Hk Wx (S.tm rfl))) fun a S=>Fj 22 S hsel rfl rfl rfl (by kernel_rfl) (by kernel_rfl) rfl (fun _ hw=>(Hk Yt (S.tm rfl))) fun a S=>Fj 23 S hsel rfl rfl rfl (by kernel_rfl) (by kernel_rfl) rfl (fun _ hw=>(Hr isAgg3 (off:=o10) (o:=3) (S.tm rfl) (hm12.kept hw) rfl)) fun a S=>Fj 24 S hsel rfl rfl rfl (by kernel_rfl) (by kernel_rfl) rfl (fun _ hw=>(Kw (S.tm rfl) (S.tm rfl))) fun a S=>Fj 25 S hsel rfl rfl rfl (by kernel_rfl) (by kernel_rfl) rfl (fun _ hw=>(Tj bt_100 (pv:=[(0,sV y2),(1,.agg (Fb.enc (Fb.mk ((nth r2 (W (x4 - 1))).Item) ((nth r2 (W (x4 - 1))).Heat) ((nth r2 (W (x4 - 1))).Time))).toArray),(2,.agg (Fb.enc (Fb.mk ((nth r2 x4).Item) ((nth r2 x4).Heat) ((nth r2 x4).Time))).toArray),(3,iV (W ((((nth r2 x4).Time).From) - (((nth r2 (W (x4 - 1))).Time).To))))]) ⟨rfl,(S.tm rfl),rfl,(S.tm rfl),rfl,(S.tm rfl),rfl,(S.tm rfl),trivial⟩ (cs:=[sV y2,sV ((nth r2 (W (x4 - 1))).Item),iV ((nth r2 (W (x4 - 1))).Heat),iV (((nth r2 (W (x4 - 1))).Time).From),iV (((nth r2 (W (x4 - 1))).Time).To),sV ((nth r2 x4).Item),iV ((nth r2 x4).Heat),iV (((nth r2 x4).Time).From),iV (((nth r2 x4).Time).To),iV (W ((((nth r2 x4).Time).From) - (((nth r2 (W (x4 - 1))).Time).To)))]) (by kernel_rfl))) fun a S=>Gq 26 (by kernel_rfl) rfl (Fw S underlying73 sizeOf100 zeroValue100 rfl rfl (pv:=[(0,.agg (Gn.enc (Gn.mk y2 (Fb.mk ((nth r2 (W (x4 - 1))).Item) ((nth r2 (W (x4 - 1))).Heat) ((nth r2 (W (x4 - 1))).Time)) (Fb.mk ((nth r2 x4).Item) ((nth r2 x4).Heat) ((nth r2 x4).Time)) (W ((((nth r2 x4).Time).From) - (((nth r2 (W (x4 - 1))).Time).To))))).toArray)]) ⟨rfl,(S.tm rfl),trivial⟩ (cs:=[sV y2,sV ((nth r2 (W (x4 - 1))).Item),iV ((nth r2 (W (x4 - 1))).Heat),iV (((nth r2 (W (x4 - 1))).Time).From),iV (((nth r2 (W (x4 - 1))).Time).To),sV ((nth r2 x4).Item),iV ((nth r2 x4).Heat),iV (((nth r2 x4).Time).From),iV (((nth r2 x4).Time).To),iV (W ((((nth r2 x4).Time).From) - (((nth r2 (W (x4 - 1))).Time).To)))]) (by kernel_rfl) rfl ?_);clear S;intro a w16 b14 hz6 hk10 S
      refine Ld (Hb (Keep.none hk10) (Gq 27 (by kernel_rfl) rfl ?_))
      refine Mi Xp Gn.enc_ok S (S.tm rfl) (i:=1) rfl (S.tm rfl) (j:=0) rfl (ys:=[(Gn.mk y2 (Fb.mk ((nth r2 (W (x4 - 1))).Item) ((nth r2 (W (x4 - 1))).Heat) ((nth r2 (W (x4 - 1))).Time)) (Fb.mk ((nth r2 x4).Item) ((nth r2 x4).Heat) ((nth r2 x4).Time)) (W ((((nth r2 x4).Time).From) - (((nth r2 (W (x4 - 1))).Time).To))))]) rfl rfl rfl rfl (by have:=Ky hc6;omega) rfl ?_;clear S;intro v8 a w17 hk11 hf1 S
      refine Ld ?_
      refine Nk (v8.ownBlock.toList) hk11 (by intro y hy;simp at hy ⊢;exact (by rcases hf1 y hy with hy | hy <;> simp [hy])) ?_
      refine Lc [28] hsel (by kernel_rfl) rfl ?_
      clear hsel
      refine Gp S rfl (Ra (S.tm rfl)) rfl fun a S=>Kz ?_
      replace S:=(S.nl [.own v8 100 10 (x3 ++ [(Gn.mk y2 (Fb.mk ((nth r2 (W (x4 - 1))).Item) ((nth r2 (W (x4 - 1))).Heat) ((nth r2 (W (x4 - 1))).Time)) (Fb.mk ((nth r2 x4).Item) ((nth r2 x4).Heat) ((nth r2 x4).Time)) (W ((((nth r2 x4).Time).From) - (((nth r2 (W (x4 - 1))).Time).To))))]).length ((x3 ++ [(Gn.mk y2 (Fb.mk ((nth r2 (W (x4 - 1))).Item) ((nth r2 (W (x4 - 1))).Heat) ((nth r2 (W (x4 - 1))).Time)) (Fb.mk ((nth r2 x4).Item) ((nth r2 x4).Heat) ((nth r2 x4).Time)) (W ((((nth r2 x4).Time).From) - (((nth r2 (W (x4 - 1))).Time).To))))]).flatMap Gn.enc),.own v3 9 1 r1.length (r1.flatMap Ic)] [false,true,true] rfl).k10 0 1 2 10 12 13 14 28 29 30 rfl
      exact Kb (Tn (Fg (Vm S rfl rfl fun a S=>Vq S Gx rfl rfl rfl fun a S=>Va S rfl rfl fun a S=>Dl (⟨m1,⟨(x3 ++ [(Gn.mk y2 (Fb.mk ((nth r2 (W (x4 - 1))).Item) ((nth r2 (W (x4 - 1))).Heat) ((nth r2 (W (x4 - 1))).Time)) (Fb.mk ((nth r2 x4).Item) ((nth r2 x4).Heat) ((nth r2 x4).Time)) (W ((((nth r2 x4).Time).From) - (((nth r2 (W (x4 - 1))).Time).To))))]),W (x4 + 1),v8,h,S.nf [true,true] rfl ⟨rfl,rfl,rfl,rfl,rfl,rfl,rfl,rfl,rfl,rfl,trivial⟩⟩,Nat.lt_succ_self _⟩))))
     ·exact wp_exit (Gk (Gk (Jc (Tn (⟨x3,v6,h,S.nf [true,true] rfl (subR rfl)⟩)))))
   clear S h;rintro a w12 ⟨x3,v6,h,S⟩;rw [hj3] at h;clear hj3 j3
   exact Kb (Tn (Fg (Vq S Gx rfl rfl rfl fun a S=>Vm S rfl rfl fun a S=>Dl (⟨ys2,⟨i2 + 1,x3,φ2,v6,⟨_,(hd2).trans (List.append_cons _ _ _),by simp [hi2]⟩,h,(View.le_trans hl1 hl2),S.nf [true,true] rfl ⟨rfl,rfl,rfl,rfl,rfl,rfl,(congrArg (fun z=>some (Value.int .i64 z)) (Ii hd2 hi2 hm2)),trivial⟩⟩,Nat.lt_succ_self _⟩))))
 clear S h;rintro a w9 ⟨x2,φ1,v4,h,hl1,S⟩;rw [hj2] at h;clear hj2 j2
 refine Tn (Fr (Vm S rfl rfl fun a S=>Va S rfl rfl fun a S=>Dl (wp_ret ?_)))
 obtain rfl:=Option.some.inj h
 exact Gm S results62 rfl (Pu S (i:=0) rfl rfl)
theorem Sh (w : World) (Ev : Gn) (Br : Nat) (Cd : Int) (Cc : (view w []) Br = some (.cells [iV Cd].toArray 3 (0,0))) (r : Bool) (h : Oz Ev Cd = r) :
    Calls prog 63 [.agg (Gn.enc Ev).toArray,.pointer (some ⟨Br,0,none⟩)].toArray w (Ret w [] fun _ v _=>v = bV r):=by
 refine Fe func63 rfl ntmps63 rfl fun a S=>?_
 unfold Oz at h
 replace S:=S.k2 0 1 rfl
 refine Fr (Pt S (S.tm rfl) (cs:=(Gn.enc Ev)) rfl rfl ?_);clear S;intro a w1 b1 hz1 hk1 S
 refine Vk S rfl rfl fun a S=>Dz (Vf KZ S rfl rfl fun a S=>Vl isAgg3 0 S rfl rfl rfl rfl fun a S=>lv S (Hr isAgg3 (off:=0) (o:=0) (S.tm rfl) ((Rl Cc).at S.emb0) rfl) rfl fun a S=>Vb S Qe rfl rfl rfl fun a S=>Va S rfl rfl fun a S=>Ld ?_)
 refine Tn (wp_ret ?_)
 subst h
 exact Gm S results63 rfl rfl
theorem Pj (w : World) (Ak : Value) (Ay : List Gn) (Bo : Slc (view w []) 10 Ak (Ay.map Gn.enc)) (Bw : Nat) (Cq : Int) (Cx : (view w []) Bw = some (.cells [iV Cq].toArray 3 (0,0))) (r : Int) (h : Gu Ay Cq = r) :
    Calls prog 85 [Ak,.func (.func 63) #[] #[.pointer (some ⟨Bw,0,none⟩)]].toArray w (Ret w [] fun _ v _=>v = iV r):=by
 refine Fe func85 rfl ntmps85 rfl fun a S=>?_
 unfold Gu at h
 replace S:=S.k2 0 1 rfl
 refine Fr (Vk S rfl rfl fun a S=>Dl (Fs (Fr (Vm S rfl rfl fun a S=>lv S (Gh Xp (S.tm rfl) (Ey Bo)) rfl fun a S=>lv S (Rm rfl) rfl ?_))));clear S;intro a S
 refine Dl ?_
 replace S:=S.k4 0 1 7 8 rfl
 obtain ⟨j1,hj1,h⟩:=Ha h
 refine Gv (fun a w'=>j1 = r ∧ Sx w [] nov [] [] 19 a w') ?_ ?_
 ·refine wp_block (Iv (fun (ys1 : List Gn) a w'=>∃ i1 : Nat,(∃ dn,Ay = dn ++ ys1 ∧ dn.length = i1) ∧ Gj Cq j1 ys1 i1 = r ∧ Sx w [] nov [] [(0,Ak),(1,.func (.func 63) #[] #[.pointer (some ⟨Bw,0,none⟩)]),(7,iV (Ay.length : Int)),(8,iV (i1 : Int))] 19 a w') List.length Ay ⟨0,⟨[],rfl,rfl⟩,h,S.nf [] rfl (subR rfl)⟩ ?_)
  clear S h;rintro ys1 a w1 ⟨i1,⟨dn,hd1,hi1⟩,h,S⟩
  cases ys1 with
  | nil =>
   rw [Gj.eq_1] at h
   refine Fr (Vb S Gb rfl rfl rfl fun a S=>Ld ?_)
   replace S:=S.k5 0 1 7 8 9 rfl
   exact Tn (Fs (wp_cond_false ((S.tm rfl).trans (congrArg Value.bool (Jr hd1 hi1))) (wp_exit (Gk (Gk (Jc (Tn (⟨h,S.nf [] rfl trivial⟩))))))))
  | cons y1 ys1 =>
   rw [Gj.eq_2] at h
   refine Fr (Vb S Gb rfl rfl rfl fun a S=>Ld ?_)
   replace S:=S.k5 0 1 7 8 9 rfl
   refine Tn (Fs (wp_cond_true ((S.tm rfl).trans (congrArg Value.bool (Ih hd1 hi1))) (wp_skip (Tn (Fs (wp_block (Fr (Vm S rfl rfl fun a S=>Va S rfl rfl ?_))))))));clear S;intro a S
   refine Dl (Fs (Fg ?_))
   iterate 3 (refine Vm S rfl rfl ?_;clear S;intro a S)
   obtain ⟨b1,o1,hm1,hr1⟩:=Gd (a:=a) (x:=.tmp 12) (y:=.tmp 13) (ty:=0) Xp Bo (Jd hd1 hi1) rfl (S.tm rfl) (S.tm rfl)
   refine lv S (hr1 _) rfl ?_;clear S;intro a S
   clear hr1
   refine lv S (Ji isAgg100 sizeOf100 (off:=o1) (o:=0) (part:=(Gn.enc y1)) rfl rfl (S.tm rfl) (hm1.at S.emb0)) rfl fun a S=>Fo S (fun _=>Pb (cap:=[.pointer (some ⟨Bw,0,none⟩)]) (S.tm rfl) (vs:=[.agg (Gn.enc y1).toArray]) ⟨(S.tm rfl),trivial⟩ call63) (Sh _ y1 Bw Cq ((S.le_arg Fy) _ _ Cx) _ rfl) rfl ?_;clear S;intro v1 a w3 hv1 hk1 hn1 S
   subst hv1
   refine Dl (Fc h (S.tm rfl) (fun hb1 h=>?_) (fun hb1 h=>?_))
   ·refine Fr (Vm S rfl rfl fun a S=>Va S rfl rfl fun a S=>Ld ?_)
    replace S:=S.k1 4 rfl
    refine Tn (wp_ret (Hv (Fk (Fk (Hv (Fk (Fk ?_)))))))
    subst h
    exact Gm S results85 rfl rfl
   ·exact wp_skip (Kb (Tn (Fg (Vq S Gx rfl rfl rfl fun a S=>Vm S rfl rfl fun a S=>Dl (⟨ys1,⟨i1 + 1,⟨_,(hd1).trans (List.append_cons _ _ _),by simp [hi1]⟩,h,S.nf [] rfl ⟨rfl,rfl,rfl,(congrArg (fun z=>some (Value.int .i64 z)) (Ii hd1 hi1 (Kl Bo))),trivial⟩⟩,Nat.lt_succ_self _⟩)))))
 clear S h;rintro a w2 ⟨h,S⟩;rw [hj1] at h;clear hj1 j1
 refine Tn (Fr (Vk S rfl rfl fun a S=>Dl (wp_ret ?_)))
 subst h
 exact Gm S results85 rfl rfl
end Go.Proofs.YtlndicofaomdaaaGreatDoor
