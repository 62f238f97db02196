/- Each Go function computes its plain twin,by program. -/
import Derived.Test.YthlielagemkjcaaGreatDoorWk1
namespace Go.Proofs.YthlielagemkjcaaGreatDoor
open Go
open Go.Proofs.Tryz
set_option maxHeartbeats 4000000
set_option maxRecDepth 100000
variable {vs:List Go.Value}
theorem KA(w:World)(Aa:Nat)(Ab:Value)(Aj:List Int)(Al:Slc (view w [Aa]) 1 Ab (Aj.map eInt))(Ag:Int)(Ak:(LEnt.blk Aa [Ab,iV Ag] 25).holds w)(r:Ge×Int)(h:AT Aj Ag=some r):
 Calls prog 4 [bW Aa].toArray w (Ret w [Aa] λτ v w'=>(LEnt.blk Aa [Ab,iV r.2] 25).holds w'/\∃q:R32,v= .agg (R32.enc q).toArray/\Lb τ r.1 q):=by
 refine Ka [Aa] [.blk Aa [Ab,iV Ag] 25] func4 rfl ntmps4 rfl (λe he=>by simp only[bA] at he;subst he;exact Ak) (by simp[fps,LEnt.fp]) (by simp[fps,LEnt.fp]) λa S=>?_;unfold AT at h;replace S:=S.k1 0 rfl;refine Fr (AA S zeroValue32 (cs:=[.slice none 0 0,.slice none 0 0,iV 0,iV 0,iV 0,iV 0,iV 0]) rfl rfl ?_);clear S;intro a w1 b1 hz1 hk1 S;replace S:=S.nil 79 8;replace S:=S.nil 3 1;refine Dz (Vm S rfl rfl ?_);clear S;intro a S;obtain⟨r1,hr1,h⟩:=Rw h;have hz2:=S.keep.size;refine HD 3 S (b:=Aa) rfl rfl (λ_=>.blk Aa [Ab,iV r1.2] 25) (λ_=>Oq (S.c1 rfl) call15) (DK _ _ _ _ (Al.mono (S.la 3 rfl)) _ (S.hd 3 rfl) _ hr1) rfl (λ_ _ _ h=>⟨h.1,λ_ hc=>by cases hc;rfl⟩) ?_;clear S;intro v1 a w2 hv1 hk2 hn1 S;replace hv1:=hv1.2;obtain⟨q1,z1,rfl,ho2,hq1⟩:=hv1;obtain⟨φ1,hl1,hm1,S⟩:=S.takeV hn1 hz2 ho2;obtain⟨u2,u3,rfl,hs1,⟨u4,rfl,hs2⟩⟩:=EH hm1 _ _ hq1;refine AA S zeroValue32 (cs:=[.slice none 0 0,.slice none 0 0,iV 0,iV 0,iV 0,iV 0,iV 0]) rfl rfl ?_;clear S;intro a w3 b2 hz3 hk3 S;replace S:=S.nil 79 8;replace S:=S.nil 3 1;refine Qq S (S.tm rfl) (S.tm rfl) (i:=2) (off:=0) rfl sizeOf32 (vs:=[z1.val,u4.val,iV r1.1.Table.Relay,iV r1.1.Table.Most,iV r1.1.Final.Size,iV r1.1.Final.Many,iV r1.1.Final.Reserves]) rfl rfl rfl (Yc (Jc.one (Li (S.own_at (i:=3) rfl))) (Yc (Jc.one (Ku hs2)) (Yc rfl (Yc rfl (Yc rfl (Yc rfl (Yc rfl rfl))))))) λw4 hk4 S=>Ld ?_;replace S:=(S.nm [false,false]).k3 0 2 3 rfl;refine Tn (Fs (Fr (Vm S rfl rfl ?_)));clear S;intro a S;obtain⟨r2,hr2,h⟩:=Rw h;refine FX (i:=5) S rfl (evl2 (S.tm rfl) rfl) call16 (CD _ Aa Ab Aj (Al.mono (S.la 5 rfl)) r1.2 (S.hd 5 rfl) 12 _ hr2) rfl ?_;clear S;intro a w5 hk5 hn2 S;refine Ld ?_;replace S:=S.k4 0 2 3 7 rfl;refine Tn ?_;obtain⟨j1,hj1,h⟩:=LB h;refine Qk (λa w'=>∃x1:List Int,∃x2:Int,∃x3:Int,∃x4:Int,∃x5:Int,∃x6:Int,∃x7:List Fp,∃x8:Int,∃φ2:View,∃v3:Value,∃v4:Value,j1 x1 x2 x3 x4 x5 x6 x7 x8=some r/\View.le φ1 φ2/\Slc φ2 1 v3 (x1.map eInt)/\Sx w [Aa] φ2 [.blk b2 [v4,v3,iV x2,iV x3,iV x4,iV x5,iV x6] 32,.own v4 79 8 x7.length (x7.flatMap Fp.enc),.own (.slice none 0 0) 3 1 ([]:List Int).length (([]:List Int).flatMap eInt),.own (.slice none 0 0) 79 8 ([]:List Fp).length (([]:List Fp).flatMap Fp.enc),.blk b1 [(.slice none 0 0),(.slice none 0 0),iV 0,iV 0,iV 0,iV 0,iV 0] 32,.blk Aa [Ab,iV x8] 25] [(2,bW b1),(3,bW b2)] 32 a w') ?_ ?_
 ·refine Fc h (S.tm rfl) (λhb1 h=>?_) (λhb1 h=>?_)
  ·refine Fr (Vm S rfl rfl ?_);clear S;intro a S;obtain⟨r3,hr3,h⟩:=Rw h;refine FX (i:=5) S rfl (evl2 (S.tm rfl) rfl) call17 (FE _ Aa Ab Aj (Al.mono (S.la 5 rfl)) r2.2 (S.hd 5 rfl) 3 _ hr3) rfl ?_;clear S;intro a w7 hk6 hn3 S;refine Ld ?_;replace S:=S.k4 0 2 3 9 rfl;refine Tn ?_;obtain⟨j2,hj2,h⟩:=LB h;refine Qk (λa w'=>∃x9:List Int,∃x10:Int,∃x11:Int,∃x12:Int,∃x13:Int,∃x14:Int,∃x15:List Fp,∃x16:Int,∃φ3:View,∃v6:Value,∃v7:Value,j2 x9 x10 x11 x12 x13 x14 x15 x16=some r/\View.le φ1 φ3/\Slc φ3 1 v6 (x9.map eInt)/\Sx w [Aa] φ3 [.blk b2 [v7,v6,iV x10,iV x11,iV x12,iV x13,iV x14] 32,.own v7 79 8 x15.length (x15.flatMap Fp.enc),.own (.slice none 0 0) 3 1 ([]:List Int).length (([]:List Int).flatMap eInt),.own (.slice none 0 0) 79 8 ([]:List Fp).length (([]:List Fp).flatMap Fp.enc),.blk b1 [(.slice none 0 0),(.slice none 0 0),iV 0,iV 0,iV 0,iV 0,iV 0] 32,.blk Aa [Ab,iV x16] 25] [(2,bW b1),(3,bW b2)] 32 a w') ?_ ?_
   ·refine Ia (Fr (Sg 2 S ?_));refine λa S=>Ld ?_;replace S:=S.k5 0 2 3 9 18 rfl;refine Tn ?_;obtain⟨j3,hj3,h⟩:=LB h;refine Qk (λa w'=>∃x17:List Int,∃x18:Int,∃x19:Int,∃x20:Int,∃x21:Int,∃x22:Int,∃x23:List Fp,∃x24:Int,∃φ4:View,∃v8:Value,∃v9:Value,j3 x17 x18 x19 x20 x21 x22 x23 x24=some r/\View.le φ1 φ4/\Slc φ4 1 v8 (x17.map eInt)/\Sx w [Aa] φ4 [.blk b2 [v9,v8,iV x18,iV x19,iV x20,iV x21,iV x22] 32,.own v9 79 8 x23.length (x23.flatMap Fp.enc),.own (.slice none 0 0) 3 1 ([]:List Int).length (([]:List Int).flatMap eInt),.own (.slice none 0 0) 79 8 ([]:List Fp).length (([]:List Fp).flatMap Fp.enc),.blk b1 [(.slice none 0 0),(.slice none 0 0),iV 0,iV 0,iV 0,iV 0,iV 0] 32,.blk Aa [Ab,iV x24] 25] [(2,bW b1),(3,bW b2)] 32 a w') ?_ ?_
    ·refine Fc h (S.tm rfl) (λhb2 h=>?_) (λhb2 h=>?_)
     ·obtain⟨r4,hr4,h⟩:=Rw h;obtain⟨hc1,h⟩:=On h;refine Wu [6] ([Aa]++z1.val.ownBlock.toList) Tryz.mixed S rfl aF λw13 hk10 hsel S=>Pz 0 S hsel rfl rfl aF aF rfl (λ_=>(ME YU (S.tm rfl))) λa S=>BI 1 S hsel rfl aF aF aF aF rfl (λ_ hw=>(To isAgg26 (off:=0) (o:=0) (S.tm rfl) ((S.blk_mem (i:=0) (cells:=[z1.val,u4.val,iV r1.1.Table.Relay,iV r1.1.Table.Most,iV r1.1.Final.Size,iV r1.1.Final.Many,iV r1.1.Final.Reserves]) (b:=b2) (T:=32) rfl (ne_app (MP (i:=5) (j:=0) (e:=.blk Aa [Ab,iV r3.2] 25) (e':=.blk b2 [z1.val,u4.val,iV r1.1.Table.Relay,iV r1.1.Table.Most,iV r1.1.Final.Size,iV r1.1.Final.Many,iV r1.1.Final.Reserves] 32) S rfl rfl rfl) (MP (i:=1) (j:=0) (e:=.own z1.val 79 8 r1.1.Races.length (r1.1.Races.flatMap Fp.enc)) (e':=.blk b2 [z1.val,u4.val,iV r1.1.Table.Relay,iV r1.1.Table.Most,iV r1.1.Final.Size,iV r1.1.Final.Many,iV r1.1.Final.Reserves] 32) S rfl rfl rfl))).kept hw) rfl)) λa S=>Pz 2 S hsel rfl rfl aF aF rfl (λ_=>(Rm (S.tm rfl))) λa S=>Yy 3 aF rfl ?_;have hz5:=S.keep.size;refine HD 5 S (b:=Aa) rfl rfl (λ_=>.blk Aa [Ab,iV r4.2] 25) (λ_=>Oq (S.c1 rfl) call18) (BF _ _ _ _ (Al.mono (S.la 5 rfl)) _ (S.hd 5 rfl) _ hr4) rfl (λ_ _ _ h=>⟨h.1,λ_ hc=>by cases hc;rfl⟩) ?_;clear S;intro v12 a w14 hv5 hk11 hn5 S;replace hv5:=hv5.2;obtain⟨φ6,hl6,hm3,S⟩:=S.see' hn5 hz5;have hs7:=hv5.mono hm3;refine Ld ?_;refine EQ (hk11.sub (by intro y hy;simp at hy ⊢;simp[hy])) ?_;refine Yy 4 aF rfl ?_;refine RZ (Y:=[]) Ahq Fp.enc_ok S (S.tm rfl) (i:=1) rfl (S.tm rfl) ((Iw Fp.enc_ok hs7).mono (S.le_new (λ_ h=>by cases h))) rfl rfl (by have:=CL hc1;omega) rfl ?_;clear S;intro v13 a w15 hk12 S;refine Ld ?_;refine EQ (hk12.sub (by intro y hy;simp at hy ⊢;simp[hy])) ?_;refine Pz 5 S hsel rfl rfl aF aF rfl (λ_=>(ME YU (S.tm rfl))) λa S=>UN 6 ([Aa]++(v13.ownBlock.toList++[b2])) rfl aF rfl (Qq S (S.tm rfl) (S.tm rfl) (i:=0) (off:=0) rfl sizeOf26 (vs:=[v13]) (Jc.cells (Li (S.own_at (i:=1) rfl))) rfl rfl (Yc (Jc.one (Li (S.own_at (i:=1) rfl))) rfl) λw16 hk13 S=>Ld (UQ (ZQ aF ?_)));clear hsel;replace S:=S.k2 2 3 rfl;exact Tn (⟨r1.1.Table.Points,r1.1.Table.Relay,r1.1.Table.Most,r1.1.Final.Size,r1.1.Final.Many,r1.1.Final.Reserves,(r1.1.Races++r4.1),r4.2,φ6,u4.val,v13,h,hl6,(hs2.mono hl6),S.nf [true,true,true,true,true,true] rfl (subR rfl)⟩)
     ·refine Fr (Sg 2 S ?_);refine λa S=>Ld ?_;replace S:=S.k4 0 2 3 26 rfl;refine Tn ?_;obtain⟨j4,hj4,h⟩:=LB h;refine Qk (λa w'=>∃x25:List Int,∃x26:Int,∃x27:Int,∃x28:Int,∃x29:Int,∃x30:Int,∃x31:Int,∃φ7:View,∃v14:Value,j4 x25 x26 x27 x28 x29 x30 x31=some r/\View.le φ1 φ7/\Slc φ7 1 v14 (x25.map eInt)/\Sx w [Aa] φ7 [.blk b2 [z1.val,v14,iV x26,iV x27,iV x28,iV x29,iV x30] 32,.own z1.val 79 8 r1.1.Races.length (r1.1.Races.flatMap Fp.enc),.own (.slice none 0 0) 3 1 ([]:List Int).length (([]:List Int).flatMap eInt),.own (.slice none 0 0) 79 8 ([]:List Fp).length (([]:List Fp).flatMap Fp.enc),.blk b1 [(.slice none 0 0),(.slice none 0 0),iV 0,iV 0,iV 0,iV 0,iV 0] 32,.blk Aa [Ab,iV x31] 25] [(2,bW b1),(3,bW b2)] 32 a w') ?_ ?_
      ·refine Fc h (S.tm rfl) (λhb3 h=>?_) (λhb3 h=>?_)
       ·refine Fg (Vm S rfl rfl ?_);clear S;intro a S;obtain⟨r5,hr5,h⟩:=Rw h;have hz6:=S.keep.size;refine HD 5 S (b:=Aa) rfl rfl (λ_=>.blk Aa [Ab,iV r5.2] 25) (λ_=>Oq (S.c1 rfl) call19) (IC _ _ _ _ (Al.mono (S.la 5 rfl)) _ (S.hd 5 rfl) _ hr5) rfl (λ_ _ _ h=>⟨h.1,λ_ hc=>by cases hc;rfl⟩) ?_;clear S;intro v15 a w18 hv6 hk14 hn6 S;replace hv6:=hv6.2;obtain⟨q2,rfl,hq2⟩:=hv6;obtain⟨φ8,hl8,hm4,S⟩:=S.see' hn6 hz6;obtain⟨u8,rfl,hs9⟩:=CB hm4 _ _ hq2;refine Vf Aff S rfl rfl λa S=>Qq S (S.tm rfl) (S.tm rfl) (i:=0) (off:=1) rfl sizeOf28 (vs:=[u8.val,iV r5.1.Relay,iV r5.1.Most]) rfl rfl rfl (Yc (Jc.one (Ku hs9)) (Yc rfl (Yc rfl rfl))) λw19 hk15 S=>Ld ?_;replace S:=S.k2 2 3 rfl;exact Tn (⟨r5.1.Points,r5.1.Relay,r5.1.Most,r1.1.Final.Size,r1.1.Final.Many,r1.1.Final.Reserves,r5.2,φ8,u8.val,h,hl8,hs9,S.nf [true,true,true,true,true,true] rfl (subR rfl)⟩)
       ·refine Fg (Vm S rfl rfl ?_);clear S;intro a S;obtain⟨r6,hr6,h⟩:=Rw h;refine FX (i:=5) S rfl (ZZ (S.tm rfl) rfl rfl) call20 (Ur _ Aa Ab Aj (Al.mono (S.la 5 rfl)) r3.2 (S.hd 5 rfl) 1 10 _ hr6) rfl ?_;clear S;intro a w20 hk16 hn7 S;refine Vm S rfl rfl ?_;clear S;intro a S;obtain⟨r7,hr7,h⟩:=Rw h;refine FX (i:=5) S rfl (ZZ (S.tm rfl) rfl rfl) call20 (Ur _ Aa Ab Aj (Al.mono (S.la 5 rfl)) r6.2 (S.hd 5 rfl) 1 5 _ hr7) rfl ?_;clear S;intro a w21 hk17 hn8 S;refine Vm S rfl rfl ?_;clear S;intro a S;obtain⟨r8,hr8,h⟩:=Rw h;refine FX (i:=5) S rfl (ZZ (S.tm rfl) rfl rfl) call20 (Ur _ Aa Ab Aj (Al.mono (S.la 5 rfl)) r7.2 (S.hd 5 rfl) 0 10 _ hr8) rfl ?_;clear S;intro a w22 hk18 hn9 S;refine lw S (IA bt_30 (pv:=[(0,iV r6.1),(1,iV r7.1),(2,iV r8.1)]) ⟨rfl,(S.tm rfl),rfl,(S.tm rfl),rfl,(S.tm rfl),trivial⟩ (cs:=[iV r6.1,iV r7.1,iV r8.1]) aF) λa S=>Vf Afg S rfl rfl λa S=>Qq S (S.tm rfl) (S.tm rfl) (i:=0) (off:=4) rfl sizeOf30 (vs:=[iV r6.1,iV r7.1,iV r8.1]) rfl rfl rfl rfl λw23 hk19 S=>Ld ?_;replace S:=S.k2 2 3 rfl;exact Tn (⟨r1.1.Table.Points,r1.1.Table.Relay,r1.1.Table.Most,r6.1,r7.1,r8.1,r8.2,φ1,u4.val,h,(View.le_refl _),hs2,S.nf [true,true,true,true,true,true] rfl (subR rfl)⟩)
      clear S h;rintro a w17 ⟨x25,x26,x27,x28,x29,x30,x31,φ7,v14,h,hl7,hs8,S⟩;rw[hj4] at h;clear hj4 j4;exact Tn (⟨x25,x26,x27,x28,x29,x30,r1.1.Races,x31,φ7,v14,z1.val,h,hl7,hs8,S.nf [true,true,true,true,true,true] rfl (subR rfl)⟩)
    clear S h;rintro a w9 ⟨x17,x18,x19,x20,x21,x22,x23,x24,φ4,v8,v9,h,hl4,hs5,S⟩;rw[hj3] at h;clear hj3 j3;exact AQ (Tn (⟨x17,x18,x19,x20,x21,x22,x23,x24,φ4,v8,v9,h,hl4,hs5,S.nf [true,true,true,true,true,true] rfl (subR rfl)⟩))
   clear S h;rintro a w8 ⟨x9,x10,x11,x12,x13,x14,x15,x16,φ3,v6,v7,h,hl3,hs4,S⟩;rw[hj2] at h;clear hj2 j2;exact Tn (⟨x9,x10,x11,x12,x13,x14,x15,x16,φ3,v6,v7,h,hl3,hs4,S.nf [true,true,true,true,true,true] rfl (subR rfl)⟩)
  ·exact Mf (Tn (⟨r1.1.Table.Points,r1.1.Table.Relay,r1.1.Table.Most,r1.1.Final.Size,r1.1.Final.Many,r1.1.Final.Reserves,r1.1.Races,r2.2,φ1,u4.val,z1.val,h,(View.le_refl _),hs2,S.nf [true,true,true,true,true,true] rfl (subR rfl)⟩))
 clear S h;rintro a w6 ⟨x1,x2,x3,x4,x5,x6,x7,x8,φ2,v3,v4,h,hl2,hs3,S⟩;rw[hj1] at h;clear hj1 j1;refine Tn (Fr (lw S (Wv isAgg32 sizeOf32 (off:=0) (o:=0) (part:=[v4,v3,iV x2,iV x3,iV x4,iV x5,iV x6]) rfl rfl (S.tm rfl) (S.cellsAt (i:=0) rfl)) λa S=>Qq S (S.tm rfl) (S.tm rfl) (i:=4) (off:=0) rfl sizeOf32 (vs:=[v4,v3,iV x2,iV x3,iV x4,iV x5,iV x6]) rfl rfl rfl (Yc (Jc.one (Li (S.own_at (i:=1) rfl))) (Yc (Jc.one (Ku hs3)) (Yc rfl (Yc rfl (Yc rfl (Yc rfl (Yc rfl rfl))))))) λw24 hk20 S=>Ld ?_));replace S:=(S.nm [false,true,false,false]).k1 2 rfl;refine Tn (Tl ?_);obtain⟨φ9,hl9,hs10,S⟩:=S.freezeT (xs:=x7) (enc:=Fp.enc) (i:=0) rfl (λc hc hh=>IW S (i:=2) rfl rfl (j:=0) rfl rfl (by simp at hc;subst hc;exact hh));replace S:=S.nk [.blk b1 [v4,v3,iV x2,iV x3,iV x4,iV x5,iV x6] 32,.blk Aa [Ab,iV x8] 25] [(2,bW b1)] [] rfl ⟨rfl,trivial⟩;obtain rfl:=BT h;exact Afb S (rs:=[.cell 2 32]) (vs:=[.agg (R32.enc (R32.mk ⟨v4,Jc.one (Ku (Iw Fp.enc_ok hs10))⟩ (R28.mk ⟨v3,Jc.one (Ku hs3)⟩ x2 x3) (Mp.mk x4 x5 x6))).toArray]) results4 ⟨(MQ (off:=0) S rfl isAgg32 sizeOf32 rfl (S.cellsAt (i:=0) rfl)),trivial⟩ rfl ⟨(S.hd 1 rfl),⟨(R32.mk ⟨v4,Jc.one (Ku (Iw Fp.enc_ok hs10))⟩ (R28.mk ⟨v3,Jc.one (Ku hs3)⟩ x2 x3) (Mp.mk x4 x5 x6)),rfl,EH S.le_newer _ _ ⟨⟨v4,Jc.one (Ku (Iw Fp.enc_ok hs10))⟩,(R28.mk ⟨v3,Jc.one (Ku hs3)⟩ x2 x3),rfl,(Iw Fp.enc_ok hs10),⟨⟨v3,Jc.one (Ku hs3)⟩,rfl,(hs3.mono hl9)⟩⟩⟩⟩
instance:FnT prog 4 vs (type_of% KA):=⟨call4,KA⟩
theorem KB(w:World)(Aa:Nat)(Ab:Value)(Aj:List Int)(Al:Slc (view w [Aa]) 1 Ab (Aj.map eInt))(Ag:Int)(Ak:(LEnt.blk Aa [Ab,iV Ag] 25).holds w)(r:Gf×Int)(h:AU Aj Ag=some r):
 Calls prog 5 [bW Aa].toArray w (Ret w [Aa] λ_ v w'=>(LEnt.blk Aa [Ab,iV r.2] 25).holds w'/\v= .agg (Gf.enc r.1).toArray):=by
 unfold AU at h;refine Ka [Aa] [.blk Aa [Ab,iV Ag] 25] func5 rfl ntmps5 rfl (λe he=>by simp only[bA] at he;subst he;exact Ak) (by simp[fps,LEnt.fp]) (by simp[fps,LEnt.fp]) λa S=>?_
 revert h S
 refine J [_,_,_,_,_] 0 [] [2,3] [true,false,false,false,false,true,true] (λx1 x2 x3 x4 x5 d p L K=>d p (rB 2 (λ_=>.blk Aa [Ab,iV x5] 25) (rB 0 (λb6=>.blk b6 [iV x1,iV x2,iV x3,iV x4] 35) L)) K) ?_ ?_
 ·exact Au
 exact Au
instance:FnT prog 5 vs (type_of% KB):=⟨call5,KB⟩
theorem II(w:World)(Aa:Nat)(Ab:Value)(Aj:List Int)(Al:Slc (view w [Aa]) 1 Ab (Aj.map eInt))(Ag:Int)(Ak:(LEnt.blk Aa [Ab,iV Ag] 25).holds w)(r:(List An)×Int)(h:CP Aj Ag=some r):
 Calls prog 22 [bW Aa].toArray w (Ret w [Aa] λτ v w'=>(LEnt.blk Aa [Ab,iV r.2] 25).holds w'/\Kr τ 87 11 v r.1.length (r.1.flatMap An.enc)):=by
 unfold CP at h;refine Ka [Aa] [.blk Aa [Ab,iV Ag] 25] func22 rfl ntmps22 rfl (λe he=>by simp only[bA] at he;subst he;exact Ak) (by simp[fps,LEnt.fp]) (by simp[fps,LEnt.fp]) λa S=>?_
 revert h S
 refine Xk 0 Td.eq_1 Td.eq_2 [(87,11)] [7] [] (fun(x1:List An) x2 d p L K a w=>∃v2,d p (rO 0 (λ_=>.own v2 87 11 x1.length (x1.flatMap An.enc)) L) ((3,v2)::(8,iV x2)::K) a w) (fun(x1:List An) d p L K a w=>∃v2,d p (rO 0 (λ_=>.own v2 87 11 x1.length (x1.flatMap An.enc)) L) ((3,v2)::K) a w) ?_ ?_
 ·exact Au
 exact Au
instance:FnT prog 22 vs (type_of% II):=⟨call22,II⟩
theorem HL(w:World)(Aa:Nat)(Ab:Value)(Aj:List Int)(Al:Slc (view w [Aa]) 1 Ab (Aj.map eInt))(Ag:Int)(Ak:(LEnt.blk Aa [Ab,iV Ag] 25).holds w)(r:(List An)×Int)(h:BL Aj Ag=some r):
 Calls prog 23 [bW Aa].toArray w (Ret w [Aa] λτ v w'=>(LEnt.blk Aa [Ab,iV r.2] 25).holds w'/\Kr τ 87 11 v r.1.length (r.1.flatMap An.enc)):=by
 unfold BL at h;refine Ka [Aa] [.blk Aa [Ab,iV Ag] 25] func23 rfl ntmps23 rfl (λe he=>by simp only[bA] at he;subst he;exact Ak) (by simp[fps,LEnt.fp]) (by simp[fps,LEnt.fp]) λa S=>?_
 revert h S
 refine Xk 0 Sb.eq_1 Sb.eq_2 [(87,11)] [8] [] (fun(x1:List An) x2 d p L K a w=>∃v2,d p (rO 0 (λ_=>.own v2 87 11 x1.length (x1.flatMap An.enc)) L) ((3,v2)::(9,iV x2)::K) a w) (fun(x1:List An) d p L K a w=>∃v2,d p (rO 0 (λ_=>.own v2 87 11 x1.length (x1.flatMap An.enc)) L) ((3,v2)::K) a w) ?_ ?_
 ·exact Au
 exact Au
instance:FnT prog 23 vs (type_of% HL):=⟨call23,HL⟩
theorem NE(w:World)(Bi:Int)(r:Int)(h:Rf Bi=r):
 Calls prog 86 [iV Bi].toArray w (Ret w [] λ_ v _=>v=iV r):=by
 unfold Rf at h;refine Fe2 h func86 rfl ntmps86 rfl ?_;exact Au
instance:FnT prog 86 vs (type_of% NE):=⟨call86,NE⟩
theorem KC(w:World)(s t:ByteArray)(r:Int)(h:Ic s t=r):Calls prog 87 [.string s,.string t].toArray w (Ret w [] λ_ v _=>v= .int .i64 r):=by
 subst h;exact HF (Any.strings_Compare Tryz.lays106 s t w)
instance:FnT prog 87 vs (type_of% KC):=⟨call87,KC⟩
theorem GB(w:World)(Az:An)(Ba:An)(r:Int)(h:Rr Az Ba=r):
 Calls prog 43 [.agg (An.enc Az).toArray,.agg (An.enc Ba).toArray].toArray w (Ret w [] λ_ v _=>v=iV r):=by
 unfold Rr at h;refine Fe2 h func43 rfl ntmps43 rfl ?_;exact Au
instance:FnT prog 43 vs (type_of% GB):=⟨call43,GB⟩
theorem Nt(w:World)(Ac:Value)(Ah:List An)(Bd:(LEnt.own Ac 87 11 Ah.length (Ah.flatMap An.enc)).holds w)(Az:Int)(Ba:Int)(r:(List An))(h:Ha Ah Az Ba=some r):
 Calls prog 151 [Ac,iV Az,iV Ba,.func (.func 43) #[] #[]].toArray w (Ret w (Ac.ownBlock.toList) λ_ v w'=>(LEnt.own Ac 87 11 r.length (r.flatMap An.enc)).holds w'/\v= .tuple #[]):=by
 have zr0:ED 6 [15,17] [] [] []:=⟨⟩;unfold Ha at h;refine Ka (Ac.ownBlock.toList) [.own Ac 87 11 Ah.length (Ah.flatMap An.enc)] func151 rfl ntmps151 rfl (λe he=>by simp only[bA] at he;subst he;exact Bd) (Jj _) (Le _) λa S=>?_
 revert h S
 refine Xk 0 Hp.eq_1 Hp.eq_2 [] [0,1,2,3] [] (fun(x1:List An) x2 d p L K=>d p (rO 0 (λ_=>.own Ac 87 11 x1.length (x1.flatMap An.enc)) L) ((8,iV x2)::K)) (fun(x1:List An) d p L K=>d p (rO 0 (λ_=>.own Ac 87 11 x1.length (x1.flatMap An.enc)) L) K) ?_ ?_
 ·refine Xk 1 Gk.eq_1 Gk.eq_2 [] [0,1,2,3,8] [] (fun(x3:List An) x4 d p L K=>d p (rO 0 (λ_=>.own Ac 87 11 x3.length (x3.flatMap An.enc)) L) ((9,iV x4)::K)) (fun(x3:List An) d p L K=>d p (rO 0 (λ_=>.own Ac 87 11 x3.length (x3.flatMap An.enc)) L) K) ?_ ?_
  ·refine J [_] 0 [] [0,1,2,3,8,9] [] (λx5 d p L K=>d p L ((34,bV x5)::K)) ?_ ?_
   ·exact Au
   exact Au
  exact Au
 exact Au
instance:FnT prog 151 vs (type_of% Nt):=⟨call151,Nt⟩
theorem Qy(w:World)(Ac:Value)(Ah:List An)(Bd:(LEnt.own Ac 87 11 Ah.length (Ah.flatMap An.enc)).holds w)(Bi:Int)(r:(List An))(h:Kh Ah Bi=some r):
 Calls prog 111 [Ac,iV Bi,.func (.func 43) #[] #[]].toArray w (Ret w (Ac.ownBlock.toList) λ_ v w'=>(LEnt.own Ac 87 11 r.length (r.flatMap An.enc)).holds w'/\v= .tuple #[]):=by
 unfold Kh at h;refine Ka (Ac.ownBlock.toList) [.own Ac 87 11 Ah.length (Ah.flatMap An.enc)] func111 rfl ntmps111 rfl (λe he=>by simp only[bA] at he;subst he;exact Bd) (Jj _) (Le _) λa S=>?_
 revert h S
 refine Aam 0 Ip.eq_1 Ip.eq_2 [] [0,1,2,6] [] (fun(x1:List An) x2 x3 d p L K=>d p (rO 0 (λ_=>.own Ac 87 11 x1.length (x1.flatMap An.enc)) L) ((7,iV x2)::(8,iV x3)::K)) (fun(x1:List An) x2 d p L K=>d p (rO 0 (λ_=>.own Ac 87 11 x1.length (x1.flatMap An.enc)) L) ((7,iV x2)::K)) ?_ ?_
 ·exact Au
 refine Aal 0 Iq.eq_1 Iq.eq_2 [] [1] [] (λx4 d p L K=>d p L ((6,iV x4)::K)) (λd p L K=>d p L K) ?_ ?_
 ·refine Xk 1 Mg.eq_1 Mg.eq_2 [] [1,6] [] (λx5 x6 d p L K=>d p L ((7,iV x5)::(8,iV x6)::K)) (λx5 d p L K=>d p L ((7,iV x5)::K)) ?_ ?_
  ·exact Au
  exact Au
 exact Au
instance:FnT prog 111 vs (type_of% Qy):=⟨call111,Qy⟩
theorem Qg(w:World)(Ao:Value)(Ap:List An)(Bo:(LEnt.own Ao 87 11 Ap.length (Ap.flatMap An.enc)).holds w)(r:(List An))(h:Hv Ap=some r):
 Calls prog 60 [Ao,.func (.func 43) #[] #[]].toArray w (Ret w (Ao.ownBlock.toList) λ_ v w'=>(LEnt.own Ao 87 11 r.length (r.flatMap An.enc)).holds w'/\v= .tuple #[]):=by
 unfold Hv at h;refine Ka (Ao.ownBlock.toList) [.own Ao 87 11 Ap.length (Ap.flatMap An.enc)] func60 rfl ntmps60 rfl (λe he=>by simp only[bA] at he;subst he;exact Bo) (Jj _) (Le _) λa S=>?_
 revert h S
 exact Au
instance:FnT prog 60 vs (type_of% Qg):=⟨call60,Qg⟩
theorem PE(w:World)(Aa:Nat)(Ab:Value)(Aj:List Int)(Al:Slc (view w [Aa]) 1 Ab (Aj.map eInt))(Ag:Int)(Ak:(LEnt.blk Aa [Ab,iV Ag] 25).holds w)(Cd:Int)(r:(List An)×Int)(h:EV Aj Ag Cd=some r):
 Calls prog 24 [bW Aa,iV Cd].toArray w (Ret w [Aa] λτ v w'=>(LEnt.blk Aa [Ab,iV r.2] 25).holds w'/\Kr τ 87 11 v r.1.length (r.1.flatMap An.enc)):=by
 have zr0:ED 18 [] [0,8] [] []:=⟨⟩;unfold EV at h;refine Ka [Aa] [.blk Aa [Ab,iV Ag] 25] func24 rfl ntmps24 rfl (λe he=>by simp only[bA] at he;subst he;exact Ak) (by simp[fps,LEnt.fp]) (by simp[fps,LEnt.fp]) λa S=>?_
 revert h S
 refine Lc5_3 0 Xw.eq_1 Xw.eq_2 [(87,11)] [0,7,10] [] (fun(x1:List (ByteArray×Int)) (x2:List An) x3 x4 x5 d p L K a w=>∃v1,d p (rB 2 (λ_=>.blk Aa [Ab,iV x3] 25) (rM 1 (λb1=>.map b1 (Ht Value.string (Value.int .i64) x1) x1.length) (rO 0 (λ_=>.own v1 87 11 x2.length (x2.flatMap An.enc)) L))) ((5,v1)::(6,iV x4)::(11,iV x5)::K) a w) (fun(x1:List (ByteArray×Int)) (x2:List An) x3 d p L K a w=>∃v1,d p (rB 2 (λ_=>.blk Aa [Ab,iV x3] 25) (rM 1 (λb1=>.map b1 (Ht Value.string (Value.int .i64) x1) x1.length) (rO 0 (λ_=>.own v1 87 11 x2.length (x2.flatMap An.enc)) L))) ((5,v1)::K) a w) ?_ ?_
 ·refine J [_,_,_] 1 [] [0,5,6,7,8,10,11] [true,false,false,false,true,true,true] (fun(x6:ByteArray) (x7:ByteArray) x8 d p L K=>d p (rB 3 (λ_=>.blk Aa [Ab,iV x8] 25) (rC 0 [(4,sV x6),(6,sV x7)] L)) K) ?_ ?_
  ·exact Au
  refine J [_,_,_,_,_,_] 0 [] [0,5,6,7,8,10,11] [] (fun(x9:ByteArray) x10 x11 (x12:ByteArray) x13 x14 d p L K=>d p (rB 3 (λ_=>.blk Aa [Ab,iV x14] 25) (rC 0 [(5,sV x9),(7,iV x10),(8,iV x11),(9,sV x12),(10,iV x13)] L)) K) ?_ ?_
  ·refine J [_,_,_,_,_,_] 1 [] [0,5,6,7,8,10,11] [] (fun(x15:ByteArray) x16 x17 (x18:ByteArray) x19 x20 d p L K=>d p (rB 3 (λ_=>.blk Aa [Ab,iV x20] 25) (rC 0 [(5,sV x15),(7,iV x16),(8,iV x17),(9,sV x18),(10,iV x19)] L)) K) ?_ ?_
   ·refine J [_,_,_,_,_] 0 [] [0,5,6,7,8,10,11] [] (λx21 x22 (x23:ByteArray) x24 x25 d p L K=>d p (rB 3 (λ_=>.blk Aa [Ab,iV x25] 25) (rC 0 [(7,iV x21),(8,iV x22),(9,sV x23),(10,iV x24)] L)) K) ?_ ?_
    ·refine J [_,_,_] 0 [] [0,5,6,7,8,10,11] [] (fun(x26:ByteArray) x27 x28 d p L K=>d p (rB 3 (λ_=>.blk Aa [Ab,iV x28] 25) (rC 0 [(9,sV x26),(10,iV x27)] L)) K) ?_ ?_
     ·exact Au
     exact Au
    exact Au
   exact Au
  refine J [_,_,_,_,_,_,_,_,_,_] 0 [] [0,5,6,7,8,10,11] [] (fun(x29:ByteArray) x30 x31 (x32:ByteArray) (x33:ByteArray) (x34:ByteArray) x35 x36 x37 x38 d p L K=>d p (rB 3 (λ_=>.blk Aa [Ab,iV x38] 25) (rC 0 [(0,sV x29),(1,iV x30),(3,iV x31),(4,sV x32),(5,sV x33),(6,sV x34),(7,iV x35),(8,iV x36),(10,iV x37)] L)) K) ?_ ?_
  ·refine J [_,_,_,_,_,_,_,_,_,_] 0 [] [0,5,6,7,8,10,11] [] (fun(x39:ByteArray) x40 x41 (x42:ByteArray) (x43:ByteArray) (x44:ByteArray) x45 x46 x47 x48 d p L K=>d p (rB 3 (λ_=>.blk Aa [Ab,iV x48] 25) (rC 0 [(0,sV x39),(1,iV x40),(3,iV x41),(4,sV x42),(5,sV x43),(6,sV x44),(7,iV x45),(8,iV x46),(10,iV x47)] L)) K) ?_ ?_
   ·refine J [_,_,_,_,_,_,_,_,_,_] 1 [] [0,5,6,7,8,10,11] [] (fun(x49:ByteArray) x50 x51 (x52:ByteArray) (x53:ByteArray) (x54:ByteArray) x55 x56 x57 x58 d p L K=>d p (rB 3 (λ_=>.blk Aa [Ab,iV x58] 25) (rC 0 [(0,sV x49),(1,iV x50),(3,iV x51),(4,sV x52),(5,sV x53),(6,sV x54),(7,iV x55),(8,iV x56),(10,iV x57)] L)) K) ?_ ?_
    ·refine J [_,_,_,_,_,_,_,_] 0 [] [0,5,6,7,8,10,11] [] (λx59 (x60:ByteArray) (x61:ByteArray) (x62:ByteArray) x63 x64 x65 x66 d p L K=>d p (rB 3 (λ_=>.blk Aa [Ab,iV x66] 25) (rC 0 [(3,iV x59),(4,sV x60),(5,sV x61),(6,sV x62),(7,iV x63),(8,iV x64),(10,iV x65)] L)) K) ?_ ?_
     ·refine J [_,_,_,_,_,_,_] 0 [] [0,5,6,7,8,10,11] [] (fun(x67:ByteArray) (x68:ByteArray) (x69:ByteArray) x70 x71 x72 x73 d p L K=>d p (rB 3 (λ_=>.blk Aa [Ab,iV x73] 25) (rC 0 [(4,sV x67),(5,sV x68),(6,sV x69),(7,iV x70),(8,iV x71),(10,iV x72)] L)) K) ?_ ?_
      ·exact Au
      exact Au
     exact Au
    exact Au
   exact Au
  exact Au
 exact Au
instance:FnT prog 24 vs (type_of% PE):=⟨call24,PE⟩
theorem GC(w:World)(Aa:Nat)(Ab:Value)(Aj:List Int)(Al:Slc (view w [Aa]) 1 Ab (Aj.map eInt))(Ag:Int)(Ak:(LEnt.blk Aa [Ab,iV Ag] 25).holds w)(Cd:Int)(r:(List An)×Int)(h:Wz Aj Ag Cd=some r):
 Calls prog 6 [bW Aa,iV Cd].toArray w (Ret w [Aa] λτ v w'=>(LEnt.blk Aa [Ab,iV r.2] 25).holds w'/\Kr τ 87 11 v r.1.length (r.1.flatMap An.enc)):=by
 unfold Wz at h;refine Ka [Aa] [.blk Aa [Ab,iV Ag] 25] func6 rfl ntmps6 rfl (λe he=>by simp only[bA] at he;subst he;exact Ak) (by simp[fps,LEnt.fp]) (by simp[fps,LEnt.fp]) λa S=>?_
 revert h S
 exact Au
instance:FnT prog 6 vs (type_of% GC):=⟨call6,GC⟩
theorem NF(w:World)(Aa:Nat)(Ab:Value)(Aj:List Int)(Al:Slc (view w [Aa]) 1 Ab (Aj.map eInt))(Ag:Int)(Ak:(LEnt.blk Aa [Ab,iV Ag] 25).holds w)(r:ByteArray×Int)(h:DO Aj Ag=some r):
 Calls prog 7 [bW Aa].toArray w (Ret w [Aa] λ_ v w'=>(LEnt.blk Aa [Ab,iV r.2] 25).holds w'/\v=sV r.1):=by
 unfold DO at h;refine Ka [Aa] [.blk Aa [Ab,iV Ag] 25] func7 rfl ntmps7 rfl (λe he=>by simp only[bA] at he;subst he;exact Ak) (by simp[fps,LEnt.fp]) (by simp[fps,LEnt.fp]) λa S=>?_
 revert h S
 refine Aam 0 Ty.eq_1 Ty.eq_2 [] [0,5] [] (λx1 (x2:ByteArray) x3 d p L K=>d p (rB 0 (λ_=>.blk Aa [Ab,iV x1] 25) L) ((3,sV x2)::(6,iV x3)::K)) (λx1 (x2:ByteArray) d p L K=>d p (rB 0 (λ_=>.blk Aa [Ab,iV x1] 25) L) ((3,sV x2)::K)) ?_ ?_
 ·exact Au
 refine J [_,_] 0 [] [] [] (λx4 (x5:ByteArray) d p L K=>d p (rB 0 (λ_=>.blk Aa [Ab,iV x4] 25) L) ((3,sV x5)::K)) ?_ ?_
 ·exact Au
 exact Au
instance:FnT prog 7 vs (type_of% NF):=⟨call7,NF⟩
theorem PF(w:World)(s c:ByteArray)(r:ByteArray)(h:Wg s c=some r):Calls prog 118 [.string s,.string c].toArray w (Ret w [] λ_ v _=>v= .string r):=by
 unfold Wg at h;obtain⟨h1,h⟩:=On h;obtain⟨h2,h⟩:=On h;obtain⟨h3,h⟩:=On h;obtain rfl:=BT h;exact OK (Any.strings_Trim_laid Tryz.lays160 aF s c w (by simpa using h1) (by simpa using h2) (λj b hb=>by simpa using List.all_eq_true.1 h3 b (List.mem_of_getElem? hb)))
instance:FnT prog 118 vs (type_of% PF):=⟨call118,PF⟩
theorem QY(w:World)(Am:ByteArray)(r:Bool)(h:Gh Am=some r):
 Calls prog 112 [sV Am].toArray w (Ret w [] λ_ v _=>v=bV r):=by
 unfold Gh at h;refine Fe2 h func112 rfl ntmps112 rfl ?_;exact Au
instance:FnT prog 112 vs (type_of% QY):=⟨call112,QY⟩
theorem PG(w:World)(Bi:Int)(Cc:Int)(Bz:Int)(r:Bool)(h:Fv Bi Cc Bz=r):
 Calls prog 66 [iV Bi,iV Cc,iV Bz].toArray w (Ret w [] λ_ v _=>v=bV r):=by
 unfold Fv at h;refine Fe2 h func66 rfl ntmps66 rfl ?_;exact Au
instance:FnT prog 66 vs (type_of% PG):=⟨call66,PG⟩
theorem IJ(w:World)(Db:Fp)(r:Int)(h:Md Db=some r):
 Calls prog 61 [.agg (Fp.enc Db).toArray].toArray w (Ret w [] λ_ v _=>v=iV r):=by
 unfold Md at h;refine Fe2 h func61 rfl ntmps61 rfl ?_;refine J [_] 1 [] [] [] (λx1 d p L K=>d p L ((64,bV x1)::K)) ?_ ?_
 ·exact Au
 exact Au
instance:FnT prog 61 vs (type_of% IJ):=⟨call61,IJ⟩
theorem HM(w:World)(Ap:Fp)(Be:Nat)(Bh:Fp)(Ca:(view w []) Be=some (.cells [sV Bh.Key,iV Bh.Metres,iV Bh.Stroke,iV Bh.Course,iV Bh.Legs,iV Bh.Sex,iV Bh.Young,iV Bh.Old].toArray 79 (0,0)))(r:Bool)(h:BM Ap Bh=r):
 Calls prog 63 [.agg (Fp.enc Ap).toArray,bW Be].toArray w (Ret w [] λ_ v _=>v=bV r):=by
 unfold BM at h;refine Fe2 h func63 rfl ntmps63 rfl ?_;exact Au
instance:FnT prog 63 vs (type_of% HM):=⟨call63,HM⟩
theorem Tb(w:World)(Af:Value)(Am:List Fp)(Bn:Slc (view w []) 8 Af (Am.map Fp.enc))(Bf:Nat)(Ar:Fp)(Bv:(view w []) Bf=some (.cells [sV Ar.Key,iV Ar.Metres,iV Ar.Stroke,iV Ar.Course,iV Ar.Legs,iV Ar.Sex,iV Ar.Young,iV Ar.Old].toArray 79 (0,0)))(r:Int)(h:Mc Am Ar=r):
 Calls prog 113 [Af,.func (.func 63) #[] #[bW Bf]].toArray w (Ret w [] λ_ v _=>v=iV r):=by
 unfold Mc at h;refine Fe2 h func113 rfl ntmps113 rfl ?_;refine Yv 0 Ii.eq_1 Ii.eq_2 [] [0,1,7] [] (λi1 d p L K=>d p L ((8,iV i1)::K)) (λd p L K=>d p L K) ?_ ?_
 ·exact Au
 exact Au
instance {v0:Go.Value}{c:Array Go.Value}:FnT prog 113 [v0,.func (.func 63) #[] c] (type_of% Tb):=⟨call113,Tb⟩
theorem Rk(w:World)(Af:Value)(Am:List Fp)(Bn:Slc (view w []) 8 Af (Am.map Fp.enc))(Bf:Nat)(Ar:Fp)(Bv:(view w []) Bf=some (.cells [sV Ar.Key,iV Ar.Metres,iV Ar.Stroke,iV Ar.Course,iV Ar.Legs,iV Ar.Sex,iV Ar.Young,iV Ar.Old].toArray 79 (0,0)))(r:Bool)(h:Jk Am Ar=r):
 Calls prog 62 [Af,.func (.func 63) #[] #[bW Bf]].toArray w (Ret w [] λ_ v _=>v=bV r):=by
 unfold Jk at h;refine Fe2 h func62 rfl ntmps62 rfl ?_;exact Au
instance:FnT prog 62 vs (type_of% Rk):=⟨call62,Rk⟩
theorem HN(w:World)(Cj:Il)(Bt:R28)(Cb:Xs (view w []) Cj Bt)(r:Int)(h:Sq Cj=some r):
 Calls prog 64 [.agg (R28.enc Bt).toArray].toArray w (Ret w [] λ_ v _=>v=iV r):=by
 obtain⟨u1,rfl,hs1⟩:=Cb;unfold Sq at h;refine Fe2 h func64 rfl ntmps64 rfl ?_;refine Yv 0 Sc.eq_1 Sc.eq_2 [] [1,10,11] [] (λi1 d p L K=>d p L ((12,iV i1)::K)) (λd p L K=>d p L K) ?_ ?_
 ·exact Au
 exact Au
instance:FnT prog 64 vs (type_of% HN):=⟨call64,HN⟩
theorem KD(w:World)(Dc:Mp)(r:Int)(h:Xx Dc=r):
 Calls prog 65 [.agg (Mp.enc Dc).toArray].toArray w (Ret w [] λ_ v _=>v=iV r):=by
 unfold Xx at h;refine Fe2 h func65 rfl ntmps65 rfl ?_;exact Au
instance:FnT prog 65 vs (type_of% KD):=⟨call65,KD⟩
theorem LM(w:World)(Ae:Ge)(Av:R32)(Bc:Lb (view w []) Ae Av)(r:Int)(h:Sr Ae=some r):
 Calls prog 27 [.agg (R32.enc Av).toArray].toArray w (Ret w [] λ_ v _=>v=iV r):=by
 obtain⟨u1,u2,rfl,hs1,⟨u3,rfl,hs2⟩⟩:=Bc;unfold Sr at h;refine Fe2 h func27 rfl ntmps27 rfl ?_;refine Yv 0 Vg.eq_1 Vg.eq_2 [] [1,12,13] [] (λi1 d p L K=>d p L ((14,iV i1)::K)) (λd p L K=>d p L K) ?_ ?_
 ·exact Au
 exact Au
instance:FnT prog 27 vs (type_of% LM):=⟨call27,LM⟩
theorem LN(w:World)(Ae:Gf)(r:Int)(h:Mw Ae=r):
 Calls prog 28 [.agg (Gf.enc Ae).toArray].toArray w (Ret w [] λ_ v _=>v=iV r):=by
 unfold Mw at h;refine Fe2 h func28 rfl ntmps28 rfl ?_;exact Au
instance:FnT prog 28 vs (type_of% LN):=⟨call28,LN⟩
theorem LO(w:World)(Bi:Int)(r:Bool)(h:Hf Bi=r):
 Calls prog 74 [iV Bi].toArray w (Ret w [] λ_ v _=>v=bV r):=by
 unfold Hf at h;refine Fe2 h func74 rfl ntmps74 rfl ?_;exact Au
instance:FnT prog 74 vs (type_of% LO):=⟨call74,LO⟩
theorem LP(w:World)(Ap:An)(r:Int)(h:Xa Ap=some r):
 Calls prog 67 [.agg (An.enc Ap).toArray].toArray w (Ret w [] λ_ v _=>v=iV r):=by
 have zr0:ED 21 [] [6] [] []:=⟨⟩;have zr1:ED 23 [] [6] [] []:=⟨⟩;have zr2:ED 25 [] [6] [] []:=⟨⟩;have zr3:ED 19 [] [6] [] []:=⟨⟩;unfold Xa at h;refine Fe2 h func67 rfl ntmps67 rfl ?_;refine J [_] 3 [] [1,3,4,5] [] (λx1 d p L K=>d p L ((37,bV x1)::K)) ?_ ?_
 ·exact Au
 refine J [_] 0 [] [1,3,4,5] [] (λx2 d p L K=>d p L ((64,bV x2)::K)) ?_ ?_
 ·exact Au
 refine J [_,_,_,_,_,_,_] 0 [] [1,6] [] (fun(x3:ByteArray) (x4:ByteArray) (x5:ByteArray) x6 x7 (x8:ByteArray) x9 d p L K=>d p (rB 0 (λb2=>.blk b2 (An.enc (An.mk Ap.Site Ap.No Ap.At Ap.Kind x3 x4 x5 x6 x7 x8 x9)) 87) L) K) ?_ ?_
 ·refine J [_,_,_,_,_,_,_] 1 [] [1,6] [] (fun(x10:ByteArray) (x11:ByteArray) (x12:ByteArray) x13 x14 (x15:ByteArray) x16 d p L K=>d p (rB 0 (λb2=>.blk b2 (An.enc (An.mk Ap.Site Ap.No Ap.At Ap.Kind x10 x11 x12 x13 x14 x15 x16)) 87) L) K) ?_ ?_
  ·refine J [_,_,_,_,_,_] 0 [] [1,6] [] (fun(x17:ByteArray) (x18:ByteArray) x19 x20 (x21:ByteArray) x22 d p L K=>d p (rB 0 (λb2=>.blk b2 (An.enc (An.mk Ap.Site Ap.No Ap.At Ap.Kind x17 Ff x18 x19 x20 x21 x22)) 87) L) K) ?_ ?_
   ·refine J [_,_,_,_] 0 [] [1,6] [] (fun(x23:ByteArray) (x24:ByteArray) (x25:ByteArray) x26 d p L K=>d p (rB 0 (λb2=>.blk b2 (An.enc (An.mk Ap.Site Ap.No Ap.At Ap.Kind x23 Ff x24 0 0 x25 x26)) 87) L) K) ?_ ?_
    ·exact Au
    exact Au
   exact Au
  exact Au
 exact Au
instance:FnT prog 67 vs (type_of% LP):=⟨call67,LP⟩
theorem NG(w:World)(Ap:Int)(r:Bool)(h:Wn Ap=r):
 Calls prog 153 [iV Ap].toArray w (Ret w [] λ_ v _=>v=bV r):=by
 unfold Wn at h;refine Fe2 h func153 rfl ntmps153 rfl ?_;exact Au
instance:FnT prog 153 vs (type_of% NG):=⟨call153,NG⟩
theorem KE(w:World)(Ap:Int)(Ew:Int)(r:Int)(h:Jt Ap Ew=r):
 Calls prog 115 [iV Ap,iV Ew].toArray w (Ret w [] λ_ v _=>v=iV r):=by
 unfold Jt at h;refine Fe2 h func115 rfl ntmps115 rfl ?_;exact Au
instance:FnT prog 115 vs (type_of% KE):=⟨call115,KE⟩
theorem SY(w:World)(Do:Value)(Dy:List Int)(Ex:Slc (view w []) 1 Do (Dy.map eInt))(r:Int)(h:Ss Dy=r):
 Calls prog 114 [Do].toArray w (Ret w [] λ_ v _=>v=iV r):=by
 unfold Ss at h;refine Fe2 h func114 rfl ntmps114 rfl ?_;refine Yv 0 Nw.eq_1 Nw.eq_2 [] [3,6,7] [] (λi1 d p L K=>d p L ((8,iV i1)::K)) (λd p L K=>d p L K) ?_ ?_
 ·exact Au
 exact Au
instance:FnT prog 114 vs (type_of% SY):=⟨call114,SY⟩
theorem PH(w:World)(Az:An)(Ba:An)(r:Int)(h:Ri Az Ba=r):
 Calls prog 68 [.agg (An.enc Az).toArray,.agg (An.enc Ba).toArray].toArray w (Ret w [] λ_ v _=>v=iV r):=by
 unfold Ri at h;refine Fe2 h func68 rfl ntmps68 rfl ?_;exact Au
instance:FnT prog 68 vs (type_of% PH):=⟨call68,PH⟩
theorem PI(w:World)(Ap:An)(r:Fu)(h:Fz Ap=r):
 Calls prog 69 [.agg (An.enc Ap).toArray].toArray w (Ret w [] λ_ v _=>v= .agg (Fu.enc r).toArray):=by
 unfold Fz at h;refine Fe2 h func69 rfl ntmps69 rfl ?_;exact Au
instance:FnT prog 69 vs (type_of% PI):=⟨call69,PI⟩
theorem KF(w:World)(Ad:Value)(Ai:List An)(As:Slc (view w []) 11 Ad (Ai.map An.enc))(r:Int)(h:Rj Ai=some r):
 Calls prog 29 [Ad].toArray w (Ret w [] λ_ v _=>v=iV r):=by
 unfold Rj at h;refine Fe2 h func29 rfl ntmps29 rfl ?_;refine XV 0 Ks.eq_1 Ks.eq_2 [] [0,3,12,13] [] (λi1 (x1:List (Fu×Bool)) x2 d p L K=>d p (rM 0 (λb1=>.map b1 (Ht (λx=>Value.agg (Fu.enc x).toArray) Value.bool x1) x1.length) L) ((14,iV i1)::(4,bV x2)::K)) (fun(x1:List (Fu×Bool)) x2 d p L K=>d p (rM 0 (λb1=>.map b1 (Ht (λx=>Value.agg (Fu.enc x).toArray) Value.bool x1) x1.length) L) ((4,bV x2)::K)) ?_ ?_
 ·refine J [_] 1 [] [0,3,4,6,12,13,14] [] (λx3 d p L K=>d p L ((35,bV x3)::K)) ?_ ?_
  ·exact Au
  exact Au
 exact Au
instance:FnT prog 29 vs (type_of% KF):=⟨call29,KF⟩
theorem DT(w:World)(Am:ByteArray)(By:ByteArray)(r:Bool)(h:Tp Am By=some r):
 Calls prog 70 [sV Am,sV By].toArray w (Ret w [] λ_ v _=>v=bV r):=by
 unfold Tp at h;refine Fe2 h func70 rfl ntmps70 rfl ?_;exact Au
instance:FnT prog 70 vs (type_of% DT):=⟨call70,DT⟩
theorem HO(w:World)(Am:ByteArray)(By:ByteArray)(r:Bool)(h:Qr Am By=some r):
 Calls prog 30 [sV Am,sV By].toArray w (Ret w [] λ_ v _=>v=bV r):=by
 unfold Qr at h;refine Fe2 h func30 rfl ntmps30 rfl ?_;exact Au
instance:FnT prog 30 vs (type_of% HO):=⟨call30,HO⟩
end Go.Proofs.YthlielagemkjcaaGreatDoor
