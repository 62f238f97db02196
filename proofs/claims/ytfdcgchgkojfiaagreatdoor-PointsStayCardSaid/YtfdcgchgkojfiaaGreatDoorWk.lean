/- Each Go function computes its plain twin,by program. -/
import Derived.Test.YtfdcgchgkojfiaaGreatDoorWk2
namespace Go.Proofs.YtfdcgchgkojfiaaGreatDoor
open Go
open Go.Proofs.Tryz
theorem Xx (w : World) (Az : Od) (Cn : R91) (Cr : Tu (view w []) Az Cn) (Am : Hi) (r : Bool) (h : Sr Az Am = r) :
    Calls prog 64 [.agg (R91.enc Cn).toArray,.agg (Hi.enc Am).toArray].toArray w (Ret w [] fun _ v _=>v = bV r):=by
 obtain ⟨u1,rfl,hs1⟩:=Cr
 refine Fe func64 rfl ntmps64 rfl fun a S=>?_
 unfold Sr at h
 replace S:=S.k2 0 1 rfl
 refine Fr (Nj S (S.tm rfl) (cs:=[sV Az.Key,sV Az.Race,u1.val,iV Az.Young,iV Az.Old]) rfl rfl ?_);clear S;intro a w1 b1 hz1 hk1 S
 refine Nj S (S.tm rfl) (cs:=(Hi.enc Am)) rfl rfl ?_;clear S;intro a w2 b2 hz2 hk2 S
 refine Vk S rfl rfl fun a S=>Dz (Vf FA S rfl rfl fun a S=>Vl isAgg9 0 S rfl rfl rfl rfl fun a S=>Vf EX S rfl rfl fun a S=>Vl isAgg9 1 S rfl rfl rfl rfl fun a S=>Vb S Uk rfl rfl rfl fun a S=>Vm S rfl rfl ?_);clear S;intro a S
 refine Hw 12 (fun a w'=>Keep [] w2 w' ∧ Sx w [] nov [.blk b2 (Hi.enc Am) 94,.blk b1 [sV Az.Key,sV Az.Race,u1.val,iV Az.Young,iV Az.Old] 91] [(2,.pointer (some ⟨b1,0,none⟩)),(3,.pointer (some ⟨b2,0,none⟩)),(22,bV ((decide (Am.Race = Az.Race)) && ((decide ((Az.Clubs.length : Int) = 0)) || (Gw Az.Clubs Am.Club))))] 32 a w') ?_ ?_
 ·rcases Bool.eq_false_or_eq_true (decide (Am.Race = Az.Race)) with hb1 | hb1
  ·refine Cz S rfl rfl rfl hb1 (Vf Wi S rfl rfl fun a S=>Cz S rfl rfl rfl hb1 (Vl isAgg57 1 S rfl rfl rfl rfl fun a S=>Cz S rfl rfl rfl hb1 (lv S (Ee Rb (S.tm rfl) (Ej hs1)) rfl fun a S=>Cz S rfl rfl rfl hb1 (Vq S Jz rfl rfl rfl fun a S=>Cz S rfl rfl rfl hb1 (Vm S rfl rfl fun a S=>Hw 6 (fun a w'=>Keep [] w2 w' ∧ Sx w [] nov [.blk b2 (Hi.enc Am) 94,.blk b1 [sV Az.Key,sV Az.Race,u1.val,iV Az.Young,iV Az.Old] 91] [(2,.pointer (some ⟨b1,0,none⟩)),(3,.pointer (some ⟨b2,0,none⟩)),(10,bV (decide (Am.Race = Az.Race))),(21,bV ((decide ((Az.Clubs.length : Int) = 0)) || (Gw Az.Clubs Am.Club)))] 32 a w') ?_ ?_)))))
   ·rcases Bool.eq_false_or_eq_true (decide ((Az.Clubs.length : Int) = 0)) with hb2 | hb2
    ·iterate 5 (refine Gm S rfl rfl rfl (Md hb2) rfl ?_ rfl;clear S;intro a S)
     exact Cz S rfl rfl rfl hb1 (lv S (Kt (Gw Az.Clubs Am.Club) hb2 (S.tm rfl) rfl) rfl fun a S=>Dl (⟨Keep.refl _ _,S.nf [true,true] rfl (subR rfl)⟩))
    ·refine Cz S rfl rfl rfl hb2 (Vf Wi S rfl rfl fun a S=>Cz S rfl rfl rfl hb2 (Vl isAgg57 1 S rfl rfl rfl rfl fun a S=>Cz S rfl rfl rfl hb2 (Vf BU S rfl rfl fun a S=>Cz S rfl rfl rfl hb2 (Vl isAgg9 0 S rfl rfl rfl rfl fun a S=>Cz S rfl rfl rfl hb2 (Dc S (fun _=>Cw (vs:=[u1.val,sV Am.Club]) ⟨(S.tm rfl),(S.tm rfl),trivial⟩ call95) (Rd _ u1.val Az.Clubs (hs1.mono (S.le_arg Eo)) Am.Club _ rfl) rfl ?_)))));clear S;intro v1 a w5 hv1 hk3 hn1 S
     subst hv1
     exact Cz S rfl rfl rfl hb1 (lv S (Ku hb2 (S.tm rfl) (S.tm rfl)) rfl fun a S=>Dl (⟨hk3,S.nf [true,true] rfl (subR rfl)⟩))
   clear S;rintro a w4 ⟨hk4,S⟩
   exact lv S (Hg hb1 (S.tm rfl) (S.tm rfl)) rfl fun a S=>Dl (⟨hk4,S.nf [true,true] rfl (subR rfl)⟩)
  ·iterate 5 (refine Gm S rfl rfl rfl (Jt hb1) rfl ?_ rfl;clear S;intro a S)
   iterate 5 (refine Ya S rfl rfl rfl rfl ?_;clear S;intro a S)
   exact Gm S rfl rfl rfl (Jt hb1) rfl (fun a S=>lv S (Hh ((decide ((Az.Clubs.length : Int) = 0)) || (Gw Az.Clubs Am.Club)) hb1 (S.tm rfl) rfl) rfl fun a S=>Dl (⟨Keep.refl _ _,S.nf [true,true] rfl (subR rfl)⟩)) rfl
 clear S;rintro a w3 ⟨hk5,S⟩
 refine Vm S rfl rfl fun a S=>Hw 8 (fun a w'=>Keep [] w3 w' ∧ Sx w [] nov [.blk b2 (Hi.enc Am) 94,.blk b1 [sV Az.Key,sV Az.Race,u1.val,iV Az.Young,iV Az.Old] 91] [(31,bV (((decide (Am.Race = Az.Race)) && ((decide ((Az.Clubs.length : Int) = 0)) || (Gw Az.Clubs Am.Club))) && (Dd Am.Age Az.Young Az.Old)))] 32 a w') ?_ ?_
 ·rcases Bool.eq_false_or_eq_true ((decide (Am.Race = Az.Race)) && ((decide ((Az.Clubs.length : Int) = 0)) || (Gw Az.Clubs Am.Club))) with hb3 | hb3
  ·refine Cz S rfl rfl rfl hb3 (Vf FB S rfl rfl fun a S=>Cz S rfl rfl rfl hb3 (Vl isAgg3 0 S rfl rfl rfl rfl fun a S=>Cz S rfl rfl rfl hb3 (Vf BS S rfl rfl fun a S=>Cz S rfl rfl rfl hb3 (Vl isAgg3 1 S rfl rfl rfl rfl fun a S=>Cz S rfl rfl rfl hb3 (Vf BT S rfl rfl fun a S=>Cz S rfl rfl rfl hb3 ?_)))))
   refine Vl isAgg3 1 S rfl rfl rfl rfl fun a S=>Cz S rfl rfl rfl hb3 (Dc S (fun _=>Cw (vs:=[iV Am.Age,iV Az.Young,iV Az.Old]) ⟨(S.tm rfl),(S.tm rfl),(S.tm rfl),trivial⟩ call28) (El _ Am.Age Az.Young Az.Old _ rfl) rfl ?_);clear S;intro v2 a w7 hv2 hk6 hn2 S
   subst hv2
   exact lv S (Hg hb3 (S.tm rfl) (S.tm rfl)) rfl fun a S=>Dl (⟨hk6,S.nf [true,true] rfl ⟨rfl,trivial⟩⟩)
  ·iterate 7 (refine Gm S rfl rfl rfl (Jt hb3) rfl ?_ rfl;clear S;intro a S)
   exact lv S (Hh (Dd Am.Age Az.Young Az.Old) hb3 (S.tm rfl) rfl) rfl fun a S=>Dl (⟨Keep.refl _ _,S.nf [true,true] rfl ⟨rfl,trivial⟩⟩)
 clear S;rintro a w6 ⟨hk7,S⟩
 refine Va S rfl rfl fun a S=>Dl (wp_ret ?_)
 subst h
 exact Dx S results64 rfl rfl
theorem Zs (w : World) (Ab : Value) (Ad : List Od) (By : List R91) (Ac : Slc (view w []) 5 Ab (By.map R91.enc)) (Bq : Kd (Tu (view w [])) Ad By) (Am : Hi) (r : (List ByteArray) × Int) (h : Vj Ad Am = some r) :
    Calls prog 36 [Ab,.agg (Hi.enc Am).toArray].toArray w (Ret w [] fun τ v _=>∃ u1 : Value,v = .tuple #[u1,iV r.2] ∧ Pu τ 9 1 u1 r.1.length (r.1.flatMap Tp)):=by
 refine Fe func36 rfl ntmps36 rfl fun a S=>?_
 unfold Vj at h
 replace S:=S.k2 0 1 rfl
 refine Fr (Nj S (S.tm rfl) (cs:=(Hi.enc Am)) rfl rfl ?_);clear S;intro a w1 b1 hz1 hk1 S
 refine Vk S rfl rfl fun a S=>Vk S rfl rfl fun a S=>Dl (Fs (Fr (Vm S rfl rfl ?_)));clear S;intro a S
 obtain ⟨r1,hr1,h⟩:=Eg h
 refine Dc S (fun _=>Cw (vs:=[Ab]) ⟨(S.tm rfl),trivial⟩ call62) (Uf _ Ab Ad By (Ac.mono (S.le_arg Eo)) (EP (S.le_arg Eo) Bq) _ hr1) rfl ?_;clear S;intro v1 a w2 hv1 hk2 hn1 S
 subst hv1
 refine Va S rfl rfl fun a S=>Dz (Vm S rfl rfl fun a S=>Vq S Lo rfl rfl rfl fun a S=>Dl (Fc h (S.tm rfl) (fun hb1 h=>?_) (fun hb1 h=>?_)))
 ·refine Fr (Vm S rfl rfl fun a S=>Vk S rfl rfl fun a S=>Va S rfl rfl fun a S=>Dl (wp_ret (Cx ?_)))
  obtain rfl:=Option.some.inj h
  exact Kj S results36 rfl rfl ⟨_,rfl,(Ob _ _ _)⟩
 ·refine wp_skip (Tn (Fs (Fr (lv S (Fp isAgg94 sizeOf94 (off:=0) (o:=0) (part:=(Hi.enc Am)) rfl rfl (S.tm rfl) (S.cellsAt (i:=0) rfl)) rfl ?_))));clear S;intro a S
  obtain ⟨r2,hr2,h⟩:=Eg h
  refine Dc S (fun _=>Cw (vs:=[.agg (Hi.enc Am).toArray]) ⟨(S.tm rfl),trivial⟩ call63) (Uz _ Am _ hr2) rfl ?_;clear S;intro v2 a w3 hv2 hk3 hn2 S
  subst hv2
  refine Va S rfl rfl fun a S=>Dz (Vm S rfl rfl fun a S=>Vq S Lo rfl rfl rfl fun a S=>Ld ?_)
  replace S:=(S.nl [.blk b1 (Hi.enc Am) 94] [true] rfl).k4 0 3 7 19 rfl
  refine Tn (Fc h (S.tm rfl) (fun hb2 h=>?_) (fun hb2 h=>?_))
  ·refine Fr (Vm S rfl rfl fun a S=>Vk S rfl rfl fun a S=>Va S rfl rfl fun a S=>Dl (wp_ret (Cx ?_)))
   obtain rfl:=Option.some.inj h
   exact Kj S results36 rfl rfl ⟨_,rfl,(Ob _ _ _)⟩
  ·refine wp_skip (Tn (Fr (Vk S rfl rfl ?_)));clear S;intro a S
   replace S:=S.nil 9 1
   refine Dl (Fs (Fr (Vm S rfl rfl fun a S=>lv S (Ee AI (S.tm rfl) (Qv Ac Bq)) rfl fun a S=>lv S (Rm rfl) rfl fun a S=>Dl ?_)))
   replace S:=(S.nl [.own (.slice none 0 0) 9 1 ([] : List ByteArray).length (([] : List ByteArray).flatMap Tp),.blk b1 (Hi.enc Am) 94] [true,true] rfl).k5 3 8 21 22 23 rfl
   obtain ⟨j1,hj1,h⟩:=Ec h
   refine Ds (fun a w'=>∃ x1 : List ByteArray,∃ v3 : Value,j1 x1 = some r ∧ Sx w [] nov [.own v3 9 1 x1.length (x1.flatMap Tp),.blk b1 (Hi.enc Am) 94] [(8,v3)] 37 a w') ?_ ?_
   ·refine wp_block (Fi (fun (ys1 : List Od) a w'=>∃ i1 : Nat,∃ x1 : List ByteArray,∃ v3 : Value,(∃ dn,Ad = dn ++ ys1 ∧ dn.length = i1) ∧ Lh Am j1 ys1 i1 x1 = some r ∧ Sx w [] nov [.own v3 9 1 x1.length (x1.flatMap Tp),.blk b1 (Hi.enc Am) 94] [(3,.pointer (some ⟨b1,0,none⟩)),(8,v3),(21,Ab),(22,iV (Ad.length : Int)),(23,iV (i1 : Int))] 37 a w') List.length Ad ⟨0,([] : List ByteArray),(.slice none 0 0),⟨[],rfl,rfl⟩,h,S.nf [true,true] rfl (subR rfl)⟩ ?_)
    clear S h;rintro ys1 a w4 ⟨i1,x1,v3,⟨dn,hd1,hi1⟩,h,S⟩
    cases ys1 with
    | nil =>
     rw [Lh.eq_1] at h
     refine Fr (Vb S Dt rfl rfl rfl fun a S=>Ld ?_)
     replace S:=S.k6 3 8 21 22 23 24 rfl
     exact Tn (Fs (wp_cond_false ((S.tm rfl).trans (congrArg Value.bool (Hq hd1 hi1))) (wp_exit (Dj (Dj (Fj (Tn (⟨x1,v3,h,S.nf [true,true] rfl ⟨rfl,trivial⟩⟩))))))))
    | cons y1 ys1 =>
     rw [Lh.eq_2] at h
     refine Fr (Vb S Dt rfl rfl rfl fun a S=>Ld ?_)
     replace S:=S.k6 3 8 21 22 23 24 rfl
     refine Tn (Fs (wp_cond_true ((S.tm rfl).trans (congrArg Value.bool (Gb hd1 hi1))) (wp_skip (Tn (Fs ?_)))))
     obtain ⟨j2,hj2,h⟩:=Ec h
     refine Ds (fun a w'=>∃ x2 : List ByteArray,∃ v4 : Value,j2 x2 = some r ∧ Sx w [] nov [.own v4 9 1 x2.length (x2.flatMap Tp),.blk b1 (Hi.enc Am) 94] [(3,.pointer (some ⟨b1,0,none⟩)),(8,v4),(21,Ab),(22,iV (Ad.length : Int)),(23,iV (i1 : Int))] 37 a w') ?_ ?_
     ·refine wp_block (Fs (Fg ?_))
      obtain ⟨r3,hg1,hl1⟩:=Kd.at Bq (Hz hd1 hi1)
      obtain ⟨u1,rfl,hs1⟩:=hl1
      obtain ⟨b2,o1,hm1,hr3⟩:=Eb (a:=a) (x:=.tmp 21) (y:=.tmp 23) (ty:=0) AI Ac hg1 rfl (S.tm rfl) (S.tm rfl)
      refine lv S (hr3 _) rfl ?_;clear S;intro a S
      clear hr3
      refine lv S (Fp isAgg91 sizeOf91 (off:=o1) (o:=0) (part:=[sV y1.Key,sV y1.Race,u1.val,iV y1.Young,iV y1.Old]) rfl rfl (S.tm rfl) (hm1.at S.emb0)) rfl fun a S=>It S zeroValue91 (cs:=[sV Cy,sV Cy,.slice none 0 0,iV 0,iV 0]) rfl rfl ?_;clear S;intro a w7 b3 hz2 hk4 S
      refine Gl S (S.tm rfl) (S.tm rfl) (i:=0) (off:=0) rfl sizeOf91 (vs:=[sV y1.Key,sV y1.Race,u1.val,iV y1.Young,iV y1.Old]) rfl rfl rfl (Rq rfl (Rq rfl (Rq (Kl.one (Ej hs1)) (Rq rfl (Rq rfl rfl))))) ?_;clear S;intro w8 hk5 S
      refine Dz (lv S (Fp isAgg91 sizeOf91 (off:=0) (o:=0) (part:=[sV y1.Key,sV y1.Race,u1.val,iV y1.Young,iV y1.Old]) rfl rfl (S.tm rfl) (S.cellsAt (i:=0) rfl)) rfl fun a S=>lv S (Fp isAgg94 sizeOf94 (off:=0) (o:=0) (part:=(Hi.enc Am)) rfl rfl (S.tm rfl) (S.cellsAt (i:=2) rfl)) rfl fun a S=>Dc S (fun _=>Cw (vs:=[.agg (R91.enc (R91.mk y1.Key y1.Race u1 y1.Young y1.Old)).toArray,.agg (Hi.enc Am).toArray]) ⟨(S.tm rfl),(S.tm rfl),trivial⟩ call64) (Xx _ y1 (R91.mk y1.Key y1.Race u1 y1.Young y1.Old) ⟨u1,rfl,(hs1.mono (S.le_arg Eo))⟩ Am _ rfl) rfl ?_);clear S;intro v5 a w9 hv3 hk6 hn3 S
      subst hv3
      refine Dl ?_
      obtain ⟨j3,hj3,h⟩:=Ec h
      refine Ds (fun a w'=>∃ x3 : List ByteArray,∃ v6 : Value,j3 x3 = some r ∧ Sx w [] nov [.own v6 9 1 x3.length (x3.flatMap Tp),.blk b1 (Hi.enc Am) 94] [(3,.pointer (some ⟨b1,0,none⟩)),(8,v6),(21,Ab),(22,iV (Ad.length : Int)),(23,iV (i1 : Int))] 37 a w') ?_ ?_
      ·refine Fc h (S.tm rfl) (fun hb3 h=>?_) (fun hb3 h=>?_)
       ·refine Fg (Vm S rfl rfl fun a S=>Vf Yj S rfl rfl fun a S=>Vl isAgg9 0 S rfl rfl rfl rfl fun a S=>Ed S underlying57 sizeOf9 zeroValue9 rfl rfl (pv:=[(0,sV y1.Key)]) ⟨rfl,(S.tm rfl),trivial⟩ (cs:=[sV y1.Key]) (by kernel_rfl) rfl ?_);clear S;intro a w11 b4 hz3 hk7 S
        obtain ⟨hc1,h⟩:=Hl h
        refine Mx Rb Mf S (S.tm rfl) (i:=2) rfl (S.tm rfl) (j:=0) rfl (ys:=[y1.Key]) rfl rfl rfl rfl (by have:=Nd hc1;omega) rfl ?_;clear S;intro v7 a w12 hk8 S
        refine Va S rfl rfl fun a S=>Ld ?_
        replace S:=(S.nl [.own v7 9 1 (x1 ++ [y1.Key]).length ((x1 ++ [y1.Key]).flatMap Tp),.blk b1 (Hi.enc Am) 94] [false,false,true,true] rfl).k5 3 8 21 22 23 rfl
        exact Tn (⟨(x1 ++ [y1.Key]),v7,h,S.nf [true,true] rfl (subR rfl)⟩)
       ·exact wp_skip (Tn (⟨x1,v3,h,S.nf [false,true,true] rfl (subR rfl)⟩))
      clear S h;rintro a w10 ⟨x3,v6,h,S⟩;rw [hj3] at h;clear hj3 j3
      exact Gx (Tn (⟨x3,v6,h,S.nf [true,true] rfl (subR rfl)⟩))
     clear S h;rintro a w6 ⟨x2,v4,h,S⟩;rw [hj2] at h;clear hj2 j2
     exact Tn (Fg (Vq S Ek rfl rfl rfl fun a S=>Vm S rfl rfl fun a S=>Dl (⟨ys1,⟨i1 + 1,x2,v4,⟨_,(hd1).trans (List.append_cons _ _ _),by simp [hi1]⟩,h,S.nf [true,true] rfl ⟨rfl,rfl,rfl,rfl,(congrArg (fun z=>some (Value.int .i64 z)) (Gc hd1 hi1 (Rx Ac Bq))),trivial⟩⟩,Nat.lt_succ_self _⟩)))
   clear S h;rintro a w5 ⟨x1,v3,h,S⟩;rw [hj1] at h;clear hj1 j1
   refine Tn (Fr (Vm S rfl rfl fun a S=>Va S rfl rfl fun a S=>Vk S rfl rfl fun a S=>Dl (wp_ret ?_)))
   obtain rfl:=Option.some.inj h
   exact Kj S results36 rfl rfl ⟨_,rfl,(Qu S (i:=0) rfl rfl)⟩
theorem Wl (w : World) (Ab : Value) (Ad : List Int) (Ac : Slc (view w []) 1 Ab (Ad.map eInt)) (r : Int) (h : Je Ad = r) :
    Calls prog 37 [Ab].toArray w (Ret w [] fun _ v _=>v = iV r):=by
 refine Fe func37 rfl ntmps37 rfl fun a S=>?_
 unfold Je at h
 replace S:=S.k1 0 rfl
 refine Fr (Vk S rfl rfl fun a S=>Dl (Fs (Fr (Vm S rfl rfl fun a S=>lv S (Ee IB (S.tm rfl) (Ej Ac)) rfl fun a S=>lv S (Rm rfl) rfl ?_))));clear S;intro a S
 refine Dl ?_
 replace S:=S.k3 5 6 7 rfl
 obtain ⟨j1,hj1,h⟩:=Ec h
 refine Ds (fun a w'=>j1 = r ∧ Sx w [] nov [] [] 15 a w') ?_ ?_
 ·refine wp_block (Fi (fun (ys1 : List Int) a w'=>∃ i1 : Nat,(∃ dn,Ad = dn ++ ys1 ∧ dn.length = i1) ∧ Jl j1 ys1 i1 = r ∧ Sx w [] nov [] [(5,Ab),(6,iV (Ad.length : Int)),(7,iV (i1 : Int))] 15 a w') List.length Ad ⟨0,⟨[],rfl,rfl⟩,h,S.nf [] rfl (subR rfl)⟩ ?_)
  clear S h;rintro ys1 a w1 ⟨i1,⟨dn,hd1,hi1⟩,h,S⟩
  cases ys1 with
  | nil =>
   rw [Jl.eq_1] at h
   refine Fr (Vb S Dt rfl rfl rfl fun a S=>Ld ?_)
   replace S:=S.k4 5 6 7 8 rfl
   exact Tn (Fs (wp_cond_false ((S.tm rfl).trans (congrArg Value.bool (Hq hd1 hi1))) (wp_exit (Dj (Dj (Fj (Tn (⟨h,S.nf [] rfl trivial⟩))))))))
  | cons y1 ys1 =>
   rw [Jl.eq_2] at h
   refine Fr (Vb S Dt rfl rfl rfl fun a S=>Ld ?_)
   replace S:=S.k4 5 6 7 8 rfl
   refine Tn (Fs (wp_cond_true ((S.tm rfl).trans (congrArg Value.bool (Gb hd1 hi1))) (wp_skip (Tn (Fs (wp_block (Fs (Fg ?_))))))))
   obtain ⟨b1,o1,hm1,hr1⟩:=Eb (a:=a) (x:=.tmp 5) (y:=.tmp 7) (ty:=0) IB Ac (Hz hd1 hi1) rfl (S.tm rfl) (S.tm rfl)
   refine lv S (hr1 _) rfl ?_;clear S;intro a S
   clear hr1
   refine lv S (Gk isAgg34 (off:=o1) (o:=0) (S.tm rfl) (hm1.at S.emb0) rfl) rfl fun a S=>Va S rfl rfl fun a S=>Dz (Vm S rfl rfl fun a S=>Vq S Lo rfl rfl rfl fun a S=>Dl (Fc h (S.tm rfl) (fun hb1 h=>?_) (fun hb1 h=>?_)))
   ·refine Fr (Vm S rfl rfl fun a S=>Va S rfl rfl fun a S=>Dl (wp_ret (Em (Cx (Cx (Em ?_))))))
    refine Cx (Cx ?_)
    subst h
    exact Dx S results37 rfl rfl
   ·exact wp_skip (Gx (Tn (Fg (Vq S Ek rfl rfl rfl fun a S=>Vm S rfl rfl fun a S=>Dl (⟨ys1,⟨i1 + 1,⟨_,(hd1).trans (List.append_cons _ _ _),by simp [hi1]⟩,h,S.nf [] rfl ⟨rfl,rfl,(congrArg (fun z=>some (Value.int .i64 z)) (Gc hd1 hi1 (Jk Ac))),trivial⟩⟩,Nat.lt_succ_self _⟩)))))
 clear S h;rintro a w2 ⟨h,S⟩;rw [hj1] at h;clear hj1 j1
 refine Tn (Fr (Vk S rfl rfl fun a S=>Dl (wp_ret ?_)))
 subst h
 exact Dx S results37 rfl rfl
theorem Vo (w : World) (r : Bool) (h : Ok = some r) :
    Calls prog 14 [].toArray w (Ret w [] fun _ v _=>v = bV r):=by
 refine Fe func14 rfl ntmps14 rfl fun a S=>?_
 unfold Ok at h
 replace S:=S.k0
 refine Fr (Vk S rfl rfl fun a S=>Dz (lv S (Lp bt_82 (pv:=[(0,iV 2024),(1,iV 3),(2,iV 1)]) ⟨rfl,rfl,rfl,rfl,rfl,rfl,trivial⟩ (cs:=[iV 2024,iV 3,iV 1]) (by kernel_rfl)) rfl ?_));clear S;intro a S
 obtain ⟨r1,hr1,h⟩:=Eg h
 refine Dc S (fun _=>Cw (vs:=[.agg (Iz.enc (Iz.mk 2024 3 1)).toArray]) ⟨(S.tm rfl),trivial⟩ call33) (Xd _ (Iz.mk 2024 3 1) _ hr1) rfl ?_;clear S;intro v1 a w1 hv1 hk1 hn1 S
 subst hv1
 refine Vm S rfl rfl fun a S=>Vq S Er rfl rfl rfl fun a S=>Vq S Er rfl rfl rfl fun a S=>Va S rfl rfl fun a S=>Va S rfl rfl fun a S=>Dz (lv S (Lp bt_85 (pv:=[(0,sV k_a),(1,iV 2),(2,iV 10),(3,iV 5)]) ⟨rfl,rfl,rfl,rfl,rfl,rfl,rfl,rfl,trivial⟩ (cs:=[sV k_a,iV 2,iV 10,iV 5,iV 0]) (by kernel_rfl)) rfl fun a S=>Ed S underlying86 sizeOf85 zeroValue85 rfl rfl (pv:=[(0,.agg #[sV k_a,iV 2,iV 10,iV 5,iV 0])]) ⟨rfl,(S.tm rfl),trivial⟩ (cs:=[sV k_a,iV 2,iV 10,iV 5,iV 0]) (by kernel_rfl) rfl ?_);clear S;intro a w2 b1 hz1 hk2 S
 obtain ⟨r2,hr2,h⟩:=Eg h
 refine Dc S (fun _=>Cw (vs:=[.slice (some ⟨b1,0,none⟩) 1 1,iV 0]) ⟨(S.tm rfl),rfl,trivial⟩ call34) (Xw _ (.slice (some ⟨b1,0,none⟩) 1 1) [(Js.mk k_a 2 10 5 0)] (Jm Js.enc_ok S (i:=0) rfl rfl rfl rfl ((Gn (e':=.blk b1 [sV k_a,iV 2,iV 10,iV 5,iV 0] 85)) _ rfl)) 0 _ hr2) rfl ?_;clear S;intro v2 a w3 hv2 hk3 hn2 S
 subst hv2
 refine Vm S rfl rfl fun a S=>Vq S Er rfl rfl rfl fun a S=>Vq S Er rfl rfl rfl fun a S=>Va S rfl rfl fun a S=>Va S rfl rfl fun a S=>Ld ?_
 replace S:=S.n0.k4 1 2 3 4 rfl
 refine Tn (Fr (lv S (Lp bt_44 (pv:=[(0,sV k_r),(1,iV 3000)]) ⟨rfl,rfl,rfl,rfl,trivial⟩ (cs:=[sV k_r,iV 3000]) (by kernel_rfl)) rfl fun a S=>Ed S underlying45 sizeOf44 zeroValue44 rfl rfl (pv:=[(0,.agg #[sV k_r,iV 3000])]) ⟨rfl,(S.tm rfl),trivial⟩ (cs:=[sV k_r,iV 3000]) (by kernel_rfl) rfl ?_));clear S;intro a w4 b2 hz2 hk4 S
 obtain ⟨r3,hr3,h⟩:=Eg h
 refine Dc S (fun _=>Cw (vs:=[.slice (some ⟨b2,0,none⟩) 1 1,sV k_r,iV 6000]) ⟨(S.tm rfl),rfl,rfl,trivial⟩ call35) (Xf _ (.slice (some ⟨b2,0,none⟩) 1 1) [(Jr.mk k_r 3000)] (Jm Jr.enc_ok S (i:=0) rfl rfl rfl rfl ((Gn (e':=.blk b2 [sV k_r,iV 3000] 44)) _ rfl)) k_r 6000 _ hr3) rfl ?_;clear S;intro v3 a w5 hv3 hk5 hn3 S
 subst hv3
 refine Vm S rfl rfl fun a S=>Vq S Er rfl rfl rfl fun a S=>Vq S Er rfl rfl rfl fun a S=>Va S rfl rfl fun a S=>Va S rfl rfl fun a S=>Dz (lv S (Lp bt_91 (pv:=[(0,sV k_k),(1,sV k_r),(4,iV 9)]) ⟨rfl,rfl,rfl,rfl,rfl,rfl,trivial⟩ (cs:=[sV k_k,sV k_r,.slice none 0 0,iV 0,iV 9]) (by kernel_rfl)) rfl fun a S=>Ed S underlying92 sizeOf91 zeroValue91 rfl rfl (pv:=[(0,.agg #[sV k_k,sV k_r,.slice none 0 0,iV 0,iV 9])]) ⟨rfl,(S.tm rfl),trivial⟩ (cs:=[sV k_k,sV k_r,.slice none 0 0,iV 0,iV 9]) (by kernel_rfl) rfl ?_);clear S;intro a w6 b3 hz3 hk6 S
 refine lv S (Lp bt_94 (pv:=[(1,iV 1),(2,sV k_i),(3,sV k_a),(5,sV k_r),(7,iV 5)]) ⟨rfl,rfl,rfl,rfl,rfl,rfl,rfl,rfl,rfl,rfl,trivial⟩ (cs:=[iV 0,iV 1,sV k_i,sV k_a,sV Cy,sV k_r,iV 0,iV 5]) (by kernel_rfl)) rfl ?_;clear S;intro a S
 have hr4 : Kd (Tu nov) ([(Od.mk k_k k_r ([] : List ByteArray) 0 9)] : List Od) ([(R91.mk k_k k_r ⟨.slice none 0 0,rfl⟩ 0 9)] : List R91):=(Kd.cons ⟨⟨.slice none 0 0,rfl⟩,rfl,(BA _ _)⟩ Kd.nil)
 replace S:=S.litOwn (i:=0) (xs:=([(R91.mk k_k k_r ⟨.slice none 0 0,rfl⟩ 0 9)] : List R91)) rfl R91.enc_ok rfl rfl rfl
 replace S:=S.nk [.own (.slice (some ⟨b3,0,none⟩) 1 1) 91 5 ([(R91.mk k_k k_r ⟨.slice none 0 0,rfl⟩ 0 9)] : List R91).length (([(R91.mk k_k k_r ⟨.slice none 0 0,rfl⟩ 0 9)] : List R91).flatMap R91.enc),.blk b2 [sV k_r,iV 3000] 44] [(1,iV r1.1),(2,iV r1.2),(3,iV r2.1),(4,iV r2.2),(5,iV r3.1),(6,iV r3.2),(20,.tuple #[iV r3.1,iV r3.2]),(21,.agg #[sV k_r,iV 3000]),(22,.slice (some ⟨b2,0,none⟩) 1 1),(23,.tuple #[iV r3.1,iV r3.2]),(24,iV r3.1),(25,iV r3.2),(27,.agg #[sV k_k,sV k_r,.slice none 0 0,iV 0,iV 9]),(28,(.slice (some ⟨b3,0,none⟩) 1 1)),(29,.agg (Hi.enc (Hi.mk 0 1 k_i k_a Cy k_r 0 5)).toArray)] [] rfl (subR rfl)
 obtain ⟨r4,hr5,h⟩:=Eg h
 have hz4:=S.keep.size
 refine Dc S (fun _=>Cw (vs:=[(.slice (some ⟨b3,0,none⟩) 1 1),.agg (Hi.enc (Hi.mk 0 1 k_i k_a Cy k_r 0 5)).toArray]) ⟨(S.tm rfl),(S.tm rfl),trivial⟩ call36) (Zs _ (.slice (some ⟨b3,0,none⟩) 1 1) ([(Od.mk k_k k_r ([] : List ByteArray) 0 9)] : List Od) ([(R91.mk k_k k_r ⟨.slice none 0 0,rfl⟩ 0 9)] : List R91) (CH R91.enc_ok S (i:=0) rfl (Gn (e':=.own (.slice (some ⟨b3,0,none⟩) 1 1) 91 5 ([(R91.mk k_k k_r ⟨.slice none 0 0,rfl⟩ 0 9)] : List R91).length (([(R91.mk k_k k_r ⟨.slice none 0 0,rfl⟩ 0 9)] : List R91).flatMap R91.enc)))) (EP (S.le_new Eo) hr4) (Hi.mk 0 1 k_i k_a Cy k_r 0 5) _ hr5) rfl ?_;clear S;intro v4 a w7 hv4 hk7 hn4 S
 obtain ⟨u1,rfl,ho1⟩:=hv4
 obtain ⟨φ1,hl1,hm1,S⟩:=S.see' hn4 hz4
 have hs1:=ho1.mono hm1
 refine Vm S rfl rfl fun a S=>Vq S Er rfl rfl rfl fun a S=>Vq S Er rfl rfl rfl fun a S=>Va S rfl rfl fun a S=>Va S rfl rfl fun a S=>Ld ?_
 replace S:=S.n0.k8 1 2 3 4 5 6 7 8 rfl
 refine Tn (Fs (Fg ?_))
 iterate 4 (refine Vm S rfl rfl ?_;clear S;intro a S)
 refine Ed S underlying123 sizeOf34 zeroValue34 rfl rfl (pv:=[(0,iV r1.2),(1,iV r2.2),(2,iV r3.2),(3,iV r4.2)]) ⟨rfl,(S.tm rfl),rfl,(S.tm rfl),rfl,(S.tm rfl),rfl,(S.tm rfl),trivial⟩ (cs:=[iV r1.2,iV r2.2,iV r3.2,iV r4.2]) (by kernel_rfl) rfl ?_;clear S;intro a w8 b4 hz5 hk8 S
 refine Dc S (fun _=>Cw (vs:=[.slice (some ⟨b4,0,none⟩) 4 4]) ⟨(S.tm rfl),trivial⟩ call37) (Wl _ (.slice (some ⟨b4,0,none⟩) 4 4) [r1.2,r2.2,r3.2,r4.2] (Jm Hj S (i:=0) rfl rfl rfl rfl ((Gn (e':=.blk b4 [iV r1.2,iV r2.2,iV r3.2,iV r4.2] 34)) _ rfl)) _ rfl) rfl ?_;clear S;intro v5 a w9 hv5 hk9 hn5 S
 subst hv5
 refine Vq S Jz rfl rfl rfl fun a S=>Vm S rfl rfl fun a S=>Hw 3 (fun a w'=>Keep [] w9 w' ∧ Sx w [] φ1 [.blk b4 [iV r1.2,iV r2.2,iV r3.2,iV r4.2] 34] [(3,iV r2.1),(5,iV r3.1),(7,u1),(43,bV ((decide ((Je [r1.2,r2.2,r3.2,r4.2]) = 0)) && (decide (r1.1 = 60))))] 57 a w') ?_ ?_
 ·rcases Bool.eq_false_or_eq_true (decide ((Je [r1.2,r2.2,r3.2,r4.2]) = 0)) with hb1 | hb1
  ·exact Cz S rfl rfl rfl hb1 (Vm S rfl rfl fun a S=>Cz S rfl rfl rfl hb1 (Vq S Jz rfl rfl rfl fun a S=>lv S (Hg hb1 (S.tm rfl) (S.tm rfl)) rfl fun a S=>Dl (⟨Keep.refl _ _,S.nf [true] rfl (subR rfl)⟩)))
  ·exact Gm S rfl rfl rfl (Jt hb1) rfl (fun a S=>Gm S rfl rfl rfl (Jt hb1) rfl (fun a S=>lv S (Hh (decide (r1.1 = 60)) hb1 (S.tm rfl) rfl) rfl fun a S=>Dl (⟨Keep.refl _ _,S.nf [true] rfl (subR rfl)⟩)) rfl) rfl
 clear S;rintro a w10 ⟨hk10,S⟩
 refine Vm S rfl rfl fun a S=>Hw 3 (fun a w'=>Keep [] w10 w' ∧ Sx w [] φ1 [.blk b4 [iV r1.2,iV r2.2,iV r3.2,iV r4.2] 34] [(5,iV r3.1),(7,u1),(47,bV (((decide ((Je [r1.2,r2.2,r3.2,r4.2]) = 0)) && (decide (r1.1 = 60))) && (decide (r2.1 = 25))))] 57 a w') ?_ ?_
 ·rcases Bool.eq_false_or_eq_true ((decide ((Je [r1.2,r2.2,r3.2,r4.2]) = 0)) && (decide (r1.1 = 60))) with hb2 | hb2
  ·exact Cz S rfl rfl rfl hb2 (Vm S rfl rfl fun a S=>Cz S rfl rfl rfl hb2 (Vq S Jz rfl rfl rfl fun a S=>lv S (Hg hb2 (S.tm rfl) (S.tm rfl)) rfl fun a S=>Dl (⟨Keep.refl _ _,S.nf [true] rfl (subR rfl)⟩)))
  ·exact Gm S rfl rfl rfl (Jt hb2) rfl (fun a S=>Gm S rfl rfl rfl (Jt hb2) rfl (fun a S=>lv S (Hh (decide (r2.1 = 25)) hb2 (S.tm rfl) rfl) rfl fun a S=>Dl (⟨Keep.refl _ _,S.nf [true] rfl (subR rfl)⟩)) rfl) rfl
 clear S;rintro a w11 ⟨hk11,S⟩
 refine Vm S rfl rfl fun a S=>Hw 3 (fun a w'=>Keep [] w11 w' ∧ Sx w [] φ1 [.blk b4 [iV r1.2,iV r2.2,iV r3.2,iV r4.2] 34] [(7,u1),(51,bV ((((decide ((Je [r1.2,r2.2,r3.2,r4.2]) = 0)) && (decide (r1.1 = 60))) && (decide (r2.1 = 25))) && (decide (r3.1 = 125))))] 57 a w') ?_ ?_
 ·rcases Bool.eq_false_or_eq_true (((decide ((Je [r1.2,r2.2,r3.2,r4.2]) = 0)) && (decide (r1.1 = 60))) && (decide (r2.1 = 25))) with hb3 | hb3
  ·exact Cz S rfl rfl rfl hb3 (Vm S rfl rfl fun a S=>Cz S rfl rfl rfl hb3 (Vq S Jz rfl rfl rfl fun a S=>lv S (Hg hb3 (S.tm rfl) (S.tm rfl)) rfl fun a S=>Dl (⟨Keep.refl _ _,S.nf [true] rfl (subR rfl)⟩)))
  ·exact Gm S rfl rfl rfl (Jt hb3) rfl (fun a S=>Gm S rfl rfl rfl (Jt hb3) rfl (fun a S=>lv S (Hh (decide (r3.1 = 125)) hb3 (S.tm rfl) rfl) rfl fun a S=>Dl (⟨Keep.refl _ _,S.nf [true] rfl (subR rfl)⟩)) rfl) rfl
 clear S;rintro a w12 ⟨hk12,S⟩
 refine Vm S rfl rfl fun a S=>Hw 4 (fun a w'=>Keep [] w12 w' ∧ Sx w [] φ1 [.blk b4 [iV r1.2,iV r2.2,iV r3.2,iV r4.2] 34] [(56,bV (((((decide ((Je [r1.2,r2.2,r3.2,r4.2]) = 0)) && (decide (r1.1 = 60))) && (decide (r2.1 = 25))) && (decide (r3.1 = 125))) && (decide ((r4.1.length : Int) = 1))))] 57 a w') ?_ ?_
 ·rcases Bool.eq_false_or_eq_true ((((decide ((Je [r1.2,r2.2,r3.2,r4.2]) = 0)) && (decide (r1.1 = 60))) && (decide (r2.1 = 25))) && (decide (r3.1 = 125))) with hb4 | hb4
  ·exact Cz S rfl rfl rfl hb4 (Vm S rfl rfl fun a S=>Cz S rfl rfl rfl hb4 (lv S (Ee Rb (S.tm rfl) (Ej (Ha Mf hs1))) rfl fun a S=>Cz S rfl rfl rfl hb4 (Vq S Jz rfl rfl rfl fun a S=>lv S (Hg hb4 (S.tm rfl) (S.tm rfl)) rfl fun a S=>Dl (⟨Keep.refl _ _,S.nf [true] rfl ⟨rfl,trivial⟩⟩))))
  ·iterate 3 (refine Gm S rfl rfl rfl (Jt hb4) rfl ?_ rfl;clear S;intro a S)
   exact lv S (Hh (decide ((r4.1.length : Int) = 1)) hb4 (S.tm rfl) rfl) rfl fun a S=>Dl (⟨Keep.refl _ _,S.nf [true] rfl ⟨rfl,trivial⟩⟩)
 clear S;rintro a w13 ⟨hk13,S⟩
 refine Va S rfl rfl fun a S=>Dl (wp_ret ?_)
 obtain rfl:=Option.some.inj h
 exact Dx S results14 rfl rfl
theorem Sc (w : World) (Ab : Value) (Ad : List Int) (Ac : Slc (view w []) 1 Ab (Ad.map eInt)) (r : Bool) (h : Ml Ad = some r) :
    Calls prog 3 [Ab].toArray w (Ret w [] fun _ v _=>v = bV r):=by
 refine Fe func3 rfl ntmps3 rfl fun a S=>?_
 unfold Ml at h
 replace S:=S.k1 0 rfl
 refine Fr (Vk S rfl rfl fun a S=>Dz (Vm S rfl rfl ?_));clear S;intro a S
 refine lv S (Lp bt_25 (pv:=[(0,Ab)]) ⟨rfl,(S.tm rfl),trivial⟩ (cs:=[Ab,iV 0]) (by obtain ⟨_,_,hv⟩:=(Ej Ac);rw [hv];clear hv;kernel_rfl)) rfl ?_;clear S;intro a S
 refine Nj S (S.tm rfl) (cs:=[Ab,iV 0]) rfl rfl ?_;clear S;intro a w1 b1 hz1 hk1 S
 refine Vm S rfl rfl ?_;clear S;intro a S
 refine lv S (Lp bt_25 (pv:=[(0,Ab)]) ⟨rfl,(S.tm rfl),trivial⟩ (cs:=[Ab,iV 0]) (by obtain ⟨_,_,hv⟩:=(Ej Ac);rw [hv];clear hv;kernel_rfl)) rfl ?_;clear S;intro a S
 refine Nj S (S.tm rfl) (cs:=[Ab,iV 0]) rfl rfl ?_;clear S;intro a w2 b2 hz2 hk2 S
 refine Va S rfl rfl fun a S=>Va S rfl rfl fun a S=>Dz (Vm S rfl rfl ?_);clear S;intro a S
 obtain ⟨r1,hr1,h⟩:=Eg h
 have hz3:=S.keep.size
 refine Ga 1 S (b:=b1) rfl rfl (fun _=>.blk b1 [Ab,iV r1.2] 25) (fun _=>Cw (vs:=[.pointer (some ⟨b1,0,none⟩)]) ⟨(S.tm rfl),trivial⟩ call4) (Qa _ b1 Ab Ad (Ac.mono (S.le_arg (Ix (i:=1) (e:=.blk b1 [Ab,iV 0] 25) rfl))) 0 (S.holds _ (List.mem_of_getElem? (i:=1) rfl)) _ hr1) rfl (fun _ _ _ h=>⟨h.1,fun _ hc=>by cases hc;rfl⟩) ?_;clear S;intro v1 a w3 hv1 hk3 hn1 S
 replace hv1:=hv1.2
 obtain ⟨q1,rfl,hq1⟩:=hv1
 obtain ⟨φ1,hl1,hm1,S⟩:=S.see' hn1 hz3
 obtain ⟨u2,rfl,hs1⟩:=Rh hm1 _ _ hq1
 refine Vm S rfl rfl ?_;clear S;intro a S
 obtain ⟨r2,hr2,h⟩:=Eg h
 have hz4:=S.keep.size
 refine Ga 1 S (b:=b1) rfl rfl (fun _=>.blk b1 [Ab,iV r2.2] 25) (fun _=>Cw (vs:=[.pointer (some ⟨b1,0,none⟩)]) ⟨(S.tm rfl),trivial⟩ call5) (Pk _ b1 Ab Ad (Ac.mono (S.le_arg (Ix (i:=1) (e:=.blk b1 [Ab,iV r1.2] 25) rfl))) r1.2 (S.holds _ (List.mem_of_getElem? (i:=1) rfl)) _ hr2) rfl (fun _ _ _ h=>⟨h.1,fun _ hc=>by cases hc;rfl⟩) ?_;clear S;intro v2 a w4 hv2 hk4 hn2 S
 replace hv2:=hv2.2
 obtain ⟨φ2,hl2,hm2,S⟩:=S.see' hn2 hz4
 have hs2:=hv2.mono hm2
 refine Vm S rfl rfl ?_;clear S;intro a S
 obtain ⟨r3,hr3,h⟩:=Eg h
 have hz5:=S.keep.size
 refine Ga 1 S (b:=b1) rfl rfl (fun _=>.blk b1 [Ab,iV r3.2] 25) (fun _=>Cw (vs:=[.pointer (some ⟨b1,0,none⟩)]) ⟨(S.tm rfl),trivial⟩ call6) (Td _ b1 Ab Ad (Ac.mono (S.le_arg (Ix (i:=1) (e:=.blk b1 [Ab,iV r2.2] 25) rfl))) r2.2 (S.holds _ (List.mem_of_getElem? (i:=1) rfl)) _ hr3) rfl (fun _ _ _ h=>⟨h.1,fun _ hc=>by cases hc;rfl⟩) ?_;clear S;intro v3 a w5 hv3 hk5 hn3 S
 replace hv3:=hv3.2
 obtain ⟨φ3,hl3,hm3,S⟩:=S.see' hn3 hz5
 have hs3:=hv3.mono hm3
 refine It S zeroValue27 (cs:=[.slice none 0 0,iV 0,iV 0]) rfl rfl ?_;clear S;intro a w6 b3 hz6 hk6 S
 refine Gl S (S.tm rfl) (S.tm rfl) (i:=0) (off:=0) rfl sizeOf27 (vs:=[u2.val,iV r1.1.Relay,iV r1.1.Most]) rfl rfl rfl (Rq (Kl.one (Ej hs1)) (Rq rfl (Rq rfl rfl))) ?_;clear S;intro w7 hk7 S
 refine Va S rfl rfl fun a S=>Va S rfl rfl fun a S=>Ld ?_
 replace S:=(S.nl [.blk b3 [u2.val,iV r1.1.Relay,iV r1.1.Most] 27,.blk b2 [Ab,iV 0] 25] [true,true,false] rfl).k4 4 5 6 7 rfl
 refine Tn (Fr (Vm S rfl rfl ?_));clear S;intro a S
 obtain ⟨r4,hr4,h⟩:=Eg h
 have hz7:=S.keep.size
 refine Ga 1 S (b:=b2) rfl rfl (fun _=>.blk b2 [Ab,iV r4.2] 25) (fun _=>Cw (vs:=[.pointer (some ⟨b2,0,none⟩)]) ⟨(S.tm rfl),trivial⟩ call4) (Qa _ b2 Ab Ad (Ac.mono (S.le_arg (Ix (i:=1) (e:=.blk b2 [Ab,iV 0] 25) rfl))) 0 (S.holds _ (List.mem_of_getElem? (i:=1) rfl)) _ hr4) rfl (fun _ _ _ h=>⟨h.1,fun _ hc=>by cases hc;rfl⟩) ?_;clear S;intro v4 a w8 hv4 hk8 hn4 S
 replace hv4:=hv4.2
 obtain ⟨q2,rfl,hq2⟩:=hv4
 obtain ⟨φ4,hl4,hm4,S⟩:=S.see' hn4 hz7
 obtain ⟨u6,rfl,hs4⟩:=Rh hm4 _ _ hq2
 refine Vm S rfl rfl ?_;clear S;intro a S
 obtain ⟨r5,hr5,h⟩:=Eg h
 have hz8:=S.keep.size
 refine Ga 1 S (b:=b2) rfl rfl (fun _=>.blk b2 [Ab,iV r5.2] 25) (fun _=>Cw (vs:=[.pointer (some ⟨b2,0,none⟩)]) ⟨(S.tm rfl),trivial⟩ call5) (Pk _ b2 Ab Ad (Ac.mono (S.le_arg (Ix (i:=1) (e:=.blk b2 [Ab,iV r4.2] 25) rfl))) r4.2 (S.holds _ (List.mem_of_getElem? (i:=1) rfl)) _ hr5) rfl (fun _ _ _ h=>⟨h.1,fun _ hc=>by cases hc;rfl⟩) ?_;clear S;intro v5 a w9 hv5 hk9 hn5 S
 replace hv5:=hv5.2
 obtain ⟨φ5,hl5,hm5,S⟩:=S.see' hn5 hz8
 have hs5:=hv5.mono hm5
 refine Vm S rfl rfl ?_;clear S;intro a S
 obtain ⟨r6,hr6,h⟩:=Eg h
 have hz9:=S.keep.size
 refine Ga 1 S (b:=b2) rfl rfl (fun _=>.blk b2 [Ab,iV r6.2] 25) (fun _=>Cw (vs:=[.pointer (some ⟨b2,0,none⟩)]) ⟨(S.tm rfl),trivial⟩ call6) (Td _ b2 Ab Ad (Ac.mono (S.le_arg (Ix (i:=1) (e:=.blk b2 [Ab,iV r5.2] 25) rfl))) r5.2 (S.holds _ (List.mem_of_getElem? (i:=1) rfl)) _ hr6) rfl (fun _ _ _ h=>⟨h.1,fun _ hc=>by cases hc;rfl⟩) ?_;clear S;intro v6 a w10 hv6 hk10 hn6 S
 replace hv6:=hv6.2
 obtain ⟨φ6,hl6,hm6,S⟩:=S.see' hn6 hz9
 have hs6:=hv6.mono hm6
 refine It S zeroValue27 (cs:=[.slice none 0 0,iV 0,iV 0]) rfl rfl ?_;clear S;intro a w11 b4 hz10 hk11 S
 refine Gl S (S.tm rfl) (S.tm rfl) (i:=0) (off:=0) rfl sizeOf27 (vs:=[u6.val,iV r4.1.Relay,iV r4.1.Most]) rfl rfl rfl (Rq (Kl.one (Ej hs4)) (Rq rfl (Rq rfl rfl))) ?_;clear S;intro w12 hk12 S
 refine Va S rfl rfl fun a S=>Va S rfl rfl fun a S=>Dz (lv S (Fp isAgg27 sizeOf27 (off:=0) (o:=0) (part:=[u2.val,iV r1.1.Relay,iV r1.1.Most]) rfl rfl (S.tm rfl) (S.cellsAt (i:=1) rfl)) rfl fun a S=>Vm S rfl rfl ?_);clear S;intro a S
 obtain ⟨r7,hr7,h⟩:=Eg h
 have hz11:=S.keep.size
 refine Dc S (fun _=>Cw (vs:=[.agg (R27.enc (R27.mk u2 r1.1.Relay r1.1.Most)).toArray,v2]) ⟨(S.tm rfl),(S.tm rfl),trivial⟩ call7) (Xt _ r1.1 (R27.mk u2 r1.1.Relay r1.1.Most) ⟨u2,rfl,(hs1.mono (View.le_trans (View.le_trans (View.le_trans (View.le_trans (View.le_trans hl2 hl3) hl4) hl5) hl6) (S.le_new Eo)))⟩ v2 r2.1 ((Ha An.enc_ok hs2).mono (View.le_trans (View.le_trans (View.le_trans (View.le_trans hl3 hl4) hl5) hl6) (S.le_new Eo))) _ hr7) rfl ?_;clear S;intro v7 a w13 hv7 hk13 hn7 S
 obtain ⟨u9,rfl,ho7⟩:=hv7
 replace S:=S.take hn7 hz11 ho7
 refine Vm S rfl rfl fun a S=>Vq S Er rfl rfl rfl fun a S=>Vq S Er rfl rfl rfl fun a S=>Va S rfl rfl fun a S=>Va S rfl rfl fun a S=>Ld ?_
 replace S:=(S.nl [.own u9 41 3 r7.1.length (r7.1.flatMap Cv.enc),.blk b4 [u6.val,iV r4.1.Relay,iV r4.1.Most] 27,.blk b3 [u2.val,iV r1.1.Relay,iV r1.1.Most] 27] [true,true,true,false] rfl).k7 5 6 7 8 9 10 11 rfl
 refine Tn (Fr (Vm S rfl rfl ?_));clear S;intro a S
 obtain ⟨r8,hr8,h⟩:=Eg h
 refine Nl 0 S rfl (fun _=>.own u9 41 3 r8.length (r8.flatMap Cv.enc)) (fun _=>Cw (vs:=[u9]) ⟨(S.tm rfl),trivial⟩ call8) (Mq _ u9 r7.1 (S.holds _ (List.mem_of_getElem? (i:=0) rfl)) _ hr8) rfl (fun _ _ _ h=>⟨h.1,fun _ hc=>hc⟩) ?_;clear S;intro v8 a w14 hv8 hk14 hn8 S
 replace hv8:=hv8.2
 subst hv8
 refine Dz (lv S (Fp isAgg27 sizeOf27 (off:=0) (o:=0) (part:=[u2.val,iV r1.1.Relay,iV r1.1.Most]) rfl rfl (S.tm rfl) (S.cellsAt (i:=2) rfl)) rfl fun a S=>Vm S rfl rfl ?_);clear S;intro a S
 obtain ⟨r9,hr9,h⟩:=Eg h
 have hz12:=S.keep.size
 refine Dc S (fun _=>Cw (vs:=[.agg (R27.enc (R27.mk u2 r1.1.Relay r1.1.Most)).toArray,v2]) ⟨(S.tm rfl),(S.tm rfl),trivial⟩ call9) (Xv _ r1.1 (R27.mk u2 r1.1.Relay r1.1.Most) ⟨u2,rfl,(hs1.mono (View.le_trans (View.le_trans (View.le_trans (View.le_trans (View.le_trans hl2 hl3) hl4) hl5) hl6) (S.le_new Eo)))⟩ v2 r2.1 ((Ha An.enc_ok hs2).mono (View.le_trans (View.le_trans (View.le_trans (View.le_trans hl3 hl4) hl5) hl6) (S.le_new Eo))) _ hr9) rfl ?_;clear S;intro v9 a w15 hv9 hk15 hn9 S
 obtain ⟨u10,rfl,ho8⟩:=hv9
 replace S:=S.take hn9 hz12 ho8
 refine Vm S rfl rfl fun a S=>Vq S Er rfl rfl rfl fun a S=>Vq S Er rfl rfl rfl fun a S=>Va S rfl rfl fun a S=>Va S rfl rfl fun a S=>Ld ?_
 replace S:=(S.nl [.own u10 41 3 r9.1.length (r9.1.flatMap Cv.enc),.blk b4 [u6.val,iV r4.1.Relay,iV r4.1.Most] 27,.blk b3 [u2.val,iV r1.1.Relay,iV r1.1.Most] 27] [true,false,true,true] rfl).k7 5 6 7 8 9 10 13 rfl
 refine Tn (Fr (Vm S rfl rfl ?_));clear S;intro a S
 obtain ⟨r10,hr10,h⟩:=Eg h
 refine Nl 0 S rfl (fun _=>.own u10 41 3 r10.length (r10.flatMap Cv.enc)) (fun _=>Cw (vs:=[u10]) ⟨(S.tm rfl),trivial⟩ call8) (Mq _ u10 r9.1 (S.holds _ (List.mem_of_getElem? (i:=0) rfl)) _ hr10) rfl (fun _ _ _ h=>⟨h.1,fun _ hc=>hc⟩) ?_;clear S;intro v10 a w16 hv10 hk16 hn10 S
 replace hv10:=hv10.2
 subst hv10
 refine Dz (lv S (Lp bt_44 (pv:=[(0,sV Ke),(1,iV 3000)]) ⟨rfl,rfl,rfl,rfl,trivial⟩ (cs:=[sV Ke,iV 3000]) (by kernel_rfl)) rfl fun a S=>Ed S underlying45 sizeOf44 zeroValue44 rfl rfl (pv:=[(0,.agg #[sV Ke,iV 3000])]) ⟨rfl,(S.tm rfl),trivial⟩ (cs:=[sV Ke,iV 3000]) (by kernel_rfl) rfl ?_);clear S;intro a w17 b5 hz13 hk17 S
 refine Vm S rfl rfl ?_;clear S;intro a S
 obtain ⟨r11,hr11,h⟩:=Eg h
 have hz14:=S.keep.size
 refine Dc S (fun _=>Cw (vs:=[.slice (some ⟨b5,0,none⟩) 1 1,v3,iV 2]) ⟨(S.tm rfl),(S.tm rfl),rfl,trivial⟩ call10) (Xb _ (.slice (some ⟨b5,0,none⟩) 1 1) [(Jr.mk Ke 3000)] (Jm Jr.enc_ok S (i:=0) rfl rfl rfl rfl ((Gn (e':=.blk b5 [sV Ke,iV 3000] 44)) _ rfl)) v3 r3.1 ((Ha Dn.enc_ok hs3).mono (View.le_trans (View.le_trans (View.le_trans hl4 hl5) hl6) (S.le_new Eo))) 2 _ hr11) rfl ?_;clear S;intro v11 a w18 hv11 hk18 hn11 S
 obtain ⟨u11,rfl,ho9⟩:=hv11
 replace S:=S.take hn11 hz14 ho9
 refine Vm S rfl rfl fun a S=>Vq S Er rfl rfl rfl fun a S=>Vq S Er rfl rfl rfl fun a S=>Va S rfl rfl fun a S=>Va S rfl rfl fun a S=>Ld ?_
 replace S:=(S.nl [.own u11 41 3 r11.1.length (r11.1.flatMap Cv.enc),.blk b4 [u6.val,iV r4.1.Relay,iV r4.1.Most] 27,.blk b3 [u2.val,iV r1.1.Relay,iV r1.1.Most] 27] [true,false,false,true,true] rfl).k7 5 6 7 8 9 10 15 rfl
 refine Tn (Fr (Vm S rfl rfl ?_));clear S;intro a S
 obtain ⟨r12,hr12,h⟩:=Eg h
 refine Nl 0 S rfl (fun _=>.own u11 41 3 r12.length (r12.flatMap Cv.enc)) (fun _=>Cw (vs:=[u11]) ⟨(S.tm rfl),trivial⟩ call8) (Mq _ u11 r11.1 (S.holds _ (List.mem_of_getElem? (i:=0) rfl)) _ hr12) rfl (fun _ _ _ h=>⟨h.1,fun _ hc=>hc⟩) ?_;clear S;intro v12 a w19 hv12 hk19 hn12 S
 replace hv12:=hv12.2
 subst hv12
 refine Dz (Vf Qo S rfl rfl fun a S=>Vl isAgg22 2 S rfl rfl rfl rfl fun a S=>Vf Qo S rfl rfl fun a S=>Vl isAgg22 1 S rfl rfl rfl rfl ?_);clear S;intro a S
 obtain ⟨r13,hr13,h⟩:=Eg h
 refine Dc S (fun _=>Cw (vs:=[u2.val,u6.val]) ⟨(S.tm rfl),(S.tm rfl),trivial⟩ call11) (Ux _ u2.val r1.1.Points (hs1.mono (View.le_trans (View.le_trans (View.le_trans (View.le_trans (View.le_trans hl2 hl3) hl4) hl5) hl6) (S.le_new Eo))) u6.val r4.1.Points (hs4.mono (View.le_trans (View.le_trans hl5 hl6) (S.le_new Eo))) _ hr13) rfl ?_;clear S;intro v13 a w20 hv13 hk20 hn13 S
 subst hv13
 refine Vm S rfl rfl ?_;clear S;intro a S
 obtain ⟨j1,hj1,h⟩:=Ec h
 refine Hw 4 (fun a w'=>∃ c1,j1 c1 = some r ∧ Keep [] w20 w' ∧ Sx w [] φ6 [.own u11 41 3 r12.length (r12.flatMap Cv.enc),.blk b4 [u6.val,iV r4.1.Relay,iV r4.1.Most] 27,.blk b3 [u2.val,iV r1.1.Relay,iV r1.1.Most] 27] [(7,v3),(10,v6),(69,bV c1)] 78 a w') ?_ ?_
 ·rcases Bool.eq_false_or_eq_true r13 with hb1 | hb1
  ·replace h:=Om h hb1
   refine Cz S rfl rfl rfl hb1 (Vm S rfl rfl fun a S=>Cz S rfl rfl rfl hb1 (Vm S rfl rfl fun a S=>Cz S rfl rfl rfl hb1 ?_))
   obtain ⟨r14,hr14,h⟩:=Eg h
   refine Dc S (fun _=>Cw (vs:=[v2,v5]) ⟨(S.tm rfl),(S.tm rfl),trivial⟩ call12) (Sz _ v2 r2.1 ((Ha An.enc_ok hs2).mono (View.le_trans (View.le_trans (View.le_trans (View.le_trans hl3 hl4) hl5) hl6) (S.le_new Eo))) v5 r5.1 ((Ha An.enc_ok hs5).mono (View.le_trans hl6 (S.le_new Eo))) _ hr14) rfl ?_;clear S;intro v14 a w22 hv14 hk21 hn14 S
   subst hv14
   exact lv S (Hg hb1 (S.tm rfl) (S.tm rfl)) rfl fun a S=>Dl (⟨_,h,hk21,S.nf [true,true,true] rfl (subR rfl)⟩)
  ·replace h:=On h hb1
   iterate 3 (refine Gm S rfl rfl rfl (Jt hb1) rfl ?_ rfl;clear S;intro a S)
   exact Vq S (Hh true hb1) rfl rfl rfl fun a S=>Dl (⟨_,h,Keep.refl _ _,S.nf [true,true,true] rfl (subR rfl)⟩)
 clear S h;rintro a w21 ⟨c1,h,hk22,S⟩;rw [hj1] at h;clear hj1 j1
 refine Vm S rfl rfl ?_;clear S;intro a S
 obtain ⟨j2,hj2,h⟩:=Ec h
 refine Hw 4 (fun a w'=>∃ c2,j2 c2 = some r ∧ Keep [] w21 w' ∧ Sx w [] φ6 [.own u11 41 3 r12.length (r12.flatMap Cv.enc),.blk b4 [u6.val,iV r4.1.Relay,iV r4.1.Most] 27,.blk b3 [u2.val,iV r1.1.Relay,iV r1.1.Most] 27] [(74,bV c2)] 78 a w') ?_ ?_
 ·rcases Bool.eq_false_or_eq_true c1 with hb2 | hb2
  ·replace h:=Om h hb2
   refine Cz S rfl rfl rfl hb2 (Vm S rfl rfl fun a S=>Cz S rfl rfl rfl hb2 (Vm S rfl rfl fun a S=>Cz S rfl rfl rfl hb2 ?_))
   obtain ⟨r15,hr15,h⟩:=Eg h
   refine Dc S (fun _=>Cw (vs:=[v3,v6]) ⟨(S.tm rfl),(S.tm rfl),trivial⟩ call13) (Ta _ v3 r3.1 ((Ha Dn.enc_ok hs3).mono (View.le_trans (View.le_trans (View.le_trans hl4 hl5) hl6) (S.le_new Eo))) v6 r6.1 ((Ha Dn.enc_ok hs6).mono (S.le_new Eo)) _ hr15) rfl ?_;clear S;intro v15 a w24 hv15 hk23 hn15 S
   subst hv15
   exact lv S (Hg hb2 (S.tm rfl) (S.tm rfl)) rfl fun a S=>Dl (⟨_,h,hk23,S.nf [true,true,true] rfl ⟨rfl,trivial⟩⟩)
  ·replace h:=On h hb2
   iterate 3 (refine Gm S rfl rfl rfl (Jt hb2) rfl ?_ rfl;clear S;intro a S)
   exact Vq S (Hh true hb2) rfl rfl rfl fun a S=>Dl (⟨_,h,Keep.refl _ _,S.nf [true,true,true] rfl ⟨rfl,trivial⟩⟩)
 clear S h;rintro a w23 ⟨c2,h,hk24,S⟩;rw [hj2] at h;clear hj2 j2
 refine Vm S rfl rfl ?_;clear S;intro a S
 obtain ⟨j3,hj3,h⟩:=Ec h
 refine Hw 2 (fun a w'=>∃ c3,j3 c3 = some r ∧ Keep [] w23 w' ∧ Sx w [] φ6 [.own u11 41 3 r12.length (r12.flatMap Cv.enc),.blk b4 [u6.val,iV r4.1.Relay,iV r4.1.Most] 27,.blk b3 [u2.val,iV r1.1.Relay,iV r1.1.Most] 27] [(77,bV c3)] 78 a w') ?_ ?_
 ·rcases Bool.eq_false_or_eq_true c2 with hb3 | hb3
  ·replace h:=Om h hb3
   refine Cz S rfl rfl rfl hb3 ?_
   obtain ⟨r16,hr16,h⟩:=Eg h
   refine Dc S (fun _=>Cw (vs:=[]) trivial call14) (Vo _ _ hr16) rfl ?_;clear S;intro v16 a w26 hv16 hk25 hn16 S
   subst hv16
   exact lv S (Hg hb3 (S.tm rfl) (S.tm rfl)) rfl fun a S=>Dl (⟨_,h,hk25,S.nf [true,true,true] rfl ⟨rfl,trivial⟩⟩)
  ·replace h:=On h hb3
   exact Gm S rfl rfl rfl (Jt hb3) rfl (fun a S=>Vq S (Hh true hb3) rfl rfl rfl fun a S=>Dl (⟨_,h,Keep.refl _ _,S.nf [true,true,true] rfl ⟨rfl,trivial⟩⟩)) rfl
 clear S h;rintro a w25 ⟨c3,h,hk26,S⟩;rw [hj3] at h;clear hj3 j3
 refine Va S rfl rfl fun a S=>Dl (wp_ret ?_)
 obtain rfl:=Option.some.inj h
 exact Dx S results3 rfl rfl
end Go.Proofs.YtfdcgchgkojfiaaGreatDoor
