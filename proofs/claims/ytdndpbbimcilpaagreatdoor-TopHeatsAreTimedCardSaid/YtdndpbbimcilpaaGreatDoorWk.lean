/- Each Go function computes its plain twin,by program. -/
import Derived.Test.YtdndpbbimcilpaaGreatDoorWk2
namespace Go.Proofs.YtdndpbbimcilpaaGreatDoor
open Go
open Go.Proofs.Tryz
theorem CQ (w : World) (Aa : El) (Cd : Value) (Ca : List (List ByteArray)) (Cq : List RS) (Cj : Slc (view w []) 1 Cd (Cq.map RS.enc)) (Ck : Mx (AK (view w [])) Ca Cq) (r : (List Df)) (h : Ww Aa Ca = some r) :
    Calls prog 93 [.agg (El.enc Aa).toArray,Cd].toArray w (Ret w [] fun τ v _=>Pq τ 47 3 v r.length (r.flatMap Df.enc)):=by
 refine Fe func93 rfl ntmps93 rfl fun a S=>?_
 unfold Ww at h
 replace S:=S.k2 0 1 rfl
 refine Fr (Ks S (S.tm rfl) (cs:=(El.enc Aa)) rfl rfl ?_);clear S;intro a w1 b1 hz1 hk1 S
 refine Vk S rfl rfl fun a S=>Dz (lv S (Fb isAgg38 sizeOf38 (off:=0) (o:=0) (part:=(El.enc Aa)) rfl rfl (S.tm rfl) (S.cellsAt (i:=0) rfl)) rfl ?_);clear S;intro a S
 obtain ⟨r1,hr1,h⟩:=Ej h
 have hz2:=S.keep.size
 refine Dd S (fun _=>Cz (vs:=[.agg (El.enc Aa).toArray]) ⟨(S.tm rfl),trivial⟩ call120) (BO _ Aa _ hr1) rfl ?_;clear S;intro v1 a w2 hv1 hk2 hn1 S
 obtain ⟨φ1,hl1,hm1,S⟩:=S.see' hn1 hz2
 have hs1:=hv1.mono hm1
 refine Va S rfl rfl fun a S=>Dz (Vk S rfl rfl ?_);clear S;intro a S
 replace S:=S.nil 47 3
 refine Dl (Fs (Fr (Vm S rfl rfl fun a S=>lv S (Fi Wx (S.tm rfl) (LR Cj Ck)) rfl fun a S=>lv S (Rm rfl) rfl fun a S=>Dl ?_)))
 replace S:=(S.nl [.own (.slice none 0 0) 47 3 ([] : List Df).length (([] : List Df).flatMap Df.enc)] [true,false] rfl).k5 5 6 13 14 15 rfl
 obtain ⟨j1,hj1,h⟩:=Eo h
 refine Dy (fun a w'=>∃ x1 : List Df,∃ v2 : Value,j1 x1 = some r ∧ Sx w [] φ1 [.own v2 47 3 x1.length (x1.flatMap Df.enc)] [(6,v2)] 43 a w') ?_ ?_
 ·refine wp_block (Gs (fun (ys1 : List (List ByteArray)) a w'=>∃ i1 : Nat,∃ x1 : List Df,∃ v2 : Value,(∃ dn,Ca = dn ++ ys1 ∧ dn.length = i1) ∧ Lz r1 j1 ys1 i1 x1 = some r ∧ Sx w [] φ1 [.own v2 47 3 x1.length (x1.flatMap Df.enc)] [(5,v1),(6,v2),(13,Cd),(14,iV (Ca.length : Int)),(15,iV (i1 : Int))] 43 a w') List.length Ca ⟨0,([] : List Df),(.slice none 0 0),⟨[],rfl,rfl⟩,h,S.nf [true] rfl (subR rfl)⟩ ?_)
  clear S h;rintro ys1 a w3 ⟨i1,x1,v2,⟨dn,hd1,hi1⟩,h,S⟩
  cases ys1 with
  | nil =>
   rw [Lz.eq_1] at h
   refine Fr (Vb S Ev rfl rfl rfl fun a S=>Ld ?_)
   replace S:=S.k6 5 6 13 14 15 16 rfl
   exact Tn (Fs (wp_cond_false ((S.tm rfl).trans (congrArg Value.bool (Ke hd1 hi1))) (wp_exit (Dt (Dt (Gh (Tn (⟨x1,v2,h,S.nf [true] rfl ⟨rfl,trivial⟩⟩))))))))
  | cons y1 ys1 =>
   rw [Lz.eq_2] at h
   refine Fr (Vb S Ev rfl rfl rfl fun a S=>Ld ?_)
   replace S:=S.k6 5 6 13 14 15 16 rfl
   refine Tn (Fs (wp_cond_true ((S.tm rfl).trans (congrArg Value.bool (Ja hd1 hi1))) (wp_skip (Tn (Fs (wp_block (Fr (Vm S rfl rfl ?_))))))));clear S;intro a S
   obtain ⟨r2,hg1,hl2⟩:=Mx.at Ck (Jx hd1 hi1)
   have hs2:=hl2
   obtain ⟨b2,o1,hm2,hr2⟩:=Fu (a:=a) (x:=.tmp 13) (y:=.tmp 15) (ty:=0) Wx Cj hg1 rfl (S.tm rfl) (S.tm rfl)
   refine lv S (hr2 _) rfl ?_;clear S;intro a S
   clear hr2
   refine lv S (Gj isAgg45 (off:=o1) (o:=0) (S.tm rfl) (hm2.at S.emb0) rfl) rfl fun a S=>Va S rfl rfl fun a S=>Va S rfl rfl fun a S=>Dz (Vm S rfl rfl fun a S=>lv S (Fi Nc (S.tm rfl) (Fm hs2)) rfl fun a S=>lv S (Rm rfl) rfl fun a S=>Ld ?_)
   refine Tn ?_
   replace S:=S.k9 5 6 7 13 14 15 20 21 22 rfl
   obtain ⟨j2,hj2,h⟩:=Eo h
   refine Dy (fun a w'=>∃ x2 : List Df,∃ v3 : Value,j2 x2 = some r ∧ Sx w [] φ1 [.own v3 47 3 x2.length (x2.flatMap Df.enc)] [(5,v1),(6,v3),(13,Cd),(14,iV (Ca.length : Int)),(15,iV (i1 : Int))] 43 a w') ?_ ?_
   ·refine wp_block (Gs (fun (ys2 : List ByteArray) a w'=>∃ i2 : Nat,∃ x2 : List Df,∃ v3 : Value,(∃ dn,y1 = dn ++ ys2 ∧ dn.length = i2) ∧ Ly r1 i1 j2 ys2 i2 x2 = some r ∧ Sx w [] φ1 [.own v3 47 3 x2.length (x2.flatMap Df.enc)] [(5,v1),(6,v3),(7,iV (i1 : Int)),(13,Cd),(14,iV (Ca.length : Int)),(15,iV (i1 : Int)),(20,r2.val),(21,iV (y1.length : Int)),(22,iV (i2 : Int))] 43 a w') List.length y1 ⟨0,x1,v2,⟨[],rfl,rfl⟩,h,S.nf [true] rfl (subR rfl)⟩ ?_)
    clear S h;rintro ys2 a w5 ⟨i2,x2,v3,⟨dn,hd2,hi2⟩,h,S⟩
    cases ys2 with
    | nil =>
     rw [Ly.eq_1] at h
     refine Fr (Vb S Ev rfl rfl rfl fun a S=>Ld ?_)
     replace S:=S.k10 5 6 7 13 14 15 20 21 22 23 rfl
     exact Tn (Fs (wp_cond_false ((S.tm rfl).trans (congrArg Value.bool (Ke hd2 hi2))) (wp_exit (Dt (Dt (Gh (Tn (⟨x2,v3,h,S.nf [true] rfl (subR rfl)⟩))))))))
    | cons y2 ys2 =>
     rw [Ly.eq_2] at h
     refine Fr (Vb S Ev rfl rfl rfl fun a S=>Ld ?_)
     replace S:=S.k10 5 6 7 13 14 15 20 21 22 23 rfl
     refine Tn (Fs (wp_cond_true ((S.tm rfl).trans (congrArg Value.bool (Ja hd2 hi2))) (wp_skip (Tn (Fs (wp_block (Fr (Vm S rfl rfl ?_))))))));clear S;intro a S
     obtain ⟨b3,o2,hm3,hr3⟩:=Fu (a:=a) (x:=.tmp 20) (y:=.tmp 22) (ty:=0) Nc hs2 (Jx hd2 hi2) rfl (S.tm rfl) (S.tm rfl)
     refine lv S (hr3 _) rfl ?_;clear S;intro a S
     clear hr3
     refine lv S (Gj isAgg9 (off:=o2) (o:=0) (S.tm rfl) (hm3.at S.emb0) rfl) rfl fun a S=>Va S rfl rfl fun a S=>Va S rfl rfl fun a S=>Ld ?_
     replace S:=S.k11 5 6 7 9 10 13 14 15 20 21 22 rfl
     refine Tn (Fg ?_)
     iterate 3 (refine Vm S rfl rfl ?_;clear S;intro a S)
     refine Vq S Fa rfl rfl rfl fun a S=>Vm S rfl rfl fun a S=>Vm S rfl rfl ?_;clear S;intro a S
     obtain ⟨hc1,h⟩:=Gu h
     obtain ⟨b4,o3,hm4,hr4⟩:=Fu (a:=a) (x:=.tmp 31) (y:=.tmp 32) (ty:=0) Jr (Fv Fd hs1) (Dc hc1).1 (Dc hc1).2 (S.tm rfl) (S.tm rfl)
     refine lv S (hr4 _) rfl ?_;clear S;intro a S
     clear hr4
     refine lv S (Gj isAgg3 (off:=o3) (o:=0) (S.tm rfl) (hm4.at S.emb) rfl) rfl fun a S=>lv S (Mw bt_47 (pv:=[(0,sV y2),(1,iV (W ((i1 : Int) + 1))),(2,iV (nth r1 (i2 : Int)))]) ⟨rfl,(S.tm rfl),rfl,(S.tm rfl),rfl,(S.tm rfl),trivial⟩ (cs:=[sV y2,iV (W ((i1 : Int) + 1)),iV (nth r1 (i2 : Int))]) (by kernel_rfl)) rfl fun a S=>Dv S underlying41 sizeOf47 zeroValue47 rfl rfl (pv:=[(0,.agg #[sV y2,iV (W ((i1 : Int) + 1)),iV (nth r1 (i2 : Int))])]) ⟨rfl,(S.tm rfl),trivial⟩ (cs:=[sV y2,iV (W ((i1 : Int) + 1)),iV (nth r1 (i2 : Int))]) (by kernel_rfl) rfl ?_;clear S;intro a w7 b5 hz3 hk3 S
     obtain ⟨hc2,h⟩:=Gu h
     refine Lq Tf Df.enc_ok S (S.tm rfl) (i:=1) rfl (S.tm rfl) (j:=0) rfl (ys:=[(Df.mk y2 (W ((i1 : Int) + 1)) (nth r1 (i2 : Int)))]) rfl rfl rfl rfl (by have:=Nm hc2;omega) rfl ?_;clear S;intro v4 a w8 hk4 S
     refine Va S rfl rfl fun a S=>Ld ?_
     replace S:=(S.nl [.own v4 47 3 (x2 ++ [(Df.mk y2 (W ((i1 : Int) + 1)) (nth r1 (i2 : Int)))]).length ((x2 ++ [(Df.mk y2 (W ((i1 : Int) + 1)) (nth r1 (i2 : Int)))]).flatMap Df.enc)] [false,true] rfl).k9 5 6 7 13 14 15 20 21 22 rfl
     exact Gy (Tn (Fg (Vq S Fa rfl rfl rfl fun a S=>Vm S rfl rfl fun a S=>Dl (⟨ys2,⟨i2 + 1,(x2 ++ [(Df.mk y2 (W ((i1 : Int) + 1)) (nth r1 (i2 : Int)))]),v4,⟨_,(hd2).trans (List.append_cons _ _ _),by simp [hi2]⟩,h,S.nf [true] rfl ⟨rfl,rfl,rfl,rfl,rfl,rfl,rfl,rfl,(congrArg (fun z=>some (Value.int .i64 z)) (Jb hd2 hi2 (Jy hs2))),trivial⟩⟩,Nat.lt_succ_self _⟩))))
   clear S h;rintro a w6 ⟨x2,v3,h,S⟩;rw [hj2] at h;clear hj2 j2
   exact Gy (Tn (Fg (Vq S Fa rfl rfl rfl fun a S=>Vm S rfl rfl fun a S=>Dl (⟨ys1,⟨i1 + 1,x2,v3,⟨_,(hd1).trans (List.append_cons _ _ _),by simp [hi1]⟩,h,S.nf [true] rfl ⟨rfl,rfl,rfl,rfl,(congrArg (fun z=>some (Value.int .i64 z)) (Jb hd1 hi1 (LS Cj Ck))),trivial⟩⟩,Nat.lt_succ_self _⟩))))
 clear S h;rintro a w4 ⟨x1,v2,h,S⟩;rw [hj1] at h;clear hj1 j1
 refine Tn (Fr (Vm S rfl rfl ?_));clear S;intro a S
 obtain ⟨r3,hr5,h⟩:=Ej h
 refine Km 0 S rfl (fun _=>.own v2 47 3 r3.length (r3.flatMap Df.enc)) (fun _=>Cz (vs:=[v2]) ⟨(S.tm rfl),trivial⟩ call121) (Zg _ v2 x1 (S.holds _ (List.mem_of_getElem? (i:=0) rfl)) _ hr5) rfl (fun _ _ _ h=>⟨h.1,fun _ hc=>hc⟩) ?_;clear S;intro v5 a w9 hv2 hk5 hn2 S
 replace hv2:=hv2.2
 subst hv2
 refine Dz (Vm S rfl rfl fun a S=>Va S rfl rfl fun a S=>Dl (wp_ret ?_))
 obtain rfl:=Option.some.inj h
 exact Ds S results93 rfl (Rg S (i:=0) rfl rfl)
def rsN : RS:=⟨.slice none 0 0,rfl⟩
theorem rsN_map (n : Nat) : (List.replicate n rsN).map (·.val) = List.replicate n (.slice none 0 0):=by rw [List.map_replicate];rfl
theorem MD {l : List RS} {j : Nat} {v : Value} (h : v.oneCell' = true) : (l.set j ⟨v,h⟩).map (·.val) = (l.map (·.val)).set j v:=by rw [List.map_set]
theorem FW (w : World) (Aa : El) (Ac : Value) (Ae : List Dh) (Ah : Slc (view w []) 2 Ac (Ae.map Dh.enc)) (r : (List Df) × Int) (h : Md Aa Ae = some r) :
    Calls prog 53 [.agg (El.enc Aa).toArray,Ac].toArray w (Ret w [] fun τ v _=>∃ u1 : Value,v = .tuple #[u1,iV r.2] ∧ Pq τ 47 3 u1 r.1.length (r.1.flatMap Df.enc)):=by
 refine Fe func53 rfl ntmps53 rfl fun a S=>?_
 unfold Md at h
 replace S:=S.k2 0 1 rfl
 refine Fr (Ks S (S.tm rfl) (cs:=(El.enc Aa)) rfl rfl ?_);clear S;intro a w1 b1 hz1 hk1 S
 refine Vk S rfl rfl fun a S=>Vk S rfl rfl fun a S=>Dz (lv S (Fb isAgg38 sizeOf38 (off:=0) (o:=0) (part:=(El.enc Aa)) rfl rfl (S.tm rfl) (S.cellsAt (i:=0) rfl)) rfl fun a S=>Vm S rfl rfl fun a S=>lv S (Fi Qk (S.tm rfl) (Fm Ah)) rfl ?_);clear S;intro a S
 obtain ⟨r1,hr1,h⟩:=Ej h
 have hz2:=S.keep.size
 refine Dd S (fun _=>Cz (vs:=[.agg (El.enc Aa).toArray,iV (Ae.length : Int)]) ⟨(S.tm rfl),(S.tm rfl),trivial⟩ call90) (DL _ Aa (Ae.length : Int) _ hr1) rfl ?_;clear S;intro v1 a w2 hv1 hk2 hn1 S
 obtain ⟨u1,rfl,ho1⟩:=hv1
 obtain ⟨φ1,hl1,hm1,S⟩:=S.see' hn1 hz2
 have hs1:=ho1.mono hm1
 refine Vm S rfl rfl fun a S=>Vq S Gq rfl rfl rfl fun a S=>Vq S Gq rfl rfl rfl fun a S=>Va S rfl rfl fun a S=>Va S rfl rfl fun a S=>Dl (Fs (Fr (Vm S rfl rfl fun a S=>Vq S Kg rfl rfl rfl fun a S=>Ld ?_)))
 replace S:=(S.nl [.blk b1 (El.enc Aa) 38] [true] rfl).k5 1 2 6 7 30 rfl
 refine Tn (Fc h (S.tm rfl) (fun hb1 h=>?_) (fun hb1 h=>?_))
 ·refine Fr (Vm S rfl rfl fun a S=>Vk S rfl rfl fun a S=>Va S rfl rfl fun a S=>Dl (wp_ret (Db ?_)))
  obtain rfl:=Option.some.inj h
  exact Ku S results53 rfl rfl ⟨_,rfl,(Ps _ _ _)⟩
 ·refine wp_skip (Tn (Fr (Vm S rfl rfl fun a S=>lv S (Fi Jr (S.tm rfl) (Fm (Fv Fd hs1))) rfl ?_)));clear S;intro a S
  obtain ⟨hc1,h⟩:=Gu h
  refine l_make (Z:=rsN) S Wx RS.enc_ok (by kernel_rfl) rfl rfl (S.tm rfl) (mk_lo hc1) (mk_hi hc1) rfl ?_;clear S;intro a w3 b2 hz3 hk3 S
  replace S:=Sx.nilRows (T:=9) (k:=1) (enc:=Jw) ((r1.1.length : Int).toNat) S
  rw [← rsN_map] at S
  refine Va S rfl rfl fun a S=>Dz (Vf IX S rfl rfl fun a S=>Vl isAgg3 1 S rfl rfl rfl rfl fun a S=>Vm S rfl rfl fun a S=>lv S (Fi Jr (S.tm rfl) (Fm (Fv Fd hs1))) rfl fun a S=>Vb S FA rfl rfl rfl fun a S=>Va S rfl rfl fun a S=>Ld ?_)
  replace S:=(S.nl ([.own (.slice (some ⟨b2,0,none⟩) ((r1.1.length : Int).toNat) ((r1.1.length : Int).toNat)) 45 1 (List.replicate ((r1.1.length : Int).toNat) rsN).length ((List.replicate ((r1.1.length : Int).toNat) rsN).flatMap RS.enc),.blk b1 (El.enc Aa) 38] ++ Jz 9 1 Jw ((List.replicate ((r1.1.length : Int).toNat) rsN).map (·.val)) (List.replicate ((r1.1.length : Int).toNat) ([] : List ByteArray))) [true,true] rfl).k5 1 2 6 8 9 rfl
  refine Tn (Fs (Fr (Vm S rfl rfl fun a S=>Vq S Ev rfl rfl rfl fun a S=>Dl ?_)))
  obtain ⟨j1,hj1,h⟩:=Eo h
  refine Dy (fun a w'=>∃ x1 : Int,j1 x1 = some r ∧ Sx w [] φ1 ([.own (.slice (some ⟨b2,0,none⟩) ((r1.1.length : Int).toNat) ((r1.1.length : Int).toNat)) 45 1 (List.replicate ((r1.1.length : Int).toNat) rsN).length ((List.replicate ((r1.1.length : Int).toNat) rsN).flatMap RS.enc),.blk b1 (El.enc Aa) 38] ++ Jz 9 1 Jw ((List.replicate ((r1.1.length : Int).toNat) rsN).map (·.val)) (List.replicate ((r1.1.length : Int).toNat) ([] : List ByteArray))) [(1,Ac),(2,.pointer (some ⟨b1,0,none⟩)),(6,u1),(8,(.slice (some ⟨b2,0,none⟩) ((r1.1.length : Int).toNat) ((r1.1.length : Int).toNat))),(9,iV x1)] 144 a w') ?_ ?_
  ·refine Fc h (S.tm rfl) (fun hb2 h=>?_) (fun hb2 h=>?_)
   ·exact Fg (Vk S rfl rfl fun a S=>Dl (⟨0,h,S.nf [true,true] rfl (subR rfl)⟩))
   ·exact wp_skip (Tn (⟨Wi Aa.Circles (r1.1.length : Int),h,S.nf [true,true] rfl (subR rfl)⟩))
  clear S h;rintro a w4 ⟨x1,h,S⟩;rw [hj1] at h;clear hj1 j1
  refine Tn (Fr (Vm S rfl rfl fun a S=>lv S (Fi Jr (S.tm rfl) (Fm (Fv Fd hs1))) rfl fun a S=>Vm S rfl rfl fun a S=>Vb S Gp rfl rfl rfl fun a S=>Va S rfl rfl fun a S=>Vk S rfl rfl fun a S=>Dl ?_))
  refine Fs (Fr (Vm S rfl rfl fun a S=>Vm S rfl rfl ?_));clear S;intro a S
  obtain ⟨hc2,h⟩:=Gu h
  obtain ⟨v2,hs2,hr2⟩:=CG (a:=a) (x:=.tmp 46) (y:=.tmp 47) (ty:=22) Jr (Fv Fd hs1) (S.tm rfl) (S.tm rfl) hc2
  refine lv S (hr2 _) rfl ?_;clear S;intro a S
  clear hr2
  refine lv S (Fi Jr (S.tm rfl) (Fm hs2)) rfl fun a S=>lv S (Rm rfl) rfl fun a S=>Ld ?_
  replace S:=S.k9 1 2 6 8 10 11 48 49 50 rfl
  refine Tn ?_
  obtain ⟨j2,hj2,h⟩:=Eo h
  refine Dy (fun a w'=>∃ x2 : Int,j2 x2 = some r ∧ Sx w [] φ1 ([.own (.slice (some ⟨b2,0,none⟩) ((r1.1.length : Int).toNat) ((r1.1.length : Int).toNat)) 45 1 (List.replicate ((r1.1.length : Int).toNat) rsN).length ((List.replicate ((r1.1.length : Int).toNat) rsN).flatMap RS.enc),.blk b1 (El.enc Aa) 38] ++ Jz 9 1 Jw ((List.replicate ((r1.1.length : Int).toNat) rsN).map (·.val)) (List.replicate ((r1.1.length : Int).toNat) ([] : List ByteArray))) [(1,Ac),(2,.pointer (some ⟨b1,0,none⟩)),(6,u1),(8,(.slice (some ⟨b2,0,none⟩) ((r1.1.length : Int).toNat) ((r1.1.length : Int).toNat))),(10,iV (W ((r1.1.length : Int) - x1))),(11,iV x2)] 144 a w') ?_ ?_
  ·refine wp_block (Gs (fun (ys1 : List Int) a w'=>∃ i1 : Nat,∃ x2 : Int,(∃ dn,cut r1.1 (W ((r1.1.length : Int) - x1)) r1.1.length = dn ++ ys1 ∧ dn.length = i1) ∧ Ns j2 ys1 i1 x2 = some r ∧ Sx w [] φ1 ([.own (.slice (some ⟨b2,0,none⟩) ((r1.1.length : Int).toNat) ((r1.1.length : Int).toNat)) 45 1 (List.replicate ((r1.1.length : Int).toNat) rsN).length ((List.replicate ((r1.1.length : Int).toNat) rsN).flatMap RS.enc),.blk b1 (El.enc Aa) 38] ++ Jz 9 1 Jw ((List.replicate ((r1.1.length : Int).toNat) rsN).map (·.val)) (List.replicate ((r1.1.length : Int).toNat) ([] : List ByteArray))) [(1,Ac),(2,.pointer (some ⟨b1,0,none⟩)),(6,u1),(8,(.slice (some ⟨b2,0,none⟩) ((r1.1.length : Int).toNat) ((r1.1.length : Int).toNat))),(10,iV (W ((r1.1.length : Int) - x1))),(11,iV x2),(48,v2),(49,iV ((cut r1.1 (W ((r1.1.length : Int) - x1)) r1.1.length).length : Int)),(50,iV (i1 : Int))] 144 a w') List.length (cut r1.1 (W ((r1.1.length : Int) - x1)) r1.1.length) ⟨0,0,⟨[],rfl,rfl⟩,h,S.nf [true,true] rfl (subR rfl)⟩ ?_)
   clear S h;rintro ys1 a w5 ⟨i1,x2,⟨dn,hd1,hi1⟩,h,S⟩
   cases ys1 with
   | nil =>
    rw [Ns.eq_1] at h
    refine Fr (Vb S Ev rfl rfl rfl fun a S=>Ld ?_)
    replace S:=S.k10 1 2 6 8 10 11 48 49 50 51 rfl
    exact Tn (Fs (wp_cond_false ((S.tm rfl).trans (congrArg Value.bool (Ke hd1 hi1))) (wp_exit (Dt (Dt (Gh (Tn (⟨x2,h,S.nf [true,true] rfl (subR rfl)⟩))))))))
   | cons y1 ys1 =>
    rw [Ns.eq_2] at h
    refine Fr (Vb S Ev rfl rfl rfl fun a S=>Ld ?_)
    replace S:=S.k10 1 2 6 8 10 11 48 49 50 51 rfl
    refine Tn (Fs (wp_cond_true ((S.tm rfl).trans (congrArg Value.bool (Ja hd1 hi1))) (wp_skip (Tn (Fs (wp_block (Fs (Fg ?_))))))))
    obtain ⟨b3,o1,hm2,hr3⟩:=Fu (a:=a) (x:=.tmp 48) (y:=.tmp 50) (ty:=0) Jr hs2 (Jx hd1 hi1) rfl (S.tm rfl) (S.tm rfl)
    refine lv S (hr3 _) rfl ?_;clear S;intro a S
    clear hr3
    refine lv S (Gj isAgg3 (off:=o1) (o:=0) (S.tm rfl) (hm2.at S.emb) rfl) rfl fun a S=>Va S rfl rfl fun a S=>Dl (Fg (Vm S rfl rfl fun a S=>Vm S rfl rfl fun a S=>Vb S Fa rfl rfl rfl fun a S=>Va S rfl rfl fun a S=>Ld ?_))
    replace S:=S.k9 1 2 6 8 10 11 48 49 50 rfl
    exact Gy (Tn (Fg (Vq S Fa rfl rfl rfl fun a S=>Vm S rfl rfl fun a S=>Dl (⟨ys1,⟨i1 + 1,W (x2 + y1),⟨_,(hd1).trans (List.append_cons _ _ _),by simp [hi1]⟩,h,S.nf [true,true] rfl ⟨rfl,rfl,rfl,rfl,rfl,rfl,rfl,rfl,(congrArg (fun z=>some (Value.int .i64 z)) (Jb hd1 hi1 (Jy hs2))),trivial⟩⟩,Nat.lt_succ_self _⟩))))
  clear S h;rintro a w6 ⟨x2,h,S⟩;rw [hj2] at h;clear hj2 j2
  refine Tn (Fr (Vm S rfl rfl ?_));clear S;intro a S
  obtain ⟨r2,hr4,h⟩:=Ej h
  have hz4:=S.keep.size
  refine Dd S (fun _=>Cz (vs:=[Ac]) ⟨(S.tm rfl),trivial⟩ call91) (BN _ Ac Ae (Ah.mono (S.le_arg Ey)) _ hr4) rfl ?_;clear S;intro v3 a w7 hv2 hk4 hn2 S
  obtain ⟨φ2,hl2,hm3,S⟩:=S.see' hn2 hz4
  have hs3:=hv2.mono hm3
  refine Va S rfl rfl fun a S=>Dz (Vm S rfl rfl fun a S=>lv S (Fi Jr (S.tm rfl) (Fm (Fv Fd hs1))) rfl fun a S=>Vq S Gp rfl rfl rfl fun a S=>Va S rfl rfl fun a S=>Dl ?_)
  refine Fs (Fr (Vm S rfl rfl fun a S=>Vm S rfl rfl ?_));clear S;intro a S
  obtain ⟨hc3,h⟩:=Gu h
  obtain ⟨v4,hs4,hr5⟩:=Zo (a:=a) (x:=.tmp 63) (y':=.tmp 64) (ty:=70) Qk (Fv Dh.enc_ok hs3) (S.tm rfl) (S.tm rfl) hc3
  refine lv S (hr5 _) rfl ?_;clear S;intro a S
  clear hr5
  refine lv S (Fi Qk (S.tm rfl) (Fm hs4)) rfl fun a S=>lv S (Rm rfl) rfl fun a S=>Ld ?_
  replace S:=S.k10 2 6 8 10 11 14 15 65 66 67 rfl
  refine Tn ?_
  obtain ⟨j3,hj3,h⟩:=Eo h
  refine Dy (fun a w'=>∃ x3 : List (List ByteArray),∃ v5 : Value,∃ rsx3 : List RS,j3 x3 = some r ∧ rsx3.length = x3.length ∧ Sx w [] φ2 ([.own v5 45 1 rsx3.length (rsx3.flatMap RS.enc),.blk b1 (El.enc Aa) 38] ++ Jz 9 1 Jw (rsx3.map (·.val)) x3) [(2,.pointer (some ⟨b1,0,none⟩)),(6,u1),(8,v5),(10,iV (W ((r1.1.length : Int) - x1))),(11,iV x2),(14,v3)] 144 a w') ?_ ?_
  ·refine wp_block (Gs (fun (ys2 : List Dh) a w'=>∃ i2 : Nat,∃ x3 : List (List ByteArray),∃ x4 : Int,∃ v5 : Value,∃ rsx3 : List RS,(∃ dn,cut r2 0 x2 = dn ++ ys2 ∧ dn.length = i2) ∧ Nu r1 x1 j3 ys2 i2 x3 x4 = some r ∧ rsx3.length = x3.length ∧ Sx w [] φ2 ([.own v5 45 1 rsx3.length (rsx3.flatMap RS.enc),.blk b1 (El.enc Aa) 38] ++ Jz 9 1 Jw (rsx3.map (·.val)) x3) [(2,.pointer (some ⟨b1,0,none⟩)),(6,u1),(8,v5),(10,iV (W ((r1.1.length : Int) - x1))),(11,iV x2),(14,v3),(15,iV x4),(65,v4),(66,iV ((cut r2 0 x2).length : Int)),(67,iV (i2 : Int))] 144 a w') List.length (cut r2 0 x2) ⟨0,(List.replicate ((r1.1.length : Int).toNat) ([] : List ByteArray)),W ((r1.1.length : Int) - 1),(.slice (some ⟨b2,0,none⟩) ((r1.1.length : Int).toNat) ((r1.1.length : Int).toNat)),(List.replicate ((r1.1.length : Int).toNat) rsN),⟨[],rfl,rfl⟩,h,by simp,S.nf [true,true] rfl (subR rfl)⟩ ?_)
   clear S h;rintro ys2 a w8 ⟨i2,x3,x4,v5,rsx3,⟨dn,hd2,hi2⟩,h,hlx,S⟩
   cases ys2 with
   | nil =>
    rw [Nu.eq_1] at h
    refine Fr (Vb S Ev rfl rfl rfl fun a S=>Ld ?_)
    replace S:=S.k11 2 6 8 10 11 14 15 65 66 67 68 rfl
    exact Tn (Fs (wp_cond_false ((S.tm rfl).trans (congrArg Value.bool (Ke hd2 hi2))) (wp_exit (Dt (Dt (Gh (Tn (⟨x3,v5,rsx3,h,hlx,S.nf [true,true] rfl (subR rfl)⟩))))))))
   | cons y2 ys2 =>
    rw [Nu.eq_2] at h
    refine Fr (Vb S Ev rfl rfl rfl fun a S=>Ld ?_)
    replace S:=S.k11 2 6 8 10 11 14 15 65 66 67 68 rfl
    refine Tn (Fs (wp_cond_true ((S.tm rfl).trans (congrArg Value.bool (Ja hd2 hi2))) (wp_skip (Tn (Fs (wp_block (Fs (Fg ?_))))))))
    obtain ⟨b4,o2,hm4,hr6⟩:=Fu (a:=a) (x:=.tmp 65) (y:=.tmp 67) (ty:=0) Qk hs4 (Jx hd2 hi2) rfl (S.tm rfl) (S.tm rfl)
    refine lv S (hr6 _) rfl ?_;clear S;intro a S
    clear hr6
    refine lv S (Fb isAgg113 sizeOf113 (off:=o2) (o:=0) (part:=(Dh.enc y2)) rfl rfl (S.tm rfl) (hm4.at S.emb)) rfl fun a S=>Ic S zeroValue113 (cs:=[sV Cx,iV 0]) rfl rfl ?_;clear S;intro a w10 b5 hz5 hk5 S
    refine Ep S (S.tm rfl) (S.tm rfl) (i:=0) (off:=0) rfl sizeOf113 (vs:=(Dh.enc y2)) rfl rfl rfl rfl ?_;clear S;intro w11 hk6 S
    refine Dl (Fs ?_)
    replace S:=(S.nl ([.blk b5 (Dh.enc y2) 113,.own v5 45 1 rsx3.length (rsx3.flatMap RS.enc),.blk b1 (El.enc Aa) 38] ++ Jz 9 1 Jw (rsx3.map (·.val)) x3) [true,true,true] rfl).k11 2 6 8 10 11 14 15 17 65 66 67 rfl
    obtain ⟨j4,hj4,h⟩:=Eo h
    refine Dy (fun a w'=>∃ x5 : Int,j4 x5 = some r ∧ Sx w [] φ2 ([.blk b5 (Dh.enc y2) 113,.own v5 45 1 rsx3.length (rsx3.flatMap RS.enc),.blk b1 (El.enc Aa) 38] ++ Jz 9 1 Jw (rsx3.map (·.val)) x3) [(2,.pointer (some ⟨b1,0,none⟩)),(6,u1),(8,v5),(10,iV (W ((r1.1.length : Int) - x1))),(11,iV x2),(14,v3),(15,iV x5),(17,.pointer (some ⟨b5,0,none⟩)),(65,v4),(66,iV ((cut r2 0 x2).length : Int)),(67,iV (i2 : Int))] 144 a w') ?_ ?_
    ·refine wp_block (Gs (fun (m1 : Nat) a w'=>∃ x5 : Int,Nt x3 r1 x1 j4 m1 x5 = some r ∧ Sx w [] φ2 ([.blk b5 (Dh.enc y2) 113,.own v5 45 1 rsx3.length (rsx3.flatMap RS.enc),.blk b1 (El.enc Aa) 38] ++ Jz 9 1 Jw (rsx3.map (·.val)) x3) [(2,.pointer (some ⟨b1,0,none⟩)),(6,u1),(8,v5),(10,iV (W ((r1.1.length : Int) - x1))),(11,iV x2),(14,v3),(15,iV x5),(17,.pointer (some ⟨b5,0,none⟩)),(65,v4),(66,iV ((cut r2 0 x2).length : Int)),(67,iV (i2 : Int))] 144 a w') id 4611686018427387904 ⟨x4,h,S.nf [true,true,true] rfl (subR rfl)⟩ ?_)
     clear S h;rintro m1 a w12 ⟨x5,h,S⟩
     cases m1 with
     | zero=>rw [Nt.eq_1] at h;cases h
     | succ m1 =>
      rw [Nt.eq_2] at h
      refine Fs (Fs (Fo [] ([]) Tryz.mixed S rfl (by kernel_rfl) ?_));clear S;intro w14 hk7 hsel S
      refine Js [0,1,2,3,4,5,6,7,8,9] hsel (by kernel_rfl) rfl ?_
      clear hsel
      refine Fj S rfl (Rm (S.tm rfl)) rfl fun a S=>Fj S rfl (Rm (S.tm rfl)) rfl ?_;clear S;intro a S
      obtain ⟨hc4,h⟩:=Gu h
      have hx3:=(Dc hc4).1
      obtain ⟨rw1,hr3⟩ : ∃ q,rsx3[x5.toNat]? = some q:=⟨_,List.getElem?_eq_getElem (by rw [hlx];exact (List.getElem?_eq_some_iff.1 hx3).1)⟩
      have hv3 : (rsx3.map (·.val))[x5.toNat]? = some rw1.val:=by rw [List.getElem?_map,hr3];rfl
      obtain ⟨b6,hg1,hr7⟩:=Eu (a:=a) (x:=.tmp 71) (y:=.tmp 72) (ty:=0) Wx RS.enc_ok S (i:=1) rfl hr3 (Dc hc4).2 (S.tm rfl) (S.tm rfl)
      refine Fj S rfl (hr7 _) rfl ?_;clear S;intro a S
      clear hr7
      refine Fj S rfl (Gj isAgg45 (off:=x5.toNat * 1) (o:=0) (cs:=[rw1.val]) (v:=rw1.val) (S.tm rfl) (show Nn w14 b6 _ [rw1.val] from Mu (enc:=RS.enc) RS.enc_ok S (i:=1) rfl hg1 hr3) rfl) rfl fun a S=>Fj S rfl (Fi Nc (S.tm rfl) (Iz (S.own_at (rows_ix (F:=[_,_,_]) hv3 hx3)))) rfl ?_;clear S;intro a S
      iterate 2 (refine Fj S rfl (Rm (S.tm rfl)) rfl ?_;clear S;intro a S)
      obtain ⟨hc5,h⟩:=Gu h
      obtain ⟨b7,o4,hm6,hr8⟩:=Fu (a:=a) (x:=.tmp 76) (y:=.tmp 77) (ty:=0) Jr (Fv Fd hs1) (Dc hc5).1 (Dc hc5).2 (S.tm rfl) (S.tm rfl)
      refine Fj S rfl (hr8 _) rfl ?_;clear S;intro a S
      clear hr8
      refine Fj S rfl (Gj isAgg3 (off:=o4) (o:=0) (S.tm rfl) ((hm6.mono hl2).at S.emb) rfl) rfl fun a S=>Fj S rfl (Hj (S.tm rfl) (S.tm rfl)) rfl fun a S=>Jc ?_
      replace S:=S.k12 2 6 8 10 11 14 15 17 65 66 67 80 rfl
      refine Tn (Fc h (S.tm rfl) (fun hb3 h=>?_) (fun hb3 h=>?_))
      ·refine wp_skip (Tn (wp_block (Fg ?_)))
       iterate 3 (refine Vm S rfl rfl ?_;clear S;intro a S)
       refine lv S (Fi Jr (S.tm rfl) (Fm (Fv Fd hs1))) rfl fun a S=>Dd S (fun _=>Cz (vs:=[iV x5,iV (W ((r1.1.length : Int) - x1)),iV (r1.1.length : Int)]) ⟨(S.tm rfl),(S.tm rfl),(S.tm rfl),trivial⟩ call92) (Xi _ x5 (W ((r1.1.length : Int) - x1)) (r1.1.length : Int) _ rfl) rfl ?_;clear S;intro v6 a w15 hv3 hk8 hn3 S
       subst hv3
       refine Va S rfl rfl fun a S=>Ld ?_
       replace S:=S.k11 2 6 8 10 11 14 15 17 65 66 67 rfl
       exact Gy (Tn (⟨m1,⟨(Qz x5 (W ((r1.1.length : Int) - x1)) (r1.1.length : Int)),h,S.nf [true,true,true] rfl ⟨rfl,rfl,rfl,rfl,rfl,rfl,rfl,rfl,rfl,rfl,rfl,trivial⟩⟩,Nat.lt_succ_self _⟩))
      ·exact wp_exit (Dt (Dt (Gh (Tn (⟨x5,h,S.nf [true,true,true] rfl (subR rfl)⟩)))))
    clear S h;rintro a w13 ⟨x5,h,S⟩;rw [hj4] at h;clear hj4 j4
    refine Tn (Fs ?_)
    obtain ⟨hc6,h⟩:=Gu h
    obtain ⟨hc7,h⟩:=Gu h
    have hxA:=(Dc hc6).1
    generalize hrowA : nth x3 x5 = rowA at h hc7 hxA
    have hjzA:=(Dc hc6).2
    obtain ⟨rwA,hrA⟩ : ∃ q,rsx3[x5.toNat]? = some q:=⟨_,List.getElem?_eq_getElem (by rw [hlx];exact (List.getElem?_eq_some_iff.1 hxA).1)⟩
    have hvA : (rsx3.map (·.val))[x5.toNat]? = some rwA.val:=by rw [List.getElem?_map,hrA];rfl
    replace S : Sx w [] φ2 ([.blk b5 (Dh.enc y2) 113,.own v5 45 1 rsx3.length (rsx3.flatMap RS.enc),.blk b1 (El.enc Aa) 38] ++ Jz 9 1 Jw (rsx3.map (·.val)) x3) _ _ _ _:=S
    replace S:=S.take_row hvA hxA
    refine Fo [11] (rwA.val.ownBlock.toList) Tryz.mixed S rfl (by kernel_rfl) ?_;clear S;intro w18 hk11 hsel S
    refine Ee 0 S hsel rfl rfl (by kernel_rfl) (by kernel_rfl) rfl (fun _=>(Rm (S.tm rfl))) fun a S=>Ee 1 S hsel rfl rfl (by kernel_rfl) (by kernel_rfl) rfl (fun _=>(Rm (S.tm rfl))) fun a S=>Ee 2 S hsel rfl rfl (by kernel_rfl) (by kernel_rfl) rfl (fun _=>(Rm (S.tm rfl))) fun a S=>Ee 3 S hsel rfl rfl (by kernel_rfl) (by kernel_rfl) rfl (fun _=>(Rm (S.tm rfl))) ?_;clear S;intro a S
    obtain ⟨baA,hgaA,hraA⟩:=Eu (a:=a) (x:=.tmp 88) (y:=.tmp 89) (ty:=0) Wx RS.enc_ok S (i:=2) rfl hrA hjzA (S.tm rfl) (S.tm rfl)
    refine Ee 4 S hsel rfl rfl (by kernel_rfl) (by kernel_rfl) rfl (fun _=>(hraA _)) ?_;clear S;intro a S
    clear hraA
    refine De 5 S hsel rfl (by kernel_rfl) (by kernel_rfl) (by kernel_rfl) (by kernel_rfl) rfl (fun _ hw=>(Gj isAgg45 (off:=x5.toNat * 1) (o:=0) (cs:=[rwA.val]) (v:=rwA.val) (S.tm rfl) ((show Mem _ baA _ [rwA.val] from Kk (enc:=RS.enc) RS.enc_ok S (i:=2) rfl hgaA hrA (Jl (i:=0) (j:=2) S rfl rfl rfl)).kept hw) rfl)) fun a S=>Ee 6 S hsel rfl rfl (by kernel_rfl) (by kernel_rfl) rfl (fun _=>(Fp Wy (S.tm rfl))) fun a S=>De 7 S hsel rfl (by kernel_rfl) (by kernel_rfl) (by kernel_rfl) (by kernel_rfl) rfl (fun _ hw=>(Gj isAgg9 (off:=0) (o:=0) (S.tm rfl) ((S.blk_mem (i:=1) (cells:=(Dh.enc y2)) (b:=b5) (T:=113) rfl (Jl (i:=0) (j:=1) S rfl rfl rfl)).kept hw) rfl)) fun a S=>Ff 8 (by kernel_rfl) rfl (Dv S underlying45 sizeOf9 zeroValue9 rfl rfl (pv:=[(0,sV y2.Who)]) ⟨rfl,(S.tm rfl),trivial⟩ (cs:=[sV y2.Who]) (by kernel_rfl) rfl ?_);clear S;intro a wbA bbA hzbA hkbA S
    refine Ld (Gl (Keep.none hkbA) (Ff 9 (by kernel_rfl) rfl ?_))
    refine Lq Nc Hi S (S.tm rfl) (i:=1) rfl (S.tm rfl) (j:=0) rfl (ys:=[y2.Who]) rfl rfl rfl rfl (by have:=Nm hc7;simp;omega) rfl ?_;clear S;intro vnA a wcA hkcA S
    refine Ld (Gl hkcA ?_)
    obtain ⟨bdA,hgdA,hrdA⟩:=Eu (a:=a) (x:=.tmp 86) (y:=.tmp 87) (ty:=0) Wx RS.enc_ok S (i:=3) rfl hrA hjzA (S.tm rfl) (S.tm rfl)
    refine Ee 10 S hsel rfl rfl (by kernel_rfl) (by kernel_rfl) rfl (fun _=>(hrdA _)) ?_;clear S;intro a S
    clear hrdA
    have honeA : vnA.oneCell' = true:=Iu.one (Iz (S.own_at (i:=1) rfl))
    have hcelA : vnA.cells.toList = [vnA]:=Iu.cells (Iz (S.own_at (i:=1) rfl))
    refine Rf 11 (v5.ownBlock.toList) rfl (by kernel_rfl) rfl (Le (c:=0) (j:=x5.toNat) (⟨vnA,honeA⟩ : RS) RS.enc_ok S (S.tm rfl) (S.tm rfl) (i:=3) rfl hgdA hrA sizeOf45 (vs:=[vnA]) hcelA rfl rfl (Rk honeA rfl) rfl ?_);clear S;intro weA hkeA S
    refine Ld (Rh (Se (by kernel_rfl) ?_))
    clear hsel
    replace S : Sx w [] φ2 (.own vnA 9 1 (rowA ++ [y2.Who]).length ((rowA ++ [y2.Who]).flatMap Jw) :: ([.own v5 45 1 (rsx3.set x5.toNat ⟨vnA,honeA⟩).length ((rsx3.set x5.toNat ⟨vnA,honeA⟩).flatMap RS.enc),.blk b1 (El.enc Aa) 38] ++ Jz 9 1 Jw ((rsx3.map (·.val)).set x5.toNat (.slice none 0 0)) (x3.set x5.toNat []))) _ _ _ _:=S.nl _ [false,true,false,true,true] rfl
    replace S:=S.put_row (BS hvA) (BS hxA)
    rw [List.set_set,List.set_set,← MD honeA] at S
    replace S:=S.k10 2 6 8 10 11 14 15 65 66 67 rfl
    have hlnA : (rsx3.set x5.toNat ⟨vnA,honeA⟩).length = (x3.set x5.toNat (rowA ++ [y2.Who])).length:=by rw [List.length_set,List.length_set,hlx]
    refine Tn (Fg ?_)
    iterate 3 (refine Vm S rfl rfl ?_;clear S;intro a S)
    refine lv S (Fi Jr (S.tm rfl) (Fm (Fv Fd hs1))) rfl fun a S=>Dd S (fun _=>Cz (vs:=[iV x5,iV (W ((r1.1.length : Int) - x1)),iV (r1.1.length : Int)]) ⟨(S.tm rfl),(S.tm rfl),(S.tm rfl),trivial⟩ call92) (Xi _ x5 (W ((r1.1.length : Int) - x1)) (r1.1.length : Int) _ rfl) rfl ?_;clear S;intro v7 a w21 hv4 hk14 hn4 S
    subst hv4
    refine Va S rfl rfl fun a S=>Ld ?_
    replace S:=S.k10 2 6 8 10 11 14 15 65 66 67 rfl
    exact Gy (Tn (Fg (Vq S Fa rfl rfl rfl fun a S=>Vm S rfl rfl fun a S=>Dl (⟨ys2,⟨i2 + 1,(x3.set x5.toNat (rowA ++ [y2.Who])),(Qz x5 (W ((r1.1.length : Int) - x1)) (r1.1.length : Int)),v5,_,⟨_,(hd2).trans (List.append_cons _ _ _),by simp [hi2]⟩,h,hlnA,S.nf [true,true] rfl ⟨rfl,rfl,rfl,rfl,rfl,rfl,rfl,rfl,rfl,(congrArg (fun z=>some (Value.int .i64 z)) (Jb hd2 hi2 (Jy hs4))),trivial⟩⟩,Nat.lt_succ_self _⟩))))
  clear S h;rintro a w9 ⟨x3,v5,rsx3,h,hlx,S⟩;rw [hj3] at h;clear hj3 j3
  refine Tn (Fr (Vm S rfl rfl fun a S=>Vm S rfl rfl ?_));clear S;intro a S
  obtain ⟨hc8,h⟩:=Gu h
  obtain ⟨v8,hs5,hr13⟩:=CG (a:=a) (x:=.tmp 103) (y:=.tmp 104) (ty:=70) Qk (Fv Dh.enc_ok hs3) (S.tm rfl) (S.tm rfl) hc8
  refine lv S (hr13 _) rfl ?_;clear S;intro a S
  clear hr13
  refine Va S rfl rfl fun a S=>Dl (Fs (Fr (Vm S rfl rfl fun a S=>Vq S Gp rfl rfl rfl fun a S=>Va S rfl rfl fun a S=>Dl ?_)))
  replace S:=S.k5 2 6 8 18 19 rfl
  obtain ⟨j5,hj5,h⟩:=Eo h
  refine Dy (fun a w'=>∃ x6 : List (List ByteArray),∃ v9 : Value,∃ rsx6 : List RS,j5 x6 = some r ∧ rsx6.length = x6.length ∧ Sx w [] φ2 ([.own v9 45 1 rsx6.length (rsx6.flatMap RS.enc),.blk b1 (El.enc Aa) 38] ++ Jz 9 1 Jw (rsx6.map (·.val)) x6) [(2,.pointer (some ⟨b1,0,none⟩)),(8,v9)] 144 a w') ?_ ?_
  ·refine wp_block (Gs (fun (m2 : Nat) a w'=>∃ x6 : List (List ByteArray),∃ x7 : List Dh,∃ x8 : Int,∃ v9 : Value,∃ v10 : Value,∃ rsx6 : List RS,Nw r1 j5 m2 x6 x7 x8 = some r ∧ rsx6.length = x6.length ∧ Slc φ2 2 v10 (x7.map Dh.enc) ∧ Sx w [] φ2 ([.own v9 45 1 rsx6.length (rsx6.flatMap RS.enc),.blk b1 (El.enc Aa) 38] ++ Jz 9 1 Jw (rsx6.map (·.val)) x6) [(2,.pointer (some ⟨b1,0,none⟩)),(6,u1),(8,v9),(18,v10),(19,iV x8)] 144 a w') id (((W ((W ((r1.1.length : Int) - x1)) - 1)) - 0).toNat + 2) ⟨x3,cut r2 x2 r2.length,W ((W ((r1.1.length : Int) - x1)) - 1),v5,v8,rsx3,h,hlx,hs5,S.nf [true,true] rfl (subR rfl)⟩ ?_)
   clear S h;rintro m2 a w22 ⟨x6,x7,x8,v9,v10,rsx6,h,hl6,hs6,S⟩
   cases m2 with
   | zero=>rw [Nw.eq_1] at h;cases h
   | succ m2 =>
    rw [Nw.eq_2] at h
    refine Fs (Fr (Vm S rfl rfl fun a S=>Vq S Nj rfl rfl rfl fun a S=>Dl (Fc h (S.tm rfl) (fun hb4 h=>?_) (fun hb4 h=>?_))))
    ·refine wp_skip (Tn (Fs (wp_block (Fs (Fs (Fg ?_))))))
     iterate 3 (refine Vm S rfl rfl ?_;clear S;intro a S)
     obtain ⟨hc9,h⟩:=Gu h
     obtain ⟨b12,o9,hm11,hr14⟩:=Fu (a:=a) (x:=.tmp 113) (y:=.tmp 114) (ty:=0) Jr (Fv Fd hs1) (Dc hc9).1 (Dc hc9).2 (S.tm rfl) (S.tm rfl)
     refine lv S (hr14 _) rfl ?_;clear S;intro a S
     clear hr14
     refine lv S (Gj isAgg3 (off:=o9) (o:=0) (S.tm rfl) ((hm11.mono hl2).at S.emb) rfl) rfl ?_;clear S;intro a S
     obtain ⟨hc10,h⟩:=Gu h
     obtain ⟨v11,hs7,hr15⟩:=Zo (a:=a) (x:=.tmp 112) (y':=.tmp 116) (ty:=70) Qk hs6 (S.tm rfl) (S.tm rfl) hc10
     refine lv S (hr15 _) rfl ?_;clear S;intro a S
     clear hr15
     refine lv S (Fi Qk (S.tm rfl) (Fm hs7)) rfl fun a S=>lv S (Rm rfl) rfl fun a S=>Ld ?_
     replace S:=S.k8 2 6 8 18 19 117 118 119 rfl
     refine Tn ?_
     obtain ⟨j6,hj6,h⟩:=Eo h
     refine Dy (fun a w'=>∃ x9 : List (List ByteArray),∃ v12 : Value,∃ rsx9 : List RS,j6 x9 = some r ∧ rsx9.length = x9.length ∧ Sx w [] φ2 ([.own v12 45 1 rsx9.length (rsx9.flatMap RS.enc),.blk b1 (El.enc Aa) 38] ++ Jz 9 1 Jw (rsx9.map (·.val)) x9) [(2,.pointer (some ⟨b1,0,none⟩)),(6,u1),(8,v12),(18,v10),(19,iV x8)] 144 a w') ?_ ?_
     ·refine wp_block (Gs (fun (ys3 : List Dh) a w'=>∃ i5 : Nat,∃ x9 : List (List ByteArray),∃ v12 : Value,∃ rsx9 : List RS,(∃ dn,cut x7 0 (nth r1.1 x8) = dn ++ ys3 ∧ dn.length = i5) ∧ Nv x8 j6 ys3 i5 x9 = some r ∧ rsx9.length = x9.length ∧ Sx w [] φ2 ([.own v12 45 1 rsx9.length (rsx9.flatMap RS.enc),.blk b1 (El.enc Aa) 38] ++ Jz 9 1 Jw (rsx9.map (·.val)) x9) [(2,.pointer (some ⟨b1,0,none⟩)),(6,u1),(8,v12),(18,v10),(19,iV x8),(117,v11),(118,iV ((cut x7 0 (nth r1.1 x8)).length : Int)),(119,iV (i5 : Int))] 144 a w') List.length (cut x7 0 (nth r1.1 x8)) ⟨0,x6,v9,rsx6,⟨[],rfl,rfl⟩,h,hl6,S.nf [true,true] rfl (subR rfl)⟩ ?_)
      clear S h;rintro ys3 a w24 ⟨i5,x9,v12,rsx9,⟨dn,hd5,hi5⟩,h,hl9,S⟩
      cases ys3 with
      | nil =>
       rw [Nv.eq_1] at h
       refine Fr (Vb S Ev rfl rfl rfl fun a S=>Ld ?_)
       replace S:=S.k9 2 6 8 18 19 117 118 119 120 rfl
       exact Tn (Fs (wp_cond_false ((S.tm rfl).trans (congrArg Value.bool (Ke hd5 hi5))) (wp_exit (Dt (Dt (Gh (Tn (⟨x9,v12,rsx9,h,hl9,S.nf [true,true] rfl (subR rfl)⟩))))))))
      | cons y3 ys3 =>
       rw [Nv.eq_2] at h
       refine Fr (Vb S Ev rfl rfl rfl fun a S=>Ld ?_)
       replace S:=S.k9 2 6 8 18 19 117 118 119 120 rfl
       refine Tn (Fs (wp_cond_true ((S.tm rfl).trans (congrArg Value.bool (Ja hd5 hi5))) (wp_skip (Tn (Fs (wp_block (Fs (Fg ?_))))))))
       obtain ⟨b13,o10,hm12,hr16⟩:=Fu (a:=a) (x:=.tmp 117) (y:=.tmp 119) (ty:=0) Qk hs7 (Jx hd5 hi5) rfl (S.tm rfl) (S.tm rfl)
       refine lv S (hr16 _) rfl ?_;clear S;intro a S
       clear hr16
       refine lv S (Fb isAgg113 sizeOf113 (off:=o10) (o:=0) (part:=(Dh.enc y3)) rfl rfl (S.tm rfl) (hm12.at S.emb)) rfl fun a S=>Ic S zeroValue113 (cs:=[sV Cx,iV 0]) rfl rfl ?_;clear S;intro a w26 b14 hz6 hk15 S
       refine Ep S (S.tm rfl) (S.tm rfl) (i:=0) (off:=0) rfl sizeOf113 (vs:=(Dh.enc y3)) rfl rfl rfl rfl ?_;clear S;intro w27 hk16 S
       refine Dl ?_
       obtain ⟨hc11,h⟩:=Gu h
       obtain ⟨hc12,h⟩:=Gu h
       have hxB:=(Dc hc11).1
       generalize hrowB : nth x9 x8 = rowB at h hc12 hxB
       have hjzB:=(Dc hc11).2
       obtain ⟨rwB,hrB⟩ : ∃ q,rsx9[x8.toNat]? = some q:=⟨_,List.getElem?_eq_getElem (by rw [hl9];exact (List.getElem?_eq_some_iff.1 hxB).1)⟩
       have hvB : (rsx9.map (·.val))[x8.toNat]? = some rwB.val:=by rw [List.getElem?_map,hrB];rfl
       replace S : Sx w [] φ2 ([.blk b14 (Dh.enc y3) 113,.own v12 45 1 rsx9.length (rsx9.flatMap RS.enc),.blk b1 (El.enc Aa) 38] ++ Jz 9 1 Jw (rsx9.map (·.val)) x9) _ _ _ _:=S
       replace S:=S.take_row hvB hxB
       refine Fo [11] (rwB.val.ownBlock.toList) Tryz.mixed S rfl (by kernel_rfl) ?_;clear S;intro w30 hk19 hsel S
       refine Ee 0 S hsel rfl rfl (by kernel_rfl) (by kernel_rfl) rfl (fun _=>(Rm (S.tm rfl))) fun a S=>Ee 1 S hsel rfl rfl (by kernel_rfl) (by kernel_rfl) rfl (fun _=>(Rm (S.tm rfl))) fun a S=>Ee 2 S hsel rfl rfl (by kernel_rfl) (by kernel_rfl) rfl (fun _=>(Rm (S.tm rfl))) fun a S=>Ee 3 S hsel rfl rfl (by kernel_rfl) (by kernel_rfl) rfl (fun _=>(Rm (S.tm rfl))) ?_;clear S;intro a S
       obtain ⟨baB,hgaB,hraB⟩:=Eu (a:=a) (x:=.tmp 125) (y:=.tmp 126) (ty:=0) Wx RS.enc_ok S (i:=2) rfl hrB hjzB (S.tm rfl) (S.tm rfl)
       refine Ee 4 S hsel rfl rfl (by kernel_rfl) (by kernel_rfl) rfl (fun _=>(hraB _)) ?_;clear S;intro a S
       clear hraB
       refine De 5 S hsel rfl (by kernel_rfl) (by kernel_rfl) (by kernel_rfl) (by kernel_rfl) rfl (fun _ hw=>(Gj isAgg45 (off:=x8.toNat * 1) (o:=0) (cs:=[rwB.val]) (v:=rwB.val) (S.tm rfl) ((show Mem _ baB _ [rwB.val] from Kk (enc:=RS.enc) RS.enc_ok S (i:=2) rfl hgaB hrB (Jl (i:=0) (j:=2) S rfl rfl rfl)).kept hw) rfl)) fun a S=>Ee 6 S hsel rfl rfl (by kernel_rfl) (by kernel_rfl) rfl (fun _=>(Fp Wy (S.tm rfl))) fun a S=>De 7 S hsel rfl (by kernel_rfl) (by kernel_rfl) (by kernel_rfl) (by kernel_rfl) rfl (fun _ hw=>(Gj isAgg9 (off:=0) (o:=0) (S.tm rfl) ((S.blk_mem (i:=1) (cells:=(Dh.enc y3)) (b:=b14) (T:=113) rfl (Jl (i:=0) (j:=1) S rfl rfl rfl)).kept hw) rfl)) fun a S=>Ff 8 (by kernel_rfl) rfl (Dv S underlying45 sizeOf9 zeroValue9 rfl rfl (pv:=[(0,sV y3.Who)]) ⟨rfl,(S.tm rfl),trivial⟩ (cs:=[sV y3.Who]) (by kernel_rfl) rfl ?_);clear S;intro a wbB bbB hzbB hkbB S
       refine Ld (Gl (Keep.none hkbB) (Ff 9 (by kernel_rfl) rfl ?_))
       refine Lq Nc Hi S (S.tm rfl) (i:=1) rfl (S.tm rfl) (j:=0) rfl (ys:=[y3.Who]) rfl rfl rfl rfl (by have:=Nm hc12;simp;omega) rfl ?_;clear S;intro vnB a wcB hkcB S
       refine Ld (Gl hkcB ?_)
       obtain ⟨bdB,hgdB,hrdB⟩:=Eu (a:=a) (x:=.tmp 123) (y:=.tmp 124) (ty:=0) Wx RS.enc_ok S (i:=3) rfl hrB hjzB (S.tm rfl) (S.tm rfl)
       refine Ee 10 S hsel rfl rfl (by kernel_rfl) (by kernel_rfl) rfl (fun _=>(hrdB _)) ?_;clear S;intro a S
       clear hrdB
       have honeB : vnB.oneCell' = true:=Iu.one (Iz (S.own_at (i:=1) rfl))
       have hcelB : vnB.cells.toList = [vnB]:=Iu.cells (Iz (S.own_at (i:=1) rfl))
       refine Rf 11 (v12.ownBlock.toList) rfl (by kernel_rfl) rfl (Le (c:=0) (j:=x8.toNat) (⟨vnB,honeB⟩ : RS) RS.enc_ok S (S.tm rfl) (S.tm rfl) (i:=3) rfl hgdB hrB sizeOf45 (vs:=[vnB]) hcelB rfl rfl (Rk honeB rfl) rfl ?_);clear S;intro weB hkeB S
       refine Ld (Rh (Se (by kernel_rfl) ?_))
       clear hsel
       replace S : Sx w [] φ2 (.own vnB 9 1 (rowB ++ [y3.Who]).length ((rowB ++ [y3.Who]).flatMap Jw) :: ([.own v12 45 1 (rsx9.set x8.toNat ⟨vnB,honeB⟩).length ((rsx9.set x8.toNat ⟨vnB,honeB⟩).flatMap RS.enc),.blk b1 (El.enc Aa) 38] ++ Jz 9 1 Jw ((rsx9.map (·.val)).set x8.toNat (.slice none 0 0)) (x9.set x8.toNat []))) _ _ _ _:=S.nl _ [false,true,false,true,true] rfl
       replace S:=S.put_row (BS hvB) (BS hxB)
       rw [List.set_set,List.set_set,← MD honeB] at S
       replace S:=S.k8 2 6 8 18 19 117 118 119 rfl
       have hlnB : (rsx9.set x8.toNat ⟨vnB,honeB⟩).length = (x9.set x8.toNat (rowB ++ [y3.Who])).length:=by rw [List.length_set,List.length_set,hl9]
       exact Gy (Tn (Fg (Vq S Fa rfl rfl rfl fun a S=>Vm S rfl rfl fun a S=>Dl (⟨ys3,⟨i5 + 1,(x9.set x8.toNat (rowB ++ [y3.Who])),v12,_,⟨_,(hd5).trans (List.append_cons _ _ _),by simp [hi5]⟩,h,hlnB,S.nf [true,true] rfl ⟨rfl,rfl,rfl,rfl,rfl,rfl,rfl,(congrArg (fun z=>some (Value.int .i64 z)) (Jb hd5 hi5 (Jy hs7))),trivial⟩⟩,Nat.lt_succ_self _⟩))))
     clear S h;rintro a w25 ⟨x9,v12,rsx9,h,hl9,S⟩;rw [hj6] at h;clear hj6 j6
     refine Tn (Fg ?_)
     iterate 3 (refine Vm S rfl rfl ?_;clear S;intro a S)
     obtain ⟨hc13,h⟩:=Gu h
     obtain ⟨b19,o15,hm17,hr21⟩:=Fu (a:=a) (x:=.tmp 136) (y:=.tmp 137) (ty:=0) Jr (Fv Fd hs1) (Dc hc13).1 (Dc hc13).2 (S.tm rfl) (S.tm rfl)
     refine lv S (hr21 _) rfl ?_;clear S;intro a S
     clear hr21
     refine lv S (Gj isAgg3 (off:=o15) (o:=0) (S.tm rfl) ((hm17.mono hl2).at S.emb) rfl) rfl ?_;clear S;intro a S
     obtain ⟨hc14,h⟩:=Gu h
     obtain ⟨v13,hs8,hr22⟩:=CG (a:=a) (x:=.tmp 135) (y:=.tmp 139) (ty:=70) Qk hs6 (S.tm rfl) (S.tm rfl) hc14
     refine lv S (hr22 _) rfl ?_;clear S;intro a S
     clear hr22
     exact Va S rfl rfl fun a S=>Ld (Gy (Tn (Fg (Vm S rfl rfl fun a S=>Vq S Gp rfl rfl rfl fun a S=>Va S rfl rfl fun a S=>Dl (⟨m2,⟨x9,cut x7 (nth r1.1 x8) x7.length,W (x8 - 1),v12,v13,rsx9,h,hl9,hs8,S.nf [true,true] rfl ⟨rfl,rfl,rfl,rfl,rfl,trivial⟩⟩,Nat.lt_succ_self _⟩)))))
    ·exact wp_exit (Dt (Dt (Gh (Tn (⟨x6,v9,rsx6,h,hl6,S.nf [true,true] rfl (subR rfl)⟩)))))
  clear S h;rintro a w23 ⟨x6,v9,rsx6,h,hl6,S⟩;rw [hj5] at h;clear hj5 j5
  obtain ⟨φ3,hl3,hrows,S⟩:=Sx.seeRows rfl (by rw [List.length_map];exact hl6) S
  obtain ⟨φ4,hl4,hown,S⟩:=S.freezeT (xs:=rsx6) (enc:=RS.enc) (i:=0) rfl (fun _ h=>by cases h)
  have hR : Mx (AK φ4) x6 rsx6:=(CJ hrows).chg fun x y hq=>Fv Hi (hq.mono hl4)
  refine Tn (Fr (lv S (Fb isAgg38 sizeOf38 (off:=0) (o:=0) (part:=(El.enc Aa)) rfl rfl (S.tm rfl) (S.cellsAt (i:=0) rfl)) rfl fun a S=>Vm S rfl rfl ?_));clear S;intro a S
  obtain ⟨r3,hrz,h⟩:=Ej h
  have hzz:=S.keep.size
  refine Dd S (fun _=>Cz (vs:=[.agg (El.enc Aa).toArray,v9]) ⟨(S.tm rfl),(S.tm rfl),trivial⟩ call93) (CQ _ Aa v9 x6 rsx6 ((Fv RS.enc_ok hown).mono (S.le_new Ey)) (rels_45 (S.le_new Ey) hR) _ hrz) rfl ?_;clear S;intro vz a wz hvz hkz hnz S
  obtain ⟨φ5,hl5,hm5,S⟩:=S.see' hnz hzz
  have hsz:=hvz.mono hm5
  refine Va S rfl rfl fun a S=>Vk S rfl rfl fun a S=>Dl (wp_ret ?_)
  obtain rfl:=Option.some.inj h
  exact Ku S results53 rfl rfl ⟨_,rfl,((hsz).mono S.le_newer)⟩
theorem FX (w : World) (Aa : El) (Ac : Value) (Ae : List Dh) (Ah : Slc (view w []) 2 Ac (Ae.map Dh.enc)) (r : (List Df) × Int) (h : Uz Aa Ae = some r) :
    Calls prog 22 [.agg (El.enc Aa).toArray,Ac].toArray w (Ret w [] fun τ v _=>∃ u1 : Value,v = .tuple #[u1,iV r.2] ∧ Pq τ 47 3 u1 r.1.length (r.1.flatMap Df.enc)):=by
 refine Fe func22 rfl ntmps22 rfl fun a S=>?_
 unfold Uz at h
 replace S:=S.k2 0 1 rfl
 refine Fr (Ks S (S.tm rfl) (cs:=(El.enc Aa)) rfl rfl ?_);clear S;intro a w1 b1 hz1 hk1 S
 refine Vk S rfl rfl fun a S=>Vk S rfl rfl fun a S=>Dl (Fs (Fr (lv S (Fb isAgg38 sizeOf38 (off:=0) (o:=0) (part:=(El.enc Aa)) rfl rfl (S.tm rfl) (S.cellsAt (i:=0) rfl)) rfl fun a S=>Vm S rfl rfl ?_)));clear S;intro a S
 obtain ⟨r1,hr1,h⟩:=Ej h
 refine Dd S (fun _=>Cz (vs:=[.agg (El.enc Aa).toArray,Ac]) ⟨(S.tm rfl),(S.tm rfl),trivial⟩ call52) (Zz _ Aa Ac Ae (Ah.mono (S.le_arg Ey)) _ hr1) rfl ?_;clear S;intro v1 a w2 hv1 hk2 hn1 S
 subst hv1
 refine Va S rfl rfl fun a S=>Dz (Vm S rfl rfl fun a S=>Vq S Kg rfl rfl rfl fun a S=>Dl (Fc h (S.tm rfl) (fun hb1 h=>?_) (fun hb1 h=>?_)))
 ·refine Fr (Vm S rfl rfl fun a S=>Vk S rfl rfl fun a S=>Va S rfl rfl fun a S=>Dl (wp_ret (Db ?_)))
  obtain rfl:=Option.some.inj h
  exact Ku S results22 rfl rfl ⟨_,rfl,(Ps _ _ _)⟩
 ·refine wp_skip (Tn (Fr (lv S (Fb isAgg38 sizeOf38 (off:=0) (o:=0) (part:=(El.enc Aa)) rfl rfl (S.tm rfl) (S.cellsAt (i:=0) rfl)) rfl fun a S=>Vm S rfl rfl ?_)));clear S;intro a S
  obtain ⟨r2,hr2,h⟩:=Ej h
  have hz2:=S.keep.size
  refine Dd S (fun _=>Cz (vs:=[.agg (El.enc Aa).toArray,Ac]) ⟨(S.tm rfl),(S.tm rfl),trivial⟩ call53) (FW _ Aa Ac Ae (Ah.mono (S.le_arg Ey)) _ hr2) rfl ?_;clear S;intro v2 a w3 hv2 hk3 hn2 S
  obtain ⟨u1,rfl,ho1⟩:=hv2
  obtain ⟨φ1,hl1,hm1,S⟩:=S.see' hn2 hz2
  have hs1:=ho1.mono hm1
  refine Vq S Gq rfl rfl rfl fun a S=>Vq S Gq rfl rfl rfl fun a S=>Va S rfl rfl fun a S=>Va S rfl rfl fun a S=>Ld ?_
  replace S:=S.n0.k2 4 5 rfl
  refine Tn (wp_ret ?_)
  obtain rfl:=Option.some.inj h
  exact Ku S results22 rfl rfl ⟨_,rfl,((hs1).mono S.le_newer)⟩
set_option maxRecDepth 20000 in
theorem CR (w : World) (Aa : Ln) (Bu : R32) (Bz : Ru (view w []) Aa Bu) (Ci : El) (Ac : Value) (Ae : List An) (Ah : Slc (view w []) 11 Ac (Ae.map An.enc)) (Aw : ByteArray) (Bd : Int) (r : (List Df) × Int) (h : Sv Aa Ci Ae Aw Bd = some r) :
    Calls prog 7 [.agg (R32.enc Bu).toArray,.agg (El.enc Ci).toArray,Ac,sV Aw,iV Bd].toArray w (Ret w [] fun τ v _=>∃ u1 : Value,v = .tuple #[u1,iV r.2] ∧ Pq τ 47 3 u1 r.1.length (r.1.flatMap Df.enc)):=by
 obtain ⟨u1,u2,rfl,hs1,⟨u3,rfl,hs2⟩⟩:=Bz
 refine Fe func7 rfl ntmps7 rfl fun a S=>?_
 unfold Sv at h
 replace S:=S.k5 0 1 2 3 4 rfl
 refine Fr (Ks S (S.tm rfl) (cs:=[u1.val,u3.val,iV Aa.Table.Relay,iV Aa.Table.Most,iV Aa.Final.Size,iV Aa.Final.Many,iV Aa.Final.Reserves]) rfl rfl ?_);clear S;intro a w1 b1 hz1 hk1 S
 refine Ks S (S.tm rfl) (cs:=(El.enc Ci)) rfl rfl ?_;clear S;intro a w2 b2 hz2 hk2 S
 refine Vk S rfl rfl fun a S=>Vk S rfl rfl fun a S=>Dl (Fs (Fr (lv S (Fb isAgg32 sizeOf32 (off:=0) (o:=0) (part:=[u1.val,u3.val,iV Aa.Table.Relay,iV Aa.Table.Most,iV Aa.Final.Size,iV Aa.Final.Many,iV Aa.Final.Reserves]) rfl rfl (S.tm rfl) (S.cellsAt (i:=1) rfl)) rfl ?_)));clear S;intro a S
 obtain ⟨r1,hr1,h⟩:=Ej h
 refine Dd S (fun _=>Cz (vs:=[.agg (R32.enc (R32.mk u1 (R28.mk u3 Aa.Table.Relay Aa.Table.Most) Aa.Final)).toArray]) ⟨(S.tm rfl),trivial⟩ call19) (Ul _ Aa (R32.mk u1 (R28.mk u3 Aa.Table.Relay Aa.Table.Most) Aa.Final) ⟨u1,(R28.mk u3 Aa.Table.Relay Aa.Table.Most),rfl,(hs1.mono (S.le_arg Ey)),⟨u3,rfl,(hs2.mono (S.le_arg Ey))⟩⟩ _ hr1) rfl ?_;clear S;intro v1 a w3 hv1 hk3 hn1 S
 subst hv1
 refine Va S rfl rfl fun a S=>Dz (Vm S rfl rfl fun a S=>Vq S Kg rfl rfl rfl fun a S=>Dl (Fc h (S.tm rfl) (fun hb1 h=>?_) (fun hb1 h=>?_)))
 ·refine Fr (Vm S rfl rfl fun a S=>Vk S rfl rfl fun a S=>Va S rfl rfl fun a S=>Ld ?_)
  replace S:=S.n0.k2 10 11 rfl
  refine Tn (wp_ret (Db ?_))
  obtain rfl:=Option.some.inj h
  exact Ku S results7 rfl rfl ⟨_,rfl,(Ps _ _ _)⟩
 ·refine wp_skip (Tn (Fs (Fr (lv S (Fb isAgg38 sizeOf38 (off:=0) (o:=0) (part:=(El.enc Ci)) rfl rfl (S.tm rfl) (S.cellsAt (i:=0) rfl)) rfl fun a S=>Dd S (fun _=>Cz (vs:=[.agg (El.enc Ci).toArray]) ⟨(S.tm rfl),trivial⟩ call20) (Ry _ Ci _ rfl) rfl ?_))));clear S;intro v2 a w4 hv2 hk4 hn2 S
  subst hv2
  refine Va S rfl rfl fun a S=>Ld ?_
  replace S:=(S.nl [.blk b2 (El.enc Ci) 38,.blk b1 [u1.val,u3.val,iV Aa.Table.Relay,iV Aa.Table.Most,iV Aa.Final.Size,iV Aa.Final.Many,iV Aa.Final.Reserves] 32] [true,true] rfl).k6 2 3 4 5 6 13 rfl
  refine Tn (Fr (Vm S rfl rfl fun a S=>Vq S Kg rfl rfl rfl fun a S=>Dl (Fc h (S.tm rfl) (fun hb2 h=>?_) (fun hb2 h=>?_))))
  ·refine Fr (Vm S rfl rfl fun a S=>Vk S rfl rfl fun a S=>Va S rfl rfl fun a S=>Dl (wp_ret (Db ?_)))
   obtain rfl:=Option.some.inj h
   exact Ku S results7 rfl rfl ⟨_,rfl,(Ps _ _ _)⟩
  ·refine wp_skip (Tn (Fr (lv S (Fb isAgg32 sizeOf32 (off:=0) (o:=0) (part:=[u1.val,u3.val,iV Aa.Table.Relay,iV Aa.Table.Most,iV Aa.Final.Size,iV Aa.Final.Many,iV Aa.Final.Reserves]) rfl rfl (S.tm rfl) (S.cellsAt (i:=1) rfl)) rfl ?_)));clear S;intro a S
   iterate 3 (refine Vm S rfl rfl ?_;clear S;intro a S)
   obtain ⟨r2,hr2,h⟩:=Ej h
   have hz3:=S.keep.size
   refine Dd S (fun _=>Cz (vs:=[.agg (R32.enc (R32.mk u1 (R28.mk u3 Aa.Table.Relay Aa.Table.Most) Aa.Final)).toArray,Ac,sV Aw,iV Bd]) ⟨(S.tm rfl),(S.tm rfl),(S.tm rfl),(S.tm rfl),trivial⟩ call21) (GU _ (join (view w []) nov) (Rl (S.le_arg Ey) (S.le_new Ey)) Aa (R32.mk u1 (R28.mk u3 Aa.Table.Relay Aa.Table.Most) Aa.Final) ⟨u1,(R28.mk u3 Aa.Table.Relay Aa.Table.Most),rfl,(hs1.mono (le_join_left _ _)),⟨u3,rfl,(hs2.mono (le_join_left _ _))⟩⟩ Ac Ae (Ah.mono (le_join_left _ _)) Aw Bd _ hr2) rfl ?_;clear S;intro v3 a w5 hv3 hk5 hn3 S
   obtain ⟨u4,rfl,ho1⟩:=hv3
   obtain ⟨φ1,hl1,hm1,S⟩:=S.see' hn3 hz3
   have hq1:=Yf.mono (Ow (Uw hl1 hm1)) (Uw hl1 hm1) ho1
   refine Vm S rfl rfl ?_;clear S;intro a S
   iterate 3 (refine Vq S Gq rfl rfl rfl ?_;clear S;intro a S)
   refine Ic S zeroValue40 (cs:=[sV Cx,iV 0,iV 0,iV 0,iV 0,iV 0,iV 0,iV 0]) rfl rfl ?_;clear S;intro a w6 b3 hz4 hk6 S
   refine Va S rfl rfl fun a S=>Ep S (S.tm rfl) (S.tm rfl) (i:=0) (off:=0) rfl sizeOf40 (vs:=(Dg.enc r2.2.1)) rfl rfl rfl rfl ?_;clear S;intro w7 hk7 S
   refine Va S rfl rfl fun a S=>Ld ?_
   replace S:=(S.nl [.blk b2 (El.enc Ci) 38] [false,true,false] rfl).k4 3 6 14 16 rfl
   refine Tn (Fs (Fr (Vm S rfl rfl fun a S=>Vq S Kg rfl rfl rfl fun a S=>Dl (Fc h (S.tm rfl) (fun hb3 h=>?_) (fun hb3 h=>?_)))))
   ·refine Fr (Vm S rfl rfl fun a S=>Vk S rfl rfl fun a S=>Va S rfl rfl fun a S=>Dl (wp_ret (Db ?_)))
    obtain rfl:=Option.some.inj h
    exact Ku S results7 rfl rfl ⟨_,rfl,(Ps _ _ _)⟩
   ·refine wp_skip (Tn (Fs ?_))
    obtain ⟨r3,hr3,h⟩:=Ej h
    obtain ⟨b4,q1,rfl,hq2,hb4⟩:=hq1.deref hr3
    obtain ⟨u5,u9,rfl,⟨u6,u7,rfl,hs3,⟨u8,rfl,hs4⟩⟩,hs5⟩:=hq2
    replace hb4 : (join (view w []) φ1) b4 = some (.cells [u6.val,u8.val,iV r3.p_.Table.Relay,iV r3.p_.Table.Most,iV r3.p_.Final.Size,iV r3.p_.Final.Many,iV r3.p_.Final.Reserves,u9.val].toArray 139 (0,0)):=hb4
    obtain ⟨r4,hr4,h⟩:=Ej h
    obtain ⟨r5,hr5,h⟩:=Ej h
    refine Fo [] ([]) Tryz.mixed S rfl (by kernel_rfl) ?_;clear S;intro w10 hk10 hsel S
    refine De 0 S hsel rfl rfl rfl (by kernel_rfl) (by kernel_rfl) rfl (fun _ hw=>(Fb isAgg38 sizeOf38 (off:=0) (o:=0) (part:=(El.enc Ci)) rfl rfl (S.tm rfl) ((S.blk_mem (i:=0) (cells:=(El.enc Ci)) (b:=b2) (T:=38) rfl (Gt (e':=.blk b2 (El.enc Ci) 38))).kept hw))) fun a S=>De 1 S hsel rfl rfl rfl (by kernel_rfl) (by kernel_rfl) rfl (fun _ hw=>(Rm (S.tm rfl))) fun a S=>De 2 S hsel rfl rfl rfl (by kernel_rfl) (by kernel_rfl) rfl (fun _ hw=>(Rm (S.tm rfl))) fun a S=>Ff 3 (by kernel_rfl) rfl ?_
    have hz7:=S.keep.size
    refine Dd S (fun _=>Cz (vs:=[.pointer (some ⟨b4,0,none⟩),sV Aw]) ⟨(S.tm rfl),(S.tm rfl),trivial⟩ call23) (CP _ b4 r3.p_ (R32.mk u6 (R28.mk u8 r3.p_.Table.Relay r3.p_.Table.Most) r3.p_.Final) ⟨u6,(R28.mk u8 r3.p_.Table.Relay r3.p_.Table.Most),rfl,(hs3.mono (Rl (S.le_arg Ey) (S.le_new Ey))),⟨u8,rfl,(hs4.mono (Rl (S.le_arg Ey) (S.le_new Ey)))⟩⟩ u9.val r3.deeds_ (hs5.mono (Rl (S.le_arg Ey) (S.le_new Ey))) ((Rl (S.le_arg Ey) (S.le_new Ey)) _ _ hb4) Aw _ hr4) rfl ?_;clear S;intro v6 a w11 hv6 hk11 hn6 S
    obtain ⟨φ4,hl4,hm4,S⟩:=S.see' hn6 hz7
    have hs8:=hv6.mono hm4
    refine Ld (Gl hk11 (Ff 4 (by kernel_rfl) rfl ?_))
    have hz8:=S.keep.size
    refine Dd S (fun _=>Cz (vs:=[.agg (El.enc Ci).toArray,v6]) ⟨(S.tm rfl),(S.tm rfl),trivial⟩ call22) (FX _ Ci v6 r4 ((Fv Dh.enc_ok hs8).mono (S.le_new Ey)) _ hr5) rfl ?_;clear S;intro v7 a w12 hv7 hk12 hn7 S
    obtain ⟨u13,rfl,ho5⟩:=hv7
    obtain ⟨φ5,hl5,hm5,S⟩:=S.see' hn7 hz8
    have hs9:=ho5.mono hm5
    refine Ld (Gl hk12 (Js [5,6,7,8] hsel (by kernel_rfl) rfl ?_))
    clear hsel
    refine Fj S rfl (Gq (S.tm rfl) rfl) rfl fun a S=>Fj S rfl (Gq (S.tm rfl) rfl) rfl fun a S=>Fj S rfl (Ra (S.tm rfl)) rfl fun a S=>Fj S rfl (Ra (S.tm rfl)) rfl fun a S=>Jc ?_
    replace S:=S.n0.k2 10 11 rfl
    refine Tn (wp_ret ?_)
    obtain rfl:=Option.some.inj h
    exact Ku S results7 rfl rfl ⟨_,rfl,((hs9).mono S.le_newer)⟩
theorem Wm (w : World) (Ac : Value) (Ae : List Ka) (Ah : Slc (view w []) 5 Ac (Ae.map Ka.enc)) (r : Int) (h : Qu Ae = some r) :
    Calls prog 24 [Ac].toArray w (Ret w [] fun _ v _=>v = iV r):=by
 refine Fe func24 rfl ntmps24 rfl fun a S=>?_
 unfold Qu at h
 replace S:=S.k1 0 rfl
 refine Fr (Vk S rfl rfl fun a S=>Dl (Fs (Fr (Vm S rfl rfl fun a S=>lv S (Fi GO (S.tm rfl) (Fm Ah)) rfl fun a S=>Vq S It rfl rfl rfl ?_))));clear S;intro a S
 refine Dl (Fc h (S.tm rfl) (fun hb1 h=>?_) (fun hb1 h=>?_))
 ·refine Fr (Vk S rfl rfl fun a S=>Dl (wp_ret (Db ?_)))
  obtain rfl:=Option.some.inj h
  exact Ds S results24 rfl rfl
 ·refine wp_skip (Tn (Fr (Tr (κ:=ByteArray) (ν:=Bool) S rfl Value.string Value.bool ?_)));clear S;intro a w1 b1 hz1 hk1 S
  refine Va S rfl rfl fun a S=>Dl (Fs (Fr (Vm S rfl rfl fun a S=>lv S (Fi GO (S.tm rfl) (Fm Ah)) rfl fun a S=>lv S (Rm rfl) rfl fun a S=>Dl ?_)))
  replace S:=(S.nl [.map b1 (He Value.string Value.bool ([] : List (ByteArray × Bool))) ([] : List (ByteArray × Bool)).length] [true] rfl).k4 3 10 11 12 rfl
  obtain ⟨j1,hj1,h⟩:=Eo h
  refine Dy (fun a w'=>∃ x1 : List (ByteArray × Bool),j1 x1 = some r ∧ Sx w [] nov [.map b1 (He Value.string Value.bool x1) x1.length] [] 53 a w') ?_ ?_
  ·refine wp_block (Gs (fun (ys1 : List Ka) a w'=>∃ i1 : Nat,∃ x1 : List (ByteArray × Bool),(∃ dn,Ae = dn ++ ys1 ∧ dn.length = i1) ∧ Iv j1 ys1 i1 x1 = some r ∧ Sx w [] nov [.map b1 (He Value.string Value.bool x1) x1.length] [(3,.map (some b1)),(10,Ac),(11,iV (Ae.length : Int)),(12,iV (i1 : Int))] 53 a w') List.length Ae ⟨0,([] : List (ByteArray × Bool)),⟨[],rfl,rfl⟩,h,S.nf [true] rfl (subR rfl)⟩ ?_)
   clear S h;rintro ys1 a w2 ⟨i1,x1,⟨dn,hd1,hi1⟩,h,S⟩
   cases ys1 with
   | nil =>
    rw [Iv.eq_1] at h
    refine Fr (Vb S Ev rfl rfl rfl fun a S=>Ld ?_)
    replace S:=S.k5 3 10 11 12 13 rfl
    exact Tn (Fs (wp_cond_false ((S.tm rfl).trans (congrArg Value.bool (Ke hd1 hi1))) (wp_exit (Dt (Dt (Gh (Tn (⟨x1,h,S.nf [true] rfl trivial⟩))))))))
   | cons y1 ys1 =>
    rw [Iv.eq_2] at h
    refine Fr (Vb S Ev rfl rfl rfl fun a S=>Ld ?_)
    replace S:=S.k5 3 10 11 12 13 rfl
    refine Tn (Fs (wp_cond_true ((S.tm rfl).trans (congrArg Value.bool (Ja hd1 hi1))) (wp_skip (Tn (Fs (wp_block (Fs (Fg ?_))))))))
    obtain ⟨b2,o1,hm1,hr1⟩:=Fu (a:=a) (x:=.tmp 10) (y:=.tmp 12) (ty:=0) GO Ah (Jx hd1 hi1) rfl (S.tm rfl) (S.tm rfl)
    refine lv S (hr1 _) rfl ?_;clear S;intro a S
    clear hr1
    refine lv S (Fb isAgg49 sizeOf49 (off:=o1) (o:=0) (part:=(Ka.enc y1)) rfl rfl (S.tm rfl) (hm1.at S.emb0)) rfl fun a S=>Ic S zeroValue49 (cs:=[sV Cx,iV 0,iV 0,iV 0,iV 0]) rfl rfl ?_;clear S;intro a w4 b3 hz2 hk2 S
    refine Ep S (S.tm rfl) (S.tm rfl) (i:=0) (off:=0) rfl sizeOf49 (vs:=(Ka.enc y1)) rfl rfl rfl rfl ?_;clear S;intro w5 hk3 S
    refine Dl (Fs (wp_block (Fr (Vf BY S rfl rfl fun a S=>Vl isAgg9 0 S rfl rfl rfl rfl ?_))));clear S;intro a S
    obtain ⟨r1,hr2,h⟩:=Ej h
    refine Dd S (fun _=>Cz (vs:=[sV y1.Key]) ⟨(S.tm rfl),trivial⟩ call55) (Ko _ y1.Key _ hr2) rfl ?_;clear S;intro v1 a w6 hv1 hk4 hn1 S
    subst hv1
    refine Vu S Gk rfl rfl fun a S=>Va S rfl rfl fun a S=>Dl (Fc h (S.tm rfl) (fun hb2 h=>?_) (fun hb2 h=>?_))
    ·refine Fr (Vk S rfl rfl fun a S=>Dl (wp_ret (Gc (Db (Gc (Db (Db ?_)))))))
     refine Gc (Db (Db ?_))
     obtain rfl:=Option.some.inj h
     exact Ds S results24 rfl rfl
    ·refine Fr (Vm S rfl rfl fun a S=>Vf BY S rfl rfl fun a S=>Vl isAgg9 0 S rfl rfl rfl rfl fun a S=>lv S (Qx (kv:=Value.string) (vv:=Value.bool) (m:=x1) (key:=y1.Key) (z:=false) (S.map_at (i:=1) rfl) underlying73 (Oz underlying9) zeroValue4 (S.tm rfl) (S.tm rfl)) rfl fun a S=>Va S rfl rfl fun a S=>Ld ?_)
     replace S:=(S.nl [.blk b3 (Ka.enc y1) 49,.map b1 (He Value.string Value.bool x1) x1.length] [true,true] rfl).k6 3 5 10 11 12 21 rfl
     refine Tn (Fc h (S.tm rfl) (fun hb3 h=>?_) (fun hb3 h=>?_))
     ·refine Fr (Vk S rfl rfl fun a S=>Dl (wp_ret (Gc (Db (Gc (Db (Db ?_)))))))
      refine Gc (Db (Db ?_))
      obtain rfl:=Option.some.inj h
      exact Ds S results24 rfl rfl
     ·refine Fr (Vf FQ S rfl rfl fun a S=>Vl isAgg3 0 S rfl rfl rfl rfl fun a S=>Dd S (fun _=>Cz (vs:=[iV y1.Heats,iV 1,iV 60]) ⟨(S.tm rfl),rfl,rfl,trivial⟩ call49) (Ed _ y1.Heats 1 60 _ rfl) rfl ?_);clear S;intro v2 a w7 hv2 hk5 hn2 S
      subst hv2
      refine Vu S Gk rfl rfl fun a S=>Vm S rfl rfl fun a S=>Gr 5 (fun a w'=>Keep [] w7 w' ∧ Sx w [] nov [.blk b3 (Ka.enc y1) 49,.map b1 (He Value.string Value.bool x1) x1.length] [(3,.map (some b1)),(5,.pointer (some ⟨b3,0,none⟩)),(10,Ac),(11,iV (Ae.length : Int)),(12,iV (i1 : Int)),(36,bV ((!(Cy y1.Heats 1 60)) || (!(Cy y1.Long 1 3600000))))] 53 a w') ?_ ?_
      ·rcases Bool.eq_false_or_eq_true (!(Cy y1.Heats 1 60)) with hb4 | hb4
       ·iterate 4 (refine Fy S rfl rfl rfl (Ki hb4) rfl ?_ rfl;clear S;intro a S)
        exact lv S (Iw (!(Cy y1.Long 1 3600000)) hb4 (S.tm rfl) rfl) rfl fun a S=>Dl (⟨Keep.refl _ _,S.nf [true,true] rfl (subR rfl)⟩)
       ·refine Da S rfl rfl rfl hb4 (Vf FR S rfl rfl fun a S=>Da S rfl rfl rfl hb4 (Vl isAgg3 0 S rfl rfl rfl rfl fun a S=>Da S rfl rfl rfl hb4 (Dd S (fun _=>Cz (vs:=[iV y1.Long,iV 1,iV 3600000]) ⟨(S.tm rfl),rfl,rfl,trivial⟩ call49) (Ed _ y1.Long 1 3600000 _ rfl) rfl ?_)));clear S;intro v3 a w9 hv3 hk6 hn3 S
        subst hv3
        exact Da S rfl rfl rfl hb4 (Vu S Gk rfl rfl fun a S=>lv S (Ix hb4 (S.tm rfl) (S.tm rfl)) rfl fun a S=>Dl (⟨hk6,S.nf [true,true] rfl (subR rfl)⟩))
      clear S;rintro a w8 ⟨hk7,S⟩
      refine Vm S rfl rfl fun a S=>Gr 5 (fun a w'=>Keep [] w8 w' ∧ Sx w [] nov [.blk b3 (Ka.enc y1) 49,.map b1 (He Value.string Value.bool x1) x1.length] [(3,.map (some b1)),(5,.pointer (some ⟨b3,0,none⟩)),(10,Ac),(11,iV (Ae.length : Int)),(12,iV (i1 : Int)),(42,bV (((!(Cy y1.Heats 1 60)) || (!(Cy y1.Long 1 3600000))) || (!(Cy y1.Gap 0 3600000))))] 53 a w') ?_ ?_
      ·rcases Bool.eq_false_or_eq_true ((!(Cy y1.Heats 1 60)) || (!(Cy y1.Long 1 3600000))) with hb5 | hb5
       ·iterate 4 (refine Fy S rfl rfl rfl (Ki hb5) rfl ?_ rfl;clear S;intro a S)
        exact lv S (Iw (!(Cy y1.Gap 0 3600000)) hb5 (S.tm rfl) rfl) rfl fun a S=>Dl (⟨Keep.refl _ _,S.nf [true,true] rfl (subR rfl)⟩)
       ·refine Da S rfl rfl rfl hb5 (Vf IY S rfl rfl fun a S=>Da S rfl rfl rfl hb5 (Vl isAgg3 0 S rfl rfl rfl rfl fun a S=>Da S rfl rfl rfl hb5 (Dd S (fun _=>Cz (vs:=[iV y1.Gap,iV 0,iV 3600000]) ⟨(S.tm rfl),rfl,rfl,trivial⟩ call49) (Ed _ y1.Gap 0 3600000 _ rfl) rfl ?_)));clear S;intro v4 a w11 hv4 hk8 hn4 S
        subst hv4
        exact Da S rfl rfl rfl hb5 (Vu S Gk rfl rfl fun a S=>lv S (Ix hb5 (S.tm rfl) (S.tm rfl)) rfl fun a S=>Dl (⟨hk8,S.nf [true,true] rfl (subR rfl)⟩))
      clear S;rintro a w10 ⟨hk9,S⟩
      refine Vm S rfl rfl fun a S=>Gr 5 (fun a w'=>Keep [] w10 w' ∧ Sx w [] nov [.blk b3 (Ka.enc y1) 49,.map b1 (He Value.string Value.bool x1) x1.length] [(3,.map (some b1)),(5,.pointer (some ⟨b3,0,none⟩)),(10,Ac),(11,iV (Ae.length : Int)),(12,iV (i1 : Int)),(48,bV ((((!(Cy y1.Heats 1 60)) || (!(Cy y1.Long 1 3600000))) || (!(Cy y1.Gap 0 3600000))) || (!(Cy y1.Break 0 3600000))))] 53 a w') ?_ ?_
      ·rcases Bool.eq_false_or_eq_true (((!(Cy y1.Heats 1 60)) || (!(Cy y1.Long 1 3600000))) || (!(Cy y1.Gap 0 3600000))) with hb6 | hb6
       ·iterate 4 (refine Fy S rfl rfl rfl (Ki hb6) rfl ?_ rfl;clear S;intro a S)
        exact lv S (Iw (!(Cy y1.Break 0 3600000)) hb6 (S.tm rfl) rfl) rfl fun a S=>Dl (⟨Keep.refl _ _,S.nf [true,true] rfl (subR rfl)⟩)
       ·refine Da S rfl rfl rfl hb6 (Vf IZ S rfl rfl fun a S=>Da S rfl rfl rfl hb6 (Vl isAgg3 0 S rfl rfl rfl rfl fun a S=>Da S rfl rfl rfl hb6 (Dd S (fun _=>Cz (vs:=[iV y1.Break,iV 0,iV 3600000]) ⟨(S.tm rfl),rfl,rfl,trivial⟩ call49) (Ed _ y1.Break 0 3600000 _ rfl) rfl ?_)));clear S;intro v5 a w13 hv5 hk10 hn5 S
        subst hv5
        exact Da S rfl rfl rfl hb6 (Vu S Gk rfl rfl fun a S=>lv S (Ix hb6 (S.tm rfl) (S.tm rfl)) rfl fun a S=>Dl (⟨hk10,S.nf [true,true] rfl (subR rfl)⟩))
      clear S;rintro a w12 ⟨hk11,S⟩
      refine Va S rfl rfl fun a S=>Dl (Fc h (S.tm rfl) (fun hb7 h=>?_) (fun hb7 h=>?_))
      ·refine Fr (Vk S rfl rfl fun a S=>Dl (wp_ret (Gc (Db (Gc (Db (Db ?_)))))))
       refine Gc (Db (Db ?_))
       obtain rfl:=Option.some.inj h
       exact Ds S results24 rfl rfl
      ·refine wp_skip (Gy (Tn (Fg (Vm S rfl rfl fun a S=>Vf BY S rfl rfl fun a S=>Vl isAgg9 0 S rfl rfl rfl rfl fun a S=>Qy (kv:=Value.string) (vv:=Value.bool) (m:=x1) (key:=y1.Key) (val:=true) S (i:=1) rfl underlying73 (Oz underlying9) (S.tm rfl) (S.tm rfl) rfl ?_))));clear S;intro w14 hk12 S
       exact Ld (Gy (Tn (Fg (Vq S Fa rfl rfl rfl fun a S=>Vm S rfl rfl fun a S=>Dl (⟨ys1,⟨i1 + 1,(Fz x1 y1.Key true),⟨_,(hd1).trans (List.append_cons _ _ _),by simp [hi1]⟩,h,S.nf [false,true] rfl ⟨rfl,rfl,rfl,(congrArg (fun z=>some (Value.int .i64 z)) (Jb hd1 hi1 (Jy Ah))),trivial⟩⟩,Nat.lt_succ_self _⟩)))))
  clear S h;rintro a w3 ⟨x1,h,S⟩;rw [hj1] at h;clear hj1 j1
  refine Tn (Fr (Vk S rfl rfl fun a S=>Dl (wp_ret ?_)))
  obtain rfl:=Option.some.inj h
  exact Ds S results24 rfl rfl
theorem Xj (w : World) (Ac : Value) (Ae : List Ka) (Ah : Slc (view w []) 5 Ac (Ae.map Ka.enc)) (Be : Int) (r : (List Ik)) (h : Rt Ae Be = some r) :
    Calls prog 57 [Ac,iV Be].toArray w (Ret w [] fun τ v _=>Pq τ 152 4 v r.length (r.flatMap Ik.enc)):=by
 refine Fe func57 rfl ntmps57 rfl fun a S=>?_
 unfold Rt at h
 replace S:=S.k2 0 1 rfl
 refine Fr (Vk S rfl rfl fun a S=>Dz (Vk S rfl rfl ?_));clear S;intro a S
 replace S:=S.nil 152 4
 refine Dz (Vm S rfl rfl fun a S=>Va S rfl rfl fun a S=>Dl (Fs (Fs (Fg ?_))))
 refine Vm S rfl rfl fun a S=>lv S (Fi GO (S.tm rfl) (Fm Ah)) rfl fun a S=>lv S (Rm rfl) rfl fun a S=>Dl ?_
 replace S:=(S.nl [.own (.slice none 0 0) 152 4 ([] : List Ik).length (([] : List Ik).flatMap Ik.enc)] [true] rfl).k5 5 6 11 12 13 rfl
 obtain ⟨j1,hj1,h⟩:=Eo h
 refine Dy (fun a w'=>∃ x1 : List Ik,∃ v1 : Value,j1 x1 = some r ∧ Sx w [] nov [.own v1 152 4 x1.length (x1.flatMap Ik.enc)] [(5,v1)] 54 a w') ?_ ?_
 ·refine wp_block (Gs (fun (ys1 : List Ka) a w'=>∃ i1 : Nat,∃ x1 : List Ik,∃ x2 : Int,∃ v1 : Value,(∃ dn,Ae = dn ++ ys1 ∧ dn.length = i1) ∧ Ji j1 ys1 i1 x1 x2 = some r ∧ Sx w [] nov [.own v1 152 4 x1.length (x1.flatMap Ik.enc)] [(5,v1),(6,iV x2),(11,Ac),(12,iV (Ae.length : Int)),(13,iV (i1 : Int))] 54 a w') List.length Ae ⟨0,([] : List Ik),Be,(.slice none 0 0),⟨[],rfl,rfl⟩,h,S.nf [true] rfl (subR rfl)⟩ ?_)
  clear S h;rintro ys1 a w1 ⟨i1,x1,x2,v1,⟨dn,hd1,hi1⟩,h,S⟩
  cases ys1 with
  | nil =>
   rw [Ji.eq_1] at h
   refine Fr (Vb S Ev rfl rfl rfl fun a S=>Ld ?_)
   replace S:=S.k6 5 6 11 12 13 14 rfl
   exact Tn (Fs (wp_cond_false ((S.tm rfl).trans (congrArg Value.bool (Ke hd1 hi1))) (wp_exit (Dt (Dt (Gh (Tn (⟨x1,v1,h,S.nf [true] rfl ⟨rfl,trivial⟩⟩))))))))
  | cons y1 ys1 =>
   rw [Ji.eq_2] at h
   refine Fr (Vb S Ev rfl rfl rfl fun a S=>Ld ?_)
   replace S:=S.k6 5 6 11 12 13 14 rfl
   refine Tn (Fs (wp_cond_true ((S.tm rfl).trans (congrArg Value.bool (Ja hd1 hi1))) (wp_skip (Tn (Fs (wp_block (Fs (Fg ?_))))))))
   obtain ⟨b1,o1,hm1,hr1⟩:=Fu (a:=a) (x:=.tmp 11) (y:=.tmp 13) (ty:=0) GO Ah (Jx hd1 hi1) rfl (S.tm rfl) (S.tm rfl)
   refine lv S (hr1 _) rfl ?_;clear S;intro a S
   clear hr1
   refine lv S (Fb isAgg49 sizeOf49 (off:=o1) (o:=0) (part:=(Ka.enc y1)) rfl rfl (S.tm rfl) (hm1.at S.emb0)) rfl fun a S=>Ic S zeroValue49 (cs:=[sV Cx,iV 0,iV 0,iV 0,iV 0]) rfl rfl ?_;clear S;intro a w3 b2 hz1 hk1 S
   refine Ep S (S.tm rfl) (S.tm rfl) (i:=0) (off:=0) rfl sizeOf49 (vs:=(Ka.enc y1)) rfl rfl rfl rfl ?_;clear S;intro w4 hk2 S
   refine Dl (Fs (Fr (Vk S rfl rfl fun a S=>Dl ?_)))
   replace S:=(S.nl [.blk b2 (Ka.enc y1) 49,.own v1 152 4 x1.length (x1.flatMap Ik.enc)] [true,true] rfl).k7 5 6 8 9 11 12 13 rfl
   obtain ⟨j2,hj2,h⟩:=Eo h
   refine Dy (fun a w'=>∃ x3 : List Ik,∃ x4 : Int,∃ v2 : Value,j2 x3 x4 = some r ∧ Sx w [] nov [.blk b2 (Ka.enc y1) 49,.own v2 152 4 x3.length (x3.flatMap Ik.enc)] [(5,v2),(6,iV x4),(8,.pointer (some ⟨b2,0,none⟩)),(11,Ac),(12,iV (Ae.length : Int)),(13,iV (i1 : Int))] 54 a w') ?_ ?_
   ·refine wp_block (Gs (fun (m1 : Nat) a w'=>∃ x3 : List Ik,∃ x4 : Int,∃ x5 : Int,∃ v2 : Value,Jh y1 j2 m1 x3 x4 x5 = some r ∧ Sx w [] nov [.blk b2 (Ka.enc y1) 49,.own v2 152 4 x3.length (x3.flatMap Ik.enc)] [(5,v2),(6,iV x4),(8,.pointer (some ⟨b2,0,none⟩)),(9,iV x5),(11,Ac),(12,iV (Ae.length : Int)),(13,iV (i1 : Int))] 54 a w') id ((y1.Heats - 1).toNat + 2) ⟨x1,x2,1,v1,h,S.nf [true,true] rfl (subR rfl)⟩ ?_)
    clear S h;rintro m1 a w5 ⟨x3,x4,x5,v2,h,S⟩
    cases m1 with
    | zero=>rw [Jh.eq_1] at h;cases h
    | succ m1 =>
     rw [Jh.eq_2] at h
     refine Fs (Fr (Vm S rfl rfl fun a S=>Vf FQ S rfl rfl fun a S=>Vl isAgg3 0 S rfl rfl rfl rfl fun a S=>Vb S Qt rfl rfl rfl fun a S=>Dl (Fc h (S.tm rfl) (fun hb1 h=>?_) (fun hb1 h=>?_))))
     ·refine wp_skip (Tn (Fs ?_))
      obtain ⟨j3,hj3,h⟩:=Eo h
      refine Dy (fun a w'=>∃ x6 : List Ik,∃ x7 : Int,∃ v3 : Value,j3 x6 x7 = some r ∧ Sx w [] nov [.blk b2 (Ka.enc y1) 49,.own v3 152 4 x6.length (x6.flatMap Ik.enc)] [(5,v3),(6,iV x7),(8,.pointer (some ⟨b2,0,none⟩)),(9,iV x5),(11,Ac),(12,iV (Ae.length : Int)),(13,iV (i1 : Int))] 54 a w') ?_ ?_
      ·refine wp_block (Fr (Vm S rfl rfl fun a S=>Vf BY S rfl rfl fun a S=>Vl isAgg9 0 S rfl rfl rfl rfl ?_));clear S;intro a S
       iterate 3 (refine Vm S rfl rfl ?_;clear S;intro a S)
       refine Vf FR S rfl rfl fun a S=>Vl isAgg3 0 S rfl rfl rfl rfl fun a S=>Vb S Fa rfl rfl rfl fun a S=>lv S (Mw bt_150 (pv:=[(0,iV x4),(1,iV (W (x4 + y1.Long)))]) ⟨rfl,(S.tm rfl),rfl,(S.tm rfl),trivial⟩ (cs:=[iV x4,iV (W (x4 + y1.Long))]) (by kernel_rfl)) rfl fun a S=>lv S (Mw bt_152 (pv:=[(0,sV y1.Key),(1,iV x5),(2,.agg #[iV x4,iV (W (x4 + y1.Long))])]) ⟨rfl,(S.tm rfl),rfl,(S.tm rfl),rfl,(S.tm rfl),trivial⟩ (cs:=[sV y1.Key,iV x5,iV x4,iV (W (x4 + y1.Long))]) (by kernel_rfl)) rfl fun a S=>Dv S underlying51 sizeOf152 zeroValue152 rfl rfl (pv:=[(0,.agg #[sV y1.Key,iV x5,iV x4,iV (W (x4 + y1.Long))])]) ⟨rfl,(S.tm rfl),trivial⟩ (cs:=[sV y1.Key,iV x5,iV x4,iV (W (x4 + y1.Long))]) (by kernel_rfl) rfl ?_;clear S;intro a w8 b3 hz2 hk3 S
       obtain ⟨hc1,h⟩:=Gu h
       refine Lq GP Ik.enc_ok S (S.tm rfl) (i:=2) rfl (S.tm rfl) (j:=0) rfl (ys:=[(Ik.mk y1.Key x5 (Py.mk x4 (W (x4 + y1.Long))))]) rfl rfl rfl rfl (by have:=Nm hc1;omega) rfl ?_;clear S;intro v4 a w9 hk4 S
       refine Va S rfl rfl fun a S=>Ld ?_
       replace S:=(S.nl [.blk b2 (Ka.enc y1) 49,.own v4 152 4 (x3 ++ [(Ik.mk y1.Key x5 (Py.mk x4 (W (x4 + y1.Long))))]).length ((x3 ++ [(Ik.mk y1.Key x5 (Py.mk x4 (W (x4 + y1.Long))))]).flatMap Ik.enc)] [false,true,true] rfl).k7 5 6 8 9 11 12 13 rfl
       refine Tn (Fr (Vm S rfl rfl fun a S=>Vf FR S rfl rfl fun a S=>Vl isAgg3 0 S rfl rfl rfl rfl fun a S=>Vb S Fa rfl rfl rfl fun a S=>Va S rfl rfl fun a S=>Dl (Fs ?_)))
       refine Fg (Vm S rfl rfl fun a S=>Vf FQ S rfl rfl fun a S=>Vl isAgg3 0 S rfl rfl rfl rfl fun a S=>Vb S Ev rfl rfl rfl fun a S=>Ld ?_)
       replace S:=S.k8 5 6 8 9 11 12 13 43 rfl
       refine Tn ?_
       obtain ⟨j4,hj4,h⟩:=Eo h
       refine Dy (fun a w'=>∃ x8 : Int,j4 x8 = some r ∧ Sx w [] nov [.blk b2 (Ka.enc y1) 49,.own v4 152 4 (x3 ++ [(Ik.mk y1.Key x5 (Py.mk x4 (W (x4 + y1.Long))))]).length ((x3 ++ [(Ik.mk y1.Key x5 (Py.mk x4 (W (x4 + y1.Long))))]).flatMap Ik.enc)] [(5,v4),(6,iV x8),(8,.pointer (some ⟨b2,0,none⟩)),(9,iV x5),(11,Ac),(12,iV (Ae.length : Int)),(13,iV (i1 : Int))] 54 a w') ?_ ?_
       ·refine Fc h (S.tm rfl) (fun hb2 h=>?_) (fun hb2 h=>?_)
        ·exact Fg (Vm S rfl rfl fun a S=>Vf IY S rfl rfl fun a S=>Vl isAgg3 0 S rfl rfl rfl rfl fun a S=>Vb S Fa rfl rfl rfl fun a S=>Va S rfl rfl fun a S=>Dl (⟨W ((W (x4 + y1.Long)) + y1.Gap),h,S.nf [true,true] rfl (subR rfl)⟩))
        ·exact wp_skip (Tn (⟨W (x4 + y1.Long),h,S.nf [true,true] rfl (subR rfl)⟩))
       clear S h;rintro a w10 ⟨x8,h,S⟩;rw [hj4] at h;clear hj4 j4
       exact Gy (Tn (⟨(x3 ++ [(Ik.mk y1.Key x5 (Py.mk x4 (W (x4 + y1.Long))))]),x8,v4,h,S.nf [true,true] rfl (subR rfl)⟩))
      clear S h;rintro a w7 ⟨x6,x7,v3,h,S⟩;rw [hj3] at h;clear hj3 j3
      exact Tn (Fg (Vm S rfl rfl fun a S=>Vq S Fa rfl rfl rfl fun a S=>Va S rfl rfl fun a S=>Dl (⟨m1,⟨x6,x7,W (x5 + 1),v3,h,S.nf [true,true] rfl ⟨rfl,rfl,rfl,rfl,rfl,rfl,rfl,trivial⟩⟩,Nat.lt_succ_self _⟩)))
     ·exact wp_exit (Dt (Dt (Gh (Tn (⟨x3,x4,v2,h,S.nf [true,true] rfl (subR rfl)⟩)))))
   clear S h;rintro a w6 ⟨x3,x4,v2,h,S⟩;rw [hj2] at h;clear hj2 j2
   refine Tn (Fg (Vm S rfl rfl fun a S=>Vf IZ S rfl rfl fun a S=>Vl isAgg3 0 S rfl rfl rfl rfl fun a S=>Vb S Fa rfl rfl rfl fun a S=>Va S rfl rfl fun a S=>Ld (Gy (Tn (Fg ?_)))))
   exact Vq S Fa rfl rfl rfl fun a S=>Vm S rfl rfl fun a S=>Dl (⟨ys1,⟨i1 + 1,x3,W (x4 + y1.Break),v2,⟨_,(hd1).trans (List.append_cons _ _ _),by simp [hi1]⟩,h,S.nf [false,true] rfl ⟨rfl,rfl,rfl,rfl,(congrArg (fun z=>some (Value.int .i64 z)) (Jb hd1 hi1 (Jy Ah))),trivial⟩⟩,Nat.lt_succ_self _⟩)
 clear S h;rintro a w2 ⟨x1,v1,h,S⟩;rw [hj1] at h;clear hj1 j1
 refine Tn (Fr (Vm S rfl rfl fun a S=>Va S rfl rfl fun a S=>Dl (wp_ret ?_)))
 obtain rfl:=Option.some.inj h
 exact Ds S results57 rfl (Rg S (i:=0) rfl rfl)
theorem Xk (w : World) (Ac : Value) (Ae : List Ik) (Ah : Slc (view w []) 4 Ac (Ae.map Ik.enc)) (Be : Int) (r : Int) (h : Uf Ae Be = some r) :
    Calls prog 58 [Ac,iV Be].toArray w (Ret w [] fun _ v _=>v = iV r):=by
 refine Fe func58 rfl ntmps58 rfl fun a S=>?_
 unfold Uf at h
 replace S:=S.k2 0 1 rfl
 refine Fr (Vk S rfl rfl fun a S=>Dl (Fs (Fr (Vm S rfl rfl fun a S=>lv S (Fi GP (S.tm rfl) (Fm Ah)) rfl fun a S=>Vq S Hj rfl rfl rfl ?_))));clear S;intro a S
 refine Dl (Fc h (S.tm rfl) (fun hb1 h=>?_) (fun hb1 h=>?_))
 ·refine Fr (Vm S rfl rfl fun a S=>Va S rfl rfl fun a S=>Dl (wp_ret (Db ?_)))
  obtain rfl:=Option.some.inj h
  exact Ds S results58 rfl rfl
 ·refine wp_skip (Tn (Fr (Vm S rfl rfl fun a S=>Vm S rfl rfl fun a S=>lv S (Fi GP (S.tm rfl) (Fm Ah)) rfl fun a S=>Vq S Gp rfl rfl rfl ?_)));clear S;intro a S
  obtain ⟨hc1,h⟩:=Gu h
  obtain ⟨b1,o1,hm1,hr1⟩:=Fu (a:=a) (x:=.tmp 9) (y:=.tmp 12) (ty:=0) GP Ah (Dc hc1).1 (Dc hc1).2 (S.tm rfl) (S.tm rfl)
  refine lv S (hr1 _) rfl ?_;clear S;intro a S
  clear hr1
  refine Vf LX S rfl rfl fun a S=>Vf LW S rfl rfl fun a S=>lv S (Gj isAgg3 (off:=o1) (o:=3) (S.tm rfl) (hm1.at S.emb0) rfl) rfl fun a S=>Va S rfl rfl fun a S=>Dl (wp_ret ?_)
  obtain rfl:=Option.some.inj h
  exact Ds S results58 rfl rfl
theorem AN (w : World) (Ac : Value) (Ae : List Ka) (Ah : Slc (view w []) 5 Ac (Ae.map Ka.enc)) (Be : Int) (r : (List Ik) × Int) (h : Up Ae Be = some r) :
    Calls prog 25 [Ac,iV Be].toArray w (Ret w [] fun τ v _=>∃ u1 : Value,v = .tuple #[u1,iV r.2] ∧ Pq τ 152 4 u1 r.1.length (r.1.flatMap Ik.enc)):=by
 refine Fe func25 rfl ntmps25 rfl fun a S=>?_
 unfold Up at h
 replace S:=S.k2 0 1 rfl
 refine Fr (Vk S rfl rfl fun a S=>Vk S rfl rfl fun a S=>Dl (Fs (Fr (Vm S rfl rfl fun a S=>Dd S (fun _=>Cz (vs:=[iV Be]) ⟨(S.tm rfl),trivial⟩ call56) (Rz _ Be _ rfl) rfl ?_))));clear S;intro v1 a w1 hv1 hk1 hn1 S
 subst hv1
 refine Vu S Gk rfl rfl fun a S=>Dl (Fc h (S.tm rfl) (fun hb1 h=>?_) (fun hb1 h=>?_))
 ·refine Fr (Vk S rfl rfl fun a S=>Vk S rfl rfl fun a S=>Dl (wp_ret (Db ?_)))
  obtain rfl:=Option.some.inj h
  exact Ku S results25 rfl rfl ⟨_,rfl,(Ps _ _ _)⟩
 ·refine wp_skip (Tn (Fr (Vm S rfl rfl fun a S=>Vm S rfl rfl ?_)));clear S;intro a S
  obtain ⟨r1,hr1,h⟩:=Ej h
  have hz1:=S.keep.size
  refine Dd S (fun _=>Cz (vs:=[Ac,iV Be]) ⟨(S.tm rfl),(S.tm rfl),trivial⟩ call57) (Xj _ Ac Ae (Ah.mono (S.le_arg Ey)) Be _ hr1) rfl ?_;clear S;intro v2 a w2 hv2 hk2 hn2 S
  obtain ⟨φ1,hl1,hm1,S⟩:=S.see' hn2 hz1
  have hs1:=hv2.mono hm1
  refine Va S rfl rfl fun a S=>Dl (Fs (Fr (Vm S rfl rfl fun a S=>Vm S rfl rfl ?_)));clear S;intro a S
  obtain ⟨r2,hr2,h⟩:=Ej h
  refine Dd S (fun _=>Cz (vs:=[v2,iV Be]) ⟨(S.tm rfl),(S.tm rfl),trivial⟩ call58) (Xk _ v2 r1 ((Fv Ik.enc_ok hs1).mono (S.le_new Ey)) Be _ hr2) rfl ?_;clear S;intro v3 a w3 hv3 hk3 hn3 S
  subst hv3
  refine Vq S It rfl rfl rfl fun a S=>Ld ?_
  replace S:=S.k2 6 16 rfl
  refine Tn (Fc h (S.tm rfl) (fun hb2 h=>?_) (fun hb2 h=>?_))
  ·refine Fr (Vk S rfl rfl fun a S=>Vk S rfl rfl fun a S=>Dl (wp_ret (Db ?_)))
   obtain rfl:=Option.some.inj h
   exact Ku S results25 rfl rfl ⟨_,rfl,(Ps _ _ _)⟩
  ·refine wp_skip (Tn (Fr (Vm S rfl rfl fun a S=>Va S rfl rfl fun a S=>Vk S rfl rfl fun a S=>Dl (wp_ret ?_))))
   obtain rfl:=Option.some.inj h
   exact Ku S results25 rfl rfl ⟨_,rfl,((hs1).mono S.le_newer)⟩
theorem Sy (w : World) (Ac : Value) (Ae : List Ka) (Ah : Slc (view w []) 5 Ac (Ae.map Ka.enc)) (Be : Int) (r : (List Ik) × Int) (h : Me Ae Be = some r) :
    Calls prog 8 [Ac,iV Be].toArray w (Ret w [] fun τ v _=>∃ u1 : Value,v = .tuple #[u1,iV r.2] ∧ Pq τ 152 4 u1 r.1.length (r.1.flatMap Ik.enc)):=by
 refine Fe func8 rfl ntmps8 rfl fun a S=>?_
 unfold Me at h
 replace S:=S.k2 0 1 rfl
 refine Fr (Vk S rfl rfl fun a S=>Vk S rfl rfl fun a S=>Dl (Fs (Fr (Vm S rfl rfl ?_))));clear S;intro a S
 obtain ⟨r1,hr1,h⟩:=Ej h
 refine Dd S (fun _=>Cz (vs:=[Ac]) ⟨(S.tm rfl),trivial⟩ call24) (Wm _ Ac Ae (Ah.mono (S.le_arg Ey)) _ hr1) rfl ?_;clear S;intro v1 a w1 hv1 hk1 hn1 S
 subst hv1
 refine Va S rfl rfl fun a S=>Dz (Vm S rfl rfl fun a S=>Vq S Kg rfl rfl rfl fun a S=>Dl (Fc h (S.tm rfl) (fun hb1 h=>?_) (fun hb1 h=>?_)))
 ·refine Fr (Vm S rfl rfl fun a S=>Vk S rfl rfl fun a S=>Va S rfl rfl fun a S=>Dl (wp_ret (Db ?_)))
  obtain rfl:=Option.some.inj h
  exact Ku S results8 rfl rfl ⟨_,rfl,(Ps _ _ _)⟩
 ·refine wp_skip (Tn (Fr (Vm S rfl rfl fun a S=>Vm S rfl rfl ?_)));clear S;intro a S
  obtain ⟨r2,hr2,h⟩:=Ej h
  have hz1:=S.keep.size
  refine Dd S (fun _=>Cz (vs:=[Ac,iV Be]) ⟨(S.tm rfl),(S.tm rfl),trivial⟩ call25) (AN _ Ac Ae (Ah.mono (S.le_arg Ey)) Be _ hr2) rfl ?_;clear S;intro v2 a w2 hv2 hk2 hn2 S
  obtain ⟨u1,rfl,ho1⟩:=hv2
  obtain ⟨φ1,hl1,hm1,S⟩:=S.see' hn2 hz1
  have hs1:=ho1.mono hm1
  refine Vq S Gq rfl rfl rfl fun a S=>Vq S Gq rfl rfl rfl fun a S=>Va S rfl rfl fun a S=>Va S rfl rfl fun a S=>Dl (wp_ret ?_)
  obtain rfl:=Option.some.inj h
  exact Ku S results8 rfl rfl ⟨_,rfl,((hs1).mono S.le_newer)⟩
set_option maxRecDepth 20000 in
theorem Zh (w : World) (Aa : El) (Ac : Value) (Ae : List Df) (Ah : Slc (view w []) 3 Ac (Ae.map Df.enc)) (Bq : Int) (r : Int) (h : Tb Aa Ae Bq = some r) :
    Calls prog 26 [.agg (El.enc Aa).toArray,Ac,iV Bq].toArray w (Ret w [] fun _ v _=>v = iV r):=by
 refine Fe func26 rfl ntmps26 rfl fun a S=>?_
 unfold Tb at h
 replace S:=S.k3 0 1 2 rfl
 refine Fr (Ks S (S.tm rfl) (cs:=(El.enc Aa)) rfl rfl ?_);clear S;intro a w1 b1 hz1 hk1 S
 refine Vk S rfl rfl fun a S=>Dz (Vm S rfl rfl fun a S=>Vm S rfl rfl ?_);clear S;intro a S
 obtain ⟨hc1,h⟩:=Gu h
 obtain ⟨b2,o1,hm1,hr1⟩:=Fu (a:=a) (x:=.tmp 8) (y:=.tmp 9) (ty:=0) Tf Ah (Dc hc1).1 (Dc hc1).2 (S.tm rfl) (S.tm rfl)
 refine lv S (hr1 _) rfl ?_;clear S;intro a S
 clear hr1
 refine lv S (Fb isAgg47 sizeOf47 (off:=o1) (o:=0) (part:=(Df.enc (nth Ae Bq))) rfl rfl (S.tm rfl) (hm1.at S.emb0)) rfl fun a S=>Ic S zeroValue47 (cs:=[sV Cx,iV 0,iV 0]) rfl rfl ?_;clear S;intro a w2 b3 hz2 hk2 S
 refine Ep S (S.tm rfl) (S.tm rfl) (i:=0) (off:=0) rfl sizeOf47 (vs:=(Df.enc (nth Ae Bq))) rfl rfl rfl rfl ?_;clear S;intro w3 hk3 S
 refine Dl (Fs (wp_block (Fr (Vf BX S rfl rfl fun a S=>Vl isAgg9 0 S rfl rfl rfl rfl ?_))));clear S;intro a S
 obtain ⟨r1,hr2,h⟩:=Ej h
 refine Dd S (fun _=>Cz (vs:=[sV ((nth Ae Bq).Who)]) ⟨(S.tm rfl),trivial⟩ call55) (Ko _ ((nth Ae Bq).Who) _ hr2) rfl ?_;clear S;intro v1 a w4 hv1 hk4 hn1 S
 subst hv1
 refine Vu S Gk rfl rfl fun a S=>Va S rfl rfl fun a S=>Ld ?_
 replace S:=(S.nl [.blk b3 (Df.enc (nth Ae Bq)) 47,.blk b1 (El.enc Aa) 38] [true,true] rfl).k5 1 2 3 7 12 rfl
 refine Tn (Fc h (S.tm rfl) (fun hb1 h=>?_) (fun hb1 h=>?_))
 ·refine Fr (Vk S rfl rfl fun a S=>Dl (wp_ret (Gc (Db ?_))))
  obtain rfl:=Option.some.inj h
  exact Ds S results26 rfl rfl
 ·refine Fr (Vf Xx S rfl rfl fun a S=>Vl isAgg3 0 S rfl rfl rfl rfl fun a S=>Dd S (fun _=>Cz (vs:=[iV ((nth Ae Bq).Heat),iV 1,iV 60]) ⟨(S.tm rfl),rfl,rfl,trivial⟩ call49) (Ed _ ((nth Ae Bq).Heat) 1 60 _ rfl) rfl ?_);clear S;intro v2 a w5 hv2 hk5 hn2 S
  subst hv2
  refine Vu S Gk rfl rfl fun a S=>Vm S rfl rfl fun a S=>Gr 9 (fun a w'=>Keep [] w5 w' ∧ Sx w [] nov [.blk b3 (Df.enc (nth Ae Bq)) 47,.blk b1 (El.enc Aa) 38] [(1,Ac),(2,iV Bq),(7,.pointer (some ⟨b3,0,none⟩)),(31,bV ((!(Cy ((nth Ae Bq).Heat) 1 60)) || (!(Cy ((nth Ae Bq).Lane) Aa.Low Aa.High))))] 45 a w') ?_ ?_
  ·rcases Bool.eq_false_or_eq_true (!(Cy ((nth Ae Bq).Heat) 1 60)) with hb2 | hb2
   ·iterate 8 (refine Fy S rfl rfl rfl (Ki hb2) rfl ?_ rfl;clear S;intro a S)
    exact lv S (Iw (!(Cy ((nth Ae Bq).Lane) Aa.Low Aa.High)) hb2 (S.tm rfl) rfl) rfl fun a S=>Dl (⟨Keep.refl _ _,S.nf [true,true] rfl (subR rfl)⟩)
   ·refine Da S rfl rfl rfl hb2 (Vf FP S rfl rfl fun a S=>Da S rfl rfl rfl hb2 (Vl isAgg3 0 S rfl rfl rfl rfl fun a S=>Da S rfl rfl rfl hb2 (Vf Wa S rfl rfl fun a S=>Da S rfl rfl rfl hb2 (Vl isAgg3 1 S rfl rfl rfl rfl fun a S=>Da S rfl rfl rfl hb2 (Vf Ui S rfl rfl fun a S=>Da S rfl rfl rfl hb2 ?_)))))
    refine Vl isAgg3 1 S rfl rfl rfl rfl fun a S=>Da S rfl rfl rfl hb2 (Dd S (fun _=>Cz (vs:=[iV ((nth Ae Bq).Lane),iV Aa.Low,iV Aa.High]) ⟨(S.tm rfl),(S.tm rfl),(S.tm rfl),trivial⟩ call49) (Ed _ ((nth Ae Bq).Lane) Aa.Low Aa.High _ rfl) rfl ?_);clear S;intro v3 a w7 hv3 hk6 hn3 S
    subst hv3
    exact Da S rfl rfl rfl hb2 (Vu S Gk rfl rfl fun a S=>lv S (Ix hb2 (S.tm rfl) (S.tm rfl)) rfl fun a S=>Dl (⟨hk6,S.nf [true,true] rfl (subR rfl)⟩))
  clear S;rintro a w6 ⟨hk7,S⟩
  refine Va S rfl rfl fun a S=>Dl (Fc h (S.tm rfl) (fun hb3 h=>?_) (fun hb3 h=>?_))
  ·refine Fr (Vk S rfl rfl fun a S=>Dl (wp_ret (Gc (Db ?_))))
   obtain rfl:=Option.some.inj h
   exact Ds S results26 rfl rfl
  ·refine Fs ?_
   obtain ⟨j1,hj1,h⟩:=Eo h
   refine Dy (fun a w'=>∃ x1 : Bool,j1 x1 = some r ∧ Sx w [] nov [] [(32,bV x1)] 45 a w') ?_ ?_
   ·rcases Bool.eq_false_or_eq_true (decide (0 < Bq)) with hb4 | hb4
    ·replace h:=Rb h hb4
     obtain ⟨hc2,h⟩:=Gu h
     refine Fo [] ([]) Tryz.mixed S rfl (by kernel_rfl) ?_;clear S;intro w10 hk9 hsel S
     refine De 0 S hsel rfl rfl rfl (by kernel_rfl) (by kernel_rfl) rfl (fun _ hw=>(Rm (S.tm rfl))) fun a S=>De 1 S hsel rfl rfl rfl (by kernel_rfl) (by kernel_rfl) rfl (fun _ hw=>(It (S.tm rfl) rfl)) fun a S=>De 2 S hsel rfl rfl rfl (by kernel_rfl) (by kernel_rfl) rfl (fun _ hw=>(Rm (S.tm rfl))) fun a S=>Dj 3 S hsel rfl rfl rfl rfl hb4 rfl rfl (by kernel_rfl) (by kernel_rfl) rfl (fun _ hw=>(Rm (S.tm rfl))) fun a S=>Dj 4 S hsel rfl rfl rfl rfl hb4 rfl rfl (by kernel_rfl) (by kernel_rfl) rfl (fun _ hw=>(Rm (S.tm rfl))) fun a S=>Dj 5 S hsel rfl rfl rfl rfl hb4 rfl rfl (by kernel_rfl) (by kernel_rfl) rfl (fun _ hw=>(Gp (S.tm rfl) rfl)) ?_;clear S;intro a S
     obtain ⟨b5,o3,hm3,hr4⟩:=Fu (a:=a) (x:=.tmp 36) (y:=.tmp 38) (ty:=0) Tf (Ah.mono (S.le_arg Ey)) (Dc hc2).1 (Dc hc2).2 (S.tm rfl) (S.tm rfl)
     refine Dj 6 S hsel rfl rfl rfl rfl hb4 rfl rfl (by kernel_rfl) (by kernel_rfl) rfl (fun _ hw=>hr4 _) ?_;clear S;intro a S
     clear hr4
     refine Dj 7 S hsel rfl rfl rfl rfl hb4 rfl rfl (by kernel_rfl) (by kernel_rfl) rfl (fun _ hw=>(Fb isAgg47 sizeOf47 (off:=o3) (o:=0) (part:=(Df.enc (nth Ae (W (Bq - 1))))) rfl rfl (S.tm rfl) (hm3.kept hw))) fun a S=>Dj 8 S hsel rfl rfl rfl rfl hb4 rfl rfl (by kernel_rfl) (by kernel_rfl) rfl (fun _ hw=>(Fb isAgg47 sizeOf47 (off:=0) (o:=0) (part:=(Df.enc (nth Ae Bq))) rfl rfl (S.tm rfl) ((S.blk_mem (i:=0) (cells:=(Df.enc (nth Ae Bq))) (b:=b3) (T:=47) rfl (Gt (e':=.blk b3 (Df.enc (nth Ae Bq)) 47))).kept hw))) fun a S=>Ff 9 (by kernel_rfl) rfl (Da S rfl rfl rfl hb4 (Dd S (fun _=>Cz (vs:=[.agg (Df.enc (nth Ae (W (Bq - 1)))).toArray,.agg (Df.enc (nth Ae Bq)).toArray]) ⟨(S.tm rfl),(S.tm rfl),trivial⟩ call59) (Sg _ (nth Ae (W (Bq - 1))) (nth Ae Bq) _ rfl) rfl ?_));clear S;intro v5 a w11 hv5 hk10 hn5 S
     subst hv5
     refine Ld (Gl hk10 (Js [10,11,12] hsel (by kernel_rfl) rfl ?_))
     clear hsel
     refine Lx S rfl rfl rfl rfl hb4 (Ok S (Nj (S.tm rfl) rfl) rfl fun a S=>Fj S rfl (Ms hb4 (S.tm rfl) (S.tm rfl)) rfl fun a S=>Fj S rfl (Ra (S.tm rfl)) rfl fun a S=>Jc ?_)
     replace S:=S.n0.k1 32 rfl
     exact Tn (⟨decide (0 ≤ (Jj (nth Ae (W (Bq - 1))) (nth Ae Bq))),h,S.nf [] rfl ⟨rfl,trivial⟩⟩)
    ·replace h:=Rc h hb4
     refine Fo [] ([]) Tryz.mixed S rfl (by kernel_rfl) ?_;clear S;intro w12 hk11 hsel S
     refine Js [0,1,2,3,4,5,6,7,8,9,10,11,12] hsel (by kernel_rfl) rfl ?_
     clear hsel
     refine Fj S rfl (Rm (S.tm rfl)) rfl fun a S=>Fj S rfl (It (S.tm rfl) rfl) rfl fun a S=>Fj S rfl (Rm (S.tm rfl)) rfl ?_;clear S;intro a S
     iterate 8 (refine Rj S rfl rfl rfl rfl (Jk hb4) rfl ?_ rfl;clear S;intro a S)
     refine Fj S rfl (Mt hb4 (S.tm rfl) rfl) rfl fun a S=>Fj S rfl (Ra (S.tm rfl)) rfl fun a S=>Jc ?_
     replace S:=S.n0.k1 32 rfl
     exact Tn (⟨false,h,S.nf [] rfl ⟨rfl,trivial⟩⟩)
   clear S h;rintro a w8 ⟨x1,h,S⟩;rw [hj1] at h;clear hj1 j1
   refine Tn (Fc h (S.tm rfl) (fun hb5 h=>?_) (fun hb5 h=>?_))
   ·refine Fr (Vk S rfl rfl fun a S=>Dl (wp_ret (Gc (Db ?_))))
    obtain rfl:=Option.some.inj h
    exact Ds S results26 rfl rfl
   ·refine wp_skip (Gy (Tn (Fr (Vk S rfl rfl fun a S=>Dl (wp_ret ?_)))))
    obtain rfl:=Option.some.inj h
    exact Ds S results26 rfl rfl
theorem Yk (w : World) (Aa : El) (Ac : Value) (Ae : List Df) (Ah : Slc (view w []) 3 Ac (Ae.map Df.enc)) (r : Int) (h : Qa Aa Ae = some r) :
    Calls prog 9 [.agg (El.enc Aa).toArray,Ac].toArray w (Ret w [] fun _ v _=>v = iV r):=by
 refine Fe func9 rfl ntmps9 rfl fun a S=>?_
 unfold Qa at h
 replace S:=S.k2 0 1 rfl
 refine Fr (Ks S (S.tm rfl) (cs:=(El.enc Aa)) rfl rfl ?_);clear S;intro a w1 b1 hz1 hk1 S
 refine Vk S rfl rfl fun a S=>Dl (Fs (Fr (lv S (Fb isAgg38 sizeOf38 (off:=0) (o:=0) (part:=(El.enc Aa)) rfl rfl (S.tm rfl) (S.cellsAt (i:=0) rfl)) rfl fun a S=>Dd S (fun _=>Cz (vs:=[.agg (El.enc Aa).toArray]) ⟨(S.tm rfl),trivial⟩ call20) (Ry _ Aa _ rfl) rfl ?_)));clear S;intro v1 a w2 hv1 hk2 hn1 S
 subst hv1
 refine Va S rfl rfl fun a S=>Dz (Vm S rfl rfl fun a S=>Vq S Kg rfl rfl rfl fun a S=>Dl (Fc h (S.tm rfl) (fun hb1 h=>?_) (fun hb1 h=>?_)))
 ·refine Fr (Vm S rfl rfl fun a S=>Va S rfl rfl fun a S=>Dl (wp_ret (Db ?_)))
  obtain rfl:=Option.some.inj h
  exact Ds S results9 rfl rfl
 ·refine wp_skip (Tn (Fs (Fr (Vm S rfl rfl fun a S=>lv S (Fi Tf (S.tm rfl) (Fm Ah)) rfl fun a S=>Vq S It rfl rfl rfl fun a S=>Dl (Fc h (S.tm rfl) (fun hb2 h=>?_) (fun hb2 h=>?_))))))
  ·refine Fr (Vk S rfl rfl fun a S=>Dl (wp_ret (Db ?_)))
   obtain rfl:=Option.some.inj h
   exact Ds S results9 rfl rfl
  ·refine wp_skip (Tn (Fr (Tr (κ:=ByteArray) (ν:=Bool) S rfl Value.string Value.bool ?_)));clear S;intro a w3 b2 hz2 hk3 S
   refine Va S rfl rfl fun a S=>Dl (Fs (Fg ?_))
   iterate 3 (refine Vk S rfl rfl ?_;clear S;intro a S)
   refine Ld ?_
   replace S:=(S.nl [.map b2 (He Value.string Value.bool ([] : List (ByteArray × Bool))) ([] : List (ByteArray × Bool)).length,.blk b1 (El.enc Aa) 38] [true,true] rfl).k6 1 2 6 7 8 9 rfl
   refine Tn (Fs (Fr (Vm S rfl rfl fun a S=>lv S (Fi Tf (S.tm rfl) (Fm Ah)) rfl fun a S=>lv S (Rm rfl) rfl fun a S=>Dl ?_)))
   replace S:=S.k9 1 2 6 7 8 9 22 23 24 rfl
   obtain ⟨j1,hj1,h⟩:=Eo h
   refine Dy (fun a w'=>∃ x1 : List (ByteArray × Bool),∃ x2 : Bool,∃ x3 : Bool,j1 x1 x2 x3 = some r ∧ Sx w [] nov [.map b2 (He Value.string Value.bool x1) x1.length,.blk b1 (El.enc Aa) 38] [(7,bV x2),(8,bV x3)] 59 a w') ?_ ?_
   ·refine wp_block (Gs (fun (ys1 : List Df) a w'=>∃ i1 : Nat,∃ x1 : List (ByteArray × Bool),∃ x2 : Bool,∃ x3 : Bool,∃ x4 : Int,(∃ dn,Ae = dn ++ ys1 ∧ dn.length = i1) ∧ Jp Aa Ae j1 ys1 i1 x1 x2 x3 x4 = some r ∧ Sx w [] nov [.map b2 (He Value.string Value.bool x1) x1.length,.blk b1 (El.enc Aa) 38] [(1,Ac),(2,.pointer (some ⟨b1,0,none⟩)),(6,.map (some b2)),(7,bV x2),(8,bV x3),(9,iV x4),(22,Ac),(23,iV (Ae.length : Int)),(24,iV (i1 : Int))] 59 a w') List.length Ae ⟨0,([] : List (ByteArray × Bool)),false,false,0,⟨[],rfl,rfl⟩,h,S.nf [true,true] rfl (subR rfl)⟩ ?_)
    clear S h;rintro ys1 a w4 ⟨i1,x1,x2,x3,x4,⟨dn,hd1,hi1⟩,h,S⟩
    cases ys1 with
    | nil =>
     rw [Jp.eq_1] at h
     refine Fr (Vb S Ev rfl rfl rfl fun a S=>Ld ?_)
     replace S:=S.k10 1 2 6 7 8 9 22 23 24 25 rfl
     exact Tn (Fs (wp_cond_false ((S.tm rfl).trans (congrArg Value.bool (Ke hd1 hi1))) (wp_exit (Dt (Dt (Gh (Tn (⟨x1,x2,x3,h,S.nf [true,true] rfl (subR rfl)⟩))))))))
    | cons y1 ys1 =>
     rw [Jp.eq_2] at h
     refine Fr (Vb S Ev rfl rfl rfl fun a S=>Ld ?_)
     replace S:=S.k10 1 2 6 7 8 9 22 23 24 25 rfl
     refine Tn (Fs (wp_cond_true ((S.tm rfl).trans (congrArg Value.bool (Ja hd1 hi1))) (wp_skip (Tn (Fs (wp_block (Fr (Vm S rfl rfl ?_))))))));clear S;intro a S
     obtain ⟨b3,o1,hm1,hr1⟩:=Fu (a:=a) (x:=.tmp 22) (y:=.tmp 24) (ty:=0) Tf Ah (Jx hd1 hi1) rfl (S.tm rfl) (S.tm rfl)
     refine lv S (hr1 _) rfl ?_;clear S;intro a S
     clear hr1
     refine lv S (Fb isAgg47 sizeOf47 (off:=o1) (o:=0) (part:=(Df.enc y1)) rfl rfl (S.tm rfl) (hm1.at S.emb0)) rfl fun a S=>Ic S zeroValue47 (cs:=[sV Cx,iV 0,iV 0]) rfl rfl ?_;clear S;intro a w6 b4 hz3 hk4 S
     refine Va S rfl rfl fun a S=>Ep S (S.tm rfl) (S.tm rfl) (i:=0) (off:=0) rfl sizeOf47 (vs:=(Df.enc y1)) rfl rfl rfl rfl ?_;clear S;intro w7 hk5 S
     refine Ld ?_
     replace S:=(S.nl [.blk b4 (Df.enc y1) 47,.map b2 (He Value.string Value.bool x1) x1.length,.blk b1 (El.enc Aa) 38] [true,true,true] rfl).k11 1 2 6 7 8 9 10 11 22 23 24 rfl
     refine Tn (Fs (Fr (lv S (Fb isAgg38 sizeOf38 (off:=0) (o:=0) (part:=(El.enc Aa)) rfl rfl (S.tm rfl) (S.cellsAt (i:=2) rfl)) rfl fun a S=>Vm S rfl rfl fun a S=>Vm S rfl rfl ?_)));clear S;intro a S
     obtain ⟨r1,hr2,h⟩:=Ej h
     refine Dd S (fun _=>Cz (vs:=[.agg (El.enc Aa).toArray,Ac,iV (i1 : Int)]) ⟨(S.tm rfl),(S.tm rfl),(S.tm rfl),trivial⟩ call26) (Zh _ Aa Ac Ae (Ah.mono (S.le_arg Ey)) (i1 : Int) _ hr2) rfl ?_;clear S;intro v2 a w8 hv2 hk6 hn2 S
     subst hv2
     refine Va S rfl rfl fun a S=>Ld ?_
     replace S:=S.k11 1 2 6 7 8 9 11 12 22 23 24 rfl
     refine Tn (Fr (Vm S rfl rfl fun a S=>Vq S Kg rfl rfl rfl fun a S=>Dl (Fc h (S.tm rfl) (fun hb3 h=>?_) (fun hb3 h=>?_))))
     ·refine Fr (Vm S rfl rfl fun a S=>Va S rfl rfl fun a S=>Ld ?_)
      replace S:=S.n0.k1 4 rfl
      refine Tn (wp_ret (Db (Gc (Db (Db (Gc (Db (Db ?_))))))))
      obtain rfl:=Option.some.inj h
      exact Ds S results9 rfl rfl
     ·refine wp_skip (Tn (Fr (Vm S rfl rfl fun a S=>Vm S rfl rfl fun a S=>Gr 5 (fun a w'=>Keep [] w8 w' ∧ Sx w [] nov [.blk b4 (Df.enc y1) 47,.map b2 (He Value.string Value.bool x1) x1.length,.blk b1 (El.enc Aa) 38] [(1,Ac),(2,.pointer (some ⟨b1,0,none⟩)),(6,.map (some b2)),(8,bV x3),(9,iV x4),(11,.pointer (some ⟨b4,0,none⟩)),(22,Ac),(23,iV (Ae.length : Int)),(24,iV (i1 : Int)),(42,bV (x2 || (Ek x1 y1.Who false)))] 59 a w') ?_ ?_)))
      ·rcases Bool.eq_false_or_eq_true x2 with hb4 | hb4
       ·iterate 4 (refine Fy S rfl rfl rfl (Ki hb4) rfl ?_ rfl;clear S;intro a S)
        exact lv S (Iw (Ek x1 y1.Who false) hb4 (S.tm rfl) rfl) rfl fun a S=>Dl (⟨Keep.refl _ _,S.nf [true,true,true] rfl (subR rfl)⟩)
       ·refine Da S rfl rfl rfl hb4 (Vm S rfl rfl fun a S=>Da S rfl rfl rfl hb4 (Vf BX S rfl rfl fun a S=>Da S rfl rfl rfl hb4 (Vl isAgg9 0 S rfl rfl rfl rfl fun a S=>Da S rfl rfl rfl hb4 (lv S (Qx (kv:=Value.string) (vv:=Value.bool) (m:=x1) (key:=y1.Who) (z:=false) (S.map_at (i:=1) rfl) underlying73 (Oz underlying9) zeroValue4 (S.tm rfl) (S.tm rfl)) rfl fun a S=>lv S (Ix hb4 (S.tm rfl) (S.tm rfl)) rfl fun a S=>Dl ?_))))
        exact ⟨Keep.refl _ _,S.nf [true,true,true] rfl (subR rfl)⟩
      clear S;rintro a w9 ⟨hk7,S⟩
      refine Va S rfl rfl fun a S=>Dz (Vm S rfl rfl fun a S=>Vf BX S rfl rfl fun a S=>Vl isAgg9 0 S rfl rfl rfl rfl fun a S=>Qy (kv:=Value.string) (vv:=Value.bool) (m:=x1) (key:=y1.Who) (val:=true) S (i:=1) rfl underlying73 (Oz underlying9) (S.tm rfl) (S.tm rfl) rfl ?_);clear S;intro w10 hk8 S
      refine Dz (Vm S rfl rfl fun a S=>Vm S rfl rfl fun a S=>Gr 6 (fun a w'=>Keep [] w10 w' ∧ Sx w [] nov [.blk b4 (Df.enc y1) 47,.map b2 (He Value.string Value.bool (Fz x1 y1.Who true)) (Fz x1 y1.Who true).length,.blk b1 (El.enc Aa) 38] [(1,Ac),(2,.pointer (some ⟨b1,0,none⟩)),(6,.map (some b2)),(7,bV (x2 || (Ek x1 y1.Who false))),(11,.pointer (some ⟨b4,0,none⟩)),(22,Ac),(23,iV (Ae.length : Int)),(24,iV (i1 : Int)),(53,bV (x3 || (decide ((W (x4 + 1)) < y1.Heat))))] 59 a w') ?_ ?_)
      ·rcases Bool.eq_false_or_eq_true x3 with hb5 | hb5
       ·iterate 5 (refine Fy S rfl rfl rfl (Ki hb5) rfl ?_ rfl;clear S;intro a S)
        exact lv S (Iw (decide ((W (x4 + 1)) < y1.Heat)) hb5 (S.tm rfl) rfl) rfl fun a S=>Dl (⟨Keep.refl _ _,S.nf [true,true,true] rfl (subR rfl)⟩)
       ·refine Da S rfl rfl rfl hb5 (Vf Xx S rfl rfl fun a S=>Da S rfl rfl rfl hb5 (Vl isAgg3 0 S rfl rfl rfl rfl fun a S=>Da S rfl rfl rfl hb5 (Vm S rfl rfl fun a S=>Da S rfl rfl rfl hb5 (Vq S Fa rfl rfl rfl fun a S=>Da S rfl rfl rfl hb5 (Vb S It rfl rfl rfl fun a S=>lv S (Ix hb5 (S.tm rfl) (S.tm rfl)) rfl ?_)))));clear S;intro a S
        exact Dl (⟨Keep.refl _ _,S.nf [true,true,true] rfl (subR rfl)⟩)
      clear S;rintro a w11 ⟨hk9,S⟩
      refine Va S rfl rfl fun a S=>Dl (Fg (Vf Xx S rfl rfl fun a S=>Vl isAgg3 0 S rfl rfl rfl rfl fun a S=>Va S rfl rfl fun a S=>Ld (Gy (Tn (Fg ?_)))))
      exact Vq S Fa rfl rfl rfl fun a S=>Vm S rfl rfl fun a S=>Dl (⟨ys1,⟨i1 + 1,(Fz x1 y1.Who true),(x2 || (Ek x1 y1.Who false)),(x3 || (decide ((W (x4 + 1)) < y1.Heat))),y1.Heat,⟨_,(hd1).trans (List.append_cons _ _ _),by simp [hi1]⟩,h,S.nf [false,true,true] rfl ⟨rfl,rfl,rfl,rfl,rfl,rfl,rfl,rfl,(congrArg (fun z=>some (Value.int .i64 z)) (Jb hd1 hi1 (Jy Ah))),trivial⟩⟩,Nat.lt_succ_self _⟩)
   clear S h;rintro a w5 ⟨x1,x2,x3,h,S⟩;rw [hj1] at h;clear hj1 j1
   refine Tn (Fs (Fr (Vm S rfl rfl fun a S=>Dl (Fc h (S.tm rfl) (fun hb6 h=>?_) (fun hb6 h=>?_)))))
   ·refine Fr (Vk S rfl rfl fun a S=>Dl (wp_ret (Db ?_)))
    obtain rfl:=Option.some.inj h
    exact Ds S results9 rfl rfl
   ·refine wp_skip (Tn (Fs (Fr (Vm S rfl rfl fun a S=>Dl (Fc h (S.tm rfl) (fun hb7 h=>?_) (fun hb7 h=>?_))))))
    ·refine Fr (Vk S rfl rfl fun a S=>Dl (wp_ret (Db ?_)))
     obtain rfl:=Option.some.inj h
     exact Ds S results9 rfl rfl
    ·refine wp_skip (Tn (Fr (Vk S rfl rfl fun a S=>Dl (wp_ret ?_))))
     obtain rfl:=Option.some.inj h
     exact Ds S results9 rfl rfl
theorem Tg (w : World) (Ab : ByteArray) (r : Bool) (h : Io Ab = r) :
    Calls prog 104 [sV Ab].toArray w (Ret w [] fun _ v _=>v = bV r):=by
 refine Fe func104 rfl ntmps104 rfl fun a S=>?_
 unfold Io at h
 replace S:=S.k1 0 rfl
 refine Fr (Vk S rfl rfl fun a S=>Dz (Vm S rfl rfl fun a S=>Vm S rfl rfl fun a S=>Vb S Xo rfl rfl rfl fun a S=>Va S rfl rfl ?_));clear S;intro a S
 refine Dl (wp_ret ?_)
 subst h
 exact Ds S results104 rfl rfl
theorem Zi (w : World) (Ab : ByteArray) (Ba : ByteArray) (r : Bool) (h : Qq Ab Ba = r) :
    Calls prog 66 [sV Ab,sV Ba].toArray w (Ret w [] fun _ v _=>v = bV r):=by
 refine Fe func66 rfl ntmps66 rfl fun a S=>?_
 unfold Qq at h
 replace S:=S.k2 0 1 rfl
 refine Fr (Vk S rfl rfl fun a S=>Dz (Vm S rfl rfl fun a S=>Dd S (fun _=>Cz (vs:=[sV Ab]) ⟨(S.tm rfl),trivial⟩ call104) (Tg _ Ab _ rfl) rfl ?_));clear S;intro v1 a w1 hv1 hk1 hn1 S
 subst hv1
 refine Vm S rfl rfl fun a S=>Gr 4 (fun a w'=>Keep [] w1 w' ∧ Sx w [] nov [] [(0,sV Ab),(1,sV Ba),(11,bV ((Io Ab) && (!(Io Ba))))] 17 a w') ?_ ?_
 ·rcases Bool.eq_false_or_eq_true (Io Ab) with hb1 | hb1
  ·refine Da S rfl rfl rfl hb1 (Vm S rfl rfl fun a S=>Da S rfl rfl rfl hb1 (Dd S (fun _=>Cz (vs:=[sV Ba]) ⟨(S.tm rfl),trivial⟩ call104) (Tg _ Ba _ rfl) rfl ?_));clear S;intro v2 a w3 hv2 hk2 hn2 S
   subst hv2
   exact Da S rfl rfl rfl hb1 (Vu S Gk rfl rfl fun a S=>lv S (Hk hb1 (S.tm rfl) (S.tm rfl)) rfl fun a S=>Dl (⟨hk2,S.nf [] rfl (subR rfl)⟩))
  ·iterate 3 (refine Fy S rfl rfl rfl (Jk hb1) rfl ?_ rfl;clear S;intro a S)
   exact lv S (Hl (!(Io Ba)) hb1 (S.tm rfl) rfl) rfl fun a S=>Dl (⟨Keep.refl _ _,S.nf [] rfl (subR rfl)⟩)
 clear S;rintro a w2 ⟨hk3,S⟩
 refine Vm S rfl rfl fun a S=>Gr 4 (fun a w'=>Keep [] w2 w' ∧ Sx w [] nov [] [(16,bV (((Io Ab) && (!(Io Ba))) || (AZ Ab Ba)))] 17 a w') ?_ ?_
 ·rcases Bool.eq_false_or_eq_true ((Io Ab) && (!(Io Ba))) with hb2 | hb2
  ·iterate 3 (refine Fy S rfl rfl rfl (Ki hb2) rfl ?_ rfl;clear S;intro a S)
   exact lv S (Iw (AZ Ab Ba) hb2 (S.tm rfl) rfl) rfl fun a S=>Dl (⟨Keep.refl _ _,S.nf [] rfl ⟨rfl,trivial⟩⟩)
  ·exact Da S rfl rfl rfl hb2 (Vm S rfl rfl fun a S=>Da S rfl rfl rfl hb2 (Vm S rfl rfl fun a S=>Da S rfl rfl rfl hb2 (Vb S rn_slss rfl rfl rfl fun a S=>lv S (Ix hb2 (S.tm rfl) (S.tm rfl)) rfl fun a S=>Dl (⟨Keep.refl _ _,S.nf [] rfl ⟨rfl,trivial⟩⟩))))
 clear S;rintro a w4 ⟨hk4,S⟩
 refine Va S rfl rfl fun a S=>Dl (wp_ret ?_)
 subst h
 exact Ds S results66 rfl rfl
set_option maxRecDepth 20000 in
theorem Qe (w : World) (U : Value) (Af : List ByteArray) (Bb : (LEnt.own U 9 1 Af.length (Af.flatMap Jw)).holds w) (Aj : Int) (Am : Int) (r : (List ByteArray)) (h : Kv Af Aj Am = some r) :
    Calls prog 60 [U,iV Aj,iV Am].toArray w (Ret w (U.ownBlock.toList) fun _ v w'=>(LEnt.own U 9 1 r.length (r.flatMap Jw)).holds w' ∧ v = .tuple #[]):=by
 refine Iy (U.ownBlock.toList) [.own U 9 1 Af.length (Af.flatMap Jw)] func60 rfl ntmps60 rfl (fun e he=>by simp only [List.mem_singleton] at he;subst he;exact Bb) (Hb _) (Ip _) fun a S=>?_
 unfold Kv at h
 replace S:=(S.nl [.own U 9 1 Af.length (Af.flatMap Jw)] [true] rfl).k3 0 1 2 rfl
 refine Fr (Vm S rfl rfl fun a S=>Vq S Fa rfl rfl rfl fun a S=>Va S rfl rfl fun a S=>Dl ?_)
 replace S:=S.k4 0 1 2 6 rfl
 obtain ⟨j1,hj1,h⟩:=Eo h
 refine Dy (fun a w'=>∃ x1 : List ByteArray,j1 x1 = some r ∧ Sx w (U.ownBlock.toList) nov [.own U 9 1 x1.length (x1.flatMap Jw)] [] 49 a w') ?_ ?_
 ·refine wp_block (Gs (fun (m1 : Nat) a w'=>∃ x1 : List ByteArray,∃ x2 : Int,Fx Am Aj j1 m1 x1 x2 = some r ∧ Sx w (U.ownBlock.toList) nov [.own U 9 1 x1.length (x1.flatMap Jw)] [(0,U),(1,iV Aj),(2,iV Am),(6,iV x2)] 49 a w') id ((Am - (W (Aj + 1))).toNat + 2) ⟨Af,W (Aj + 1),h,S.nf [true] rfl (subR rfl)⟩ ?_)
  clear S h;rintro m1 a w1 ⟨x1,x2,h,S⟩
  cases m1 with
  | zero=>rw [Fx.eq_1] at h;cases h
  | succ m1 =>
   rw [Fx.eq_2] at h
   refine Fs (Fr (Vm S rfl rfl fun a S=>Vm S rfl rfl fun a S=>Vb S Ev rfl rfl rfl fun a S=>Dl (Fc h (S.tm rfl) (fun hb1 h=>?_) (fun hb1 h=>?_))))
   ·refine wp_skip (Tn (Fs (wp_block (Fr (Vm S rfl rfl fun a S=>Va S rfl rfl fun a S=>Dl ?_)))))
    replace S:=S.k5 0 1 2 6 7 rfl
    obtain ⟨j2,hj2,h⟩:=Eo h
    refine Dy (fun a w'=>∃ x3 : List ByteArray,j2 x3 = some r ∧ Sx w (U.ownBlock.toList) nov [.own U 9 1 x3.length (x3.flatMap Jw)] [(0,U),(1,iV Aj),(2,iV Am),(6,iV x2)] 49 a w') ?_ ?_
    ·refine wp_block (Gs (fun (m2 : Nat) a w'=>∃ x3 : List ByteArray,∃ x4 : Int,Fw Aj j2 m2 x3 x4 = some r ∧ Sx w (U.ownBlock.toList) nov [.own U 9 1 x3.length (x3.flatMap Jw)] [(0,U),(1,iV Aj),(2,iV Am),(6,iV x2),(7,iV x4)] 49 a w') id ((x2 - Aj).toNat + 2) ⟨x1,x2,h,S.nf [true] rfl (subR rfl)⟩ ?_)
     clear S h;rintro m2 a w3 ⟨x3,x4,h,S⟩
     cases m2 with
     | zero=>rw [Fw.eq_1] at h;cases h
     | succ m2 =>
      rw [Fw.eq_2] at h
      refine Fs (Fs ?_)
      obtain ⟨j3,hj3,h⟩:=Eo h
      refine Dy (fun a w'=>∃ x5 : Bool,j3 x5 = some r ∧ Sx w (U.ownBlock.toList) nov [.own U 9 1 x3.length (x3.flatMap Jw)] [(0,U),(1,iV Aj),(2,iV Am),(6,iV x2),(7,iV x4),(30,bV x5)] 49 a w') ?_ ?_
      ·rcases Bool.eq_false_or_eq_true (decide (Aj < x4)) with hb2 | hb2
       ·replace h:=Rb h hb2
        obtain ⟨hc1,h⟩:=Gu h
        obtain ⟨hc2,h⟩:=Gu h
        refine Fo [] ([]) Tryz.mixed S rfl (by kernel_rfl) ?_;clear S;intro w7 hk2 hsel S
        refine De 0 S hsel rfl rfl rfl (by kernel_rfl) (by kernel_rfl) rfl (fun _ hw=>(Rm (S.tm rfl))) fun a S=>De 1 S hsel rfl rfl rfl (by kernel_rfl) (by kernel_rfl) rfl (fun _ hw=>(Rm (S.tm rfl))) fun a S=>De 2 S hsel rfl rfl rfl (by kernel_rfl) (by kernel_rfl) rfl (fun _ hw=>(It (S.tm rfl) (S.tm rfl))) fun a S=>De 3 S hsel rfl rfl rfl (by kernel_rfl) (by kernel_rfl) rfl (fun _ hw=>(Rm (S.tm rfl))) fun a S=>Dj 4 S hsel rfl rfl rfl rfl hb2 rfl rfl (by kernel_rfl) (by kernel_rfl) rfl (fun _ hw=>(Rm (S.tm rfl))) fun a S=>Dj 5 S hsel rfl rfl rfl rfl hb2 rfl rfl (by kernel_rfl) (by kernel_rfl) rfl (fun _ hw=>(Rm (S.tm rfl))) ?_;clear S;intro a S
        obtain ⟨b3,hg3,hr3⟩:=Eu (a:=a) (x:=.tmp 20) (y:=.tmp 21) (ty:=0) Nc Hi S (i:=0) rfl (Dc hc1).1 (Dc hc1).2 (S.tm rfl) (S.tm rfl)
        refine Dj 6 S hsel rfl rfl rfl rfl hb2 rfl rfl (by kernel_rfl) (by kernel_rfl) rfl (fun _ hw=>(hr3 _)) ?_;clear S;intro a S
        clear hr3
        refine Dj 7 S hsel rfl rfl rfl rfl hb2 rfl rfl (by kernel_rfl) (by kernel_rfl) rfl (fun _ hw=>(Gj isAgg9 (off:=x4.toNat * 1) (o:=0) (S.tm rfl) ((Kk Hi S (i:=0) rfl hg3 (Dc hc1).1 (Gt (e':=.own U 9 1 x3.length (x3.flatMap Jw)))).kept hw) rfl)) fun a S=>Dj 8 S hsel rfl rfl rfl rfl hb2 rfl rfl (by kernel_rfl) (by kernel_rfl) rfl (fun _ hw=>(Rm (S.tm rfl))) fun a S=>Dj 9 S hsel rfl rfl rfl rfl hb2 rfl rfl (by kernel_rfl) (by kernel_rfl) rfl (fun _ hw=>(Rm (S.tm rfl))) fun a S=>Dj 10 S hsel rfl rfl rfl rfl hb2 rfl rfl (by kernel_rfl) (by kernel_rfl) rfl (fun _ hw=>(Gp (S.tm rfl) rfl)) ?_;clear S;intro a S
        obtain ⟨b4,hg4,hr4⟩:=Eu (a:=a) (x:=.tmp 24) (y:=.tmp 26) (ty:=0) Nc Hi S (i:=0) rfl (Dc hc2).1 (Dc hc2).2 (S.tm rfl) (S.tm rfl)
        refine Dj 11 S hsel rfl rfl rfl rfl hb2 rfl rfl (by kernel_rfl) (by kernel_rfl) rfl (fun _ hw=>(hr4 _)) ?_;clear S;intro a S
        clear hr4
        refine Dj 12 S hsel rfl rfl rfl rfl hb2 rfl rfl (by kernel_rfl) (by kernel_rfl) rfl (fun _ hw=>(Gj isAgg9 (off:=((W (x4 - 1)).toNat) * 1) (o:=0) (S.tm rfl) ((Kk Hi S (i:=0) rfl hg4 (Dc hc2).1 (Gt (e':=.own U 9 1 x3.length (x3.flatMap Jw)))).kept hw) rfl)) fun a S=>Ff 13 (by kernel_rfl) rfl (Da S rfl rfl rfl hb2 (Dd S (fun _=>Cz (vs:=[sV (nth x3 x4),sV (nth x3 (W (x4 - 1)))]) ⟨(S.tm rfl),(S.tm rfl),trivial⟩ call66) (Zi _ (nth x3 x4) (nth x3 (W (x4 - 1))) _ rfl) rfl ?_));clear S;intro v2 a w8 hv2 hk3 hn2 S
        subst hv2
        refine Ld (Gl hk3 (Js [14] hsel (by kernel_rfl) rfl ?_))
        clear hsel
        refine Fj S rfl (Ms hb2 (S.tm rfl) (S.tm rfl)) rfl fun a S=>Jc ?_
        replace S:=S.k16 0 1 2 6 7 20 21 22 23 24 25 26 27 28 29 30 rfl
        exact Tn (⟨(Qq (nth x3 x4) (nth x3 (W (x4 - 1)))),h,S.nf [true] rfl (subR rfl)⟩)
       ·replace h:=Rc h hb2
        refine Fo [] ([]) Tryz.mixed S rfl (by kernel_rfl) ?_;clear S;intro w9 hk4 hsel S
        refine Js [0,1,2,3,4,5,6,7,8,9,10,11,12,13,14] hsel (by kernel_rfl) rfl ?_
        clear hsel
        refine Fj S rfl (Rm (S.tm rfl)) rfl fun a S=>Fj S rfl (Rm (S.tm rfl)) rfl fun a S=>Fj S rfl (It (S.tm rfl) (S.tm rfl)) rfl fun a S=>Fj S rfl (Rm (S.tm rfl)) rfl ?_;clear S;intro a S
        iterate 10 (refine Rj S rfl rfl rfl rfl (Jk hb2) rfl ?_ rfl;clear S;intro a S)
        refine Fj S rfl (Mt hb2 (S.tm rfl) rfl) rfl fun a S=>Jc ?_
        replace S:=S.k6 0 1 2 6 7 30 rfl
        exact Tn (⟨false,h,S.nf [true] rfl (subR rfl)⟩)
      clear S h;rintro a w5 ⟨x5,h,S⟩;rw [hj3] at h;clear hj3 j3
      refine Tn (Fc h (S.tm rfl) (fun hb3 h=>?_) (fun hb3 h=>?_))
      ·refine wp_skip (Tn (Fs (wp_block ?_)))
       obtain ⟨hc3,h⟩:=Gu h
       obtain ⟨hc4,h⟩:=Gu h
       obtain ⟨hc5,h⟩:=Gu h
       obtain ⟨hc6,h⟩:=Gu h
       refine Fo [15,17] ([]) Tryz.mixed S rfl (by kernel_rfl) ?_;clear S;intro w14 hk9 hsel S
       refine Ee 0 S hsel rfl rfl (by kernel_rfl) (by kernel_rfl) rfl (fun _=>(Rm (S.tm rfl))) fun a S=>Ee 1 S hsel rfl rfl (by kernel_rfl) (by kernel_rfl) rfl (fun _=>(Rm (S.tm rfl))) fun a S=>Ee 2 S hsel rfl rfl (by kernel_rfl) (by kernel_rfl) rfl (fun _=>(Rm (S.tm rfl))) fun a S=>Ee 3 S hsel rfl rfl (by kernel_rfl) (by kernel_rfl) rfl (fun _=>(Rm (S.tm rfl))) fun a S=>Ee 4 S hsel rfl rfl (by kernel_rfl) (by kernel_rfl) rfl (fun _=>(Gp (S.tm rfl) rfl)) fun a S=>Ee 5 S hsel rfl rfl (by kernel_rfl) (by kernel_rfl) rfl (fun _=>(Rm (S.tm rfl))) fun a S=>Ee 6 S hsel rfl rfl (by kernel_rfl) (by kernel_rfl) rfl (fun _=>(Rm (S.tm rfl))) fun a S=>Ee 7 S hsel rfl rfl (by kernel_rfl) (by kernel_rfl) rfl (fun _=>(Gp (S.tm rfl) rfl)) ?_;clear S;intro a S
       obtain ⟨b9,hg9,hr9⟩:=Eu (a:=a) (x:=.tmp 38) (y:=.tmp 40) (ty:=0) Nc Hi S (i:=0) rfl (Dc hc3).1 (Dc hc3).2 (S.tm rfl) (S.tm rfl)
       refine Ee 8 S hsel rfl rfl (by kernel_rfl) (by kernel_rfl) rfl (fun _=>(hr9 _)) ?_;clear S;intro a S
       clear hr9
       refine De 9 S hsel rfl (by kernel_rfl) (by kernel_rfl) (by kernel_rfl) (by kernel_rfl) rfl (fun _ hw=>(Gj isAgg9 (off:=((W (x4 - 1)).toNat) * 1) (o:=0) (S.tm rfl) ((Kk Hi S (i:=0) rfl hg9 (Dc hc3).1 (Gt (e':=.own U 9 1 x3.length (x3.flatMap Jw)))).kept hw) rfl)) fun a S=>Ee 10 S hsel rfl rfl (by kernel_rfl) (by kernel_rfl) rfl (fun _=>(Rm (S.tm rfl))) fun a S=>Ee 11 S hsel rfl rfl (by kernel_rfl) (by kernel_rfl) rfl (fun _=>(Rm (S.tm rfl))) ?_;clear S;intro a S
       obtain ⟨b10,hg10,hr10⟩:=Eu (a:=a) (x:=.tmp 43) (y:=.tmp 44) (ty:=0) Nc Hi S (i:=0) rfl (Dc hc4).1 (Dc hc4).2 (S.tm rfl) (S.tm rfl)
       refine Ee 12 S hsel rfl rfl (by kernel_rfl) (by kernel_rfl) rfl (fun _=>(hr10 _)) ?_;clear S;intro a S
       clear hr10
       refine De 13 S hsel rfl (by kernel_rfl) (by kernel_rfl) (by kernel_rfl) (by kernel_rfl) rfl (fun _ hw=>(Gj isAgg9 (off:=x4.toNat * 1) (o:=0) (S.tm rfl) ((Kk Hi S (i:=0) rfl hg10 (Dc hc4).1 (Gt (e':=.own U 9 1 x3.length (x3.flatMap Jw)))).kept hw) rfl)) ?_;clear S;intro a S
       obtain ⟨b11,hg11,hr11⟩:=Eu (a:=a) (x:=.tmp 33) (y:=.tmp 34) (ty:=0) Nc Hi S (i:=0) rfl (Dc hc5).1 (Dc hc5).2 (S.tm rfl) (S.tm rfl)
       refine Ee 14 S hsel rfl rfl (by kernel_rfl) (by kernel_rfl) rfl (fun _=>(hr11 _)) ?_;clear S;intro a S
       clear hr11
       refine Rf 15 (U.ownBlock.toList) rfl (by kernel_rfl) rfl (Le (c:=0) (j:=x4.toNat) (nth x3 (W (x4 - 1))) Hi S (S.tm rfl) (S.tm rfl) (i:=0) rfl hg11 (Dc hc5).1 sizeOf9 (vs:=[sV (nth x3 (W (x4 - 1)))]) rfl rfl rfl rfl rfl ?_);clear S;intro w16 hk11 S
       refine Ld (Rh ?_)
       obtain ⟨b12,hg12,hr12⟩:=Eu (a:=a) (x:=.tmp 35) (y:=.tmp 37) (ty:=0) Nc Hi S (i:=0) rfl (Dc hc6).1 (Dc hc6).2 (S.tm rfl) (S.tm rfl)
       refine De 16 S hsel rfl rfl rfl (by kernel_rfl) (by kernel_rfl) rfl (fun _ hw=>(hr12 _)) ?_;clear S;intro a S
       clear hr12
       refine Ff 17 (by kernel_rfl) rfl (Le (c:=0) (j:=(W (x4 - 1)).toNat) (nth x3 x4) Hi S (S.tm rfl) (S.tm rfl) (i:=0) rfl hg12 (Dc hc6).1 sizeOf9 (vs:=[sV (nth x3 x4)]) rfl rfl rfl rfl rfl ?_);clear S;intro w18 hk13 S
       refine Ld (Gl hk13 (Se (by kernel_rfl) ?_))
       clear hsel
       replace S:=(S.nl [.own U 9 1 ((x3.set x4.toNat (nth x3 (W (x4 - 1)))).set ((W (x4 - 1)).toNat) (nth x3 x4)).length (((x3.set x4.toNat (nth x3 (W (x4 - 1)))).set ((W (x4 - 1)).toNat) (nth x3 x4)).flatMap Jw)] [true] rfl).k5 0 1 2 6 7 rfl
       exact Gy (Tn (Fg (Vm S rfl rfl fun a S=>Vq S Gp rfl rfl rfl fun a S=>Va S rfl rfl fun a S=>Dl (⟨m2,⟨((x3.set x4.toNat (nth x3 (W (x4 - 1)))).set ((W (x4 - 1)).toNat) (nth x3 x4)),W (x4 - 1),h,S.nf [true] rfl ⟨rfl,rfl,rfl,rfl,rfl,trivial⟩⟩,Nat.lt_succ_self _⟩))))
      ·exact wp_exit (Dt (Dt (Gh (Tn (⟨x3,h,S.nf [true] rfl (subR rfl)⟩)))))
    clear S h;rintro a w4 ⟨x3,h,S⟩;rw [hj2] at h;clear hj2 j2
    exact Gy (Tn (Fg (Vm S rfl rfl fun a S=>Vq S Fa rfl rfl rfl fun a S=>Va S rfl rfl fun a S=>Dl (⟨m1,⟨x3,W (x2 + 1),h,S.nf [true] rfl ⟨rfl,rfl,rfl,rfl,trivial⟩⟩,Nat.lt_succ_self _⟩))))
   ·exact wp_exit (Dt (Dt (Gh (Tn (⟨x1,h,S.nf [true] rfl trivial⟩)))))
 clear S h;rintro a w2 ⟨x1,h,S⟩;rw [hj1] at h;clear hj1 j1
 obtain rfl:=Option.some.inj h
 exact Ph S results60 ⟨(S.holds _ (List.mem_of_getElem? (i:=0) rfl)),rfl⟩
theorem Sd (w : World) (U : Value) (Af : List ByteArray) (Bb : (LEnt.own U 9 1 Af.length (Af.flatMap Jw)).holds w) (Aj : Int) (Am : Int) (Bt : Int) (r : (List ByteArray)) (h : Mh Af Aj Am Bt = some r) :
    Calls prog 27 [U,iV Aj,iV Am,iV Bt].toArray w (Ret w (U.ownBlock.toList) fun _ v w'=>(LEnt.own U 9 1 r.length (r.flatMap Jw)).holds w' ∧ v = .tuple #[]):=by
 refine Iy (U.ownBlock.toList) [.own U 9 1 Af.length (Af.flatMap Jw)] func27 rfl ntmps27 rfl (fun e he=>by simp only [List.mem_singleton] at he;subst he;exact Bb) (Hb _) (Ip _) fun a S=>?_
 unfold Mh at h
 replace S:=(S.nl [.own U 9 1 Af.length (Af.flatMap Jw)] [true] rfl).k4 0 1 2 3 rfl
 refine Fr (Vk S rfl rfl fun a S=>Dz (Vk S rfl rfl fun a S=>Dl ?_))
 replace S:=S.k5 0 1 2 3 8 rfl
 refine Dy (fun a w'=>False) ?_ ?_
 ·refine wp_block (Gs (fun (m1 : Nat) a w'=>∃ x1 : Int,∃ x2 : Int,∃ x3 : Int,∃ x4 : Bool,Gz Af m1 x1 x2 x3 x4 = some r ∧ Sx w (U.ownBlock.toList) nov [.own U 9 1 Af.length (Af.flatMap Jw)] [(0,U),(1,iV x1),(2,iV x2),(3,iV x3),(8,bV x4)] 134 a w') id 4611686018427387904 ⟨Aj,Am,Bt,true,h,S.nf [true] rfl (subR rfl)⟩ ?_)
  clear S h;rintro m1 a w1 ⟨x1,x2,x3,x4,h,S⟩
  cases m1 with
  | zero=>rw [Gz.eq_1] at h;cases h
  | succ m1 =>
   rw [Gz.eq_2] at h
   refine wp_block (Fr (Vm S rfl rfl fun a S=>Vm S rfl rfl fun a S=>Vb S Gp rfl rfl rfl fun a S=>Va S rfl rfl fun a S=>Dl (Fs (Fs ?_))))
   refine Fg (Vm S rfl rfl fun a S=>Vq S Qt rfl rfl rfl fun a S=>Dl (Fc h (S.tm rfl) (fun hb1 h=>?_) (fun hb1 h=>?_)))
   ·refine Fs (Fg ?_)
    iterate 3 (refine Vm S rfl rfl ?_;clear S;intro a S)
    obtain ⟨r1,hr1,h⟩:=Ej h
    refine Km 0 S rfl (fun _=>.own U 9 1 r1.length (r1.flatMap Jw)) (fun _=>Cz (vs:=[U,iV x1,iV x2]) ⟨(S.tm rfl),(S.tm rfl),(S.tm rfl),trivial⟩ call60) (Qe _ U Af (S.holds _ (List.mem_of_getElem? (i:=0) rfl)) x1 x2 _ hr1) rfl (fun _ _ _ h=>⟨h.1,fun _ hc=>hc⟩) ?_;clear S;intro v1 a w3 hv1 hk1 hn1 S
    replace hv1:=hv1.2
    subst hv1
    refine Ld ?_
    replace S:=(S.nl [.own U 9 1 r1.length (r1.flatMap Jw)] [true] rfl).k0
    refine Tn (wp_ret (Db (Gc (Db (Gc (Db ?_))))))
    obtain rfl:=Option.some.inj h
    exact Ph S results27 ⟨(S.holds _ (List.mem_of_getElem? (i:=0) rfl)),rfl⟩
   ·refine wp_skip (Tn (Fs (Fr (Vm S rfl rfl fun a S=>Vq S Hj rfl rfl rfl fun a S=>Dl (Fc h (S.tm rfl) (fun hb2 h=>?_) (fun hb2 h=>?_))))))
    ·refine Fs ?_
     cases h
    ·refine wp_skip (Tn (Fs (Fr (Vm S rfl rfl fun a S=>Vu S Gk rfl rfl fun a S=>Ld ?_))))
     replace S:=S.k1 35 rfl
     refine Tn (Fc h (S.tm rfl) (fun hb3 h=>?_) (fun hb3 h=>?_))
     ·refine Fs ?_
      cases h
     ·refine wp_skip (Tn (Fs ?_))
      cases h
 exact fun _ _ h=>h.elim
theorem Wn (w : World) (Au : Value) (Ab : List ByteArray) (By : (LEnt.own Au 9 1 Ab.length (Ab.flatMap Jw)).holds w) (r : (List ByteArray)) (h : Nb Ab = some r) :
    Calls prog 10 [Au].toArray w (Ret w (Au.ownBlock.toList) fun _ v w'=>(LEnt.own Au 9 1 r.length (r.flatMap Jw)).holds w' ∧ v = .tuple #[]):=by
 refine Iy (Au.ownBlock.toList) [.own Au 9 1 Ab.length (Ab.flatMap Jw)] func10 rfl ntmps10 rfl (fun e he=>by simp only [List.mem_singleton] at he;subst he;exact By) (Hb _) (Ip _) fun a S=>?_
 unfold Nb at h
 replace S:=(S.nl [.own Au 9 1 Ab.length (Ab.flatMap Jw)] [true] rfl).k1 0 rfl
 refine Fr (Vm S rfl rfl fun a S=>lv S (Fi Nc (S.tm rfl) (Iz (S.own_at (i:=0) rfl))) rfl fun a S=>Va S rfl rfl fun a S=>Dl (Fg ?_))
 iterate 3 (refine Vm S rfl rfl ?_;clear S;intro a S)
 refine Vu S (Qn underlying3 underlying77) rfl rfl ?_;clear S;intro a S
 obtain ⟨r1,hr1,h⟩:=Ej h
 refine Dd S (fun _=>Cz (vs:=[.int .u64 (IntKind.wrap .u64 (Ab.length : Int))]) ⟨(S.tm rfl),trivial⟩ call28) (Xf _ (IntKind.wrap .u64 (Ab.length : Int)) _ hr1) rfl ?_;clear S;intro v1 a w1 hv1 hk1 hn1 S
 subst hv1
 obtain ⟨r2,hr2,h⟩:=Ej h
 refine Km 0 S rfl (fun _=>.own Au 9 1 r2.length (r2.flatMap Jw)) (fun _=>Cz (vs:=[Au,iV 0,iV (Ab.length : Int),iV r1]) ⟨(S.tm rfl),rfl,(S.tm rfl),(S.tm rfl),trivial⟩ call27) (Sd _ Au Ab (S.holds _ (List.mem_of_getElem? (i:=0) rfl)) 0 (Ab.length : Int) r1 _ hr2) rfl (fun _ _ _ h=>⟨h.1,fun _ hc=>hc⟩) ?_;clear S;intro v2 a w2 hv2 hk2 hn2 S
 replace hv2:=hv2.2
 subst hv2
 refine Ld ?_
 obtain rfl:=Option.some.inj h
 exact Ph S results10 ⟨(S.holds _ (List.mem_of_getElem? (i:=0) rfl)),rfl⟩
set_option maxRecDepth 20000 in
theorem Uu (w : World) (Al : Value) (Ap : List ByteArray) (Cl : (LEnt.own Al 9 1 Ap.length (Ap.flatMap Jw)).holds w) (r : (List ByteArray)) (h : Lo Ap = some r) :
    Calls prog 11 [Al].toArray w (Ret w (Al.ownBlock.toList) fun _ v w'=>(LEnt.own v 9 1 r.length (r.flatMap Jw)).holds w' ∧ v.ownBlock = Al.ownBlock):=by
 refine Iy (Al.ownBlock.toList) [.own Al 9 1 Ap.length (Ap.flatMap Jw)] func11 rfl ntmps11 rfl (fun e he=>by simp only [List.mem_singleton] at he;subst he;exact Cl) (Hb _) (Ip _) fun a S=>?_
 unfold Lo at h
 replace S:=(S.nl [.own Al 9 1 Ap.length (Ap.flatMap Jw)] [true] rfl).k1 0 rfl
 refine Fr (Vk S rfl rfl fun a S=>Dl (Fs (Fr (Vm S rfl rfl fun a S=>lv S (Fi Nc (S.tm rfl) (Iz (S.own_at (i:=0) rfl))) rfl fun a S=>Vq S Ev rfl rfl rfl ?_))));clear S;intro a S
 refine Dl (Fc h (S.tm rfl) (fun hb1 h=>?_) (fun hb1 h=>?_))
 ·refine Fr (Vm S rfl rfl fun a S=>Va S rfl rfl fun a S=>Dl (wp_ret (Db ?_)))
  obtain rfl:=Option.some.inj h
  exact Ds S results11 rfl ⟨(S.holds _ (List.mem_of_getElem? (i:=0) rfl)),rfl⟩
 ·refine wp_skip (Tn (Fs (Fr (Vk S rfl rfl fun a S=>Dl ?_))))
  replace S:=S.k2 0 3 rfl
  obtain ⟨j1,hj1,h⟩:=Eo h
  refine Dy (fun a w'=>j1 = some r ∧ Sx w (Al.ownBlock.toList) nov [.own Al 9 1 Ap.length (Ap.flatMap Jw)] [(0,Al)] 61 a w') ?_ ?_
  ·refine wp_block (Gs (fun (m1 : Nat) a w'=>∃ x1 : Int,Hy Ap j1 m1 x1 = some r ∧ Sx w (Al.ownBlock.toList) nov [.own Al 9 1 Ap.length (Ap.flatMap Jw)] [(0,Al),(3,iV x1)] 61 a w') id (((Ap.length : Int) - 1).toNat + 2) ⟨1,h,S.nf [true] rfl (subR rfl)⟩ ?_)
   clear S h;rintro m1 a w1 ⟨x1,h,S⟩
   cases m1 with
   | zero=>rw [Hy.eq_1] at h;cases h
   | succ m1 =>
    rw [Hy.eq_2] at h
    refine Fs (Fr (Vm S rfl rfl fun a S=>Vm S rfl rfl fun a S=>lv S (Fi Nc (S.tm rfl) (Iz (S.own_at (i:=0) rfl))) rfl fun a S=>Vb S Ev rfl rfl rfl fun a S=>Dl (Fc h (S.tm rfl) (fun hb2 h=>?_) (fun hb2 h=>?_))))
    ·refine wp_skip (Tn (Fs (wp_block (Fs (Fo [] ([]) Tryz.mixed S rfl (by kernel_rfl) ?_)))));clear S;intro w3 hk1 hsel S
     refine Js [0,1,2,3,4,5,6,7,8,9] hsel (by kernel_rfl) rfl ?_
     clear hsel
     refine Fj S rfl (Rm (S.tm rfl)) rfl fun a S=>Fj S rfl (Rm (S.tm rfl)) rfl ?_;clear S;intro a S
     obtain ⟨hc1,h⟩:=Gu h
     obtain ⟨b1,hg1,hr1⟩:=Eu (a:=a) (x:=.tmp 16) (y:=.tmp 17) (ty:=0) Nc Hi S (i:=0) rfl (Dc hc1).1 (Dc hc1).2 (S.tm rfl) (S.tm rfl)
     refine Fj S rfl (hr1 _) rfl ?_;clear S;intro a S
     clear hr1
     refine Fj S rfl (Gj isAgg9 (off:=x1.toNat * 1) (o:=0) (S.tm rfl) (Mu Hi S (i:=0) rfl hg1 (Dc hc1).1) rfl) rfl fun a S=>Fj S rfl (Rm (S.tm rfl)) rfl fun a S=>Fj S rfl (Rm (S.tm rfl)) rfl fun a S=>Fj S rfl (Gp (S.tm rfl) rfl) rfl ?_;clear S;intro a S
     obtain ⟨hc2,h⟩:=Gu h
     obtain ⟨b2,hg2,hr2⟩:=Eu (a:=a) (x:=.tmp 20) (y:=.tmp 22) (ty:=0) Nc Hi S (i:=0) rfl (Dc hc2).1 (Dc hc2).2 (S.tm rfl) (S.tm rfl)
     refine Fj S rfl (hr2 _) rfl ?_;clear S;intro a S
     clear hr2
     refine Fj S rfl (Gj isAgg9 (off:=((W (x1 - 1)).toNat) * 1) (o:=0) (S.tm rfl) (Mu Hi S (i:=0) rfl hg2 (Dc hc2).1) rfl) rfl fun a S=>Fj S rfl (Xn (S.tm rfl) (S.tm rfl)) rfl fun a S=>Jc ?_
     replace S:=S.k3 0 3 25 rfl
     refine Tn (Fc h (S.tm rfl) (fun hb3 h=>?_) (fun hb3 h=>?_))
     ·refine Fr (Vm S rfl rfl fun a S=>Vm S rfl rfl ?_);clear S;intro a S
      obtain ⟨hc3,h⟩:=Gu h
      obtain ⟨u1,hu1,hr3⟩:=IU (a:=a) (x:=.tmp 26) (y:=.tmp 27) (ty:=45) Nc S (i:=0) rfl (S.tm rfl) (S.tm rfl) hc3
      refine lv S (hr3 _) rfl ?_;clear S;intro a S
      clear hr3
      refine Va S rfl rfl fun a S=>Dl (Fs (Fr (Vk S rfl rfl fun a S=>Dl ?_)))
      replace S:=S.k4 0 3 4 5 rfl
      obtain ⟨j2,hj2,h⟩:=Eo h
      refine Dy (fun a w'=>∃ x2 : List ByteArray,∃ x3 : Int,j2 x2 x3 = some r ∧ Sx w (Al.ownBlock.toList) nov [.own Al 9 1 x2.length (x2.flatMap Jw)] [(0,Al),(3,iV x3)] 61 a w') ?_ ?_
      ·refine wp_block (Gs (fun (m2 : Nat) a w'=>∃ x2 : List ByteArray,∃ x3 : Int,∃ x4 : Int,Hx Ap x1 j2 m2 x2 x3 x4 = some r ∧ Sx w (Al.ownBlock.toList) nov [.own Al 9 1 x2.length (x2.flatMap Jw)] [(0,Al),(3,iV x3),(4,u1),(5,iV x4)] 61 a w') id (((((Ap.length : Int).toNat - x1.toNat : Nat) : Int) - 1).toNat + 2) ⟨Ap,x1,1,h,S.nf [true] rfl (subR rfl)⟩ ?_)
       clear S h;rintro m2 a w4 ⟨x2,x3,x4,h,S⟩
       cases m2 with
       | zero=>rw [Hx.eq_1] at h;cases h
       | succ m2 =>
        rw [Hx.eq_2] at h
        refine Fs (Fr (Vm S rfl rfl fun a S=>Vm S rfl rfl fun a S=>lv S (Fi Nc (S.tm rfl) (subLen hu1)) rfl fun a S=>Vb S Ev rfl rfl rfl fun a S=>Dl (Fc h (S.tm rfl) (fun hb4 h=>?_) (fun hb4 h=>?_))))
        ·refine wp_skip (Tn (Fs ?_))
         obtain ⟨j3,hj3,h⟩:=Eo h
         refine Dy (fun a w'=>∃ x5 : List ByteArray,∃ x6 : Int,j3 x5 x6 = some r ∧ Sx w (Al.ownBlock.toList) nov [.own Al 9 1 x5.length (x5.flatMap Jw)] [(0,Al),(3,iV x6),(4,u1),(5,iV x4)] 61 a w') ?_ ?_
         ·refine wp_block (Fs (Fo [] ([]) Tryz.mixed S rfl (by kernel_rfl) ?_));clear S;intro w7 hk2 hsel S
          refine Js [0,1,2,3,4,5,6,7,8,9] hsel (by kernel_rfl) rfl ?_
          clear hsel
          refine Fj S rfl (Rm (S.tm rfl)) rfl fun a S=>Fj S rfl (Rm (S.tm rfl)) rfl ?_;clear S;intro a S
          obtain ⟨hc4,h⟩:=Gu h
          have hj4:=(FJ (FK S (i:=0) rfl hu1) hc4).1
          obtain ⟨b3,hg3,hr4⟩:=Wu (a:=a) (x:=.tmp 35) (y:=.tmp 36) (ty:=0) Nc Hi S (i:=0) rfl hu1 hc4 (S.tm rfl) (S.tm rfl)
          refine Fj S rfl (hr4 _) rfl ?_;clear S;intro a S
          clear hr4
          refine Fj S rfl (Gj isAgg9 (off:=(x1.toNat + x4.toNat) * 1) (o:=0) (S.tm rfl) (Mu Hi S (i:=0) rfl hg3 hj4) rfl) rfl fun a S=>Fj S rfl (Rm (S.tm rfl)) rfl fun a S=>Fj S rfl (Rm (S.tm rfl)) rfl fun a S=>Fj S rfl (Gp (S.tm rfl) rfl) rfl ?_;clear S;intro a S
          obtain ⟨hc5,h⟩:=Gu h
          have hj5:=(FJ (FK S (i:=0) rfl hu1) hc5).1
          obtain ⟨b4,hg4,hr5⟩:=Wu (a:=a) (x:=.tmp 39) (y:=.tmp 41) (ty:=0) Nc Hi S (i:=0) rfl hu1 hc5 (S.tm rfl) (S.tm rfl)
          refine Fj S rfl (hr5 _) rfl ?_;clear S;intro a S
          clear hr5
          refine Fj S rfl (Gj isAgg9 (off:=(x1.toNat + (W (x4 - 1)).toNat) * 1) (o:=0) (S.tm rfl) (Mu Hi S (i:=0) rfl hg4 hj5) rfl) rfl fun a S=>Fj S rfl (Xo (S.tm rfl) (S.tm rfl)) rfl fun a S=>Jc ?_
          replace S:=S.k5 0 3 4 5 44 rfl
          refine Tn ?_
          obtain ⟨j4,hj6,h⟩:=Eo h
          refine Dy (fun a w'=>∃ x7 : List ByteArray,∃ x8 : Int,j4 x7 x8 = some r ∧ Sx w (Al.ownBlock.toList) nov [.own Al 9 1 x7.length (x7.flatMap Jw)] [(0,Al),(3,iV x8),(4,u1),(5,iV x4)] 61 a w') ?_ ?_
          ·refine Fc h (S.tm rfl) (fun hb5 h=>?_) (fun hb5 h=>?_)
           ·refine Fs (Fg ?_)
            iterate 4 (refine Vm S rfl rfl ?_;clear S;intro a S)
            obtain ⟨hc6,h⟩:=Gu h
            have hj7:=(FJ (FK S (i:=0) rfl hu1) hc6).1
            obtain ⟨b5,hg5,hr6⟩:=Wu (a:=a) (x:=.tmp 47) (y:=.tmp 48) (ty:=0) Nc Hi S (i:=0) rfl hu1 hc6 (S.tm rfl) (S.tm rfl)
            refine lv S (hr6 _) rfl ?_;clear S;intro a S
            clear hr6
            refine lv S (Gj isAgg9 (off:=(x1.toNat + x4.toNat) * 1) (o:=0) (S.tm rfl) (Mu Hi S (i:=0) rfl hg5 hj7) rfl) rfl ?_;clear S;intro a S
            obtain ⟨hc7,h⟩:=Gu h
            obtain ⟨b6,hg6,hr7⟩:=Eu (a:=a) (x:=.tmp 45) (y:=.tmp 46) (ty:=0) Nc Hi S (i:=0) rfl (Dc hc7).1 (Dc hc7).2 (S.tm rfl) (S.tm rfl)
            refine lv S (hr7 _) rfl ?_;clear S;intro a S
            clear hr7
            refine Le (c:=0) (j:=x3.toNat) (nth (cut x2 x1 (Ap.length : Int)) x4) Hi S (S.tm rfl) (S.tm rfl) (i:=0) rfl hg6 (Dc hc7).1 sizeOf9 (vs:=[sV (nth (cut x2 x1 (Ap.length : Int)) x4)]) rfl rfl rfl rfl rfl ?_;clear S;intro w10 hk4 S
            exact Dl (Fg (Vm S rfl rfl fun a S=>Vq S Fa rfl rfl rfl fun a S=>Va S rfl rfl fun a S=>Dl (⟨(x2.set x3.toNat (nth (cut x2 x1 (Ap.length : Int)) x4)),W (x3 + 1),h,S.nf [true] rfl (subR rfl)⟩)))
           ·exact wp_skip (Tn (⟨x2,x3,h,S.nf [true] rfl (subR rfl)⟩))
          clear S h;rintro a w8 ⟨x7,x8,h,S⟩;rw [hj6] at h;clear hj6 j4
          exact Gy (Tn (⟨x7,x8,h,S.nf [true] rfl (subR rfl)⟩))
         clear S h;rintro a w6 ⟨x5,x6,h,S⟩;rw [hj3] at h;clear hj3 j3
         exact Tn (Fg (Vm S rfl rfl fun a S=>Vq S Fa rfl rfl rfl fun a S=>Va S rfl rfl fun a S=>Dl (⟨m2,⟨x5,x6,W (x4 + 1),h,S.nf [true] rfl ⟨rfl,rfl,rfl,rfl,trivial⟩⟩,Nat.lt_succ_self _⟩)))
        ·exact wp_exit (Dt (Dt (Gh (Tn (⟨x2,x3,h,S.nf [true] rfl (subR rfl)⟩)))))
      clear S h;rintro a w5 ⟨x2,x3,h,S⟩;rw [hj2] at h;clear hj2 j2
      refine Tn (Fr (Vm S rfl rfl fun a S=>Vm S rfl rfl ?_));clear S;intro a S
      obtain ⟨hc8,h⟩:=Gu h
      obtain ⟨u2,hu2,hr8⟩:=IU (a:=a) (x:=.tmp 54) (y:=.tmp 55) (ty:=45) Nc S (i:=0) rfl (S.tm rfl) (S.tm rfl) hc8
      refine lv S (hr8 _) rfl ?_;clear S;intro a S
      clear hr8
      refine l_clear (zl:=x3) (zh:=(x2.length : Int)) (z:=Cx) Nc rfl Hi S (i:=0) rfl hu2 (S.tm rfl) zeroValue9 rfl ?_;clear S;intro w11 hk5 S
      refine Dz (Vm S rfl rfl fun a S=>Vm S rfl rfl ?_);clear S;intro a S
      obtain ⟨hc9,h⟩:=Gu h
      obtain ⟨u3,hu3,hr9⟩:=rn_subh (a:=a) (x:=.tmp 57) (y':=.tmp 58) (ty:=45) Nc S (i:=0) rfl (S.tm rfl) (S.tm rfl) hc9
      refine lv S (hr9 _) rfl ?_;clear S;intro a S
      clear hr9
      refine Va S rfl rfl fun a S=>Dl (wp_ret (Gc (Db (Db (Gc (Db (Db ?_)))))))
      obtain ⟨S,hz1⟩:=S.ownCut (zh:=x3) Hi (i:=0) rfl hu3
      obtain rfl:=Option.some.inj h
      exact Ds S results11 rfl ⟨(S.holds _ (List.mem_of_getElem? (i:=0) rfl)),(BI.block hu3)⟩
     ·exact wp_skip (Gy (Tn (Fg (Vm S rfl rfl fun a S=>Vq S Fa rfl rfl rfl fun a S=>Va S rfl rfl fun a S=>Dl (⟨m1,⟨W (x1 + 1),h,S.nf [true] rfl ⟨rfl,rfl,trivial⟩⟩,Nat.lt_succ_self _⟩)))))
    ·exact wp_exit (Dt (Dt (Gh (Tn (⟨h,S.nf [true] rfl ⟨rfl,trivial⟩⟩)))))
  clear S h;rintro a w2 ⟨h,S⟩;rw [hj1] at h;clear hj1 j1
  refine Tn (Fr (Vm S rfl rfl fun a S=>Va S rfl rfl fun a S=>Dl (wp_ret ?_)))
  obtain rfl:=Option.some.inj h
  exact Ds S results11 rfl ⟨(S.holds _ (List.mem_of_getElem? (i:=0) rfl)),rfl⟩
theorem Wg (w : World) (Bh : Int) (r : Bool) (h : Tj Bh = r) :
    Calls prog 105 [iV Bh].toArray w (Ret w [] fun _ v _=>v = bV r):=by
 refine Fe func105 rfl ntmps105 rfl fun a S=>?_
 unfold Tj at h
 replace S:=S.k1 0 rfl
 refine Fr (Vk S rfl rfl fun a S=>Dz (Vm S rfl rfl fun a S=>lv S (Yu (S.tm rfl) rfl (by decide)) rfl fun a S=>Vq S Hj rfl rfl rfl fun a S=>Vm S rfl rfl ?_));clear S;intro a S
 refine Gr 9 (fun a w'=>Keep [] w w' ∧ Sx w [] nov [] [(15,bV ((decide ((Int.tmod Bh 4) = 0)) && ((!decide ((Int.tmod Bh 100) = 0)) || (decide ((Int.tmod Bh 400) = 0)))))] 16 a w') ?_ ?_
 ·rcases Bool.eq_false_or_eq_true (decide ((Int.tmod Bh 4) = 0)) with hb1 | hb1
  ·refine Da S rfl rfl rfl hb1 (Vm S rfl rfl fun a S=>Da S rfl rfl rfl hb1 (lv S (Yu (S.tm rfl) rfl (by decide)) rfl fun a S=>Da S rfl rfl rfl hb1 (Vq S Kg rfl rfl rfl fun a S=>Da S rfl rfl rfl hb1 (Vm S rfl rfl fun a S=>Gr 4 (fun a w'=>Keep [] w w' ∧ Sx w [] nov [] [(6,bV (decide ((Int.tmod Bh 4) = 0))),(14,bV ((!decide ((Int.tmod Bh 100) = 0)) || (decide ((Int.tmod Bh 400) = 0))))] 16 a w') ?_ ?_))))
   ·rcases Bool.eq_false_or_eq_true (!decide ((Int.tmod Bh 100) = 0)) with hb2 | hb2
    ·iterate 3 (refine Fy S rfl rfl rfl (Ki hb2) rfl ?_ rfl;clear S;intro a S)
     exact Da S rfl rfl rfl hb1 (lv S (Iw (decide ((Int.tmod Bh 400) = 0)) hb2 (S.tm rfl) rfl) rfl fun a S=>Dl (⟨Keep.refl _ _,S.nf [] rfl (subR rfl)⟩))
    ·exact Da S rfl rfl rfl hb2 (Vm S rfl rfl fun a S=>Da S rfl rfl rfl hb2 (lv S (Yu (S.tm rfl) rfl (by decide)) rfl fun a S=>Da S rfl rfl rfl hb2 (Vq S Hj rfl rfl rfl fun a S=>Da S rfl rfl rfl hb1 (lv S (Ix hb2 (S.tm rfl) (S.tm rfl)) rfl fun a S=>Dl (⟨Keep.refl _ _,S.nf [] rfl (subR rfl)⟩)))))
   clear S;rintro a w2 ⟨hk1,S⟩
   exact lv S (Hk hb1 (S.tm rfl) (S.tm rfl)) rfl fun a S=>Dl (⟨hk1,S.nf [] rfl ⟨rfl,trivial⟩⟩)
  ·iterate 4 (refine Fy S rfl rfl rfl (Jk hb1) rfl ?_ rfl;clear S;intro a S)
   iterate 3 (refine BR S rfl rfl rfl rfl ?_;clear S;intro a S)
   exact Fy S rfl rfl rfl (Jk hb1) rfl (fun a S=>lv S (Hl ((!decide ((Int.tmod Bh 100) = 0)) || (decide ((Int.tmod Bh 400) = 0))) hb1 (S.tm rfl) rfl) rfl fun a S=>Dl (⟨Keep.refl _ _,S.nf [] rfl ⟨rfl,trivial⟩⟩)) rfl
 clear S;rintro a w1 ⟨hk2,S⟩
 refine Va S rfl rfl fun a S=>Dl (wp_ret ?_)
 subst h
 exact Ds S results105 rfl rfl
theorem Td (w : World) (Bh : Int) (Ce : Int) (r : Int) (h : Kr Bh Ce = r) :
    Calls prog 71 [iV Bh,iV Ce].toArray w (Ret w [] fun _ v _=>v = iV r):=by
 refine Fe func71 rfl ntmps71 rfl fun a S=>?_
 unfold Kr at h
 replace S:=S.k2 0 1 rfl
 refine Fr (Vk S rfl rfl fun a S=>Dl (Fs (Fr (Vm S rfl rfl fun a S=>Dl ?_))))
 refine wp_block (Fr (Vq S Hj rfl rfl rfl fun a S=>Va S rfl rfl fun a S=>Dl (Fc h (S.tm rfl) (fun hb1 h=>?_) (fun hb1 h=>?_))))
 ·refine Fs (Fr (Vm S rfl rfl fun a S=>Dd S (fun _=>Cz (vs:=[iV Bh]) ⟨(S.tm rfl),trivial⟩ call105) (Wg _ Bh _ rfl) rfl ?_));clear S;intro v1 a w1 hv1 hk1 hn1 S
  subst hv1
  refine Dl (Fc h (S.tm rfl) (fun hb2 h=>?_) (fun hb2 h=>?_))
  ·refine Fr (Vk S rfl rfl fun a S=>Dl (wp_ret (Db (Gc (Db ?_)))))
   subst h
   exact Ds S results71 rfl rfl
  ·refine wp_skip (Tn (Fr (Vk S rfl rfl fun a S=>Dl (wp_ret (Gc (Db ?_))))))
   subst h
   exact Ds S results71 rfl rfl
 ·refine Fs (Fr (Vq S Hj rfl rfl rfl fun a S=>Va S rfl rfl fun a S=>Dl ?_))
  obtain ⟨j1,hj1,h⟩:=Eo h
  refine Dy (fun a w'=>∃ x1 : Bool,j1 x1 = r ∧ Sx w [] nov [] [(10,bV x1)] 15 a w') ?_ ?_
  ·refine Fc h (S.tm rfl) (fun hb3 h=>?_) (fun hb3 h=>?_)
   ·exact wp_skip (Tn (⟨decide (Ce = 4),h,S.nf [] rfl ⟨rfl,trivial⟩⟩))
   ·refine Fr (Vq S Hj rfl rfl rfl fun a S=>Va S rfl rfl fun a S=>Dl ?_)
    obtain ⟨j2,hj2,h⟩:=Eo h
    refine Dy (fun a w'=>∃ x2 : Bool,j2 x2 = r ∧ Sx w [] nov [] [(10,bV x2)] 15 a w') ?_ ?_
    ·refine Fc h (S.tm rfl) (fun hb4 h=>?_) (fun hb4 h=>?_)
     ·exact wp_skip (Tn (⟨decide (Ce = 6),h,S.nf [] rfl ⟨rfl,trivial⟩⟩))
     ·refine Fr (Vq S Hj rfl rfl rfl fun a S=>Va S rfl rfl fun a S=>Dl ?_)
      obtain ⟨j3,hj3,h⟩:=Eo h
      refine Dy (fun a w'=>∃ x3 : Bool,j3 x3 = r ∧ Sx w [] nov [] [(10,bV x3)] 15 a w') ?_ ?_
      ·refine Fc h (S.tm rfl) (fun hb5 h=>?_) (fun hb5 h=>?_)
       ·exact wp_skip (Tn (⟨decide (Ce = 9),h,S.nf [] rfl ⟨rfl,trivial⟩⟩))
       ·exact Fg (Vq S Hj rfl rfl rfl fun a S=>Va S rfl rfl fun a S=>Dl (⟨decide (Ce = 11),h,S.nf [] rfl ⟨rfl,trivial⟩⟩))
      clear S h;rintro a w4 ⟨x3,h,S⟩;rw [hj3] at h;clear hj3 j3
      exact Tn (⟨x3,h,S.nf [] rfl ⟨rfl,trivial⟩⟩)
    clear S h;rintro a w3 ⟨x2,h,S⟩;rw [hj2] at h;clear hj2 j2
    exact Tn (⟨x2,h,S.nf [] rfl ⟨rfl,trivial⟩⟩)
  clear S h;rintro a w2 ⟨x1,h,S⟩;rw [hj1] at h;clear hj1 j1
  refine Tn (Fc h (S.tm rfl) (fun hb6 h=>?_) (fun hb6 h=>?_))
  ·refine Fr (Vk S rfl rfl fun a S=>Dl (wp_ret (Gc (Db ?_))))
   subst h
   exact Ds S results71 rfl rfl
  ·refine wp_skip (Gy (Tn (Fr (Vk S rfl rfl fun a S=>Dl (wp_ret ?_)))))
   subst h
   exact Ds S results71 rfl rfl
theorem Th (w : World) (Bh : Int) (r : Int) (h : Mv Bh = r) :
    Calls prog 72 [iV Bh].toArray w (Ret w [] fun _ v _=>v = iV r):=by
 refine Fe func72 rfl ntmps72 rfl fun a S=>?_
 unfold Mv at h
 replace S:=S.k1 0 rfl
 refine Fr (Vk S rfl rfl fun a S=>Dl (Fs (Fr (Vm S rfl rfl fun a S=>Dd S (fun _=>Cz (vs:=[iV Bh]) ⟨(S.tm rfl),trivial⟩ call105) (Wg _ Bh _ rfl) rfl ?_))));clear S;intro v1 a w1 hv1 hk1 hn1 S
 subst hv1
 refine Dl (Fc h (S.tm rfl) (fun hb1 h=>?_) (fun hb1 h=>?_))
 ·refine Fr (Vk S rfl rfl fun a S=>Dl (wp_ret (Db ?_)))
  subst h
  exact Ds S results72 rfl rfl
 ·refine wp_skip (Tn (Fr (Vk S rfl rfl fun a S=>Dl (wp_ret ?_))))
  subst h
  exact Ds S results72 rfl rfl
theorem AO (w : World) (Av : Int) (r : Bool) (h : Uq Av = r) :
    Calls prog 73 [iV Av].toArray w (Ret w [] fun _ v _=>v = bV r):=by
 refine Fe func73 rfl ntmps73 rfl fun a S=>?_
 unfold Uq at h
 replace S:=S.k1 0 rfl
 refine Fr (Vk S rfl rfl fun a S=>Dz (Vm S rfl rfl fun a S=>Dd S (fun _=>Cz (vs:=[iV Av,iV (-40000),iV 4000]) ⟨(S.tm rfl),rfl,rfl,trivial⟩ call49) (Ed _ Av (-40000) 4000 _ rfl) rfl ?_));clear S;intro v1 a w1 hv1 hk1 hn1 S
 subst hv1
 refine Va S rfl rfl fun a S=>Dl (wp_ret ?_)
 subst h
 exact Ds S results73 rfl rfl
set_option maxRecDepth 20000 in
theorem AP (w : World) (Ad : Ju) (r : Int × Int) (h : Ur Ad = some r) :
    Calls prog 29 [.agg (Ju.enc Ad).toArray].toArray w (Ret w [] fun _ v _=>v = .tuple #[iV r.1,iV r.2]):=by
 refine Fe func29 rfl ntmps29 rfl fun a S=>?_
 unfold Ur at h
 replace S:=S.k1 0 rfl
 refine Fr (Ks S (S.tm rfl) (cs:=(Ju.enc Ad)) rfl rfl ?_);clear S;intro a w1 b1 hz1 hk1 S
 refine Vk S rfl rfl fun a S=>Vk S rfl rfl fun a S=>Dl (Fs (Fs ?_))
 obtain ⟨j1,hj1,h⟩:=Eo h
 refine Dy (fun a w'=>∃ x1 : Bool,j1 x1 = some r ∧ Sx w [] nov [.blk b1 (Ju.enc Ad) 81] [(1,.pointer (some ⟨b1,0,none⟩)),(28,bV x1)] 68 a w') ?_ ?_
 ·rcases Bool.eq_false_or_eq_true (!(Cy Ad.Year 1900 2100)) with hb1 | hb1
  ·replace h:=Rb h hb1
   rcases Bool.eq_false_or_eq_true true with hb2 | hb2
   ·replace h:=Rb h hb2
    refine Fo [] ([]) Tryz.mixed S rfl (by kernel_rfl) ?_;clear S;intro w6 hk5 hsel S
    refine De 0 S hsel rfl rfl rfl (by kernel_rfl) (by kernel_rfl) rfl (fun _ hw=>(Fp Tk (S.tm rfl))) fun a S=>De 1 S hsel rfl rfl rfl (by kernel_rfl) (by kernel_rfl) rfl (fun _ hw=>(Gj isAgg3 (off:=0) (o:=0) (S.tm rfl) ((S.blk_mem (i:=0) (cells:=(Ju.enc Ad)) (b:=b1) (T:=81) rfl (Gt (e':=.blk b1 (Ju.enc Ad) 81))).kept hw) rfl)) fun a S=>Ff 2 (by kernel_rfl) rfl (Dd S (fun _=>Cz (vs:=[iV Ad.Year,iV 1900,iV 2100]) ⟨(S.tm rfl),rfl,rfl,trivial⟩ call49) (Ed _ Ad.Year 1900 2100 _ rfl) rfl ?_);clear S;intro v4 a w7 hv4 hk6 hn4 S
    subst hv4
    refine Ld (Gl hk6 (Js [3,4,5,6,7,8,9,10,11,12,13,14,15,16,17,18,19,20] hsel (by kernel_rfl) rfl ?_))
    clear hsel
    refine Fj S rfl (Gk (S.tm rfl)) rfl fun a S=>Fj S rfl (Rm (S.tm rfl)) rfl ?_;clear S;intro a S
    iterate 4 (refine Rj S rfl rfl rfl rfl (Ki hb1) rfl ?_ rfl;clear S;intro a S)
    refine Fj S rfl (Ms hb1 (S.tm rfl) rfl) rfl fun a S=>Fj S rfl (Rm (S.tm rfl)) rfl ?_;clear S;intro a S
    iterate 9 (refine Rj S rfl rfl rfl rfl (Ki hb2) rfl ?_ rfl;clear S;intro a S)
    refine Fj S rfl (Ms hb2 (S.tm rfl) rfl) rfl fun a S=>Jc ?_
    replace S:=(S.nl [.blk b1 (Ju.enc Ad) 81] [true] rfl).k2 1 28 rfl
    exact Tn (⟨true,h,S.nf [true] rfl (subR rfl)⟩)
   ·replace h:=Rc h hb2
    refine Fo [] ([]) Tryz.mixed S rfl (by kernel_rfl) ?_;clear S;intro w11 hk10 hsel S
    refine De 0 S hsel rfl rfl rfl (by kernel_rfl) (by kernel_rfl) rfl (fun _ hw=>(Fp Tk (S.tm rfl))) fun a S=>De 1 S hsel rfl rfl rfl (by kernel_rfl) (by kernel_rfl) rfl (fun _ hw=>(Gj isAgg3 (off:=0) (o:=0) (S.tm rfl) ((S.blk_mem (i:=0) (cells:=(Ju.enc Ad)) (b:=b1) (T:=81) rfl (Gt (e':=.blk b1 (Ju.enc Ad) 81))).kept hw) rfl)) fun a S=>Ff 2 (by kernel_rfl) rfl (Dd S (fun _=>Cz (vs:=[iV Ad.Year,iV 1900,iV 2100]) ⟨(S.tm rfl),rfl,rfl,trivial⟩ call49) (Ed _ Ad.Year 1900 2100 _ rfl) rfl ?_);clear S;intro v8 a w12 hv8 hk11 hn8 S
    subst hv8
    refine Ld (Gl hk11 (De 3 S hsel rfl rfl rfl (by kernel_rfl) (by kernel_rfl) rfl (fun _ hw=>(Gk (S.tm rfl))) fun a S=>De 4 S hsel rfl rfl rfl (by kernel_rfl) (by kernel_rfl) rfl (fun _ hw=>(Rm (S.tm rfl))) fun a S=>FD 5 S hsel rfl rfl rfl rfl (Ki hb1) rfl (by kernel_rfl) (by kernel_rfl) rfl fun a S=>FD 6 S hsel rfl rfl rfl rfl (Ki hb1) rfl (by kernel_rfl) (by kernel_rfl) rfl fun a S=>FD 7 S hsel rfl rfl rfl rfl (Ki hb1) rfl (by kernel_rfl) (by kernel_rfl) rfl fun a S=>FD 8 S hsel rfl rfl rfl rfl (Ki hb1) rfl (by kernel_rfl) (by kernel_rfl) rfl fun a S=>De 9 S hsel rfl rfl rfl (by kernel_rfl) (by kernel_rfl) rfl (fun _ hw=>(Ms hb1 (S.tm rfl) rfl)) fun a S=>De 10 S hsel rfl rfl rfl (by kernel_rfl) (by kernel_rfl) rfl (fun _ hw=>(Rm (S.tm rfl))) fun a S=>Dj 11 S hsel rfl rfl rfl rfl hb2 rfl rfl (by kernel_rfl) (by kernel_rfl) rfl (fun _ hw=>(Fp FT (S.tm rfl))) ?_));clear S;intro a S
    refine Dj 12 S hsel rfl rfl rfl rfl hb2 rfl rfl (by kernel_rfl) (by kernel_rfl) rfl (fun _ hw=>(Gj isAgg3 (off:=0) (o:=2) (S.tm rfl) ((S.blk_mem (i:=0) (cells:=(Ju.enc Ad)) (b:=b1) (T:=81) rfl (Gt (e':=.blk b1 (Ju.enc Ad) 81))).kept hw) rfl)) fun a S=>Dj 13 S hsel rfl rfl rfl rfl hb2 rfl rfl (by kernel_rfl) (by kernel_rfl) rfl (fun _ hw=>(Fp Tk (S.tm rfl))) fun a S=>Dj 14 S hsel rfl rfl rfl rfl hb2 rfl rfl (by kernel_rfl) (by kernel_rfl) rfl (fun _ hw=>(Gj isAgg3 (off:=0) (o:=0) (S.tm rfl) ((S.blk_mem (i:=0) (cells:=(Ju.enc Ad)) (b:=b1) (T:=81) rfl (Gt (e':=.blk b1 (Ju.enc Ad) 81))).kept hw) rfl)) fun a S=>Dj 15 S hsel rfl rfl rfl rfl hb2 rfl rfl (by kernel_rfl) (by kernel_rfl) rfl (fun _ hw=>(Fp Zw (S.tm rfl))) fun a S=>Dj 16 S hsel rfl rfl rfl rfl hb2 rfl rfl (by kernel_rfl) (by kernel_rfl) rfl (fun _ hw=>(Gj isAgg3 (off:=0) (o:=1) (S.tm rfl) ((S.blk_mem (i:=0) (cells:=(Ju.enc Ad)) (b:=b1) (T:=81) rfl (Gt (e':=.blk b1 (Ju.enc Ad) 81))).kept hw) rfl)) fun a S=>Ff 17 (by kernel_rfl) rfl (Da S rfl rfl rfl hb2 (Dd S (fun _=>Cz (vs:=[iV Ad.Year,iV Ad.Month]) ⟨(S.tm rfl),(S.tm rfl),trivial⟩ call71) (Td _ Ad.Year Ad.Month _ rfl) rfl ?_));clear S;intro v9 a w13 hv9 hk12 hn9 S
    subst hv9
    refine Ld (Gl hk12 (Ff 18 (by kernel_rfl) rfl (Da S rfl rfl rfl hb2 (Dd S (fun _=>Cz (vs:=[iV Ad.Day,iV 1,iV (Kr Ad.Year Ad.Month)]) ⟨(S.tm rfl),rfl,(S.tm rfl),trivial⟩ call49) (Ed _ Ad.Day 1 (Kr Ad.Year Ad.Month) _ rfl) rfl ?_))));clear S;intro v10 a w14 hv10 hk13 hn10 S
    subst hv10
    refine Ld (Gl hk13 (Js [19,20] hsel (by kernel_rfl) rfl ?_))
    clear hsel
    refine Lx S rfl rfl rfl rfl hb2 (Ok S (Gk (S.tm rfl)) rfl fun a S=>Fj S rfl (Mt hb2 (S.tm rfl) (S.tm rfl)) rfl fun a S=>Jc ?_)
    replace S:=(S.nl [.blk b1 (Ju.enc Ad) 81] [true] rfl).k2 1 28 rfl
    exact Tn (⟨!(Cy Ad.Day 1 (Kr Ad.Year Ad.Month)),h,S.nf [true] rfl (subR rfl)⟩)
  ·replace h:=Rc h hb1
   rcases Bool.eq_false_or_eq_true (!(Cy Ad.Month 1 12)) with hb3 | hb3
   ·replace h:=Rb h hb3
    refine Fo [] ([]) Tryz.mixed S rfl (by kernel_rfl) ?_;clear S;intro w19 hk18 hsel S
    refine De 0 S hsel rfl rfl rfl (by kernel_rfl) (by kernel_rfl) rfl (fun _ hw=>(Fp Tk (S.tm rfl))) fun a S=>De 1 S hsel rfl rfl rfl (by kernel_rfl) (by kernel_rfl) rfl (fun _ hw=>(Gj isAgg3 (off:=0) (o:=0) (S.tm rfl) ((S.blk_mem (i:=0) (cells:=(Ju.enc Ad)) (b:=b1) (T:=81) rfl (Gt (e':=.blk b1 (Ju.enc Ad) 81))).kept hw) rfl)) fun a S=>Ff 2 (by kernel_rfl) rfl (Dd S (fun _=>Cz (vs:=[iV Ad.Year,iV 1900,iV 2100]) ⟨(S.tm rfl),rfl,rfl,trivial⟩ call49) (Ed _ Ad.Year 1900 2100 _ rfl) rfl ?_);clear S;intro v15 a w20 hv15 hk19 hn15 S
    subst hv15
    refine Ld (Gl hk19 (De 3 S hsel rfl rfl rfl (by kernel_rfl) (by kernel_rfl) rfl (fun _ hw=>(Gk (S.tm rfl))) fun a S=>De 4 S hsel rfl rfl rfl (by kernel_rfl) (by kernel_rfl) rfl (fun _ hw=>(Rm (S.tm rfl))) fun a S=>Dj 5 S hsel rfl rfl rfl rfl hb1 rfl rfl (by kernel_rfl) (by kernel_rfl) rfl (fun _ hw=>(Fp Zw (S.tm rfl))) fun a S=>Dj 6 S hsel rfl rfl rfl rfl hb1 rfl rfl (by kernel_rfl) (by kernel_rfl) rfl (fun _ hw=>(Gj isAgg3 (off:=0) (o:=1) (S.tm rfl) ((S.blk_mem (i:=0) (cells:=(Ju.enc Ad)) (b:=b1) (T:=81) rfl (Gt (e':=.blk b1 (Ju.enc Ad) 81))).kept hw) rfl)) fun a S=>Ff 7 (by kernel_rfl) rfl (Da S rfl rfl rfl hb1 (Dd S (fun _=>Cz (vs:=[iV Ad.Month,iV 1,iV 12]) ⟨(S.tm rfl),rfl,rfl,trivial⟩ call49) (Ed _ Ad.Month 1 12 _ rfl) rfl ?_))));clear S;intro v16 a w21 hv16 hk20 hn16 S
    subst hv16
    refine Ld (Gl hk20 (Js [8,9,10,11,12,13,14,15,16,17,18,19,20] hsel (by kernel_rfl) rfl ?_))
    clear hsel
    refine Lx S rfl rfl rfl rfl hb1 (Ok S (Gk (S.tm rfl)) rfl fun a S=>Fj S rfl (Mt hb1 (S.tm rfl) (S.tm rfl)) rfl fun a S=>Fj S rfl (Rm (S.tm rfl)) rfl ?_);clear S;intro a S
    iterate 9 (refine Rj S rfl rfl rfl rfl (Ki hb3) rfl ?_ rfl;clear S;intro a S)
    refine Fj S rfl (Ms hb3 (S.tm rfl) rfl) rfl fun a S=>Jc ?_
    replace S:=(S.nl [.blk b1 (Ju.enc Ad) 81] [true] rfl).k2 1 28 rfl
    exact Tn (⟨true,h,S.nf [true] rfl (subR rfl)⟩)
   ·replace h:=Rc h hb3
    refine Fo [] ([]) Tryz.mixed S rfl (by kernel_rfl) ?_;clear S;intro w26 hk25 hsel S
    refine De 0 S hsel rfl rfl rfl (by kernel_rfl) (by kernel_rfl) rfl (fun _ hw=>(Fp Tk (S.tm rfl))) fun a S=>De 1 S hsel rfl rfl rfl (by kernel_rfl) (by kernel_rfl) rfl (fun _ hw=>(Gj isAgg3 (off:=0) (o:=0) (S.tm rfl) ((S.blk_mem (i:=0) (cells:=(Ju.enc Ad)) (b:=b1) (T:=81) rfl (Gt (e':=.blk b1 (Ju.enc Ad) 81))).kept hw) rfl)) fun a S=>Ff 2 (by kernel_rfl) rfl (Dd S (fun _=>Cz (vs:=[iV Ad.Year,iV 1900,iV 2100]) ⟨(S.tm rfl),rfl,rfl,trivial⟩ call49) (Ed _ Ad.Year 1900 2100 _ rfl) rfl ?_);clear S;intro v21 a w27 hv21 hk26 hn21 S
    subst hv21
    refine Ld (Gl hk26 (De 3 S hsel rfl rfl rfl (by kernel_rfl) (by kernel_rfl) rfl (fun _ hw=>(Gk (S.tm rfl))) fun a S=>De 4 S hsel rfl rfl rfl (by kernel_rfl) (by kernel_rfl) rfl (fun _ hw=>(Rm (S.tm rfl))) fun a S=>Dj 5 S hsel rfl rfl rfl rfl hb1 rfl rfl (by kernel_rfl) (by kernel_rfl) rfl (fun _ hw=>(Fp Zw (S.tm rfl))) fun a S=>Dj 6 S hsel rfl rfl rfl rfl hb1 rfl rfl (by kernel_rfl) (by kernel_rfl) rfl (fun _ hw=>(Gj isAgg3 (off:=0) (o:=1) (S.tm rfl) ((S.blk_mem (i:=0) (cells:=(Ju.enc Ad)) (b:=b1) (T:=81) rfl (Gt (e':=.blk b1 (Ju.enc Ad) 81))).kept hw) rfl)) fun a S=>Ff 7 (by kernel_rfl) rfl (Da S rfl rfl rfl hb1 (Dd S (fun _=>Cz (vs:=[iV Ad.Month,iV 1,iV 12]) ⟨(S.tm rfl),rfl,rfl,trivial⟩ call49) (Ed _ Ad.Month 1 12 _ rfl) rfl ?_))));clear S;intro v22 a w28 hv22 hk27 hn22 S
    subst hv22
    refine Ld (Gl hk27 (Dj 8 S hsel rfl rfl rfl rfl hb1 rfl rfl (by kernel_rfl) (by kernel_rfl) rfl (fun _ hw=>(Gk (S.tm rfl))) fun a S=>De 9 S hsel rfl rfl rfl (by kernel_rfl) (by kernel_rfl) rfl (fun _ hw=>(Mt hb1 (S.tm rfl) (S.tm rfl))) fun a S=>De 10 S hsel rfl rfl rfl (by kernel_rfl) (by kernel_rfl) rfl (fun _ hw=>(Rm (S.tm rfl))) fun a S=>Dj 11 S hsel rfl rfl rfl rfl hb3 rfl rfl (by kernel_rfl) (by kernel_rfl) rfl (fun _ hw=>(Fp FT (S.tm rfl))) fun a S=>Dj 12 S hsel rfl rfl rfl rfl hb3 rfl rfl (by kernel_rfl) (by kernel_rfl) rfl (fun _ hw=>(Gj isAgg3 (off:=0) (o:=2) (S.tm rfl) ((S.blk_mem (i:=0) (cells:=(Ju.enc Ad)) (b:=b1) (T:=81) rfl (Gt (e':=.blk b1 (Ju.enc Ad) 81))).kept hw) rfl)) fun a S=>Dj 13 S hsel rfl rfl rfl rfl hb3 rfl rfl (by kernel_rfl) (by kernel_rfl) rfl (fun _ hw=>(Fp Tk (S.tm rfl))) fun a S=>Dj 14 S hsel rfl rfl rfl rfl hb3 rfl rfl (by kernel_rfl) (by kernel_rfl) rfl (fun _ hw=>(Gj isAgg3 (off:=0) (o:=0) (S.tm rfl) ((S.blk_mem (i:=0) (cells:=(Ju.enc Ad)) (b:=b1) (T:=81) rfl (Gt (e':=.blk b1 (Ju.enc Ad) 81))).kept hw) rfl)) fun a S=>Dj 15 S hsel rfl rfl rfl rfl hb3 rfl rfl (by kernel_rfl) (by kernel_rfl) rfl (fun _ hw=>(Fp Zw (S.tm rfl))) fun a S=>Dj 16 S hsel rfl rfl rfl rfl hb3 rfl rfl (by kernel_rfl) (by kernel_rfl) rfl (fun _ hw=>(Gj isAgg3 (off:=0) (o:=1) (S.tm rfl) ((S.blk_mem (i:=0) (cells:=(Ju.enc Ad)) (b:=b1) (T:=81) rfl (Gt (e':=.blk b1 (Ju.enc Ad) 81))).kept hw) rfl)) ?_));clear S;intro a S
    refine Ff 17 (by kernel_rfl) rfl (Da S rfl rfl rfl hb3 (Dd S (fun _=>Cz (vs:=[iV Ad.Year,iV Ad.Month]) ⟨(S.tm rfl),(S.tm rfl),trivial⟩ call71) (Td _ Ad.Year Ad.Month _ rfl) rfl ?_));clear S;intro v23 a w29 hv23 hk28 hn23 S
    subst hv23
    refine Ld (Gl hk28 (Ff 18 (by kernel_rfl) rfl (Da S rfl rfl rfl hb3 (Dd S (fun _=>Cz (vs:=[iV Ad.Day,iV 1,iV (Kr Ad.Year Ad.Month)]) ⟨(S.tm rfl),rfl,(S.tm rfl),trivial⟩ call49) (Ed _ Ad.Day 1 (Kr Ad.Year Ad.Month) _ rfl) rfl ?_))));clear S;intro v24 a w30 hv24 hk29 hn24 S
    subst hv24
    refine Ld (Gl hk29 (Js [19,20] hsel (by kernel_rfl) rfl ?_))
    clear hsel
    refine Lx S rfl rfl rfl rfl hb3 (Ok S (Gk (S.tm rfl)) rfl fun a S=>Fj S rfl (Mt hb3 (S.tm rfl) (S.tm rfl)) rfl fun a S=>Jc ?_)
    replace S:=(S.nl [.blk b1 (Ju.enc Ad) 81] [true] rfl).k2 1 28 rfl
    exact Tn (⟨!(Cy Ad.Day 1 (Kr Ad.Year Ad.Month)),h,S.nf [true] rfl (subR rfl)⟩)
 clear S h;rintro a w2 ⟨x1,h,S⟩;rw [hj1] at h;clear hj1 j1
 refine Tn (Fc h (S.tm rfl) (fun hb4 h=>?_) (fun hb4 h=>?_))
 ·refine Fr (Vk S rfl rfl fun a S=>Vk S rfl rfl fun a S=>Dl (wp_ret (Db ?_)))
  obtain rfl:=Option.some.inj h
  exact Ku S results29 rfl rfl rfl
 ·refine wp_skip (Tn (Fr (Vf FT S rfl rfl fun a S=>Vl isAgg3 0 S rfl rfl rfl rfl fun a S=>Vq S Gp rfl rfl rfl fun a S=>Va S rfl rfl fun a S=>Dl (Fs ?_))))
  refine Fr (Vk S rfl rfl fun a S=>Dl ?_)
  replace S:=S.k3 1 4 5 rfl
  obtain ⟨j2,hj2,h⟩:=Eo h
  refine Dy (fun a w'=>∃ x2 : Int,j2 x2 = some r ∧ Sx w [] nov [.blk b1 (Ju.enc Ad) 81] [(1,.pointer (some ⟨b1,0,none⟩)),(4,iV x2)] 68 a w') ?_ ?_
  ·refine wp_block (Gs (fun (m1 : Nat) a w'=>∃ x2 : Int,∃ x3 : Int,Kz Ad j2 m1 x2 x3 = some r ∧ Sx w [] nov [.blk b1 (Ju.enc Ad) 81] [(1,.pointer (some ⟨b1,0,none⟩)),(4,iV x2),(5,iV x3)] 68 a w') id ((Ad.Month - 1).toNat + 2) ⟨W (Ad.Day - 1),1,h,S.nf [true] rfl (subR rfl)⟩ ?_)
   clear S h;rintro m1 a w31 ⟨x2,x3,h,S⟩
   cases m1 with
   | zero=>rw [Kz.eq_1] at h;cases h
   | succ m1 =>
    rw [Kz.eq_2] at h
    refine Fs (Fr (Vm S rfl rfl fun a S=>Vf Zw S rfl rfl fun a S=>Vl isAgg3 0 S rfl rfl rfl rfl fun a S=>Vb S Ev rfl rfl rfl fun a S=>Dl (Fc h (S.tm rfl) (fun hb5 h=>?_) (fun hb5 h=>?_))))
    ·refine wp_skip (Tn (Fs (wp_block (Fg (Vm S rfl rfl fun a S=>Vf Tk S rfl rfl fun a S=>Vl isAgg3 0 S rfl rfl rfl rfl fun a S=>Vm S rfl rfl fun a S=>Dd S (fun _=>Cz (vs:=[iV Ad.Year,iV x3]) ⟨(S.tm rfl),(S.tm rfl),trivial⟩ call71) (Td _ Ad.Year x3 _ rfl) rfl ?_)))));clear S;intro v25 a w33 hv25 hk30 hn25 S
     subst hv25
     refine Vb S Fa rfl rfl rfl fun a S=>Va S rfl rfl fun a S=>Ld (Gy (Tn (Fg (Vm S rfl rfl fun a S=>Vq S Fa rfl rfl rfl fun a S=>Va S rfl rfl fun a S=>Ld ?_))))
     replace S:=S.k3 1 4 5 rfl
     exact Tn (⟨m1,⟨W (x2 + (Kr Ad.Year x3)),W (x3 + 1),h,S.nf [true] rfl ⟨rfl,rfl,rfl,trivial⟩⟩,Nat.lt_succ_self _⟩)
    ·exact wp_exit (Dt (Dt (Gh (Tn (⟨x2,h,S.nf [true] rfl (subR rfl)⟩)))))
  clear S h;rintro a w32 ⟨x2,h,S⟩;rw [hj2] at h;clear hj2 j2
  refine Tn (Fs (Fr (Vk S rfl rfl fun a S=>Dl ?_)))
  replace S:=S.k3 1 4 6 rfl
  obtain ⟨j3,hj3,h⟩:=Eo h
  refine Dy (fun a w'=>∃ x4 : Int,j3 x4 = some r ∧ Sx w [] nov [.blk b1 (Ju.enc Ad) 81] [(1,.pointer (some ⟨b1,0,none⟩)),(4,iV x4)] 68 a w') ?_ ?_
  ·refine wp_block (Gs (fun (m2 : Nat) a w'=>∃ x4 : Int,∃ x5 : Int,La Ad j3 m2 x4 x5 = some r ∧ Sx w [] nov [.blk b1 (Ju.enc Ad) 81] [(1,.pointer (some ⟨b1,0,none⟩)),(4,iV x4),(6,iV x5)] 68 a w') id ((Ad.Year - 2024).toNat + 2) ⟨x2,2024,h,S.nf [true] rfl (subR rfl)⟩ ?_)
   clear S h;rintro m2 a w34 ⟨x4,x5,h,S⟩
   cases m2 with
   | zero=>rw [La.eq_1] at h;cases h
   | succ m2 =>
    rw [La.eq_2] at h
    refine Fs (Fr (Vm S rfl rfl fun a S=>Vf Tk S rfl rfl fun a S=>Vl isAgg3 0 S rfl rfl rfl rfl fun a S=>Vb S Ev rfl rfl rfl fun a S=>Dl (Fc h (S.tm rfl) (fun hb6 h=>?_) (fun hb6 h=>?_))))
    ·refine wp_skip (Tn (Fs (wp_block (Fg (Vm S rfl rfl fun a S=>Vm S rfl rfl fun a S=>Dd S (fun _=>Cz (vs:=[iV x5]) ⟨(S.tm rfl),trivial⟩ call72) (Th _ x5 _ rfl) rfl ?_)))));clear S;intro v26 a w36 hv26 hk31 hn26 S
     subst hv26
     refine Vb S Fa rfl rfl rfl fun a S=>Va S rfl rfl fun a S=>Ld (Gy (Tn (Fg (Vm S rfl rfl fun a S=>Vq S Fa rfl rfl rfl fun a S=>Va S rfl rfl fun a S=>Dl ?_))))
     exact ⟨m2,⟨W (x4 + (Mv x5)),W (x5 + 1),h,S.nf [true] rfl ⟨rfl,rfl,rfl,trivial⟩⟩,Nat.lt_succ_self _⟩
    ·exact wp_exit (Dt (Dt (Gh (Tn (⟨x4,h,S.nf [true] rfl (subR rfl)⟩)))))
  clear S h;rintro a w35 ⟨x4,h,S⟩;rw [hj3] at h;clear hj3 j3
  refine Tn (Fs (Fr (Vf Tk S rfl rfl fun a S=>Vl isAgg3 0 S rfl rfl rfl rfl fun a S=>Va S rfl rfl fun a S=>Dl ?_)))
  replace S:=S.n0.k2 4 7 rfl
  obtain ⟨j4,hj4,h⟩:=Eo h
  refine Dy (fun a w'=>∃ x6 : Int,j4 x6 = some r ∧ Sx w [] nov [] [(4,iV x6)] 68 a w') ?_ ?_
  ·refine wp_block (Gs (fun (m3 : Nat) a w'=>∃ x6 : Int,∃ x7 : Int,Lb j4 m3 x6 x7 = some r ∧ Sx w [] nov [] [(4,iV x6),(7,iV x7)] 68 a w') id ((2024 - Ad.Year).toNat + 2) ⟨x4,Ad.Year,h,S.nf [] rfl (subR rfl)⟩ ?_)
   clear S h;rintro m3 a w37 ⟨x6,x7,h,S⟩
   cases m3 with
   | zero=>rw [Lb.eq_1] at h;cases h
   | succ m3 =>
    rw [Lb.eq_2] at h
    refine Fs (Fr (Vm S rfl rfl fun a S=>Vq S Ev rfl rfl rfl fun a S=>Dl (Fc h (S.tm rfl) (fun hb7 h=>?_) (fun hb7 h=>?_))))
    ·refine wp_skip (Tn (Fs (wp_block (Fg (Vm S rfl rfl fun a S=>Vm S rfl rfl fun a S=>Dd S (fun _=>Cz (vs:=[iV x7]) ⟨(S.tm rfl),trivial⟩ call72) (Th _ x7 _ rfl) rfl ?_)))));clear S;intro v27 a w39 hv27 hk32 hn27 S
     subst hv27
     refine Vb S Gp rfl rfl rfl fun a S=>Va S rfl rfl fun a S=>Ld (Gy (Tn (Fg (Vm S rfl rfl fun a S=>Vq S Fa rfl rfl rfl fun a S=>Va S rfl rfl fun a S=>Dl ?_))))
     exact ⟨m3,⟨W (x6 - (Mv x7)),W (x7 + 1),h,S.nf [] rfl ⟨rfl,rfl,trivial⟩⟩,Nat.lt_succ_self _⟩
    ·exact wp_exit (Dt (Dt (Gh (Tn (⟨x6,h,S.nf [] rfl ⟨rfl,trivial⟩⟩)))))
  clear S h;rintro a w38 ⟨x6,h,S⟩;rw [hj4] at h;clear hj4 j4
  refine Tn (Fs (Fr (Vm S rfl rfl fun a S=>Dd S (fun _=>Cz (vs:=[iV x6]) ⟨(S.tm rfl),trivial⟩ call73) (AO _ x6 _ rfl) rfl ?_)));clear S;intro v28 a w40 hv28 hk33 hn28 S
  subst hv28
  refine Vu S Gk rfl rfl fun a S=>Dl (Fc h (S.tm rfl) (fun hb8 h=>?_) (fun hb8 h=>?_))
  ·refine Fr (Vk S rfl rfl fun a S=>Vk S rfl rfl fun a S=>Dl (wp_ret (Db ?_)))
   obtain rfl:=Option.some.inj h
   exact Ku S results29 rfl rfl rfl
  ·refine wp_skip (Tn (Fr (Vm S rfl rfl fun a S=>Va S rfl rfl fun a S=>Vk S rfl rfl fun a S=>Dl (wp_ret ?_))))
   obtain rfl:=Option.some.inj h
   exact Ku S results29 rfl rfl rfl
theorem BP (w : World) (Ac : Value) (Ae : List Ka) (Ah : Slc (view w []) 5 Ac (Ae.map Ka.enc)) (Be : Int) (r : Int × Int) (h : Vx Ae Be = some r) :
    Calls prog 30 [Ac,iV Be].toArray w (Ret w [] fun _ v _=>v = .tuple #[iV r.1,iV r.2]):=by
 refine Fe func30 rfl ntmps30 rfl fun a S=>?_
 unfold Vx at h
 replace S:=S.k2 0 1 rfl
 refine Fr (Vk S rfl rfl fun a S=>Vk S rfl rfl fun a S=>Dz (Vm S rfl rfl fun a S=>Vm S rfl rfl ?_));clear S;intro a S
 obtain ⟨r1,hr1,h⟩:=Ej h
 have hz1:=S.keep.size
 refine Dd S (fun _=>Cz (vs:=[Ac,iV Be]) ⟨(S.tm rfl),(S.tm rfl),trivial⟩ call8) (Sy _ Ac Ae (Ah.mono (S.le_arg Ey)) Be _ hr1) rfl ?_;clear S;intro v1 a w1 hv1 hk1 hn1 S
 obtain ⟨u1,rfl,ho1⟩:=hv1
 obtain ⟨φ1,hl1,hm1,S⟩:=S.see' hn1 hz1
 have hs1:=ho1.mono hm1
 refine Vm S rfl rfl fun a S=>Vq S Gq rfl rfl rfl fun a S=>Vq S Gq rfl rfl rfl fun a S=>Va S rfl rfl fun a S=>Va S rfl rfl fun a S=>Dl (Fs (Fr (Vm S rfl rfl ?_)));clear S;intro a S
 refine Vq S Kg rfl rfl rfl fun a S=>Dl (Fc h (S.tm rfl) (fun hb1 h=>?_) (fun hb1 h=>?_))
 ·refine Fr (Vm S rfl rfl fun a S=>Vk S rfl rfl fun a S=>Va S rfl rfl fun a S=>Ld ?_)
  replace S:=S.k2 4 5 rfl
  refine Tn (wp_ret (Db ?_))
  obtain rfl:=Option.some.inj h
  exact Ku S results30 rfl rfl rfl
 ·refine wp_skip (Tn (Fr (Vm S rfl rfl fun a S=>Vm S rfl rfl ?_)));clear S;intro a S
  obtain ⟨r2,hr2,h⟩:=Ej h
  refine Dd S (fun _=>Cz (vs:=[u1,iV Be]) ⟨(S.tm rfl),(S.tm rfl),trivial⟩ call58) (Xk _ u1 r1.1 ((Fv Ik.enc_ok hs1).mono (S.le_new Ey)) Be _ hr2) rfl ?_;clear S;intro v2 a w2 hv2 hk2 hn2 S
  subst hv2
  refine Va S rfl rfl fun a S=>Vk S rfl rfl fun a S=>Ld ?_
  replace S:=S.k2 4 5 rfl
  refine Tn (wp_ret ?_)
  obtain rfl:=Option.some.inj h
  exact Ku S results30 rfl rfl rfl
theorem Vh (w : World) (Av : Int) (r : Bool) (h : Sp Av = r) :
    Calls prog 76 [iV Av].toArray w (Ret w [] fun _ v _=>v = bV r):=by
 refine Fe func76 rfl ntmps76 rfl fun a S=>?_
 unfold Sp at h
 replace S:=S.k1 0 rfl
 refine Fr (Vk S rfl rfl fun a S=>Dz (Vm S rfl rfl fun a S=>Dd S (fun _=>Cz (vs:=[iV Av,iV 1,iV 360000]) ⟨(S.tm rfl),rfl,rfl,trivial⟩ call49) (Ed _ Av 1 360000 _ rfl) rfl ?_));clear S;intro v1 a w1 hv1 hk1 hn1 S
 subst hv1
 refine Va S rfl rfl fun a S=>Dl (wp_ret ?_)
 subst h
 exact Ds S results76 rfl rfl
set_option maxRecDepth 20000 in
theorem Yl (w : World) (Ac : Value) (Ae : List Od) (Ah : Slc (view w []) 2 Ac (Ae.map Od.enc)) (r : Int) (h : Sm Ae = some r) :
    Calls prog 74 [Ac].toArray w (Ret w [] fun _ v _=>v = iV r):=by
 refine Fe func74 rfl ntmps74 rfl fun a S=>?_
 unfold Sm at h
 replace S:=S.k1 0 rfl
 refine Fr (Vk S rfl rfl fun a S=>Dl (Fs (Fr (Vm S rfl rfl fun a S=>lv S (Fi EJ (S.tm rfl) (Fm Ah)) rfl fun a S=>Vq S It rfl rfl rfl ?_))));clear S;intro a S
 refine Dl (Fc h (S.tm rfl) (fun hb1 h=>?_) (fun hb1 h=>?_))
 ·refine Fr (Vk S rfl rfl fun a S=>Dl (wp_ret (Db ?_)))
  obtain rfl:=Option.some.inj h
  exact Ds S results74 rfl rfl
 ·refine wp_skip (Tn (Fs (Fr (Vm S rfl rfl fun a S=>lv S (Fi EJ (S.tm rfl) (Fm Ah)) rfl fun a S=>lv S (Rm rfl) rfl fun a S=>Dl ?_))))
  replace S:=S.k4 0 8 9 10 rfl
  obtain ⟨j1,hj1,h⟩:=Eo h
  refine Dy (fun a w'=>j1 = some r ∧ Sx w [] nov [] [] 40 a w') ?_ ?_
  ·refine wp_block (Gs (fun (ys1 : List Od) a w'=>∃ i1 : Nat,(∃ dn,Ae = dn ++ ys1 ∧ dn.length = i1) ∧ Jq Ae j1 ys1 i1 = some r ∧ Sx w [] nov [] [(0,Ac),(8,Ac),(9,iV (Ae.length : Int)),(10,iV (i1 : Int))] 40 a w') List.length Ae ⟨0,⟨[],rfl,rfl⟩,h,S.nf [] rfl (subR rfl)⟩ ?_)
   clear S h;rintro ys1 a w1 ⟨i1,⟨dn,hd1,hi1⟩,h,S⟩
   cases ys1 with
   | nil =>
    rw [Jq.eq_1] at h
    refine Fr (Vb S Ev rfl rfl rfl fun a S=>Ld ?_)
    replace S:=S.k5 0 8 9 10 11 rfl
    exact Tn (Fs (wp_cond_false ((S.tm rfl).trans (congrArg Value.bool (Ke hd1 hi1))) (wp_exit (Dt (Dt (Gh (Tn (⟨h,S.nf [] rfl trivial⟩))))))))
   | cons y1 ys1 =>
    rw [Jq.eq_2] at h
    refine Fr (Vb S Ev rfl rfl rfl fun a S=>Ld ?_)
    replace S:=S.k5 0 8 9 10 11 rfl
    refine Tn (Fs (wp_cond_true ((S.tm rfl).trans (congrArg Value.bool (Ja hd1 hi1))) (wp_skip (Tn (Fs (wp_block (Fr (Vm S rfl rfl ?_))))))));clear S;intro a S
    obtain ⟨b1,o1,hm1,hr1⟩:=Fu (a:=a) (x:=.tmp 8) (y:=.tmp 10) (ty:=0) EJ Ah (Jx hd1 hi1) rfl (S.tm rfl) (S.tm rfl)
    refine lv S (hr1 _) rfl ?_;clear S;intro a S
    clear hr1
    refine lv S (Fb isAgg85 sizeOf85 (off:=o1) (o:=0) (part:=(Od.enc y1)) rfl rfl (S.tm rfl) (hm1.at S.emb0)) rfl fun a S=>Ic S zeroValue85 (cs:=[sV Cx,iV 0]) rfl rfl ?_;clear S;intro a w3 b2 hz1 hk1 S
    refine Va S rfl rfl fun a S=>Ep S (S.tm rfl) (S.tm rfl) (i:=0) (off:=0) rfl sizeOf85 (vs:=(Od.enc y1)) rfl rfl rfl rfl ?_;clear S;intro w4 hk2 S
    refine Dl (wp_block (Fr (Vf BZ S rfl rfl fun a S=>Vl isAgg9 0 S rfl rfl rfl rfl ?_)));clear S;intro a S
    obtain ⟨r1,hr2,h⟩:=Ej h
    refine Dd S (fun _=>Cz (vs:=[sV y1.Race]) ⟨(S.tm rfl),trivial⟩ call55) (Ko _ y1.Race _ hr2) rfl ?_;clear S;intro v1 a w5 hv1 hk3 hn1 S
    subst hv1
    refine Vu S Gk rfl rfl fun a S=>Va S rfl rfl fun a S=>Ld ?_
    replace S:=(S.nl [.blk b2 (Od.enc y1) 85] [true] rfl).k7 0 3 4 8 9 10 15 rfl
    refine Tn (Fc h (S.tm rfl) (fun hb2 h=>?_) (fun hb2 h=>?_))
    ·refine Fr (Vk S rfl rfl fun a S=>Dl (wp_ret (Gc (Gc (Db (Db (Gc ?_)))))))
     refine Db (Db ?_)
     obtain rfl:=Option.some.inj h
     exact Ds S results74 rfl rfl
    ·refine Fs (Fo [] ([]) Tryz.mixed S rfl (by kernel_rfl) ?_);clear S;intro w6 hk4 hsel S
     refine Js [0,1,2,3,4,5,6,7,8,9,10,11,12,13] hsel (by kernel_rfl) rfl ?_
     clear hsel
     refine Fj S rfl (Rm (S.tm rfl)) rfl fun a S=>Fj S rfl (It (S.tm rfl) rfl) rfl fun a S=>Fj S rfl (Rm (S.tm rfl)) rfl ?_;clear S;intro a S
     obtain ⟨j2,hj2,h⟩:=Eo h
     refine LQ 10 (fun a w'=>∃ c1,j2 c1 = some r ∧ Keep [] w6 w' ∧ Sx w [] nov [.blk b2 (Od.enc y1) 85] [(0,Ac),(4,.pointer (some ⟨b2,0,none⟩)),(8,Ac),(9,iV (Ae.length : Int)),(10,iV (i1 : Int)),(33,bV c1)] 40 a w') ?_ ?_
     ·rcases Bool.eq_false_or_eq_true (decide (0 < (i1 : Int))) with hb3 | hb3
      ·replace h:=Rb h hb3
       refine Lx S rfl rfl rfl rfl hb3 (Ok S (Fp BZ (S.tm rfl)) rfl fun a S=>Lx S rfl rfl rfl rfl hb3 (Ok S (Lm isAgg9 (S.tm rfl) (S.cell (i:=0) rfl rfl)) rfl fun a S=>Lx S rfl rfl rfl rfl hb3 (Ok S (Rm (S.tm rfl)) rfl fun a S=>Lx S rfl rfl rfl rfl hb3 (Ok S (Rm (S.tm rfl)) rfl fun a S=>Lx S rfl rfl rfl rfl hb3 (Ok S (Gp (S.tm rfl) rfl) rfl fun a S=>Lx S rfl rfl rfl rfl hb3 ?_)))))
       obtain ⟨hc1,h⟩:=Gu h
       obtain ⟨b3,o2,hm2,hr3⟩:=Fu (a:=a) (x:=.tmp 26) (y:=.tmp 28) (ty:=0) EJ Ah (Dc hc1).1 (Dc hc1).2 (S.tm rfl) (S.tm rfl)
       refine Ok S (hr3 _) rfl ?_;clear S;intro a S
       clear hr3
       exact Lx S rfl rfl rfl rfl hb3 (Ok S (Fp BZ (S.tm rfl)) rfl fun a S=>Lx S rfl rfl rfl rfl hb3 (Ok S (Gj isAgg9 (off:=o2) (o:=0) (S.tm rfl) (hm2.at S.emb0) rfl) rfl fun a S=>Lx S rfl rfl rfl rfl hb3 (Ok S (rn_sleq (S.tm rfl) (S.tm rfl)) rfl fun a S=>Fj S rfl (Hk hb3 (S.tm rfl) (S.tm rfl)) rfl fun a S=>Jc (⟨_,h,Keep.refl _ _,S.nf [true] rfl (subR rfl)⟩))))
      ·replace h:=Rc h hb3
       iterate 9 (refine Rj S rfl rfl rfl rfl (Jk hb3) rfl ?_ rfl;clear S;intro a S)
       exact Fj S rfl (Hl true hb3 (S.tm rfl) rfl) rfl fun a S=>Jc (⟨_,h,Keep.refl _ _,S.nf [true] rfl (subR rfl)⟩)
     clear S h;rintro a w7 ⟨c1,h,hk5,S⟩;rw [hj2] at h;clear hj2 j2
     refine Fj S rfl (Ra (S.tm rfl)) rfl fun a S=>Jc ?_
     replace S:=S.k6 0 4 8 9 10 20 rfl
     refine Tn (Fc h (S.tm rfl) (fun hb4 h=>?_) (fun hb4 h=>?_))
     ·refine Fr (Vk S rfl rfl fun a S=>Dl (wp_ret (Gc (Gc (Db (Db (Gc ?_)))))))
      refine Db (Db ?_)
      obtain rfl:=Option.some.inj h
      exact Ds S results74 rfl rfl
     ·refine Fr (Vf JA S rfl rfl fun a S=>Vl isAgg3 0 S rfl rfl rfl rfl fun a S=>Dd S (fun _=>Cz (vs:=[iV y1.Time]) ⟨(S.tm rfl),trivial⟩ call76) (Vh _ y1.Time _ rfl) rfl ?_);clear S;intro v2 a w8 hv2 hk6 hn2 S
      subst hv2
      refine Vu S Gk rfl rfl fun a S=>Va S rfl rfl fun a S=>Dl (Fc h (S.tm rfl) (fun hb5 h=>?_) (fun hb5 h=>?_))
      ·refine Fr (Vk S rfl rfl fun a S=>Dl (wp_ret (Gc (Gc (Db (Db (Gc ?_)))))))
       refine Db (Db ?_)
       obtain rfl:=Option.some.inj h
       exact Ds S results74 rfl rfl
      ·exact wp_skip (Gy (Gy (Tn (Fg (Vq S Fa rfl rfl rfl fun a S=>Vm S rfl rfl fun a S=>Dl (⟨ys1,⟨i1 + 1,⟨_,(hd1).trans (List.append_cons _ _ _),by simp [hi1]⟩,h,S.nf [false] rfl ⟨rfl,rfl,rfl,(congrArg (fun z=>some (Value.int .i64 z)) (Jb hd1 hi1 (Jy Ah))),trivial⟩⟩,Nat.lt_succ_self _⟩))))))
  clear S h;rintro a w2 ⟨h,S⟩;rw [hj1] at h;clear hj1 j1
  refine Tn (Fr (Vk S rfl rfl fun a S=>Dl (wp_ret ?_)))
  obtain rfl:=Option.some.inj h
  exact Ds S results74 rfl rfl
theorem AQ (w : World) (Ac : Value) (Ae : List Od) (Ah : Slc (view w []) 2 Ac (Ae.map Od.enc)) (Aw : ByteArray) (r : Int) (h : Pg Ae Aw = r) :
    Calls prog 75 [Ac,sV Aw].toArray w (Ret w [] fun _ v _=>v = iV r):=by
 refine Fe func75 rfl ntmps75 rfl fun a S=>?_
 unfold Pg at h
 replace S:=S.k2 0 1 rfl
 refine Fr (Vk S rfl rfl fun a S=>Dl (Fs (Fr (Vm S rfl rfl fun a S=>lv S (Fi EJ (S.tm rfl) (Fm Ah)) rfl fun a S=>lv S (Rm rfl) rfl ?_))));clear S;intro a S
 refine Dl ?_
 replace S:=S.k4 1 7 8 9 rfl
 obtain ⟨j1,hj1,h⟩:=Eo h
 refine Dy (fun a w'=>j1 = r ∧ Sx w [] nov [] [] 20 a w') ?_ ?_
 ·refine wp_block (Gs (fun (ys1 : List Od) a w'=>∃ i1 : Nat,(∃ dn,Ae = dn ++ ys1 ∧ dn.length = i1) ∧ Lc Aw j1 ys1 i1 = r ∧ Sx w [] nov [] [(1,sV Aw),(7,Ac),(8,iV (Ae.length : Int)),(9,iV (i1 : Int))] 20 a w') List.length Ae ⟨0,⟨[],rfl,rfl⟩,h,S.nf [] rfl (subR rfl)⟩ ?_)
  clear S h;rintro ys1 a w1 ⟨i1,⟨dn,hd1,hi1⟩,h,S⟩
  cases ys1 with
  | nil =>
   rw [Lc.eq_1] at h
   refine Fr (Vb S Ev rfl rfl rfl fun a S=>Ld ?_)
   replace S:=S.k5 1 7 8 9 10 rfl
   exact Tn (Fs (wp_cond_false ((S.tm rfl).trans (congrArg Value.bool (Ke hd1 hi1))) (wp_exit (Dt (Dt (Gh (Tn (⟨h,S.nf [] rfl trivial⟩))))))))
  | cons y1 ys1 =>
   rw [Lc.eq_2] at h
   refine Fr (Vb S Ev rfl rfl rfl fun a S=>Ld ?_)
   replace S:=S.k5 1 7 8 9 10 rfl
   refine Tn (Fs (wp_cond_true ((S.tm rfl).trans (congrArg Value.bool (Ja hd1 hi1))) (wp_skip (Tn (Fs (wp_block (Fs (Fg ?_))))))))
   obtain ⟨b1,o1,hm1,hr1⟩:=Fu (a:=a) (x:=.tmp 7) (y:=.tmp 9) (ty:=0) EJ Ah (Jx hd1 hi1) rfl (S.tm rfl) (S.tm rfl)
   refine lv S (hr1 _) rfl ?_;clear S;intro a S
   clear hr1
   refine lv S (Fb isAgg85 sizeOf85 (off:=o1) (o:=0) (part:=(Od.enc y1)) rfl rfl (S.tm rfl) (hm1.at S.emb0)) rfl fun a S=>Ic S zeroValue85 (cs:=[sV Cx,iV 0]) rfl rfl ?_;clear S;intro a w3 b2 hz1 hk1 S
   refine Ep S (S.tm rfl) (S.tm rfl) (i:=0) (off:=0) rfl sizeOf85 (vs:=(Od.enc y1)) rfl rfl rfl rfl ?_;clear S;intro w4 hk2 S
   refine Dz (Vf BZ S rfl rfl fun a S=>Vl isAgg9 0 S rfl rfl rfl rfl fun a S=>Vm S rfl rfl fun a S=>Vb S Xn rfl rfl rfl fun a S=>Dl (Fc h (S.tm rfl) (fun hb1 h=>?_) (fun hb1 h=>?_)))
   ·refine Fr (Vf JA S rfl rfl fun a S=>Vl isAgg3 0 S rfl rfl rfl rfl fun a S=>Va S rfl rfl fun a S=>Ld ?_)
    replace S:=S.n0.k1 4 rfl
    refine Tn (wp_ret (Gc (Db (Db (Gc (Db (Db ?_)))))))
    subst h
    exact Ds S results75 rfl rfl
   ·exact wp_skip (Gy (Tn (Fg (Vq S Fa rfl rfl rfl fun a S=>Vm S rfl rfl fun a S=>Dl (⟨ys1,⟨i1 + 1,⟨_,(hd1).trans (List.append_cons _ _ _),by simp [hi1]⟩,h,S.nf [false] rfl ⟨rfl,rfl,rfl,(congrArg (fun z=>some (Value.int .i64 z)) (Jb hd1 hi1 (Jy Ah))),trivial⟩⟩,Nat.lt_succ_self _⟩)))))
 clear S h;rintro a w2 ⟨h,S⟩;rw [hj1] at h;clear hj1 j1
 refine Tn (Fr (Vk S rfl rfl fun a S=>Dl (wp_ret ?_)))
 subst h
 exact Ds S results75 rfl rfl
theorem DM (w : World) (Ab : Int) (Ba : Int) (r : Int × Int) (h : Ov Ab Ba = r) :
    Calls prog 106 [.int .u64 Ab,.int .u64 Ba].toArray w (Ret w [] fun _ v _=>v = .tuple #[.int .u64 r.1,.int .u64 r.2]):=by
 refine Fe func106 rfl ntmps106 rfl fun a S=>?_
 unfold Ov at h
 replace S:=S.k2 0 1 rfl
 refine Fr (Vk S rfl rfl fun a S=>Vk S rfl rfl fun a S=>Dz (Vm S rfl rfl fun a S=>Vq S Zm rfl rfl rfl fun a S=>Va S rfl rfl ?_));clear S;intro a S
 refine Dz (Vm S rfl rfl fun a S=>lv S (Re (S.tm rfl) rfl (by decide)) rfl fun a S=>Va S rfl rfl fun a S=>Dl (Fs (Fg ?_)))
 refine Vm S rfl rfl fun a S=>Vq S Zm rfl rfl rfl fun a S=>Va S rfl rfl fun a S=>Dz (Vm S rfl rfl fun a S=>lv S (Re (S.tm rfl) rfl (by decide)) rfl fun a S=>Va S rfl rfl fun a S=>Ld ?_)
 replace S:=S.k6 0 1 6 7 8 9 rfl
 refine Tn (Fr (Vm S rfl rfl fun a S=>Vm S rfl rfl fun a S=>Vb S Mb rfl rfl rfl fun a S=>Va S rfl rfl fun a S=>Dl (Fs (Fg ?_))))
 refine Vm S rfl rfl fun a S=>Vm S rfl rfl fun a S=>Vb S Mb rfl rfl rfl fun a S=>Vm S rfl rfl fun a S=>lv S (Re (S.tm rfl) rfl (by decide)) rfl fun a S=>Vb S Rd rfl rfl rfl fun a S=>Va S rfl rfl fun a S=>Ld ?_
 replace S:=S.k6 0 1 6 7 9 11 rfl
 refine Tn (Fr (Vm S rfl rfl fun a S=>Vq S Zm rfl rfl rfl fun a S=>Va S rfl rfl fun a S=>Dz (Vm S rfl rfl ?_)));clear S;intro a S
 refine lv S (Re (S.tm rfl) rfl (by decide)) rfl fun a S=>Va S rfl rfl fun a S=>Dl (Fs (Fg ?_))
 iterate 3 (refine Vm S rfl rfl ?_;clear S;intro a S)
 refine Vb S Mb rfl rfl rfl fun a S=>Vb S Rd rfl rfl rfl fun a S=>Va S rfl rfl fun a S=>Ld ?_
 replace S:=S.k6 0 1 7 9 12 13 rfl
 refine Tn (Fr (Vm S rfl rfl fun a S=>Vm S rfl rfl fun a S=>Vb S Mb rfl rfl rfl fun a S=>Vm S rfl rfl fun a S=>Vb S Rd rfl rfl rfl fun a S=>Vm S rfl rfl fun a S=>lv S (Re (S.tm rfl) rfl (by decide)) rfl fun a S=>Vb S Rd rfl rfl rfl ?_));clear S;intro a S
 refine Va S rfl rfl fun a S=>Ld ?_
 replace S:=S.k3 0 1 4 rfl
 refine Tn (Fr (Vm S rfl rfl fun a S=>Vm S rfl rfl fun a S=>Vb S Mb rfl rfl rfl fun a S=>Va S rfl rfl fun a S=>Dl (wp_ret ?_)))
 subst h
 exact Ku S results106 rfl rfl rfl
theorem Wd (w : World) (Ab : Int) (r : Int) (h : Qh Ab = some r) :
    Calls prog 132 [.int .u64 Ab].toArray w (Ret w [] fun _ v _=>v = iV r):=by
 refine Fe func132 rfl ntmps132 rfl fun a S=>?_
 unfold Qh at h
 replace S:=S.k1 0 rfl
 refine Fr (Vk S rfl rfl fun a S=>Dz (Vm S rfl rfl ?_));clear S;intro a S
 obtain ⟨r1,hr1,h⟩:=Ej h
 refine Dd S (fun _=>Cz (vs:=[.int .u64 Ab]) ⟨(S.tm rfl),trivial⟩ call70) (Ys _ Ab _ hr1) rfl ?_;clear S;intro v1 a w1 hv1 hk1 hn1 S
 subst hv1
 refine Vu S (Gp rfl) rfl rfl fun a S=>Va S rfl rfl fun a S=>Dl (wp_ret ?_)
 obtain rfl:=Option.some.inj h
 exact Ds S results132 rfl rfl
set_option maxRecDepth 20000 in
theorem DN (w : World) (Bv : Int) (Bg : Int) (Ba : Int) (r : Int × Int) (h : Yx Bv Bg Ba = some r) :
    Calls prog 107 [.int .u64 Bv,.int .u64 Bg,.int .u64 Ba].toArray w (Ret w [] fun _ v _=>v = .tuple #[.int .u64 r.1,.int .u64 r.2]):=by
 refine Fe func107 rfl ntmps107 rfl fun a S=>?_
 unfold Yx at h
 replace S:=S.k3 0 1 2 rfl
 refine Fr (Vk S rfl rfl fun a S=>Vk S rfl rfl fun a S=>Dl (Fs (Fr (Vm S rfl rfl fun a S=>Vq S Hj rfl rfl rfl ?_))));clear S;intro a S
 refine Dl (Fc h (S.tm rfl) (fun hb1 h=>?_) (fun hb1 h=>?_))
 ·cases h
 ·refine wp_skip (Tn (Fs (Fr (Vm S rfl rfl fun a S=>Vm S rfl rfl fun a S=>Vb S Qt rfl rfl rfl fun a S=>Dl (Fc h (S.tm rfl) (fun hb2 h=>?_) (fun hb2 h=>?_))))))
  ·cases h
  ·refine wp_skip (Tn (Fs (Fr (Vm S rfl rfl fun a S=>Vq S Hj rfl rfl rfl fun a S=>Dl (Fc h (S.tm rfl) (fun hb3 h=>?_) (fun hb3 h=>?_))))))
   ·refine Fs (Fo [] ([]) Tryz.mixed S rfl (by kernel_rfl) ?_);clear S;intro w1 hk1 hsel S
    refine Js [0,1,2,3,4,5,6,7] hsel (by kernel_rfl) rfl ?_
    clear hsel
    refine Fj S rfl (Rm (S.tm rfl)) rfl fun a S=>Fj S rfl (Rm (S.tm rfl)) rfl ?_;clear S;intro a S
    obtain ⟨hc1,h⟩:=Gu h
    refine Fj S rfl (EW (S.tm rfl) (S.tm rfl) (Un hc1)) rfl fun a S=>Fj S rfl (Rm (S.tm rfl)) rfl fun a S=>Fj S rfl (Rm (S.tm rfl)) rfl ?_;clear S;intro a S
    obtain ⟨hc2,h⟩:=Gu h
    refine Fj S rfl (rn_remk (S.tm rfl) (S.tm rfl) (Un hc2)) rfl fun a S=>Fj S rfl (Ra (S.tm rfl)) rfl fun a S=>Fj S rfl (Ra (S.tm rfl)) rfl fun a S=>Jc ?_
    replace S:=S.k2 6 7 rfl
    refine Tn (wp_ret (Db ?_))
    obtain rfl:=Option.some.inj h
    exact Ku S results107 rfl rfl rfl
   ·refine wp_skip (Tn (Fr (Vm S rfl rfl ?_)));clear S;intro a S
    obtain ⟨r1,hr1,h⟩:=Ej h
    refine Dd S (fun _=>Cz (vs:=[.int .u64 Ba]) ⟨(S.tm rfl),trivial⟩ call132) (Wd _ Ba _ hr1) rfl ?_;clear S;intro v1 a w2 hv1 hk2 hn1 S
    subst hv1
    refine Vu S (Qn underlying3 underlying77) rfl rfl fun a S=>Va S rfl rfl fun a S=>Ld ?_
    replace S:=S.k4 0 1 2 8 rfl
    refine Tn (Fr (Vm S rfl rfl fun a S=>Vm S rfl rfl ?_));clear S;intro a S
    obtain ⟨hc3,h⟩:=Gu h
    refine lv S (HL (S.tm rfl) (S.tm rfl) (of_decide_eq_true hc3)) rfl fun a S=>Va S rfl rfl fun a S=>Dz (Vm S rfl rfl fun a S=>lv S (Re (S.tm rfl) rfl (by decide)) rfl fun a S=>Va S rfl rfl fun a S=>Dl ?_)
    refine Fr (Vm S rfl rfl fun a S=>Vq S Zm rfl rfl rfl fun a S=>Va S rfl rfl fun a S=>Dz (Vm S rfl rfl fun a S=>Vm S rfl rfl ?_));clear S;intro a S
    obtain ⟨hc4,h⟩:=Gu h
    refine lv S (HL (S.tm rfl) (S.tm rfl) (of_decide_eq_true hc4)) rfl fun a S=>Vm S rfl rfl fun a S=>Vm S rfl rfl fun a S=>Vu S (Vp rfl) rfl rfl ?_;clear S;intro a S
    obtain ⟨hc5,h⟩:=Gu h
    refine lv S (Re (S.tm rfl) (S.tm rfl) (of_decide_eq_true hc5)) rfl fun a S=>Vb S rn_or_ rfl rfl rfl fun a S=>Va S rfl rfl fun a S=>Ld ?_
    replace S:=S.k6 1 2 8 9 10 11 rfl
    refine Tn (Fr (Vm S rfl rfl fun a S=>Vm S rfl rfl ?_));clear S;intro a S
    obtain ⟨hc6,h⟩:=Gu h
    refine lv S (HL (S.tm rfl) (S.tm rfl) (of_decide_eq_true hc6)) rfl fun a S=>Va S rfl rfl fun a S=>Dz (Vm S rfl rfl fun a S=>lv S (Re (S.tm rfl) rfl (by decide)) rfl fun a S=>Va S rfl rfl fun a S=>Dl ?_)
    refine Fr (Vm S rfl rfl fun a S=>Vq S Zm rfl rfl rfl fun a S=>Va S rfl rfl fun a S=>Ld ?_)
    replace S:=S.k7 2 8 9 10 11 13 14 rfl
    refine Tn (Fr (Vm S rfl rfl fun a S=>Vm S rfl rfl ?_));clear S;intro a S
    obtain ⟨hc7,h⟩:=Gu h
    refine lv S (EW (S.tm rfl) (S.tm rfl) (Un hc7)) rfl fun a S=>Va S rfl rfl fun a S=>Dl (Fs (Fg ?_))
    iterate 3 (refine Vm S rfl rfl ?_;clear S;intro a S)
    refine Vb S Mb rfl rfl rfl fun a S=>Vb S Vp rfl rfl rfl fun a S=>Va S rfl rfl fun a S=>Ld ?_
    replace S:=S.k9 2 8 9 10 11 13 14 15 16 rfl
    refine Tn (Fs ?_)
    obtain ⟨j1,hj1,h⟩:=Eo h
    refine Dy (fun a w'=>∃ x1 : Int,j1 x1 = some r ∧ Sx w [] nov [] [(2,.int .u64 (Ef .u64 Ba (IntKind.wrap .u64 r1))),(8,.int .u64 (IntKind.wrap .u64 r1)),(9,.int .u64 (Ex .u64 (Ef .u64 Ba (IntKind.wrap .u64 r1)) 32)),(10,.int .u64 (Kt .u64 (Ef .u64 Ba (IntKind.wrap .u64 r1)) 4294967295)),(11,.int .u64 (Oy .u64 (Ef .u64 Bv (IntKind.wrap .u64 r1)) (Ex .u64 Bg (IntKind.wrap .u64 (64 - (IntKind.wrap .u64 r1)))))),(13,.int .u64 (Ex .u64 (Ef .u64 Bg (IntKind.wrap .u64 r1)) 32)),(14,.int .u64 (Kt .u64 (Ef .u64 Bg (IntKind.wrap .u64 r1)) 4294967295)),(15,.int .u64 x1)] 135 a w') ?_ ?_
    ·refine wp_block (Gs (fun (m1 : Nat) a w'=>∃ x1 : Int,∃ x2 : Int,Mq Bg r1 Ba j1 m1 x1 x2 = some r ∧ Sx w [] nov [] [(2,.int .u64 (Ef .u64 Ba (IntKind.wrap .u64 r1))),(8,.int .u64 (IntKind.wrap .u64 r1)),(9,.int .u64 (Ex .u64 (Ef .u64 Ba (IntKind.wrap .u64 r1)) 32)),(10,.int .u64 (Kt .u64 (Ef .u64 Ba (IntKind.wrap .u64 r1)) 4294967295)),(11,.int .u64 (Oy .u64 (Ef .u64 Bv (IntKind.wrap .u64 r1)) (Ex .u64 Bg (IntKind.wrap .u64 (64 - (IntKind.wrap .u64 r1)))))),(13,.int .u64 (Ex .u64 (Ef .u64 Bg (IntKind.wrap .u64 r1)) 32)),(14,.int .u64 (Kt .u64 (Ef .u64 Bg (IntKind.wrap .u64 r1)) 4294967295)),(15,.int .u64 x1),(16,.int .u64 x2)] 135 a w') id (((IntKind.wrap .u64 (Int.tdiv (Oy .u64 (Ef .u64 Bv (IntKind.wrap .u64 r1)) (Ex .u64 Bg (IntKind.wrap .u64 (64 - (IntKind.wrap .u64 r1))))) (Ex .u64 (Ef .u64 Ba (IntKind.wrap .u64 r1)) 32))) - 4294967296).toNat + 2) ⟨IntKind.wrap .u64 (Int.tdiv (Oy .u64 (Ef .u64 Bv (IntKind.wrap .u64 r1)) (Ex .u64 Bg (IntKind.wrap .u64 (64 - (IntKind.wrap .u64 r1))))) (Ex .u64 (Ef .u64 Ba (IntKind.wrap .u64 r1)) 32)),IntKind.wrap .u64 ((Oy .u64 (Ef .u64 Bv (IntKind.wrap .u64 r1)) (Ex .u64 Bg (IntKind.wrap .u64 (64 - (IntKind.wrap .u64 r1))))) - (IntKind.wrap .u64 ((IntKind.wrap .u64 (Int.tdiv (Oy .u64 (Ef .u64 Bv (IntKind.wrap .u64 r1)) (Ex .u64 Bg (IntKind.wrap .u64 (64 - (IntKind.wrap .u64 r1))))) (Ex .u64 (Ef .u64 Ba (IntKind.wrap .u64 r1)) 32))) * (Ex .u64 (Ef .u64 Ba (IntKind.wrap .u64 r1)) 32)))),h,S.nf [] rfl (subR rfl)⟩ ?_)
     clear S h;rintro m1 a w3 ⟨x1,x2,h,S⟩
     cases m1 with
     | zero=>rw [Mq.eq_1] at h;cases h
     | succ m1 =>
      rw [Mq.eq_2] at h
      refine Fs (Fr (Vm S rfl rfl fun a S=>Vq S Nj rfl rfl rfl fun a S=>Vm S rfl rfl fun a S=>Gr 9 (fun a w'=>Keep [] w3 w' ∧ Sx w [] nov [] [(2,.int .u64 (Ef .u64 Ba (IntKind.wrap .u64 r1))),(8,.int .u64 (IntKind.wrap .u64 r1)),(9,.int .u64 (Ex .u64 (Ef .u64 Ba (IntKind.wrap .u64 r1)) 32)),(10,.int .u64 (Kt .u64 (Ef .u64 Ba (IntKind.wrap .u64 r1)) 4294967295)),(11,.int .u64 (Oy .u64 (Ef .u64 Bv (IntKind.wrap .u64 r1)) (Ex .u64 Bg (IntKind.wrap .u64 (64 - (IntKind.wrap .u64 r1)))))),(13,.int .u64 (Ex .u64 (Ef .u64 Bg (IntKind.wrap .u64 r1)) 32)),(14,.int .u64 (Kt .u64 (Ef .u64 Bg (IntKind.wrap .u64 r1)) 4294967295)),(15,.int .u64 x1),(16,.int .u64 x2),(78,bV ((decide (4294967296 ≤ x1)) || (decide ((IntKind.wrap .u64 ((IntKind.wrap .u64 (4294967296 * x2)) + (Ex .u64 (Ef .u64 Bg (IntKind.wrap .u64 r1)) 32))) < (IntKind.wrap .u64 (x1 * (Kt .u64 (Ef .u64 Ba (IntKind.wrap .u64 r1)) 4294967295)))))))] 135 a w') ?_ ?_))
      ·rcases Bool.eq_false_or_eq_true (decide (4294967296 ≤ x1)) with hb4 | hb4
       ·iterate 8 (refine Fy S rfl rfl rfl (Ki hb4) rfl ?_ rfl;clear S;intro a S)
        exact lv S (Iw (decide ((IntKind.wrap .u64 ((IntKind.wrap .u64 (4294967296 * x2)) + (Ex .u64 (Ef .u64 Bg (IntKind.wrap .u64 r1)) 32))) < (IntKind.wrap .u64 (x1 * (Kt .u64 (Ef .u64 Ba (IntKind.wrap .u64 r1)) 4294967295))))) hb4 (S.tm rfl) rfl) rfl fun a S=>Dl (⟨Keep.refl _ _,S.nf [] rfl (subR rfl)⟩)
       ·refine Da S rfl rfl rfl hb4 (Vm S rfl rfl fun a S=>Da S rfl rfl rfl hb4 (Vm S rfl rfl fun a S=>Da S rfl rfl rfl hb4 (Vb S Mb rfl rfl rfl fun a S=>Da S rfl rfl rfl hb4 (Vm S rfl rfl fun a S=>Da S rfl rfl rfl hb4 (Vu S (Mb rfl) rfl rfl fun a S=>Da S rfl rfl rfl hb4 ?_)))))
        exact Vm S rfl rfl fun a S=>Da S rfl rfl rfl hb4 (Vb S Rd rfl rfl rfl fun a S=>Da S rfl rfl rfl hb4 (Vb S It rfl rfl rfl fun a S=>lv S (Ix hb4 (S.tm rfl) (S.tm rfl)) rfl fun a S=>Dl (⟨Keep.refl _ _,S.nf [] rfl (subR rfl)⟩)))
      clear S;rintro a w5 ⟨hk3,S⟩
      refine Dl (Fc h (S.tm rfl) (fun hb5 h=>?_) (fun hb5 h=>?_))
      ·refine wp_skip (Tn (wp_block (Fr (Vm S rfl rfl fun a S=>Vq S Vp rfl rfl rfl fun a S=>Va S rfl rfl fun a S=>Dl (Fs ?_)))))
       refine Fg (Vm S rfl rfl fun a S=>Vm S rfl rfl fun a S=>Vb S Rd rfl rfl rfl fun a S=>Va S rfl rfl fun a S=>Ld ?_)
       replace S:=S.k9 2 8 9 10 11 13 14 15 16 rfl
       refine Tn (Fr (Vm S rfl rfl fun a S=>Vq S Nj rfl rfl rfl fun a S=>Dl (Fc h (S.tm rfl) (fun hb6 h=>?_) (fun hb6 h=>?_))))
       ·exact wp_exit (IL rfl (Dt (Gh (Tn (⟨IntKind.wrap .u64 (x1 - 1),h,S.nf [] rfl (subR rfl)⟩)))))
       ·exact wp_skip (Gy (Tn (⟨m1,⟨IntKind.wrap .u64 (x1 - 1),IntKind.wrap .u64 (x2 + (Ex .u64 (Ef .u64 Ba (IntKind.wrap .u64 r1)) 32)),h,S.nf [] rfl ⟨rfl,rfl,rfl,rfl,rfl,rfl,rfl,rfl,rfl,trivial⟩⟩,Nat.lt_succ_self _⟩)))
      ·exact wp_exit (Dt (Dt (Gh (Tn (⟨x1,h,S.nf [] rfl (subR rfl)⟩)))))
    clear S h;rintro a w4 ⟨x1,h,S⟩;rw [hj1] at h;clear hj1 j1
    refine Tn (Fr (Vm S rfl rfl fun a S=>Vq S Mb rfl rfl rfl fun a S=>Vm S rfl rfl fun a S=>Vb S Rd rfl rfl rfl fun a S=>Vm S rfl rfl fun a S=>Vm S rfl rfl fun a S=>Vb S Mb rfl rfl rfl fun a S=>Vb S Vp rfl rfl rfl ?_));clear S;intro a S
    refine Va S rfl rfl fun a S=>Ld ?_
    replace S:=S.k7 2 8 9 10 14 15 17 rfl
    refine Tn (Fr (Vm S rfl rfl fun a S=>Vm S rfl rfl ?_));clear S;intro a S
    obtain ⟨hc8,h⟩:=Gu h
    refine lv S (EW (S.tm rfl) (S.tm rfl) (Un hc8)) rfl fun a S=>Va S rfl rfl fun a S=>Dl (Fs (Fg ?_))
    iterate 3 (refine Vm S rfl rfl ?_;clear S;intro a S)
    refine Vb S Mb rfl rfl rfl fun a S=>Vb S Vp rfl rfl rfl fun a S=>Va S rfl rfl fun a S=>Ld ?_
    replace S:=S.k9 2 8 9 10 14 15 16 17 18 rfl
    refine Tn (Fs ?_)
    obtain ⟨j2,hj2,h⟩:=Eo h
    refine Dy (fun a w'=>∃ x4 : Int,j2 x4 = some r ∧ Sx w [] nov [] [(2,.int .u64 (Ef .u64 Ba (IntKind.wrap .u64 r1))),(8,.int .u64 (IntKind.wrap .u64 r1)),(14,.int .u64 (Kt .u64 (Ef .u64 Bg (IntKind.wrap .u64 r1)) 4294967295)),(15,.int .u64 x1),(17,.int .u64 (IntKind.wrap .u64 ((IntKind.wrap .u64 ((IntKind.wrap .u64 ((Oy .u64 (Ef .u64 Bv (IntKind.wrap .u64 r1)) (Ex .u64 Bg (IntKind.wrap .u64 (64 - (IntKind.wrap .u64 r1))))) * 4294967296)) + (Ex .u64 (Ef .u64 Bg (IntKind.wrap .u64 r1)) 32))) - (IntKind.wrap .u64 (x1 * (Ef .u64 Ba (IntKind.wrap .u64 r1))))))),(18,.int .u64 x4)] 135 a w') ?_ ?_
    ·refine wp_block (Gs (fun (m2 : Nat) a w'=>∃ x3 : Int,∃ x4 : Int,Mr Bg r1 Ba j2 m2 x3 x4 = some r ∧ Sx w [] nov [] [(2,.int .u64 (Ef .u64 Ba (IntKind.wrap .u64 r1))),(8,.int .u64 (IntKind.wrap .u64 r1)),(9,.int .u64 (Ex .u64 (Ef .u64 Ba (IntKind.wrap .u64 r1)) 32)),(10,.int .u64 (Kt .u64 (Ef .u64 Ba (IntKind.wrap .u64 r1)) 4294967295)),(14,.int .u64 (Kt .u64 (Ef .u64 Bg (IntKind.wrap .u64 r1)) 4294967295)),(15,.int .u64 x1),(16,.int .u64 x3),(17,.int .u64 (IntKind.wrap .u64 ((IntKind.wrap .u64 ((IntKind.wrap .u64 ((Oy .u64 (Ef .u64 Bv (IntKind.wrap .u64 r1)) (Ex .u64 Bg (IntKind.wrap .u64 (64 - (IntKind.wrap .u64 r1))))) * 4294967296)) + (Ex .u64 (Ef .u64 Bg (IntKind.wrap .u64 r1)) 32))) - (IntKind.wrap .u64 (x1 * (Ef .u64 Ba (IntKind.wrap .u64 r1))))))),(18,.int .u64 x4)] 135 a w') id (((IntKind.wrap .u64 (Int.tdiv (IntKind.wrap .u64 ((IntKind.wrap .u64 ((IntKind.wrap .u64 ((Oy .u64 (Ef .u64 Bv (IntKind.wrap .u64 r1)) (Ex .u64 Bg (IntKind.wrap .u64 (64 - (IntKind.wrap .u64 r1))))) * 4294967296)) + (Ex .u64 (Ef .u64 Bg (IntKind.wrap .u64 r1)) 32))) - (IntKind.wrap .u64 (x1 * (Ef .u64 Ba (IntKind.wrap .u64 r1)))))) (Ex .u64 (Ef .u64 Ba (IntKind.wrap .u64 r1)) 32))) - 4294967296).toNat + 2) ⟨IntKind.wrap .u64 ((IntKind.wrap .u64 ((IntKind.wrap .u64 ((IntKind.wrap .u64 ((Oy .u64 (Ef .u64 Bv (IntKind.wrap .u64 r1)) (Ex .u64 Bg (IntKind.wrap .u64 (64 - (IntKind.wrap .u64 r1))))) * 4294967296)) + (Ex .u64 (Ef .u64 Bg (IntKind.wrap .u64 r1)) 32))) - (IntKind.wrap .u64 (x1 * (Ef .u64 Ba (IntKind.wrap .u64 r1)))))) - (IntKind.wrap .u64 ((IntKind.wrap .u64 (Int.tdiv (IntKind.wrap .u64 ((IntKind.wrap .u64 ((IntKind.wrap .u64 ((Oy .u64 (Ef .u64 Bv (IntKind.wrap .u64 r1)) (Ex .u64 Bg (IntKind.wrap .u64 (64 - (IntKind.wrap .u64 r1))))) * 4294967296)) + (Ex .u64 (Ef .u64 Bg (IntKind.wrap .u64 r1)) 32))) - (IntKind.wrap .u64 (x1 * (Ef .u64 Ba (IntKind.wrap .u64 r1)))))) (Ex .u64 (Ef .u64 Ba (IntKind.wrap .u64 r1)) 32))) * (Ex .u64 (Ef .u64 Ba (IntKind.wrap .u64 r1)) 32)))),IntKind.wrap .u64 (Int.tdiv (IntKind.wrap .u64 ((IntKind.wrap .u64 ((IntKind.wrap .u64 ((Oy .u64 (Ef .u64 Bv (IntKind.wrap .u64 r1)) (Ex .u64 Bg (IntKind.wrap .u64 (64 - (IntKind.wrap .u64 r1))))) * 4294967296)) + (Ex .u64 (Ef .u64 Bg (IntKind.wrap .u64 r1)) 32))) - (IntKind.wrap .u64 (x1 * (Ef .u64 Ba (IntKind.wrap .u64 r1)))))) (Ex .u64 (Ef .u64 Ba (IntKind.wrap .u64 r1)) 32)),h,S.nf [] rfl (subR rfl)⟩ ?_)
     clear S h;rintro m2 a w6 ⟨x3,x4,h,S⟩
     cases m2 with
     | zero=>rw [Mr.eq_1] at h;cases h
     | succ m2 =>
      rw [Mr.eq_2] at h
      refine Fs (Fr (Vm S rfl rfl fun a S=>Vq S Nj rfl rfl rfl fun a S=>Vm S rfl rfl fun a S=>Gr 9 (fun a w'=>Keep [] w6 w' ∧ Sx w [] nov [] [(2,.int .u64 (Ef .u64 Ba (IntKind.wrap .u64 r1))),(8,.int .u64 (IntKind.wrap .u64 r1)),(9,.int .u64 (Ex .u64 (Ef .u64 Ba (IntKind.wrap .u64 r1)) 32)),(10,.int .u64 (Kt .u64 (Ef .u64 Ba (IntKind.wrap .u64 r1)) 4294967295)),(14,.int .u64 (Kt .u64 (Ef .u64 Bg (IntKind.wrap .u64 r1)) 4294967295)),(15,.int .u64 x1),(16,.int .u64 x3),(17,.int .u64 (IntKind.wrap .u64 ((IntKind.wrap .u64 ((IntKind.wrap .u64 ((Oy .u64 (Ef .u64 Bv (IntKind.wrap .u64 r1)) (Ex .u64 Bg (IntKind.wrap .u64 (64 - (IntKind.wrap .u64 r1))))) * 4294967296)) + (Ex .u64 (Ef .u64 Bg (IntKind.wrap .u64 r1)) 32))) - (IntKind.wrap .u64 (x1 * (Ef .u64 Ba (IntKind.wrap .u64 r1))))))),(18,.int .u64 x4),(113,bV ((decide (4294967296 ≤ x4)) || (decide ((IntKind.wrap .u64 ((IntKind.wrap .u64 (4294967296 * x3)) + (Kt .u64 (Ef .u64 Bg (IntKind.wrap .u64 r1)) 4294967295))) < (IntKind.wrap .u64 (x4 * (Kt .u64 (Ef .u64 Ba (IntKind.wrap .u64 r1)) 4294967295)))))))] 135 a w') ?_ ?_))
      ·rcases Bool.eq_false_or_eq_true (decide (4294967296 ≤ x4)) with hb7 | hb7
       ·iterate 8 (refine Fy S rfl rfl rfl (Ki hb7) rfl ?_ rfl;clear S;intro a S)
        exact lv S (Iw (decide ((IntKind.wrap .u64 ((IntKind.wrap .u64 (4294967296 * x3)) + (Kt .u64 (Ef .u64 Bg (IntKind.wrap .u64 r1)) 4294967295))) < (IntKind.wrap .u64 (x4 * (Kt .u64 (Ef .u64 Ba (IntKind.wrap .u64 r1)) 4294967295))))) hb7 (S.tm rfl) rfl) rfl fun a S=>Dl (⟨Keep.refl _ _,S.nf [] rfl (subR rfl)⟩)
       ·refine Da S rfl rfl rfl hb7 (Vm S rfl rfl fun a S=>Da S rfl rfl rfl hb7 (Vm S rfl rfl fun a S=>Da S rfl rfl rfl hb7 (Vb S Mb rfl rfl rfl fun a S=>Da S rfl rfl rfl hb7 (Vm S rfl rfl fun a S=>Da S rfl rfl rfl hb7 (Vu S (Mb rfl) rfl rfl fun a S=>Da S rfl rfl rfl hb7 ?_)))))
        exact Vm S rfl rfl fun a S=>Da S rfl rfl rfl hb7 (Vb S Rd rfl rfl rfl fun a S=>Da S rfl rfl rfl hb7 (Vb S It rfl rfl rfl fun a S=>lv S (Ix hb7 (S.tm rfl) (S.tm rfl)) rfl fun a S=>Dl (⟨Keep.refl _ _,S.nf [] rfl (subR rfl)⟩)))
      clear S;rintro a w8 ⟨hk4,S⟩
      refine Dl (Fc h (S.tm rfl) (fun hb8 h=>?_) (fun hb8 h=>?_))
      ·refine wp_skip (Tn (wp_block (Fr (Vm S rfl rfl fun a S=>Vq S Vp rfl rfl rfl fun a S=>Va S rfl rfl fun a S=>Dl (Fs ?_)))))
       refine Fg (Vm S rfl rfl fun a S=>Vm S rfl rfl fun a S=>Vb S Rd rfl rfl rfl fun a S=>Va S rfl rfl fun a S=>Ld ?_)
       replace S:=S.k9 2 8 9 10 14 15 16 17 18 rfl
       refine Tn (Fr (Vm S rfl rfl fun a S=>Vq S Nj rfl rfl rfl fun a S=>Dl (Fc h (S.tm rfl) (fun hb9 h=>?_) (fun hb9 h=>?_))))
       ·exact wp_exit (IL rfl (Dt (Gh (Tn (⟨IntKind.wrap .u64 (x4 - 1),h,S.nf [] rfl (subR rfl)⟩)))))
       ·exact wp_skip (Gy (Tn (⟨m2,⟨IntKind.wrap .u64 (x3 + (Ex .u64 (Ef .u64 Ba (IntKind.wrap .u64 r1)) 32)),IntKind.wrap .u64 (x4 - 1),h,S.nf [] rfl ⟨rfl,rfl,rfl,rfl,rfl,rfl,rfl,rfl,rfl,trivial⟩⟩,Nat.lt_succ_self _⟩)))
      ·exact wp_exit (Dt (Dt (Gh (Tn (⟨x4,h,S.nf [] rfl (subR rfl)⟩)))))
    clear S h;rintro a w7 ⟨x4,h,S⟩;rw [hj2] at h;clear hj2 j2
    refine Tn (Fr (Vm S rfl rfl fun a S=>Vq S Mb rfl rfl rfl fun a S=>Vm S rfl rfl fun a S=>Vb S Rd rfl rfl rfl fun a S=>Vm S rfl rfl fun a S=>Vq S Mb rfl rfl rfl fun a S=>Vm S rfl rfl fun a S=>Vb S Rd rfl rfl rfl ?_));clear S;intro a S
    refine Vm S rfl rfl fun a S=>Vm S rfl rfl fun a S=>Vb S Mb rfl rfl rfl fun a S=>Vb S Vp rfl rfl rfl fun a S=>Vm S rfl rfl ?_;clear S;intro a S
    obtain ⟨hc9,h⟩:=Gu h
    refine lv S (Re (S.tm rfl) (S.tm rfl) (of_decide_eq_true hc9)) rfl fun a S=>Va S rfl rfl fun a S=>Va S rfl rfl fun a S=>Ld ?_
    replace S:=S.k2 6 7 rfl
    refine Tn (wp_ret ?_)
    obtain rfl:=Option.some.inj h
    exact Ku S results107 rfl rfl rfl
theorem AR (w : World) (Bk : Int) (Bp : Int) (r : Int) (h : Us Bk Bp = some r) :
    Calls prog 77 [iV Bk,iV Bp].toArray w (Ret w [] fun _ v _=>v = iV r):=by
 refine Fe func77 rfl ntmps77 rfl fun a S=>?_
 unfold Us at h
 replace S:=S.k2 0 1 rfl
 refine Fr (Vk S rfl rfl fun a S=>Dz (Vm S rfl rfl fun a S=>Vu S (Qn underlying3 underlying130) rfl rfl fun a S=>Vm S rfl rfl fun a S=>Vu S (Qn underlying3 underlying130) rfl rfl ?_));clear S;intro a S
 refine Va S rfl rfl fun a S=>Va S rfl rfl fun a S=>Dz (Vm S rfl rfl fun a S=>Vm S rfl rfl fun a S=>Vb S Mb rfl rfl rfl fun a S=>Vm S rfl rfl fun a S=>Vb S Mb rfl rfl rfl ?_);clear S;intro a S
 refine Dd S (fun _=>Cz (vs:=[.int .u64 (IntKind.wrap .u64 ((IntKind.wrap .u64 ((IntKind.wrap .u64 Bk) * (IntKind.wrap .u64 Bk))) * (IntKind.wrap .u64 Bk))),.int .u64 1000]) ⟨(S.tm rfl),rfl,trivial⟩ call106) (DM _ (IntKind.wrap .u64 ((IntKind.wrap .u64 ((IntKind.wrap .u64 Bk) * (IntKind.wrap .u64 Bk))) * (IntKind.wrap .u64 Bk))) 1000 _ rfl) rfl ?_;clear S;intro v1 a w1 hv1 hk1 hn1 S
 subst hv1
 refine Vm S rfl rfl fun a S=>Vq S Gq rfl rfl rfl fun a S=>Vq S Gq rfl rfl rfl fun a S=>Va S rfl rfl fun a S=>Va S rfl rfl fun a S=>Ld ?_
 replace S:=S.k3 6 7 8 rfl
 refine Tn (Fr (Vm S rfl rfl fun a S=>Vm S rfl rfl fun a S=>Vb S Mb rfl rfl rfl fun a S=>Vm S rfl rfl fun a S=>Vb S Mb rfl rfl rfl fun a S=>Va S rfl rfl fun a S=>Dl ?_))
 refine Fs (Fr (Vm S rfl rfl fun a S=>Vm S rfl rfl fun a S=>Vb S Nj rfl rfl rfl fun a S=>Dl (Fc h (S.tm rfl) (fun hb1 h=>?_) (fun hb1 h=>?_))))
 ·refine Fr (Vk S rfl rfl fun a S=>Dl (wp_ret (Db ?_)))
  obtain rfl:=Option.some.inj h
  exact Ds S results77 rfl rfl
 ·refine wp_skip (Tn (Fs (Fg ?_)))
  iterate 3 (refine Vm S rfl rfl ?_;clear S;intro a S)
  obtain ⟨r1,hr1,h⟩:=Ej h
  refine Dd S (fun _=>Cz (vs:=[.int .u64 ((Ov (IntKind.wrap .u64 ((IntKind.wrap .u64 ((IntKind.wrap .u64 Bk) * (IntKind.wrap .u64 Bk))) * (IntKind.wrap .u64 Bk))) 1000).1),.int .u64 ((Ov (IntKind.wrap .u64 ((IntKind.wrap .u64 ((IntKind.wrap .u64 Bk) * (IntKind.wrap .u64 Bk))) * (IntKind.wrap .u64 Bk))) 1000).2),.int .u64 (IntKind.wrap .u64 ((IntKind.wrap .u64 ((IntKind.wrap .u64 Bp) * (IntKind.wrap .u64 Bp))) * (IntKind.wrap .u64 Bp)))]) ⟨(S.tm rfl),(S.tm rfl),(S.tm rfl),trivial⟩ call107) (DN _ ((Ov (IntKind.wrap .u64 ((IntKind.wrap .u64 ((IntKind.wrap .u64 Bk) * (IntKind.wrap .u64 Bk))) * (IntKind.wrap .u64 Bk))) 1000).1) ((Ov (IntKind.wrap .u64 ((IntKind.wrap .u64 ((IntKind.wrap .u64 Bk) * (IntKind.wrap .u64 Bk))) * (IntKind.wrap .u64 Bk))) 1000).2) (IntKind.wrap .u64 ((IntKind.wrap .u64 ((IntKind.wrap .u64 Bp) * (IntKind.wrap .u64 Bp))) * (IntKind.wrap .u64 Bp))) _ hr1) rfl ?_;clear S;intro v2 a w2 hv2 hk2 hn2 S
  subst hv2
  refine Vm S rfl rfl fun a S=>Vq S Gq rfl rfl rfl fun a S=>Vq S Gq rfl rfl rfl fun a S=>Va S rfl rfl fun a S=>Va S rfl rfl fun a S=>Ld ?_
  replace S:=S.k1 9 rfl
  refine Tn (Fr (Vm S rfl rfl fun a S=>Vq S FA rfl rfl rfl fun a S=>Vu S (Qn underlying130 underlying3) rfl rfl fun a S=>Va S rfl rfl fun a S=>Dl (wp_ret ?_)))
  obtain rfl:=Option.some.inj h
  exact Ds S results77 rfl rfl
theorem AS (w : World) (Ac : Value) (Ae : List Od) (Ah : Slc (view w []) 2 Ac (Ae.map Od.enc)) (Aw : ByteArray) (Bp : Int) (r : Int × Int) (h : Ut Ae Aw Bp = some r) :
    Calls prog 31 [Ac,sV Aw,iV Bp].toArray w (Ret w [] fun _ v _=>v = .tuple #[iV r.1,iV r.2]):=by
 refine Fe func31 rfl ntmps31 rfl fun a S=>?_
 unfold Ut at h
 replace S:=S.k3 0 1 2 rfl
 refine Fr (Vk S rfl rfl fun a S=>Vk S rfl rfl fun a S=>Dl (Fs (Fr (Vm S rfl rfl ?_))));clear S;intro a S
 obtain ⟨r1,hr1,h⟩:=Ej h
 refine Dd S (fun _=>Cz (vs:=[Ac]) ⟨(S.tm rfl),trivial⟩ call74) (Yl _ Ac Ae (Ah.mono (S.le_arg Ey)) _ hr1) rfl ?_;clear S;intro v1 a w1 hv1 hk1 hn1 S
 subst hv1
 refine Va S rfl rfl fun a S=>Dz (Vm S rfl rfl fun a S=>Vq S Kg rfl rfl rfl fun a S=>Dl (Fc h (S.tm rfl) (fun hb1 h=>?_) (fun hb1 h=>?_)))
 ·refine Fr (Vm S rfl rfl fun a S=>Vk S rfl rfl fun a S=>Va S rfl rfl fun a S=>Dl (wp_ret (Db ?_)))
  obtain rfl:=Option.some.inj h
  exact Ku S results31 rfl rfl rfl
 ·refine wp_skip (Tn (Fr (Vm S rfl rfl fun a S=>Vm S rfl rfl fun a S=>Dd S (fun _=>Cz (vs:=[Ac,sV Aw]) ⟨(S.tm rfl),(S.tm rfl),trivial⟩ call75) (AQ _ Ac Ae (Ah.mono (S.le_arg Ey)) Aw _ rfl) rfl ?_)));clear S;intro v2 a w2 hv2 hk2 hn2 S
  subst hv2
  refine Va S rfl rfl fun a S=>Dl (Fs (Fr (Vm S rfl rfl fun a S=>Vq S Hj rfl rfl rfl fun a S=>Ld ?_)))
  replace S:=S.k3 2 9 19 rfl
  refine Tn (Fc h (S.tm rfl) (fun hb2 h=>?_) (fun hb2 h=>?_))
  ·refine Fr (Vk S rfl rfl fun a S=>Vk S rfl rfl fun a S=>Dl (wp_ret (Db ?_)))
   obtain rfl:=Option.some.inj h
   exact Ku S results31 rfl rfl rfl
  ·refine wp_skip (Tn (Fs (Fr (Vm S rfl rfl fun a S=>Dd S (fun _=>Cz (vs:=[iV Bp]) ⟨(S.tm rfl),trivial⟩ call76) (Vh _ Bp _ rfl) rfl ?_))));clear S;intro v3 a w3 hv3 hk3 hn3 S
   subst hv3
   refine Vu S Gk rfl rfl fun a S=>Dl (Fc h (S.tm rfl) (fun hb3 h=>?_) (fun hb3 h=>?_))
   ·refine Fr (Vk S rfl rfl fun a S=>Vk S rfl rfl fun a S=>Dl (wp_ret (Db ?_)))
    obtain rfl:=Option.some.inj h
    exact Ku S results31 rfl rfl rfl
   ·refine wp_skip (Tn (Fr (Vm S rfl rfl fun a S=>Vm S rfl rfl ?_)));clear S;intro a S
    obtain ⟨r2,hr2,h⟩:=Ej h
    refine Dd S (fun _=>Cz (vs:=[iV (Pg Ae Aw),iV Bp]) ⟨(S.tm rfl),(S.tm rfl),trivial⟩ call77) (AR _ (Pg Ae Aw) Bp _ hr2) rfl ?_;clear S;intro v4 a w4 hv4 hk4 hn4 S
    subst hv4
    refine Va S rfl rfl fun a S=>Vk S rfl rfl fun a S=>Dl (wp_ret ?_)
    obtain rfl:=Option.some.inj h
    exact Ku S results31 rfl rfl rfl
theorem Ym (w : World) (r : Bool) (h : Qb = some r) :
    Calls prog 12 [].toArray w (Ret w [] fun _ v _=>v = bV r):=by
 refine Fe func12 rfl ntmps12 rfl fun a S=>?_
 unfold Qb at h
 replace S:=S.k0
 refine Fr (Vk S rfl rfl fun a S=>Dz (lv S (Mw bt_81 (pv:=[(0,iV 2024),(1,iV 3),(2,iV 1)]) ⟨rfl,rfl,rfl,rfl,rfl,rfl,trivial⟩ (cs:=[iV 2024,iV 3,iV 1]) (by kernel_rfl)) rfl ?_));clear S;intro a S
 obtain ⟨r1,hr1,h⟩:=Ej h
 refine Dd S (fun _=>Cz (vs:=[.agg (Ju.enc (Ju.mk 2024 3 1)).toArray]) ⟨(S.tm rfl),trivial⟩ call29) (AP _ (Ju.mk 2024 3 1) _ hr1) rfl ?_;clear S;intro v1 a w1 hv1 hk1 hn1 S
 subst hv1
 refine Vm S rfl rfl fun a S=>Vq S Gq rfl rfl rfl fun a S=>Vq S Gq rfl rfl rfl fun a S=>Va S rfl rfl fun a S=>Va S rfl rfl fun a S=>Dz (lv S (Mw bt_49 (pv:=[(0,sV k_a),(1,iV 2),(2,iV 10),(3,iV 5)]) ⟨rfl,rfl,rfl,rfl,rfl,rfl,rfl,rfl,trivial⟩ (cs:=[sV k_a,iV 2,iV 10,iV 5,iV 0]) (by kernel_rfl)) rfl fun a S=>Dv S underlying50 sizeOf49 zeroValue49 rfl rfl (pv:=[(0,.agg #[sV k_a,iV 2,iV 10,iV 5,iV 0])]) ⟨rfl,(S.tm rfl),trivial⟩ (cs:=[sV k_a,iV 2,iV 10,iV 5,iV 0]) (by kernel_rfl) rfl ?_);clear S;intro a w2 b1 hz1 hk2 S
 obtain ⟨r2,hr2,h⟩:=Ej h
 refine Dd S (fun _=>Cz (vs:=[.slice (some ⟨b1,0,none⟩) 1 1,iV 0]) ⟨(S.tm rfl),rfl,trivial⟩ call30) (BP _ (.slice (some ⟨b1,0,none⟩) 1 1) [(Ka.mk k_a 2 10 5 0)] (Ib Ka.enc_ok S (i:=0) rfl rfl rfl rfl ((Gt (e':=.blk b1 [sV k_a,iV 2,iV 10,iV 5,iV 0] 49)) _ rfl)) 0 _ hr2) rfl ?_;clear S;intro v2 a w3 hv2 hk3 hn2 S
 subst hv2
 refine Vm S rfl rfl fun a S=>Vq S Gq rfl rfl rfl fun a S=>Vq S Gq rfl rfl rfl fun a S=>Va S rfl rfl fun a S=>Va S rfl rfl fun a S=>Ld ?_
 replace S:=S.n0.k4 1 2 3 4 rfl
 refine Tn (Fr (lv S (Mw bt_85 (pv:=[(0,sV k_r),(1,iV 3000)]) ⟨rfl,rfl,rfl,rfl,trivial⟩ (cs:=[sV k_r,iV 3000]) (by kernel_rfl)) rfl fun a S=>Dv S underlying86 sizeOf85 zeroValue85 rfl rfl (pv:=[(0,.agg #[sV k_r,iV 3000])]) ⟨rfl,(S.tm rfl),trivial⟩ (cs:=[sV k_r,iV 3000]) (by kernel_rfl) rfl ?_));clear S;intro a w4 b2 hz2 hk4 S
 obtain ⟨r3,hr3,h⟩:=Ej h
 refine Dd S (fun _=>Cz (vs:=[.slice (some ⟨b2,0,none⟩) 1 1,sV k_r,iV 6000]) ⟨(S.tm rfl),rfl,rfl,trivial⟩ call31) (AS _ (.slice (some ⟨b2,0,none⟩) 1 1) [(Od.mk k_r 3000)] (Ib Od.enc_ok S (i:=0) rfl rfl rfl rfl ((Gt (e':=.blk b2 [sV k_r,iV 3000] 85)) _ rfl)) k_r 6000 _ hr3) rfl ?_;clear S;intro v3 a w5 hv3 hk5 hn3 S
 subst hv3
 refine Vm S rfl rfl fun a S=>Vq S Gq rfl rfl rfl fun a S=>Vq S Gq rfl rfl rfl fun a S=>Va S rfl rfl fun a S=>Va S rfl rfl fun a S=>Dz (Vm S rfl rfl fun a S=>Vq S Hj rfl rfl rfl ?_);clear S;intro a S
 refine Vm S rfl rfl fun a S=>Gr 3 (fun a w'=>Keep [] w5 w' ∧ Sx w [] nov [.blk b2 [sV k_r,iV 3000] 85] [(1,iV r1.1),(3,iV r2.1),(5,iV r3.1),(6,iV r3.2),(29,bV ((decide (r1.2 = 0)) && (decide (r2.2 = 0))))] 46 a w') ?_ ?_
 ·rcases Bool.eq_false_or_eq_true (decide (r1.2 = 0)) with hb1 | hb1
  ·exact Da S rfl rfl rfl hb1 (Vm S rfl rfl fun a S=>Da S rfl rfl rfl hb1 (Vq S Hj rfl rfl rfl fun a S=>lv S (Hk hb1 (S.tm rfl) (S.tm rfl)) rfl fun a S=>Dl (⟨Keep.refl _ _,S.nf [true] rfl (subR rfl)⟩)))
  ·exact Fy S rfl rfl rfl (Jk hb1) rfl (fun a S=>Fy S rfl rfl rfl (Jk hb1) rfl (fun a S=>lv S (Hl (decide (r2.2 = 0)) hb1 (S.tm rfl) rfl) rfl fun a S=>Dl (⟨Keep.refl _ _,S.nf [true] rfl (subR rfl)⟩)) rfl) rfl
 clear S;rintro a w6 ⟨hk6,S⟩
 refine Vm S rfl rfl fun a S=>Gr 3 (fun a w'=>Keep [] w6 w' ∧ Sx w [] nov [.blk b2 [sV k_r,iV 3000] 85] [(1,iV r1.1),(3,iV r2.1),(5,iV r3.1),(33,bV (((decide (r1.2 = 0)) && (decide (r2.2 = 0))) && (decide (r3.2 = 0))))] 46 a w') ?_ ?_
 ·rcases Bool.eq_false_or_eq_true ((decide (r1.2 = 0)) && (decide (r2.2 = 0))) with hb2 | hb2
  ·exact Da S rfl rfl rfl hb2 (Vm S rfl rfl fun a S=>Da S rfl rfl rfl hb2 (Vq S Hj rfl rfl rfl fun a S=>lv S (Hk hb2 (S.tm rfl) (S.tm rfl)) rfl fun a S=>Dl (⟨Keep.refl _ _,S.nf [true] rfl (subR rfl)⟩)))
  ·exact Fy S rfl rfl rfl (Jk hb2) rfl (fun a S=>Fy S rfl rfl rfl (Jk hb2) rfl (fun a S=>lv S (Hl (decide (r3.2 = 0)) hb2 (S.tm rfl) rfl) rfl fun a S=>Dl (⟨Keep.refl _ _,S.nf [true] rfl (subR rfl)⟩)) rfl) rfl
 clear S;rintro a w7 ⟨hk7,S⟩
 refine Vm S rfl rfl fun a S=>Gr 3 (fun a w'=>Keep [] w7 w' ∧ Sx w [] nov [.blk b2 [sV k_r,iV 3000] 85] [(3,iV r2.1),(5,iV r3.1),(37,bV ((((decide (r1.2 = 0)) && (decide (r2.2 = 0))) && (decide (r3.2 = 0))) && (decide (r1.1 = 60))))] 46 a w') ?_ ?_
 ·rcases Bool.eq_false_or_eq_true (((decide (r1.2 = 0)) && (decide (r2.2 = 0))) && (decide (r3.2 = 0))) with hb3 | hb3
  ·exact Da S rfl rfl rfl hb3 (Vm S rfl rfl fun a S=>Da S rfl rfl rfl hb3 (Vq S Hj rfl rfl rfl fun a S=>lv S (Hk hb3 (S.tm rfl) (S.tm rfl)) rfl fun a S=>Dl (⟨Keep.refl _ _,S.nf [true] rfl (subR rfl)⟩)))
  ·exact Fy S rfl rfl rfl (Jk hb3) rfl (fun a S=>Fy S rfl rfl rfl (Jk hb3) rfl (fun a S=>lv S (Hl (decide (r1.1 = 60)) hb3 (S.tm rfl) rfl) rfl fun a S=>Dl (⟨Keep.refl _ _,S.nf [true] rfl (subR rfl)⟩)) rfl) rfl
 clear S;rintro a w8 ⟨hk8,S⟩
 refine Vm S rfl rfl fun a S=>Gr 3 (fun a w'=>Keep [] w8 w' ∧ Sx w [] nov [.blk b2 [sV k_r,iV 3000] 85] [(5,iV r3.1),(41,bV (((((decide (r1.2 = 0)) && (decide (r2.2 = 0))) && (decide (r3.2 = 0))) && (decide (r1.1 = 60))) && (decide (r2.1 = 25))))] 46 a w') ?_ ?_
 ·rcases Bool.eq_false_or_eq_true ((((decide (r1.2 = 0)) && (decide (r2.2 = 0))) && (decide (r3.2 = 0))) && (decide (r1.1 = 60))) with hb4 | hb4
  ·exact Da S rfl rfl rfl hb4 (Vm S rfl rfl fun a S=>Da S rfl rfl rfl hb4 (Vq S Hj rfl rfl rfl fun a S=>lv S (Hk hb4 (S.tm rfl) (S.tm rfl)) rfl fun a S=>Dl (⟨Keep.refl _ _,S.nf [true] rfl (subR rfl)⟩)))
  ·exact Fy S rfl rfl rfl (Jk hb4) rfl (fun a S=>Fy S rfl rfl rfl (Jk hb4) rfl (fun a S=>lv S (Hl (decide (r2.1 = 25)) hb4 (S.tm rfl) rfl) rfl fun a S=>Dl (⟨Keep.refl _ _,S.nf [true] rfl (subR rfl)⟩)) rfl) rfl
 clear S;rintro a w9 ⟨hk9,S⟩
 refine Vm S rfl rfl fun a S=>Gr 3 (fun a w'=>Keep [] w9 w' ∧ Sx w [] nov [.blk b2 [sV k_r,iV 3000] 85] [(45,bV ((((((decide (r1.2 = 0)) && (decide (r2.2 = 0))) && (decide (r3.2 = 0))) && (decide (r1.1 = 60))) && (decide (r2.1 = 25))) && (decide (r3.1 = 125))))] 46 a w') ?_ ?_
 ·rcases Bool.eq_false_or_eq_true (((((decide (r1.2 = 0)) && (decide (r2.2 = 0))) && (decide (r3.2 = 0))) && (decide (r1.1 = 60))) && (decide (r2.1 = 25))) with hb5 | hb5
  ·exact Da S rfl rfl rfl hb5 (Vm S rfl rfl fun a S=>Da S rfl rfl rfl hb5 (Vq S Hj rfl rfl rfl fun a S=>lv S (Hk hb5 (S.tm rfl) (S.tm rfl)) rfl fun a S=>Dl (⟨Keep.refl _ _,S.nf [true] rfl ⟨rfl,trivial⟩⟩)))
  ·exact Fy S rfl rfl rfl (Jk hb5) rfl (fun a S=>Fy S rfl rfl rfl (Jk hb5) rfl (fun a S=>lv S (Hl (decide (r3.1 = 125)) hb5 (S.tm rfl) rfl) rfl fun a S=>Dl (⟨Keep.refl _ _,S.nf [true] rfl ⟨rfl,trivial⟩⟩)) rfl) rfl
 clear S;rintro a w10 ⟨hk10,S⟩
 refine Va S rfl rfl fun a S=>Dl (wp_ret ?_)
 obtain rfl:=Option.some.inj h
 exact Ds S results12 rfl rfl
theorem Tl (w : World) (Ac : Value) (Ae : List Int) (Ah : Slc (view w []) 1 Ac (Ae.map eInt)) (r : Bool) (h : Lv Ae = some r) :
    Calls prog 3 [Ac].toArray w (Ret w [] fun _ v _=>v = bV r):=by
 refine Fe func3 rfl ntmps3 rfl fun a S=>?_
 unfold Lv at h
 replace S:=S.k1 0 rfl
 refine Fr (Vk S rfl rfl fun a S=>Dz (Vm S rfl rfl ?_));clear S;intro a S
 refine lv S (Mw bt_25 (pv:=[(0,Ac)]) ⟨rfl,(S.tm rfl),trivial⟩ (cs:=[Ac,iV 0]) (by obtain ⟨_,_,hv⟩:=(Fm Ah);rw [hv];clear hv;kernel_rfl)) rfl ?_;clear S;intro a S
 refine Ks S (S.tm rfl) (cs:=[Ac,iV 0]) rfl rfl ?_;clear S;intro a w1 b1 hz1 hk1 S
 refine Va S rfl rfl fun a S=>Dz (Vm S rfl rfl ?_);clear S;intro a S
 obtain ⟨r1,hr1,h⟩:=Ej h
 have hz2:=S.keep.size
 refine Ft 0 S (b:=b1) rfl rfl (fun _=>.blk b1 [Ac,iV r1.2] 25) (fun _=>Cz (vs:=[.pointer (some ⟨b1,0,none⟩)]) ⟨(S.tm rfl),trivial⟩ call4) (Yh _ b1 Ac Ae (Ah.mono (S.le_arg (Hd (i:=0) (e:=.blk b1 [Ac,iV 0] 25) rfl))) 0 (S.holds _ (List.mem_of_getElem? (i:=0) rfl)) _ hr1) rfl (fun _ _ _ h=>⟨h.1,fun _ hc=>by cases hc;rfl⟩) ?_;clear S;intro v1 a w2 hv1 hk2 hn1 S
 replace hv1:=hv1.2
 obtain ⟨q1,z1,rfl,ho2,hq1⟩:=hv1
 obtain ⟨φ1,hl1,hm1,S⟩:=S.takeV hn1 hz2 ho2
 obtain ⟨u2,u3,rfl,hs1,⟨u4,rfl,hs2⟩⟩:=Uh hm1 _ _ hq1
 refine Vm S rfl rfl fun a S=>Vm S rfl rfl ?_;clear S;intro a S
 obtain ⟨r2,hr2,h⟩:=Ej h
 refine Ft 1 S (b:=b1) rfl rfl (fun _=>.blk b1 [Ac,iV r2.2] 25) (fun _=>Cz (vs:=[.pointer (some ⟨b1,0,none⟩),iV 4,iV 16]) ⟨(S.tm rfl),rfl,rfl,trivial⟩ call6) (Mi _ b1 Ac Ae (Ah.mono (S.le_arg (Hd (i:=1) (e:=.blk b1 [Ac,iV r1.2] 25) rfl))) r1.2 (S.holds _ (List.mem_of_getElem? (i:=1) rfl)) 4 16 _ hr2) rfl (fun _ _ _ h=>⟨h.1,fun _ hc=>by cases hc;rfl⟩) ?_;clear S;intro v2 a w3 hv2 hk3 hn2 S
 replace hv2:=hv2.2
 subst hv2
 obtain ⟨r3,hr3,h⟩:=Ej h
 have hz3:=S.keep.size
 refine Ft 1 S (b:=b1) rfl rfl (fun _=>.blk b1 [Ac,iV r3.2] 25) (fun _=>Cz (vs:=[.pointer (some ⟨b1,0,none⟩),iV r2.1]) ⟨(S.tm rfl),(S.tm rfl),trivial⟩ call5) (Xc _ b1 Ac Ae (Ah.mono (S.le_arg (Hd (i:=1) (e:=.blk b1 [Ac,iV r2.2] 25) rfl))) r2.2 (S.holds _ (List.mem_of_getElem? (i:=1) rfl)) r2.1 _ hr3) rfl (fun _ _ _ h=>⟨h.1,fun _ hc=>by cases hc;rfl⟩) ?_;clear S;intro v3 a w4 hv3 hk4 hn3 S
 replace hv3:=hv3.2
 obtain ⟨φ2,hl2,hm2,S⟩:=S.see' hn3 hz3
 have hs3:=hv3.mono hm2
 refine Ic S zeroValue32 (cs:=[.slice none 0 0,.slice none 0 0,iV 0,iV 0,iV 0,iV 0,iV 0]) rfl rfl ?_;clear S;intro a w5 b2 hz4 hk5 S
 refine Ep S (S.tm rfl) (S.tm rfl) (i:=0) (off:=0) rfl sizeOf32 (vs:=[z1.val,u4.val,iV r1.1.Table.Relay,iV r1.1.Table.Most,iV r1.1.Final.Size,iV r1.1.Final.Many,iV r1.1.Final.Reserves]) rfl rfl rfl (Rk (Iu.one (Iz (S.own_at (i:=1) rfl))) (Rk (Iu.one (Fm hs2)) (Rk rfl (Rk rfl (Rk rfl (Rk rfl (Rk rfl rfl))))))) ?_;clear S;intro w6 hk6 S
 refine Va S rfl rfl fun a S=>Dz (lv S (Mw bt_38 (pv:=[(0,iV 1),(1,iV 3),(2,iV 1),(3,iV 2)]) ⟨rfl,rfl,rfl,rfl,rfl,rfl,rfl,rfl,trivial⟩ (cs:=[iV 1,iV 3,iV 1,iV 2]) (by kernel_rfl)) rfl fun a S=>Ic S zeroValue38 (cs:=[iV 0,iV 0,iV 0,iV 0]) rfl rfl ?_);clear S;intro a w7 b3 hz5 hk7 S
 refine Ep S (S.tm rfl) (S.tm rfl) (i:=0) (off:=0) rfl sizeOf38 (vs:=[iV 1,iV 3,iV 1,iV 2]) rfl rfl rfl rfl ?_;clear S;intro w8 hk8 S
 refine Ld ?_
 replace S:=(S.nl [.blk b3 [iV 1,iV 3,iV 1,iV 2] 38,.blk b2 [z1.val,u4.val,iV r1.1.Table.Relay,iV r1.1.Table.Most,iV r1.1.Final.Size,iV r1.1.Final.Many,iV r1.1.Final.Reserves] 32,.own z1.val 40 8 r1.1.Races.length (r1.1.Races.flatMap Dg.enc)] [true,true,true,false] rfl).k3 4 5 6 rfl
 refine Tn (Fs (Fr (Vf Vz S rfl rfl fun a S=>Vl isAgg26 1 S rfl rfl rfl rfl fun a S=>lv S (Fi Sw (S.tm rfl) (Iz (S.own_at (i:=2) rfl))) rfl fun a S=>lv S (Rm rfl) rfl fun a S=>Dl ?_)))
 replace S:=S.k6 4 5 6 29 30 31 rfl
 have hm3:=own_max (S.own_at (i:=2) rfl)
 obtain ⟨j1,hj1,h⟩:=Eo h
 refine Dy (fun a w'=>∃ φ3 : View,j1 = some r ∧ View.le φ2 φ3 ∧ Sx w [] φ3 [.blk b3 [iV 1,iV 3,iV 1,iV 2] 38,.blk b2 [z1.val,u4.val,iV r1.1.Table.Relay,iV r1.1.Table.Most,iV r1.1.Final.Size,iV r1.1.Final.Many,iV r1.1.Final.Reserves] 32,.own z1.val 40 8 r1.1.Races.length (r1.1.Races.flatMap Dg.enc)] [] 98 a w') ?_ ?_
 ·refine wp_block (Gs (fun (ys1 : List Dg) a w'=>∃ i1 : Nat,∃ φ3 : View,(∃ dn,r1.1.Races = dn ++ ys1 ∧ dn.length = i1) ∧ Gi r1 r3 j1 ys1 i1 = some r ∧ View.le φ2 φ3 ∧ Sx w [] φ3 [.blk b3 [iV 1,iV 3,iV 1,iV 2] 38,.blk b2 [z1.val,u4.val,iV r1.1.Table.Relay,iV r1.1.Table.Most,iV r1.1.Final.Size,iV r1.1.Final.Many,iV r1.1.Final.Reserves] 32,.own z1.val 40 8 r1.1.Races.length (r1.1.Races.flatMap Dg.enc)] [(4,.pointer (some ⟨b2,0,none⟩)),(5,v3),(6,.pointer (some ⟨b3,0,none⟩)),(29,z1.val),(30,iV (r1.1.Races.length : Int)),(31,iV (i1 : Int))] 98 a w') List.length r1.1.Races ⟨0,φ2,⟨[],rfl,rfl⟩,h,View.le_refl _,S.nf [true,true,true] rfl (subR rfl)⟩ ?_)
  clear S h;rintro ys1 a w9 ⟨i1,φ3,⟨dn,hd1,hi1⟩,h,hl3,S⟩
  cases ys1 with
  | nil =>
   rw [Gi.eq_1] at h
   refine Fr (Vb S Ev rfl rfl rfl fun a S=>Ld ?_)
   replace S:=S.k7 4 5 6 29 30 31 32 rfl
   exact Tn (Fs (wp_cond_false ((S.tm rfl).trans (congrArg Value.bool (Ke hd1 hi1))) (wp_exit (Dt (Dt (Gh (Tn (⟨φ3,h,hl3,S.nf [true,true,true] rfl trivial⟩))))))))
  | cons y1 ys1 =>
   rw [Gi.eq_2] at h
   refine Fr (Vb S Ev rfl rfl rfl fun a S=>Ld ?_)
   replace S:=S.k7 4 5 6 29 30 31 32 rfl
   refine Tn (Fs (wp_cond_true ((S.tm rfl).trans (congrArg Value.bool (Ja hd1 hi1))) (wp_skip (Tn (Fs ?_)))))
   obtain ⟨j2,hj2,h⟩:=Eo h
   refine Dy (fun a w'=>∃ φ4 : View,j2 = some r ∧ View.le φ3 φ4 ∧ Sx w [] φ4 [.blk b3 [iV 1,iV 3,iV 1,iV 2] 38,.blk b2 [z1.val,u4.val,iV r1.1.Table.Relay,iV r1.1.Table.Most,iV r1.1.Final.Size,iV r1.1.Final.Many,iV r1.1.Final.Reserves] 32,.own z1.val 40 8 r1.1.Races.length (r1.1.Races.flatMap Dg.enc)] [(4,.pointer (some ⟨b2,0,none⟩)),(5,v3),(6,.pointer (some ⟨b3,0,none⟩)),(29,z1.val),(30,iV (r1.1.Races.length : Int)),(31,iV (i1 : Int))] 98 a w') ?_ ?_
   ·refine wp_block (Fs (Fg ?_))
    obtain ⟨b4,hg1,hr4⟩:=Eu (a:=a) (x:=.tmp 29) (y:=.tmp 31) (ty:=0) Sw Dg.enc_ok S (i:=2) rfl (Jx hd1 hi1) rfl (S.tm rfl) (S.tm rfl)
    refine lv S (hr4 _) rfl ?_;clear S;intro a S
    clear hr4
    refine lv S (Fb isAgg40 sizeOf40 (off:=i1 * 8) (o:=0) (part:=(Dg.enc y1)) rfl rfl (S.tm rfl) (Mu Dg.enc_ok S (i:=2) rfl hg1 (Jx hd1 hi1))) rfl fun a S=>Ic S zeroValue40 (cs:=[sV Cx,iV 0,iV 0,iV 0,iV 0,iV 0,iV 0,iV 0]) rfl rfl ?_;clear S;intro a w12 b5 hz6 hk9 S
    refine Ep S (S.tm rfl) (S.tm rfl) (i:=0) (off:=0) rfl sizeOf40 (vs:=(Dg.enc y1)) rfl rfl rfl rfl ?_;clear S;intro w13 hk10 S
    refine Dz (lv S (Fb isAgg32 sizeOf32 (off:=0) (o:=0) (part:=[z1.val,u4.val,iV r1.1.Table.Relay,iV r1.1.Table.Most,iV r1.1.Final.Size,iV r1.1.Final.Many,iV r1.1.Final.Reserves]) rfl rfl (S.tm rfl) (S.cellsAt (i:=2) rfl)) rfl fun a S=>lv S (Fb isAgg38 sizeOf38 (off:=0) (o:=0) (part:=[iV 1,iV 3,iV 1,iV 2]) rfl rfl (S.tm rfl) (S.cellsAt (i:=1) rfl)) rfl fun a S=>Vm S rfl rfl fun a S=>Vf Xw S rfl rfl fun a S=>Vl isAgg9 0 S rfl rfl rfl rfl ?_);clear S;intro a S
    obtain ⟨r4,hr5,h⟩:=Ej h
    have hz7:=S.keep.size
    refine Dd S (fun _=>Cz (vs:=[.agg (R32.enc (R32.mk ⟨z1.val,Iu.one (Iz (S.own_at (i:=3) rfl))⟩ (R28.mk u4 r1.1.Table.Relay r1.1.Table.Most) r1.1.Final)).toArray,.agg (El.enc (El.mk 1 3 1 2)).toArray,v3,sV y1.Key,iV 60]) ⟨(S.tm rfl),(S.tm rfl),(S.tm rfl),(S.tm rfl),rfl,trivial⟩ call7) (CR _ r1.1 (R32.mk ⟨z1.val,Iu.one (Iz (S.own_at (i:=3) rfl))⟩ (R28.mk u4 r1.1.Table.Relay r1.1.Table.Most) r1.1.Final) ⟨⟨z1.val,Iu.one (Iz (S.own_at (i:=3) rfl))⟩,(R28.mk u4 r1.1.Table.Relay r1.1.Table.Most),rfl,(LI Dg.enc_ok S (i:=3) rfl (Gt (e':=.own z1.val 40 8 r1.1.Races.length (r1.1.Races.flatMap Dg.enc)))),⟨u4,rfl,(hs2.mono (View.le_trans (View.le_trans hl2 hl3) (S.le_new Ey)))⟩⟩ (El.mk 1 3 1 2) v3 r3.1 ((Fv An.enc_ok hs3).mono (View.le_trans hl3 (S.le_new Ey))) y1.Key 60 _ hr5) rfl ?_;clear S;intro v4 a w14 hv4 hk11 hn4 S
    obtain ⟨u6,rfl,ho4⟩:=hv4
    obtain ⟨φ5,hl5,hm5,S⟩:=S.see' hn4 hz7
    have hs4:=ho4.mono hm5
    refine Vm S rfl rfl fun a S=>Vq S Gq rfl rfl rfl fun a S=>Vq S Gq rfl rfl rfl fun a S=>Va S rfl rfl fun a S=>Va S rfl rfl fun a S=>Ld ?_
    replace S:=(S.nl [.blk b5 (Dg.enc y1) 40,.blk b3 [iV 1,iV 3,iV 1,iV 2] 38,.blk b2 [z1.val,u4.val,iV r1.1.Table.Relay,iV r1.1.Table.Most,iV r1.1.Final.Size,iV r1.1.Final.Many,iV r1.1.Final.Reserves] 32,.own z1.val 40 8 r1.1.Races.length (r1.1.Races.flatMap Dg.enc)] [true,true,true,true] rfl).k9 4 5 6 8 9 10 29 30 31 rfl
    refine Tn (Fs (Fr (Vm S rfl rfl fun a S=>Vq S Kg rfl rfl rfl fun a S=>Dl (Fc h (S.tm rfl) (fun hb1 h=>?_) (fun hb1 h=>?_)))))
    ·refine Fr (Vk S rfl rfl fun a S=>Dl (wp_ret (Db (Gc ?_))))
     iterate 3 (refine Db ?_)
     refine Gc (Db (Db ?_))
     obtain rfl:=Option.some.inj h
     exact Ds S results3 rfl rfl
    ·refine wp_skip (Tn (Fr (Vk S rfl rfl fun a S=>Dz (Vk S rfl rfl ?_))));clear S;intro a S
     replace S:=S.nil 9 1
     refine Dl (Fs (Fr (Vm S rfl rfl fun a S=>lv S (Fi Tf (S.tm rfl) (Fm (Fv Df.enc_ok hs4))) rfl fun a S=>lv S (Rm rfl) rfl fun a S=>Ld ?_)))
     replace S:=(S.nl [.own (.slice none 0 0) 9 1 ([] : List ByteArray).length (([] : List ByteArray).flatMap Jw),.blk b5 (Dg.enc y1) 40,.blk b3 [iV 1,iV 3,iV 1,iV 2] 38,.blk b2 [z1.val,u4.val,iV r1.1.Table.Relay,iV r1.1.Table.Most,iV r1.1.Final.Size,iV r1.1.Final.Many,iV r1.1.Final.Reserves] 32,.own z1.val 40 8 r1.1.Races.length (r1.1.Races.flatMap Dg.enc)] [true,true,true,true,true] rfl).k13 4 5 6 8 9 11 12 29 30 31 46 47 48 rfl
     refine Tn ?_
     obtain ⟨j3,hj3,h⟩:=Eo h
     refine Dy (fun a w'=>∃ x1 : List ByteArray,∃ x2 : Int,∃ v5 : Value,j3 x1 x2 = some r ∧ Sx w [] φ5 [.own v5 9 1 x1.length (x1.flatMap Jw),.blk b5 (Dg.enc y1) 40,.blk b3 [iV 1,iV 3,iV 1,iV 2] 38,.blk b2 [z1.val,u4.val,iV r1.1.Table.Relay,iV r1.1.Table.Most,iV r1.1.Final.Size,iV r1.1.Final.Many,iV r1.1.Final.Reserves] 32,.own z1.val 40 8 r1.1.Races.length (r1.1.Races.flatMap Dg.enc)] [(4,.pointer (some ⟨b2,0,none⟩)),(5,v3),(6,.pointer (some ⟨b3,0,none⟩)),(8,.pointer (some ⟨b5,0,none⟩)),(9,u6),(11,iV x2),(12,v5),(29,z1.val),(30,iV (r1.1.Races.length : Int)),(31,iV (i1 : Int))] 98 a w') ?_ ?_
     ·refine wp_block (Gs (fun (ys2 : List Df) a w'=>∃ i2 : Nat,∃ x1 : List ByteArray,∃ x2 : Int,∃ v5 : Value,(∃ dn,r4.1 = dn ++ ys2 ∧ dn.length = i2) ∧ Gb j3 ys2 i2 x1 x2 = some r ∧ Sx w [] φ5 [.own v5 9 1 x1.length (x1.flatMap Jw),.blk b5 (Dg.enc y1) 40,.blk b3 [iV 1,iV 3,iV 1,iV 2] 38,.blk b2 [z1.val,u4.val,iV r1.1.Table.Relay,iV r1.1.Table.Most,iV r1.1.Final.Size,iV r1.1.Final.Many,iV r1.1.Final.Reserves] 32,.own z1.val 40 8 r1.1.Races.length (r1.1.Races.flatMap Dg.enc)] [(4,.pointer (some ⟨b2,0,none⟩)),(5,v3),(6,.pointer (some ⟨b3,0,none⟩)),(8,.pointer (some ⟨b5,0,none⟩)),(9,u6),(11,iV x2),(12,v5),(29,z1.val),(30,iV (r1.1.Races.length : Int)),(31,iV (i1 : Int)),(46,u6),(47,iV (r4.1.length : Int)),(48,iV (i2 : Int))] 98 a w') List.length r4.1 ⟨0,([] : List ByteArray),0,(.slice none 0 0),⟨[],rfl,rfl⟩,h,S.nf [true,true,true,true,true] rfl (subR rfl)⟩ ?_)
      clear S h;rintro ys2 a w15 ⟨i2,x1,x2,v5,⟨dn,hd2,hi2⟩,h,S⟩
      cases ys2 with
      | nil =>
       rw [Gb.eq_1] at h
       refine Fr (Vb S Ev rfl rfl rfl fun a S=>Ld ?_)
       replace S:=S.k14 4 5 6 8 9 11 12 29 30 31 46 47 48 49 rfl
       exact Tn (Fs (wp_cond_false ((S.tm rfl).trans (congrArg Value.bool (Ke hd2 hi2))) (wp_exit (Dt (Dt (Gh (Tn (⟨x1,x2,v5,h,S.nf [true,true,true,true,true] rfl (subR rfl)⟩))))))))
      | cons y2 ys2 =>
       rw [Gb.eq_2] at h
       refine Fr (Vb S Ev rfl rfl rfl fun a S=>Ld ?_)
       replace S:=S.k14 4 5 6 8 9 11 12 29 30 31 46 47 48 49 rfl
       refine Tn (Fs (wp_cond_true ((S.tm rfl).trans (congrArg Value.bool (Ja hd2 hi2))) (wp_skip (Tn (Fs (wp_block (Fs (Fg ?_))))))))
       obtain ⟨b6,o2,hm6,hr6⟩:=Fu (a:=a) (x:=.tmp 46) (y:=.tmp 48) (ty:=0) Tf (Fv Df.enc_ok hs4) (Jx hd2 hi2) rfl (S.tm rfl) (S.tm rfl)
       refine lv S (hr6 _) rfl ?_;clear S;intro a S
       clear hr6
       refine lv S (Fb isAgg47 sizeOf47 (off:=o2) (o:=0) (part:=(Df.enc y2)) rfl rfl (S.tm rfl) (hm6.at S.emb)) rfl fun a S=>Ic S zeroValue47 (cs:=[sV Cx,iV 0,iV 0]) rfl rfl ?_;clear S;intro a w17 b7 hz8 hk12 S
       refine Ep S (S.tm rfl) (S.tm rfl) (i:=0) (off:=0) rfl sizeOf47 (vs:=(Df.enc y2)) rfl rfl rfl rfl ?_;clear S;intro w18 hk13 S
       refine Ld ?_
       replace S:=(S.nl [.blk b7 (Df.enc y2) 47,.own v5 9 1 x1.length (x1.flatMap Jw),.blk b5 (Dg.enc y1) 40,.blk b3 [iV 1,iV 3,iV 1,iV 2] 38,.blk b2 [z1.val,u4.val,iV r1.1.Table.Relay,iV r1.1.Table.Most,iV r1.1.Final.Size,iV r1.1.Final.Many,iV r1.1.Final.Reserves] 32,.own z1.val 40 8 r1.1.Races.length (r1.1.Races.flatMap Dg.enc)] [true,true,true,true,true,true] rfl).k14 4 5 6 8 9 11 12 14 29 30 31 46 47 48 rfl
       refine Tn (Fr (Vm S rfl rfl fun a S=>Vf Xx S rfl rfl fun a S=>Vl isAgg3 0 S rfl rfl rfl rfl fun a S=>Vb S EZ rfl rfl rfl fun a S=>Va S rfl rfl fun a S=>Ld ?_))
       replace S:=S.k14 4 5 6 8 9 11 12 14 29 30 31 46 47 48 rfl
       refine Tn (Fg (Vm S rfl rfl fun a S=>Vf BX S rfl rfl fun a S=>Vl isAgg9 0 S rfl rfl rfl rfl fun a S=>Dv S underlying45 sizeOf9 zeroValue9 rfl rfl (pv:=[(0,sV y2.Who)]) ⟨rfl,(S.tm rfl),trivial⟩ (cs:=[sV y2.Who]) (by kernel_rfl) rfl ?_));clear S;intro a w19 b8 hz9 hk14 S
       obtain ⟨hc1,h⟩:=Gu h
       refine Lq Nc Hi S (S.tm rfl) (i:=2) rfl (S.tm rfl) (j:=0) rfl (ys:=[y2.Who]) rfl rfl rfl rfl (by have:=Nm hc1;omega) rfl ?_;clear S;intro v6 a w20 hk15 S
       refine Va S rfl rfl fun a S=>Ld ?_
       replace S:=(S.nl [.own v6 9 1 (x1 ++ [y2.Who]).length ((x1 ++ [y2.Who]).flatMap Jw),.blk b5 (Dg.enc y1) 40,.blk b3 [iV 1,iV 3,iV 1,iV 2] 38,.blk b2 [z1.val,u4.val,iV r1.1.Table.Relay,iV r1.1.Table.Most,iV r1.1.Final.Size,iV r1.1.Final.Many,iV r1.1.Final.Reserves] 32,.own z1.val 40 8 r1.1.Races.length (r1.1.Races.flatMap Dg.enc)] [false,false,true,true,true,true,true] rfl).k13 4 5 6 8 9 11 12 29 30 31 46 47 48 rfl
       exact Gy (Tn (Fg (Vq S Fa rfl rfl rfl fun a S=>Vm S rfl rfl fun a S=>Dl (⟨ys2,⟨i2 + 1,(x1 ++ [y2.Who]),Yc x2 y2.Heat,v6,⟨_,(hd2).trans (List.append_cons _ _ _),by simp [hi2]⟩,h,S.nf [true,true,true,true,true] rfl ⟨rfl,rfl,rfl,rfl,rfl,rfl,rfl,rfl,rfl,rfl,rfl,rfl,(congrArg (fun z=>some (Value.int .i64 z)) (Jb hd2 hi2 (Jy (Fv Df.enc_ok hs4)))),trivial⟩⟩,Nat.lt_succ_self _⟩))))
     clear S h;rintro a w16 ⟨x1,x2,v5,h,S⟩;rw [hj3] at h;clear hj3 j3
     refine Tn (Fs (Fr (Vm S rfl rfl fun a S=>Vq S Hj rfl rfl rfl fun a S=>Dl (Fc h (S.tm rfl) (fun hb2 h=>?_) (fun hb2 h=>?_)))))
     ·exact wp_exit (Dt (Gh (Tn (⟨φ5,h,hl5,S.nf [false,false,true,true,true] rfl (subR rfl)⟩))))
     ·refine wp_skip (Tn (Fr (Vf Xw S rfl rfl fun a S=>Vl isAgg9 1 S rfl rfl rfl rfl fun a S=>Vm S rfl rfl fun a S=>lv S (Mw bt_49 (pv:=[(0,sV y1.Key),(1,iV x2),(2,iV 100),(3,iV 20)]) ⟨rfl,(S.tm rfl),rfl,(S.tm rfl),rfl,rfl,rfl,rfl,trivial⟩ (cs:=[sV y1.Key,iV x2,iV 100,iV 20,iV 0]) (by kernel_rfl)) rfl fun a S=>Dv S underlying50 sizeOf49 zeroValue49 rfl rfl (pv:=[(0,.agg #[sV y1.Key,iV x2,iV 100,iV 20,iV 0])]) ⟨rfl,(S.tm rfl),trivial⟩ (cs:=[sV y1.Key,iV x2,iV 100,iV 20,iV 0]) (by kernel_rfl) rfl ?_)));clear S;intro a w21 b9 hz10 hk16 S
      refine Va S rfl rfl fun a S=>Ld ?_
      replace S:=(S.nl [.blk b9 [sV y1.Key,iV x2,iV 100,iV 20,iV 0] 49,.own v5 9 1 x1.length (x1.flatMap Jw),.blk b3 [iV 1,iV 3,iV 1,iV 2] 38,.blk b2 [z1.val,u4.val,iV r1.1.Table.Relay,iV r1.1.Table.Most,iV r1.1.Final.Size,iV r1.1.Final.Many,iV r1.1.Final.Reserves] 32,.own z1.val 40 8 r1.1.Races.length (r1.1.Races.flatMap Dg.enc)] [true,true,false,true,true,true] rfl).k10 4 5 6 9 11 12 15 29 30 31 rfl
      refine Tn (Fr (Vm S rfl rfl ?_));clear S;intro a S
      obtain ⟨r5,hr7,h⟩:=Ej h
      have hz11:=S.keep.size
      refine Dd S (fun _=>Cz (vs:=[.slice (some ⟨b9,0,none⟩) 1 1,iV 0]) ⟨(S.tm rfl),rfl,trivial⟩ call8) (Sy _ (.slice (some ⟨b9,0,none⟩) 1 1) [(Ka.mk y1.Key x2 100 20 0)] (Ib Ka.enc_ok S (i:=0) rfl rfl rfl rfl ((Gt (e':=.blk b9 [sV y1.Key,iV x2,iV 100,iV 20,iV 0] 49)) _ rfl)) 0 _ hr7) rfl ?_;clear S;intro v7 a w22 hv5 hk17 hn5 S
      obtain ⟨u7,rfl,ho5⟩:=hv5
      obtain ⟨φ6,hl6,hm7,S⟩:=S.see' hn5 hz11
      have hs5:=ho5.mono hm7
      refine Vm S rfl rfl fun a S=>Vq S Gq rfl rfl rfl fun a S=>Vq S Gq rfl rfl rfl fun a S=>Va S rfl rfl fun a S=>Va S rfl rfl fun a S=>Ld ?_
      replace S:=S.d0.k11 4 5 6 9 11 12 16 17 29 30 31 rfl
      refine Tn (Fs (Fr (Vm S rfl rfl fun a S=>Vq S Kg rfl rfl rfl fun a S=>Vm S rfl rfl fun a S=>Gr 5 (fun a w'=>Keep [] w22 w' ∧ Sx w [] φ6 [.own v5 9 1 x1.length (x1.flatMap Jw),.blk b3 [iV 1,iV 3,iV 1,iV 2] 38,.blk b2 [z1.val,u4.val,iV r1.1.Table.Relay,iV r1.1.Table.Most,iV r1.1.Final.Size,iV r1.1.Final.Many,iV r1.1.Final.Reserves] 32,.own z1.val 40 8 r1.1.Races.length (r1.1.Races.flatMap Dg.enc)] [(4,.pointer (some ⟨b2,0,none⟩)),(5,v3),(6,.pointer (some ⟨b3,0,none⟩)),(9,u6),(12,v5),(29,z1.val),(30,iV (r1.1.Races.length : Int)),(31,iV (i1 : Int)),(81,bV ((!decide (r5.2 = 0)) || (!decide ((r5.1.length : Int) = x2))))] 98 a w') ?_ ?_)))
      ·rcases Bool.eq_false_or_eq_true (!decide (r5.2 = 0)) with hb3 | hb3
       ·iterate 4 (refine Fy S rfl rfl rfl (Ki hb3) rfl ?_ rfl;clear S;intro a S)
        exact lv S (Iw (!decide ((r5.1.length : Int) = x2)) hb3 (S.tm rfl) rfl) rfl fun a S=>Dl (⟨Keep.refl _ _,S.nf [true,true,true,true] rfl (subR rfl)⟩)
       ·refine Da S rfl rfl rfl hb3 (Vm S rfl rfl fun a S=>Da S rfl rfl rfl hb3 (lv S (Fi GP (S.tm rfl) (Fm (Fv Ik.enc_ok hs5))) rfl fun a S=>Da S rfl rfl rfl hb3 (Vm S rfl rfl fun a S=>Da S rfl rfl rfl hb3 (Vb S Kg rfl rfl rfl fun a S=>lv S (Ix hb3 (S.tm rfl) (S.tm rfl)) rfl fun a S=>Dl ?_))))
        exact ⟨Keep.refl _ _,S.nf [true,true,true,true] rfl (subR rfl)⟩
      clear S;rintro a w23 ⟨hk18,S⟩
      refine Vm S rfl rfl ?_;clear S;intro a S
      obtain ⟨j4,hj4,h⟩:=Eo h
      refine Gr 5 (fun a w'=>∃ c1,j4 c1 = some r ∧ Keep [] w23 w' ∧ Sx w [] φ6 [.own v5 9 1 x1.length (x1.flatMap Jw),.blk b3 [iV 1,iV 3,iV 1,iV 2] 38,.blk b2 [z1.val,u4.val,iV r1.1.Table.Relay,iV r1.1.Table.Most,iV r1.1.Final.Size,iV r1.1.Final.Many,iV r1.1.Final.Reserves] 32,.own z1.val 40 8 r1.1.Races.length (r1.1.Races.flatMap Dg.enc)] [(4,.pointer (some ⟨b2,0,none⟩)),(5,v3),(6,.pointer (some ⟨b3,0,none⟩)),(9,u6),(12,v5),(29,z1.val),(30,iV (r1.1.Races.length : Int)),(31,iV (i1 : Int)),(87,bV c1)] 98 a w') ?_ ?_
      ·rcases Bool.eq_false_or_eq_true ((!decide (r5.2 = 0)) || (!decide ((r5.1.length : Int) = x2))) with hb4 | hb4
       ·replace h:=Rb h hb4
        iterate 4 (refine Fy S rfl rfl rfl (Ki hb4) rfl ?_ rfl;clear S;intro a S)
        exact Vq S (Iw true hb4) rfl rfl rfl fun a S=>Dl (⟨_,h,Keep.refl _ _,S.nf [true,true,true,true] rfl (subR rfl)⟩)
       ·replace h:=Rc h hb4
        refine Da S rfl rfl rfl hb4 (lv S (Fb isAgg38 sizeOf38 (off:=0) (o:=0) (part:=[iV 1,iV 3,iV 1,iV 2]) rfl rfl (S.tm rfl) (S.cellsAt (i:=1) rfl)) rfl fun a S=>Da S rfl rfl rfl hb4 (Vm S rfl rfl fun a S=>Da S rfl rfl rfl hb4 ?_))
        obtain ⟨r6,hr8,h⟩:=Ej h
        refine Dd S (fun _=>Cz (vs:=[.agg (El.enc (El.mk 1 3 1 2)).toArray,u6]) ⟨(S.tm rfl),(S.tm rfl),trivial⟩ call9) (Yk _ (El.mk 1 3 1 2) u6 r4.1 ((Fv Df.enc_ok hs4).mono (View.le_trans hl6 (S.le_new Ey))) _ hr8) rfl ?_;clear S;intro v8 a w25 hv6 hk19 hn6 S
        subst hv6
        exact Da S rfl rfl rfl hb4 (Vq S Kg rfl rfl rfl fun a S=>lv S (Ix hb4 (S.tm rfl) (S.tm rfl)) rfl fun a S=>Dl (⟨_,h,hk19,S.nf [true,true,true,true] rfl (subR rfl)⟩))
      clear S h;rintro a w24 ⟨c1,h,hk20,S⟩;rw [hj4] at h;clear hj4 j4
      refine Dl (Fc h (S.tm rfl) (fun hb5 h=>?_) (fun hb5 h=>?_))
      ·refine Fr (Vk S rfl rfl fun a S=>Dl (wp_ret (Db (Gc ?_))))
       iterate 3 (refine Db ?_)
       refine Gc (Db (Db ?_))
       obtain rfl:=Option.some.inj h
       exact Ds S results3 rfl rfl
      ·refine wp_skip (Tn (Fr (Vm S rfl rfl ?_)));clear S;intro a S
       obtain ⟨r7,hr9,h⟩:=Ej h
       refine Km 0 S rfl (fun _=>.own v5 9 1 r7.length (r7.flatMap Jw)) (fun _=>Cz (vs:=[v5]) ⟨(S.tm rfl),trivial⟩ call10) (Wn _ v5 x1 (S.holds _ (List.mem_of_getElem? (i:=0) rfl)) _ hr9) rfl (fun _ _ _ h=>⟨h.1,fun _ hc=>hc⟩) ?_;clear S;intro v9 a w26 hv7 hk21 hn7 S
       replace hv7:=hv7.2
       subst hv7
       refine Dz (Vm S rfl rfl ?_);clear S;intro a S
       obtain ⟨r8,hr10,h⟩:=Ej h
       have hz12:=S.keep.size
       refine Km 0 S rfl (fun v10=>.own v10 9 1 r8.length (r8.flatMap Jw)) (fun _=>Cz (vs:=[v5]) ⟨(S.tm rfl),trivial⟩ call11) (Uu _ v5 r7 (S.holds _ (List.mem_of_getElem? (i:=0) rfl)) _ hr10) rfl (fun _ _ _ h=>⟨h.1,fun _ hc=>h.2.symm.trans hc⟩) ?_;clear S;intro v10 a w27 hv8 hk22 hn8 S
       clear hv8
       refine lv S (Fi Nc (S.tm rfl) (Iz (S.own_at (i:=0) rfl))) rfl fun a S=>Vm S rfl rfl fun a S=>lv S (Fi Tf (S.tm rfl) (Fm (Fv Df.enc_ok hs4))) rfl fun a S=>Vb S Kg rfl rfl rfl fun a S=>Dl (Fc h (S.tm rfl) (fun hb6 h=>?_) (fun hb6 h=>?_))
       ·refine Fr (Vk S rfl rfl fun a S=>Ld ?_)
        replace S:=S.n0.k1 2 rfl
        refine Tn (wp_ret (Gc ?_))
        iterate 3 (refine Db ?_)
        refine Gc (Db (Db ?_))
        obtain rfl:=Option.some.inj h
        exact Ds S results3 rfl rfl
       ·exact wp_skip (Gy (Tn (⟨φ6,h,(View.le_trans hl5 hl6),S.nf [false,true,true,true] rfl (subR rfl)⟩)))
   clear S h;rintro a w11 ⟨φ4,h,hl4,S⟩;rw [hj2] at h;clear hj2 j2
   exact Tn (Fg (Vq S Fa rfl rfl rfl fun a S=>Vm S rfl rfl fun a S=>Dl (⟨ys1,⟨i1 + 1,φ4,⟨_,(hd1).trans (List.append_cons _ _ _),by simp [hi1]⟩,h,(View.le_trans hl3 hl4),S.nf [true,true,true] rfl ⟨rfl,rfl,rfl,rfl,rfl,(congrArg (fun z=>some (Value.int .i64 z)) (Jb hd1 hi1 hm3)),trivial⟩⟩,Nat.lt_succ_self _⟩)))
 clear S h;rintro a w10 ⟨φ3,h,hl3,S⟩;rw [hj1] at h;clear hj1 j1
 refine Tn (Fs (Fg ?_))
 obtain ⟨r9,hr11,h⟩:=Ej h
 refine Dd S (fun _=>Cz (vs:=[]) trivial call12) (Ym _ _ hr11) rfl ?_;clear S;intro v11 a w28 hv9 hk23 hn9 S
 subst hv9
 refine Va S rfl rfl fun a S=>Dl (wp_ret ?_)
 obtain rfl:=Option.some.inj h
 exact Ds S results3 rfl rfl
end Go.Proofs.YtdndpbbimcilpaaGreatDoor
