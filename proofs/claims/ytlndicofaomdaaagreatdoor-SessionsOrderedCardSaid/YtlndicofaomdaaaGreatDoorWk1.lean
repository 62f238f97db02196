/- Each Go function computes its plain twin,by program. -/
import Derived.Test.YtlndicofaomdaaaGreatDoorTab
import Derived.Test.YtlndicofaomdaaaGreatDoorLay
import Derived.Test.YtlndicofaomdaaaGreatDoorGrow
namespace Go.Proofs.YtlndicofaomdaaaGreatDoor
open Go
open Go.Proofs.Tryz
theorem Sc (w : World) (Bl : Int) (Bz : Int) (r : Int) (h : Nu Bl Bz = some r) :
    Calls prog 46 [iV Bl,iV Bz].toArray w (Ret w [] fun _ v _=>v = iV r):=by
 refine Fe func46 rfl ntmps46 rfl fun a S=>?_
 unfold Nu at h
 replace S:=S.k2 0 1 rfl
 refine Fr (Vk S rfl rfl fun a S=>Dl (Fs (Fr (Vm S rfl rfl fun a S=>Vq S Gb rfl rfl rfl fun a S=>Ld ?_))))
 refine Tn (Fc h (S.tm rfl) (fun hb1 h=>?_) (fun hb1 h=>?_))
 ·refine Fr (Vk S rfl rfl fun a S=>Dl (wp_ret (Fk ?_)))
  obtain rfl:=Option.some.inj h
  exact Gm S results46 rfl rfl
 ·refine wp_skip (Tn (Fr (Vm S rfl rfl fun a S=>Vm S rfl rfl ?_)));clear S;intro a S
  obtain ⟨hc1,h⟩:=Ig h
  refine lv S (KK (S.tm rfl) (S.tm rfl) (GR hc1)) rfl fun a S=>Va S rfl rfl fun a S=>Dl (Fs (Fr (Vm S rfl rfl fun a S=>Vq S Gb rfl rfl rfl fun a S=>Dl ?_)))
  obtain ⟨j1,hj1,h⟩:=Ha h
  refine Gv (fun a w'=>∃ x1 : Int,j1 x1 = some r ∧ Sx w [] nov [] [(0,iV x1)] 16 a w') ?_ ?_
  ·refine Fc h (S.tm rfl) (fun hb2 h=>?_) (fun hb2 h=>?_)
   ·exact Fg (Vm S rfl rfl fun a S=>Vm S rfl rfl fun a S=>Vb S Gx rfl rfl rfl fun a S=>Va S rfl rfl fun a S=>Dl (⟨W ((Int.tmod Bl Bz) + Bz),h,S.nf [] rfl ⟨rfl,trivial⟩⟩))
   ·exact wp_skip (Tn (⟨Int.tmod Bl Bz,h,S.nf [] rfl ⟨rfl,trivial⟩⟩))
  clear S h;rintro a w1 ⟨x1,h,S⟩;rw [hj1] at h;clear hj1 j1
  refine Tn (Fr (Vm S rfl rfl fun a S=>Va S rfl rfl fun a S=>Dl (wp_ret ?_)))
  obtain rfl:=Option.some.inj h
  exact Gm S results46 rfl rfl
set_option maxRecDepth 20000 in
theorem Ny (w : World) (O : Nat) (U : Value) (Bc : List Int) (Bd : Slc (view w [O]) 1 U (Bc.map eInt)) (Ao : Int) (Bt : (LEnt.blk O [U,iV Ao] 25).holds w) (Bz : Int) (r : Int × Int) (h : Mc Bc Ao Bz = some r) :
    Calls prog 21 [.pointer (some ⟨O,0,none⟩),iV Bz].toArray w (Ret w [O] fun _ v w'=>(LEnt.blk O [U,iV r.2] 25).holds w' ∧ v = iV r.1):=by
 refine Lp [O] [.blk O [U,iV Ao] 25] func21 rfl ntmps21 rfl (fun e he=>by simp only [List.mem_singleton] at he;subst he;exact Bt) (by simp [fps,LEnt.fp]) (by simp [fps,LEnt.fp]) fun a S=>?_
 unfold Mc at h
 replace S:=(S.nl [.blk O [U,iV Ao] 25] [true] rfl).k2 0 1 rfl
 refine Fr (Vk S rfl rfl fun a S=>Dz (Vm S rfl rfl fun a S=>Vu S Fv rfl rfl fun a S=>Vf Yq S rfl rfl fun a S=>Vl isAgg3 0 S rfl rfl rfl rfl ?_));clear S;intro a S
 refine Vq S Gx rfl rfl rfl fun a S=>Vu S Fv rfl rfl fun a S=>Vf Yq S rfl rfl fun a S=>Ku S (S.tm rfl) (S.tm rfl) (i:=0) (off:=1) rfl sizeOf3 (vs:=[iV (W (Ao + 1))]) rfl rfl rfl rfl ?_;clear S;intro w1 hk1 S
 refine Dl (Fs (Fr (Vm S rfl rfl fun a S=>Vu S Fv rfl rfl fun a S=>Vf AO S rfl rfl fun a S=>Vl isAgg22 0 S rfl rfl rfl rfl fun a S=>lv S (Gh Lj (S.tm rfl) (Ey Bd)) rfl fun a S=>Vq S Px rfl rfl rfl ?_)));clear S;intro a S
 refine Ld ?_
 replace S:=(S.nl [.blk O [U,iV (W (Ao + 1))] 25] [true] rfl).k3 0 1 19 rfl
 refine Tn (Fc h (S.tm rfl) (fun hb1 h=>?_) (fun hb1 h=>?_))
 ·refine Fr (Vm S rfl rfl fun a S=>Vu S Fv rfl rfl fun a S=>Vf Yq S rfl rfl fun a S=>Vl isAgg3 0 S rfl rfl rfl rfl fun a S=>Vq S Xt rfl rfl rfl fun a S=>Vm S rfl rfl ?_);clear S;intro a S
  obtain ⟨r1,hr1,h⟩:=He h
  refine Fo S (fun _=>Fa (vs:=[iV (W ((W (Ao + 1)) * 7919)),iV Bz]) ⟨(S.tm rfl),(S.tm rfl),trivial⟩ call46) (Sc _ (W ((W (Ao + 1)) * 7919)) Bz _ hr1) rfl ?_;clear S;intro v1 a w2 hv1 hk2 hn1 S
  subst hv1
  refine Va S rfl rfl fun a S=>Dl (wp_ret (Fk ?_))
  obtain rfl:=Option.some.inj h
  exact Gm S results21 rfl ⟨(S.holds _ (List.mem_of_getElem? (i:=0) rfl)),rfl⟩
 ·refine wp_skip (Tn (Fs (Hx [] ([]) Tryz.mixed S rfl (by kernel_rfl) ?_)));clear S;intro w3 hk3 hsel S
  refine Lc [0,1,2,3,4,5,6,7,8,9,10,11] hsel (by kernel_rfl) rfl ?_
  clear hsel
  refine Gp S rfl (Rm (S.tm rfl)) rfl fun a S=>Gp S rfl (Fv (S.tm rfl)) rfl fun a S=>Gp S rfl (Hk Yq (S.tm rfl)) rfl fun a S=>Gp S rfl (Mv isAgg3 (S.tm rfl) (S.cell (i:=0) rfl rfl)) rfl fun a S=>Gp S rfl (Kw (S.tm rfl) rfl) rfl fun a S=>Gp S rfl (Rm (S.tm rfl)) rfl fun a S=>Gp S rfl (Fv (S.tm rfl)) rfl fun a S=>Gp S rfl (Hk AO (S.tm rfl)) rfl fun a S=>Gp S rfl (Mv isAgg22 (S.tm rfl) (S.cell (i:=0) rfl rfl)) rfl fun a S=>Gp S rfl (Gh Lj (S.tm rfl) (Ey Bd)) rfl ?_;clear S;intro a S
  obtain ⟨hc1,h⟩:=Ig h
  refine Gp S rfl (KK (S.tm rfl) (S.tm rfl) (GR hc1)) rfl fun a S=>Gp S rfl (Ra (S.tm rfl)) rfl fun a S=>Kz ?_
  replace S:=S.k3 0 1 5 rfl
  refine Tn (Fs (Hx [] ([]) Tryz.mixed S rfl (by kernel_rfl) ?_));clear S;intro w4 hk4 hsel S
  refine Lc [0,1,2,3,4,5,6,7,8,9,10,11] hsel (by kernel_rfl) rfl ?_
  clear hsel
  refine Gp S rfl (Rm (S.tm rfl)) rfl fun a S=>Gp S rfl (Fv (S.tm rfl)) rfl fun a S=>Gp S rfl (Hk Yq (S.tm rfl)) rfl fun a S=>Gp S rfl (Mv isAgg3 (S.tm rfl) (S.cell (i:=0) rfl rfl)) rfl fun a S=>Gp S rfl (Kw (S.tm rfl) rfl) rfl fun a S=>Gp S rfl (Rm (S.tm rfl)) rfl fun a S=>Gp S rfl (Fv (S.tm rfl)) rfl fun a S=>Gp S rfl (Hk AO (S.tm rfl)) rfl fun a S=>Gp S rfl (Mv isAgg22 (S.tm rfl) (S.cell (i:=0) rfl rfl)) rfl fun a S=>Gp S rfl (Gh Lj (S.tm rfl) (Ey Bd)) rfl ?_;clear S;intro a S
  obtain ⟨hc2,h⟩:=Ig h
  refine Gp S rfl (rn_quo (S.tm rfl) (S.tm rfl) (GR hc2)) rfl fun a S=>Gp S rfl (Ra (S.tm rfl)) rfl fun a S=>Kz ?_
  replace S:=S.k4 0 1 5 6 rfl
  refine Tn (Fr (Vm S rfl rfl fun a S=>Vu S Fv rfl rfl fun a S=>Vf AO S rfl rfl fun a S=>Vl isAgg22 0 S rfl rfl rfl rfl fun a S=>Vm S rfl rfl ?_));clear S;intro a S
  obtain ⟨hc3,h⟩:=Ig h
  obtain ⟨b1,o1,hm1,hr2⟩:=Gd (a:=a) (x:=.tmp 52) (y:=.tmp 53) (ty:=0) Lj Bd (Ff hc3).1 (Ff hc3).2 (S.tm rfl) (S.tm rfl)
  refine lv S (hr2 _) rfl ?_;clear S;intro a S
  clear hr2
  refine lv S (Hr isAgg3 (off:=o1) (o:=0) (S.tm rfl) (hm1.at S.emb0) rfl) rfl ?_;clear S;intro a S
  obtain ⟨r2,hr3,h⟩:=He h
  refine Fo S (fun _=>Fa (vs:=[iV (nth Bc (Int.tmod (W ((W (Ao + 1)) - 1)) (Bc.length : Int))),iV 1073741824]) ⟨(S.tm rfl),rfl,trivial⟩ call46) (Sc _ (nth Bc (Int.tmod (W ((W (Ao + 1)) - 1)) (Bc.length : Int))) 1073741824 _ hr3) rfl ?_;clear S;intro v2 a w5 hv2 hk5 hn2 S
  subst hv2
  refine Vm S rfl rfl fun a S=>Vm S rfl rfl fun a S=>Vu S (Gx rfl) rfl rfl fun a S=>Vb S Xt rfl rfl rfl fun a S=>Vb S Gx rfl rfl rfl fun a S=>Vm S rfl rfl ?_;clear S;intro a S
  obtain ⟨r3,hr4,h⟩:=He h
  refine Fo S (fun _=>Fa (vs:=[iV (W (r2 + (W ((W (Int.tdiv (W ((W (Ao + 1)) - 1)) (Bc.length : Int))) * (W (7919 + (Int.tmod (W ((W (Ao + 1)) - 1)) (Bc.length : Int)))))))),iV Bz]) ⟨(S.tm rfl),(S.tm rfl),trivial⟩ call46) (Sc _ (W (r2 + (W ((W (Int.tdiv (W ((W (Ao + 1)) - 1)) (Bc.length : Int))) * (W (7919 + (Int.tmod (W ((W (Ao + 1)) - 1)) (Bc.length : Int)))))))) Bz _ hr4) rfl ?_;clear S;intro v3 a w6 hv3 hk6 hn3 S
  subst hv3
  refine Va S rfl rfl fun a S=>Ld ?_
  replace S:=S.k1 4 rfl
  refine Tn (wp_ret ?_)
  obtain rfl:=Option.some.inj h
  exact Gm S results21 rfl ⟨(S.holds _ (List.mem_of_getElem? (i:=0) rfl)),rfl⟩
theorem Pf (w : World) (O : Nat) (U : Value) (Bc : List Int) (Bd : Slc (view w [O]) 1 U (Bc.map eInt)) (Ao : Int) (Bt : (LEnt.blk O [U,iV Ao] 25).holds w) (Bz : Int) (r : Bool × Int) (h : Mq Bc Ao Bz = some r) :
    Calls prog 12 [.pointer (some ⟨O,0,none⟩),iV Bz].toArray w (Ret w [O] fun _ v w'=>(LEnt.blk O [U,iV r.2] 25).holds w' ∧ v = bV r.1):=by
 refine Lp [O] [.blk O [U,iV Ao] 25] func12 rfl ntmps12 rfl (fun e he=>by simp only [List.mem_singleton] at he;subst he;exact Bt) (by simp [fps,LEnt.fp]) (by simp [fps,LEnt.fp]) fun a S=>?_
 unfold Mq at h
 replace S:=(S.nl [.blk O [U,iV Ao] 25] [true] rfl).k2 0 1 rfl
 refine Fr (Vk S rfl rfl fun a S=>Dz (Vm S rfl rfl fun a S=>Vm S rfl rfl ?_));clear S;intro a S
 obtain ⟨r1,hr1,h⟩:=He h
 refine Hq 0 S (b:=O) rfl rfl (fun _=>.blk O [U,iV r1.2] 25) (fun _=>Fa (vs:=[.pointer (some ⟨O,0,none⟩),iV Bz]) ⟨(S.tm rfl),(S.tm rfl),trivial⟩ call21) (Ny _ O U Bc (Bd.mono (S.le_arg (Fh (i:=0) (e:=.blk O [U,iV Ao] 25) rfl))) Ao (S.holds _ (List.mem_of_getElem? (i:=0) rfl)) Bz _ hr1) rfl (fun _ _ _ h=>⟨h.1,fun _ hc=>by cases hc;rfl⟩) ?_;clear S;intro v1 a w1 hv1 hk1 hn1 S
 replace hv1:=hv1.2
 subst hv1
 refine Vq S Px rfl rfl rfl fun a S=>Va S rfl rfl fun a S=>Dl (wp_ret ?_)
 obtain rfl:=Option.some.inj h
 exact Gm S results12 rfl ⟨(S.holds _ (List.mem_of_getElem? (i:=0) rfl)),rfl⟩
theorem Pg (w : World) (O : Nat) (U : Value) (Bc : List Int) (Bd : Slc (view w [O]) 1 U (Bc.map eInt)) (Ao : Int) (Bt : (LEnt.blk O [U,iV Ao] 25).holds w) (Ad : Value) (Ar : List Int) (Ap : Slc (view w [O]) 1 Ad (Ar.map eInt)) (r : Int × Int) (h : Mr Bc Ao Ar = some r) :
    Calls prog 5 [.pointer (some ⟨O,0,none⟩),Ad].toArray w (Ret w [O] fun _ v w'=>(LEnt.blk O [U,iV r.2] 25).holds w' ∧ v = iV r.1):=by
 refine Lp [O] [.blk O [U,iV Ao] 25] func5 rfl ntmps5 rfl (fun e he=>by simp only [List.mem_singleton] at he;subst he;exact Bt) (by simp [fps,LEnt.fp]) (by simp [fps,LEnt.fp]) fun a S=>?_
 unfold Mr at h
 replace S:=(S.nl [.blk O [U,iV Ao] 25] [true] rfl).k2 0 1 rfl
 refine Fr (Vk S rfl rfl fun a S=>Dl (Fs (Fg ?_)))
 iterate 3 (refine Vm S rfl rfl ?_;clear S;intro a S)
 refine lv S (Gh Lj (S.tm rfl) (Ey Ap)) rfl ?_;clear S;intro a S
 obtain ⟨r1,hr1,h⟩:=He h
 refine Hq 0 S (b:=O) rfl rfl (fun _=>.blk O [U,iV r1.2] 25) (fun _=>Fa (vs:=[.pointer (some ⟨O,0,none⟩),iV (Ar.length : Int)]) ⟨(S.tm rfl),(S.tm rfl),trivial⟩ call21) (Ny _ O U Bc (Bd.mono (S.le_arg (Fh (i:=0) (e:=.blk O [U,iV Ao] 25) rfl))) Ao (S.holds _ (List.mem_of_getElem? (i:=0) rfl)) (Ar.length : Int) _ hr1) rfl (fun _ _ _ h=>⟨h.1,fun _ hc=>by cases hc;rfl⟩) ?_;clear S;intro v1 a w1 hv1 hk1 hn1 S
 replace hv1:=hv1.2
 subst hv1
 obtain ⟨hc1,h⟩:=Ig h
 obtain ⟨b1,o1,hm1,hr2⟩:=Gd (a:=a) (x:=.tmp 5) (y:=.tmp 9) (ty:=0) Lj Ap (Ff hc1).1 (Ff hc1).2 (S.tm rfl) (S.tm rfl)
 refine lv S (hr2 _) rfl ?_;clear S;intro a S
 clear hr2
 refine lv S (Hr isAgg3 (off:=o1) (o:=0) (S.tm rfl) (hm1.at S.emb0) rfl) rfl fun a S=>Va S rfl rfl fun a S=>Dl (wp_ret ?_)
 obtain rfl:=Option.some.inj h
 exact Gm S results5 rfl ⟨(S.holds _ (List.mem_of_getElem? (i:=0) rfl)),rfl⟩
theorem Wj (w : World) (O : Nat) (U : Value) (Bc : List Int) (Bd : Slc (view w [O]) 1 U (Bc.map eInt)) (Ao : Int) (Bt : (LEnt.blk O [U,iV Ao] 25).holds w) (Cp : Int) (r : (List An) × Int) (h : Og Bc Ao Cp = some r) :
    Calls prog 20 [.pointer (some ⟨O,0,none⟩),iV Cp].toArray w (Ret w [O] fun τ v w'=>(LEnt.blk O [U,iV r.2] 25).holds w' ∧ Pk τ 41 5 v r.1.length (r.1.flatMap An.enc)):=by
 refine Lp [O] [.blk O [U,iV Ao] 25] func20 rfl ntmps20 rfl (fun e he=>by simp only [List.mem_singleton] at he;subst he;exact Bt) (by simp [fps,LEnt.fp]) (by simp [fps,LEnt.fp]) fun a S=>?_
 unfold Og at h
 replace S:=(S.nl [.blk O [U,iV Ao] 25] [true] rfl).k2 0 1 rfl
 refine Fr (Vk S rfl rfl fun a S=>Dz (Vk S rfl rfl ?_));clear S;intro a S
 replace S:=S.nil 41 5
 refine Dl (Fs (Fr (Fw S underlying31 sizeOf9 zeroValue9 rfl rfl (pv:=[(0,sV Xv),(1,sV Sk),(2,sV Xw),(3,sV Xx),(4,sV Xy)]) ⟨rfl,rfl,rfl,rfl,rfl,rfl,rfl,rfl,rfl,rfl,trivial⟩ (cs:=[sV Xv,sV Sk,sV Xw,sV Xx,sV Xy]) (by kernel_rfl) rfl ?_)));clear S;intro a w1 b1 hz1 hk1 S
 refine Vm S rfl rfl ?_;clear S;intro a S
 replace S:=S.litOwn (i:=0) (xs:=[Xv,Sk,Xw,Xx,Xy]) rfl Jb rfl rfl rfl
 replace S:=S.nk [.own (.slice (some ⟨b1,0,none⟩) 5 5) 9 1 ([Xv,Sk,Xw,Xx,Xy] : List ByteArray).length (([Xv,Sk,Xw,Xx,Xy] : List ByteArray).flatMap Ic),.own (.slice none 0 0) 41 5 ([] : List An).length (([] : List An).flatMap An.enc),.blk O [U,iV Ao] 25] [(0,.pointer (some ⟨O,0,none⟩)),(1,iV Cp),(4,.slice none 0 0),(5,(.slice none 0 0)),(8,(.slice (some ⟨b1,0,none⟩) 5 5)),(9,iV Cp)] [] rfl (subR rfl)
 obtain ⟨φ1,hl1,hs1,S⟩:=S.freezeT (xs:=([Xv,Sk,Xw,Xx,Xy] : List ByteArray)) (enc:=Ic) (i:=0) rfl (fun c hc hh=>Tu S (i:=2) rfl rfl (j:=0) rfl rfl (by simp at hc;subst hc;exact hh))
 replace S:=S.nk [.own (.slice none 0 0) 41 5 ([] : List An).length (([] : List An).flatMap An.enc),.blk O [U,iV Ao] 25] [(0,.pointer (some ⟨O,0,none⟩)),(1,iV Cp),(4,.slice none 0 0),(5,(.slice none 0 0)),(8,(.slice (some ⟨b1,0,none⟩) 5 5)),(9,iV Cp)] [] rfl (subR rfl)
 obtain ⟨hc1,h⟩:=Ig h
 obtain ⟨v1,hs2,hr1⟩:=We (a:=a) (x:=.tmp 8) (y':=.tmp 9) (ty:=31) Kv (Gw Jb hs1) (S.tm rfl) (S.tm rfl) hc1
 refine lv S (hr1 _) rfl ?_;clear S;intro a S
 clear hr1
 refine lv S (Gh Kv (S.tm rfl) (Ey hs2)) rfl fun a S=>lv S (Rm rfl) rfl fun a S=>Dl ?_
 replace S:=(S.nl [.own (.slice none 0 0) 41 5 ([] : List An).length (([] : List An).flatMap An.enc),.blk O [U,iV Ao] 25] [true,true] rfl).k5 0 5 10 11 12 rfl
 obtain ⟨j1,hj1,h⟩:=Ha h
 refine Gv (fun a w'=>∃ x1 : List An,∃ x2 : Int,∃ v2 : Value,j1 x1 x2 = some r ∧ Sx w [O] φ1 [.own v2 41 5 x1.length (x1.flatMap An.enc),.blk O [U,iV x2] 25] [(5,v2)] 38 a w') ?_ ?_
 ·refine wp_block (Iv (fun (ys1 : List ByteArray) a w'=>∃ i1 : Nat,∃ x1 : List An,∃ x2 : Int,∃ v2 : Value,(∃ dn,cut ([Xv,Sk,Xw,Xx,Xy] : List ByteArray) 0 Cp = dn ++ ys1 ∧ dn.length = i1) ∧ Jm Bc j1 ys1 i1 x1 x2 = some r ∧ Sx w [O] φ1 [.own v2 41 5 x1.length (x1.flatMap An.enc),.blk O [U,iV x2] 25] [(0,.pointer (some ⟨O,0,none⟩)),(5,v2),(10,v1),(11,iV ((cut ([Xv,Sk,Xw,Xx,Xy] : List ByteArray) 0 Cp).length : Int)),(12,iV (i1 : Int))] 38 a w') List.length (cut ([Xv,Sk,Xw,Xx,Xy] : List ByteArray) 0 Cp) ⟨0,([] : List An),Ao,(.slice none 0 0),⟨[],rfl,rfl⟩,h,S.nf [true,true] rfl (subR rfl)⟩ ?_)
  clear S h;rintro ys1 a w2 ⟨i1,x1,x2,v2,⟨dn,hd1,hi1⟩,h,S⟩
  cases ys1 with
  | nil =>
   rw [Jm.eq_1] at h
   refine Fr (Vb S Gb rfl rfl rfl fun a S=>Ld ?_)
   replace S:=S.k6 0 5 10 11 12 13 rfl
   exact Tn (Fs (wp_cond_false ((S.tm rfl).trans (congrArg Value.bool (Jr hd1 hi1))) (wp_exit (Gk (Gk (Jc (Tn (⟨x1,x2,v2,h,S.nf [true,true] rfl ⟨rfl,trivial⟩⟩))))))))
  | cons y1 ys1 =>
   rw [Jm.eq_2] at h
   refine Fr (Vb S Gb rfl rfl rfl fun a S=>Ld ?_)
   replace S:=S.k6 0 5 10 11 12 13 rfl
   refine Tn (Fs (wp_cond_true ((S.tm rfl).trans (congrArg Value.bool (Ih hd1 hi1))) (wp_skip (Tn (Fs ?_)))))
   obtain ⟨j2,hj2,h⟩:=Ha h
   refine Gv (fun a w'=>∃ x3 : List An,∃ x4 : Int,∃ v3 : Value,j2 x3 x4 = some r ∧ Sx w [O] φ1 [.own v3 41 5 x3.length (x3.flatMap An.enc),.blk O [U,iV x4] 25] [(0,.pointer (some ⟨O,0,none⟩)),(5,v3),(10,v1),(11,iV ((cut ([Xv,Sk,Xw,Xx,Xy] : List ByteArray) 0 Cp).length : Int)),(12,iV (i1 : Int))] 38 a w') ?_ ?_
   ·refine wp_block (Fs (Fg ?_))
    obtain ⟨b2,o1,hm1,hr2⟩:=Gd (a:=a) (x:=.tmp 10) (y:=.tmp 12) (ty:=0) Kv hs2 (Jd hd1 hi1) rfl (S.tm rfl) (S.tm rfl)
    refine lv S (hr2 _) rfl ?_;clear S;intro a S
    clear hr2
    refine lv S (Hr isAgg9 (off:=o1) (o:=0) (S.tm rfl) (hm1.at S.emb) rfl) rfl fun a S=>Va S rfl rfl fun a S=>Dz (Vm S rfl rfl ?_);clear S;intro a S
    obtain ⟨r1,hr3,h⟩:=He h
    refine Hq 1 S (b:=O) rfl rfl (fun _=>.blk O [U,iV r1.2] 25) (fun _=>Fa (vs:=[.pointer (some ⟨O,0,none⟩),iV 6]) ⟨(S.tm rfl),rfl,trivial⟩ call12) (Pf _ O U Bc (Bd.mono (S.le_arg (Fh (i:=1) (e:=.blk O [U,iV x2] 25) rfl))) x2 (S.holds _ (List.mem_of_getElem? (i:=1) rfl)) 6 _ hr3) rfl (fun _ _ _ h=>⟨h.1,fun _ hc=>by cases hc;rfl⟩) ?_;clear S;intro v4 a w5 hv1 hk2 hn1 S
    replace hv1:=hv1.2
    subst hv1
    refine Vu S Mo rfl rfl fun a S=>Dl ?_
    obtain ⟨j3,hj3,h⟩:=Ha h
    refine Gv (fun a w'=>∃ x5 : List An,∃ x6 : Int,∃ v5 : Value,j3 x5 x6 = some r ∧ Sx w [O] φ1 [.own v5 41 5 x5.length (x5.flatMap An.enc),.blk O [U,iV x6] 25] [(0,.pointer (some ⟨O,0,none⟩)),(5,v5),(10,v1),(11,iV ((cut ([Xv,Sk,Xw,Xx,Xy] : List ByteArray) 0 Cp).length : Int)),(12,iV (i1 : Int))] 38 a w') ?_ ?_
    ·refine Fc h (S.tm rfl) (fun hb1 h=>?_) (fun hb1 h=>?_)
     ·refine Fg ?_
      iterate 3 (refine Vm S rfl rfl ?_;clear S;intro a S)
      refine Fw S underlying22 sizeOf3 zeroValue3 rfl rfl (pv:=[(0,iV 1),(1,iV 1),(2,iV 2),(3,iV 3)]) ⟨rfl,rfl,rfl,rfl,rfl,rfl,rfl,rfl,trivial⟩ (cs:=[iV 1,iV 1,iV 2,iV 3]) (by kernel_rfl) rfl ?_;clear S;intro a w7 b3 hz2 hk3 S
      obtain ⟨r2,hr4,h⟩:=He h
      refine Hq 2 S (b:=O) rfl rfl (fun _=>.blk O [U,iV r2.2] 25) (fun _=>Fa (vs:=[.pointer (some ⟨O,0,none⟩),.slice (some ⟨b3,0,none⟩) 4 4]) ⟨(S.tm rfl),(S.tm rfl),trivial⟩ call5) (Pg _ O U Bc (Bd.mono (S.le_arg (Fh (i:=2) (e:=.blk O [U,iV r1.2] 25) rfl))) r1.2 (S.holds _ (List.mem_of_getElem? (i:=2) rfl)) (.slice (some ⟨b3,0,none⟩) 4 4) [1,1,2,3] (Lz Hi S (i:=0) rfl rfl rfl rfl ((Ke (i:=2) (j:=0) (e:=.blk O [U,iV r1.2] 25) (e':=.blk b3 [iV 1,iV 1,iV 2,iV 3] 3) S rfl rfl rfl) _ rfl)) _ hr4) rfl (fun _ _ _ h=>⟨h.1,fun _ hc=>by cases hc;rfl⟩) ?_;clear S;intro v6 a w8 hv2 hk4 hn2 S
      replace hv2:=hv2.2
      subst hv2
      refine Vm S rfl rfl fun a S=>Fw S underlying22 sizeOf3 zeroValue3 rfl rfl (pv:=[(0,iV 50),(1,iV 100)]) ⟨rfl,rfl,rfl,rfl,trivial⟩ (cs:=[iV 50,iV 100]) (by kernel_rfl) rfl ?_;clear S;intro a w9 b4 hz3 hk5 S
      obtain ⟨r3,hr5,h⟩:=He h
      refine Hq 3 S (b:=O) rfl rfl (fun _=>.blk O [U,iV r3.2] 25) (fun _=>Fa (vs:=[.pointer (some ⟨O,0,none⟩),.slice (some ⟨b4,0,none⟩) 2 2]) ⟨(S.tm rfl),(S.tm rfl),trivial⟩ call5) (Pg _ O U Bc (Bd.mono (S.le_arg (Fh (i:=3) (e:=.blk O [U,iV r2.2] 25) rfl))) r2.2 (S.holds _ (List.mem_of_getElem? (i:=3) rfl)) (.slice (some ⟨b4,0,none⟩) 2 2) [50,100] (Lz Hi S (i:=0) rfl rfl rfl rfl ((Ke (i:=3) (j:=0) (e:=.blk O [U,iV r2.2] 25) (e':=.blk b4 [iV 50,iV 100] 3) S rfl rfl rfl) _ rfl)) _ hr5) rfl (fun _ _ _ h=>⟨h.1,fun _ hc=>by cases hc;rfl⟩) ?_;clear S;intro v7 a w10 hv3 hk6 hn3 S
      replace hv3:=hv3.2
      subst hv3
      refine Vm S rfl rfl fun a S=>Fw S underlying22 sizeOf3 zeroValue3 rfl rfl (pv:=[(0,iV 0),(1,iV 10),(2,iV 60)]) ⟨rfl,rfl,rfl,rfl,rfl,rfl,trivial⟩ (cs:=[iV 0,iV 10,iV 60]) (by kernel_rfl) rfl ?_;clear S;intro a w11 b5 hz4 hk7 S
      obtain ⟨r4,hr6,h⟩:=He h
      refine Hq 4 S (b:=O) rfl rfl (fun _=>.blk O [U,iV r4.2] 25) (fun _=>Fa (vs:=[.pointer (some ⟨O,0,none⟩),.slice (some ⟨b5,0,none⟩) 3 3]) ⟨(S.tm rfl),(S.tm rfl),trivial⟩ call5) (Pg _ O U Bc (Bd.mono (S.le_arg (Fh (i:=4) (e:=.blk O [U,iV r3.2] 25) rfl))) r3.2 (S.holds _ (List.mem_of_getElem? (i:=4) rfl)) (.slice (some ⟨b5,0,none⟩) 3 3) [0,10,60] (Lz Hi S (i:=0) rfl rfl rfl rfl ((Ke (i:=4) (j:=0) (e:=.blk O [U,iV r3.2] 25) (e':=.blk b5 [iV 0,iV 10,iV 60] 3) S rfl rfl rfl) _ rfl)) _ hr6) rfl (fun _ _ _ h=>⟨h.1,fun _ hc=>by cases hc;rfl⟩) ?_;clear S;intro v8 a w12 hv4 hk8 hn4 S
      replace hv4:=hv4.2
      subst hv4
      refine Vm S rfl rfl fun a S=>Fw S underlying22 sizeOf3 zeroValue3 rfl rfl (pv:=[(0,iV 0),(1,iV 20),(2,iV 50),(3,iV 200)]) ⟨rfl,rfl,rfl,rfl,rfl,rfl,rfl,rfl,trivial⟩ (cs:=[iV 0,iV 20,iV 50,iV 200]) (by kernel_rfl) rfl ?_;clear S;intro a w13 b6 hz5 hk9 S
      obtain ⟨r5,hr7,h⟩:=He h
      refine Hq 5 S (b:=O) rfl rfl (fun _=>.blk O [U,iV r5.2] 25) (fun _=>Fa (vs:=[.pointer (some ⟨O,0,none⟩),.slice (some ⟨b6,0,none⟩) 4 4]) ⟨(S.tm rfl),(S.tm rfl),trivial⟩ call5) (Pg _ O U Bc (Bd.mono (S.le_arg (Fh (i:=5) (e:=.blk O [U,iV r4.2] 25) rfl))) r4.2 (S.holds _ (List.mem_of_getElem? (i:=5) rfl)) (.slice (some ⟨b6,0,none⟩) 4 4) [0,20,50,200] (Lz Hi S (i:=0) rfl rfl rfl rfl ((Ke (i:=5) (j:=0) (e:=.blk O [U,iV r4.2] 25) (e':=.blk b6 [iV 0,iV 20,iV 50,iV 200] 3) S rfl rfl rfl) _ rfl)) _ hr7) rfl (fun _ _ _ h=>⟨h.1,fun _ hc=>by cases hc;rfl⟩) ?_;clear S;intro v9 a w14 hv5 hk10 hn5 S
      replace hv5:=hv5.2
      subst hv5
      refine lv S (Tj bt_41 (pv:=[(0,sV y1),(1,iV r2.1),(2,iV r3.1),(3,iV r4.1),(4,iV r5.1)]) ⟨rfl,(S.tm rfl),rfl,(S.tm rfl),rfl,(S.tm rfl),rfl,(S.tm rfl),rfl,(S.tm rfl),trivial⟩ (cs:=[sV y1,iV r2.1,iV r3.1,iV r4.1,iV r5.1]) (by kernel_rfl)) rfl fun a S=>Fw S underlying26 sizeOf41 zeroValue41 rfl rfl (pv:=[(0,.agg #[sV y1,iV r2.1,iV r3.1,iV r4.1,iV r5.1])]) ⟨rfl,(S.tm rfl),trivial⟩ (cs:=[sV y1,iV r2.1,iV r3.1,iV r4.1,iV r5.1]) (by kernel_rfl) rfl ?_;clear S;intro a w15 b7 hz6 hk11 S
      obtain ⟨hc2,h⟩:=Ig h
      refine Nq Il An.enc_ok S (S.tm rfl) (i:=5) rfl (S.tm rfl) (j:=0) rfl (ys:=[(An.mk y1 r2.1 r3.1 r4.1 r5.1)]) rfl rfl rfl rfl (by have:=Ky hc2;omega) rfl ?_;clear S;intro v10 a w16 hk12 S
      refine Va S rfl rfl fun a S=>Ld ?_
      replace S:=(S.nl [.own v10 41 5 (x1 ++ [(An.mk y1 r2.1 r3.1 r4.1 r5.1)]).length ((x1 ++ [(An.mk y1 r2.1 r3.1 r4.1 r5.1)]).flatMap An.enc),.blk O [U,iV r5.2] 25] [false,false,false,false,false,true,true] rfl).k5 0 5 10 11 12 rfl
      exact Tn (⟨(x1 ++ [(An.mk y1 r2.1 r3.1 r4.1 r5.1)]),r5.2,v10,h,S.nf [true,true] rfl (subR rfl)⟩)
     ·exact wp_skip (Tn (⟨x1,r1.2,v2,h,S.nf [true,true] rfl (subR rfl)⟩))
    clear S h;rintro a w6 ⟨x5,x6,v5,h,S⟩;rw [hj3] at h;clear hj3 j3
    exact Kb (Tn (⟨x5,x6,v5,h,S.nf [true,true] rfl (subR rfl)⟩))
   clear S h;rintro a w4 ⟨x3,x4,v3,h,S⟩;rw [hj2] at h;clear hj2 j2
   exact Tn (Fg (Vq S Gx rfl rfl rfl fun a S=>Vm S rfl rfl fun a S=>Dl (⟨ys1,⟨i1 + 1,x3,x4,v3,⟨_,(hd1).trans (List.append_cons _ _ _),by simp [hi1]⟩,h,S.nf [true,true] rfl ⟨rfl,rfl,rfl,rfl,(congrArg (fun z=>some (Value.int .i64 z)) (Ii hd1 hi1 (Kl hs2))),trivial⟩⟩,Nat.lt_succ_self _⟩)))
 clear S h;rintro a w3 ⟨x1,x2,v2,h,S⟩;rw [hj1] at h;clear hj1 j1
 refine Tn (Fr (Vm S rfl rfl fun a S=>Va S rfl rfl fun a S=>Dl (wp_ret ?_)))
 obtain rfl:=Option.some.inj h
 exact Gm S results20 rfl ⟨(S.holds _ (List.mem_of_getElem? (i:=1) rfl)),(Wd S (i:=0) rfl (fun c hc hh=>Tu S (i:=1) rfl rfl (j:=0) rfl rfl (by simp at hc;subst hc;exact hh)))⟩
theorem Ms (w : World) (O : Nat) (U : Value) (Bc : List Int) (Bd : Slc (view w [O]) 1 U (Bc.map eInt)) (Ao : Int) (Bt : (LEnt.blk O [U,iV Ao] 25).holds w) (Ad : Value) (Ar : List ByteArray) (Ap : Slc (view w [O]) 1 Ad (Ar.map Ic)) (r : ByteArray × Int) (h : Pn Bc Ao Ar = some r) :
    Calls prog 13 [.pointer (some ⟨O,0,none⟩),Ad].toArray w (Ret w [O] fun _ v w'=>(LEnt.blk O [U,iV r.2] 25).holds w' ∧ v = sV r.1):=by
 refine Lp [O] [.blk O [U,iV Ao] 25] func13 rfl ntmps13 rfl (fun e he=>by simp only [List.mem_singleton] at he;subst he;exact Bt) (by simp [fps,LEnt.fp]) (by simp [fps,LEnt.fp]) fun a S=>?_
 unfold Pn at h
 replace S:=(S.nl [.blk O [U,iV Ao] 25] [true] rfl).k2 0 1 rfl
 refine Fr (Vk S rfl rfl fun a S=>Dl (Fs (Fg ?_)))
 iterate 3 (refine Vm S rfl rfl ?_;clear S;intro a S)
 refine lv S (Gh Kv (S.tm rfl) (Ey Ap)) rfl ?_;clear S;intro a S
 obtain ⟨r1,hr1,h⟩:=He h
 refine Hq 0 S (b:=O) rfl rfl (fun _=>.blk O [U,iV r1.2] 25) (fun _=>Fa (vs:=[.pointer (some ⟨O,0,none⟩),iV (Ar.length : Int)]) ⟨(S.tm rfl),(S.tm rfl),trivial⟩ call21) (Ny _ O U Bc (Bd.mono (S.le_arg (Fh (i:=0) (e:=.blk O [U,iV Ao] 25) rfl))) Ao (S.holds _ (List.mem_of_getElem? (i:=0) rfl)) (Ar.length : Int) _ hr1) rfl (fun _ _ _ h=>⟨h.1,fun _ hc=>by cases hc;rfl⟩) ?_;clear S;intro v1 a w1 hv1 hk1 hn1 S
 replace hv1:=hv1.2
 subst hv1
 obtain ⟨hc1,h⟩:=Ig h
 obtain ⟨b1,o1,hm1,hr2⟩:=Gd (a:=a) (x:=.tmp 5) (y:=.tmp 9) (ty:=0) Kv Ap (Ff hc1).1 (Ff hc1).2 (S.tm rfl) (S.tm rfl)
 refine lv S (hr2 _) rfl ?_;clear S;intro a S
 clear hr2
 refine lv S (Hr isAgg9 (off:=o1) (o:=0) (S.tm rfl) (hm1.at S.emb0) rfl) rfl fun a S=>Va S rfl rfl fun a S=>Dl (wp_ret ?_)
 obtain rfl:=Option.some.inj h
 exact Gm S results13 rfl ⟨(S.holds _ (List.mem_of_getElem? (i:=0) rfl)),rfl⟩
theorem Ta (w : World) (O : Nat) (U : Value) (Bc : List Int) (Bd : Slc (view w [O]) 1 U (Bc.map eInt)) (Ao : Int) (Bt : (LEnt.blk O [U,iV Ao] 25).holds w) (Cb : Int) (Bv : Int) (r : Int × Int) (h : Oh Bc Ao Cb Bv = some r) :
    Calls prog 14 [.pointer (some ⟨O,0,none⟩),iV Cb,iV Bv].toArray w (Ret w [O] fun _ v w'=>(LEnt.blk O [U,iV r.2] 25).holds w' ∧ v = iV r.1):=by
 refine Lp [O] [.blk O [U,iV Ao] 25] func14 rfl ntmps14 rfl (fun e he=>by simp only [List.mem_singleton] at he;subst he;exact Bt) (by simp [fps,LEnt.fp]) (by simp [fps,LEnt.fp]) fun a S=>?_
 unfold Oh at h
 replace S:=(S.nl [.blk O [U,iV Ao] 25] [true] rfl).k3 0 1 2 rfl
 refine Fr (Vk S rfl rfl fun a S=>Dl (Fs (Fr (Vm S rfl rfl fun a S=>Vm S rfl rfl fun a S=>Vb S Gb rfl rfl rfl ?_))));clear S;intro a S
 refine Dl (Fc h (S.tm rfl) (fun hb1 h=>?_) (fun hb1 h=>?_))
 ·refine Fr (Vm S rfl rfl fun a S=>Va S rfl rfl fun a S=>Dl (wp_ret (Fk ?_)))
  obtain rfl:=Option.some.inj h
  exact Gm S results14 rfl ⟨(S.holds _ (List.mem_of_getElem? (i:=0) rfl)),rfl⟩
 ·refine wp_skip (Tn (Fs (Fg ?_)))
  iterate 4 (refine Vm S rfl rfl ?_;clear S;intro a S)
  refine Vb S Kw rfl rfl rfl fun a S=>Vq S Gx rfl rfl rfl ?_;clear S;intro a S
  obtain ⟨r1,hr1,h⟩:=He h
  refine Hq 0 S (b:=O) rfl rfl (fun _=>.blk O [U,iV r1.2] 25) (fun _=>Fa (vs:=[.pointer (some ⟨O,0,none⟩),iV (W ((W (Bv - Cb)) + 1))]) ⟨(S.tm rfl),(S.tm rfl),trivial⟩ call21) (Ny _ O U Bc (Bd.mono (S.le_arg (Fh (i:=0) (e:=.blk O [U,iV Ao] 25) rfl))) Ao (S.holds _ (List.mem_of_getElem? (i:=0) rfl)) (W ((W (Bv - Cb)) + 1)) _ hr1) rfl (fun _ _ _ h=>⟨h.1,fun _ hc=>by cases hc;rfl⟩) ?_;clear S;intro v1 a w1 hv1 hk1 hn1 S
  replace hv1:=hv1.2
  subst hv1
  refine Vb S Gx rfl rfl rfl fun a S=>Va S rfl rfl fun a S=>Ld ?_
  replace S:=(S.nl [.blk O [U,iV r1.2] 25] [true] rfl).k1 6 rfl
  refine Tn (wp_ret ?_)
  obtain rfl:=Option.some.inj h
  exact Gm S results14 rfl ⟨(S.holds _ (List.mem_of_getElem? (i:=0) rfl)),rfl⟩
theorem Ot (w : World) (O : Nat) (U : Value) (Bc : List Int) (Bd : Slc (view w [O]) 1 U (Bc.map eInt)) (Ao : Int) (Bt : (LEnt.blk O [U,iV Ao] 25).holds w) (Cb : Int) (Bv : Int) (r : Int × Int) (h : Po Bc Ao Cb Bv = some r) :
    Calls prog 22 [.pointer (some ⟨O,0,none⟩),iV Cb,iV Bv].toArray w (Ret w [O] fun _ v w'=>(LEnt.blk O [U,iV r.2] 25).holds w' ∧ v = iV r.1):=by
 refine Lp [O] [.blk O [U,iV Ao] 25] func22 rfl ntmps22 rfl (fun e he=>by simp only [List.mem_singleton] at he;subst he;exact Bt) (by simp [fps,LEnt.fp]) (by simp [fps,LEnt.fp]) fun a S=>?_
 unfold Po at h
 replace S:=(S.nl [.blk O [U,iV Ao] 25] [true] rfl).k3 0 1 2 rfl
 refine Fr (Vk S rfl rfl fun a S=>Dl (Fs (Fr (Vm S rfl rfl ?_))));clear S;intro a S
 obtain ⟨r1,hr1,h⟩:=He h
 refine Hq 0 S (b:=O) rfl rfl (fun _=>.blk O [U,iV r1.2] 25) (fun _=>Fa (vs:=[.pointer (some ⟨O,0,none⟩),iV 12]) ⟨(S.tm rfl),rfl,trivial⟩ call12) (Pf _ O U Bc (Bd.mono (S.le_arg (Fh (i:=0) (e:=.blk O [U,iV Ao] 25) rfl))) Ao (S.holds _ (List.mem_of_getElem? (i:=0) rfl)) 12 _ hr1) rfl (fun _ _ _ h=>⟨h.1,fun _ hc=>by cases hc;rfl⟩) ?_;clear S;intro v1 a w1 hv1 hk1 hn1 S
 replace hv1:=hv1.2
 subst hv1
 refine Dl (Fc h (S.tm rfl) (fun hb1 h=>?_) (fun hb1 h=>?_))
 ·refine Fr (Vm S rfl rfl fun a S=>Vm S rfl rfl fun a S=>Vq S Kw rfl rfl rfl fun a S=>Vm S rfl rfl fun a S=>Vq S Gx rfl rfl rfl fun a S=>Vm S rfl rfl fun a S=>Vm S rfl rfl fun a S=>Fw S underlying22 sizeOf3 zeroValue3 rfl rfl (pv:=[(0,iV (W (Cb - 1))),(1,iV (W (Bv + 1))),(2,iV Cb),(3,iV Bv),(4,iV (-1099511627776)),(5,iV 1099511627776)]) ⟨rfl,(S.tm rfl),rfl,(S.tm rfl),rfl,(S.tm rfl),rfl,(S.tm rfl),rfl,rfl,rfl,rfl,trivial⟩ (cs:=[iV (W (Cb - 1)),iV (W (Bv + 1)),iV Cb,iV Bv,iV (-1099511627776),iV 1099511627776]) (by kernel_rfl) rfl ?_);clear S;intro a w2 b1 hz1 hk2 S
  obtain ⟨r2,hr2,h⟩:=He h
  refine Hq 1 S (b:=O) rfl rfl (fun _=>.blk O [U,iV r2.2] 25) (fun _=>Fa (vs:=[.pointer (some ⟨O,0,none⟩),.slice (some ⟨b1,0,none⟩) 6 6]) ⟨(S.tm rfl),(S.tm rfl),trivial⟩ call5) (Pg _ O U Bc (Bd.mono (S.le_arg (Fh (i:=1) (e:=.blk O [U,iV r1.2] 25) rfl))) r1.2 (S.holds _ (List.mem_of_getElem? (i:=1) rfl)) (.slice (some ⟨b1,0,none⟩) 6 6) [W (Cb - 1),W (Bv + 1),Cb,Bv,(-1099511627776),1099511627776] (Lz Hi S (i:=0) rfl rfl rfl rfl ((Ke (i:=1) (j:=0) (e:=.blk O [U,iV r1.2] 25) (e':=.blk b1 [iV (W (Cb - 1)),iV (W (Bv + 1)),iV Cb,iV Bv,iV (-1099511627776),iV 1099511627776] 3) S rfl rfl rfl) _ rfl)) _ hr2) rfl (fun _ _ _ h=>⟨h.1,fun _ hc=>by cases hc;rfl⟩) ?_;clear S;intro v2 a w3 hv2 hk3 hn2 S
  replace hv2:=hv2.2
  subst hv2
  refine Va S rfl rfl fun a S=>Ld ?_
  replace S:=(S.nl [.blk O [U,iV r2.2] 25] [false,true] rfl).k1 6 rfl
  refine Tn (wp_ret (Fk ?_))
  obtain rfl:=Option.some.inj h
  exact Gm S results22 rfl ⟨(S.holds _ (List.mem_of_getElem? (i:=0) rfl)),rfl⟩
 ·refine wp_skip (Tn (Fs (Fg ?_)))
  iterate 3 (refine Vm S rfl rfl ?_;clear S;intro a S)
  obtain ⟨r3,hr3,h⟩:=He h
  refine Hq 0 S (b:=O) rfl rfl (fun _=>.blk O [U,iV r3.2] 25) (fun _=>Fa (vs:=[.pointer (some ⟨O,0,none⟩),iV Cb,iV Bv]) ⟨(S.tm rfl),(S.tm rfl),(S.tm rfl),trivial⟩ call14) (Ta _ O U Bc (Bd.mono (S.le_arg (Fh (i:=0) (e:=.blk O [U,iV r1.2] 25) rfl))) r1.2 (S.holds _ (List.mem_of_getElem? (i:=0) rfl)) Cb Bv _ hr3) rfl (fun _ _ _ h=>⟨h.1,fun _ hc=>by cases hc;rfl⟩) ?_;clear S;intro v3 a w4 hv3 hk4 hn3 S
  replace hv3:=hv3.2
  subst hv3
  refine Va S rfl rfl fun a S=>Dl (wp_ret ?_)
  obtain rfl:=Option.some.inj h
  exact Gm S results22 rfl ⟨(S.holds _ (List.mem_of_getElem? (i:=0) rfl)),rfl⟩
theorem AE (w : World) (O : Nat) (U : Value) (Bc : List Int) (Bd : Slc (view w [O]) 1 U (Bc.map eInt)) (Ao : Int) (Bt : (LEnt.blk O [U,iV Ao] 25).holds w) (Cp : Int) (r : (List An) × Int) (h : Rr Bc Ao Cp = some r) :
    Calls prog 4 [.pointer (some ⟨O,0,none⟩),iV Cp].toArray w (Ret w [O] fun τ v w'=>(LEnt.blk O [U,iV r.2] 25).holds w' ∧ Pk τ 41 5 v r.1.length (r.1.flatMap An.enc)):=by
 refine Lp [O] [.blk O [U,iV Ao] 25] func4 rfl ntmps4 rfl (fun e he=>by simp only [List.mem_singleton] at he;subst he;exact Bt) (by simp [fps,LEnt.fp]) (by simp [fps,LEnt.fp]) fun a S=>?_
 unfold Rr at h
 replace S:=(S.nl [.blk O [U,iV Ao] 25] [true] rfl).k2 0 1 rfl
 refine Fr (Vk S rfl rfl fun a S=>Dz (Vm S rfl rfl fun a S=>Vm S rfl rfl ?_));clear S;intro a S
 obtain ⟨r1,hr1,h⟩:=He h
 have hz1:=S.keep.size
 refine Hq 0 S (b:=O) rfl rfl (fun _=>.blk O [U,iV r1.2] 25) (fun _=>Fa (vs:=[.pointer (some ⟨O,0,none⟩),iV Cp]) ⟨(S.tm rfl),(S.tm rfl),trivial⟩ call20) (Wj _ O U Bc (Bd.mono (S.le_arg (Fh (i:=0) (e:=.blk O [U,iV Ao] 25) rfl))) Ao (S.holds _ (List.mem_of_getElem? (i:=0) rfl)) Cp _ hr1) rfl (fun _ _ _ h=>⟨h.1,fun _ hc=>by cases hc;rfl⟩) ?_;clear S;intro v1 a w1 hv1 hk1 hn1 S
 replace hv1:=hv1.2
 replace S:=S.take hn1 hz1 hv1
 refine Va S rfl rfl fun a S=>Dl (Fs (Fr (Vm S rfl rfl fun a S=>lv S (Gh Il (S.tm rfl) (Ly (S.own_at (i:=0) rfl))) rfl fun a S=>Vq S Na rfl rfl rfl fun a S=>Vm S rfl rfl ?_)));clear S;intro a S
 obtain ⟨j1,hj1,h⟩:=Ha h
 refine Lq 3 (fun a w'=>∃ x1 : Int,∃ x2 : Bool,j1 x1 x2 = some r ∧ Sx w [O] nov [.own v1 41 5 r1.1.length (r1.1.flatMap An.enc),.blk O [U,iV x1] 25] [(0,.pointer (some ⟨O,0,none⟩)),(5,v1),(16,bV x2)] 54 a w') ?_ ?_
 ·rcases Bool.eq_false_or_eq_true (decide (0 < (r1.1.length : Int))) with hb1 | hb1
  ·replace h:=Sy h hb1
   refine Fz S rfl rfl rfl hb1 (Vm S rfl rfl fun a S=>Fz S rfl rfl rfl hb1 ?_)
   obtain ⟨r2,hr2,h⟩:=He h
   refine Hq 1 S (b:=O) rfl rfl (fun _=>.blk O [U,iV r2.2] 25) (fun _=>Fa (vs:=[.pointer (some ⟨O,0,none⟩),iV 15]) ⟨(S.tm rfl),rfl,trivial⟩ call12) (Pf _ O U Bc (Bd.mono (S.le_arg (Fh (i:=1) (e:=.blk O [U,iV r1.2] 25) rfl))) r1.2 (S.holds _ (List.mem_of_getElem? (i:=1) rfl)) 15 _ hr2) rfl (fun _ _ _ h=>⟨h.1,fun _ hc=>by cases hc;rfl⟩) ?_;clear S;intro v2 a w3 hv2 hk2 hn2 S
   replace hv2:=hv2.2
   subst hv2
   exact lv S (Rh hb1 (S.tm rfl) (S.tm rfl)) rfl fun a S=>Dl (⟨r2.2,r2.1,h,S.nf [true,true] rfl (subR rfl)⟩)
  ·replace h:=Sz h hb1
   exact Kn S rfl rfl rfl (Ov hb1) rfl (fun a S=>Kn S rfl rfl rfl (Ov hb1) rfl (fun a S=>Vq S (Ri hb1) rfl rfl rfl fun a S=>Dl (⟨r1.2,false,h,S.nf [true,true] rfl (subR rfl)⟩)) rfl) rfl
 clear S h;rintro a w2 ⟨x1,x2,h,S⟩;rw [hj1] at h;clear hj1 j1
 refine Dl ?_
 obtain ⟨j2,hj2,h⟩:=Ha h
 refine Gv (fun a w'=>∃ x3 : List An,∃ x4 : Int,j2 x3 x4 = some r ∧ Sx w [O] nov [.own v1 41 5 x3.length (x3.flatMap An.enc),.blk O [U,iV x4] 25] [(5,v1)] 54 a w') ?_ ?_
 ·refine Fc h (S.tm rfl) (fun hb2 h=>?_) (fun hb2 h=>?_)
  ·refine Fs (Fg ?_)
   iterate 3 (refine Vm S rfl rfl ?_;clear S;intro a S)
   refine lv S (Gh Il (S.tm rfl) (Ly (S.own_at (i:=0) rfl))) rfl ?_;clear S;intro a S
   obtain ⟨r3,hr3,h⟩:=He h
   refine Hq 1 S (b:=O) rfl rfl (fun _=>.blk O [U,iV r3.2] 25) (fun _=>Fa (vs:=[.pointer (some ⟨O,0,none⟩),iV (r1.1.length : Int)]) ⟨(S.tm rfl),(S.tm rfl),trivial⟩ call21) (Ny _ O U Bc (Bd.mono (S.le_arg (Fh (i:=1) (e:=.blk O [U,iV x1] 25) rfl))) x1 (S.holds _ (List.mem_of_getElem? (i:=1) rfl)) (r1.1.length : Int) _ hr3) rfl (fun _ _ _ h=>⟨h.1,fun _ hc=>by cases hc;rfl⟩) ?_;clear S;intro v3 a w5 hv3 hk3 hn3 S
   replace hv3:=hv3.2
   subst hv3
   obtain ⟨hc1,h⟩:=Ig h
   obtain ⟨b1,hg1,hr4⟩:=Hn (a:=a) (x:=.tmp 17) (y:=.tmp 21) (ty:=0) Il An.enc_ok S (i:=0) rfl (Ff hc1).1 (Ff hc1).2 (S.tm rfl) (S.tm rfl)
   refine lv S (hr4 _) rfl ?_;clear S;intro a S
   clear hr4
   refine Va S rfl rfl fun a S=>Dl (Fg ?_)
   iterate 7 (refine Vm S rfl rfl ?_;clear S;intro a S)
   refine Vu S Fv rfl rfl fun a S=>Vf Mz S rfl rfl fun a S=>lv S (Hr isAgg9 (off:=r3.1.toNat * 5) (o:=0) (S.tm rfl) (Kx An.enc_ok S (i:=0) rfl hg1 (Ff hc1).1) rfl) rfl fun a S=>Fw S underlying31 sizeOf9 zeroValue9 rfl rfl (pv:=[(0,sV ((nth r1.1 r3.1).Key)),(1,sV Ga),(2,sV Sk)]) ⟨rfl,(S.tm rfl),rfl,rfl,rfl,rfl,trivial⟩ (cs:=[sV ((nth r1.1 r3.1).Key),sV Ga,sV Sk]) (by kernel_rfl) rfl ?_;clear S;intro a w6 b2 hz2 hk4 S
   obtain ⟨r4,hr5,h⟩:=He h
   refine Hq 2 S (b:=O) rfl rfl (fun _=>.blk O [U,iV r4.2] 25) (fun _=>Fa (vs:=[.pointer (some ⟨O,0,none⟩),.slice (some ⟨b2,0,none⟩) 3 3]) ⟨(S.tm rfl),(S.tm rfl),trivial⟩ call13) (Ms _ O U Bc (Bd.mono (S.le_arg (Fh (i:=2) (e:=.blk O [U,iV r3.2] 25) rfl))) r3.2 (S.holds _ (List.mem_of_getElem? (i:=2) rfl)) (.slice (some ⟨b2,0,none⟩) 3 3) [(nth r1.1 r3.1).Key,Ga,Sk] (Lz Jb S (i:=0) rfl rfl rfl rfl ((Ke (i:=2) (j:=0) (e:=.blk O [U,iV r3.2] 25) (e':=.blk b2 [sV ((nth r1.1 r3.1).Key),sV Ga,sV Sk] 9) S rfl rfl rfl) _ rfl)) _ hr5) rfl (fun _ _ _ h=>⟨h.1,fun _ hc=>by cases hc;rfl⟩) ?_;clear S;intro v4 a w7 hv4 hk5 hn4 S
   replace hv4:=hv4.2
   subst hv4
   refine Vm S rfl rfl ?_;clear S;intro a S
   obtain ⟨r5,hr6,h⟩:=He h
   refine Hq 2 S (b:=O) rfl rfl (fun _=>.blk O [U,iV r5.2] 25) (fun _=>Fa (vs:=[.pointer (some ⟨O,0,none⟩),iV 1,iV 60]) ⟨(S.tm rfl),rfl,rfl,trivial⟩ call22) (Ot _ O U Bc (Bd.mono (S.le_arg (Fh (i:=2) (e:=.blk O [U,iV r4.2] 25) rfl))) r4.2 (S.holds _ (List.mem_of_getElem? (i:=2) rfl)) 1 60 _ hr6) rfl (fun _ _ _ h=>⟨h.1,fun _ hc=>by cases hc;rfl⟩) ?_;clear S;intro v5 a w8 hv5 hk6 hn5 S
   replace hv5:=hv5.2
   subst hv5
   refine Vm S rfl rfl ?_;clear S;intro a S
   obtain ⟨r6,hr7,h⟩:=He h
   refine Hq 2 S (b:=O) rfl rfl (fun _=>.blk O [U,iV r6.2] 25) (fun _=>Fa (vs:=[.pointer (some ⟨O,0,none⟩),iV 1,iV 100]) ⟨(S.tm rfl),rfl,rfl,trivial⟩ call22) (Ot _ O U Bc (Bd.mono (S.le_arg (Fh (i:=2) (e:=.blk O [U,iV r5.2] 25) rfl))) r5.2 (S.holds _ (List.mem_of_getElem? (i:=2) rfl)) 1 100 _ hr7) rfl (fun _ _ _ h=>⟨h.1,fun _ hc=>by cases hc;rfl⟩) ?_;clear S;intro v6 a w9 hv6 hk7 hn6 S
   replace hv6:=hv6.2
   subst hv6
   refine Vm S rfl rfl ?_;clear S;intro a S
   obtain ⟨r7,hr8,h⟩:=He h
   refine Hq 2 S (b:=O) rfl rfl (fun _=>.blk O [U,iV r7.2] 25) (fun _=>Fa (vs:=[.pointer (some ⟨O,0,none⟩),iV 0,iV 100]) ⟨(S.tm rfl),rfl,rfl,trivial⟩ call22) (Ot _ O U Bc (Bd.mono (S.le_arg (Fh (i:=2) (e:=.blk O [U,iV r6.2] 25) rfl))) r6.2 (S.holds _ (List.mem_of_getElem? (i:=2) rfl)) 0 100 _ hr8) rfl (fun _ _ _ h=>⟨h.1,fun _ hc=>by cases hc;rfl⟩) ?_;clear S;intro v7 a w10 hv7 hk8 hn7 S
   replace hv7:=hv7.2
   subst hv7
   refine Vm S rfl rfl ?_;clear S;intro a S
   obtain ⟨r8,hr9,h⟩:=He h
   refine Hq 2 S (b:=O) rfl rfl (fun _=>.blk O [U,iV r8.2] 25) (fun _=>Fa (vs:=[.pointer (some ⟨O,0,none⟩),iV 0,iV 100]) ⟨(S.tm rfl),rfl,rfl,trivial⟩ call22) (Ot _ O U Bc (Bd.mono (S.le_arg (Fh (i:=2) (e:=.blk O [U,iV r7.2] 25) rfl))) r7.2 (S.holds _ (List.mem_of_getElem? (i:=2) rfl)) 0 100 _ hr9) rfl (fun _ _ _ h=>⟨h.1,fun _ hc=>by cases hc;rfl⟩) ?_;clear S;intro v8 a w11 hv8 hk9 hn8 S
   replace hv8:=hv8.2
   subst hv8
   refine Vu S Fv rfl rfl fun a S=>Vf Mz S rfl rfl fun a S=>Ki (c:=0) (j:=r3.1.toNat) (An.mk r4.1 ((nth r1.1 r3.1).Heats) ((nth r1.1 r3.1).Long) ((nth r1.1 r3.1).Gap) ((nth r1.1 r3.1).Break)) An.enc_ok S (S.tm rfl) (S.tm rfl) (i:=1) rfl hg1 (Ff hc1).1 sizeOf9 (vs:=[sV r4.1]) rfl rfl rfl rfl rfl ?_;clear S;intro w13 hk11 S
   refine Vu S Fv rfl rfl fun a S=>Vf Qn S rfl rfl fun a S=>Ki (c:=1) (j:=r3.1.toNat) (An.mk r4.1 r5.1 ((nth r1.1 r3.1).Long) ((nth r1.1 r3.1).Gap) ((nth r1.1 r3.1).Break)) An.enc_ok S (S.tm rfl) (S.tm rfl) (i:=1) rfl hg1 (Me (Ff hc1).1) sizeOf3 (vs:=[iV r5.1]) rfl rfl rfl rfl rfl ?_;clear S;intro w15 hk13 S
   refine Vu S Fv rfl rfl fun a S=>Vf Sa S rfl rfl fun a S=>Ki (c:=2) (j:=r3.1.toNat) (An.mk r4.1 r5.1 r6.1 ((nth r1.1 r3.1).Gap) ((nth r1.1 r3.1).Break)) An.enc_ok S (S.tm rfl) (S.tm rfl) (i:=1) rfl hg1 (Me (Me (Ff hc1).1)) sizeOf3 (vs:=[iV r6.1]) rfl rfl rfl rfl rfl ?_;clear S;intro w17 hk15 S
   refine Vu S Fv rfl rfl fun a S=>Vf Ty S rfl rfl fun a S=>Ki (c:=3) (j:=r3.1.toNat) (An.mk r4.1 r5.1 r6.1 r7.1 ((nth r1.1 r3.1).Break)) An.enc_ok S (S.tm rfl) (S.tm rfl) (i:=1) rfl hg1 (Me (Me (Me (Ff hc1).1))) sizeOf3 (vs:=[iV r7.1]) rfl rfl rfl rfl rfl ?_;clear S;intro w19 hk17 S
   refine Vu S Fv rfl rfl fun a S=>Vf Vg S rfl rfl fun a S=>Ki (c:=4) (j:=r3.1.toNat) (An.mk r4.1 r5.1 r6.1 r7.1 r8.1) An.enc_ok S (S.tm rfl) (S.tm rfl) (i:=1) rfl hg1 (Me (Me (Me (Me (Ff hc1).1)))) sizeOf3 (vs:=[iV r8.1]) rfl rfl rfl rfl rfl ?_;clear S;intro w21 hk19 S
   refine Ld ?_
   replace S:=(S.nl [.own v1 41 5 (((((r1.1.set r3.1.toNat (An.mk r4.1 ((nth r1.1 r3.1).Heats) ((nth r1.1 r3.1).Long) ((nth r1.1 r3.1).Gap) ((nth r1.1 r3.1).Break))).set r3.1.toNat (An.mk r4.1 r5.1 ((nth r1.1 r3.1).Long) ((nth r1.1 r3.1).Gap) ((nth r1.1 r3.1).Break))).set r3.1.toNat (An.mk r4.1 r5.1 r6.1 ((nth r1.1 r3.1).Gap) ((nth r1.1 r3.1).Break))).set r3.1.toNat (An.mk r4.1 r5.1 r6.1 r7.1 ((nth r1.1 r3.1).Break))).set r3.1.toNat (An.mk r4.1 r5.1 r6.1 r7.1 r8.1)).length ((((((r1.1.set r3.1.toNat (An.mk r4.1 ((nth r1.1 r3.1).Heats) ((nth r1.1 r3.1).Long) ((nth r1.1 r3.1).Gap) ((nth r1.1 r3.1).Break))).set r3.1.toNat (An.mk r4.1 r5.1 ((nth r1.1 r3.1).Long) ((nth r1.1 r3.1).Gap) ((nth r1.1 r3.1).Break))).set r3.1.toNat (An.mk r4.1 r5.1 r6.1 ((nth r1.1 r3.1).Gap) ((nth r1.1 r3.1).Break))).set r3.1.toNat (An.mk r4.1 r5.1 r6.1 r7.1 ((nth r1.1 r3.1).Break))).set r3.1.toNat (An.mk r4.1 r5.1 r6.1 r7.1 r8.1)).flatMap An.enc),.blk O [U,iV r8.2] 25] [false,true,true] rfl).k1 5 rfl
   exact Tn (⟨(((((r1.1.set r3.1.toNat (An.mk r4.1 ((nth r1.1 r3.1).Heats) ((nth r1.1 r3.1).Long) ((nth r1.1 r3.1).Gap) ((nth r1.1 r3.1).Break))).set r3.1.toNat (An.mk r4.1 r5.1 ((nth r1.1 r3.1).Long) ((nth r1.1 r3.1).Gap) ((nth r1.1 r3.1).Break))).set r3.1.toNat (An.mk r4.1 r5.1 r6.1 ((nth r1.1 r3.1).Gap) ((nth r1.1 r3.1).Break))).set r3.1.toNat (An.mk r4.1 r5.1 r6.1 r7.1 ((nth r1.1 r3.1).Break))).set r3.1.toNat (An.mk r4.1 r5.1 r6.1 r7.1 r8.1)),r8.2,h,S.nf [true,true] rfl ⟨rfl,trivial⟩⟩)
  ·exact wp_skip (Tn (⟨r1.1,x1,h,S.nf [true,true] rfl ⟨rfl,trivial⟩⟩))
 clear S h;rintro a w4 ⟨x3,x4,h,S⟩;rw [hj2] at h;clear hj2 j2
 refine Tn (Fr (Vm S rfl rfl fun a S=>Va S rfl rfl fun a S=>Dl (wp_ret ?_)))
 obtain rfl:=Option.some.inj h
 exact Gm S results4 rfl ⟨(S.holds _ (List.mem_of_getElem? (i:=1) rfl)),(Wd S (i:=0) rfl (fun c hc hh=>Tu S (i:=1) rfl rfl (j:=0) rfl rfl (by simp at hc;subst hc;exact hh)))⟩
theorem On (w : World) (Ak : Value) (Ay : List An) (Bo : Slc (view w []) 5 Ak (Ay.map An.enc)) (r : (List An)) (h : Lg Ay = some r) :
    Calls prog 28 [Ak].toArray w (Ret w [] fun τ v _=>Pk τ 41 5 v r.length (r.flatMap An.enc)):=by
 refine Fe func28 rfl ntmps28 rfl fun a S=>?_
 unfold Lg at h
 replace S:=S.k1 0 rfl
 refine Fr (Vk S rfl rfl fun a S=>Dl (Fs (Fr (Vm S rfl rfl fun a S=>lv S (FL underlying26 (Ey Bo) (S.tm rfl) rfl) rfl fun a S=>Ld ?_))))
 refine Tn (Zj (S.tm rfl) (fun hb1=>?_) (fun hb1=>?_))
 ·have hx1:=FK Bo hb1
  subst hx1
  replace h : some ([] : List An) = some r:=h
  refine Fr (Vk S rfl rfl fun a S=>Dl (wp_ret (Fk ?_)))
  obtain rfl:=Option.some.inj h
  exact Gm S results28 rfl (Mf _ _ _)
 ·refine wp_skip (Tn (Fr (Xo S underlying26 sizeOf41 rfl ?_)));clear S;intro a w1 b1 hz1 hk1 S
  refine Vm S rfl rfl ?_;clear S;intro a S
  replace S:=S.litOwn (i:=0) (xs:=([] : List An)) rfl An.enc_ok rfl rfl rfl
  replace S:=S.nk [.own (.slice (some ⟨b1,0,none⟩) 0 0) 41 5 (([] : List An) : List An).length ((([] : List An) : List An).flatMap An.enc)] [(0,Ak),(2,.slice none 0 0),(3,Ak),(4,bV (KT Ak)),(5,(.slice (some ⟨b1,0,none⟩) 0 0)),(6,Ak)] [] rfl (subR rfl)
  obtain ⟨hc1,h⟩:=Ig h
  refine Zl (Y:=[]) Il An.enc_ok S (S.tm rfl) (i:=0) rfl (S.tm rfl) (Bo.mono (S.le_arg (fun _ h=>by cases h))) rfl rfl (by have:=Ky hc1;omega) rfl ?_;clear S;intro v1 a w2 hk2 S
  refine Va S rfl rfl fun a S=>Dl (wp_ret ?_)
  obtain rfl:=Option.some.inj h
  exact Gm S results28 rfl (Pu S (i:=0) rfl rfl)
set_option maxRecDepth 20000 in
theorem CC (w : World) (Bl : Int) (r : Int) (h : Xz Bl = some r) :
    Calls prog 79 [.int .u32 Bl].toArray w (Ret w [] fun _ v _=>v = iV r):=by
 refine Fe func79 rfl ntmps79 rfl fun a S=>?_
 unfold Xz at h
 replace S:=S.k1 0 rfl
 refine Fr (Vk S rfl rfl fun a S=>Dl (Fs (Fr (Vm S rfl rfl fun a S=>Vq S Qe rfl rfl rfl fun a S=>Ld ?_))))
 refine Tn ?_
 obtain ⟨j1,hj1,h⟩:=Ha h
 refine Gv (fun a w'=>∃ x1 : Int,∃ x2 : Int,j1 x1 x2 = some r ∧ Sx w [] nov [] [(0,.int .u32 x1),(2,iV x2)] 19 a w') ?_ ?_
 ·refine Fc h (S.tm rfl) (fun hb1 h=>?_) (fun hb1 h=>?_)
  ·refine Fr (Vm S rfl rfl fun a S=>lv S (AU (S.tm rfl) rfl (by decide)) rfl fun a S=>Va S rfl rfl fun a S=>Dl (Fg (Vk S rfl rfl fun a S=>Dl ?_)))
   exact ⟨Sw .u32 Bl 16,16,h,S.nf [] rfl (subR rfl)⟩
  ·exact wp_skip (Tn (⟨Bl,0,h,S.nf [] rfl (subR rfl)⟩))
 clear S h;rintro a w1 ⟨x1,x2,h,S⟩;rw [hj1] at h;clear hj1 j1
 refine Tn (Fs (Fr (Vm S rfl rfl fun a S=>Vq S Qe rfl rfl rfl fun a S=>Dl ?_)))
 obtain ⟨j2,hj2,h⟩:=Ha h
 refine Gv (fun a w'=>∃ x3 : Int,∃ x4 : Int,j2 x3 x4 = some r ∧ Sx w [] nov [] [(0,.int .u32 x3),(2,iV x4)] 19 a w') ?_ ?_
 ·refine Fc h (S.tm rfl) (fun hb2 h=>?_) (fun hb2 h=>?_)
  ·refine Fr (Vm S rfl rfl fun a S=>lv S (AU (S.tm rfl) rfl (by decide)) rfl fun a S=>Va S rfl rfl fun a S=>Dl (Fg (Vm S rfl rfl fun a S=>Vq S Gx rfl rfl rfl fun a S=>Va S rfl rfl ?_)));clear S;intro a S
   exact Dl (⟨Sw .u32 x1 8,W (x2 + 8),h,S.nf [] rfl (subR rfl)⟩)
  ·exact wp_skip (Tn (⟨x1,x2,h,S.nf [] rfl (subR rfl)⟩))
 clear S h;rintro a w2 ⟨x3,x4,h,S⟩;rw [hj2] at h;clear hj2 j2
 refine Tn (Fr (Vm S rfl rfl fun a S=>Vm S rfl rfl fun a S=>Vu S (Uv underlying118 underlying5) rfl rfl ?_));clear S;intro a S
 obtain ⟨hc1,h⟩:=Ig h
 refine lv S (Tk underlying9 rfl (S.tm rfl) hc1) rfl fun a S=>Vu S (Uv underlying5 underlying3) rfl rfl fun a S=>Vb S Gx rfl rfl rfl fun a S=>Va S rfl rfl fun a S=>Dl (wp_ret ?_)
 obtain rfl:=Option.some.inj h
 exact Gm S results79 rfl rfl
set_option maxRecDepth 20000 in
theorem CD (w : World) (Bl : Int) (r : Int) (h : Ya Bl = some r) :
    Calls prog 80 [.int .u64 Bl].toArray w (Ret w [] fun _ v _=>v = iV r):=by
 refine Fe func80 rfl ntmps80 rfl fun a S=>?_
 unfold Ya at h
 replace S:=S.k1 0 rfl
 refine Fr (Vk S rfl rfl fun a S=>Dl (Fs (Fr (Vm S rfl rfl fun a S=>Vq S Qe rfl rfl rfl fun a S=>Ld ?_))))
 refine Tn ?_
 obtain ⟨j1,hj1,h⟩:=Ha h
 refine Gv (fun a w'=>∃ x1 : Int,∃ x2 : Int,j1 x1 x2 = some r ∧ Sx w [] nov [] [(0,.int .u64 x1),(2,iV x2)] 25 a w') ?_ ?_
 ·refine Fc h (S.tm rfl) (fun hb1 h=>?_) (fun hb1 h=>?_)
  ·refine Fr (Vm S rfl rfl fun a S=>lv S (AU (S.tm rfl) rfl (by decide)) rfl fun a S=>Va S rfl rfl fun a S=>Dl (Fg (Vk S rfl rfl fun a S=>Dl ?_)))
   exact ⟨Sw .u64 Bl 32,32,h,S.nf [] rfl (subR rfl)⟩
  ·exact wp_skip (Tn (⟨Bl,0,h,S.nf [] rfl (subR rfl)⟩))
 clear S h;rintro a w1 ⟨x1,x2,h,S⟩;rw [hj1] at h;clear hj1 j1
 refine Tn (Fs (Fr (Vm S rfl rfl fun a S=>Vq S Qe rfl rfl rfl fun a S=>Dl ?_)))
 obtain ⟨j2,hj2,h⟩:=Ha h
 refine Gv (fun a w'=>∃ x3 : Int,∃ x4 : Int,j2 x3 x4 = some r ∧ Sx w [] nov [] [(0,.int .u64 x3),(2,iV x4)] 25 a w') ?_ ?_
 ·refine Fc h (S.tm rfl) (fun hb2 h=>?_) (fun hb2 h=>?_)
  ·refine Fr (Vm S rfl rfl fun a S=>lv S (AU (S.tm rfl) rfl (by decide)) rfl fun a S=>Va S rfl rfl fun a S=>Dl (Fg (Vm S rfl rfl fun a S=>Vq S Gx rfl rfl rfl fun a S=>Va S rfl rfl ?_)));clear S;intro a S
   exact Dl (⟨Sw .u64 x1 16,W (x2 + 16),h,S.nf [] rfl (subR rfl)⟩)
  ·exact wp_skip (Tn (⟨x1,x2,h,S.nf [] rfl (subR rfl)⟩))
 clear S h;rintro a w2 ⟨x3,x4,h,S⟩;rw [hj2] at h;clear hj2 j2
 refine Tn (Fs (Fr (Vm S rfl rfl fun a S=>Vq S Qe rfl rfl rfl fun a S=>Dl ?_)))
 obtain ⟨j3,hj3,h⟩:=Ha h
 refine Gv (fun a w'=>∃ x5 : Int,∃ x6 : Int,j3 x5 x6 = some r ∧ Sx w [] nov [] [(0,.int .u64 x5),(2,iV x6)] 25 a w') ?_ ?_
 ·refine Fc h (S.tm rfl) (fun hb3 h=>?_) (fun hb3 h=>?_)
  ·refine Fr (Vm S rfl rfl fun a S=>lv S (AU (S.tm rfl) rfl (by decide)) rfl fun a S=>Va S rfl rfl fun a S=>Dl (Fg (Vm S rfl rfl fun a S=>Vq S Gx rfl rfl rfl fun a S=>Va S rfl rfl ?_)));clear S;intro a S
   exact Dl (⟨Sw .u64 x3 8,W (x4 + 8),h,S.nf [] rfl (subR rfl)⟩)
  ·exact wp_skip (Tn (⟨x3,x4,h,S.nf [] rfl (subR rfl)⟩))
 clear S h;rintro a w3 ⟨x5,x6,h,S⟩;rw [hj3] at h;clear hj3 j3
 refine Tn (Fr (Vm S rfl rfl fun a S=>Vm S rfl rfl fun a S=>Vu S (Uv underlying120 underlying5) rfl rfl ?_));clear S;intro a S
 obtain ⟨hc1,h⟩:=Ig h
 refine lv S (Tk underlying9 rfl (S.tm rfl) hc1) rfl fun a S=>Vu S (Uv underlying5 underlying3) rfl rfl fun a S=>Vb S Gx rfl rfl rfl fun a S=>Va S rfl rfl fun a S=>Dl (wp_ret ?_)
 obtain rfl:=Option.some.inj h
 exact Gm S results80 rfl rfl
theorem Zz (w : World) (Bl : Int) (r : Int) (h : Ug Bl = some r) :
    Calls prog 51 [.int .u64 Bl].toArray w (Ret w [] fun _ v _=>v = iV r):=by
 refine Fe func51 rfl ntmps51 rfl fun a S=>?_
 unfold Ug at h
 replace S:=S.k1 0 rfl
 refine Fr (Vk S rfl rfl fun a S=>Dl (Fs (Fc h rfl (fun hb1 h=>?_) (fun hb1 h=>?_))))
 ·refine Fr (Vm S rfl rfl fun a S=>Vu S (Uv underlying88 underlying118) rfl rfl ?_);clear S;intro a S
  obtain ⟨r1,hr1,h⟩:=He h
  refine Fo S (fun _=>Fa (vs:=[.int .u32 (IntKind.wrap .u32 Bl)]) ⟨(S.tm rfl),trivial⟩ call79) (CC _ (IntKind.wrap .u32 Bl) _ hr1) rfl ?_;clear S;intro v1 a w1 hv1 hk1 hn1 S
  subst hv1
  refine Va S rfl rfl fun a S=>Dl (wp_ret (Fk ?_))
  obtain rfl:=Option.some.inj h
  exact Gm S results51 rfl rfl
 ·refine wp_skip (Tn (Fr (Vm S rfl rfl ?_)));clear S;intro a S
  obtain ⟨r2,hr2,h⟩:=He h
  refine Fo S (fun _=>Fa (vs:=[.int .u64 Bl]) ⟨(S.tm rfl),trivial⟩ call80) (CD _ Bl _ hr2) rfl ?_;clear S;intro v2 a w2 hv2 hk2 hn2 S
  subst hv2
  refine Va S rfl rfl fun a S=>Dl (wp_ret ?_)
  obtain rfl:=Option.some.inj h
  exact Gm S results51 rfl rfl
theorem Uh (w : World) (Bh : An) (Bk : An) (r : Int) (h : Kj Bh Bk = r) :
    Calls prog 47 [.agg (An.enc Bh).toArray,.agg (An.enc Bk).toArray].toArray w (Ret w [] fun _ v _=>v = iV r):=by
 refine Fe func47 rfl ntmps47 rfl fun a S=>?_
 unfold Kj at h
 replace S:=S.k2 0 1 rfl
 refine Fr (Pt S (S.tm rfl) (cs:=(An.enc Bh)) rfl rfl ?_);clear S;intro a w1 b1 hz1 hk1 S
 refine Pt S (S.tm rfl) (cs:=(An.enc Bk)) rfl rfl ?_;clear S;intro a w2 b2 hz2 hk2 S
 refine Vk S rfl rfl fun a S=>Dl (Fs (Fr (Vf Mz S rfl rfl fun a S=>Vl isAgg9 1 S rfl rfl rfl rfl fun a S=>Vf Mz S rfl rfl fun a S=>Vl isAgg9 0 S rfl rfl rfl rfl fun a S=>Vb S HS rfl rfl rfl ?_)));clear S;intro a S
 refine Dl (Fc h (S.tm rfl) (fun hb1 h=>?_) (fun hb1 h=>?_))
 ·refine Fr (Vk S rfl rfl fun a S=>Dl (wp_ret (Fk ?_)))
  subst h
  exact Gm S results47 rfl rfl
 ·refine wp_skip (Tn (Fr (Vk S rfl rfl fun a S=>Dl (wp_ret ?_))))
  subst h
  exact Gm S results47 rfl rfl
set_option maxRecDepth 20000 in
theorem Mt (w : World) (Ai : Value) (Bi : List An) (Dc : (LEnt.own Ai 41 5 Bi.length (Bi.flatMap An.enc)).holds w) (Bh : Int) (Bk : Int) (r : (List An)) (h : Hg Bi Bh Bk = some r) :
    Calls prog 71 [Ai,iV Bh,iV Bk,.func (.func 47) #[] #[]].toArray w (Ret w (Ai.ownBlock.toList) fun _ v w'=>(LEnt.own Ai 41 5 r.length (r.flatMap An.enc)).holds w' ∧ v = .tuple #[]):=by
 refine Lp (Ai.ownBlock.toList) [.own Ai 41 5 Bi.length (Bi.flatMap An.enc)] func71 rfl ntmps71 rfl (fun e he=>by simp only [List.mem_singleton] at he;subst he;exact Dc) (Ml _) (Of _) fun a S=>?_
 unfold Hg at h
 replace S:=(S.nl [.own Ai 41 5 Bi.length (Bi.flatMap An.enc)] [true] rfl).k4 0 1 2 3 rfl
 refine Fr (Vm S rfl rfl fun a S=>Vq S Gx rfl rfl rfl fun a S=>Va S rfl rfl fun a S=>Dl ?_)
 replace S:=S.k5 0 1 2 3 8 rfl
 obtain ⟨j1,hj1,h⟩:=Ha h
 refine Gv (fun a w'=>∃ x1 : List An,j1 x1 = some r ∧ Sx w (Ai.ownBlock.toList) nov [.own Ai 41 5 x1.length (x1.flatMap An.enc)] [] 53 a w') ?_ ?_
 ·refine wp_block (Iv (fun (m1 : Nat) a w'=>∃ x1 : List An,∃ x2 : Int,Fu Bk Bh j1 m1 x1 x2 = some r ∧ Sx w (Ai.ownBlock.toList) nov [.own Ai 41 5 x1.length (x1.flatMap An.enc)] [(0,Ai),(1,iV Bh),(2,iV Bk),(3,.func (.func 47) #[] #[]),(8,iV x2)] 53 a w') id ((Bk - (W (Bh + 1))).toNat + 2) ⟨Bi,W (Bh + 1),h,S.nf [true] rfl (subR rfl)⟩ ?_)
  clear S h;rintro m1 a w1 ⟨x1,x2,h,S⟩
  cases m1 with
  | zero=>rw [Fu.eq_1] at h;cases h
  | succ m1 =>
   rw [Fu.eq_2] at h
   refine Fs (Fr (Vm S rfl rfl fun a S=>Vm S rfl rfl fun a S=>Vb S Gb rfl rfl rfl fun a S=>Dl (Fc h (S.tm rfl) (fun hb1 h=>?_) (fun hb1 h=>?_))))
   ·refine wp_skip (Tn (Fs (wp_block (Fr (Vm S rfl rfl fun a S=>Va S rfl rfl fun a S=>Dl ?_)))))
    replace S:=S.k6 0 1 2 3 8 9 rfl
    obtain ⟨j2,hj2,h⟩:=Ha h
    refine Gv (fun a w'=>∃ x3 : List An,j2 x3 = some r ∧ Sx w (Ai.ownBlock.toList) nov [.own Ai 41 5 x3.length (x3.flatMap An.enc)] [(0,Ai),(1,iV Bh),(2,iV Bk),(3,.func (.func 47) #[] #[]),(8,iV x2)] 53 a w') ?_ ?_
    ·refine wp_block (Iv (fun (m2 : Nat) a w'=>∃ x3 : List An,∃ x4 : Int,Fm Bh j2 m2 x3 x4 = some r ∧ Sx w (Ai.ownBlock.toList) nov [.own Ai 41 5 x3.length (x3.flatMap An.enc)] [(0,Ai),(1,iV Bh),(2,iV Bk),(3,.func (.func 47) #[] #[]),(8,iV x2),(9,iV x4)] 53 a w') id ((x2 - Bh).toNat + 2) ⟨x1,x2,h,S.nf [true] rfl (subR rfl)⟩ ?_)
     clear S h;rintro m2 a w3 ⟨x3,x4,h,S⟩
     cases m2 with
     | zero=>rw [Fm.eq_1] at h;cases h
     | succ m2 =>
      rw [Fm.eq_2] at h
      refine Fs (Fs ?_)
      obtain ⟨j3,hj3,h⟩:=Ha h
      refine Gv (fun a w'=>∃ x5 : Bool,j3 x5 = some r ∧ Sx w (Ai.ownBlock.toList) nov [.own Ai 41 5 x3.length (x3.flatMap An.enc)] [(0,Ai),(1,iV Bh),(2,iV Bk),(3,.func (.func 47) #[] #[]),(8,iV x2),(9,iV x4),(34,bV x5)] 53 a w') ?_ ?_
      ·rcases Bool.eq_false_or_eq_true (decide (Bh < x4)) with hb2 | hb2
       ·replace h:=Sy h hb2
        obtain ⟨hc1,h⟩:=Ig h
        obtain ⟨hc2,h⟩:=Ig h
        refine Hx [] ([]) Tryz.mixed S rfl (by kernel_rfl) ?_;clear S;intro w7 hk2 hsel S
        refine Fj 0 S hsel rfl rfl rfl (by kernel_rfl) (by kernel_rfl) rfl (fun _ hw=>(Rm (S.tm rfl))) fun a S=>Fj 1 S hsel rfl rfl rfl (by kernel_rfl) (by kernel_rfl) rfl (fun _ hw=>(Rm (S.tm rfl))) fun a S=>Fj 2 S hsel rfl rfl rfl (by kernel_rfl) (by kernel_rfl) rfl (fun _ hw=>(Na (S.tm rfl) (S.tm rfl))) fun a S=>Fj 3 S hsel rfl rfl rfl (by kernel_rfl) (by kernel_rfl) rfl (fun _ hw=>(Rm (S.tm rfl))) fun a S=>Hh 4 S hsel rfl rfl rfl rfl hb2 rfl rfl (by kernel_rfl) (by kernel_rfl) rfl (fun _ hw=>(Rm (S.tm rfl))) fun a S=>Hh 5 S hsel rfl rfl rfl rfl hb2 rfl rfl (by kernel_rfl) (by kernel_rfl) rfl (fun _ hw=>(Rm (S.tm rfl))) fun a S=>Hh 6 S hsel rfl rfl rfl rfl hb2 rfl rfl (by kernel_rfl) (by kernel_rfl) rfl (fun _ hw=>(Rm (S.tm rfl))) ?_;clear S;intro a S
        obtain ⟨b3,hg3,hr3⟩:=Hn (a:=a) (x:=.tmp 23) (y:=.tmp 24) (ty:=0) Il An.enc_ok S (i:=0) rfl (Ff hc1).1 (Ff hc1).2 (S.tm rfl) (S.tm rfl)
        refine Hh 7 S hsel rfl rfl rfl rfl hb2 rfl rfl (by kernel_rfl) (by kernel_rfl) rfl (fun _ hw=>(hr3 _)) ?_;clear S;intro a S
        clear hr3
        refine Hh 8 S hsel rfl rfl rfl rfl hb2 rfl rfl (by kernel_rfl) (by kernel_rfl) rfl (fun _ hw=>(Ji isAgg41 sizeOf41 (off:=x4.toNat * 5) (o:=0) (part:=(An.enc (nth x3 x4))) rfl rfl (S.tm rfl) ((Qa An.enc_ok S (i:=0) rfl hg3 (Ff hc1).1 (Ij (e':=.own Ai 41 5 x3.length (x3.flatMap An.enc)))).kept hw))) fun a S=>Hh 9 S hsel rfl rfl rfl rfl hb2 rfl rfl (by kernel_rfl) (by kernel_rfl) rfl (fun _ hw=>(Rm (S.tm rfl))) fun a S=>Hh 10 S hsel rfl rfl rfl rfl hb2 rfl rfl (by kernel_rfl) (by kernel_rfl) rfl (fun _ hw=>(Rm (S.tm rfl))) fun a S=>Hh 11 S hsel rfl rfl rfl rfl hb2 rfl rfl (by kernel_rfl) (by kernel_rfl) rfl (fun _ hw=>(Kw (S.tm rfl) rfl)) ?_;clear S;intro a S
        obtain ⟨b4,hg4,hr4⟩:=Hn (a:=a) (x:=.tmp 27) (y:=.tmp 29) (ty:=0) Il An.enc_ok S (i:=0) rfl (Ff hc2).1 (Ff hc2).2 (S.tm rfl) (S.tm rfl)
        refine Hh 12 S hsel rfl rfl rfl rfl hb2 rfl rfl (by kernel_rfl) (by kernel_rfl) rfl (fun _ hw=>(hr4 _)) ?_;clear S;intro a S
        clear hr4
        refine Hh 13 S hsel rfl rfl rfl rfl hb2 rfl rfl (by kernel_rfl) (by kernel_rfl) rfl (fun _ hw=>(Ji isAgg41 sizeOf41 (off:=((W (x4 - 1)).toNat) * 5) (o:=0) (part:=(An.enc (nth x3 (W (x4 - 1))))) rfl rfl (S.tm rfl) ((Qa An.enc_ok S (i:=0) rfl hg4 (Ff hc2).1 (Ij (e':=.own Ai 41 5 x3.length (x3.flatMap An.enc)))).kept hw))) fun a S=>Gq 14 (by kernel_rfl) rfl (Fz S rfl rfl rfl hb2 (Fo S (fun _=>Pb (cap:=[]) (S.tm rfl) (vs:=[.agg (An.enc (nth x3 x4)).toArray,.agg (An.enc (nth x3 (W (x4 - 1)))).toArray]) ⟨(S.tm rfl),(S.tm rfl),trivial⟩ call47) (Uh _ (nth x3 x4) (nth x3 (W (x4 - 1))) _ rfl) rfl ?_));clear S;intro v2 a w8 hv2 hk3 hn2 S
        subst hv2
        refine Ld (Hb hk3 (Lc [15,16] hsel (by kernel_rfl) rfl ?_))
        clear hsel
        refine Rp S rfl rfl rfl rfl hb2 (Tl S (Gb (S.tm rfl) rfl) rfl fun a S=>Gp S rfl (Rh hb2 (S.tm rfl) (S.tm rfl)) rfl fun a S=>Kz ?_)
        replace S:=S.nk [.own Ai 41 5 x3.length (x3.flatMap An.enc)] [(0,Ai),(1,iV Bh),(2,iV Bk),(3,.func (.func 47) #[] #[]),(8,iV x2),(9,iV x4),(22,.func (.func 47) #[] #[]),(23,Ai),(24,iV x4),(25,.pointer (some ⟨b3,x4.toNat * 5,none⟩)),(26,.agg (An.enc (nth x3 x4)).toArray),(27,Ai),(28,iV x4),(29,iV (W (x4 - 1))),(30,.pointer (some ⟨b4,((W (x4 - 1)).toNat) * 5,none⟩)),(31,.agg (An.enc (nth x3 (W (x4 - 1)))).toArray),(32,iV (Kj (nth x3 x4) (nth x3 (W (x4 - 1))))),(33,bV (decide ((Kj (nth x3 x4) (nth x3 (W (x4 - 1)))) < 0))),(34,bV (decide ((Kj (nth x3 x4) (nth x3 (W (x4 - 1)))) < 0)))] [true] rfl (subR rfl)
        exact Tn (⟨decide ((Kj (nth x3 x4) (nth x3 (W (x4 - 1)))) < 0),h,S.nf [true] rfl (subR rfl)⟩)
       ·replace h:=Sz h hb2
        refine Hx [] ([]) Tryz.mixed S rfl (by kernel_rfl) ?_;clear S;intro w9 hk4 hsel S
        refine Lc [0,1,2,3,4,5,6,7,8,9,10,11,12,13,14,15,16] hsel (by kernel_rfl) rfl ?_
        clear hsel
        refine Gp S rfl (Rm (S.tm rfl)) rfl fun a S=>Gp S rfl (Rm (S.tm rfl)) rfl fun a S=>Gp S rfl (Na (S.tm rfl) (S.tm rfl)) rfl fun a S=>Gp S rfl (Rm (S.tm rfl)) rfl ?_;clear S;intro a S
        iterate 12 (refine Zn S rfl rfl rfl rfl (Ov hb2) rfl ?_ rfl;clear S;intro a S)
        refine Gp S rfl (Ri hb2 (S.tm rfl) rfl) rfl fun a S=>Kz ?_
        replace S:=S.k7 0 1 2 3 8 9 34 rfl
        exact Tn (⟨false,h,S.nf [true] rfl (subR rfl)⟩)
      clear S h;rintro a w5 ⟨x5,h,S⟩;rw [hj3] at h;clear hj3 j3
      refine Tn (Fc h (S.tm rfl) (fun hb3 h=>?_) (fun hb3 h=>?_))
      ·refine wp_skip (Tn (Fs (wp_block ?_)))
       obtain ⟨hc3,h⟩:=Ig h
       obtain ⟨hc4,h⟩:=Ig h
       obtain ⟨hc5,h⟩:=Ig h
       obtain ⟨hc6,h⟩:=Ig h
       refine Hx [15,17] ([]) Tryz.mixed S rfl (by kernel_rfl) ?_;clear S;intro w14 hk9 hsel S
       refine Hs 0 S hsel rfl rfl (by kernel_rfl) (by kernel_rfl) rfl (fun _=>(Rm (S.tm rfl))) fun a S=>Hs 1 S hsel rfl rfl (by kernel_rfl) (by kernel_rfl) rfl (fun _=>(Rm (S.tm rfl))) fun a S=>Hs 2 S hsel rfl rfl (by kernel_rfl) (by kernel_rfl) rfl (fun _=>(Rm (S.tm rfl))) fun a S=>Hs 3 S hsel rfl rfl (by kernel_rfl) (by kernel_rfl) rfl (fun _=>(Rm (S.tm rfl))) fun a S=>Hs 4 S hsel rfl rfl (by kernel_rfl) (by kernel_rfl) rfl (fun _=>(Kw (S.tm rfl) rfl)) fun a S=>Hs 5 S hsel rfl rfl (by kernel_rfl) (by kernel_rfl) rfl (fun _=>(Rm (S.tm rfl))) fun a S=>Hs 6 S hsel rfl rfl (by kernel_rfl) (by kernel_rfl) rfl (fun _=>(Rm (S.tm rfl))) fun a S=>Hs 7 S hsel rfl rfl (by kernel_rfl) (by kernel_rfl) rfl (fun _=>(Kw (S.tm rfl) rfl)) ?_;clear S;intro a S
       obtain ⟨b9,hg9,hr9⟩:=Hn (a:=a) (x:=.tmp 42) (y:=.tmp 44) (ty:=0) Il An.enc_ok S (i:=0) rfl (Ff hc3).1 (Ff hc3).2 (S.tm rfl) (S.tm rfl)
       refine Hs 8 S hsel rfl rfl (by kernel_rfl) (by kernel_rfl) rfl (fun _=>(hr9 _)) ?_;clear S;intro a S
       clear hr9
       refine Fj 9 S hsel rfl (by kernel_rfl) (by kernel_rfl) (by kernel_rfl) (by kernel_rfl) rfl (fun _ hw=>(Ji isAgg41 sizeOf41 (off:=((W (x4 - 1)).toNat) * 5) (o:=0) (part:=(An.enc (nth x3 (W (x4 - 1))))) rfl rfl (S.tm rfl) ((Qa An.enc_ok S (i:=0) rfl hg9 (Ff hc3).1 (Ij (e':=.own Ai 41 5 x3.length (x3.flatMap An.enc)))).kept hw))) fun a S=>Hs 10 S hsel rfl rfl (by kernel_rfl) (by kernel_rfl) rfl (fun _=>(Rm (S.tm rfl))) fun a S=>Hs 11 S hsel rfl rfl (by kernel_rfl) (by kernel_rfl) rfl (fun _=>(Rm (S.tm rfl))) ?_;clear S;intro a S
       obtain ⟨b10,hg10,hr10⟩:=Hn (a:=a) (x:=.tmp 47) (y:=.tmp 48) (ty:=0) Il An.enc_ok S (i:=0) rfl (Ff hc4).1 (Ff hc4).2 (S.tm rfl) (S.tm rfl)
       refine Hs 12 S hsel rfl rfl (by kernel_rfl) (by kernel_rfl) rfl (fun _=>(hr10 _)) ?_;clear S;intro a S
       clear hr10
       refine Fj 13 S hsel rfl (by kernel_rfl) (by kernel_rfl) (by kernel_rfl) (by kernel_rfl) rfl (fun _ hw=>(Ji isAgg41 sizeOf41 (off:=x4.toNat * 5) (o:=0) (part:=(An.enc (nth x3 x4))) rfl rfl (S.tm rfl) ((Qa An.enc_ok S (i:=0) rfl hg10 (Ff hc4).1 (Ij (e':=.own Ai 41 5 x3.length (x3.flatMap An.enc)))).kept hw))) ?_;clear S;intro a S
       obtain ⟨b11,hg11,hr11⟩:=Hn (a:=a) (x:=.tmp 37) (y:=.tmp 38) (ty:=0) Il An.enc_ok S (i:=0) rfl (Ff hc5).1 (Ff hc5).2 (S.tm rfl) (S.tm rfl)
       refine Hs 14 S hsel rfl rfl (by kernel_rfl) (by kernel_rfl) rfl (fun _=>(hr11 _)) ?_;clear S;intro a S
       clear hr11
       refine Uy 15 (Ai.ownBlock.toList) rfl (by kernel_rfl) rfl (Ki (c:=0) (j:=x4.toNat) (nth x3 (W (x4 - 1))) An.enc_ok S (S.tm rfl) (S.tm rfl) (i:=0) rfl hg11 (Ff hc5).1 sizeOf41 (vs:=[sV ((nth x3 (W (x4 - 1))).Key),iV ((nth x3 (W (x4 - 1))).Heats),iV ((nth x3 (W (x4 - 1))).Long),iV ((nth x3 (W (x4 - 1))).Gap),iV ((nth x3 (W (x4 - 1))).Break)]) rfl rfl rfl rfl rfl ?_);clear S;intro w16 hk11 S
       refine Ld (Vc ?_)
       obtain ⟨b12,hg12,hr12⟩:=Hn (a:=a) (x:=.tmp 39) (y:=.tmp 41) (ty:=0) Il An.enc_ok S (i:=0) rfl (Ff hc6).1 (Ff hc6).2 (S.tm rfl) (S.tm rfl)
       refine Fj 16 S hsel rfl rfl rfl (by kernel_rfl) (by kernel_rfl) rfl (fun _ hw=>(hr12 _)) ?_;clear S;intro a S
       clear hr12
       refine Gq 17 (by kernel_rfl) rfl (Ki (c:=0) (j:=(W (x4 - 1)).toNat) (nth x3 x4) An.enc_ok S (S.tm rfl) (S.tm rfl) (i:=0) rfl hg12 (Ff hc6).1 sizeOf41 (vs:=[sV ((nth x3 x4).Key),iV ((nth x3 x4).Heats),iV ((nth x3 x4).Long),iV ((nth x3 x4).Gap),iV ((nth x3 x4).Break)]) rfl rfl rfl rfl rfl ?_);clear S;intro w18 hk13 S
       refine Ld (Hb hk13 (Ss (by kernel_rfl) ?_))
       clear hsel
       replace S:=(S.nl [.own Ai 41 5 ((x3.set x4.toNat (nth x3 (W (x4 - 1)))).set ((W (x4 - 1)).toNat) (nth x3 x4)).length (((x3.set x4.toNat (nth x3 (W (x4 - 1)))).set ((W (x4 - 1)).toNat) (nth x3 x4)).flatMap An.enc)] [true] rfl).k6 0 1 2 3 8 9 rfl
       exact Kb (Tn (Fg (Vm S rfl rfl fun a S=>Vq S Kw rfl rfl rfl fun a S=>Va S rfl rfl fun a S=>Dl (⟨m2,⟨((x3.set x4.toNat (nth x3 (W (x4 - 1)))).set ((W (x4 - 1)).toNat) (nth x3 x4)),W (x4 - 1),h,S.nf [true] rfl ⟨rfl,rfl,rfl,rfl,rfl,rfl,trivial⟩⟩,Nat.lt_succ_self _⟩))))
      ·exact wp_exit (Gk (Gk (Jc (Tn (⟨x3,h,S.nf [true] rfl (subR rfl)⟩)))))
    clear S h;rintro a w4 ⟨x3,h,S⟩;rw [hj2] at h;clear hj2 j2
    exact Kb (Tn (Fg (Vm S rfl rfl fun a S=>Vq S Gx rfl rfl rfl fun a S=>Va S rfl rfl fun a S=>Dl (⟨m1,⟨x3,W (x2 + 1),h,S.nf [true] rfl ⟨rfl,rfl,rfl,rfl,rfl,trivial⟩⟩,Nat.lt_succ_self _⟩))))
   ·exact wp_exit (Gk (Gk (Jc (Tn (⟨x1,h,S.nf [true] rfl trivial⟩)))))
 clear S h;rintro a w2 ⟨x1,h,S⟩;rw [hj1] at h;clear hj1 j1
 obtain rfl:=Option.some.inj h
 exact Tz S results71 ⟨(S.holds _ (List.mem_of_getElem? (i:=0) rfl)),rfl⟩
theorem Nz (w : World) (Ai : Value) (Bi : List An) (Dc : (LEnt.own Ai 41 5 Bi.length (Bi.flatMap An.enc)).holds w) (Bh : Int) (Bk : Int) (Dp : Int) (r : (List An)) (h : Ik Bi Bh Bk Dp = some r) :
    Calls prog 50 [Ai,iV Bh,iV Bk,iV Dp,.func (.func 47) #[] #[]].toArray w (Ret w (Ai.ownBlock.toList) fun _ v w'=>(LEnt.own Ai 41 5 r.length (r.flatMap An.enc)).holds w' ∧ v = .tuple #[]):=by
 refine Lp (Ai.ownBlock.toList) [.own Ai 41 5 Bi.length (Bi.flatMap An.enc)] func50 rfl ntmps50 rfl (fun e he=>by simp only [List.mem_singleton] at he;subst he;exact Dc) (Ml _) (Of _) fun a S=>?_
 unfold Ik at h
 replace S:=(S.nl [.own Ai 41 5 Bi.length (Bi.flatMap An.enc)] [true] rfl).k5 0 1 2 3 4 rfl
 refine Fr (Vk S rfl rfl fun a S=>Dz (Vk S rfl rfl fun a S=>Dl ?_))
 replace S:=S.k6 0 1 2 3 4 10 rfl
 refine Gv (fun a w'=>False) ?_ ?_
 ·refine wp_block (Iv (fun (m1 : Nat) a w'=>∃ x1 : Int,∃ x2 : Int,∃ x3 : Int,∃ x4 : Bool,Ge Bi m1 x1 x2 x3 x4 = some r ∧ Sx w (Ai.ownBlock.toList) nov [.own Ai 41 5 Bi.length (Bi.flatMap An.enc)] [(0,Ai),(1,iV x1),(2,iV x2),(3,iV x3),(4,.func (.func 47) #[] #[]),(10,bV x4)] 148 a w') id 4611686018427387904 ⟨Bh,Bk,Dp,true,h,S.nf [true] rfl (subR rfl)⟩ ?_)
  clear S h;rintro m1 a w1 ⟨x1,x2,x3,x4,h,S⟩
  cases m1 with
  | zero=>rw [Ge.eq_1] at h;cases h
  | succ m1 =>
   rw [Ge.eq_2] at h
   refine wp_block (Fr (Vm S rfl rfl fun a S=>Vm S rfl rfl fun a S=>Vb S Kw rfl rfl rfl fun a S=>Va S rfl rfl fun a S=>Dl (Fs (Fs ?_))))
   refine Fg (Vm S rfl rfl fun a S=>Vq S Uu rfl rfl rfl fun a S=>Dl (Fc h (S.tm rfl) (fun hb1 h=>?_) (fun hb1 h=>?_)))
   ·refine Fs (Fg ?_)
    iterate 4 (refine Vm S rfl rfl ?_;clear S;intro a S)
    obtain ⟨r1,hr1,h⟩:=He h
    refine Rq 0 S rfl (fun _=>.own Ai 41 5 r1.length (r1.flatMap An.enc)) (fun _=>Fa (vs:=[Ai,iV x1,iV x2,.func (.func 47) #[] #[]]) ⟨(S.tm rfl),(S.tm rfl),(S.tm rfl),(S.tm rfl),trivial⟩ call71) (Mt _ Ai Bi (S.holds _ (List.mem_of_getElem? (i:=0) rfl)) x1 x2 _ hr1) rfl (fun _ _ _ h=>⟨h.1,fun _ hc=>hc⟩) ?_;clear S;intro v1 a w3 hv1 hk1 hn1 S
    replace hv1:=hv1.2
    subst hv1
    refine Ld ?_
    replace S:=(S.nl [.own Ai 41 5 r1.length (r1.flatMap An.enc)] [true] rfl).k0
    refine Tn (wp_ret (Fk (Hv (Fk (Hv (Fk ?_))))))
    obtain rfl:=Option.some.inj h
    exact Tz S results50 ⟨(S.holds _ (List.mem_of_getElem? (i:=0) rfl)),rfl⟩
   ·refine wp_skip (Tn (Fs (Fr (Vm S rfl rfl fun a S=>Vq S Px rfl rfl rfl fun a S=>Dl (Fc h (S.tm rfl) (fun hb2 h=>?_) (fun hb2 h=>?_))))))
    ·refine Fs ?_
     cases h
    ·refine wp_skip (Tn (Fs (Fr (Vm S rfl rfl fun a S=>Vu S Mo rfl rfl fun a S=>Ld ?_))))
     replace S:=S.k1 39 rfl
     refine Tn (Fc h (S.tm rfl) (fun hb3 h=>?_) (fun hb3 h=>?_))
     ·refine Fs ?_
      cases h
     ·refine wp_skip (Tn (Fs ?_))
      cases h
 exact fun _ _ h=>h.elim
theorem Ph (w : World) (Cm : Value) (Bl : List An) (Ep : (LEnt.own Cm 41 5 Bl.length (Bl.flatMap An.enc)).holds w) (r : (List An)) (h : Ie Bl = some r) :
    Calls prog 29 [Cm,.func (.func 47) #[] #[]].toArray w (Ret w (Cm.ownBlock.toList) fun _ v w'=>(LEnt.own Cm 41 5 r.length (r.flatMap An.enc)).holds w' ∧ v = .tuple #[]):=by
 refine Lp (Cm.ownBlock.toList) [.own Cm 41 5 Bl.length (Bl.flatMap An.enc)] func29 rfl ntmps29 rfl (fun e he=>by simp only [List.mem_singleton] at he;subst he;exact Ep) (Ml _) (Of _) fun a S=>?_
 unfold Ie at h
 replace S:=(S.nl [.own Cm 41 5 Bl.length (Bl.flatMap An.enc)] [true] rfl).k2 0 1 rfl
 refine Fr (Vm S rfl rfl fun a S=>lv S (Gh Il (S.tm rfl) (Ly (S.own_at (i:=0) rfl))) rfl fun a S=>Va S rfl rfl fun a S=>Dl (Fg ?_))
 iterate 3 (refine Vm S rfl rfl ?_;clear S;intro a S)
 refine Vu S (Uv underlying3 underlying88) rfl rfl ?_;clear S;intro a S
 obtain ⟨r1,hr1,h⟩:=He h
 refine Fo S (fun _=>Fa (vs:=[.int .u64 (IntKind.wrap .u64 (Bl.length : Int))]) ⟨(S.tm rfl),trivial⟩ call51) (Zz _ (IntKind.wrap .u64 (Bl.length : Int)) _ hr1) rfl ?_;clear S;intro v1 a w1 hv1 hk1 hn1 S
 subst hv1
 refine Vm S rfl rfl ?_;clear S;intro a S
 obtain ⟨r2,hr2,h⟩:=He h
 refine Rq 0 S rfl (fun _=>.own Cm 41 5 r2.length (r2.flatMap An.enc)) (fun _=>Fa (vs:=[Cm,iV 0,iV (Bl.length : Int),iV r1,.func (.func 47) #[] #[]]) ⟨(S.tm rfl),rfl,(S.tm rfl),(S.tm rfl),(S.tm rfl),trivial⟩ call50) (Nz _ Cm Bl (S.holds _ (List.mem_of_getElem? (i:=0) rfl)) 0 (Bl.length : Int) r1 _ hr2) rfl (fun _ _ _ h=>⟨h.1,fun _ hc=>hc⟩) ?_;clear S;intro v2 a w2 hv2 hk2 hn2 S
 replace hv2:=hv2.2
 subst hv2
 refine Ld ?_
 obtain rfl:=Option.some.inj h
 exact Tz S results29 ⟨(S.holds _ (List.mem_of_getElem? (i:=0) rfl)),rfl⟩
set_option maxRecDepth 20000 in
theorem Wk (w : World) (O : Nat) (U : Value) (Bc : List Int) (Bd : Slc (view w [O]) 1 U (Bc.map eInt)) (Ao : Int) (Bt : (LEnt.blk O [U,iV Ao] 25).holds w) (Ab : Value) (Ae : List An) (As : Slc (view w [O]) 5 Ab (Ae.map An.enc)) (r : (List Ex) × Int) (h : Oi Bc Ao Ae = some r) :
    Calls prog 23 [.pointer (some ⟨O,0,none⟩),Ab].toArray w (Ret w [O] fun τ v w'=>(LEnt.blk O [U,iV r.2] 25).holds w' ∧ Pk τ 55 3 v r.1.length (r.1.flatMap Ex.enc)):=by
 refine Lp [O] [.blk O [U,iV Ao] 25] func23 rfl ntmps23 rfl (fun e he=>by simp only [List.mem_singleton] at he;subst he;exact Bt) (by simp [fps,LEnt.fp]) (by simp [fps,LEnt.fp]) fun a S=>?_
 unfold Oi at h
 replace S:=(S.nl [.blk O [U,iV Ao] 25] [true] rfl).k2 0 1 rfl
 refine Fr (Vk S rfl rfl fun a S=>Dz (Vk S rfl rfl ?_));clear S;intro a S
 replace S:=S.nil 55 3
 refine Dl (Fs (Fr (Fw S underlying31 sizeOf9 zeroValue9 rfl rfl (pv:=[(0,sV Ng),(1,sV Qv),(2,sV Qw)]) ⟨rfl,rfl,rfl,rfl,rfl,rfl,trivial⟩ (cs:=[sV Ng,sV Qv,sV Qw]) (by kernel_rfl) rfl ?_)));clear S;intro a w1 b1 hz1 hk1 S
 refine lv S (Gh Kv (S.tm rfl) ⟨_,_,rfl⟩) rfl fun a S=>lv S (Rm rfl) rfl fun a S=>Dl ?_
 replace S:=(S.nl [.blk b1 [sV Ng,sV Qv,sV Qw] 9,.own (.slice none 0 0) 55 3 ([] : List Ex).length (([] : List Ex).flatMap Ex.enc),.blk O [U,iV Ao] 25] [true,true,true] rfl).k6 0 1 5 11 12 13 rfl
 replace S:=S.litOwn (i:=0) (xs:=[Ng,Qv,Qw]) rfl Jb rfl rfl rfl
 replace S:=S.nk [.own (.slice (some ⟨b1,0,none⟩) 3 3) 9 1 ([Ng,Qv,Qw] : List ByteArray).length (([Ng,Qv,Qw] : List ByteArray).flatMap Ic),.own (.slice none 0 0) 55 3 ([] : List Ex).length (([] : List Ex).flatMap Ex.enc),.blk O [U,iV Ao] 25] [(0,.pointer (some ⟨O,0,none⟩)),(1,Ab),(5,(.slice none 0 0)),(11,(.slice (some ⟨b1,0,none⟩) 3 3)),(12,iV (([Ng,Qv,Qw] : List ByteArray).length : Int)),(13,iV 0)] [] rfl (subR rfl)
 obtain ⟨φ1,hl1,hs1,S⟩:=S.freezeT (xs:=([Ng,Qv,Qw] : List ByteArray)) (enc:=Ic) (i:=0) rfl (fun c hc hh=>Tu S (i:=2) rfl rfl (j:=0) rfl rfl (by simp at hc;subst hc;exact hh))
 replace S:=S.nk [.own (.slice none 0 0) 55 3 ([] : List Ex).length (([] : List Ex).flatMap Ex.enc),.blk O [U,iV Ao] 25] [(0,.pointer (some ⟨O,0,none⟩)),(1,Ab),(5,(.slice none 0 0)),(11,(.slice (some ⟨b1,0,none⟩) 3 3)),(12,iV (([Ng,Qv,Qw] : List ByteArray).length : Int)),(13,iV 0)] [] rfl (subR rfl)
 obtain ⟨j1,hj1,h⟩:=Ha h
 refine Gv (fun a w'=>∃ x1 : List Ex,∃ x2 : Int,∃ v1 : Value,j1 x1 x2 = some r ∧ Sx w [O] φ1 [.own v1 55 3 x1.length (x1.flatMap Ex.enc),.blk O [U,iV x2] 25] [(5,v1)] 49 a w') ?_ ?_
 ·refine wp_block (Iv (fun (ys1 : List ByteArray) a w'=>∃ i1 : Nat,∃ x1 : List Ex,∃ x2 : Int,∃ v1 : Value,(∃ dn,([Ng,Qv,Qw] : List ByteArray) = dn ++ ys1 ∧ dn.length = i1) ∧ Iw Ae Bc j1 ys1 i1 x1 x2 = some r ∧ Sx w [O] φ1 [.own v1 55 3 x1.length (x1.flatMap Ex.enc),.blk O [U,iV x2] 25] [(0,.pointer (some ⟨O,0,none⟩)),(1,Ab),(5,v1),(11,(.slice (some ⟨b1,0,none⟩) 3 3)),(12,iV (([Ng,Qv,Qw] : List ByteArray).length : Int)),(13,iV (i1 : Int))] 49 a w') List.length ([Ng,Qv,Qw] : List ByteArray) ⟨0,([] : List Ex),Ao,(.slice none 0 0),⟨[],rfl,rfl⟩,h,S.nf [true,true] rfl (subR rfl)⟩ ?_)
  clear S h;rintro ys1 a w2 ⟨i1,x1,x2,v1,⟨dn,hd1,hi1⟩,h,S⟩
  cases ys1 with
  | nil =>
   rw [Iw.eq_1] at h
   refine Fr (Vb S Gb rfl rfl rfl fun a S=>Ld ?_)
   replace S:=S.k7 0 1 5 11 12 13 14 rfl
   exact Tn (Fs (wp_cond_false ((S.tm rfl).trans (congrArg Value.bool (Jr hd1 hi1))) (wp_exit (Gk (Gk (Jc (Tn (⟨x1,x2,v1,h,S.nf [true,true] rfl ⟨rfl,trivial⟩⟩))))))))
  | cons y1 ys1 =>
   rw [Iw.eq_2] at h
   refine Fr (Vb S Gb rfl rfl rfl fun a S=>Ld ?_)
   replace S:=S.k7 0 1 5 11 12 13 14 rfl
   refine Tn (Fs (wp_cond_true ((S.tm rfl).trans (congrArg Value.bool (Ih hd1 hi1))) (wp_skip (Tn (Fs (wp_block (Fs (Fg ?_))))))))
   obtain ⟨b2,o1,hm1,hr1⟩:=Gd (a:=a) (x:=.tmp 11) (y:=.tmp 13) (ty:=0) Kv (Gw Jb hs1) (Jd hd1 hi1) rfl (S.tm rfl) (S.tm rfl)
   refine lv S (hr1 _) rfl ?_;clear S;intro a S
   clear hr1
   refine lv S (Hr isAgg9 (off:=o1) (o:=0) (S.tm rfl) (hm1.at S.emb) rfl) rfl fun a S=>Va S rfl rfl fun a S=>Dz (Vm S rfl rfl ?_);clear S;intro a S
   obtain ⟨r1,hr2,h⟩:=He h
   have hz2:=S.keep.size
   refine Fo S (fun _=>Fa (vs:=[Ab]) ⟨(S.tm rfl),trivial⟩ call28) (On _ Ab Ae (As.mono (S.le_arg Fy)) _ hr2) rfl ?_;clear S;intro v2 a w4 hv1 hk2 hn1 S
   replace S:=S.take hn1 hz2 hv1
   refine Va S rfl rfl fun a S=>Dz (Vm S rfl rfl ?_);clear S;intro a S
   obtain ⟨r2,hr3,h⟩:=He h
   refine Rq 0 S rfl (fun _=>.own v2 41 5 r2.length (r2.flatMap An.enc)) (fun _=>Fa (vs:=[v2,.func (.func 47) #[] #[]]) ⟨(S.tm rfl),rfl,trivial⟩ call29) (Ph _ v2 r1 (S.holds _ (List.mem_of_getElem? (i:=0) rfl)) _ hr3) rfl (fun _ _ _ h=>⟨h.1,fun _ hc=>hc⟩) ?_;clear S;intro v3 a w5 hv2 hk3 hn2 S
   replace hv2:=hv2.2
   subst hv2
   refine Ld ?_
   replace S:=(S.nl [.own v2 41 5 r2.length (r2.flatMap An.enc),.own v1 55 3 x1.length (x1.flatMap Ex.enc),.blk O [U,iV x2] 25] [true,true,true] rfl).k8 0 1 5 7 8 11 12 13 rfl
   refine Tn (Fr (Vm S rfl rfl fun a S=>lv S (Gh Il (S.tm rfl) (Ly (S.own_at (i:=0) rfl))) rfl fun a S=>lv S (Rm rfl) rfl fun a S=>Dl ?_))
   replace S:=S.k10 0 1 5 7 11 12 13 21 22 23 rfl
   have hm2:=Yk (S.own_at (i:=0) rfl)
   obtain ⟨j2,hj2,h⟩:=Ha h
   refine Gv (fun a w'=>∃ x3 : List Ex,∃ x4 : Int,∃ v4 : Value,j2 x3 x4 = some r ∧ Sx w [O] φ1 [.own v2 41 5 r2.length (r2.flatMap An.enc),.own v4 55 3 x3.length (x3.flatMap Ex.enc),.blk O [U,iV x4] 25] [(0,.pointer (some ⟨O,0,none⟩)),(1,Ab),(5,v4),(11,(.slice (some ⟨b1,0,none⟩) 3 3)),(12,iV (([Ng,Qv,Qw] : List ByteArray).length : Int)),(13,iV (i1 : Int))] 49 a w') ?_ ?_
   ·refine wp_block (Iv (fun (ys2 : List An) a w'=>∃ i2 : Nat,∃ x3 : List Ex,∃ x4 : Int,∃ v4 : Value,(∃ dn,r2 = dn ++ ys2 ∧ dn.length = i2) ∧ Jn Bc y1 j2 ys2 i2 x3 x4 = some r ∧ Sx w [O] φ1 [.own v2 41 5 r2.length (r2.flatMap An.enc),.own v4 55 3 x3.length (x3.flatMap Ex.enc),.blk O [U,iV x4] 25] [(0,.pointer (some ⟨O,0,none⟩)),(1,Ab),(5,v4),(7,sV y1),(11,(.slice (some ⟨b1,0,none⟩) 3 3)),(12,iV (([Ng,Qv,Qw] : List ByteArray).length : Int)),(13,iV (i1 : Int)),(21,v2),(22,iV (r2.length : Int)),(23,iV (i2 : Int))] 49 a w') List.length r2 ⟨0,x1,x2,v1,⟨[],rfl,rfl⟩,h,S.nf [true,true,true] rfl (subR rfl)⟩ ?_)
    clear S h;rintro ys2 a w6 ⟨i2,x3,x4,v4,⟨dn,hd2,hi2⟩,h,S⟩
    cases ys2 with
    | nil =>
     rw [Jn.eq_1] at h
     refine Fr (Vb S Gb rfl rfl rfl fun a S=>Ld ?_)
     replace S:=S.k11 0 1 5 7 11 12 13 21 22 23 24 rfl
     exact Tn (Fs (wp_cond_false ((S.tm rfl).trans (congrArg Value.bool (Jr hd2 hi2))) (wp_exit (Gk (Gk (Jc (Tn (⟨x3,x4,v4,h,S.nf [true,true,true] rfl (subR rfl)⟩))))))))
    | cons y2 ys2 =>
     rw [Jn.eq_2] at h
     refine Fr (Vb S Gb rfl rfl rfl fun a S=>Ld ?_)
     replace S:=S.k11 0 1 5 7 11 12 13 21 22 23 24 rfl
     refine Tn (Fs (wp_cond_true ((S.tm rfl).trans (congrArg Value.bool (Ih hd2 hi2))) (wp_skip (Tn (Fs ?_)))))
     obtain ⟨j3,hj3,h⟩:=Ha h
     refine Gv (fun a w'=>∃ x5 : List Ex,∃ x6 : Int,∃ v5 : Value,j3 x5 x6 = some r ∧ Sx w [O] φ1 [.own v2 41 5 r2.length (r2.flatMap An.enc),.own v5 55 3 x5.length (x5.flatMap Ex.enc),.blk O [U,iV x6] 25] [(0,.pointer (some ⟨O,0,none⟩)),(1,Ab),(5,v5),(7,sV y1),(11,(.slice (some ⟨b1,0,none⟩) 3 3)),(12,iV (([Ng,Qv,Qw] : List ByteArray).length : Int)),(13,iV (i1 : Int)),(21,v2),(22,iV (r2.length : Int)),(23,iV (i2 : Int))] 49 a w') ?_ ?_
     ·refine wp_block (Fs (Fg ?_))
      obtain ⟨b3,hg1,hr4⟩:=Hn (a:=a) (x:=.tmp 21) (y:=.tmp 23) (ty:=0) Il An.enc_ok S (i:=0) rfl (Jd hd2 hi2) rfl (S.tm rfl) (S.tm rfl)
      refine lv S (hr4 _) rfl ?_;clear S;intro a S
      clear hr4
      refine lv S (Ji isAgg41 sizeOf41 (off:=i2 * 5) (o:=0) (part:=(An.enc y2)) rfl rfl (S.tm rfl) (Kx An.enc_ok S (i:=0) rfl hg1 (Jd hd2 hi2))) rfl fun a S=>Mw S zeroValue41 (cs:=[sV Ga,iV 0,iV 0,iV 0,iV 0]) rfl rfl ?_;clear S;intro a w9 b4 hz3 hk4 S
      refine Ku S (S.tm rfl) (S.tm rfl) (i:=0) (off:=0) rfl sizeOf41 (vs:=(An.enc y2)) rfl rfl rfl rfl ?_;clear S;intro w10 hk5 S
      refine Dz (Vm S rfl rfl ?_);clear S;intro a S
      obtain ⟨r3,hr5,h⟩:=He h
      refine Hq 3 S (b:=O) rfl rfl (fun _=>.blk O [U,iV r3.2] 25) (fun _=>Fa (vs:=[.pointer (some ⟨O,0,none⟩),iV 2]) ⟨(S.tm rfl),rfl,trivial⟩ call12) (Pf _ O U Bc (Bd.mono (S.le_arg (Fh (i:=3) (e:=.blk O [U,iV x4] 25) rfl))) x4 (S.holds _ (List.mem_of_getElem? (i:=3) rfl)) 2 _ hr5) rfl (fun _ _ _ h=>⟨h.1,fun _ hc=>by cases hc;rfl⟩) ?_;clear S;intro v6 a w11 hv3 hk6 hn3 S
      replace hv3:=hv3.2
      subst hv3
      refine Vm S rfl rfl fun a S=>Lq 4 (fun a w'=>Keep [] w11 w' ∧ Sx w [O] φ1 [.blk b4 (An.enc y2) 41,.own v2 41 5 r2.length (r2.flatMap An.enc),.own v4 55 3 x3.length (x3.flatMap Ex.enc),.blk O [U,iV r3.2] 25] [(0,.pointer (some ⟨O,0,none⟩)),(1,Ab),(5,v4),(7,sV y1),(10,.pointer (some ⟨b4,0,none⟩)),(11,(.slice (some ⟨b1,0,none⟩) 3 3)),(12,iV (([Ng,Qv,Qw] : List ByteArray).length : Int)),(13,iV (i1 : Int)),(21,v2),(22,iV (r2.length : Int)),(23,iV (i2 : Int)),(33,bV (r3.1 && (decide (0 < y2.Heats))))] 49 a w') ?_ ?_
      ·rcases Bool.eq_false_or_eq_true r3.1 with hb1 | hb1
       ·exact Fz S rfl rfl rfl hb1 (Vf Qn S rfl rfl fun a S=>Fz S rfl rfl rfl hb1 (Vl isAgg3 0 S rfl rfl rfl rfl fun a S=>Fz S rfl rfl rfl hb1 (Vq S Na rfl rfl rfl fun a S=>lv S (Nd hb1 (S.tm rfl) (S.tm rfl)) rfl fun a S=>Dl (⟨Keep.refl _ _,S.nf [true,true,true,true] rfl (subR rfl)⟩))))
       ·iterate 3 (refine Kn S rfl rfl rfl (Ov hb1) rfl ?_ rfl;clear S;intro a S)
        exact lv S (Nf (decide (0 < y2.Heats)) hb1 (S.tm rfl) rfl) rfl fun a S=>Dl (⟨Keep.refl _ _,S.nf [true,true,true,true] rfl (subR rfl)⟩)
      clear S;rintro a w12 ⟨hk7,S⟩
      refine Dl ?_
      obtain ⟨j4,hj4,h⟩:=Ha h
      refine Gv (fun a w'=>∃ x7 : List Ex,∃ x8 : Int,∃ v7 : Value,j4 x7 x8 = some r ∧ Sx w [O] φ1 [.own v2 41 5 r2.length (r2.flatMap An.enc),.own v7 55 3 x7.length (x7.flatMap Ex.enc),.blk O [U,iV x8] 25] [(0,.pointer (some ⟨O,0,none⟩)),(1,Ab),(5,v7),(7,sV y1),(11,(.slice (some ⟨b1,0,none⟩) 3 3)),(12,iV (([Ng,Qv,Qw] : List ByteArray).length : Int)),(13,iV (i1 : Int)),(21,v2),(22,iV (r2.length : Int)),(23,iV (i2 : Int))] 49 a w') ?_ ?_
      ·refine Fc h (S.tm rfl) (fun hb2 h=>?_) (fun hb2 h=>?_)
       ·obtain ⟨r4,hr6,h⟩:=He h
        obtain ⟨hc1,h⟩:=Ig h
        refine Hx [] ([O] ++ v4.ownBlock.toList) Tryz.mixed S rfl (by kernel_rfl) ?_;clear S;intro w17 hk11 hsel S
        refine Fj 0 S hsel rfl rfl rfl (by kernel_rfl) (by kernel_rfl) rfl (fun _ hw=>(Rm (S.tm rfl))) fun a S=>Fj 1 S hsel rfl rfl rfl (by kernel_rfl) (by kernel_rfl) rfl (fun _ hw=>(Rm (S.tm rfl))) fun a S=>Fj 2 S hsel rfl rfl rfl (by kernel_rfl) (by kernel_rfl) rfl (fun _ hw=>(Hk Mz (S.tm rfl))) fun a S=>Fj 3 S hsel rfl rfl rfl (by kernel_rfl) (by kernel_rfl) rfl (fun _ hw=>(Hr isAgg9 (off:=0) (o:=0) (S.tm rfl) ((S.blk_mem (i:=0) (cells:=(An.enc y2)) (b:=b4) (T:=41) rfl (Nc (Ke (i:=3) (j:=0) (e:=.blk O [U,iV r3.2] 25) (e':=.blk b4 (An.enc y2) 41) S rfl rfl rfl) (Ke (i:=2) (j:=0) (e:=.own v4 55 3 x3.length (x3.flatMap Ex.enc)) (e':=.blk b4 (An.enc y2) 41) S rfl rfl rfl))).kept hw) rfl)) fun a S=>Fj 4 S hsel rfl rfl rfl (by kernel_rfl) (by kernel_rfl) rfl (fun _ hw=>(Rm (S.tm rfl))) fun a S=>Fj 5 S hsel rfl rfl rfl (by kernel_rfl) (by kernel_rfl) rfl (fun _ hw=>(Hk Qn (S.tm rfl))) fun a S=>Fj 6 S hsel rfl rfl rfl (by kernel_rfl) (by kernel_rfl) rfl (fun _ hw=>(Hr isAgg3 (off:=0) (o:=1) (S.tm rfl) ((S.blk_mem (i:=0) (cells:=(An.enc y2)) (b:=b4) (T:=41) rfl (Nc (Ke (i:=3) (j:=0) (e:=.blk O [U,iV r3.2] 25) (e':=.blk b4 (An.enc y2) 41) S rfl rfl rfl) (Ke (i:=2) (j:=0) (e:=.own v4 55 3 x3.length (x3.flatMap Ex.enc)) (e':=.blk b4 (An.enc y2) 41) S rfl rfl rfl))).kept hw) rfl)) fun a S=>Fj 7 S hsel rfl rfl rfl (by kernel_rfl) (by kernel_rfl) rfl (fun _ hw=>(HT (S.tm rfl) rfl)) fun a S=>Gq 8 (by kernel_rfl) rfl ?_
        refine Hq 3 S (b:=O) rfl rfl (fun _=>.blk O [U,iV r4.2] 25) (fun _=>Fa (vs:=[.pointer (some ⟨O,0,none⟩),iV 1,iV (Zg y2.Heats 3)]) ⟨(S.tm rfl),rfl,(S.tm rfl),trivial⟩ call14) (Ta _ O U Bc (Bd.mono (S.le_arg (Fh (i:=3) (e:=.blk O [U,iV r3.2] 25) rfl))) r3.2 (S.holds _ (List.mem_of_getElem? (i:=3) rfl)) 1 (Zg y2.Heats 3) _ hr6) rfl (fun _ _ _ h=>⟨h.1,fun _ hc=>by cases hc;rfl⟩) ?_;clear S;intro v10 a w18 hv5 hk12 hn5 S
        replace hv5:=hv5.2
        subst hv5
        refine Ld ?_
        refine Hb (hk12.sub (by intro y hy;simp at hy ⊢;simp [hy])) ?_
        refine Fj 9 S hsel rfl rfl rfl (by kernel_rfl) (by kernel_rfl) rfl (fun _ hw=>(Tj bt_55 (pv:=[(0,sV y1),(1,sV y2.Key),(2,iV r4.1)]) ⟨rfl,(S.tm rfl),rfl,(S.tm rfl),rfl,(S.tm rfl),trivial⟩ (cs:=[sV y1,sV y2.Key,iV r4.1]) (by kernel_rfl))) fun a S=>Gq 10 (by kernel_rfl) rfl (Fw S underlying29 sizeOf55 zeroValue55 rfl rfl (pv:=[(0,.agg #[sV y1,sV y2.Key,iV r4.1])]) ⟨rfl,(S.tm rfl),trivial⟩ (cs:=[sV y1,sV y2.Key,iV r4.1]) (by kernel_rfl) rfl ?_);clear S;intro a w19 b6 hz5 hk13 S
        refine Ld (Hb (Keep.none hk13) (Gq 11 (by kernel_rfl) rfl ?_))
        refine Mi Rz Ex.enc_ok S (S.tm rfl) (i:=3) rfl (S.tm rfl) (j:=0) rfl (ys:=[(Ex.mk y1 y2.Key r4.1)]) rfl rfl rfl rfl (by have:=Ky hc1;omega) rfl ?_;clear S;intro v11 a w20 hk14 hf1 S
        refine Ld ?_
        refine Nk ([O] ++ v11.ownBlock.toList) (hk14.sub (by intro y hy;simp at hy ⊢;simp [hy])) (by intro y hy;simp at hy ⊢;exact (hy.elim (fun hy=>(by simp [hy])) (fun hy=>(by rcases hf1 y hy with hy | hy <;> simp [hy])))) ?_
        refine Lc [12] hsel (by kernel_rfl) rfl ?_
        clear hsel
        refine Gp S rfl (Ra (S.tm rfl)) rfl fun a S=>Kz ?_
        replace S:=(S.nl [.own v2 41 5 r2.length (r2.flatMap An.enc),.own v11 55 3 (x3 ++ [(Ex.mk y1 y2.Key r4.1)]).length ((x3 ++ [(Ex.mk y1 y2.Key r4.1)]).flatMap Ex.enc),.blk O [U,iV r4.2] 25] [false,false,true,true,true] rfl).k10 0 1 5 7 11 12 13 21 22 23 rfl
        exact Tn (⟨(x3 ++ [(Ex.mk y1 y2.Key r4.1)]),r4.2,v11,h,S.nf [true,true,true] rfl (subR rfl)⟩)
       ·exact wp_skip (Tn (⟨x3,r3.2,v4,h,S.nf [false,true,true,true] rfl (subR rfl)⟩))
      clear S h;rintro a w13 ⟨x7,x8,v7,h,S⟩;rw [hj4] at h;clear hj4 j4
      exact Kb (Tn (⟨x7,x8,v7,h,S.nf [true,true,true] rfl (subR rfl)⟩))
     clear S h;rintro a w8 ⟨x5,x6,v5,h,S⟩;rw [hj3] at h;clear hj3 j3
     exact Tn (Fg (Vq S Gx rfl rfl rfl fun a S=>Vm S rfl rfl fun a S=>Dl (⟨ys2,⟨i2 + 1,x5,x6,v5,⟨_,(hd2).trans (List.append_cons _ _ _),by simp [hi2]⟩,h,S.nf [true,true,true] rfl ⟨rfl,rfl,rfl,rfl,rfl,rfl,rfl,rfl,rfl,(congrArg (fun z=>some (Value.int .i64 z)) (Ii hd2 hi2 hm2)),trivial⟩⟩,Nat.lt_succ_self _⟩)))
   clear S h;rintro a w7 ⟨x3,x4,v4,h,S⟩;rw [hj2] at h;clear hj2 j2
   exact Kb (Tn (Fg (Vq S Gx rfl rfl rfl fun a S=>Vm S rfl rfl fun a S=>Dl (⟨ys1,⟨i1 + 1,x3,x4,v4,⟨_,(hd1).trans (List.append_cons _ _ _),by simp [hi1]⟩,h,S.nf [false,true,true] rfl ⟨rfl,rfl,rfl,rfl,rfl,(congrArg (fun z=>some (Value.int .i64 z)) (Ii hd1 hi1 (Kl (Gw Jb hs1)))),trivial⟩⟩,Nat.lt_succ_self _⟩))))
 clear S h;rintro a w3 ⟨x1,x2,v1,h,S⟩;rw [hj1] at h;clear hj1 j1
 refine Tn (Fr (Vm S rfl rfl fun a S=>Va S rfl rfl fun a S=>Dl (wp_ret ?_)))
 obtain rfl:=Option.some.inj h
 exact Gm S results23 rfl ⟨(S.holds _ (List.mem_of_getElem? (i:=1) rfl)),(Wd S (i:=0) rfl (fun c hc hh=>Tu S (i:=1) rfl rfl (j:=0) rfl rfl (by simp at hc;subst hc;exact hh)))⟩
theorem AF (w : World) (O : Nat) (U : Value) (Bc : List Int) (Bd : Slc (view w [O]) 1 U (Bc.map eInt)) (Ao : Int) (Bt : (LEnt.blk O [U,iV Ao] 25).holds w) (Ab : Value) (Ae : List An) (As : Slc (view w [O]) 5 Ab (Ae.map An.enc)) (r : (List Ex) × Int) (h : Rs Bc Ao Ae = some r) :
    Calls prog 6 [.pointer (some ⟨O,0,none⟩),Ab].toArray w (Ret w [O] fun τ v w'=>(LEnt.blk O [U,iV r.2] 25).holds w' ∧ Pk τ 55 3 v r.1.length (r.1.flatMap Ex.enc)):=by
 refine Lp [O] [.blk O [U,iV Ao] 25] func6 rfl ntmps6 rfl (fun e he=>by simp only [List.mem_singleton] at he;subst he;exact Bt) (by simp [fps,LEnt.fp]) (by simp [fps,LEnt.fp]) fun a S=>?_
 unfold Rs at h
 replace S:=(S.nl [.blk O [U,iV Ao] 25] [true] rfl).k2 0 1 rfl
 refine Fr (Vk S rfl rfl fun a S=>Dz (Vm S rfl rfl fun a S=>Vm S rfl rfl ?_));clear S;intro a S
 obtain ⟨r1,hr1,h⟩:=He h
 have hz1:=S.keep.size
 refine Hq 0 S (b:=O) rfl rfl (fun _=>.blk O [U,iV r1.2] 25) (fun _=>Fa (vs:=[.pointer (some ⟨O,0,none⟩),Ab]) ⟨(S.tm rfl),(S.tm rfl),trivial⟩ call23) (Wk _ O U Bc (Bd.mono (S.le_arg (Fh (i:=0) (e:=.blk O [U,iV Ao] 25) rfl))) Ao (S.holds _ (List.mem_of_getElem? (i:=0) rfl)) Ab Ae (As.mono (S.le_arg (Fh (i:=0) (e:=.blk O [U,iV Ao] 25) rfl))) _ hr1) rfl (fun _ _ _ h=>⟨h.1,fun _ hc=>by cases hc;rfl⟩) ?_;clear S;intro v1 a w1 hv1 hk1 hn1 S
 replace hv1:=hv1.2
 replace S:=S.take hn1 hz1 hv1
 refine Va S rfl rfl fun a S=>Dl (Fs (Fr (Vm S rfl rfl fun a S=>lv S (Gh Rz (S.tm rfl) (Ly (S.own_at (i:=0) rfl))) rfl fun a S=>Vq S Na rfl rfl rfl fun a S=>Vm S rfl rfl ?_)));clear S;intro a S
 obtain ⟨j1,hj1,h⟩:=Ha h
 refine Lq 3 (fun a w'=>∃ x1 : Int,∃ x2 : Bool,j1 x1 x2 = some r ∧ Sx w [O] nov [.own v1 55 3 r1.1.length (r1.1.flatMap Ex.enc),.blk O [U,iV x1] 25] [(0,.pointer (some ⟨O,0,none⟩)),(5,v1),(16,bV x2)] 49 a w') ?_ ?_
 ·rcases Bool.eq_false_or_eq_true (decide (0 < (r1.1.length : Int))) with hb1 | hb1
  ·replace h:=Sy h hb1
   refine Fz S rfl rfl rfl hb1 (Vm S rfl rfl fun a S=>Fz S rfl rfl rfl hb1 ?_)
   obtain ⟨r2,hr2,h⟩:=He h
   refine Hq 1 S (b:=O) rfl rfl (fun _=>.blk O [U,iV r2.2] 25) (fun _=>Fa (vs:=[.pointer (some ⟨O,0,none⟩),iV 12]) ⟨(S.tm rfl),rfl,trivial⟩ call12) (Pf _ O U Bc (Bd.mono (S.le_arg (Fh (i:=1) (e:=.blk O [U,iV r1.2] 25) rfl))) r1.2 (S.holds _ (List.mem_of_getElem? (i:=1) rfl)) 12 _ hr2) rfl (fun _ _ _ h=>⟨h.1,fun _ hc=>by cases hc;rfl⟩) ?_;clear S;intro v2 a w3 hv2 hk2 hn2 S
   replace hv2:=hv2.2
   subst hv2
   exact lv S (Rh hb1 (S.tm rfl) (S.tm rfl)) rfl fun a S=>Dl (⟨r2.2,r2.1,h,S.nf [true,true] rfl (subR rfl)⟩)
  ·replace h:=Sz h hb1
   exact Kn S rfl rfl rfl (Ov hb1) rfl (fun a S=>Kn S rfl rfl rfl (Ov hb1) rfl (fun a S=>Vq S (Ri hb1) rfl rfl rfl fun a S=>Dl (⟨r1.2,false,h,S.nf [true,true] rfl (subR rfl)⟩)) rfl) rfl
 clear S h;rintro a w2 ⟨x1,x2,h,S⟩;rw [hj1] at h;clear hj1 j1
 refine Dl ?_
 obtain ⟨j2,hj2,h⟩:=Ha h
 refine Gv (fun a w'=>∃ x3 : List Ex,∃ x4 : Int,j2 x3 x4 = some r ∧ Sx w [O] nov [.own v1 55 3 x3.length (x3.flatMap Ex.enc),.blk O [U,iV x4] 25] [(5,v1)] 49 a w') ?_ ?_
 ·refine Fc h (S.tm rfl) (fun hb2 h=>?_) (fun hb2 h=>?_)
  ·refine Fs (Fg ?_)
   iterate 3 (refine Vm S rfl rfl ?_;clear S;intro a S)
   refine lv S (Gh Rz (S.tm rfl) (Ly (S.own_at (i:=0) rfl))) rfl ?_;clear S;intro a S
   obtain ⟨r3,hr3,h⟩:=He h
   refine Hq 1 S (b:=O) rfl rfl (fun _=>.blk O [U,iV r3.2] 25) (fun _=>Fa (vs:=[.pointer (some ⟨O,0,none⟩),iV (r1.1.length : Int)]) ⟨(S.tm rfl),(S.tm rfl),trivial⟩ call21) (Ny _ O U Bc (Bd.mono (S.le_arg (Fh (i:=1) (e:=.blk O [U,iV x1] 25) rfl))) x1 (S.holds _ (List.mem_of_getElem? (i:=1) rfl)) (r1.1.length : Int) _ hr3) rfl (fun _ _ _ h=>⟨h.1,fun _ hc=>by cases hc;rfl⟩) ?_;clear S;intro v3 a w5 hv3 hk3 hn3 S
   replace hv3:=hv3.2
   subst hv3
   obtain ⟨hc1,h⟩:=Ig h
   obtain ⟨b1,hg1,hr4⟩:=Hn (a:=a) (x:=.tmp 17) (y:=.tmp 21) (ty:=0) Rz Ex.enc_ok S (i:=0) rfl (Ff hc1).1 (Ff hc1).2 (S.tm rfl) (S.tm rfl)
   refine lv S (hr4 _) rfl ?_;clear S;intro a S
   clear hr4
   refine Va S rfl rfl fun a S=>Dl ?_
   obtain ⟨j3,hj3,h⟩:=Ha h
   refine Gv (fun a w'=>∃ x5 : List Ex,∃ x6 : Int,j3 x5 x6 = some r ∧ Sx w [O] nov [.own v1 55 3 x5.length (x5.flatMap Ex.enc),.blk O [U,iV x6] 25] [(5,v1)] 49 a w') ?_ ?_
   ·obtain ⟨r4,hr5,h⟩:=He h
    obtain ⟨r5,hr6,h⟩:=He h
    obtain ⟨r6,hr7,h⟩:=He h
    refine Hx [21,24,27] ([O]) Tryz.mixed S rfl (by kernel_rfl) ?_;clear S;intro w18 hk15 hsel S
    refine Hs 0 S hsel rfl rfl (by kernel_rfl) (by kernel_rfl) rfl (fun _=>(Rm (S.tm rfl))) fun a S=>Hs 1 S hsel rfl rfl (by kernel_rfl) (by kernel_rfl) rfl (fun _=>(Rm (S.tm rfl))) fun a S=>Hs 2 S hsel rfl rfl (by kernel_rfl) (by kernel_rfl) rfl (fun _=>(Rm (S.tm rfl))) fun a S=>Hs 3 S hsel rfl rfl (by kernel_rfl) (by kernel_rfl) rfl (fun _=>(Rm (S.tm rfl))) fun a S=>Hs 4 S hsel rfl rfl (by kernel_rfl) (by kernel_rfl) rfl (fun _=>(Rm (S.tm rfl))) fun a S=>Hs 5 S hsel rfl rfl (by kernel_rfl) (by kernel_rfl) rfl (fun _=>(Fv (S.tm rfl))) fun a S=>Hs 6 S hsel rfl rfl (by kernel_rfl) (by kernel_rfl) rfl (fun _=>(Hk Qo (S.tm rfl))) fun a S=>Fj 7 S hsel rfl (by kernel_rfl) (by kernel_rfl) (by kernel_rfl) (by kernel_rfl) rfl (fun _ hw=>(Hr isAgg9 (off:=r3.1.toNat * 3) (o:=0) (S.tm rfl) ((Qa Ex.enc_ok S (i:=0) rfl hg1 (Ff hc1).1 (Ke (i:=1) (j:=0) (e:=.blk O [U,iV r3.2] 25) (e':=.own v1 55 3 r1.1.length (r1.1.flatMap Ex.enc)) S rfl rfl rfl)).kept hw) rfl)) fun a S=>Hs 10 S hsel rfl rfl (by kernel_rfl) (by kernel_rfl) rfl (fun _=>(Rm (S.tm rfl))) fun a S=>Hs 11 S hsel rfl rfl (by kernel_rfl) (by kernel_rfl) rfl (fun _=>(Rm (S.tm rfl))) fun a S=>Hs 12 S hsel rfl rfl (by kernel_rfl) (by kernel_rfl) rfl (fun _=>(Fv (S.tm rfl))) ?_;clear S;intro a S
    refine Hs 13 S hsel rfl rfl (by kernel_rfl) (by kernel_rfl) rfl (fun _=>(Hk Sb (S.tm rfl))) fun a S=>Fj 14 S hsel rfl (by kernel_rfl) (by kernel_rfl) (by kernel_rfl) (by kernel_rfl) rfl (fun _ hw=>(Hr isAgg9 (off:=r3.1.toNat * 3) (o:=1) (S.tm rfl) ((Qa Ex.enc_ok S (i:=0) rfl hg1 (Ff hc1).1 (Ke (i:=1) (j:=0) (e:=.blk O [U,iV r3.2] 25) (e':=.own v1 55 3 r1.1.length (r1.1.flatMap Ex.enc)) S rfl rfl rfl)).kept hw) rfl)) fun a S=>Hs 17 S hsel rfl rfl (by kernel_rfl) (by kernel_rfl) rfl (fun _=>(Rm (S.tm rfl))) fun a S=>Tv 8 15 (by kernel_rfl) rfl rfl ?_ ?_
    ·refine Fw S underlying31 sizeOf9 zeroValue9 rfl rfl (pv:=[(0,sV ((nth r1.1 r3.1).Who)),(1,sV Ga),(2,sV Ng)]) ⟨rfl,(S.tm rfl),rfl,rfl,rfl,rfl,trivial⟩ (cs:=[sV ((nth r1.1 r3.1).Who),sV Ga,sV Ng]) (by kernel_rfl) rfl ?_;clear S;intro a w19 b4 hz4 hk16 S
     refine Ld (Hb (Keep.none hk16) (Tv 9 15 (by kernel_rfl) rfl rfl ?_ ?_))
     ·refine Hq 2 S (b:=O) rfl rfl (fun _=>.blk O [U,iV r4.2] 25) (fun _=>Fa (vs:=[.pointer (some ⟨O,0,none⟩),.slice (some ⟨b4,0,none⟩) 3 3]) ⟨(S.tm rfl),(S.tm rfl),trivial⟩ call13) (Ms _ O U Bc (Bd.mono (S.le_arg (Fh (i:=2) (e:=.blk O [U,iV r3.2] 25) rfl))) r3.2 (S.holds _ (List.mem_of_getElem? (i:=2) rfl)) (.slice (some ⟨b4,0,none⟩) 3 3) [(nth r1.1 r3.1).Who,Ga,Ng] (Lz Jb S (i:=0) rfl rfl rfl rfl ((Ke (i:=2) (j:=0) (e:=.blk O [U,iV r3.2] 25) (e':=.blk b4 [sV ((nth r1.1 r3.1).Who),sV Ga,sV Ng] 9) S rfl rfl rfl) _ rfl)) _ hr5) rfl (fun _ _ _ h=>⟨h.1,fun _ hc=>by cases hc;rfl⟩) ?_;clear S;intro v7 a w20 hv7 hk17 hn7 S
      replace hv7:=hv7.2
      subst hv7
      refine Ld (Hb hk17 (Gq 15 (by kernel_rfl) rfl (Fw S underlying31 sizeOf9 zeroValue9 rfl rfl (pv:=[(0,sV ((nth r1.1 r3.1).Item)),(1,sV Ua)]) ⟨rfl,(S.tm rfl),rfl,rfl,trivial⟩ (cs:=[sV ((nth r1.1 r3.1).Item),sV Ua]) (by kernel_rfl) rfl ?_)));clear S;intro a w21 b5 hz5 hk18 S
      refine Ld (Hb (Keep.none hk18) (Gq 16 (by kernel_rfl) rfl ?_))
      refine Hq 3 S (b:=O) rfl rfl (fun _=>.blk O [U,iV r5.2] 25) (fun _=>Fa (vs:=[.pointer (some ⟨O,0,none⟩),.slice (some ⟨b5,0,none⟩) 2 2]) ⟨(S.tm rfl),(S.tm rfl),trivial⟩ call13) (Ms _ O U Bc (Bd.mono (S.le_arg (Fh (i:=3) (e:=.blk O [U,iV r4.2] 25) rfl))) r4.2 (S.holds _ (List.mem_of_getElem? (i:=3) rfl)) (.slice (some ⟨b5,0,none⟩) 2 2) [(nth r1.1 r3.1).Item,Ua] (Lz Jb S (i:=0) rfl rfl rfl rfl ((Ke (i:=3) (j:=0) (e:=.blk O [U,iV r4.2] 25) (e':=.blk b5 [sV ((nth r1.1 r3.1).Item),sV Ua] 9) S rfl rfl rfl) _ rfl)) _ hr6) rfl (fun _ _ _ h=>⟨h.1,fun _ hc=>by cases hc;rfl⟩) ?_;clear S;intro v8 a w22 hv8 hk19 hn8 S
      replace hv8:=hv8.2
      subst hv8
      refine Ld (Hb hk19 (Gq 18 (by kernel_rfl) rfl ?_))
      refine Hq 3 S (b:=O) rfl rfl (fun _=>.blk O [U,iV r6.2] 25) (fun _=>Fa (vs:=[.pointer (some ⟨O,0,none⟩),iV 1,iV 3]) ⟨(S.tm rfl),rfl,rfl,trivial⟩ call22) (Ot _ O U Bc (Bd.mono (S.le_arg (Fh (i:=3) (e:=.blk O [U,iV r5.2] 25) rfl))) r5.2 (S.holds _ (List.mem_of_getElem? (i:=3) rfl)) 1 3 _ hr7) rfl (fun _ _ _ h=>⟨h.1,fun _ hc=>by cases hc;rfl⟩) ?_;clear S;intro v9 a w23 hv9 hk20 hn9 S
      replace hv9:=hv9.2
      subst hv9
      refine Ld (Hb hk20 (Hs 19 S hsel rfl rfl (by kernel_rfl) (by kernel_rfl) rfl (fun _=>(Fv (S.tm rfl))) fun a S=>Hs 20 S hsel rfl rfl (by kernel_rfl) (by kernel_rfl) rfl (fun _=>(Hk Qo (S.tm rfl))) fun a S=>Uy 21 ([O] ++ v1.ownBlock.toList) rfl (by kernel_rfl) rfl (Ki (c:=0) (j:=r3.1.toNat) (Ex.mk r4.1 ((nth r1.1 r3.1).Item) ((nth r1.1 r3.1).Heat)) Ex.enc_ok S (S.tm rfl) (S.tm rfl) (i:=2) rfl hg1 (Ff hc1).1 sizeOf9 (vs:=[sV r4.1]) rfl rfl rfl rfl rfl ?_)));clear S;intro w25 hk22 S
      refine Ld (Vc (Fj 22 S hsel rfl rfl rfl (by kernel_rfl) (by kernel_rfl) rfl (fun _ hw=>(Fv (S.tm rfl))) fun a S=>Fj 23 S hsel rfl rfl rfl (by kernel_rfl) (by kernel_rfl) rfl (fun _ hw=>(Hk Sb (S.tm rfl))) fun a S=>Gq 24 (by kernel_rfl) rfl (Ki (c:=1) (j:=r3.1.toNat) (Ex.mk r4.1 r5.1 ((nth r1.1 r3.1).Heat)) Ex.enc_ok S (S.tm rfl) (S.tm rfl) (i:=2) rfl hg1 (Me (Ff hc1).1) sizeOf9 (vs:=[sV r5.1]) rfl rfl rfl rfl rfl ?_)));clear S;intro w27 hk24 S
      refine Ld ?_
      refine Hb (hk24.sub (by intro y hy;simp at hy ⊢;simp [hy])) ?_
      refine Fj 25 S hsel rfl rfl rfl (by kernel_rfl) (by kernel_rfl) rfl (fun _ hw=>(Fv (S.tm rfl))) fun a S=>Fj 26 S hsel rfl rfl rfl (by kernel_rfl) (by kernel_rfl) rfl (fun _ hw=>(Hk Qp (S.tm rfl))) fun a S=>Gq 27 (by kernel_rfl) rfl (Ki (c:=2) (j:=r3.1.toNat) (Ex.mk r4.1 r5.1 r6.1) Ex.enc_ok S (S.tm rfl) (S.tm rfl) (i:=2) rfl hg1 (Me (Me (Ff hc1).1)) sizeOf3 (vs:=[iV r6.1]) rfl rfl rfl rfl rfl ?_);clear S;intro w29 hk26 S
      refine Ld ?_
      refine Hb (hk26.sub (by intro y hy;simp at hy ⊢;simp [hy])) ?_
      refine Ss (by kernel_rfl) ?_
      clear hsel
      replace S:=(S.nl [.own v1 55 3 (((r1.1.set r3.1.toNat (Ex.mk r4.1 ((nth r1.1 r3.1).Item) ((nth r1.1 r3.1).Heat))).set r3.1.toNat (Ex.mk r4.1 r5.1 ((nth r1.1 r3.1).Heat))).set r3.1.toNat (Ex.mk r4.1 r5.1 r6.1)).length ((((r1.1.set r3.1.toNat (Ex.mk r4.1 ((nth r1.1 r3.1).Item) ((nth r1.1 r3.1).Heat))).set r3.1.toNat (Ex.mk r4.1 r5.1 ((nth r1.1 r3.1).Heat))).set r3.1.toNat (Ex.mk r4.1 r5.1 r6.1)).flatMap Ex.enc),.blk O [U,iV r6.2] 25] [false,false,true,true] rfl).k1 5 rfl
      exact Tn (⟨(((r1.1.set r3.1.toNat (Ex.mk r4.1 ((nth r1.1 r3.1).Item) ((nth r1.1 r3.1).Heat))).set r3.1.toNat (Ex.mk r4.1 r5.1 ((nth r1.1 r3.1).Heat))).set r3.1.toNat (Ex.mk r4.1 r5.1 r6.1)),r6.2,h,S.nf [true,true] rfl ⟨rfl,trivial⟩⟩)
     ·refine Fw S underlying31 sizeOf9 zeroValue9 rfl rfl (pv:=[(0,sV ((nth r1.1 r3.1).Item)),(1,sV Ua)]) ⟨rfl,(S.tm rfl),rfl,rfl,trivial⟩ (cs:=[sV ((nth r1.1 r3.1).Item),sV Ua]) (by kernel_rfl) rfl ?_;clear S;intro a w30 b6 hz6 hk27 S
      refine Ld (Hb (Keep.none hk27) (Gq 9 (by kernel_rfl) rfl ?_))
      refine Hq 3 S (b:=O) rfl rfl (fun _=>.blk O [U,iV r4.2] 25) (fun _=>Fa (vs:=[.pointer (some ⟨O,0,none⟩),.slice (some ⟨b4,0,none⟩) 3 3]) ⟨(S.tm rfl),(S.tm rfl),trivial⟩ call13) (Ms _ O U Bc (Bd.mono (S.le_arg (Fh (i:=3) (e:=.blk O [U,iV r3.2] 25) rfl))) r3.2 (S.holds _ (List.mem_of_getElem? (i:=3) rfl)) (.slice (some ⟨b4,0,none⟩) 3 3) [(nth r1.1 r3.1).Who,Ga,Ng] (Lz Jb S (i:=1) rfl rfl rfl rfl ((Ke (i:=3) (j:=1) (e:=.blk O [U,iV r3.2] 25) (e':=.blk b4 [sV ((nth r1.1 r3.1).Who),sV Ga,sV Ng] 9) S rfl rfl rfl) _ rfl)) _ hr5) rfl (fun _ _ _ h=>⟨h.1,fun _ hc=>by cases hc;rfl⟩) ?_;clear S;intro v10 a w31 hv10 hk28 hn10 S
      replace hv10:=hv10.2
      subst hv10
      refine Ld (Hb hk28 (Gq 16 (by kernel_rfl) rfl ?_))
      refine Hq 3 S (b:=O) rfl rfl (fun _=>.blk O [U,iV r5.2] 25) (fun _=>Fa (vs:=[.pointer (some ⟨O,0,none⟩),.slice (some ⟨b6,0,none⟩) 2 2]) ⟨(S.tm rfl),(S.tm rfl),trivial⟩ call13) (Ms _ O U Bc (Bd.mono (S.le_arg (Fh (i:=3) (e:=.blk O [U,iV r4.2] 25) rfl))) r4.2 (S.holds _ (List.mem_of_getElem? (i:=3) rfl)) (.slice (some ⟨b6,0,none⟩) 2 2) [(nth r1.1 r3.1).Item,Ua] (Lz Jb S (i:=0) rfl rfl rfl rfl ((Ke (i:=3) (j:=0) (e:=.blk O [U,iV r4.2] 25) (e':=.blk b6 [sV ((nth r1.1 r3.1).Item),sV Ua] 9) S rfl rfl rfl) _ rfl)) _ hr6) rfl (fun _ _ _ h=>⟨h.1,fun _ hc=>by cases hc;rfl⟩) ?_;clear S;intro v11 a w32 hv11 hk29 hn11 S
      replace hv11:=hv11.2
      subst hv11
      refine Ld (Hb hk29 (Gq 18 (by kernel_rfl) rfl ?_))
      refine Hq 3 S (b:=O) rfl rfl (fun _=>.blk O [U,iV r6.2] 25) (fun _=>Fa (vs:=[.pointer (some ⟨O,0,none⟩),iV 1,iV 3]) ⟨(S.tm rfl),rfl,rfl,trivial⟩ call22) (Ot _ O U Bc (Bd.mono (S.le_arg (Fh (i:=3) (e:=.blk O [U,iV r5.2] 25) rfl))) r5.2 (S.holds _ (List.mem_of_getElem? (i:=3) rfl)) 1 3 _ hr7) rfl (fun _ _ _ h=>⟨h.1,fun _ hc=>by cases hc;rfl⟩) ?_;clear S;intro v12 a w33 hv12 hk30 hn12 S
      replace hv12:=hv12.2
      subst hv12
      refine Ld (Hb hk30 (Hs 19 S hsel rfl rfl (by kernel_rfl) (by kernel_rfl) rfl (fun _=>(Fv (S.tm rfl))) fun a S=>Hs 20 S hsel rfl rfl (by kernel_rfl) (by kernel_rfl) rfl (fun _=>(Hk Qo (S.tm rfl))) fun a S=>Uy 21 ([O] ++ v1.ownBlock.toList) rfl (by kernel_rfl) rfl (Ki (c:=0) (j:=r3.1.toNat) (Ex.mk r4.1 ((nth r1.1 r3.1).Item) ((nth r1.1 r3.1).Heat)) Ex.enc_ok S (S.tm rfl) (S.tm rfl) (i:=2) rfl hg1 (Ff hc1).1 sizeOf9 (vs:=[sV r4.1]) rfl rfl rfl rfl rfl ?_)));clear S;intro w35 hk32 S
      refine Ld (Vc (Fj 22 S hsel rfl rfl rfl (by kernel_rfl) (by kernel_rfl) rfl (fun _ hw=>(Fv (S.tm rfl))) fun a S=>Fj 23 S hsel rfl rfl rfl (by kernel_rfl) (by kernel_rfl) rfl (fun _ hw=>(Hk Sb (S.tm rfl))) fun a S=>Gq 24 (by kernel_rfl) rfl (Ki (c:=1) (j:=r3.1.toNat) (Ex.mk r4.1 r5.1 ((nth r1.1 r3.1).Heat)) Ex.enc_ok S (S.tm rfl) (S.tm rfl) (i:=2) rfl hg1 (Me (Ff hc1).1) sizeOf9 (vs:=[sV r5.1]) rfl rfl rfl rfl rfl ?_)));clear S;intro w37 hk34 S
      refine Ld ?_
      refine Hb (hk34.sub (by intro y hy;simp at hy ⊢;simp [hy])) ?_
      refine Fj 25 S hsel rfl rfl rfl (by kernel_rfl) (by kernel_rfl) rfl (fun _ hw=>(Fv (S.tm rfl))) fun a S=>Fj 26 S hsel rfl rfl rfl (by kernel_rfl) (by kernel_rfl) rfl (fun _ hw=>(Hk Qp (S.tm rfl))) fun a S=>Gq 27 (by kernel_rfl) rfl (Ki (c:=2) (j:=r3.1.toNat) (Ex.mk r4.1 r5.1 r6.1) Ex.enc_ok S (S.tm rfl) (S.tm rfl) (i:=2) rfl hg1 (Me (Me (Ff hc1).1)) sizeOf3 (vs:=[iV r6.1]) rfl rfl rfl rfl rfl ?_);clear S;intro w39 hk36 S
      refine Ld ?_
      refine Hb (hk36.sub (by intro y hy;simp at hy ⊢;simp [hy])) ?_
      refine Ss (by kernel_rfl) ?_
      clear hsel
      replace S:=(S.nl [.own v1 55 3 (((r1.1.set r3.1.toNat (Ex.mk r4.1 ((nth r1.1 r3.1).Item) ((nth r1.1 r3.1).Heat))).set r3.1.toNat (Ex.mk r4.1 r5.1 ((nth r1.1 r3.1).Heat))).set r3.1.toNat (Ex.mk r4.1 r5.1 r6.1)).length ((((r1.1.set r3.1.toNat (Ex.mk r4.1 ((nth r1.1 r3.1).Item) ((nth r1.1 r3.1).Heat))).set r3.1.toNat (Ex.mk r4.1 r5.1 ((nth r1.1 r3.1).Heat))).set r3.1.toNat (Ex.mk r4.1 r5.1 r6.1)).flatMap Ex.enc),.blk O [U,iV r6.2] 25] [false,false,true,true] rfl).k1 5 rfl
      exact Tn (⟨(((r1.1.set r3.1.toNat (Ex.mk r4.1 ((nth r1.1 r3.1).Item) ((nth r1.1 r3.1).Heat))).set r3.1.toNat (Ex.mk r4.1 r5.1 ((nth r1.1 r3.1).Heat))).set r3.1.toNat (Ex.mk r4.1 r5.1 r6.1)),r6.2,h,S.nf [true,true] rfl ⟨rfl,trivial⟩⟩)
    ·refine Fw S underlying31 sizeOf9 zeroValue9 rfl rfl (pv:=[(0,sV ((nth r1.1 r3.1).Item)),(1,sV Ua)]) ⟨rfl,(S.tm rfl),rfl,rfl,trivial⟩ (cs:=[sV ((nth r1.1 r3.1).Item),sV Ua]) (by kernel_rfl) rfl ?_;clear S;intro a w40 b7 hz7 hk37 S
     refine Ld (Hb (Keep.none hk37) (Gq 8 (by kernel_rfl) rfl (Fw S underlying31 sizeOf9 zeroValue9 rfl rfl (pv:=[(0,sV ((nth r1.1 r3.1).Who)),(1,sV Ga),(2,sV Ng)]) ⟨rfl,(S.tm rfl),rfl,rfl,rfl,rfl,trivial⟩ (cs:=[sV ((nth r1.1 r3.1).Who),sV Ga,sV Ng]) (by kernel_rfl) rfl ?_)));clear S;intro a w41 b8 hz8 hk38 S
     refine Ld (Hb (Keep.none hk38) (Gq 9 (by kernel_rfl) rfl ?_))
     refine Hq 3 S (b:=O) rfl rfl (fun _=>.blk O [U,iV r4.2] 25) (fun _=>Fa (vs:=[.pointer (some ⟨O,0,none⟩),.slice (some ⟨b8,0,none⟩) 3 3]) ⟨(S.tm rfl),(S.tm rfl),trivial⟩ call13) (Ms _ O U Bc (Bd.mono (S.le_arg (Fh (i:=3) (e:=.blk O [U,iV r3.2] 25) rfl))) r3.2 (S.holds _ (List.mem_of_getElem? (i:=3) rfl)) (.slice (some ⟨b8,0,none⟩) 3 3) [(nth r1.1 r3.1).Who,Ga,Ng] (Lz Jb S (i:=0) rfl rfl rfl rfl ((Ke (i:=3) (j:=0) (e:=.blk O [U,iV r3.2] 25) (e':=.blk b8 [sV ((nth r1.1 r3.1).Who),sV Ga,sV Ng] 9) S rfl rfl rfl) _ rfl)) _ hr5) rfl (fun _ _ _ h=>⟨h.1,fun _ hc=>by cases hc;rfl⟩) ?_;clear S;intro v13 a w42 hv13 hk39 hn13 S
     replace hv13:=hv13.2
     subst hv13
     refine Ld (Hb hk39 (Gq 16 (by kernel_rfl) rfl ?_))
     refine Hq 3 S (b:=O) rfl rfl (fun _=>.blk O [U,iV r5.2] 25) (fun _=>Fa (vs:=[.pointer (some ⟨O,0,none⟩),.slice (some ⟨b7,0,none⟩) 2 2]) ⟨(S.tm rfl),(S.tm rfl),trivial⟩ call13) (Ms _ O U Bc (Bd.mono (S.le_arg (Fh (i:=3) (e:=.blk O [U,iV r4.2] 25) rfl))) r4.2 (S.holds _ (List.mem_of_getElem? (i:=3) rfl)) (.slice (some ⟨b7,0,none⟩) 2 2) [(nth r1.1 r3.1).Item,Ua] (Lz Jb S (i:=1) rfl rfl rfl rfl ((Ke (i:=3) (j:=1) (e:=.blk O [U,iV r4.2] 25) (e':=.blk b7 [sV ((nth r1.1 r3.1).Item),sV Ua] 9) S rfl rfl rfl) _ rfl)) _ hr6) rfl (fun _ _ _ h=>⟨h.1,fun _ hc=>by cases hc;rfl⟩) ?_;clear S;intro v14 a w43 hv14 hk40 hn14 S
     replace hv14:=hv14.2
     subst hv14
     refine Ld (Hb hk40 (Gq 18 (by kernel_rfl) rfl ?_))
     refine Hq 3 S (b:=O) rfl rfl (fun _=>.blk O [U,iV r6.2] 25) (fun _=>Fa (vs:=[.pointer (some ⟨O,0,none⟩),iV 1,iV 3]) ⟨(S.tm rfl),rfl,rfl,trivial⟩ call22) (Ot _ O U Bc (Bd.mono (S.le_arg (Fh (i:=3) (e:=.blk O [U,iV r5.2] 25) rfl))) r5.2 (S.holds _ (List.mem_of_getElem? (i:=3) rfl)) 1 3 _ hr7) rfl (fun _ _ _ h=>⟨h.1,fun _ hc=>by cases hc;rfl⟩) ?_;clear S;intro v15 a w44 hv15 hk41 hn15 S
     replace hv15:=hv15.2
     subst hv15
     refine Ld (Hb hk41 (Hs 19 S hsel rfl rfl (by kernel_rfl) (by kernel_rfl) rfl (fun _=>(Fv (S.tm rfl))) fun a S=>Hs 20 S hsel rfl rfl (by kernel_rfl) (by kernel_rfl) rfl (fun _=>(Hk Qo (S.tm rfl))) fun a S=>Uy 21 ([O] ++ v1.ownBlock.toList) rfl (by kernel_rfl) rfl (Ki (c:=0) (j:=r3.1.toNat) (Ex.mk r4.1 ((nth r1.1 r3.1).Item) ((nth r1.1 r3.1).Heat)) Ex.enc_ok S (S.tm rfl) (S.tm rfl) (i:=2) rfl hg1 (Ff hc1).1 sizeOf9 (vs:=[sV r4.1]) rfl rfl rfl rfl rfl ?_)));clear S;intro w46 hk43 S
     refine Ld (Vc (Fj 22 S hsel rfl rfl rfl (by kernel_rfl) (by kernel_rfl) rfl (fun _ hw=>(Fv (S.tm rfl))) fun a S=>Fj 23 S hsel rfl rfl rfl (by kernel_rfl) (by kernel_rfl) rfl (fun _ hw=>(Hk Sb (S.tm rfl))) fun a S=>Gq 24 (by kernel_rfl) rfl (Ki (c:=1) (j:=r3.1.toNat) (Ex.mk r4.1 r5.1 ((nth r1.1 r3.1).Heat)) Ex.enc_ok S (S.tm rfl) (S.tm rfl) (i:=2) rfl hg1 (Me (Ff hc1).1) sizeOf9 (vs:=[sV r5.1]) rfl rfl rfl rfl rfl ?_)));clear S;intro w48 hk45 S
     refine Ld ?_
     refine Hb (hk45.sub (by intro y hy;simp at hy ⊢;simp [hy])) ?_
     refine Fj 25 S hsel rfl rfl rfl (by kernel_rfl) (by kernel_rfl) rfl (fun _ hw=>(Fv (S.tm rfl))) fun a S=>Fj 26 S hsel rfl rfl rfl (by kernel_rfl) (by kernel_rfl) rfl (fun _ hw=>(Hk Qp (S.tm rfl))) fun a S=>Gq 27 (by kernel_rfl) rfl (Ki (c:=2) (j:=r3.1.toNat) (Ex.mk r4.1 r5.1 r6.1) Ex.enc_ok S (S.tm rfl) (S.tm rfl) (i:=2) rfl hg1 (Me (Me (Ff hc1).1)) sizeOf3 (vs:=[iV r6.1]) rfl rfl rfl rfl rfl ?_);clear S;intro w50 hk47 S
     refine Ld ?_
     refine Hb (hk47.sub (by intro y hy;simp at hy ⊢;simp [hy])) ?_
     refine Ss (by kernel_rfl) ?_
     clear hsel
     replace S:=(S.nl [.own v1 55 3 (((r1.1.set r3.1.toNat (Ex.mk r4.1 ((nth r1.1 r3.1).Item) ((nth r1.1 r3.1).Heat))).set r3.1.toNat (Ex.mk r4.1 r5.1 ((nth r1.1 r3.1).Heat))).set r3.1.toNat (Ex.mk r4.1 r5.1 r6.1)).length ((((r1.1.set r3.1.toNat (Ex.mk r4.1 ((nth r1.1 r3.1).Item) ((nth r1.1 r3.1).Heat))).set r3.1.toNat (Ex.mk r4.1 r5.1 ((nth r1.1 r3.1).Heat))).set r3.1.toNat (Ex.mk r4.1 r5.1 r6.1)).flatMap Ex.enc),.blk O [U,iV r6.2] 25] [false,false,true,true] rfl).k1 5 rfl
     exact Tn (⟨(((r1.1.set r3.1.toNat (Ex.mk r4.1 ((nth r1.1 r3.1).Item) ((nth r1.1 r3.1).Heat))).set r3.1.toNat (Ex.mk r4.1 r5.1 ((nth r1.1 r3.1).Heat))).set r3.1.toNat (Ex.mk r4.1 r5.1 r6.1)),r6.2,h,S.nf [true,true] rfl ⟨rfl,trivial⟩⟩)
   clear S h;rintro a w6 ⟨x5,x6,h,S⟩;rw [hj3] at h;clear hj3 j3
   exact Tn (⟨x5,x6,h,S.nf [true,true] rfl ⟨rfl,trivial⟩⟩)
  ·exact wp_skip (Tn (⟨r1.1,x1,h,S.nf [true,true] rfl ⟨rfl,trivial⟩⟩))
 clear S h;rintro a w4 ⟨x3,x4,h,S⟩;rw [hj2] at h;clear hj2 j2
 refine Tn (Fr (Vm S rfl rfl fun a S=>Va S rfl rfl fun a S=>Dl (wp_ret ?_)))
 obtain rfl:=Option.some.inj h
 exact Gm S results6 rfl ⟨(S.holds _ (List.mem_of_getElem? (i:=1) rfl)),(Wd S (i:=0) rfl (fun c hc hh=>Tu S (i:=1) rfl rfl (j:=0) rfl rfl (by simp at hc;subst hc;exact hh)))⟩
theorem AG (w : World) (s c : ByteArray) (r : ByteArray) (h : Rt s c = some r) : Calls prog 70 [.string s,.string c].toArray w (Ret w [] fun _ v _=>v = .string r):=by
  unfold Rt at h
  obtain ⟨h1,h⟩:=Ig h
  obtain ⟨h2,h⟩:=Ig h
  obtain ⟨h3,h⟩:=Ig h
  obtain rfl:=Option.some.inj h
  exact EE (Any.strings_Trim_laid Tryz.lays160 (by kernel_rfl) s c w (by simpa using h1) (by simpa using h2) (fun j b hb=>by simpa using List.all_eq_true.1 h3 b (List.mem_of_getElem? hb)))
theorem Wl (w : World) (Ay : ByteArray) (r : Bool) (h : Oj Ay = some r) :
    Calls prog 48 [sV Ay].toArray w (Ret w [] fun _ v _=>v = bV r):=by
 refine Fe func48 rfl ntmps48 rfl fun a S=>?_
 unfold Oj at h
 replace S:=S.k1 0 rfl
 refine Fr (Vk S rfl rfl fun a S=>Dz (Vm S rfl rfl fun a S=>Vu S (Uw underlying9) rfl rfl fun a S=>Vq S Qe rfl rfl rfl fun a S=>Vm S rfl rfl ?_));clear S;intro a S
 refine Lq 4 (fun a w'=>Keep [] w w' ∧ Sx w [] nov [] [(0,sV Ay),(10,bV ((decide (1 ≤ (Ay.size : Int))) && (decide ((Ay.size : Int) ≤ 40))))] 26 a w') ?_ ?_
 ·rcases Bool.eq_false_or_eq_true (decide (1 ≤ (Ay.size : Int))) with hb1 | hb1
  ·exact Fz S rfl rfl rfl hb1 (Vm S rfl rfl fun a S=>Fz S rfl rfl rfl hb1 (Vu S (Uw underlying9) rfl rfl fun a S=>Fz S rfl rfl rfl hb1 (Vq S Uu rfl rfl rfl fun a S=>lv S (Nd hb1 (S.tm rfl) (S.tm rfl)) rfl fun a S=>Dl (⟨Keep.refl _ _,S.nf [] rfl (subR rfl)⟩))))
  ·iterate 3 (refine Kn S rfl rfl rfl (Ov hb1) rfl ?_ rfl;clear S;intro a S)
   exact lv S (Nf (decide ((Ay.size : Int) ≤ 40)) hb1 (S.tm rfl) rfl) rfl fun a S=>Dl (⟨Keep.refl _ _,S.nf [] rfl (subR rfl)⟩)
 clear S;rintro a w1 ⟨hk1,S⟩
 refine Vm S rfl rfl ?_;clear S;intro a S
 obtain ⟨j1,hj1,h⟩:=Ha h
 refine Lq 4 (fun a w'=>∃ c1,j1 c1 = some r ∧ Keep [] w1 w' ∧ Sx w [] nov [] [(0,sV Ay),(15,bV c1)] 26 a w') ?_ ?_
 ·rcases Bool.eq_false_or_eq_true ((decide (1 ≤ (Ay.size : Int))) && (decide ((Ay.size : Int) ≤ 40))) with hb2 | hb2
  ·replace h:=Sy h hb2
   refine Fz S rfl rfl rfl hb2 (Vm S rfl rfl fun a S=>Fz S rfl rfl rfl hb2 ?_)
   obtain ⟨hc1,h⟩:=Ig h
   exact lv S (Tk underlying9 (S.tm rfl) rfl hc1) rfl fun a S=>Fz S rfl rfl rfl hb2 (Vq S Qe rfl rfl rfl fun a S=>lv S (Nd hb2 (S.tm rfl) (S.tm rfl)) rfl fun a S=>Dl (⟨_,h,Keep.refl _ _,S.nf [] rfl (subR rfl)⟩))
  ·replace h:=Sz h hb2
   iterate 3 (refine Kn S rfl rfl rfl (Ov hb2) rfl ?_ rfl;clear S;intro a S)
   exact Vq S (Nf true hb2) rfl rfl rfl fun a S=>Dl (⟨_,h,Keep.refl _ _,S.nf [] rfl (subR rfl)⟩)
 clear S h;rintro a w2 ⟨c1,h,hk2,S⟩;rw [hj1] at h;clear hj1 j1
 refine Vm S rfl rfl ?_;clear S;intro a S
 obtain ⟨j2,hj2,h⟩:=Ha h
 refine Lq 4 (fun a w'=>∃ c2,j2 c2 = some r ∧ Keep [] w2 w' ∧ Sx w [] nov [] [(0,sV Ay),(20,bV c2)] 26 a w') ?_ ?_
 ·rcases Bool.eq_false_or_eq_true c1 with hb3 | hb3
  ·replace h:=Sy h hb3
   refine Fz S rfl rfl rfl hb3 (Vm S rfl rfl fun a S=>Fz S rfl rfl rfl hb3 ?_)
   obtain ⟨hc2,h⟩:=Ig h
   exact lv S (Tk underlying9 (S.tm rfl) rfl hc2) rfl fun a S=>Fz S rfl rfl rfl hb3 (Vq S Uu rfl rfl rfl fun a S=>lv S (Nd hb3 (S.tm rfl) (S.tm rfl)) rfl fun a S=>Dl (⟨_,h,Keep.refl _ _,S.nf [] rfl (subR rfl)⟩))
  ·replace h:=Sz h hb3
   iterate 3 (refine Kn S rfl rfl rfl (Ov hb3) rfl ?_ rfl;clear S;intro a S)
   exact Vq S (Nf true hb3) rfl rfl rfl fun a S=>Dl (⟨_,h,Keep.refl _ _,S.nf [] rfl (subR rfl)⟩)
 clear S h;rintro a w3 ⟨c2,h,hk3,S⟩;rw [hj2] at h;clear hj2 j2
 refine Vm S rfl rfl ?_;clear S;intro a S
 obtain ⟨j3,hj3,h⟩:=Ha h
 refine Lq 4 (fun a w'=>∃ c3,j3 c3 = some r ∧ Keep [] w3 w' ∧ Sx w [] nov [] [(25,bV c3)] 26 a w') ?_ ?_
 ·rcases Bool.eq_false_or_eq_true c2 with hb4 | hb4
  ·replace h:=Sy h hb4
   refine Fz S rfl rfl rfl hb4 (Vm S rfl rfl fun a S=>Fz S rfl rfl rfl hb4 ?_)
   obtain ⟨r1,hr1,h⟩:=He h
   refine Fo S (fun _=>Fa (vs:=[sV Ay,sV Hm]) ⟨(S.tm rfl),rfl,trivial⟩ call70) (AG _ Ay Hm _ hr1) rfl ?_;clear S;intro v1 a w5 hv1 hk4 hn1 S
   subst hv1
   exact Fz S rfl rfl rfl hb4 (Vq S Yg rfl rfl rfl fun a S=>lv S (Nd hb4 (S.tm rfl) (S.tm rfl)) rfl fun a S=>Dl (⟨_,h,hk4,S.nf [] rfl ⟨rfl,trivial⟩⟩))
  ·replace h:=Sz h hb4
   iterate 3 (refine Kn S rfl rfl rfl (Ov hb4) rfl ?_ rfl;clear S;intro a S)
   exact Vq S (Nf true hb4) rfl rfl rfl fun a S=>Dl (⟨_,h,Keep.refl _ _,S.nf [] rfl ⟨rfl,trivial⟩⟩)
 clear S h;rintro a w4 ⟨c3,h,hk5,S⟩;rw [hj3] at h;clear hj3 j3
 refine Va S rfl rfl fun a S=>Dl (wp_ret ?_)
 obtain rfl:=Option.some.inj h
 exact Gm S results48 rfl rfl
theorem Od (w : World) (Bz : Int) (Cb : Int) (Bv : Int) (r : Bool) (h : Gy Bz Cb Bv = r) :
    Calls prog 25 [iV Bz,iV Cb,iV Bv].toArray w (Ret w [] fun _ v _=>v = bV r):=by
 refine Fe func25 rfl ntmps25 rfl fun a S=>?_
 unfold Gy at h
 replace S:=S.k3 0 1 2 rfl
 refine Fr (Vk S rfl rfl fun a S=>Dz (Vm S rfl rfl fun a S=>Vm S rfl rfl fun a S=>Vb S Qe rfl rfl rfl fun a S=>Vm S rfl rfl ?_));clear S;intro a S
 refine Lq 4 (fun a w'=>Keep [] w w' ∧ Sx w [] nov [] [(14,bV ((decide (Cb ≤ Bz)) && (decide (Bz ≤ Bv))))] 15 a w') ?_ ?_
 ·rcases Bool.eq_false_or_eq_true (decide (Cb ≤ Bz)) with hb1 | hb1
  ·exact Fz S rfl rfl rfl hb1 (Vm S rfl rfl fun a S=>Fz S rfl rfl rfl hb1 (Vm S rfl rfl fun a S=>Fz S rfl rfl rfl hb1 (Vb S Uu rfl rfl rfl fun a S=>lv S (Nd hb1 (S.tm rfl) (S.tm rfl)) rfl fun a S=>Dl (⟨Keep.refl _ _,S.nf [] rfl ⟨rfl,trivial⟩⟩))))
  ·iterate 3 (refine Kn S rfl rfl rfl (Ov hb1) rfl ?_ rfl;clear S;intro a S)
   exact lv S (Nf (decide (Bz ≤ Bv)) hb1 (S.tm rfl) rfl) rfl fun a S=>Dl (⟨Keep.refl _ _,S.nf [] rfl ⟨rfl,trivial⟩⟩)
 clear S;rintro a w1 ⟨hk1,S⟩
 refine Va S rfl rfl fun a S=>Dl (wp_ret ?_)
 subst h
 exact Gm S results25 rfl rfl
theorem Py (w : World) (Ad : Value) (Ar : List An) (Ap : Slc (view w []) 5 Ad (Ar.map An.enc)) (r : Int) (h : Jq Ar = some r) :
    Calls prog 41 [Ad].toArray w (Ret w [] fun _ v _=>v = iV r):=by
 refine Fe func41 rfl ntmps41 rfl fun a S=>?_
 unfold Jq at h
 replace S:=S.k1 0 rfl
 refine Fr (Vk S rfl rfl fun a S=>Dl (Fs (Fr (Vm S rfl rfl fun a S=>lv S (Gh Il (S.tm rfl) (Ey Ap)) rfl fun a S=>Vq S Na rfl rfl rfl ?_))));clear S;intro a S
 refine Dl (Fc h (S.tm rfl) (fun hb1 h=>?_) (fun hb1 h=>?_))
 ·refine Fr (Vk S rfl rfl fun a S=>Dl (wp_ret (Fk ?_)))
  obtain rfl:=Option.some.inj h
  exact Gm S results41 rfl rfl
 ·refine wp_skip (Tn (Fr (JL (κ:=ByteArray) (ν:=Bool) S rfl Value.string Value.bool ?_)));clear S;intro a w1 b1 hz1 hk1 S
  refine Va S rfl rfl fun a S=>Dl (Fs (Fr (Vm S rfl rfl fun a S=>lv S (Gh Il (S.tm rfl) (Ey Ap)) rfl fun a S=>lv S (Rm rfl) rfl fun a S=>Dl ?_)))
  replace S:=(S.nl [.map b1 (Ow Value.string Value.bool ([] : List (ByteArray × Bool))) ([] : List (ByteArray × Bool)).length] [true] rfl).k4 3 10 11 12 rfl
  obtain ⟨j1,hj1,h⟩:=Ha h
  refine Gv (fun a w'=>∃ x1 : List (ByteArray × Bool),j1 x1 = some r ∧ Sx w [] nov [.map b1 (Ow Value.string Value.bool x1) x1.length] [] 53 a w') ?_ ?_
  ·refine wp_block (Iv (fun (ys1 : List An) a w'=>∃ i1 : Nat,∃ x1 : List (ByteArray × Bool),(∃ dn,Ar = dn ++ ys1 ∧ dn.length = i1) ∧ Hw j1 ys1 i1 x1 = some r ∧ Sx w [] nov [.map b1 (Ow Value.string Value.bool x1) x1.length] [(3,.map (some b1)),(10,Ad),(11,iV (Ar.length : Int)),(12,iV (i1 : Int))] 53 a w') List.length Ar ⟨0,([] : List (ByteArray × Bool)),⟨[],rfl,rfl⟩,h,S.nf [true] rfl (subR rfl)⟩ ?_)
   clear S h;rintro ys1 a w2 ⟨i1,x1,⟨dn,hd1,hi1⟩,h,S⟩
   cases ys1 with
   | nil =>
    rw [Hw.eq_1] at h
    refine Fr (Vb S Gb rfl rfl rfl fun a S=>Ld ?_)
    replace S:=S.k5 3 10 11 12 13 rfl
    exact Tn (Fs (wp_cond_false ((S.tm rfl).trans (congrArg Value.bool (Jr hd1 hi1))) (wp_exit (Gk (Gk (Jc (Tn (⟨x1,h,S.nf [true] rfl trivial⟩))))))))
   | cons y1 ys1 =>
    rw [Hw.eq_2] at h
    refine Fr (Vb S Gb rfl rfl rfl fun a S=>Ld ?_)
    replace S:=S.k5 3 10 11 12 13 rfl
    refine Tn (Fs (wp_cond_true ((S.tm rfl).trans (congrArg Value.bool (Ih hd1 hi1))) (wp_skip (Tn (Fs (wp_block (Fs (Fg ?_))))))))
    obtain ⟨b2,o1,hm1,hr1⟩:=Gd (a:=a) (x:=.tmp 10) (y:=.tmp 12) (ty:=0) Il Ap (Jd hd1 hi1) rfl (S.tm rfl) (S.tm rfl)
    refine lv S (hr1 _) rfl ?_;clear S;intro a S
    clear hr1
    refine lv S (Ji isAgg41 sizeOf41 (off:=o1) (o:=0) (part:=(An.enc y1)) rfl rfl (S.tm rfl) (hm1.at S.emb0)) rfl fun a S=>Mw S zeroValue41 (cs:=[sV Ga,iV 0,iV 0,iV 0,iV 0]) rfl rfl ?_;clear S;intro a w4 b3 hz2 hk2 S
    refine Ku S (S.tm rfl) (S.tm rfl) (i:=0) (off:=0) rfl sizeOf41 (vs:=(An.enc y1)) rfl rfl rfl rfl ?_;clear S;intro w5 hk3 S
    refine Dl (Fs (wp_block (Fr (Vf Mz S rfl rfl fun a S=>Vl isAgg9 0 S rfl rfl rfl rfl ?_))));clear S;intro a S
    obtain ⟨r1,hr2,h⟩:=He h
    refine Fo S (fun _=>Fa (vs:=[sV y1.Key]) ⟨(S.tm rfl),trivial⟩ call48) (Wl _ y1.Key _ hr2) rfl ?_;clear S;intro v1 a w6 hv1 hk4 hn1 S
    subst hv1
    refine Vu S Mo rfl rfl fun a S=>Va S rfl rfl fun a S=>Dl (Fc h (S.tm rfl) (fun hb2 h=>?_) (fun hb2 h=>?_))
    ·refine Fr (Vk S rfl rfl fun a S=>Dl (wp_ret (Hv (Fk (Hv (Fk (Fk ?_)))))))
     refine Hv (Fk (Fk ?_))
     obtain rfl:=Option.some.inj h
     exact Gm S results41 rfl rfl
    ·refine Fr (Vm S rfl rfl fun a S=>Vf Mz S rfl rfl fun a S=>Vl isAgg9 0 S rfl rfl rfl rfl fun a S=>lv S (JM (kv:=Value.string) (vv:=Value.bool) (m:=x1) (key:=y1.Key) (z:=false) (S.map_at (i:=1) rfl) underlying103 (FI underlying9) zeroValue4 (S.tm rfl) (S.tm rfl)) rfl fun a S=>Va S rfl rfl fun a S=>Ld ?_)
     replace S:=(S.nl [.blk b3 (An.enc y1) 41,.map b1 (Ow Value.string Value.bool x1) x1.length] [true,true] rfl).k6 3 5 10 11 12 21 rfl
     refine Tn (Fc h (S.tm rfl) (fun hb3 h=>?_) (fun hb3 h=>?_))
     ·refine Fr (Vk S rfl rfl fun a S=>Dl (wp_ret (Hv (Fk (Hv (Fk (Fk ?_)))))))
      refine Hv (Fk (Fk ?_))
      obtain rfl:=Option.some.inj h
      exact Gm S results41 rfl rfl
     ·refine Fr (Vf Qn S rfl rfl fun a S=>Vl isAgg3 0 S rfl rfl rfl rfl fun a S=>Fo S (fun _=>Fa (vs:=[iV y1.Heats,iV 1,iV 60]) ⟨(S.tm rfl),rfl,rfl,trivial⟩ call25) (Od _ y1.Heats 1 60 _ rfl) rfl ?_);clear S;intro v2 a w7 hv2 hk5 hn2 S
      subst hv2
      refine Vu S Mo rfl rfl fun a S=>Vm S rfl rfl fun a S=>Lq 5 (fun a w'=>Keep [] w7 w' ∧ Sx w [] nov [.blk b3 (An.enc y1) 41,.map b1 (Ow Value.string Value.bool x1) x1.length] [(3,.map (some b1)),(5,.pointer (some ⟨b3,0,none⟩)),(10,Ad),(11,iV (Ar.length : Int)),(12,iV (i1 : Int)),(36,bV ((!(Gy y1.Heats 1 60)) || (!(Gy y1.Long 1 3600000))))] 53 a w') ?_ ?_
      ·rcases Bool.eq_false_or_eq_true (!(Gy y1.Heats 1 60)) with hb4 | hb4
       ·iterate 4 (refine Kn S rfl rfl rfl (Tb hb4) rfl ?_ rfl;clear S;intro a S)
        exact lv S (Rb (!(Gy y1.Long 1 3600000)) hb4 (S.tm rfl) rfl) rfl fun a S=>Dl (⟨Keep.refl _ _,S.nf [true,true] rfl (subR rfl)⟩)
       ·refine Fz S rfl rfl rfl hb4 (Vf Sa S rfl rfl fun a S=>Fz S rfl rfl rfl hb4 (Vl isAgg3 0 S rfl rfl rfl rfl fun a S=>Fz S rfl rfl rfl hb4 (Fo S (fun _=>Fa (vs:=[iV y1.Long,iV 1,iV 3600000]) ⟨(S.tm rfl),rfl,rfl,trivial⟩ call25) (Od _ y1.Long 1 3600000 _ rfl) rfl ?_)));clear S;intro v3 a w9 hv3 hk6 hn3 S
        subst hv3
        exact Fz S rfl rfl rfl hb4 (Vu S Mo rfl rfl fun a S=>lv S (Rc hb4 (S.tm rfl) (S.tm rfl)) rfl fun a S=>Dl (⟨hk6,S.nf [true,true] rfl (subR rfl)⟩))
      clear S;rintro a w8 ⟨hk7,S⟩
      refine Vm S rfl rfl fun a S=>Lq 5 (fun a w'=>Keep [] w8 w' ∧ Sx w [] nov [.blk b3 (An.enc y1) 41,.map b1 (Ow Value.string Value.bool x1) x1.length] [(3,.map (some b1)),(5,.pointer (some ⟨b3,0,none⟩)),(10,Ad),(11,iV (Ar.length : Int)),(12,iV (i1 : Int)),(42,bV (((!(Gy y1.Heats 1 60)) || (!(Gy y1.Long 1 3600000))) || (!(Gy y1.Gap 0 3600000))))] 53 a w') ?_ ?_
      ·rcases Bool.eq_false_or_eq_true ((!(Gy y1.Heats 1 60)) || (!(Gy y1.Long 1 3600000))) with hb5 | hb5
       ·iterate 4 (refine Kn S rfl rfl rfl (Tb hb5) rfl ?_ rfl;clear S;intro a S)
        exact lv S (Rb (!(Gy y1.Gap 0 3600000)) hb5 (S.tm rfl) rfl) rfl fun a S=>Dl (⟨Keep.refl _ _,S.nf [true,true] rfl (subR rfl)⟩)
       ·refine Fz S rfl rfl rfl hb5 (Vf Ty S rfl rfl fun a S=>Fz S rfl rfl rfl hb5 (Vl isAgg3 0 S rfl rfl rfl rfl fun a S=>Fz S rfl rfl rfl hb5 (Fo S (fun _=>Fa (vs:=[iV y1.Gap,iV 0,iV 3600000]) ⟨(S.tm rfl),rfl,rfl,trivial⟩ call25) (Od _ y1.Gap 0 3600000 _ rfl) rfl ?_)));clear S;intro v4 a w11 hv4 hk8 hn4 S
        subst hv4
        exact Fz S rfl rfl rfl hb5 (Vu S Mo rfl rfl fun a S=>lv S (Rc hb5 (S.tm rfl) (S.tm rfl)) rfl fun a S=>Dl (⟨hk8,S.nf [true,true] rfl (subR rfl)⟩))
      clear S;rintro a w10 ⟨hk9,S⟩
      refine Vm S rfl rfl fun a S=>Lq 5 (fun a w'=>Keep [] w10 w' ∧ Sx w [] nov [.blk b3 (An.enc y1) 41,.map b1 (Ow Value.string Value.bool x1) x1.length] [(3,.map (some b1)),(5,.pointer (some ⟨b3,0,none⟩)),(10,Ad),(11,iV (Ar.length : Int)),(12,iV (i1 : Int)),(48,bV ((((!(Gy y1.Heats 1 60)) || (!(Gy y1.Long 1 3600000))) || (!(Gy y1.Gap 0 3600000))) || (!(Gy y1.Break 0 3600000))))] 53 a w') ?_ ?_
      ·rcases Bool.eq_false_or_eq_true (((!(Gy y1.Heats 1 60)) || (!(Gy y1.Long 1 3600000))) || (!(Gy y1.Gap 0 3600000))) with hb6 | hb6
       ·iterate 4 (refine Kn S rfl rfl rfl (Tb hb6) rfl ?_ rfl;clear S;intro a S)
        exact lv S (Rb (!(Gy y1.Break 0 3600000)) hb6 (S.tm rfl) rfl) rfl fun a S=>Dl (⟨Keep.refl _ _,S.nf [true,true] rfl (subR rfl)⟩)
       ·refine Fz S rfl rfl rfl hb6 (Vf Vg S rfl rfl fun a S=>Fz S rfl rfl rfl hb6 (Vl isAgg3 0 S rfl rfl rfl rfl fun a S=>Fz S rfl rfl rfl hb6 (Fo S (fun _=>Fa (vs:=[iV y1.Break,iV 0,iV 3600000]) ⟨(S.tm rfl),rfl,rfl,trivial⟩ call25) (Od _ y1.Break 0 3600000 _ rfl) rfl ?_)));clear S;intro v5 a w13 hv5 hk10 hn5 S
        subst hv5
        exact Fz S rfl rfl rfl hb6 (Vu S Mo rfl rfl fun a S=>lv S (Rc hb6 (S.tm rfl) (S.tm rfl)) rfl fun a S=>Dl (⟨hk10,S.nf [true,true] rfl (subR rfl)⟩))
      clear S;rintro a w12 ⟨hk11,S⟩
      refine Va S rfl rfl fun a S=>Dl (Fc h (S.tm rfl) (fun hb7 h=>?_) (fun hb7 h=>?_))
      ·refine Fr (Vk S rfl rfl fun a S=>Dl (wp_ret (Hv (Fk (Hv (Fk (Fk ?_)))))))
       refine Hv (Fk (Fk ?_))
       obtain rfl:=Option.some.inj h
       exact Gm S results41 rfl rfl
      ·refine wp_skip (Kb (Tn (Fg (Vm S rfl rfl fun a S=>Vf Mz S rfl rfl fun a S=>Vl isAgg9 0 S rfl rfl rfl rfl fun a S=>FJ (kv:=Value.string) (vv:=Value.bool) (m:=x1) (key:=y1.Key) (val:=true) S (i:=1) rfl underlying103 (FI underlying9) (S.tm rfl) (S.tm rfl) rfl ?_))));clear S;intro w14 hk12 S
       exact Ld (Kb (Tn (Fg (Vq S Gx rfl rfl rfl fun a S=>Vm S rfl rfl fun a S=>Dl (⟨ys1,⟨i1 + 1,(Si x1 y1.Key true),⟨_,(hd1).trans (List.append_cons _ _ _),by simp [hi1]⟩,h,S.nf [false,true] rfl ⟨rfl,rfl,rfl,(congrArg (fun z=>some (Value.int .i64 z)) (Ii hd1 hi1 (Kl Ap))),trivial⟩⟩,Nat.lt_succ_self _⟩)))))
  clear S h;rintro a w3 ⟨x1,h,S⟩;rw [hj1] at h;clear hj1 j1
  refine Tn (Fr (Vk S rfl rfl fun a S=>Dl (wp_ret ?_)))
  obtain rfl:=Option.some.inj h
  exact Gm S results41 rfl rfl
theorem Wm (w : World) (Bl : An) (Br : Nat) (Cd : ByteArray) (Cc : (view w []) Br = some (.cells [sV Cd].toArray 9 (0,0))) (r : Bool) (h : Qb Bl Cd = r) :
    Calls prog 66 [.agg (An.enc Bl).toArray,.pointer (some ⟨Br,0,none⟩)].toArray w (Ret w [] fun _ v _=>v = bV r):=by
 refine Fe func66 rfl ntmps66 rfl fun a S=>?_
 unfold Qb at h
 replace S:=S.k2 0 1 rfl
 refine Fr (Pt S (S.tm rfl) (cs:=(An.enc Bl)) rfl rfl ?_);clear S;intro a w1 b1 hz1 hk1 S
 refine Vk S rfl rfl fun a S=>Dz (Vf Mz S rfl rfl fun a S=>Vl isAgg9 0 S rfl rfl rfl rfl fun a S=>lv S (Hr isAgg9 (off:=0) (o:=0) (S.tm rfl) ((Rl Cc).at S.emb0) rfl) rfl fun a S=>Vb S Yg rfl rfl rfl fun a S=>Va S rfl rfl fun a S=>Ld ?_)
 refine Tn (wp_ret ?_)
 subst h
 exact Gm S results66 rfl rfl
theorem Pq (w : World) (Ak : Value) (Ay : List An) (Bo : Slc (view w []) 5 Ak (Ay.map An.enc)) (Bw : Nat) (Cq : ByteArray) (Cx : (view w []) Bw = some (.cells [sV Cq].toArray 9 (0,0))) (r : Int) (h : Jv Ay Cq = r) :
    Calls prog 59 [Ak,.func (.func 66) #[] #[.pointer (some ⟨Bw,0,none⟩)]].toArray w (Ret w [] fun _ v _=>v = iV r):=by
 refine Fe func59 rfl ntmps59 rfl fun a S=>?_
 unfold Jv at h
 replace S:=S.k2 0 1 rfl
 refine Fr (Vk S rfl rfl fun a S=>Dl (Fs (Fr (Vm S rfl rfl fun a S=>lv S (Gh Il (S.tm rfl) (Ey Bo)) rfl fun a S=>lv S (Rm rfl) rfl ?_))));clear S;intro a S
 refine Dl ?_
 replace S:=S.k4 0 1 7 8 rfl
 obtain ⟨j1,hj1,h⟩:=Ha h
 refine Gv (fun a w'=>j1 = r ∧ Sx w [] nov [] [] 19 a w') ?_ ?_
 ·refine wp_block (Iv (fun (ys1 : List An) a w'=>∃ i1 : Nat,(∃ dn,Ay = dn ++ ys1 ∧ dn.length = i1) ∧ Gc Cq j1 ys1 i1 = r ∧ Sx w [] nov [] [(0,Ak),(1,.func (.func 66) #[] #[.pointer (some ⟨Bw,0,none⟩)]),(7,iV (Ay.length : Int)),(8,iV (i1 : Int))] 19 a w') List.length Ay ⟨0,⟨[],rfl,rfl⟩,h,S.nf [] rfl (subR rfl)⟩ ?_)
  clear S h;rintro ys1 a w1 ⟨i1,⟨dn,hd1,hi1⟩,h,S⟩
  cases ys1 with
  | nil =>
   rw [Gc.eq_1] at h
   refine Fr (Vb S Gb rfl rfl rfl fun a S=>Ld ?_)
   replace S:=S.k5 0 1 7 8 9 rfl
   exact Tn (Fs (wp_cond_false ((S.tm rfl).trans (congrArg Value.bool (Jr hd1 hi1))) (wp_exit (Gk (Gk (Jc (Tn (⟨h,S.nf [] rfl trivial⟩))))))))
  | cons y1 ys1 =>
   rw [Gc.eq_2] at h
   refine Fr (Vb S Gb rfl rfl rfl fun a S=>Ld ?_)
   replace S:=S.k5 0 1 7 8 9 rfl
   refine Tn (Fs (wp_cond_true ((S.tm rfl).trans (congrArg Value.bool (Ih hd1 hi1))) (wp_skip (Tn (Fs (wp_block (Fr (Vm S rfl rfl fun a S=>Va S rfl rfl ?_))))))));clear S;intro a S
   refine Dl (Fs (Fg ?_))
   iterate 3 (refine Vm S rfl rfl ?_;clear S;intro a S)
   obtain ⟨b1,o1,hm1,hr1⟩:=Gd (a:=a) (x:=.tmp 12) (y:=.tmp 13) (ty:=0) Il Bo (Jd hd1 hi1) rfl (S.tm rfl) (S.tm rfl)
   refine lv S (hr1 _) rfl ?_;clear S;intro a S
   clear hr1
   refine lv S (Ji isAgg41 sizeOf41 (off:=o1) (o:=0) (part:=(An.enc y1)) rfl rfl (S.tm rfl) (hm1.at S.emb0)) rfl fun a S=>Fo S (fun _=>Pb (cap:=[.pointer (some ⟨Bw,0,none⟩)]) (S.tm rfl) (vs:=[.agg (An.enc y1).toArray]) ⟨(S.tm rfl),trivial⟩ call66) (Wm _ y1 Bw Cq ((S.le_arg Fy) _ _ Cx) _ rfl) rfl ?_;clear S;intro v1 a w3 hv1 hk1 hn1 S
   subst hv1
   refine Dl (Fc h (S.tm rfl) (fun hb1 h=>?_) (fun hb1 h=>?_))
   ·refine Fr (Vm S rfl rfl fun a S=>Va S rfl rfl fun a S=>Ld ?_)
    replace S:=S.k1 4 rfl
    refine Tn (wp_ret (Hv (Fk (Fk (Hv (Fk (Fk ?_)))))))
    subst h
    exact Gm S results59 rfl rfl
   ·exact wp_skip (Kb (Tn (Fg (Vq S Gx rfl rfl rfl fun a S=>Vm S rfl rfl fun a S=>Dl (⟨ys1,⟨i1 + 1,⟨_,(hd1).trans (List.append_cons _ _ _),by simp [hi1]⟩,h,S.nf [] rfl ⟨rfl,rfl,rfl,(congrArg (fun z=>some (Value.int .i64 z)) (Ii hd1 hi1 (Kl Bo))),trivial⟩⟩,Nat.lt_succ_self _⟩)))))
 clear S h;rintro a w2 ⟨h,S⟩;rw [hj1] at h;clear hj1 j1
 refine Tn (Fr (Vk S rfl rfl fun a S=>Dl (wp_ret ?_)))
 subst h
 exact Gm S results59 rfl rfl
theorem Sd (w : World) (Ad : Value) (Ar : List An) (Ap : Slc (view w []) 5 Ad (Ar.map An.enc)) (Dn : ByteArray) (r : Int) (h : Ez Ar Dn = r) :
    Calls prog 42 [Ad,sV Dn].toArray w (Ret w [] fun _ v _=>v = iV r):=by
 refine Fe func42 rfl ntmps42 rfl fun a S=>?_
 unfold Ez at h
 replace S:=S.k2 0 1 rfl
 refine Fr (Pt S (S.tm rfl) (cs:=[sV Dn]) rfl rfl ?_);clear S;intro a w1 b1 hz1 hk1 S
 refine Vk S rfl rfl fun a S=>Dz (Vm S rfl rfl fun a S=>lv S (Sr (us:=#[]) (xs:=[].toArray) (ys:=[.tmp 3].toArray) (by simp) (evA ⟨(S.tm rfl),trivial⟩ (vs:=[.pointer (some ⟨b1,0,none⟩)]))) rfl fun a S=>Fo S (fun _=>Fa (vs:=[Ad,.func (.func 66) #[] #[.pointer (some ⟨b1,0,none⟩)]]) ⟨(S.tm rfl),(S.tm rfl),trivial⟩ call59) (Pq _ Ad Ar (Ap.mono (S.le_arg Fy)) b1 Dn (S.blk_view (i:=0) rfl ((Ij (e':=.blk b1 [sV Dn] 9)) _ rfl)) _ rfl) rfl ?_);clear S;intro v1 a w2 hv1 hk2 hn1 S
 subst hv1
 refine Va S rfl rfl fun a S=>Dl (wp_ret ?_)
 subst h
 exact Gm S results42 rfl rfl
theorem Rf (w : World) (s t : ByteArray) (r : Int) (h : Jp s t = r) : Calls prog 31 [.string s,.string t].toArray w (Ret w [] fun _ v _=>v = .int .i64 r):=by
  subst h
  exact Zw (Any.strings_Compare Tryz.lays106 s t w)
theorem Ui (w : World) (Bl : Int) (r : Bool) (h : Pv Bl = r) :
    Calls prog 83 [iV Bl].toArray w (Ret w [] fun _ v _=>v = bV r):=by
 refine Fe func83 rfl ntmps83 rfl fun a S=>?_
 unfold Pv at h
 replace S:=S.k1 0 rfl
 refine Fr (Vk S rfl rfl fun a S=>Dz (Vm S rfl rfl fun a S=>Vm S rfl rfl fun a S=>Vb S Qd rfl rfl rfl fun a S=>Va S rfl rfl ?_));clear S;intro a S
 refine Dl (wp_ret ?_)
 subst h
 exact Gm S results83 rfl rfl
theorem Rg (w : World) (Bl : Int) (Ef : Int) (r : Int) (h : Hd Bl Ef = r) :
    Calls prog 57 [iV Bl,iV Ef].toArray w (Ret w [] fun _ v _=>v = iV r):=by
 refine Fe func57 rfl ntmps57 rfl fun a S=>?_
 unfold Hd at h
 replace S:=S.k2 0 1 rfl
 refine Fr (Vk S rfl rfl fun a S=>Dz (Vm S rfl rfl fun a S=>Fo S (fun _=>Fa (vs:=[iV Bl]) ⟨(S.tm rfl),trivial⟩ call83) (Ui _ Bl _ rfl) rfl ?_));clear S;intro v1 a w1 hv1 hk1 hn1 S
 subst hv1
 refine Va S rfl rfl fun a S=>Dz (Vm S rfl rfl fun a S=>Fo S (fun _=>Fa (vs:=[iV Ef]) ⟨(S.tm rfl),trivial⟩ call83) (Ui _ Ef _ rfl) rfl ?_);clear S;intro v2 a w2 hv2 hk2 hn2 S
 subst hv2
 refine Va S rfl rfl fun a S=>Dl (Fs (Fr (Vm S rfl rfl fun a S=>Dl (Fc h (S.tm rfl) (fun hb1 h=>?_) (fun hb1 h=>?_)))))
 ·refine Fs (Fr (Vm S rfl rfl fun a S=>Dl (Fc h (S.tm rfl) (fun hb2 h=>?_) (fun hb2 h=>?_))))
  ·refine Fr (Vk S rfl rfl fun a S=>Dl (wp_ret (Fk (Fk ?_))))
   subst h
   exact Gm S results57 rfl rfl
  ·refine wp_skip (Tn (Fr (Vk S rfl rfl fun a S=>Dl (wp_ret (Fk ?_)))))
   subst h
   exact Gm S results57 rfl rfl
 ·refine wp_skip (Tn (Fs (Fr (Vm S rfl rfl fun a S=>Dl (Fc h (S.tm rfl) (fun hb3 h=>?_) (fun hb3 h=>?_))))))
  ·refine Fr (Vk S rfl rfl fun a S=>Dl (wp_ret (Fk ?_)))
   subst h
   exact Gm S results57 rfl rfl
  ·refine wp_skip (Tn (Fs (Fr (Vm S rfl rfl fun a S=>Vm S rfl rfl fun a S=>Vb S Gb rfl rfl rfl fun a S=>Dl (Fc h (S.tm rfl) (fun hb4 h=>?_) (fun hb4 h=>?_))))))
   ·refine Fr (Vk S rfl rfl fun a S=>Dl (wp_ret (Fk ?_)))
    subst h
    exact Gm S results57 rfl rfl
   ·refine wp_skip (Tn (Fs (Fr (Vm S rfl rfl fun a S=>Vm S rfl rfl fun a S=>Vb S Na rfl rfl rfl fun a S=>Ld ?_))))
    replace S:=S.k1 19 rfl
    refine Tn (Fc h (S.tm rfl) (fun hb5 h=>?_) (fun hb5 h=>?_))
    ·refine Fr (Vk S rfl rfl fun a S=>Dl (wp_ret (Fk ?_)))
     subst h
     exact Gm S results57 rfl rfl
    ·refine wp_skip (Tn (Fr (Vk S rfl rfl fun a S=>Dl (wp_ret ?_))))
     subst h
     exact Gm S results57 rfl rfl
theorem Xq (w : World) (Ee : Value) (Dy : List Int) (Ea : Slc (view w []) 1 Ee (Dy.map eInt)) (r : Int) (h : Oq Dy = r) :
    Calls prog 56 [Ee].toArray w (Ret w [] fun _ v _=>v = iV r):=by
 refine Fe func56 rfl ntmps56 rfl fun a S=>?_
 unfold Oq at h
 replace S:=S.k1 0 rfl
 refine Fr (Vk S rfl rfl fun a S=>Dz (Vk S rfl rfl fun a S=>Dl (Fs ?_)))
 refine Fr (Vm S rfl rfl fun a S=>lv S (Gh Lj (S.tm rfl) (Ey Ea)) rfl fun a S=>lv S (Rm rfl) rfl fun a S=>Dl ?_)
 replace S:=S.k4 3 6 7 8 rfl
 obtain ⟨j1,hj1,h⟩:=Ha h
 refine Gv (fun a w'=>j1 = r ∧ Sx w [] nov [] [(3,iV 0)] 18 a w') ?_ ?_
 ·refine wp_block (Iv (fun (ys1 : List Int) a w'=>∃ i1 : Nat,(∃ dn,Dy = dn ++ ys1 ∧ dn.length = i1) ∧ Lt j1 ys1 i1 = r ∧ Sx w [] nov [] [(3,iV 0),(6,Ee),(7,iV (Dy.length : Int)),(8,iV (i1 : Int))] 18 a w') List.length Dy ⟨0,⟨[],rfl,rfl⟩,h,S.nf [] rfl (subR rfl)⟩ ?_)
  clear S h;rintro ys1 a w1 ⟨i1,⟨dn,hd1,hi1⟩,h,S⟩
  cases ys1 with
  | nil =>
   rw [Lt.eq_1] at h
   refine Fr (Vb S Gb rfl rfl rfl fun a S=>Ld ?_)
   replace S:=S.k5 3 6 7 8 9 rfl
   exact Tn (Fs (wp_cond_false ((S.tm rfl).trans (congrArg Value.bool (Jr hd1 hi1))) (wp_exit (Gk (Gk (Jc (Tn (⟨h,S.nf [] rfl ⟨rfl,trivial⟩⟩))))))))
  | cons y1 ys1 =>
   rw [Lt.eq_2] at h
   refine Fr (Vb S Gb rfl rfl rfl fun a S=>Ld ?_)
   replace S:=S.k5 3 6 7 8 9 rfl
   refine Tn (Fs (wp_cond_true ((S.tm rfl).trans (congrArg Value.bool (Ih hd1 hi1))) (wp_skip (Tn (Fs (wp_block (Fs (Fg ?_))))))))
   obtain ⟨b1,o1,hm1,hr1⟩:=Gd (a:=a) (x:=.tmp 6) (y:=.tmp 8) (ty:=0) Lj Ea (Jd hd1 hi1) rfl (S.tm rfl) (S.tm rfl)
   refine lv S (hr1 _) rfl ?_;clear S;intro a S
   clear hr1
   refine lv S (Hr isAgg3 (off:=o1) (o:=0) (S.tm rfl) (hm1.at S.emb0) rfl) rfl fun a S=>Va S rfl rfl fun a S=>Dz (Vm S rfl rfl fun a S=>Vm S rfl rfl fun a S=>Vb S Qd rfl rfl rfl fun a S=>Dl ?_)
   refine Fc h (S.tm rfl) (fun hb1 h=>?_) (fun hb1 h=>?_)
   ·refine Fr (Vm S rfl rfl fun a S=>Va S rfl rfl fun a S=>Dl (wp_ret (Hv (Fk (Fk (Hv ?_))))))
    refine Fk (Fk ?_)
    subst h
    exact Gm S results56 rfl rfl
   ·exact wp_skip (Kb (Tn (Fg (Vq S Gx rfl rfl rfl fun a S=>Vm S rfl rfl fun a S=>Dl (⟨ys1,⟨i1 + 1,⟨_,(hd1).trans (List.append_cons _ _ _),by simp [hi1]⟩,h,S.nf [] rfl ⟨rfl,rfl,rfl,(congrArg (fun z=>some (Value.int .i64 z)) (Ii hd1 hi1 (Kl Ea))),trivial⟩⟩,Nat.lt_succ_self _⟩)))))
 clear S h;rintro a w2 ⟨h,S⟩;rw [hj1] at h;clear hj1 j1
 refine Tn (Fr (Vm S rfl rfl fun a S=>Va S rfl rfl fun a S=>Dl (wp_ret ?_)))
 subst h
 exact Gm S results56 rfl rfl
set_option maxRecDepth 20000 in
theorem Uj (w : World) (Bh : Ex) (Bk : Ex) (r : Int) (h : Lm Bh Bk = r) :
    Calls prog 49 [.agg (Ex.enc Bh).toArray,.agg (Ex.enc Bk).toArray].toArray w (Ret w [] fun _ v _=>v = iV r):=by
 refine Fe func49 rfl ntmps49 rfl fun a S=>?_
 unfold Lm at h
 replace S:=S.k2 0 1 rfl
 refine Fr (Pt S (S.tm rfl) (cs:=(Ex.enc Bh)) rfl rfl ?_);clear S;intro a w1 b1 hz1 hk1 S
 refine Pt S (S.tm rfl) (cs:=(Ex.enc Bk)) rfl rfl ?_;clear S;intro a w2 b2 hz2 hk2 S
 refine Vk S rfl rfl fun a S=>Dl (Fs (Hx [] ([]) Tryz.mixed S rfl (by kernel_rfl) ?_));clear S;intro w8 hk8 hsel S
 refine Fj 0 S hsel rfl rfl rfl (by kernel_rfl) (by kernel_rfl) rfl (fun _ hw=>(Hk Qo (S.tm rfl))) fun a S=>Fj 1 S hsel rfl rfl rfl (by kernel_rfl) (by kernel_rfl) rfl (fun _ hw=>(Hr isAgg9 (off:=0) (o:=0) (S.tm rfl) ((S.blk_mem (i:=1) (cells:=(Ex.enc Bh)) (b:=b1) (T:=55) rfl (Ij (e':=.blk b1 (Ex.enc Bh) 55))).kept hw) rfl)) fun a S=>Fj 2 S hsel rfl rfl rfl (by kernel_rfl) (by kernel_rfl) rfl (fun _ hw=>(Hk Qo (S.tm rfl))) fun a S=>Fj 3 S hsel rfl rfl rfl (by kernel_rfl) (by kernel_rfl) rfl (fun _ hw=>(Hr isAgg9 (off:=0) (o:=0) (S.tm rfl) ((S.blk_mem (i:=0) (cells:=(Ex.enc Bk)) (b:=b2) (T:=55) rfl (Ij (e':=.blk b2 (Ex.enc Bk) 55))).kept hw) rfl)) fun a S=>Fj 5 S hsel rfl rfl rfl (by kernel_rfl) (by kernel_rfl) rfl (fun _ hw=>(Hk Sb (S.tm rfl))) fun a S=>Fj 6 S hsel rfl rfl rfl (by kernel_rfl) (by kernel_rfl) rfl (fun _ hw=>(Hr isAgg9 (off:=0) (o:=1) (S.tm rfl) ((S.blk_mem (i:=1) (cells:=(Ex.enc Bh)) (b:=b1) (T:=55) rfl (Ij (e':=.blk b1 (Ex.enc Bh) 55))).kept hw) rfl)) fun a S=>Fj 7 S hsel rfl rfl rfl (by kernel_rfl) (by kernel_rfl) rfl (fun _ hw=>(Hk Sb (S.tm rfl))) fun a S=>Fj 8 S hsel rfl rfl rfl (by kernel_rfl) (by kernel_rfl) rfl (fun _ hw=>(Hr isAgg9 (off:=0) (o:=1) (S.tm rfl) ((S.blk_mem (i:=0) (cells:=(Ex.enc Bk)) (b:=b2) (T:=55) rfl (Ij (e':=.blk b2 (Ex.enc Bk) 55))).kept hw) rfl)) fun a S=>Fj 10 S hsel rfl rfl rfl (by kernel_rfl) (by kernel_rfl) rfl (fun _ hw=>(Hk Qp (S.tm rfl))) fun a S=>Fj 11 S hsel rfl rfl rfl (by kernel_rfl) (by kernel_rfl) rfl (fun _ hw=>(Hr isAgg3 (off:=0) (o:=2) (S.tm rfl) ((S.blk_mem (i:=1) (cells:=(Ex.enc Bh)) (b:=b1) (T:=55) rfl (Ij (e':=.blk b1 (Ex.enc Bh) 55))).kept hw) rfl)) fun a S=>Fj 12 S hsel rfl rfl rfl (by kernel_rfl) (by kernel_rfl) rfl (fun _ hw=>(Hk Qp (S.tm rfl))) ?_;clear S;intro a S
 refine Fj 13 S hsel rfl rfl rfl (by kernel_rfl) (by kernel_rfl) rfl (fun _ hw=>(Hr isAgg3 (off:=0) (o:=2) (S.tm rfl) ((S.blk_mem (i:=0) (cells:=(Ex.enc Bk)) (b:=b2) (T:=55) rfl (Ij (e':=.blk b2 (Ex.enc Bk) 55))).kept hw) rfl)) fun a S=>Gq 4 (by kernel_rfl) rfl (Fo S (fun _=>Fa (vs:=[sV Bh.Who,sV Bk.Who]) ⟨(S.tm rfl),(S.tm rfl),trivial⟩ call31) (Rf _ Bh.Who Bk.Who _ rfl) rfl ?_);clear S;intro v5 a w9 hv5 hk9 hn5 S
 subst hv5
 refine Ld (Hb hk9 (Gq 9 (by kernel_rfl) rfl (Fo S (fun _=>Fa (vs:=[sV Bh.Item,sV Bk.Item]) ⟨(S.tm rfl),(S.tm rfl),trivial⟩ call31) (Rf _ Bh.Item Bk.Item _ rfl) rfl ?_)));clear S;intro v6 a w10 hv6 hk10 hn6 S
 subst hv6
 refine Ld (Hb hk10 (Gq 14 (by kernel_rfl) rfl (Fo S (fun _=>Fa (vs:=[iV Bh.Heat,iV Bk.Heat]) ⟨(S.tm rfl),(S.tm rfl),trivial⟩ call57) (Rg _ Bh.Heat Bk.Heat _ rfl) rfl ?_)));clear S;intro v7 a w11 hv7 hk11 hn7 S
 subst hv7
 refine Ld (Hb hk11 (Gq 15 (by kernel_rfl) rfl (Fw S underlying22 sizeOf3 zeroValue3 rfl rfl (pv:=[(0,iV (Jp Bh.Who Bk.Who)),(1,iV (Jp Bh.Item Bk.Item)),(2,iV (Hd Bh.Heat Bk.Heat))]) ⟨rfl,(S.tm rfl),rfl,(S.tm rfl),rfl,(S.tm rfl),trivial⟩ (cs:=[iV (Jp Bh.Who Bk.Who),iV (Jp Bh.Item Bk.Item),iV (Hd Bh.Heat Bk.Heat)]) (by kernel_rfl) rfl ?_)));clear S;intro a w12 b4 hz4 hk12 S
 refine Ld (Hb hk12 (Gq 16 (by kernel_rfl) rfl (Fo S (fun _=>Fa (vs:=[.slice (some ⟨b4,0,none⟩) 3 3]) ⟨(S.tm rfl),trivial⟩ call56) (Xq _ (.slice (some ⟨b4,0,none⟩) 3 3) [(Jp Bh.Who Bk.Who),(Jp Bh.Item Bk.Item),(Hd Bh.Heat Bk.Heat)] (Lz Hi S (i:=0) rfl rfl rfl rfl ((Ij (e':=.blk b4 [iV (Jp Bh.Who Bk.Who),iV (Jp Bh.Item Bk.Item),iV (Hd Bh.Heat Bk.Heat)] 3)) _ rfl)) _ rfl) rfl ?_)));clear S;intro v8 a w13 hv8 hk13 hn8 S
 subst hv8
 refine Ld (Hb hk13 (Lc [17] hsel (by kernel_rfl) rfl ?_))
 clear hsel
 refine Gp S rfl (Ra (S.tm rfl)) rfl fun a S=>Kz ?_
 replace S:=S.n0.k1 4 rfl
 refine Tn (wp_ret ?_)
 subst h
 exact Gm S results49 rfl rfl
set_option maxRecDepth 20000 in
theorem Vz (w : World) (Ab : Value) (Ae : List An) (As : Slc (view w []) 5 Ab (Ae.map An.enc)) (Ad : Value) (Ar : List Ex) (Ap : Slc (view w []) 3 Ad (Ar.map Ex.enc)) (r : Int) (h : La Ae Ar = some r) :
    Calls prog 24 [Ab,Ad].toArray w (Ret w [] fun _ v _=>v = iV r):=by
 refine Fe func24 rfl ntmps24 rfl fun a S=>?_
 unfold La at h
 replace S:=S.k2 0 1 rfl
 refine Fr (Vk S rfl rfl fun a S=>Dl (Fs (Fr (Vm S rfl rfl ?_))));clear S;intro a S
 obtain ⟨r1,hr1,h⟩:=He h
 refine Fo S (fun _=>Fa (vs:=[Ab]) ⟨(S.tm rfl),trivial⟩ call41) (Py _ Ab Ae (As.mono (S.le_arg Fy)) _ hr1) rfl ?_;clear S;intro v1 a w1 hv1 hk1 hn1 S
 subst hv1
 refine Va S rfl rfl fun a S=>Dz (Vm S rfl rfl fun a S=>Vq S Qd rfl rfl rfl fun a S=>Dl (Fc h (S.tm rfl) (fun hb1 h=>?_) (fun hb1 h=>?_)))
 ·refine Fr (Vm S rfl rfl fun a S=>Va S rfl rfl fun a S=>Dl (wp_ret (Fk ?_)))
  obtain rfl:=Option.some.inj h
  exact Gm S results24 rfl rfl
 ·refine wp_skip (Tn (Fs (Fr (Vm S rfl rfl fun a S=>lv S (Gh Rz (S.tm rfl) (Ey Ap)) rfl fun a S=>Vq S Na rfl rfl rfl fun a S=>Dl (Fc h (S.tm rfl) (fun hb2 h=>?_) (fun hb2 h=>?_))))))
  ·refine Fr (Vk S rfl rfl fun a S=>Dl (wp_ret (Fk ?_)))
   obtain rfl:=Option.some.inj h
   exact Gm S results24 rfl rfl
  ·refine wp_skip (Tn (Fs (Fr (Vm S rfl rfl fun a S=>lv S (Gh Rz (S.tm rfl) (Ey Ap)) rfl fun a S=>lv S (Rm rfl) rfl fun a S=>Dl ?_))))
   replace S:=S.k5 0 1 17 18 19 rfl
   obtain ⟨j1,hj1,h⟩:=Ha h
   refine Gv (fun a w'=>j1 = some r ∧ Sx w [] nov [] [] 56 a w') ?_ ?_
   ·refine wp_block (Iv (fun (ys1 : List Ex) a w'=>∃ i1 : Nat,(∃ dn,Ar = dn ++ ys1 ∧ dn.length = i1) ∧ Ho Ae Ar j1 ys1 i1 = some r ∧ Sx w [] nov [] [(0,Ab),(1,Ad),(17,Ad),(18,iV (Ar.length : Int)),(19,iV (i1 : Int))] 56 a w') List.length Ar ⟨0,⟨[],rfl,rfl⟩,h,S.nf [] rfl (subR rfl)⟩ ?_)
    clear S h;rintro ys1 a w2 ⟨i1,⟨dn,hd1,hi1⟩,h,S⟩
    cases ys1 with
    | nil =>
     rw [Ho.eq_1] at h
     refine Fr (Vb S Gb rfl rfl rfl fun a S=>Ld ?_)
     replace S:=S.k6 0 1 17 18 19 20 rfl
     exact Tn (Fs (wp_cond_false ((S.tm rfl).trans (congrArg Value.bool (Jr hd1 hi1))) (wp_exit (Gk (Gk (Jc (Tn (⟨h,S.nf [] rfl trivial⟩))))))))
    | cons y1 ys1 =>
     rw [Ho.eq_2] at h
     refine Fr (Vb S Gb rfl rfl rfl fun a S=>Ld ?_)
     replace S:=S.k6 0 1 17 18 19 20 rfl
     refine Tn (Fs (wp_cond_true ((S.tm rfl).trans (congrArg Value.bool (Ih hd1 hi1))) (wp_skip (Tn (Fs (wp_block (Fr (Vm S rfl rfl ?_))))))));clear S;intro a S
     obtain ⟨b1,o1,hm1,hr2⟩:=Gd (a:=a) (x:=.tmp 17) (y:=.tmp 19) (ty:=0) Rz Ap (Jd hd1 hi1) rfl (S.tm rfl) (S.tm rfl)
     refine lv S (hr2 _) rfl ?_;clear S;intro a S
     clear hr2
     refine lv S (Ji isAgg55 sizeOf55 (off:=o1) (o:=0) (part:=(Ex.enc y1)) rfl rfl (S.tm rfl) (hm1.at S.emb0)) rfl fun a S=>Mw S zeroValue55 (cs:=[sV Ga,sV Ga,iV 0]) rfl rfl ?_;clear S;intro a w4 b2 hz1 hk2 S
     refine Va S rfl rfl fun a S=>Ku S (S.tm rfl) (S.tm rfl) (i:=0) (off:=0) rfl sizeOf55 (vs:=(Ex.enc y1)) rfl rfl rfl rfl ?_;clear S;intro w5 hk3 S
     refine Dl (Fs (Fr (Vf Qo S rfl rfl fun a S=>Vl isAgg9 0 S rfl rfl rfl rfl ?_)));clear S;intro a S
     obtain ⟨r2,hr3,h⟩:=He h
     refine Fo S (fun _=>Fa (vs:=[sV y1.Who]) ⟨(S.tm rfl),trivial⟩ call48) (Wl _ y1.Who _ hr3) rfl ?_;clear S;intro v2 a w6 hv2 hk4 hn2 S
     subst hv2
     refine Vu S Mo rfl rfl fun a S=>Ld ?_
     replace S:=(S.nl [.blk b2 (Ex.enc y1) 55] [true] rfl).k8 0 1 6 7 17 18 19 27 rfl
     refine Tn (Fc h (S.tm rfl) (fun hb3 h=>?_) (fun hb3 h=>?_))
     ·refine Fr (Vk S rfl rfl fun a S=>Dl (wp_ret (Fk (Hv (Fk (Fk (Hv ?_)))))))
      refine Fk (Fk ?_)
      obtain rfl:=Option.some.inj h
      exact Gm S results24 rfl rfl
     ·refine wp_skip (Tn (Fr (Vm S rfl rfl fun a S=>Vf Sb S rfl rfl fun a S=>Vl isAgg9 0 S rfl rfl rfl rfl fun a S=>Fo S (fun _=>Fa (vs:=[Ab,sV y1.Item]) ⟨(S.tm rfl),(S.tm rfl),trivial⟩ call42) (Sd _ Ab Ae (As.mono (S.le_arg Fy)) y1.Item _ rfl) rfl ?_)));clear S;intro v3 a w7 hv3 hk5 hn3 S
      subst hv3
      refine Va S rfl rfl fun a S=>Dl (Fs (Fr (Vm S rfl rfl fun a S=>Vq S Gb rfl rfl rfl fun a S=>Ld ?_)))
      replace S:=S.k9 0 1 6 7 8 17 18 19 33 rfl
      refine Tn (Fc h (S.tm rfl) (fun hb4 h=>?_) (fun hb4 h=>?_))
      ·refine Fr (Vk S rfl rfl fun a S=>Dl (wp_ret (Fk (Hv (Fk (Fk (Hv ?_)))))))
       refine Fk (Fk ?_)
       obtain rfl:=Option.some.inj h
       exact Gm S results24 rfl rfl
      ·refine wp_skip (Tn (Fs (Fs ?_)))
       obtain ⟨hc1,h⟩:=Ig h
       refine Hx [] ([]) Tryz.mixed S rfl (by kernel_rfl) ?_;clear S;intro w9 hk7 hsel S
       refine Fj 0 S hsel rfl rfl rfl (by kernel_rfl) (by kernel_rfl) rfl (fun _ hw=>(Hk Qp (S.tm rfl))) fun a S=>Fj 1 S hsel rfl rfl rfl (by kernel_rfl) (by kernel_rfl) rfl (fun _ hw=>(Hr isAgg3 (off:=0) (o:=2) (S.tm rfl) ((S.blk_mem (i:=0) (cells:=(Ex.enc y1)) (b:=b2) (T:=55) rfl (Ij (e':=.blk b2 (Ex.enc y1) 55))).kept hw) rfl)) fun a S=>Fj 2 S hsel rfl rfl rfl (by kernel_rfl) (by kernel_rfl) rfl (fun _ hw=>(Rm (S.tm rfl))) fun a S=>Fj 3 S hsel rfl rfl rfl (by kernel_rfl) (by kernel_rfl) rfl (fun _ hw=>(Rm (S.tm rfl))) ?_;clear S;intro a S
       obtain ⟨b4,o3,hm3,hr5⟩:=Gd (a:=a) (x:=.tmp 36) (y:=.tmp 37) (ty:=0) Il (As.mono (S.le_arg Fy)) (Ff hc1).1 (Ff hc1).2 (S.tm rfl) (S.tm rfl)
       refine Fj 4 S hsel rfl rfl rfl (by kernel_rfl) (by kernel_rfl) rfl (fun _ hw=>hr5 _) ?_;clear S;intro a S
       clear hr5
       refine Fj 5 S hsel rfl rfl rfl (by kernel_rfl) (by kernel_rfl) rfl (fun _ hw=>(Hk Qn (S.tm rfl))) fun a S=>Fj 6 S hsel rfl rfl rfl (by kernel_rfl) (by kernel_rfl) rfl (fun _ hw=>(Hr isAgg3 (off:=o3) (o:=1) (S.tm rfl) (hm3.kept hw) rfl)) fun a S=>Gq 7 (by kernel_rfl) rfl (Fo S (fun _=>Fa (vs:=[iV y1.Heat,iV 1,iV ((nth Ae (Ez Ae y1.Item)).Heats)]) ⟨(S.tm rfl),rfl,(S.tm rfl),trivial⟩ call25) (Od _ y1.Heat 1 ((nth Ae (Ez Ae y1.Item)).Heats) _ rfl) rfl ?_);clear S;intro v5 a w10 hv5 hk8 hn5 S
       subst hv5
       refine Ld (Hb hk8 (Lc [8] hsel (by kernel_rfl) rfl ?_))
       clear hsel
       refine Gp S rfl (Mo (S.tm rfl)) rfl fun a S=>Kz ?_
       replace S:=S.k8 0 1 6 7 17 18 19 42 rfl
       refine Tn (Fc h (S.tm rfl) (fun hb5 h=>?_) (fun hb5 h=>?_))
       ·refine Fr (Vk S rfl rfl fun a S=>Dl (wp_ret (Fk (Hv (Fk (Fk (Hv ?_)))))))
        refine Fk (Fk ?_)
        obtain rfl:=Option.some.inj h
        exact Gm S results24 rfl rfl
       ·refine wp_skip (Tn (Fs ?_))
        obtain ⟨j2,hj2,h⟩:=Ha h
        refine Gv (fun a w'=>∃ x1 : Bool,j2 x1 = some r ∧ Sx w [] nov [] [(0,Ab),(1,Ad),(17,Ad),(18,iV (Ar.length : Int)),(19,iV (i1 : Int)),(54,bV x1)] 56 a w') ?_ ?_
        ·rcases Bool.eq_false_or_eq_true (decide (0 < (i1 : Int))) with hb6 | hb6
         ·replace h:=Sy h hb6
          obtain ⟨hc2,h⟩:=Ig h
          refine Hx [] ([]) Tryz.mixed S rfl (by kernel_rfl) ?_;clear S;intro w13 hk10 hsel S
          refine Fj 0 S hsel rfl rfl rfl (by kernel_rfl) (by kernel_rfl) rfl (fun _ hw=>(Rm (S.tm rfl))) fun a S=>Fj 1 S hsel rfl rfl rfl (by kernel_rfl) (by kernel_rfl) rfl (fun _ hw=>(Na (S.tm rfl) rfl)) fun a S=>Fj 2 S hsel rfl rfl rfl (by kernel_rfl) (by kernel_rfl) rfl (fun _ hw=>(Rm (S.tm rfl))) fun a S=>Hh 3 S hsel rfl rfl rfl rfl hb6 rfl rfl (by kernel_rfl) (by kernel_rfl) rfl (fun _ hw=>(Rm (S.tm rfl))) fun a S=>Hh 4 S hsel rfl rfl rfl rfl hb6 rfl rfl (by kernel_rfl) (by kernel_rfl) rfl (fun _ hw=>(Rm (S.tm rfl))) fun a S=>Hh 5 S hsel rfl rfl rfl rfl hb6 rfl rfl (by kernel_rfl) (by kernel_rfl) rfl (fun _ hw=>(Kw (S.tm rfl) rfl)) ?_;clear S;intro a S
          obtain ⟨b6,o5,hm5,hr7⟩:=Gd (a:=a) (x:=.tmp 46) (y:=.tmp 48) (ty:=0) Rz (Ap.mono (S.le_arg Fy)) (Ff hc2).1 (Ff hc2).2 (S.tm rfl) (S.tm rfl)
          refine Hh 6 S hsel rfl rfl rfl rfl hb6 rfl rfl (by kernel_rfl) (by kernel_rfl) rfl (fun _ hw=>hr7 _) ?_;clear S;intro a S
          clear hr7
          refine Hh 7 S hsel rfl rfl rfl rfl hb6 rfl rfl (by kernel_rfl) (by kernel_rfl) rfl (fun _ hw=>(Ji isAgg55 sizeOf55 (off:=o5) (o:=0) (part:=(Ex.enc (nth Ar (W ((i1 : Int) - 1))))) rfl rfl (S.tm rfl) (hm5.kept hw))) fun a S=>Hh 8 S hsel rfl rfl rfl rfl hb6 rfl rfl (by kernel_rfl) (by kernel_rfl) rfl (fun _ hw=>(Ji isAgg55 sizeOf55 (off:=0) (o:=0) (part:=(Ex.enc y1)) rfl rfl (S.tm rfl) ((S.blk_mem (i:=0) (cells:=(Ex.enc y1)) (b:=b2) (T:=55) rfl (Ij (e':=.blk b2 (Ex.enc y1) 55))).kept hw))) fun a S=>Gq 9 (by kernel_rfl) rfl (Fz S rfl rfl rfl hb6 (Fo S (fun _=>Fa (vs:=[.agg (Ex.enc (nth Ar (W ((i1 : Int) - 1)))).toArray,.agg (Ex.enc y1).toArray]) ⟨(S.tm rfl),(S.tm rfl),trivial⟩ call49) (Uj _ (nth Ar (W ((i1 : Int) - 1))) y1 _ rfl) rfl ?_));clear S;intro v7 a w14 hv7 hk11 hn7 S
          subst hv7
          refine Ld (Hb hk11 (Lc [10,11] hsel (by kernel_rfl) rfl ?_))
          clear hsel
          refine Rp S rfl rfl rfl rfl hb6 (Tl S (Qe (S.tm rfl) rfl) rfl fun a S=>Gp S rfl (Rh hb6 (S.tm rfl) (S.tm rfl)) rfl fun a S=>Kz ?_)
          replace S:=S.n0.k14 0 1 17 18 19 46 47 48 49 50 51 52 53 54 rfl
          exact Tn (⟨decide (0 ≤ (Lm (nth Ar (W ((i1 : Int) - 1))) y1)),h,S.nf [] rfl (subR rfl)⟩)
         ·replace h:=Sz h hb6
          refine Hx [] ([]) Tryz.mixed S rfl (by kernel_rfl) ?_;clear S;intro w15 hk12 hsel S
          refine Lc [0,1,2,3,4,5,6,7,8,9,10,11] hsel (by kernel_rfl) rfl ?_
          clear hsel
          refine Gp S rfl (Rm (S.tm rfl)) rfl fun a S=>Gp S rfl (Na (S.tm rfl) rfl) rfl fun a S=>Gp S rfl (Rm (S.tm rfl)) rfl ?_;clear S;intro a S
          iterate 8 (refine Zn S rfl rfl rfl rfl (Ov hb6) rfl ?_ rfl;clear S;intro a S)
          refine Gp S rfl (Ri hb6 (S.tm rfl) rfl) rfl fun a S=>Kz ?_
          replace S:=S.n0.k6 0 1 17 18 19 54 rfl
          exact Tn (⟨false,h,S.nf [] rfl (subR rfl)⟩)
        clear S h;rintro a w11 ⟨x1,h,S⟩;rw [hj2] at h;clear hj2 j2
        refine Tn (Fc h (S.tm rfl) (fun hb7 h=>?_) (fun hb7 h=>?_))
        ·refine Fr (Vk S rfl rfl fun a S=>Dl (wp_ret (Hv (Fk (Fk (Hv (Fk ?_)))))))
         refine Fk ?_
         obtain rfl:=Option.some.inj h
         exact Gm S results24 rfl rfl
        ·exact wp_skip (Kb (Tn (Fg (Vq S Gx rfl rfl rfl fun a S=>Vm S rfl rfl fun a S=>Dl (⟨ys1,⟨i1 + 1,⟨_,(hd1).trans (List.append_cons _ _ _),by simp [hi1]⟩,h,S.nf [] rfl ⟨rfl,rfl,rfl,rfl,(congrArg (fun z=>some (Value.int .i64 z)) (Ii hd1 hi1 (Kl Ap))),trivial⟩⟩,Nat.lt_succ_self _⟩)))))
   clear S h;rintro a w3 ⟨h,S⟩;rw [hj1] at h;clear hj1 j1
   refine Tn (Fr (Vk S rfl rfl fun a S=>Dl (wp_ret ?_)))
   obtain rfl:=Option.some.inj h
   exact Gm S results24 rfl rfl
theorem Sv (w : World) (Ad : Value) (Ar : List An) (Ap : Slc (view w []) 5 Ad (Ar.map An.enc)) (Be : Int) (r : (List Fb)) (h : Mx Ar Be = some r) :
    Calls prog 27 [Ad,iV Be].toArray w (Ret w [] fun τ v _=>Pk τ 85 4 v r.length (r.flatMap Fb.enc)):=by
 refine Fe func27 rfl ntmps27 rfl fun a S=>?_
 unfold Mx at h
 replace S:=S.k2 0 1 rfl
 refine Fr (Vk S rfl rfl fun a S=>Dz (Vk S rfl rfl ?_));clear S;intro a S
 replace S:=S.nil 85 4
 refine Dz (Vm S rfl rfl fun a S=>Va S rfl rfl fun a S=>Dl (Fs (Fs (Fg ?_))))
 refine Vm S rfl rfl fun a S=>lv S (Gh Il (S.tm rfl) (Ey Ap)) rfl fun a S=>lv S (Rm rfl) rfl fun a S=>Dl ?_
 replace S:=(S.nl [.own (.slice none 0 0) 85 4 ([] : List Fb).length (([] : List Fb).flatMap Fb.enc)] [true] rfl).k5 5 6 11 12 13 rfl
 obtain ⟨j1,hj1,h⟩:=Ha h
 refine Gv (fun a w'=>∃ x1 : List Fb,∃ v1 : Value,j1 x1 = some r ∧ Sx w [] nov [.own v1 85 4 x1.length (x1.flatMap Fb.enc)] [(5,v1)] 54 a w') ?_ ?_
 ·refine wp_block (Iv (fun (ys1 : List An) a w'=>∃ i1 : Nat,∃ x1 : List Fb,∃ x2 : Int,∃ v1 : Value,(∃ dn,Ar = dn ++ ys1 ∧ dn.length = i1) ∧ Iy j1 ys1 i1 x1 x2 = some r ∧ Sx w [] nov [.own v1 85 4 x1.length (x1.flatMap Fb.enc)] [(5,v1),(6,iV x2),(11,Ad),(12,iV (Ar.length : Int)),(13,iV (i1 : Int))] 54 a w') List.length Ar ⟨0,([] : List Fb),Be,(.slice none 0 0),⟨[],rfl,rfl⟩,h,S.nf [true] rfl (subR rfl)⟩ ?_)
  clear S h;rintro ys1 a w1 ⟨i1,x1,x2,v1,⟨dn,hd1,hi1⟩,h,S⟩
  cases ys1 with
  | nil =>
   rw [Iy.eq_1] at h
   refine Fr (Vb S Gb rfl rfl rfl fun a S=>Ld ?_)
   replace S:=S.k6 5 6 11 12 13 14 rfl
   exact Tn (Fs (wp_cond_false ((S.tm rfl).trans (congrArg Value.bool (Jr hd1 hi1))) (wp_exit (Gk (Gk (Jc (Tn (⟨x1,v1,h,S.nf [true] rfl ⟨rfl,trivial⟩⟩))))))))
  | cons y1 ys1 =>
   rw [Iy.eq_2] at h
   refine Fr (Vb S Gb rfl rfl rfl fun a S=>Ld ?_)
   replace S:=S.k6 5 6 11 12 13 14 rfl
   refine Tn (Fs (wp_cond_true ((S.tm rfl).trans (congrArg Value.bool (Ih hd1 hi1))) (wp_skip (Tn (Fs (wp_block (Fs (Fg ?_))))))))
   obtain ⟨b1,o1,hm1,hr1⟩:=Gd (a:=a) (x:=.tmp 11) (y:=.tmp 13) (ty:=0) Il Ap (Jd hd1 hi1) rfl (S.tm rfl) (S.tm rfl)
   refine lv S (hr1 _) rfl ?_;clear S;intro a S
   clear hr1
   refine lv S (Ji isAgg41 sizeOf41 (off:=o1) (o:=0) (part:=(An.enc y1)) rfl rfl (S.tm rfl) (hm1.at S.emb0)) rfl fun a S=>Mw S zeroValue41 (cs:=[sV Ga,iV 0,iV 0,iV 0,iV 0]) rfl rfl ?_;clear S;intro a w3 b2 hz1 hk1 S
   refine Ku S (S.tm rfl) (S.tm rfl) (i:=0) (off:=0) rfl sizeOf41 (vs:=(An.enc y1)) rfl rfl rfl rfl ?_;clear S;intro w4 hk2 S
   refine Dl (Fs (Fr (Vk S rfl rfl fun a S=>Dl ?_)))
   replace S:=(S.nl [.blk b2 (An.enc y1) 41,.own v1 85 4 x1.length (x1.flatMap Fb.enc)] [true,true] rfl).k7 5 6 8 9 11 12 13 rfl
   obtain ⟨j2,hj2,h⟩:=Ha h
   refine Gv (fun a w'=>∃ x3 : List Fb,∃ x4 : Int,∃ v2 : Value,j2 x3 x4 = some r ∧ Sx w [] nov [.blk b2 (An.enc y1) 41,.own v2 85 4 x3.length (x3.flatMap Fb.enc)] [(5,v2),(6,iV x4),(8,.pointer (some ⟨b2,0,none⟩)),(11,Ad),(12,iV (Ar.length : Int)),(13,iV (i1 : Int))] 54 a w') ?_ ?_
   ·refine wp_block (Iv (fun (m1 : Nat) a w'=>∃ x3 : List Fb,∃ x4 : Int,∃ x5 : Int,∃ v2 : Value,Ix y1 j2 m1 x3 x4 x5 = some r ∧ Sx w [] nov [.blk b2 (An.enc y1) 41,.own v2 85 4 x3.length (x3.flatMap Fb.enc)] [(5,v2),(6,iV x4),(8,.pointer (some ⟨b2,0,none⟩)),(9,iV x5),(11,Ad),(12,iV (Ar.length : Int)),(13,iV (i1 : Int))] 54 a w') id ((y1.Heats - 1).toNat + 2) ⟨x1,x2,1,v1,h,S.nf [true,true] rfl (subR rfl)⟩ ?_)
    clear S h;rintro m1 a w5 ⟨x3,x4,x5,v2,h,S⟩
    cases m1 with
    | zero=>rw [Ix.eq_1] at h;cases h
    | succ m1 =>
     rw [Ix.eq_2] at h
     refine Fs (Fr (Vm S rfl rfl fun a S=>Vf Qn S rfl rfl fun a S=>Vl isAgg3 0 S rfl rfl rfl rfl fun a S=>Vb S Uu rfl rfl rfl fun a S=>Dl (Fc h (S.tm rfl) (fun hb1 h=>?_) (fun hb1 h=>?_))))
     ·refine wp_skip (Tn (Fs ?_))
      obtain ⟨j3,hj3,h⟩:=Ha h
      refine Gv (fun a w'=>∃ x6 : List Fb,∃ x7 : Int,∃ v3 : Value,j3 x6 x7 = some r ∧ Sx w [] nov [.blk b2 (An.enc y1) 41,.own v3 85 4 x6.length (x6.flatMap Fb.enc)] [(5,v3),(6,iV x7),(8,.pointer (some ⟨b2,0,none⟩)),(9,iV x5),(11,Ad),(12,iV (Ar.length : Int)),(13,iV (i1 : Int))] 54 a w') ?_ ?_
      ·refine wp_block (Fr (Vm S rfl rfl fun a S=>Vf Mz S rfl rfl fun a S=>Vl isAgg9 0 S rfl rfl rfl rfl ?_));clear S;intro a S
       iterate 3 (refine Vm S rfl rfl ?_;clear S;intro a S)
       refine Vf Sa S rfl rfl fun a S=>Vl isAgg3 0 S rfl rfl rfl rfl fun a S=>Vb S Gx rfl rfl rfl fun a S=>lv S (Tj bt_83 (pv:=[(0,iV x4),(1,iV (W (x4 + y1.Long)))]) ⟨rfl,(S.tm rfl),rfl,(S.tm rfl),trivial⟩ (cs:=[iV x4,iV (W (x4 + y1.Long))]) (by kernel_rfl)) rfl fun a S=>lv S (Tj bt_85 (pv:=[(0,sV y1.Key),(1,iV x5),(2,.agg #[iV x4,iV (W (x4 + y1.Long))])]) ⟨rfl,(S.tm rfl),rfl,(S.tm rfl),rfl,(S.tm rfl),trivial⟩ (cs:=[sV y1.Key,iV x5,iV x4,iV (W (x4 + y1.Long))]) (by kernel_rfl)) rfl fun a S=>Fw S underlying59 sizeOf85 zeroValue85 rfl rfl (pv:=[(0,.agg #[sV y1.Key,iV x5,iV x4,iV (W (x4 + y1.Long))])]) ⟨rfl,(S.tm rfl),trivial⟩ (cs:=[sV y1.Key,iV x5,iV x4,iV (W (x4 + y1.Long))]) (by kernel_rfl) rfl ?_;clear S;intro a w8 b3 hz2 hk3 S
       obtain ⟨hc1,h⟩:=Ig h
       refine Nq Qk Fb.enc_ok S (S.tm rfl) (i:=2) rfl (S.tm rfl) (j:=0) rfl (ys:=[(Fb.mk y1.Key x5 (Jj.mk x4 (W (x4 + y1.Long))))]) rfl rfl rfl rfl (by have:=Ky hc1;omega) rfl ?_;clear S;intro v4 a w9 hk4 S
       refine Va S rfl rfl fun a S=>Ld ?_
       replace S:=(S.nl [.blk b2 (An.enc y1) 41,.own v4 85 4 (x3 ++ [(Fb.mk y1.Key x5 (Jj.mk x4 (W (x4 + y1.Long))))]).length ((x3 ++ [(Fb.mk y1.Key x5 (Jj.mk x4 (W (x4 + y1.Long))))]).flatMap Fb.enc)] [false,true,true] rfl).k7 5 6 8 9 11 12 13 rfl
       refine Tn (Fr (Vm S rfl rfl fun a S=>Vf Sa S rfl rfl fun a S=>Vl isAgg3 0 S rfl rfl rfl rfl fun a S=>Vb S Gx rfl rfl rfl fun a S=>Va S rfl rfl fun a S=>Dl (Fs ?_)))
       refine Fg (Vm S rfl rfl fun a S=>Vf Qn S rfl rfl fun a S=>Vl isAgg3 0 S rfl rfl rfl rfl fun a S=>Vb S Gb rfl rfl rfl fun a S=>Ld ?_)
       replace S:=S.k8 5 6 8 9 11 12 13 43 rfl
       refine Tn ?_
       obtain ⟨j4,hj4,h⟩:=Ha h
       refine Gv (fun a w'=>∃ x8 : Int,j4 x8 = some r ∧ Sx w [] nov [.blk b2 (An.enc y1) 41,.own v4 85 4 (x3 ++ [(Fb.mk y1.Key x5 (Jj.mk x4 (W (x4 + y1.Long))))]).length ((x3 ++ [(Fb.mk y1.Key x5 (Jj.mk x4 (W (x4 + y1.Long))))]).flatMap Fb.enc)] [(5,v4),(6,iV x8),(8,.pointer (some ⟨b2,0,none⟩)),(9,iV x5),(11,Ad),(12,iV (Ar.length : Int)),(13,iV (i1 : Int))] 54 a w') ?_ ?_
       ·refine Fc h (S.tm rfl) (fun hb2 h=>?_) (fun hb2 h=>?_)
        ·exact Fg (Vm S rfl rfl fun a S=>Vf Ty S rfl rfl fun a S=>Vl isAgg3 0 S rfl rfl rfl rfl fun a S=>Vb S Gx rfl rfl rfl fun a S=>Va S rfl rfl fun a S=>Dl (⟨W ((W (x4 + y1.Long)) + y1.Gap),h,S.nf [true,true] rfl (subR rfl)⟩))
        ·exact wp_skip (Tn (⟨W (x4 + y1.Long),h,S.nf [true,true] rfl (subR rfl)⟩))
       clear S h;rintro a w10 ⟨x8,h,S⟩;rw [hj4] at h;clear hj4 j4
       exact Kb (Tn (⟨(x3 ++ [(Fb.mk y1.Key x5 (Jj.mk x4 (W (x4 + y1.Long))))]),x8,v4,h,S.nf [true,true] rfl (subR rfl)⟩))
      clear S h;rintro a w7 ⟨x6,x7,v3,h,S⟩;rw [hj3] at h;clear hj3 j3
      exact Tn (Fg (Vm S rfl rfl fun a S=>Vq S Gx rfl rfl rfl fun a S=>Va S rfl rfl fun a S=>Dl (⟨m1,⟨x6,x7,W (x5 + 1),v3,h,S.nf [true,true] rfl ⟨rfl,rfl,rfl,rfl,rfl,rfl,rfl,trivial⟩⟩,Nat.lt_succ_self _⟩)))
     ·exact wp_exit (Gk (Gk (Jc (Tn (⟨x3,x4,v2,h,S.nf [true,true] rfl (subR rfl)⟩)))))
   clear S h;rintro a w6 ⟨x3,x4,v2,h,S⟩;rw [hj2] at h;clear hj2 j2
   refine Tn (Fg (Vm S rfl rfl fun a S=>Vf Vg S rfl rfl fun a S=>Vl isAgg3 0 S rfl rfl rfl rfl fun a S=>Vb S Gx rfl rfl rfl fun a S=>Va S rfl rfl fun a S=>Ld (Kb (Tn (Fg ?_)))))
   exact Vq S Gx rfl rfl rfl fun a S=>Vm S rfl rfl fun a S=>Dl (⟨ys1,⟨i1 + 1,x3,W (x4 + y1.Break),v2,⟨_,(hd1).trans (List.append_cons _ _ _),by simp [hi1]⟩,h,S.nf [false,true] rfl ⟨rfl,rfl,rfl,rfl,(congrArg (fun z=>some (Value.int .i64 z)) (Ii hd1 hi1 (Kl Ap))),trivial⟩⟩,Nat.lt_succ_self _⟩)
 clear S h;rintro a w2 ⟨x1,v1,h,S⟩;rw [hj1] at h;clear hj1 j1
 refine Tn (Fr (Vm S rfl rfl fun a S=>Va S rfl rfl fun a S=>Dl (wp_ret ?_)))
 obtain rfl:=Option.some.inj h
 exact Gm S results27 rfl (Pu S (i:=0) rfl rfl)
theorem Tm (w : World) (Ad : Value) (Ar : List Fb) (Ap : Slc (view w []) 4 Ad (Ar.map Fb.enc)) (Be : Int) (r : Int) (h : Qh Ar Be = some r) :
    Calls prog 26 [Ad,iV Be].toArray w (Ret w [] fun _ v _=>v = iV r):=by
 refine Fe func26 rfl ntmps26 rfl fun a S=>?_
 unfold Qh at h
 replace S:=S.k2 0 1 rfl
 refine Fr (Vk S rfl rfl fun a S=>Dl (Fs (Fr (Vm S rfl rfl fun a S=>lv S (Gh Qk (S.tm rfl) (Ey Ap)) rfl fun a S=>Vq S Px rfl rfl rfl ?_))));clear S;intro a S
 refine Dl (Fc h (S.tm rfl) (fun hb1 h=>?_) (fun hb1 h=>?_))
 ·refine Fr (Vm S rfl rfl fun a S=>Va S rfl rfl fun a S=>Dl (wp_ret (Fk ?_)))
  obtain rfl:=Option.some.inj h
  exact Gm S results26 rfl rfl
 ·refine wp_skip (Tn (Fr (Vm S rfl rfl fun a S=>Vm S rfl rfl fun a S=>lv S (Gh Qk (S.tm rfl) (Ey Ap)) rfl fun a S=>Vq S Kw rfl rfl rfl ?_)));clear S;intro a S
  obtain ⟨hc1,h⟩:=Ig h
  obtain ⟨b1,o1,hm1,hr1⟩:=Gd (a:=a) (x:=.tmp 9) (y:=.tmp 12) (ty:=0) Qk Ap (Ff hc1).1 (Ff hc1).2 (S.tm rfl) (S.tm rfl)
  refine lv S (hr1 _) rfl ?_;clear S;intro a S
  clear hr1
  refine Vf Wx S rfl rfl fun a S=>Vf Yt S rfl rfl fun a S=>lv S (Hr isAgg3 (off:=o1) (o:=3) (S.tm rfl) (hm1.at S.emb0) rfl) rfl fun a S=>Va S rfl rfl fun a S=>Dl (wp_ret ?_)
  obtain rfl:=Option.some.inj h
  exact Gm S results26 rfl rfl
theorem Xg (w : World) (Bh : An) (Bk : An) (r : Int) (h : Ln Bh Bk = r) :
    Calls prog 30 [.agg (An.enc Bh).toArray,.agg (An.enc Bk).toArray].toArray w (Ret w [] fun _ v _=>v = iV r):=by
 refine Fe func30 rfl ntmps30 rfl fun a S=>?_
 unfold Ln at h
 replace S:=S.k2 0 1 rfl
 refine Fr (Pt S (S.tm rfl) (cs:=(An.enc Bh)) rfl rfl ?_);clear S;intro a w1 b1 hz1 hk1 S
 refine Pt S (S.tm rfl) (cs:=(An.enc Bk)) rfl rfl ?_;clear S;intro a w2 b2 hz2 hk2 S
 refine Vk S rfl rfl fun a S=>Dz (Vf Mz S rfl rfl fun a S=>Vl isAgg9 1 S rfl rfl rfl rfl fun a S=>Vf Mz S rfl rfl fun a S=>Vl isAgg9 0 S rfl rfl rfl rfl fun a S=>Fo S (fun _=>Fa (vs:=[sV Bh.Key,sV Bk.Key]) ⟨(S.tm rfl),(S.tm rfl),trivial⟩ call31) (Rf _ Bh.Key Bk.Key _ rfl) rfl ?_);clear S;intro v1 a w3 hv1 hk3 hn1 S
 subst hv1
 refine Va S rfl rfl fun a S=>Dl (wp_ret ?_)
 subst h
 exact Gm S results30 rfl rfl
set_option maxRecDepth 20000 in
theorem Nm (w : World) (Ai : Value) (Bi : List An) (Dc : (LEnt.own Ai 41 5 Bi.length (Bi.flatMap An.enc)).holds w) (Bh : Int) (Bk : Int) (r : (List An)) (h : Hl Bi Bh Bk = some r) :
    Calls prog 71 [Ai,iV Bh,iV Bk,.func (.func 30) #[] #[]].toArray w (Ret w (Ai.ownBlock.toList) fun _ v w'=>(LEnt.own Ai 41 5 r.length (r.flatMap An.enc)).holds w' ∧ v = .tuple #[]):=by
 refine Lp (Ai.ownBlock.toList) [.own Ai 41 5 Bi.length (Bi.flatMap An.enc)] func71 rfl ntmps71 rfl (fun e he=>by simp only [List.mem_singleton] at he;subst he;exact Dc) (Ml _) (Of _) fun a S=>?_
 unfold Hl at h
 replace S:=(S.nl [.own Ai 41 5 Bi.length (Bi.flatMap An.enc)] [true] rfl).k4 0 1 2 3 rfl
 refine Fr (Vm S rfl rfl fun a S=>Vq S Gx rfl rfl rfl fun a S=>Va S rfl rfl fun a S=>Dl ?_)
 replace S:=S.k5 0 1 2 3 8 rfl
 obtain ⟨j1,hj1,h⟩:=Ha h
 refine Gv (fun a w'=>∃ x1 : List An,j1 x1 = some r ∧ Sx w (Ai.ownBlock.toList) nov [.own Ai 41 5 x1.length (x1.flatMap An.enc)] [] 53 a w') ?_ ?_
 ·refine wp_block (Iv (fun (m1 : Nat) a w'=>∃ x1 : List An,∃ x2 : Int,Fx Bk Bh j1 m1 x1 x2 = some r ∧ Sx w (Ai.ownBlock.toList) nov [.own Ai 41 5 x1.length (x1.flatMap An.enc)] [(0,Ai),(1,iV Bh),(2,iV Bk),(3,.func (.func 30) #[] #[]),(8,iV x2)] 53 a w') id ((Bk - (W (Bh + 1))).toNat + 2) ⟨Bi,W (Bh + 1),h,S.nf [true] rfl (subR rfl)⟩ ?_)
  clear S h;rintro m1 a w1 ⟨x1,x2,h,S⟩
  cases m1 with
  | zero=>rw [Fx.eq_1] at h;cases h
  | succ m1 =>
   rw [Fx.eq_2] at h
   refine Fs (Fr (Vm S rfl rfl fun a S=>Vm S rfl rfl fun a S=>Vb S Gb rfl rfl rfl fun a S=>Dl (Fc h (S.tm rfl) (fun hb1 h=>?_) (fun hb1 h=>?_))))
   ·refine wp_skip (Tn (Fs (wp_block (Fr (Vm S rfl rfl fun a S=>Va S rfl rfl fun a S=>Dl ?_)))))
    replace S:=S.k6 0 1 2 3 8 9 rfl
    obtain ⟨j2,hj2,h⟩:=Ha h
    refine Gv (fun a w'=>∃ x3 : List An,j2 x3 = some r ∧ Sx w (Ai.ownBlock.toList) nov [.own Ai 41 5 x3.length (x3.flatMap An.enc)] [(0,Ai),(1,iV Bh),(2,iV Bk),(3,.func (.func 30) #[] #[]),(8,iV x2)] 53 a w') ?_ ?_
    ·refine wp_block (Iv (fun (m2 : Nat) a w'=>∃ x3 : List An,∃ x4 : Int,Fp Bh j2 m2 x3 x4 = some r ∧ Sx w (Ai.ownBlock.toList) nov [.own Ai 41 5 x3.length (x3.flatMap An.enc)] [(0,Ai),(1,iV Bh),(2,iV Bk),(3,.func (.func 30) #[] #[]),(8,iV x2),(9,iV x4)] 53 a w') id ((x2 - Bh).toNat + 2) ⟨x1,x2,h,S.nf [true] rfl (subR rfl)⟩ ?_)
     clear S h;rintro m2 a w3 ⟨x3,x4,h,S⟩
     cases m2 with
     | zero=>rw [Fp.eq_1] at h;cases h
     | succ m2 =>
      rw [Fp.eq_2] at h
      refine Fs (Fs ?_)
      obtain ⟨j3,hj3,h⟩:=Ha h
      refine Gv (fun a w'=>∃ x5 : Bool,j3 x5 = some r ∧ Sx w (Ai.ownBlock.toList) nov [.own Ai 41 5 x3.length (x3.flatMap An.enc)] [(0,Ai),(1,iV Bh),(2,iV Bk),(3,.func (.func 30) #[] #[]),(8,iV x2),(9,iV x4),(34,bV x5)] 53 a w') ?_ ?_
      ·rcases Bool.eq_false_or_eq_true (decide (Bh < x4)) with hb2 | hb2
       ·replace h:=Sy h hb2
        obtain ⟨hc1,h⟩:=Ig h
        obtain ⟨hc2,h⟩:=Ig h
        refine Hx [] ([]) Tryz.mixed S rfl (by kernel_rfl) ?_;clear S;intro w7 hk2 hsel S
        refine Fj 0 S hsel rfl rfl rfl (by kernel_rfl) (by kernel_rfl) rfl (fun _ hw=>(Rm (S.tm rfl))) fun a S=>Fj 1 S hsel rfl rfl rfl (by kernel_rfl) (by kernel_rfl) rfl (fun _ hw=>(Rm (S.tm rfl))) fun a S=>Fj 2 S hsel rfl rfl rfl (by kernel_rfl) (by kernel_rfl) rfl (fun _ hw=>(Na (S.tm rfl) (S.tm rfl))) fun a S=>Fj 3 S hsel rfl rfl rfl (by kernel_rfl) (by kernel_rfl) rfl (fun _ hw=>(Rm (S.tm rfl))) fun a S=>Hh 4 S hsel rfl rfl rfl rfl hb2 rfl rfl (by kernel_rfl) (by kernel_rfl) rfl (fun _ hw=>(Rm (S.tm rfl))) fun a S=>Hh 5 S hsel rfl rfl rfl rfl hb2 rfl rfl (by kernel_rfl) (by kernel_rfl) rfl (fun _ hw=>(Rm (S.tm rfl))) fun a S=>Hh 6 S hsel rfl rfl rfl rfl hb2 rfl rfl (by kernel_rfl) (by kernel_rfl) rfl (fun _ hw=>(Rm (S.tm rfl))) ?_;clear S;intro a S
        obtain ⟨b3,hg3,hr3⟩:=Hn (a:=a) (x:=.tmp 23) (y:=.tmp 24) (ty:=0) Il An.enc_ok S (i:=0) rfl (Ff hc1).1 (Ff hc1).2 (S.tm rfl) (S.tm rfl)
        refine Hh 7 S hsel rfl rfl rfl rfl hb2 rfl rfl (by kernel_rfl) (by kernel_rfl) rfl (fun _ hw=>(hr3 _)) ?_;clear S;intro a S
        clear hr3
        refine Hh 8 S hsel rfl rfl rfl rfl hb2 rfl rfl (by kernel_rfl) (by kernel_rfl) rfl (fun _ hw=>(Ji isAgg41 sizeOf41 (off:=x4.toNat * 5) (o:=0) (part:=(An.enc (nth x3 x4))) rfl rfl (S.tm rfl) ((Qa An.enc_ok S (i:=0) rfl hg3 (Ff hc1).1 (Ij (e':=.own Ai 41 5 x3.length (x3.flatMap An.enc)))).kept hw))) fun a S=>Hh 9 S hsel rfl rfl rfl rfl hb2 rfl rfl (by kernel_rfl) (by kernel_rfl) rfl (fun _ hw=>(Rm (S.tm rfl))) fun a S=>Hh 10 S hsel rfl rfl rfl rfl hb2 rfl rfl (by kernel_rfl) (by kernel_rfl) rfl (fun _ hw=>(Rm (S.tm rfl))) fun a S=>Hh 11 S hsel rfl rfl rfl rfl hb2 rfl rfl (by kernel_rfl) (by kernel_rfl) rfl (fun _ hw=>(Kw (S.tm rfl) rfl)) ?_;clear S;intro a S
        obtain ⟨b4,hg4,hr4⟩:=Hn (a:=a) (x:=.tmp 27) (y:=.tmp 29) (ty:=0) Il An.enc_ok S (i:=0) rfl (Ff hc2).1 (Ff hc2).2 (S.tm rfl) (S.tm rfl)
        refine Hh 12 S hsel rfl rfl rfl rfl hb2 rfl rfl (by kernel_rfl) (by kernel_rfl) rfl (fun _ hw=>(hr4 _)) ?_;clear S;intro a S
        clear hr4
        refine Hh 13 S hsel rfl rfl rfl rfl hb2 rfl rfl (by kernel_rfl) (by kernel_rfl) rfl (fun _ hw=>(Ji isAgg41 sizeOf41 (off:=((W (x4 - 1)).toNat) * 5) (o:=0) (part:=(An.enc (nth x3 (W (x4 - 1))))) rfl rfl (S.tm rfl) ((Qa An.enc_ok S (i:=0) rfl hg4 (Ff hc2).1 (Ij (e':=.own Ai 41 5 x3.length (x3.flatMap An.enc)))).kept hw))) fun a S=>Gq 14 (by kernel_rfl) rfl (Fz S rfl rfl rfl hb2 (Fo S (fun _=>Pb (cap:=[]) (S.tm rfl) (vs:=[.agg (An.enc (nth x3 x4)).toArray,.agg (An.enc (nth x3 (W (x4 - 1)))).toArray]) ⟨(S.tm rfl),(S.tm rfl),trivial⟩ call30) (Xg _ (nth x3 x4) (nth x3 (W (x4 - 1))) _ rfl) rfl ?_));clear S;intro v2 a w8 hv2 hk3 hn2 S
        subst hv2
        refine Ld (Hb hk3 (Lc [15,16] hsel (by kernel_rfl) rfl ?_))
        clear hsel
        refine Rp S rfl rfl rfl rfl hb2 (Tl S (Gb (S.tm rfl) rfl) rfl fun a S=>Gp S rfl (Rh hb2 (S.tm rfl) (S.tm rfl)) rfl fun a S=>Kz ?_)
        replace S:=S.nk [.own Ai 41 5 x3.length (x3.flatMap An.enc)] [(0,Ai),(1,iV Bh),(2,iV Bk),(3,.func (.func 30) #[] #[]),(8,iV x2),(9,iV x4),(22,.func (.func 30) #[] #[]),(23,Ai),(24,iV x4),(25,.pointer (some ⟨b3,x4.toNat * 5,none⟩)),(26,.agg (An.enc (nth x3 x4)).toArray),(27,Ai),(28,iV x4),(29,iV (W (x4 - 1))),(30,.pointer (some ⟨b4,((W (x4 - 1)).toNat) * 5,none⟩)),(31,.agg (An.enc (nth x3 (W (x4 - 1)))).toArray),(32,iV (Ln (nth x3 x4) (nth x3 (W (x4 - 1))))),(33,bV (decide ((Ln (nth x3 x4) (nth x3 (W (x4 - 1)))) < 0))),(34,bV (decide ((Ln (nth x3 x4) (nth x3 (W (x4 - 1)))) < 0)))] [true] rfl (subR rfl)
        exact Tn (⟨decide ((Ln (nth x3 x4) (nth x3 (W (x4 - 1)))) < 0),h,S.nf [true] rfl (subR rfl)⟩)
       ·replace h:=Sz h hb2
        refine Hx [] ([]) Tryz.mixed S rfl (by kernel_rfl) ?_;clear S;intro w9 hk4 hsel S
        refine Lc [0,1,2,3,4,5,6,7,8,9,10,11,12,13,14,15,16] hsel (by kernel_rfl) rfl ?_
        clear hsel
        refine Gp S rfl (Rm (S.tm rfl)) rfl fun a S=>Gp S rfl (Rm (S.tm rfl)) rfl fun a S=>Gp S rfl (Na (S.tm rfl) (S.tm rfl)) rfl fun a S=>Gp S rfl (Rm (S.tm rfl)) rfl ?_;clear S;intro a S
        iterate 12 (refine Zn S rfl rfl rfl rfl (Ov hb2) rfl ?_ rfl;clear S;intro a S)
        refine Gp S rfl (Ri hb2 (S.tm rfl) rfl) rfl fun a S=>Kz ?_
        replace S:=S.k7 0 1 2 3 8 9 34 rfl
        exact Tn (⟨false,h,S.nf [true] rfl (subR rfl)⟩)
      clear S h;rintro a w5 ⟨x5,h,S⟩;rw [hj3] at h;clear hj3 j3
      refine Tn (Fc h (S.tm rfl) (fun hb3 h=>?_) (fun hb3 h=>?_))
      ·refine wp_skip (Tn (Fs (wp_block ?_)))
       obtain ⟨hc3,h⟩:=Ig h
       obtain ⟨hc4,h⟩:=Ig h
       obtain ⟨hc5,h⟩:=Ig h
       obtain ⟨hc6,h⟩:=Ig h
       refine Hx [15,17] ([]) Tryz.mixed S rfl (by kernel_rfl) ?_;clear S;intro w14 hk9 hsel S
       refine Hs 0 S hsel rfl rfl (by kernel_rfl) (by kernel_rfl) rfl (fun _=>(Rm (S.tm rfl))) fun a S=>Hs 1 S hsel rfl rfl (by kernel_rfl) (by kernel_rfl) rfl (fun _=>(Rm (S.tm rfl))) fun a S=>Hs 2 S hsel rfl rfl (by kernel_rfl) (by kernel_rfl) rfl (fun _=>(Rm (S.tm rfl))) fun a S=>Hs 3 S hsel rfl rfl (by kernel_rfl) (by kernel_rfl) rfl (fun _=>(Rm (S.tm rfl))) fun a S=>Hs 4 S hsel rfl rfl (by kernel_rfl) (by kernel_rfl) rfl (fun _=>(Kw (S.tm rfl) rfl)) fun a S=>Hs 5 S hsel rfl rfl (by kernel_rfl) (by kernel_rfl) rfl (fun _=>(Rm (S.tm rfl))) fun a S=>Hs 6 S hsel rfl rfl (by kernel_rfl) (by kernel_rfl) rfl (fun _=>(Rm (S.tm rfl))) fun a S=>Hs 7 S hsel rfl rfl (by kernel_rfl) (by kernel_rfl) rfl (fun _=>(Kw (S.tm rfl) rfl)) ?_;clear S;intro a S
       obtain ⟨b9,hg9,hr9⟩:=Hn (a:=a) (x:=.tmp 42) (y:=.tmp 44) (ty:=0) Il An.enc_ok S (i:=0) rfl (Ff hc3).1 (Ff hc3).2 (S.tm rfl) (S.tm rfl)
       refine Hs 8 S hsel rfl rfl (by kernel_rfl) (by kernel_rfl) rfl (fun _=>(hr9 _)) ?_;clear S;intro a S
       clear hr9
       refine Fj 9 S hsel rfl (by kernel_rfl) (by kernel_rfl) (by kernel_rfl) (by kernel_rfl) rfl (fun _ hw=>(Ji isAgg41 sizeOf41 (off:=((W (x4 - 1)).toNat) * 5) (o:=0) (part:=(An.enc (nth x3 (W (x4 - 1))))) rfl rfl (S.tm rfl) ((Qa An.enc_ok S (i:=0) rfl hg9 (Ff hc3).1 (Ij (e':=.own Ai 41 5 x3.length (x3.flatMap An.enc)))).kept hw))) fun a S=>Hs 10 S hsel rfl rfl (by kernel_rfl) (by kernel_rfl) rfl (fun _=>(Rm (S.tm rfl))) fun a S=>Hs 11 S hsel rfl rfl (by kernel_rfl) (by kernel_rfl) rfl (fun _=>(Rm (S.tm rfl))) ?_;clear S;intro a S
       obtain ⟨b10,hg10,hr10⟩:=Hn (a:=a) (x:=.tmp 47) (y:=.tmp 48) (ty:=0) Il An.enc_ok S (i:=0) rfl (Ff hc4).1 (Ff hc4).2 (S.tm rfl) (S.tm rfl)
       refine Hs 12 S hsel rfl rfl (by kernel_rfl) (by kernel_rfl) rfl (fun _=>(hr10 _)) ?_;clear S;intro a S
       clear hr10
       refine Fj 13 S hsel rfl (by kernel_rfl) (by kernel_rfl) (by kernel_rfl) (by kernel_rfl) rfl (fun _ hw=>(Ji isAgg41 sizeOf41 (off:=x4.toNat * 5) (o:=0) (part:=(An.enc (nth x3 x4))) rfl rfl (S.tm rfl) ((Qa An.enc_ok S (i:=0) rfl hg10 (Ff hc4).1 (Ij (e':=.own Ai 41 5 x3.length (x3.flatMap An.enc)))).kept hw))) ?_;clear S;intro a S
       obtain ⟨b11,hg11,hr11⟩:=Hn (a:=a) (x:=.tmp 37) (y:=.tmp 38) (ty:=0) Il An.enc_ok S (i:=0) rfl (Ff hc5).1 (Ff hc5).2 (S.tm rfl) (S.tm rfl)
       refine Hs 14 S hsel rfl rfl (by kernel_rfl) (by kernel_rfl) rfl (fun _=>(hr11 _)) ?_;clear S;intro a S
       clear hr11
       refine Uy 15 (Ai.ownBlock.toList) rfl (by kernel_rfl) rfl (Ki (c:=0) (j:=x4.toNat) (nth x3 (W (x4 - 1))) An.enc_ok S (S.tm rfl) (S.tm rfl) (i:=0) rfl hg11 (Ff hc5).1 sizeOf41 (vs:=[sV ((nth x3 (W (x4 - 1))).Key),iV ((nth x3 (W (x4 - 1))).Heats),iV ((nth x3 (W (x4 - 1))).Long),iV ((nth x3 (W (x4 - 1))).Gap),iV ((nth x3 (W (x4 - 1))).Break)]) rfl rfl rfl rfl rfl ?_);clear S;intro w16 hk11 S
       refine Ld (Vc ?_)
       obtain ⟨b12,hg12,hr12⟩:=Hn (a:=a) (x:=.tmp 39) (y:=.tmp 41) (ty:=0) Il An.enc_ok S (i:=0) rfl (Ff hc6).1 (Ff hc6).2 (S.tm rfl) (S.tm rfl)
       refine Fj 16 S hsel rfl rfl rfl (by kernel_rfl) (by kernel_rfl) rfl (fun _ hw=>(hr12 _)) ?_;clear S;intro a S
       clear hr12
       refine Gq 17 (by kernel_rfl) rfl (Ki (c:=0) (j:=(W (x4 - 1)).toNat) (nth x3 x4) An.enc_ok S (S.tm rfl) (S.tm rfl) (i:=0) rfl hg12 (Ff hc6).1 sizeOf41 (vs:=[sV ((nth x3 x4).Key),iV ((nth x3 x4).Heats),iV ((nth x3 x4).Long),iV ((nth x3 x4).Gap),iV ((nth x3 x4).Break)]) rfl rfl rfl rfl rfl ?_);clear S;intro w18 hk13 S
       refine Ld (Hb hk13 (Ss (by kernel_rfl) ?_))
       clear hsel
       replace S:=(S.nl [.own Ai 41 5 ((x3.set x4.toNat (nth x3 (W (x4 - 1)))).set ((W (x4 - 1)).toNat) (nth x3 x4)).length (((x3.set x4.toNat (nth x3 (W (x4 - 1)))).set ((W (x4 - 1)).toNat) (nth x3 x4)).flatMap An.enc)] [true] rfl).k6 0 1 2 3 8 9 rfl
       exact Kb (Tn (Fg (Vm S rfl rfl fun a S=>Vq S Kw rfl rfl rfl fun a S=>Va S rfl rfl fun a S=>Dl (⟨m2,⟨((x3.set x4.toNat (nth x3 (W (x4 - 1)))).set ((W (x4 - 1)).toNat) (nth x3 x4)),W (x4 - 1),h,S.nf [true] rfl ⟨rfl,rfl,rfl,rfl,rfl,rfl,trivial⟩⟩,Nat.lt_succ_self _⟩))))
      ·exact wp_exit (Gk (Gk (Jc (Tn (⟨x3,h,S.nf [true] rfl (subR rfl)⟩)))))
    clear S h;rintro a w4 ⟨x3,h,S⟩;rw [hj2] at h;clear hj2 j2
    exact Kb (Tn (Fg (Vm S rfl rfl fun a S=>Vq S Gx rfl rfl rfl fun a S=>Va S rfl rfl fun a S=>Dl (⟨m1,⟨x3,W (x2 + 1),h,S.nf [true] rfl ⟨rfl,rfl,rfl,rfl,rfl,trivial⟩⟩,Nat.lt_succ_self _⟩))))
   ·exact wp_exit (Gk (Gk (Jc (Tn (⟨x1,h,S.nf [true] rfl trivial⟩)))))
 clear S h;rintro a w2 ⟨x1,h,S⟩;rw [hj1] at h;clear hj1 j1
 obtain rfl:=Option.some.inj h
 exact Tz S results71 ⟨(S.holds _ (List.mem_of_getElem? (i:=0) rfl)),rfl⟩
theorem Ou (w : World) (Ai : Value) (Bi : List An) (Dc : (LEnt.own Ai 41 5 Bi.length (Bi.flatMap An.enc)).holds w) (Bh : Int) (Bk : Int) (Dp : Int) (r : (List An)) (h : Jf Bi Bh Bk Dp = some r) :
    Calls prog 50 [Ai,iV Bh,iV Bk,iV Dp,.func (.func 30) #[] #[]].toArray w (Ret w (Ai.ownBlock.toList) fun _ v w'=>(LEnt.own Ai 41 5 r.length (r.flatMap An.enc)).holds w' ∧ v = .tuple #[]):=by
 refine Lp (Ai.ownBlock.toList) [.own Ai 41 5 Bi.length (Bi.flatMap An.enc)] func50 rfl ntmps50 rfl (fun e he=>by simp only [List.mem_singleton] at he;subst he;exact Dc) (Ml _) (Of _) fun a S=>?_
 unfold Jf at h
 replace S:=(S.nl [.own Ai 41 5 Bi.length (Bi.flatMap An.enc)] [true] rfl).k5 0 1 2 3 4 rfl
 refine Fr (Vk S rfl rfl fun a S=>Dz (Vk S rfl rfl fun a S=>Dl ?_))
 replace S:=S.k6 0 1 2 3 4 10 rfl
 refine Gv (fun a w'=>False) ?_ ?_
 ·refine wp_block (Iv (fun (m1 : Nat) a w'=>∃ x1 : Int,∃ x2 : Int,∃ x3 : Int,∃ x4 : Bool,Gs Bi m1 x1 x2 x3 x4 = some r ∧ Sx w (Ai.ownBlock.toList) nov [.own Ai 41 5 Bi.length (Bi.flatMap An.enc)] [(0,Ai),(1,iV x1),(2,iV x2),(3,iV x3),(4,.func (.func 30) #[] #[]),(10,bV x4)] 148 a w') id 4611686018427387904 ⟨Bh,Bk,Dp,true,h,S.nf [true] rfl (subR rfl)⟩ ?_)
  clear S h;rintro m1 a w1 ⟨x1,x2,x3,x4,h,S⟩
  cases m1 with
  | zero=>rw [Gs.eq_1] at h;cases h
  | succ m1 =>
   rw [Gs.eq_2] at h
   refine wp_block (Fr (Vm S rfl rfl fun a S=>Vm S rfl rfl fun a S=>Vb S Kw rfl rfl rfl fun a S=>Va S rfl rfl fun a S=>Dl (Fs (Fs ?_))))
   refine Fg (Vm S rfl rfl fun a S=>Vq S Uu rfl rfl rfl fun a S=>Dl (Fc h (S.tm rfl) (fun hb1 h=>?_) (fun hb1 h=>?_)))
   ·refine Fs (Fg ?_)
    iterate 4 (refine Vm S rfl rfl ?_;clear S;intro a S)
    obtain ⟨r1,hr1,h⟩:=He h
    refine Rq 0 S rfl (fun _=>.own Ai 41 5 r1.length (r1.flatMap An.enc)) (fun _=>Fa (vs:=[Ai,iV x1,iV x2,.func (.func 30) #[] #[]]) ⟨(S.tm rfl),(S.tm rfl),(S.tm rfl),(S.tm rfl),trivial⟩ call71) (Nm _ Ai Bi (S.holds _ (List.mem_of_getElem? (i:=0) rfl)) x1 x2 _ hr1) rfl (fun _ _ _ h=>⟨h.1,fun _ hc=>hc⟩) ?_;clear S;intro v1 a w3 hv1 hk1 hn1 S
    replace hv1:=hv1.2
    subst hv1
    refine Ld ?_
    replace S:=(S.nl [.own Ai 41 5 r1.length (r1.flatMap An.enc)] [true] rfl).k0
    refine Tn (wp_ret (Fk (Hv (Fk (Hv (Fk ?_))))))
    obtain rfl:=Option.some.inj h
    exact Tz S results50 ⟨(S.holds _ (List.mem_of_getElem? (i:=0) rfl)),rfl⟩
   ·refine wp_skip (Tn (Fs (Fr (Vm S rfl rfl fun a S=>Vq S Px rfl rfl rfl fun a S=>Dl (Fc h (S.tm rfl) (fun hb2 h=>?_) (fun hb2 h=>?_))))))
    ·refine Fs ?_
     cases h
    ·refine wp_skip (Tn (Fs (Fr (Vm S rfl rfl fun a S=>Vu S Mo rfl rfl fun a S=>Ld ?_))))
     replace S:=S.k1 39 rfl
     refine Tn (Fc h (S.tm rfl) (fun hb3 h=>?_) (fun hb3 h=>?_))
     ·refine Fs ?_
      cases h
     ·refine wp_skip (Tn (Fs ?_))
      cases h
 exact fun _ _ h=>h.elim
theorem Pz (w : World) (Cm : Value) (Bl : List An) (Ep : (LEnt.own Cm 41 5 Bl.length (Bl.flatMap An.enc)).holds w) (r : (List An)) (h : Je Bl = some r) :
    Calls prog 29 [Cm,.func (.func 30) #[] #[]].toArray w (Ret w (Cm.ownBlock.toList) fun _ v w'=>(LEnt.own Cm 41 5 r.length (r.flatMap An.enc)).holds w' ∧ v = .tuple #[]):=by
 refine Lp (Cm.ownBlock.toList) [.own Cm 41 5 Bl.length (Bl.flatMap An.enc)] func29 rfl ntmps29 rfl (fun e he=>by simp only [List.mem_singleton] at he;subst he;exact Ep) (Ml _) (Of _) fun a S=>?_
 unfold Je at h
 replace S:=(S.nl [.own Cm 41 5 Bl.length (Bl.flatMap An.enc)] [true] rfl).k2 0 1 rfl
 refine Fr (Vm S rfl rfl fun a S=>lv S (Gh Il (S.tm rfl) (Ly (S.own_at (i:=0) rfl))) rfl fun a S=>Va S rfl rfl fun a S=>Dl (Fg ?_))
 iterate 3 (refine Vm S rfl rfl ?_;clear S;intro a S)
 refine Vu S (Uv underlying3 underlying88) rfl rfl ?_;clear S;intro a S
 obtain ⟨r1,hr1,h⟩:=He h
 refine Fo S (fun _=>Fa (vs:=[.int .u64 (IntKind.wrap .u64 (Bl.length : Int))]) ⟨(S.tm rfl),trivial⟩ call51) (Zz _ (IntKind.wrap .u64 (Bl.length : Int)) _ hr1) rfl ?_;clear S;intro v1 a w1 hv1 hk1 hn1 S
 subst hv1
 refine Vm S rfl rfl ?_;clear S;intro a S
 obtain ⟨r2,hr2,h⟩:=He h
 refine Rq 0 S rfl (fun _=>.own Cm 41 5 r2.length (r2.flatMap An.enc)) (fun _=>Fa (vs:=[Cm,iV 0,iV (Bl.length : Int),iV r1,.func (.func 30) #[] #[]]) ⟨(S.tm rfl),rfl,(S.tm rfl),(S.tm rfl),(S.tm rfl),trivial⟩ call50) (Ou _ Cm Bl (S.holds _ (List.mem_of_getElem? (i:=0) rfl)) 0 (Bl.length : Int) r1 _ hr2) rfl (fun _ _ _ h=>⟨h.1,fun _ hc=>hc⟩) ?_;clear S;intro v2 a w2 hv2 hk2 hn2 S
 replace hv2:=hv2.2
 subst hv2
 refine Ld ?_
 obtain rfl:=Option.some.inj h
 exact Tz S results29 ⟨(S.holds _ (List.mem_of_getElem? (i:=0) rfl)),rfl⟩
set_option maxRecDepth 4000 in
theorem Wn (w : World) (Ab : Value) (Ae : List An) (As : Slc (view w []) 5 Ab (Ae.map An.enc)) (Ad : Value) (Ar : List Ex) (Ap : Slc (view w []) 3 Ad (Ar.map Ex.enc)) (Aw : Int) (r : Int × List (List Ew)) (h : Ok Ae Ar Aw = some r) :
    Calls prog 32 [Ab,Ad,iV Aw].toArray w (Ret w [] fun τ v w'=>∃ (b : Nat) (u1 : Value) (rs : List RS),v = .pointer (some ⟨b,0,none⟩) ∧ Slc (Wi τ b) 1 u1 (rs.map RS.enc) ∧ Ko (Ve (Wi τ b)) r.2 rs ∧ Grp w w' [] [.blk b [Ab,iV r.1,u1,iV Aw,.slice none 0 0,iV 0,iV 0,bV false] 70]):=by
 refine Lp [] [] func32 rfl ntmps32 rfl (by simp) (by simp [fps]) (by simp [fps]) fun a S=>?_
 unfold Ok at h
 replace S:=S.k3 0 1 2 rfl
 refine Fs ?_
 refine Fg ?_
 refine lv S (Ra rfl) rfl ?_;clear S;intro a S
 refine Ld ?_
 refine Tn ?_
 refine Fs ?_
 refine Fg ?_
 refine lv S (Rm (S.tm rfl)) rfl ?_;clear S;intro a S
 refine lv S (Rm (S.tm rfl)) rfl ?_;clear S;intro a S
 refine lv S (Tj bt_70 (pv:=[(0,Ab),(3,iV Aw)]) ⟨rfl,(S.tm rfl),rfl,(S.tm rfl),trivial⟩ (cs:=[Ab,iV 0,.slice none 0 0,iV Aw,.slice none 0 0,iV 0,iV 0,bV false]) (by obtain ⟨_,_,hv⟩:=(Ey As);rw [hv];clear hv;kernel_rfl)) rfl ?_;clear S;intro a S
 refine Pt S (S.tm rfl) (cs:=[Ab,iV 0,.slice none 0 0,iV Aw,.slice none 0 0,iV 0,iV 0,bV false]) rfl rfl ?_;clear S;intro a w1 b1 hz1 hk1 S
 replace S:=S.nil 89 1
 refine lv S (Ra (S.tm rfl)) rfl ?_;clear S;intro a S
 refine Ld ?_
 refine Tn ?_
 refine Fs ?_
 refine Fs ?_
 refine Fg ?_
 refine lv S (Rm (S.tm rfl)) rfl ?_;clear S;intro a S
 refine lv S (Gh Rz (S.tm rfl) (Ey Ap)) rfl ?_;clear S;intro a S
 refine lv S (Rm rfl) rfl ?_;clear S;intro a S
 refine Ld ?_
 refine Tn ?_
 replace S : Sx w [] nov ([.own (.slice none 0 0) 89 1 ([] : List RS).length (([] : List RS).flatMap RS.enc),.blk b1 [Ab,iV 0,(.slice none 0 0),iV Aw,(.slice none 0 0),iV 0,iV 0,bV false] 70] ++ Mp 92 2 Ew.enc (([] : List RS).map (·.val)) ([] : List (List Ew))) [(0,Ab),(1,Ad),(2,iV Aw),(7,.pointer (some ⟨b1,0,none⟩)),(16,Ad),(17,iV (Ar.length : Int)),(18,iV 0)] 120 a w1:=S.sub (subR rfl)
 obtain ⟨j1,hj1,h⟩:=Ha h
 refine Gv (fun a w'=>∃ x1 : Int,∃ x2 : List (List Ew),∃ rs : List RS,∃ v1 : Value,j1 x1 x2 = some r ∧ rs.length = x2.length ∧ Sx w [] nov ([.own v1 89 1 rs.length (rs.flatMap RS.enc),.blk b1 [Ab,iV x1,v1,iV Aw,(.slice none 0 0),iV 0,iV 0,bV false] 70] ++ Mp 92 2 Ew.enc (rs.map (·.val)) x2) [(7,.pointer (some ⟨b1,0,none⟩))] 120 a w') ?_ ?_
 ·refine wp_block (Iv (fun (ys1 : List Ex) a w'=>∃ i1 : Nat,∃ x1 : Int,∃ x2 : List (List Ew),∃ rs : List RS,∃ v1 : Value,(∃ dn,Ar = dn ++ ys1 ∧ dn.length = i1) ∧ Gz Ae Ar Aw j1 ys1 i1 x1 x2 = some r ∧ rs.length = x2.length ∧ Sx w [] nov ([.own v1 89 1 rs.length (rs.flatMap RS.enc),.blk b1 [Ab,iV x1,v1,iV Aw,(.slice none 0 0),iV 0,iV 0,bV false] 70] ++ Mp 92 2 Ew.enc (rs.map (·.val)) x2) [(0,Ab),(1,Ad),(2,iV Aw),(7,.pointer (some ⟨b1,0,none⟩)),(16,Ad),(17,iV (Ar.length : Int)),(18,iV (i1 : Int))] 120 a w') List.length Ar ⟨0,0,[],[],_,⟨[],rfl,rfl⟩,h,rfl,S.sub (subR rfl)⟩ ?_)
  clear S h;rintro ys1 a w2 ⟨i1,x1,x2,rs,v1,⟨dn,hd1,hi1⟩,h,hl,S⟩
  cases ys1 with
  | nil =>
   rw [Gz.eq_1] at h
   refine Fr (Vb S Gb rfl rfl rfl fun a S=>Dl ?_)
   exact Fs (wp_cond_false ((S.tm rfl).trans (congrArg Value.bool (Jr hd1 hi1))) (wp_exit (Gk (Gk (Jc (Tn ⟨x1,x2,rs,v1,h,hl,S.sub (subR rfl)⟩))))))
  | cons y1 ys1 =>
   rw [Gz.eq_2] at h
   refine Fr (Vb S Gb rfl rfl rfl fun a S=>Dl ?_)
   refine Fs (wp_cond_true ((S.tm rfl).trans (congrArg Value.bool (Ih hd1 hi1))) (wp_skip (Tn (Fs ?_))))
   refine wp_block ?_
   refine Fs ?_
   refine Fg ?_
   refine lv S (Rm (S.tm rfl)) rfl ?_;clear S;intro a S
   obtain ⟨b2,o1,hm1,hr1⟩:=Gd (a:=a) (x:=.tmp 16) (y:=.tmp 18) (ty:=0) Rz Ap (Jd hd1 hi1) rfl (S.tm rfl) (S.tm rfl)
   refine lv S (hr1 _) rfl ?_;clear S;intro a S
   clear hr1
   refine lv S (Ji isAgg55 sizeOf55 (off:=o1) (o:=0) (part:=(Ex.enc y1)) rfl rfl (S.tm rfl) (hm1.at S.emb0)) rfl ?_;clear S;intro a S
   refine Mw S zeroValue55 (cs:=[sV Ga,sV Ga,iV 0]) rfl rfl ?_;clear S;intro a w3 b3 hz2 hk2 S
   refine lv S (Ra (S.tm rfl)) rfl ?_;clear S;intro a S
   refine Ku S (S.tm rfl) (S.tm rfl) (i:=0) (off:=0) rfl sizeOf55 (vs:=(Ex.enc y1)) rfl rfl rfl rfl ?_;clear S;intro w4 hk3 S
   refine Ld ?_
   refine Tn ?_
   replace S : Sx w [] nov ([.blk b3 (Ex.enc y1) 55,.own v1 89 1 rs.length (rs.flatMap RS.enc),.blk b1 [Ab,iV x1,v1,iV Aw,(.slice none 0 0),iV 0,iV 0,bV false] 70] ++ Mp 92 2 Ew.enc (rs.map (·.val)) x2) [(0,Ab),(1,Ad),(2,iV Aw),(7,.pointer (some ⟨b1,0,none⟩)),(8,iV (i1 : Int)),(9,.pointer (some ⟨b3,0,none⟩)),(16,Ad),(17,iV (Ar.length : Int)),(18,iV (i1 : Int))] 120 a w4:=S.sub (subR rfl)
   obtain ⟨j2,hj2,h⟩:=Ha h
   refine Fs ?_
   refine Fs ?_
   refine Hx [] ([]) Tryz.mixed S rfl (by kernel_rfl) ?_;clear S;intro w5 hk4 hsel S
   refine Lc [0,1,2,3,4,5,6,7,8,9,10,11,12] hsel (by kernel_rfl) rfl ?_
   clear hsel
   refine Gp S rfl (Rm (S.tm rfl)) rfl ?_;clear S;intro a S
   refine Gp S rfl (Px (S.tm rfl) rfl) rfl ?_;clear S;intro a S
   refine Gp S rfl (Rm (S.tm rfl)) rfl ?_;clear S;intro a S
   obtain ⟨jc,hjc,h⟩:=Ha h
   refine s_cutm 10 (fun a w'=>∃ c1,jc c1 = some r ∧ Keep [] w5 w' ∧ Sx w [] nov ([.blk b3 (Ex.enc y1) 55,.own v1 89 1 rs.length (rs.flatMap RS.enc),.blk b1 [Ab,iV x1,v1,iV Aw,(.slice none 0 0),iV 0,iV 0,bV false] 70] ++ Mp 92 2 Ew.enc (rs.map (·.val)) x2) [(0,Ab),(1,Ad),(2,iV Aw),(7,.pointer (some ⟨b1,0,none⟩)),(9,.pointer (some ⟨b3,0,none⟩)),(16,Ad),(17,iV (Ar.length : Int)),(18,iV (i1 : Int)),(35,bV c1)] 120 a w') ?_ ?_
   ·rcases Bool.eq_false_or_eq_true (decide ((i1 : Int) = 0)) with hb1 | hb1
    ·replace h:=Sy h hb1
     iterate 9 (refine Zn S rfl rfl rfl rfl (Tb hb1) rfl ?_ rfl;clear S;intro a S)
     refine Gp S rfl (Rb true hb1 (S.tm rfl) rfl) rfl ?_;clear S;intro a S
     refine Kz ?_
     exact ⟨_,h,Keep.refl _ _,S.nf [true,true,true] rfl (subR rfl)⟩
    ·replace h:=Sz h hb1
     refine Rp S rfl rfl rfl rfl hb1 ?_
     refine Tl S (Rm (S.tm rfl)) rfl ?_;clear S;intro a S
     refine Rp S rfl rfl rfl rfl hb1 ?_
     refine Tl S (Rm (S.tm rfl)) rfl ?_;clear S;intro a S
     refine Rp S rfl rfl rfl rfl hb1 ?_
     refine Tl S (Kw (S.tm rfl) rfl) rfl ?_;clear S;intro a S
     refine Rp S rfl rfl rfl rfl hb1 ?_
     obtain ⟨hc1,h⟩:=Ig h
     obtain ⟨b4,o2,hm2,hr2⟩:=Gd (a:=a) (x:=.tmp 26) (y:=.tmp 28) (ty:=0) Rz Ap (Ff hc1).1 (Ff hc1).2 (S.tm rfl) (S.tm rfl)
     refine Tl S (hr2 _) rfl ?_;clear S;intro a S
     clear hr2
     refine Rp S rfl rfl rfl rfl hb1 ?_
     refine Tl S (Hk Qo (S.tm rfl)) rfl ?_;clear S;intro a S
     refine Rp S rfl rfl rfl rfl hb1 ?_
     refine Tl S (Hr isAgg9 (off:=o2) (o:=0) (S.tm rfl) (hm2.at S.emb0) rfl) rfl ?_;clear S;intro a S
     refine Rp S rfl rfl rfl rfl hb1 ?_
     refine Tl S (Hk Qo (S.tm rfl)) rfl ?_;clear S;intro a S
     refine Rp S rfl rfl rfl rfl hb1 ?_
     refine Tl S (Mv isAgg9 (S.tm rfl) (S.cell (i:=0) rfl rfl)) rfl ?_;clear S;intro a S
     refine Rp S rfl rfl rfl rfl hb1 ?_
     refine Tl S (AM (S.tm rfl) (S.tm rfl)) rfl ?_;clear S;intro a S
     refine Gp S rfl (Rc hb1 (S.tm rfl) (S.tm rfl)) rfl ?_;clear S;intro a S
     refine Kz ?_
     exact ⟨_,h,Keep.refl _ _,S.nf [true,true,true] rfl (subR rfl)⟩
   clear S h;rintro a w6 ⟨c1,h,hk5,S⟩;rw [hjc] at h;clear hjc jc
   refine Kz ?_
   refine Tn ?_
   refine Gv (fun a w'=>∃ x3 : List (List Ew),∃ rs3 : List RS,∃ v3 : Value,j2 x3 = some r ∧ rs3.length = x3.length ∧ Sx w [] nov ([.blk b3 (Ex.enc y1) 55,.own v3 89 1 rs3.length (rs3.flatMap RS.enc),.blk b1 [Ab,iV x1,v3,iV Aw,(.slice none 0 0),iV 0,iV 0,bV false] 70] ++ Mp 92 2 Ew.enc (rs3.map (·.val)) x3) [(0,Ab),(1,Ad),(2,iV Aw),(7,.pointer (some ⟨b1,0,none⟩)),(9,.pointer (some ⟨b3,0,none⟩)),(16,Ad),(17,iV (Ar.length : Int)),(18,iV (i1 : Int))] 120 a w') ?_ ?_
   ·refine Zj (S.tm rfl) (fun hb2=>?_) (fun hb2=>?_)
    ·replace h:=Sy h hb2
     obtain ⟨hc2,h⟩:=Ig h
     obtain ⟨hc3,h⟩:=Ig h
     refine Hx [12] (v1.ownBlock.toList) Tryz.mixed S rfl (by kernel_rfl) ?_;clear S;intro w12 hk10 hsel S
     refine Hs 0 S hsel rfl rfl (by kernel_rfl) (by kernel_rfl) rfl (fun _=>(Rm (S.tm rfl))) ?_;clear S;intro a S
     refine Hs 1 S hsel rfl rfl (by kernel_rfl) (by kernel_rfl) rfl (fun _=>(Rm (S.tm rfl))) ?_;clear S;intro a S
     refine Hs 2 S hsel rfl rfl (by kernel_rfl) (by kernel_rfl) rfl (fun _=>(Fv (S.tm rfl))) ?_;clear S;intro a S
     refine Hs 3 S hsel rfl rfl (by kernel_rfl) (by kernel_rfl) rfl (fun _=>(Hk Ys (S.tm rfl))) ?_;clear S;intro a S
     refine Fj 4 S hsel rfl (by kernel_rfl) (by kernel_rfl) (by kernel_rfl) (by kernel_rfl) rfl (fun _ hw=>(Hr isAgg68 (off:=0) (o:=2) (S.tm rfl) ((S.blk_mem (i:=2) (cells:=[Ab,iV x1,v1,iV Aw,(.slice none 0 0),iV 0,iV 0,bV false]) (b:=b1) (T:=70) rfl (Ke (i:=1) (j:=2) (e:=_) (e':=.blk b1 [Ab,iV x1,v1,iV Aw,(.slice none 0 0),iV 0,iV 0,bV false] 70) S rfl rfl rfl)).kept hw) rfl)) ?_;clear S;intro a S
     refine Hs 5 S hsel rfl rfl (by kernel_rfl) (by kernel_rfl) rfl (fun _=>(Rm (S.tm rfl))) ?_;clear S;intro a S
     refine Hs 6 S hsel rfl rfl (by kernel_rfl) (by kernel_rfl) rfl (fun _=>(Gh Il (S.tm rfl) (Ey As))) ?_;clear S;intro a S
     refine Gq 7 (by kernel_rfl) rfl ?_
     refine KV (Z:=(Ew.mk 0 0)) S FT Ew.enc_ok (by kernel_rfl) rfl rfl (S.tm rfl) (mk_lo hc2) (mk_hi hc2) rfl ?_;clear S;intro a w13 b7 hz5 hk11 S
     refine Ld ?_
     refine Hb (Keep.none hk11) ?_
     refine Gq 8 (by kernel_rfl) rfl ?_
     refine Fw S underlying68 sizeOf89 zeroValue89 rfl rfl (pv:=[(0,(.slice (some ⟨b7,0,none⟩) ((Ae.length : Int).toNat) ((Ae.length : Int).toNat)))]) ⟨rfl,(S.tm rfl),trivial⟩ (cs:=[(.slice (some ⟨b7,0,none⟩) ((Ae.length : Int).toNat) ((Ae.length : Int).toNat))]) (by kernel_rfl) rfl ?_;clear S;intro a w14 b8 hz6 hk12 S
     refine Ld ?_
     refine Hb (Keep.none hk12) ?_
     refine Gq 9 (by kernel_rfl) rfl ?_
     have hone : (Value.slice (some ⟨b7,0,none⟩) ((Ae.length : Int).toNat) ((Ae.length : Int).toNat)).oneCell' = true:=Fl.one ⟨_,_,rfl⟩
     refine Nq FR RS.enc_ok S (S.tm rfl) (i:=3) rfl (S.tm rfl) (j:=0) rfl (ys:=[(⟨(.slice (some ⟨b7,0,none⟩) ((Ae.length : Int).toNat) ((Ae.length : Int).toNat)),hone⟩ : RS)]) rfl rfl rfl rfl (by have:=Ky hc3;simp;omega) rfl ?_;clear S;intro v3 a w15 hk13 S
     refine Ld ?_
     refine Hb hk13 ?_
     refine Hs 10 S hsel rfl rfl (by kernel_rfl) (by kernel_rfl) rfl (fun _=>(Fv (S.tm rfl))) ?_;clear S;intro a S
     refine Hs 11 S hsel rfl rfl (by kernel_rfl) (by kernel_rfl) rfl (fun _=>(Hk Ys (S.tm rfl))) ?_;clear S;intro a S
     refine Uy 12 ([b1]) rfl (by kernel_rfl) rfl ?_
     refine Ku S (S.tm rfl) (S.tm rfl) (i:=4) (off:=2) rfl sizeOf68 (vs:=[v3]) (Fl.cells (Ly (S.own_at (i:=3) rfl))) rfl rfl (all1 (Fl.one (Ly (S.own_at (i:=3) rfl))) rfl) ?_;clear S;intro w16 hk14 S
     refine Ld ?_
     refine Vc ?_
     refine Ss (by kernel_rfl) ?_
     clear hsel
     replace S : Sx w [] nov (.own (.slice (some ⟨b7,0,none⟩) ((Ae.length : Int).toNat) ((Ae.length : Int).toNat)) 92 2 (List.replicate ((Ae.length : Int).toNat) (Ew.mk 0 0)).length ((List.replicate ((Ae.length : Int).toNat) (Ew.mk 0 0)).flatMap Ew.enc) :: ([.blk b3 (Ex.enc y1) 55,.own v3 89 1 (rs ++ [(⟨(.slice (some ⟨b7,0,none⟩) ((Ae.length : Int).toNat) ((Ae.length : Int).toNat)),hone⟩ : RS)]).length ((rs ++ [(⟨(.slice (some ⟨b7,0,none⟩) ((Ae.length : Int).toNat) ((Ae.length : Int).toNat)),hone⟩ : RS)]).flatMap RS.enc),.blk b1 [Ab,iV x1,v3,iV Aw,(.slice none 0 0),iV 0,iV 0,bV false] 70] ++ Mp 92 2 Ew.enc (rs.map (·.val)) x2)) [(0,Ab),(1,Ad),(2,iV Aw),(7,.pointer (some ⟨b1,0,none⟩)),(9,.pointer (some ⟨b3,0,none⟩)),(16,Ad),(17,iV (Ar.length : Int)),(18,iV (i1 : Int))] 120 a w16:=(Sx.drop S (List.sublist_cons_self _ _)).sub (subR rfl)
     replace S:=Sx.join_rows (by rw [List.length_map];exact hl) S
     refine Tn ⟨x2 ++ [List.replicate ((Ae.length : Int).toNat) (Ew.mk 0 0)],rs ++ [(⟨(.slice (some ⟨b7,0,none⟩) ((Ae.length : Int).toNat) ((Ae.length : Int).toNat)),hone⟩ : RS)],v3,h,by simp [hl],?_⟩
     rw [List.map_append]
     exact S
    ·replace h:=Sz h hb2
     exact wp_skip (Tn ⟨x2,rs,v1,h,hl,S.sub (subR rfl)⟩)
   clear S h;rintro a w7 ⟨x3,rs3,v3,h,hl3,S⟩;rw [hj2] at h
   refine Tn ?_
   obtain ⟨hc4,h⟩:=Ig h
   obtain ⟨hc5,h⟩:=Ig h
   have hx3:=(Ff hc4).1
   have hz3:=(Ff hc4).2
   have hlr : ((rs3.length : Nat) : Int) = (x3.length : Int):=by rw [hl3]
   generalize hrow : nth x3 (W ((x3.length : Int) - 1)) = row at h hc5 hx3
   generalize hjr : (W ((x3.length : Int) - 1)).toNat = jr at h hx3 hz3
   obtain ⟨rw1,hr3⟩ : ∃ q,rs3[jr]? = some q:=⟨_,List.getElem?_eq_getElem (by rw [hl3];exact (List.getElem?_eq_some_iff.1 hx3).1)⟩
   have hv3 : (rs3.map (·.val))[jr]? = some rw1.val:=by rw [List.getElem?_map,hr3];rfl
   replace S:=S.take_row hv3 hx3
   generalize hkk : Ez Ae y1.Item = kk at h hc5
   obtain ⟨sp,hsp,hzk⟩ : ∃ sp,row[kk.toNat]? = some sp ∧ nth row kk = sp:=⟨_,(Ff hc5).1,rfl⟩
   rw [hzk] at h
   obtain ⟨j3,hj3,h⟩:=Ha h
   refine Fs ?_
   refine Fg ?_
   refine lv S (Rm (S.tm rfl)) rfl ?_;clear S;intro a S
   refine lv S (Hk Sb (S.tm rfl)) rfl ?_;clear S;intro a S
   refine lv S (Mv isAgg9 (S.tm rfl) (S.cell (i:=1) rfl rfl)) rfl ?_;clear S;intro a S
   refine Fo S (fun _=>Fa (vs:=[Ab,sV y1.Item]) ⟨(S.tm rfl),(S.tm rfl),trivial⟩ call42) (Sd _ Ab Ae (As.mono (S.le_arg Fy)) y1.Item _ hkk) rfl ?_;clear S;intro v4 a w17 hv1 hk15 hn1 S
   subst hv1
   refine lv S (Ra (S.tm rfl)) rfl ?_;clear S;intro a S
   refine Ld ?_
   refine Tn ?_
   refine Fs ?_
   refine Hx [] ([]) Tryz.mixed S rfl (by kernel_rfl) ?_;clear S;intro w18 hk16 hsel S
   refine Lc [0,1,2,3,4,5,6,7,8,9,10,11,12,13,14] hsel (by kernel_rfl) rfl ?_
   clear hsel
   refine Gp S rfl (Rm (S.tm rfl)) rfl ?_;clear S;intro a S
   refine Gp S rfl (Fv (S.tm rfl)) rfl ?_;clear S;intro a S
   refine Gp S rfl (Hk Ys (S.tm rfl)) rfl ?_;clear S;intro a S
   refine Gp S rfl (Mv isAgg68 (S.tm rfl) (S.cell (i:=3) rfl rfl)) rfl ?_;clear S;intro a S
   refine Gp S rfl (Rm (S.tm rfl)) rfl ?_;clear S;intro a S
   refine Gp S rfl (Fv (S.tm rfl)) rfl ?_;clear S;intro a S
   refine Gp S rfl (Hk Ys (S.tm rfl)) rfl ?_;clear S;intro a S
   refine Gp S rfl (Mv isAgg68 (S.tm rfl) (S.cell (i:=3) rfl rfl)) rfl ?_;clear S;intro a S
   refine Gp S rfl (Gh FR (S.tm rfl) (Ly (S.own_at (i:=2) rfl))) rfl ?_;clear S;intro a S
   refine Gp S rfl (Kw (S.tm rfl) rfl) rfl ?_;clear S;intro a S
   obtain ⟨b9,hg2,hr6⟩:=Hn (a:=a) (x:=.tmp 55) (y:=.tmp 61) (ty:=0) FR RS.enc_ok S (i:=2) rfl hr3 (by rw [hlr];exact hz3) (S.tm rfl) (S.tm rfl)
   refine Gp S rfl (hr6 _) rfl ?_;clear S;intro a S
   clear hr6
   refine Gp S rfl (Hr isAgg89 (off:=jr * 1) (o:=0) (cs:=[rw1.val]) (v:=rw1.val) (S.tm rfl) (show Oe w18 b9 _ [rw1.val] from Kx (enc:=RS.enc) RS.enc_ok S (i:=2) rfl hg2 hr3) rfl) rfl ?_;clear S;intro a S
   refine Gp S rfl (Rm (S.tm rfl)) rfl ?_;clear S;intro a S
   obtain ⟨b10,hg3,hr7⟩:=Hn (a:=a) (x:=.tmp 63) (y:=.tmp 64) (ty:=0) FT Ew.enc_ok S (i:=0) rfl hsp (Ff hc5).2 (S.tm rfl) (S.tm rfl)
   refine Gp S rfl (hr7 _) rfl ?_;clear S;intro a S
   clear hr7
   refine Gp S rfl (Ra (S.tm rfl)) rfl ?_;clear S;intro a S
   refine Kz ?_
   refine Tn ?_
   replace S : Sx w [] nov ([.own rw1.val 92 2 row.length (row.flatMap Ew.enc)] ++ ([.blk b3 (Ex.enc y1) 55,.own v3 89 1 rs3.length (rs3.flatMap RS.enc),.blk b1 [Ab,iV x1,v3,iV Aw,(.slice none 0 0),iV 0,iV 0,bV false] 70] ++ Mp 92 2 Ew.enc ((rs3.map (·.val)).set jr (.slice none 0 0)) (x3.set jr []))) [(0,Ab),(1,Ad),(2,iV Aw),(7,.pointer (some ⟨b1,0,none⟩)),(9,.pointer (some ⟨b3,0,none⟩)),(10,iV kk),(11,.pointer (some ⟨b10,kk.toNat * 2,none⟩)),(16,Ad),(17,iV (Ar.length : Int)),(18,iV (i1 : Int))] 120 a w18:=S.sub (subR rfl)
   refine Fs ?_
   refine Fs ?_
   refine Fg ?_
   refine lv S (Rm (S.tm rfl)) rfl ?_;clear S;intro a S
   refine lv S (Fv (S.tm rfl)) rfl ?_;clear S;intro a S
   refine lv S (Hk Wy (S.tm rfl)) rfl ?_;clear S;intro a S
   refine lv S (Hr isAgg3 (off:=kk.toNat * 2) (o:=1) (S.tm rfl) (Kx Ew.enc_ok S (i:=0) rfl hg3 hsp) rfl) rfl ?_;clear S;intro a S
   refine lv S (Px (S.tm rfl) rfl) rfl ?_;clear S;intro a S
   refine Ld ?_
   refine Tn ?_
   refine Gv (fun a w'=>∃ x4 : Int,j3 x4 = some r ∧ Sx w [] nov ([.own rw1.val 92 2 (row.set kk.toNat (Ew.mk (if decide (sp.last_ = 0) then y1.Heat else sp.first_) sp.last_)).length ((row.set kk.toNat (Ew.mk (if decide (sp.last_ = 0) then y1.Heat else sp.first_) sp.last_)).flatMap Ew.enc)] ++ ([.blk b3 (Ex.enc y1) 55,.own v3 89 1 rs3.length (rs3.flatMap RS.enc),.blk b1 [Ab,iV x4,v3,iV Aw,(.slice none 0 0),iV 0,iV 0,bV false] 70] ++ Mp 92 2 Ew.enc ((rs3.map (·.val)).set jr (.slice none 0 0)) (x3.set jr []))) [(0,Ab),(1,Ad),(2,iV Aw),(7,.pointer (some ⟨b1,0,none⟩)),(9,.pointer (some ⟨b3,0,none⟩)),(11,.pointer (some ⟨b10,kk.toNat * 2,none⟩)),(16,Ad),(17,iV (Ar.length : Int)),(18,iV (i1 : Int))] 120 a w') ?_ ?_
   ·refine Zj (S.tm rfl) (fun hb3=>?_) (fun hb3=>?_)
    ·replace h:=Sy h hb3
     refine Fg ?_
     refine lv S (Rm (S.tm rfl)) rfl ?_;clear S;intro a S
     refine lv S (Hk Qp (S.tm rfl)) rfl ?_;clear S;intro a S
     refine lv S (Mv isAgg3 (S.tm rfl) (S.cell (i:=1) rfl rfl)) rfl ?_;clear S;intro a S
     refine lv S (Fv (S.tm rfl)) rfl ?_;clear S;intro a S
     refine lv S (Hk ID (S.tm rfl)) rfl ?_;clear S;intro a S
     refine Ki (c:=0) (j:=kk.toNat) (Ew.mk y1.Heat sp.last_) Ew.enc_ok S (S.tm rfl) (S.tm rfl) (i:=0) rfl hg3 hsp sizeOf3 (vs:=[iV y1.Heat]) rfl rfl rfl rfl rfl ?_;clear S;intro w19 hk17 S
     refine Ld (Tn ⟨x1,h,?_⟩)
     rw [if_pos hb3]
     exact S.sub (subR rfl)
    ·replace h:=Sz h hb3
     obtain ⟨hc6,h⟩:=Ig h
     refine Fs ?_
     refine Hx [] ([]) Tryz.mixed S rfl (by kernel_rfl) ?_;clear S;intro w19 hk17 hsel S
     refine Lc [0,1,2,3,4,5,6,7,8,9,10,11,12,13,14,15,16,17,18,19,20,21,22,23,24,25,26,27,28,29] hsel (by kernel_rfl) rfl ?_
     clear hsel
     refine Gp S rfl (Hk Qp (S.tm rfl)) rfl ?_;clear S;intro a S
     refine Gp S rfl (Mv isAgg3 (S.tm rfl) (S.cell (i:=1) rfl rfl)) rfl ?_;clear S;intro a S
     refine Gp S rfl (Rm (S.tm rfl)) rfl ?_;clear S;intro a S
     refine Gp S rfl (Fv (S.tm rfl)) rfl ?_;clear S;intro a S
     refine Gp S rfl (Hk Wy (S.tm rfl)) rfl ?_;clear S;intro a S
     refine Gp S rfl (Hr isAgg3 (off:=kk.toNat * 2) (o:=1) (cs:=[iV sp.first_,iV sp.last_]) (v:=iV sp.last_) (S.tm rfl) (show Oe w19 b10 _ [iV sp.first_,iV sp.last_] from Kx (enc:=Ew.enc) Ew.enc_ok S (i:=0) rfl hg3 hsp) rfl) rfl ?_;clear S;intro a S
     refine Gp S rfl (Kw (S.tm rfl) (S.tm rfl)) rfl ?_;clear S;intro a S
     refine Gp S rfl (Kw (S.tm rfl) rfl) rfl ?_;clear S;intro a S
     refine Gp S rfl (Rm (S.tm rfl)) rfl ?_;clear S;intro a S
     refine Gp S rfl (Rm (S.tm rfl)) rfl ?_;clear S;intro a S
     obtain ⟨b11,o3,hm3,hr8⟩:=Gd (a:=a) (x:=.tmp 84) (y:=.tmp 85) (ty:=0) Il As (Ff hc6).1 (Ff hc6).2 (S.tm rfl) (S.tm rfl)
     refine Gp S rfl (hr8 _) rfl ?_;clear S;intro a S
     clear hr8
     refine Gp S rfl (Hk Sa (S.tm rfl)) rfl ?_;clear S;intro a S
     refine Gp S rfl (Hr isAgg3 (off:=o3) (o:=2) (S.tm rfl) (hm3.at S.emb0) rfl) rfl ?_;clear S;intro a S
     refine Gp S rfl (Xt (S.tm rfl) (S.tm rfl)) rfl ?_;clear S;intro a S
     refine Gp S rfl (Hk Qp (S.tm rfl)) rfl ?_;clear S;intro a S
     refine Gp S rfl (Mv isAgg3 (S.tm rfl) (S.cell (i:=1) rfl rfl)) rfl ?_;clear S;intro a S
     refine Gp S rfl (Rm (S.tm rfl)) rfl ?_;clear S;intro a S
     refine Gp S rfl (Fv (S.tm rfl)) rfl ?_;clear S;intro a S
     refine Gp S rfl (Hk Wy (S.tm rfl)) rfl ?_;clear S;intro a S
     refine Gp S rfl (Hr isAgg3 (off:=kk.toNat * 2) (o:=1) (cs:=[iV sp.first_,iV sp.last_]) (v:=iV sp.last_) (S.tm rfl) (show Oe w19 b10 _ [iV sp.first_,iV sp.last_] from Kx (enc:=Ew.enc) Ew.enc_ok S (i:=0) rfl hg3 hsp) rfl) rfl ?_;clear S;intro a S
     refine Gp S rfl (Kw (S.tm rfl) (S.tm rfl)) rfl ?_;clear S;intro a S
     refine Gp S rfl (Rm (S.tm rfl)) rfl ?_;clear S;intro a S
     refine Gp S rfl (Rm (S.tm rfl)) rfl ?_;clear S;intro a S
     obtain ⟨b12,o4,hm4,hr9⟩:=Gd (a:=a) (x:=.tmp 97) (y:=.tmp 98) (ty:=0) Il As (Ff hc6).1 (Ff hc6).2 (S.tm rfl) (S.tm rfl)
     refine Gp S rfl (hr9 _) rfl ?_;clear S;intro a S
     clear hr9
     refine Gp S rfl (Hk Ty (S.tm rfl)) rfl ?_;clear S;intro a S
     refine Gp S rfl (Hr isAgg3 (off:=o4) (o:=3) (S.tm rfl) (hm4.at S.emb0) rfl) rfl ?_;clear S;intro a S
     refine Gp S rfl (Xt (S.tm rfl) (S.tm rfl)) rfl ?_;clear S;intro a S
     refine Gp S rfl (Gx (S.tm rfl) (S.tm rfl)) rfl ?_;clear S;intro a S
     refine Gp S rfl (Rm (S.tm rfl)) rfl ?_;clear S;intro a S
     refine Gp S rfl (Gb (S.tm rfl) (S.tm rfl)) rfl ?_;clear S;intro a S
     refine Kz ?_
     refine Tn ?_
     have hsj : row.set kk.toNat (Ew.mk (if decide (sp.last_ = 0) then y1.Heat else sp.first_) sp.last_) = row:=by rw [if_neg (by rw [hb3];simp)];exact EG hsp
     rw [hsj]
     refine Zj (S.tm rfl) (fun hb4=>?_) (fun hb4=>?_)
     ·replace h:=Sy h hb4
      refine Fg ?_
      refine lv S (Rm (S.tm rfl)) rfl ?_;clear S;intro a S
      refine lv S (Fv (S.tm rfl)) rfl ?_;clear S;intro a S
      refine lv S (Hk EL (S.tm rfl)) rfl ?_;clear S;intro a S
      refine lv S (Mv isAgg3 (S.tm rfl) (S.cell (i:=3) rfl rfl)) rfl ?_;clear S;intro a S
      refine lv S (Gx (S.tm rfl) rfl) rfl ?_;clear S;intro a S
      refine lv S (Fv (S.tm rfl)) rfl ?_;clear S;intro a S
      refine lv S (Hk EL (S.tm rfl)) rfl ?_;clear S;intro a S
      refine Ku S (S.tm rfl) (S.tm rfl) (i:=3) (off:=1) rfl sizeOf3 (vs:=[iV (W (x1 + 1))]) rfl rfl rfl rfl ?_;clear S;intro w20 hk18 S
      exact Ld (Tn ⟨W (x1 + 1),h,S.sub (subR rfl)⟩)
     ·replace h:=Sz h hb4
      exact wp_skip (Tn ⟨x1,h,S.sub (subR rfl)⟩)
   clear S h;rintro a w19 ⟨x4,h,S⟩;rw [hj3] at h
   have hsp2 : (row.set kk.toNat (Ew.mk (if decide (sp.last_ = 0) then y1.Heat else sp.first_) sp.last_))[kk.toNat]? = some (Ew.mk (if decide (sp.last_ = 0) then y1.Heat else sp.first_) sp.last_):=Me hsp
   have hss : (row.set kk.toNat (Ew.mk (if decide (sp.last_ = 0) then y1.Heat else sp.first_) sp.last_)).set kk.toNat (Ew.mk (if decide (sp.last_ = 0) then y1.Heat else sp.first_) y1.Heat) = row.set kk.toNat (Ew.mk (if decide (sp.last_ = 0) then y1.Heat else sp.first_) y1.Heat):=List.set_set ..
   generalize row.set kk.toNat (Ew.mk (if decide (sp.last_ = 0) then y1.Heat else sp.first_) sp.last_) = rowj at S hsp2 hss
   refine Tn ?_
   refine Fg ?_
   refine lv S (Rm (S.tm rfl)) rfl ?_;clear S;intro a S
   refine lv S (Hk Qp (S.tm rfl)) rfl ?_;clear S;intro a S
   refine lv S (Mv isAgg3 (S.tm rfl) (S.cell (i:=1) rfl rfl)) rfl ?_;clear S;intro a S
   refine lv S (Fv (S.tm rfl)) rfl ?_;clear S;intro a S
   refine lv S (Hk Wy (S.tm rfl)) rfl ?_;clear S;intro a S
   refine Ki (c:=1) (j:=kk.toNat) (Ew.mk (if decide (sp.last_ = 0) then y1.Heat else sp.first_) y1.Heat) Ew.enc_ok S (S.tm rfl) (S.tm rfl) (i:=0) rfl hg3 hsp2 sizeOf3 (vs:=[iV y1.Heat]) rfl rfl rfl rfl rfl ?_;clear S;intro w20 hk18 S
   rw [hss] at S
   replace S : Sx w [] nov (.own rw1.val 92 2 (row.set kk.toNat (Ew.mk (if decide (sp.last_ = 0) then y1.Heat else sp.first_) y1.Heat)).length ((row.set kk.toNat (Ew.mk (if decide (sp.last_ = 0) then y1.Heat else sp.first_) y1.Heat)).flatMap Ew.enc) :: ([.blk b3 (Ex.enc y1) 55,.own v3 89 1 rs3.length (rs3.flatMap RS.enc),.blk b1 [Ab,iV x4,v3,iV Aw,(.slice none 0 0),iV 0,iV 0,bV false] 70] ++ Mp 92 2 Ew.enc ((rs3.map (·.val)).set jr (.slice none 0 0)) (x3.set jr []))) [(0,Ab),(1,Ad),(2,iV Aw),(7,.pointer (some ⟨b1,0,none⟩)),(16,Ad),(17,iV (Ar.length : Int)),(18,iV (i1 : Int))] 120 a w20:=S.sub (subR rfl)
   replace S:=S.put_row (Me hv3) (Me hx3)
   rw [List.set_set,EG hv3,List.set_set] at S
   refine Ld ?_
   refine Kb (Tn (Fg (Vq S Gx rfl rfl rfl fun a S=>Vm S rfl rfl fun a S=>Dl ?_)))
   exact ⟨ys1,⟨i1 + 1,x4,x3.set jr (row.set kk.toNat (Ew.mk (if decide (sp.last_ = 0) then y1.Heat else sp.first_) y1.Heat)),rs3,v3,⟨_,(hd1).trans (List.append_cons _ _ _),by simp [hi1]⟩,h,by rw [List.length_set];exact hl3,S.nf [false,true,true] rfl ⟨rfl,rfl,rfl,rfl,rfl,rfl,(congrArg (fun z=>some (Value.int .i64 z)) (Ii hd1 hi1 (Kl Ap))),trivial⟩⟩,Nat.lt_succ_self _⟩
 clear S h;rintro a w2 ⟨x1,x2,rs,v1,h,hl,S⟩;rw [hj1] at h;clear hj1 j1
 obtain rfl:=Option.some.inj h
 obtain ⟨φ1,hl1,hrows,S⟩:=Sx.seeRows rfl (by rw [List.length_map];exact hl) S
 obtain ⟨φ2,hl2,hown,S⟩:=S.freezeT (xs:=rs) (enc:=RS.enc) (i:=0) rfl (fun _ h=>by cases h)
 refine Tn ?_
 refine Fs ?_
 refine Fg ?_
 refine lv S (Rm (S.tm rfl)) rfl ?_;clear S;intro a S
 refine lv S (Ra (S.tm rfl)) rfl ?_;clear S;intro a S
 refine Ld ?_
 refine Tn ?_
 refine wp_ret ?_
 have hR : Ko (Ve φ2) x2 rs:=by
  exact (BB hrows).chg fun x y hq=>Gw Ew.enc_ok (hq.mono hl2)
 exact Gm S results32 rfl ⟨b1,v1,rs,rfl,(Gw RS.enc_ok hown).mono (S.le_hideB (i:=0) rfl),Ry (S.le_hideB (i:=0) rfl) hR,S.grp [0] [] rfl rfl rfl⟩
theorem Nj (w : World) (Ak : Value) (Ay : List Int) (Bo : Slc (view w []) 1 Ak (Ay.map eInt)) (r : (List Int)) (h : Qm Ay = some r) :
    Calls prog 53 [Ak].toArray w (Ret w [] fun τ v _=>Pk τ 3 1 v r.length (r.flatMap eInt)):=by
 refine Fe func53 rfl ntmps53 rfl fun a S=>?_
 unfold Qm at h
 replace S:=S.k1 0 rfl
 refine Fr (Vk S rfl rfl fun a S=>Dl (Fs (Fr (Vm S rfl rfl fun a S=>lv S (FL underlying22 (Ey Bo) (S.tm rfl) rfl) rfl fun a S=>Ld ?_))))
 refine Tn (Zj (S.tm rfl) (fun hb1=>?_) (fun hb1=>?_))
 ·have hx1:=FK Bo hb1
  subst hx1
  replace h : some ([] : List Int) = some r:=h
  refine Fr (Vk S rfl rfl fun a S=>Dl (wp_ret (Fk ?_)))
  obtain rfl:=Option.some.inj h
  exact Gm S results53 rfl (Mf _ _ _)
 ·refine wp_skip (Tn (Fr (Xo S underlying22 sizeOf3 rfl ?_)));clear S;intro a w1 b1 hz1 hk1 S
  refine Vm S rfl rfl ?_;clear S;intro a S
  replace S:=S.litOwn (i:=0) (xs:=([] : List Int)) rfl Hi rfl rfl rfl
  replace S:=S.nk [.own (.slice (some ⟨b1,0,none⟩) 0 0) 3 1 (([] : List Int) : List Int).length ((([] : List Int) : List Int).flatMap eInt)] [(0,Ak),(2,.slice none 0 0),(3,Ak),(4,bV (KT Ak)),(5,(.slice (some ⟨b1,0,none⟩) 0 0)),(6,Ak)] [] rfl (subR rfl)
  obtain ⟨hc1,h⟩:=Ig h
  refine Zl (Y:=[]) Lj Hi S (S.tm rfl) (i:=0) rfl (S.tm rfl) (Bo.mono (S.le_arg (fun _ h=>by cases h))) rfl rfl (by have:=Ky hc1;omega) rfl ?_;clear S;intro v1 a w2 hk2 S
  refine Va S rfl rfl fun a S=>Dl (wp_ret ?_)
  obtain rfl:=Option.some.inj h
  exact Gm S results53 rfl (Pu S (i:=0) rfl rfl)
theorem Yb (w : World) (Bz : Int) (r : List Int) (h : Re Bz = some r) : Calls prog 82 [(.slice none 0 0),iV Bz].toArray w (Ret w [] fun τ v _=>Pk τ 3 1 v r.length (r.flatMap eInt)):=by
  unfold Re at h
  obtain ⟨hc,h⟩:=Ig h
  obtain rfl:=Option.some.inj h
  simp only [Bool.and_eq_true,decide_eq_true_eq] at hc
  exact LA (enc:=eInt) Tryz.laysg82 Lj rfl rfl hc.1 hc.2 w
theorem Kk (w : World) (Dh : Value) (Dd : List (List Int)) (Ed : List RS) (Cz : Slc (view w []) 1 Dh (Ed.map RS.enc)) (Da : Ko (So (view w [])) Dd Ed) (r : (List Int)) (h : Ol Dd = some r) :
    Calls prog 54 [Dh].toArray w (Ret w [] fun τ v _=>Pk τ 3 1 v r.length (r.flatMap eInt)):=by
 refine Fe func54 rfl ntmps54 rfl fun a S=>?_
 unfold Ol at h
 replace S:=S.k1 0 rfl
 refine Fr (Vk S rfl rfl fun a S=>Dz (Vk S rfl rfl fun a S=>Dl (Fs ?_)))
 refine Fr (Vm S rfl rfl fun a S=>lv S (Gh EK (S.tm rfl) (AY Cz Da)) rfl fun a S=>lv S (Rm rfl) rfl fun a S=>Dl ?_)
 replace S:=S.k5 0 3 9 10 11 rfl
 obtain ⟨j1,hj1,h⟩:=Ha h
 refine Gv (fun a w'=>∃ x1 : Int,j1 x1 = some r ∧ Sx w [] nov [] [(0,Dh),(3,iV x1)] 36 a w') ?_ ?_
 ·refine wp_block (Iv (fun (ys1 : List (List Int)) a w'=>∃ i1 : Nat,∃ x1 : Int,(∃ dn,Dd = dn ++ ys1 ∧ dn.length = i1) ∧ Iz j1 ys1 i1 x1 = some r ∧ Sx w [] nov [] [(0,Dh),(3,iV x1),(9,Dh),(10,iV (Dd.length : Int)),(11,iV (i1 : Int))] 36 a w') List.length Dd ⟨0,0,⟨[],rfl,rfl⟩,h,S.nf [] rfl (subR rfl)⟩ ?_)
  clear S h;rintro ys1 a w1 ⟨i1,x1,⟨dn,hd1,hi1⟩,h,S⟩
  cases ys1 with
  | nil =>
   rw [Iz.eq_1] at h
   refine Fr (Vb S Gb rfl rfl rfl fun a S=>Ld ?_)
   replace S:=S.k6 0 3 9 10 11 12 rfl
   exact Tn (Fs (wp_cond_false ((S.tm rfl).trans (congrArg Value.bool (Jr hd1 hi1))) (wp_exit (Gk (Gk (Jc (Tn (⟨x1,h,S.nf [] rfl (subR rfl)⟩))))))))
  | cons y1 ys1 =>
   rw [Iz.eq_2] at h
   refine Fr (Vb S Gb rfl rfl rfl fun a S=>Ld ?_)
   replace S:=S.k6 0 3 9 10 11 12 rfl
   refine Tn (Fs (wp_cond_true ((S.tm rfl).trans (congrArg Value.bool (Ih hd1 hi1))) (wp_skip (Tn (Fs (wp_block (Fs (Fg ?_))))))))
   obtain ⟨r1,hg1,hl1⟩:=Ko.at Da (Jd hd1 hi1)
   have hs1:=hl1
   obtain ⟨b1,o1,hm1,hr1⟩:=Gd (a:=a) (x:=.tmp 9) (y:=.tmp 11) (ty:=0) EK Cz hg1 rfl (S.tm rfl) (S.tm rfl)
   refine lv S (hr1 _) rfl ?_;clear S;intro a S
   clear hr1
   refine lv S (Hr isAgg22 (off:=o1) (o:=0) (S.tm rfl) (hm1.at S.emb0) rfl) rfl fun a S=>Va S rfl rfl fun a S=>Dz (Vm S rfl rfl fun a S=>Vm S rfl rfl fun a S=>lv S (Gh Lj (S.tm rfl) (Ey hs1)) rfl fun a S=>Vb S Gx rfl rfl rfl fun a S=>Va S rfl rfl ?_);clear S;intro a S
   refine Dz (Vm S rfl rfl fun a S=>Vq S Gb rfl rfl rfl fun a S=>Ld ?_)
   replace S:=S.k6 0 3 9 10 11 20 rfl
   refine Tn (Fc h (S.tm rfl) (fun hb1 h=>?_) (fun hb1 h=>?_))
   ·cases h
   ·exact wp_skip (Kb (Tn (Fg (Vq S Gx rfl rfl rfl fun a S=>Vm S rfl rfl fun a S=>Dl (⟨ys1,⟨i1 + 1,W (x1 + (y1.length : Int)),⟨_,(hd1).trans (List.append_cons _ _ _),by simp [hi1]⟩,h,S.nf [] rfl ⟨rfl,rfl,rfl,rfl,(congrArg (fun z=>some (Value.int .i64 z)) (Ii hd1 hi1 (AZ Cz Da))),trivial⟩⟩,Nat.lt_succ_self _⟩)))))
 clear S h;rintro a w2 ⟨x1,h,S⟩;rw [hj1] at h;clear hj1 j1
 refine Tn (Fr (Vm S rfl rfl ?_));clear S;intro a S
 obtain ⟨r2,hr2,h⟩:=He h
 have hz1:=S.keep.size
 refine Fo S (fun _=>Fa (vs:=[.slice none 0 0,iV x1]) ⟨rfl,(S.tm rfl),trivial⟩ call82) (Yb _ x1 _ hr2) rfl ?_;clear S;intro v1 a w3 hv1 hk1 hn1 S
 replace S:=S.take hn1 hz1 hv1
 refine Va S rfl rfl fun a S=>Dl (Fs (Fr (Vm S rfl rfl fun a S=>lv S (Gh EK (S.tm rfl) (AY Cz Da)) rfl fun a S=>lv S (Rm rfl) rfl fun a S=>Dl ?_)))
 replace S:=(S.nl [.own v1 3 1 r2.length (r2.flatMap eInt)] [true] rfl).k4 6 25 26 27 rfl
 obtain ⟨j2,hj2,h⟩:=Ha h
 refine Gv (fun a w'=>∃ x2 : List Int,∃ v2 : Value,j2 x2 = some r ∧ Sx w [] nov [.own v2 3 1 x2.length (x2.flatMap eInt)] [(6,v2)] 36 a w') ?_ ?_
 ·refine wp_block (Iv (fun (ys2 : List (List Int)) a w'=>∃ i2 : Nat,∃ x2 : List Int,∃ v2 : Value,(∃ dn,Dd = dn ++ ys2 ∧ dn.length = i2) ∧ Ja j2 ys2 i2 x2 = some r ∧ Sx w [] nov [.own v2 3 1 x2.length (x2.flatMap eInt)] [(6,v2),(25,Dh),(26,iV (Dd.length : Int)),(27,iV (i2 : Int))] 36 a w') List.length Dd ⟨0,r2,v1,⟨[],rfl,rfl⟩,h,S.nf [true] rfl (subR rfl)⟩ ?_)
  clear S h;rintro ys2 a w4 ⟨i2,x2,v2,⟨dn,hd2,hi2⟩,h,S⟩
  cases ys2 with
  | nil =>
   rw [Ja.eq_1] at h
   refine Fr (Vb S Gb rfl rfl rfl fun a S=>Ld ?_)
   replace S:=S.k5 6 25 26 27 28 rfl
   exact Tn (Fs (wp_cond_false ((S.tm rfl).trans (congrArg Value.bool (Jr hd2 hi2))) (wp_exit (Gk (Gk (Jc (Tn (⟨x2,v2,h,S.nf [true] rfl ⟨rfl,trivial⟩⟩))))))))
  | cons y2 ys2 =>
   rw [Ja.eq_2] at h
   refine Fr (Vb S Gb rfl rfl rfl fun a S=>Ld ?_)
   replace S:=S.k5 6 25 26 27 28 rfl
   refine Tn (Fs (wp_cond_true ((S.tm rfl).trans (congrArg Value.bool (Ih hd2 hi2))) (wp_skip (Tn (Fs (wp_block (Fs (Fg ?_))))))))
   obtain ⟨r3,hg2,hl2⟩:=Ko.at Da (Jd hd2 hi2)
   have hs2:=hl2
   obtain ⟨b2,o2,hm2,hr3⟩:=Gd (a:=a) (x:=.tmp 25) (y:=.tmp 27) (ty:=0) EK Cz hg2 rfl (S.tm rfl) (S.tm rfl)
   refine lv S (hr3 _) rfl ?_;clear S;intro a S
   clear hr3
   refine lv S (Hr isAgg22 (off:=o2) (o:=0) (S.tm rfl) (hm2.at S.emb0) rfl) rfl fun a S=>Va S rfl rfl fun a S=>Dl (Fg (Vm S rfl rfl fun a S=>Vm S rfl rfl ?_));clear S;intro a S
   obtain ⟨hc1,h⟩:=Ig h
   refine Zl (Y:=[]) Lj Hi S (S.tm rfl) (i:=0) rfl (S.tm rfl) (hs2.mono (S.le_arg (fun _ h=>by cases h))) rfl rfl (by have:=Ky hc1;omega) rfl ?_;clear S;intro v3 a w6 hk2 S
   exact Va S rfl rfl fun a S=>Ld (Kb (Tn (Fg (Vq S Gx rfl rfl rfl fun a S=>Vm S rfl rfl fun a S=>Dl (⟨ys2,⟨i2 + 1,(x2 ++ y2),v3,⟨_,(hd2).trans (List.append_cons _ _ _),by simp [hi2]⟩,h,S.nf [true] rfl ⟨rfl,rfl,rfl,(congrArg (fun z=>some (Value.int .i64 z)) (Ii hd2 hi2 (AZ Cz Da))),trivial⟩⟩,Nat.lt_succ_self _⟩)))))
 clear S h;rintro a w5 ⟨x2,v2,h,S⟩;rw [hj2] at h;clear hj2 j2
 refine Tn (Fr (Vm S rfl rfl fun a S=>Va S rfl rfl fun a S=>Dl (wp_ret ?_)))
 obtain rfl:=Option.some.inj h
 exact Gm S results54 rfl (Pu S (i:=0) rfl rfl)
theorem Se (w : World) (Bl : An) (Et : Int) (r : Int) (h : Hc Bl Et = r) :
    Calls prog 55 [.agg (An.enc Bl).toArray,iV Et].toArray w (Ret w [] fun _ v _=>v = iV r):=by
 refine Fe func55 rfl ntmps55 rfl fun a S=>?_
 unfold Hc at h
 replace S:=S.k2 0 1 rfl
 refine Fr (Pt S (S.tm rfl) (cs:=(An.enc Bl)) rfl rfl ?_);clear S;intro a w1 b1 hz1 hk1 S
 refine Vk S rfl rfl fun a S=>Dz (Vm S rfl rfl fun a S=>Vq S Kw rfl rfl rfl fun a S=>Vf Sa S rfl rfl fun a S=>Vl isAgg3 0 S rfl rfl rfl rfl fun a S=>Vf Ty S rfl rfl fun a S=>Vl isAgg3 0 S rfl rfl rfl rfl ?_);clear S;intro a S
 refine Vb S Gx rfl rfl rfl fun a S=>Vb S Xt rfl rfl rfl fun a S=>Va S rfl rfl fun a S=>Dl (wp_ret ?_)
 subst h
 exact Gm S results55 rfl rfl
end Go.Proofs.YtlndicofaomdaaaGreatDoor
