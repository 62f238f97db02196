/- Each Go function computes its plain twin,by program. -/
import Derived.Test.YthlanmcejeohmaaGreatDoorTab
import Derived.Test.YthlanmcejeohmaaGreatDoorLay
namespace Go.Proofs.YthlanmcejeohmaaGreatDoor
open Go
open Go.Proofs.Tryz
theorem Mu (w : World) (Ai : Int) (Av : Int) (r : Int) (h : Jy Ai Av = some r) :
    Calls prog 45 [iV Ai,iV Av].toArray w (Ret w [] fun _ v _=>v = iV r):=by
 refine Fe func45 rfl ntmps45 rfl fun a S=>?_
 unfold Jy at h
 replace S:=S.k2 0 1 rfl
 refine Fr (Vk S rfl rfl fun a S=>Dl (Fs (Fr (Vm S rfl rfl fun a S=>Vq S Fi rfl rfl rfl fun a S=>Ld ?_))))
 refine Tn (Fc h (S.tm rfl) (fun hb1 h=>?_) (fun hb1 h=>?_))
 ·refine Fr (Vk S rfl rfl fun a S=>Dl (wp_ret (Dy ?_)))
  obtain rfl:=Option.some.inj h
  exact Fj S results45 rfl rfl
 ·refine wp_skip (Tn (Fr (Vm S rfl rfl fun a S=>Vm S rfl rfl ?_)));clear S;intro a S
  obtain ⟨hc1,h⟩:=Hx h
  refine lv S (CH (S.tm rfl) (S.tm rfl) (Rv hc1)) rfl fun a S=>Va S rfl rfl fun a S=>Dl (Fs (Fr (Vm S rfl rfl fun a S=>Vq S Fi rfl rfl rfl fun a S=>Dl ?_)))
  obtain ⟨j1,hj1,h⟩:=Fk h
  refine Er (fun a w'=>∃ x1 : Int,j1 x1 = some r ∧ Sx w [] nov [] [(0,iV x1)] 16 a w') ?_ ?_
  ·refine Fc h (S.tm rfl) (fun hb2 h=>?_) (fun hb2 h=>?_)
   ·exact Fg (Vm S rfl rfl fun a S=>Vm S rfl rfl fun a S=>Vb S Gb rfl rfl rfl fun a S=>Va S rfl rfl fun a S=>Dl (⟨W ((Int.tmod Ai Av) + Av),h,S.nf [] rfl ⟨rfl,trivial⟩⟩))
   ·exact wp_skip (Tn (⟨Int.tmod Ai Av,h,S.nf [] rfl ⟨rfl,trivial⟩⟩))
  clear S h;rintro a w1 ⟨x1,h,S⟩;rw [hj1] at h;clear hj1 j1
  refine Tn (Fr (Vm S rfl rfl fun a S=>Va S rfl rfl fun a S=>Dl (wp_ret ?_)))
  obtain rfl:=Option.some.inj h
  exact Fj S results45 rfl rfl
set_option maxRecDepth 20000 in
theorem Mv (w : World) (O : Nat) (Z : Value) (Al : List Int) (Ak : Slc (view w [O]) 1 Z (Al.map eInt)) (Ad : Int) (Ba : (LEnt.blk O [Z,iV Ad] 25).holds w) (Av : Int) (r : Int × Int) (h : Kw Al Ad Av = some r) :
    Calls prog 25 [.pointer (some ⟨O,0,none⟩),iV Av].toArray w (Ret w [O] fun _ v w'=>(LEnt.blk O [Z,iV r.2] 25).holds w' ∧ v = iV r.1):=by
 refine Jd [O] [.blk O [Z,iV Ad] 25] func25 rfl ntmps25 rfl (fun e he=>by simp only [List.mem_singleton] at he;subst he;exact Ba) (by simp [fps,LEnt.fp]) (by simp [fps,LEnt.fp]) fun a S=>?_
 unfold Kw at h
 replace S:=(S.nl [.blk O [Z,iV Ad] 25] [true] rfl).k2 0 1 rfl
 refine Fr (Vk S rfl rfl fun a S=>Dz (Vm S rfl rfl fun a S=>Vu S Ke rfl rfl fun a S=>Vf Sn S rfl rfl fun a S=>Vl isAgg3 0 S rfl rfl rfl rfl ?_));clear S;intro a S
 refine Vq S Gb rfl rfl rfl fun a S=>Vu S Ke rfl rfl fun a S=>Vf Sn S rfl rfl fun a S=>Hk S (S.tm rfl) (S.tm rfl) (i:=0) (off:=1) rfl sizeOf3 (vs:=[iV (W (Ad + 1))]) rfl rfl rfl rfl ?_;clear S;intro w1 hk1 S
 refine Dl (Fs (Fr (Vm S rfl rfl fun a S=>Vu S Ke rfl rfl fun a S=>Vf Uh S rfl rfl fun a S=>Vl isAgg22 0 S rfl rfl rfl rfl fun a S=>lv S (Gh Ji (S.tm rfl) (Hr Ak)) rfl fun a S=>Vq S Kh rfl rfl rfl ?_)));clear S;intro a S
 refine Ld ?_
 replace S:=(S.nl [.blk O [Z,iV (W (Ad + 1))] 25] [true] rfl).k3 0 1 19 rfl
 refine Tn (Fc h (S.tm rfl) (fun hb1 h=>?_) (fun hb1 h=>?_))
 ·refine Fr (Vm S rfl rfl fun a S=>Vu S Ke rfl rfl fun a S=>Vf Sn S rfl rfl fun a S=>Vl isAgg3 0 S rfl rfl rfl rfl fun a S=>Vq S CG rfl rfl rfl fun a S=>Vm S rfl rfl ?_);clear S;intro a S
  obtain ⟨r1,hr1,h⟩:=Eu h
  refine Ea S (fun _=>Dg (vs:=[iV (W ((W (Ad + 1)) * 7919)),iV Av]) ⟨(S.tm rfl),(S.tm rfl),trivial⟩ call45) (Mu _ (W ((W (Ad + 1)) * 7919)) Av _ hr1) rfl ?_;clear S;intro v1 a w2 hv1 hk2 hn1 S
  subst hv1
  refine Va S rfl rfl fun a S=>Dl (wp_ret (Dy ?_))
  obtain rfl:=Option.some.inj h
  exact Fj S results25 rfl ⟨(S.holds _ (List.mem_of_getElem? (i:=0) rfl)),rfl⟩
 ·refine wp_skip (Tn (Fs (Hy [] ([]) Tryz.mixed S rfl (by kernel_rfl) ?_)));clear S;intro w3 hk3 hsel S
  refine Nb [0,1,2,3,4,5,6,7,8,9,10,11] hsel (by kernel_rfl) rfl ?_
  clear hsel
  refine Gs S rfl (Rm (S.tm rfl)) rfl fun a S=>Gs S rfl (Ke (S.tm rfl)) rfl fun a S=>Gs S rfl (Jk Sn (S.tm rfl)) rfl fun a S=>Gs S rfl (Pu isAgg3 (S.tm rfl) (S.cell (i:=0) rfl rfl)) rfl fun a S=>Gs S rfl (Iq (S.tm rfl) rfl) rfl fun a S=>Gs S rfl (Rm (S.tm rfl)) rfl fun a S=>Gs S rfl (Ke (S.tm rfl)) rfl fun a S=>Gs S rfl (Jk Uh (S.tm rfl)) rfl fun a S=>Gs S rfl (Pu isAgg22 (S.tm rfl) (S.cell (i:=0) rfl rfl)) rfl fun a S=>Gs S rfl (Gh Ji (S.tm rfl) (Hr Ak)) rfl ?_;clear S;intro a S
  obtain ⟨hc1,h⟩:=Hx h
  refine Gs S rfl (CH (S.tm rfl) (S.tm rfl) (Rv hc1)) rfl fun a S=>Gs S rfl (Ra (S.tm rfl)) rfl fun a S=>Mi ?_
  replace S:=S.k3 0 1 5 rfl
  refine Tn (Fs (Hy [] ([]) Tryz.mixed S rfl (by kernel_rfl) ?_));clear S;intro w4 hk4 hsel S
  refine Nb [0,1,2,3,4,5,6,7,8,9,10,11] hsel (by kernel_rfl) rfl ?_
  clear hsel
  refine Gs S rfl (Rm (S.tm rfl)) rfl fun a S=>Gs S rfl (Ke (S.tm rfl)) rfl fun a S=>Gs S rfl (Jk Sn (S.tm rfl)) rfl fun a S=>Gs S rfl (Pu isAgg3 (S.tm rfl) (S.cell (i:=0) rfl rfl)) rfl fun a S=>Gs S rfl (Iq (S.tm rfl) rfl) rfl fun a S=>Gs S rfl (Rm (S.tm rfl)) rfl fun a S=>Gs S rfl (Ke (S.tm rfl)) rfl fun a S=>Gs S rfl (Jk Uh (S.tm rfl)) rfl fun a S=>Gs S rfl (Pu isAgg22 (S.tm rfl) (S.cell (i:=0) rfl rfl)) rfl fun a S=>Gs S rfl (Gh Ji (S.tm rfl) (Hr Ak)) rfl ?_;clear S;intro a S
  obtain ⟨hc2,h⟩:=Hx h
  refine Gs S rfl (Wv (S.tm rfl) (S.tm rfl) (Rv hc2)) rfl fun a S=>Gs S rfl (Ra (S.tm rfl)) rfl fun a S=>Mi ?_
  replace S:=S.k4 0 1 5 6 rfl
  refine Tn (Fr (Vm S rfl rfl fun a S=>Vu S Ke rfl rfl fun a S=>Vf Uh S rfl rfl fun a S=>Vl isAgg22 0 S rfl rfl rfl rfl fun a S=>Vm S rfl rfl ?_));clear S;intro a S
  obtain ⟨hc3,h⟩:=Hx h
  obtain ⟨b1,o1,hm1,hr2⟩:=Hs (a:=a) (x:=.tmp 52) (y:=.tmp 53) (ty:=0) Ji Ak (Dv hc3).1 (Dv hc3).2 (S.tm rfl) (S.tm rfl)
  refine lv S (hr2 _) rfl ?_;clear S;intro a S
  clear hr2
  refine lv S (Iv isAgg3 (off:=o1) (o:=0) (S.tm rfl) (hm1.at S.emb0) rfl) rfl ?_;clear S;intro a S
  obtain ⟨r2,hr3,h⟩:=Eu h
  refine Ea S (fun _=>Dg (vs:=[iV (nth Al (Int.tmod (W ((W (Ad + 1)) - 1)) (Al.length : Int))),iV 1073741824]) ⟨(S.tm rfl),rfl,trivial⟩ call45) (Mu _ (nth Al (Int.tmod (W ((W (Ad + 1)) - 1)) (Al.length : Int))) 1073741824 _ hr3) rfl ?_;clear S;intro v2 a w5 hv2 hk5 hn2 S
  subst hv2
  refine Vm S rfl rfl fun a S=>Vm S rfl rfl fun a S=>Vu S (Gb rfl) rfl rfl fun a S=>Vb S CG rfl rfl rfl fun a S=>Vb S Gb rfl rfl rfl fun a S=>Vm S rfl rfl ?_;clear S;intro a S
  obtain ⟨r3,hr4,h⟩:=Eu h
  refine Ea S (fun _=>Dg (vs:=[iV (W (r2 + (W ((W (Int.tdiv (W ((W (Ad + 1)) - 1)) (Al.length : Int))) * (W (7919 + (Int.tmod (W ((W (Ad + 1)) - 1)) (Al.length : Int)))))))),iV Av]) ⟨(S.tm rfl),(S.tm rfl),trivial⟩ call45) (Mu _ (W (r2 + (W ((W (Int.tdiv (W ((W (Ad + 1)) - 1)) (Al.length : Int))) * (W (7919 + (Int.tmod (W ((W (Ad + 1)) - 1)) (Al.length : Int)))))))) Av _ hr4) rfl ?_;clear S;intro v3 a w6 hv3 hk6 hn3 S
  subst hv3
  refine Va S rfl rfl fun a S=>Ld ?_
  replace S:=S.k1 4 rfl
  refine Tn (wp_ret ?_)
  obtain rfl:=Option.some.inj h
  exact Fj S results25 rfl ⟨(S.holds _ (List.mem_of_getElem? (i:=0) rfl)),rfl⟩
theorem Mw (w : World) (O : Nat) (Z : Value) (Al : List Int) (Ak : Slc (view w [O]) 1 Z (Al.map eInt)) (Ad : Int) (Ba : (LEnt.blk O [Z,iV Ad] 25).holds w) (Av : Int) (r : Bool × Int) (h : Kf Al Ad Av = some r) :
    Calls prog 23 [.pointer (some ⟨O,0,none⟩),iV Av].toArray w (Ret w [O] fun _ v w'=>(LEnt.blk O [Z,iV r.2] 25).holds w' ∧ v = bV r.1):=by
 refine Jd [O] [.blk O [Z,iV Ad] 25] func23 rfl ntmps23 rfl (fun e he=>by simp only [List.mem_singleton] at he;subst he;exact Ba) (by simp [fps,LEnt.fp]) (by simp [fps,LEnt.fp]) fun a S=>?_
 unfold Kf at h
 replace S:=(S.nl [.blk O [Z,iV Ad] 25] [true] rfl).k2 0 1 rfl
 refine Fr (Vk S rfl rfl fun a S=>Dz (Vm S rfl rfl fun a S=>Vm S rfl rfl ?_));clear S;intro a S
 obtain ⟨r1,hr1,h⟩:=Eu h
 refine Ga 0 S (b:=O) rfl rfl (fun _=>.blk O [Z,iV r1.2] 25) (fun _=>Dg (vs:=[.pointer (some ⟨O,0,none⟩),iV Av]) ⟨(S.tm rfl),(S.tm rfl),trivial⟩ call25) (Mv _ O Z Al (Ak.mono (S.le_arg (Ht (i:=0) (e:=.blk O [Z,iV Ad] 25) rfl))) Ad (S.holds _ (List.mem_of_getElem? (i:=0) rfl)) Av _ hr1) rfl (fun _ _ _ h=>⟨h.1,fun _ hc=>by cases hc;rfl⟩) ?_;clear S;intro v1 a w1 hv1 hk1 hn1 S
 replace hv1:=hv1.2
 subst hv1
 refine Vq S Kh rfl rfl rfl fun a S=>Va S rfl rfl fun a S=>Dl (wp_ret ?_)
 obtain rfl:=Option.some.inj h
 exact Fj S results23 rfl ⟨(S.holds _ (List.mem_of_getElem? (i:=0) rfl)),rfl⟩
theorem Ku (w : World) (O : Nat) (Z : Value) (Al : List Int) (Ak : Slc (view w [O]) 1 Z (Al.map eInt)) (Ad : Int) (Ba : (LEnt.blk O [Z,iV Ad] 25).holds w) (Ab : Value) (Ag : List Int) (Ah : Slc (view w [O]) 1 Ab (Ag.map eInt)) (r : Int × Int) (h : Jf Al Ad Ag = some r) :
    Calls prog 6 [.pointer (some ⟨O,0,none⟩),Ab].toArray w (Ret w [O] fun _ v w'=>(LEnt.blk O [Z,iV r.2] 25).holds w' ∧ v = iV r.1):=by
 refine Jd [O] [.blk O [Z,iV Ad] 25] func6 rfl ntmps6 rfl (fun e he=>by simp only [List.mem_singleton] at he;subst he;exact Ba) (by simp [fps,LEnt.fp]) (by simp [fps,LEnt.fp]) fun a S=>?_
 unfold Jf at h
 replace S:=(S.nl [.blk O [Z,iV Ad] 25] [true] rfl).k2 0 1 rfl
 refine Fr (Vk S rfl rfl fun a S=>Dl (Fs (Fg ?_)))
 iterate 3 (refine Vm S rfl rfl ?_;clear S;intro a S)
 refine lv S (Gh Ji (S.tm rfl) (Hr Ah)) rfl ?_;clear S;intro a S
 obtain ⟨r1,hr1,h⟩:=Eu h
 refine Ga 0 S (b:=O) rfl rfl (fun _=>.blk O [Z,iV r1.2] 25) (fun _=>Dg (vs:=[.pointer (some ⟨O,0,none⟩),iV (Ag.length : Int)]) ⟨(S.tm rfl),(S.tm rfl),trivial⟩ call25) (Mv _ O Z Al (Ak.mono (S.le_arg (Ht (i:=0) (e:=.blk O [Z,iV Ad] 25) rfl))) Ad (S.holds _ (List.mem_of_getElem? (i:=0) rfl)) (Ag.length : Int) _ hr1) rfl (fun _ _ _ h=>⟨h.1,fun _ hc=>by cases hc;rfl⟩) ?_;clear S;intro v1 a w1 hv1 hk1 hn1 S
 replace hv1:=hv1.2
 subst hv1
 obtain ⟨hc1,h⟩:=Hx h
 obtain ⟨b1,o1,hm1,hr2⟩:=Hs (a:=a) (x:=.tmp 5) (y:=.tmp 9) (ty:=0) Ji Ah (Dv hc1).1 (Dv hc1).2 (S.tm rfl) (S.tm rfl)
 refine lv S (hr2 _) rfl ?_;clear S;intro a S
 clear hr2
 refine lv S (Iv isAgg3 (off:=o1) (o:=0) (S.tm rfl) (hm1.at S.emb0) rfl) rfl fun a S=>Va S rfl rfl fun a S=>Dl (wp_ret ?_)
 obtain rfl:=Option.some.inj h
 exact Fj S results6 rfl ⟨(S.holds _ (List.mem_of_getElem? (i:=0) rfl)),rfl⟩
theorem Ie (w : World) (O : Nat) (Z : Value) (Al : List Int) (Ak : Slc (view w [O]) 1 Z (Al.map eInt)) (Ad : Int) (Ba : (LEnt.blk O [Z,iV Ad] 25).holds w) (Ab : Value) (Ag : List ByteArray) (Ah : Slc (view w [O]) 1 Ab (Ag.map Kx)) (r : ByteArray × Int) (h : Jt Al Ad Ag = some r) :
    Calls prog 5 [.pointer (some ⟨O,0,none⟩),Ab].toArray w (Ret w [O] fun _ v w'=>(LEnt.blk O [Z,iV r.2] 25).holds w' ∧ v = sV r.1):=by
 refine Jd [O] [.blk O [Z,iV Ad] 25] func5 rfl ntmps5 rfl (fun e he=>by simp only [List.mem_singleton] at he;subst he;exact Ba) (by simp [fps,LEnt.fp]) (by simp [fps,LEnt.fp]) fun a S=>?_
 unfold Jt at h
 replace S:=(S.nl [.blk O [Z,iV Ad] 25] [true] rfl).k2 0 1 rfl
 refine Fr (Vk S rfl rfl fun a S=>Dl (Fs (Fg ?_)))
 iterate 3 (refine Vm S rfl rfl ?_;clear S;intro a S)
 refine lv S (Gh Mn (S.tm rfl) (Hr Ah)) rfl ?_;clear S;intro a S
 obtain ⟨r1,hr1,h⟩:=Eu h
 refine Ga 0 S (b:=O) rfl rfl (fun _=>.blk O [Z,iV r1.2] 25) (fun _=>Dg (vs:=[.pointer (some ⟨O,0,none⟩),iV (Ag.length : Int)]) ⟨(S.tm rfl),(S.tm rfl),trivial⟩ call25) (Mv _ O Z Al (Ak.mono (S.le_arg (Ht (i:=0) (e:=.blk O [Z,iV Ad] 25) rfl))) Ad (S.holds _ (List.mem_of_getElem? (i:=0) rfl)) (Ag.length : Int) _ hr1) rfl (fun _ _ _ h=>⟨h.1,fun _ hc=>by cases hc;rfl⟩) ?_;clear S;intro v1 a w1 hv1 hk1 hn1 S
 replace hv1:=hv1.2
 subst hv1
 obtain ⟨hc1,h⟩:=Hx h
 obtain ⟨b1,o1,hm1,hr2⟩:=Hs (a:=a) (x:=.tmp 5) (y:=.tmp 9) (ty:=0) Mn Ah (Dv hc1).1 (Dv hc1).2 (S.tm rfl) (S.tm rfl)
 refine lv S (hr2 _) rfl ?_;clear S;intro a S
 clear hr2
 refine lv S (Iv isAgg9 (off:=o1) (o:=0) (S.tm rfl) (hm1.at S.emb0) rfl) rfl fun a S=>Va S rfl rfl fun a S=>Dl (wp_ret ?_)
 obtain rfl:=Option.some.inj h
 exact Fj S results5 rfl ⟨(S.holds _ (List.mem_of_getElem? (i:=0) rfl)),rfl⟩
theorem Qf (w : World) (O : Nat) (Z : Value) (Al : List Int) (Ak : Slc (view w [O]) 1 Z (Al.map eInt)) (Ad : Int) (Ba : (LEnt.blk O [Z,iV Ad] 25).holds w) (Az : Int) (Au : Int) (r : Int × Int) (h : La Al Ad Az Au = some r) :
    Calls prog 26 [.pointer (some ⟨O,0,none⟩),iV Az,iV Au].toArray w (Ret w [O] fun _ v w'=>(LEnt.blk O [Z,iV r.2] 25).holds w' ∧ v = iV r.1):=by
 refine Jd [O] [.blk O [Z,iV Ad] 25] func26 rfl ntmps26 rfl (fun e he=>by simp only [List.mem_singleton] at he;subst he;exact Ba) (by simp [fps,LEnt.fp]) (by simp [fps,LEnt.fp]) fun a S=>?_
 unfold La at h
 replace S:=(S.nl [.blk O [Z,iV Ad] 25] [true] rfl).k3 0 1 2 rfl
 refine Fr (Vk S rfl rfl fun a S=>Dl (Fs (Fr (Vm S rfl rfl fun a S=>Vm S rfl rfl fun a S=>Vb S Fi rfl rfl rfl ?_))));clear S;intro a S
 refine Dl (Fc h (S.tm rfl) (fun hb1 h=>?_) (fun hb1 h=>?_))
 ·refine Fr (Vm S rfl rfl fun a S=>Va S rfl rfl fun a S=>Dl (wp_ret (Dy ?_)))
  obtain rfl:=Option.some.inj h
  exact Fj S results26 rfl ⟨(S.holds _ (List.mem_of_getElem? (i:=0) rfl)),rfl⟩
 ·refine wp_skip (Tn (Fs (Fg ?_)))
  iterate 4 (refine Vm S rfl rfl ?_;clear S;intro a S)
  refine Vb S Iq rfl rfl rfl fun a S=>Vq S Gb rfl rfl rfl ?_;clear S;intro a S
  obtain ⟨r1,hr1,h⟩:=Eu h
  refine Ga 0 S (b:=O) rfl rfl (fun _=>.blk O [Z,iV r1.2] 25) (fun _=>Dg (vs:=[.pointer (some ⟨O,0,none⟩),iV (W ((W (Au - Az)) + 1))]) ⟨(S.tm rfl),(S.tm rfl),trivial⟩ call25) (Mv _ O Z Al (Ak.mono (S.le_arg (Ht (i:=0) (e:=.blk O [Z,iV Ad] 25) rfl))) Ad (S.holds _ (List.mem_of_getElem? (i:=0) rfl)) (W ((W (Au - Az)) + 1)) _ hr1) rfl (fun _ _ _ h=>⟨h.1,fun _ hc=>by cases hc;rfl⟩) ?_;clear S;intro v1 a w1 hv1 hk1 hn1 S
  replace hv1:=hv1.2
  subst hv1
  refine Vb S Gb rfl rfl rfl fun a S=>Va S rfl rfl fun a S=>Ld ?_
  replace S:=(S.nl [.blk O [Z,iV r1.2] 25] [true] rfl).k1 6 rfl
  refine Tn (wp_ret ?_)
  obtain rfl:=Option.some.inj h
  exact Fj S results26 rfl ⟨(S.holds _ (List.mem_of_getElem? (i:=0) rfl)),rfl⟩
theorem Nm (w : World) (O : Nat) (Z : Value) (Al : List Int) (Ak : Slc (view w [O]) 1 Z (Al.map eInt)) (Ad : Int) (Ba : (LEnt.blk O [Z,iV Ad] 25).holds w) (Az : Int) (Au : Int) (r : Int × Int) (h : Nf Al Ad Az Au = some r) :
    Calls prog 24 [.pointer (some ⟨O,0,none⟩),iV Az,iV Au].toArray w (Ret w [O] fun _ v w'=>(LEnt.blk O [Z,iV r.2] 25).holds w' ∧ v = iV r.1):=by
 refine Jd [O] [.blk O [Z,iV Ad] 25] func24 rfl ntmps24 rfl (fun e he=>by simp only [List.mem_singleton] at he;subst he;exact Ba) (by simp [fps,LEnt.fp]) (by simp [fps,LEnt.fp]) fun a S=>?_
 unfold Nf at h
 replace S:=(S.nl [.blk O [Z,iV Ad] 25] [true] rfl).k3 0 1 2 rfl
 refine Fr (Vk S rfl rfl fun a S=>Dl (Fs (Fr (Vm S rfl rfl ?_))));clear S;intro a S
 obtain ⟨r1,hr1,h⟩:=Eu h
 refine Ga 0 S (b:=O) rfl rfl (fun _=>.blk O [Z,iV r1.2] 25) (fun _=>Dg (vs:=[.pointer (some ⟨O,0,none⟩),iV 12]) ⟨(S.tm rfl),rfl,trivial⟩ call23) (Mw _ O Z Al (Ak.mono (S.le_arg (Ht (i:=0) (e:=.blk O [Z,iV Ad] 25) rfl))) Ad (S.holds _ (List.mem_of_getElem? (i:=0) rfl)) 12 _ hr1) rfl (fun _ _ _ h=>⟨h.1,fun _ hc=>by cases hc;rfl⟩) ?_;clear S;intro v1 a w1 hv1 hk1 hn1 S
 replace hv1:=hv1.2
 subst hv1
 refine Dl (Fc h (S.tm rfl) (fun hb1 h=>?_) (fun hb1 h=>?_))
 ·refine Fr (Vm S rfl rfl fun a S=>Vm S rfl rfl fun a S=>Vq S Iq rfl rfl rfl fun a S=>Vm S rfl rfl fun a S=>Vq S Gb rfl rfl rfl fun a S=>Vm S rfl rfl fun a S=>Vm S rfl rfl fun a S=>El S underlying22 sizeOf3 zeroValue3 rfl rfl (pv:=[(0,iV (W (Az - 1))),(1,iV (W (Au + 1))),(2,iV Az),(3,iV Au),(4,iV (-1099511627776)),(5,iV 1099511627776)]) ⟨rfl,(S.tm rfl),rfl,(S.tm rfl),rfl,(S.tm rfl),rfl,(S.tm rfl),rfl,rfl,rfl,rfl,trivial⟩ (cs:=[iV (W (Az - 1)),iV (W (Au + 1)),iV Az,iV Au,iV (-1099511627776),iV 1099511627776]) (by kernel_rfl) rfl ?_);clear S;intro a w2 b1 hz1 hk2 S
  obtain ⟨r2,hr2,h⟩:=Eu h
  refine Ga 1 S (b:=O) rfl rfl (fun _=>.blk O [Z,iV r2.2] 25) (fun _=>Dg (vs:=[.pointer (some ⟨O,0,none⟩),.slice (some ⟨b1,0,none⟩) 6 6]) ⟨(S.tm rfl),(S.tm rfl),trivial⟩ call6) (Ku _ O Z Al (Ak.mono (S.le_arg (Ht (i:=1) (e:=.blk O [Z,iV r1.2] 25) rfl))) r1.2 (S.holds _ (List.mem_of_getElem? (i:=1) rfl)) (.slice (some ⟨b1,0,none⟩) 6 6) [W (Az - 1),W (Au + 1),Az,Au,(-1099511627776),1099511627776] (Hz Ex S (i:=0) rfl rfl rfl rfl ((Le (i:=1) (j:=0) (e:=.blk O [Z,iV r1.2] 25) (e':=.blk b1 [iV (W (Az - 1)),iV (W (Au + 1)),iV Az,iV Au,iV (-1099511627776),iV 1099511627776] 3) S rfl rfl rfl) _ rfl)) _ hr2) rfl (fun _ _ _ h=>⟨h.1,fun _ hc=>by cases hc;rfl⟩) ?_;clear S;intro v2 a w3 hv2 hk3 hn2 S
  replace hv2:=hv2.2
  subst hv2
  refine Va S rfl rfl fun a S=>Ld ?_
  replace S:=(S.nl [.blk O [Z,iV r2.2] 25] [false,true] rfl).k1 6 rfl
  refine Tn (wp_ret (Dy ?_))
  obtain rfl:=Option.some.inj h
  exact Fj S results24 rfl ⟨(S.holds _ (List.mem_of_getElem? (i:=0) rfl)),rfl⟩
 ·refine wp_skip (Tn (Fs (Fg ?_)))
  iterate 3 (refine Vm S rfl rfl ?_;clear S;intro a S)
  obtain ⟨r3,hr3,h⟩:=Eu h
  refine Ga 0 S (b:=O) rfl rfl (fun _=>.blk O [Z,iV r3.2] 25) (fun _=>Dg (vs:=[.pointer (some ⟨O,0,none⟩),iV Az,iV Au]) ⟨(S.tm rfl),(S.tm rfl),(S.tm rfl),trivial⟩ call26) (Qf _ O Z Al (Ak.mono (S.le_arg (Ht (i:=0) (e:=.blk O [Z,iV r1.2] 25) rfl))) r1.2 (S.holds _ (List.mem_of_getElem? (i:=0) rfl)) Az Au _ hr3) rfl (fun _ _ _ h=>⟨h.1,fun _ hc=>by cases hc;rfl⟩) ?_;clear S;intro v3 a w4 hv3 hk4 hn3 S
  replace hv3:=hv3.2
  subst hv3
  refine Va S rfl rfl fun a S=>Dl (wp_ret ?_)
  obtain rfl:=Option.some.inj h
  exact Fj S results24 rfl ⟨(S.holds _ (List.mem_of_getElem? (i:=0) rfl)),rfl⟩
theorem Tz (w : World) (O : Nat) (Z : Value) (Al : List Int) (Ak : Slc (view w [O]) 1 Z (Al.map eInt)) (Ad : Int) (Ba : (LEnt.blk O [Z,iV Ad] 25).holds w) (r : (List Dw) × Int) (h : Mr Al Ad = some r) :
    Calls prog 4 [.pointer (some ⟨O,0,none⟩)].toArray w (Ret w [O] fun τ v w'=>(LEnt.blk O [Z,iV r.2] 25).holds w' ∧ Pc τ 45 2 v r.1.length (r.1.flatMap Dw.enc)):=by
 refine Jd [O] [.blk O [Z,iV Ad] 25] func4 rfl ntmps4 rfl (fun e he=>by simp only [List.mem_singleton] at he;subst he;exact Ba) (by simp [fps,LEnt.fp]) (by simp [fps,LEnt.fp]) fun a S=>?_
 unfold Mr at h
 replace S:=(S.nl [.blk O [Z,iV Ad] 25] [true] rfl).k1 0 rfl
 refine Fr (Vk S rfl rfl fun a S=>Dz (Vk S rfl rfl ?_));clear S;intro a S
 replace S:=S.nil 45 2
 refine Dl (Fs (Fr (El S underlying59 sizeOf9 zeroValue9 rfl rfl (pv:=[(0,sV Kz),(1,sV Mb),(2,sV Nd)]) ⟨rfl,rfl,rfl,rfl,rfl,rfl,trivial⟩ (cs:=[sV Kz,sV Mb,sV Nd]) (by kernel_rfl) rfl ?_)));clear S;intro a w1 b1 hz1 hk1 S
 refine lv S (Gh Mn (S.tm rfl) ⟨_,_,rfl⟩) rfl fun a S=>lv S (Rm rfl) rfl fun a S=>Dl ?_
 replace S:=(S.nl [.blk b1 [sV Kz,sV Mb,sV Nd] 9,.own (.slice none 0 0) 45 2 ([] : List Dw).length (([] : List Dw).flatMap Dw.enc),.blk O [Z,iV Ad] 25] [true,true,true] rfl).k5 0 3 7 8 9 rfl
 replace S:=S.litOwn (i:=0) (xs:=[Kz,Mb,Nd]) rfl He rfl rfl rfl
 replace S:=S.nk [.own (.slice (some ⟨b1,0,none⟩) 3 3) 9 1 ([Kz,Mb,Nd] : List ByteArray).length (([Kz,Mb,Nd] : List ByteArray).flatMap Kx),.own (.slice none 0 0) 45 2 ([] : List Dw).length (([] : List Dw).flatMap Dw.enc),.blk O [Z,iV Ad] 25] [(0,.pointer (some ⟨O,0,none⟩)),(3,(.slice none 0 0)),(7,(.slice (some ⟨b1,0,none⟩) 3 3)),(8,iV (([Kz,Mb,Nd] : List ByteArray).length : Int)),(9,iV 0)] [] rfl (subR rfl)
 obtain ⟨φ1,hl1,hs1,S⟩:=S.freezeT (xs:=([Kz,Mb,Nd] : List ByteArray)) (enc:=Kx) (i:=0) rfl (fun c hc hh=>Ue S (i:=2) rfl rfl (j:=0) rfl rfl (by simp at hc;subst hc;exact hh))
 replace S:=S.nk [.own (.slice none 0 0) 45 2 ([] : List Dw).length (([] : List Dw).flatMap Dw.enc),.blk O [Z,iV Ad] 25] [(0,.pointer (some ⟨O,0,none⟩)),(3,(.slice none 0 0)),(7,(.slice (some ⟨b1,0,none⟩) 3 3)),(8,iV (([Kz,Mb,Nd] : List ByteArray).length : Int)),(9,iV 0)] [] rfl (subR rfl)
 obtain ⟨j1,hj1,h⟩:=Fk h
 refine Er (fun a w'=>∃ x1 : List Dw,∃ x2 : Int,∃ v1 : Value,j1 x1 x2 = some r ∧ Sx w [O] φ1 [.own v1 45 2 x1.length (x1.flatMap Dw.enc),.blk O [Z,iV x2] 25] [(3,v1)] 36 a w') ?_ ?_
 ·refine wp_block (Gz (fun (ys1 : List ByteArray) a w'=>∃ i1 : Nat,∃ x1 : List Dw,∃ x2 : Int,∃ v1 : Value,(∃ dn,([Kz,Mb,Nd] : List ByteArray) = dn ++ ys1 ∧ dn.length = i1) ∧ Gt Al j1 ys1 i1 x1 x2 = some r ∧ Sx w [O] φ1 [.own v1 45 2 x1.length (x1.flatMap Dw.enc),.blk O [Z,iV x2] 25] [(0,.pointer (some ⟨O,0,none⟩)),(3,v1),(7,(.slice (some ⟨b1,0,none⟩) 3 3)),(8,iV (([Kz,Mb,Nd] : List ByteArray).length : Int)),(9,iV (i1 : Int))] 36 a w') List.length ([Kz,Mb,Nd] : List ByteArray) ⟨0,([] : List Dw),Ad,(.slice none 0 0),⟨[],rfl,rfl⟩,h,S.nf [true,true] rfl (subR rfl)⟩ ?_)
  clear S h;rintro ys1 a w2 ⟨i1,x1,x2,v1,⟨dn,hd1,hi1⟩,h,S⟩
  cases ys1 with
  | nil =>
   rw [Gt.eq_1] at h
   refine Fr (Vb S Fi rfl rfl rfl fun a S=>Ld ?_)
   replace S:=S.k6 0 3 7 8 9 10 rfl
   exact Tn (Fs (wp_cond_false ((S.tm rfl).trans (congrArg Value.bool (Kq hd1 hi1))) (wp_exit (Ek (Ek (Ha (Tn (⟨x1,x2,v1,h,S.nf [true,true] rfl ⟨rfl,trivial⟩⟩))))))))
  | cons y1 ys1 =>
   rw [Gt.eq_2] at h
   refine Fr (Vb S Fi rfl rfl rfl fun a S=>Ld ?_)
   replace S:=S.k6 0 3 7 8 9 10 rfl
   refine Tn (Fs (wp_cond_true ((S.tm rfl).trans (congrArg Value.bool (Jm hd1 hi1))) (wp_skip (Tn (Fs ?_)))))
   obtain ⟨j2,hj2,h⟩:=Fk h
   refine Er (fun a w'=>∃ x3 : List Dw,∃ x4 : Int,∃ v2 : Value,j2 x3 x4 = some r ∧ Sx w [O] φ1 [.own v2 45 2 x3.length (x3.flatMap Dw.enc),.blk O [Z,iV x4] 25] [(0,.pointer (some ⟨O,0,none⟩)),(3,v2),(7,(.slice (some ⟨b1,0,none⟩) 3 3)),(8,iV (([Kz,Mb,Nd] : List ByteArray).length : Int)),(9,iV (i1 : Int))] 36 a w') ?_ ?_
   ·refine wp_block (Fs (Fg ?_))
    obtain ⟨b2,o1,hm1,hr1⟩:=Hs (a:=a) (x:=.tmp 7) (y:=.tmp 9) (ty:=0) Mn (Hi He hs1) (Kd hd1 hi1) rfl (S.tm rfl) (S.tm rfl)
    refine lv S (hr1 _) rfl ?_;clear S;intro a S
    clear hr1
    refine lv S (Iv isAgg9 (off:=o1) (o:=0) (S.tm rfl) (hm1.at S.emb) rfl) rfl fun a S=>Va S rfl rfl fun a S=>Dl (Fs (Fr (Vm S rfl rfl ?_)));clear S;intro a S
    obtain ⟨r1,hr2,h⟩:=Eu h
    refine Ga 1 S (b:=O) rfl rfl (fun _=>.blk O [Z,iV r1.2] 25) (fun _=>Dg (vs:=[.pointer (some ⟨O,0,none⟩),iV 5]) ⟨(S.tm rfl),rfl,trivial⟩ call23) (Mw _ O Z Al (Ak.mono (S.le_arg (Ht (i:=1) (e:=.blk O [Z,iV x2] 25) rfl))) x2 (S.holds _ (List.mem_of_getElem? (i:=1) rfl)) 5 _ hr2) rfl (fun _ _ _ h=>⟨h.1,fun _ hc=>by cases hc;rfl⟩) ?_;clear S;intro v3 a w5 hv1 hk2 hn1 S
    replace hv1:=hv1.2
    subst hv1
    refine Dl (Fc h (S.tm rfl) (fun hb1 h=>?_) (fun hb1 h=>?_))
    ·exact wp_exit (Ek (Ha (Tn (⟨x1,r1.2,v1,h,S.nf [true,true] rfl (subR rfl)⟩))))
    ·refine wp_skip (Tn (Fr (Vm S rfl rfl fun a S=>Vm S rfl rfl fun a S=>El S underlying22 sizeOf3 zeroValue3 rfl rfl (pv:=[(0,iV 1),(1,iV 2000),(2,iV 3000),(3,iV 5999),(4,iV 360000)]) ⟨rfl,rfl,rfl,rfl,rfl,rfl,rfl,rfl,rfl,rfl,trivial⟩ (cs:=[iV 1,iV 2000,iV 3000,iV 5999,iV 360000]) (by kernel_rfl) rfl ?_)));clear S;intro a w6 b3 hz2 hk3 S
     obtain ⟨r2,hr3,h⟩:=Eu h
     refine Ga 2 S (b:=O) rfl rfl (fun _=>.blk O [Z,iV r2.2] 25) (fun _=>Dg (vs:=[.pointer (some ⟨O,0,none⟩),.slice (some ⟨b3,0,none⟩) 5 5]) ⟨(S.tm rfl),(S.tm rfl),trivial⟩ call6) (Ku _ O Z Al (Ak.mono (S.le_arg (Ht (i:=2) (e:=.blk O [Z,iV r1.2] 25) rfl))) r1.2 (S.holds _ (List.mem_of_getElem? (i:=2) rfl)) (.slice (some ⟨b3,0,none⟩) 5 5) [1,2000,3000,5999,360000] (Hz Ex S (i:=0) rfl rfl rfl rfl ((Le (i:=2) (j:=0) (e:=.blk O [Z,iV r1.2] 25) (e':=.blk b3 [iV 1,iV 2000,iV 3000,iV 5999,iV 360000] 3) S rfl rfl rfl) _ rfl)) _ hr3) rfl (fun _ _ _ h=>⟨h.1,fun _ hc=>by cases hc;rfl⟩) ?_;clear S;intro v4 a w7 hv2 hk4 hn2 S
     replace hv2:=hv2.2
     subst hv2
     refine lv S (Pv bt_45 (pv:=[(0,sV y1),(1,iV r2.1)]) ⟨rfl,(S.tm rfl),rfl,(S.tm rfl),trivial⟩ (cs:=[sV y1,iV r2.1]) (by kernel_rfl)) rfl fun a S=>Ko S zeroValue45 (cs:=[sV Ec,iV 0]) rfl rfl ?_;clear S;intro a w8 b4 hz3 hk5 S
     refine Hk S (S.tm rfl) (S.tm rfl) (i:=0) (off:=0) rfl sizeOf45 (vs:=[sV y1,iV r2.1]) rfl rfl rfl rfl ?_;clear S;intro w9 hk6 S
     refine Ld ?_
     replace S:=(S.nl [.blk b4 [sV y1,iV r2.1] 45,.own v1 45 2 x1.length (x1.flatMap Dw.enc),.blk O [Z,iV r2.2] 25] [true,false,true,true] rfl).k7 0 3 5 6 7 8 9 rfl
     refine Tn (Fs (Fr (Vm S rfl rfl ?_)));clear S;intro a S
     obtain ⟨r3,hr4,h⟩:=Eu h
     refine Ga 2 S (b:=O) rfl rfl (fun _=>.blk O [Z,iV r3.2] 25) (fun _=>Dg (vs:=[.pointer (some ⟨O,0,none⟩),iV 40]) ⟨(S.tm rfl),rfl,trivial⟩ call23) (Mw _ O Z Al (Ak.mono (S.le_arg (Ht (i:=2) (e:=.blk O [Z,iV r2.2] 25) rfl))) r2.2 (S.holds _ (List.mem_of_getElem? (i:=2) rfl)) 40 _ hr4) rfl (fun _ _ _ h=>⟨h.1,fun _ hc=>by cases hc;rfl⟩) ?_;clear S;intro v5 a w10 hv3 hk7 hn3 S
     replace hv3:=hv3.2
     subst hv3
     refine Dl ?_
     obtain ⟨j3,hj3,h⟩:=Fk h
     refine Er (fun a w'=>∃ x5 : ByteArray,∃ x6 : Int,∃ x7 : Int,j3 x5 x6 x7 = some r ∧ Sx w [O] φ1 [.blk b4 [sV x5,iV x6] 45,.own v1 45 2 x1.length (x1.flatMap Dw.enc),.blk O [Z,iV x7] 25] [(0,.pointer (some ⟨O,0,none⟩)),(3,v1),(6,.pointer (some ⟨b4,0,none⟩)),(7,(.slice (some ⟨b1,0,none⟩) 3 3)),(8,iV (([Kz,Mb,Nd] : List ByteArray).length : Int)),(9,iV (i1 : Int))] 36 a w') ?_ ?_
     ·refine Fc h (S.tm rfl) (fun hb2 h=>?_) (fun hb2 h=>?_)
      ·refine Fg (Vm S rfl rfl fun a S=>Vm S rfl rfl fun a S=>El S underlying59 sizeOf9 zeroValue9 rfl rfl (pv:=[(0,sV y1),(1,sV Ec),(2,sV Kz)]) ⟨rfl,(S.tm rfl),rfl,rfl,rfl,rfl,trivial⟩ (cs:=[sV y1,sV Ec,sV Kz]) (by kernel_rfl) rfl ?_);clear S;intro a w12 b5 hz4 hk8 S
       obtain ⟨r4,hr5,h⟩:=Eu h
       refine Ga 3 S (b:=O) rfl rfl (fun _=>.blk O [Z,iV r4.2] 25) (fun _=>Dg (vs:=[.pointer (some ⟨O,0,none⟩),.slice (some ⟨b5,0,none⟩) 3 3]) ⟨(S.tm rfl),(S.tm rfl),trivial⟩ call5) (Ie _ O Z Al (Ak.mono (S.le_arg (Ht (i:=3) (e:=.blk O [Z,iV r3.2] 25) rfl))) r3.2 (S.holds _ (List.mem_of_getElem? (i:=3) rfl)) (.slice (some ⟨b5,0,none⟩) 3 3) [y1,Ec,Kz] (Hz He S (i:=0) rfl rfl rfl rfl ((Le (i:=3) (j:=0) (e:=.blk O [Z,iV r3.2] 25) (e':=.blk b5 [sV y1,sV Ec,sV Kz] 9) S rfl rfl rfl) _ rfl)) _ hr5) rfl (fun _ _ _ h=>⟨h.1,fun _ hc=>by cases hc;rfl⟩) ?_;clear S;intro v6 a w13 hv4 hk9 hn4 S
       replace hv4:=hv4.2
       subst hv4
       refine Vm S rfl rfl ?_;clear S;intro a S
       obtain ⟨r5,hr6,h⟩:=Eu h
       refine Ga 3 S (b:=O) rfl rfl (fun _=>.blk O [Z,iV r5.2] 25) (fun _=>Dg (vs:=[.pointer (some ⟨O,0,none⟩),iV 1,iV 360000]) ⟨(S.tm rfl),rfl,rfl,trivial⟩ call24) (Nm _ O Z Al (Ak.mono (S.le_arg (Ht (i:=3) (e:=.blk O [Z,iV r4.2] 25) rfl))) r4.2 (S.holds _ (List.mem_of_getElem? (i:=3) rfl)) 1 360000 _ hr6) rfl (fun _ _ _ h=>⟨h.1,fun _ hc=>by cases hc;rfl⟩) ?_;clear S;intro v7 a w14 hv5 hk10 hn5 S
       replace hv5:=hv5.2
       subst hv5
       refine Vf Nk S rfl rfl fun a S=>Hk S (S.tm rfl) (S.tm rfl) (i:=1) (off:=0) rfl sizeOf9 (vs:=[sV r4.1]) rfl rfl rfl rfl ?_;clear S;intro w15 hk11 S
       refine Vf So S rfl rfl fun a S=>Hk S (S.tm rfl) (S.tm rfl) (i:=1) (off:=1) rfl sizeOf3 (vs:=[iV r5.1]) rfl rfl rfl rfl ?_;clear S;intro w16 hk12 S
       refine Ld ?_
       replace S:=(S.nl [.blk b4 [sV r4.1,iV r5.1] 45,.own v1 45 2 x1.length (x1.flatMap Dw.enc),.blk O [Z,iV r5.2] 25] [false,true,true,true] rfl).k6 0 3 6 7 8 9 rfl
       exact Tn (⟨r4.1,r5.1,r5.2,h,S.nf [true,true,true] rfl (subR rfl)⟩)
      ·exact wp_skip (Tn (⟨y1,r2.1,r3.2,h,S.nf [true,true,true] rfl (subR rfl)⟩))
     clear S h;rintro a w11 ⟨x5,x6,x7,h,S⟩;rw [hj3] at h;clear hj3 j3
     refine Tn (Fg (Vm S rfl rfl fun a S=>lv S (Kk isAgg45 sizeOf45 (off:=0) (o:=0) (part:=[sV x5,iV x6]) rfl rfl (S.tm rfl) (S.cellsAt (i:=0) rfl)) rfl fun a S=>El S underlying26 sizeOf45 zeroValue45 rfl rfl (pv:=[(0,.agg #[sV x5,iV x6])]) ⟨rfl,(S.tm rfl),trivial⟩ (cs:=[sV x5,iV x6]) (by kernel_rfl) rfl ?_));clear S;intro a w17 b6 hz5 hk13 S
     obtain ⟨hc1,h⟩:=Hx h
     refine Na Ot Dw.enc_ok S (S.tm rfl) (i:=2) rfl (S.tm rfl) (j:=0) rfl (ys:=[(Dw.mk x5 x6)]) rfl rfl rfl rfl (by have:=Pq hc1;omega) rfl ?_;clear S;intro v8 a w18 hk14 S
     exact Va S rfl rfl fun a S=>Ld (Jb (Tn (⟨(x1 ++ [(Dw.mk x5 x6)]),x7,v8,h,S.nf [false,false,true,true] rfl (subR rfl)⟩)))
   clear S h;rintro a w4 ⟨x3,x4,v2,h,S⟩;rw [hj2] at h;clear hj2 j2
   exact Tn (Fg (Vq S Gb rfl rfl rfl fun a S=>Vm S rfl rfl fun a S=>Dl (⟨ys1,⟨i1 + 1,x3,x4,v2,⟨_,(hd1).trans (List.append_cons _ _ _),by simp [hi1]⟩,h,S.nf [true,true] rfl ⟨rfl,rfl,rfl,rfl,(congrArg (fun z=>some (Value.int .i64 z)) (Jn hd1 hi1 (Ky (Hi He hs1)))),trivial⟩⟩,Nat.lt_succ_self _⟩)))
 clear S h;rintro a w3 ⟨x1,x2,v1,h,S⟩;rw [hj1] at h;clear hj1 j1
 refine Tn (Fr (Vm S rfl rfl fun a S=>Va S rfl rfl fun a S=>Dl (wp_ret ?_)))
 obtain rfl:=Option.some.inj h
 exact Fj S results4 rfl ⟨(S.holds _ (List.mem_of_getElem? (i:=1) rfl)),(Ur S (i:=0) rfl (fun c hc hh=>Ue S (i:=1) rfl rfl (j:=0) rfl rfl (by simp at hc;subst hc;exact hh)))⟩
theorem Ua (w : World) (O : Nat) (Z : Value) (Al : List Int) (Ak : Slc (view w [O]) 1 Z (Al.map eInt)) (Ad : Int) (Ba : (LEnt.blk O [Z,iV Ad] 25).holds w) (r : (List Dm) × Int) (h : Ms Al Ad = some r) :
    Calls prog 7 [.pointer (some ⟨O,0,none⟩)].toArray w (Ret w [O] fun τ v w'=>(LEnt.blk O [Z,iV r.2] 25).holds w' ∧ Pc τ 64 3 v r.1.length (r.1.flatMap Dm.enc)):=by
 refine Jd [O] [.blk O [Z,iV Ad] 25] func7 rfl ntmps7 rfl (fun e he=>by simp only [List.mem_singleton] at he;subst he;exact Ba) (by simp [fps,LEnt.fp]) (by simp [fps,LEnt.fp]) fun a S=>?_
 unfold Ms at h
 replace S:=(S.nl [.blk O [Z,iV Ad] 25] [true] rfl).k1 0 rfl
 refine Fr (Vk S rfl rfl fun a S=>Dz (Vk S rfl rfl ?_));clear S;intro a S
 replace S:=S.nil 64 3
 refine Dl (Fs (Fr (Vm S rfl rfl ?_)));clear S;intro a S
 obtain ⟨r1,hr1,h⟩:=Eu h
 refine Ga 1 S (b:=O) rfl rfl (fun _=>.blk O [Z,iV r1.2] 25) (fun _=>Dg (vs:=[.pointer (some ⟨O,0,none⟩),iV 0,iV 8]) ⟨(S.tm rfl),rfl,rfl,trivial⟩ call26) (Qf _ O Z Al (Ak.mono (S.le_arg (Ht (i:=1) (e:=.blk O [Z,iV Ad] 25) rfl))) Ad (S.holds _ (List.mem_of_getElem? (i:=1) rfl)) 0 8 _ hr1) rfl (fun _ _ _ h=>⟨h.1,fun _ hc=>by cases hc;rfl⟩) ?_;clear S;intro v1 a w1 hv1 hk1 hn1 S
 replace hv1:=hv1.2
 subst hv1
 refine lv S (Rm rfl) rfl fun a S=>Dl ?_
 replace S:=(S.nl [.own (.slice none 0 0) 64 3 ([] : List Dm).length (([] : List Dm).flatMap Dm.enc),.blk O [Z,iV r1.2] 25] [true,true] rfl).k4 0 3 6 7 rfl
 obtain ⟨j1,hj1,h⟩:=Fk h
 refine Er (fun a w'=>∃ x1 : List Dm,∃ x2 : Int,∃ v2 : Value,j1 x1 x2 = some r ∧ Sx w [O] nov [.own v2 64 3 x1.length (x1.flatMap Dm.enc),.blk O [Z,iV x2] 25] [(3,v2)] 42 a w') ?_ ?_
 ·refine wp_block (Gz (fun (m1 : Nat) a w'=>∃ x1 : List Dm,∃ x2 : Int,∃ x3 : Int,∃ v2 : Value,Hd r1 Al j1 m1 x1 x2 x3 = some r ∧ Sx w [O] nov [.own v2 64 3 x1.length (x1.flatMap Dm.enc),.blk O [Z,iV x2] 25] [(0,.pointer (some ⟨O,0,none⟩)),(3,v2),(6,iV r1.1),(7,iV x3)] 42 a w') id ((r1.1 - 0).toNat + 2) ⟨([] : List Dm),r1.2,0,(.slice none 0 0),h,S.nf [true,true] rfl (subR rfl)⟩ ?_)
  clear S h;rintro m1 a w2 ⟨x1,x2,x3,v2,h,S⟩
  cases m1 with
  | zero=>rw [Hd.eq_1] at h;cases h
  | succ m1 =>
   rw [Hd.eq_2] at h
   refine Fr (Vb S Fi rfl rfl rfl fun a S=>Dl (Fs (Fc h (S.tm rfl) (fun hb1 h=>?_) (fun hb1 h=>?_))))
   ·refine wp_skip (Tn (Fs (wp_block (Fr (Vm S rfl rfl fun a S=>El S underlying59 sizeOf9 zeroValue9 rfl rfl (pv:=[(0,sV Kz),(1,sV Mb),(2,sV Nd),(3,sV Rj)]) ⟨rfl,rfl,rfl,rfl,rfl,rfl,rfl,rfl,trivial⟩ (cs:=[sV Kz,sV Mb,sV Nd,sV Rj]) (by kernel_rfl) rfl ?_)))));clear S;intro a w4 b1 hz1 hk2 S
    obtain ⟨r2,hr2,h⟩:=Eu h
    refine Ga 2 S (b:=O) rfl rfl (fun _=>.blk O [Z,iV r2.2] 25) (fun _=>Dg (vs:=[.pointer (some ⟨O,0,none⟩),.slice (some ⟨b1,0,none⟩) 4 4]) ⟨(S.tm rfl),(S.tm rfl),trivial⟩ call5) (Ie _ O Z Al (Ak.mono (S.le_arg (Ht (i:=2) (e:=.blk O [Z,iV x2] 25) rfl))) x2 (S.holds _ (List.mem_of_getElem? (i:=2) rfl)) (.slice (some ⟨b1,0,none⟩) 4 4) [Kz,Mb,Nd,Rj] (Hz He S (i:=0) rfl rfl rfl rfl ((Le (i:=2) (j:=0) (e:=.blk O [Z,iV x2] 25) (e':=.blk b1 [sV Kz,sV Mb,sV Nd,sV Rj] 9) S rfl rfl rfl) _ rfl)) _ hr2) rfl (fun _ _ _ h=>⟨h.1,fun _ hc=>by cases hc;rfl⟩) ?_;clear S;intro v3 a w5 hv2 hk3 hn2 S
    replace hv2:=hv2.2
    subst hv2
    refine Vm S rfl rfl fun a S=>El S underlying59 sizeOf9 zeroValue9 rfl rfl (pv:=[(0,sV Ny),(1,sV Ny),(2,sV Rq)]) ⟨rfl,rfl,rfl,rfl,rfl,rfl,trivial⟩ (cs:=[sV Ny,sV Ny,sV Rq]) (by kernel_rfl) rfl ?_;clear S;intro a w6 b2 hz2 hk4 S
    obtain ⟨r3,hr3,h⟩:=Eu h
    refine Ga 3 S (b:=O) rfl rfl (fun _=>.blk O [Z,iV r3.2] 25) (fun _=>Dg (vs:=[.pointer (some ⟨O,0,none⟩),.slice (some ⟨b2,0,none⟩) 3 3]) ⟨(S.tm rfl),(S.tm rfl),trivial⟩ call5) (Ie _ O Z Al (Ak.mono (S.le_arg (Ht (i:=3) (e:=.blk O [Z,iV r2.2] 25) rfl))) r2.2 (S.holds _ (List.mem_of_getElem? (i:=3) rfl)) (.slice (some ⟨b2,0,none⟩) 3 3) [Ny,Ny,Rq] (Hz He S (i:=0) rfl rfl rfl rfl ((Le (i:=3) (j:=0) (e:=.blk O [Z,iV r2.2] 25) (e':=.blk b2 [sV Ny,sV Ny,sV Rq] 9) S rfl rfl rfl) _ rfl)) _ hr3) rfl (fun _ _ _ h=>⟨h.1,fun _ hc=>by cases hc;rfl⟩) ?_;clear S;intro v4 a w7 hv3 hk5 hn3 S
    replace hv3:=hv3.2
    subst hv3
    refine Vm S rfl rfl fun a S=>El S underlying22 sizeOf3 zeroValue3 rfl rfl (pv:=[(0,iV 0),(1,iV 1),(2,iV 2000),(3,iV 3000),(4,iV 4567),(5,iV 9000)]) ⟨rfl,rfl,rfl,rfl,rfl,rfl,rfl,rfl,rfl,rfl,rfl,rfl,trivial⟩ (cs:=[iV 0,iV 1,iV 2000,iV 3000,iV 4567,iV 9000]) (by kernel_rfl) rfl ?_;clear S;intro a w8 b3 hz3 hk6 S
    obtain ⟨r4,hr4,h⟩:=Eu h
    refine Ga 4 S (b:=O) rfl rfl (fun _=>.blk O [Z,iV r4.2] 25) (fun _=>Dg (vs:=[.pointer (some ⟨O,0,none⟩),.slice (some ⟨b3,0,none⟩) 6 6]) ⟨(S.tm rfl),(S.tm rfl),trivial⟩ call6) (Ku _ O Z Al (Ak.mono (S.le_arg (Ht (i:=4) (e:=.blk O [Z,iV r3.2] 25) rfl))) r3.2 (S.holds _ (List.mem_of_getElem? (i:=4) rfl)) (.slice (some ⟨b3,0,none⟩) 6 6) [0,1,2000,3000,4567,9000] (Hz Ex S (i:=0) rfl rfl rfl rfl ((Le (i:=4) (j:=0) (e:=.blk O [Z,iV r3.2] 25) (e':=.blk b3 [iV 0,iV 1,iV 2000,iV 3000,iV 4567,iV 9000] 3) S rfl rfl rfl) _ rfl)) _ hr4) rfl (fun _ _ _ h=>⟨h.1,fun _ hc=>by cases hc;rfl⟩) ?_;clear S;intro v5 a w9 hv4 hk7 hn4 S
    replace hv4:=hv4.2
    subst hv4
    refine lv S (Pv bt_64 (pv:=[(0,sV r2.1),(1,sV r3.1),(2,iV r4.1)]) ⟨rfl,(S.tm rfl),rfl,(S.tm rfl),rfl,(S.tm rfl),trivial⟩ (cs:=[sV r2.1,sV r3.1,iV r4.1]) (by kernel_rfl)) rfl fun a S=>Ko S zeroValue64 (cs:=[sV Ec,sV Ec,iV 0]) rfl rfl ?_;clear S;intro a w10 b4 hz4 hk8 S
    refine Hk S (S.tm rfl) (S.tm rfl) (i:=0) (off:=0) rfl sizeOf64 (vs:=[sV r2.1,sV r3.1,iV r4.1]) rfl rfl rfl rfl ?_;clear S;intro w11 hk9 S
    refine Ld ?_
    replace S:=(S.nl [.blk b4 [sV r2.1,sV r3.1,iV r4.1] 64,.own v2 64 3 x1.length (x1.flatMap Dm.enc),.blk O [Z,iV r4.2] 25] [true,false,false,false,true,true] rfl).k5 0 3 4 6 7 rfl
    refine Tn (Fs (Fr (Vm S rfl rfl ?_)));clear S;intro a S
    obtain ⟨r5,hr5,h⟩:=Eu h
    refine Ga 2 S (b:=O) rfl rfl (fun _=>.blk O [Z,iV r5.2] 25) (fun _=>Dg (vs:=[.pointer (some ⟨O,0,none⟩),iV 80]) ⟨(S.tm rfl),rfl,trivial⟩ call23) (Mw _ O Z Al (Ak.mono (S.le_arg (Ht (i:=2) (e:=.blk O [Z,iV r4.2] 25) rfl))) r4.2 (S.holds _ (List.mem_of_getElem? (i:=2) rfl)) 80 _ hr5) rfl (fun _ _ _ h=>⟨h.1,fun _ hc=>by cases hc;rfl⟩) ?_;clear S;intro v6 a w12 hv5 hk10 hn5 S
    replace hv5:=hv5.2
    subst hv5
    refine Dl ?_
    obtain ⟨j2,hj2,h⟩:=Fk h
    refine Er (fun a w'=>∃ x4 : ByteArray,∃ x5 : ByteArray,∃ x6 : Int,∃ x7 : Int,j2 x4 x5 x6 x7 = some r ∧ Sx w [O] nov [.blk b4 [sV x4,sV x5,iV x6] 64,.own v2 64 3 x1.length (x1.flatMap Dm.enc),.blk O [Z,iV x7] 25] [(0,.pointer (some ⟨O,0,none⟩)),(3,v2),(4,.pointer (some ⟨b4,0,none⟩)),(6,iV r1.1),(7,iV x3)] 42 a w') ?_ ?_
    ·refine Fc h (S.tm rfl) (fun hb2 h=>?_) (fun hb2 h=>?_)
     ·obtain ⟨j3,hj3,h⟩:=Fk h
      refine Er (fun a w'=>∃ x8 : ByteArray,∃ x9 : ByteArray,∃ x10 : Int,∃ x11 : Int,j3 x8 x9 x10 x11 = some r ∧ Sx w [O] nov [.blk b4 [sV x8,sV x9,iV x10] 64,.own v2 64 3 x1.length (x1.flatMap Dm.enc),.blk O [Z,iV x11] 25] [(0,.pointer (some ⟨O,0,none⟩)),(3,v2),(4,.pointer (some ⟨b4,0,none⟩)),(6,iV r1.1),(7,iV x3)] 42 a w') ?_ ?_
      ·obtain ⟨r6,hr6,h⟩:=Eu h
       obtain ⟨r7,hr7,h⟩:=Eu h
       obtain ⟨r8,hr8,h⟩:=Eu h
       refine Hy [13,15,17] ([O]) Tryz.mixed S rfl (by kernel_rfl) ?_;clear S;intro w23 hk19 hsel S
       refine Ej 0 S hsel rfl rfl (by kernel_rfl) (by kernel_rfl) rfl (fun _=>(Rm (S.tm rfl))) fun a S=>Ej 1 S hsel rfl rfl (by kernel_rfl) (by kernel_rfl) rfl (fun _=>(Jk Mf (S.tm rfl))) fun a S=>Fh 2 S hsel rfl (by kernel_rfl) (by kernel_rfl) (by kernel_rfl) (by kernel_rfl) rfl (fun _ hw=>(Iv isAgg9 (off:=0) (o:=0) (S.tm rfl) ((S.blk_mem (i:=0) (cells:=[sV r2.1,sV r3.1,iV r4.1]) (b:=b4) (T:=64) rfl (Le (i:=2) (j:=0) (e:=.blk O [Z,iV r5.2] 25) (e':=.blk b4 [sV r2.1,sV r3.1,iV r4.1] 64) S rfl rfl rfl)).kept hw) rfl)) fun a S=>Ej 5 S hsel rfl rfl (by kernel_rfl) (by kernel_rfl) rfl (fun _=>(Rm (S.tm rfl))) fun a S=>Ej 6 S hsel rfl rfl (by kernel_rfl) (by kernel_rfl) rfl (fun _=>(Jk Nl (S.tm rfl))) fun a S=>Fh 7 S hsel rfl (by kernel_rfl) (by kernel_rfl) (by kernel_rfl) (by kernel_rfl) rfl (fun _ hw=>(Iv isAgg9 (off:=0) (o:=1) (S.tm rfl) ((S.blk_mem (i:=0) (cells:=[sV r2.1,sV r3.1,iV r4.1]) (b:=b4) (T:=64) rfl (Le (i:=2) (j:=0) (e:=.blk O [Z,iV r5.2] 25) (e':=.blk b4 [sV r2.1,sV r3.1,iV r4.1] 64) S rfl rfl rfl)).kept hw) rfl)) fun a S=>Ej 10 S hsel rfl rfl (by kernel_rfl) (by kernel_rfl) rfl (fun _=>(Rm (S.tm rfl))) fun a S=>Zp 3 8 (by kernel_rfl) rfl rfl ?_ ?_
       ·refine El S underlying59 sizeOf9 zeroValue9 rfl rfl (pv:=[(0,sV r2.1),(1,sV Ec)]) ⟨rfl,(S.tm rfl),rfl,rfl,trivial⟩ (cs:=[sV r2.1,sV Ec]) (by kernel_rfl) rfl ?_;clear S;intro a w24 b7 hz7 hk20 S
        refine Ld (Ij (Keep.none hk20) (Zp 4 8 (by kernel_rfl) rfl rfl ?_ ?_))
        ·refine Ga 3 S (b:=O) rfl rfl (fun _=>.blk O [Z,iV r6.2] 25) (fun _=>Dg (vs:=[.pointer (some ⟨O,0,none⟩),.slice (some ⟨b7,0,none⟩) 2 2]) ⟨(S.tm rfl),(S.tm rfl),trivial⟩ call5) (Ie _ O Z Al (Ak.mono (S.le_arg (Ht (i:=3) (e:=.blk O [Z,iV r5.2] 25) rfl))) r5.2 (S.holds _ (List.mem_of_getElem? (i:=3) rfl)) (.slice (some ⟨b7,0,none⟩) 2 2) [r2.1,Ec] (Hz He S (i:=0) rfl rfl rfl rfl ((Le (i:=3) (j:=0) (e:=.blk O [Z,iV r5.2] 25) (e':=.blk b7 [sV r2.1,sV Ec] 9) S rfl rfl rfl) _ rfl)) _ hr6) rfl (fun _ _ _ h=>⟨h.1,fun _ hc=>by cases hc;rfl⟩) ?_;clear S;intro v10 a w25 hv9 hk21 hn9 S
         replace hv9:=hv9.2
         subst hv9
         refine Ld (Ij hk21 (Ej 12 S hsel rfl rfl (by kernel_rfl) (by kernel_rfl) rfl (fun _=>(Jk Mf (S.tm rfl))) fun a S=>Hu 8 (by kernel_rfl) rfl (El S underlying59 sizeOf9 zeroValue9 rfl rfl (pv:=[(0,sV r3.1),(1,sV k_A)]) ⟨rfl,(S.tm rfl),rfl,rfl,trivial⟩ (cs:=[sV r3.1,sV k_A]) (by kernel_rfl) rfl ?_)));clear S;intro a w26 b8 hz8 hk22 S
         refine Ld (Ij (Keep.none hk22) (Hu 9 (by kernel_rfl) rfl ?_))
         refine Ga 4 S (b:=O) rfl rfl (fun _=>.blk O [Z,iV r7.2] 25) (fun _=>Dg (vs:=[.pointer (some ⟨O,0,none⟩),.slice (some ⟨b8,0,none⟩) 2 2]) ⟨(S.tm rfl),(S.tm rfl),trivial⟩ call5) (Ie _ O Z Al (Ak.mono (S.le_arg (Ht (i:=4) (e:=.blk O [Z,iV r6.2] 25) rfl))) r6.2 (S.holds _ (List.mem_of_getElem? (i:=4) rfl)) (.slice (some ⟨b8,0,none⟩) 2 2) [r3.1,k_A] (Hz He S (i:=0) rfl rfl rfl rfl ((Le (i:=4) (j:=0) (e:=.blk O [Z,iV r6.2] 25) (e':=.blk b8 [sV r3.1,sV k_A] 9) S rfl rfl rfl) _ rfl)) _ hr7) rfl (fun _ _ _ h=>⟨h.1,fun _ hc=>by cases hc;rfl⟩) ?_;clear S;intro v11 a w27 hv10 hk23 hn10 S
         replace hv10:=hv10.2
         subst hv10
         refine Ld (Ij hk23 (Hu 11 (by kernel_rfl) rfl ?_))
         refine Ga 4 S (b:=O) rfl rfl (fun _=>.blk O [Z,iV r8.2] 25) (fun _=>Dg (vs:=[.pointer (some ⟨O,0,none⟩),iV 0,iV 360000]) ⟨(S.tm rfl),rfl,rfl,trivial⟩ call24) (Nm _ O Z Al (Ak.mono (S.le_arg (Ht (i:=4) (e:=.blk O [Z,iV r7.2] 25) rfl))) r7.2 (S.holds _ (List.mem_of_getElem? (i:=4) rfl)) 0 360000 _ hr8) rfl (fun _ _ _ h=>⟨h.1,fun _ hc=>by cases hc;rfl⟩) ?_;clear S;intro v12 a w28 hv11 hk24 hn11 S
         replace hv11:=hv11.2
         subst hv11
         refine Ld (Ij hk24 (Ni 13 ([O] ++ [b4]) rfl (by kernel_rfl) rfl (Hk S (S.tm rfl) (S.tm rfl) (i:=2) (off:=0) rfl sizeOf9 (vs:=[sV r6.1]) rfl rfl rfl rfl ?_)));clear S;intro w29 hk25 S
         refine Ld (Nj (Fh 14 S hsel rfl rfl rfl (by kernel_rfl) (by kernel_rfl) rfl (fun _ hw=>(Jk Nl (S.tm rfl))) fun a S=>Hu 15 (by kernel_rfl) rfl (Hk S (S.tm rfl) (S.tm rfl) (i:=2) (off:=1) rfl sizeOf9 (vs:=[sV r7.1]) rfl rfl rfl rfl ?_)));clear S;intro w30 hk26 S
         refine Ld ?_
         refine Ij (hk26.sub (by intro y hy;simp at hy ⊢;simp [hy])) ?_
         refine Fh 16 S hsel rfl rfl rfl (by kernel_rfl) (by kernel_rfl) rfl (fun _ hw=>(Jk Oc (S.tm rfl))) fun a S=>Hu 17 (by kernel_rfl) rfl (Hk S (S.tm rfl) (S.tm rfl) (i:=2) (off:=2) rfl sizeOf3 (vs:=[iV r8.1]) rfl rfl rfl rfl ?_);clear S;intro w31 hk27 S
         refine Ld ?_
         refine Ij (hk27.sub (by intro y hy;simp at hy ⊢;simp [hy])) ?_
         refine Rp (by kernel_rfl) ?_
         clear hsel
         replace S:=(S.nl [.blk b4 [sV r6.1,sV r7.1,iV r8.1] 64,.own v2 64 3 x1.length (x1.flatMap Dm.enc),.blk O [Z,iV r8.2] 25] [false,false,true,true,true] rfl).k5 0 3 4 6 7 rfl
         exact Tn (⟨r6.1,r7.1,r8.1,r8.2,h,S.nf [true,true,true] rfl (subR rfl)⟩)
        ·refine El S underlying59 sizeOf9 zeroValue9 rfl rfl (pv:=[(0,sV r3.1),(1,sV k_A)]) ⟨rfl,(S.tm rfl),rfl,rfl,trivial⟩ (cs:=[sV r3.1,sV k_A]) (by kernel_rfl) rfl ?_;clear S;intro a w32 b9 hz9 hk28 S
         refine Ld (Ij (Keep.none hk28) (Hu 4 (by kernel_rfl) rfl ?_))
         refine Ga 4 S (b:=O) rfl rfl (fun _=>.blk O [Z,iV r6.2] 25) (fun _=>Dg (vs:=[.pointer (some ⟨O,0,none⟩),.slice (some ⟨b7,0,none⟩) 2 2]) ⟨(S.tm rfl),(S.tm rfl),trivial⟩ call5) (Ie _ O Z Al (Ak.mono (S.le_arg (Ht (i:=4) (e:=.blk O [Z,iV r5.2] 25) rfl))) r5.2 (S.holds _ (List.mem_of_getElem? (i:=4) rfl)) (.slice (some ⟨b7,0,none⟩) 2 2) [r2.1,Ec] (Hz He S (i:=1) rfl rfl rfl rfl ((Le (i:=4) (j:=1) (e:=.blk O [Z,iV r5.2] 25) (e':=.blk b7 [sV r2.1,sV Ec] 9) S rfl rfl rfl) _ rfl)) _ hr6) rfl (fun _ _ _ h=>⟨h.1,fun _ hc=>by cases hc;rfl⟩) ?_;clear S;intro v13 a w33 hv12 hk29 hn12 S
         replace hv12:=hv12.2
         subst hv12
         refine Ld (Ij hk29 (Ej 12 S hsel rfl rfl (by kernel_rfl) (by kernel_rfl) rfl (fun _=>(Jk Mf (S.tm rfl))) fun a S=>Hu 9 (by kernel_rfl) rfl ?_))
         refine Ga 4 S (b:=O) rfl rfl (fun _=>.blk O [Z,iV r7.2] 25) (fun _=>Dg (vs:=[.pointer (some ⟨O,0,none⟩),.slice (some ⟨b9,0,none⟩) 2 2]) ⟨(S.tm rfl),(S.tm rfl),trivial⟩ call5) (Ie _ O Z Al (Ak.mono (S.le_arg (Ht (i:=4) (e:=.blk O [Z,iV r6.2] 25) rfl))) r6.2 (S.holds _ (List.mem_of_getElem? (i:=4) rfl)) (.slice (some ⟨b9,0,none⟩) 2 2) [r3.1,k_A] (Hz He S (i:=0) rfl rfl rfl rfl ((Le (i:=4) (j:=0) (e:=.blk O [Z,iV r6.2] 25) (e':=.blk b9 [sV r3.1,sV k_A] 9) S rfl rfl rfl) _ rfl)) _ hr7) rfl (fun _ _ _ h=>⟨h.1,fun _ hc=>by cases hc;rfl⟩) ?_;clear S;intro v14 a w34 hv13 hk30 hn13 S
         replace hv13:=hv13.2
         subst hv13
         refine Ld (Ij hk30 (Hu 11 (by kernel_rfl) rfl ?_))
         refine Ga 4 S (b:=O) rfl rfl (fun _=>.blk O [Z,iV r8.2] 25) (fun _=>Dg (vs:=[.pointer (some ⟨O,0,none⟩),iV 0,iV 360000]) ⟨(S.tm rfl),rfl,rfl,trivial⟩ call24) (Nm _ O Z Al (Ak.mono (S.le_arg (Ht (i:=4) (e:=.blk O [Z,iV r7.2] 25) rfl))) r7.2 (S.holds _ (List.mem_of_getElem? (i:=4) rfl)) 0 360000 _ hr8) rfl (fun _ _ _ h=>⟨h.1,fun _ hc=>by cases hc;rfl⟩) ?_;clear S;intro v15 a w35 hv14 hk31 hn14 S
         replace hv14:=hv14.2
         subst hv14
         refine Ld (Ij hk31 (Ni 13 ([O] ++ [b4]) rfl (by kernel_rfl) rfl (Hk S (S.tm rfl) (S.tm rfl) (i:=2) (off:=0) rfl sizeOf9 (vs:=[sV r6.1]) rfl rfl rfl rfl ?_)));clear S;intro w36 hk32 S
         refine Ld (Nj (Fh 14 S hsel rfl rfl rfl (by kernel_rfl) (by kernel_rfl) rfl (fun _ hw=>(Jk Nl (S.tm rfl))) fun a S=>Hu 15 (by kernel_rfl) rfl (Hk S (S.tm rfl) (S.tm rfl) (i:=2) (off:=1) rfl sizeOf9 (vs:=[sV r7.1]) rfl rfl rfl rfl ?_)));clear S;intro w37 hk33 S
         refine Ld ?_
         refine Ij (hk33.sub (by intro y hy;simp at hy ⊢;simp [hy])) ?_
         refine Fh 16 S hsel rfl rfl rfl (by kernel_rfl) (by kernel_rfl) rfl (fun _ hw=>(Jk Oc (S.tm rfl))) fun a S=>Hu 17 (by kernel_rfl) rfl (Hk S (S.tm rfl) (S.tm rfl) (i:=2) (off:=2) rfl sizeOf3 (vs:=[iV r8.1]) rfl rfl rfl rfl ?_);clear S;intro w38 hk34 S
         refine Ld ?_
         refine Ij (hk34.sub (by intro y hy;simp at hy ⊢;simp [hy])) ?_
         refine Rp (by kernel_rfl) ?_
         clear hsel
         replace S:=(S.nl [.blk b4 [sV r6.1,sV r7.1,iV r8.1] 64,.own v2 64 3 x1.length (x1.flatMap Dm.enc),.blk O [Z,iV r8.2] 25] [false,false,true,true,true] rfl).k5 0 3 4 6 7 rfl
         exact Tn (⟨r6.1,r7.1,r8.1,r8.2,h,S.nf [true,true,true] rfl (subR rfl)⟩)
       ·refine El S underlying59 sizeOf9 zeroValue9 rfl rfl (pv:=[(0,sV r3.1),(1,sV k_A)]) ⟨rfl,(S.tm rfl),rfl,rfl,trivial⟩ (cs:=[sV r3.1,sV k_A]) (by kernel_rfl) rfl ?_;clear S;intro a w39 b10 hz10 hk35 S
        refine Ld (Ij (Keep.none hk35) (Hu 3 (by kernel_rfl) rfl (El S underlying59 sizeOf9 zeroValue9 rfl rfl (pv:=[(0,sV r2.1),(1,sV Ec)]) ⟨rfl,(S.tm rfl),rfl,rfl,trivial⟩ (cs:=[sV r2.1,sV Ec]) (by kernel_rfl) rfl ?_)));clear S;intro a w40 b11 hz11 hk36 S
        refine Ld (Ij (Keep.none hk36) (Hu 4 (by kernel_rfl) rfl ?_))
        refine Ga 4 S (b:=O) rfl rfl (fun _=>.blk O [Z,iV r6.2] 25) (fun _=>Dg (vs:=[.pointer (some ⟨O,0,none⟩),.slice (some ⟨b11,0,none⟩) 2 2]) ⟨(S.tm rfl),(S.tm rfl),trivial⟩ call5) (Ie _ O Z Al (Ak.mono (S.le_arg (Ht (i:=4) (e:=.blk O [Z,iV r5.2] 25) rfl))) r5.2 (S.holds _ (List.mem_of_getElem? (i:=4) rfl)) (.slice (some ⟨b11,0,none⟩) 2 2) [r2.1,Ec] (Hz He S (i:=0) rfl rfl rfl rfl ((Le (i:=4) (j:=0) (e:=.blk O [Z,iV r5.2] 25) (e':=.blk b11 [sV r2.1,sV Ec] 9) S rfl rfl rfl) _ rfl)) _ hr6) rfl (fun _ _ _ h=>⟨h.1,fun _ hc=>by cases hc;rfl⟩) ?_;clear S;intro v16 a w41 hv15 hk37 hn15 S
        replace hv15:=hv15.2
        subst hv15
        refine Ld (Ij hk37 (Ej 12 S hsel rfl rfl (by kernel_rfl) (by kernel_rfl) rfl (fun _=>(Jk Mf (S.tm rfl))) fun a S=>Hu 9 (by kernel_rfl) rfl ?_))
        refine Ga 4 S (b:=O) rfl rfl (fun _=>.blk O [Z,iV r7.2] 25) (fun _=>Dg (vs:=[.pointer (some ⟨O,0,none⟩),.slice (some ⟨b10,0,none⟩) 2 2]) ⟨(S.tm rfl),(S.tm rfl),trivial⟩ call5) (Ie _ O Z Al (Ak.mono (S.le_arg (Ht (i:=4) (e:=.blk O [Z,iV r6.2] 25) rfl))) r6.2 (S.holds _ (List.mem_of_getElem? (i:=4) rfl)) (.slice (some ⟨b10,0,none⟩) 2 2) [r3.1,k_A] (Hz He S (i:=1) rfl rfl rfl rfl ((Le (i:=4) (j:=1) (e:=.blk O [Z,iV r6.2] 25) (e':=.blk b10 [sV r3.1,sV k_A] 9) S rfl rfl rfl) _ rfl)) _ hr7) rfl (fun _ _ _ h=>⟨h.1,fun _ hc=>by cases hc;rfl⟩) ?_;clear S;intro v17 a w42 hv16 hk38 hn16 S
        replace hv16:=hv16.2
        subst hv16
        refine Ld (Ij hk38 (Hu 11 (by kernel_rfl) rfl ?_))
        refine Ga 4 S (b:=O) rfl rfl (fun _=>.blk O [Z,iV r8.2] 25) (fun _=>Dg (vs:=[.pointer (some ⟨O,0,none⟩),iV 0,iV 360000]) ⟨(S.tm rfl),rfl,rfl,trivial⟩ call24) (Nm _ O Z Al (Ak.mono (S.le_arg (Ht (i:=4) (e:=.blk O [Z,iV r7.2] 25) rfl))) r7.2 (S.holds _ (List.mem_of_getElem? (i:=4) rfl)) 0 360000 _ hr8) rfl (fun _ _ _ h=>⟨h.1,fun _ hc=>by cases hc;rfl⟩) ?_;clear S;intro v18 a w43 hv17 hk39 hn17 S
        replace hv17:=hv17.2
        subst hv17
        refine Ld (Ij hk39 (Ni 13 ([O] ++ [b4]) rfl (by kernel_rfl) rfl (Hk S (S.tm rfl) (S.tm rfl) (i:=2) (off:=0) rfl sizeOf9 (vs:=[sV r6.1]) rfl rfl rfl rfl ?_)));clear S;intro w44 hk40 S
        refine Ld (Nj (Fh 14 S hsel rfl rfl rfl (by kernel_rfl) (by kernel_rfl) rfl (fun _ hw=>(Jk Nl (S.tm rfl))) fun a S=>Hu 15 (by kernel_rfl) rfl (Hk S (S.tm rfl) (S.tm rfl) (i:=2) (off:=1) rfl sizeOf9 (vs:=[sV r7.1]) rfl rfl rfl rfl ?_)));clear S;intro w45 hk41 S
        refine Ld ?_
        refine Ij (hk41.sub (by intro y hy;simp at hy ⊢;simp [hy])) ?_
        refine Fh 16 S hsel rfl rfl rfl (by kernel_rfl) (by kernel_rfl) rfl (fun _ hw=>(Jk Oc (S.tm rfl))) fun a S=>Hu 17 (by kernel_rfl) rfl (Hk S (S.tm rfl) (S.tm rfl) (i:=2) (off:=2) rfl sizeOf3 (vs:=[iV r8.1]) rfl rfl rfl rfl ?_);clear S;intro w46 hk42 S
        refine Ld ?_
        refine Ij (hk42.sub (by intro y hy;simp at hy ⊢;simp [hy])) ?_
        refine Rp (by kernel_rfl) ?_
        clear hsel
        replace S:=(S.nl [.blk b4 [sV r6.1,sV r7.1,iV r8.1] 64,.own v2 64 3 x1.length (x1.flatMap Dm.enc),.blk O [Z,iV r8.2] 25] [false,false,true,true,true] rfl).k5 0 3 4 6 7 rfl
        exact Tn (⟨r6.1,r7.1,r8.1,r8.2,h,S.nf [true,true,true] rfl (subR rfl)⟩)
      clear S h;rintro a w14 ⟨x8,x9,x10,x11,h,S⟩;rw [hj3] at h;clear hj3 j3
      exact Tn (⟨x8,x9,x10,x11,h,S.nf [true,true,true] rfl (subR rfl)⟩)
     ·exact wp_skip (Tn (⟨r2.1,r3.1,r4.1,r5.2,h,S.nf [true,true,true] rfl (subR rfl)⟩))
    clear S h;rintro a w13 ⟨x4,x5,x6,x7,h,S⟩;rw [hj2] at h;clear hj2 j2
    refine Tn (Fg (Vm S rfl rfl fun a S=>lv S (Kk isAgg64 sizeOf64 (off:=0) (o:=0) (part:=[sV x4,sV x5,iV x6]) rfl rfl (S.tm rfl) (S.cellsAt (i:=0) rfl)) rfl fun a S=>El S underlying30 sizeOf64 zeroValue64 rfl rfl (pv:=[(0,.agg #[sV x4,sV x5,iV x6])]) ⟨rfl,(S.tm rfl),trivial⟩ (cs:=[sV x4,sV x5,iV x6]) (by kernel_rfl) rfl ?_));clear S;intro a w47 b12 hz12 hk43 S
    obtain ⟨hc1,h⟩:=Hx h
    refine Na Pi Dm.enc_ok S (S.tm rfl) (i:=2) rfl (S.tm rfl) (j:=0) rfl (ys:=[(Dm.mk x4 x5 x6)]) rfl rfl rfl rfl (by have:=Pq hc1;omega) rfl ?_;clear S;intro v19 a w48 hk44 S
    exact Va S rfl rfl fun a S=>Ld (Jb (Tn (Fg (Vq S Gb rfl rfl rfl fun a S=>Vm S rfl rfl fun a S=>Dl (⟨m1,⟨(x1 ++ [(Dm.mk x4 x5 x6)]),x7,W (x3 + 1),v19,h,S.nf [false,false,true,true] rfl ⟨rfl,rfl,rfl,rfl,trivial⟩⟩,Nat.lt_succ_self _⟩)))))
   ·exact wp_exit (Ek (Ek (Ha (Tn (⟨x1,x2,v2,h,S.nf [true,true] rfl ⟨rfl,trivial⟩⟩)))))
 clear S h;rintro a w3 ⟨x1,x2,v2,h,S⟩;rw [hj1] at h;clear hj1 j1
 refine Tn (Fr (Vm S rfl rfl fun a S=>Va S rfl rfl fun a S=>Dl (wp_ret ?_)))
 obtain rfl:=Option.some.inj h
 exact Fj S results7 rfl ⟨(S.holds _ (List.mem_of_getElem? (i:=1) rfl)),(Ur S (i:=0) rfl (fun c hc hh=>Ue S (i:=1) rfl rfl (j:=0) rfl rfl (by simp at hc;subst hc;exact hh)))⟩
theorem Ub (w : World) (s c : ByteArray) (r : ByteArray) (h : Mt s c = some r) : Calls prog 57 [.string s,.string c].toArray w (Ret w [] fun _ v _=>v = .string r):=by
  unfold Mt at h
  obtain ⟨h1,h⟩:=Hx h
  obtain ⟨h2,h⟩:=Hx h
  obtain ⟨h3,h⟩:=Hx h
  obtain rfl:=Option.some.inj h
  exact Xb (Any.strings_Trim_laid Tryz.lays160 (by kernel_rfl) s c w (by simpa using h1) (by simpa using h2) (fun j b hb=>by simpa using List.all_eq_true.1 h3 b (List.mem_of_getElem? hb)))
theorem Oh (w : World) (Ao : ByteArray) (r : Bool) (h : Ix Ao = some r) :
    Calls prog 44 [sV Ao].toArray w (Ret w [] fun _ v _=>v = bV r):=by
 refine Fe func44 rfl ntmps44 rfl fun a S=>?_
 unfold Ix at h
 replace S:=S.k1 0 rfl
 refine Fr (Vk S rfl rfl fun a S=>Dz (Vm S rfl rfl fun a S=>Vu S (Pt underlying9) rfl rfl fun a S=>Vq S Mh rfl rfl rfl fun a S=>Vm S rfl rfl ?_));clear S;intro a S
 refine Ii 4 (fun a w'=>Keep [] w w' ∧ Sx w [] nov [] [(0,sV Ao),(10,bV ((decide (1 ≤ (Ao.size : Int))) && (decide ((Ao.size : Int) ≤ 40))))] 26 a w') ?_ ?_
 ·rcases Bool.eq_false_or_eq_true (decide (1 ≤ (Ao.size : Int))) with hb1 | hb1
  ·exact Dx S rfl rfl rfl hb1 (Vm S rfl rfl fun a S=>Dx S rfl rfl rfl hb1 (Vu S (Pt underlying9) rfl rfl fun a S=>Dx S rfl rfl rfl hb1 (Vq S Ow rfl rfl rfl fun a S=>lv S (Hm hb1 (S.tm rfl) (S.tm rfl)) rfl fun a S=>Dl (⟨Keep.refl _ _,S.nf [] rfl (subR rfl)⟩))))
  ·iterate 3 (refine Hh S rfl rfl rfl (Kl hb1) rfl ?_ rfl;clear S;intro a S)
   exact lv S (Hn (decide ((Ao.size : Int) ≤ 40)) hb1 (S.tm rfl) rfl) rfl fun a S=>Dl (⟨Keep.refl _ _,S.nf [] rfl (subR rfl)⟩)
 clear S;rintro a w1 ⟨hk1,S⟩
 refine Vm S rfl rfl ?_;clear S;intro a S
 obtain ⟨j1,hj1,h⟩:=Fk h
 refine Ii 4 (fun a w'=>∃ c1,j1 c1 = some r ∧ Keep [] w1 w' ∧ Sx w [] nov [] [(0,sV Ao),(15,bV c1)] 26 a w') ?_ ?_
 ·rcases Bool.eq_false_or_eq_true ((decide (1 ≤ (Ao.size : Int))) && (decide ((Ao.size : Int) ≤ 40))) with hb2 | hb2
  ·replace h:=Sc h hb2
   refine Dx S rfl rfl rfl hb2 (Vm S rfl rfl fun a S=>Dx S rfl rfl rfl hb2 ?_)
   obtain ⟨hc1,h⟩:=Hx h
   exact lv S (Of underlying9 (S.tm rfl) rfl hc1) rfl fun a S=>Dx S rfl rfl rfl hb2 (Vq S Mh rfl rfl rfl fun a S=>lv S (Hm hb2 (S.tm rfl) (S.tm rfl)) rfl fun a S=>Dl (⟨_,h,Keep.refl _ _,S.nf [] rfl (subR rfl)⟩))
  ·replace h:=Sd h hb2
   iterate 3 (refine Hh S rfl rfl rfl (Kl hb2) rfl ?_ rfl;clear S;intro a S)
   exact Vq S (Hn true hb2) rfl rfl rfl fun a S=>Dl (⟨_,h,Keep.refl _ _,S.nf [] rfl (subR rfl)⟩)
 clear S h;rintro a w2 ⟨c1,h,hk2,S⟩;rw [hj1] at h;clear hj1 j1
 refine Vm S rfl rfl ?_;clear S;intro a S
 obtain ⟨j2,hj2,h⟩:=Fk h
 refine Ii 4 (fun a w'=>∃ c2,j2 c2 = some r ∧ Keep [] w2 w' ∧ Sx w [] nov [] [(0,sV Ao),(20,bV c2)] 26 a w') ?_ ?_
 ·rcases Bool.eq_false_or_eq_true c1 with hb3 | hb3
  ·replace h:=Sc h hb3
   refine Dx S rfl rfl rfl hb3 (Vm S rfl rfl fun a S=>Dx S rfl rfl rfl hb3 ?_)
   obtain ⟨hc2,h⟩:=Hx h
   exact lv S (Of underlying9 (S.tm rfl) rfl hc2) rfl fun a S=>Dx S rfl rfl rfl hb3 (Vq S Ow rfl rfl rfl fun a S=>lv S (Hm hb3 (S.tm rfl) (S.tm rfl)) rfl fun a S=>Dl (⟨_,h,Keep.refl _ _,S.nf [] rfl (subR rfl)⟩))
  ·replace h:=Sd h hb3
   iterate 3 (refine Hh S rfl rfl rfl (Kl hb3) rfl ?_ rfl;clear S;intro a S)
   exact Vq S (Hn true hb3) rfl rfl rfl fun a S=>Dl (⟨_,h,Keep.refl _ _,S.nf [] rfl (subR rfl)⟩)
 clear S h;rintro a w3 ⟨c2,h,hk3,S⟩;rw [hj2] at h;clear hj2 j2
 refine Vm S rfl rfl ?_;clear S;intro a S
 obtain ⟨j3,hj3,h⟩:=Fk h
 refine Ii 4 (fun a w'=>∃ c3,j3 c3 = some r ∧ Keep [] w3 w' ∧ Sx w [] nov [] [(25,bV c3)] 26 a w') ?_ ?_
 ·rcases Bool.eq_false_or_eq_true c2 with hb4 | hb4
  ·replace h:=Sc h hb4
   refine Dx S rfl rfl rfl hb4 (Vm S rfl rfl fun a S=>Dx S rfl rfl rfl hb4 ?_)
   obtain ⟨r1,hr1,h⟩:=Eu h
   refine Ea S (fun _=>Dg (vs:=[sV Ao,sV Em]) ⟨(S.tm rfl),rfl,trivial⟩ call57) (Ub _ Ao Em _ hr1) rfl ?_;clear S;intro v1 a w5 hv1 hk4 hn1 S
   subst hv1
   exact Dx S rfl rfl rfl hb4 (Vq S Qw rfl rfl rfl fun a S=>lv S (Hm hb4 (S.tm rfl) (S.tm rfl)) rfl fun a S=>Dl (⟨_,h,hk4,S.nf [] rfl ⟨rfl,trivial⟩⟩))
  ·replace h:=Sd h hb4
   iterate 3 (refine Hh S rfl rfl rfl (Kl hb4) rfl ?_ rfl;clear S;intro a S)
   exact Vq S (Hn true hb4) rfl rfl rfl fun a S=>Dl (⟨_,h,Keep.refl _ _,S.nf [] rfl ⟨rfl,trivial⟩⟩)
 clear S h;rintro a w4 ⟨c3,h,hk5,S⟩;rw [hj3] at h;clear hj3 j3
 refine Va S rfl rfl fun a S=>Dl (wp_ret ?_)
 obtain rfl:=Option.some.inj h
 exact Fj S results44 rfl rfl
theorem Mg (w : World) (Av : Int) (Az : Int) (Au : Int) (r : Bool) (h : Ig Av Az Au = r) :
    Calls prog 30 [iV Av,iV Az,iV Au].toArray w (Ret w [] fun _ v _=>v = bV r):=by
 refine Fe func30 rfl ntmps30 rfl fun a S=>?_
 unfold Ig at h
 replace S:=S.k3 0 1 2 rfl
 refine Fr (Vk S rfl rfl fun a S=>Dz (Vm S rfl rfl fun a S=>Vm S rfl rfl fun a S=>Vb S Mh rfl rfl rfl fun a S=>Vm S rfl rfl ?_));clear S;intro a S
 refine Ii 4 (fun a w'=>Keep [] w w' ∧ Sx w [] nov [] [(14,bV ((decide (Az ≤ Av)) && (decide (Av ≤ Au))))] 15 a w') ?_ ?_
 ·rcases Bool.eq_false_or_eq_true (decide (Az ≤ Av)) with hb1 | hb1
  ·exact Dx S rfl rfl rfl hb1 (Vm S rfl rfl fun a S=>Dx S rfl rfl rfl hb1 (Vm S rfl rfl fun a S=>Dx S rfl rfl rfl hb1 (Vb S Ow rfl rfl rfl fun a S=>lv S (Hm hb1 (S.tm rfl) (S.tm rfl)) rfl fun a S=>Dl (⟨Keep.refl _ _,S.nf [] rfl ⟨rfl,trivial⟩⟩))))
  ·iterate 3 (refine Hh S rfl rfl rfl (Kl hb1) rfl ?_ rfl;clear S;intro a S)
   exact lv S (Hn (decide (Av ≤ Au)) hb1 (S.tm rfl) rfl) rfl fun a S=>Dl (⟨Keep.refl _ _,S.nf [] rfl ⟨rfl,trivial⟩⟩)
 clear S;rintro a w1 ⟨hk1,S⟩
 refine Va S rfl rfl fun a S=>Dl (wp_ret ?_)
 subst h
 exact Fj S results30 rfl rfl
theorem Pj (w : World) (Av : Int) (r : Bool) (h : Ju Av = r) :
    Calls prog 28 [iV Av].toArray w (Ret w [] fun _ v _=>v = bV r):=by
 refine Fe func28 rfl ntmps28 rfl fun a S=>?_
 unfold Ju at h
 replace S:=S.k1 0 rfl
 refine Fr (Vk S rfl rfl fun a S=>Dz (Vm S rfl rfl fun a S=>Ea S (fun _=>Dg (vs:=[iV Av,iV 1,iV 360000]) ⟨(S.tm rfl),rfl,rfl,trivial⟩ call30) (Mg _ Av 1 360000 _ rfl) rfl ?_));clear S;intro v1 a w1 hv1 hk1 hn1 S
 subst hv1
 refine Va S rfl rfl fun a S=>Dl (wp_ret ?_)
 subst h
 exact Fj S results28 rfl rfl
set_option maxRecDepth 20000 in
theorem Kr (w : World) (Ab : Value) (Ag : List Dw) (Ah : Slc (view w []) 2 Ab (Ag.map Dw.enc)) (r : Int) (h : Gk Ag = some r) :
    Calls prog 20 [Ab].toArray w (Ret w [] fun _ v _=>v = iV r):=by
 refine Fe func20 rfl ntmps20 rfl fun a S=>?_
 unfold Gk at h
 replace S:=S.k1 0 rfl
 refine Fr (Vk S rfl rfl fun a S=>Dl (Fs (Fr (Vm S rfl rfl fun a S=>lv S (Gh Ot (S.tm rfl) (Hr Ah)) rfl fun a S=>Vq S Ki rfl rfl rfl ?_))));clear S;intro a S
 refine Dl (Fc h (S.tm rfl) (fun hb1 h=>?_) (fun hb1 h=>?_))
 ·refine Fr (Vk S rfl rfl fun a S=>Dl (wp_ret (Dy ?_)))
  obtain rfl:=Option.some.inj h
  exact Fj S results20 rfl rfl
 ·refine wp_skip (Tn (Fs (Fr (Vm S rfl rfl fun a S=>lv S (Gh Ot (S.tm rfl) (Hr Ah)) rfl fun a S=>lv S (Rm rfl) rfl fun a S=>Dl ?_))))
  replace S:=S.k4 0 8 9 10 rfl
  obtain ⟨j1,hj1,h⟩:=Fk h
  refine Er (fun a w'=>j1 = some r ∧ Sx w [] nov [] [] 40 a w') ?_ ?_
  ·refine wp_block (Gz (fun (ys1 : List Dw) a w'=>∃ i1 : Nat,(∃ dn,Ag = dn ++ ys1 ∧ dn.length = i1) ∧ Fa Ag j1 ys1 i1 = some r ∧ Sx w [] nov [] [(0,Ab),(8,Ab),(9,iV (Ag.length : Int)),(10,iV (i1 : Int))] 40 a w') List.length Ag ⟨0,⟨[],rfl,rfl⟩,h,S.nf [] rfl (subR rfl)⟩ ?_)
   clear S h;rintro ys1 a w1 ⟨i1,⟨dn,hd1,hi1⟩,h,S⟩
   cases ys1 with
   | nil =>
    rw [Fa.eq_1] at h
    refine Fr (Vb S Fi rfl rfl rfl fun a S=>Ld ?_)
    replace S:=S.k5 0 8 9 10 11 rfl
    exact Tn (Fs (wp_cond_false ((S.tm rfl).trans (congrArg Value.bool (Kq hd1 hi1))) (wp_exit (Ek (Ek (Ha (Tn (⟨h,S.nf [] rfl trivial⟩))))))))
   | cons y1 ys1 =>
    rw [Fa.eq_2] at h
    refine Fr (Vb S Fi rfl rfl rfl fun a S=>Ld ?_)
    replace S:=S.k5 0 8 9 10 11 rfl
    refine Tn (Fs (wp_cond_true ((S.tm rfl).trans (congrArg Value.bool (Jm hd1 hi1))) (wp_skip (Tn (Fs (wp_block (Fr (Vm S rfl rfl ?_))))))));clear S;intro a S
    obtain ⟨b1,o1,hm1,hr1⟩:=Hs (a:=a) (x:=.tmp 8) (y:=.tmp 10) (ty:=0) Ot Ah (Kd hd1 hi1) rfl (S.tm rfl) (S.tm rfl)
    refine lv S (hr1 _) rfl ?_;clear S;intro a S
    clear hr1
    refine lv S (Kk isAgg45 sizeOf45 (off:=o1) (o:=0) (part:=(Dw.enc y1)) rfl rfl (S.tm rfl) (hm1.at S.emb0)) rfl fun a S=>Ko S zeroValue45 (cs:=[sV Ec,iV 0]) rfl rfl ?_;clear S;intro a w3 b2 hz1 hk1 S
    refine Va S rfl rfl fun a S=>Hk S (S.tm rfl) (S.tm rfl) (i:=0) (off:=0) rfl sizeOf45 (vs:=(Dw.enc y1)) rfl rfl rfl rfl ?_;clear S;intro w4 hk2 S
    refine Dl (wp_block (Fr (Vf Nk S rfl rfl fun a S=>Vl isAgg9 0 S rfl rfl rfl rfl ?_)));clear S;intro a S
    obtain ⟨r1,hr2,h⟩:=Eu h
    refine Ea S (fun _=>Dg (vs:=[sV y1.Race]) ⟨(S.tm rfl),trivial⟩ call44) (Oh _ y1.Race _ hr2) rfl ?_;clear S;intro v1 a w5 hv1 hk3 hn1 S
    subst hv1
    refine Vu S Li rfl rfl fun a S=>Va S rfl rfl fun a S=>Ld ?_
    replace S:=(S.nl [.blk b2 (Dw.enc y1) 45] [true] rfl).k7 0 3 4 8 9 10 15 rfl
    refine Tn (Fc h (S.tm rfl) (fun hb2 h=>?_) (fun hb2 h=>?_))
    ·refine Fr (Vk S rfl rfl fun a S=>Dl (wp_ret (Hj (Hj (Dy (Dy (Hj ?_)))))))
     refine Dy (Dy ?_)
     obtain rfl:=Option.some.inj h
     exact Fj S results20 rfl rfl
    ·refine Fs (Hy [] ([]) Tryz.mixed S rfl (by kernel_rfl) ?_);clear S;intro w6 hk4 hsel S
     refine Nb [0,1,2,3,4,5,6,7,8,9,10,11,12,13] hsel (by kernel_rfl) rfl ?_
     clear hsel
     refine Gs S rfl (Rm (S.tm rfl)) rfl fun a S=>Gs S rfl (Ki (S.tm rfl) rfl) rfl fun a S=>Gs S rfl (Rm (S.tm rfl)) rfl ?_;clear S;intro a S
     obtain ⟨j2,hj2,h⟩:=Fk h
     refine s_cutm 10 (fun a w'=>∃ c1,j2 c1 = some r ∧ Keep [] w6 w' ∧ Sx w [] nov [.blk b2 (Dw.enc y1) 45] [(0,Ab),(4,.pointer (some ⟨b2,0,none⟩)),(8,Ab),(9,iV (Ag.length : Int)),(10,iV (i1 : Int)),(33,bV c1)] 40 a w') ?_ ?_
     ·rcases Bool.eq_false_or_eq_true (decide (0 < (i1 : Int))) with hb3 | hb3
      ·replace h:=Sc h hb3
       refine Og S rfl rfl rfl rfl hb3 (Qd S (Jk Nk (S.tm rfl)) rfl fun a S=>Og S rfl rfl rfl rfl hb3 (Qd S (Pu isAgg9 (S.tm rfl) (S.cell (i:=0) rfl rfl)) rfl fun a S=>Og S rfl rfl rfl rfl hb3 (Qd S (Rm (S.tm rfl)) rfl fun a S=>Og S rfl rfl rfl rfl hb3 (Qd S (Rm (S.tm rfl)) rfl fun a S=>Og S rfl rfl rfl rfl hb3 (Qd S (Iq (S.tm rfl) rfl) rfl fun a S=>Og S rfl rfl rfl rfl hb3 ?_)))))
       obtain ⟨hc1,h⟩:=Hx h
       obtain ⟨b3,o2,hm2,hr3⟩:=Hs (a:=a) (x:=.tmp 26) (y:=.tmp 28) (ty:=0) Ot Ah (Dv hc1).1 (Dv hc1).2 (S.tm rfl) (S.tm rfl)
       refine Qd S (hr3 _) rfl ?_;clear S;intro a S
       clear hr3
       exact Og S rfl rfl rfl rfl hb3 (Qd S (Jk Nk (S.tm rfl)) rfl fun a S=>Og S rfl rfl rfl rfl hb3 (Qd S (Iv isAgg9 (off:=o2) (o:=0) (S.tm rfl) (hm2.at S.emb0) rfl) rfl fun a S=>Og S rfl rfl rfl rfl hb3 (Qd S (Zi (S.tm rfl) (S.tm rfl)) rfl fun a S=>Gs S rfl (Hm hb3 (S.tm rfl) (S.tm rfl)) rfl fun a S=>Mi (⟨_,h,Keep.refl _ _,S.nf [true] rfl (subR rfl)⟩))))
      ·replace h:=Sd h hb3
       iterate 9 (refine Xg S rfl rfl rfl rfl (Kl hb3) rfl ?_ rfl;clear S;intro a S)
       exact Gs S rfl (Hn true hb3 (S.tm rfl) rfl) rfl fun a S=>Mi (⟨_,h,Keep.refl _ _,S.nf [true] rfl (subR rfl)⟩)
     clear S h;rintro a w7 ⟨c1,h,hk5,S⟩;rw [hj2] at h;clear hj2 j2
     refine Gs S rfl (Ra (S.tm rfl)) rfl fun a S=>Mi ?_
     replace S:=S.k6 0 4 8 9 10 20 rfl
     refine Tn (Fc h (S.tm rfl) (fun hb4 h=>?_) (fun hb4 h=>?_))
     ·refine Fr (Vk S rfl rfl fun a S=>Dl (wp_ret (Hj (Hj (Dy (Dy (Hj ?_)))))))
      refine Dy (Dy ?_)
      obtain rfl:=Option.some.inj h
      exact Fj S results20 rfl rfl
     ·refine Fr (Vf So S rfl rfl fun a S=>Vl isAgg3 0 S rfl rfl rfl rfl fun a S=>Ea S (fun _=>Dg (vs:=[iV y1.Time]) ⟨(S.tm rfl),trivial⟩ call28) (Pj _ y1.Time _ rfl) rfl ?_);clear S;intro v2 a w8 hv2 hk6 hn2 S
      subst hv2
      refine Vu S Li rfl rfl fun a S=>Va S rfl rfl fun a S=>Dl (Fc h (S.tm rfl) (fun hb5 h=>?_) (fun hb5 h=>?_))
      ·refine Fr (Vk S rfl rfl fun a S=>Dl (wp_ret (Hj (Hj (Dy (Dy (Hj ?_)))))))
       refine Dy (Dy ?_)
       obtain rfl:=Option.some.inj h
       exact Fj S results20 rfl rfl
      ·exact wp_skip (Jb (Jb (Tn (Fg (Vq S Gb rfl rfl rfl fun a S=>Vm S rfl rfl fun a S=>Dl (⟨ys1,⟨i1 + 1,⟨_,(hd1).trans (List.append_cons _ _ _),by simp [hi1]⟩,h,S.nf [false] rfl ⟨rfl,rfl,rfl,(congrArg (fun z=>some (Value.int .i64 z)) (Jn hd1 hi1 (Ky Ah))),trivial⟩⟩,Nat.lt_succ_self _⟩))))))
  clear S h;rintro a w2 ⟨h,S⟩;rw [hj1] at h;clear hj1 j1
  refine Tn (Fr (Vk S rfl rfl fun a S=>Dl (wp_ret ?_)))
  obtain rfl:=Option.some.inj h
  exact Fj S results20 rfl rfl
theorem Nh (w : World) (Ab : Value) (Ag : List Dw) (Ah : Slc (view w []) 2 Ab (Ag.map Dw.enc)) (Aj : ByteArray) (r : Int) (h : Dn Ag Aj = r) :
    Calls prog 27 [Ab,sV Aj].toArray w (Ret w [] fun _ v _=>v = iV r):=by
 refine Fe func27 rfl ntmps27 rfl fun a S=>?_
 unfold Dn at h
 replace S:=S.k2 0 1 rfl
 refine Fr (Vk S rfl rfl fun a S=>Dl (Fs (Fr (Vm S rfl rfl fun a S=>lv S (Gh Ot (S.tm rfl) (Hr Ah)) rfl fun a S=>lv S (Rm rfl) rfl ?_))));clear S;intro a S
 refine Dl ?_
 replace S:=S.k4 1 7 8 9 rfl
 obtain ⟨j1,hj1,h⟩:=Fk h
 refine Er (fun a w'=>j1 = r ∧ Sx w [] nov [] [] 20 a w') ?_ ?_
 ·refine wp_block (Gz (fun (ys1 : List Dw) a w'=>∃ i1 : Nat,(∃ dn,Ag = dn ++ ys1 ∧ dn.length = i1) ∧ Gu Aj j1 ys1 i1 = r ∧ Sx w [] nov [] [(1,sV Aj),(7,Ab),(8,iV (Ag.length : Int)),(9,iV (i1 : Int))] 20 a w') List.length Ag ⟨0,⟨[],rfl,rfl⟩,h,S.nf [] rfl (subR rfl)⟩ ?_)
  clear S h;rintro ys1 a w1 ⟨i1,⟨dn,hd1,hi1⟩,h,S⟩
  cases ys1 with
  | nil =>
   rw [Gu.eq_1] at h
   refine Fr (Vb S Fi rfl rfl rfl fun a S=>Ld ?_)
   replace S:=S.k5 1 7 8 9 10 rfl
   exact Tn (Fs (wp_cond_false ((S.tm rfl).trans (congrArg Value.bool (Kq hd1 hi1))) (wp_exit (Ek (Ek (Ha (Tn (⟨h,S.nf [] rfl trivial⟩))))))))
  | cons y1 ys1 =>
   rw [Gu.eq_2] at h
   refine Fr (Vb S Fi rfl rfl rfl fun a S=>Ld ?_)
   replace S:=S.k5 1 7 8 9 10 rfl
   refine Tn (Fs (wp_cond_true ((S.tm rfl).trans (congrArg Value.bool (Jm hd1 hi1))) (wp_skip (Tn (Fs (wp_block (Fs (Fg ?_))))))))
   obtain ⟨b1,o1,hm1,hr1⟩:=Hs (a:=a) (x:=.tmp 7) (y:=.tmp 9) (ty:=0) Ot Ah (Kd hd1 hi1) rfl (S.tm rfl) (S.tm rfl)
   refine lv S (hr1 _) rfl ?_;clear S;intro a S
   clear hr1
   refine lv S (Kk isAgg45 sizeOf45 (off:=o1) (o:=0) (part:=(Dw.enc y1)) rfl rfl (S.tm rfl) (hm1.at S.emb0)) rfl fun a S=>Ko S zeroValue45 (cs:=[sV Ec,iV 0]) rfl rfl ?_;clear S;intro a w3 b2 hz1 hk1 S
   refine Hk S (S.tm rfl) (S.tm rfl) (i:=0) (off:=0) rfl sizeOf45 (vs:=(Dw.enc y1)) rfl rfl rfl rfl ?_;clear S;intro w4 hk2 S
   refine Dz (Vf Nk S rfl rfl fun a S=>Vl isAgg9 0 S rfl rfl rfl rfl fun a S=>Vm S rfl rfl fun a S=>Vb S Qw rfl rfl rfl fun a S=>Dl (Fc h (S.tm rfl) (fun hb1 h=>?_) (fun hb1 h=>?_)))
   ·refine Fr (Vf So S rfl rfl fun a S=>Vl isAgg3 0 S rfl rfl rfl rfl fun a S=>Va S rfl rfl fun a S=>Ld ?_)
    replace S:=S.n0.k1 4 rfl
    refine Tn (wp_ret (Hj (Dy (Dy (Hj (Dy (Dy ?_)))))))
    subst h
    exact Fj S results27 rfl rfl
   ·exact wp_skip (Jb (Tn (Fg (Vq S Gb rfl rfl rfl fun a S=>Vm S rfl rfl fun a S=>Dl (⟨ys1,⟨i1 + 1,⟨_,(hd1).trans (List.append_cons _ _ _),by simp [hi1]⟩,h,S.nf [false] rfl ⟨rfl,rfl,rfl,(congrArg (fun z=>some (Value.int .i64 z)) (Jn hd1 hi1 (Ky Ah))),trivial⟩⟩,Nat.lt_succ_self _⟩)))))
 clear S h;rintro a w2 ⟨h,S⟩;rw [hj1] at h;clear hj1 j1
 refine Tn (Fr (Vk S rfl rfl fun a S=>Dl (wp_ret ?_)))
 subst h
 exact Fj S results27 rfl rfl
theorem Oy (w : World) (Ai : Int) (As : Int) (r : Int × Int) (h : Eh Ai As = r) :
    Calls prog 46 [.int .u64 Ai,.int .u64 As].toArray w (Ret w [] fun _ v _=>v = .tuple #[.int .u64 r.1,.int .u64 r.2]):=by
 refine Fe func46 rfl ntmps46 rfl fun a S=>?_
 unfold Eh at h
 replace S:=S.k2 0 1 rfl
 refine Fr (Vk S rfl rfl fun a S=>Vk S rfl rfl fun a S=>Dz (Vm S rfl rfl fun a S=>Vq S Sf rfl rfl rfl fun a S=>Va S rfl rfl ?_));clear S;intro a S
 refine Dz (Vm S rfl rfl fun a S=>lv S (Mp (S.tm rfl) rfl (by decide)) rfl fun a S=>Va S rfl rfl fun a S=>Dl (Fs (Fg ?_)))
 refine Vm S rfl rfl fun a S=>Vq S Sf rfl rfl rfl fun a S=>Va S rfl rfl fun a S=>Dz (Vm S rfl rfl fun a S=>lv S (Mp (S.tm rfl) rfl (by decide)) rfl fun a S=>Va S rfl rfl fun a S=>Ld ?_)
 replace S:=S.k6 0 1 6 7 8 9 rfl
 refine Tn (Fr (Vm S rfl rfl fun a S=>Vm S rfl rfl fun a S=>Vb S Io rfl rfl rfl fun a S=>Va S rfl rfl fun a S=>Dl (Fs (Fg ?_))))
 refine Vm S rfl rfl fun a S=>Vm S rfl rfl fun a S=>Vb S Io rfl rfl rfl fun a S=>Vm S rfl rfl fun a S=>lv S (Mp (S.tm rfl) rfl (by decide)) rfl fun a S=>Vb S Mo rfl rfl rfl fun a S=>Va S rfl rfl fun a S=>Ld ?_
 replace S:=S.k6 0 1 6 7 9 11 rfl
 refine Tn (Fr (Vm S rfl rfl fun a S=>Vq S Sf rfl rfl rfl fun a S=>Va S rfl rfl fun a S=>Dz (Vm S rfl rfl ?_)));clear S;intro a S
 refine lv S (Mp (S.tm rfl) rfl (by decide)) rfl fun a S=>Va S rfl rfl fun a S=>Dl (Fs (Fg ?_))
 iterate 3 (refine Vm S rfl rfl ?_;clear S;intro a S)
 refine Vb S Io rfl rfl rfl fun a S=>Vb S Mo rfl rfl rfl fun a S=>Va S rfl rfl fun a S=>Ld ?_
 replace S:=S.k6 0 1 7 9 12 13 rfl
 refine Tn (Fr (Vm S rfl rfl fun a S=>Vm S rfl rfl fun a S=>Vb S Io rfl rfl rfl fun a S=>Vm S rfl rfl fun a S=>Vb S Mo rfl rfl rfl fun a S=>Vm S rfl rfl fun a S=>lv S (Mp (S.tm rfl) rfl (by decide)) rfl fun a S=>Vb S Mo rfl rfl rfl ?_));clear S;intro a S
 refine Va S rfl rfl fun a S=>Ld ?_
 replace S:=S.k3 0 1 4 rfl
 refine Tn (Fr (Vm S rfl rfl fun a S=>Vm S rfl rfl fun a S=>Vb S Io rfl rfl rfl fun a S=>Va S rfl rfl fun a S=>Dl (wp_ret ?_)))
 subst h
 exact Ns S results46 rfl rfl rfl
set_option maxRecDepth 20000 in
theorem Rr (w : World) (Ai : Int) (r : Int) (h : Ng Ai = some r) :
    Calls prog 68 [.int .u64 Ai].toArray w (Ret w [] fun _ v _=>v = iV r):=by
 refine Fe func68 rfl ntmps68 rfl fun a S=>?_
 unfold Ng at h
 replace S:=S.k1 0 rfl
 refine Fr (Vk S rfl rfl fun a S=>Dl (Fs (Fr (Vm S rfl rfl fun a S=>Vq S Mh rfl rfl rfl fun a S=>Ld ?_))))
 refine Tn ?_
 obtain ⟨j1,hj1,h⟩:=Fk h
 refine Er (fun a w'=>∃ x1 : Int,∃ x2 : Int,j1 x1 x2 = some r ∧ Sx w [] nov [] [(0,.int .u64 x1),(2,iV x2)] 25 a w') ?_ ?_
 ·refine Fc h (S.tm rfl) (fun hb1 h=>?_) (fun hb1 h=>?_)
  ·refine Fr (Vm S rfl rfl fun a S=>lv S (Mp (S.tm rfl) rfl (by decide)) rfl fun a S=>Va S rfl rfl fun a S=>Dl (Fg (Vk S rfl rfl fun a S=>Dl ?_)))
   exact ⟨Dt .u64 Ai 32,32,h,S.nf [] rfl (subR rfl)⟩
  ·exact wp_skip (Tn (⟨Ai,0,h,S.nf [] rfl (subR rfl)⟩))
 clear S h;rintro a w1 ⟨x1,x2,h,S⟩;rw [hj1] at h;clear hj1 j1
 refine Tn (Fs (Fr (Vm S rfl rfl fun a S=>Vq S Mh rfl rfl rfl fun a S=>Dl ?_)))
 obtain ⟨j2,hj2,h⟩:=Fk h
 refine Er (fun a w'=>∃ x3 : Int,∃ x4 : Int,j2 x3 x4 = some r ∧ Sx w [] nov [] [(0,.int .u64 x3),(2,iV x4)] 25 a w') ?_ ?_
 ·refine Fc h (S.tm rfl) (fun hb2 h=>?_) (fun hb2 h=>?_)
  ·refine Fr (Vm S rfl rfl fun a S=>lv S (Mp (S.tm rfl) rfl (by decide)) rfl fun a S=>Va S rfl rfl fun a S=>Dl (Fg (Vm S rfl rfl fun a S=>Vq S Gb rfl rfl rfl fun a S=>Va S rfl rfl ?_)));clear S;intro a S
   exact Dl (⟨Dt .u64 x1 16,W (x2 + 16),h,S.nf [] rfl (subR rfl)⟩)
  ·exact wp_skip (Tn (⟨x1,x2,h,S.nf [] rfl (subR rfl)⟩))
 clear S h;rintro a w2 ⟨x3,x4,h,S⟩;rw [hj2] at h;clear hj2 j2
 refine Tn (Fs (Fr (Vm S rfl rfl fun a S=>Vq S Mh rfl rfl rfl fun a S=>Dl ?_)))
 obtain ⟨j3,hj3,h⟩:=Fk h
 refine Er (fun a w'=>∃ x5 : Int,∃ x6 : Int,j3 x5 x6 = some r ∧ Sx w [] nov [] [(0,.int .u64 x5),(2,iV x6)] 25 a w') ?_ ?_
 ·refine Fc h (S.tm rfl) (fun hb3 h=>?_) (fun hb3 h=>?_)
  ·refine Fr (Vm S rfl rfl fun a S=>lv S (Mp (S.tm rfl) rfl (by decide)) rfl fun a S=>Va S rfl rfl fun a S=>Dl (Fg (Vm S rfl rfl fun a S=>Vq S Gb rfl rfl rfl fun a S=>Va S rfl rfl ?_)));clear S;intro a S
   exact Dl (⟨Dt .u64 x3 8,W (x4 + 8),h,S.nf [] rfl (subR rfl)⟩)
  ·exact wp_skip (Tn (⟨x3,x4,h,S.nf [] rfl (subR rfl)⟩))
 clear S h;rintro a w3 ⟨x5,x6,h,S⟩;rw [hj3] at h;clear hj3 j3
 refine Tn (Fr (Vm S rfl rfl fun a S=>Vm S rfl rfl fun a S=>Vu S (Jr underlying81 underlying5) rfl rfl ?_));clear S;intro a S
 obtain ⟨hc1,h⟩:=Hx h
 refine lv S (Of underlying9 rfl (S.tm rfl) hc1) rfl fun a S=>Vu S (Jr underlying5 underlying3) rfl rfl fun a S=>Vb S Gb rfl rfl rfl fun a S=>Va S rfl rfl fun a S=>Dl (wp_ret ?_)
 obtain rfl:=Option.some.inj h
 exact Fj S results68 rfl rfl
theorem Px (w : World) (Ai : Int) (r : Int) (h : Jo Ai = some r) :
    Calls prog 58 [.int .u64 Ai].toArray w (Ret w [] fun _ v _=>v = iV r):=by
 refine Fe func58 rfl ntmps58 rfl fun a S=>?_
 unfold Jo at h
 replace S:=S.k1 0 rfl
 refine Fr (Vk S rfl rfl fun a S=>Dz (Vm S rfl rfl ?_));clear S;intro a S
 obtain ⟨r1,hr1,h⟩:=Eu h
 refine Ea S (fun _=>Dg (vs:=[.int .u64 Ai]) ⟨(S.tm rfl),trivial⟩ call68) (Rr _ Ai _ hr1) rfl ?_;clear S;intro v1 a w1 hv1 hk1 hn1 S
 subst hv1
 refine Vu S (Iq rfl) rfl rfl fun a S=>Va S rfl rfl fun a S=>Dl (wp_ret ?_)
 obtain rfl:=Option.some.inj h
 exact Fj S results58 rfl rfl
set_option maxRecDepth 20000 in
theorem Vr (w : World) (Bi : Int) (Aw : Int) (As : Int) (r : Int × Int) (h : Mj Bi Aw As = some r) :
    Calls prog 47 [.int .u64 Bi,.int .u64 Aw,.int .u64 As].toArray w (Ret w [] fun _ v _=>v = .tuple #[.int .u64 r.1,.int .u64 r.2]):=by
 refine Fe func47 rfl ntmps47 rfl fun a S=>?_
 unfold Mj at h
 replace S:=S.k3 0 1 2 rfl
 refine Fr (Vk S rfl rfl fun a S=>Vk S rfl rfl fun a S=>Dl (Fs (Fr (Vm S rfl rfl fun a S=>Vq S Kh rfl rfl rfl ?_))));clear S;intro a S
 refine Dl (Fc h (S.tm rfl) (fun hb1 h=>?_) (fun hb1 h=>?_))
 ·cases h
 ·refine wp_skip (Tn (Fs (Fr (Vm S rfl rfl fun a S=>Vm S rfl rfl fun a S=>Vb S Ow rfl rfl rfl fun a S=>Dl (Fc h (S.tm rfl) (fun hb2 h=>?_) (fun hb2 h=>?_))))))
  ·cases h
  ·refine wp_skip (Tn (Fs (Fr (Vm S rfl rfl fun a S=>Vq S Kh rfl rfl rfl fun a S=>Dl (Fc h (S.tm rfl) (fun hb3 h=>?_) (fun hb3 h=>?_))))))
   ·refine Fs (Hy [] ([]) Tryz.mixed S rfl (by kernel_rfl) ?_);clear S;intro w1 hk1 hsel S
    refine Nb [0,1,2,3,4,5,6,7] hsel (by kernel_rfl) rfl ?_
    clear hsel
    refine Gs S rfl (Rm (S.tm rfl)) rfl fun a S=>Gs S rfl (Rm (S.tm rfl)) rfl ?_;clear S;intro a S
    obtain ⟨hc1,h⟩:=Hx h
    refine Gs S rfl (Ww (S.tm rfl) (S.tm rfl) (Rv hc1)) rfl fun a S=>Gs S rfl (Rm (S.tm rfl)) rfl fun a S=>Gs S rfl (Rm (S.tm rfl)) rfl ?_;clear S;intro a S
    obtain ⟨hc2,h⟩:=Hx h
    refine Gs S rfl (rn_remk (S.tm rfl) (S.tm rfl) (Rv hc2)) rfl fun a S=>Gs S rfl (Ra (S.tm rfl)) rfl fun a S=>Gs S rfl (Ra (S.tm rfl)) rfl fun a S=>Mi ?_
    replace S:=S.k2 6 7 rfl
    refine Tn (wp_ret (Dy ?_))
    obtain rfl:=Option.some.inj h
    exact Ns S results47 rfl rfl rfl
   ·refine wp_skip (Tn (Fr (Vm S rfl rfl ?_)));clear S;intro a S
    obtain ⟨r1,hr1,h⟩:=Eu h
    refine Ea S (fun _=>Dg (vs:=[.int .u64 As]) ⟨(S.tm rfl),trivial⟩ call58) (Px _ As _ hr1) rfl ?_;clear S;intro v1 a w2 hv1 hk2 hn1 S
    subst hv1
    refine Vu S (Jr underlying3 underlying87) rfl rfl fun a S=>Va S rfl rfl fun a S=>Ld ?_
    replace S:=S.k4 0 1 2 8 rfl
    refine Tn (Fr (Vm S rfl rfl fun a S=>Vm S rfl rfl ?_));clear S;intro a S
    obtain ⟨hc3,h⟩:=Hx h
    refine lv S (Yt (S.tm rfl) (S.tm rfl) (of_decide_eq_true hc3)) rfl fun a S=>Va S rfl rfl fun a S=>Dz (Vm S rfl rfl fun a S=>lv S (Mp (S.tm rfl) rfl (by decide)) rfl fun a S=>Va S rfl rfl fun a S=>Dl ?_)
    refine Fr (Vm S rfl rfl fun a S=>Vq S Sf rfl rfl rfl fun a S=>Va S rfl rfl fun a S=>Dz (Vm S rfl rfl fun a S=>Vm S rfl rfl ?_));clear S;intro a S
    obtain ⟨hc4,h⟩:=Hx h
    refine lv S (Yt (S.tm rfl) (S.tm rfl) (of_decide_eq_true hc4)) rfl fun a S=>Vm S rfl rfl fun a S=>Vm S rfl rfl fun a S=>Vu S (Ps rfl) rfl rfl ?_;clear S;intro a S
    obtain ⟨hc5,h⟩:=Hx h
    refine lv S (Mp (S.tm rfl) (S.tm rfl) (of_decide_eq_true hc5)) rfl fun a S=>Vb S rn_or_ rfl rfl rfl fun a S=>Va S rfl rfl fun a S=>Ld ?_
    replace S:=S.k6 1 2 8 9 10 11 rfl
    refine Tn (Fr (Vm S rfl rfl fun a S=>Vm S rfl rfl ?_));clear S;intro a S
    obtain ⟨hc6,h⟩:=Hx h
    refine lv S (Yt (S.tm rfl) (S.tm rfl) (of_decide_eq_true hc6)) rfl fun a S=>Va S rfl rfl fun a S=>Dz (Vm S rfl rfl fun a S=>lv S (Mp (S.tm rfl) rfl (by decide)) rfl fun a S=>Va S rfl rfl fun a S=>Dl ?_)
    refine Fr (Vm S rfl rfl fun a S=>Vq S Sf rfl rfl rfl fun a S=>Va S rfl rfl fun a S=>Ld ?_)
    replace S:=S.k7 2 8 9 10 11 13 14 rfl
    refine Tn (Fr (Vm S rfl rfl fun a S=>Vm S rfl rfl ?_));clear S;intro a S
    obtain ⟨hc7,h⟩:=Hx h
    refine lv S (Ww (S.tm rfl) (S.tm rfl) (Rv hc7)) rfl fun a S=>Va S rfl rfl fun a S=>Dl (Fs (Fg ?_))
    iterate 3 (refine Vm S rfl rfl ?_;clear S;intro a S)
    refine Vb S Io rfl rfl rfl fun a S=>Vb S Ps rfl rfl rfl fun a S=>Va S rfl rfl fun a S=>Ld ?_
    replace S:=S.k9 2 8 9 10 11 13 14 15 16 rfl
    refine Tn (Fs ?_)
    obtain ⟨j1,hj1,h⟩:=Fk h
    refine Er (fun a w'=>∃ x1 : Int,j1 x1 = some r ∧ Sx w [] nov [] [(2,.int .u64 (Ds .u64 As (IntKind.wrap .u64 r1))),(8,.int .u64 (IntKind.wrap .u64 r1)),(9,.int .u64 (Dt .u64 (Ds .u64 As (IntKind.wrap .u64 r1)) 32)),(10,.int .u64 (Hl .u64 (Ds .u64 As (IntKind.wrap .u64 r1)) 4294967295)),(11,.int .u64 (Ks .u64 (Ds .u64 Bi (IntKind.wrap .u64 r1)) (Dt .u64 Aw (IntKind.wrap .u64 (64 - (IntKind.wrap .u64 r1)))))),(13,.int .u64 (Dt .u64 (Ds .u64 Aw (IntKind.wrap .u64 r1)) 32)),(14,.int .u64 (Hl .u64 (Ds .u64 Aw (IntKind.wrap .u64 r1)) 4294967295)),(15,.int .u64 x1)] 135 a w') ?_ ?_
    ·refine wp_block (Gz (fun (m1 : Nat) a w'=>∃ x1 : Int,∃ x2 : Int,Ib Aw r1 As j1 m1 x1 x2 = some r ∧ Sx w [] nov [] [(2,.int .u64 (Ds .u64 As (IntKind.wrap .u64 r1))),(8,.int .u64 (IntKind.wrap .u64 r1)),(9,.int .u64 (Dt .u64 (Ds .u64 As (IntKind.wrap .u64 r1)) 32)),(10,.int .u64 (Hl .u64 (Ds .u64 As (IntKind.wrap .u64 r1)) 4294967295)),(11,.int .u64 (Ks .u64 (Ds .u64 Bi (IntKind.wrap .u64 r1)) (Dt .u64 Aw (IntKind.wrap .u64 (64 - (IntKind.wrap .u64 r1)))))),(13,.int .u64 (Dt .u64 (Ds .u64 Aw (IntKind.wrap .u64 r1)) 32)),(14,.int .u64 (Hl .u64 (Ds .u64 Aw (IntKind.wrap .u64 r1)) 4294967295)),(15,.int .u64 x1),(16,.int .u64 x2)] 135 a w') id (((IntKind.wrap .u64 (Int.tdiv (Ks .u64 (Ds .u64 Bi (IntKind.wrap .u64 r1)) (Dt .u64 Aw (IntKind.wrap .u64 (64 - (IntKind.wrap .u64 r1))))) (Dt .u64 (Ds .u64 As (IntKind.wrap .u64 r1)) 32))) - 4294967296).toNat + 2) ⟨IntKind.wrap .u64 (Int.tdiv (Ks .u64 (Ds .u64 Bi (IntKind.wrap .u64 r1)) (Dt .u64 Aw (IntKind.wrap .u64 (64 - (IntKind.wrap .u64 r1))))) (Dt .u64 (Ds .u64 As (IntKind.wrap .u64 r1)) 32)),IntKind.wrap .u64 ((Ks .u64 (Ds .u64 Bi (IntKind.wrap .u64 r1)) (Dt .u64 Aw (IntKind.wrap .u64 (64 - (IntKind.wrap .u64 r1))))) - (IntKind.wrap .u64 ((IntKind.wrap .u64 (Int.tdiv (Ks .u64 (Ds .u64 Bi (IntKind.wrap .u64 r1)) (Dt .u64 Aw (IntKind.wrap .u64 (64 - (IntKind.wrap .u64 r1))))) (Dt .u64 (Ds .u64 As (IntKind.wrap .u64 r1)) 32))) * (Dt .u64 (Ds .u64 As (IntKind.wrap .u64 r1)) 32)))),h,S.nf [] rfl (subR rfl)⟩ ?_)
     clear S h;rintro m1 a w3 ⟨x1,x2,h,S⟩
     cases m1 with
     | zero=>rw [Ib.eq_1] at h;cases h
     | succ m1 =>
      rw [Ib.eq_2] at h
      refine Fs (Fr (Vm S rfl rfl fun a S=>Vq S Mh rfl rfl rfl fun a S=>Vm S rfl rfl fun a S=>Ii 9 (fun a w'=>Keep [] w3 w' ∧ Sx w [] nov [] [(2,.int .u64 (Ds .u64 As (IntKind.wrap .u64 r1))),(8,.int .u64 (IntKind.wrap .u64 r1)),(9,.int .u64 (Dt .u64 (Ds .u64 As (IntKind.wrap .u64 r1)) 32)),(10,.int .u64 (Hl .u64 (Ds .u64 As (IntKind.wrap .u64 r1)) 4294967295)),(11,.int .u64 (Ks .u64 (Ds .u64 Bi (IntKind.wrap .u64 r1)) (Dt .u64 Aw (IntKind.wrap .u64 (64 - (IntKind.wrap .u64 r1)))))),(13,.int .u64 (Dt .u64 (Ds .u64 Aw (IntKind.wrap .u64 r1)) 32)),(14,.int .u64 (Hl .u64 (Ds .u64 Aw (IntKind.wrap .u64 r1)) 4294967295)),(15,.int .u64 x1),(16,.int .u64 x2),(78,bV ((decide (4294967296 ≤ x1)) || (decide ((IntKind.wrap .u64 ((IntKind.wrap .u64 (4294967296 * x2)) + (Dt .u64 (Ds .u64 Aw (IntKind.wrap .u64 r1)) 32))) < (IntKind.wrap .u64 (x1 * (Hl .u64 (Ds .u64 As (IntKind.wrap .u64 r1)) 4294967295)))))))] 135 a w') ?_ ?_))
      ·rcases Bool.eq_false_or_eq_true (decide (4294967296 ≤ x1)) with hb4 | hb4
       ·iterate 8 (refine Hh S rfl rfl rfl (Pb hb4) rfl ?_ rfl;clear S;intro a S)
        exact lv S (Nz (decide ((IntKind.wrap .u64 ((IntKind.wrap .u64 (4294967296 * x2)) + (Dt .u64 (Ds .u64 Aw (IntKind.wrap .u64 r1)) 32))) < (IntKind.wrap .u64 (x1 * (Hl .u64 (Ds .u64 As (IntKind.wrap .u64 r1)) 4294967295))))) hb4 (S.tm rfl) rfl) rfl fun a S=>Dl (⟨Keep.refl _ _,S.nf [] rfl (subR rfl)⟩)
       ·refine Dx S rfl rfl rfl hb4 (Vm S rfl rfl fun a S=>Dx S rfl rfl rfl hb4 (Vm S rfl rfl fun a S=>Dx S rfl rfl rfl hb4 (Vb S Io rfl rfl rfl fun a S=>Dx S rfl rfl rfl hb4 (Vm S rfl rfl fun a S=>Dx S rfl rfl rfl hb4 (Vu S (Io rfl) rfl rfl fun a S=>Dx S rfl rfl rfl hb4 ?_)))))
        exact Vm S rfl rfl fun a S=>Dx S rfl rfl rfl hb4 (Vb S Mo rfl rfl rfl fun a S=>Dx S rfl rfl rfl hb4 (Vb S Ki rfl rfl rfl fun a S=>lv S (Oa hb4 (S.tm rfl) (S.tm rfl)) rfl fun a S=>Dl (⟨Keep.refl _ _,S.nf [] rfl (subR rfl)⟩)))
      clear S;rintro a w5 ⟨hk3,S⟩
      refine Dl (Fc h (S.tm rfl) (fun hb5 h=>?_) (fun hb5 h=>?_))
      ·refine wp_skip (Tn (wp_block (Fr (Vm S rfl rfl fun a S=>Vq S Ps rfl rfl rfl fun a S=>Va S rfl rfl fun a S=>Dl (Fs ?_)))))
       refine Fg (Vm S rfl rfl fun a S=>Vm S rfl rfl fun a S=>Vb S Mo rfl rfl rfl fun a S=>Va S rfl rfl fun a S=>Ld ?_)
       replace S:=S.k9 2 8 9 10 11 13 14 15 16 rfl
       refine Tn (Fr (Vm S rfl rfl fun a S=>Vq S Mh rfl rfl rfl fun a S=>Dl (Fc h (S.tm rfl) (fun hb6 h=>?_) (fun hb6 h=>?_))))
       ·exact wp_exit (Zl rfl (Ek (Ha (Tn (⟨IntKind.wrap .u64 (x1 - 1),h,S.nf [] rfl (subR rfl)⟩)))))
       ·exact wp_skip (Jb (Tn (⟨m1,⟨IntKind.wrap .u64 (x1 - 1),IntKind.wrap .u64 (x2 + (Dt .u64 (Ds .u64 As (IntKind.wrap .u64 r1)) 32)),h,S.nf [] rfl ⟨rfl,rfl,rfl,rfl,rfl,rfl,rfl,rfl,rfl,trivial⟩⟩,Nat.lt_succ_self _⟩)))
      ·exact wp_exit (Ek (Ek (Ha (Tn (⟨x1,h,S.nf [] rfl (subR rfl)⟩)))))
    clear S h;rintro a w4 ⟨x1,h,S⟩;rw [hj1] at h;clear hj1 j1
    refine Tn (Fr (Vm S rfl rfl fun a S=>Vq S Io rfl rfl rfl fun a S=>Vm S rfl rfl fun a S=>Vb S Mo rfl rfl rfl fun a S=>Vm S rfl rfl fun a S=>Vm S rfl rfl fun a S=>Vb S Io rfl rfl rfl fun a S=>Vb S Ps rfl rfl rfl ?_));clear S;intro a S
    refine Va S rfl rfl fun a S=>Ld ?_
    replace S:=S.k7 2 8 9 10 14 15 17 rfl
    refine Tn (Fr (Vm S rfl rfl fun a S=>Vm S rfl rfl ?_));clear S;intro a S
    obtain ⟨hc8,h⟩:=Hx h
    refine lv S (Ww (S.tm rfl) (S.tm rfl) (Rv hc8)) rfl fun a S=>Va S rfl rfl fun a S=>Dl (Fs (Fg ?_))
    iterate 3 (refine Vm S rfl rfl ?_;clear S;intro a S)
    refine Vb S Io rfl rfl rfl fun a S=>Vb S Ps rfl rfl rfl fun a S=>Va S rfl rfl fun a S=>Ld ?_
    replace S:=S.k9 2 8 9 10 14 15 16 17 18 rfl
    refine Tn (Fs ?_)
    obtain ⟨j2,hj2,h⟩:=Fk h
    refine Er (fun a w'=>∃ x4 : Int,j2 x4 = some r ∧ Sx w [] nov [] [(2,.int .u64 (Ds .u64 As (IntKind.wrap .u64 r1))),(8,.int .u64 (IntKind.wrap .u64 r1)),(14,.int .u64 (Hl .u64 (Ds .u64 Aw (IntKind.wrap .u64 r1)) 4294967295)),(15,.int .u64 x1),(17,.int .u64 (IntKind.wrap .u64 ((IntKind.wrap .u64 ((IntKind.wrap .u64 ((Ks .u64 (Ds .u64 Bi (IntKind.wrap .u64 r1)) (Dt .u64 Aw (IntKind.wrap .u64 (64 - (IntKind.wrap .u64 r1))))) * 4294967296)) + (Dt .u64 (Ds .u64 Aw (IntKind.wrap .u64 r1)) 32))) - (IntKind.wrap .u64 (x1 * (Ds .u64 As (IntKind.wrap .u64 r1))))))),(18,.int .u64 x4)] 135 a w') ?_ ?_
    ·refine wp_block (Gz (fun (m2 : Nat) a w'=>∃ x3 : Int,∃ x4 : Int,Hp Aw r1 As j2 m2 x3 x4 = some r ∧ Sx w [] nov [] [(2,.int .u64 (Ds .u64 As (IntKind.wrap .u64 r1))),(8,.int .u64 (IntKind.wrap .u64 r1)),(9,.int .u64 (Dt .u64 (Ds .u64 As (IntKind.wrap .u64 r1)) 32)),(10,.int .u64 (Hl .u64 (Ds .u64 As (IntKind.wrap .u64 r1)) 4294967295)),(14,.int .u64 (Hl .u64 (Ds .u64 Aw (IntKind.wrap .u64 r1)) 4294967295)),(15,.int .u64 x1),(16,.int .u64 x3),(17,.int .u64 (IntKind.wrap .u64 ((IntKind.wrap .u64 ((IntKind.wrap .u64 ((Ks .u64 (Ds .u64 Bi (IntKind.wrap .u64 r1)) (Dt .u64 Aw (IntKind.wrap .u64 (64 - (IntKind.wrap .u64 r1))))) * 4294967296)) + (Dt .u64 (Ds .u64 Aw (IntKind.wrap .u64 r1)) 32))) - (IntKind.wrap .u64 (x1 * (Ds .u64 As (IntKind.wrap .u64 r1))))))),(18,.int .u64 x4)] 135 a w') id (((IntKind.wrap .u64 (Int.tdiv (IntKind.wrap .u64 ((IntKind.wrap .u64 ((IntKind.wrap .u64 ((Ks .u64 (Ds .u64 Bi (IntKind.wrap .u64 r1)) (Dt .u64 Aw (IntKind.wrap .u64 (64 - (IntKind.wrap .u64 r1))))) * 4294967296)) + (Dt .u64 (Ds .u64 Aw (IntKind.wrap .u64 r1)) 32))) - (IntKind.wrap .u64 (x1 * (Ds .u64 As (IntKind.wrap .u64 r1)))))) (Dt .u64 (Ds .u64 As (IntKind.wrap .u64 r1)) 32))) - 4294967296).toNat + 2) ⟨IntKind.wrap .u64 ((IntKind.wrap .u64 ((IntKind.wrap .u64 ((IntKind.wrap .u64 ((Ks .u64 (Ds .u64 Bi (IntKind.wrap .u64 r1)) (Dt .u64 Aw (IntKind.wrap .u64 (64 - (IntKind.wrap .u64 r1))))) * 4294967296)) + (Dt .u64 (Ds .u64 Aw (IntKind.wrap .u64 r1)) 32))) - (IntKind.wrap .u64 (x1 * (Ds .u64 As (IntKind.wrap .u64 r1)))))) - (IntKind.wrap .u64 ((IntKind.wrap .u64 (Int.tdiv (IntKind.wrap .u64 ((IntKind.wrap .u64 ((IntKind.wrap .u64 ((Ks .u64 (Ds .u64 Bi (IntKind.wrap .u64 r1)) (Dt .u64 Aw (IntKind.wrap .u64 (64 - (IntKind.wrap .u64 r1))))) * 4294967296)) + (Dt .u64 (Ds .u64 Aw (IntKind.wrap .u64 r1)) 32))) - (IntKind.wrap .u64 (x1 * (Ds .u64 As (IntKind.wrap .u64 r1)))))) (Dt .u64 (Ds .u64 As (IntKind.wrap .u64 r1)) 32))) * (Dt .u64 (Ds .u64 As (IntKind.wrap .u64 r1)) 32)))),IntKind.wrap .u64 (Int.tdiv (IntKind.wrap .u64 ((IntKind.wrap .u64 ((IntKind.wrap .u64 ((Ks .u64 (Ds .u64 Bi (IntKind.wrap .u64 r1)) (Dt .u64 Aw (IntKind.wrap .u64 (64 - (IntKind.wrap .u64 r1))))) * 4294967296)) + (Dt .u64 (Ds .u64 Aw (IntKind.wrap .u64 r1)) 32))) - (IntKind.wrap .u64 (x1 * (Ds .u64 As (IntKind.wrap .u64 r1)))))) (Dt .u64 (Ds .u64 As (IntKind.wrap .u64 r1)) 32)),h,S.nf [] rfl (subR rfl)⟩ ?_)
     clear S h;rintro m2 a w6 ⟨x3,x4,h,S⟩
     cases m2 with
     | zero=>rw [Hp.eq_1] at h;cases h
     | succ m2 =>
      rw [Hp.eq_2] at h
      refine Fs (Fr (Vm S rfl rfl fun a S=>Vq S Mh rfl rfl rfl fun a S=>Vm S rfl rfl fun a S=>Ii 9 (fun a w'=>Keep [] w6 w' ∧ Sx w [] nov [] [(2,.int .u64 (Ds .u64 As (IntKind.wrap .u64 r1))),(8,.int .u64 (IntKind.wrap .u64 r1)),(9,.int .u64 (Dt .u64 (Ds .u64 As (IntKind.wrap .u64 r1)) 32)),(10,.int .u64 (Hl .u64 (Ds .u64 As (IntKind.wrap .u64 r1)) 4294967295)),(14,.int .u64 (Hl .u64 (Ds .u64 Aw (IntKind.wrap .u64 r1)) 4294967295)),(15,.int .u64 x1),(16,.int .u64 x3),(17,.int .u64 (IntKind.wrap .u64 ((IntKind.wrap .u64 ((IntKind.wrap .u64 ((Ks .u64 (Ds .u64 Bi (IntKind.wrap .u64 r1)) (Dt .u64 Aw (IntKind.wrap .u64 (64 - (IntKind.wrap .u64 r1))))) * 4294967296)) + (Dt .u64 (Ds .u64 Aw (IntKind.wrap .u64 r1)) 32))) - (IntKind.wrap .u64 (x1 * (Ds .u64 As (IntKind.wrap .u64 r1))))))),(18,.int .u64 x4),(113,bV ((decide (4294967296 ≤ x4)) || (decide ((IntKind.wrap .u64 ((IntKind.wrap .u64 (4294967296 * x3)) + (Hl .u64 (Ds .u64 Aw (IntKind.wrap .u64 r1)) 4294967295))) < (IntKind.wrap .u64 (x4 * (Hl .u64 (Ds .u64 As (IntKind.wrap .u64 r1)) 4294967295)))))))] 135 a w') ?_ ?_))
      ·rcases Bool.eq_false_or_eq_true (decide (4294967296 ≤ x4)) with hb7 | hb7
       ·iterate 8 (refine Hh S rfl rfl rfl (Pb hb7) rfl ?_ rfl;clear S;intro a S)
        exact lv S (Nz (decide ((IntKind.wrap .u64 ((IntKind.wrap .u64 (4294967296 * x3)) + (Hl .u64 (Ds .u64 Aw (IntKind.wrap .u64 r1)) 4294967295))) < (IntKind.wrap .u64 (x4 * (Hl .u64 (Ds .u64 As (IntKind.wrap .u64 r1)) 4294967295))))) hb7 (S.tm rfl) rfl) rfl fun a S=>Dl (⟨Keep.refl _ _,S.nf [] rfl (subR rfl)⟩)
       ·refine Dx S rfl rfl rfl hb7 (Vm S rfl rfl fun a S=>Dx S rfl rfl rfl hb7 (Vm S rfl rfl fun a S=>Dx S rfl rfl rfl hb7 (Vb S Io rfl rfl rfl fun a S=>Dx S rfl rfl rfl hb7 (Vm S rfl rfl fun a S=>Dx S rfl rfl rfl hb7 (Vu S (Io rfl) rfl rfl fun a S=>Dx S rfl rfl rfl hb7 ?_)))))
        exact Vm S rfl rfl fun a S=>Dx S rfl rfl rfl hb7 (Vb S Mo rfl rfl rfl fun a S=>Dx S rfl rfl rfl hb7 (Vb S Ki rfl rfl rfl fun a S=>lv S (Oa hb7 (S.tm rfl) (S.tm rfl)) rfl fun a S=>Dl (⟨Keep.refl _ _,S.nf [] rfl (subR rfl)⟩)))
      clear S;rintro a w8 ⟨hk4,S⟩
      refine Dl (Fc h (S.tm rfl) (fun hb8 h=>?_) (fun hb8 h=>?_))
      ·refine wp_skip (Tn (wp_block (Fr (Vm S rfl rfl fun a S=>Vq S Ps rfl rfl rfl fun a S=>Va S rfl rfl fun a S=>Dl (Fs ?_)))))
       refine Fg (Vm S rfl rfl fun a S=>Vm S rfl rfl fun a S=>Vb S Mo rfl rfl rfl fun a S=>Va S rfl rfl fun a S=>Ld ?_)
       replace S:=S.k9 2 8 9 10 14 15 16 17 18 rfl
       refine Tn (Fr (Vm S rfl rfl fun a S=>Vq S Mh rfl rfl rfl fun a S=>Dl (Fc h (S.tm rfl) (fun hb9 h=>?_) (fun hb9 h=>?_))))
       ·exact wp_exit (Zl rfl (Ek (Ha (Tn (⟨IntKind.wrap .u64 (x4 - 1),h,S.nf [] rfl (subR rfl)⟩)))))
       ·exact wp_skip (Jb (Tn (⟨m2,⟨IntKind.wrap .u64 (x3 + (Dt .u64 (Ds .u64 As (IntKind.wrap .u64 r1)) 32)),IntKind.wrap .u64 (x4 - 1),h,S.nf [] rfl ⟨rfl,rfl,rfl,rfl,rfl,rfl,rfl,rfl,rfl,trivial⟩⟩,Nat.lt_succ_self _⟩)))
      ·exact wp_exit (Ek (Ek (Ha (Tn (⟨x4,h,S.nf [] rfl (subR rfl)⟩)))))
    clear S h;rintro a w7 ⟨x4,h,S⟩;rw [hj2] at h;clear hj2 j2
    refine Tn (Fr (Vm S rfl rfl fun a S=>Vq S Io rfl rfl rfl fun a S=>Vm S rfl rfl fun a S=>Vb S Mo rfl rfl rfl fun a S=>Vm S rfl rfl fun a S=>Vq S Io rfl rfl rfl fun a S=>Vm S rfl rfl fun a S=>Vb S Mo rfl rfl rfl ?_));clear S;intro a S
    refine Vm S rfl rfl fun a S=>Vm S rfl rfl fun a S=>Vb S Io rfl rfl rfl fun a S=>Vb S Ps rfl rfl rfl fun a S=>Vm S rfl rfl ?_;clear S;intro a S
    obtain ⟨hc9,h⟩:=Hx h
    refine lv S (Mp (S.tm rfl) (S.tm rfl) (of_decide_eq_true hc9)) rfl fun a S=>Va S rfl rfl fun a S=>Va S rfl rfl fun a S=>Ld ?_
    replace S:=S.k2 6 7 rfl
    refine Tn (wp_ret ?_)
    obtain rfl:=Option.some.inj h
    exact Ns S results47 rfl rfl rfl
theorem Lw (w : World) (Ae : Int) (Ac : Int) (r : Int) (h : Hq Ae Ac = some r) :
    Calls prog 29 [iV Ae,iV Ac].toArray w (Ret w [] fun _ v _=>v = iV r):=by
 refine Fe func29 rfl ntmps29 rfl fun a S=>?_
 unfold Hq at h
 replace S:=S.k2 0 1 rfl
 refine Fr (Vk S rfl rfl fun a S=>Dz (Vm S rfl rfl fun a S=>Vu S (Jr underlying3 underlying81) rfl rfl fun a S=>Vm S rfl rfl fun a S=>Vu S (Jr underlying3 underlying81) rfl rfl ?_));clear S;intro a S
 refine Va S rfl rfl fun a S=>Va S rfl rfl fun a S=>Dz (Vm S rfl rfl fun a S=>Vm S rfl rfl fun a S=>Vb S Io rfl rfl rfl fun a S=>Vm S rfl rfl fun a S=>Vb S Io rfl rfl rfl ?_);clear S;intro a S
 refine Ea S (fun _=>Dg (vs:=[.int .u64 (IntKind.wrap .u64 ((IntKind.wrap .u64 ((IntKind.wrap .u64 Ae) * (IntKind.wrap .u64 Ae))) * (IntKind.wrap .u64 Ae))),.int .u64 1000]) ⟨(S.tm rfl),rfl,trivial⟩ call46) (Oy _ (IntKind.wrap .u64 ((IntKind.wrap .u64 ((IntKind.wrap .u64 Ae) * (IntKind.wrap .u64 Ae))) * (IntKind.wrap .u64 Ae))) 1000 _ rfl) rfl ?_;clear S;intro v1 a w1 hv1 hk1 hn1 S
 subst hv1
 refine Vm S rfl rfl fun a S=>Vq S Es rfl rfl rfl fun a S=>Vq S Es rfl rfl rfl fun a S=>Va S rfl rfl fun a S=>Va S rfl rfl fun a S=>Ld ?_
 replace S:=S.k3 6 7 8 rfl
 refine Tn (Fr (Vm S rfl rfl fun a S=>Vm S rfl rfl fun a S=>Vb S Io rfl rfl rfl fun a S=>Vm S rfl rfl fun a S=>Vb S Io rfl rfl rfl fun a S=>Va S rfl rfl fun a S=>Dl ?_))
 refine Fs (Fr (Vm S rfl rfl fun a S=>Vm S rfl rfl fun a S=>Vb S Mh rfl rfl rfl fun a S=>Dl (Fc h (S.tm rfl) (fun hb1 h=>?_) (fun hb1 h=>?_))))
 ·refine Fr (Vk S rfl rfl fun a S=>Dl (wp_ret (Dy ?_)))
  obtain rfl:=Option.some.inj h
  exact Fj S results29 rfl rfl
 ·refine wp_skip (Tn (Fs (Fg ?_)))
  iterate 3 (refine Vm S rfl rfl ?_;clear S;intro a S)
  obtain ⟨r1,hr1,h⟩:=Eu h
  refine Ea S (fun _=>Dg (vs:=[.int .u64 ((Eh (IntKind.wrap .u64 ((IntKind.wrap .u64 ((IntKind.wrap .u64 Ae) * (IntKind.wrap .u64 Ae))) * (IntKind.wrap .u64 Ae))) 1000).1),.int .u64 ((Eh (IntKind.wrap .u64 ((IntKind.wrap .u64 ((IntKind.wrap .u64 Ae) * (IntKind.wrap .u64 Ae))) * (IntKind.wrap .u64 Ae))) 1000).2),.int .u64 (IntKind.wrap .u64 ((IntKind.wrap .u64 ((IntKind.wrap .u64 Ac) * (IntKind.wrap .u64 Ac))) * (IntKind.wrap .u64 Ac)))]) ⟨(S.tm rfl),(S.tm rfl),(S.tm rfl),trivial⟩ call47) (Vr _ ((Eh (IntKind.wrap .u64 ((IntKind.wrap .u64 ((IntKind.wrap .u64 Ae) * (IntKind.wrap .u64 Ae))) * (IntKind.wrap .u64 Ae))) 1000).1) ((Eh (IntKind.wrap .u64 ((IntKind.wrap .u64 ((IntKind.wrap .u64 Ae) * (IntKind.wrap .u64 Ae))) * (IntKind.wrap .u64 Ae))) 1000).2) (IntKind.wrap .u64 ((IntKind.wrap .u64 ((IntKind.wrap .u64 Ac) * (IntKind.wrap .u64 Ac))) * (IntKind.wrap .u64 Ac))) _ hr1) rfl ?_;clear S;intro v2 a w2 hv2 hk2 hn2 S
  subst hv2
  refine Vm S rfl rfl fun a S=>Vq S Es rfl rfl rfl fun a S=>Vq S Es rfl rfl rfl fun a S=>Va S rfl rfl fun a S=>Va S rfl rfl fun a S=>Ld ?_
  replace S:=S.k1 9 rfl
  refine Tn (Fr (Vm S rfl rfl fun a S=>Vq S Wz rfl rfl rfl fun a S=>Vu S (Jr underlying81 underlying3) rfl rfl fun a S=>Va S rfl rfl fun a S=>Dl (wp_ret ?_)))
  obtain rfl:=Option.some.inj h
  exact Fj S results29 rfl rfl
theorem Pk (w : World) (Ab : Value) (Ag : List Dw) (Ah : Slc (view w []) 2 Ab (Ag.map Dw.enc)) (Aj : ByteArray) (Ac : Int) (r : Int × Int) (h : Lg Ag Aj Ac = some r) :
    Calls prog 8 [Ab,sV Aj,iV Ac].toArray w (Ret w [] fun _ v _=>v = .tuple #[iV r.1,iV r.2]):=by
 refine Fe func8 rfl ntmps8 rfl fun a S=>?_
 unfold Lg at h
 replace S:=S.k3 0 1 2 rfl
 refine Fr (Vk S rfl rfl fun a S=>Vk S rfl rfl fun a S=>Dl (Fs (Fr (Vm S rfl rfl ?_))));clear S;intro a S
 obtain ⟨r1,hr1,h⟩:=Eu h
 refine Ea S (fun _=>Dg (vs:=[Ab]) ⟨(S.tm rfl),trivial⟩ call20) (Kr _ Ab Ag (Ah.mono (S.le_arg Gi)) _ hr1) rfl ?_;clear S;intro v1 a w1 hv1 hk1 hn1 S
 subst hv1
 refine Va S rfl rfl fun a S=>Dz (Vm S rfl rfl fun a S=>Vq S Ru rfl rfl rfl fun a S=>Dl (Fc h (S.tm rfl) (fun hb1 h=>?_) (fun hb1 h=>?_)))
 ·refine Fr (Vm S rfl rfl fun a S=>Vk S rfl rfl fun a S=>Va S rfl rfl fun a S=>Dl (wp_ret (Dy ?_)))
  obtain rfl:=Option.some.inj h
  exact Ns S results8 rfl rfl rfl
 ·refine wp_skip (Tn (Fr (Vm S rfl rfl fun a S=>Vm S rfl rfl fun a S=>Ea S (fun _=>Dg (vs:=[Ab,sV Aj]) ⟨(S.tm rfl),(S.tm rfl),trivial⟩ call27) (Nh _ Ab Ag (Ah.mono (S.le_arg Gi)) Aj _ rfl) rfl ?_)));clear S;intro v2 a w2 hv2 hk2 hn2 S
  subst hv2
  refine Va S rfl rfl fun a S=>Dl (Fs (Fr (Vm S rfl rfl fun a S=>Vq S Kh rfl rfl rfl fun a S=>Ld ?_)))
  replace S:=S.k3 2 9 19 rfl
  refine Tn (Fc h (S.tm rfl) (fun hb2 h=>?_) (fun hb2 h=>?_))
  ·refine Fr (Vk S rfl rfl fun a S=>Vk S rfl rfl fun a S=>Dl (wp_ret (Dy ?_)))
   obtain rfl:=Option.some.inj h
   exact Ns S results8 rfl rfl rfl
  ·refine wp_skip (Tn (Fs (Fr (Vm S rfl rfl fun a S=>Ea S (fun _=>Dg (vs:=[iV Ac]) ⟨(S.tm rfl),trivial⟩ call28) (Pj _ Ac _ rfl) rfl ?_))));clear S;intro v3 a w3 hv3 hk3 hn3 S
   subst hv3
   refine Vu S Li rfl rfl fun a S=>Dl (Fc h (S.tm rfl) (fun hb3 h=>?_) (fun hb3 h=>?_))
   ·refine Fr (Vk S rfl rfl fun a S=>Vk S rfl rfl fun a S=>Dl (wp_ret (Dy ?_)))
    obtain rfl:=Option.some.inj h
    exact Ns S results8 rfl rfl rfl
   ·refine wp_skip (Tn (Fr (Vm S rfl rfl fun a S=>Vm S rfl rfl ?_)));clear S;intro a S
    obtain ⟨r2,hr2,h⟩:=Eu h
    refine Ea S (fun _=>Dg (vs:=[iV (Dn Ag Aj),iV Ac]) ⟨(S.tm rfl),(S.tm rfl),trivial⟩ call29) (Lw _ (Dn Ag Aj) Ac _ hr2) rfl ?_;clear S;intro v4 a w4 hv4 hk4 hn4 S
    subst hv4
    refine Va S rfl rfl fun a S=>Vk S rfl rfl fun a S=>Dl (wp_ret ?_)
    obtain rfl:=Option.some.inj h
    exact Ns S results8 rfl rfl rfl
theorem Sp (w : World) (Ab : Value) (Ag : List Dw) (Ah : Slc (view w []) 2 Ab (Ag.map Dw.enc)) (Aj : ByteArray) (Ay : Int) (r : Int × Bool × Int) (h : Ls Ag Aj Ay = some r) :
    Calls prog 9 [Ab,sV Aj,iV Ay].toArray w (Ret w [] fun _ v _=>v = .tuple #[iV r.1,bV r.2.1,iV r.2.2]):=by
 refine Fe func9 rfl ntmps9 rfl fun a S=>?_
 unfold Ls at h
 replace S:=S.k3 0 1 2 rfl
 refine Fs (Fg ?_)
 iterate 3 (refine Vk S rfl rfl ?_;clear S;intro a S)
 refine Dl (Fs (Fr (Vm S rfl rfl ?_)));clear S;intro a S
 obtain ⟨r1,hr1,h⟩:=Eu h
 refine Ea S (fun _=>Dg (vs:=[Ab]) ⟨(S.tm rfl),trivial⟩ call20) (Kr _ Ab Ag (Ah.mono (S.le_arg Gi)) _ hr1) rfl ?_;clear S;intro v1 a w1 hv1 hk1 hn1 S
 subst hv1
 refine Va S rfl rfl fun a S=>Dz (Vm S rfl rfl fun a S=>Vq S Ru rfl rfl rfl fun a S=>Dl (Fc h (S.tm rfl) (fun hb1 h=>?_) (fun hb1 h=>?_)))
 ·refine Fr (Vm S rfl rfl fun a S=>Vk S rfl rfl fun a S=>Vk S rfl rfl fun a S=>Va S rfl rfl fun a S=>Dl (wp_ret (Dy ?_)))
  obtain rfl:=Option.some.inj h
  exact Us S results9 rfl rfl rfl rfl
 ·refine wp_skip (Tn (Fr (Vm S rfl rfl fun a S=>Vm S rfl rfl fun a S=>Ea S (fun _=>Dg (vs:=[Ab,sV Aj]) ⟨(S.tm rfl),(S.tm rfl),trivial⟩ call27) (Nh _ Ab Ag (Ah.mono (S.le_arg Gi)) Aj _ rfl) rfl ?_)));clear S;intro v2 a w2 hv2 hk2 hn2 S
  subst hv2
  refine Va S rfl rfl fun a S=>Ld ?_
  replace S:=S.k2 2 10 rfl
  refine Tn (Fs (Fr (Vm S rfl rfl fun a S=>Vq S Kh rfl rfl rfl fun a S=>Dl (Fc h (S.tm rfl) (fun hb2 h=>?_) (fun hb2 h=>?_)))))
  ·refine Fs (Fg ?_)
   iterate 3 (refine Vk S rfl rfl ?_;clear S;intro a S)
   refine Dl (wp_ret (Dy ?_))
   obtain rfl:=Option.some.inj h
   exact Us S results9 rfl rfl rfl rfl
  ·refine wp_skip (Tn (Fs (Fr (Vm S rfl rfl fun a S=>Ea S (fun _=>Dg (vs:=[iV Ay,iV 1,iV 1000000]) ⟨(S.tm rfl),rfl,rfl,trivial⟩ call30) (Mg _ Ay 1 1000000 _ rfl) rfl ?_))));clear S;intro v3 a w3 hv3 hk3 hn3 S
   subst hv3
   refine Vu S Li rfl rfl fun a S=>Dl (Fc h (S.tm rfl) (fun hb3 h=>?_) (fun hb3 h=>?_))
   ·refine Fs (Fg ?_)
    iterate 3 (refine Vk S rfl rfl ?_;clear S;intro a S)
    refine Dl (wp_ret (Dy ?_))
    obtain rfl:=Option.some.inj h
    exact Us S results9 rfl rfl rfl rfl
   ·refine wp_skip (Tn (Fs (Fr (Vm S rfl rfl ?_))));clear S;intro a S
    obtain ⟨r2,hr2,h⟩:=Eu h
    refine Ea S (fun _=>Dg (vs:=[iV (Dn Ag Aj),iV 1]) ⟨(S.tm rfl),rfl,trivial⟩ call29) (Lw _ (Dn Ag Aj) 1 _ hr2) rfl ?_;clear S;intro v4 a w4 hv4 hk4 hn4 S
    subst hv4
    refine Vm S rfl rfl fun a S=>Vb S Fi rfl rfl rfl fun a S=>Dl (Fc h (S.tm rfl) (fun hb4 h=>?_) (fun hb4 h=>?_))
    ·refine Fs (Fg ?_)
     iterate 3 (refine Vk S rfl rfl ?_;clear S;intro a S)
     refine Dl (wp_ret (Dy ?_))
     obtain rfl:=Option.some.inj h
     exact Us S results9 rfl rfl rfl rfl
    ·refine wp_skip (Tn (Fr (Vk S rfl rfl fun a S=>Vk S rfl rfl fun a S=>Dl (Fs ?_))))
     replace S:=S.k4 2 10 11 12 rfl
     obtain ⟨j1,hj1,h⟩:=Fk h
     refine Er (fun a w'=>∃ x1 : Int,j1 x1 = some r ∧ Sx w [] nov [] [(11,iV x1)] 48 a w') ?_ ?_
     ·refine wp_block (Gz (fun (m1 : Nat) a w'=>∃ x1 : Int,∃ x2 : Int,Gn Ag Aj Ay j1 m1 x1 x2 = some r ∧ Sx w [] nov [] [(2,iV Ay),(10,iV (Dn Ag Aj)),(11,iV x1),(12,iV x2)] 48 a w') id 360001 ⟨1,360000,h,S.nf [] rfl (subR rfl)⟩ ?_)
      clear S h;rintro m1 a w5 ⟨x1,x2,h,S⟩
      cases m1 with
      | zero=>rw [Gn.eq_1] at h;cases h
      | succ m1 =>
       rw [Gn.eq_2] at h
       refine Fs (Fr (Vm S rfl rfl fun a S=>Vm S rfl rfl fun a S=>Vb S Fi rfl rfl rfl fun a S=>Dl (Fc h (S.tm rfl) (fun hb5 h=>?_) (fun hb5 h=>?_))))
       ·refine wp_skip (Tn ?_)
        obtain ⟨j2,hj2,h⟩:=Fk h
        refine Er (fun a w'=>∃ x3 : Int,∃ x4 : Int,j2 x3 x4 = some r ∧ Sx w [] nov [] [(2,iV Ay),(10,iV (Dn Ag Aj)),(11,iV x3),(12,iV x4)] 48 a w') ?_ ?_
        ·refine wp_block (Fr (Vm S rfl rfl fun a S=>Vm S rfl rfl fun a S=>Vb S Gb rfl rfl rfl fun a S=>Vq S Gb rfl rfl rfl fun a S=>lv S (Wv (S.tm rfl) rfl (by decide)) rfl fun a S=>Va S rfl rfl fun a S=>Dl ?_))
         refine Fr (Vm S rfl rfl fun a S=>Vm S rfl rfl ?_);clear S;intro a S
         obtain ⟨r3,hr3,h⟩:=Eu h
         refine Ea S (fun _=>Dg (vs:=[iV (Dn Ag Aj),iV (W (Int.tdiv (W ((W (x1 + x2)) + 1)) 2))]) ⟨(S.tm rfl),(S.tm rfl),trivial⟩ call29) (Lw _ (Dn Ag Aj) (W (Int.tdiv (W ((W (x1 + x2)) + 1)) 2)) _ hr3) rfl ?_;clear S;intro v5 a w8 hv5 hk5 hn5 S
         subst hv5
         refine Vm S rfl rfl fun a S=>Vb S Mh rfl rfl rfl fun a S=>Ld ?_
         replace S:=S.k6 2 10 11 12 13 43 rfl
         refine Tn ?_
         obtain ⟨j3,hj3,h⟩:=Fk h
         refine Er (fun a w'=>∃ x5 : Int,∃ x6 : Int,j3 x5 x6 = some r ∧ Sx w [] nov [] [(2,iV Ay),(10,iV (Dn Ag Aj)),(11,iV x5),(12,iV x6)] 48 a w') ?_ ?_
         ·refine Fc h (S.tm rfl) (fun hb6 h=>?_) (fun hb6 h=>?_)
          ·exact Fg (Vm S rfl rfl fun a S=>Va S rfl rfl fun a S=>Dl (⟨W (Int.tdiv (W ((W (x1 + x2)) + 1)) 2),x2,h,S.nf [] rfl (subR rfl)⟩))
          ·exact Fg (Vm S rfl rfl fun a S=>Vq S Iq rfl rfl rfl fun a S=>Va S rfl rfl fun a S=>Dl (⟨x1,W ((W (Int.tdiv (W ((W (x1 + x2)) + 1)) 2)) - 1),h,S.nf [] rfl (subR rfl)⟩))
         clear S h;rintro a w9 ⟨x5,x6,h,S⟩;rw [hj3] at h;clear hj3 j3
         exact Jb (Tn (⟨x5,x6,h,S.nf [] rfl (subR rfl)⟩))
        clear S h;rintro a w7 ⟨x3,x4,h,S⟩;rw [hj2] at h;clear hj2 j2
        exact Tn (⟨m1,⟨x3,x4,h,S.nf [] rfl ⟨rfl,rfl,rfl,rfl,trivial⟩⟩,Nat.lt_succ_self _⟩)
       ·exact wp_exit (Ek (Ek (Ha (Tn (⟨x1,h,S.nf [] rfl ⟨rfl,trivial⟩⟩)))))
     clear S h;rintro a w6 ⟨x1,h,S⟩;rw [hj1] at h;clear hj1 j1
     refine Tn (Fr (Vm S rfl rfl fun a S=>Va S rfl rfl fun a S=>Vk S rfl rfl fun a S=>Vk S rfl rfl fun a S=>Dl (wp_ret ?_)))
     obtain rfl:=Option.some.inj h
     exact Us S results9 rfl rfl rfl rfl
theorem Py (w : World) (Bd : Value) (Be : List Dm) (Bj : Slc (view w []) 3 Bd (Be.map Dm.enc)) (r : Int) (h : Iu Be = some r) :
    Calls prog 31 [Bd].toArray w (Ret w [] fun _ v _=>v = iV r):=by
 refine Fe func31 rfl ntmps31 rfl fun a S=>?_
 unfold Iu at h
 replace S:=S.k1 0 rfl
 refine Fr (Vk S rfl rfl fun a S=>Dl (Fs (Fr (Vm S rfl rfl fun a S=>lv S (Gh Pi (S.tm rfl) (Hr Bj)) rfl fun a S=>Vq S Ki rfl rfl rfl ?_))));clear S;intro a S
 refine Dl (Fc h (S.tm rfl) (fun hb1 h=>?_) (fun hb1 h=>?_))
 ·refine Fr (Vk S rfl rfl fun a S=>Dl (wp_ret (Dy ?_)))
  obtain rfl:=Option.some.inj h
  exact Fj S results31 rfl rfl
 ·refine wp_skip (Tn (Fs (Fr (Vm S rfl rfl fun a S=>lv S (Gh Pi (S.tm rfl) (Hr Bj)) rfl fun a S=>lv S (Rm rfl) rfl fun a S=>Dl ?_))))
  replace S:=S.k3 8 9 10 rfl
  obtain ⟨j1,hj1,h⟩:=Fk h
  refine Er (fun a w'=>j1 = some r ∧ Sx w [] nov [] [] 29 a w') ?_ ?_
  ·refine wp_block (Gz (fun (ys1 : List Dm) a w'=>∃ i1 : Nat,(∃ dn,Be = dn ++ ys1 ∧ dn.length = i1) ∧ Ey j1 ys1 i1 = some r ∧ Sx w [] nov [] [(8,Bd),(9,iV (Be.length : Int)),(10,iV (i1 : Int))] 29 a w') List.length Be ⟨0,⟨[],rfl,rfl⟩,h,S.nf [] rfl (subR rfl)⟩ ?_)
   clear S h;rintro ys1 a w1 ⟨i1,⟨dn,hd1,hi1⟩,h,S⟩
   cases ys1 with
   | nil =>
    rw [Ey.eq_1] at h
    refine Fr (Vb S Fi rfl rfl rfl fun a S=>Ld ?_)
    replace S:=S.k4 8 9 10 11 rfl
    exact Tn (Fs (wp_cond_false ((S.tm rfl).trans (congrArg Value.bool (Kq hd1 hi1))) (wp_exit (Ek (Ek (Ha (Tn (⟨h,S.nf [] rfl trivial⟩))))))))
   | cons y1 ys1 =>
    rw [Ey.eq_2] at h
    refine Fr (Vb S Fi rfl rfl rfl fun a S=>Ld ?_)
    replace S:=S.k4 8 9 10 11 rfl
    refine Tn (Fs (wp_cond_true ((S.tm rfl).trans (congrArg Value.bool (Jm hd1 hi1))) (wp_skip (Tn (Fs (wp_block (Fs (Fg ?_))))))))
    obtain ⟨b1,o1,hm1,hr1⟩:=Hs (a:=a) (x:=.tmp 8) (y:=.tmp 10) (ty:=0) Pi Bj (Kd hd1 hi1) rfl (S.tm rfl) (S.tm rfl)
    refine lv S (hr1 _) rfl ?_;clear S;intro a S
    clear hr1
    refine lv S (Kk isAgg64 sizeOf64 (off:=o1) (o:=0) (part:=(Dm.enc y1)) rfl rfl (S.tm rfl) (hm1.at S.emb0)) rfl fun a S=>Ko S zeroValue64 (cs:=[sV Ec,sV Ec,iV 0]) rfl rfl ?_;clear S;intro a w3 b2 hz1 hk1 S
    refine Hk S (S.tm rfl) (S.tm rfl) (i:=0) (off:=0) rfl sizeOf64 (vs:=(Dm.enc y1)) rfl rfl rfl rfl ?_;clear S;intro w4 hk2 S
    refine Dl (Fs (Fr (Vf Mf S rfl rfl fun a S=>Vl isAgg9 0 S rfl rfl rfl rfl ?_)));clear S;intro a S
    obtain ⟨r1,hr2,h⟩:=Eu h
    refine Ea S (fun _=>Dg (vs:=[sV y1.Race]) ⟨(S.tm rfl),trivial⟩ call44) (Oh _ y1.Race _ hr2) rfl ?_;clear S;intro v1 a w5 hv1 hk3 hn1 S
    subst hv1
    refine Vu S Li rfl rfl fun a S=>Vm S rfl rfl ?_;clear S;intro a S
    obtain ⟨j2,hj2,h⟩:=Fk h
    refine Ii 5 (fun a w'=>∃ c1,j2 c1 = some r ∧ Keep [] w5 w' ∧ Sx w [] nov [.blk b2 (Dm.enc y1) 64] [(4,.pointer (some ⟨b2,0,none⟩)),(8,Bd),(9,iV (Be.length : Int)),(10,iV (i1 : Int)),(23,bV c1)] 29 a w') ?_ ?_
    ·rcases Bool.eq_false_or_eq_true (!r1) with hb2 | hb2
     ·replace h:=Sc h hb2
      iterate 4 (refine Hh S rfl rfl rfl (Pb hb2) rfl ?_ rfl;clear S;intro a S)
      exact Vq S (Nz true hb2) rfl rfl rfl fun a S=>Dl (⟨_,h,Keep.refl _ _,S.nf [true] rfl (subR rfl)⟩)
     ·replace h:=Sd h hb2
      refine Dx S rfl rfl rfl hb2 (Vf Nl S rfl rfl fun a S=>Dx S rfl rfl rfl hb2 (Vl isAgg9 0 S rfl rfl rfl rfl fun a S=>Dx S rfl rfl rfl hb2 ?_))
      obtain ⟨r2,hr3,h⟩:=Eu h
      refine Ea S (fun _=>Dg (vs:=[sV y1.Who]) ⟨(S.tm rfl),trivial⟩ call44) (Oh _ y1.Who _ hr3) rfl ?_;clear S;intro v2 a w7 hv2 hk4 hn2 S
      subst hv2
      exact Dx S rfl rfl rfl hb2 (Vu S Li rfl rfl fun a S=>lv S (Oa hb2 (S.tm rfl) (S.tm rfl)) rfl fun a S=>Dl (⟨_,h,hk4,S.nf [true] rfl (subR rfl)⟩))
    clear S h;rintro a w6 ⟨c1,h,hk5,S⟩;rw [hj2] at h;clear hj2 j2
    refine Dl (Fc h (S.tm rfl) (fun hb3 h=>?_) (fun hb3 h=>?_))
    ·refine Fr (Vk S rfl rfl fun a S=>Dl (wp_ret (Dy (Hj (Dy (Dy (Hj ?_)))))))
     refine Dy (Dy ?_)
     obtain rfl:=Option.some.inj h
     exact Fj S results31 rfl rfl
    ·refine wp_skip (Tn (Fr (Vf Oc S rfl rfl fun a S=>Vl isAgg3 0 S rfl rfl rfl rfl fun a S=>Ea S (fun _=>Dg (vs:=[iV y1.Time,iV 0,iV 360000]) ⟨(S.tm rfl),rfl,rfl,trivial⟩ call30) (Mg _ y1.Time 0 360000 _ rfl) rfl ?_)));clear S;intro v3 a w8 hv3 hk6 hn3 S
     subst hv3
     refine Vu S Li rfl rfl fun a S=>Dl (Fc h (S.tm rfl) (fun hb4 h=>?_) (fun hb4 h=>?_))
     ·refine Fr (Vk S rfl rfl fun a S=>Dl (wp_ret (Hj (Dy (Dy (Hj (Dy ?_)))))))
      refine Dy ?_
      obtain rfl:=Option.some.inj h
      exact Fj S results31 rfl rfl
     ·exact wp_skip (Jb (Tn (Fg (Vq S Gb rfl rfl rfl fun a S=>Vm S rfl rfl fun a S=>Dl (⟨ys1,⟨i1 + 1,⟨_,(hd1).trans (List.append_cons _ _ _),by simp [hi1]⟩,h,S.nf [false] rfl ⟨rfl,rfl,(congrArg (fun z=>some (Value.int .i64 z)) (Jn hd1 hi1 (Ky Bj))),trivial⟩⟩,Nat.lt_succ_self _⟩)))))
  clear S h;rintro a w2 ⟨h,S⟩;rw [hj1] at h;clear hj1 j1
  refine Tn (Fr (Vk S rfl rfl fun a S=>Dl (wp_ret ?_)))
  obtain rfl:=Option.some.inj h
  exact Fj S results31 rfl rfl
set_option maxRecDepth 20000 in
theorem Vs (w : World) (Ai : Int) (r : Int) (h : Rx Ai = some r) :
    Calls prog 67 [.int .u32 Ai].toArray w (Ret w [] fun _ v _=>v = iV r):=by
 refine Fe func67 rfl ntmps67 rfl fun a S=>?_
 unfold Rx at h
 replace S:=S.k1 0 rfl
 refine Fr (Vk S rfl rfl fun a S=>Dl (Fs (Fr (Vm S rfl rfl fun a S=>Vq S Mh rfl rfl rfl fun a S=>Ld ?_))))
 refine Tn ?_
 obtain ⟨j1,hj1,h⟩:=Fk h
 refine Er (fun a w'=>∃ x1 : Int,∃ x2 : Int,j1 x1 x2 = some r ∧ Sx w [] nov [] [(0,.int .u32 x1),(2,iV x2)] 19 a w') ?_ ?_
 ·refine Fc h (S.tm rfl) (fun hb1 h=>?_) (fun hb1 h=>?_)
  ·refine Fr (Vm S rfl rfl fun a S=>lv S (Mp (S.tm rfl) rfl (by decide)) rfl fun a S=>Va S rfl rfl fun a S=>Dl (Fg (Vk S rfl rfl fun a S=>Dl ?_)))
   exact ⟨Dt .u32 Ai 16,16,h,S.nf [] rfl (subR rfl)⟩
  ·exact wp_skip (Tn (⟨Ai,0,h,S.nf [] rfl (subR rfl)⟩))
 clear S h;rintro a w1 ⟨x1,x2,h,S⟩;rw [hj1] at h;clear hj1 j1
 refine Tn (Fs (Fr (Vm S rfl rfl fun a S=>Vq S Mh rfl rfl rfl fun a S=>Dl ?_)))
 obtain ⟨j2,hj2,h⟩:=Fk h
 refine Er (fun a w'=>∃ x3 : Int,∃ x4 : Int,j2 x3 x4 = some r ∧ Sx w [] nov [] [(0,.int .u32 x3),(2,iV x4)] 19 a w') ?_ ?_
 ·refine Fc h (S.tm rfl) (fun hb2 h=>?_) (fun hb2 h=>?_)
  ·refine Fr (Vm S rfl rfl fun a S=>lv S (Mp (S.tm rfl) rfl (by decide)) rfl fun a S=>Va S rfl rfl fun a S=>Dl (Fg (Vm S rfl rfl fun a S=>Vq S Gb rfl rfl rfl fun a S=>Va S rfl rfl ?_)));clear S;intro a S
   exact Dl (⟨Dt .u32 x1 8,W (x2 + 8),h,S.nf [] rfl (subR rfl)⟩)
  ·exact wp_skip (Tn (⟨x1,x2,h,S.nf [] rfl (subR rfl)⟩))
 clear S h;rintro a w2 ⟨x3,x4,h,S⟩;rw [hj2] at h;clear hj2 j2
 refine Tn (Fr (Vm S rfl rfl fun a S=>Vm S rfl rfl fun a S=>Vu S (Jr underlying107 underlying5) rfl rfl ?_));clear S;intro a S
 obtain ⟨hc1,h⟩:=Hx h
 refine lv S (Of underlying9 rfl (S.tm rfl) hc1) rfl fun a S=>Vu S (Jr underlying5 underlying3) rfl rfl fun a S=>Vb S Gb rfl rfl rfl fun a S=>Va S rfl rfl fun a S=>Dl (wp_ret ?_)
 obtain rfl:=Option.some.inj h
 exact Fj S results67 rfl rfl
theorem Qo (w : World) (Ai : Int) (r : Int) (h : Ph Ai = some r) :
    Calls prog 49 [.int .u64 Ai].toArray w (Ret w [] fun _ v _=>v = iV r):=by
 refine Fe func49 rfl ntmps49 rfl fun a S=>?_
 unfold Ph at h
 replace S:=S.k1 0 rfl
 refine Fr (Vk S rfl rfl fun a S=>Dl (Fs (Fc h rfl (fun hb1 h=>?_) (fun hb1 h=>?_))))
 ·refine Fr (Vm S rfl rfl fun a S=>Vu S (Jr underlying87 underlying107) rfl rfl ?_);clear S;intro a S
  obtain ⟨r1,hr1,h⟩:=Eu h
  refine Ea S (fun _=>Dg (vs:=[.int .u32 (IntKind.wrap .u32 Ai)]) ⟨(S.tm rfl),trivial⟩ call67) (Vs _ (IntKind.wrap .u32 Ai) _ hr1) rfl ?_;clear S;intro v1 a w1 hv1 hk1 hn1 S
  subst hv1
  refine Va S rfl rfl fun a S=>Dl (wp_ret (Dy ?_))
  obtain rfl:=Option.some.inj h
  exact Fj S results49 rfl rfl
 ·refine wp_skip (Tn (Fr (Vm S rfl rfl ?_)));clear S;intro a S
  obtain ⟨r2,hr2,h⟩:=Eu h
  refine Ea S (fun _=>Dg (vs:=[.int .u64 Ai]) ⟨(S.tm rfl),trivial⟩ call68) (Rr _ Ai _ hr2) rfl ?_;clear S;intro v2 a w2 hv2 hk2 hn2 S
  subst hv2
  refine Va S rfl rfl fun a S=>Dl (wp_ret ?_)
  obtain rfl:=Option.some.inj h
  exact Fj S results49 rfl rfl
theorem Ry (w : World) (s t : ByteArray) (r : Int) (h : Qe s t = r) : Calls prog 52 [.string s,.string t].toArray w (Ret w [] fun _ v _=>v = .int .i64 r):=by
  subst h
  exact Tq (Any.strings_Compare Tryz.lays106 s t w)
theorem Sq (w : World) (Ar : De) (Ax : De) (r : Int) (h : Jg Ar Ax = r) :
    Calls prog 51 [.agg (De.enc Ar).toArray,.agg (De.enc Ax).toArray].toArray w (Ret w [] fun _ v _=>v = iV r):=by
 refine Fe func51 rfl ntmps51 rfl fun a S=>?_
 unfold Jg at h
 replace S:=S.k2 0 1 rfl
 refine Fr (Uo S (S.tm rfl) (cs:=(De.enc Ar)) rfl rfl ?_);clear S;intro a w1 b1 hz1 hk1 S
 refine Uo S (S.tm rfl) (cs:=(De.enc Ax)) rfl rfl ?_;clear S;intro a w2 b2 hz2 hk2 S
 refine Vk S rfl rfl fun a S=>Dz (Vf Zv S rfl rfl fun a S=>Vl isAgg9 1 S rfl rfl rfl rfl fun a S=>Vf Zv S rfl rfl fun a S=>Vl isAgg9 0 S rfl rfl rfl rfl fun a S=>Ea S (fun _=>Dg (vs:=[sV Ar.Key,sV Ax.Key]) ⟨(S.tm rfl),(S.tm rfl),trivial⟩ call52) (Ry _ Ar.Key Ax.Key _ rfl) rfl ?_);clear S;intro v1 a w3 hv1 hk3 hn1 S
 subst hv1
 refine Va S rfl rfl fun a S=>Dl (wp_ret ?_)
 subst h
 exact Fj S results51 rfl rfl
set_option maxRecDepth 20000 in
theorem Jw (w : World) (Aa : Value) (Af : List De) (Bb : (LEnt.own Aa 56 3 Af.length (Af.flatMap De.enc)).holds w) (Ar : Int) (Ax : Int) (r : (List De)) (h : Eo Af Ar Ax = some r) :
    Calls prog 94 [Aa,iV Ar,iV Ax,.func (.func 51) #[] #[]].toArray w (Ret w (Aa.ownBlock.toList) fun _ v w'=>(LEnt.own Aa 56 3 r.length (r.flatMap De.enc)).holds w' ∧ v = .tuple #[]):=by
 refine Jd (Aa.ownBlock.toList) [.own Aa 56 3 Af.length (Af.flatMap De.enc)] func94 rfl ntmps94 rfl (fun e he=>by simp only [List.mem_singleton] at he;subst he;exact Bb) (Ho _) (Iw _) fun a S=>?_
 unfold Eo at h
 replace S:=(S.nl [.own Aa 56 3 Af.length (Af.flatMap De.enc)] [true] rfl).k4 0 1 2 3 rfl
 refine Fr (Vm S rfl rfl fun a S=>Vq S Gb rfl rfl rfl fun a S=>Va S rfl rfl fun a S=>Dl ?_)
 replace S:=S.k5 0 1 2 3 8 rfl
 obtain ⟨j1,hj1,h⟩:=Fk h
 refine Er (fun a w'=>∃ x1 : List De,j1 x1 = some r ∧ Sx w (Aa.ownBlock.toList) nov [.own Aa 56 3 x1.length (x1.flatMap De.enc)] [] 53 a w') ?_ ?_
 ·refine wp_block (Gz (fun (m1 : Nat) a w'=>∃ x1 : List De,∃ x2 : Int,Dp Ax Ar j1 m1 x1 x2 = some r ∧ Sx w (Aa.ownBlock.toList) nov [.own Aa 56 3 x1.length (x1.flatMap De.enc)] [(0,Aa),(1,iV Ar),(2,iV Ax),(3,.func (.func 51) #[] #[]),(8,iV x2)] 53 a w') id ((Ax - (W (Ar + 1))).toNat + 2) ⟨Af,W (Ar + 1),h,S.nf [true] rfl (subR rfl)⟩ ?_)
  clear S h;rintro m1 a w1 ⟨x1,x2,h,S⟩
  cases m1 with
  | zero=>rw [Dp.eq_1] at h;cases h
  | succ m1 =>
   rw [Dp.eq_2] at h
   refine Fs (Fr (Vm S rfl rfl fun a S=>Vm S rfl rfl fun a S=>Vb S Fi rfl rfl rfl fun a S=>Dl (Fc h (S.tm rfl) (fun hb1 h=>?_) (fun hb1 h=>?_))))
   ·refine wp_skip (Tn (Fs (wp_block (Fr (Vm S rfl rfl fun a S=>Va S rfl rfl fun a S=>Dl ?_)))))
    replace S:=S.k6 0 1 2 3 8 9 rfl
    obtain ⟨j2,hj2,h⟩:=Fk h
    refine Er (fun a w'=>∃ x3 : List De,j2 x3 = some r ∧ Sx w (Aa.ownBlock.toList) nov [.own Aa 56 3 x3.length (x3.flatMap De.enc)] [(0,Aa),(1,iV Ar),(2,iV Ax),(3,.func (.func 51) #[] #[]),(8,iV x2)] 53 a w') ?_ ?_
    ·refine wp_block (Gz (fun (m2 : Nat) a w'=>∃ x3 : List De,∃ x4 : Int,Dj Ar j2 m2 x3 x4 = some r ∧ Sx w (Aa.ownBlock.toList) nov [.own Aa 56 3 x3.length (x3.flatMap De.enc)] [(0,Aa),(1,iV Ar),(2,iV Ax),(3,.func (.func 51) #[] #[]),(8,iV x2),(9,iV x4)] 53 a w') id ((x2 - Ar).toNat + 2) ⟨x1,x2,h,S.nf [true] rfl (subR rfl)⟩ ?_)
     clear S h;rintro m2 a w3 ⟨x3,x4,h,S⟩
     cases m2 with
     | zero=>rw [Dj.eq_1] at h;cases h
     | succ m2 =>
      rw [Dj.eq_2] at h
      refine Fs (Fs ?_)
      obtain ⟨j3,hj3,h⟩:=Fk h
      refine Er (fun a w'=>∃ x5 : Bool,j3 x5 = some r ∧ Sx w (Aa.ownBlock.toList) nov [.own Aa 56 3 x3.length (x3.flatMap De.enc)] [(0,Aa),(1,iV Ar),(2,iV Ax),(3,.func (.func 51) #[] #[]),(8,iV x2),(9,iV x4),(34,bV x5)] 53 a w') ?_ ?_
      ·rcases Bool.eq_false_or_eq_true (decide (Ar < x4)) with hb2 | hb2
       ·replace h:=Sc h hb2
        obtain ⟨hc1,h⟩:=Hx h
        obtain ⟨hc2,h⟩:=Hx h
        refine Hy [] ([]) Tryz.mixed S rfl (by kernel_rfl) ?_;clear S;intro w7 hk2 hsel S
        refine Fh 0 S hsel rfl rfl rfl (by kernel_rfl) (by kernel_rfl) rfl (fun _ hw=>(Rm (S.tm rfl))) fun a S=>Fh 1 S hsel rfl rfl rfl (by kernel_rfl) (by kernel_rfl) rfl (fun _ hw=>(Rm (S.tm rfl))) fun a S=>Fh 2 S hsel rfl rfl rfl (by kernel_rfl) (by kernel_rfl) rfl (fun _ hw=>(Ki (S.tm rfl) (S.tm rfl))) fun a S=>Fh 3 S hsel rfl rfl rfl (by kernel_rfl) (by kernel_rfl) rfl (fun _ hw=>(Rm (S.tm rfl))) fun a S=>Fo 4 S hsel rfl rfl rfl rfl hb2 rfl rfl (by kernel_rfl) (by kernel_rfl) rfl (fun _ hw=>(Rm (S.tm rfl))) fun a S=>Fo 5 S hsel rfl rfl rfl rfl hb2 rfl rfl (by kernel_rfl) (by kernel_rfl) rfl (fun _ hw=>(Rm (S.tm rfl))) fun a S=>Fo 6 S hsel rfl rfl rfl rfl hb2 rfl rfl (by kernel_rfl) (by kernel_rfl) rfl (fun _ hw=>(Rm (S.tm rfl))) ?_;clear S;intro a S
        obtain ⟨b3,hg3,hr3⟩:=Gg (a:=a) (x:=.tmp 23) (y:=.tmp 24) (ty:=0) Ou De.enc_ok S (i:=0) rfl (Dv hc1).1 (Dv hc1).2 (S.tm rfl) (S.tm rfl)
        refine Fo 7 S hsel rfl rfl rfl rfl hb2 rfl rfl (by kernel_rfl) (by kernel_rfl) rfl (fun _ hw=>(hr3 _)) ?_;clear S;intro a S
        clear hr3
        refine Fo 8 S hsel rfl rfl rfl rfl hb2 rfl rfl (by kernel_rfl) (by kernel_rfl) rfl (fun _ hw=>(Kk isAgg56 sizeOf56 (off:=x4.toNat * 3) (o:=0) (part:=(De.enc (De.mk ((nth x3 x4).Key) ((nth x3 x4).Points)))) rfl rfl (S.tm rfl) ((Ll De.enc_ok S (i:=0) rfl hg3 (Dv hc1).1 (Ir (e':=.own Aa 56 3 x3.length (x3.flatMap De.enc)))).kept hw))) fun a S=>Fo 9 S hsel rfl rfl rfl rfl hb2 rfl rfl (by kernel_rfl) (by kernel_rfl) rfl (fun _ hw=>(Rm (S.tm rfl))) fun a S=>Fo 10 S hsel rfl rfl rfl rfl hb2 rfl rfl (by kernel_rfl) (by kernel_rfl) rfl (fun _ hw=>(Rm (S.tm rfl))) fun a S=>Fo 11 S hsel rfl rfl rfl rfl hb2 rfl rfl (by kernel_rfl) (by kernel_rfl) rfl (fun _ hw=>(Iq (S.tm rfl) rfl)) ?_;clear S;intro a S
        obtain ⟨b4,hg4,hr4⟩:=Gg (a:=a) (x:=.tmp 27) (y:=.tmp 29) (ty:=0) Ou De.enc_ok S (i:=0) rfl (Dv hc2).1 (Dv hc2).2 (S.tm rfl) (S.tm rfl)
        refine Fo 12 S hsel rfl rfl rfl rfl hb2 rfl rfl (by kernel_rfl) (by kernel_rfl) rfl (fun _ hw=>(hr4 _)) ?_;clear S;intro a S
        clear hr4
        refine Fo 13 S hsel rfl rfl rfl rfl hb2 rfl rfl (by kernel_rfl) (by kernel_rfl) rfl (fun _ hw=>(Kk isAgg56 sizeOf56 (off:=((W (x4 - 1)).toNat) * 3) (o:=0) (part:=(De.enc (De.mk ((nth x3 (W (x4 - 1))).Key) ((nth x3 (W (x4 - 1))).Points)))) rfl rfl (S.tm rfl) ((Ll De.enc_ok S (i:=0) rfl hg4 (Dv hc2).1 (Ir (e':=.own Aa 56 3 x3.length (x3.flatMap De.enc)))).kept hw))) fun a S=>Hu 14 (by kernel_rfl) rfl (Dx S rfl rfl rfl hb2 (Ea S (fun _=>Qx (cap:=[]) (S.tm rfl) (vs:=[.agg (De.enc (De.mk ((nth x3 x4).Key) ((nth x3 x4).Points))).toArray,.agg (De.enc (De.mk ((nth x3 (W (x4 - 1))).Key) ((nth x3 (W (x4 - 1))).Points))).toArray]) ⟨(S.tm rfl),(S.tm rfl),trivial⟩ call51) (Sq _ (De.mk ((nth x3 x4).Key) ((nth x3 x4).Points)) (De.mk ((nth x3 (W (x4 - 1))).Key) ((nth x3 (W (x4 - 1))).Points)) _ rfl) rfl ?_));clear S;intro v2 a w8 hv2 hk3 hn2 S
        subst hv2
        refine Ld (Ij hk3 (Nb [15,16] hsel (by kernel_rfl) rfl ?_))
        clear hsel
        refine Og S rfl rfl rfl rfl hb2 (Qd S (Fi (S.tm rfl) rfl) rfl fun a S=>Gs S rfl (Td hb2 (S.tm rfl) (S.tm rfl)) rfl fun a S=>Mi ?_)
        replace S:=S.nk [.own Aa 56 3 x3.length (x3.flatMap De.enc)] [(0,Aa),(1,iV Ar),(2,iV Ax),(3,.func (.func 51) #[] #[]),(8,iV x2),(9,iV x4),(22,.func (.func 51) #[] #[]),(23,Aa),(24,iV x4),(25,.pointer (some ⟨b3,x4.toNat * 3,none⟩)),(26,.agg (De.enc (De.mk ((nth x3 x4).Key) ((nth x3 x4).Points))).toArray),(27,Aa),(28,iV x4),(29,iV (W (x4 - 1))),(30,.pointer (some ⟨b4,((W (x4 - 1)).toNat) * 3,none⟩)),(31,.agg (De.enc (De.mk ((nth x3 (W (x4 - 1))).Key) ((nth x3 (W (x4 - 1))).Points))).toArray),(32,iV (Jg (De.mk ((nth x3 x4).Key) ((nth x3 x4).Points)) (De.mk ((nth x3 (W (x4 - 1))).Key) ((nth x3 (W (x4 - 1))).Points)))),(33,bV (decide ((Jg (De.mk ((nth x3 x4).Key) ((nth x3 x4).Points)) (De.mk ((nth x3 (W (x4 - 1))).Key) ((nth x3 (W (x4 - 1))).Points))) < 0))),(34,bV (decide ((Jg (De.mk ((nth x3 x4).Key) ((nth x3 x4).Points)) (De.mk ((nth x3 (W (x4 - 1))).Key) ((nth x3 (W (x4 - 1))).Points))) < 0)))] [true] rfl (subR rfl)
        exact Tn (⟨decide ((Jg (De.mk ((nth x3 x4).Key) ((nth x3 x4).Points)) (De.mk ((nth x3 (W (x4 - 1))).Key) ((nth x3 (W (x4 - 1))).Points))) < 0),h,S.nf [true] rfl (subR rfl)⟩)
       ·replace h:=Sd h hb2
        refine Hy [] ([]) Tryz.mixed S rfl (by kernel_rfl) ?_;clear S;intro w9 hk4 hsel S
        refine Nb [0,1,2,3,4,5,6,7,8,9,10,11,12,13,14,15,16] hsel (by kernel_rfl) rfl ?_
        clear hsel
        refine Gs S rfl (Rm (S.tm rfl)) rfl fun a S=>Gs S rfl (Rm (S.tm rfl)) rfl fun a S=>Gs S rfl (Ki (S.tm rfl) (S.tm rfl)) rfl fun a S=>Gs S rfl (Rm (S.tm rfl)) rfl ?_;clear S;intro a S
        iterate 12 (refine Xg S rfl rfl rfl rfl (Kl hb2) rfl ?_ rfl;clear S;intro a S)
        refine Gs S rfl (Te hb2 (S.tm rfl) rfl) rfl fun a S=>Mi ?_
        replace S:=S.k7 0 1 2 3 8 9 34 rfl
        exact Tn (⟨false,h,S.nf [true] rfl (subR rfl)⟩)
      clear S h;rintro a w5 ⟨x5,h,S⟩;rw [hj3] at h;clear hj3 j3
      refine Tn (Fc h (S.tm rfl) (fun hb3 h=>?_) (fun hb3 h=>?_))
      ·refine wp_skip (Tn (Fs (wp_block ?_)))
       obtain ⟨hc3,h⟩:=Hx h
       obtain ⟨hc4,h⟩:=Hx h
       obtain ⟨hc5,h⟩:=Hx h
       obtain ⟨hc6,h⟩:=Hx h
       refine Hy [15,17] ([]) Tryz.mixed S rfl (by kernel_rfl) ?_;clear S;intro w14 hk9 hsel S
       refine Ej 0 S hsel rfl rfl (by kernel_rfl) (by kernel_rfl) rfl (fun _=>(Rm (S.tm rfl))) fun a S=>Ej 1 S hsel rfl rfl (by kernel_rfl) (by kernel_rfl) rfl (fun _=>(Rm (S.tm rfl))) fun a S=>Ej 2 S hsel rfl rfl (by kernel_rfl) (by kernel_rfl) rfl (fun _=>(Rm (S.tm rfl))) fun a S=>Ej 3 S hsel rfl rfl (by kernel_rfl) (by kernel_rfl) rfl (fun _=>(Rm (S.tm rfl))) fun a S=>Ej 4 S hsel rfl rfl (by kernel_rfl) (by kernel_rfl) rfl (fun _=>(Iq (S.tm rfl) rfl)) fun a S=>Ej 5 S hsel rfl rfl (by kernel_rfl) (by kernel_rfl) rfl (fun _=>(Rm (S.tm rfl))) fun a S=>Ej 6 S hsel rfl rfl (by kernel_rfl) (by kernel_rfl) rfl (fun _=>(Rm (S.tm rfl))) fun a S=>Ej 7 S hsel rfl rfl (by kernel_rfl) (by kernel_rfl) rfl (fun _=>(Iq (S.tm rfl) rfl)) ?_;clear S;intro a S
       obtain ⟨b9,hg9,hr9⟩:=Gg (a:=a) (x:=.tmp 42) (y:=.tmp 44) (ty:=0) Ou De.enc_ok S (i:=0) rfl (Dv hc3).1 (Dv hc3).2 (S.tm rfl) (S.tm rfl)
       refine Ej 8 S hsel rfl rfl (by kernel_rfl) (by kernel_rfl) rfl (fun _=>(hr9 _)) ?_;clear S;intro a S
       clear hr9
       refine Fh 9 S hsel rfl (by kernel_rfl) (by kernel_rfl) (by kernel_rfl) (by kernel_rfl) rfl (fun _ hw=>(Kk isAgg56 sizeOf56 (off:=((W (x4 - 1)).toNat) * 3) (o:=0) (part:=(De.enc (De.mk ((nth x3 (W (x4 - 1))).Key) ((nth x3 (W (x4 - 1))).Points)))) rfl rfl (S.tm rfl) ((Ll De.enc_ok S (i:=0) rfl hg9 (Dv hc3).1 (Ir (e':=.own Aa 56 3 x3.length (x3.flatMap De.enc)))).kept hw))) fun a S=>Ej 10 S hsel rfl rfl (by kernel_rfl) (by kernel_rfl) rfl (fun _=>(Rm (S.tm rfl))) fun a S=>Ej 11 S hsel rfl rfl (by kernel_rfl) (by kernel_rfl) rfl (fun _=>(Rm (S.tm rfl))) ?_;clear S;intro a S
       obtain ⟨b10,hg10,hr10⟩:=Gg (a:=a) (x:=.tmp 47) (y:=.tmp 48) (ty:=0) Ou De.enc_ok S (i:=0) rfl (Dv hc4).1 (Dv hc4).2 (S.tm rfl) (S.tm rfl)
       refine Ej 12 S hsel rfl rfl (by kernel_rfl) (by kernel_rfl) rfl (fun _=>(hr10 _)) ?_;clear S;intro a S
       clear hr10
       refine Fh 13 S hsel rfl (by kernel_rfl) (by kernel_rfl) (by kernel_rfl) (by kernel_rfl) rfl (fun _ hw=>(Kk isAgg56 sizeOf56 (off:=x4.toNat * 3) (o:=0) (part:=(De.enc (De.mk ((nth x3 x4).Key) ((nth x3 x4).Points)))) rfl rfl (S.tm rfl) ((Ll De.enc_ok S (i:=0) rfl hg10 (Dv hc4).1 (Ir (e':=.own Aa 56 3 x3.length (x3.flatMap De.enc)))).kept hw))) ?_;clear S;intro a S
       obtain ⟨b11,hg11,hr11⟩:=Gg (a:=a) (x:=.tmp 37) (y:=.tmp 38) (ty:=0) Ou De.enc_ok S (i:=0) rfl (Dv hc5).1 (Dv hc5).2 (S.tm rfl) (S.tm rfl)
       refine Ej 14 S hsel rfl rfl (by kernel_rfl) (by kernel_rfl) rfl (fun _=>(hr11 _)) ?_;clear S;intro a S
       clear hr11
       refine Ni 15 (Aa.ownBlock.toList) rfl (by kernel_rfl) rfl (Mq (c:=0) (j:=x4.toNat) (De.mk ((nth x3 (W (x4 - 1))).Key) ((nth x3 (W (x4 - 1))).Points)) De.enc_ok S (S.tm rfl) (S.tm rfl) (i:=0) rfl hg11 (Dv hc5).1 sizeOf56 (vs:=[sV ((nth x3 (W (x4 - 1))).Key),iV (((nth x3 (W (x4 - 1))).Points).Num),iV (((nth x3 (W (x4 - 1))).Points).Den)]) rfl rfl rfl rfl rfl ?_);clear S;intro w16 hk11 S
       refine Ld (Nj ?_)
       obtain ⟨b12,hg12,hr12⟩:=Gg (a:=a) (x:=.tmp 39) (y:=.tmp 41) (ty:=0) Ou De.enc_ok S (i:=0) rfl (Dv hc6).1 (Dv hc6).2 (S.tm rfl) (S.tm rfl)
       refine Fh 16 S hsel rfl rfl rfl (by kernel_rfl) (by kernel_rfl) rfl (fun _ hw=>(hr12 _)) ?_;clear S;intro a S
       clear hr12
       refine Hu 17 (by kernel_rfl) rfl (Mq (c:=0) (j:=(W (x4 - 1)).toNat) (De.mk ((nth x3 x4).Key) ((nth x3 x4).Points)) De.enc_ok S (S.tm rfl) (S.tm rfl) (i:=0) rfl hg12 (Dv hc6).1 sizeOf56 (vs:=[sV ((nth x3 x4).Key),iV (((nth x3 x4).Points).Num),iV (((nth x3 x4).Points).Den)]) rfl rfl rfl rfl rfl ?_);clear S;intro w18 hk13 S
       refine Ld (Ij hk13 (Rp (by kernel_rfl) ?_))
       clear hsel
       replace S:=(S.nl [.own Aa 56 3 ((x3.set x4.toNat (De.mk ((nth x3 (W (x4 - 1))).Key) ((nth x3 (W (x4 - 1))).Points))).set ((W (x4 - 1)).toNat) (De.mk ((nth x3 x4).Key) ((nth x3 x4).Points))).length (((x3.set x4.toNat (De.mk ((nth x3 (W (x4 - 1))).Key) ((nth x3 (W (x4 - 1))).Points))).set ((W (x4 - 1)).toNat) (De.mk ((nth x3 x4).Key) ((nth x3 x4).Points))).flatMap De.enc)] [true] rfl).k6 0 1 2 3 8 9 rfl
       exact Jb (Tn (Fg (Vm S rfl rfl fun a S=>Vq S Iq rfl rfl rfl fun a S=>Va S rfl rfl fun a S=>Dl (⟨m2,⟨((x3.set x4.toNat (De.mk ((nth x3 (W (x4 - 1))).Key) ((nth x3 (W (x4 - 1))).Points))).set ((W (x4 - 1)).toNat) (De.mk ((nth x3 x4).Key) ((nth x3 x4).Points))),W (x4 - 1),h,S.nf [true] rfl ⟨rfl,rfl,rfl,rfl,rfl,rfl,trivial⟩⟩,Nat.lt_succ_self _⟩))))
      ·exact wp_exit (Ek (Ek (Ha (Tn (⟨x3,h,S.nf [true] rfl (subR rfl)⟩)))))
    clear S h;rintro a w4 ⟨x3,h,S⟩;rw [hj2] at h;clear hj2 j2
    exact Jb (Tn (Fg (Vm S rfl rfl fun a S=>Vq S Gb rfl rfl rfl fun a S=>Va S rfl rfl fun a S=>Dl (⟨m1,⟨x3,W (x2 + 1),h,S.nf [true] rfl ⟨rfl,rfl,rfl,rfl,rfl,trivial⟩⟩,Nat.lt_succ_self _⟩))))
   ·exact wp_exit (Ek (Ek (Ha (Tn (⟨x1,h,S.nf [true] rfl trivial⟩)))))
 clear S h;rintro a w2 ⟨x1,h,S⟩;rw [hj1] at h;clear hj1 j1
 obtain rfl:=Option.some.inj h
 exact Ox S results94 ⟨(S.holds _ (List.mem_of_getElem? (i:=0) rfl)),rfl⟩
theorem Km (w : World) (Aa : Value) (Af : List De) (Bb : (LEnt.own Aa 56 3 Af.length (Af.flatMap De.enc)).holds w) (Ar : Int) (Ax : Int) (Bc : Int) (r : (List De)) (h : Fx Af Ar Ax Bc = some r) :
    Calls prog 69 [Aa,iV Ar,iV Ax,iV Bc,.func (.func 51) #[] #[]].toArray w (Ret w (Aa.ownBlock.toList) fun _ v w'=>(LEnt.own Aa 56 3 r.length (r.flatMap De.enc)).holds w' ∧ v = .tuple #[]):=by
 refine Jd (Aa.ownBlock.toList) [.own Aa 56 3 Af.length (Af.flatMap De.enc)] func69 rfl ntmps69 rfl (fun e he=>by simp only [List.mem_singleton] at he;subst he;exact Bb) (Ho _) (Iw _) fun a S=>?_
 unfold Fx at h
 replace S:=(S.nl [.own Aa 56 3 Af.length (Af.flatMap De.enc)] [true] rfl).k5 0 1 2 3 4 rfl
 refine Fr (Vk S rfl rfl fun a S=>Dz (Vk S rfl rfl fun a S=>Dl ?_))
 replace S:=S.k6 0 1 2 3 4 10 rfl
 refine Er (fun a w'=>False) ?_ ?_
 ·refine wp_block (Gz (fun (m1 : Nat) a w'=>∃ x1 : Int,∃ x2 : Int,∃ x3 : Int,∃ x4 : Bool,Ed Af m1 x1 x2 x3 x4 = some r ∧ Sx w (Aa.ownBlock.toList) nov [.own Aa 56 3 Af.length (Af.flatMap De.enc)] [(0,Aa),(1,iV x1),(2,iV x2),(3,iV x3),(4,.func (.func 51) #[] #[]),(10,bV x4)] 148 a w') id 4611686018427387904 ⟨Ar,Ax,Bc,true,h,S.nf [true] rfl (subR rfl)⟩ ?_)
  clear S h;rintro m1 a w1 ⟨x1,x2,x3,x4,h,S⟩
  cases m1 with
  | zero=>rw [Ed.eq_1] at h;cases h
  | succ m1 =>
   rw [Ed.eq_2] at h
   refine wp_block (Fr (Vm S rfl rfl fun a S=>Vm S rfl rfl fun a S=>Vb S Iq rfl rfl rfl fun a S=>Va S rfl rfl fun a S=>Dl (Fs (Fs ?_))))
   refine Fg (Vm S rfl rfl fun a S=>Vq S Ow rfl rfl rfl fun a S=>Dl (Fc h (S.tm rfl) (fun hb1 h=>?_) (fun hb1 h=>?_)))
   ·refine Fs (Fg ?_)
    iterate 4 (refine Vm S rfl rfl ?_;clear S;intro a S)
    obtain ⟨r1,hr1,h⟩:=Eu h
    refine Kt 0 S rfl (fun _=>.own Aa 56 3 r1.length (r1.flatMap De.enc)) (fun _=>Dg (vs:=[Aa,iV x1,iV x2,.func (.func 51) #[] #[]]) ⟨(S.tm rfl),(S.tm rfl),(S.tm rfl),(S.tm rfl),trivial⟩ call94) (Jw _ Aa Af (S.holds _ (List.mem_of_getElem? (i:=0) rfl)) x1 x2 _ hr1) rfl (fun _ _ _ h=>⟨h.1,fun _ hc=>hc⟩) ?_;clear S;intro v1 a w3 hv1 hk1 hn1 S
    replace hv1:=hv1.2
    subst hv1
    refine Ld ?_
    replace S:=(S.nl [.own Aa 56 3 r1.length (r1.flatMap De.enc)] [true] rfl).k0
    refine Tn (wp_ret (Dy (Hj (Dy (Hj (Dy ?_))))))
    obtain rfl:=Option.some.inj h
    exact Ox S results69 ⟨(S.holds _ (List.mem_of_getElem? (i:=0) rfl)),rfl⟩
   ·refine wp_skip (Tn (Fs (Fr (Vm S rfl rfl fun a S=>Vq S Kh rfl rfl rfl fun a S=>Dl (Fc h (S.tm rfl) (fun hb2 h=>?_) (fun hb2 h=>?_))))))
    ·refine Fs ?_
     cases h
    ·refine wp_skip (Tn (Fs (Fr (Vm S rfl rfl fun a S=>Vu S Li rfl rfl fun a S=>Ld ?_))))
     replace S:=S.k1 39 rfl
     refine Tn (Fc h (S.tm rfl) (fun hb3 h=>?_) (fun hb3 h=>?_))
     ·refine Fs ?_
      cases h
     ·refine wp_skip (Tn (Fs ?_))
      cases h
 exact fun _ _ h=>h.elim
theorem Ln (w : World) (Aq : Value) (Ai : List De) (Bn : (LEnt.own Aq 56 3 Ai.length (Ai.flatMap De.enc)).holds w) (r : (List De)) (h : Fw Ai = some r) :
    Calls prog 50 [Aq,.func (.func 51) #[] #[]].toArray w (Ret w (Aq.ownBlock.toList) fun _ v w'=>(LEnt.own Aq 56 3 r.length (r.flatMap De.enc)).holds w' ∧ v = .tuple #[]):=by
 refine Jd (Aq.ownBlock.toList) [.own Aq 56 3 Ai.length (Ai.flatMap De.enc)] func50 rfl ntmps50 rfl (fun e he=>by simp only [List.mem_singleton] at he;subst he;exact Bn) (Ho _) (Iw _) fun a S=>?_
 unfold Fw at h
 replace S:=(S.nl [.own Aq 56 3 Ai.length (Ai.flatMap De.enc)] [true] rfl).k2 0 1 rfl
 refine Fr (Vm S rfl rfl fun a S=>lv S (Gh Ou (S.tm rfl) (Ob (S.own_at (i:=0) rfl))) rfl fun a S=>Va S rfl rfl fun a S=>Dl (Fg ?_))
 iterate 3 (refine Vm S rfl rfl ?_;clear S;intro a S)
 refine Vu S (Jr underlying3 underlying87) rfl rfl ?_;clear S;intro a S
 obtain ⟨r1,hr1,h⟩:=Eu h
 refine Ea S (fun _=>Dg (vs:=[.int .u64 (IntKind.wrap .u64 (Ai.length : Int))]) ⟨(S.tm rfl),trivial⟩ call49) (Qo _ (IntKind.wrap .u64 (Ai.length : Int)) _ hr1) rfl ?_;clear S;intro v1 a w1 hv1 hk1 hn1 S
 subst hv1
 refine Vm S rfl rfl ?_;clear S;intro a S
 obtain ⟨r2,hr2,h⟩:=Eu h
 refine Kt 0 S rfl (fun _=>.own Aq 56 3 r2.length (r2.flatMap De.enc)) (fun _=>Dg (vs:=[Aq,iV 0,iV (Ai.length : Int),iV r1,.func (.func 51) #[] #[]]) ⟨(S.tm rfl),rfl,(S.tm rfl),(S.tm rfl),(S.tm rfl),trivial⟩ call69) (Km _ Aq Ai (S.holds _ (List.mem_of_getElem? (i:=0) rfl)) 0 (Ai.length : Int) r1 _ hr2) rfl (fun _ _ _ h=>⟨h.1,fun _ hc=>hc⟩) ?_;clear S;intro v2 a w2 hv2 hk2 hn2 S
 replace hv2:=hv2.2
 subst hv2
 refine Ld ?_
 obtain rfl:=Option.some.inj h
 exact Ox S results50 ⟨(S.holds _ (List.mem_of_getElem? (i:=0) rfl)),rfl⟩
theorem Uv (w : World) (Cg : Nat) (Bm : List (ByteArray × Di)) (Cm : (view w []) Cg = some (.map (En Value.string (fun x=>Value.agg (Di.enc x).toArray) Bm) Bm.length)) (r : (List De)) (h : Lt Bm = some r) :
    Calls prog 34 [.map (some Cg)].toArray w (Ret w [] fun τ v _=>Pc τ 56 3 v r.length (r.flatMap De.enc)):=by
 refine Fe func34 rfl ntmps34 rfl fun a S=>?_
 unfold Lt at h
 replace S:=S.k1 0 rfl
 refine Fr (Vk S rfl rfl fun a S=>Dz (Vk S rfl rfl ?_));clear S;intro a S
 replace S:=S.nil 56 3
 refine Dl (Fs (Fr (Vm S rfl rfl fun a S=>Ug (es:=En Value.string (fun x=>Value.agg (Di.enc x).toArray) Bm) (clk:=Bm.length) S (S.emb0 _ _ Cm) underlying71 (S.tm rfl) rfl ?_)));clear S;intro a w1 b1 hz1 hk1 S
 refine Dl ?_
 replace S:=(S.nl [.iter b1 Cg Bm.length #[] Bm.length,.own (.slice none 0 0) 56 3 ([] : List De).length (([] : List De).flatMap De.enc)] [true,true] rfl).k2 3 7 rfl
 obtain ⟨j1,hj1,h⟩:=Fk h
 replace h:=allE h
 refine Er (fun a w'=>∃ x1 : List De,∃ v1 : Value,j1 x1 = some r ∧ Sx w [] nov [.own v1 56 3 x1.length (x1.flatMap De.enc)] [(3,v1)] 22 a w') ?_ ?_
 ·refine wp_block (Gz (fun (q : List (ByteArray × Di)) a w'=>∃ x1 : List De,∃ v1 : Value,∃ sn1 : Array Nat,Nx Bm sn1 = q ∧ (∀ p,p.Perm q → Ic j1 p x1 = some r) ∧ Sx w [] nov [.iter b1 Cg Bm.length sn1 Bm.length,.own v1 56 3 x1.length (x1.flatMap De.enc)] [(3,v1),(7,.pointer (some ⟨b1,0,none⟩))] 22 a w') List.length Bm ⟨([] : List De),(.slice none 0 0),#[],(Uf _),h,S.nf [true,true] rfl (subR rfl)⟩ ?_)
  clear S h;rintro q a w2 ⟨x1,v1,sn1,hq,h,S⟩
  refine Fr (Xf (kv:=Value.string) (vv:=(fun x=>Value.agg (Di.enc x).toArray)) (m:=Bm) S (i:=0) rfl (S.emb0 _ _ Cm) (S.tm rfl) rfl ?_ ?_)
  ·intro hn1;clear S;intro a S
   replace h:=Se h (hq.symm.trans hn1)
   rw [Ic.eq_1] at h
   refine Vq S Es rfl rfl rfl fun a S=>Ld ?_
   replace S:=S.k3 3 7 9 rfl
   exact Tn (Fs (wp_cond_false (S.tm rfl) (wp_exit (Ek (Ek (Ha (Tn (⟨x1,v1,h,S.nf [false,true] rfl ⟨rfl,trivial⟩⟩))))))))
  ·clear S;intro y1 sn2 a w4 hp1 hl1 hk2 S
   obtain ⟨sq1,h,hn2⟩:=Qv h (by rw [← hq];exact hp1) (fun _=>rfl)
   refine Vq S Es rfl rfl rfl fun a S=>Ld ?_
   replace S:=(S.nl [.iter b1 Cg Bm.length sn2 Bm.length,.own v1 56 3 x1.length (x1.flatMap De.enc)] [true,true] rfl).k3 3 7 9 rfl
   refine Tn (Fs (wp_cond_true (S.tm rfl) (wp_skip (Tn (wp_block (Fr (lv S (Sk (kv:=Value.string) (vv:=(fun x=>Value.agg (Di.enc x).toArray)) (m:=Bm) (e:=y1) (S.holds _ (List.mem_of_getElem? (i:=0) rfl)) (S.emb0 _ _ Cm) hl1 (S.tm rfl)) rfl fun a S=>Vq S Es rfl rfl rfl fun a S=>Vq S Es rfl rfl rfl ?_)))))));clear S;intro a S
   refine Ko S zeroValue54 (cs:=[iV 0,iV 0]) rfl rfl ?_;clear S;intro a w5 b2 hz2 hk3 S
   refine Va S rfl rfl fun a S=>Hk S (S.tm rfl) (S.tm rfl) (i:=0) (off:=0) rfl sizeOf54 (vs:=(Di.enc y1.2)) rfl rfl rfl rfl ?_;clear S;intro w6 hk4 S
   refine Dl (Fg (Vm S rfl rfl fun a S=>Vm S rfl rfl fun a S=>lv S (Kk isAgg54 sizeOf54 (off:=0) (o:=0) (part:=(Di.enc y1.2)) rfl rfl (S.tm rfl) (S.cellsAt (i:=0) rfl)) rfl fun a S=>lv S (Pv bt_56 (pv:=[(0,sV y1.1),(1,.agg #[iV y1.2.Num,iV y1.2.Den])]) ⟨rfl,(S.tm rfl),rfl,(S.tm rfl),trivial⟩ (cs:=[sV y1.1,iV y1.2.Num,iV y1.2.Den]) (by kernel_rfl)) rfl fun a S=>El S underlying37 sizeOf56 zeroValue56 rfl rfl (pv:=[(0,.agg #[sV y1.1,iV y1.2.Num,iV y1.2.Den])]) ⟨rfl,(S.tm rfl),trivial⟩ (cs:=[sV y1.1,iV y1.2.Num,iV y1.2.Den]) (by kernel_rfl) rfl ?_));clear S;intro a w7 b3 hz3 hk5 S
   obtain ⟨hc1,h⟩:=Hx h
   refine Na Ou De.enc_ok S (S.tm rfl) (i:=3) rfl (S.tm rfl) (j:=0) rfl (ys:=[(De.mk y1.1 y1.2)]) rfl rfl rfl rfl (by have:=Pq hc1;omega) rfl ?_;clear S;intro v2 a w8 hk6 S
   refine Va S rfl rfl fun a S=>Ld (Jb (Tn ?_))
   obtain rfl:=Option.some.inj h
   exact ⟨Nx Bm sn2,⟨(x1 ++ [(De.mk y1.1 y1.2)]),v2,sn2,rfl,hn2,S.nf [false,false,true,true] rfl (subR rfl)⟩,by have:=hp1.length_eq;rw [hq] at this;simp only [List.length_cons] at this;omega⟩
 clear S h;rintro a w3 ⟨x1,v1,h,S⟩;rw [hj1] at h;clear hj1 j1
 refine Tn (Fr (Vm S rfl rfl ?_));clear S;intro a S
 obtain ⟨r1,hr1,h⟩:=Eu h
 refine Kt 0 S rfl (fun _=>.own v1 56 3 r1.length (r1.flatMap De.enc)) (fun _=>Dg (vs:=[v1,.func (.func 51) #[] #[]]) ⟨(S.tm rfl),rfl,trivial⟩ call50) (Ln _ v1 x1 (S.holds _ (List.mem_of_getElem? (i:=0) rfl)) _ hr1) rfl (fun _ _ _ h=>⟨h.1,fun _ hc=>hc⟩) ?_;clear S;intro v3 a w9 hv1 hk7 hn3 S
 replace hv1:=hv1.2
 subst hv1
 refine Dz (Vm S rfl rfl fun a S=>Va S rfl rfl fun a S=>Dl (wp_ret ?_))
 obtain rfl:=Option.some.inj h
 exact Fj S results34 rfl (Xv S (i:=0) rfl rfl)
theorem Rk (w : World) (Ar : Int) (Ax : Int) (r : Int) (h : Hv Ar Ax = r) :
    Calls prog 33 [iV Ar,iV Ax].toArray w (Ret w [] fun _ v _=>v = iV r):=by
 refine Fe func33 rfl ntmps33 rfl fun a S=>?_
 unfold Hv at h
 replace S:=S.k2 0 1 rfl
 refine Fr (Vk S rfl rfl fun a S=>Dz (Vm S rfl rfl fun a S=>Vm S rfl rfl fun a S=>Vb S Iq rfl rfl rfl fun a S=>Va S rfl rfl ?_));clear S;intro a S
 refine Dl (wp_ret ?_)
 subst h
 exact Fj S results33 rfl rfl
set_option maxRecDepth 20000 in
theorem Jx (w : World) (Aa : Value) (Af : List Int) (Bb : (LEnt.own Aa 3 1 Af.length (Af.flatMap eInt)).holds w) (Ar : Int) (Ax : Int) (r : (List Int)) (h : Ep Af Ar Ax = some r) :
    Calls prog 59 [Aa,iV Ar,iV Ax,.func (.func 33) #[] #[]].toArray w (Ret w (Aa.ownBlock.toList) fun _ v w'=>(LEnt.own Aa 3 1 r.length (r.flatMap eInt)).holds w' ∧ v = .tuple #[]):=by
 refine Jd (Aa.ownBlock.toList) [.own Aa 3 1 Af.length (Af.flatMap eInt)] func59 rfl ntmps59 rfl (fun e he=>by simp only [List.mem_singleton] at he;subst he;exact Bb) (Ho _) (Iw _) fun a S=>?_
 unfold Ep at h
 replace S:=(S.nl [.own Aa 3 1 Af.length (Af.flatMap eInt)] [true] rfl).k4 0 1 2 3 rfl
 refine Fr (Vm S rfl rfl fun a S=>Vq S Gb rfl rfl rfl fun a S=>Va S rfl rfl fun a S=>Dl ?_)
 replace S:=S.k5 0 1 2 3 8 rfl
 obtain ⟨j1,hj1,h⟩:=Fk h
 refine Er (fun a w'=>∃ x1 : List Int,j1 x1 = some r ∧ Sx w (Aa.ownBlock.toList) nov [.own Aa 3 1 x1.length (x1.flatMap eInt)] [] 53 a w') ?_ ?_
 ·refine wp_block (Gz (fun (m1 : Nat) a w'=>∃ x1 : List Int,∃ x2 : Int,Dq Ax Ar j1 m1 x1 x2 = some r ∧ Sx w (Aa.ownBlock.toList) nov [.own Aa 3 1 x1.length (x1.flatMap eInt)] [(0,Aa),(1,iV Ar),(2,iV Ax),(3,.func (.func 33) #[] #[]),(8,iV x2)] 53 a w') id ((Ax - (W (Ar + 1))).toNat + 2) ⟨Af,W (Ar + 1),h,S.nf [true] rfl (subR rfl)⟩ ?_)
  clear S h;rintro m1 a w1 ⟨x1,x2,h,S⟩
  cases m1 with
  | zero=>rw [Dq.eq_1] at h;cases h
  | succ m1 =>
   rw [Dq.eq_2] at h
   refine Fs (Fr (Vm S rfl rfl fun a S=>Vm S rfl rfl fun a S=>Vb S Fi rfl rfl rfl fun a S=>Dl (Fc h (S.tm rfl) (fun hb1 h=>?_) (fun hb1 h=>?_))))
   ·refine wp_skip (Tn (Fs (wp_block (Fr (Vm S rfl rfl fun a S=>Va S rfl rfl fun a S=>Dl ?_)))))
    replace S:=S.k6 0 1 2 3 8 9 rfl
    obtain ⟨j2,hj2,h⟩:=Fk h
    refine Er (fun a w'=>∃ x3 : List Int,j2 x3 = some r ∧ Sx w (Aa.ownBlock.toList) nov [.own Aa 3 1 x3.length (x3.flatMap eInt)] [(0,Aa),(1,iV Ar),(2,iV Ax),(3,.func (.func 33) #[] #[]),(8,iV x2)] 53 a w') ?_ ?_
    ·refine wp_block (Gz (fun (m2 : Nat) a w'=>∃ x3 : List Int,∃ x4 : Int,Dk Ar j2 m2 x3 x4 = some r ∧ Sx w (Aa.ownBlock.toList) nov [.own Aa 3 1 x3.length (x3.flatMap eInt)] [(0,Aa),(1,iV Ar),(2,iV Ax),(3,.func (.func 33) #[] #[]),(8,iV x2),(9,iV x4)] 53 a w') id ((x2 - Ar).toNat + 2) ⟨x1,x2,h,S.nf [true] rfl (subR rfl)⟩ ?_)
     clear S h;rintro m2 a w3 ⟨x3,x4,h,S⟩
     cases m2 with
     | zero=>rw [Dk.eq_1] at h;cases h
     | succ m2 =>
      rw [Dk.eq_2] at h
      refine Fs (Fs ?_)
      obtain ⟨j3,hj3,h⟩:=Fk h
      refine Er (fun a w'=>∃ x5 : Bool,j3 x5 = some r ∧ Sx w (Aa.ownBlock.toList) nov [.own Aa 3 1 x3.length (x3.flatMap eInt)] [(0,Aa),(1,iV Ar),(2,iV Ax),(3,.func (.func 33) #[] #[]),(8,iV x2),(9,iV x4),(34,bV x5)] 53 a w') ?_ ?_
      ·rcases Bool.eq_false_or_eq_true (decide (Ar < x4)) with hb2 | hb2
       ·replace h:=Sc h hb2
        obtain ⟨hc1,h⟩:=Hx h
        obtain ⟨hc2,h⟩:=Hx h
        refine Hy [] ([]) Tryz.mixed S rfl (by kernel_rfl) ?_;clear S;intro w7 hk2 hsel S
        refine Fh 0 S hsel rfl rfl rfl (by kernel_rfl) (by kernel_rfl) rfl (fun _ hw=>(Rm (S.tm rfl))) fun a S=>Fh 1 S hsel rfl rfl rfl (by kernel_rfl) (by kernel_rfl) rfl (fun _ hw=>(Rm (S.tm rfl))) fun a S=>Fh 2 S hsel rfl rfl rfl (by kernel_rfl) (by kernel_rfl) rfl (fun _ hw=>(Ki (S.tm rfl) (S.tm rfl))) fun a S=>Fh 3 S hsel rfl rfl rfl (by kernel_rfl) (by kernel_rfl) rfl (fun _ hw=>(Rm (S.tm rfl))) fun a S=>Fo 4 S hsel rfl rfl rfl rfl hb2 rfl rfl (by kernel_rfl) (by kernel_rfl) rfl (fun _ hw=>(Rm (S.tm rfl))) fun a S=>Fo 5 S hsel rfl rfl rfl rfl hb2 rfl rfl (by kernel_rfl) (by kernel_rfl) rfl (fun _ hw=>(Rm (S.tm rfl))) fun a S=>Fo 6 S hsel rfl rfl rfl rfl hb2 rfl rfl (by kernel_rfl) (by kernel_rfl) rfl (fun _ hw=>(Rm (S.tm rfl))) ?_;clear S;intro a S
        obtain ⟨b3,hg3,hr3⟩:=Gg (a:=a) (x:=.tmp 23) (y:=.tmp 24) (ty:=0) Ji Ex S (i:=0) rfl (Dv hc1).1 (Dv hc1).2 (S.tm rfl) (S.tm rfl)
        refine Fo 7 S hsel rfl rfl rfl rfl hb2 rfl rfl (by kernel_rfl) (by kernel_rfl) rfl (fun _ hw=>(hr3 _)) ?_;clear S;intro a S
        clear hr3
        refine Fo 8 S hsel rfl rfl rfl rfl hb2 rfl rfl (by kernel_rfl) (by kernel_rfl) rfl (fun _ hw=>(Iv isAgg3 (off:=x4.toNat * 1) (o:=0) (S.tm rfl) ((Ll Ex S (i:=0) rfl hg3 (Dv hc1).1 (Ir (e':=.own Aa 3 1 x3.length (x3.flatMap eInt)))).kept hw) rfl)) fun a S=>Fo 9 S hsel rfl rfl rfl rfl hb2 rfl rfl (by kernel_rfl) (by kernel_rfl) rfl (fun _ hw=>(Rm (S.tm rfl))) fun a S=>Fo 10 S hsel rfl rfl rfl rfl hb2 rfl rfl (by kernel_rfl) (by kernel_rfl) rfl (fun _ hw=>(Rm (S.tm rfl))) fun a S=>Fo 11 S hsel rfl rfl rfl rfl hb2 rfl rfl (by kernel_rfl) (by kernel_rfl) rfl (fun _ hw=>(Iq (S.tm rfl) rfl)) ?_;clear S;intro a S
        obtain ⟨b4,hg4,hr4⟩:=Gg (a:=a) (x:=.tmp 27) (y:=.tmp 29) (ty:=0) Ji Ex S (i:=0) rfl (Dv hc2).1 (Dv hc2).2 (S.tm rfl) (S.tm rfl)
        refine Fo 12 S hsel rfl rfl rfl rfl hb2 rfl rfl (by kernel_rfl) (by kernel_rfl) rfl (fun _ hw=>(hr4 _)) ?_;clear S;intro a S
        clear hr4
        refine Fo 13 S hsel rfl rfl rfl rfl hb2 rfl rfl (by kernel_rfl) (by kernel_rfl) rfl (fun _ hw=>(Iv isAgg3 (off:=((W (x4 - 1)).toNat) * 1) (o:=0) (S.tm rfl) ((Ll Ex S (i:=0) rfl hg4 (Dv hc2).1 (Ir (e':=.own Aa 3 1 x3.length (x3.flatMap eInt)))).kept hw) rfl)) fun a S=>Hu 14 (by kernel_rfl) rfl (Dx S rfl rfl rfl hb2 (Ea S (fun _=>Qx (cap:=[]) (S.tm rfl) (vs:=[iV (nth x3 x4),iV (nth x3 (W (x4 - 1)))]) ⟨(S.tm rfl),(S.tm rfl),trivial⟩ call33) (Rk _ (nth x3 x4) (nth x3 (W (x4 - 1))) _ rfl) rfl ?_));clear S;intro v2 a w8 hv2 hk3 hn2 S
        subst hv2
        refine Ld (Ij hk3 (Nb [15,16] hsel (by kernel_rfl) rfl ?_))
        clear hsel
        refine Og S rfl rfl rfl rfl hb2 (Qd S (Fi (S.tm rfl) rfl) rfl fun a S=>Gs S rfl (Td hb2 (S.tm rfl) (S.tm rfl)) rfl fun a S=>Mi ?_)
        replace S:=S.nk [.own Aa 3 1 x3.length (x3.flatMap eInt)] [(0,Aa),(1,iV Ar),(2,iV Ax),(3,.func (.func 33) #[] #[]),(8,iV x2),(9,iV x4),(22,.func (.func 33) #[] #[]),(23,Aa),(24,iV x4),(25,.pointer (some ⟨b3,x4.toNat * 1,none⟩)),(26,iV (nth x3 x4)),(27,Aa),(28,iV x4),(29,iV (W (x4 - 1))),(30,.pointer (some ⟨b4,((W (x4 - 1)).toNat) * 1,none⟩)),(31,iV (nth x3 (W (x4 - 1)))),(32,iV (Hv (nth x3 x4) (nth x3 (W (x4 - 1))))),(33,bV (decide ((Hv (nth x3 x4) (nth x3 (W (x4 - 1)))) < 0))),(34,bV (decide ((Hv (nth x3 x4) (nth x3 (W (x4 - 1)))) < 0)))] [true] rfl (subR rfl)
        exact Tn (⟨decide ((Hv (nth x3 x4) (nth x3 (W (x4 - 1)))) < 0),h,S.nf [true] rfl (subR rfl)⟩)
       ·replace h:=Sd h hb2
        refine Hy [] ([]) Tryz.mixed S rfl (by kernel_rfl) ?_;clear S;intro w9 hk4 hsel S
        refine Nb [0,1,2,3,4,5,6,7,8,9,10,11,12,13,14,15,16] hsel (by kernel_rfl) rfl ?_
        clear hsel
        refine Gs S rfl (Rm (S.tm rfl)) rfl fun a S=>Gs S rfl (Rm (S.tm rfl)) rfl fun a S=>Gs S rfl (Ki (S.tm rfl) (S.tm rfl)) rfl fun a S=>Gs S rfl (Rm (S.tm rfl)) rfl ?_;clear S;intro a S
        iterate 12 (refine Xg S rfl rfl rfl rfl (Kl hb2) rfl ?_ rfl;clear S;intro a S)
        refine Gs S rfl (Te hb2 (S.tm rfl) rfl) rfl fun a S=>Mi ?_
        replace S:=S.k7 0 1 2 3 8 9 34 rfl
        exact Tn (⟨false,h,S.nf [true] rfl (subR rfl)⟩)
      clear S h;rintro a w5 ⟨x5,h,S⟩;rw [hj3] at h;clear hj3 j3
      refine Tn (Fc h (S.tm rfl) (fun hb3 h=>?_) (fun hb3 h=>?_))
      ·refine wp_skip (Tn (Fs (wp_block ?_)))
       obtain ⟨hc3,h⟩:=Hx h
       obtain ⟨hc4,h⟩:=Hx h
       obtain ⟨hc5,h⟩:=Hx h
       obtain ⟨hc6,h⟩:=Hx h
       refine Hy [15,17] ([]) Tryz.mixed S rfl (by kernel_rfl) ?_;clear S;intro w14 hk9 hsel S
       refine Ej 0 S hsel rfl rfl (by kernel_rfl) (by kernel_rfl) rfl (fun _=>(Rm (S.tm rfl))) fun a S=>Ej 1 S hsel rfl rfl (by kernel_rfl) (by kernel_rfl) rfl (fun _=>(Rm (S.tm rfl))) fun a S=>Ej 2 S hsel rfl rfl (by kernel_rfl) (by kernel_rfl) rfl (fun _=>(Rm (S.tm rfl))) fun a S=>Ej 3 S hsel rfl rfl (by kernel_rfl) (by kernel_rfl) rfl (fun _=>(Rm (S.tm rfl))) fun a S=>Ej 4 S hsel rfl rfl (by kernel_rfl) (by kernel_rfl) rfl (fun _=>(Iq (S.tm rfl) rfl)) fun a S=>Ej 5 S hsel rfl rfl (by kernel_rfl) (by kernel_rfl) rfl (fun _=>(Rm (S.tm rfl))) fun a S=>Ej 6 S hsel rfl rfl (by kernel_rfl) (by kernel_rfl) rfl (fun _=>(Rm (S.tm rfl))) fun a S=>Ej 7 S hsel rfl rfl (by kernel_rfl) (by kernel_rfl) rfl (fun _=>(Iq (S.tm rfl) rfl)) ?_;clear S;intro a S
       obtain ⟨b9,hg9,hr9⟩:=Gg (a:=a) (x:=.tmp 42) (y:=.tmp 44) (ty:=0) Ji Ex S (i:=0) rfl (Dv hc3).1 (Dv hc3).2 (S.tm rfl) (S.tm rfl)
       refine Ej 8 S hsel rfl rfl (by kernel_rfl) (by kernel_rfl) rfl (fun _=>(hr9 _)) ?_;clear S;intro a S
       clear hr9
       refine Fh 9 S hsel rfl (by kernel_rfl) (by kernel_rfl) (by kernel_rfl) (by kernel_rfl) rfl (fun _ hw=>(Iv isAgg3 (off:=((W (x4 - 1)).toNat) * 1) (o:=0) (S.tm rfl) ((Ll Ex S (i:=0) rfl hg9 (Dv hc3).1 (Ir (e':=.own Aa 3 1 x3.length (x3.flatMap eInt)))).kept hw) rfl)) fun a S=>Ej 10 S hsel rfl rfl (by kernel_rfl) (by kernel_rfl) rfl (fun _=>(Rm (S.tm rfl))) fun a S=>Ej 11 S hsel rfl rfl (by kernel_rfl) (by kernel_rfl) rfl (fun _=>(Rm (S.tm rfl))) ?_;clear S;intro a S
       obtain ⟨b10,hg10,hr10⟩:=Gg (a:=a) (x:=.tmp 47) (y:=.tmp 48) (ty:=0) Ji Ex S (i:=0) rfl (Dv hc4).1 (Dv hc4).2 (S.tm rfl) (S.tm rfl)
       refine Ej 12 S hsel rfl rfl (by kernel_rfl) (by kernel_rfl) rfl (fun _=>(hr10 _)) ?_;clear S;intro a S
       clear hr10
       refine Fh 13 S hsel rfl (by kernel_rfl) (by kernel_rfl) (by kernel_rfl) (by kernel_rfl) rfl (fun _ hw=>(Iv isAgg3 (off:=x4.toNat * 1) (o:=0) (S.tm rfl) ((Ll Ex S (i:=0) rfl hg10 (Dv hc4).1 (Ir (e':=.own Aa 3 1 x3.length (x3.flatMap eInt)))).kept hw) rfl)) ?_;clear S;intro a S
       obtain ⟨b11,hg11,hr11⟩:=Gg (a:=a) (x:=.tmp 37) (y:=.tmp 38) (ty:=0) Ji Ex S (i:=0) rfl (Dv hc5).1 (Dv hc5).2 (S.tm rfl) (S.tm rfl)
       refine Ej 14 S hsel rfl rfl (by kernel_rfl) (by kernel_rfl) rfl (fun _=>(hr11 _)) ?_;clear S;intro a S
       clear hr11
       refine Ni 15 (Aa.ownBlock.toList) rfl (by kernel_rfl) rfl (Mq (c:=0) (j:=x4.toNat) (nth x3 (W (x4 - 1))) Ex S (S.tm rfl) (S.tm rfl) (i:=0) rfl hg11 (Dv hc5).1 sizeOf3 (vs:=[iV (nth x3 (W (x4 - 1)))]) rfl rfl rfl rfl rfl ?_);clear S;intro w16 hk11 S
       refine Ld (Nj ?_)
       obtain ⟨b12,hg12,hr12⟩:=Gg (a:=a) (x:=.tmp 39) (y:=.tmp 41) (ty:=0) Ji Ex S (i:=0) rfl (Dv hc6).1 (Dv hc6).2 (S.tm rfl) (S.tm rfl)
       refine Fh 16 S hsel rfl rfl rfl (by kernel_rfl) (by kernel_rfl) rfl (fun _ hw=>(hr12 _)) ?_;clear S;intro a S
       clear hr12
       refine Hu 17 (by kernel_rfl) rfl (Mq (c:=0) (j:=(W (x4 - 1)).toNat) (nth x3 x4) Ex S (S.tm rfl) (S.tm rfl) (i:=0) rfl hg12 (Dv hc6).1 sizeOf3 (vs:=[iV (nth x3 x4)]) rfl rfl rfl rfl rfl ?_);clear S;intro w18 hk13 S
       refine Ld (Ij hk13 (Rp (by kernel_rfl) ?_))
       clear hsel
       replace S:=(S.nl [.own Aa 3 1 ((x3.set x4.toNat (nth x3 (W (x4 - 1)))).set ((W (x4 - 1)).toNat) (nth x3 x4)).length (((x3.set x4.toNat (nth x3 (W (x4 - 1)))).set ((W (x4 - 1)).toNat) (nth x3 x4)).flatMap eInt)] [true] rfl).k6 0 1 2 3 8 9 rfl
       exact Jb (Tn (Fg (Vm S rfl rfl fun a S=>Vq S Iq rfl rfl rfl fun a S=>Va S rfl rfl fun a S=>Dl (⟨m2,⟨((x3.set x4.toNat (nth x3 (W (x4 - 1)))).set ((W (x4 - 1)).toNat) (nth x3 x4)),W (x4 - 1),h,S.nf [true] rfl ⟨rfl,rfl,rfl,rfl,rfl,rfl,trivial⟩⟩,Nat.lt_succ_self _⟩))))
      ·exact wp_exit (Ek (Ek (Ha (Tn (⟨x3,h,S.nf [true] rfl (subR rfl)⟩)))))
    clear S h;rintro a w4 ⟨x3,h,S⟩;rw [hj2] at h;clear hj2 j2
    exact Jb (Tn (Fg (Vm S rfl rfl fun a S=>Vq S Gb rfl rfl rfl fun a S=>Va S rfl rfl fun a S=>Dl (⟨m1,⟨x3,W (x2 + 1),h,S.nf [true] rfl ⟨rfl,rfl,rfl,rfl,rfl,trivial⟩⟩,Nat.lt_succ_self _⟩))))
   ·exact wp_exit (Ek (Ek (Ha (Tn (⟨x1,h,S.nf [true] rfl trivial⟩)))))
 clear S h;rintro a w2 ⟨x1,h,S⟩;rw [hj1] at h;clear hj1 j1
 obtain rfl:=Option.some.inj h
 exact Ox S results59 ⟨(S.holds _ (List.mem_of_getElem? (i:=0) rfl)),rfl⟩
theorem Kn (w : World) (Aa : Value) (Af : List Int) (Bb : (LEnt.own Aa 3 1 Af.length (Af.flatMap eInt)).holds w) (Ar : Int) (Ax : Int) (Bc : Int) (r : (List Int)) (h : Fy Af Ar Ax Bc = some r) :
    Calls prog 48 [Aa,iV Ar,iV Ax,iV Bc,.func (.func 33) #[] #[]].toArray w (Ret w (Aa.ownBlock.toList) fun _ v w'=>(LEnt.own Aa 3 1 r.length (r.flatMap eInt)).holds w' ∧ v = .tuple #[]):=by
 refine Jd (Aa.ownBlock.toList) [.own Aa 3 1 Af.length (Af.flatMap eInt)] func48 rfl ntmps48 rfl (fun e he=>by simp only [List.mem_singleton] at he;subst he;exact Bb) (Ho _) (Iw _) fun a S=>?_
 unfold Fy at h
 replace S:=(S.nl [.own Aa 3 1 Af.length (Af.flatMap eInt)] [true] rfl).k5 0 1 2 3 4 rfl
 refine Fr (Vk S rfl rfl fun a S=>Dz (Vk S rfl rfl fun a S=>Dl ?_))
 replace S:=S.k6 0 1 2 3 4 10 rfl
 refine Er (fun a w'=>False) ?_ ?_
 ·refine wp_block (Gz (fun (m1 : Nat) a w'=>∃ x1 : Int,∃ x2 : Int,∃ x3 : Int,∃ x4 : Bool,Ee Af m1 x1 x2 x3 x4 = some r ∧ Sx w (Aa.ownBlock.toList) nov [.own Aa 3 1 Af.length (Af.flatMap eInt)] [(0,Aa),(1,iV x1),(2,iV x2),(3,iV x3),(4,.func (.func 33) #[] #[]),(10,bV x4)] 148 a w') id 4611686018427387904 ⟨Ar,Ax,Bc,true,h,S.nf [true] rfl (subR rfl)⟩ ?_)
  clear S h;rintro m1 a w1 ⟨x1,x2,x3,x4,h,S⟩
  cases m1 with
  | zero=>rw [Ee.eq_1] at h;cases h
  | succ m1 =>
   rw [Ee.eq_2] at h
   refine wp_block (Fr (Vm S rfl rfl fun a S=>Vm S rfl rfl fun a S=>Vb S Iq rfl rfl rfl fun a S=>Va S rfl rfl fun a S=>Dl (Fs (Fs ?_))))
   refine Fg (Vm S rfl rfl fun a S=>Vq S Ow rfl rfl rfl fun a S=>Dl (Fc h (S.tm rfl) (fun hb1 h=>?_) (fun hb1 h=>?_)))
   ·refine Fs (Fg ?_)
    iterate 4 (refine Vm S rfl rfl ?_;clear S;intro a S)
    obtain ⟨r1,hr1,h⟩:=Eu h
    refine Kt 0 S rfl (fun _=>.own Aa 3 1 r1.length (r1.flatMap eInt)) (fun _=>Dg (vs:=[Aa,iV x1,iV x2,.func (.func 33) #[] #[]]) ⟨(S.tm rfl),(S.tm rfl),(S.tm rfl),(S.tm rfl),trivial⟩ call59) (Jx _ Aa Af (S.holds _ (List.mem_of_getElem? (i:=0) rfl)) x1 x2 _ hr1) rfl (fun _ _ _ h=>⟨h.1,fun _ hc=>hc⟩) ?_;clear S;intro v1 a w3 hv1 hk1 hn1 S
    replace hv1:=hv1.2
    subst hv1
    refine Ld ?_
    replace S:=(S.nl [.own Aa 3 1 r1.length (r1.flatMap eInt)] [true] rfl).k0
    refine Tn (wp_ret (Dy (Hj (Dy (Hj (Dy ?_))))))
    obtain rfl:=Option.some.inj h
    exact Ox S results48 ⟨(S.holds _ (List.mem_of_getElem? (i:=0) rfl)),rfl⟩
   ·refine wp_skip (Tn (Fs (Fr (Vm S rfl rfl fun a S=>Vq S Kh rfl rfl rfl fun a S=>Dl (Fc h (S.tm rfl) (fun hb2 h=>?_) (fun hb2 h=>?_))))))
    ·refine Fs ?_
     cases h
    ·refine wp_skip (Tn (Fs (Fr (Vm S rfl rfl fun a S=>Vu S Li rfl rfl fun a S=>Ld ?_))))
     replace S:=S.k1 39 rfl
     refine Tn (Fc h (S.tm rfl) (fun hb3 h=>?_) (fun hb3 h=>?_))
     ·refine Fs ?_
      cases h
     ·refine wp_skip (Tn (Fs ?_))
      cases h
 exact fun _ _ h=>h.elim
theorem Lo (w : World) (Aq : Value) (Ai : List Int) (Bn : (LEnt.own Aq 3 1 Ai.length (Ai.flatMap eInt)).holds w) (r : (List Int)) (h : Fb Ai = some r) :
    Calls prog 32 [Aq,.func (.func 33) #[] #[]].toArray w (Ret w (Aq.ownBlock.toList) fun _ v w'=>(LEnt.own Aq 3 1 r.length (r.flatMap eInt)).holds w' ∧ v = .tuple #[]):=by
 refine Jd (Aq.ownBlock.toList) [.own Aq 3 1 Ai.length (Ai.flatMap eInt)] func32 rfl ntmps32 rfl (fun e he=>by simp only [List.mem_singleton] at he;subst he;exact Bn) (Ho _) (Iw _) fun a S=>?_
 unfold Fb at h
 replace S:=(S.nl [.own Aq 3 1 Ai.length (Ai.flatMap eInt)] [true] rfl).k2 0 1 rfl
 refine Fr (Vm S rfl rfl fun a S=>lv S (Gh Ji (S.tm rfl) (Ob (S.own_at (i:=0) rfl))) rfl fun a S=>Va S rfl rfl fun a S=>Dl (Fg ?_))
 iterate 3 (refine Vm S rfl rfl ?_;clear S;intro a S)
 refine Vu S (Jr underlying3 underlying87) rfl rfl ?_;clear S;intro a S
 obtain ⟨r1,hr1,h⟩:=Eu h
 refine Ea S (fun _=>Dg (vs:=[.int .u64 (IntKind.wrap .u64 (Ai.length : Int))]) ⟨(S.tm rfl),trivial⟩ call49) (Qo _ (IntKind.wrap .u64 (Ai.length : Int)) _ hr1) rfl ?_;clear S;intro v1 a w1 hv1 hk1 hn1 S
 subst hv1
 refine Vm S rfl rfl ?_;clear S;intro a S
 obtain ⟨r2,hr2,h⟩:=Eu h
 refine Kt 0 S rfl (fun _=>.own Aq 3 1 r2.length (r2.flatMap eInt)) (fun _=>Dg (vs:=[Aq,iV 0,iV (Ai.length : Int),iV r1,.func (.func 33) #[] #[]]) ⟨(S.tm rfl),rfl,(S.tm rfl),(S.tm rfl),(S.tm rfl),trivial⟩ call48) (Kn _ Aq Ai (S.holds _ (List.mem_of_getElem? (i:=0) rfl)) 0 (Ai.length : Int) r1 _ hr2) rfl (fun _ _ _ h=>⟨h.1,fun _ hc=>hc⟩) ?_;clear S;intro v2 a w2 hv2 hk2 hn2 S
 replace hv2:=hv2.2
 subst hv2
 refine Ld ?_
 obtain rfl:=Option.some.inj h
 exact Ox S results32 ⟨(S.holds _ (List.mem_of_getElem? (i:=0) rfl)),rfl⟩
theorem Ti (w : World) (v_l : Value) (Ag : List Dw) (hs_l : Slc (view w []) 2 v_l (Ag.map Dw.enc)) (v_r : Value) (Be : List Dm) (hs_r : Slc (view w []) 3 v_r (Be.map Dm.enc)) (Ap : Int) (r : List De × Int) (h : Je Ag Be Ap = some r) :
    Calls prog 10 [v_l,v_r,iV Ap].toArray w (Ret w [] fun τ v _=>∃ u1,v = .tuple #[u1,iV r.2] ∧ Pc τ 56 3 u1 r.1.length (r.1.flatMap De.enc)):=by
 refine Fe func10 rfl ntmps10 rfl fun a S=>?_
 unfold Je at h
 replace S:=S.k3 0 1 2 rfl
 refine Fr (Vk S rfl rfl fun a S=>Vk S rfl rfl fun a S=>Dl (Fs (Fr (Vm S rfl rfl ?_))));clear S;intro a S
 obtain ⟨r1,hr1,h⟩:=Eu h
 refine Ea S (fun _=>Dg (vs:=[v_l]) ⟨(S.tm rfl),trivial⟩ call20) (Kr _ v_l Ag (hs_l.mono (S.le_arg Gi)) _ hr1) rfl ?_;clear S;intro v1 a w1 hv1 hk1 hn1 S
 subst hv1
 refine Va S rfl rfl fun a S=>Dz (Vm S rfl rfl fun a S=>Vq S Ru rfl rfl rfl fun a S=>Dl (Fc h (S.tm rfl) (fun hb1 h=>?_) (fun hb1 h=>?_)))
 ·refine Fr (Vm S rfl rfl fun a S=>Vk S rfl rfl fun a S=>Va S rfl rfl fun a S=>Dl (wp_ret (Dy ?_)))
  obtain rfl:=Option.some.inj h
  exact Ns S results10 rfl rfl ⟨_,rfl,Sj _ _ _⟩
 ·refine wp_skip (Tn (Fs (Fr (Vm S rfl rfl ?_))));clear S;intro a S
  obtain ⟨r2,hr2,h⟩:=Eu h
  refine Ea S (fun _=>Dg (vs:=[v_r]) ⟨(S.tm rfl),trivial⟩ call31) (Py _ v_r Be (hs_r.mono (S.le_arg Gi)) _ hr2) rfl ?_;clear S;intro v2 a w2 hv2 hk2 hn2 S
  subst hv2
  refine Va S rfl rfl fun a S=>Dz (Vm S rfl rfl fun a S=>Vq S Ru rfl rfl rfl fun a S=>Dl (Fc h (S.tm rfl) (fun hb2 h=>?_) (fun hb2 h=>?_)))
  ·refine Fr (Vm S rfl rfl fun a S=>Vk S rfl rfl fun a S=>Va S rfl rfl fun a S=>Dl (wp_ret (Dy ?_)))
   obtain rfl:=Option.some.inj h
   exact Ns S results10 rfl rfl ⟨_,rfl,Sj _ _ _⟩
  ·refine wp_skip (Tn (Fs (Fr (Vm S rfl rfl ?_))));clear S;intro a S
   refine Ea S (fun _=>Dg (vs:=[iV Ap,iV 1,iV 100]) ⟨(S.tm rfl),rfl,rfl,trivial⟩ call30) (Mg _ Ap 1 100 _ rfl) rfl ?_;clear S;intro v3 a w3 hv3 hk3 hn3 S
   subst hv3
   refine Vu S Li rfl rfl fun a S=>Dl (Fc h (S.tm rfl) (fun hb3 h=>?_) (fun hb3 h=>?_))
   ·refine Fr (Vk S rfl rfl fun a S=>Vk S rfl rfl fun a S=>Dl (wp_ret (Dy ?_)))
    obtain rfl:=Option.some.inj h
    exact Ns S results10 rfl rfl ⟨_,rfl,Sj _ _ _⟩
   ·refine wp_skip (Tn (Fs (Fg (Rc (κ:=Df) (ν:=Int) S rfl (fun x=>Value.agg (Df.enc x).toArray) (Value.int .i64) ?_))));clear S;intro a w4 b1 hz1 hk4 S
    refine Va S rfl rfl fun a S=>Dz (Rc (κ:=ByteArray) (ν:=Value) S rfl Value.string (fun v=>v) ?_);clear S;intro a w5 b2 hz2 hk5 S
    refine Va S rfl rfl fun a S=>Dl (Fs (Fr (Vm S rfl rfl fun a S=>lv S (Gh Pi (S.tm rfl) (Hr hs_r)) rfl fun a S=>lv S (Rm rfl) rfl fun a S=>Dl ?_)))
    replace S : Sx w [] nov ([.map b2 (En Value.string (fun v=>v) (rzM ([] : List (ByteArray × List Int)) [])) (rzM ([] : List (ByteArray × List Int)) []).length,.map b1 (En (fun x=>Value.agg (Df.enc x).toArray) (Value.int .i64) ([] : List (Df × Int))) ([] : List (Df × Int)).length] ++ Ia 3 1 eInt [] (([] : List (ByteArray × List Int)).map (·.2))) [(0,v_l),(2,iV Ap),(10,.map (some b1)),(11,.map (some b2)),(39,v_r),(40,iV (Be.length : Int)),(41,iV 0)] 123 a w5:=S.sub (subR rfl)
    obtain ⟨j1,hj1,h⟩:=Fk h
    refine Er (fun a w'=>∃ x1 : List (Df × Int),∃ x2 : List (ByteArray × List Int),∃ vs : List Value,j1 x1 x2 = some r ∧ vs.length = x2.length ∧ Sx w [] nov ([.map b2 (En Value.string (fun v=>v) (rzM x2 vs)) (rzM x2 vs).length,.map b1 (En (fun x=>Value.agg (Df.enc x).toArray) (Value.int .i64) x1) x1.length] ++ Ia 3 1 eInt vs (x2.map (·.2))) [(2,iV Ap),(10,.map (some b1)),(11,.map (some b2))] 123 a w') ?_ ?_
    ·refine wp_block (Gz (fun (ys1 : List Dm) a w'=>∃ i1 : Nat,∃ x1 : List (Df × Int),∃ x2 : List (ByteArray × List Int),∃ vs : List Value,(∃ dn,Be = dn ++ ys1 ∧ dn.length = i1) ∧ Gv Ag j1 ys1 i1 x1 x2 = some r ∧ vs.length = x2.length ∧ Sx w [] nov ([.map b2 (En Value.string (fun v=>v) (rzM x2 vs)) (rzM x2 vs).length,.map b1 (En (fun x=>Value.agg (Df.enc x).toArray) (Value.int .i64) x1) x1.length] ++ Ia 3 1 eInt vs (x2.map (·.2))) [(0,v_l),(2,iV Ap),(10,.map (some b1)),(11,.map (some b2)),(39,v_r),(40,iV (Be.length : Int)),(41,iV (i1 : Int))] 123 a w') List.length Be ⟨0,[],[],[],⟨[],rfl,rfl⟩,h,rfl,S.sub (subR rfl)⟩ ?_)
     clear S h;rintro ys1 a w6 ⟨i1,x1,x2,vs,⟨dn,hd1,hi1⟩,h,hl,S⟩
     cases ys1 with
     | nil =>
      rw [Gv.eq_1] at h
      refine Fr (Vb S Fi rfl rfl rfl fun a S=>Dl ?_)
      exact Fs (wp_cond_false ((S.tm rfl).trans (congrArg Value.bool (Kq hd1 hi1))) (wp_exit (Ek (Ek (Ha (Tn ⟨x1,x2,vs,h,hl,S.sub (subR rfl)⟩))))))
     | cons y1 ys1 =>
      rw [Gv.eq_2] at h
      refine Fr (Vb S Fi rfl rfl rfl fun a S=>Dl ?_)
      refine Fs (wp_cond_true ((S.tm rfl).trans (congrArg Value.bool (Jm hd1 hi1))) (wp_skip (Tn (Fs ?_))))
      refine wp_block (Fs (Fg ?_))
      obtain ⟨b3,o1,hm1,hr3⟩:=Hs (a:=a) (x:=.tmp 39) (y:=.tmp 41) (ty:=0) Pi hs_r (Kd hd1 hi1) rfl (S.tm rfl) (S.tm rfl)
      refine lv S (hr3 _) rfl ?_;clear S;intro a S
      clear hr3
      refine lv S (Kk isAgg64 sizeOf64 (off:=o1) (o:=0) (part:=(Dm.enc y1)) rfl rfl (S.tm rfl) (hm1.at S.emb0)) rfl fun a S=>Ko S zeroValue64 (cs:=[sV Ec,sV Ec,iV 0]) rfl rfl ?_;clear S;intro a w7 b4 hz3 hk6 S
      refine Hk S (S.tm rfl) (S.tm rfl) (i:=0) (off:=0) rfl sizeOf64 (vs:=(Dm.enc y1)) rfl rfl rfl rfl ?_;clear S;intro w8 hk7 S
      replace S : Sx w [] nov ([.blk b4 (Dm.enc y1) 64,.map b2 (En Value.string (fun v=>v) (rzM x2 vs)) (rzM x2 vs).length,.map b1 (En (fun x=>Value.agg (Df.enc x).toArray) (Value.int .i64) x1) x1.length] ++ Ia 3 1 eInt vs (x2.map (·.2))) [(0,v_l),(2,iV Ap),(10,.map (some b1)),(11,.map (some b2)),(13,.pointer (some ⟨b4,0,none⟩)),(39,v_r),(40,iV (Be.length : Int)),(41,iV (i1 : Int))] 123 a w8:=S.sub (subR rfl)
      obtain ⟨vs2,xss2,S1,hback⟩:=Sx.rows_open hl y1.Who S
      clear S
      have S:=(Sx.drop S1 (List.sublist_cons_self _ _)).nil 3 1
      clear S1
      refine Dl (Fs (Fg (Vm S rfl rfl fun a S=>Vf Nl S rfl rfl fun a S=>Vl isAgg9 1 S rfl rfl rfl rfl fun a S=>Np (kv:=Value.string) (vv:=fun v=>v) (m:=rzM x2 vs) (key:=y1.Who) (val:=.slice none 0 0) S (i:=2) rfl underlying68 (Pf underlying9) (S.tm rfl) (S.tm rfl) rfl ?_)));clear S;intro w9 hk8 S
      obtain ⟨vs3,hl3,he3,hb3⟩:=hback (.slice none 0 0) []
      rw [he3] at S
      replace S : Sx w [] nov ([.blk b4 (Dm.enc y1) 64,.map b2 (En Value.string (fun v=>v) (rzM (Fz x2 y1.Who []) vs3)) (rzM (Fz x2 y1.Who []) vs3).length,.map b1 (En (fun x=>Value.agg (Df.enc x).toArray) (Value.int .i64) x1) x1.length] ++ Ia 3 1 eInt vs3 ((Fz x2 y1.Who []).map (·.2))) [(0,v_l),(2,iV Ap),(10,.map (some b1)),(11,.map (some b2)),(13,.pointer (some ⟨b4,0,none⟩)),(39,v_r),(40,iV (Be.length : Int)),(41,iV (i1 : Int))] 123 a w9:=(hb3 S).sub (subR rfl)
      clear hb3 hback
      refine Dz (Vm S rfl rfl fun a S=>Vf Mf S rfl rfl fun a S=>Vl isAgg9 0 S rfl rfl rfl rfl fun a S=>Ea S (fun _=>Dg (vs:=[v_l,sV y1.Race]) ⟨(S.tm rfl),(S.tm rfl),trivial⟩ call27) (Nh _ v_l Ag (hs_l.mono (S.le_arg Gi)) y1.Race _ rfl) rfl ?_);clear S;intro v4 a w10 hv4 hk9 hn4 S
      subst hv4
      obtain ⟨j2,hj2,h⟩:=Fk h
      refine Va S rfl rfl fun a S=>Dz (Vm S rfl rfl fun a S=>Vq S Ki rfl rfl rfl fun a S=>Vm S rfl rfl fun a S=>Ii 4 (fun a w'=>Keep [] w10 w' ∧ Sx w [] nov ([.blk b4 (Dm.enc y1) 64,.map b2 (En Value.string (fun v=>v) (rzM (Fz x2 y1.Who []) vs3)) (rzM (Fz x2 y1.Who []) vs3).length,.map b1 (En (fun x=>Value.agg (Df.enc x).toArray) (Value.int .i64) x1) x1.length] ++ Ia 3 1 eInt vs3 ((Fz x2 y1.Who []).map (·.2))) [(0,v_l),(2,iV Ap),(10,.map (some b1)),(11,.map (some b2)),(13,.pointer (some ⟨b4,0,none⟩)),(39,v_r),(40,iV (Be.length : Int)),(41,iV (i1 : Int)),(14,iV (Dn Ag y1.Race)),(58,bV ((decide (0 < Dn Ag y1.Race)) && (decide (0 < y1.Time))))] 123 a w') ?_ ?_)
      ·rcases Bool.eq_false_or_eq_true (decide (0 < Dn Ag y1.Race)) with hb4 | hb4
       ·exact Dx S rfl rfl rfl hb4 (Vf Oc S rfl rfl fun a S=>Dx S rfl rfl rfl hb4 (Vl isAgg3 0 S rfl rfl rfl rfl fun a S=>Dx S rfl rfl rfl hb4 (Vq S Ki rfl rfl rfl fun a S=>lv S (Hm hb4 (S.tm rfl) (S.tm rfl)) rfl fun a S=>Dl ⟨Keep.refl _ _,S.sub (subR rfl)⟩)))
       ·iterate 3 (refine Hh S rfl rfl rfl (Kl hb4) rfl ?_ rfl;clear S;intro a S)
        exact lv S (Hn (decide (0 < y1.Time)) hb4 (S.tm rfl) rfl) rfl fun a S=>Dl ⟨Keep.refl _ _,S.sub (subR rfl)⟩
      clear S;rintro a w11 ⟨hk10,S⟩
      refine Dl (Er (fun a w'=>∃ x3 : List (Df × Int),j2 x3 = some r ∧ Sx w [] nov ([.map b2 (En Value.string (fun v=>v) (rzM (Fz x2 y1.Who []) vs3)) (rzM (Fz x2 y1.Who []) vs3).length,.map b1 (En (fun x=>Value.agg (Df.enc x).toArray) (Value.int .i64) x3) x3.length] ++ Ia 3 1 eInt vs3 ((Fz x2 y1.Who []).map (·.2))) [(0,v_l),(2,iV Ap),(10,.map (some b1)),(11,.map (some b2)),(39,v_r),(40,iV (Be.length : Int)),(41,iV (i1 : Int))] 123 a w') ?_ ?_)
      ·refine Fc h (S.tm rfl) (fun hb5 h=>?_) (fun hb5 h=>?_)
       ·obtain ⟨r4,hr4,h⟩:=Eu h
        refine Fr (Vf Mf S rfl rfl fun a S=>Vl isAgg9 0 S rfl rfl rfl rfl fun a S=>Vf Nl S rfl rfl fun a S=>Vl isAgg9 0 S rfl rfl rfl rfl fun a S=>lv S (Pv bt_70 (pv:=[(0,sV y1.Race),(1,sV y1.Who)]) ⟨rfl,(S.tm rfl),rfl,(S.tm rfl),trivial⟩ (cs:=[sV y1.Race,sV y1.Who]) (by kernel_rfl)) rfl fun a S=>Ko S zeroValue70 (cs:=[sV Ec,sV Ec]) rfl rfl ?_);clear S;intro a w12 b5 hz4 hk11 S
        refine Hk S (S.tm rfl) (S.tm rfl) (i:=0) (off:=0) rfl sizeOf70 (vs:=[sV y1.Race,sV y1.Who]) rfl rfl rfl rfl ?_;clear S;intro w13 hk12 S
        refine Dl ?_
        refine Hy [10] ([]) Tryz.mixed S rfl (by kernel_rfl) ?_;clear S;intro w14 hk13 hsel S
        refine Ej 0 S hsel rfl rfl (by kernel_rfl) (by kernel_rfl) rfl (fun _=>(Rm (S.tm rfl))) fun a S=>Fh 1 S hsel rfl (by kernel_rfl) (by kernel_rfl) (by kernel_rfl) (by kernel_rfl) rfl (fun _ hw=>(Kk isAgg70 sizeOf70 (off:=0) (o:=0) (part:=[sV y1.Race,sV y1.Who]) rfl rfl (S.tm rfl) ((S.blk_mem (i:=0) (cells:=[sV y1.Race,sV y1.Who]) (b:=b5) (T:=70) rfl (Ir (e':=.blk b5 [sV y1.Race,sV y1.Who] 70))).kept hw))) fun a S=>Ej 2 S hsel rfl rfl (by kernel_rfl) (by kernel_rfl) rfl (fun _=>(Rm (S.tm rfl))) fun a S=>Fh 3 S hsel rfl (by kernel_rfl) (by kernel_rfl) (by kernel_rfl) (by kernel_rfl) rfl (fun _ hw=>(Kk isAgg70 sizeOf70 (off:=0) (o:=0) (part:=[sV y1.Race,sV y1.Who]) rfl rfl (S.tm rfl) ((S.blk_mem (i:=0) (cells:=[sV y1.Race,sV y1.Who]) (b:=b5) (T:=70) rfl (Ir (e':=.blk b5 [sV y1.Race,sV y1.Who] 70))).kept hw))) ?_;clear S;intro a S
        refine Fh 4 S hsel rfl (by kernel_rfl) (by kernel_rfl) (by kernel_rfl) (by kernel_rfl) rfl (fun _ hw=>(Th (kv:=fun x=>Value.agg (Df.enc x).toArray) (vv:=(Value.int .i64)) (m:=x1) (key:=Df.mk y1.Race y1.Who) (z:=0) (S.map_kept (i:=3) rfl (Ir (e':=.map b1 (En (fun x=>Value.agg (Df.enc x).toArray) (Value.int .i64) x1) x1.length)) hw) underlying67 Zx zeroValue3 (S.tm rfl) (S.tm rfl))) ?_;clear S;intro a S
        refine Ej 5 S hsel rfl rfl (by kernel_rfl) (by kernel_rfl) rfl (fun _=>(Rm (S.tm rfl))) fun a S=>Ej 6 S hsel rfl rfl (by kernel_rfl) (by kernel_rfl) rfl (fun _=>(Jk Oc (S.tm rfl))) fun a S=>Fh 7 S hsel rfl (by kernel_rfl) (by kernel_rfl) (by kernel_rfl) (by kernel_rfl) rfl (fun _ hw=>(Iv isAgg3 (off:=0) (o:=2) (S.tm rfl) ((S.blk_mem (i:=1) (cells:=(Dm.enc y1)) (b:=b4) (T:=64) rfl (Ir (e':=.blk b4 (Dm.enc y1) 64))).kept hw) rfl)) fun a S=>Hu 8 (by kernel_rfl) rfl (Ea S (fun _=>Dg (vs:=[iV (Dn Ag y1.Race),iV y1.Time]) ⟨(S.tm rfl),(S.tm rfl),trivial⟩ call29) (Lw _ (Dn Ag y1.Race) y1.Time _ hr4) rfl ?_);clear S;intro v5 a w15 hv5 hk14 hn5 S
        subst hv5
        refine Ld (Ij hk14 (Ej 9 S hsel rfl rfl (by kernel_rfl) (by kernel_rfl) rfl (fun _=>(Zj (S.tm rfl) (S.tm rfl))) fun a S=>Ni 10 ([b1]) rfl (by kernel_rfl) rfl (Np (kv:=fun x=>Value.agg (Df.enc x).toArray) (vv:=(Value.int .i64)) (m:=x1) (key:=Df.mk y1.Race y1.Who) (val:=Rt (Gp x1 (Df.mk y1.Race y1.Who) 0) r4) S (i:=3) rfl underlying67 Zx (S.tm rfl) (S.tm rfl) (S.tm rfl) ?_)));clear S;intro w16 hk15 S
        refine Ld (Nj (Rp (by kernel_rfl) ?_))
        clear hsel
        exact ⟨Fz x1 (Df.mk y1.Race y1.Who) (Rt (Gp x1 (Df.mk y1.Race y1.Who) 0) r4),h,S.nf [false,false,true,true] rfl (subR rfl)⟩
       ·exact wp_skip ⟨x1,h,S.nf [false,true,true] rfl (subR rfl)⟩
      clear S h;rintro a w12 ⟨x3,h,S⟩;rw [hj2] at h;clear hj2 j2
      refine Jb (Tn (Fg (Vq S Gb rfl rfl rfl fun a S=>Vm S rfl rfl fun a S=>Dl ?_)))
      exact ⟨ys1,⟨i1 + 1,x3,Fz x2 y1.Who [],vs3,⟨_,(hd1).trans (List.append_cons _ _ _),by simp [hi1]⟩,h,hl3,S.sub ⟨rfl,rfl,rfl,rfl,rfl,rfl,(congrArg (fun z=>some (Value.int .i64 z)) (Jn hd1 hi1 (Ky hs_r))),trivial⟩⟩,Nat.lt_succ_self _⟩
    clear S h;rintro a w6 ⟨x1,x2,vs,h,hl,S⟩;rw [hj1] at h;clear hj1 j1
    refine Tn (Fs (Fr (Vm S rfl rfl fun a S=>Ug (es:=En (fun x=>Value.agg (Df.enc x).toArray) (Value.int .i64) x1) (clk:=x1.length) S (S.map_at (i:=1) rfl) underlying67 (S.tm rfl) rfl ?_)));clear S;intro a w7 b3 hz3 hk6 S
    refine Dl ?_
    obtain ⟨j3,hj3,h⟩:=Fk h
    replace h:=allE h
    refine Er (fun a w'=>∃ x3 : List (ByteArray × List Int),∃ vs3 : List Value,j3 x3 = some r ∧ vs3.length = x3.length ∧ Sx w [] nov ([.map b2 (En Value.string (fun v=>v) (rzM x3 vs3)) (rzM x3 vs3).length] ++ Ia 3 1 eInt vs3 (x3.map (·.2))) [(2,iV Ap),(11,.map (some b2))] 123 a w') ?_ ?_
    ·refine wp_block (Gz (fun (q : List (Df × Int)) a w'=>∃ x3 : List (ByteArray × List Int),∃ vs3 : List Value,∃ sn1 : Array Nat,Nx x1 sn1 = q ∧ (∀ p,p.Perm q → Gw j3 p x3 = some r) ∧ vs3.length = x3.length ∧ Sx w [] nov ([.iter b3 b1 x1.length sn1 x1.length,.map b2 (En Value.string (fun v=>v) (rzM x3 vs3)) (rzM x3 vs3).length,.map b1 (En (fun x=>Value.agg (Df.enc x).toArray) (Value.int .i64) x1) x1.length] ++ Ia 3 1 eInt vs3 (x3.map (·.2))) [(2,iV Ap),(10,.map (some b1)),(11,.map (some b2)),(76,.pointer (some ⟨b3,0,none⟩))] 123 a w') List.length x1 ⟨x2,vs,#[],Uf _,h,hl,S.sub (subR rfl)⟩ ?_)
     clear S h;rintro q a w8 ⟨x3,vs3,sn1,hq,h,hl3,S⟩
     refine Fr (Xf (kv:=fun x=>Value.agg (Df.enc x).toArray) (vv:=(Value.int .i64)) (m:=x1) S (i:=0) rfl (S.map_at (i:=2) rfl) (S.tm rfl) rfl ?_ ?_)
     ·intro hn4;clear S;intro a S
      replace h:=Se h (hq.symm.trans hn4)
      rw [Gw.eq_1] at h
      refine Vq S Es rfl rfl rfl fun a S=>Dl ?_
      exact Fs (wp_cond_false (S.tm rfl) (wp_exit (Ek (Ek (Ha (Tn ⟨x3,vs3,h,hl3,S.nf [false,true,false] rfl (subR rfl)⟩))))))
     ·clear S;intro y2 sn2 a w9 hp1 hl1 hk7 S
      obtain ⟨sq1,h,hn5⟩:=Qv h (by rw [← hq];exact hp1) (fun _=>rfl)
      refine Vq S Es rfl rfl rfl fun a S=>Dl ?_
      refine Fs (wp_cond_true (S.tm rfl) (wp_skip (Tn (wp_block (Fr (lv S (Sk (kv:=fun x=>Value.agg (Df.enc x).toArray) (vv:=(Value.int .i64)) (m:=x1) (e:=y2) (S.holds _ (List.mem_of_getElem? (i:=0) rfl)) (S.map_at (i:=2) rfl) hl1 (S.tm rfl)) rfl fun a S=>Vq S Es rfl rfl rfl fun a S=>Vq S Es rfl rfl rfl fun a S=>Ko S zeroValue70 (cs:=[sV Ec,sV Ec]) rfl rfl ?_))))));clear S;intro a w10 b4 hz4 hk8 S
      refine Hk S (S.tm rfl) (S.tm rfl) (i:=0) (off:=0) rfl sizeOf70 (vs:=(Df.enc y2.1)) rfl rfl rfl rfl ?_;clear S;intro w11 hk9 S
      refine Va S rfl rfl fun a S=>Dl ?_
      replace S : Sx w [] nov ([.blk b4 (Df.enc y2.1) 70,.iter b3 b1 x1.length sn2 x1.length,.map b2 (En Value.string (fun v=>v) (rzM x3 vs3)) (rzM x3 vs3).length,.map b1 (En (fun x=>Value.agg (Df.enc x).toArray) (Value.int .i64) x1) x1.length] ++ Ia 3 1 eInt vs3 (x3.map (·.2))) [(2,iV Ap),(10,.map (some b1)),(11,.map (some b2)),(16,.pointer (some ⟨b4,0,none⟩)),(17,iV y2.2),(76,.pointer (some ⟨b3,0,none⟩))] 123 a w11:=S.sub (subR rfl)
      obtain ⟨vs4,xss4,S1,hback⟩:=Sx.rows_open hl3 y2.1.who_ S
      clear S
      obtain ⟨hc1,h⟩:=Hx h
      generalize hrw : Gp (rzM x3 vs3) y2.1.who_ (.slice none 0 0) = rw1 at S1
      refine Hy [10] (rw1.ownBlock.toList) Tryz.mixed S1 rfl (by kernel_rfl) ?_;clear S1;intro w12 hk10 hsel S
      refine Ej 0 S hsel rfl rfl (by kernel_rfl) (by kernel_rfl) rfl (fun _=>(Rm (S.tm rfl))) fun a S=>Ej 1 S hsel rfl rfl (by kernel_rfl) (by kernel_rfl) rfl (fun _=>(Jk Zw (S.tm rfl))) fun a S=>Fh 2 S hsel rfl (by kernel_rfl) (by kernel_rfl) (by kernel_rfl) (by kernel_rfl) rfl (fun _ hw=>(Iv isAgg9 (off:=0) (o:=1) (S.tm rfl) ((S.blk_mem (i:=1) (cells:=(Df.enc y2.1)) (b:=b4) (T:=70) rfl (Le (i:=0) (j:=1) (e:=_) (e':=.blk b4 (Df.enc y2.1) 70) S rfl rfl rfl)).kept hw) rfl)) fun a S=>Ej 3 S hsel rfl rfl (by kernel_rfl) (by kernel_rfl) rfl (fun _=>(Rm (S.tm rfl))) fun a S=>Ej 4 S hsel rfl rfl (by kernel_rfl) (by kernel_rfl) rfl (fun _=>(Jk Zw (S.tm rfl))) fun a S=>Fh 5 S hsel rfl (by kernel_rfl) (by kernel_rfl) (by kernel_rfl) (by kernel_rfl) rfl (fun _ hw=>(Iv isAgg9 (off:=0) (o:=1) (S.tm rfl) ((S.blk_mem (i:=1) (cells:=(Df.enc y2.1)) (b:=b4) (T:=70) rfl (Le (i:=0) (j:=1) (e:=_) (e':=.blk b4 (Df.enc y2.1) 70) S rfl rfl rfl)).kept hw) rfl)) ?_;clear S;intro a S
      refine Fh 6 S hsel rfl (by kernel_rfl) (by kernel_rfl) (by kernel_rfl) (by kernel_rfl) rfl (fun _ hw=>(Th (kv:=Value.string) (vv:=fun v=>v) (m:=rzM x3 vs3) (key:=y2.1.who_) (z:=.slice none 0 0) (S.map_kept (i:=3) rfl (Le (i:=0) (j:=3) (e:=_) (e':=.map b2 (En Value.string (fun v=>v) (rzM x3 vs3)) (rzM x3 vs3).length) S rfl rfl rfl) hw) underlying68 (Pf underlying9) zeroValue22 (S.tm rfl) (S.tm rfl))) ?_;clear S;intro a S
      rw [hrw] at S
      refine Ej 7 S hsel rfl rfl (by kernel_rfl) (by kernel_rfl) rfl (fun _=>(Rm (S.tm rfl))) fun a S=>Hu 8 (by kernel_rfl) rfl (El S underlying22 sizeOf3 zeroValue3 rfl rfl (pv:=[(0,iV y2.2)]) ⟨rfl,(S.tm rfl),trivial⟩ (cs:=[iV y2.2]) (by kernel_rfl) rfl ?_);clear S;intro a w13 b5 hz5 hk11 S
      refine Ld (Ij (Keep.none hk11) (Hu 9 (by kernel_rfl) rfl ?_))
      refine Na Ji Ex S (S.tm rfl) (i:=1) rfl (S.tm rfl) (j:=0) rfl (ys:=[y2.2]) rfl rfl rfl rfl (by have:=Pq hc1;omega) rfl ?_;clear S;intro v6 a w14 hk12 S
      refine Ld (Ij hk12 ?_)
      refine Ni 10 ([b2]) rfl (by kernel_rfl) rfl (Np (kv:=Value.string) (vv:=fun v=>v) (m:=rzM x3 vs3) (key:=y2.1.who_) (val:=v6) S (i:=4) rfl underlying68 (Pf underlying9) (S.tm rfl) (S.tm rfl) (S.tm rfl) ?_);clear S;intro w15 hk13 S
      refine Ld (Nj (Rp (by kernel_rfl) ?_))
      clear hsel
      obtain ⟨vs5,hl5,he5,hb5⟩:=hback v6 (Gp x3 y2.1.who_ [] ++ [y2.2])
      rw [he5] at S
      replace S : Sx w [] nov (.own v6 3 1 (Gp x3 y2.1.who_ [] ++ [y2.2]).length ((Gp x3 y2.1.who_ [] ++ [y2.2]).flatMap eInt) :: ([.blk b4 (Df.enc y2.1) 70,.iter b3 b1 x1.length sn2 x1.length,.map b2 (En Value.string (fun v=>v) (rzM (Fz x3 y2.1.who_ (Gp x3 y2.1.who_ [] ++ [y2.2])) vs5)) (rzM (Fz x3 y2.1.who_ (Gp x3 y2.1.who_ [] ++ [y2.2])) vs5).length,.map b1 (En (fun x=>Value.agg (Df.enc x).toArray) (Value.int .i64) x1) x1.length] ++ Ia 3 1 eInt vs4 xss4)) _ _ a _:=Sx.drop S (List.sublist_cons_self _ _)
      replace S:=hb5 S
      clear hb5 hback
      obtain rfl:=Option.some.inj h
      exact ⟨Nx x1 sn2,⟨Fz x3 y2.1.who_ (Gp x3 y2.1.who_ [] ++ [y2.2]),vs5,sn2,rfl,hn5,hl5,S.nf [false,true,true,true] rfl (subR rfl)⟩,by have:=hp1.length_eq;rw [hq] at this;simp only [List.length_cons] at this;omega⟩
    clear S h;rintro a w8 ⟨x3,vs3,h,hl3,S⟩;rw [hj3] at h;clear hj3 j3
    rw [BK Value.string 0 x3 vs3,Yy 0 x3 vs3] at S
    have hR:=rowsI_0 x3 vs3
    have hM:=rzT_map 0 x3 vs3 hl3
    generalize rzT 0 x3 vs3 = m3 at S hR hM
    refine Tn (Fs (Fg (Rc (κ:=ByteArray) (ν:=Di) S rfl Value.string (fun x=>Value.agg (Di.enc x).toArray) ?_)));clear S;intro a w9 b6 hz6 hk7 S
    refine Va S rfl rfl fun a S=>Dl (Fs (Fr (Vm S rfl rfl fun a S=>Ug (es:=En Value.string (fun p=>p.2.2) m3) (clk:=m3.length) S (S.map_at (i:=1) rfl) underlying68 (S.tm rfl) rfl ?_)));clear S;intro a w10 b7 hz7 hk8 S
    refine Dl ?_
    obtain ⟨j4,hj4,h⟩:=Fk h
    replace h:=allE h
    refine Er (fun a w'=>∃ x4 : List (ByteArray × Di),j4 x4 = some r ∧ Sx w [] nov [.map b6 (En Value.string (fun x=>Value.agg (Di.enc x).toArray) x4) x4.length] [(18,.map (some b6))] 123 a w') ?_ ?_
    ·refine wp_block (Gz (fun (q : List (ByteArray × (Nat × List Int × Value))) a w'=>∃ x4 : List (ByteArray × Di),∃ vsC : List Value,∃ xsC : List (List Int),∃ sn1 : Array Nat,Nx m3 sn1 = q ∧ (∀ p,p.Perm (q.map (fun e=>(e.1,e.2.2.1))) → Gm Ap j4 p x4 = some r) ∧ Yb q vsC xsC ∧ Sx w [] nov ([.iter b7 b2 m3.length sn1 m3.length,.map b6 (En Value.string (fun x=>Value.agg (Di.enc x).toArray) x4) x4.length,.map b2 (En Value.string (fun p=>p.2.2) m3) m3.length] ++ Ia 3 1 eInt vsC xsC) [(2,iV Ap),(11,.map (some b2)),(18,.map (some b6)),(94,.pointer (some ⟨b7,0,none⟩))] 123 a w') List.length m3 ⟨[],vs3,x3.map (·.2),#[],Uf _,(by rw [hM];exact h),hR,S.sub (subR rfl)⟩ ?_)
     clear S h;rintro q a w11 ⟨x4,vsC,xsC,sn1,hq,h,hR,S⟩
     refine Fr (Xf (kv:=Value.string) (vv:=fun p : Nat × List Int × Value=>p.2.2) (m:=m3) S (i:=0) rfl (S.map_at (i:=2) rfl) (S.tm rfl) rfl ?_ ?_)
     ·intro hn4;clear S;intro a S
      replace h:=Se h (by rw [← hq,hn4];rfl)
      rw [Gm.eq_1] at h
      refine Vq S Es rfl rfl rfl fun a S=>Dl ?_
      exact Fs (wp_cond_false (S.tm rfl) (wp_exit (Ek (Ek (Ha (Tn ⟨x4,h,(Sx.drop S (.cons _ (.cons_cons _ (List.nil_sublist _)))).sub (subR rfl)⟩))))))
     ·clear S;intro y3 sn2 a w12 hp1 hl1 hk9 S
      rw [hq] at hp1
      obtain ⟨sq1,h,hn5⟩:=Qv h (hp1.map _) (fun _=>rfl)
      obtain ⟨hr1,hr2,hR2⟩:=hR.step hp1 (.slice none 0 0) []
      refine Vq S Es rfl rfl rfl fun a S=>Dl ?_
      refine Fs (wp_cond_true (S.tm rfl) (wp_skip (Tn (wp_block (Fr (lv S (Sk (kv:=Value.string) (vv:=fun p : Nat × List Int × Value=>p.2.2) (m:=m3) (e:=y3) (S.holds _ (List.mem_of_getElem? (i:=0) rfl)) (S.map_at (i:=2) rfl) hl1 (S.tm rfl)) rfl fun a S=>Vq S Es rfl rfl rfl fun a S=>Vq S Es rfl rfl rfl fun a S=>Va S rfl rfl fun a S=>Va S rfl rfl fun a S=>Dl ?_))))))
      replace S : Sx w [] nov ([.iter b7 b2 m3.length sn2 m3.length,.map b6 (En Value.string (fun x=>Value.agg (Di.enc x).toArray) x4) x4.length,.map b2 (En Value.string (fun p=>p.2.2) m3) m3.length] ++ Ia 3 1 eInt vsC xsC) [(2,iV Ap),(11,.map (some b2)),(18,.map (some b6)),(19,sV y3.1),(20,y3.2.2.2),(94,.pointer (some ⟨b7,0,none⟩))] 123 a w12:=S.sub (subR rfl)
      replace S:=S.take_row hr1 hr2
      obtain ⟨r5,hr5,h⟩:=Eu h
      obtain ⟨hc2,h⟩:=Hx h
      obtain ⟨j5,hj5,h⟩:=Fk h
      refine Fr (Vm S rfl rfl ?_);clear S;intro a S
      refine Kt 0 S rfl (fun _=>.own y3.2.2.2 3 1 r5.length (r5.flatMap eInt)) (fun _=>Dg (vs:=[y3.2.2.2,.func (.func 33) #[] #[]]) ⟨(S.tm rfl),rfl,trivial⟩ call32) (Lo _ y3.2.2.2 y3.2.2.1 (S.holds _ (List.mem_of_getElem? (i:=0) rfl)) _ hr5) rfl (fun _ _ _ h=>⟨h.1,fun _ hc=>hc⟩) ?_;clear S;intro v7 a w13 hv7 hk10 hn6 S
      refine Dz (Vk S rfl rfl fun a S=>Dl (Fs (Fr (Vm S rfl rfl fun a S=>Vm S rfl rfl fun a S=>Vm S rfl rfl fun a S=>lv S (Gh Ji (S.tm rfl) (Ob (S.own_at (i:=0) rfl))) rfl fun a S=>lv S (Wz (S.tm rfl) (S.tm rfl)) rfl ?_))));clear S;intro a S
      replace S : Sx w [] nov ([.own y3.2.2.2 3 1 r5.length (r5.flatMap eInt),.iter b7 b2 m3.length sn2 m3.length,.map b6 (En Value.string (fun x=>Value.agg (Di.enc x).toArray) x4) x4.length,.map b2 (En Value.string (fun p=>p.2.2) m3) m3.length] ++ Ia 3 1 eInt (vsC.set y3.2.1 (.slice none 0 0)) (xsC.set y3.2.1 [])) [(2,iV Ap),(11,.map (some b2)),(18,.map (some b6)),(19,sV y3.1),(21,iV 0),(94,.pointer (some ⟨b7,0,none⟩)),(102,y3.2.2.2),(106,iV (On Ap (r5.length : Int)))] 123 a w13:=S.sub (subR rfl)
      generalize hmn : On Ap (r5.length : Int) = mn at S h hc2
      obtain ⟨u1,hu1,hr6⟩:=Zs (a:=a) (x:=.tmp 102) (y':=.tmp 106) (ty:=22) Ji S (i:=0) rfl (S.tm rfl) (S.tm rfl) hc2
      refine lv S (hr6 _) rfl ?_;clear S hr6;intro a S
      have hln : mn.toNat - (0 : Int).toNat = (cut r5 0 mn).length:=by
        obtain ⟨c1,c2,c3⟩:=Lp.1 hc2
        simp [cut];omega
      have hmx : (cut r5 0 mn).length ≤ 9223372036854775807:=by
        have:=Zo (S.own_at (i:=0) rfl)
        have h2 : (cut r5 0 mn).length ≤ r5.length:=by simp [cut];omega
        omega
      have hsl:=CX hu1
      rw [hln] at hsl
      refine lv S (Gh Ji (S.tm rfl) hsl) rfl fun a S=>lv S (Rm rfl) rfl fun a S=>Dl ?_
      generalize hcr : cut r5 0 mn = zs at S h hmx hsl hln
      replace S : Sx w [] nov ([.own y3.2.2.2 3 1 r5.length (r5.flatMap eInt),.iter b7 b2 m3.length sn2 m3.length,.map b6 (En Value.string (fun x=>Value.agg (Di.enc x).toArray) x4) x4.length,.map b2 (En Value.string (fun p=>p.2.2) m3) m3.length] ++ Ia 3 1 eInt (vsC.set y3.2.1 (.slice none 0 0)) (xsC.set y3.2.1 [])) [(2,iV Ap),(11,.map (some b2)),(18,.map (some b6)),(19,sV y3.1),(21,iV 0),(94,.pointer (some ⟨b7,0,none⟩)),(107,u1),(108,iV (zs.length : Int)),(109,iV 0)] 123 a w13:=S.sub (subR rfl)
      refine Er (fun a w'=>∃ s1 : Int,j5 s1 = some sq1 ∧ Sx w [] nov ([.own y3.2.2.2 3 1 r5.length (r5.flatMap eInt),.iter b7 b2 m3.length sn2 m3.length,.map b6 (En Value.string (fun x=>Value.agg (Di.enc x).toArray) x4) x4.length,.map b2 (En Value.string (fun p=>p.2.2) m3) m3.length] ++ Ia 3 1 eInt (vsC.set y3.2.1 (.slice none 0 0)) (xsC.set y3.2.1 [])) [(2,iV Ap),(11,.map (some b2)),(18,.map (some b6)),(19,sV y3.1),(21,iV s1),(94,.pointer (some ⟨b7,0,none⟩))] 123 a w') ?_ ?_
      ·refine wp_block (Gz (fun (ys4 : List Int) a w'=>∃ i4 : Nat,∃ s1 : Int,(∃ dn,zs = dn ++ ys4 ∧ dn.length = i4) ∧ Gl j5 ys4 i4 s1 = some sq1 ∧ Sx w [] nov ([.own y3.2.2.2 3 1 r5.length (r5.flatMap eInt),.iter b7 b2 m3.length sn2 m3.length,.map b6 (En Value.string (fun x=>Value.agg (Di.enc x).toArray) x4) x4.length,.map b2 (En Value.string (fun p=>p.2.2) m3) m3.length] ++ Ia 3 1 eInt (vsC.set y3.2.1 (.slice none 0 0)) (xsC.set y3.2.1 [])) [(2,iV Ap),(11,.map (some b2)),(18,.map (some b6)),(19,sV y3.1),(21,iV s1),(94,.pointer (some ⟨b7,0,none⟩)),(107,u1),(108,iV (zs.length : Int)),(109,iV (i4 : Int))] 123 a w') List.length zs ⟨0,0,⟨[],rfl,rfl⟩,h,S.sub (subR rfl)⟩ ?_)
       clear S h;rintro ys4 a w14 ⟨i4,s1,⟨dn,hd4,hi4⟩,h,S⟩
       cases ys4 with
       | nil =>
        rw [Gl.eq_1] at h
        refine Fr (Vb S Fi rfl rfl rfl fun a S=>Dl ?_)
        exact Fs (wp_cond_false ((S.tm rfl).trans (congrArg Value.bool (Kq hd4 hi4))) (wp_exit (Ek (Ek (Ha (Tn ⟨s1,h,S.sub (subR rfl)⟩))))))
       | cons y4 ys4 =>
        rw [Gl.eq_2] at h
        refine Fr (Vb S Fi rfl rfl rfl fun a S=>Dl ?_)
        refine Fs (wp_cond_true ((S.tm rfl).trans (congrArg Value.bool (Jm hd4 hi4))) (wp_skip (Tn (Fs ?_))))
        have hj6:=Kd hd4 hi4
        rw [← hcr] at hj6
        obtain ⟨hj7,hlt⟩:=CZ hj6
        have hj8 : r5[(0 : Int).toNat + (i4 : Int).toNat]? = some y4:=by simpa using hj7
        have hc3 : inB (i4 : Int) (mn.toNat - (0 : Int).toNat) = true:=Im.2 ⟨by omega,by omega⟩
        obtain ⟨b8,hg8,hr7⟩:=Oq (a:=a) (x:=.tmp 107) (y:=.tmp 109) (ty:=0) Ji Ex S (i:=0) rfl hu1 hc3 (S.tm rfl) (S.tm rfl)
        refine wp_block (Fr (lv S (hr7 _) rfl ?_));clear S hr7;intro a S
        refine lv S (Iv isAgg3 (off:=((0 : Int).toNat + (i4 : Int).toNat) * 1) (o:=0) (cs:=[iV y4]) (v:=iV y4) (S.tm rfl) (show Kp w14 b8 _ [iV y4] from Mm (enc:=eInt) Ex S (i:=0) rfl hg8 hj8) rfl) rfl fun a S=>Va S rfl rfl fun a S=>Dl (Fg (Vm S rfl rfl fun a S=>Vm S rfl rfl fun a S=>Vb S Gb rfl rfl rfl fun a S=>Va S rfl rfl fun a S=>Ld ?_))
        refine Jb (Tn (Fg (Vq S Gb rfl rfl rfl fun a S=>Vm S rfl rfl fun a S=>Dl ?_)))
        exact ⟨ys4,⟨i4 + 1,W (s1 + y4),⟨_,(hd4).trans (List.append_cons _ _ _),by simp [hi4]⟩,h,S.sub ⟨rfl,rfl,rfl,rfl,rfl,rfl,rfl,rfl,(congrArg (fun z=>some (Value.int .i64 z)) (Jn hd4 hi4 hmx)),trivial⟩⟩,Nat.lt_succ_self _⟩
      clear S h;rintro a w14 ⟨s1,h,S⟩;rw [hj5] at h;clear hj5 j5
      obtain rfl:=Option.some.inj h
      refine Tn (Fg (Vm S rfl rfl fun a S=>Vm S rfl rfl fun a S=>Vm S rfl rfl fun a S=>lv S (Pv bt_54 (pv:=[(0,iV s1),(1,iV 1)]) ⟨rfl,(S.tm rfl),rfl,rfl,trivial⟩ (cs:=[iV s1,iV 1]) (by kernel_rfl)) rfl fun a S=>Np (kv:=Value.string) (vv:=(fun x=>Value.agg (Di.enc x).toArray)) (m:=x4) (key:=y3.1) (val:=Di.mk s1 1) S (i:=2) rfl underlying71 (Pf underlying9) (S.tm rfl) (S.tm rfl) (S.tm rfl) ?_));clear S;intro w15 hk11 S
      replace S : Sx w [] nov (.own y3.2.2.2 3 1 r5.length (r5.flatMap eInt) :: ([.iter b7 b2 m3.length sn2 m3.length,.map b6 (En Value.string (fun x=>Value.agg (Di.enc x).toArray) (Fz x4 y3.1 (Di.mk s1 1))) (Fz x4 y3.1 (Di.mk s1 1)).length,.map b2 (En Value.string (fun p=>p.2.2) m3) m3.length] ++ Ia 3 1 eInt (vsC.set y3.2.1 (.slice none 0 0)) (xsC.set y3.2.1 []))) [(2,iV Ap),(11,.map (some b2)),(18,.map (some b6)),(94,.pointer (some ⟨b7,0,none⟩))] 123 a w15:=S.sub (subR rfl)
      refine Ld ?_
      exact ⟨Nx m3 sn2,⟨Fz x4 y3.1 (Di.mk s1 1),vsC.set y3.2.1 (.slice none 0 0),xsC.set y3.2.1 [],sn2,rfl,hn5,hR2,Sx.drop S (List.sublist_cons_self _ _)⟩,by have:=hp1.length_eq;simp only [List.length_cons] at this;omega⟩
    clear S h;rintro a w11 ⟨x4,h,S⟩;rw [hj4] at h;clear hj4 j4
    obtain ⟨r6,hr6,h⟩:=Eu h
    obtain rfl:=Option.some.inj h
    refine Tn (Fr (Vm S rfl rfl ?_));clear S;intro a S
    have hz8:=S.keep.size
    refine Ea S (fun _=>Dg (vs:=[.map (some b6)]) ⟨(S.tm rfl),trivial⟩ call34) (Uv _ b6 x4 (S.map_view (i:=0) rfl (fun _ _=>List.not_mem_nil)) _ hr6) rfl ?_;clear S;intro v8 a w12 hv8 hk9 hn7 S
    replace S:=S.take hn7 hz8 hv8
    refine Va S rfl rfl fun a S=>Vk S rfl rfl fun a S=>Dl (wp_ret ?_)
    exact Ns S results10 rfl rfl ⟨_,rfl,Xv S (i:=0) rfl rfl⟩
theorem Oi (w : World) (Av : Int) (Az : Int) (Au : Int) (r : Bool) (h : Gy Av Az Au = r) :
    Calls prog 36 [iV Av,iV Az,iV Au].toArray w (Ret w [] fun _ v _=>v = bV r):=by
 refine Fe func36 rfl ntmps36 rfl fun a S=>?_
 unfold Gy at h
 replace S:=S.k3 0 1 2 rfl
 refine Fr (Vk S rfl rfl fun a S=>Dz (Vm S rfl rfl fun a S=>Vm S rfl rfl fun a S=>Vb S Ow rfl rfl rfl fun a S=>Vm S rfl rfl ?_));clear S;intro a S
 refine Ii 4 (fun a w'=>Keep [] w w' ∧ Sx w [] nov [] [(14,bV ((decide (Az ≤ Av)) && (decide (Av ≤ Au))))] 15 a w') ?_ ?_
 ·rcases Bool.eq_false_or_eq_true (decide (Az ≤ Av)) with hb1 | hb1
  ·exact Dx S rfl rfl rfl hb1 (Vm S rfl rfl fun a S=>Dx S rfl rfl rfl hb1 (Vm S rfl rfl fun a S=>Dx S rfl rfl rfl hb1 (Vb S Ow rfl rfl rfl fun a S=>lv S (Hm hb1 (S.tm rfl) (S.tm rfl)) rfl fun a S=>Dl (⟨Keep.refl _ _,S.nf [] rfl ⟨rfl,trivial⟩⟩))))
  ·iterate 3 (refine Hh S rfl rfl rfl (Kl hb1) rfl ?_ rfl;clear S;intro a S)
   exact lv S (Hn (decide (Av ≤ Au)) hb1 (S.tm rfl) rfl) rfl fun a S=>Dl (⟨Keep.refl _ _,S.nf [] rfl ⟨rfl,trivial⟩⟩)
 clear S;rintro a w1 ⟨hk1,S⟩
 refine Va S rfl rfl fun a S=>Dl (wp_ret ?_)
 subst h
 exact Fj S results36 rfl rfl
theorem Qp (w : World) (s : ByteArray) (c : Int) (r : Int) (h : Lm s c = r) : Calls prog 71 [.string s,.int .u8 c].toArray w (Ret w [] fun _ v _=>v = .int .i64 r):=by
  subst h
  exact Tq (Any.strings_IndexByte Tryz.lays137 s c w)
theorem Pl (w : World) (Ao : ByteArray) (Bu : ByteArray) (r : Bool) (h : Lh Ao Bu = some r) :
    Calls prog 53 [sV Ao,sV Bu].toArray w (Ret w [] fun _ v _=>v = bV r):=by
 refine Fe func53 rfl ntmps53 rfl fun a S=>?_
 unfold Lh at h
 replace S:=S.k2 0 1 rfl
 refine Fr (Vk S rfl rfl fun a S=>Dl (Fs (Fr (Vm S rfl rfl fun a S=>Vu S (Pt underlying9) rfl rfl fun a S=>lv S (Rm rfl) rfl ?_))));clear S;intro a S
 refine Dl ?_
 replace S:=S.k4 0 1 7 8 rfl
 obtain ⟨j1,hj1,h⟩:=Fk h
 refine Er (fun a w'=>j1 = some r ∧ Sx w [] nov [] [] 18 a w') ?_ ?_
 ·refine wp_block (Gz (fun (m1 : Nat) a w'=>∃ x1 : Int,Gx Ao Bu j1 m1 x1 = some r ∧ Sx w [] nov [] [(0,sV Ao),(1,sV Bu),(7,iV (Ao.size : Int)),(8,iV x1)] 18 a w') id (((Ao.size : Int) - 0).toNat + 2) ⟨0,h,S.nf [] rfl (subR rfl)⟩ ?_)
  clear S h;rintro m1 a w1 ⟨x1,h,S⟩
  cases m1 with
  | zero=>rw [Gx.eq_1] at h;cases h
  | succ m1 =>
   rw [Gx.eq_2] at h
   refine Fr (Vb S Fi rfl rfl rfl fun a S=>Dl (Fs (Fc h (S.tm rfl) (fun hb1 h=>?_) (fun hb1 h=>?_))))
   ·refine wp_skip (Tn (Fs (wp_block (Fr (Vm S rfl rfl fun a S=>Va S rfl rfl fun a S=>Dl (Fs ?_))))))
    refine Fg ?_
    iterate 3 (refine Vm S rfl rfl ?_;clear S;intro a S)
    obtain ⟨hc1,h⟩:=Hx h
    refine lv S (Of underlying9 (S.tm rfl) (S.tm rfl) hc1) rfl fun a S=>Ea S (fun _=>Dg (vs:=[sV Bu,.int .u8 (Ma Ao x1)]) ⟨(S.tm rfl),(S.tm rfl),trivial⟩ call71) (Qp _ Bu (Ma Ao x1) _ rfl) rfl ?_;clear S;intro v1 a w3 hv1 hk1 hn1 S
    subst hv1
    refine Vq S Fi rfl rfl rfl fun a S=>Dl (Fc h (S.tm rfl) (fun hb2 h=>?_) (fun hb2 h=>?_))
    ·refine Fr (Vk S rfl rfl fun a S=>Dl (wp_ret (Hj (Dy (Dy (Hj (Dy ?_)))))))
     refine Dy ?_
     obtain rfl:=Option.some.inj h
     exact Fj S results53 rfl rfl
    ·exact wp_skip (Jb (Tn (Fg (Vq S Gb rfl rfl rfl fun a S=>Vm S rfl rfl fun a S=>Dl (⟨m1,⟨W (x1 + 1),h,S.nf [] rfl ⟨rfl,rfl,rfl,rfl,trivial⟩⟩,Nat.lt_succ_self _⟩)))))
   ·exact wp_exit (Ek (Ek (Ha (Tn (⟨h,S.nf [] rfl trivial⟩)))))
 clear S h;rintro a w2 ⟨h,S⟩;rw [hj1] at h;clear hj1 j1
 refine Tn (Fr (Vk S rfl rfl fun a S=>Dl (wp_ret ?_)))
 obtain rfl:=Option.some.inj h
 exact Fj S results53 rfl rfl
theorem Nt (w : World) (Ao : ByteArray) (r : Bool) (h : Js Ao = some r) :
    Calls prog 35 [sV Ao].toArray w (Ret w [] fun _ v _=>v = bV r):=by
 refine Fe func35 rfl ntmps35 rfl fun a S=>?_
 unfold Js at h
 replace S:=S.k1 0 rfl
 refine Fr (Vk S rfl rfl fun a S=>Dz (Vm S rfl rfl fun a S=>Vu S (Pt underlying9) rfl rfl fun a S=>Ea S (fun _=>Dg (vs:=[iV (Ao.size : Int),iV 1,iV 40]) ⟨(S.tm rfl),rfl,rfl,trivial⟩ call36) (Oi _ (Ao.size : Int) 1 40 _ rfl) rfl ?_));clear S;intro v1 a w1 hv1 hk1 hn1 S
 subst hv1
 refine Vm S rfl rfl ?_;clear S;intro a S
 obtain ⟨j1,hj1,h⟩:=Fk h
 refine Ii 4 (fun a w'=>∃ c1,j1 c1 = some r ∧ Keep [] w1 w' ∧ Sx w [] nov [] [(0,sV Ao),(10,bV c1)] 15 a w') ?_ ?_
 ·rcases Bool.eq_false_or_eq_true (Gy (Ao.size : Int) 1 40) with hb1 | hb1
  ·replace h:=Sc h hb1
   refine Dx S rfl rfl rfl hb1 (Vm S rfl rfl fun a S=>Dx S rfl rfl rfl hb1 ?_)
   obtain ⟨hc1,h⟩:=Hx h
   refine lv S (BF underlying9 (S.tm rfl) rfl hc1) rfl fun a S=>Dx S rfl rfl rfl hb1 ?_
   obtain ⟨r1,hr1,h⟩:=Eu h
   refine Ea S (fun _=>Dg (vs:=[sV (Xu Ao 0 1),sV Gj]) ⟨(S.tm rfl),rfl,trivial⟩ call53) (Pl _ (Xu Ao 0 1) Gj _ hr1) rfl ?_;clear S;intro v2 a w3 hv2 hk2 hn2 S
   subst hv2
   exact lv S (Hm hb1 (S.tm rfl) (S.tm rfl)) rfl fun a S=>Dl (⟨_,h,hk2,S.nf [] rfl (subR rfl)⟩)
  ·replace h:=Sd h hb1
   iterate 3 (refine Hh S rfl rfl rfl (Kl hb1) rfl ?_ rfl;clear S;intro a S)
   exact Vq S (Hn true hb1) rfl rfl rfl fun a S=>Dl (⟨_,h,Keep.refl _ _,S.nf [] rfl (subR rfl)⟩)
 clear S h;rintro a w2 ⟨c1,h,hk3,S⟩;rw [hj1] at h;clear hj1 j1
 refine Vm S rfl rfl ?_;clear S;intro a S
 obtain ⟨j2,hj2,h⟩:=Fk h
 refine Ii 3 (fun a w'=>∃ c2,j2 c2 = some r ∧ Keep [] w2 w' ∧ Sx w [] nov [] [(14,bV c2)] 15 a w') ?_ ?_
 ·rcases Bool.eq_false_or_eq_true c1 with hb2 | hb2
  ·replace h:=Sc h hb2
   refine Dx S rfl rfl rfl hb2 (Vm S rfl rfl fun a S=>Dx S rfl rfl rfl hb2 ?_)
   obtain ⟨r2,hr2,h⟩:=Eu h
   refine Ea S (fun _=>Dg (vs:=[sV Ao,sV Em]) ⟨(S.tm rfl),rfl,trivial⟩ call53) (Pl _ Ao Em _ hr2) rfl ?_;clear S;intro v3 a w5 hv3 hk4 hn3 S
   subst hv3
   exact lv S (Hm hb2 (S.tm rfl) (S.tm rfl)) rfl fun a S=>Dl (⟨_,h,hk4,S.nf [] rfl ⟨rfl,trivial⟩⟩)
  ·replace h:=Sd h hb2
   exact Hh S rfl rfl rfl (Kl hb2) rfl (fun a S=>Hh S rfl rfl rfl (Kl hb2) rfl (fun a S=>Vq S (Hn true hb2) rfl rfl rfl fun a S=>Dl (⟨_,h,Keep.refl _ _,S.nf [] rfl ⟨rfl,trivial⟩⟩)) rfl) rfl
 clear S h;rintro a w4 ⟨c2,h,hk5,S⟩;rw [hj2] at h;clear hj2 j2
 refine Va S rfl rfl fun a S=>Dl (wp_ret ?_)
 obtain rfl:=Option.some.inj h
 exact Fj S results35 rfl rfl
theorem Lj (w : World) (Ab : Value) (Ag : List Dw) (Ah : Slc (view w []) 2 Ab (Ag.map Dw.enc)) (r : Int) (h : Ik Ag = some r) :
    Calls prog 12 [Ab].toArray w (Ret w [] fun _ v _=>v = iV r):=by
 refine Fe func12 rfl ntmps12 rfl fun a S=>?_
 unfold Ik at h
 replace S:=S.k1 0 rfl
 refine Fr (Vk S rfl rfl fun a S=>Dl (Fs (Fr (Vm S rfl rfl fun a S=>lv S (Gh Ot (S.tm rfl) (Hr Ah)) rfl fun a S=>Vq S Ki rfl rfl rfl ?_))));clear S;intro a S
 refine Dl (Fc h (S.tm rfl) (fun hb1 h=>?_) (fun hb1 h=>?_))
 ·refine Fr (Vk S rfl rfl fun a S=>Dl (wp_ret (Dy ?_)))
  obtain rfl:=Option.some.inj h
  exact Fj S results12 rfl rfl
 ·refine wp_skip (Tn (Fr (Vk S rfl rfl fun a S=>Dl (Fs (Fr (Vm S rfl rfl ?_))))));clear S;intro a S
  refine lv S (Gh Ot (S.tm rfl) (Hr Ah)) rfl fun a S=>lv S (Rm rfl) rfl fun a S=>Dl ?_
  replace S:=S.k4 3 9 10 11 rfl
  obtain ⟨j1,hj1,h⟩:=Fk h
  refine Er (fun a w'=>j1 = some r ∧ Sx w [] nov [] [] 33 a w') ?_ ?_
  ·refine wp_block (Gz (fun (ys1 : List Dw) a w'=>∃ i1 : Nat,∃ x1 : ByteArray,(∃ dn,Ag = dn ++ ys1 ∧ dn.length = i1) ∧ Fq j1 ys1 i1 x1 = some r ∧ Sx w [] nov [] [(3,sV x1),(9,Ab),(10,iV (Ag.length : Int)),(11,iV (i1 : Int))] 33 a w') List.length Ag ⟨0,Ec,⟨[],rfl,rfl⟩,h,S.nf [] rfl (subR rfl)⟩ ?_)
   clear S h;rintro ys1 a w1 ⟨i1,x1,⟨dn,hd1,hi1⟩,h,S⟩
   cases ys1 with
   | nil =>
    rw [Fq.eq_1] at h
    refine Fr (Vb S Fi rfl rfl rfl fun a S=>Ld ?_)
    replace S:=S.k5 3 9 10 11 12 rfl
    exact Tn (Fs (wp_cond_false ((S.tm rfl).trans (congrArg Value.bool (Kq hd1 hi1))) (wp_exit (Ek (Ek (Ha (Tn (⟨h,S.nf [] rfl trivial⟩))))))))
   | cons y1 ys1 =>
    rw [Fq.eq_2] at h
    refine Fr (Vb S Fi rfl rfl rfl fun a S=>Ld ?_)
    replace S:=S.k5 3 9 10 11 12 rfl
    refine Tn (Fs (wp_cond_true ((S.tm rfl).trans (congrArg Value.bool (Jm hd1 hi1))) (wp_skip (Tn (Fs (wp_block (Fs (Fg ?_))))))))
    obtain ⟨b1,o1,hm1,hr1⟩:=Hs (a:=a) (x:=.tmp 9) (y:=.tmp 11) (ty:=0) Ot Ah (Kd hd1 hi1) rfl (S.tm rfl) (S.tm rfl)
    refine lv S (hr1 _) rfl ?_;clear S;intro a S
    clear hr1
    refine lv S (Kk isAgg45 sizeOf45 (off:=o1) (o:=0) (part:=(Dw.enc y1)) rfl rfl (S.tm rfl) (hm1.at S.emb0)) rfl fun a S=>Ko S zeroValue45 (cs:=[sV Ec,iV 0]) rfl rfl ?_;clear S;intro a w3 b2 hz1 hk1 S
    refine Hk S (S.tm rfl) (S.tm rfl) (i:=0) (off:=0) rfl sizeOf45 (vs:=(Dw.enc y1)) rfl rfl rfl rfl ?_;clear S;intro w4 hk2 S
    refine Dl (Fs (wp_block (Fr (Vf Nk S rfl rfl fun a S=>Vl isAgg9 0 S rfl rfl rfl rfl ?_))));clear S;intro a S
    obtain ⟨r1,hr2,h⟩:=Eu h
    refine Ea S (fun _=>Dg (vs:=[sV y1.Race]) ⟨(S.tm rfl),trivial⟩ call35) (Nt _ y1.Race _ hr2) rfl ?_;clear S;intro v1 a w5 hv1 hk3 hn1 S
    subst hv1
    refine Vu S Li rfl rfl fun a S=>Va S rfl rfl fun a S=>Dl (Fc h (S.tm rfl) (fun hb2 h=>?_) (fun hb2 h=>?_))
    ·refine Fr (Vk S rfl rfl fun a S=>Dl (wp_ret (Hj (Dy (Hj (Dy (Dy ?_)))))))
     refine Hj (Dy (Dy ?_))
     obtain rfl:=Option.some.inj h
     exact Fj S results12 rfl rfl
    ·refine Fr (Vf Nk S rfl rfl fun a S=>Vl isAgg9 0 S rfl rfl rfl rfl fun a S=>Vm S rfl rfl fun a S=>Vb S Zi rfl rfl rfl fun a S=>Va S rfl rfl fun a S=>Ld ?_)
     replace S:=(S.nl [.blk b2 (Dw.enc y1) 45] [true] rfl).k5 5 9 10 11 20 rfl
     refine Tn (Fc h (S.tm rfl) (fun hb3 h=>?_) (fun hb3 h=>?_))
     ·refine Fr (Vk S rfl rfl fun a S=>Dl (wp_ret (Hj (Dy (Hj (Dy (Dy ?_)))))))
      refine Hj (Dy (Dy ?_))
      obtain rfl:=Option.some.inj h
      exact Fj S results12 rfl rfl
     ·refine Fr (Vf So S rfl rfl fun a S=>Vl isAgg3 0 S rfl rfl rfl rfl fun a S=>Ea S (fun _=>Dg (vs:=[iV y1.Time,iV 1,iV 360000]) ⟨(S.tm rfl),rfl,rfl,trivial⟩ call36) (Oi _ y1.Time 1 360000 _ rfl) rfl ?_);clear S;intro v2 a w6 hv2 hk4 hn2 S
      subst hv2
      refine Vu S Li rfl rfl fun a S=>Va S rfl rfl fun a S=>Dl (Fc h (S.tm rfl) (fun hb4 h=>?_) (fun hb4 h=>?_))
      ·refine Fr (Vk S rfl rfl fun a S=>Dl (wp_ret (Hj (Dy (Hj (Dy (Dy ?_)))))))
       refine Hj (Dy (Dy ?_))
       obtain rfl:=Option.some.inj h
       exact Fj S results12 rfl rfl
      ·refine wp_skip (Jb (Tn (Fg (Vf Nk S rfl rfl fun a S=>Vl isAgg9 0 S rfl rfl rfl rfl fun a S=>Va S rfl rfl fun a S=>Ld (Jb (Tn (Fg ?_)))))))
       exact Vq S Gb rfl rfl rfl fun a S=>Vm S rfl rfl fun a S=>Dl (⟨ys1,⟨i1 + 1,y1.Race,⟨_,(hd1).trans (List.append_cons _ _ _),by simp [hi1]⟩,h,S.nf [false] rfl ⟨rfl,rfl,rfl,(congrArg (fun z=>some (Value.int .i64 z)) (Jn hd1 hi1 (Ky Ah))),trivial⟩⟩,Nat.lt_succ_self _⟩)
  clear S h;rintro a w2 ⟨h,S⟩;rw [hj1] at h;clear hj1 j1
  refine Tn (Fr (Vk S rfl rfl fun a S=>Dl (wp_ret ?_)))
  obtain rfl:=Option.some.inj h
  exact Fj S results12 rfl rfl
theorem Mx (w : World) (Ai : Dw) (Bx : Nat) (Bl : ByteArray) (By : (view w []) Bx = some (.cells [sV Bl].toArray 9 (0,0))) (r : Bool) (h : Ih Ai Bl = r) :
    Calls prog 15 [.agg (Dw.enc Ai).toArray,.pointer (some ⟨Bx,0,none⟩)].toArray w (Ret w [] fun _ v _=>v = bV r):=by
 refine Fe func15 rfl ntmps15 rfl fun a S=>?_
 unfold Ih at h
 replace S:=S.k2 0 1 rfl
 refine Fr (Uo S (S.tm rfl) (cs:=(Dw.enc Ai)) rfl rfl ?_);clear S;intro a w1 b1 hz1 hk1 S
 refine Vk S rfl rfl fun a S=>Dz (Vf Nk S rfl rfl fun a S=>Vl isAgg9 0 S rfl rfl rfl rfl fun a S=>lv S (Iv isAgg9 (off:=0) (o:=0) (S.tm rfl) ((Rb By).at S.emb0) rfl) rfl fun a S=>Vb S Qw rfl rfl rfl fun a S=>Va S rfl rfl fun a S=>Ld ?_)
 refine Tn (wp_ret ?_)
 subst h
 exact Fj S results15 rfl rfl
theorem Jq (w : World) (Am : Value) (Ao : List Dw) (Bz : Slc (view w []) 2 Am (Ao.map Dw.enc)) (Bg : Nat) (Bt : ByteArray) (Bw : (view w []) Bg = some (.cells [sV Bt].toArray 9 (0,0))) (r : Int) (h : Gd Ao Bt = r) :
    Calls prog 37 [Am,.func (.func 15) #[] #[.pointer (some ⟨Bg,0,none⟩)]].toArray w (Ret w [] fun _ v _=>v = iV r):=by
 refine Fe func37 rfl ntmps37 rfl fun a S=>?_
 unfold Gd at h
 replace S:=S.k2 0 1 rfl
 refine Fr (Vk S rfl rfl fun a S=>Dl (Fs (Fr (Vm S rfl rfl fun a S=>lv S (Gh Ot (S.tm rfl) (Hr Bz)) rfl fun a S=>lv S (Rm rfl) rfl ?_))));clear S;intro a S
 refine Dl ?_
 replace S:=S.k4 0 1 7 8 rfl
 obtain ⟨j1,hj1,h⟩:=Fk h
 refine Er (fun a w'=>j1 = r ∧ Sx w [] nov [] [] 19 a w') ?_ ?_
 ·refine wp_block (Gz (fun (ys1 : List Dw) a w'=>∃ i1 : Nat,(∃ dn,Ao = dn ++ ys1 ∧ dn.length = i1) ∧ Dh Bt j1 ys1 i1 = r ∧ Sx w [] nov [] [(0,Am),(1,.func (.func 15) #[] #[.pointer (some ⟨Bg,0,none⟩)]),(7,iV (Ao.length : Int)),(8,iV (i1 : Int))] 19 a w') List.length Ao ⟨0,⟨[],rfl,rfl⟩,h,S.nf [] rfl (subR rfl)⟩ ?_)
  clear S h;rintro ys1 a w1 ⟨i1,⟨dn,hd1,hi1⟩,h,S⟩
  cases ys1 with
  | nil =>
   rw [Dh.eq_1] at h
   refine Fr (Vb S Fi rfl rfl rfl fun a S=>Ld ?_)
   replace S:=S.k5 0 1 7 8 9 rfl
   exact Tn (Fs (wp_cond_false ((S.tm rfl).trans (congrArg Value.bool (Kq hd1 hi1))) (wp_exit (Ek (Ek (Ha (Tn (⟨h,S.nf [] rfl trivial⟩))))))))
  | cons y1 ys1 =>
   rw [Dh.eq_2] at h
   refine Fr (Vb S Fi rfl rfl rfl fun a S=>Ld ?_)
   replace S:=S.k5 0 1 7 8 9 rfl
   refine Tn (Fs (wp_cond_true ((S.tm rfl).trans (congrArg Value.bool (Jm hd1 hi1))) (wp_skip (Tn (Fs (wp_block (Fr (Vm S rfl rfl fun a S=>Va S rfl rfl ?_))))))));clear S;intro a S
   refine Dl (Fs (Fg ?_))
   iterate 3 (refine Vm S rfl rfl ?_;clear S;intro a S)
   obtain ⟨b1,o1,hm1,hr1⟩:=Hs (a:=a) (x:=.tmp 12) (y:=.tmp 13) (ty:=0) Ot Bz (Kd hd1 hi1) rfl (S.tm rfl) (S.tm rfl)
   refine lv S (hr1 _) rfl ?_;clear S;intro a S
   clear hr1
   refine lv S (Kk isAgg45 sizeOf45 (off:=o1) (o:=0) (part:=(Dw.enc y1)) rfl rfl (S.tm rfl) (hm1.at S.emb0)) rfl fun a S=>Ea S (fun _=>Qx (cap:=[.pointer (some ⟨Bg,0,none⟩)]) (S.tm rfl) (vs:=[.agg (Dw.enc y1).toArray]) ⟨(S.tm rfl),trivial⟩ call15) (Mx _ y1 Bg Bt ((S.le_arg Gi) _ _ Bw) _ rfl) rfl ?_;clear S;intro v1 a w3 hv1 hk1 hn1 S
   subst hv1
   refine Dl (Fc h (S.tm rfl) (fun hb1 h=>?_) (fun hb1 h=>?_))
   ·refine Fr (Vm S rfl rfl fun a S=>Va S rfl rfl fun a S=>Ld ?_)
    replace S:=S.k1 4 rfl
    refine Tn (wp_ret (Hj (Dy (Dy (Hj (Dy (Dy ?_)))))))
    subst h
    exact Fj S results37 rfl rfl
   ·exact wp_skip (Jb (Tn (Fg (Vq S Gb rfl rfl rfl fun a S=>Vm S rfl rfl fun a S=>Dl (⟨ys1,⟨i1 + 1,⟨_,(hd1).trans (List.append_cons _ _ _),by simp [hi1]⟩,h,S.nf [] rfl ⟨rfl,rfl,rfl,(congrArg (fun z=>some (Value.int .i64 z)) (Jn hd1 hi1 (Ky Bz))),trivial⟩⟩,Nat.lt_succ_self _⟩)))))
 clear S h;rintro a w2 ⟨h,S⟩;rw [hj1] at h;clear hj1 j1
 refine Tn (Fr (Vk S rfl rfl fun a S=>Dl (wp_ret ?_)))
 subst h
 exact Fj S results37 rfl rfl
theorem Jj (w : World) (Am : Value) (Ao : List Dw) (Bz : Slc (view w []) 2 Am (Ao.map Dw.enc)) (Bg : Nat) (Bt : ByteArray) (Bw : (view w []) Bg = some (.cells [sV Bt].toArray 9 (0,0))) (r : Bool) (h : An Ao Bt = r) :
    Calls prog 14 [Am,.func (.func 15) #[] #[.pointer (some ⟨Bg,0,none⟩)]].toArray w (Ret w [] fun _ v _=>v = bV r):=by
 refine Fe func14 rfl ntmps14 rfl fun a S=>?_
 unfold An at h
 replace S:=S.k2 0 1 rfl
 refine Fr (Vk S rfl rfl fun a S=>Dz (Vm S rfl rfl fun a S=>Vm S rfl rfl fun a S=>Ea S (fun _=>Dg (vs:=[Am,.func (.func 15) #[] #[.pointer (some ⟨Bg,0,none⟩)]]) ⟨(S.tm rfl),(S.tm rfl),trivial⟩ call37) (Jq _ Am Ao (Bz.mono (S.le_arg Gi)) Bg Bt ((S.le_arg Gi) _ _ Bw) _ rfl) rfl ?_));clear S;intro v1 a w1 hv1 hk1 hn1 S
 subst hv1
 refine Vq S Mh rfl rfl rfl fun a S=>Va S rfl rfl fun a S=>Dl (wp_ret ?_)
 subst h
 exact Fj S results14 rfl rfl
theorem Lx (w : World) (Da : Bool) (Db : Int) (r : Int) (h : Dc Da Db = r) :
    Calls prog 13 [bV Da,iV Db].toArray w (Ret w [] fun _ v _=>v = iV r):=by
 refine Fe func13 rfl ntmps13 rfl fun a S=>?_
 unfold Dc at h
 replace S:=S.k2 0 1 rfl
 refine Fr (Vk S rfl rfl fun a S=>Dl (Fs (Fr (Vm S rfl rfl fun a S=>Dl ?_))))
 refine Fc h (S.tm rfl) (fun hb1 h=>?_) (fun hb1 h=>?_)
 ·refine Fr (Vm S rfl rfl fun a S=>Va S rfl rfl fun a S=>Dl (wp_ret (Dy ?_)))
  subst h
  exact Fj S results13 rfl rfl
 ·refine wp_skip (Tn (Fr (Vk S rfl rfl fun a S=>Dl (wp_ret ?_))))
  subst h
  exact Fj S results13 rfl rfl
theorem Ly (w : World) (Ab : Value) (Ag : List Int) (Ah : Slc (view w []) 1 Ab (Ag.map eInt)) (r : Int) (h : Dd Ag = r) :
    Calls prog 11 [Ab].toArray w (Ret w [] fun _ v _=>v = iV r):=by
 refine Fe func11 rfl ntmps11 rfl fun a S=>?_
 unfold Dd at h
 replace S:=S.k1 0 rfl
 refine Fr (Vk S rfl rfl fun a S=>Dl (Fs (Fr (Vm S rfl rfl fun a S=>lv S (Gh sl_74 (S.tm rfl) (Hr Ah)) rfl fun a S=>lv S (Rm rfl) rfl ?_))));clear S;intro a S
 refine Dl ?_
 replace S:=S.k3 5 6 7 rfl
 obtain ⟨j1,hj1,h⟩:=Fk h
 refine Er (fun a w'=>j1 = r ∧ Sx w [] nov [] [] 15 a w') ?_ ?_
 ·refine wp_block (Gz (fun (ys1 : List Int) a w'=>∃ i1 : Nat,(∃ dn,Ag = dn ++ ys1 ∧ dn.length = i1) ∧ Gc j1 ys1 i1 = r ∧ Sx w [] nov [] [(5,Ab),(6,iV (Ag.length : Int)),(7,iV (i1 : Int))] 15 a w') List.length Ag ⟨0,⟨[],rfl,rfl⟩,h,S.nf [] rfl (subR rfl)⟩ ?_)
  clear S h;rintro ys1 a w1 ⟨i1,⟨dn,hd1,hi1⟩,h,S⟩
  cases ys1 with
  | nil =>
   rw [Gc.eq_1] at h
   refine Fr (Vb S Fi rfl rfl rfl fun a S=>Ld ?_)
   replace S:=S.k4 5 6 7 8 rfl
   exact Tn (Fs (wp_cond_false ((S.tm rfl).trans (congrArg Value.bool (Kq hd1 hi1))) (wp_exit (Ek (Ek (Ha (Tn (⟨h,S.nf [] rfl trivial⟩))))))))
  | cons y1 ys1 =>
   rw [Gc.eq_2] at h
   refine Fr (Vb S Fi rfl rfl rfl fun a S=>Ld ?_)
   replace S:=S.k4 5 6 7 8 rfl
   refine Tn (Fs (wp_cond_true ((S.tm rfl).trans (congrArg Value.bool (Jm hd1 hi1))) (wp_skip (Tn (Fs (wp_block (Fs (Fg ?_))))))))
   obtain ⟨b1,o1,hm1,hr1⟩:=Hs (a:=a) (x:=.tmp 5) (y:=.tmp 7) (ty:=0) sl_74 Ah (Kd hd1 hi1) rfl (S.tm rfl) (S.tm rfl)
   refine lv S (hr1 _) rfl ?_;clear S;intro a S
   clear hr1
   refine lv S (Iv isAgg32 (off:=o1) (o:=0) (S.tm rfl) (hm1.at S.emb0) rfl) rfl fun a S=>Va S rfl rfl fun a S=>Dz (Vm S rfl rfl fun a S=>Vq S Ru rfl rfl rfl fun a S=>Dl (Fc h (S.tm rfl) (fun hb1 h=>?_) (fun hb1 h=>?_)))
   ·refine Fr (Vm S rfl rfl fun a S=>Va S rfl rfl fun a S=>Dl (wp_ret (Hj (Dy (Dy (Hj ?_))))))
    refine Dy (Dy ?_)
    subst h
    exact Fj S results11 rfl rfl
   ·exact wp_skip (Jb (Tn (Fg (Vq S Gb rfl rfl rfl fun a S=>Vm S rfl rfl fun a S=>Dl (⟨ys1,⟨i1 + 1,⟨_,(hd1).trans (List.append_cons _ _ _),by simp [hi1]⟩,h,S.nf [] rfl ⟨rfl,rfl,(congrArg (fun z=>some (Value.int .i64 z)) (Jn hd1 hi1 (Ky Ah))),trivial⟩⟩,Nat.lt_succ_self _⟩)))))
 clear S h;rintro a w2 ⟨h,S⟩;rw [hj1] at h;clear hj1 j1
 refine Tn (Fr (Vk S rfl rfl fun a S=>Dl (wp_ret ?_)))
 subst h
 exact Fj S results11 rfl rfl
theorem Pz (w : World) (Ab : Value) (Ag : List Dm) (Ah : Slc (view w []) 3 Ab (Ag.map Dm.enc)) (r : Int) (h : Jp Ag = some r) :
    Calls prog 16 [Ab].toArray w (Ret w [] fun _ v _=>v = iV r):=by
 refine Fe func16 rfl ntmps16 rfl fun a S=>?_
 unfold Jp at h
 replace S:=S.k1 0 rfl
 refine Fr (Vk S rfl rfl fun a S=>Dl (Fs (Fr (Vm S rfl rfl fun a S=>lv S (Gh Pi (S.tm rfl) (Hr Ah)) rfl fun a S=>Vq S Ki rfl rfl rfl ?_))));clear S;intro a S
 refine Dl (Fc h (S.tm rfl) (fun hb1 h=>?_) (fun hb1 h=>?_))
 ·refine Fr (Vk S rfl rfl fun a S=>Dl (wp_ret (Dy ?_)))
  obtain rfl:=Option.some.inj h
  exact Fj S results16 rfl rfl
 ·refine wp_skip (Tn (Fs (Fr (Vm S rfl rfl fun a S=>lv S (Gh Pi (S.tm rfl) (Hr Ah)) rfl fun a S=>lv S (Rm rfl) rfl fun a S=>Dl ?_))))
  replace S:=S.k3 8 9 10 rfl
  obtain ⟨j1,hj1,h⟩:=Fk h
  refine Er (fun a w'=>j1 = some r ∧ Sx w [] nov [] [] 31 a w') ?_ ?_
  ·refine wp_block (Gz (fun (ys1 : List Dm) a w'=>∃ i1 : Nat,(∃ dn,Ag = dn ++ ys1 ∧ dn.length = i1) ∧ Ez j1 ys1 i1 = some r ∧ Sx w [] nov [] [(8,Ab),(9,iV (Ag.length : Int)),(10,iV (i1 : Int))] 31 a w') List.length Ag ⟨0,⟨[],rfl,rfl⟩,h,S.nf [] rfl (subR rfl)⟩ ?_)
   clear S h;rintro ys1 a w1 ⟨i1,⟨dn,hd1,hi1⟩,h,S⟩
   cases ys1 with
   | nil =>
    rw [Ez.eq_1] at h
    refine Fr (Vb S Fi rfl rfl rfl fun a S=>Ld ?_)
    replace S:=S.k4 8 9 10 11 rfl
    exact Tn (Fs (wp_cond_false ((S.tm rfl).trans (congrArg Value.bool (Kq hd1 hi1))) (wp_exit (Ek (Ek (Ha (Tn (⟨h,S.nf [] rfl trivial⟩))))))))
   | cons y1 ys1 =>
    rw [Ez.eq_2] at h
    refine Fr (Vb S Fi rfl rfl rfl fun a S=>Ld ?_)
    replace S:=S.k4 8 9 10 11 rfl
    refine Tn (Fs (wp_cond_true ((S.tm rfl).trans (congrArg Value.bool (Jm hd1 hi1))) (wp_skip (Tn (Fs (wp_block (Fs (Fg ?_))))))))
    obtain ⟨b1,o1,hm1,hr1⟩:=Hs (a:=a) (x:=.tmp 8) (y:=.tmp 10) (ty:=0) Pi Ah (Kd hd1 hi1) rfl (S.tm rfl) (S.tm rfl)
    refine lv S (hr1 _) rfl ?_;clear S;intro a S
    clear hr1
    refine lv S (Kk isAgg64 sizeOf64 (off:=o1) (o:=0) (part:=(Dm.enc y1)) rfl rfl (S.tm rfl) (hm1.at S.emb0)) rfl fun a S=>Ko S zeroValue64 (cs:=[sV Ec,sV Ec,iV 0]) rfl rfl ?_;clear S;intro a w3 b2 hz1 hk1 S
    refine Hk S (S.tm rfl) (S.tm rfl) (i:=0) (off:=0) rfl sizeOf64 (vs:=(Dm.enc y1)) rfl rfl rfl rfl ?_;clear S;intro w4 hk2 S
    refine Dl (wp_block (Fr (Vf Mf S rfl rfl fun a S=>Vl isAgg9 0 S rfl rfl rfl rfl ?_)));clear S;intro a S
    obtain ⟨r1,hr2,h⟩:=Eu h
    refine Ea S (fun _=>Dg (vs:=[sV y1.Race]) ⟨(S.tm rfl),trivial⟩ call35) (Nt _ y1.Race _ hr2) rfl ?_;clear S;intro v1 a w5 hv1 hk3 hn1 S
    subst hv1
    refine Vu S Li rfl rfl fun a S=>Vm S rfl rfl ?_;clear S;intro a S
    obtain ⟨j2,hj2,h⟩:=Fk h
    refine Ii 5 (fun a w'=>∃ c1,j2 c1 = some r ∧ Keep [] w5 w' ∧ Sx w [] nov [.blk b2 (Dm.enc y1) 64] [(4,.pointer (some ⟨b2,0,none⟩)),(8,Ab),(9,iV (Ag.length : Int)),(10,iV (i1 : Int)),(24,bV c1)] 31 a w') ?_ ?_
    ·rcases Bool.eq_false_or_eq_true (!r1) with hb2 | hb2
     ·replace h:=Sc h hb2
      iterate 4 (refine Hh S rfl rfl rfl (Pb hb2) rfl ?_ rfl;clear S;intro a S)
      exact Vq S (Nz true hb2) rfl rfl rfl fun a S=>Dl (⟨_,h,Keep.refl _ _,S.nf [true] rfl (subR rfl)⟩)
     ·replace h:=Sd h hb2
      refine Dx S rfl rfl rfl hb2 (Vf Nl S rfl rfl fun a S=>Dx S rfl rfl rfl hb2 (Vl isAgg9 0 S rfl rfl rfl rfl fun a S=>Dx S rfl rfl rfl hb2 ?_))
      obtain ⟨r2,hr3,h⟩:=Eu h
      refine Ea S (fun _=>Dg (vs:=[sV y1.Who]) ⟨(S.tm rfl),trivial⟩ call35) (Nt _ y1.Who _ hr3) rfl ?_;clear S;intro v2 a w7 hv2 hk4 hn2 S
      subst hv2
      exact Dx S rfl rfl rfl hb2 (Vu S Li rfl rfl fun a S=>lv S (Oa hb2 (S.tm rfl) (S.tm rfl)) rfl fun a S=>Dl (⟨_,h,hk4,S.nf [true] rfl (subR rfl)⟩))
    clear S h;rintro a w6 ⟨c1,h,hk5,S⟩;rw [hj2] at h;clear hj2 j2
    refine Va S rfl rfl fun a S=>Dl (Fc h (S.tm rfl) (fun hb3 h=>?_) (fun hb3 h=>?_))
    ·refine Fr (Vk S rfl rfl fun a S=>Dl (wp_ret (Hj (Hj (Dy (Dy (Hj ?_)))))))
     refine Dy (Dy ?_)
     obtain rfl:=Option.some.inj h
     exact Fj S results16 rfl rfl
    ·refine Fr (Vf Oc S rfl rfl fun a S=>Vl isAgg3 0 S rfl rfl rfl rfl fun a S=>Ea S (fun _=>Dg (vs:=[iV y1.Time,iV 0,iV 360000]) ⟨(S.tm rfl),rfl,rfl,trivial⟩ call36) (Oi _ y1.Time 0 360000 _ rfl) rfl ?_);clear S;intro v3 a w8 hv3 hk6 hn3 S
     subst hv3
     refine Vu S Li rfl rfl fun a S=>Va S rfl rfl fun a S=>Dl (Fc h (S.tm rfl) (fun hb4 h=>?_) (fun hb4 h=>?_))
     ·refine Fr (Vk S rfl rfl fun a S=>Dl (wp_ret (Hj (Hj (Dy (Dy (Hj ?_)))))))
      refine Dy (Dy ?_)
      obtain rfl:=Option.some.inj h
      exact Fj S results16 rfl rfl
     ·exact wp_skip (Jb (Jb (Tn (Fg (Vq S Gb rfl rfl rfl fun a S=>Vm S rfl rfl fun a S=>Dl (⟨ys1,⟨i1 + 1,⟨_,(hd1).trans (List.append_cons _ _ _),by simp [hi1]⟩,h,S.nf [false] rfl ⟨rfl,rfl,(congrArg (fun z=>some (Value.int .i64 z)) (Jn hd1 hi1 (Ky Ah))),trivial⟩⟩,Nat.lt_succ_self _⟩))))))
  clear S h;rintro a w2 ⟨h,S⟩;rw [hj1] at h;clear hj1 j1
  refine Tn (Fr (Vk S rfl rfl fun a S=>Dl (wp_ret ?_)))
  obtain rfl:=Option.some.inj h
  exact Fj S results16 rfl rfl
theorem Mk (w : World) (Ab : Value) (Ag : List Dw) (Ah : Slc (view w []) 2 Ab (Ag.map Dw.enc)) (Aj : ByteArray) (r : Int) (h : Eg Ag Aj = r) :
    Calls prog 38 [Ab,sV Aj].toArray w (Ret w [] fun _ v _=>v = iV r):=by
 refine Fe func38 rfl ntmps38 rfl fun a S=>?_
 unfold Eg at h
 replace S:=S.k2 0 1 rfl
 refine Fr (Vk S rfl rfl fun a S=>Dl (Fs (Fr (Vm S rfl rfl fun a S=>lv S (Gh Ot (S.tm rfl) (Hr Ah)) rfl fun a S=>lv S (Rm rfl) rfl ?_))));clear S;intro a S
 refine Dl ?_
 replace S:=S.k4 1 7 8 9 rfl
 obtain ⟨j1,hj1,h⟩:=Fk h
 refine Er (fun a w'=>j1 = r ∧ Sx w [] nov [] [] 20 a w') ?_ ?_
 ·refine wp_block (Gz (fun (ys1 : List Dw) a w'=>∃ i1 : Nat,(∃ dn,Ag = dn ++ ys1 ∧ dn.length = i1) ∧ Ge Aj j1 ys1 i1 = r ∧ Sx w [] nov [] [(1,sV Aj),(7,Ab),(8,iV (Ag.length : Int)),(9,iV (i1 : Int))] 20 a w') List.length Ag ⟨0,⟨[],rfl,rfl⟩,h,S.nf [] rfl (subR rfl)⟩ ?_)
  clear S h;rintro ys1 a w1 ⟨i1,⟨dn,hd1,hi1⟩,h,S⟩
  cases ys1 with
  | nil =>
   rw [Ge.eq_1] at h
   refine Fr (Vb S Fi rfl rfl rfl fun a S=>Ld ?_)
   replace S:=S.k5 1 7 8 9 10 rfl
   exact Tn (Fs (wp_cond_false ((S.tm rfl).trans (congrArg Value.bool (Kq hd1 hi1))) (wp_exit (Ek (Ek (Ha (Tn (⟨h,S.nf [] rfl trivial⟩))))))))
  | cons y1 ys1 =>
   rw [Ge.eq_2] at h
   refine Fr (Vb S Fi rfl rfl rfl fun a S=>Ld ?_)
   replace S:=S.k5 1 7 8 9 10 rfl
   refine Tn (Fs (wp_cond_true ((S.tm rfl).trans (congrArg Value.bool (Jm hd1 hi1))) (wp_skip (Tn (Fs (wp_block (Fs (Fg ?_))))))))
   obtain ⟨b1,o1,hm1,hr1⟩:=Hs (a:=a) (x:=.tmp 7) (y:=.tmp 9) (ty:=0) Ot Ah (Kd hd1 hi1) rfl (S.tm rfl) (S.tm rfl)
   refine lv S (hr1 _) rfl ?_;clear S;intro a S
   clear hr1
   refine lv S (Kk isAgg45 sizeOf45 (off:=o1) (o:=0) (part:=(Dw.enc y1)) rfl rfl (S.tm rfl) (hm1.at S.emb0)) rfl fun a S=>Ko S zeroValue45 (cs:=[sV Ec,iV 0]) rfl rfl ?_;clear S;intro a w3 b2 hz1 hk1 S
   refine Hk S (S.tm rfl) (S.tm rfl) (i:=0) (off:=0) rfl sizeOf45 (vs:=(Dw.enc y1)) rfl rfl rfl rfl ?_;clear S;intro w4 hk2 S
   refine Dz (Vf Nk S rfl rfl fun a S=>Vl isAgg9 0 S rfl rfl rfl rfl fun a S=>Vm S rfl rfl fun a S=>Vb S Qw rfl rfl rfl fun a S=>Dl (Fc h (S.tm rfl) (fun hb1 h=>?_) (fun hb1 h=>?_)))
   ·refine Fr (Vf So S rfl rfl fun a S=>Vl isAgg3 0 S rfl rfl rfl rfl fun a S=>Va S rfl rfl fun a S=>Ld ?_)
    replace S:=S.n0.k1 4 rfl
    refine Tn (wp_ret (Hj (Dy (Dy (Hj (Dy (Dy ?_)))))))
    subst h
    exact Fj S results38 rfl rfl
   ·exact wp_skip (Jb (Tn (Fg (Vq S Gb rfl rfl rfl fun a S=>Vm S rfl rfl fun a S=>Dl (⟨ys1,⟨i1 + 1,⟨_,(hd1).trans (List.append_cons _ _ _),by simp [hi1]⟩,h,S.nf [false] rfl ⟨rfl,rfl,rfl,(congrArg (fun z=>some (Value.int .i64 z)) (Jn hd1 hi1 (Ky Ah))),trivial⟩⟩,Nat.lt_succ_self _⟩)))))
 clear S h;rintro a w2 ⟨h,S⟩;rw [hj1] at h;clear hj1 j1
 refine Tn (Fr (Vk S rfl rfl fun a S=>Dl (wp_ret ?_)))
 subst h
 exact Fj S results38 rfl rfl
theorem Oj (w : World) (Ae : Int) (Ac : Int) (Av : Int) (r : Bool) (h : Iy Ae Ac Av = r) :
    Calls prog 39 [iV Ae,iV Ac,iV Av].toArray w (Ret w [] fun _ v _=>v = bV r):=by
 refine Fe func39 rfl ntmps39 rfl fun a S=>?_
 unfold Iy at h
 replace S:=S.k3 0 1 2 rfl
 refine Fr (Vk S rfl rfl fun a S=>Dz (Vm S rfl rfl fun a S=>Vu S (Jr underlying3 underlying81) rfl rfl fun a S=>Vm S rfl rfl fun a S=>Vu S (Jr underlying3 underlying81) rfl rfl ?_));clear S;intro a S
 refine Vb S Io rfl rfl rfl fun a S=>Vm S rfl rfl fun a S=>Vu S (Jr underlying3 underlying81) rfl rfl fun a S=>Vb S Io rfl rfl rfl fun a S=>Vm S rfl rfl fun a S=>Vu S (Jr underlying3 underlying81) rfl rfl fun a S=>Ea S (fun _=>Dg (vs:=[.int .u64 (IntKind.wrap .u64 ((IntKind.wrap .u64 ((IntKind.wrap .u64 Ac) * (IntKind.wrap .u64 Ac))) * (IntKind.wrap .u64 Ac))),.int .u64 (IntKind.wrap .u64 Av)]) ⟨(S.tm rfl),(S.tm rfl),trivial⟩ call46) (Oy _ (IntKind.wrap .u64 ((IntKind.wrap .u64 ((IntKind.wrap .u64 Ac) * (IntKind.wrap .u64 Ac))) * (IntKind.wrap .u64 Ac))) (IntKind.wrap .u64 Av) _ rfl) rfl ?_;clear S;intro v1 a w1 hv1 hk1 hn1 S
 subst hv1
 refine Vm S rfl rfl fun a S=>Vq S Es rfl rfl rfl fun a S=>Vq S Es rfl rfl rfl fun a S=>Va S rfl rfl fun a S=>Va S rfl rfl fun a S=>Ld ?_
 replace S:=S.k3 0 7 8 rfl
 refine Tn (Fr (Vm S rfl rfl fun a S=>Vu S (Jr underlying3 underlying81) rfl rfl fun a S=>Vm S rfl rfl fun a S=>Vu S (Jr underlying3 underlying81) rfl rfl fun a S=>Vb S Io rfl rfl rfl fun a S=>Vm S rfl rfl fun a S=>Vu S (Jr underlying3 underlying81) rfl rfl fun a S=>Vb S Io rfl rfl rfl ?_));clear S;intro a S
 refine Ea S (fun _=>Dg (vs:=[.int .u64 (IntKind.wrap .u64 ((IntKind.wrap .u64 ((IntKind.wrap .u64 Ae) * (IntKind.wrap .u64 Ae))) * (IntKind.wrap .u64 Ae))),.int .u64 1000]) ⟨(S.tm rfl),rfl,trivial⟩ call46) (Oy _ (IntKind.wrap .u64 ((IntKind.wrap .u64 ((IntKind.wrap .u64 Ae) * (IntKind.wrap .u64 Ae))) * (IntKind.wrap .u64 Ae))) 1000 _ rfl) rfl ?_;clear S;intro v2 a w2 hv2 hk2 hn2 S
 subst hv2
 refine Vm S rfl rfl fun a S=>Vq S Es rfl rfl rfl fun a S=>Vq S Es rfl rfl rfl fun a S=>Va S rfl rfl fun a S=>Va S rfl rfl fun a S=>Ld ?_
 replace S:=S.k4 7 8 9 10 rfl
 refine Tn (Fr (Vm S rfl rfl fun a S=>Vm S rfl rfl fun a S=>Vb S Fi rfl rfl rfl fun a S=>Vm S rfl rfl fun a S=>Ii 9 (fun a w'=>Keep [] w2 w' ∧ Sx w [] nov [] [(49,bV ((decide (((Eh (IntKind.wrap .u64 ((IntKind.wrap .u64 ((IntKind.wrap .u64 Ac) * (IntKind.wrap .u64 Ac))) * (IntKind.wrap .u64 Ac))) (IntKind.wrap .u64 Av)).1) < ((Eh (IntKind.wrap .u64 ((IntKind.wrap .u64 ((IntKind.wrap .u64 Ae) * (IntKind.wrap .u64 Ae))) * (IntKind.wrap .u64 Ae))) 1000).1))) || ((decide (((Eh (IntKind.wrap .u64 ((IntKind.wrap .u64 ((IntKind.wrap .u64 Ac) * (IntKind.wrap .u64 Ac))) * (IntKind.wrap .u64 Ac))) (IntKind.wrap .u64 Av)).1) = ((Eh (IntKind.wrap .u64 ((IntKind.wrap .u64 ((IntKind.wrap .u64 Ae) * (IntKind.wrap .u64 Ae))) * (IntKind.wrap .u64 Ae))) 1000).1))) && (decide (((Eh (IntKind.wrap .u64 ((IntKind.wrap .u64 ((IntKind.wrap .u64 Ac) * (IntKind.wrap .u64 Ac))) * (IntKind.wrap .u64 Ac))) (IntKind.wrap .u64 Av)).2) ≤ ((Eh (IntKind.wrap .u64 ((IntKind.wrap .u64 ((IntKind.wrap .u64 Ae) * (IntKind.wrap .u64 Ae))) * (IntKind.wrap .u64 Ae))) 1000).2))))))] 50 a w') ?_ ?_))
 ·rcases Bool.eq_false_or_eq_true (decide (((Eh (IntKind.wrap .u64 ((IntKind.wrap .u64 ((IntKind.wrap .u64 Ac) * (IntKind.wrap .u64 Ac))) * (IntKind.wrap .u64 Ac))) (IntKind.wrap .u64 Av)).1) < ((Eh (IntKind.wrap .u64 ((IntKind.wrap .u64 ((IntKind.wrap .u64 Ae) * (IntKind.wrap .u64 Ae))) * (IntKind.wrap .u64 Ae))) 1000).1))) with hb1 | hb1
  ·iterate 4 (refine Hh S rfl rfl rfl (Pb hb1) rfl ?_ rfl;clear S;intro a S)
   iterate 3 (refine l_skipU S rfl rfl rfl rfl ?_;clear S;intro a S)
   exact Hh S rfl rfl rfl (Pb hb1) rfl (fun a S=>lv S (Nz ((decide (((Eh (IntKind.wrap .u64 ((IntKind.wrap .u64 ((IntKind.wrap .u64 Ac) * (IntKind.wrap .u64 Ac))) * (IntKind.wrap .u64 Ac))) (IntKind.wrap .u64 Av)).1) = ((Eh (IntKind.wrap .u64 ((IntKind.wrap .u64 ((IntKind.wrap .u64 Ae) * (IntKind.wrap .u64 Ae))) * (IntKind.wrap .u64 Ae))) 1000).1))) && (decide (((Eh (IntKind.wrap .u64 ((IntKind.wrap .u64 ((IntKind.wrap .u64 Ac) * (IntKind.wrap .u64 Ac))) * (IntKind.wrap .u64 Ac))) (IntKind.wrap .u64 Av)).2) ≤ ((Eh (IntKind.wrap .u64 ((IntKind.wrap .u64 ((IntKind.wrap .u64 Ae) * (IntKind.wrap .u64 Ae))) * (IntKind.wrap .u64 Ae))) 1000).2)))) hb1 (S.tm rfl) rfl) rfl fun a S=>Dl (⟨Keep.refl _ _,S.nf [] rfl ⟨rfl,trivial⟩⟩)) rfl
  ·refine Dx S rfl rfl rfl hb1 (Vm S rfl rfl fun a S=>Dx S rfl rfl rfl hb1 (Vm S rfl rfl fun a S=>Dx S rfl rfl rfl hb1 (Vb S Kh rfl rfl rfl fun a S=>Dx S rfl rfl rfl hb1 (Vm S rfl rfl fun a S=>Ii 4 (fun a w'=>Keep [] w2 w' ∧ Sx w [] nov [] [(40,bV (decide (((Eh (IntKind.wrap .u64 ((IntKind.wrap .u64 ((IntKind.wrap .u64 Ac) * (IntKind.wrap .u64 Ac))) * (IntKind.wrap .u64 Ac))) (IntKind.wrap .u64 Av)).1) < ((Eh (IntKind.wrap .u64 ((IntKind.wrap .u64 ((IntKind.wrap .u64 Ae) * (IntKind.wrap .u64 Ae))) * (IntKind.wrap .u64 Ae))) 1000).1)))),(48,bV ((decide (((Eh (IntKind.wrap .u64 ((IntKind.wrap .u64 ((IntKind.wrap .u64 Ac) * (IntKind.wrap .u64 Ac))) * (IntKind.wrap .u64 Ac))) (IntKind.wrap .u64 Av)).1) = ((Eh (IntKind.wrap .u64 ((IntKind.wrap .u64 ((IntKind.wrap .u64 Ae) * (IntKind.wrap .u64 Ae))) * (IntKind.wrap .u64 Ae))) 1000).1))) && (decide (((Eh (IntKind.wrap .u64 ((IntKind.wrap .u64 ((IntKind.wrap .u64 Ac) * (IntKind.wrap .u64 Ac))) * (IntKind.wrap .u64 Ac))) (IntKind.wrap .u64 Av)).2) ≤ ((Eh (IntKind.wrap .u64 ((IntKind.wrap .u64 ((IntKind.wrap .u64 Ae) * (IntKind.wrap .u64 Ae))) * (IntKind.wrap .u64 Ae))) 1000).2)))))] 50 a w') ?_ ?_))))
   ·rcases Bool.eq_false_or_eq_true (decide (((Eh (IntKind.wrap .u64 ((IntKind.wrap .u64 ((IntKind.wrap .u64 Ac) * (IntKind.wrap .u64 Ac))) * (IntKind.wrap .u64 Ac))) (IntKind.wrap .u64 Av)).1) = ((Eh (IntKind.wrap .u64 ((IntKind.wrap .u64 ((IntKind.wrap .u64 Ae) * (IntKind.wrap .u64 Ae))) * (IntKind.wrap .u64 Ae))) 1000).1))) with hb2 | hb2
    ·exact Dx S rfl rfl rfl hb2 (Vm S rfl rfl fun a S=>Dx S rfl rfl rfl hb2 (Vm S rfl rfl fun a S=>Dx S rfl rfl rfl hb2 (Vb S Ow rfl rfl rfl fun a S=>Dx S rfl rfl rfl hb1 (lv S (Hm hb2 (S.tm rfl) (S.tm rfl)) rfl fun a S=>Dl (⟨Keep.refl _ _,S.nf [] rfl (subR rfl)⟩)))))
    ·iterate 3 (refine Hh S rfl rfl rfl (Kl hb2) rfl ?_ rfl;clear S;intro a S)
     exact Dx S rfl rfl rfl hb1 (lv S (Hn (decide (((Eh (IntKind.wrap .u64 ((IntKind.wrap .u64 ((IntKind.wrap .u64 Ac) * (IntKind.wrap .u64 Ac))) * (IntKind.wrap .u64 Ac))) (IntKind.wrap .u64 Av)).2) ≤ ((Eh (IntKind.wrap .u64 ((IntKind.wrap .u64 ((IntKind.wrap .u64 Ae) * (IntKind.wrap .u64 Ae))) * (IntKind.wrap .u64 Ae))) 1000).2))) hb2 (S.tm rfl) rfl) rfl fun a S=>Dl (⟨Keep.refl _ _,S.nf [] rfl (subR rfl)⟩))
   clear S;rintro a w4 ⟨hk3,S⟩
   exact lv S (Oa hb1 (S.tm rfl) (S.tm rfl)) rfl fun a S=>Dl (⟨hk3,S.nf [] rfl ⟨rfl,trivial⟩⟩)
 clear S;rintro a w3 ⟨hk4,S⟩
 refine Va S rfl rfl fun a S=>Dl (wp_ret ?_)
 subst h
 exact Fj S results39 rfl rfl
theorem My (w : World) (Ab : Value) (Ag : List Dw) (Ah : Slc (view w []) 2 Ab (Ag.map Dw.enc)) (Aj : ByteArray) (Ac : Int) (r : Int) (h : Fv Ag Aj Ac = some r) :
    Calls prog 17 [Ab,sV Aj,iV Ac].toArray w (Ret w [] fun _ v _=>v = iV r):=by
 refine Fe func17 rfl ntmps17 rfl fun a S=>?_
 unfold Fv at h
 replace S:=S.k3 0 1 2 rfl
 refine Fr (Vk S rfl rfl fun a S=>Dz (Vm S rfl rfl fun a S=>Vm S rfl rfl fun a S=>Ea S (fun _=>Dg (vs:=[Ab,sV Aj]) ⟨(S.tm rfl),(S.tm rfl),trivial⟩ call38) (Mk _ Ab Ag (Ah.mono (S.le_arg Gi)) Aj _ rfl) rfl ?_));clear S;intro v1 a w1 hv1 hk1 hn1 S
 subst hv1
 refine Va S rfl rfl fun a S=>Dz (Vk S rfl rfl fun a S=>Vk S rfl rfl fun a S=>Dl (Fs ?_))
 replace S:=S.k4 2 7 8 9 rfl
 obtain ⟨j1,hj1,h⟩:=Fk h
 refine Er (fun a w'=>∃ x1 : Int,j1 x1 = some r ∧ Sx w [] nov [] [(8,iV x1)] 30 a w') ?_ ?_
 ·refine wp_block (Gz (fun (m1 : Nat) a w'=>∃ x1 : Int,∃ x2 : Int,Ft Ag Aj Ac j1 m1 x1 x2 = some r ∧ Sx w [] nov [] [(2,iV Ac),(7,iV (Eg Ag Aj)),(8,iV x1),(9,iV x2)] 30 a w') id 1000000002 ⟨0,1000000000,h,S.nf [] rfl (subR rfl)⟩ ?_)
  clear S h;rintro m1 a w2 ⟨x1,x2,h,S⟩
  cases m1 with
  | zero=>rw [Ft.eq_1] at h;cases h
  | succ m1 =>
   rw [Ft.eq_2] at h
   refine Fs (Fr (Vm S rfl rfl fun a S=>Vm S rfl rfl fun a S=>Vb S Fi rfl rfl rfl fun a S=>Dl (Fc h (S.tm rfl) (fun hb1 h=>?_) (fun hb1 h=>?_))))
   ·refine wp_skip (Tn ?_)
    obtain ⟨j2,hj2,h⟩:=Fk h
    refine Er (fun a w'=>∃ x3 : Int,∃ x4 : Int,j2 x3 x4 = some r ∧ Sx w [] nov [] [(2,iV Ac),(7,iV (Eg Ag Aj)),(8,iV x3),(9,iV x4)] 30 a w') ?_ ?_
    ·refine wp_block (Fr (Vm S rfl rfl fun a S=>Vm S rfl rfl fun a S=>Vb S Gb rfl rfl rfl fun a S=>Vq S Gb rfl rfl rfl fun a S=>lv S (Wv (S.tm rfl) rfl (by decide)) rfl fun a S=>Va S rfl rfl fun a S=>Dl ?_))
     refine Fs (Fg ?_)
     iterate 3 (refine Vm S rfl rfl ?_;clear S;intro a S)
     refine Ea S (fun _=>Dg (vs:=[iV (Eg Ag Aj),iV Ac,iV (W (Int.tdiv (W ((W (x1 + x2)) + 1)) 2))]) ⟨(S.tm rfl),(S.tm rfl),(S.tm rfl),trivial⟩ call39) (Oj _ (Eg Ag Aj) Ac (W (Int.tdiv (W ((W (x1 + x2)) + 1)) 2)) _ rfl) rfl ?_;clear S;intro v2 a w5 hv2 hk2 hn2 S
     subst hv2
     refine Ld ?_
     replace S:=S.k6 2 7 8 9 10 25 rfl
     refine Tn ?_
     obtain ⟨j3,hj3,h⟩:=Fk h
     refine Er (fun a w'=>∃ x5 : Int,∃ x6 : Int,j3 x5 x6 = some r ∧ Sx w [] nov [] [(2,iV Ac),(7,iV (Eg Ag Aj)),(8,iV x5),(9,iV x6)] 30 a w') ?_ ?_
     ·refine Fc h (S.tm rfl) (fun hb2 h=>?_) (fun hb2 h=>?_)
      ·exact Fg (Vm S rfl rfl fun a S=>Va S rfl rfl fun a S=>Dl (⟨W (Int.tdiv (W ((W (x1 + x2)) + 1)) 2),x2,h,S.nf [] rfl (subR rfl)⟩))
      ·exact Fg (Vm S rfl rfl fun a S=>Vq S Iq rfl rfl rfl fun a S=>Va S rfl rfl fun a S=>Dl (⟨x1,W ((W (Int.tdiv (W ((W (x1 + x2)) + 1)) 2)) - 1),h,S.nf [] rfl (subR rfl)⟩))
     clear S h;rintro a w6 ⟨x5,x6,h,S⟩;rw [hj3] at h;clear hj3 j3
     exact Jb (Tn (⟨x5,x6,h,S.nf [] rfl (subR rfl)⟩))
    clear S h;rintro a w4 ⟨x3,x4,h,S⟩;rw [hj2] at h;clear hj2 j2
    exact Tn (⟨m1,⟨x3,x4,h,S.nf [] rfl ⟨rfl,rfl,rfl,rfl,trivial⟩⟩,Nat.lt_succ_self _⟩)
   ·exact wp_exit (Ek (Ek (Ha (Tn (⟨x1,h,S.nf [] rfl ⟨rfl,trivial⟩⟩)))))
 clear S h;rintro a w3 ⟨x1,h,S⟩;rw [hj1] at h;clear hj1 j1
 refine Tn (Fr (Vm S rfl rfl fun a S=>Va S rfl rfl fun a S=>Dl (wp_ret ?_)))
 obtain rfl:=Option.some.inj h
 exact Fj S results17 rfl rfl
theorem Rz (w : World) (Ab : Value) (Ag : List Dw) (Ah : Slc (view w []) 2 Ab (Ag.map Dw.enc)) (Aj : ByteArray) (Ay : Int) (r : Int × Bool) (h : Jl Ag Aj Ay = some r) :
    Calls prog 18 [Ab,sV Aj,iV Ay].toArray w (Ret w [] fun _ v _=>v = .tuple #[iV r.1,bV r.2]):=by
 refine Fe func18 rfl ntmps18 rfl fun a S=>?_
 unfold Jl at h
 replace S:=S.k3 0 1 2 rfl
 refine Fr (Vk S rfl rfl fun a S=>Vk S rfl rfl fun a S=>Dz (Vm S rfl rfl fun a S=>Vm S rfl rfl fun a S=>Ea S (fun _=>Dg (vs:=[Ab,sV Aj]) ⟨(S.tm rfl),(S.tm rfl),trivial⟩ call38) (Mk _ Ab Ag (Ah.mono (S.le_arg Gi)) Aj _ rfl) rfl ?_));clear S;intro v1 a w1 hv1 hk1 hn1 S
 subst hv1
 refine Va S rfl rfl fun a S=>Dz (Vk S rfl rfl fun a S=>Vk S rfl rfl fun a S=>Dl (Fs ?_))
 replace S:=S.k4 2 8 9 10 rfl
 obtain ⟨j1,hj1,h⟩:=Fk h
 refine Er (fun a w'=>∃ x1 : Int,j1 x1 = some r ∧ Sx w [] nov [] [(9,iV x1)] 33 a w') ?_ ?_
 ·refine wp_block (Gz (fun (m1 : Nat) a w'=>∃ x1 : Int,∃ x2 : Int,Gq Ag Aj Ay j1 m1 x1 x2 = some r ∧ Sx w [] nov [] [(2,iV Ay),(8,iV (Eg Ag Aj)),(9,iV x1),(10,iV x2)] 33 a w') id 360002 ⟨0,360000,h,S.nf [] rfl (subR rfl)⟩ ?_)
  clear S h;rintro m1 a w2 ⟨x1,x2,h,S⟩
  cases m1 with
  | zero=>rw [Gq.eq_1] at h;cases h
  | succ m1 =>
   rw [Gq.eq_2] at h
   refine Fs (Fr (Vm S rfl rfl fun a S=>Vm S rfl rfl fun a S=>Vb S Fi rfl rfl rfl fun a S=>Dl (Fc h (S.tm rfl) (fun hb1 h=>?_) (fun hb1 h=>?_))))
   ·refine wp_skip (Tn ?_)
    obtain ⟨j2,hj2,h⟩:=Fk h
    refine Er (fun a w'=>∃ x3 : Int,∃ x4 : Int,j2 x3 x4 = some r ∧ Sx w [] nov [] [(2,iV Ay),(8,iV (Eg Ag Aj)),(9,iV x3),(10,iV x4)] 33 a w') ?_ ?_
    ·refine wp_block (Fr (Vm S rfl rfl fun a S=>Vm S rfl rfl fun a S=>Vb S Gb rfl rfl rfl fun a S=>Vq S Gb rfl rfl rfl fun a S=>lv S (Wv (S.tm rfl) rfl (by decide)) rfl fun a S=>Va S rfl rfl fun a S=>Dl ?_))
     refine Fs (Fg ?_)
     iterate 3 (refine Vm S rfl rfl ?_;clear S;intro a S)
     refine Ea S (fun _=>Dg (vs:=[iV (Eg Ag Aj),iV (W (Int.tdiv (W ((W (x1 + x2)) + 1)) 2)),iV Ay]) ⟨(S.tm rfl),(S.tm rfl),(S.tm rfl),trivial⟩ call39) (Oj _ (Eg Ag Aj) (W (Int.tdiv (W ((W (x1 + x2)) + 1)) 2)) Ay _ rfl) rfl ?_;clear S;intro v2 a w5 hv2 hk2 hn2 S
     subst hv2
     refine Ld ?_
     replace S:=S.k6 2 8 9 10 11 26 rfl
     refine Tn ?_
     obtain ⟨j3,hj3,h⟩:=Fk h
     refine Er (fun a w'=>∃ x5 : Int,∃ x6 : Int,j3 x5 x6 = some r ∧ Sx w [] nov [] [(2,iV Ay),(8,iV (Eg Ag Aj)),(9,iV x5),(10,iV x6)] 33 a w') ?_ ?_
     ·refine Fc h (S.tm rfl) (fun hb2 h=>?_) (fun hb2 h=>?_)
      ·exact Fg (Vm S rfl rfl fun a S=>Va S rfl rfl fun a S=>Dl (⟨W (Int.tdiv (W ((W (x1 + x2)) + 1)) 2),x2,h,S.nf [] rfl (subR rfl)⟩))
      ·exact Fg (Vm S rfl rfl fun a S=>Vq S Iq rfl rfl rfl fun a S=>Va S rfl rfl fun a S=>Dl (⟨x1,W ((W (Int.tdiv (W ((W (x1 + x2)) + 1)) 2)) - 1),h,S.nf [] rfl (subR rfl)⟩))
     clear S h;rintro a w6 ⟨x5,x6,h,S⟩;rw [hj3] at h;clear hj3 j3
     exact Jb (Tn (⟨x5,x6,h,S.nf [] rfl (subR rfl)⟩))
    clear S h;rintro a w4 ⟨x3,x4,h,S⟩;rw [hj2] at h;clear hj2 j2
    exact Tn (⟨m1,⟨x3,x4,h,S.nf [] rfl ⟨rfl,rfl,rfl,rfl,trivial⟩⟩,Nat.lt_succ_self _⟩)
   ·exact wp_exit (Ek (Ek (Ha (Tn (⟨x1,h,S.nf [] rfl ⟨rfl,trivial⟩⟩)))))
 clear S h;rintro a w3 ⟨x1,h,S⟩;rw [hj1] at h;clear hj1 j1
 refine Tn (Fr (Vm S rfl rfl fun a S=>Vm S rfl rfl fun a S=>Vq S Ki rfl rfl rfl fun a S=>Va S rfl rfl fun a S=>Va S rfl rfl fun a S=>Dl (wp_ret ?_)))
 obtain rfl:=Option.some.inj h
 exact Ns S results18 rfl rfl rfl
theorem Qh (w : World) (Aq : Value) (Ai : List ByteArray) (Bn : (LEnt.own Aq 9 1 Ai.length (Ai.flatMap Kx)).holds w) (r : (List ByteArray)) (h : Lb Ai = some r) :
    Calls prog 54 [Aq].toArray w (Ret w (Aq.ownBlock.toList) fun _ v w'=>(LEnt.own Aq 9 1 r.length (r.flatMap Kx)).holds w' ∧ v = .tuple #[]):=by
  unfold Lb at h
  obtain ⟨hc,h⟩:=Hx h
  obtain rfl:=Option.some.inj h
  have hc:=of_decide_eq_true hc
  have hown : w.ownsRow 0 9 1 Aq Ai.length (Ai.flatMap Kx):=Bn
  have he : ∀ l : List ByteArray,l.flatMap Kx = (l.map fun b=>b.data.toList).map encStr:=by
    intro l;induction l with
    | nil=>rfl
    | cons x l ih=>rw [List.flatMap_cons,ih];rfl
  have hs : (Jh Ai).length = Ai.length:=by simp [Jh]
  have hs2 : (Jh Ai).map (fun b=>b.data.toList) = (Ai.map fun b=>b.data.toList).mergeSort fun x y=>decide (x ≤ y):=by
    unfold Jh
    rw [List.map_map]
    exact (List.map_congr_left fun x _=>rfl).trans (List.map_id _)
  rcases hown.2 with ⟨rfl,h0⟩ | ⟨g,cap,cur,rfl,hbase,hb,h1,h2,h3,h4⟩
  · obtain rfl : Ai = []:=List.length_eq_zero_iff.1 h0
    refine (Any.slices_Sort_string_none Tryz.lays190 none 0 w).mono ?_
    rintro e w' ⟨rfl,n,rfl⟩
    exact ⟨_,rfl,⟨rfl,rfl,rfl,Nat.le_refl _,fun _ _ _=>rfl⟩,⟨by simp [Jh],.inl ⟨rfl,by simp [Jh]⟩⟩,rfl⟩
  · have c:=Any.slices_Sort_string Tryz.lays190 g 0 cap (Ai.map fun b=>b.data.toList) w (holds_of_block hb (by rw [List.length_map,← he,← h4,Nat.mul_one])) (Array.getElem?_eq_some_iff.1 hb).1 (by rw [List.length_map];exact hc)
    rw [List.length_map] at c
    refine c.mono ?_
    rintro e w' ⟨rfl,n,os,rfl⟩
    have gb:=grownBy_sorted (w:=w) (g:=g) (n:=n) (os:=os) ((Ai.map fun b=>b.data.toList).mergeSort fun x y=>decide (x ≤ y)).toArray
    refine ⟨_,rfl,⟨gb.os,gb.tape,gb.output,gb.size,fun k hk hx=>gb.block k hk (fun e=>hx (by simp [Value.ownBlock,← e]))⟩,?_,rfl⟩
    have:=ownsRow_sorted (n:=n) (os:=os) (ss:=Ai.map fun b=>b.data.toList) (ts:=(Ai.map fun b=>b.data.toList).mergeSort fun x y=>decide (x ≤ y)) (by simp) hbase hb (by rw [List.length_map];exact h1) h2 (by simpa using h3)
    show World.ownsRow _ 0 9 1 _ (Jh Ai).length ((Jh Ai).flatMap Kx)
    rw [he,hs2,hs]
    rw [List.length_map] at this
    exact this
end Go.Proofs.YthlanmcejeohmaaGreatDoor
