/- Each Go function computes its plain twin,by program. -/
import Derived.Test.YtcmlfgcnichcdaaGreatDoorTab
import Derived.Test.YtcmlfgcnichcdaaGreatDoorLay
import Derived.Test.YtcmlfgcnichcdaaGreatDoorSort
import Derived.Test.YtcmlfgcnichcdaaGreatDoorSeq
namespace Go.Proofs.YtcmlfgcnichcdaaGreatDoor
open Go
open Go.Proofs.Tryz
theorem Pb (w : World) (O : Int) (Bb : Int) (r : Int) (h : Ll O Bb = some r) :
    Calls prog 28 [iV O,iV Bb].toArray w (Ret w [] fun _ v _=>v = iV r):=by
 refine Fe func28 rfl ntmps28 rfl fun a S=>?_
 unfold Ll at h
 replace S:=S.k2 0 1 rfl
 refine Fr (Vk S rfl rfl fun a S=>Dl (Fs (Fr (Vm S rfl rfl fun a S=>Vq S Fa rfl rfl rfl fun a S=>Ld ?_))))
 refine Tn (Fc h (S.tm rfl) (fun hb1 h=>?_) (fun hb1 h=>?_))
 ·refine Fr (Vk S rfl rfl fun a S=>Dl (wp_ret (Dc ?_)))
  obtain rfl:=Option.some.inj h
  exact Dx S results28 rfl rfl
 ·refine wp_skip (Tn (Fr (Vm S rfl rfl fun a S=>Vm S rfl rfl ?_)));clear S;intro a S
  obtain ⟨hc1,h⟩:=Hw h
  refine lv S (Zi (S.tm rfl) (S.tm rfl) (Xc hc1)) rfl fun a S=>Va S rfl rfl fun a S=>Dl (Fs (Fr (Vm S rfl rfl fun a S=>Vq S Fa rfl rfl rfl fun a S=>Dl ?_)))
  obtain ⟨j1,hj1,h⟩:=En h
  refine Ec (fun a w'=>∃ x1 : Int,j1 x1 = some r ∧ Sx w [] nov [] [(0,iV x1)] 16 a w') ?_ ?_
  ·refine Fc h (S.tm rfl) (fun hb2 h=>?_) (fun hb2 h=>?_)
   ·exact Fg (Vm S rfl rfl fun a S=>Vm S rfl rfl fun a S=>Vb S Ge rfl rfl rfl fun a S=>Va S rfl rfl fun a S=>Dl (⟨W ((Int.tmod O Bb) + Bb),h,S.nf [] rfl ⟨rfl,trivial⟩⟩))
   ·exact wp_skip (Tn (⟨Int.tmod O Bb,h,S.nf [] rfl ⟨rfl,trivial⟩⟩))
  clear S h;rintro a w1 ⟨x1,h,S⟩;rw [hj1] at h;clear hj1 j1
  refine Tn (Fr (Vm S rfl rfl fun a S=>Va S rfl rfl fun a S=>Dl (wp_ret ?_)))
  obtain rfl:=Option.some.inj h
  exact Dx S results28 rfl rfl
set_option maxRecDepth 20000 in
theorem Mj (w : World) (U : Nat) (V : Value) (Al : List Int) (Aj : Slc (view w [U]) 1 V (Al.map eInt)) (Af : Int) (Ar : (LEnt.blk U [V,iV Af] 25).holds w) (Bb : Int) (r : Int × Int) (h : Ke Al Af Bb = some r) :
    Calls prog 9 [.pointer (some ⟨U,0,none⟩),iV Bb].toArray w (Ret w [U] fun _ v w'=>(LEnt.blk U [V,iV r.2] 25).holds w' ∧ v = iV r.1):=by
 refine La [U] [.blk U [V,iV Af] 25] func9 rfl ntmps9 rfl (fun e he=>by simp only [List.mem_singleton] at he;subst he;exact Ar) (by simp [fps,LEnt.fp]) (by simp [fps,LEnt.fp]) fun a S=>?_
 unfold Ke at h
 replace S:=(S.nl [.blk U [V,iV Af] 25] [true] rfl).k2 0 1 rfl
 refine Fr (Vk S rfl rfl fun a S=>Dz (Vm S rfl rfl fun a S=>Vu S Jj rfl rfl fun a S=>Vf Uy S rfl rfl fun a S=>Vl isAgg3 0 S rfl rfl rfl rfl ?_));clear S;intro a S
 refine Vq S Ge rfl rfl rfl fun a S=>Vu S Jj rfl rfl fun a S=>Vf Uy S rfl rfl fun a S=>Ef S (S.tm rfl) (S.tm rfl) (i:=0) (off:=1) rfl sizeOf3 (vs:=[iV (W (Af + 1))]) rfl rfl rfl rfl ?_;clear S;intro w1 hk1 S
 refine Dl (Fs (Fr (Vm S rfl rfl fun a S=>Vu S Jj rfl rfl fun a S=>Vf Wu S rfl rfl fun a S=>Vl isAgg22 0 S rfl rfl rfl rfl fun a S=>lv S (Fd Kz (S.tm rfl) (Fb Aj)) rfl fun a S=>Vq S Hi rfl rfl rfl ?_)));clear S;intro a S
 refine Ld ?_
 replace S:=(S.nl [.blk U [V,iV (W (Af + 1))] 25] [true] rfl).k3 0 1 19 rfl
 refine Tn (Fc h (S.tm rfl) (fun hb1 h=>?_) (fun hb1 h=>?_))
 ·refine Fr (Vm S rfl rfl fun a S=>Vu S Jj rfl rfl fun a S=>Vf Uy S rfl rfl fun a S=>Vl isAgg3 0 S rfl rfl rfl rfl fun a S=>Vq S Xa rfl rfl rfl fun a S=>Vm S rfl rfl ?_);clear S;intro a S
  obtain ⟨r1,hr1,h⟩:=El h
  refine De S (fun _=>Cy (vs:=[iV (W ((W (Af + 1)) * 7919)),iV Bb]) ⟨(S.tm rfl),(S.tm rfl),trivial⟩ call28) (Pb _ (W ((W (Af + 1)) * 7919)) Bb _ hr1) rfl ?_;clear S;intro v1 a w2 hv1 hk2 hn1 S
  subst hv1
  refine Va S rfl rfl fun a S=>Dl (wp_ret (Dc ?_))
  obtain rfl:=Option.some.inj h
  exact Dx S results9 rfl ⟨(S.holds _ (List.mem_of_getElem? (i:=0) rfl)),rfl⟩
 ·refine wp_skip (Tn (Fs (Fm [] ([]) Tryz.mixed S rfl (by kernel_rfl) ?_)));clear S;intro w3 hk3 hsel S
  refine Ip [0,1,2,3,4,5,6,7,8,9,10,11] hsel (by kernel_rfl) rfl ?_
  clear hsel
  refine Er S rfl (Rm (S.tm rfl)) rfl fun a S=>Er S rfl (Jj (S.tm rfl)) rfl fun a S=>Er S rfl (Em Uy (S.tm rfl)) rfl fun a S=>Er S rfl (Kq isAgg3 (S.tm rfl) (S.cell (i:=0) rfl rfl)) rfl fun a S=>Er S rfl (Kh (S.tm rfl) rfl) rfl fun a S=>Er S rfl (Rm (S.tm rfl)) rfl fun a S=>Er S rfl (Jj (S.tm rfl)) rfl fun a S=>Er S rfl (Em Wu (S.tm rfl)) rfl fun a S=>Er S rfl (Kq isAgg22 (S.tm rfl) (S.cell (i:=0) rfl rfl)) rfl fun a S=>Er S rfl (Fd Kz (S.tm rfl) (Fb Aj)) rfl ?_;clear S;intro a S
  obtain ⟨hc1,h⟩:=Hw h
  refine Er S rfl (Zi (S.tm rfl) (S.tm rfl) (Xc hc1)) rfl fun a S=>Er S rfl (Ra (S.tm rfl)) rfl fun a S=>Iq ?_
  replace S:=S.k3 0 1 5 rfl
  refine Tn (Fs (Fm [] ([]) Tryz.mixed S rfl (by kernel_rfl) ?_));clear S;intro w4 hk4 hsel S
  refine Ip [0,1,2,3,4,5,6,7,8,9,10,11] hsel (by kernel_rfl) rfl ?_
  clear hsel
  refine Er S rfl (Rm (S.tm rfl)) rfl fun a S=>Er S rfl (Jj (S.tm rfl)) rfl fun a S=>Er S rfl (Em Uy (S.tm rfl)) rfl fun a S=>Er S rfl (Kq isAgg3 (S.tm rfl) (S.cell (i:=0) rfl rfl)) rfl fun a S=>Er S rfl (Kh (S.tm rfl) rfl) rfl fun a S=>Er S rfl (Rm (S.tm rfl)) rfl fun a S=>Er S rfl (Jj (S.tm rfl)) rfl fun a S=>Er S rfl (Em Wu (S.tm rfl)) rfl fun a S=>Er S rfl (Kq isAgg22 (S.tm rfl) (S.cell (i:=0) rfl rfl)) rfl fun a S=>Er S rfl (Fd Kz (S.tm rfl) (Fb Aj)) rfl ?_;clear S;intro a S
  obtain ⟨hc2,h⟩:=Hw h
  refine Er S rfl (rn_quo (S.tm rfl) (S.tm rfl) (Xc hc2)) rfl fun a S=>Er S rfl (Ra (S.tm rfl)) rfl fun a S=>Iq ?_
  replace S:=S.k4 0 1 5 6 rfl
  refine Tn (Fr (Vm S rfl rfl fun a S=>Vu S Jj rfl rfl fun a S=>Vf Wu S rfl rfl fun a S=>Vl isAgg22 0 S rfl rfl rfl rfl fun a S=>Vm S rfl rfl ?_));clear S;intro a S
  obtain ⟨hc3,h⟩:=Hw h
  obtain ⟨b1,o1,hm1,hr2⟩:=Dt (a:=a) (x:=.tmp 52) (y:=.tmp 53) (ty:=0) Kz Aj (Dg hc3).1 (Dg hc3).2 (S.tm rfl) (S.tm rfl)
  refine lv S (hr2 _) rfl ?_;clear S;intro a S
  clear hr2
  refine lv S (Ep isAgg3 (off:=o1) (o:=0) (S.tm rfl) (hm1.at S.emb0) rfl) rfl ?_;clear S;intro a S
  obtain ⟨r2,hr3,h⟩:=El h
  refine De S (fun _=>Cy (vs:=[iV (nth Al (Int.tmod (W ((W (Af + 1)) - 1)) (Al.length : Int))),iV 1073741824]) ⟨(S.tm rfl),rfl,trivial⟩ call28) (Pb _ (nth Al (Int.tmod (W ((W (Af + 1)) - 1)) (Al.length : Int))) 1073741824 _ hr3) rfl ?_;clear S;intro v2 a w5 hv2 hk5 hn2 S
  subst hv2
  refine Vm S rfl rfl fun a S=>Vm S rfl rfl fun a S=>Vu S (Ge rfl) rfl rfl fun a S=>Vb S Xa rfl rfl rfl fun a S=>Vb S Ge rfl rfl rfl fun a S=>Vm S rfl rfl ?_;clear S;intro a S
  obtain ⟨r3,hr4,h⟩:=El h
  refine De S (fun _=>Cy (vs:=[iV (W (r2 + (W ((W (Int.tdiv (W ((W (Af + 1)) - 1)) (Al.length : Int))) * (W (7919 + (Int.tmod (W ((W (Af + 1)) - 1)) (Al.length : Int)))))))),iV Bb]) ⟨(S.tm rfl),(S.tm rfl),trivial⟩ call28) (Pb _ (W (r2 + (W ((W (Int.tdiv (W ((W (Af + 1)) - 1)) (Al.length : Int))) * (W (7919 + (Int.tmod (W ((W (Af + 1)) - 1)) (Al.length : Int)))))))) Bb _ hr4) rfl ?_;clear S;intro v3 a w6 hv3 hk6 hn3 S
  subst hv3
  refine Va S rfl rfl fun a S=>Ld ?_
  replace S:=S.k1 4 rfl
  refine Tn (wp_ret ?_)
  obtain rfl:=Option.some.inj h
  exact Dx S results9 rfl ⟨(S.holds _ (List.mem_of_getElem? (i:=0) rfl)),rfl⟩
theorem Og (w : World) (U : Nat) (V : Value) (Al : List Int) (Aj : Slc (view w [U]) 1 V (Al.map eInt)) (Af : Int) (Ar : (LEnt.blk U [V,iV Af] 25).holds w) (Bi : Int) (Bc : Int) (r : Int × Int) (h : Lc Al Af Bi Bc = some r) :
    Calls prog 5 [.pointer (some ⟨U,0,none⟩),iV Bi,iV Bc].toArray w (Ret w [U] fun _ v w'=>(LEnt.blk U [V,iV r.2] 25).holds w' ∧ v = iV r.1):=by
 refine La [U] [.blk U [V,iV Af] 25] func5 rfl ntmps5 rfl (fun e he=>by simp only [List.mem_singleton] at he;subst he;exact Ar) (by simp [fps,LEnt.fp]) (by simp [fps,LEnt.fp]) fun a S=>?_
 unfold Lc at h
 replace S:=(S.nl [.blk U [V,iV Af] 25] [true] rfl).k3 0 1 2 rfl
 refine Fr (Vk S rfl rfl fun a S=>Dl (Fs (Fr (Vm S rfl rfl fun a S=>Vm S rfl rfl fun a S=>Vb S Fa rfl rfl rfl ?_))));clear S;intro a S
 refine Dl (Fc h (S.tm rfl) (fun hb1 h=>?_) (fun hb1 h=>?_))
 ·refine Fr (Vm S rfl rfl fun a S=>Va S rfl rfl fun a S=>Dl (wp_ret (Dc ?_)))
  obtain rfl:=Option.some.inj h
  exact Dx S results5 rfl ⟨(S.holds _ (List.mem_of_getElem? (i:=0) rfl)),rfl⟩
 ·refine wp_skip (Tn (Fs (Fg ?_)))
  iterate 4 (refine Vm S rfl rfl ?_;clear S;intro a S)
  refine Vb S Kh rfl rfl rfl fun a S=>Vq S Ge rfl rfl rfl ?_;clear S;intro a S
  obtain ⟨r1,hr1,h⟩:=El h
  refine Fw 0 S (b:=U) rfl rfl (fun _=>.blk U [V,iV r1.2] 25) (fun _=>Cy (vs:=[.pointer (some ⟨U,0,none⟩),iV (W ((W (Bc - Bi)) + 1))]) ⟨(S.tm rfl),(S.tm rfl),trivial⟩ call9) (Mj _ U V Al (Aj.mono (S.le_arg (Hq (i:=0) (e:=.blk U [V,iV Af] 25) rfl))) Af (S.holds _ (List.mem_of_getElem? (i:=0) rfl)) (W ((W (Bc - Bi)) + 1)) _ hr1) rfl (fun _ _ _ h=>⟨h.1,fun _ hc=>by cases hc;rfl⟩) ?_;clear S;intro v1 a w1 hv1 hk1 hn1 S
  replace hv1:=hv1.2
  subst hv1
  refine Vb S Ge rfl rfl rfl fun a S=>Va S rfl rfl fun a S=>Ld ?_
  replace S:=(S.nl [.blk U [V,iV r1.2] 25] [true] rfl).k1 6 rfl
  refine Tn (wp_ret ?_)
  obtain rfl:=Option.some.inj h
  exact Dx S results5 rfl ⟨(S.holds _ (List.mem_of_getElem? (i:=0) rfl)),rfl⟩
theorem Ln (w : World) (U : Nat) (V : Value) (Al : List Int) (Aj : Slc (view w [U]) 1 V (Al.map eInt)) (Af : Int) (Ar : (LEnt.blk U [V,iV Af] 25).holds w) (Aa : Value) (Ae : List Int) (Ad : Slc (view w [U]) 1 Aa (Ae.map eInt)) (r : Int × Int) (h : Kf Al Af Ae = some r) :
    Calls prog 23 [.pointer (some ⟨U,0,none⟩),Aa].toArray w (Ret w [U] fun _ v w'=>(LEnt.blk U [V,iV r.2] 25).holds w' ∧ v = iV r.1):=by
 refine La [U] [.blk U [V,iV Af] 25] func23 rfl ntmps23 rfl (fun e he=>by simp only [List.mem_singleton] at he;subst he;exact Ar) (by simp [fps,LEnt.fp]) (by simp [fps,LEnt.fp]) fun a S=>?_
 unfold Kf at h
 replace S:=(S.nl [.blk U [V,iV Af] 25] [true] rfl).k2 0 1 rfl
 refine Fr (Vk S rfl rfl fun a S=>Dl (Fs (Fg ?_)))
 iterate 3 (refine Vm S rfl rfl ?_;clear S;intro a S)
 refine lv S (Fd Kz (S.tm rfl) (Fb Ad)) rfl ?_;clear S;intro a S
 obtain ⟨r1,hr1,h⟩:=El h
 refine Fw 0 S (b:=U) rfl rfl (fun _=>.blk U [V,iV r1.2] 25) (fun _=>Cy (vs:=[.pointer (some ⟨U,0,none⟩),iV (Ae.length : Int)]) ⟨(S.tm rfl),(S.tm rfl),trivial⟩ call9) (Mj _ U V Al (Aj.mono (S.le_arg (Hq (i:=0) (e:=.blk U [V,iV Af] 25) rfl))) Af (S.holds _ (List.mem_of_getElem? (i:=0) rfl)) (Ae.length : Int) _ hr1) rfl (fun _ _ _ h=>⟨h.1,fun _ hc=>by cases hc;rfl⟩) ?_;clear S;intro v1 a w1 hv1 hk1 hn1 S
 replace hv1:=hv1.2
 subst hv1
 obtain ⟨hc1,h⟩:=Hw h
 obtain ⟨b1,o1,hm1,hr2⟩:=Dt (a:=a) (x:=.tmp 5) (y:=.tmp 9) (ty:=0) Kz Ad (Dg hc1).1 (Dg hc1).2 (S.tm rfl) (S.tm rfl)
 refine lv S (hr2 _) rfl ?_;clear S;intro a S
 clear hr2
 refine lv S (Ep isAgg3 (off:=o1) (o:=0) (S.tm rfl) (hm1.at S.emb0) rfl) rfl fun a S=>Va S rfl rfl fun a S=>Dl (wp_ret ?_)
 obtain rfl:=Option.some.inj h
 exact Dx S results23 rfl ⟨(S.holds _ (List.mem_of_getElem? (i:=0) rfl)),rfl⟩
theorem Kc (w : World) (U : Nat) (V : Value) (Al : List Int) (Aj : Slc (view w [U]) 1 V (Al.map eInt)) (Af : Int) (Ar : (LEnt.blk U [V,iV Af] 25).holds w) (Aa : Value) (Ae : List ByteArray) (Ad : Slc (view w [U]) 1 Aa (Ae.map eStr)) (r : ByteArray × Int) (h : Js Al Af Ae = some r) :
    Calls prog 24 [.pointer (some ⟨U,0,none⟩),Aa].toArray w (Ret w [U] fun _ v w'=>(LEnt.blk U [V,iV r.2] 25).holds w' ∧ v = sV r.1):=by
 refine La [U] [.blk U [V,iV Af] 25] func24 rfl ntmps24 rfl (fun e he=>by simp only [List.mem_singleton] at he;subst he;exact Ar) (by simp [fps,LEnt.fp]) (by simp [fps,LEnt.fp]) fun a S=>?_
 unfold Js at h
 replace S:=(S.nl [.blk U [V,iV Af] 25] [true] rfl).k2 0 1 rfl
 refine Fr (Vk S rfl rfl fun a S=>Dl (Fs (Fg ?_)))
 iterate 3 (refine Vm S rfl rfl ?_;clear S;intro a S)
 refine lv S (Fd sl_81 (S.tm rfl) (Fb Ad)) rfl ?_;clear S;intro a S
 obtain ⟨r1,hr1,h⟩:=El h
 refine Fw 0 S (b:=U) rfl rfl (fun _=>.blk U [V,iV r1.2] 25) (fun _=>Cy (vs:=[.pointer (some ⟨U,0,none⟩),iV (Ae.length : Int)]) ⟨(S.tm rfl),(S.tm rfl),trivial⟩ call9) (Mj _ U V Al (Aj.mono (S.le_arg (Hq (i:=0) (e:=.blk U [V,iV Af] 25) rfl))) Af (S.holds _ (List.mem_of_getElem? (i:=0) rfl)) (Ae.length : Int) _ hr1) rfl (fun _ _ _ h=>⟨h.1,fun _ hc=>by cases hc;rfl⟩) ?_;clear S;intro v1 a w1 hv1 hk1 hn1 S
 replace hv1:=hv1.2
 subst hv1
 obtain ⟨hc1,h⟩:=Hw h
 obtain ⟨b1,o1,hm1,hr2⟩:=Dt (a:=a) (x:=.tmp 5) (y:=.tmp 9) (ty:=0) sl_81 Ad (Dg hc1).1 (Dg hc1).2 (S.tm rfl) (S.tm rfl)
 refine lv S (hr2 _) rfl ?_;clear S;intro a S
 clear hr2
 refine lv S (Ep isAgg9 (off:=o1) (o:=0) (S.tm rfl) (hm1.at S.emb0) rfl) rfl fun a S=>Va S rfl rfl fun a S=>Dl (wp_ret ?_)
 obtain rfl:=Option.some.inj h
 exact Dx S results24 rfl ⟨(S.holds _ (List.mem_of_getElem? (i:=0) rfl)),rfl⟩
theorem Mk (w : World) (U : Nat) (V : Value) (Al : List Int) (Aj : Slc (view w [U]) 1 V (Al.map eInt)) (Af : Int) (Ar : (LEnt.blk U [V,iV Af] 25).holds w) (Bb : Int) (r : Bool × Int) (h : Kg Al Af Bb = some r) :
    Calls prog 7 [.pointer (some ⟨U,0,none⟩),iV Bb].toArray w (Ret w [U] fun _ v w'=>(LEnt.blk U [V,iV r.2] 25).holds w' ∧ v = bV r.1):=by
 refine La [U] [.blk U [V,iV Af] 25] func7 rfl ntmps7 rfl (fun e he=>by simp only [List.mem_singleton] at he;subst he;exact Ar) (by simp [fps,LEnt.fp]) (by simp [fps,LEnt.fp]) fun a S=>?_
 unfold Kg at h
 replace S:=(S.nl [.blk U [V,iV Af] 25] [true] rfl).k2 0 1 rfl
 refine Fr (Vk S rfl rfl fun a S=>Dz (Vm S rfl rfl fun a S=>Vm S rfl rfl ?_));clear S;intro a S
 obtain ⟨r1,hr1,h⟩:=El h
 refine Fw 0 S (b:=U) rfl rfl (fun _=>.blk U [V,iV r1.2] 25) (fun _=>Cy (vs:=[.pointer (some ⟨U,0,none⟩),iV Bb]) ⟨(S.tm rfl),(S.tm rfl),trivial⟩ call9) (Mj _ U V Al (Aj.mono (S.le_arg (Hq (i:=0) (e:=.blk U [V,iV Af] 25) rfl))) Af (S.holds _ (List.mem_of_getElem? (i:=0) rfl)) Bb _ hr1) rfl (fun _ _ _ h=>⟨h.1,fun _ hc=>by cases hc;rfl⟩) ?_;clear S;intro v1 a w1 hv1 hk1 hn1 S
 replace hv1:=hv1.2
 subst hv1
 refine Vq S Hi rfl rfl rfl fun a S=>Va S rfl rfl fun a S=>Dl (wp_ret ?_)
 obtain rfl:=Option.some.inj h
 exact Dx S results7 rfl ⟨(S.holds _ (List.mem_of_getElem? (i:=0) rfl)),rfl⟩
theorem Oa (w : World) (U : Nat) (V : Value) (Al : List Int) (Aj : Slc (view w [U]) 1 V (Al.map eInt)) (Af : Int) (Ar : (LEnt.blk U [V,iV Af] 25).holds w) (Bi : Int) (Bc : Int) (r : Int × Int) (h : Ms Al Af Bi Bc = some r) :
    Calls prog 25 [.pointer (some ⟨U,0,none⟩),iV Bi,iV Bc].toArray w (Ret w [U] fun _ v w'=>(LEnt.blk U [V,iV r.2] 25).holds w' ∧ v = iV r.1):=by
 refine La [U] [.blk U [V,iV Af] 25] func25 rfl ntmps25 rfl (fun e he=>by simp only [List.mem_singleton] at he;subst he;exact Ar) (by simp [fps,LEnt.fp]) (by simp [fps,LEnt.fp]) fun a S=>?_
 unfold Ms at h
 replace S:=(S.nl [.blk U [V,iV Af] 25] [true] rfl).k3 0 1 2 rfl
 refine Fr (Vk S rfl rfl fun a S=>Dl (Fs (Fr (Vm S rfl rfl ?_))));clear S;intro a S
 obtain ⟨r1,hr1,h⟩:=El h
 refine Fw 0 S (b:=U) rfl rfl (fun _=>.blk U [V,iV r1.2] 25) (fun _=>Cy (vs:=[.pointer (some ⟨U,0,none⟩),iV 12]) ⟨(S.tm rfl),rfl,trivial⟩ call7) (Mk _ U V Al (Aj.mono (S.le_arg (Hq (i:=0) (e:=.blk U [V,iV Af] 25) rfl))) Af (S.holds _ (List.mem_of_getElem? (i:=0) rfl)) 12 _ hr1) rfl (fun _ _ _ h=>⟨h.1,fun _ hc=>by cases hc;rfl⟩) ?_;clear S;intro v1 a w1 hv1 hk1 hn1 S
 replace hv1:=hv1.2
 subst hv1
 refine Dl (Fc h (S.tm rfl) (fun hb1 h=>?_) (fun hb1 h=>?_))
 ·refine Fr (Vm S rfl rfl fun a S=>Vm S rfl rfl fun a S=>Vq S Kh rfl rfl rfl fun a S=>Vm S rfl rfl fun a S=>Vq S Ge rfl rfl rfl fun a S=>Vm S rfl rfl fun a S=>Vm S rfl rfl fun a S=>Eg S underlying22 sizeOf3 zeroValue3 rfl rfl (pv:=[(0,iV (W (Bi - 1))),(1,iV (W (Bc + 1))),(2,iV Bi),(3,iV Bc),(4,iV (-1099511627776)),(5,iV 1099511627776)]) ⟨rfl,(S.tm rfl),rfl,(S.tm rfl),rfl,(S.tm rfl),rfl,(S.tm rfl),rfl,rfl,rfl,rfl,trivial⟩ (cs:=[iV (W (Bi - 1)),iV (W (Bc + 1)),iV Bi,iV Bc,iV (-1099511627776),iV 1099511627776]) (by kernel_rfl) rfl ?_);clear S;intro a w2 b1 hz1 hk2 S
  obtain ⟨r2,hr2,h⟩:=El h
  refine Fw 1 S (b:=U) rfl rfl (fun _=>.blk U [V,iV r2.2] 25) (fun _=>Cy (vs:=[.pointer (some ⟨U,0,none⟩),.slice (some ⟨b1,0,none⟩) 6 6]) ⟨(S.tm rfl),(S.tm rfl),trivial⟩ call23) (Ln _ U V Al (Aj.mono (S.le_arg (Hq (i:=1) (e:=.blk U [V,iV r1.2] 25) rfl))) r1.2 (S.holds _ (List.mem_of_getElem? (i:=1) rfl)) (.slice (some ⟨b1,0,none⟩) 6 6) [W (Bi - 1),W (Bc + 1),Bi,Bc,(-1099511627776),1099511627776] (Jh Iu S (i:=0) rfl rfl rfl rfl ((Kd (i:=1) (j:=0) (e:=.blk U [V,iV r1.2] 25) (e':=.blk b1 [iV (W (Bi - 1)),iV (W (Bc + 1)),iV Bi,iV Bc,iV (-1099511627776),iV 1099511627776] 3) S rfl rfl rfl) _ rfl)) _ hr2) rfl (fun _ _ _ h=>⟨h.1,fun _ hc=>by cases hc;rfl⟩) ?_;clear S;intro v2 a w3 hv2 hk3 hn2 S
  replace hv2:=hv2.2
  subst hv2
  refine Va S rfl rfl fun a S=>Ld ?_
  replace S:=(S.nl [.blk U [V,iV r2.2] 25] [false,true] rfl).k1 6 rfl
  refine Tn (wp_ret (Dc ?_))
  obtain rfl:=Option.some.inj h
  exact Dx S results25 rfl ⟨(S.holds _ (List.mem_of_getElem? (i:=0) rfl)),rfl⟩
 ·refine wp_skip (Tn (Fs (Fg ?_)))
  iterate 3 (refine Vm S rfl rfl ?_;clear S;intro a S)
  obtain ⟨r3,hr3,h⟩:=El h
  refine Fw 0 S (b:=U) rfl rfl (fun _=>.blk U [V,iV r3.2] 25) (fun _=>Cy (vs:=[.pointer (some ⟨U,0,none⟩),iV Bi,iV Bc]) ⟨(S.tm rfl),(S.tm rfl),(S.tm rfl),trivial⟩ call5) (Og _ U V Al (Aj.mono (S.le_arg (Hq (i:=0) (e:=.blk U [V,iV r1.2] 25) rfl))) r1.2 (S.holds _ (List.mem_of_getElem? (i:=0) rfl)) Bi Bc _ hr3) rfl (fun _ _ _ h=>⟨h.1,fun _ hc=>by cases hc;rfl⟩) ?_;clear S;intro v3 a w4 hv3 hk4 hn3 S
  replace hv3:=hv3.2
  subst hv3
  refine Va S rfl rfl fun a S=>Dl (wp_ret ?_)
  obtain rfl:=Option.some.inj h
  exact Dx S results25 rfl ⟨(S.holds _ (List.mem_of_getElem? (i:=0) rfl)),rfl⟩
theorem Mi (w : World) (Bb : Int) (r : Int) (h : Lg Bb = r) :
    Calls prog 46 [iV Bb].toArray w (Ret w [] fun _ v _=>v = iV r):=by
 refine Fe func46 rfl ntmps46 rfl fun a S=>?_
 unfold Lg at h
 replace S:=S.k1 0 rfl
 refine Fr (Vk S rfl rfl fun a S=>Dl (Fs (wp_block (Fr (Vm S rfl rfl fun a S=>Vq S Fa rfl rfl rfl ?_)))));clear S;intro a S
 refine Va S rfl rfl fun a S=>Dl (Fc h (S.tm rfl) (fun hb1 h=>?_) (fun hb1 h=>?_))
 ·refine Fr (Vk S rfl rfl fun a S=>Dl (wp_ret (Gg (Dc ?_))))
  subst h
  exact Dx S results46 rfl rfl
 ·refine Fr (Vm S rfl rfl fun a S=>Vq S Jn rfl rfl rfl fun a S=>Va S rfl rfl fun a S=>Dl (Fc h (S.tm rfl) (fun hb2 h=>?_) (fun hb2 h=>?_)))
  ·refine Fr (Vk S rfl rfl fun a S=>Dl (wp_ret (Gg (Dc ?_))))
   subst h
   exact Dx S results46 rfl rfl
  ·refine wp_skip (Ia (Tn (Fr (Vk S rfl rfl fun a S=>Dl (wp_ret ?_)))))
   subst h
   exact Dx S results46 rfl rfl
theorem Ko (w : World) (s t : ByteArray) (r : Int) (h : Gi s t = r) : Calls prog 47 [.string s,.string t].toArray w (Ret w [] fun _ v _=>v = .int .i64 r):=by
  subst h
  exact Qu (Any.strings_Compare Tryz.lays106 s t w)
theorem tumbref2_DeedOrder_ok (w : World) (Am : An) (Ao : An) (r : Int) (h : Ea Am Ao = r) :
    Calls prog 27 [.agg (An.enc Am).toArray,.agg (An.enc Ao).toArray].toArray w (Ret w [] fun _ v _=>v = iV r):=by
 refine Fe func27 rfl ntmps27 rfl fun a S=>?_
 unfold Ea at h
 replace S:=S.k2 0 1 rfl
 refine Fr (Kw S (S.tm rfl) (cs:=(An.enc Am)) rfl rfl ?_);clear S;intro a w1 b1 hz1 hk1 S
 refine Kw S (S.tm rfl) (cs:=(An.enc Ao)) rfl rfl ?_;clear S;intro a w2 b2 hz2 hk2 S
 refine Vk S rfl rfl fun a S=>Dl (Fs (wp_block (Fr (Vf Jv S rfl rfl fun a S=>Vl isAgg3 1 S rfl rfl rfl rfl fun a S=>Vf Jv S rfl rfl fun a S=>Vl isAgg3 0 S rfl rfl rfl rfl ?_))));clear S;intro a S
 refine Vb S Io rfl rfl rfl fun a S=>Va S rfl rfl fun a S=>Dl (Fc h (S.tm rfl) (fun hb1 h=>?_) (fun hb1 h=>?_))
 ·refine Fr (Vf Jv S rfl rfl fun a S=>Vl isAgg3 1 S rfl rfl rfl rfl fun a S=>Vf Jv S rfl rfl fun a S=>Vl isAgg3 0 S rfl rfl rfl rfl fun a S=>Vb S Kh rfl rfl rfl fun a S=>De S (fun _=>Cy (vs:=[iV (W (Am.At - Ao.At))]) ⟨(S.tm rfl),trivial⟩ call46) (Mi _ (W (Am.At - Ao.At)) _ rfl) rfl ?_);clear S;intro v1 a w3 hv1 hk3 hn1 S
  subst hv1
  refine Va S rfl rfl fun a S=>Ld ?_
  replace S:=S.n0.k1 4 rfl
  refine Tn (wp_ret (Gg (Dc ?_)))
  subst h
  exact Dx S results27 rfl rfl
 ·refine Fr (Vf Ih S rfl rfl fun a S=>Vl isAgg9 1 S rfl rfl rfl rfl fun a S=>Vf Ih S rfl rfl fun a S=>Vl isAgg9 0 S rfl rfl rfl rfl fun a S=>Vb S Tj rfl rfl rfl fun a S=>Va S rfl rfl fun a S=>Ld ?_)
  replace S:=(S.nl [.blk b2 (An.enc Ao) 33,.blk b1 (An.enc Am) 33] [true,true] rfl).k3 2 3 17 rfl
  refine Tn (Fc h (S.tm rfl) (fun hb2 h=>?_) (fun hb2 h=>?_))
  ·refine Fr (Vf Ih S rfl rfl fun a S=>Vl isAgg9 1 S rfl rfl rfl rfl fun a S=>Vf Ih S rfl rfl fun a S=>Vl isAgg9 0 S rfl rfl rfl rfl fun a S=>De S (fun _=>Cy (vs:=[sV Am.Site,sV Ao.Site]) ⟨(S.tm rfl),(S.tm rfl),trivial⟩ call47) (Ko _ Am.Site Ao.Site _ rfl) rfl ?_);clear S;intro v2 a w4 hv2 hk4 hn2 S
   subst hv2
   refine Va S rfl rfl fun a S=>Dl (wp_ret (Gg (Dc ?_)))
   subst h
   exact Dx S results27 rfl rfl
  ·refine wp_skip (Ia (Tn (Fr (Vf Hd S rfl rfl fun a S=>Vl isAgg3 1 S rfl rfl rfl rfl fun a S=>Vf Hd S rfl rfl fun a S=>Vl isAgg3 0 S rfl rfl rfl rfl fun a S=>Vb S Kh rfl rfl rfl fun a S=>De S (fun _=>Cy (vs:=[iV (W (Am.No - Ao.No))]) ⟨(S.tm rfl),trivial⟩ call46) (Mi _ (W (Am.No - Ao.No)) _ rfl) rfl ?_))));clear S;intro v3 a w5 hv3 hk5 hn3 S
   subst hv3
   refine Va S rfl rfl fun a S=>Dl (wp_ret ?_)
   subst h
   exact Dx S results27 rfl rfl
set_option maxRecDepth 20000 in
theorem Ij (w : World) (Z : Value) (Aw : List An) (Bt : (LEnt.own Z 33 11 Aw.length (Aw.flatMap An.enc)).holds w) (Am : Int) (Ao : Int) (r : (List An)) (h : Eo Aw Am Ao = some r) :
    Calls prog 60 [Z,iV Am,iV Ao,.func (.func 27) #[] #[]].toArray w (Ret w (Z.ownBlock.toList) fun _ v w'=>(LEnt.own Z 33 11 r.length (r.flatMap An.enc)).holds w' ∧ v = .tuple #[]):=by
 refine La (Z.ownBlock.toList) [.own Z 33 11 Aw.length (Aw.flatMap An.enc)] func60 rfl ntmps60 rfl (fun e he=>by simp only [List.mem_singleton] at he;subst he;exact Bt) (Lz _) (Nm _) fun a S=>?_
 unfold Eo at h
 replace S:=(S.nl [.own Z 33 11 Aw.length (Aw.flatMap An.enc)] [true] rfl).k4 0 1 2 3 rfl
 refine Fr (Vm S rfl rfl fun a S=>Vq S Ge rfl rfl rfl fun a S=>Va S rfl rfl fun a S=>Dl ?_)
 replace S:=S.k5 0 1 2 3 8 rfl
 obtain ⟨j1,hj1,h⟩:=En h
 refine Ec (fun a w'=>∃ x1 : List An,j1 x1 = some r ∧ Sx w (Z.ownBlock.toList) nov [.own Z 33 11 x1.length (x1.flatMap An.enc)] [] 53 a w') ?_ ?_
 ·refine wp_block (Hx (fun (m1 : Nat) a w'=>∃ x1 : List An,∃ x2 : Int,Dp Ao Am j1 m1 x1 x2 = some r ∧ Sx w (Z.ownBlock.toList) nov [.own Z 33 11 x1.length (x1.flatMap An.enc)] [(0,Z),(1,iV Am),(2,iV Ao),(3,.func (.func 27) #[] #[]),(8,iV x2)] 53 a w') id ((Ao - (W (Am + 1))).toNat + 2) ⟨Aw,W (Am + 1),h,S.nf [true] rfl (subR rfl)⟩ ?_)
  clear S h;rintro m1 a w1 ⟨x1,x2,h,S⟩
  cases m1 with
  | zero=>rw [Dp.eq_1] at h;cases h
  | succ m1 =>
   rw [Dp.eq_2] at h
   refine Fs (Fr (Vm S rfl rfl fun a S=>Vm S rfl rfl fun a S=>Vb S Fa rfl rfl rfl fun a S=>Dl (Fc h (S.tm rfl) (fun hb1 h=>?_) (fun hb1 h=>?_))))
   ·refine wp_skip (Tn (Fs (wp_block (Fr (Vm S rfl rfl fun a S=>Va S rfl rfl fun a S=>Dl ?_)))))
    replace S:=S.k6 0 1 2 3 8 9 rfl
    obtain ⟨j2,hj2,h⟩:=En h
    refine Ec (fun a w'=>∃ x3 : List An,j2 x3 = some r ∧ Sx w (Z.ownBlock.toList) nov [.own Z 33 11 x3.length (x3.flatMap An.enc)] [(0,Z),(1,iV Am),(2,iV Ao),(3,.func (.func 27) #[] #[]),(8,iV x2)] 53 a w') ?_ ?_
    ·refine wp_block (Hx (fun (m2 : Nat) a w'=>∃ x3 : List An,∃ x4 : Int,Dh Am j2 m2 x3 x4 = some r ∧ Sx w (Z.ownBlock.toList) nov [.own Z 33 11 x3.length (x3.flatMap An.enc)] [(0,Z),(1,iV Am),(2,iV Ao),(3,.func (.func 27) #[] #[]),(8,iV x2),(9,iV x4)] 53 a w') id ((x2 - Am).toNat + 2) ⟨x1,x2,h,S.nf [true] rfl (subR rfl)⟩ ?_)
     clear S h;rintro m2 a w3 ⟨x3,x4,h,S⟩
     cases m2 with
     | zero=>rw [Dh.eq_1] at h;cases h
     | succ m2 =>
      rw [Dh.eq_2] at h
      refine Fs (Fs ?_)
      obtain ⟨j3,hj3,h⟩:=En h
      refine Ec (fun a w'=>∃ x5 : Bool,j3 x5 = some r ∧ Sx w (Z.ownBlock.toList) nov [.own Z 33 11 x3.length (x3.flatMap An.enc)] [(0,Z),(1,iV Am),(2,iV Ao),(3,.func (.func 27) #[] #[]),(8,iV x2),(9,iV x4),(34,bV x5)] 53 a w') ?_ ?_
      ·rcases Bool.eq_false_or_eq_true (decide (Am < x4)) with hb2 | hb2
       ·replace h:=Nq h hb2
        obtain ⟨hc1,h⟩:=Hw h
        obtain ⟨hc2,h⟩:=Hw h
        refine Fm [] ([]) Tryz.mixed S rfl (by kernel_rfl) ?_;clear S;intro w7 hk2 hsel S
        refine Da 0 S hsel rfl rfl rfl (by kernel_rfl) (by kernel_rfl) rfl (fun _ hw=>(Rm (S.tm rfl))) fun a S=>Da 1 S hsel rfl rfl rfl (by kernel_rfl) (by kernel_rfl) rfl (fun _ hw=>(Rm (S.tm rfl))) fun a S=>Da 2 S hsel rfl rfl rfl (by kernel_rfl) (by kernel_rfl) rfl (fun _ hw=>(Jn (S.tm rfl) (S.tm rfl))) fun a S=>Da 3 S hsel rfl rfl rfl (by kernel_rfl) (by kernel_rfl) rfl (fun _ hw=>(Rm (S.tm rfl))) fun a S=>Df 4 S hsel rfl rfl rfl rfl hb2 rfl rfl (by kernel_rfl) (by kernel_rfl) rfl (fun _ hw=>(Rm (S.tm rfl))) fun a S=>Df 5 S hsel rfl rfl rfl rfl hb2 rfl rfl (by kernel_rfl) (by kernel_rfl) rfl (fun _ hw=>(Rm (S.tm rfl))) fun a S=>Df 6 S hsel rfl rfl rfl rfl hb2 rfl rfl (by kernel_rfl) (by kernel_rfl) rfl (fun _ hw=>(Rm (S.tm rfl))) ?_;clear S;intro a S
        obtain ⟨b3,hg3,hr3⟩:=Jf (a:=a) (x:=.tmp 23) (y:=.tmp 24) (ty:=0) Es An.enc_ok S (i:=0) rfl (Dg hc1).1 (Dg hc1).2 (S.tm rfl) (S.tm rfl)
        refine Df 7 S hsel rfl rfl rfl rfl hb2 rfl rfl (by kernel_rfl) (by kernel_rfl) rfl (fun _ hw=>(hr3 _)) ?_;clear S;intro a S
        clear hr3
        refine Df 8 S hsel rfl rfl rfl rfl hb2 rfl rfl (by kernel_rfl) (by kernel_rfl) rfl (fun _ hw=>(Ev isAgg33 sizeOf33 (off:=x4.toNat * 11) (o:=0) (part:=(An.enc (nth x3 x4))) rfl rfl (S.tm rfl) ((Pm An.enc_ok S (i:=0) rfl hg3 (Dg hc1).1 (Gs (e':=.own Z 33 11 x3.length (x3.flatMap An.enc)))).kept hw))) fun a S=>Df 9 S hsel rfl rfl rfl rfl hb2 rfl rfl (by kernel_rfl) (by kernel_rfl) rfl (fun _ hw=>(Rm (S.tm rfl))) fun a S=>Df 10 S hsel rfl rfl rfl rfl hb2 rfl rfl (by kernel_rfl) (by kernel_rfl) rfl (fun _ hw=>(Rm (S.tm rfl))) fun a S=>Df 11 S hsel rfl rfl rfl rfl hb2 rfl rfl (by kernel_rfl) (by kernel_rfl) rfl (fun _ hw=>(Kh (S.tm rfl) rfl)) ?_;clear S;intro a S
        obtain ⟨b4,hg4,hr4⟩:=Jf (a:=a) (x:=.tmp 27) (y:=.tmp 29) (ty:=0) Es An.enc_ok S (i:=0) rfl (Dg hc2).1 (Dg hc2).2 (S.tm rfl) (S.tm rfl)
        refine Df 12 S hsel rfl rfl rfl rfl hb2 rfl rfl (by kernel_rfl) (by kernel_rfl) rfl (fun _ hw=>(hr4 _)) ?_;clear S;intro a S
        clear hr4
        refine Df 13 S hsel rfl rfl rfl rfl hb2 rfl rfl (by kernel_rfl) (by kernel_rfl) rfl (fun _ hw=>(Ev isAgg33 sizeOf33 (off:=((W (x4 - 1)).toNat) * 11) (o:=0) (part:=(An.enc (nth x3 (W (x4 - 1))))) rfl rfl (S.tm rfl) ((Pm An.enc_ok S (i:=0) rfl hg4 (Dg hc2).1 (Gs (e':=.own Z 33 11 x3.length (x3.flatMap An.enc)))).kept hw))) fun a S=>Ey 14 (by kernel_rfl) rfl (Db S rfl rfl rfl hb2 (De S (fun _=>Md (cap:=[]) (S.tm rfl) (vs:=[.agg (An.enc (nth x3 x4)).toArray,.agg (An.enc (nth x3 (W (x4 - 1)))).toArray]) ⟨(S.tm rfl),(S.tm rfl),trivial⟩ call27) (tumbref2_DeedOrder_ok _ (nth x3 x4) (nth x3 (W (x4 - 1))) _ rfl) rfl ?_));clear S;intro v2 a w8 hv2 hk3 hn2 S
        subst hv2
        refine Ld (Fz hk3 (Ip [15,16] hsel (by kernel_rfl) rfl ?_))
        clear hsel
        refine Gt S rfl rfl rfl rfl hb2 (Hv S (Fa (S.tm rfl) rfl) rfl fun a S=>Er S rfl (Ix hb2 (S.tm rfl) (S.tm rfl)) rfl fun a S=>Iq ?_)
        replace S:=S.nk [.own Z 33 11 x3.length (x3.flatMap An.enc)] [(0,Z),(1,iV Am),(2,iV Ao),(3,.func (.func 27) #[] #[]),(8,iV x2),(9,iV x4),(22,.func (.func 27) #[] #[]),(23,Z),(24,iV x4),(25,.pointer (some ⟨b3,x4.toNat * 11,none⟩)),(26,.agg (An.enc (nth x3 x4)).toArray),(27,Z),(28,iV x4),(29,iV (W (x4 - 1))),(30,.pointer (some ⟨b4,((W (x4 - 1)).toNat) * 11,none⟩)),(31,.agg (An.enc (nth x3 (W (x4 - 1)))).toArray),(32,iV (Ea (nth x3 x4) (nth x3 (W (x4 - 1))))),(33,bV (decide ((Ea (nth x3 x4) (nth x3 (W (x4 - 1)))) < 0))),(34,bV (decide ((Ea (nth x3 x4) (nth x3 (W (x4 - 1)))) < 0)))] [true] rfl (subR rfl)
        exact Tn (⟨decide ((Ea (nth x3 x4) (nth x3 (W (x4 - 1)))) < 0),h,S.nf [true] rfl (subR rfl)⟩)
       ·replace h:=Nr h hb2
        refine Fm [] ([]) Tryz.mixed S rfl (by kernel_rfl) ?_;clear S;intro w9 hk4 hsel S
        refine Ip [0,1,2,3,4,5,6,7,8,9,10,11,12,13,14,15,16] hsel (by kernel_rfl) rfl ?_
        clear hsel
        refine Er S rfl (Rm (S.tm rfl)) rfl fun a S=>Er S rfl (Rm (S.tm rfl)) rfl fun a S=>Er S rfl (Jn (S.tm rfl) (S.tm rfl)) rfl fun a S=>Er S rfl (Rm (S.tm rfl)) rfl ?_;clear S;intro a S
        iterate 12 (refine Oi S rfl rfl rfl rfl (Fl hb2) rfl ?_ rfl;clear S;intro a S)
        refine Er S rfl (Iy hb2 (S.tm rfl) rfl) rfl fun a S=>Iq ?_
        replace S:=S.k7 0 1 2 3 8 9 34 rfl
        exact Tn (⟨false,h,S.nf [true] rfl (subR rfl)⟩)
      clear S h;rintro a w5 ⟨x5,h,S⟩;rw [hj3] at h;clear hj3 j3
      refine Tn (Fc h (S.tm rfl) (fun hb3 h=>?_) (fun hb3 h=>?_))
      ·refine wp_skip (Tn (Fs (wp_block ?_)))
       obtain ⟨hc3,h⟩:=Hw h
       obtain ⟨hc4,h⟩:=Hw h
       obtain ⟨hc5,h⟩:=Hw h
       obtain ⟨hc6,h⟩:=Hw h
       refine Fm [15,17] ([]) Tryz.mixed S rfl (by kernel_rfl) ?_;clear S;intro w14 hk9 hsel S
       refine Hc 0 S hsel rfl rfl (by kernel_rfl) (by kernel_rfl) rfl (fun _=>(Rm (S.tm rfl))) fun a S=>Hc 1 S hsel rfl rfl (by kernel_rfl) (by kernel_rfl) rfl (fun _=>(Rm (S.tm rfl))) fun a S=>Hc 2 S hsel rfl rfl (by kernel_rfl) (by kernel_rfl) rfl (fun _=>(Rm (S.tm rfl))) fun a S=>Hc 3 S hsel rfl rfl (by kernel_rfl) (by kernel_rfl) rfl (fun _=>(Rm (S.tm rfl))) fun a S=>Hc 4 S hsel rfl rfl (by kernel_rfl) (by kernel_rfl) rfl (fun _=>(Kh (S.tm rfl) rfl)) fun a S=>Hc 5 S hsel rfl rfl (by kernel_rfl) (by kernel_rfl) rfl (fun _=>(Rm (S.tm rfl))) fun a S=>Hc 6 S hsel rfl rfl (by kernel_rfl) (by kernel_rfl) rfl (fun _=>(Rm (S.tm rfl))) fun a S=>Hc 7 S hsel rfl rfl (by kernel_rfl) (by kernel_rfl) rfl (fun _=>(Kh (S.tm rfl) rfl)) ?_;clear S;intro a S
       obtain ⟨b9,hg9,hr9⟩:=Jf (a:=a) (x:=.tmp 42) (y:=.tmp 44) (ty:=0) Es An.enc_ok S (i:=0) rfl (Dg hc3).1 (Dg hc3).2 (S.tm rfl) (S.tm rfl)
       refine Hc 8 S hsel rfl rfl (by kernel_rfl) (by kernel_rfl) rfl (fun _=>(hr9 _)) ?_;clear S;intro a S
       clear hr9
       refine Da 9 S hsel rfl (by kernel_rfl) (by kernel_rfl) (by kernel_rfl) (by kernel_rfl) rfl (fun _ hw=>(Ev isAgg33 sizeOf33 (off:=((W (x4 - 1)).toNat) * 11) (o:=0) (part:=(An.enc (nth x3 (W (x4 - 1))))) rfl rfl (S.tm rfl) ((Pm An.enc_ok S (i:=0) rfl hg9 (Dg hc3).1 (Gs (e':=.own Z 33 11 x3.length (x3.flatMap An.enc)))).kept hw))) fun a S=>Hc 10 S hsel rfl rfl (by kernel_rfl) (by kernel_rfl) rfl (fun _=>(Rm (S.tm rfl))) fun a S=>Hc 11 S hsel rfl rfl (by kernel_rfl) (by kernel_rfl) rfl (fun _=>(Rm (S.tm rfl))) ?_;clear S;intro a S
       obtain ⟨b10,hg10,hr10⟩:=Jf (a:=a) (x:=.tmp 47) (y:=.tmp 48) (ty:=0) Es An.enc_ok S (i:=0) rfl (Dg hc4).1 (Dg hc4).2 (S.tm rfl) (S.tm rfl)
       refine Hc 12 S hsel rfl rfl (by kernel_rfl) (by kernel_rfl) rfl (fun _=>(hr10 _)) ?_;clear S;intro a S
       clear hr10
       refine Da 13 S hsel rfl (by kernel_rfl) (by kernel_rfl) (by kernel_rfl) (by kernel_rfl) rfl (fun _ hw=>(Ev isAgg33 sizeOf33 (off:=x4.toNat * 11) (o:=0) (part:=(An.enc (nth x3 x4))) rfl rfl (S.tm rfl) ((Pm An.enc_ok S (i:=0) rfl hg10 (Dg hc4).1 (Gs (e':=.own Z 33 11 x3.length (x3.flatMap An.enc)))).kept hw))) ?_;clear S;intro a S
       obtain ⟨b11,hg11,hr11⟩:=Jf (a:=a) (x:=.tmp 37) (y:=.tmp 38) (ty:=0) Es An.enc_ok S (i:=0) rfl (Dg hc5).1 (Dg hc5).2 (S.tm rfl) (S.tm rfl)
       refine Hc 14 S hsel rfl rfl (by kernel_rfl) (by kernel_rfl) rfl (fun _=>(hr11 _)) ?_;clear S;intro a S
       clear hr11
       refine Wr 15 (Z.ownBlock.toList) rfl (by kernel_rfl) rfl (Qj (c:=0) (j:=x4.toNat) (nth x3 (W (x4 - 1))) An.enc_ok S (S.tm rfl) (S.tm rfl) (i:=0) rfl hg11 (Dg hc5).1 sizeOf33 (vs:=[sV ((nth x3 (W (x4 - 1))).Site),iV ((nth x3 (W (x4 - 1))).No),iV ((nth x3 (W (x4 - 1))).At),iV ((nth x3 (W (x4 - 1))).Kind),sV ((nth x3 (W (x4 - 1))).Who),sV ((nth x3 (W (x4 - 1))).Club),sV ((nth x3 (W (x4 - 1))).Race),iV ((nth x3 (W (x4 - 1))).Time),iV ((nth x3 (W (x4 - 1))).Fault),sV ((nth x3 (W (x4 - 1))).Of),iV ((nth x3 (W (x4 - 1))).Other)]) rfl rfl rfl rfl rfl ?_);clear S;intro w16 hk11 S
       refine Ld (Ws ?_)
       obtain ⟨b12,hg12,hr12⟩:=Jf (a:=a) (x:=.tmp 39) (y:=.tmp 41) (ty:=0) Es An.enc_ok S (i:=0) rfl (Dg hc6).1 (Dg hc6).2 (S.tm rfl) (S.tm rfl)
       refine Da 16 S hsel rfl rfl rfl (by kernel_rfl) (by kernel_rfl) rfl (fun _ hw=>(hr12 _)) ?_;clear S;intro a S
       clear hr12
       refine Ey 17 (by kernel_rfl) rfl (Qj (c:=0) (j:=(W (x4 - 1)).toNat) (nth x3 x4) An.enc_ok S (S.tm rfl) (S.tm rfl) (i:=0) rfl hg12 (Dg hc6).1 sizeOf33 (vs:=[sV ((nth x3 x4).Site),iV ((nth x3 x4).No),iV ((nth x3 x4).At),iV ((nth x3 x4).Kind),sV ((nth x3 x4).Who),sV ((nth x3 x4).Club),sV ((nth x3 x4).Race),iV ((nth x3 x4).Time),iV ((nth x3 x4).Fault),sV ((nth x3 x4).Of),iV ((nth x3 x4).Other)]) rfl rfl rfl rfl rfl ?_);clear S;intro w18 hk13 S
       refine Ld (Fz hk13 (So (by kernel_rfl) ?_))
       clear hsel
       replace S:=(S.nl [.own Z 33 11 ((x3.set x4.toNat (nth x3 (W (x4 - 1)))).set ((W (x4 - 1)).toNat) (nth x3 x4)).length (((x3.set x4.toNat (nth x3 (W (x4 - 1)))).set ((W (x4 - 1)).toNat) (nth x3 x4)).flatMap An.enc)] [true] rfl).k6 0 1 2 3 8 9 rfl
       exact Ia (Tn (Fg (Vm S rfl rfl fun a S=>Vq S Kh rfl rfl rfl fun a S=>Va S rfl rfl fun a S=>Dl (⟨m2,⟨((x3.set x4.toNat (nth x3 (W (x4 - 1)))).set ((W (x4 - 1)).toNat) (nth x3 x4)),W (x4 - 1),h,S.nf [true] rfl ⟨rfl,rfl,rfl,rfl,rfl,rfl,trivial⟩⟩,Nat.lt_succ_self _⟩))))
      ·exact wp_exit (Et (Et (Hp (Tn (⟨x3,h,S.nf [true] rfl (subR rfl)⟩)))))
    clear S h;rintro a w4 ⟨x3,h,S⟩;rw [hj2] at h;clear hj2 j2
    exact Ia (Tn (Fg (Vm S rfl rfl fun a S=>Vq S Ge rfl rfl rfl fun a S=>Va S rfl rfl fun a S=>Dl (⟨m1,⟨x3,W (x2 + 1),h,S.nf [true] rfl ⟨rfl,rfl,rfl,rfl,rfl,trivial⟩⟩,Nat.lt_succ_self _⟩))))
   ·exact wp_exit (Et (Et (Hp (Tn (⟨x1,h,S.nf [true] rfl trivial⟩)))))
 clear S h;rintro a w2 ⟨x1,h,S⟩;rw [hj1] at h;clear hj1 j1
 obtain rfl:=Option.some.inj h
 exact Uf S results60 ⟨(S.holds _ (List.mem_of_getElem? (i:=0) rfl)),rfl⟩
theorem Lx (w : World) (Z : Value) (Aw : List An) (Bt : (LEnt.own Z 33 11 Aw.length (Aw.flatMap An.enc)).holds w) (Bb : Int) (r : (List An)) (h : Gn Aw Bb = some r) :
    Calls prog 45 [Z,iV Bb,.func (.func 27) #[] #[]].toArray w (Ret w (Z.ownBlock.toList) fun _ v w'=>(LEnt.own Z 33 11 r.length (r.flatMap An.enc)).holds w' ∧ v = .tuple #[]):=by
 refine La (Z.ownBlock.toList) [.own Z 33 11 Aw.length (Aw.flatMap An.enc)] func45 rfl ntmps45 rfl (fun e he=>by simp only [List.mem_singleton] at he;subst he;exact Bt) (Lz _) (Nm _) fun a S=>?_
 unfold Gn at h
 replace S:=(S.nl [.own Z 33 11 Aw.length (Aw.flatMap An.enc)] [true] rfl).k3 0 1 2 rfl
 refine Fr (Vk S rfl rfl fun a S=>Dz (Vm S rfl rfl fun a S=>Vk S rfl rfl fun a S=>Va S rfl rfl fun a S=>Ld ?_))
 refine Tn (Fs ?_)
 replace S:=S.k6 0 1 2 6 7 8 rfl
 obtain ⟨j1,hj1,h⟩:=En h
 refine Ec (fun a w'=>∃ x1 : List An,∃ x2 : Int,j1 x1 x2 = some r ∧ Sx w (Z.ownBlock.toList) nov [.own Z 33 11 x1.length (x1.flatMap An.enc)] [(0,Z),(1,iV Bb),(2,.func (.func 27) #[] #[]),(6,iV 20),(7,iV x2)] 63 a w') ?_ ?_
 ·refine wp_block (Hx (fun (m1 : Nat) a w'=>∃ x1 : List An,∃ x2 : Int,∃ x3 : Int,Du Bb j1 m1 x1 x2 x3 = some r ∧ Sx w (Z.ownBlock.toList) nov [.own Z 33 11 x1.length (x1.flatMap An.enc)] [(0,Z),(1,iV Bb),(2,.func (.func 27) #[] #[]),(6,iV 20),(7,iV x2),(8,iV x3)] 63 a w') id ((Bb - 20).toNat + 2) ⟨Aw,0,20,h,S.nf [true] rfl (subR rfl)⟩ ?_)
  clear S h;rintro m1 a w1 ⟨x1,x2,x3,h,S⟩
  cases m1 with
  | zero=>rw [Du.eq_1] at h;cases h
  | succ m1 =>
   rw [Du.eq_2] at h
   refine Fs (Fr (Vm S rfl rfl fun a S=>Vm S rfl rfl fun a S=>Vb S Sa rfl rfl rfl fun a S=>Dl (Fc h (S.tm rfl) (fun hb1 h=>?_) (fun hb1 h=>?_))))
   ·refine wp_skip (Tn (wp_block (Fs (Fg ?_))))
    iterate 4 (refine Vm S rfl rfl ?_;clear S;intro a S)
    obtain ⟨r1,hr1,h⟩:=El h
    refine Nz 0 S rfl (fun _=>.own Z 33 11 r1.length (r1.flatMap An.enc)) (fun _=>Cy (vs:=[Z,iV x2,iV x3,.func (.func 27) #[] #[]]) ⟨(S.tm rfl),(S.tm rfl),(S.tm rfl),(S.tm rfl),trivial⟩ call60) (Ij _ Z x1 (S.holds _ (List.mem_of_getElem? (i:=0) rfl)) x2 x3 _ hr1) rfl (fun _ _ _ h=>⟨h.1,fun _ hc=>hc⟩) ?_;clear S;intro v1 a w3 hv1 hk1 hn1 S
    replace hv1:=hv1.2
    subst hv1
    refine Dz (Vm S rfl rfl fun a S=>Va S rfl rfl fun a S=>Ld ?_)
    replace S:=(S.nl [.own Z 33 11 r1.length (r1.flatMap An.enc)] [true] rfl).k6 0 1 2 6 7 8 rfl
    exact Tn (Fg (Vm S rfl rfl fun a S=>Vm S rfl rfl fun a S=>Vb S Ge rfl rfl rfl fun a S=>Va S rfl rfl fun a S=>Ld (Ia (Tn (⟨m1,⟨r1,x3,W (x3 + 20),h,S.nf [true] rfl ⟨rfl,rfl,rfl,rfl,rfl,rfl,trivial⟩⟩,Nat.lt_succ_self _⟩)))))
   ·exact wp_exit (Et (Et (Hp (Tn (⟨x1,x2,h,S.nf [true] rfl (subR rfl)⟩)))))
 clear S h;rintro a w2 ⟨x1,x2,h,S⟩;rw [hj1] at h;clear hj1 j1
 refine Tn (Fs (Fg ?_))
 iterate 4 (refine Vm S rfl rfl ?_;clear S;intro a S)
 obtain ⟨r2,hr2,h⟩:=El h
 refine Nz 0 S rfl (fun _=>.own Z 33 11 r2.length (r2.flatMap An.enc)) (fun _=>Cy (vs:=[Z,iV x2,iV Bb,.func (.func 27) #[] #[]]) ⟨(S.tm rfl),(S.tm rfl),(S.tm rfl),(S.tm rfl),trivial⟩ call60) (Ij _ Z x1 (S.holds _ (List.mem_of_getElem? (i:=0) rfl)) x2 Bb _ hr2) rfl (fun _ _ _ h=>⟨h.1,fun _ hc=>hc⟩) ?_;clear S;intro v2 a w4 hv2 hk2 hn2 S
 replace hv2:=hv2.2
 subst hv2
 refine Dl ?_
 replace S:=(S.nl [.own Z 33 11 r2.length (r2.flatMap An.enc)] [true] rfl).k2 1 6 rfl
 obtain ⟨j2,hj2,h⟩:=En h
 refine Ec (fun a w'=>j2 = some r ∧ Sx w (Z.ownBlock.toList) nov [.own Z 33 11 r2.length (r2.flatMap An.enc)] [] 63 a w') ?_ ?_
 ·refine wp_block (Hx (fun (m2 : Nat) a w'=>∃ x4 : Int,Dv Bb j2 m2 x4 = some r ∧ Sx w (Z.ownBlock.toList) nov [.own Z 33 11 r2.length (r2.flatMap An.enc)] [(1,iV Bb),(6,iV x4)] 63 a w') id ((Bb - 20).toNat + 2) ⟨20,h,S.nf [true] rfl (subR rfl)⟩ ?_)
  clear S h;rintro m2 a w5 ⟨x4,h,S⟩
  cases m2 with
  | zero=>rw [Dv.eq_1] at h;cases h
  | succ m2 =>
   rw [Dv.eq_2] at h
   refine Fs (Fr (Vm S rfl rfl fun a S=>Vm S rfl rfl fun a S=>Vb S Fa rfl rfl rfl fun a S=>Dl (Fc h (S.tm rfl) (fun hb2 h=>?_) (fun hb2 h=>?_))))
   ·refine wp_skip (Tn (wp_block (Fr (Vm S rfl rfl fun a S=>Vu S (Xa rfl) rfl rfl fun a S=>Vk S rfl rfl fun a S=>Va S rfl rfl fun a S=>Dl ?_))))
    refine Fs ?_
    replace S:=S.k4 1 6 7 8 rfl
    obtain ⟨j3,hj3,h⟩:=En h
    refine Ec (fun a w'=>∃ x5 : Int,j3 x5 = some r ∧ Sx w (Z.ownBlock.toList) nov [.own Z 33 11 r2.length (r2.flatMap An.enc)] [(1,iV Bb),(6,iV x4),(7,iV x5)] 63 a w') ?_ ?_
    ·refine wp_block (Hx (fun (m3 : Nat) a w'=>∃ x5 : Int,∃ x6 : Int,Ei Bb j3 m3 x5 x6 = some r ∧ Sx w (Z.ownBlock.toList) nov [.own Z 33 11 r2.length (r2.flatMap An.enc)] [(1,iV Bb),(6,iV x4),(7,iV x5),(8,iV x6)] 63 a w') id ((Bb - (W (2 * x4))).toNat + 2) ⟨0,W (2 * x4),h,S.nf [true] rfl (subR rfl)⟩ ?_)
     clear S h;rintro m3 a w7 ⟨x5,x6,h,S⟩
     cases m3 with
     | zero=>rw [Ei.eq_1] at h;cases h
     | succ m3 =>
      rw [Ei.eq_2] at h
      refine Fs (Fr (Vm S rfl rfl fun a S=>Vm S rfl rfl fun a S=>Vb S Sa rfl rfl rfl fun a S=>Dl (Fc h (S.tm rfl) (fun hb3 h=>?_) (fun hb3 h=>?_))))
      ·refine wp_skip (Tn (wp_block (Fs ?_)))
       cases h
      ·exact wp_exit (Et (Et (Hp (Tn (⟨x5,h,S.nf [true] rfl (subR rfl)⟩)))))
    clear S h;rintro a w8 ⟨x5,h,S⟩;rw [hj3] at h;clear hj3 j3
    refine Tn (Fs (Fr (Vm S rfl rfl fun a S=>Vm S rfl rfl fun a S=>Vb S Ge rfl rfl rfl fun a S=>Va S rfl rfl fun a S=>Dl (Fs ?_))))
    refine Fg (Vm S rfl rfl fun a S=>Vm S rfl rfl fun a S=>Vb S Fa rfl rfl rfl fun a S=>Dl (Fc h (S.tm rfl) (fun hb4 h=>?_) (fun hb4 h=>?_)))
    ·cases h
    ·exact wp_skip (Tn (Fg (Vm S rfl rfl fun a S=>Vq S Xa rfl rfl rfl fun a S=>Va S rfl rfl fun a S=>Ld (Ia (Tn (⟨m2,⟨W (x4 * 2),h,S.nf [true] rfl ⟨rfl,rfl,trivial⟩⟩,Nat.lt_succ_self _⟩))))))
   ·exact wp_exit (Et (Et (Hp (Tn (⟨h,S.nf [true] rfl trivial⟩)))))
 clear S h;rintro a w6 ⟨h,S⟩;rw [hj2] at h;clear hj2 j2
 obtain rfl:=Option.some.inj h
 exact Uf S results45 ⟨(S.holds _ (List.mem_of_getElem? (i:=0) rfl)),rfl⟩
theorem Lr (w : World) (Bg : Value) (O : List An) (Ca : (LEnt.own Bg 33 11 O.length (O.flatMap An.enc)).holds w) (r : (List An)) (h : Ez O = some r) :
    Calls prog 26 [Bg,.func (.func 27) #[] #[]].toArray w (Ret w (Bg.ownBlock.toList) fun _ v w'=>(LEnt.own Bg 33 11 r.length (r.flatMap An.enc)).holds w' ∧ v = .tuple #[]):=by
 refine La (Bg.ownBlock.toList) [.own Bg 33 11 O.length (O.flatMap An.enc)] func26 rfl ntmps26 rfl (fun e he=>by simp only [List.mem_singleton] at he;subst he;exact Ca) (Lz _) (Nm _) fun a S=>?_
 unfold Ez at h
 replace S:=(S.nl [.own Bg 33 11 O.length (O.flatMap An.enc)] [true] rfl).k2 0 1 rfl
 refine Fg (Vm S rfl rfl fun a S=>Vm S rfl rfl fun a S=>lv S (Fd Es (S.tm rfl) (Mr (S.own_at (i:=0) rfl))) rfl fun a S=>Vm S rfl rfl ?_);clear S;intro a S
 obtain ⟨r1,hr1,h⟩:=El h
 refine Nz 0 S rfl (fun _=>.own Bg 33 11 r1.length (r1.flatMap An.enc)) (fun _=>Cy (vs:=[Bg,iV (O.length : Int),.func (.func 27) #[] #[]]) ⟨(S.tm rfl),(S.tm rfl),(S.tm rfl),trivial⟩ call45) (Lx _ Bg O (S.holds _ (List.mem_of_getElem? (i:=0) rfl)) (O.length : Int) _ hr1) rfl (fun _ _ _ h=>⟨h.1,fun _ hc=>hc⟩) ?_;clear S;intro v1 a w1 hv1 hk1 hn1 S
 replace hv1:=hv1.2
 subst hv1
 refine Ld ?_
 obtain rfl:=Option.some.inj h
 exact Uf S results26 ⟨(S.holds _ (List.mem_of_getElem? (i:=0) rfl)),rfl⟩
theorem Qb (w : World) (U : Nat) (V : Value) (Al : List Int) (Aj : Slc (view w [U]) 1 V (Al.map eInt)) (Af : Int) (Ar : (LEnt.blk U [V,iV Af] 25).holds w) (Bm : Int) (r : (List An) × Int) (h : Le Al Af Bm = some r) :
    Calls prog 4 [.pointer (some ⟨U,0,none⟩),iV Bm].toArray w (Ret w [U] fun τ v w'=>(LEnt.blk U [V,iV r.2] 25).holds w' ∧ Mq τ 33 11 v r.1.length (r.1.flatMap An.enc)):=by
 refine La [U] [.blk U [V,iV Af] 25] func4 rfl ntmps4 rfl (fun e he=>by simp only [List.mem_singleton] at he;subst he;exact Ar) (by simp [fps,LEnt.fp]) (by simp [fps,LEnt.fp]) fun a S=>?_
 unfold Le at h
 replace S:=(S.nl [.blk U [V,iV Af] 25] [true] rfl).k2 0 1 rfl
 refine Fr (Vk S rfl rfl fun a S=>Dz (Vk S rfl rfl ?_));clear S;intro a S
 replace S:=S.nil 33 11
 refine Dz (Vk S rfl rfl fun a S=>Dz (Tp (κ:=ByteArray) (ν:=Int) S rfl Value.string (Value.int .i64) ?_));clear S;intro a w1 b1 hz1 hk1 S
 refine Va S rfl rfl fun a S=>Dl (Fs (Fr (Vm S rfl rfl fun a S=>lv S (Rm rfl) rfl fun a S=>Dl ?_)))
 replace S:=(S.nl [.map b1 (Gy Value.string (Value.int .i64) ([] : List (ByteArray × Int))) ([] : List (ByteArray × Int)).length,.own (.slice none 0 0) 33 11 ([] : List An).length (([] : List An).flatMap An.enc),.blk U [V,iV Af] 25] [true,true,true] rfl).k6 0 5 6 7 10 11 rfl
 obtain ⟨j1,hj1,h⟩:=En h
 refine Ec (fun a w'=>∃ x1 : List (ByteArray × Int),∃ x2 : List An,∃ x3 : Int,∃ v1 : Value,j1 x1 x2 x3 = some r ∧ Sx w [U] nov [.map b1 (Gy Value.string (Value.int .i64) x1) x1.length,.own v1 33 11 x2.length (x2.flatMap An.enc),.blk U [V,iV x3] 25] [(5,v1)] 130 a w') ?_ ?_
 ·refine wp_block (Hx (fun (m1 : Nat) a w'=>∃ x1 : List (ByteArray × Int),∃ x2 : List An,∃ x3 : Int,∃ x4 : Int,∃ x5 : Int,∃ v1 : Value,Jb Bm Al j1 m1 x1 x2 x3 x4 x5 = some r ∧ Sx w [U] nov [.map b1 (Gy Value.string (Value.int .i64) x1) x1.length,.own v1 33 11 x2.length (x2.flatMap An.enc),.blk U [V,iV x3] 25] [(0,.pointer (some ⟨U,0,none⟩)),(5,v1),(6,iV x4),(7,.map (some b1)),(10,iV Bm),(11,iV x5)] 130 a w') id ((Bm - 0).toNat + 2) ⟨([] : List (ByteArray × Int)),([] : List An),Af,0,0,(.slice none 0 0),h,S.nf [true,true,true] rfl (subR rfl)⟩ ?_)
  clear S h;rintro m1 a w2 ⟨x1,x2,x3,x4,x5,v1,h,S⟩
  cases m1 with
  | zero=>rw [Jb.eq_1] at h;cases h
  | succ m1 =>
   rw [Jb.eq_2] at h
   refine Fr (Vb S Fa rfl rfl rfl fun a S=>Dl (Fs (Fc h (S.tm rfl) (fun hb1 h=>?_) (fun hb1 h=>?_))))
   ·refine wp_skip (Tn (Fs (wp_block (Fr (Vm S rfl rfl fun a S=>Vm S rfl rfl fun a S=>Eg S underlying22 sizeOf3 zeroValue3 rfl rfl (pv:=[(0,iV 0),(1,iV 1),(2,iV 5)]) ⟨rfl,rfl,rfl,rfl,rfl,rfl,trivial⟩ (cs:=[iV 0,iV 1,iV 5]) (by kernel_rfl) rfl ?_)))));clear S;intro a w4 b2 hz2 hk2 S
    obtain ⟨r1,hr1,h⟩:=El h
    refine Fw 3 S (b:=U) rfl rfl (fun _=>.blk U [V,iV r1.2] 25) (fun _=>Cy (vs:=[.pointer (some ⟨U,0,none⟩),.slice (some ⟨b2,0,none⟩) 3 3]) ⟨(S.tm rfl),(S.tm rfl),trivial⟩ call23) (Ln _ U V Al (Aj.mono (S.le_arg (Hq (i:=3) (e:=.blk U [V,iV x3] 25) rfl))) x3 (S.holds _ (List.mem_of_getElem? (i:=3) rfl)) (.slice (some ⟨b2,0,none⟩) 3 3) [0,1,5] (Jh Iu S (i:=0) rfl rfl rfl rfl ((Kd (i:=3) (j:=0) (e:=.blk U [V,iV x3] 25) (e':=.blk b2 [iV 0,iV 1,iV 5] 3) S rfl rfl rfl) _ rfl)) _ hr1) rfl (fun _ _ _ h=>⟨h.1,fun _ hc=>by cases hc;rfl⟩) ?_;clear S;intro v2 a w5 hv1 hk3 hn1 S
    replace hv1:=hv1.2
    subst hv1
    refine Vb S Ge rfl rfl rfl fun a S=>Va S rfl rfl fun a S=>Dz (Vm S rfl rfl fun a S=>Eg S underlying81 sizeOf9 zeroValue9 rfl rfl (pv:=[(0,sV Mx),(1,sV Mx),(2,sV Vt)]) ⟨rfl,rfl,rfl,rfl,rfl,rfl,trivial⟩ (cs:=[sV Mx,sV Mx,sV Vt]) (by kernel_rfl) rfl ?_);clear S;intro a w6 b3 hz3 hk4 S
    obtain ⟨r2,hr2,h⟩:=El h
    refine Fw 4 S (b:=U) rfl rfl (fun _=>.blk U [V,iV r2.2] 25) (fun _=>Cy (vs:=[.pointer (some ⟨U,0,none⟩),.slice (some ⟨b3,0,none⟩) 3 3]) ⟨(S.tm rfl),(S.tm rfl),trivial⟩ call24) (Kc _ U V Al (Aj.mono (S.le_arg (Hq (i:=4) (e:=.blk U [V,iV r1.2] 25) rfl))) r1.2 (S.holds _ (List.mem_of_getElem? (i:=4) rfl)) (.slice (some ⟨b3,0,none⟩) 3 3) [Mx,Mx,Vt] (Jh Qc S (i:=0) rfl rfl rfl rfl ((Kd (i:=4) (j:=0) (e:=.blk U [V,iV r1.2] 25) (e':=.blk b3 [sV Mx,sV Mx,sV Vt] 9) S rfl rfl rfl) _ rfl)) _ hr2) rfl (fun _ _ _ h=>⟨h.1,fun _ hc=>by cases hc;rfl⟩) ?_;clear S;intro v3 a w7 hv2 hk5 hn2 S
    replace hv2:=hv2.2
    subst hv2
    refine Vm S rfl rfl fun a S=>Vm S rfl rfl fun a S=>Eg S underlying22 sizeOf3 zeroValue3 rfl rfl (pv:=[(0,iV 1),(1,iV 1),(2,iV 1),(3,iV 3),(4,iV 3),(5,iV 3),(6,iV 2),(7,iV 4)]) ⟨rfl,rfl,rfl,rfl,rfl,rfl,rfl,rfl,rfl,rfl,rfl,rfl,rfl,rfl,rfl,rfl,trivial⟩ (cs:=[iV 1,iV 1,iV 1,iV 3,iV 3,iV 3,iV 2,iV 4]) (by kernel_rfl) rfl ?_;clear S;intro a w8 b4 hz4 hk6 S
    obtain ⟨r3,hr3,h⟩:=El h
    refine Fw 5 S (b:=U) rfl rfl (fun _=>.blk U [V,iV r3.2] 25) (fun _=>Cy (vs:=[.pointer (some ⟨U,0,none⟩),.slice (some ⟨b4,0,none⟩) 8 8]) ⟨(S.tm rfl),(S.tm rfl),trivial⟩ call23) (Ln _ U V Al (Aj.mono (S.le_arg (Hq (i:=5) (e:=.blk U [V,iV r2.2] 25) rfl))) r2.2 (S.holds _ (List.mem_of_getElem? (i:=5) rfl)) (.slice (some ⟨b4,0,none⟩) 8 8) [1,1,1,3,3,3,2,4] (Jh Iu S (i:=0) rfl rfl rfl rfl ((Kd (i:=5) (j:=0) (e:=.blk U [V,iV r2.2] 25) (e':=.blk b4 [iV 1,iV 1,iV 1,iV 3,iV 3,iV 3,iV 2,iV 4] 3) S rfl rfl rfl) _ rfl)) _ hr3) rfl (fun _ _ _ h=>⟨h.1,fun _ hc=>by cases hc;rfl⟩) ?_;clear S;intro v4 a w9 hv3 hk7 hn3 S
    replace hv3:=hv3.2
    subst hv3
    refine lv S (Nw CW (pv:=[(0,sV r2.1),(2,iV (W (x4 + r1.1))),(3,iV r3.1)]) ⟨rfl,(S.tm rfl),rfl,(S.tm rfl),rfl,(S.tm rfl),trivial⟩ (cs:=[sV r2.1,iV 0,iV (W (x4 + r1.1)),iV r3.1,sV Cw,sV Cw,sV Cw,iV 0,iV 0,sV Cw,iV 0]) (by kernel_rfl)) rfl fun a S=>It S zeroValue33 (cs:=[sV Cw,iV 0,iV 0,iV 0,sV Cw,sV Cw,sV Cw,iV 0,iV 0,sV Cw,iV 0]) rfl rfl ?_;clear S;intro a w10 b5 hz5 hk8 S
    refine Ef S (S.tm rfl) (S.tm rfl) (i:=0) (off:=0) rfl sizeOf33 (vs:=(An.enc (An.mk r2.1 0 (W (x4 + r1.1)) r3.1 Cw Cw Cw 0 0 Cw 0))) rfl rfl rfl rfl ?_;clear S;intro w11 hk9 S
    refine Ld ?_
    replace S:=(S.nl [.blk b5 (An.enc (An.mk r2.1 0 (W (x4 + r1.1)) r3.1 Cw Cw Cw 0 0 Cw 0)) 33,.map b1 (Gy Value.string (Value.int .i64) x1) x1.length,.own v1 33 11 x2.length (x2.flatMap An.enc),.blk U [V,iV r3.2] 25] [true,false,false,false,true,true,true] rfl).k7 0 5 6 7 8 10 11 rfl
    refine Tn (Fr (Vm S rfl rfl fun a S=>Vf Ih S rfl rfl fun a S=>Vl isAgg9 0 S rfl rfl rfl rfl fun a S=>lv S (Rk (kv:=Value.string) (vv:=(Value.int .i64)) (m:=x1) (key:=r2.1) (z:=0) (S.map_at (i:=1) rfl) underlying49 (Rj underlying9) zeroValue3 (S.tm rfl) (S.tm rfl)) rfl fun a S=>Vq S Ge rfl rfl rfl fun a S=>Qv (kv:=Value.string) (vv:=(Value.int .i64)) (m:=x1) (key:=r2.1) (val:=W ((Dw x1 r2.1 0) + 1)) S (i:=1) rfl underlying49 (Rj underlying9) (S.tm rfl) (S.tm rfl) (S.tm rfl) ?_));clear S;intro w12 hk10 S
    refine Dz (Vm S rfl rfl fun a S=>Vf Ih S rfl rfl fun a S=>Vl isAgg9 0 S rfl rfl rfl rfl fun a S=>lv S (Rk (kv:=Value.string) (vv:=(Value.int .i64)) (m:=(Ff x1 r2.1 (W ((Dw x1 r2.1 0) + 1)))) (key:=r2.1) (z:=0) (S.map_at (i:=1) rfl) underlying49 (Rj underlying9) zeroValue3 (S.tm rfl) (S.tm rfl)) rfl fun a S=>Vf Hd S rfl rfl fun a S=>Ef S (S.tm rfl) (S.tm rfl) (i:=0) (off:=1) rfl sizeOf3 (vs:=[iV (Dw (Ff x1 r2.1 (W ((Dw x1 r2.1 0) + 1))) r2.1 0)]) rfl rfl rfl rfl ?_);clear S;intro w13 hk11 S
    refine Ld ?_
    replace S:=(S.nl [.blk b5 (An.enc (An.mk r2.1 (Dw (Ff x1 r2.1 (W ((Dw x1 r2.1 0) + 1))) r2.1 0) (W (x4 + r1.1)) r3.1 Cw Cw Cw 0 0 Cw 0)) 33,.map b1 (Gy Value.string (Value.int .i64) (Ff x1 r2.1 (W ((Dw x1 r2.1 0) + 1)))) (Ff x1 r2.1 (W ((Dw x1 r2.1 0) + 1))).length,.own v1 33 11 x2.length (x2.flatMap An.enc),.blk U [V,iV r3.2] 25] [true,true,true,true] rfl).k7 0 5 6 7 8 10 11 rfl
    refine Tn (Fs (Fr (Vf Jm S rfl rfl fun a S=>Vl isAgg3 0 S rfl rfl rfl rfl fun a S=>Vq S Io rfl rfl rfl fun a S=>Dl ?_)))
    obtain ⟨j2,hj2,h⟩:=En h
    refine Ec (fun a w'=>∃ x6 : ByteArray,∃ x7 : ByteArray,∃ x8 : Int,j2 x6 x7 x8 = some r ∧ Sx w [U] nov [.blk b5 (An.enc (An.mk r2.1 (Dw (Ff x1 r2.1 (W ((Dw x1 r2.1 0) + 1))) r2.1 0) (W (x4 + r1.1)) r3.1 x6 Cw x7 0 0 Cw 0)) 33,.map b1 (Gy Value.string (Value.int .i64) (Ff x1 r2.1 (W ((Dw x1 r2.1 0) + 1)))) (Ff x1 r2.1 (W ((Dw x1 r2.1 0) + 1))).length,.own v1 33 11 x2.length (x2.flatMap An.enc),.blk U [V,iV x8] 25] [(0,.pointer (some ⟨U,0,none⟩)),(5,v1),(6,iV (W (x4 + r1.1))),(7,.map (some b1)),(8,.pointer (some ⟨b5,0,none⟩)),(10,iV Bm),(11,iV x5)] 130 a w') ?_ ?_
    ·refine Fc h (S.tm rfl) (fun hb2 h=>?_) (fun hb2 h=>?_)
     ·refine Fg (Vm S rfl rfl fun a S=>Eg S underlying81 sizeOf9 zeroValue9 rfl rfl (pv:=[(0,sV Rq),(1,sV Xf),(2,sV Xg),(3,sV Xh)]) ⟨rfl,rfl,rfl,rfl,rfl,rfl,rfl,rfl,trivial⟩ (cs:=[sV Rq,sV Xf,sV Xg,sV Xh]) (by kernel_rfl) rfl ?_);clear S;intro a w15 b6 hz6 hk12 S
      obtain ⟨r4,hr4,h⟩:=El h
      refine Fw 4 S (b:=U) rfl rfl (fun _=>.blk U [V,iV r4.2] 25) (fun _=>Cy (vs:=[.pointer (some ⟨U,0,none⟩),.slice (some ⟨b6,0,none⟩) 4 4]) ⟨(S.tm rfl),(S.tm rfl),trivial⟩ call24) (Kc _ U V Al (Aj.mono (S.le_arg (Hq (i:=4) (e:=.blk U [V,iV r3.2] 25) rfl))) r3.2 (S.holds _ (List.mem_of_getElem? (i:=4) rfl)) (.slice (some ⟨b6,0,none⟩) 4 4) [Rq,Xf,Xg,Xh] (Jh Qc S (i:=0) rfl rfl rfl rfl ((Kd (i:=4) (j:=0) (e:=.blk U [V,iV r3.2] 25) (e':=.blk b6 [sV Rq,sV Xf,sV Xg,sV Xh] 9) S rfl rfl rfl) _ rfl)) _ hr4) rfl (fun _ _ _ h=>⟨h.1,fun _ hc=>by cases hc;rfl⟩) ?_;clear S;intro v5 a w16 hv4 hk13 hn4 S
      replace hv4:=hv4.2
      subst hv4
      refine Vm S rfl rfl fun a S=>Eg S underlying81 sizeOf9 zeroValue9 rfl rfl (pv:=[(0,sV Sg),(1,sV Sg),(2,sV BS),(3,sV BT)]) ⟨rfl,rfl,rfl,rfl,rfl,rfl,rfl,rfl,trivial⟩ (cs:=[sV Sg,sV Sg,sV BS,sV BT]) (by kernel_rfl) rfl ?_;clear S;intro a w17 b7 hz7 hk14 S
      obtain ⟨r5,hr5,h⟩:=El h
      refine Fw 5 S (b:=U) rfl rfl (fun _=>.blk U [V,iV r5.2] 25) (fun _=>Cy (vs:=[.pointer (some ⟨U,0,none⟩),.slice (some ⟨b7,0,none⟩) 4 4]) ⟨(S.tm rfl),(S.tm rfl),trivial⟩ call24) (Kc _ U V Al (Aj.mono (S.le_arg (Hq (i:=5) (e:=.blk U [V,iV r4.2] 25) rfl))) r4.2 (S.holds _ (List.mem_of_getElem? (i:=5) rfl)) (.slice (some ⟨b7,0,none⟩) 4 4) [Sg,Sg,BS,BT] (Jh Qc S (i:=0) rfl rfl rfl rfl ((Kd (i:=5) (j:=0) (e:=.blk U [V,iV r4.2] 25) (e':=.blk b7 [sV Sg,sV Sg,sV BS,sV BT] 9) S rfl rfl rfl) _ rfl)) _ hr5) rfl (fun _ _ _ h=>⟨h.1,fun _ hc=>by cases hc;rfl⟩) ?_;clear S;intro v6 a w18 hv5 hk15 hn5 S
      replace hv5:=hv5.2
      subst hv5
      refine Vf Lv S rfl rfl fun a S=>Ef S (S.tm rfl) (S.tm rfl) (i:=2) (off:=4) rfl sizeOf9 (vs:=[sV r4.1]) rfl rfl rfl rfl ?_;clear S;intro w19 hk16 S
      refine Vf Nt S rfl rfl fun a S=>Ef S (S.tm rfl) (S.tm rfl) (i:=2) (off:=6) rfl sizeOf9 (vs:=[sV r5.1]) rfl rfl rfl rfl ?_;clear S;intro w20 hk17 S
      refine Ld ?_
      replace S:=(S.nl [.blk b5 (An.enc (An.mk r2.1 (Dw (Ff x1 r2.1 (W ((Dw x1 r2.1 0) + 1))) r2.1 0) (W (x4 + r1.1)) r3.1 r4.1 Cw r5.1 0 0 Cw 0)) 33,.map b1 (Gy Value.string (Value.int .i64) (Ff x1 r2.1 (W ((Dw x1 r2.1 0) + 1)))) (Ff x1 r2.1 (W ((Dw x1 r2.1 0) + 1))).length,.own v1 33 11 x2.length (x2.flatMap An.enc),.blk U [V,iV r5.2] 25] [false,false,true,true,true,true] rfl).k7 0 5 6 7 8 10 11 rfl
      exact Tn (⟨r4.1,r5.1,r5.2,h,S.nf [true,true,true,true] rfl (subR rfl)⟩)
     ·exact wp_skip (Tn (⟨Cw,Cw,r3.2,h,S.nf [true,true,true,true] rfl (subR rfl)⟩))
    clear S h;rintro a w14 ⟨x6,x7,x8,h,S⟩;rw [hj2] at h;clear hj2 j2
    refine Tn (Fs (Fr (Vf Jm S rfl rfl fun a S=>Vl isAgg3 0 S rfl rfl rfl rfl fun a S=>Dl ?_)))
    obtain ⟨j3,hj3,h⟩:=En h
    refine Ec (fun a w'=>∃ x9 : ByteArray,∃ x10 : Int,∃ x11 : Int,∃ x12 : ByteArray,∃ x13 : Int,∃ x14 : Int,j3 x9 x10 x11 x12 x13 x14 = some r ∧ Sx w [U] nov [.blk b5 (An.enc (An.mk r2.1 (Dw (Ff x1 r2.1 (W ((Dw x1 r2.1 0) + 1))) r2.1 0) (W (x4 + r1.1)) r3.1 x6 x9 x7 x10 x11 x12 x13)) 33,.map b1 (Gy Value.string (Value.int .i64) (Ff x1 r2.1 (W ((Dw x1 r2.1 0) + 1)))) (Ff x1 r2.1 (W ((Dw x1 r2.1 0) + 1))).length,.own v1 33 11 x2.length (x2.flatMap An.enc),.blk U [V,iV x14] 25] [(0,.pointer (some ⟨U,0,none⟩)),(5,v1),(6,iV (W (x4 + r1.1))),(7,.map (some b1)),(8,.pointer (some ⟨b5,0,none⟩)),(10,iV Bm),(11,iV x5)] 130 a w') ?_ ?_
    ·refine wp_block (Fr (Vq S Hi rfl rfl rfl fun a S=>Va S rfl rfl fun a S=>Dl ?_))
     obtain ⟨j4,hj4,h⟩:=En h
     refine Ec (fun a w'=>∃ x15 : ByteArray,∃ x16 : Int,∃ x17 : Int,∃ x18 : ByteArray,∃ x19 : Int,∃ x20 : Int,j4 x15 x16 x17 x18 x19 x20 = some r ∧ Sx w [U] nov [.blk b5 (An.enc (An.mk r2.1 (Dw (Ff x1 r2.1 (W ((Dw x1 r2.1 0) + 1))) r2.1 0) (W (x4 + r1.1)) r3.1 x6 x15 x7 x16 x17 x18 x19)) 33,.map b1 (Gy Value.string (Value.int .i64) (Ff x1 r2.1 (W ((Dw x1 r2.1 0) + 1)))) (Ff x1 r2.1 (W ((Dw x1 r2.1 0) + 1))).length,.own v1 33 11 x2.length (x2.flatMap An.enc),.blk U [V,iV x20] 25] [(0,.pointer (some ⟨U,0,none⟩)),(5,v1),(6,iV (W (x4 + r1.1))),(7,.map (some b1)),(8,.pointer (some ⟨b5,0,none⟩)),(10,iV Bm),(11,iV x5)] 130 a w') ?_ ?_
     ·refine Fc h (S.tm rfl) (fun hb3 h=>?_) (fun hb3 h=>?_)
      ·refine Fg (Vm S rfl rfl fun a S=>Eg S underlying81 sizeOf9 zeroValue9 rfl rfl (pv:=[(0,sV Ph),(1,sV Xi),(2,sV Cw)]) ⟨rfl,rfl,rfl,rfl,rfl,rfl,trivial⟩ (cs:=[sV Ph,sV Xi,sV Cw]) (by kernel_rfl) rfl ?_);clear S;intro a w23 b8 hz8 hk18 S
       obtain ⟨r6,hr6,h⟩:=El h
       refine Fw 4 S (b:=U) rfl rfl (fun _=>.blk U [V,iV r6.2] 25) (fun _=>Cy (vs:=[.pointer (some ⟨U,0,none⟩),.slice (some ⟨b8,0,none⟩) 3 3]) ⟨(S.tm rfl),(S.tm rfl),trivial⟩ call24) (Kc _ U V Al (Aj.mono (S.le_arg (Hq (i:=4) (e:=.blk U [V,iV x8] 25) rfl))) x8 (S.holds _ (List.mem_of_getElem? (i:=4) rfl)) (.slice (some ⟨b8,0,none⟩) 3 3) [Ph,Xi,Cw] (Jh Qc S (i:=0) rfl rfl rfl rfl ((Kd (i:=4) (j:=0) (e:=.blk U [V,iV x8] 25) (e':=.blk b8 [sV Ph,sV Xi,sV Cw] 9) S rfl rfl rfl) _ rfl)) _ hr6) rfl (fun _ _ _ h=>⟨h.1,fun _ hc=>by cases hc;rfl⟩) ?_;clear S;intro v7 a w24 hv6 hk19 hn6 S
       replace hv6:=hv6.2
       subst hv6
       refine Vm S rfl rfl fun a S=>Eg S underlying22 sizeOf3 zeroValue3 rfl rfl (pv:=[(0,iV 0),(1,iV 5900),(2,iV 6000),(3,iV 7000)]) ⟨rfl,rfl,rfl,rfl,rfl,rfl,rfl,rfl,trivial⟩ (cs:=[iV 0,iV 5900,iV 6000,iV 7000]) (by kernel_rfl) rfl ?_;clear S;intro a w25 b9 hz9 hk20 S
       obtain ⟨r7,hr7,h⟩:=El h
       refine Fw 5 S (b:=U) rfl rfl (fun _=>.blk U [V,iV r7.2] 25) (fun _=>Cy (vs:=[.pointer (some ⟨U,0,none⟩),.slice (some ⟨b9,0,none⟩) 4 4]) ⟨(S.tm rfl),(S.tm rfl),trivial⟩ call23) (Ln _ U V Al (Aj.mono (S.le_arg (Hq (i:=5) (e:=.blk U [V,iV r6.2] 25) rfl))) r6.2 (S.holds _ (List.mem_of_getElem? (i:=5) rfl)) (.slice (some ⟨b9,0,none⟩) 4 4) [0,5900,6000,7000] (Jh Iu S (i:=0) rfl rfl rfl rfl ((Kd (i:=5) (j:=0) (e:=.blk U [V,iV r6.2] 25) (e':=.blk b9 [iV 0,iV 5900,iV 6000,iV 7000] 3) S rfl rfl rfl) _ rfl)) _ hr7) rfl (fun _ _ _ h=>⟨h.1,fun _ hc=>by cases hc;rfl⟩) ?_;clear S;intro v8 a w26 hv7 hk21 hn7 S
       replace hv7:=hv7.2
       subst hv7
       refine Vf Po S rfl rfl fun a S=>Ef S (S.tm rfl) (S.tm rfl) (i:=2) (off:=5) rfl sizeOf9 (vs:=[sV r6.1]) rfl rfl rfl rfl ?_;clear S;intro w27 hk22 S
       refine Vf Od S rfl rfl fun a S=>Ef S (S.tm rfl) (S.tm rfl) (i:=2) (off:=7) rfl sizeOf3 (vs:=[iV r7.1]) rfl rfl rfl rfl ?_;clear S;intro w28 hk23 S
       refine Ld ?_
       replace S:=(S.nl [.blk b5 (An.enc (An.mk r2.1 (Dw (Ff x1 r2.1 (W ((Dw x1 r2.1 0) + 1))) r2.1 0) (W (x4 + r1.1)) r3.1 x6 r6.1 x7 r7.1 0 Cw 0)) 33,.map b1 (Gy Value.string (Value.int .i64) (Ff x1 r2.1 (W ((Dw x1 r2.1 0) + 1)))) (Ff x1 r2.1 (W ((Dw x1 r2.1 0) + 1))).length,.own v1 33 11 x2.length (x2.flatMap An.enc),.blk U [V,iV r7.2] 25] [false,false,true,true,true,true] rfl).k7 0 5 6 7 8 10 11 rfl
       exact Tn (⟨r6.1,r7.1,0,Cw,0,r7.2,h,S.nf [true,true,true,true] rfl (subR rfl)⟩)
      ·refine Fr (Vq S Hi rfl rfl rfl fun a S=>Va S rfl rfl fun a S=>Dl ?_)
       obtain ⟨j5,hj5,h⟩:=En h
       refine Ec (fun a w'=>∃ x21 : Int,∃ x22 : Int,∃ x23 : ByteArray,∃ x24 : Int,∃ x25 : Int,j5 x21 x22 x23 x24 x25 = some r ∧ Sx w [U] nov [.blk b5 (An.enc (An.mk r2.1 (Dw (Ff x1 r2.1 (W ((Dw x1 r2.1 0) + 1))) r2.1 0) (W (x4 + r1.1)) r3.1 x6 Cw x7 x21 x22 x23 x24)) 33,.map b1 (Gy Value.string (Value.int .i64) (Ff x1 r2.1 (W ((Dw x1 r2.1 0) + 1)))) (Ff x1 r2.1 (W ((Dw x1 r2.1 0) + 1))).length,.own v1 33 11 x2.length (x2.flatMap An.enc),.blk U [V,iV x25] 25] [(0,.pointer (some ⟨U,0,none⟩)),(5,v1),(6,iV (W (x4 + r1.1))),(7,.map (some b1)),(8,.pointer (some ⟨b5,0,none⟩)),(10,iV Bm),(11,iV x5)] 130 a w') ?_ ?_
       ·refine Fc h (S.tm rfl) (fun hb4 h=>?_) (fun hb4 h=>?_)
        ·refine Fg (Vm S rfl rfl fun a S=>Eg S underlying22 sizeOf3 zeroValue3 rfl rfl (pv:=[(0,iV 0),(1,iV 5900),(2,iV 5900),(3,iV 6000),(4,iV 6100)]) ⟨rfl,rfl,rfl,rfl,rfl,rfl,rfl,rfl,rfl,rfl,trivial⟩ (cs:=[iV 0,iV 5900,iV 5900,iV 6000,iV 6100]) (by kernel_rfl) rfl ?_);clear S;intro a w30 b10 hz10 hk24 S
         obtain ⟨r8,hr8,h⟩:=El h
         refine Fw 4 S (b:=U) rfl rfl (fun _=>.blk U [V,iV r8.2] 25) (fun _=>Cy (vs:=[.pointer (some ⟨U,0,none⟩),.slice (some ⟨b10,0,none⟩) 5 5]) ⟨(S.tm rfl),(S.tm rfl),trivial⟩ call23) (Ln _ U V Al (Aj.mono (S.le_arg (Hq (i:=4) (e:=.blk U [V,iV x8] 25) rfl))) x8 (S.holds _ (List.mem_of_getElem? (i:=4) rfl)) (.slice (some ⟨b10,0,none⟩) 5 5) [0,5900,5900,6000,6100] (Jh Iu S (i:=0) rfl rfl rfl rfl ((Kd (i:=4) (j:=0) (e:=.blk U [V,iV x8] 25) (e':=.blk b10 [iV 0,iV 5900,iV 5900,iV 6000,iV 6100] 3) S rfl rfl rfl) _ rfl)) _ hr8) rfl (fun _ _ _ h=>⟨h.1,fun _ hc=>by cases hc;rfl⟩) ?_;clear S;intro v9 a w31 hv8 hk25 hn8 S
         replace hv8:=hv8.2
         subst hv8
         refine Vm S rfl rfl fun a S=>Eg S underlying22 sizeOf3 zeroValue3 rfl rfl (pv:=[(0,iV 0),(1,iV 0),(2,iV 0),(3,iV 0),(4,iV 3)]) ⟨rfl,rfl,rfl,rfl,rfl,rfl,rfl,rfl,rfl,rfl,trivial⟩ (cs:=[iV 0,iV 0,iV 0,iV 0,iV 3]) (by kernel_rfl) rfl ?_;clear S;intro a w32 b11 hz11 hk26 S
         obtain ⟨r9,hr9,h⟩:=El h
         refine Fw 5 S (b:=U) rfl rfl (fun _=>.blk U [V,iV r9.2] 25) (fun _=>Cy (vs:=[.pointer (some ⟨U,0,none⟩),.slice (some ⟨b11,0,none⟩) 5 5]) ⟨(S.tm rfl),(S.tm rfl),trivial⟩ call23) (Ln _ U V Al (Aj.mono (S.le_arg (Hq (i:=5) (e:=.blk U [V,iV r8.2] 25) rfl))) r8.2 (S.holds _ (List.mem_of_getElem? (i:=5) rfl)) (.slice (some ⟨b11,0,none⟩) 5 5) [0,0,0,0,3] (Jh Iu S (i:=0) rfl rfl rfl rfl ((Kd (i:=5) (j:=0) (e:=.blk U [V,iV r8.2] 25) (e':=.blk b11 [iV 0,iV 0,iV 0,iV 0,iV 3] 3) S rfl rfl rfl) _ rfl)) _ hr9) rfl (fun _ _ _ h=>⟨h.1,fun _ hc=>by cases hc;rfl⟩) ?_;clear S;intro v10 a w33 hv9 hk27 hn9 S
         replace hv9:=hv9.2
         subst hv9
         refine Vf Od S rfl rfl fun a S=>Ef S (S.tm rfl) (S.tm rfl) (i:=2) (off:=7) rfl sizeOf3 (vs:=[iV r8.1]) rfl rfl rfl rfl ?_;clear S;intro w34 hk28 S
         refine Vf Qy S rfl rfl fun a S=>Ef S (S.tm rfl) (S.tm rfl) (i:=2) (off:=8) rfl sizeOf3 (vs:=[iV r9.1]) rfl rfl rfl rfl ?_;clear S;intro w35 hk29 S
         refine Ld ?_
         replace S:=(S.nl [.blk b5 (An.enc (An.mk r2.1 (Dw (Ff x1 r2.1 (W ((Dw x1 r2.1 0) + 1))) r2.1 0) (W (x4 + r1.1)) r3.1 x6 Cw x7 r8.1 r9.1 Cw 0)) 33,.map b1 (Gy Value.string (Value.int .i64) (Ff x1 r2.1 (W ((Dw x1 r2.1 0) + 1)))) (Ff x1 r2.1 (W ((Dw x1 r2.1 0) + 1))).length,.own v1 33 11 x2.length (x2.flatMap An.enc),.blk U [V,iV r9.2] 25] [false,false,true,true,true,true] rfl).k7 0 5 6 7 8 10 11 rfl
         exact Tn (⟨r8.1,r9.1,Cw,0,r9.2,h,S.nf [true,true,true,true] rfl (subR rfl)⟩)
        ·refine Fr (Vq S Hi rfl rfl rfl fun a S=>Va S rfl rfl fun a S=>Ld ?_)
         replace S:=S.k8 0 5 6 7 8 10 11 69 rfl
         refine Tn ?_
         obtain ⟨j6,hj6,h⟩:=En h
         refine Ec (fun a w'=>∃ x26 : ByteArray,∃ x27 : Int,∃ x28 : Int,j6 x26 x27 x28 = some r ∧ Sx w [U] nov [.blk b5 (An.enc (An.mk r2.1 (Dw (Ff x1 r2.1 (W ((Dw x1 r2.1 0) + 1))) r2.1 0) (W (x4 + r1.1)) r3.1 x6 Cw x7 0 0 x26 x27)) 33,.map b1 (Gy Value.string (Value.int .i64) (Ff x1 r2.1 (W ((Dw x1 r2.1 0) + 1)))) (Ff x1 r2.1 (W ((Dw x1 r2.1 0) + 1))).length,.own v1 33 11 x2.length (x2.flatMap An.enc),.blk U [V,iV x28] 25] [(0,.pointer (some ⟨U,0,none⟩)),(5,v1),(6,iV (W (x4 + r1.1))),(7,.map (some b1)),(8,.pointer (some ⟨b5,0,none⟩)),(10,iV Bm),(11,iV x5)] 130 a w') ?_ ?_
         ·refine Fc h (S.tm rfl) (fun hb5 h=>?_) (fun hb5 h=>?_)
          ·obtain ⟨r10,hr10,h⟩:=El h
           obtain ⟨r11,hr11,h⟩:=El h
           refine Fm [] ([U] ++ [b5]) Tryz.mixed S rfl (by kernel_rfl) ?_;clear S;intro w42 hk35 hsel S
           refine Da 0 S hsel rfl rfl rfl (by kernel_rfl) (by kernel_rfl) rfl (fun _ hw=>(Rm (S.tm rfl))) fun a S=>Da 3 S hsel rfl rfl rfl (by kernel_rfl) (by kernel_rfl) rfl (fun _ hw=>(Rm (S.tm rfl))) fun a S=>Da 4 S hsel rfl rfl rfl (by kernel_rfl) (by kernel_rfl) rfl (fun _ hw=>(Rm (S.tm rfl))) fun a S=>Da 5 S hsel rfl rfl rfl (by kernel_rfl) (by kernel_rfl) rfl (fun _ hw=>(Rk (kv:=Value.string) (vv:=(Value.int .i64)) (m:=(Ff x1 r2.1 (W ((Dw x1 r2.1 0) + 1)))) (key:=Mx) (z:=0) (S.map_kept (i:=1) rfl (ne_app (Kd (i:=3) (j:=1) (e:=.blk U [V,iV x8] 25) (e':=.map b1 (Gy Value.string (Value.int .i64) (Ff x1 r2.1 (W ((Dw x1 r2.1 0) + 1)))) (Ff x1 r2.1 (W ((Dw x1 r2.1 0) + 1))).length) S rfl rfl rfl) (Kd (i:=0) (j:=1) (e:=.blk b5 (An.enc (An.mk r2.1 (Dw (Ff x1 r2.1 (W ((Dw x1 r2.1 0) + 1))) r2.1 0) (W (x4 + r1.1)) r3.1 x6 Cw x7 0 0 Cw 0)) 33) (e':=.map b1 (Gy Value.string (Value.int .i64) (Ff x1 r2.1 (W ((Dw x1 r2.1 0) + 1)))) (Ff x1 r2.1 (W ((Dw x1 r2.1 0) + 1))).length) S rfl rfl rfl)) hw) underlying49 (Rj underlying9) zeroValue3 (S.tm rfl) rfl)) fun a S=>Da 6 S hsel rfl rfl rfl (by kernel_rfl) (by kernel_rfl) rfl (fun _ hw=>(Zj rfl (S.tm rfl))) fun a S=>Ey 1 (by kernel_rfl) rfl (Eg S underlying81 sizeOf9 zeroValue9 rfl rfl (pv:=[(0,sV Mx),(1,sV Mx),(2,sV Vt)]) ⟨rfl,rfl,rfl,rfl,rfl,rfl,trivial⟩ (cs:=[sV Mx,sV Mx,sV Vt]) (by kernel_rfl) rfl ?_);clear S;intro a w43 b13 hz13 hk36 S
           refine Ld (Fz (Keep.none hk36) (Ey 2 (by kernel_rfl) rfl ?_))
           refine Fw 4 S (b:=U) rfl rfl (fun _=>.blk U [V,iV r10.2] 25) (fun _=>Cy (vs:=[.pointer (some ⟨U,0,none⟩),.slice (some ⟨b13,0,none⟩) 3 3]) ⟨(S.tm rfl),(S.tm rfl),trivial⟩ call24) (Kc _ U V Al (Aj.mono (S.le_arg (Hq (i:=4) (e:=.blk U [V,iV x8] 25) rfl))) x8 (S.holds _ (List.mem_of_getElem? (i:=4) rfl)) (.slice (some ⟨b13,0,none⟩) 3 3) [Mx,Mx,Vt] (Jh Qc S (i:=0) rfl rfl rfl rfl ((Kd (i:=4) (j:=0) (e:=.blk U [V,iV x8] 25) (e':=.blk b13 [sV Mx,sV Mx,sV Vt] 9) S rfl rfl rfl) _ rfl)) _ hr10) rfl (fun _ _ _ h=>⟨h.1,fun _ hc=>by cases hc;rfl⟩) ?_;clear S;intro v13 a w44 hv12 hk37 hn12 S
           replace hv12:=hv12.2
           subst hv12
           refine Ld ?_
           refine Fz (hk37.sub (by intro y hy;simp at hy ⊢;simp [hy])) ?_
           refine Da 8 S hsel rfl rfl rfl (by kernel_rfl) (by kernel_rfl) rfl (fun _ hw=>(Em Oe (S.tm rfl))) fun a S=>Ey 7 (by kernel_rfl) rfl ?_
           refine Fw 4 S (b:=U) rfl rfl (fun _=>.blk U [V,iV r11.2] 25) (fun _=>Cy (vs:=[.pointer (some ⟨U,0,none⟩),iV 1,iV (Ud 1 (Dw (Ff x1 r2.1 (W ((Dw x1 r2.1 0) + 1))) Mx 0))]) ⟨(S.tm rfl),rfl,(S.tm rfl),trivial⟩ call5) (Og _ U V Al (Aj.mono (S.le_arg (Hq (i:=4) (e:=.blk U [V,iV r10.2] 25) rfl))) r10.2 (S.holds _ (List.mem_of_getElem? (i:=4) rfl)) 1 (Ud 1 (Dw (Ff x1 r2.1 (W ((Dw x1 r2.1 0) + 1))) Mx 0)) _ hr11) rfl (fun _ _ _ h=>⟨h.1,fun _ hc=>by cases hc;rfl⟩) ?_;clear S;intro v14 a w45 hv13 hk38 hn13 S
           replace hv13:=hv13.2
           subst hv13
           refine Ld ?_
           refine Fz (hk38.sub (by intro y hy;simp at hy ⊢;simp [hy])) ?_
           refine Ey 9 (by kernel_rfl) rfl (Ef S (S.tm rfl) (S.tm rfl) (i:=1) (off:=9) rfl sizeOf9 (vs:=[sV r10.1]) rfl rfl rfl rfl ?_);clear S;intro w46 hk39 S
           refine Ld ?_
           refine Fz (hk39.sub (by intro y hy;simp at hy ⊢;simp [hy])) ?_
           refine Da 10 S hsel rfl rfl rfl (by kernel_rfl) (by kernel_rfl) rfl (fun _ hw=>(Em Mg (S.tm rfl))) fun a S=>Ey 11 (by kernel_rfl) rfl (Ef S (S.tm rfl) (S.tm rfl) (i:=1) (off:=10) rfl sizeOf3 (vs:=[iV r11.1]) rfl rfl rfl rfl ?_);clear S;intro w47 hk40 S
           refine Ld ?_
           refine Fz (hk40.sub (by intro y hy;simp at hy ⊢;simp [hy])) ?_
           refine So (by kernel_rfl) ?_
           clear hsel
           replace S:=(S.nl [.blk b5 (An.enc (An.mk r2.1 (Dw (Ff x1 r2.1 (W ((Dw x1 r2.1 0) + 1))) r2.1 0) (W (x4 + r1.1)) r3.1 x6 Cw x7 0 0 r10.1 r11.1)) 33,.map b1 (Gy Value.string (Value.int .i64) (Ff x1 r2.1 (W ((Dw x1 r2.1 0) + 1)))) (Ff x1 r2.1 (W ((Dw x1 r2.1 0) + 1))).length,.own v1 33 11 x2.length (x2.flatMap An.enc),.blk U [V,iV r11.2] 25] [false,true,true,true,true] rfl).k7 0 5 6 7 8 10 11 rfl
           exact Tn (⟨r10.1,r11.1,r11.2,h,S.nf [true,true,true,true] rfl (subR rfl)⟩)
          ·exact wp_skip (Tn (⟨Cw,0,x8,h,S.nf [true,true,true,true] rfl (subR rfl)⟩))
         clear S h;rintro a w36 ⟨x26,x27,x28,h,S⟩;rw [hj6] at h;clear hj6 j6
         exact Tn (⟨0,0,x26,x27,x28,h,S.nf [true,true,true,true] rfl (subR rfl)⟩)
       clear S h;rintro a w29 ⟨x21,x22,x23,x24,x25,h,S⟩;rw [hj5] at h;clear hj5 j5
       exact Tn (⟨Cw,x21,x22,x23,x24,x25,h,S.nf [true,true,true,true] rfl (subR rfl)⟩)
     clear S h;rintro a w22 ⟨x15,x16,x17,x18,x19,x20,h,S⟩;rw [hj4] at h;clear hj4 j4
     exact Ia (Tn (⟨x15,x16,x17,x18,x19,x20,h,S.nf [true,true,true,true] rfl (subR rfl)⟩))
    clear S h;rintro a w21 ⟨x9,x10,x11,x12,x13,x14,h,S⟩;rw [hj3] at h;clear hj3 j3
    refine Tn (Fs (Fr (Vm S rfl rfl ?_)));clear S;intro a S
    obtain ⟨r12,hr12,h⟩:=El h
    refine Fw 3 S (b:=U) rfl rfl (fun _=>.blk U [V,iV r12.2] 25) (fun _=>Cy (vs:=[.pointer (some ⟨U,0,none⟩),iV 100]) ⟨(S.tm rfl),rfl,trivial⟩ call7) (Mk _ U V Al (Aj.mono (S.le_arg (Hq (i:=3) (e:=.blk U [V,iV x14] 25) rfl))) x14 (S.holds _ (List.mem_of_getElem? (i:=3) rfl)) 100 _ hr12) rfl (fun _ _ _ h=>⟨h.1,fun _ hc=>by cases hc;rfl⟩) ?_;clear S;intro v15 a w48 hv14 hk41 hn14 S
    replace hv14:=hv14.2
    subst hv14
    refine Dl ?_
    obtain ⟨j7,hj7,h⟩:=En h
    refine Ec (fun a w'=>∃ x29 : ByteArray,∃ x30 : Int,∃ x31 : Int,∃ x32 : ByteArray,∃ x33 : ByteArray,∃ x34 : ByteArray,∃ x35 : Int,∃ x36 : Int,∃ x37 : Int,∃ x38 : Int,j7 x29 x30 x31 x32 x33 x34 x35 x36 x37 x38 = some r ∧ Sx w [U] nov [.blk b5 (An.enc (An.mk x29 x30 (W (x4 + r1.1)) x31 x32 x33 x34 x35 x36 x12 x37)) 33,.map b1 (Gy Value.string (Value.int .i64) (Ff x1 r2.1 (W ((Dw x1 r2.1 0) + 1)))) (Ff x1 r2.1 (W ((Dw x1 r2.1 0) + 1))).length,.own v1 33 11 x2.length (x2.flatMap An.enc),.blk U [V,iV x38] 25] [(0,.pointer (some ⟨U,0,none⟩)),(5,v1),(6,iV (W (x4 + r1.1))),(7,.map (some b1)),(8,.pointer (some ⟨b5,0,none⟩)),(10,iV Bm),(11,iV x5)] 130 a w') ?_ ?_
    ·refine Fc h (S.tm rfl) (fun hb6 h=>?_) (fun hb6 h=>?_)
     ·refine Fr (Vm S rfl rfl ?_);clear S;intro a S
      obtain ⟨r13,hr13,h⟩:=El h
      refine Fw 3 S (b:=U) rfl rfl (fun _=>.blk U [V,iV r13.2] 25) (fun _=>Cy (vs:=[.pointer (some ⟨U,0,none⟩),iV 4]) ⟨(S.tm rfl),rfl,trivial⟩ call9) (Mj _ U V Al (Aj.mono (S.le_arg (Hq (i:=3) (e:=.blk U [V,iV r12.2] 25) rfl))) r12.2 (S.holds _ (List.mem_of_getElem? (i:=3) rfl)) 4 _ hr13) rfl (fun _ _ _ h=>⟨h.1,fun _ hc=>by cases hc;rfl⟩) ?_;clear S;intro v16 a w50 hv15 hk42 hn15 S
      replace hv15:=hv15.2
      subst hv15
      refine Dl ?_
      obtain ⟨j8,hj8,h⟩:=En h
      refine Ec (fun a w'=>∃ x39 : ByteArray,∃ x40 : Int,∃ x41 : Int,∃ x42 : ByteArray,∃ x43 : ByteArray,∃ x44 : ByteArray,∃ x45 : Int,∃ x46 : Int,∃ x47 : Int,∃ x48 : Int,j8 x39 x40 x41 x42 x43 x44 x45 x46 x47 x48 = some r ∧ Sx w [U] nov [.blk b5 (An.enc (An.mk x39 x40 (W (x4 + r1.1)) x41 x42 x43 x44 x45 x46 x12 x47)) 33,.map b1 (Gy Value.string (Value.int .i64) (Ff x1 r2.1 (W ((Dw x1 r2.1 0) + 1)))) (Ff x1 r2.1 (W ((Dw x1 r2.1 0) + 1))).length,.own v1 33 11 x2.length (x2.flatMap An.enc),.blk U [V,iV x48] 25] [(0,.pointer (some ⟨U,0,none⟩)),(5,v1),(6,iV (W (x4 + r1.1))),(7,.map (some b1)),(8,.pointer (some ⟨b5,0,none⟩)),(10,iV Bm),(11,iV x5)] 130 a w') ?_ ?_
      ·refine wp_block (Fr (Vq S Hi rfl rfl rfl fun a S=>Va S rfl rfl fun a S=>Dl ?_))
       obtain ⟨j9,hj9,h⟩:=En h
       refine Ec (fun a w'=>∃ x49 : ByteArray,∃ x50 : Int,∃ x51 : Int,∃ x52 : ByteArray,∃ x53 : ByteArray,∃ x54 : ByteArray,∃ x55 : Int,∃ x56 : Int,∃ x57 : Int,∃ x58 : Int,j9 x49 x50 x51 x52 x53 x54 x55 x56 x57 x58 = some r ∧ Sx w [U] nov [.blk b5 (An.enc (An.mk x49 x50 (W (x4 + r1.1)) x51 x52 x53 x54 x55 x56 x12 x57)) 33,.map b1 (Gy Value.string (Value.int .i64) (Ff x1 r2.1 (W ((Dw x1 r2.1 0) + 1)))) (Ff x1 r2.1 (W ((Dw x1 r2.1 0) + 1))).length,.own v1 33 11 x2.length (x2.flatMap An.enc),.blk U [V,iV x58] 25] [(0,.pointer (some ⟨U,0,none⟩)),(5,v1),(6,iV (W (x4 + r1.1))),(7,.map (some b1)),(8,.pointer (some ⟨b5,0,none⟩)),(10,iV Bm),(11,iV x5)] 130 a w') ?_ ?_
       ·refine Fc h (S.tm rfl) (fun hb7 h=>?_) (fun hb7 h=>?_)
        ·refine Fg (Vm S rfl rfl fun a S=>Eg S underlying81 sizeOf9 zeroValue9 rfl rfl (pv:=[(0,sV Cw),(1,sV Mx)]) ⟨rfl,rfl,rfl,rfl,trivial⟩ (cs:=[sV Cw,sV Mx]) (by kernel_rfl) rfl ?_);clear S;intro a w53 b14 hz14 hk43 S
         obtain ⟨r14,hr14,h⟩:=El h
         refine Fw 4 S (b:=U) rfl rfl (fun _=>.blk U [V,iV r14.2] 25) (fun _=>Cy (vs:=[.pointer (some ⟨U,0,none⟩),.slice (some ⟨b14,0,none⟩) 2 2]) ⟨(S.tm rfl),(S.tm rfl),trivial⟩ call24) (Kc _ U V Al (Aj.mono (S.le_arg (Hq (i:=4) (e:=.blk U [V,iV r13.2] 25) rfl))) r13.2 (S.holds _ (List.mem_of_getElem? (i:=4) rfl)) (.slice (some ⟨b14,0,none⟩) 2 2) [Cw,Mx] (Jh Qc S (i:=0) rfl rfl rfl rfl ((Kd (i:=4) (j:=0) (e:=.blk U [V,iV r13.2] 25) (e':=.blk b14 [sV Cw,sV Mx] 9) S rfl rfl rfl) _ rfl)) _ hr14) rfl (fun _ _ _ h=>⟨h.1,fun _ hc=>by cases hc;rfl⟩) ?_;clear S;intro v17 a w54 hv16 hk44 hn16 S
         replace hv16:=hv16.2
         subst hv16
         refine Vm S rfl rfl ?_;clear S;intro a S
         obtain ⟨r15,hr15,h⟩:=El h
         refine Fw 4 S (b:=U) rfl rfl (fun _=>.blk U [V,iV r15.2] 25) (fun _=>Cy (vs:=[.pointer (some ⟨U,0,none⟩),iV 1,iV 9]) ⟨(S.tm rfl),rfl,rfl,trivial⟩ call25) (Oa _ U V Al (Aj.mono (S.le_arg (Hq (i:=4) (e:=.blk U [V,iV r14.2] 25) rfl))) r14.2 (S.holds _ (List.mem_of_getElem? (i:=4) rfl)) 1 9 _ hr15) rfl (fun _ _ _ h=>⟨h.1,fun _ hc=>by cases hc;rfl⟩) ?_;clear S;intro v18 a w55 hv17 hk45 hn17 S
         replace hv17:=hv17.2
         subst hv17
         refine Vf Ih S rfl rfl fun a S=>Ef S (S.tm rfl) (S.tm rfl) (i:=1) (off:=0) rfl sizeOf9 (vs:=[sV r14.1]) rfl rfl rfl rfl ?_;clear S;intro w56 hk46 S
         refine Vf Hd S rfl rfl fun a S=>Ef S (S.tm rfl) (S.tm rfl) (i:=1) (off:=1) rfl sizeOf3 (vs:=[iV r15.1]) rfl rfl rfl rfl ?_;clear S;intro w57 hk47 S
         refine Ld ?_
         replace S:=(S.nl [.blk b5 (An.enc (An.mk r14.1 r15.1 (W (x4 + r1.1)) r3.1 x6 x9 x7 x10 x11 x12 x13)) 33,.map b1 (Gy Value.string (Value.int .i64) (Ff x1 r2.1 (W ((Dw x1 r2.1 0) + 1)))) (Ff x1 r2.1 (W ((Dw x1 r2.1 0) + 1))).length,.own v1 33 11 x2.length (x2.flatMap An.enc),.blk U [V,iV r15.2] 25] [false,true,true,true,true] rfl).k7 0 5 6 7 8 10 11 rfl
         exact Tn (⟨r14.1,r15.1,r3.1,x6,x9,x7,x10,x11,x13,r15.2,h,S.nf [true,true,true,true] rfl (subR rfl)⟩)
        ·refine Fr (Vq S Hi rfl rfl rfl fun a S=>Va S rfl rfl fun a S=>Ld ?_)
         replace S:=(S.nl [.blk b5 (An.enc (An.mk r2.1 (Dw (Ff x1 r2.1 (W ((Dw x1 r2.1 0) + 1))) r2.1 0) (W (x4 + r1.1)) r3.1 x6 x9 x7 x10 x11 x12 x13)) 33,.map b1 (Gy Value.string (Value.int .i64) (Ff x1 r2.1 (W ((Dw x1 r2.1 0) + 1)))) (Ff x1 r2.1 (W ((Dw x1 r2.1 0) + 1))).length,.own v1 33 11 x2.length (x2.flatMap An.enc),.blk U [V,iV r13.2] 25] [true,true,true,true] rfl).k9 0 5 6 7 8 10 11 84 103 rfl
         refine Tn ?_
         obtain ⟨j10,hj10,h⟩:=En h
         refine Ec (fun a w'=>∃ x59 : Int,∃ x60 : ByteArray,∃ x61 : ByteArray,∃ x62 : ByteArray,∃ x63 : Int,∃ x64 : Int,∃ x65 : Int,∃ x66 : Int,j10 x59 x60 x61 x62 x63 x64 x65 x66 = some r ∧ Sx w [U] nov [.blk b5 (An.enc (An.mk r2.1 (Dw (Ff x1 r2.1 (W ((Dw x1 r2.1 0) + 1))) r2.1 0) (W (x4 + r1.1)) x59 x60 x61 x62 x63 x64 x12 x65)) 33,.map b1 (Gy Value.string (Value.int .i64) (Ff x1 r2.1 (W ((Dw x1 r2.1 0) + 1)))) (Ff x1 r2.1 (W ((Dw x1 r2.1 0) + 1))).length,.own v1 33 11 x2.length (x2.flatMap An.enc),.blk U [V,iV x66] 25] [(0,.pointer (some ⟨U,0,none⟩)),(5,v1),(6,iV (W (x4 + r1.1))),(7,.map (some b1)),(8,.pointer (some ⟨b5,0,none⟩)),(10,iV Bm),(11,iV x5)] 130 a w') ?_ ?_
         ·refine Fc h (S.tm rfl) (fun hb8 h=>?_) (fun hb8 h=>?_)
          ·refine Fg (Vm S rfl rfl ?_);clear S;intro a S
           obtain ⟨r16,hr16,h⟩:=El h
           refine Fw 3 S (b:=U) rfl rfl (fun _=>.blk U [V,iV r16.2] 25) (fun _=>Cy (vs:=[.pointer (some ⟨U,0,none⟩),iV 1,iV 4]) ⟨(S.tm rfl),rfl,rfl,trivial⟩ call25) (Oa _ U V Al (Aj.mono (S.le_arg (Hq (i:=3) (e:=.blk U [V,iV r13.2] 25) rfl))) r13.2 (S.holds _ (List.mem_of_getElem? (i:=3) rfl)) 1 4 _ hr16) rfl (fun _ _ _ h=>⟨h.1,fun _ hc=>by cases hc;rfl⟩) ?_;clear S;intro v19 a w59 hv18 hk48 hn18 S
           replace hv18:=hv18.2
           subst hv18
           refine Vf Jm S rfl rfl fun a S=>Ef S (S.tm rfl) (S.tm rfl) (i:=0) (off:=3) rfl sizeOf3 (vs:=[iV r16.1]) rfl rfl rfl rfl ?_;clear S;intro w60 hk49 S
           exact Dl (⟨r16.1,x6,x9,x7,x10,x11,x13,r16.2,h,S.nf [true,true,true,true] rfl (subR rfl)⟩)
          ·refine Fr (Vq S Hi rfl rfl rfl fun a S=>Va S rfl rfl fun a S=>Dl ?_)
           obtain ⟨j11,hj11,h⟩:=En h
           refine Ec (fun a w'=>∃ x67 : ByteArray,∃ x68 : ByteArray,∃ x69 : ByteArray,∃ x70 : Int,∃ x71 : Int,∃ x72 : Int,∃ x73 : Int,j11 x67 x68 x69 x70 x71 x72 x73 = some r ∧ Sx w [U] nov [.blk b5 (An.enc (An.mk r2.1 (Dw (Ff x1 r2.1 (W ((Dw x1 r2.1 0) + 1))) r2.1 0) (W (x4 + r1.1)) r3.1 x67 x68 x69 x70 x71 x12 x72)) 33,.map b1 (Gy Value.string (Value.int .i64) (Ff x1 r2.1 (W ((Dw x1 r2.1 0) + 1)))) (Ff x1 r2.1 (W ((Dw x1 r2.1 0) + 1))).length,.own v1 33 11 x2.length (x2.flatMap An.enc),.blk U [V,iV x73] 25] [(0,.pointer (some ⟨U,0,none⟩)),(5,v1),(6,iV (W (x4 + r1.1))),(7,.map (some b1)),(8,.pointer (some ⟨b5,0,none⟩)),(10,iV Bm),(11,iV x5)] 130 a w') ?_ ?_
           ·refine Fc h (S.tm rfl) (fun hb9 h=>?_) (fun hb9 h=>?_)
            ·refine Fg (Vm S rfl rfl fun a S=>Eg S underlying81 sizeOf9 zeroValue9 rfl rfl (pv:=[(0,sV Cw),(1,sV Rq)]) ⟨rfl,rfl,rfl,rfl,trivial⟩ (cs:=[sV Cw,sV Rq]) (by kernel_rfl) rfl ?_);clear S;intro a w62 b15 hz15 hk50 S
             obtain ⟨r17,hr17,h⟩:=El h
             refine Fw 4 S (b:=U) rfl rfl (fun _=>.blk U [V,iV r17.2] 25) (fun _=>Cy (vs:=[.pointer (some ⟨U,0,none⟩),.slice (some ⟨b15,0,none⟩) 2 2]) ⟨(S.tm rfl),(S.tm rfl),trivial⟩ call24) (Kc _ U V Al (Aj.mono (S.le_arg (Hq (i:=4) (e:=.blk U [V,iV r13.2] 25) rfl))) r13.2 (S.holds _ (List.mem_of_getElem? (i:=4) rfl)) (.slice (some ⟨b15,0,none⟩) 2 2) [Cw,Rq] (Jh Qc S (i:=0) rfl rfl rfl rfl ((Kd (i:=4) (j:=0) (e:=.blk U [V,iV r13.2] 25) (e':=.blk b15 [sV Cw,sV Rq] 9) S rfl rfl rfl) _ rfl)) _ hr17) rfl (fun _ _ _ h=>⟨h.1,fun _ hc=>by cases hc;rfl⟩) ?_;clear S;intro v20 a w63 hv19 hk51 hn19 S
             replace hv19:=hv19.2
             subst hv19
             refine Vm S rfl rfl fun a S=>Eg S underlying81 sizeOf9 zeroValue9 rfl rfl (pv:=[(0,sV k_A),(1,sV Ph)]) ⟨rfl,rfl,rfl,rfl,trivial⟩ (cs:=[sV k_A,sV Ph]) (by kernel_rfl) rfl ?_;clear S;intro a w64 b16 hz16 hk52 S
             obtain ⟨r18,hr18,h⟩:=El h
             refine Fw 5 S (b:=U) rfl rfl (fun _=>.blk U [V,iV r18.2] 25) (fun _=>Cy (vs:=[.pointer (some ⟨U,0,none⟩),.slice (some ⟨b16,0,none⟩) 2 2]) ⟨(S.tm rfl),(S.tm rfl),trivial⟩ call24) (Kc _ U V Al (Aj.mono (S.le_arg (Hq (i:=5) (e:=.blk U [V,iV r17.2] 25) rfl))) r17.2 (S.holds _ (List.mem_of_getElem? (i:=5) rfl)) (.slice (some ⟨b16,0,none⟩) 2 2) [k_A,Ph] (Jh Qc S (i:=0) rfl rfl rfl rfl ((Kd (i:=5) (j:=0) (e:=.blk U [V,iV r17.2] 25) (e':=.blk b16 [sV k_A,sV Ph] 9) S rfl rfl rfl) _ rfl)) _ hr18) rfl (fun _ _ _ h=>⟨h.1,fun _ hc=>by cases hc;rfl⟩) ?_;clear S;intro v21 a w65 hv20 hk53 hn20 S
             replace hv20:=hv20.2
             subst hv20
             refine Vm S rfl rfl fun a S=>Eg S underlying81 sizeOf9 zeroValue9 rfl rfl (pv:=[(0,sV Cw),(1,sV Sg)]) ⟨rfl,rfl,rfl,rfl,trivial⟩ (cs:=[sV Cw,sV Sg]) (by kernel_rfl) rfl ?_;clear S;intro a w66 b17 hz17 hk54 S
             obtain ⟨r19,hr19,h⟩:=El h
             refine Fw 6 S (b:=U) rfl rfl (fun _=>.blk U [V,iV r19.2] 25) (fun _=>Cy (vs:=[.pointer (some ⟨U,0,none⟩),.slice (some ⟨b17,0,none⟩) 2 2]) ⟨(S.tm rfl),(S.tm rfl),trivial⟩ call24) (Kc _ U V Al (Aj.mono (S.le_arg (Hq (i:=6) (e:=.blk U [V,iV r18.2] 25) rfl))) r18.2 (S.holds _ (List.mem_of_getElem? (i:=6) rfl)) (.slice (some ⟨b17,0,none⟩) 2 2) [Cw,Sg] (Jh Qc S (i:=0) rfl rfl rfl rfl ((Kd (i:=6) (j:=0) (e:=.blk U [V,iV r18.2] 25) (e':=.blk b17 [sV Cw,sV Sg] 9) S rfl rfl rfl) _ rfl)) _ hr19) rfl (fun _ _ _ h=>⟨h.1,fun _ hc=>by cases hc;rfl⟩) ?_;clear S;intro v22 a w67 hv21 hk55 hn21 S
             replace hv21:=hv21.2
             subst hv21
             refine Vf Lv S rfl rfl fun a S=>Ef S (S.tm rfl) (S.tm rfl) (i:=3) (off:=4) rfl sizeOf9 (vs:=[sV r17.1]) rfl rfl rfl rfl ?_;clear S;intro w68 hk56 S
             refine Vf Po S rfl rfl fun a S=>Ef S (S.tm rfl) (S.tm rfl) (i:=3) (off:=5) rfl sizeOf9 (vs:=[sV r18.1]) rfl rfl rfl rfl ?_;clear S;intro w69 hk57 S
             refine Vf Nt S rfl rfl fun a S=>Ef S (S.tm rfl) (S.tm rfl) (i:=3) (off:=6) rfl sizeOf9 (vs:=[sV r19.1]) rfl rfl rfl rfl ?_;clear S;intro w70 hk58 S
             refine Ld ?_
             replace S:=(S.nl [.blk b5 (An.enc (An.mk r2.1 (Dw (Ff x1 r2.1 (W ((Dw x1 r2.1 0) + 1))) r2.1 0) (W (x4 + r1.1)) r3.1 r17.1 r18.1 r19.1 x10 x11 x12 x13)) 33,.map b1 (Gy Value.string (Value.int .i64) (Ff x1 r2.1 (W ((Dw x1 r2.1 0) + 1)))) (Ff x1 r2.1 (W ((Dw x1 r2.1 0) + 1))).length,.own v1 33 11 x2.length (x2.flatMap An.enc),.blk U [V,iV r19.2] 25] [false,false,false,true,true,true,true] rfl).k7 0 5 6 7 8 10 11 rfl
             exact Tn (⟨r17.1,r18.1,r19.1,x10,x11,x13,r19.2,h,S.nf [true,true,true,true] rfl (subR rfl)⟩)
            ·refine Fg (Vm S rfl rfl ?_);clear S;intro a S
             obtain ⟨r20,hr20,h⟩:=El h
             refine Fw 3 S (b:=U) rfl rfl (fun _=>.blk U [V,iV r20.2] 25) (fun _=>Cy (vs:=[.pointer (some ⟨U,0,none⟩),iV 0,iV 360000]) ⟨(S.tm rfl),rfl,rfl,trivial⟩ call25) (Oa _ U V Al (Aj.mono (S.le_arg (Hq (i:=3) (e:=.blk U [V,iV r13.2] 25) rfl))) r13.2 (S.holds _ (List.mem_of_getElem? (i:=3) rfl)) 0 360000 _ hr20) rfl (fun _ _ _ h=>⟨h.1,fun _ hc=>by cases hc;rfl⟩) ?_;clear S;intro v23 a w71 hv22 hk59 hn22 S
             replace hv22:=hv22.2
             subst hv22
             refine Vm S rfl rfl ?_;clear S;intro a S
             obtain ⟨r21,hr21,h⟩:=El h
             refine Fw 3 S (b:=U) rfl rfl (fun _=>.blk U [V,iV r21.2] 25) (fun _=>Cy (vs:=[.pointer (some ⟨U,0,none⟩),iV 0,iV 8]) ⟨(S.tm rfl),rfl,rfl,trivial⟩ call25) (Oa _ U V Al (Aj.mono (S.le_arg (Hq (i:=3) (e:=.blk U [V,iV r20.2] 25) rfl))) r20.2 (S.holds _ (List.mem_of_getElem? (i:=3) rfl)) 0 8 _ hr21) rfl (fun _ _ _ h=>⟨h.1,fun _ hc=>by cases hc;rfl⟩) ?_;clear S;intro v24 a w72 hv23 hk60 hn23 S
             replace hv23:=hv23.2
             subst hv23
             refine Vm S rfl rfl ?_;clear S;intro a S
             obtain ⟨r22,hr22,h⟩:=El h
             refine Fw 3 S (b:=U) rfl rfl (fun _=>.blk U [V,iV r22.2] 25) (fun _=>Cy (vs:=[.pointer (some ⟨U,0,none⟩),iV 0,iV 5]) ⟨(S.tm rfl),rfl,rfl,trivial⟩ call25) (Oa _ U V Al (Aj.mono (S.le_arg (Hq (i:=3) (e:=.blk U [V,iV r21.2] 25) rfl))) r21.2 (S.holds _ (List.mem_of_getElem? (i:=3) rfl)) 0 5 _ hr22) rfl (fun _ _ _ h=>⟨h.1,fun _ hc=>by cases hc;rfl⟩) ?_;clear S;intro v25 a w73 hv24 hk61 hn24 S
             replace hv24:=hv24.2
             subst hv24
             refine Vf Od S rfl rfl fun a S=>Ef S (S.tm rfl) (S.tm rfl) (i:=0) (off:=7) rfl sizeOf3 (vs:=[iV r20.1]) rfl rfl rfl rfl ?_;clear S;intro w74 hk62 S
             refine Vf Qy S rfl rfl fun a S=>Ef S (S.tm rfl) (S.tm rfl) (i:=0) (off:=8) rfl sizeOf3 (vs:=[iV r21.1]) rfl rfl rfl rfl ?_;clear S;intro w75 hk63 S
             refine Vf Mg S rfl rfl fun a S=>Ef S (S.tm rfl) (S.tm rfl) (i:=0) (off:=10) rfl sizeOf3 (vs:=[iV r22.1]) rfl rfl rfl rfl ?_;clear S;intro w76 hk64 S
             refine Ld ?_
             replace S:=(S.nl [.blk b5 (An.enc (An.mk r2.1 (Dw (Ff x1 r2.1 (W ((Dw x1 r2.1 0) + 1))) r2.1 0) (W (x4 + r1.1)) r3.1 x6 x9 x7 r20.1 r21.1 x12 r22.1)) 33,.map b1 (Gy Value.string (Value.int .i64) (Ff x1 r2.1 (W ((Dw x1 r2.1 0) + 1)))) (Ff x1 r2.1 (W ((Dw x1 r2.1 0) + 1))).length,.own v1 33 11 x2.length (x2.flatMap An.enc),.blk U [V,iV r22.2] 25] [true,true,true,true] rfl).k7 0 5 6 7 8 10 11 rfl
             exact Tn (⟨x6,x9,x7,r20.1,r21.1,r22.1,r22.2,h,S.nf [true,true,true,true] rfl (subR rfl)⟩)
           clear S h;rintro a w61 ⟨x67,x68,x69,x70,x71,x72,x73,h,S⟩;rw [hj11] at h;clear hj11 j11
           exact Tn (⟨r3.1,x67,x68,x69,x70,x71,x72,x73,h,S.nf [true,true,true,true] rfl (subR rfl)⟩)
         clear S h;rintro a w58 ⟨x59,x60,x61,x62,x63,x64,x65,x66,h,S⟩;rw [hj10] at h;clear hj10 j10
         exact Tn (⟨r2.1,Dw (Ff x1 r2.1 (W ((Dw x1 r2.1 0) + 1))) r2.1 0,x59,x60,x61,x62,x63,x64,x65,x66,h,S.nf [true,true,true,true] rfl (subR rfl)⟩)
       clear S h;rintro a w52 ⟨x49,x50,x51,x52,x53,x54,x55,x56,x57,x58,h,S⟩;rw [hj9] at h;clear hj9 j9
       exact Ia (Tn (⟨x49,x50,x51,x52,x53,x54,x55,x56,x57,x58,h,S.nf [true,true,true,true] rfl (subR rfl)⟩))
      clear S h;rintro a w51 ⟨x39,x40,x41,x42,x43,x44,x45,x46,x47,x48,h,S⟩;rw [hj8] at h;clear hj8 j8
      exact Tn (⟨x39,x40,x41,x42,x43,x44,x45,x46,x47,x48,h,S.nf [true,true,true,true] rfl (subR rfl)⟩)
     ·exact wp_skip (Tn (⟨r2.1,Dw (Ff x1 r2.1 (W ((Dw x1 r2.1 0) + 1))) r2.1 0,r3.1,x6,x9,x7,x10,x11,x13,r12.2,h,S.nf [true,true,true,true] rfl (subR rfl)⟩))
    clear S h;rintro a w49 ⟨x29,x30,x31,x32,x33,x34,x35,x36,x37,x38,h,S⟩;rw [hj7] at h;clear hj7 j7
    refine Tn (Fg (Vm S rfl rfl fun a S=>lv S (Ev isAgg33 sizeOf33 (off:=0) (o:=0) (part:=(An.enc (An.mk x29 x30 (W (x4 + r1.1)) x31 x32 x33 x34 x35 x36 x12 x37))) rfl rfl (S.tm rfl) (S.cellsAt (i:=0) rfl)) rfl fun a S=>Eg S underlying26 sizeOf33 zeroValue33 rfl rfl (pv:=[(0,.agg (An.enc (An.mk x29 x30 (W (x4 + r1.1)) x31 x32 x33 x34 x35 x36 x12 x37)).toArray)]) ⟨rfl,(S.tm rfl),trivial⟩ (cs:=[sV x29,iV x30,iV (W (x4 + r1.1)),iV x31,sV x32,sV x33,sV x34,iV x35,iV x36,sV x12,iV x37]) (by kernel_rfl) rfl ?_));clear S;intro a w77 b18 hz18 hk65 S
    obtain ⟨hc1,h⟩:=Hw h
    refine Li Es An.enc_ok S (S.tm rfl) (i:=3) rfl (S.tm rfl) (j:=0) rfl (ys:=[(An.mk x29 x30 (W (x4 + r1.1)) x31 x32 x33 x34 x35 x36 x12 x37)]) rfl rfl rfl rfl (by have:=Nh hc1;omega) rfl ?_;clear S;intro v26 a w78 hk66 S
    exact Va S rfl rfl fun a S=>Ld (Ia (Tn (Fg (Vq S Ge rfl rfl rfl fun a S=>Vm S rfl rfl fun a S=>Dl (⟨m1,⟨(Ff x1 r2.1 (W ((Dw x1 r2.1 0) + 1))),(x2 ++ [(An.mk x29 x30 (W (x4 + r1.1)) x31 x32 x33 x34 x35 x36 x12 x37)]),x38,W (x4 + r1.1),W (x5 + 1),v26,h,S.nf [false,false,true,true,true] rfl ⟨rfl,rfl,rfl,rfl,rfl,rfl,trivial⟩⟩,Nat.lt_succ_self _⟩)))))
   ·exact wp_exit (Et (Et (Hp (Tn (⟨x1,x2,x3,v1,h,S.nf [true,true,true] rfl ⟨rfl,trivial⟩⟩)))))
 clear S h;rintro a w3 ⟨x1,x2,x3,v1,h,S⟩;rw [hj1] at h;clear hj1 j1
 refine Tn (Fr (Vm S rfl rfl ?_));clear S;intro a S
 obtain ⟨r23,hr23,h⟩:=El h
 refine Nz 1 S rfl (fun _=>.own v1 33 11 r23.length (r23.flatMap An.enc)) (fun _=>Cy (vs:=[v1,.func (.func 27) #[] #[]]) ⟨(S.tm rfl),rfl,trivial⟩ call26) (Lr _ v1 x2 (S.holds _ (List.mem_of_getElem? (i:=1) rfl)) _ hr23) rfl (fun _ _ _ h=>⟨h.1,fun _ hc=>hc⟩) ?_;clear S;intro v27 a w79 hv25 hk67 hn25 S
 replace hv25:=hv25.2
 subst hv25
 refine Dz (Vm S rfl rfl fun a S=>Va S rfl rfl fun a S=>Dl (wp_ret ?_))
 obtain rfl:=Option.some.inj h
 exact Dx S results4 rfl ⟨(S.holds _ (List.mem_of_getElem? (i:=2) rfl)),(ES S (i:=1) rfl (fun c hc hh=>CM S (i:=2) rfl rfl (j:=1) rfl rfl (by simp at hc;subst hc;exact hh)))⟩
theorem Uj (w : World) (U : Nat) (V : Value) (Al : List Int) (Aj : Slc (view w [U]) 1 V (Al.map eInt)) (Af : Int) (Ar : (LEnt.blk U [V,iV Af] 25).holds w) (r : Int × Int) (h : My Al Af = some r) :
    Calls prog 6 [.pointer (some ⟨U,0,none⟩)].toArray w (Ret w [U] fun _ v w'=>(LEnt.blk U [V,iV r.2] 25).holds w' ∧ v = iV r.1):=by
 refine La [U] [.blk U [V,iV Af] 25] func6 rfl ntmps6 rfl (fun e he=>by simp only [List.mem_singleton] at he;subst he;exact Ar) (by simp [fps,LEnt.fp]) (by simp [fps,LEnt.fp]) fun a S=>?_
 unfold My at h
 replace S:=(S.nl [.blk U [V,iV Af] 25] [true] rfl).k1 0 rfl
 refine Fr (Vk S rfl rfl fun a S=>Dz (Vm S rfl rfl fun a S=>Eg S underlying22 sizeOf3 zeroValue3 rfl rfl (pv:=[(0,iV 0),(1,iV 3),(2,iV 10),(3,iV 20),(4,iV 40),(5,iV 60),(6,iV 60),(7,iV (-1))]) ⟨rfl,rfl,rfl,rfl,rfl,rfl,rfl,rfl,rfl,rfl,rfl,rfl,rfl,rfl,rfl,rfl,trivial⟩ (cs:=[iV 0,iV 3,iV 10,iV 20,iV 40,iV 60,iV 60,iV (-1)]) (by kernel_rfl) rfl ?_));clear S;intro a w1 b1 hz1 hk1 S
 obtain ⟨r1,hr1,h⟩:=El h
 refine Fw 1 S (b:=U) rfl rfl (fun _=>.blk U [V,iV r1.2] 25) (fun _=>Cy (vs:=[.pointer (some ⟨U,0,none⟩),.slice (some ⟨b1,0,none⟩) 8 8]) ⟨(S.tm rfl),(S.tm rfl),trivial⟩ call23) (Ln _ U V Al (Aj.mono (S.le_arg (Hq (i:=1) (e:=.blk U [V,iV Af] 25) rfl))) Af (S.holds _ (List.mem_of_getElem? (i:=1) rfl)) (.slice (some ⟨b1,0,none⟩) 8 8) [0,3,10,20,40,60,60,(-1)] (Jh Iu S (i:=0) rfl rfl rfl rfl ((Kd (i:=1) (j:=0) (e:=.blk U [V,iV Af] 25) (e':=.blk b1 [iV 0,iV 3,iV 10,iV 20,iV 40,iV 60,iV 60,iV (-1)] 3) S rfl rfl rfl) _ rfl)) _ hr1) rfl (fun _ _ _ h=>⟨h.1,fun _ hc=>by cases hc;rfl⟩) ?_;clear S;intro v1 a w2 hv1 hk2 hn1 S
 replace hv1:=hv1.2
 subst hv1
 refine Va S rfl rfl fun a S=>Dl (wp_ret ?_)
 obtain rfl:=Option.some.inj h
 exact Dx S results6 rfl ⟨(S.holds _ (List.mem_of_getElem? (i:=1) rfl)),rfl⟩
theorem Ja (w : World) (Aq : Value) (As : List An) (Bh : Slc (view w []) 11 Aq (As.map An.enc)) (r : (List An)) (h : Fh As = some r) :
    Calls prog 8 [Aq].toArray w (Ret w [] fun τ v _=>Mq τ 33 11 v r.length (r.flatMap An.enc)):=by
 refine Fe func8 rfl ntmps8 rfl fun a S=>?_
 unfold Fh at h
 replace S:=S.k1 0 rfl
 refine Fr (Vk S rfl rfl fun a S=>Dl (Fs (Fr (Vm S rfl rfl fun a S=>lv S (EX underlying26 (Fb Bh) (S.tm rfl) rfl) rfl fun a S=>Ld ?_))))
 refine Tn (Zk (S.tm rfl) (fun hb1=>?_) (fun hb1=>?_))
 ·have hx1:=EW Bh hb1
  subst hx1
  replace h : some ([] : List An) = some r:=h
  refine Fr (Vk S rfl rfl fun a S=>Dl (wp_ret (Dc ?_)))
  obtain rfl:=Option.some.inj h
  exact Dx S results8 rfl (Jg _ _ _)
 ·refine wp_skip (Tn (Fr (Yc S underlying26 sizeOf33 rfl ?_)));clear S;intro a w1 b1 hz1 hk1 S
  refine Vm S rfl rfl ?_;clear S;intro a S
  replace S:=S.litOwn (i:=0) (xs:=([] : List An)) rfl An.enc_ok rfl rfl rfl
  replace S:=S.nk [.own (.slice (some ⟨b1,0,none⟩) 0 0) 33 11 (([] : List An) : List An).length ((([] : List An) : List An).flatMap An.enc)] [(0,Aq),(2,.slice none 0 0),(3,Aq),(4,bV (nilB Aq)),(5,(.slice (some ⟨b1,0,none⟩) 0 0)),(6,Aq)] [] rfl (subR rfl)
  obtain ⟨hc1,h⟩:=Hw h
  refine DT (Y:=[]) Es An.enc_ok S (S.tm rfl) (i:=0) rfl (S.tm rfl) (Bh.mono (S.le_arg (fun _ h=>by cases h))) rfl rfl (by have:=Nh hc1;omega) rfl ?_;clear S;intro v1 a w2 hk2 S
  refine Va S rfl rfl fun a S=>Dl (wp_ret ?_)
  obtain rfl:=Option.some.inj h
  exact Dx S results8 rfl (Oq S (i:=0) rfl rfl)
theorem Lo (w : World) (Bb : Int) (Bi : Int) (Bc : Int) (r : Bool) (h : Ha Bb Bi Bc = r) :
    Calls prog 49 [iV Bb,iV Bi,iV Bc].toArray w (Ret w [] fun _ v _=>v = bV r):=by
 refine Fe func49 rfl ntmps49 rfl fun a S=>?_
 unfold Ha at h
 replace S:=S.k3 0 1 2 rfl
 refine Fr (Vk S rfl rfl fun a S=>Dz (Vm S rfl rfl fun a S=>Vm S rfl rfl fun a S=>Vb S Sa rfl rfl rfl fun a S=>Vm S rfl rfl ?_));clear S;intro a S
 refine Gr 4 (fun a w'=>Keep [] w w' ∧ Sx w [] nov [] [(14,bV ((decide (Bi ≤ Bb)) && (decide (Bb ≤ Bc))))] 15 a w') ?_ ?_
 ·rcases Bool.eq_false_or_eq_true (decide (Bi ≤ Bb)) with hb1 | hb1
  ·exact Db S rfl rfl rfl hb1 (Vm S rfl rfl fun a S=>Db S rfl rfl rfl hb1 (Vm S rfl rfl fun a S=>Db S rfl rfl rfl hb1 (Vb S Sa rfl rfl rfl fun a S=>lv S (Hn hb1 (S.tm rfl) (S.tm rfl)) rfl fun a S=>Dl (⟨Keep.refl _ _,S.nf [] rfl ⟨rfl,trivial⟩⟩))))
  ·iterate 3 (refine Gd S rfl rfl rfl (Fl hb1) rfl ?_ rfl;clear S;intro a S)
   exact lv S (Ho (decide (Bb ≤ Bc)) hb1 (S.tm rfl) rfl) rfl fun a S=>Dl (⟨Keep.refl _ _,S.nf [] rfl ⟨rfl,trivial⟩⟩)
 clear S;rintro a w1 ⟨hk1,S⟩
 refine Va S rfl rfl fun a S=>Dl (wp_ret ?_)
 subst h
 exact Dx S results49 rfl rfl
theorem Td (w : World) (s : ByteArray) (c : Int) (r : Int) (h : Ni s c = r) : Calls prog 81 [.string s,.int .u8 c].toArray w (Ret w [] fun _ v _=>v = .int .i64 r):=by
  subst h
  exact Qu (Any.strings_IndexByte Tryz.lays137 s c w)
theorem Rs (w : World) (As : ByteArray) (Cg : ByteArray) (r : Bool) (h : Nb As Cg = some r) :
    Calls prog 63 [sV As,sV Cg].toArray w (Ret w [] fun _ v _=>v = bV r):=by
 refine Fe func63 rfl ntmps63 rfl fun a S=>?_
 unfold Nb at h
 replace S:=S.k2 0 1 rfl
 refine Fr (Vk S rfl rfl fun a S=>Dl (Fs (Fr (Vm S rfl rfl fun a S=>Vu S (Sd underlying9) rfl rfl fun a S=>lv S (Rm rfl) rfl ?_))));clear S;intro a S
 refine Dl ?_
 replace S:=S.k4 0 1 7 8 rfl
 obtain ⟨j1,hj1,h⟩:=En h
 refine Ec (fun a w'=>j1 = some r ∧ Sx w [] nov [] [] 18 a w') ?_ ?_
 ·refine wp_block (Hx (fun (m1 : Nat) a w'=>∃ x1 : Int,Hs As Cg j1 m1 x1 = some r ∧ Sx w [] nov [] [(0,sV As),(1,sV Cg),(7,iV (As.size : Int)),(8,iV x1)] 18 a w') id (((As.size : Int) - 0).toNat + 2) ⟨0,h,S.nf [] rfl (subR rfl)⟩ ?_)
  clear S h;rintro m1 a w1 ⟨x1,h,S⟩
  cases m1 with
  | zero=>rw [Hs.eq_1] at h;cases h
  | succ m1 =>
   rw [Hs.eq_2] at h
   refine Fr (Vb S Fa rfl rfl rfl fun a S=>Dl (Fs (Fc h (S.tm rfl) (fun hb1 h=>?_) (fun hb1 h=>?_))))
   ·refine wp_skip (Tn (Fs (wp_block (Fr (Vm S rfl rfl fun a S=>Va S rfl rfl fun a S=>Dl (Fs ?_))))))
    refine Fg ?_
    iterate 3 (refine Vm S rfl rfl ?_;clear S;intro a S)
    obtain ⟨hc1,h⟩:=Hw h
    refine lv S (Qi underlying9 (S.tm rfl) (S.tm rfl) hc1) rfl fun a S=>De S (fun _=>Cy (vs:=[sV Cg,.int .u8 (Qt As x1)]) ⟨(S.tm rfl),(S.tm rfl),trivial⟩ call81) (Td _ Cg (Qt As x1) _ rfl) rfl ?_;clear S;intro v1 a w3 hv1 hk1 hn1 S
    subst hv1
    refine Vq S Fa rfl rfl rfl fun a S=>Dl (Fc h (S.tm rfl) (fun hb2 h=>?_) (fun hb2 h=>?_))
    ·refine Fr (Vk S rfl rfl fun a S=>Dl (wp_ret (Gg (Dc (Dc (Gg (Dc ?_)))))))
     refine Dc ?_
     obtain rfl:=Option.some.inj h
     exact Dx S results63 rfl rfl
    ·exact wp_skip (Ia (Tn (Fg (Vq S Ge rfl rfl rfl fun a S=>Vm S rfl rfl fun a S=>Dl (⟨m1,⟨W (x1 + 1),h,S.nf [] rfl ⟨rfl,rfl,rfl,rfl,trivial⟩⟩,Nat.lt_succ_self _⟩)))))
   ·exact wp_exit (Et (Et (Hp (Tn (⟨h,S.nf [] rfl trivial⟩)))))
 clear S h;rintro a w2 ⟨h,S⟩;rw [hj1] at h;clear hj1 j1
 refine Tn (Fr (Vk S rfl rfl fun a S=>Dl (wp_ret ?_)))
 obtain rfl:=Option.some.inj h
 exact Dx S results63 rfl rfl
theorem Mz (w : World) (As : ByteArray) (r : Bool) (h : Ks As = some r) :
    Calls prog 48 [sV As].toArray w (Ret w [] fun _ v _=>v = bV r):=by
 refine Fe func48 rfl ntmps48 rfl fun a S=>?_
 unfold Ks at h
 replace S:=S.k1 0 rfl
 refine Fr (Vk S rfl rfl fun a S=>Dz (Vm S rfl rfl fun a S=>Vu S (Sd underlying9) rfl rfl fun a S=>De S (fun _=>Cy (vs:=[iV (As.size : Int),iV 1,iV 40]) ⟨(S.tm rfl),rfl,rfl,trivial⟩ call49) (Lo _ (As.size : Int) 1 40 _ rfl) rfl ?_));clear S;intro v1 a w1 hv1 hk1 hn1 S
 subst hv1
 refine Vm S rfl rfl ?_;clear S;intro a S
 obtain ⟨j1,hj1,h⟩:=En h
 refine Gr 4 (fun a w'=>∃ c1,j1 c1 = some r ∧ Keep [] w1 w' ∧ Sx w [] nov [] [(0,sV As),(10,bV c1)] 15 a w') ?_ ?_
 ·rcases Bool.eq_false_or_eq_true (Ha (As.size : Int) 1 40) with hb1 | hb1
  ·replace h:=Nq h hb1
   refine Db S rfl rfl rfl hb1 (Vm S rfl rfl fun a S=>Db S rfl rfl rfl hb1 ?_)
   obtain ⟨hc1,h⟩:=Hw h
   refine lv S (DS underlying9 (S.tm rfl) rfl hc1) rfl fun a S=>Db S rfl rfl rfl hb1 ?_
   obtain ⟨r1,hr1,h⟩:=El h
   refine De S (fun _=>Cy (vs:=[sV (AI As 0 1),sV Hf]) ⟨(S.tm rfl),rfl,trivial⟩ call63) (Rs _ (AI As 0 1) Hf _ hr1) rfl ?_;clear S;intro v2 a w3 hv2 hk2 hn2 S
   subst hv2
   exact lv S (Hn hb1 (S.tm rfl) (S.tm rfl)) rfl fun a S=>Dl (⟨_,h,hk2,S.nf [] rfl (subR rfl)⟩)
  ·replace h:=Nr h hb1
   iterate 3 (refine Gd S rfl rfl rfl (Fl hb1) rfl ?_ rfl;clear S;intro a S)
   exact Vq S (Ho true hb1) rfl rfl rfl fun a S=>Dl (⟨_,h,Keep.refl _ _,S.nf [] rfl (subR rfl)⟩)
 clear S h;rintro a w2 ⟨c1,h,hk3,S⟩;rw [hj1] at h;clear hj1 j1
 refine Vm S rfl rfl ?_;clear S;intro a S
 obtain ⟨j2,hj2,h⟩:=En h
 refine Gr 3 (fun a w'=>∃ c2,j2 c2 = some r ∧ Keep [] w2 w' ∧ Sx w [] nov [] [(14,bV c2)] 15 a w') ?_ ?_
 ·rcases Bool.eq_false_or_eq_true c1 with hb2 | hb2
  ·replace h:=Nq h hb2
   refine Db S rfl rfl rfl hb2 (Vm S rfl rfl fun a S=>Db S rfl rfl rfl hb2 ?_)
   obtain ⟨r2,hr2,h⟩:=El h
   refine De S (fun _=>Cy (vs:=[sV As,sV Fj]) ⟨(S.tm rfl),rfl,trivial⟩ call63) (Rs _ As Fj _ hr2) rfl ?_;clear S;intro v3 a w5 hv3 hk4 hn3 S
   subst hv3
   exact lv S (Hn hb2 (S.tm rfl) (S.tm rfl)) rfl fun a S=>Dl (⟨_,h,hk4,S.nf [] rfl ⟨rfl,trivial⟩⟩)
  ·replace h:=Nr h hb2
   exact Gd S rfl rfl rfl (Fl hb2) rfl (fun a S=>Gd S rfl rfl rfl (Fl hb2) rfl (fun a S=>Vq S (Ho true hb2) rfl rfl rfl fun a S=>Dl (⟨_,h,Keep.refl _ _,S.nf [] rfl ⟨rfl,trivial⟩⟩)) rfl) rfl
 clear S h;rintro a w4 ⟨c2,h,hk5,S⟩;rw [hj2] at h;clear hj2 j2
 refine Va S rfl rfl fun a S=>Dl (wp_ret ?_)
 obtain rfl:=Option.some.inj h
 exact Dx S results48 rfl rfl
theorem Qn (w : World) (Au : Int) (r : Bool) (h : Hg Au = r) :
    Calls prog 39 [iV Au].toArray w (Ret w [] fun _ v _=>v = bV r):=by
 refine Fe func39 rfl ntmps39 rfl fun a S=>?_
 unfold Hg at h
 replace S:=S.k1 0 rfl
 refine Fr (Vk S rfl rfl fun a S=>Dz (Vm S rfl rfl fun a S=>De S (fun _=>Cy (vs:=[iV Au,iV 0,iV 345686399999]) ⟨(S.tm rfl),rfl,rfl,trivial⟩ call49) (Lo _ Au 0 345686399999 _ rfl) rfl ?_));clear S;intro v1 a w1 hv1 hk1 hn1 S
 subst hv1
 refine Va S rfl rfl fun a S=>Dl (wp_ret ?_)
 subst h
 exact Dx S results39 rfl rfl
theorem Pf (w : World) (Ac : An) (r : Int) (h : Jr Ac = some r) :
    Calls prog 29 [.agg (An.enc Ac).toArray].toArray w (Ret w [] fun _ v _=>v = iV r):=by
 refine Fe func29 rfl ntmps29 rfl fun a S=>?_
 unfold Jr at h
 replace S:=S.k1 0 rfl
 refine Fr (Kw S (S.tm rfl) (cs:=(An.enc Ac)) rfl rfl ?_);clear S;intro a w1 b1 hz1 hk1 S
 refine Vk S rfl rfl fun a S=>Dl (Fs (wp_block (Fr (Vf Ih S rfl rfl fun a S=>Vl isAgg9 0 S rfl rfl rfl rfl ?_))));clear S;intro a S
 obtain ⟨r1,hr1,h⟩:=El h
 refine De S (fun _=>Cy (vs:=[sV Ac.Site]) ⟨(S.tm rfl),trivial⟩ call48) (Mz _ Ac.Site _ hr1) rfl ?_;clear S;intro v1 a w2 hv1 hk2 hn1 S
 subst hv1
 refine Vu S Hl rfl rfl fun a S=>Va S rfl rfl fun a S=>Dl (Fc h (S.tm rfl) (fun hb1 h=>?_) (fun hb1 h=>?_))
 ·refine Fr (Vk S rfl rfl fun a S=>Dl (wp_ret (Gg (Dc ?_))))
  obtain rfl:=Option.some.inj h
  exact Dx S results29 rfl rfl
 ·refine Fr (Vf Hd S rfl rfl fun a S=>Vl isAgg3 0 S rfl rfl rfl rfl fun a S=>De S (fun _=>Cy (vs:=[iV Ac.No,iV 1,iV 1000000]) ⟨(S.tm rfl),rfl,rfl,trivial⟩ call49) (Lo _ Ac.No 1 1000000 _ rfl) rfl ?_);clear S;intro v2 a w3 hv2 hk3 hn2 S
  subst hv2
  refine Vu S Hl rfl rfl fun a S=>Vm S rfl rfl fun a S=>Gr 5 (fun a w'=>Keep [] w3 w' ∧ Sx w [] nov [.blk b1 (An.enc Ac) 33] [(1,.pointer (some ⟨b1,0,none⟩)),(19,bV ((!(Ha Ac.No 1 1000000)) || (!(Hg Ac.At))))] 117 a w') ?_ ?_
  ·rcases Bool.eq_false_or_eq_true (!(Ha Ac.No 1 1000000)) with hb2 | hb2
   ·iterate 4 (refine Gd S rfl rfl rfl (Mn hb2) rfl ?_ rfl;clear S;intro a S)
    exact lv S (Kj (!(Hg Ac.At)) hb2 (S.tm rfl) rfl) rfl fun a S=>Dl (⟨Keep.refl _ _,S.nf [true] rfl (subR rfl)⟩)
   ·refine Db S rfl rfl rfl hb2 (Vf Jv S rfl rfl fun a S=>Db S rfl rfl rfl hb2 (Vl isAgg3 0 S rfl rfl rfl rfl fun a S=>Db S rfl rfl rfl hb2 (De S (fun _=>Cy (vs:=[iV Ac.At]) ⟨(S.tm rfl),trivial⟩ call39) (Qn _ Ac.At _ rfl) rfl ?_)));clear S;intro v3 a w5 hv3 hk4 hn3 S
    subst hv3
    exact Db S rfl rfl rfl hb2 (Vu S Hl rfl rfl fun a S=>lv S (Kk hb2 (S.tm rfl) (S.tm rfl)) rfl fun a S=>Dl (⟨hk4,S.nf [true] rfl (subR rfl)⟩))
  clear S;rintro a w4 ⟨hk5,S⟩
  refine Va S rfl rfl fun a S=>Dl (Fc h (S.tm rfl) (fun hb3 h=>?_) (fun hb3 h=>?_))
  ·refine Fr (Vk S rfl rfl fun a S=>Dl (wp_ret (Gg (Dc ?_))))
   obtain rfl:=Option.some.inj h
   exact Dx S results29 rfl rfl
  ·refine Fr (Vf Jm S rfl rfl fun a S=>Vl isAgg3 0 S rfl rfl rfl rfl fun a S=>De S (fun _=>Cy (vs:=[iV Ac.Kind,iV 1,iV 4]) ⟨(S.tm rfl),rfl,rfl,trivial⟩ call49) (Lo _ Ac.Kind 1 4 _ rfl) rfl ?_);clear S;intro v4 a w6 hv4 hk6 hn4 S
   subst hv4
   refine Vu S Hl rfl rfl fun a S=>Va S rfl rfl fun a S=>Dl (Fc h (S.tm rfl) (fun hb4 h=>?_) (fun hb4 h=>?_))
   ·refine Fr (Vk S rfl rfl fun a S=>Dl (wp_ret (Gg (Dc ?_))))
    obtain rfl:=Option.some.inj h
    exact Dx S results29 rfl rfl
   ·refine wp_skip (Ia (Tn (Fr (Vf Ih S rfl rfl fun a S=>Vl isAgg9 0 S rfl rfl rfl rfl fun a S=>Vf Hd S rfl rfl fun a S=>Vl isAgg3 0 S rfl rfl rfl rfl fun a S=>Vf Jv S rfl rfl fun a S=>Vl isAgg3 0 S rfl rfl rfl rfl ?_))));clear S;intro a S
    refine Vf Jm S rfl rfl fun a S=>Vl isAgg3 0 S rfl rfl rfl rfl fun a S=>lv S (Nw CW (pv:=[(0,sV Ac.Site),(1,iV Ac.No),(2,iV Ac.At),(3,iV Ac.Kind)]) ⟨rfl,(S.tm rfl),rfl,(S.tm rfl),rfl,(S.tm rfl),rfl,(S.tm rfl),trivial⟩ (cs:=[sV Ac.Site,iV Ac.No,iV Ac.At,iV Ac.Kind,sV Cw,sV Cw,sV Cw,iV 0,iV 0,sV Cw,iV 0]) (by kernel_rfl)) rfl fun a S=>It S zeroValue33 (cs:=[sV Cw,iV 0,iV 0,iV 0,sV Cw,sV Cw,sV Cw,iV 0,iV 0,sV Cw,iV 0]) rfl rfl ?_;clear S;intro a w7 b2 hz2 hk7 S
    refine Ef S (S.tm rfl) (S.tm rfl) (i:=0) (off:=0) rfl sizeOf33 (vs:=(An.enc (An.mk Ac.Site Ac.No Ac.At Ac.Kind Cw Cw Cw 0 0 Cw 0))) rfl rfl rfl rfl ?_;clear S;intro w8 hk8 S
    refine Ld ?_
    replace S:=(S.nl [.blk b2 (An.enc (An.mk Ac.Site Ac.No Ac.At Ac.Kind Cw Cw Cw 0 0 Cw 0)) 33,.blk b1 (An.enc Ac) 33] [true,true] rfl).k2 1 3 rfl
    refine Tn (Fs (Fr (Vf Jm S rfl rfl fun a S=>Vl isAgg3 1 S rfl rfl rfl rfl fun a S=>Vq S Hi rfl rfl rfl fun a S=>Dl ?_)))
    obtain ⟨j1,hj1,h⟩:=En h
    refine Ec (fun a w'=>∃ x1 : ByteArray,∃ x2 : ByteArray,∃ x3 : ByteArray,∃ x4 : Int,j1 x1 x2 x3 x4 = some r ∧ Sx w [] nov [.blk b2 (An.enc (An.mk Ac.Site Ac.No Ac.At Ac.Kind x1 Cw x2 0 0 x3 x4)) 33,.blk b1 (An.enc Ac) 33] [(1,.pointer (some ⟨b1,0,none⟩)),(3,.pointer (some ⟨b2,0,none⟩))] 117 a w') ?_ ?_
    ·refine Fc h (S.tm rfl) (fun hb5 h=>?_) (fun hb5 h=>?_)
     ·refine Fs (Fm [] ([b2]) Tryz.mixed S rfl (by kernel_rfl) ?_);clear S;intro w12 hk11 hsel S
      refine Da 0 S hsel rfl rfl rfl (by kernel_rfl) (by kernel_rfl) rfl (fun _ hw=>(Em Oe (S.tm rfl))) fun a S=>Da 1 S hsel rfl rfl rfl (by kernel_rfl) (by kernel_rfl) rfl (fun _ hw=>(Ep isAgg9 (off:=0) (o:=9) (S.tm rfl) ((S.blk_mem (i:=1) (cells:=(An.enc Ac)) (b:=b1) (T:=33) rfl (Kd (i:=0) (j:=1) (e:=.blk b2 (An.enc (An.mk Ac.Site Ac.No Ac.At Ac.Kind Cw Cw Cw 0 0 Cw 0)) 33) (e':=.blk b1 (An.enc Ac) 33) S rfl rfl rfl)).kept hw) rfl)) fun a S=>Da 2 S hsel rfl rfl rfl (by kernel_rfl) (by kernel_rfl) rfl (fun _ hw=>(Em Mg (S.tm rfl))) fun a S=>Da 3 S hsel rfl rfl rfl (by kernel_rfl) (by kernel_rfl) rfl (fun _ hw=>(Ep isAgg3 (off:=0) (o:=10) (S.tm rfl) ((S.blk_mem (i:=1) (cells:=(An.enc Ac)) (b:=b1) (T:=33) rfl (Kd (i:=0) (j:=1) (e:=.blk b2 (An.enc (An.mk Ac.Site Ac.No Ac.At Ac.Kind Cw Cw Cw 0 0 Cw 0)) 33) (e':=.blk b1 (An.enc Ac) 33) S rfl rfl rfl)).kept hw) rfl)) fun a S=>Da 4 S hsel rfl rfl rfl (by kernel_rfl) (by kernel_rfl) rfl (fun _ hw=>(Em Oe (S.tm rfl))) fun a S=>Ey 5 (by kernel_rfl) rfl (Ef S (S.tm rfl) (S.tm rfl) (i:=0) (off:=9) rfl sizeOf9 (vs:=[sV Ac.Of]) rfl rfl rfl rfl ?_);clear S;intro w13 hk12 S
      refine Ld (Fz hk12 (Da 6 S hsel rfl rfl rfl (by kernel_rfl) (by kernel_rfl) rfl (fun _ hw=>(Em Mg (S.tm rfl))) fun a S=>Ey 7 (by kernel_rfl) rfl (Ef S (S.tm rfl) (S.tm rfl) (i:=0) (off:=10) rfl sizeOf3 (vs:=[iV Ac.Other]) rfl rfl rfl rfl ?_)));clear S;intro w14 hk13 S
      refine Ld (Fz hk13 (So (by kernel_rfl) ?_))
      clear hsel
      replace S:=(S.nl [.blk b2 (An.enc (An.mk Ac.Site Ac.No Ac.At Ac.Kind Cw Cw Cw 0 0 Ac.Of Ac.Other)) 33,.blk b1 (An.enc Ac) 33] [true,true] rfl).k2 1 3 rfl
      refine Tn (Fs (Fr (Vf Oe S rfl rfl fun a S=>Vl isAgg9 1 S rfl rfl rfl rfl ?_)));clear S;intro a S
      obtain ⟨r2,hr2,h⟩:=El h
      refine De S (fun _=>Cy (vs:=[sV Ac.Of]) ⟨(S.tm rfl),trivial⟩ call48) (Mz _ Ac.Of _ hr2) rfl ?_;clear S;intro v5 a w15 hv5 hk14 hn5 S
      subst hv5
      refine Vu S Hl rfl rfl fun a S=>Dl (Fc h (S.tm rfl) (fun hb6 h=>?_) (fun hb6 h=>?_))
      ·refine Fr (Vk S rfl rfl fun a S=>Dl (wp_ret ?_))
       iterate 3 (refine Dc ?_)
       obtain rfl:=Option.some.inj h
       exact Dx S results29 rfl rfl
      ·refine wp_skip (Tn (Fr (Vf Mg S rfl rfl fun a S=>Vl isAgg3 1 S rfl rfl rfl rfl fun a S=>De S (fun _=>Cy (vs:=[iV Ac.Other,iV 1,iV 1000000]) ⟨(S.tm rfl),rfl,rfl,trivial⟩ call49) (Lo _ Ac.Other 1 1000000 _ rfl) rfl ?_)));clear S;intro v6 a w16 hv6 hk15 hn6 S
       subst hv6
       refine Vu S Hl rfl rfl fun a S=>Dl (Fc h (S.tm rfl) (fun hb7 h=>?_) (fun hb7 h=>?_))
       ·refine Fr (Vk S rfl rfl fun a S=>Dl (wp_ret (Dc (Dc ?_))))
        obtain rfl:=Option.some.inj h
        exact Dx S results29 rfl rfl
       ·exact wp_skip (Tn (⟨Cw,Cw,Ac.Of,Ac.Other,h,S.nf [true,true] rfl (subR rfl)⟩))
     ·refine Fs (Fm [] ([b2]) Tryz.mixed S rfl (by kernel_rfl) ?_);clear S;intro w19 hk18 hsel S
      refine Da 0 S hsel rfl rfl rfl (by kernel_rfl) (by kernel_rfl) rfl (fun _ hw=>(Em Lv (S.tm rfl))) fun a S=>Da 1 S hsel rfl rfl rfl (by kernel_rfl) (by kernel_rfl) rfl (fun _ hw=>(Ep isAgg9 (off:=0) (o:=4) (S.tm rfl) ((S.blk_mem (i:=1) (cells:=(An.enc Ac)) (b:=b1) (T:=33) rfl (Kd (i:=0) (j:=1) (e:=.blk b2 (An.enc (An.mk Ac.Site Ac.No Ac.At Ac.Kind Cw Cw Cw 0 0 Cw 0)) 33) (e':=.blk b1 (An.enc Ac) 33) S rfl rfl rfl)).kept hw) rfl)) fun a S=>Da 2 S hsel rfl rfl rfl (by kernel_rfl) (by kernel_rfl) rfl (fun _ hw=>(Em Nt (S.tm rfl))) fun a S=>Da 3 S hsel rfl rfl rfl (by kernel_rfl) (by kernel_rfl) rfl (fun _ hw=>(Ep isAgg9 (off:=0) (o:=6) (S.tm rfl) ((S.blk_mem (i:=1) (cells:=(An.enc Ac)) (b:=b1) (T:=33) rfl (Kd (i:=0) (j:=1) (e:=.blk b2 (An.enc (An.mk Ac.Site Ac.No Ac.At Ac.Kind Cw Cw Cw 0 0 Cw 0)) 33) (e':=.blk b1 (An.enc Ac) 33) S rfl rfl rfl)).kept hw) rfl)) fun a S=>Da 4 S hsel rfl rfl rfl (by kernel_rfl) (by kernel_rfl) rfl (fun _ hw=>(Em Lv (S.tm rfl))) fun a S=>Ey 5 (by kernel_rfl) rfl (Ef S (S.tm rfl) (S.tm rfl) (i:=0) (off:=4) rfl sizeOf9 (vs:=[sV Ac.Who]) rfl rfl rfl rfl ?_);clear S;intro w20 hk19 S
      refine Ld (Fz hk19 (Da 6 S hsel rfl rfl rfl (by kernel_rfl) (by kernel_rfl) rfl (fun _ hw=>(Em Nt (S.tm rfl))) fun a S=>Ey 7 (by kernel_rfl) rfl (Ef S (S.tm rfl) (S.tm rfl) (i:=0) (off:=6) rfl sizeOf9 (vs:=[sV Ac.Race]) rfl rfl rfl rfl ?_)));clear S;intro w21 hk20 S
      refine Ld (Fz hk20 (So (by kernel_rfl) ?_))
      clear hsel
      replace S:=(S.nl [.blk b2 (An.enc (An.mk Ac.Site Ac.No Ac.At Ac.Kind Ac.Who Cw Ac.Race 0 0 Cw 0)) 33,.blk b1 (An.enc Ac) 33] [true,true] rfl).k2 1 3 rfl
      refine Tn (Fr (Vf Lv S rfl rfl fun a S=>Vl isAgg9 1 S rfl rfl rfl rfl ?_));clear S;intro a S
      obtain ⟨r3,hr3,h⟩:=El h
      refine De S (fun _=>Cy (vs:=[sV Ac.Who]) ⟨(S.tm rfl),trivial⟩ call48) (Mz _ Ac.Who _ hr3) rfl ?_;clear S;intro v7 a w22 hv7 hk21 hn7 S
      subst hv7
      refine Vu S Hl rfl rfl fun a S=>Vm S rfl rfl ?_;clear S;intro a S
      obtain ⟨j2,hj2,h⟩:=En h
      refine Gr 5 (fun a w'=>∃ c1,j2 c1 = some r ∧ Keep [] w22 w' ∧ Sx w [] nov [.blk b2 (An.enc (An.mk Ac.Site Ac.No Ac.At Ac.Kind Ac.Who Cw Ac.Race 0 0 Cw 0)) 33,.blk b1 (An.enc Ac) 33] [(1,.pointer (some ⟨b1,0,none⟩)),(3,.pointer (some ⟨b2,0,none⟩)),(66,bV c1)] 117 a w') ?_ ?_
      ·rcases Bool.eq_false_or_eq_true (!r3) with hb8 | hb8
       ·replace h:=Nq h hb8
        iterate 4 (refine Gd S rfl rfl rfl (Mn hb8) rfl ?_ rfl;clear S;intro a S)
        exact Vq S (Kj true hb8) rfl rfl rfl fun a S=>Dl (⟨_,h,Keep.refl _ _,S.nf [true,true] rfl (subR rfl)⟩)
       ·replace h:=Nr h hb8
        refine Db S rfl rfl rfl hb8 (Vf Nt S rfl rfl fun a S=>Db S rfl rfl rfl hb8 (Vl isAgg9 1 S rfl rfl rfl rfl fun a S=>Db S rfl rfl rfl hb8 ?_))
        obtain ⟨r4,hr4,h⟩:=El h
        refine De S (fun _=>Cy (vs:=[sV Ac.Race]) ⟨(S.tm rfl),trivial⟩ call48) (Mz _ Ac.Race _ hr4) rfl ?_;clear S;intro v8 a w24 hv8 hk22 hn8 S
        subst hv8
        exact Db S rfl rfl rfl hb8 (Vu S Hl rfl rfl fun a S=>lv S (Kk hb8 (S.tm rfl) (S.tm rfl)) rfl fun a S=>Dl (⟨_,h,hk22,S.nf [true,true] rfl (subR rfl)⟩))
      clear S h;rintro a w23 ⟨c1,h,hk23,S⟩;rw [hj2] at h;clear hj2 j2
      refine Vm S rfl rfl ?_;clear S;intro a S
      obtain ⟨j3,hj3,h⟩:=En h
      refine Gr 15 (fun a w'=>∃ c2,j3 c2 = some r ∧ Keep [] w23 w' ∧ Sx w [] nov [.blk b2 (An.enc (An.mk Ac.Site Ac.No Ac.At Ac.Kind Ac.Who Cw Ac.Race 0 0 Cw 0)) 33,.blk b1 (An.enc Ac) 33] [(1,.pointer (some ⟨b1,0,none⟩)),(3,.pointer (some ⟨b2,0,none⟩)),(82,bV c2)] 117 a w') ?_ ?_
      ·rcases Bool.eq_false_or_eq_true c1 with hb9 | hb9
       ·replace h:=Nq h hb9
        iterate 4 (refine Gd S rfl rfl rfl (Mn hb9) rfl ?_ rfl;clear S;intro a S)
        iterate 3 (refine Zo S rfl rfl rfl rfl ?_;clear S;intro a S)
        refine Gd S rfl rfl rfl (Mn hb9) rfl (fun a S=>Gd S rfl rfl rfl (Mn hb9) rfl ?_ rfl) rfl;clear S;intro a S
        iterate 4 (refine Zo S rfl rfl rfl rfl ?_;clear S;intro a S)
        exact Gd S rfl rfl rfl (Mn hb9) rfl (fun a S=>Vq S (Kj true hb9) rfl rfl rfl fun a S=>Dl (⟨_,h,Keep.refl _ _,S.nf [true,true] rfl (subR rfl)⟩)) rfl
       ·replace h:=Nr h hb9
        refine Db S rfl rfl rfl hb9 (Vf Jm S rfl rfl fun a S=>Db S rfl rfl rfl hb9 (Vl isAgg3 1 S rfl rfl rfl rfl fun a S=>Db S rfl rfl rfl hb9 (Vq S Hi rfl rfl rfl fun a S=>Db S rfl rfl rfl hb9 (Vm S rfl rfl fun a S=>Gr 4 (fun a w'=>Keep [] w23 w' ∧ Sx w [] nov [.blk b2 (An.enc (An.mk Ac.Site Ac.No Ac.At Ac.Kind Ac.Who Cw Ac.Race 0 0 Cw 0)) 33,.blk b1 (An.enc Ac) 33] [(1,.pointer (some ⟨b1,0,none⟩)),(3,.pointer (some ⟨b2,0,none⟩)),(67,bV c1),(75,bV ((decide (Ac.Kind = 1)) && (!decide (Ac.Club = Cw))))] 117 a w') ?_ ?_))))
        ·rcases Bool.eq_false_or_eq_true (decide (Ac.Kind = 1)) with hb10 | hb10
         ·exact Db S rfl rfl rfl hb10 (Vf Po S rfl rfl fun a S=>Db S rfl rfl rfl hb10 (Vl isAgg9 1 S rfl rfl rfl rfl fun a S=>Db S rfl rfl rfl hb10 (Vq S Tj rfl rfl rfl fun a S=>Db S rfl rfl rfl hb9 (lv S (Hn hb10 (S.tm rfl) (S.tm rfl)) rfl fun a S=>Dl (⟨Keep.refl _ _,S.nf [true,true] rfl (subR rfl)⟩)))))
         ·iterate 3 (refine Gd S rfl rfl rfl (Fl hb10) rfl ?_ rfl;clear S;intro a S)
          exact Db S rfl rfl rfl hb9 (lv S (Ho (!decide (Ac.Club = Cw)) hb10 (S.tm rfl) rfl) rfl fun a S=>Dl (⟨Keep.refl _ _,S.nf [true,true] rfl (subR rfl)⟩))
        clear S;rintro a w26 ⟨hk24,S⟩
        refine Db S rfl rfl rfl hb9 (Vm S rfl rfl ?_);clear S;intro a S
        obtain ⟨j4,hj4,h⟩:=En h
        refine Gr 5 (fun a w'=>∃ c3,j4 c3 = some r ∧ Keep [] w26 w' ∧ Sx w [] nov [.blk b2 (An.enc (An.mk Ac.Site Ac.No Ac.At Ac.Kind Ac.Who Cw Ac.Race 0 0 Cw 0)) 33,.blk b1 (An.enc Ac) 33] [(1,.pointer (some ⟨b1,0,none⟩)),(3,.pointer (some ⟨b2,0,none⟩)),(67,bV c1),(81,bV c3)] 117 a w') ?_ ?_
        ·rcases Bool.eq_false_or_eq_true ((decide (Ac.Kind = 1)) && (!decide (Ac.Club = Cw))) with hb11 | hb11
         ·replace h:=Nq h hb11
          refine Db S rfl rfl rfl hb11 (Vf Po S rfl rfl fun a S=>Db S rfl rfl rfl hb11 (Vl isAgg9 1 S rfl rfl rfl rfl fun a S=>Db S rfl rfl rfl hb11 ?_))
          obtain ⟨r5,hr5,h⟩:=El h
          refine De S (fun _=>Cy (vs:=[sV Ac.Club]) ⟨(S.tm rfl),trivial⟩ call48) (Mz _ Ac.Club _ hr5) rfl ?_;clear S;intro v9 a w28 hv9 hk25 hn9 S
          subst hv9
          exact Db S rfl rfl rfl hb11 (Vu S Hl rfl rfl fun a S=>Db S rfl rfl rfl hb9 (lv S (Hn hb11 (S.tm rfl) (S.tm rfl)) rfl fun a S=>Dl (⟨_,h,hk25,S.nf [true,true] rfl (subR rfl)⟩)))
         ·replace h:=Nr h hb11
          iterate 4 (refine Gd S rfl rfl rfl (Fl hb11) rfl ?_ rfl;clear S;intro a S)
          exact Db S rfl rfl rfl hb9 (Vq S (Ho true hb11) rfl rfl rfl fun a S=>Dl (⟨_,h,Keep.refl _ _,S.nf [true,true] rfl (subR rfl)⟩))
        clear S h;rintro a w27 ⟨c3,h,hk26,S⟩;rw [hj4] at h;clear hj4 j4
        exact lv S (Kk hb9 (S.tm rfl) (S.tm rfl)) rfl fun a S=>Dl (⟨_,h,(hk24).trans hk26,S.nf [true,true] rfl (subR rfl)⟩)
      clear S h;rintro a w25 ⟨c2,h,hk27,S⟩;rw [hj3] at h;clear hj3 j3
      refine Dl (Fc h (S.tm rfl) (fun hb12 h=>?_) (fun hb12 h=>?_))
      ·refine Fr (Vk S rfl rfl fun a S=>Dl (wp_ret (Dc (Dc ?_))))
       obtain rfl:=Option.some.inj h
       exact Dx S results29 rfl rfl
      ·exact wp_skip (Tn (⟨Ac.Who,Ac.Race,Cw,0,h,S.nf [true,true] rfl (subR rfl)⟩))
    clear S h;rintro a w9 ⟨x1,x2,x3,x4,h,S⟩;rw [hj1] at h;clear hj1 j1
    refine Tn (Fs (Fr (Vf Jm S rfl rfl fun a S=>Vl isAgg3 1 S rfl rfl rfl rfl fun a S=>Vq S Hi rfl rfl rfl fun a S=>Dl ?_)))
    obtain ⟨j5,hj5,h⟩:=En h
    refine Ec (fun a w'=>∃ x5 : ByteArray,j5 x5 = some r ∧ Sx w [] nov [.blk b2 (An.enc (An.mk Ac.Site Ac.No Ac.At Ac.Kind x1 x5 x2 0 0 x3 x4)) 33,.blk b1 (An.enc Ac) 33] [(1,.pointer (some ⟨b1,0,none⟩)),(3,.pointer (some ⟨b2,0,none⟩))] 117 a w') ?_ ?_
    ·refine Fc h (S.tm rfl) (fun hb13 h=>?_) (fun hb13 h=>?_)
     ·refine Fg (Vf Po S rfl rfl fun a S=>Vl isAgg9 1 S rfl rfl rfl rfl fun a S=>Vf Po S rfl rfl fun a S=>Ef S (S.tm rfl) (S.tm rfl) (i:=0) (off:=5) rfl sizeOf9 (vs:=[sV Ac.Club]) rfl rfl rfl rfl ?_);clear S;intro w30 hk28 S
      exact Dl (⟨Ac.Club,h,S.nf [true,true] rfl (subR rfl)⟩)
     ·exact wp_skip (Tn (⟨Cw,h,S.nf [true,true] rfl (subR rfl)⟩))
    clear S h;rintro a w29 ⟨x5,h,S⟩;rw [hj5] at h;clear hj5 j5
    refine Tn (Fs (Fr (Vf Jm S rfl rfl fun a S=>Vl isAgg3 1 S rfl rfl rfl rfl fun a S=>Vq S Hi rfl rfl rfl fun a S=>Vm S rfl rfl fun a S=>Gr 4 (fun a w'=>Keep [] w29 w' ∧ Sx w [] nov [.blk b2 (An.enc (An.mk Ac.Site Ac.No Ac.At Ac.Kind x1 x5 x2 0 0 x3 x4)) 33,.blk b1 (An.enc Ac) 33] [(1,.pointer (some ⟨b1,0,none⟩)),(3,.pointer (some ⟨b2,0,none⟩)),(96,bV ((decide (Ac.Kind = 1)) || (decide (Ac.Kind = 3))))] 117 a w') ?_ ?_)))
    ·rcases Bool.eq_false_or_eq_true (decide (Ac.Kind = 1)) with hb14 | hb14
     ·iterate 3 (refine Gd S rfl rfl rfl (Mn hb14) rfl ?_ rfl;clear S;intro a S)
      exact lv S (Kj (decide (Ac.Kind = 3)) hb14 (S.tm rfl) rfl) rfl fun a S=>Dl (⟨Keep.refl _ _,S.nf [true,true] rfl (subR rfl)⟩)
     ·exact Db S rfl rfl rfl hb14 (Vf Jm S rfl rfl fun a S=>Db S rfl rfl rfl hb14 (Vl isAgg3 1 S rfl rfl rfl rfl fun a S=>Db S rfl rfl rfl hb14 (Vq S Hi rfl rfl rfl fun a S=>lv S (Kk hb14 (S.tm rfl) (S.tm rfl)) rfl fun a S=>Dl (⟨Keep.refl _ _,S.nf [true,true] rfl (subR rfl)⟩))))
    clear S;rintro a w31 ⟨hk29,S⟩
    refine Dl ?_
    obtain ⟨j6,hj6,h⟩:=En h
    refine Ec (fun a w'=>∃ x6 : Int,j6 x6 = some r ∧ Sx w [] nov [.blk b2 (An.enc (An.mk Ac.Site Ac.No Ac.At Ac.Kind x1 x5 x2 x6 0 x3 x4)) 33,.blk b1 (An.enc Ac) 33] [(1,.pointer (some ⟨b1,0,none⟩)),(3,.pointer (some ⟨b2,0,none⟩))] 117 a w') ?_ ?_
    ·refine Fc h (S.tm rfl) (fun hb15 h=>?_) (fun hb15 h=>?_)
     ·refine Fr (Vf Od S rfl rfl fun a S=>Vl isAgg3 1 S rfl rfl rfl rfl fun a S=>Vf Od S rfl rfl fun a S=>Ef S (S.tm rfl) (S.tm rfl) (i:=0) (off:=7) rfl sizeOf3 (vs:=[iV Ac.Time]) rfl rfl rfl rfl ?_);clear S;intro w33 hk30 S
      refine Dz (Vf Od S rfl rfl fun a S=>Vl isAgg3 1 S rfl rfl rfl rfl fun a S=>De S (fun _=>Cy (vs:=[iV Ac.Time,iV 0,iV 360000]) ⟨(S.tm rfl),rfl,rfl,trivial⟩ call49) (Lo _ Ac.Time 0 360000 _ rfl) rfl ?_);clear S;intro v10 a w34 hv10 hk31 hn10 S
      subst hv10
      refine Vu S Hl rfl rfl fun a S=>Dl (Fc h (S.tm rfl) (fun hb16 h=>?_) (fun hb16 h=>?_))
      ·refine Fr (Vk S rfl rfl fun a S=>Dl (wp_ret (Dc (Dc ?_))))
       obtain rfl:=Option.some.inj h
       exact Dx S results29 rfl rfl
      ·exact wp_skip (Tn (⟨Ac.Time,h,S.nf [true,true] rfl (subR rfl)⟩))
     ·exact wp_skip (Tn (⟨0,h,S.nf [true,true] rfl (subR rfl)⟩))
    clear S h;rintro a w32 ⟨x6,h,S⟩;rw [hj6] at h;clear hj6 j6
    refine Tn (Fs (Fr (Vf Jm S rfl rfl fun a S=>Vl isAgg3 1 S rfl rfl rfl rfl fun a S=>Vq S Hi rfl rfl rfl fun a S=>Dl ?_)))
    obtain ⟨j7,hj7,h⟩:=En h
    refine Ec (fun a w'=>∃ x7 : Int,j7 x7 = some r ∧ Sx w [] nov [.blk b2 (An.enc (An.mk Ac.Site Ac.No Ac.At Ac.Kind x1 x5 x2 x6 x7 x3 x4)) 33,.blk b1 (An.enc Ac) 33] [(1,.pointer (some ⟨b1,0,none⟩)),(3,.pointer (some ⟨b2,0,none⟩))] 117 a w') ?_ ?_
    ·refine Fc h (S.tm rfl) (fun hb17 h=>?_) (fun hb17 h=>?_)
     ·refine Fr (Vf Qy S rfl rfl fun a S=>Vl isAgg3 1 S rfl rfl rfl rfl fun a S=>Vf Qy S rfl rfl fun a S=>Ef S (S.tm rfl) (S.tm rfl) (i:=0) (off:=8) rfl sizeOf3 (vs:=[iV Ac.Fault]) rfl rfl rfl rfl ?_);clear S;intro w36 hk32 S
      refine Dz (Vf Qy S rfl rfl fun a S=>Vl isAgg3 1 S rfl rfl rfl rfl fun a S=>De S (fun _=>Cy (vs:=[iV Ac.Fault,iV 0,iV 8]) ⟨(S.tm rfl),rfl,rfl,trivial⟩ call49) (Lo _ Ac.Fault 0 8 _ rfl) rfl ?_);clear S;intro v11 a w37 hv11 hk33 hn11 S
      subst hv11
      refine Vu S Hl rfl rfl fun a S=>Dl (Fc h (S.tm rfl) (fun hb18 h=>?_) (fun hb18 h=>?_))
      ·refine Fr (Vk S rfl rfl fun a S=>Dl (wp_ret (Dc (Dc ?_))))
       obtain rfl:=Option.some.inj h
       exact Dx S results29 rfl rfl
      ·exact wp_skip (Tn (⟨Ac.Fault,h,S.nf [true,true] rfl (subR rfl)⟩))
     ·exact wp_skip (Tn (⟨0,h,S.nf [true,true] rfl (subR rfl)⟩))
    clear S h;rintro a w35 ⟨x7,h,S⟩;rw [hj7] at h;clear hj7 j7
    refine Tn (Fs (Fr (lv S (Ev isAgg33 sizeOf33 (off:=0) (o:=0) (part:=(An.enc Ac)) rfl rfl (S.tm rfl) (S.cellsAt (i:=1) rfl)) rfl fun a S=>lv S (Ev isAgg33 sizeOf33 (off:=0) (o:=0) (part:=(An.enc (An.mk Ac.Site Ac.No Ac.At Ac.Kind x1 x5 x2 x6 x7 x3 x4))) rfl rfl (S.tm rfl) (S.cellsAt (i:=0) rfl)) rfl fun a S=>lv S (Rr (m:=Ac) (n:=(An.mk Ac.Site Ac.No Ac.At Ac.Kind x1 x5 x2 x6 x7 x3 x4)) (S.tm rfl) (S.tm rfl)) rfl fun a S=>Dl (Fc h (S.tm rfl) (fun hb19 h=>?_) (fun hb19 h=>?_)))))
    ·refine Fr (Vk S rfl rfl fun a S=>Dl (wp_ret (Dc ?_)))
     obtain rfl:=Option.some.inj h
     exact Dx S results29 rfl rfl
    ·refine wp_skip (Tn (Fr (Vk S rfl rfl fun a S=>Dl (wp_ret ?_))))
     obtain rfl:=Option.some.inj h
     exact Dx S results29 rfl rfl
theorem Qo (w : World) (Am : An) (Ao : An) (r : Bool) (h : Ls Am Ao = r) :
    Calls prog 32 [.agg (An.enc Am).toArray,.agg (An.enc Ao).toArray].toArray w (Ret w [] fun _ v _=>v = bV r):=by
 refine Fe func32 rfl ntmps32 rfl fun a S=>?_
 unfold Ls at h
 replace S:=S.k2 0 1 rfl
 refine Fr (Kw S (S.tm rfl) (cs:=(An.enc Am)) rfl rfl ?_);clear S;intro a w1 b1 hz1 hk1 S
 refine Kw S (S.tm rfl) (cs:=(An.enc Ao)) rfl rfl ?_;clear S;intro a w2 b2 hz2 hk2 S
 refine Vk S rfl rfl fun a S=>Dz (Vf Ih S rfl rfl fun a S=>Vl isAgg9 1 S rfl rfl rfl rfl fun a S=>Vf Ih S rfl rfl fun a S=>Vl isAgg9 0 S rfl rfl rfl rfl fun a S=>Vb S Pl rfl rfl rfl fun a S=>Vm S rfl rfl ?_);clear S;intro a S
 refine Gr 6 (fun a w'=>Keep [] w2 w' ∧ Sx w [] nov [.blk b2 (An.enc Ao) 33,.blk b1 (An.enc Am) 33] [(16,bV ((decide (Am.Site = Ao.Site)) && (decide (Am.No = Ao.No))))] 17 a w') ?_ ?_
 ·rcases Bool.eq_false_or_eq_true (decide (Am.Site = Ao.Site)) with hb1 | hb1
  ·refine Db S rfl rfl rfl hb1 (Vf Hd S rfl rfl fun a S=>Db S rfl rfl rfl hb1 (Vl isAgg3 1 S rfl rfl rfl rfl fun a S=>Db S rfl rfl rfl hb1 (Vf Hd S rfl rfl fun a S=>Db S rfl rfl rfl hb1 (Vl isAgg3 0 S rfl rfl rfl rfl fun a S=>Db S rfl rfl rfl hb1 (Vb S Hi rfl rfl rfl fun a S=>lv S (Hn hb1 (S.tm rfl) (S.tm rfl)) rfl ?_)))));clear S;intro a S
   exact Dl (⟨Keep.refl _ _,S.nf [true,true] rfl ⟨rfl,trivial⟩⟩)
  ·iterate 5 (refine Gd S rfl rfl rfl (Fl hb1) rfl ?_ rfl;clear S;intro a S)
   exact lv S (Ho (decide (Am.No = Ao.No)) hb1 (S.tm rfl) rfl) rfl fun a S=>Dl (⟨Keep.refl _ _,S.nf [true,true] rfl ⟨rfl,trivial⟩⟩)
 clear S;rintro a w3 ⟨hk3,S⟩
 refine Va S rfl rfl fun a S=>Dl (wp_ret ?_)
 subst h
 exact Dx S results32 rfl rfl
theorem Qr (w : World) (Ch : An) (Ap : Nat) (Ag : An) (Ah : (view w []) Ap = some (.cells [sV Ag.Site,iV Ag.No,iV Ag.At,iV Ag.Kind,sV Ag.Who,sV Ag.Club,sV Ag.Race,iV Ag.Time,iV Ag.Fault,sV Ag.Of,iV Ag.Other].toArray 33 (0,0))) (r : Bool) (h : Ka Ch Ag = r) :
    Calls prog 31 [.agg (An.enc Ch).toArray,.pointer (some ⟨Ap,0,none⟩)].toArray w (Ret w [] fun _ v _=>v = bV r):=by
 refine Fe func31 rfl ntmps31 rfl fun a S=>?_
 unfold Ka at h
 replace S:=S.k2 0 1 rfl
 refine Fr (Kw S (S.tm rfl) (cs:=(An.enc Ch)) rfl rfl ?_);clear S;intro a w1 b1 hz1 hk1 S
 refine Vk S rfl rfl fun a S=>Dz (lv S (Ev isAgg33 sizeOf33 (off:=0) (o:=0) (part:=(An.enc Ch)) rfl rfl (S.tm rfl) (S.cellsAt (i:=0) rfl)) rfl fun a S=>lv S (Ev isAgg33 sizeOf33 (off:=0) (o:=0) (part:=(An.enc Ag)) rfl rfl (S.tm rfl) ((Gw Ah).at S.emb0)) rfl fun a S=>De S (fun _=>Cy (vs:=[.agg (An.enc Ch).toArray,.agg (An.enc Ag).toArray]) ⟨(S.tm rfl),(S.tm rfl),trivial⟩ call32) (Qo _ Ch Ag _ rfl) rfl ?_);clear S;intro v1 a w2 hv1 hk2 hn1 S
 subst hv1
 refine Va S rfl rfl fun a S=>Dl (wp_ret ?_)
 subst h
 exact Dx S results31 rfl rfl
theorem Ly (w : World) (Aq : Value) (As : List An) (Bh : Slc (view w []) 11 Aq (As.map An.enc)) (Av : Nat) (Ai : An) (Bk : (view w []) Av = some (.cells [sV Ai.Site,iV Ai.No,iV Ai.At,iV Ai.Kind,sV Ai.Who,sV Ai.Club,sV Ai.Race,iV Ai.Time,iV Ai.Fault,sV Ai.Of,iV Ai.Other].toArray 33 (0,0))) (r : Int) (h : Ht As Ai = r) :
    Calls prog 40 [Aq,.func (.func 31) #[] #[.pointer (some ⟨Av,0,none⟩)]].toArray w (Ret w [] fun _ v _=>v = iV r):=by
 refine Fe func40 rfl ntmps40 rfl fun a S=>?_
 unfold Ht at h
 replace S:=S.k2 0 1 rfl
 refine Fr (Vk S rfl rfl fun a S=>Dl (Fs (Fr (Vm S rfl rfl fun a S=>lv S (Fd Es (S.tm rfl) (Fb Bh)) rfl fun a S=>lv S (Rm rfl) rfl ?_))));clear S;intro a S
 refine Dl ?_
 replace S:=S.k4 0 1 7 8 rfl
 obtain ⟨j1,hj1,h⟩:=En h
 refine Ec (fun a w'=>j1 = r ∧ Sx w [] nov [] [] 19 a w') ?_ ?_
 ·refine wp_block (Hx (fun (ys1 : List An) a w'=>∃ i1 : Nat,(∃ dn,As = dn ++ ys1 ∧ dn.length = i1) ∧ Dk Ai j1 ys1 i1 = r ∧ Sx w [] nov [] [(0,Aq),(1,.func (.func 31) #[] #[.pointer (some ⟨Av,0,none⟩)]),(7,iV (As.length : Int)),(8,iV (i1 : Int))] 19 a w') List.length As ⟨0,⟨[],rfl,rfl⟩,h,S.nf [] rfl (subR rfl)⟩ ?_)
  clear S h;rintro ys1 a w1 ⟨i1,⟨dn,hd1,hi1⟩,h,S⟩
  cases ys1 with
  | nil =>
   rw [Dk.eq_1] at h
   refine Fr (Vb S Fa rfl rfl rfl fun a S=>Ld ?_)
   replace S:=S.k5 0 1 7 8 9 rfl
   exact Tn (Fs (wp_cond_false ((S.tm rfl).trans (congrArg Value.bool (Jk hd1 hi1))) (wp_exit (Et (Et (Hp (Tn (⟨h,S.nf [] rfl trivial⟩))))))))
  | cons y1 ys1 =>
   rw [Dk.eq_2] at h
   refine Fr (Vb S Fa rfl rfl rfl fun a S=>Ld ?_)
   replace S:=S.k5 0 1 7 8 9 rfl
   refine Tn (Fs (wp_cond_true ((S.tm rfl).trans (congrArg Value.bool (Hy hd1 hi1))) (wp_skip (Tn (Fs (wp_block (Fr (Vm S rfl rfl fun a S=>Va S rfl rfl ?_))))))));clear S;intro a S
   refine Dl (Fs (Fg ?_))
   iterate 3 (refine Vm S rfl rfl ?_;clear S;intro a S)
   obtain ⟨b1,o1,hm1,hr1⟩:=Dt (a:=a) (x:=.tmp 12) (y:=.tmp 13) (ty:=0) Es Bh (Jp hd1 hi1) rfl (S.tm rfl) (S.tm rfl)
   refine lv S (hr1 _) rfl ?_;clear S;intro a S
   clear hr1
   refine lv S (Ev isAgg33 sizeOf33 (off:=o1) (o:=0) (part:=(An.enc y1)) rfl rfl (S.tm rfl) (hm1.at S.emb0)) rfl fun a S=>De S (fun _=>Md (cap:=[.pointer (some ⟨Av,0,none⟩)]) (S.tm rfl) (vs:=[.agg (An.enc y1).toArray]) ⟨(S.tm rfl),trivial⟩ call31) (Qr _ y1 Av Ai ((S.le_arg Dj) _ _ Bk) _ rfl) rfl ?_;clear S;intro v1 a w3 hv1 hk1 hn1 S
   subst hv1
   refine Dl (Fc h (S.tm rfl) (fun hb1 h=>?_) (fun hb1 h=>?_))
   ·refine Fr (Vm S rfl rfl fun a S=>Va S rfl rfl fun a S=>Ld ?_)
    replace S:=S.k1 4 rfl
    refine Tn (wp_ret (Gg (Dc (Dc (Gg (Dc (Dc ?_)))))))
    subst h
    exact Dx S results40 rfl rfl
   ·exact wp_skip (Ia (Tn (Fg (Vq S Ge rfl rfl rfl fun a S=>Vm S rfl rfl fun a S=>Dl (⟨ys1,⟨i1 + 1,⟨_,(hd1).trans (List.append_cons _ _ _),by simp [hi1]⟩,h,S.nf [] rfl ⟨rfl,rfl,rfl,(congrArg (fun z=>some (Value.int .i64 z)) (Hz hd1 hi1 (Iz Bh))),trivial⟩⟩,Nat.lt_succ_self _⟩)))))
 clear S h;rintro a w2 ⟨h,S⟩;rw [hj1] at h;clear hj1 j1
 refine Tn (Fr (Vk S rfl rfl fun a S=>Dl (wp_ret ?_)))
 subst h
 exact Dx S results40 rfl rfl
theorem Lp (w : World) (Aq : Value) (As : List An) (Bh : Slc (view w []) 11 Aq (As.map An.enc)) (Av : Nat) (Ai : An) (Bk : (view w []) Av = some (.cells [sV Ai.Site,iV Ai.No,iV Ai.At,iV Ai.Kind,sV Ai.Who,sV Ai.Club,sV Ai.Race,iV Ai.Time,iV Ai.Fault,sV Ai.Of,iV Ai.Other].toArray 33 (0,0))) (r : Bool) (h : Gh As Ai = r) :
    Calls prog 30 [Aq,.func (.func 31) #[] #[.pointer (some ⟨Av,0,none⟩)]].toArray w (Ret w [] fun _ v _=>v = bV r):=by
 refine Fe func30 rfl ntmps30 rfl fun a S=>?_
 unfold Gh at h
 replace S:=S.k2 0 1 rfl
 refine Fr (Vk S rfl rfl fun a S=>Dz (Vm S rfl rfl fun a S=>Vm S rfl rfl fun a S=>De S (fun _=>Cy (vs:=[Aq,.func (.func 31) #[] #[.pointer (some ⟨Av,0,none⟩)]]) ⟨(S.tm rfl),(S.tm rfl),trivial⟩ call40) (Ly _ Aq As (Bh.mono (S.le_arg Dj)) Av Ai ((S.le_arg Dj) _ _ Bk) _ rfl) rfl ?_));clear S;intro v1 a w1 hv1 hk1 hn1 S
 subst hv1
 refine Vq S Nk rfl rfl rfl fun a S=>Va S rfl rfl fun a S=>Dl (wp_ret ?_)
 subst h
 exact Dx S results30 rfl rfl
set_option maxRecDepth 20000 in
theorem Pc (w : World) (Aa : Value) (Ae : List An) (Ad : Slc (view w []) 11 Aa (Ae.map An.enc)) (r : Int) (h : Il Ae = some r) :
    Calls prog 10 [Aa].toArray w (Ret w [] fun _ v _=>v = iV r):=by
 refine Fe func10 rfl ntmps10 rfl fun a S=>?_
 unfold Il at h
 replace S:=S.k1 0 rfl
 refine Fr (Vk S rfl rfl fun a S=>Dl (Fs (Fr (Vm S rfl rfl fun a S=>lv S (Fd Es (S.tm rfl) (Fb Ad)) rfl fun a S=>Vq S Jn rfl rfl rfl ?_))));clear S;intro a S
 refine Dl (Fc h (S.tm rfl) (fun hb1 h=>?_) (fun hb1 h=>?_))
 ·refine Fr (Vk S rfl rfl fun a S=>Dl (wp_ret (Dc ?_)))
  obtain rfl:=Option.some.inj h
  exact Dx S results10 rfl rfl
 ·refine wp_skip (Tn (Fs (Fr (Vm S rfl rfl fun a S=>lv S (Fd Es (S.tm rfl) (Fb Ad)) rfl fun a S=>lv S (Rm rfl) rfl fun a S=>Dl ?_))))
  replace S:=S.k4 0 11 12 13 rfl
  obtain ⟨j1,hj1,h⟩:=En h
  refine Ec (fun a w'=>j1 = some r ∧ Sx w [] nov [] [(0,Aa)] 49 a w') ?_ ?_
  ·refine wp_block (Hx (fun (ys1 : List An) a w'=>∃ i1 : Nat,(∃ dn,Ae = dn ++ ys1 ∧ dn.length = i1) ∧ Fk Ae j1 ys1 i1 = some r ∧ Sx w [] nov [] [(0,Aa),(11,Aa),(12,iV (Ae.length : Int)),(13,iV (i1 : Int))] 49 a w') List.length Ae ⟨0,⟨[],rfl,rfl⟩,h,S.nf [] rfl (subR rfl)⟩ ?_)
   clear S h;rintro ys1 a w1 ⟨i1,⟨dn,hd1,hi1⟩,h,S⟩
   cases ys1 with
   | nil =>
    rw [Fk.eq_1] at h
    refine Fr (Vb S Fa rfl rfl rfl fun a S=>Ld ?_)
    replace S:=S.k5 0 11 12 13 14 rfl
    exact Tn (Fs (wp_cond_false ((S.tm rfl).trans (congrArg Value.bool (Jk hd1 hi1))) (wp_exit (Et (Et (Hp (Tn (⟨h,S.nf [] rfl ⟨rfl,trivial⟩⟩))))))))
   | cons y1 ys1 =>
    rw [Fk.eq_2] at h
    refine Fr (Vb S Fa rfl rfl rfl fun a S=>Ld ?_)
    replace S:=S.k5 0 11 12 13 14 rfl
    refine Tn (Fs (wp_cond_true ((S.tm rfl).trans (congrArg Value.bool (Hy hd1 hi1))) (wp_skip (Tn (Fs (wp_block (Fr (Vm S rfl rfl ?_))))))));clear S;intro a S
    obtain ⟨b1,o1,hm1,hr1⟩:=Dt (a:=a) (x:=.tmp 11) (y:=.tmp 13) (ty:=0) Es Ad (Jp hd1 hi1) rfl (S.tm rfl) (S.tm rfl)
    refine lv S (hr1 _) rfl ?_;clear S;intro a S
    clear hr1
    refine lv S (Ev isAgg33 sizeOf33 (off:=o1) (o:=0) (part:=(An.enc y1)) rfl rfl (S.tm rfl) (hm1.at S.emb0)) rfl fun a S=>It S zeroValue33 (cs:=[sV Cw,iV 0,iV 0,iV 0,sV Cw,sV Cw,sV Cw,iV 0,iV 0,sV Cw,iV 0]) rfl rfl ?_;clear S;intro a w3 b2 hz1 hk1 S
    refine Va S rfl rfl fun a S=>Ef S (S.tm rfl) (S.tm rfl) (i:=0) (off:=0) rfl sizeOf33 (vs:=(An.enc y1)) rfl rfl rfl rfl ?_;clear S;intro w4 hk2 S
    refine Dl (Fs (Fr (lv S (Ev isAgg33 sizeOf33 (off:=0) (o:=0) (part:=(An.enc y1)) rfl rfl (S.tm rfl) (S.cellsAt (i:=0) rfl)) rfl ?_)));clear S;intro a S
    obtain ⟨r1,hr2,h⟩:=El h
    refine De S (fun _=>Cy (vs:=[.agg (An.enc y1).toArray]) ⟨(S.tm rfl),trivial⟩ call29) (Pf _ y1 _ hr2) rfl ?_;clear S;intro v1 a w5 hv1 hk3 hn1 S
    subst hv1
    refine Va S rfl rfl fun a S=>Dz (Vm S rfl rfl fun a S=>Vq S Io rfl rfl rfl fun a S=>Ld ?_)
    replace S:=(S.nl [.blk b2 (An.enc y1) 33] [true] rfl).k8 0 3 4 5 11 12 13 21 rfl
    refine Tn (Fc h (S.tm rfl) (fun hb2 h=>?_) (fun hb2 h=>?_))
    ·refine Fr (Vm S rfl rfl fun a S=>Va S rfl rfl fun a S=>Dl (wp_ret (Dc (Gg (Dc (Dc ?_))))))
     refine Gg (Dc (Dc ?_))
     obtain rfl:=Option.some.inj h
     exact Dx S results10 rfl rfl
    ·refine wp_skip (Tn (Fs ?_))
     obtain ⟨j2,hj2,h⟩:=En h
     refine Ec (fun a w'=>∃ x1 : Bool,j2 x1 = some r ∧ Sx w [] nov [] [(0,Aa),(11,Aa),(12,iV (Ae.length : Int)),(13,iV (i1 : Int)),(34,bV x1)] 49 a w') ?_ ?_
     ·rcases Bool.eq_false_or_eq_true (decide (0 < (i1 : Int))) with hb3 | hb3
      ·replace h:=Nq h hb3
       obtain ⟨hc1,h⟩:=Hw h
       refine Fm [] ([]) Tryz.mixed S rfl (by kernel_rfl) ?_;clear S;intro w8 hk5 hsel S
       refine Da 0 S hsel rfl rfl rfl (by kernel_rfl) (by kernel_rfl) rfl (fun _ hw=>(Rm (S.tm rfl))) fun a S=>Da 1 S hsel rfl rfl rfl (by kernel_rfl) (by kernel_rfl) rfl (fun _ hw=>(Jn (S.tm rfl) rfl)) fun a S=>Da 2 S hsel rfl rfl rfl (by kernel_rfl) (by kernel_rfl) rfl (fun _ hw=>(Rm (S.tm rfl))) fun a S=>Df 3 S hsel rfl rfl rfl rfl hb3 rfl rfl (by kernel_rfl) (by kernel_rfl) rfl (fun _ hw=>(Rm (S.tm rfl))) fun a S=>Df 4 S hsel rfl rfl rfl rfl hb3 rfl rfl (by kernel_rfl) (by kernel_rfl) rfl (fun _ hw=>(Rm (S.tm rfl))) fun a S=>Df 5 S hsel rfl rfl rfl rfl hb3 rfl rfl (by kernel_rfl) (by kernel_rfl) rfl (fun _ hw=>(Kh (S.tm rfl) rfl)) ?_;clear S;intro a S
       obtain ⟨b4,o3,hm3,hr4⟩:=Dt (a:=a) (x:=.tmp 26) (y:=.tmp 28) (ty:=0) Es (Ad.mono (S.le_arg Dj)) (Dg hc1).1 (Dg hc1).2 (S.tm rfl) (S.tm rfl)
       refine Df 6 S hsel rfl rfl rfl rfl hb3 rfl rfl (by kernel_rfl) (by kernel_rfl) rfl (fun _ hw=>hr4 _) ?_;clear S;intro a S
       clear hr4
       refine Df 7 S hsel rfl rfl rfl rfl hb3 rfl rfl (by kernel_rfl) (by kernel_rfl) rfl (fun _ hw=>(Ev isAgg33 sizeOf33 (off:=o3) (o:=0) (part:=(An.enc (nth Ae (W ((i1 : Int) - 1))))) rfl rfl (S.tm rfl) (hm3.kept hw))) fun a S=>Df 8 S hsel rfl rfl rfl rfl hb3 rfl rfl (by kernel_rfl) (by kernel_rfl) rfl (fun _ hw=>(Ev isAgg33 sizeOf33 (off:=0) (o:=0) (part:=(An.enc y1)) rfl rfl (S.tm rfl) ((S.blk_mem (i:=0) (cells:=(An.enc y1)) (b:=b2) (T:=33) rfl (Gs (e':=.blk b2 (An.enc y1) 33))).kept hw))) fun a S=>Ey 9 (by kernel_rfl) rfl (Db S rfl rfl rfl hb3 (De S (fun _=>Cy (vs:=[.agg (An.enc (nth Ae (W ((i1 : Int) - 1)))).toArray,.agg (An.enc y1).toArray]) ⟨(S.tm rfl),(S.tm rfl),trivial⟩ call27) (tumbref2_DeedOrder_ok _ (nth Ae (W ((i1 : Int) - 1))) y1 _ rfl) rfl ?_));clear S;intro v3 a w9 hv3 hk6 hn3 S
       subst hv3
       refine Ld (Fz hk6 (Ip [10,11] hsel (by kernel_rfl) rfl ?_))
       clear hsel
       refine Gt S rfl rfl rfl rfl hb3 (Hv S (Nk (S.tm rfl) rfl) rfl fun a S=>Er S rfl (Ix hb3 (S.tm rfl) (S.tm rfl)) rfl fun a S=>Iq ?_)
       replace S:=S.n0.k13 0 11 12 13 26 27 28 29 30 31 32 33 34 rfl
       exact Tn (⟨decide (0 ≤ (Ea (nth Ae (W ((i1 : Int) - 1))) y1)),h,S.nf [] rfl (subR rfl)⟩)
      ·replace h:=Nr h hb3
       refine Fm [] ([]) Tryz.mixed S rfl (by kernel_rfl) ?_;clear S;intro w10 hk7 hsel S
       refine Ip [0,1,2,3,4,5,6,7,8,9,10,11] hsel (by kernel_rfl) rfl ?_
       clear hsel
       refine Er S rfl (Rm (S.tm rfl)) rfl fun a S=>Er S rfl (Jn (S.tm rfl) rfl) rfl fun a S=>Er S rfl (Rm (S.tm rfl)) rfl ?_;clear S;intro a S
       iterate 8 (refine Oi S rfl rfl rfl rfl (Fl hb3) rfl ?_ rfl;clear S;intro a S)
       refine Er S rfl (Iy hb3 (S.tm rfl) rfl) rfl fun a S=>Iq ?_
       replace S:=S.n0.k5 0 11 12 13 34 rfl
       exact Tn (⟨false,h,S.nf [] rfl (subR rfl)⟩)
     clear S h;rintro a w6 ⟨x1,h,S⟩;rw [hj2] at h;clear hj2 j2
     refine Tn (Fc h (S.tm rfl) (fun hb4 h=>?_) (fun hb4 h=>?_))
     ·refine Fr (Vk S rfl rfl fun a S=>Dl (wp_ret (Gg (Dc (Dc (Gg (Dc ?_)))))))
      refine Dc ?_
      obtain rfl:=Option.some.inj h
      exact Dx S results10 rfl rfl
     ·exact wp_skip (Ia (Tn (Fg (Vq S Ge rfl rfl rfl fun a S=>Vm S rfl rfl fun a S=>Dl (⟨ys1,⟨i1 + 1,⟨_,(hd1).trans (List.append_cons _ _ _),by simp [hi1]⟩,h,S.nf [] rfl ⟨rfl,rfl,rfl,(congrArg (fun z=>some (Value.int .i64 z)) (Hz hd1 hi1 (Iz Ad))),trivial⟩⟩,Nat.lt_succ_self _⟩)))))
  clear S h;rintro a w2 ⟨h,S⟩;rw [hj1] at h;clear hj1 j1
  refine Tn (Fs (Fr (Vm S rfl rfl fun a S=>lv S (Fd Es (S.tm rfl) (Fb Ad)) rfl fun a S=>lv S (Rm rfl) rfl fun a S=>Dl ?_)))
  replace S:=S.k4 0 36 37 38 rfl
  obtain ⟨j3,hj3,h⟩:=En h
  refine Ec (fun a w'=>j3 = some r ∧ Sx w [] nov [] [] 49 a w') ?_ ?_
  ·refine wp_block (Hx (fun (ys2 : List An) a w'=>∃ i2 : Nat,(∃ dn,Ae = dn ++ ys2 ∧ dn.length = i2) ∧ Ga Ae j3 ys2 i2 = some r ∧ Sx w [] nov [] [(0,Aa),(36,Aa),(37,iV (Ae.length : Int)),(38,iV (i2 : Int))] 49 a w') List.length Ae ⟨0,⟨[],rfl,rfl⟩,h,S.nf [] rfl (subR rfl)⟩ ?_)
   clear S h;rintro ys2 a w11 ⟨i2,⟨dn,hd2,hi2⟩,h,S⟩
   cases ys2 with
   | nil =>
    rw [Ga.eq_1] at h
    refine Fr (Vb S Fa rfl rfl rfl fun a S=>Ld ?_)
    replace S:=S.k5 0 36 37 38 39 rfl
    exact Tn (Fs (wp_cond_false ((S.tm rfl).trans (congrArg Value.bool (Jk hd2 hi2))) (wp_exit (Et (Et (Hp (Tn (⟨h,S.nf [] rfl trivial⟩))))))))
   | cons y2 ys2 =>
    rw [Ga.eq_2] at h
    refine Fr (Vb S Fa rfl rfl rfl fun a S=>Ld ?_)
    replace S:=S.k5 0 36 37 38 39 rfl
    refine Tn (Fs (wp_cond_true ((S.tm rfl).trans (congrArg Value.bool (Hy hd2 hi2))) (wp_skip (Tn (Fs (wp_block (Fr (Vm S rfl rfl ?_))))))));clear S;intro a S
    obtain ⟨b5,o4,hm4,hr5⟩:=Dt (a:=a) (x:=.tmp 36) (y:=.tmp 38) (ty:=0) Es Ad (Jp hd2 hi2) rfl (S.tm rfl) (S.tm rfl)
    refine lv S (hr5 _) rfl ?_;clear S;intro a S
    clear hr5
    refine lv S (Ev isAgg33 sizeOf33 (off:=o4) (o:=0) (part:=(An.enc y2)) rfl rfl (S.tm rfl) (hm4.at S.emb0)) rfl fun a S=>It S zeroValue33 (cs:=[sV Cw,iV 0,iV 0,iV 0,sV Cw,sV Cw,sV Cw,iV 0,iV 0,sV Cw,iV 0]) rfl rfl ?_;clear S;intro a w13 b6 hz2 hk8 S
    refine Va S rfl rfl fun a S=>Ef S (S.tm rfl) (S.tm rfl) (i:=0) (off:=0) rfl sizeOf33 (vs:=(An.enc y2)) rfl rfl rfl rfl ?_;clear S;intro w14 hk9 S
    refine Dz (Vm S rfl rfl fun a S=>Vm S rfl rfl ?_);clear S;intro a S
    obtain ⟨hc2,h⟩:=Hw h
    obtain ⟨v4,hs1,hr6⟩:=AL (a:=a) (x:=.tmp 43) (y':=.tmp 44) (ty:=26) Es Ad (S.tm rfl) (S.tm rfl) hc2
    refine lv S (hr6 _) rfl ?_;clear S;intro a S
    clear hr6
    refine lv S (Ok (us:=#[]) (xs:=[].toArray) (ys:=[.tmp 7].toArray) (by simp) (evA ⟨(S.tm rfl),trivial⟩ (vs:=[.pointer (some ⟨b6,0,none⟩)]))) rfl fun a S=>De S (fun _=>Cy (vs:=[v4,.func (.func 31) #[] #[.pointer (some ⟨b6,0,none⟩)]]) ⟨(S.tm rfl),(S.tm rfl),trivial⟩ call30) (Lp _ v4 (cut Ae 0 (i2 : Int)) (hs1.mono (S.le_arg Dj)) b6 y2 (S.blk_view (i:=0) rfl ((Gs (e':=.blk b6 (An.enc y2) 33)) _ rfl)) _ rfl) rfl ?_;clear S;intro v5 a w15 hv4 hk10 hn4 S
    subst hv4
    refine Ld ?_
    replace S:=S.n0.k5 0 36 37 38 47 rfl
    refine Tn (Fc h (S.tm rfl) (fun hb5 h=>?_) (fun hb5 h=>?_))
    ·refine Fr (Vk S rfl rfl fun a S=>Dl (wp_ret (Gg (Dc (Dc (Gg (Dc ?_)))))))
     refine Dc ?_
     obtain rfl:=Option.some.inj h
     exact Dx S results10 rfl rfl
    ·exact wp_skip (Ia (Tn (Fg (Vq S Ge rfl rfl rfl fun a S=>Vm S rfl rfl fun a S=>Dl (⟨ys2,⟨i2 + 1,⟨_,(hd2).trans (List.append_cons _ _ _),by simp [hi2]⟩,h,S.nf [] rfl ⟨rfl,rfl,rfl,(congrArg (fun z=>some (Value.int .i64 z)) (Hz hd2 hi2 (Iz Ad))),trivial⟩⟩,Nat.lt_succ_self _⟩)))))
  clear S h;rintro a w12 ⟨h,S⟩;rw [hj3] at h;clear hj3 j3
  refine Tn (Fr (Vk S rfl rfl fun a S=>Dl (wp_ret ?_)))
  obtain rfl:=Option.some.inj h
  exact Dx S results10 rfl rfl
theorem Wl (w : World) (s c : ByteArray) (r : ByteArray) (h : Ov s c = some r) : Calls prog 75 [.string s,.string c].toArray w (Ret w [] fun _ v _=>v = .string r):=by
  unfold Ov at h
  obtain ⟨h1,h⟩:=Hw h
  obtain ⟨h2,h⟩:=Hw h
  obtain ⟨h3,h⟩:=Hw h
  obtain rfl:=Option.some.inj h
  exact Zp (Any.strings_Trim_laid Tryz.lays160 (by kernel_rfl) s c w (by simpa using h1) (by simpa using h2) (fun j b hb=>by simpa using List.all_eq_true.1 h3 b (List.mem_of_getElem? hb)))
theorem Ml (w : World) (As : ByteArray) (r : Bool) (h : Im As = some r) :
    Calls prog 56 [sV As].toArray w (Ret w [] fun _ v _=>v = bV r):=by
 refine Fe func56 rfl ntmps56 rfl fun a S=>?_
 unfold Im at h
 replace S:=S.k1 0 rfl
 refine Fr (Vk S rfl rfl fun a S=>Dz (Vm S rfl rfl fun a S=>Vu S (Sd underlying9) rfl rfl fun a S=>Vq S Nk rfl rfl rfl fun a S=>Vm S rfl rfl ?_));clear S;intro a S
 refine Gr 4 (fun a w'=>Keep [] w w' ∧ Sx w [] nov [] [(0,sV As),(10,bV ((decide (1 ≤ (As.size : Int))) && (decide ((As.size : Int) ≤ 40))))] 26 a w') ?_ ?_
 ·rcases Bool.eq_false_or_eq_true (decide (1 ≤ (As.size : Int))) with hb1 | hb1
  ·exact Db S rfl rfl rfl hb1 (Vm S rfl rfl fun a S=>Db S rfl rfl rfl hb1 (Vu S (Sd underlying9) rfl rfl fun a S=>Db S rfl rfl rfl hb1 (Vq S Sa rfl rfl rfl fun a S=>lv S (Hn hb1 (S.tm rfl) (S.tm rfl)) rfl fun a S=>Dl (⟨Keep.refl _ _,S.nf [] rfl (subR rfl)⟩))))
  ·iterate 3 (refine Gd S rfl rfl rfl (Fl hb1) rfl ?_ rfl;clear S;intro a S)
   exact lv S (Ho (decide ((As.size : Int) ≤ 40)) hb1 (S.tm rfl) rfl) rfl fun a S=>Dl (⟨Keep.refl _ _,S.nf [] rfl (subR rfl)⟩)
 clear S;rintro a w1 ⟨hk1,S⟩
 refine Vm S rfl rfl ?_;clear S;intro a S
 obtain ⟨j1,hj1,h⟩:=En h
 refine Gr 4 (fun a w'=>∃ c1,j1 c1 = some r ∧ Keep [] w1 w' ∧ Sx w [] nov [] [(0,sV As),(15,bV c1)] 26 a w') ?_ ?_
 ·rcases Bool.eq_false_or_eq_true ((decide (1 ≤ (As.size : Int))) && (decide ((As.size : Int) ≤ 40))) with hb2 | hb2
  ·replace h:=Nq h hb2
   refine Db S rfl rfl rfl hb2 (Vm S rfl rfl fun a S=>Db S rfl rfl rfl hb2 ?_)
   obtain ⟨hc1,h⟩:=Hw h
   exact lv S (Qi underlying9 (S.tm rfl) rfl hc1) rfl fun a S=>Db S rfl rfl rfl hb2 (Vq S Nk rfl rfl rfl fun a S=>lv S (Hn hb2 (S.tm rfl) (S.tm rfl)) rfl fun a S=>Dl (⟨_,h,Keep.refl _ _,S.nf [] rfl (subR rfl)⟩))
  ·replace h:=Nr h hb2
   iterate 3 (refine Gd S rfl rfl rfl (Fl hb2) rfl ?_ rfl;clear S;intro a S)
   exact Vq S (Ho true hb2) rfl rfl rfl fun a S=>Dl (⟨_,h,Keep.refl _ _,S.nf [] rfl (subR rfl)⟩)
 clear S h;rintro a w2 ⟨c1,h,hk2,S⟩;rw [hj1] at h;clear hj1 j1
 refine Vm S rfl rfl ?_;clear S;intro a S
 obtain ⟨j2,hj2,h⟩:=En h
 refine Gr 4 (fun a w'=>∃ c2,j2 c2 = some r ∧ Keep [] w2 w' ∧ Sx w [] nov [] [(0,sV As),(20,bV c2)] 26 a w') ?_ ?_
 ·rcases Bool.eq_false_or_eq_true c1 with hb3 | hb3
  ·replace h:=Nq h hb3
   refine Db S rfl rfl rfl hb3 (Vm S rfl rfl fun a S=>Db S rfl rfl rfl hb3 ?_)
   obtain ⟨hc2,h⟩:=Hw h
   exact lv S (Qi underlying9 (S.tm rfl) rfl hc2) rfl fun a S=>Db S rfl rfl rfl hb3 (Vq S Sa rfl rfl rfl fun a S=>lv S (Hn hb3 (S.tm rfl) (S.tm rfl)) rfl fun a S=>Dl (⟨_,h,Keep.refl _ _,S.nf [] rfl (subR rfl)⟩))
  ·replace h:=Nr h hb3
   iterate 3 (refine Gd S rfl rfl rfl (Fl hb3) rfl ?_ rfl;clear S;intro a S)
   exact Vq S (Ho true hb3) rfl rfl rfl fun a S=>Dl (⟨_,h,Keep.refl _ _,S.nf [] rfl (subR rfl)⟩)
 clear S h;rintro a w3 ⟨c2,h,hk3,S⟩;rw [hj2] at h;clear hj2 j2
 refine Vm S rfl rfl ?_;clear S;intro a S
 obtain ⟨j3,hj3,h⟩:=En h
 refine Gr 4 (fun a w'=>∃ c3,j3 c3 = some r ∧ Keep [] w3 w' ∧ Sx w [] nov [] [(25,bV c3)] 26 a w') ?_ ?_
 ·rcases Bool.eq_false_or_eq_true c2 with hb4 | hb4
  ·replace h:=Nq h hb4
   refine Db S rfl rfl rfl hb4 (Vm S rfl rfl fun a S=>Db S rfl rfl rfl hb4 ?_)
   obtain ⟨r1,hr1,h⟩:=El h
   refine De S (fun _=>Cy (vs:=[sV As,sV Fj]) ⟨(S.tm rfl),rfl,trivial⟩ call75) (Wl _ As Fj _ hr1) rfl ?_;clear S;intro v1 a w5 hv1 hk4 hn1 S
   subst hv1
   exact Db S rfl rfl rfl hb4 (Vq S Pl rfl rfl rfl fun a S=>lv S (Hn hb4 (S.tm rfl) (S.tm rfl)) rfl fun a S=>Dl (⟨_,h,hk4,S.nf [] rfl ⟨rfl,trivial⟩⟩))
  ·replace h:=Nr h hb4
   iterate 3 (refine Gd S rfl rfl rfl (Fl hb4) rfl ?_ rfl;clear S;intro a S)
   exact Vq S (Ho true hb4) rfl rfl rfl fun a S=>Dl (⟨_,h,Keep.refl _ _,S.nf [] rfl ⟨rfl,trivial⟩⟩)
 clear S h;rintro a w4 ⟨c3,h,hk5,S⟩;rw [hj3] at h;clear hj3 j3
 refine Va S rfl rfl fun a S=>Dl (wp_ret ?_)
 obtain rfl:=Option.some.inj h
 exact Dx S results56 rfl rfl
theorem Gv (w : World) (Bb : Int) (Bi : Int) (Bc : Int) (r : Bool) (h : Dd Bb Bi Bc = r) :
    Calls prog 57 [iV Bb,iV Bi,iV Bc].toArray w (Ret w [] fun _ v _=>v = bV r):=by
 refine Fe func57 rfl ntmps57 rfl fun a S=>?_
 unfold Dd at h
 replace S:=S.k3 0 1 2 rfl
 refine Fr (Vk S rfl rfl fun a S=>Dz (Vm S rfl rfl fun a S=>Vm S rfl rfl fun a S=>Vb S Nk rfl rfl rfl fun a S=>Vm S rfl rfl ?_));clear S;intro a S
 refine Gr 4 (fun a w'=>Keep [] w w' ∧ Sx w [] nov [] [(14,bV ((decide (Bi ≤ Bb)) && (decide (Bb ≤ Bc))))] 15 a w') ?_ ?_
 ·rcases Bool.eq_false_or_eq_true (decide (Bi ≤ Bb)) with hb1 | hb1
  ·exact Db S rfl rfl rfl hb1 (Vm S rfl rfl fun a S=>Db S rfl rfl rfl hb1 (Vm S rfl rfl fun a S=>Db S rfl rfl rfl hb1 (Vb S Sa rfl rfl rfl fun a S=>lv S (Hn hb1 (S.tm rfl) (S.tm rfl)) rfl fun a S=>Dl (⟨Keep.refl _ _,S.nf [] rfl ⟨rfl,trivial⟩⟩))))
  ·iterate 3 (refine Gd S rfl rfl rfl (Fl hb1) rfl ?_ rfl;clear S;intro a S)
   exact lv S (Ho (decide (Bb ≤ Bc)) hb1 (S.tm rfl) rfl) rfl fun a S=>Dl (⟨Keep.refl _ _,S.nf [] rfl ⟨rfl,trivial⟩⟩)
 clear S;rintro a w1 ⟨hk1,S⟩
 refine Va S rfl rfl fun a S=>Dl (wp_ret ?_)
 subst h
 exact Dx S results57 rfl rfl
theorem Pd (w : World) (Bb : Int) (r : Bool) (h : Gf Bb = r) :
    Calls prog 36 [iV Bb].toArray w (Ret w [] fun _ v _=>v = bV r):=by
 refine Fe func36 rfl ntmps36 rfl fun a S=>?_
 unfold Gf at h
 replace S:=S.k1 0 rfl
 refine Fr (Vk S rfl rfl fun a S=>Dz (Vm S rfl rfl fun a S=>Vq S Nk rfl rfl rfl fun a S=>Vm S rfl rfl fun a S=>Gr 3 (fun a w'=>Keep [] w w' ∧ Sx w [] nov [] [(8,bV ((decide (0 ≤ Bb)) && (decide (Bb < 345686400000))))] 9 a w') ?_ ?_))
 ·rcases Bool.eq_false_or_eq_true (decide (0 ≤ Bb)) with hb1 | hb1
  ·exact Db S rfl rfl rfl hb1 (Vm S rfl rfl fun a S=>Db S rfl rfl rfl hb1 (Vq S Fa rfl rfl rfl fun a S=>lv S (Hn hb1 (S.tm rfl) (S.tm rfl)) rfl fun a S=>Dl (⟨Keep.refl _ _,S.nf [] rfl ⟨rfl,trivial⟩⟩)))
  ·exact Gd S rfl rfl rfl (Fl hb1) rfl (fun a S=>Gd S rfl rfl rfl (Fl hb1) rfl (fun a S=>lv S (Ho (decide (Bb < 345686400000)) hb1 (S.tm rfl) rfl) rfl fun a S=>Dl (⟨Keep.refl _ _,S.nf [] rfl ⟨rfl,trivial⟩⟩)) rfl) rfl
 clear S;rintro a w1 ⟨hk1,S⟩
 refine Va S rfl rfl fun a S=>Dl (wp_ret ?_)
 subst h
 exact Dx S results36 rfl rfl
set_option maxRecDepth 20000 in
theorem Qz (w : World) (O : An) (r : Int) (h : Kb O = some r) :
    Calls prog 43 [.agg (An.enc O).toArray].toArray w (Ret w [] fun _ v _=>v = iV r):=by
 refine Fe func43 rfl ntmps43 rfl fun a S=>?_
 unfold Kb at h
 replace S:=S.k1 0 rfl
 refine Fr (Kw S (S.tm rfl) (cs:=(An.enc O)) rfl rfl ?_);clear S;intro a w1 b1 hz1 hk1 S
 refine Vk S rfl rfl fun a S=>Dl (Fs (wp_block (Fr (Vf Ih S rfl rfl fun a S=>Vl isAgg9 0 S rfl rfl rfl rfl ?_))));clear S;intro a S
 obtain ⟨r1,hr1,h⟩:=El h
 refine De S (fun _=>Cy (vs:=[sV O.Site]) ⟨(S.tm rfl),trivial⟩ call56) (Ml _ O.Site _ hr1) rfl ?_;clear S;intro v1 a w2 hv1 hk2 hn1 S
 subst hv1
 refine Vu S Hl rfl rfl fun a S=>Va S rfl rfl fun a S=>Dl (Fc h (S.tm rfl) (fun hb1 h=>?_) (fun hb1 h=>?_))
 ·refine Fr (Vk S rfl rfl fun a S=>Dl (wp_ret (Gg (Dc ?_))))
  obtain rfl:=Option.some.inj h
  exact Dx S results43 rfl rfl
 ·refine Fr (Vf Hd S rfl rfl fun a S=>Vl isAgg3 0 S rfl rfl rfl rfl fun a S=>De S (fun _=>Cy (vs:=[iV O.No,iV 1,iV 1000000]) ⟨(S.tm rfl),rfl,rfl,trivial⟩ call57) (Gv _ O.No 1 1000000 _ rfl) rfl ?_);clear S;intro v2 a w3 hv2 hk3 hn2 S
  subst hv2
  refine Vu S Hl rfl rfl fun a S=>Vm S rfl rfl fun a S=>Gr 5 (fun a w'=>Keep [] w3 w' ∧ Sx w [] nov [.blk b1 (An.enc O) 33] [(1,.pointer (some ⟨b1,0,none⟩)),(22,bV ((!(Dd O.No 1 1000000)) || (!(Gf O.At))))] 152 a w') ?_ ?_
  ·rcases Bool.eq_false_or_eq_true (!(Dd O.No 1 1000000)) with hb2 | hb2
   ·iterate 4 (refine Gd S rfl rfl rfl (Mn hb2) rfl ?_ rfl;clear S;intro a S)
    exact lv S (Kj (!(Gf O.At)) hb2 (S.tm rfl) rfl) rfl fun a S=>Dl (⟨Keep.refl _ _,S.nf [true] rfl (subR rfl)⟩)
   ·refine Db S rfl rfl rfl hb2 (Vf Jv S rfl rfl fun a S=>Db S rfl rfl rfl hb2 (Vl isAgg3 0 S rfl rfl rfl rfl fun a S=>Db S rfl rfl rfl hb2 (De S (fun _=>Cy (vs:=[iV O.At]) ⟨(S.tm rfl),trivial⟩ call36) (Pd _ O.At _ rfl) rfl ?_)));clear S;intro v3 a w5 hv3 hk4 hn3 S
    subst hv3
    exact Db S rfl rfl rfl hb2 (Vu S Hl rfl rfl fun a S=>lv S (Kk hb2 (S.tm rfl) (S.tm rfl)) rfl fun a S=>Dl (⟨hk4,S.nf [true] rfl (subR rfl)⟩))
  clear S;rintro a w4 ⟨hk5,S⟩
  refine Va S rfl rfl fun a S=>Dl (Fc h (S.tm rfl) (fun hb3 h=>?_) (fun hb3 h=>?_))
  ·refine Fr (Vk S rfl rfl fun a S=>Dl (wp_ret (Gg (Dc ?_))))
   obtain rfl:=Option.some.inj h
   exact Dx S results43 rfl rfl
  ·refine Fr (Vf Jm S rfl rfl fun a S=>Vl isAgg3 0 S rfl rfl rfl rfl fun a S=>De S (fun _=>Cy (vs:=[iV O.Kind,iV 1,iV 4]) ⟨(S.tm rfl),rfl,rfl,trivial⟩ call57) (Gv _ O.Kind 1 4 _ rfl) rfl ?_);clear S;intro v4 a w6 hv4 hk6 hn4 S
   subst hv4
   refine Vu S Hl rfl rfl fun a S=>Va S rfl rfl fun a S=>Dl (Fc h (S.tm rfl) (fun hb4 h=>?_) (fun hb4 h=>?_))
   ·refine Fr (Vk S rfl rfl fun a S=>Dl (wp_ret (Gg (Dc ?_))))
    obtain rfl:=Option.some.inj h
    exact Dx S results43 rfl rfl
   ·refine wp_skip (Ia (Tn (Fs (Fm [] ([]) Tryz.mixed S rfl (by kernel_rfl) ?_))));clear S;intro w7 hk7 hsel S
    refine Ip [0,1,2,3,4,5,6,7,8,9,10,11] hsel (by kernel_rfl) rfl ?_
    clear hsel
    refine Er S rfl (Em Jm (S.tm rfl)) rfl fun a S=>Er S rfl (Kq isAgg3 (S.tm rfl) (S.cell (i:=0) rfl rfl)) rfl fun a S=>Er S rfl (Hi (S.tm rfl) rfl) rfl fun a S=>Er S rfl (Em Jm (S.tm rfl)) rfl fun a S=>Er S rfl (Kq isAgg3 (S.tm rfl) (S.cell (i:=0) rfl rfl)) rfl fun a S=>Er S rfl (Hi (S.tm rfl) rfl) rfl fun a S=>Er S rfl (Em Jm (S.tm rfl)) rfl fun a S=>Er S rfl (Kq isAgg3 (S.tm rfl) (S.cell (i:=0) rfl rfl)) rfl fun a S=>Er S rfl (Hi (S.tm rfl) rfl) rfl ?_;clear S;intro a S
    iterate 3 (refine Er S rfl (Ra (S.tm rfl)) rfl ?_;clear S;intro a S)
    refine Iq ?_
    replace S:=(S.nl [.blk b1 (An.enc O) 33] [true] rfl).k4 1 3 4 5 rfl
    refine Tn (Fs (wp_block (Fs (Fr (Vm S rfl rfl fun a S=>Vu S Hl rfl rfl fun a S=>Vm S rfl rfl ?_)))));clear S;intro a S
    obtain ⟨j1,hj1,h⟩:=En h
    refine Gr 11 (fun a w'=>∃ c1,j1 c1 = some r ∧ Keep [] w7 w' ∧ Sx w [] nov [.blk b1 (An.enc O) 33] [(1,.pointer (some ⟨b1,0,none⟩)),(3,bV (decide (O.Kind = 1))),(4,bV (decide (O.Kind = 3))),(5,bV (decide (O.Kind = 4))),(51,bV c1)] 152 a w') ?_ ?_
    ·rcases Bool.eq_false_or_eq_true (!(decide (O.Kind = 4))) with hb5 | hb5
     ·replace h:=Nq h hb5
      refine Db S rfl rfl rfl hb5 (Vf Lv S rfl rfl fun a S=>Db S rfl rfl rfl hb5 (Vl isAgg9 0 S rfl rfl rfl rfl fun a S=>Db S rfl rfl rfl hb5 ?_))
      obtain ⟨r2,hr2,h⟩:=El h
      refine De S (fun _=>Cy (vs:=[sV O.Who]) ⟨(S.tm rfl),trivial⟩ call56) (Ml _ O.Who _ hr2) rfl ?_;clear S;intro v5 a w9 hv5 hk8 hn5 S
      subst hv5
      refine Db S rfl rfl rfl hb5 (Vu S Hl rfl rfl fun a S=>Db S rfl rfl rfl hb5 (Vm S rfl rfl ?_));clear S;intro a S
      obtain ⟨j2,hj2,h⟩:=En h
      refine Gr 5 (fun a w'=>∃ c2,j2 c2 = some r ∧ Keep [] w9 w' ∧ Sx w [] nov [.blk b1 (An.enc O) 33] [(1,.pointer (some ⟨b1,0,none⟩)),(3,bV (decide (O.Kind = 1))),(4,bV (decide (O.Kind = 3))),(5,bV (decide (O.Kind = 4))),(40,bV (!(decide (O.Kind = 4)))),(50,bV c2)] 152 a w') ?_ ?_
      ·rcases Bool.eq_false_or_eq_true (!r2) with hb6 | hb6
       ·replace h:=Nq h hb6
        iterate 4 (refine Gd S rfl rfl rfl (Mn hb6) rfl ?_ rfl;clear S;intro a S)
        exact Db S rfl rfl rfl hb5 (Vq S (Kj true hb6) rfl rfl rfl fun a S=>Dl (⟨_,h,Keep.refl _ _,S.nf [true] rfl (subR rfl)⟩))
       ·replace h:=Nr h hb6
        refine Db S rfl rfl rfl hb6 (Vf Nt S rfl rfl fun a S=>Db S rfl rfl rfl hb6 (Vl isAgg9 0 S rfl rfl rfl rfl fun a S=>Db S rfl rfl rfl hb6 ?_))
        obtain ⟨r3,hr3,h⟩:=El h
        refine De S (fun _=>Cy (vs:=[sV O.Race]) ⟨(S.tm rfl),trivial⟩ call56) (Ml _ O.Race _ hr3) rfl ?_;clear S;intro v6 a w11 hv6 hk9 hn6 S
        subst hv6
        exact Db S rfl rfl rfl hb6 (Vu S Hl rfl rfl fun a S=>Db S rfl rfl rfl hb5 (lv S (Kk hb6 (S.tm rfl) (S.tm rfl)) rfl fun a S=>Dl (⟨_,h,hk9,S.nf [true] rfl (subR rfl)⟩)))
      clear S h;rintro a w10 ⟨c2,h,hk10,S⟩;rw [hj2] at h;clear hj2 j2
      exact lv S (Hn hb5 (S.tm rfl) (S.tm rfl)) rfl fun a S=>Dl (⟨_,h,(hk8).trans hk10,S.nf [true] rfl (subR rfl)⟩)
     ·replace h:=Nr h hb5
      iterate 5 (refine Gd S rfl rfl rfl (Fl hb5) rfl ?_ rfl;clear S;intro a S)
      iterate 4 (refine Zo S rfl rfl rfl rfl ?_;clear S;intro a S)
      exact Gd S rfl rfl rfl (Fl hb5) rfl (fun a S=>Vq S (Ho true hb5) rfl rfl rfl fun a S=>Dl (⟨_,h,Keep.refl _ _,S.nf [true] rfl (subR rfl)⟩)) rfl
    clear S h;rintro a w8 ⟨c1,h,hk11,S⟩;rw [hj1] at h;clear hj1 j1
    refine Va S rfl rfl fun a S=>Dl ?_
    obtain ⟨j3,hj3,h⟩:=En h
    refine Ec (fun a w'=>∃ x1 : Bool,j3 x1 = some r ∧ Sx w [] nov [.blk b1 (An.enc O) 33] [(1,.pointer (some ⟨b1,0,none⟩)),(3,bV (decide (O.Kind = 1))),(4,bV (decide (O.Kind = 3))),(5,bV (decide (O.Kind = 4))),(37,bV x1)] 152 a w') ?_ ?_
    ·refine Fc h (S.tm rfl) (fun hb7 h=>?_) (fun hb7 h=>?_)
     ·exact wp_skip (Tn (⟨c1,h,S.nf [true] rfl (subR rfl)⟩))
     ·refine Fg (Vm S rfl rfl fun a S=>Vm S rfl rfl fun a S=>Gr 4 (fun a w'=>Keep [] w8 w' ∧ Sx w [] nov [.blk b1 (An.enc O) 33] [(1,.pointer (some ⟨b1,0,none⟩)),(3,bV (decide (O.Kind = 1))),(4,bV (decide (O.Kind = 3))),(5,bV (decide (O.Kind = 4))),(57,bV ((decide (O.Kind = 1)) && (!decide (O.Club = Cw))))] 152 a w') ?_ ?_)
      ·rcases Bool.eq_false_or_eq_true (decide (O.Kind = 1)) with hb8 | hb8
       ·exact Db S rfl rfl rfl hb8 (Vf Po S rfl rfl fun a S=>Db S rfl rfl rfl hb8 (Vl isAgg9 0 S rfl rfl rfl rfl fun a S=>Db S rfl rfl rfl hb8 (Vq S Tj rfl rfl rfl fun a S=>lv S (Hn hb8 (S.tm rfl) (S.tm rfl)) rfl fun a S=>Dl (⟨Keep.refl _ _,S.nf [true] rfl (subR rfl)⟩))))
       ·iterate 3 (refine Gd S rfl rfl rfl (Fl hb8) rfl ?_ rfl;clear S;intro a S)
        exact lv S (Ho (!decide (O.Club = Cw)) hb8 (S.tm rfl) rfl) rfl fun a S=>Dl (⟨Keep.refl _ _,S.nf [true] rfl (subR rfl)⟩)
      clear S;rintro a w13 ⟨hk12,S⟩
      refine Vm S rfl rfl ?_;clear S;intro a S
      obtain ⟨j4,hj4,h⟩:=En h
      refine Gr 5 (fun a w'=>∃ c3,j4 c3 = some r ∧ Keep [] w13 w' ∧ Sx w [] nov [.blk b1 (An.enc O) 33] [(1,.pointer (some ⟨b1,0,none⟩)),(3,bV (decide (O.Kind = 1))),(4,bV (decide (O.Kind = 3))),(5,bV (decide (O.Kind = 4))),(63,bV c3)] 152 a w') ?_ ?_
      ·rcases Bool.eq_false_or_eq_true ((decide (O.Kind = 1)) && (!decide (O.Club = Cw))) with hb9 | hb9
       ·replace h:=Nq h hb9
        refine Db S rfl rfl rfl hb9 (Vf Po S rfl rfl fun a S=>Db S rfl rfl rfl hb9 (Vl isAgg9 0 S rfl rfl rfl rfl fun a S=>Db S rfl rfl rfl hb9 ?_))
        obtain ⟨r4,hr4,h⟩:=El h
        refine De S (fun _=>Cy (vs:=[sV O.Club]) ⟨(S.tm rfl),trivial⟩ call56) (Ml _ O.Club _ hr4) rfl ?_;clear S;intro v7 a w15 hv7 hk13 hn7 S
        subst hv7
        exact Db S rfl rfl rfl hb9 (Vu S Hl rfl rfl fun a S=>lv S (Hn hb9 (S.tm rfl) (S.tm rfl)) rfl fun a S=>Dl (⟨_,h,hk13,S.nf [true] rfl (subR rfl)⟩))
       ·replace h:=Nr h hb9
        iterate 4 (refine Gd S rfl rfl rfl (Fl hb9) rfl ?_ rfl;clear S;intro a S)
        exact Vq S (Ho true hb9) rfl rfl rfl fun a S=>Dl (⟨_,h,Keep.refl _ _,S.nf [true] rfl (subR rfl)⟩)
      clear S h;rintro a w14 ⟨c3,h,hk14,S⟩;rw [hj4] at h;clear hj4 j4
      exact Va S rfl rfl fun a S=>Dl (⟨c3,h,S.nf [true] rfl (subR rfl)⟩)
    clear S h;rintro a w12 ⟨x1,h,S⟩;rw [hj3] at h;clear hj3 j3
    refine Tn (Fc h (S.tm rfl) (fun hb10 h=>?_) (fun hb10 h=>?_))
    ·refine Fr (Vk S rfl rfl fun a S=>Dl (wp_ret (Gg (Dc ?_))))
     obtain rfl:=Option.some.inj h
     exact Dx S results43 rfl rfl
    ·refine Fs (Fr (Vm S rfl rfl fun a S=>Vm S rfl rfl fun a S=>Gr 2 (fun a w'=>Keep [] w12 w' ∧ Sx w [] nov [.blk b1 (An.enc O) 33] [(1,.pointer (some ⟨b1,0,none⟩)),(3,bV (decide (O.Kind = 1))),(4,bV (decide (O.Kind = 3))),(5,bV (decide (O.Kind = 4))),(68,bV ((decide (O.Kind = 1)) || (decide (O.Kind = 3))))] 152 a w') ?_ ?_))
     ·rcases Bool.eq_false_or_eq_true (decide (O.Kind = 1)) with hb11 | hb11
      ·exact Gd S rfl rfl rfl (Mn hb11) rfl (fun a S=>lv S (Kj (decide (O.Kind = 3)) hb11 (S.tm rfl) rfl) rfl fun a S=>Dl (⟨Keep.refl _ _,S.nf [true] rfl (subR rfl)⟩)) rfl
      ·exact Db S rfl rfl rfl hb11 (Vm S rfl rfl fun a S=>lv S (Kk hb11 (S.tm rfl) (S.tm rfl)) rfl fun a S=>Dl (⟨Keep.refl _ _,S.nf [true] rfl (subR rfl)⟩))
     clear S;rintro a w16 ⟨hk15,S⟩
     refine Vm S rfl rfl fun a S=>Gr 5 (fun a w'=>Keep [] w16 w' ∧ Sx w [] nov [.blk b1 (An.enc O) 33] [(1,.pointer (some ⟨b1,0,none⟩)),(3,bV (decide (O.Kind = 1))),(4,bV (decide (O.Kind = 3))),(5,bV (decide (O.Kind = 4))),(74,bV (((decide (O.Kind = 1)) || (decide (O.Kind = 3))) && (!(Dd O.Time 0 360000))))] 152 a w') ?_ ?_
     ·rcases Bool.eq_false_or_eq_true ((decide (O.Kind = 1)) || (decide (O.Kind = 3))) with hb12 | hb12
      ·refine Db S rfl rfl rfl hb12 (Vf Od S rfl rfl fun a S=>Db S rfl rfl rfl hb12 (Vl isAgg3 0 S rfl rfl rfl rfl fun a S=>Db S rfl rfl rfl hb12 (De S (fun _=>Cy (vs:=[iV O.Time,iV 0,iV 360000]) ⟨(S.tm rfl),rfl,rfl,trivial⟩ call57) (Gv _ O.Time 0 360000 _ rfl) rfl ?_)));clear S;intro v8 a w18 hv8 hk16 hn8 S
       subst hv8
       exact Db S rfl rfl rfl hb12 (Vu S Hl rfl rfl fun a S=>lv S (Hn hb12 (S.tm rfl) (S.tm rfl)) rfl fun a S=>Dl (⟨hk16,S.nf [true] rfl (subR rfl)⟩))
      ·iterate 4 (refine Gd S rfl rfl rfl (Fl hb12) rfl ?_ rfl;clear S;intro a S)
       exact lv S (Ho (!(Dd O.Time 0 360000)) hb12 (S.tm rfl) rfl) rfl fun a S=>Dl (⟨Keep.refl _ _,S.nf [true] rfl (subR rfl)⟩)
     clear S;rintro a w17 ⟨hk17,S⟩
     refine Va S rfl rfl fun a S=>Dl ?_
     obtain ⟨j5,hj5,h⟩:=En h
     refine Ec (fun a w'=>∃ x2 : Bool,j5 x2 = some r ∧ Sx w [] nov [.blk b1 (An.enc O) 33] [(1,.pointer (some ⟨b1,0,none⟩)),(3,bV (decide (O.Kind = 1))),(4,bV (decide (O.Kind = 3))),(5,bV (decide (O.Kind = 4))),(64,bV x2)] 152 a w') ?_ ?_
     ·refine Fc h (S.tm rfl) (fun hb13 h=>?_) (fun hb13 h=>?_)
      ·exact wp_skip (Tn (⟨(((decide (O.Kind = 1)) || (decide (O.Kind = 3))) && (!(Dd O.Time 0 360000))),h,S.nf [true] rfl (subR rfl)⟩))
      ·refine Fg (Vm S rfl rfl fun a S=>Vm S rfl rfl fun a S=>Gr 5 (fun a w'=>Keep [] w17 w' ∧ Sx w [] nov [.blk b1 (An.enc O) 33] [(1,.pointer (some ⟨b1,0,none⟩)),(3,bV (decide (O.Kind = 1))),(4,bV (decide (O.Kind = 3))),(5,bV (decide (O.Kind = 4))),(81,bV ((decide (O.Kind = 3)) && (!(Dd O.Fault 0 8))))] 152 a w') ?_ ?_)
       ·rcases Bool.eq_false_or_eq_true (decide (O.Kind = 3)) with hb14 | hb14
        ·refine Db S rfl rfl rfl hb14 (Vf Qy S rfl rfl fun a S=>Db S rfl rfl rfl hb14 (Vl isAgg3 0 S rfl rfl rfl rfl fun a S=>Db S rfl rfl rfl hb14 (De S (fun _=>Cy (vs:=[iV O.Fault,iV 0,iV 8]) ⟨(S.tm rfl),rfl,rfl,trivial⟩ call57) (Gv _ O.Fault 0 8 _ rfl) rfl ?_)));clear S;intro v9 a w21 hv9 hk18 hn9 S
         subst hv9
         exact Db S rfl rfl rfl hb14 (Vu S Hl rfl rfl fun a S=>lv S (Hn hb14 (S.tm rfl) (S.tm rfl)) rfl fun a S=>Dl (⟨hk18,S.nf [true] rfl (subR rfl)⟩))
        ·iterate 4 (refine Gd S rfl rfl rfl (Fl hb14) rfl ?_ rfl;clear S;intro a S)
         exact lv S (Ho (!(Dd O.Fault 0 8)) hb14 (S.tm rfl) rfl) rfl fun a S=>Dl (⟨Keep.refl _ _,S.nf [true] rfl (subR rfl)⟩)
       clear S;rintro a w20 ⟨hk19,S⟩
       exact Va S rfl rfl fun a S=>Dl (⟨((decide (O.Kind = 3)) && (!(Dd O.Fault 0 8))),h,S.nf [true] rfl (subR rfl)⟩)
     clear S h;rintro a w19 ⟨x2,h,S⟩;rw [hj5] at h;clear hj5 j5
     refine Tn (Fc h (S.tm rfl) (fun hb15 h=>?_) (fun hb15 h=>?_))
     ·refine Fr (Vk S rfl rfl fun a S=>Dl (wp_ret (Gg (Dc ?_))))
      obtain rfl:=Option.some.inj h
      exact Dx S results43 rfl rfl
     ·refine Fr (Vm S rfl rfl fun a S=>Vm S rfl rfl ?_);clear S;intro a S
      obtain ⟨j6,hj6,h⟩:=En h
      refine Gr 5 (fun a w'=>∃ c4,j6 c4 = some r ∧ Keep [] w19 w' ∧ Sx w [] nov [.blk b1 (An.enc O) 33] [(1,.pointer (some ⟨b1,0,none⟩)),(3,bV (decide (O.Kind = 1))),(4,bV (decide (O.Kind = 3))),(5,bV (decide (O.Kind = 4))),(89,bV c4)] 152 a w') ?_ ?_
      ·rcases Bool.eq_false_or_eq_true (decide (O.Kind = 4)) with hb16 | hb16
       ·replace h:=Nq h hb16
        refine Db S rfl rfl rfl hb16 (Vf Oe S rfl rfl fun a S=>Db S rfl rfl rfl hb16 (Vl isAgg9 0 S rfl rfl rfl rfl fun a S=>Db S rfl rfl rfl hb16 ?_))
        obtain ⟨r5,hr5,h⟩:=El h
        refine De S (fun _=>Cy (vs:=[sV O.Of]) ⟨(S.tm rfl),trivial⟩ call56) (Ml _ O.Of _ hr5) rfl ?_;clear S;intro v10 a w23 hv10 hk20 hn10 S
        subst hv10
        exact Db S rfl rfl rfl hb16 (Vu S Hl rfl rfl fun a S=>lv S (Hn hb16 (S.tm rfl) (S.tm rfl)) rfl fun a S=>Dl (⟨_,h,hk20,S.nf [true] rfl (subR rfl)⟩))
       ·replace h:=Nr h hb16
        iterate 4 (refine Gd S rfl rfl rfl (Fl hb16) rfl ?_ rfl;clear S;intro a S)
        exact Vq S (Ho true hb16) rfl rfl rfl fun a S=>Dl (⟨_,h,Keep.refl _ _,S.nf [true] rfl (subR rfl)⟩)
      clear S h;rintro a w22 ⟨c4,h,hk21,S⟩;rw [hj6] at h;clear hj6 j6
      refine Va S rfl rfl fun a S=>Dl (Fc h (S.tm rfl) (fun hb17 h=>?_) (fun hb17 h=>?_))
      ·refine Fr (Vk S rfl rfl fun a S=>Dl (wp_ret (Gg (Dc ?_))))
       obtain rfl:=Option.some.inj h
       exact Dx S results43 rfl rfl
      ·refine Fr (Vm S rfl rfl fun a S=>Vm S rfl rfl fun a S=>Gr 5 (fun a w'=>Keep [] w22 w' ∧ Sx w [] nov [.blk b1 (An.enc O) 33] [(1,.pointer (some ⟨b1,0,none⟩)),(3,bV (decide (O.Kind = 1))),(4,bV (decide (O.Kind = 3))),(5,bV (decide (O.Kind = 4))),(97,bV ((decide (O.Kind = 4)) && (!(Dd O.Other 1 1000000))))] 152 a w') ?_ ?_)
       ·rcases Bool.eq_false_or_eq_true (decide (O.Kind = 4)) with hb18 | hb18
        ·refine Db S rfl rfl rfl hb18 (Vf Mg S rfl rfl fun a S=>Db S rfl rfl rfl hb18 (Vl isAgg3 0 S rfl rfl rfl rfl fun a S=>Db S rfl rfl rfl hb18 (De S (fun _=>Cy (vs:=[iV O.Other,iV 1,iV 1000000]) ⟨(S.tm rfl),rfl,rfl,trivial⟩ call57) (Gv _ O.Other 1 1000000 _ rfl) rfl ?_)));clear S;intro v11 a w25 hv11 hk22 hn11 S
         subst hv11
         exact Db S rfl rfl rfl hb18 (Vu S Hl rfl rfl fun a S=>lv S (Hn hb18 (S.tm rfl) (S.tm rfl)) rfl fun a S=>Dl (⟨hk22,S.nf [true] rfl (subR rfl)⟩))
        ·iterate 4 (refine Gd S rfl rfl rfl (Fl hb18) rfl ?_ rfl;clear S;intro a S)
         exact lv S (Ho (!(Dd O.Other 1 1000000)) hb18 (S.tm rfl) rfl) rfl fun a S=>Dl (⟨Keep.refl _ _,S.nf [true] rfl (subR rfl)⟩)
       clear S;rintro a w24 ⟨hk23,S⟩
       refine Va S rfl rfl fun a S=>Dl (Fc h (S.tm rfl) (fun hb19 h=>?_) (fun hb19 h=>?_))
       ·refine Fr (Vk S rfl rfl fun a S=>Dl (wp_ret (Gg (Dc ?_))))
        obtain rfl:=Option.some.inj h
        exact Dx S results43 rfl rfl
       ·refine wp_skip (Ia (Tn (Fr (Vf Ih S rfl rfl fun a S=>Vl isAgg9 0 S rfl rfl rfl rfl fun a S=>Vf Hd S rfl rfl fun a S=>Vl isAgg3 0 S rfl rfl rfl rfl fun a S=>Vf Jv S rfl rfl fun a S=>Vl isAgg3 0 S rfl rfl rfl rfl ?_))));clear S;intro a S
        refine Vf Jm S rfl rfl fun a S=>Vl isAgg3 0 S rfl rfl rfl rfl fun a S=>lv S (Nw CW (pv:=[(0,sV O.Site),(1,iV O.No),(2,iV O.At),(3,iV O.Kind)]) ⟨rfl,(S.tm rfl),rfl,(S.tm rfl),rfl,(S.tm rfl),rfl,(S.tm rfl),trivial⟩ (cs:=[sV O.Site,iV O.No,iV O.At,iV O.Kind,sV Cw,sV Cw,sV Cw,iV 0,iV 0,sV Cw,iV 0]) (by kernel_rfl)) rfl fun a S=>It S zeroValue33 (cs:=[sV Cw,iV 0,iV 0,iV 0,sV Cw,sV Cw,sV Cw,iV 0,iV 0,sV Cw,iV 0]) rfl rfl ?_;clear S;intro a w26 b2 hz2 hk24 S
        refine Ef S (S.tm rfl) (S.tm rfl) (i:=0) (off:=0) rfl sizeOf33 (vs:=(An.enc (An.mk O.Site O.No O.At O.Kind Cw Cw Cw 0 0 Cw 0))) rfl rfl rfl rfl ?_;clear S;intro w27 hk25 S
        refine Ld ?_
        replace S:=(S.nl [.blk b2 (An.enc (An.mk O.Site O.No O.At O.Kind Cw Cw Cw 0 0 Cw 0)) 33,.blk b1 (An.enc O) 33] [true,true] rfl).k5 1 3 4 5 6 rfl
        refine Tn (Fs ?_)
        obtain ⟨j7,hj7,h⟩:=En h
        refine Ec (fun a w'=>∃ x3 : ByteArray,∃ x4 : ByteArray,∃ x5 : ByteArray,∃ x6 : Int,∃ x7 : Int,∃ x8 : ByteArray,∃ x9 : Int,j7 x3 x4 x5 x6 x7 x8 x9 = some r ∧ Sx w [] nov [.blk b2 (An.enc (An.mk O.Site O.No O.At O.Kind x3 x4 x5 x6 x7 x8 x9)) 33,.blk b1 (An.enc O) 33] [(1,.pointer (some ⟨b1,0,none⟩)),(6,.pointer (some ⟨b2,0,none⟩))] 152 a w') ?_ ?_
        ·refine wp_block (Fr (Vm S rfl rfl fun a S=>Va S rfl rfl fun a S=>Dl ?_))
         obtain ⟨j8,hj8,h⟩:=En h
         refine Ec (fun a w'=>∃ x10 : ByteArray,∃ x11 : ByteArray,∃ x12 : ByteArray,∃ x13 : Int,∃ x14 : Int,∃ x15 : ByteArray,∃ x16 : Int,j8 x10 x11 x12 x13 x14 x15 x16 = some r ∧ Sx w [] nov [.blk b2 (An.enc (An.mk O.Site O.No O.At O.Kind x10 x11 x12 x13 x14 x15 x16)) 33,.blk b1 (An.enc O) 33] [(1,.pointer (some ⟨b1,0,none⟩)),(6,.pointer (some ⟨b2,0,none⟩))] 152 a w') ?_ ?_
         ·refine Fc h (S.tm rfl) (fun hb20 h=>?_) (fun hb20 h=>?_)
          ·refine Fm [] ([b2]) Tryz.mixed S rfl (by kernel_rfl) ?_;clear S;intro w34 hk30 hsel S
           refine Da 0 S hsel rfl rfl rfl (by kernel_rfl) (by kernel_rfl) rfl (fun _ hw=>(Em Lv (S.tm rfl))) fun a S=>Da 1 S hsel rfl rfl rfl (by kernel_rfl) (by kernel_rfl) rfl (fun _ hw=>(Ep isAgg9 (off:=0) (o:=4) (S.tm rfl) ((S.blk_mem (i:=1) (cells:=(An.enc O)) (b:=b1) (T:=33) rfl (Kd (i:=0) (j:=1) (e:=.blk b2 (An.enc (An.mk O.Site O.No O.At O.Kind Cw Cw Cw 0 0 Cw 0)) 33) (e':=.blk b1 (An.enc O) 33) S rfl rfl rfl)).kept hw) rfl)) fun a S=>Da 2 S hsel rfl rfl rfl (by kernel_rfl) (by kernel_rfl) rfl (fun _ hw=>(Em Po (S.tm rfl))) fun a S=>Da 3 S hsel rfl rfl rfl (by kernel_rfl) (by kernel_rfl) rfl (fun _ hw=>(Ep isAgg9 (off:=0) (o:=5) (S.tm rfl) ((S.blk_mem (i:=1) (cells:=(An.enc O)) (b:=b1) (T:=33) rfl (Kd (i:=0) (j:=1) (e:=.blk b2 (An.enc (An.mk O.Site O.No O.At O.Kind Cw Cw Cw 0 0 Cw 0)) 33) (e':=.blk b1 (An.enc O) 33) S rfl rfl rfl)).kept hw) rfl)) fun a S=>Da 4 S hsel rfl rfl rfl (by kernel_rfl) (by kernel_rfl) rfl (fun _ hw=>(Em Nt (S.tm rfl))) fun a S=>Da 5 S hsel rfl rfl rfl (by kernel_rfl) (by kernel_rfl) rfl (fun _ hw=>(Ep isAgg9 (off:=0) (o:=6) (S.tm rfl) ((S.blk_mem (i:=1) (cells:=(An.enc O)) (b:=b1) (T:=33) rfl (Kd (i:=0) (j:=1) (e:=.blk b2 (An.enc (An.mk O.Site O.No O.At O.Kind Cw Cw Cw 0 0 Cw 0)) 33) (e':=.blk b1 (An.enc O) 33) S rfl rfl rfl)).kept hw) rfl)) fun a S=>Da 6 S hsel rfl rfl rfl (by kernel_rfl) (by kernel_rfl) rfl (fun _ hw=>(Em Od (S.tm rfl))) fun a S=>Da 7 S hsel rfl rfl rfl (by kernel_rfl) (by kernel_rfl) rfl (fun _ hw=>(Ep isAgg3 (off:=0) (o:=7) (S.tm rfl) ((S.blk_mem (i:=1) (cells:=(An.enc O)) (b:=b1) (T:=33) rfl (Kd (i:=0) (j:=1) (e:=.blk b2 (An.enc (An.mk O.Site O.No O.At O.Kind Cw Cw Cw 0 0 Cw 0)) 33) (e':=.blk b1 (An.enc O) 33) S rfl rfl rfl)).kept hw) rfl)) ?_;clear S;intro a S
           refine Da 8 S hsel rfl rfl rfl (by kernel_rfl) (by kernel_rfl) rfl (fun _ hw=>(Em Lv (S.tm rfl))) fun a S=>Ey 9 (by kernel_rfl) rfl (Ef S (S.tm rfl) (S.tm rfl) (i:=0) (off:=4) rfl sizeOf9 (vs:=[sV O.Who]) rfl rfl rfl rfl ?_);clear S;intro w35 hk31 S
           refine Ld (Fz hk31 (Da 10 S hsel rfl rfl rfl (by kernel_rfl) (by kernel_rfl) rfl (fun _ hw=>(Em Po (S.tm rfl))) fun a S=>Ey 11 (by kernel_rfl) rfl (Ef S (S.tm rfl) (S.tm rfl) (i:=0) (off:=5) rfl sizeOf9 (vs:=[sV O.Club]) rfl rfl rfl rfl ?_)));clear S;intro w36 hk32 S
           refine Ld (Fz hk32 (Da 12 S hsel rfl rfl rfl (by kernel_rfl) (by kernel_rfl) rfl (fun _ hw=>(Em Nt (S.tm rfl))) fun a S=>Ey 13 (by kernel_rfl) rfl (Ef S (S.tm rfl) (S.tm rfl) (i:=0) (off:=6) rfl sizeOf9 (vs:=[sV O.Race]) rfl rfl rfl rfl ?_)));clear S;intro w37 hk33 S
           refine Ld (Fz hk33 (Da 14 S hsel rfl rfl rfl (by kernel_rfl) (by kernel_rfl) rfl (fun _ hw=>(Em Od (S.tm rfl))) fun a S=>Ey 15 (by kernel_rfl) rfl (Ef S (S.tm rfl) (S.tm rfl) (i:=0) (off:=7) rfl sizeOf3 (vs:=[iV O.Time]) rfl rfl rfl rfl ?_)));clear S;intro w38 hk34 S
           refine Ld (Fz hk34 (So (by kernel_rfl) ?_))
           clear hsel
           replace S:=(S.nl [.blk b2 (An.enc (An.mk O.Site O.No O.At O.Kind O.Who O.Club O.Race O.Time 0 Cw 0)) 33,.blk b1 (An.enc O) 33] [true,true] rfl).k2 1 6 rfl
           exact Tn (⟨O.Who,O.Club,O.Race,O.Time,0,Cw,0,h,S.nf [true,true] rfl (subR rfl)⟩)
          ·refine Fr (Vm S rfl rfl fun a S=>Va S rfl rfl fun a S=>Dl ?_)
           obtain ⟨j9,hj9,h⟩:=En h
           refine Ec (fun a w'=>∃ x17 : ByteArray,∃ x18 : ByteArray,∃ x19 : Int,∃ x20 : Int,∃ x21 : ByteArray,∃ x22 : Int,j9 x17 x18 x19 x20 x21 x22 = some r ∧ Sx w [] nov [.blk b2 (An.enc (An.mk O.Site O.No O.At O.Kind x17 Cw x18 x19 x20 x21 x22)) 33,.blk b1 (An.enc O) 33] [(1,.pointer (some ⟨b1,0,none⟩)),(6,.pointer (some ⟨b2,0,none⟩))] 152 a w') ?_ ?_
           ·refine Fc h (S.tm rfl) (fun hb21 h=>?_) (fun hb21 h=>?_)
            ·refine Fm [] ([b2]) Tryz.mixed S rfl (by kernel_rfl) ?_;clear S;intro w44 hk39 hsel S
             refine Da 0 S hsel rfl rfl rfl (by kernel_rfl) (by kernel_rfl) rfl (fun _ hw=>(Em Lv (S.tm rfl))) fun a S=>Da 1 S hsel rfl rfl rfl (by kernel_rfl) (by kernel_rfl) rfl (fun _ hw=>(Ep isAgg9 (off:=0) (o:=4) (S.tm rfl) ((S.blk_mem (i:=1) (cells:=(An.enc O)) (b:=b1) (T:=33) rfl (Kd (i:=0) (j:=1) (e:=.blk b2 (An.enc (An.mk O.Site O.No O.At O.Kind Cw Cw Cw 0 0 Cw 0)) 33) (e':=.blk b1 (An.enc O) 33) S rfl rfl rfl)).kept hw) rfl)) fun a S=>Da 2 S hsel rfl rfl rfl (by kernel_rfl) (by kernel_rfl) rfl (fun _ hw=>(Em Nt (S.tm rfl))) fun a S=>Da 3 S hsel rfl rfl rfl (by kernel_rfl) (by kernel_rfl) rfl (fun _ hw=>(Ep isAgg9 (off:=0) (o:=6) (S.tm rfl) ((S.blk_mem (i:=1) (cells:=(An.enc O)) (b:=b1) (T:=33) rfl (Kd (i:=0) (j:=1) (e:=.blk b2 (An.enc (An.mk O.Site O.No O.At O.Kind Cw Cw Cw 0 0 Cw 0)) 33) (e':=.blk b1 (An.enc O) 33) S rfl rfl rfl)).kept hw) rfl)) fun a S=>Da 4 S hsel rfl rfl rfl (by kernel_rfl) (by kernel_rfl) rfl (fun _ hw=>(Em Od (S.tm rfl))) fun a S=>Da 5 S hsel rfl rfl rfl (by kernel_rfl) (by kernel_rfl) rfl (fun _ hw=>(Ep isAgg3 (off:=0) (o:=7) (S.tm rfl) ((S.blk_mem (i:=1) (cells:=(An.enc O)) (b:=b1) (T:=33) rfl (Kd (i:=0) (j:=1) (e:=.blk b2 (An.enc (An.mk O.Site O.No O.At O.Kind Cw Cw Cw 0 0 Cw 0)) 33) (e':=.blk b1 (An.enc O) 33) S rfl rfl rfl)).kept hw) rfl)) fun a S=>Da 6 S hsel rfl rfl rfl (by kernel_rfl) (by kernel_rfl) rfl (fun _ hw=>(Em Qy (S.tm rfl))) fun a S=>Da 7 S hsel rfl rfl rfl (by kernel_rfl) (by kernel_rfl) rfl (fun _ hw=>(Ep isAgg3 (off:=0) (o:=8) (S.tm rfl) ((S.blk_mem (i:=1) (cells:=(An.enc O)) (b:=b1) (T:=33) rfl (Kd (i:=0) (j:=1) (e:=.blk b2 (An.enc (An.mk O.Site O.No O.At O.Kind Cw Cw Cw 0 0 Cw 0)) 33) (e':=.blk b1 (An.enc O) 33) S rfl rfl rfl)).kept hw) rfl)) ?_;clear S;intro a S
             refine Da 8 S hsel rfl rfl rfl (by kernel_rfl) (by kernel_rfl) rfl (fun _ hw=>(Em Lv (S.tm rfl))) fun a S=>Ey 9 (by kernel_rfl) rfl (Ef S (S.tm rfl) (S.tm rfl) (i:=0) (off:=4) rfl sizeOf9 (vs:=[sV O.Who]) rfl rfl rfl rfl ?_);clear S;intro w45 hk40 S
             refine Ld (Fz hk40 (Da 10 S hsel rfl rfl rfl (by kernel_rfl) (by kernel_rfl) rfl (fun _ hw=>(Em Nt (S.tm rfl))) fun a S=>Ey 11 (by kernel_rfl) rfl (Ef S (S.tm rfl) (S.tm rfl) (i:=0) (off:=6) rfl sizeOf9 (vs:=[sV O.Race]) rfl rfl rfl rfl ?_)));clear S;intro w46 hk41 S
             refine Ld (Fz hk41 (Da 12 S hsel rfl rfl rfl (by kernel_rfl) (by kernel_rfl) rfl (fun _ hw=>(Em Od (S.tm rfl))) fun a S=>Ey 13 (by kernel_rfl) rfl (Ef S (S.tm rfl) (S.tm rfl) (i:=0) (off:=7) rfl sizeOf3 (vs:=[iV O.Time]) rfl rfl rfl rfl ?_)));clear S;intro w47 hk42 S
             refine Ld (Fz hk42 (Da 14 S hsel rfl rfl rfl (by kernel_rfl) (by kernel_rfl) rfl (fun _ hw=>(Em Qy (S.tm rfl))) fun a S=>Ey 15 (by kernel_rfl) rfl (Ef S (S.tm rfl) (S.tm rfl) (i:=0) (off:=8) rfl sizeOf3 (vs:=[iV O.Fault]) rfl rfl rfl rfl ?_)));clear S;intro w48 hk43 S
             refine Ld (Fz hk43 (So (by kernel_rfl) ?_))
             clear hsel
             replace S:=(S.nl [.blk b2 (An.enc (An.mk O.Site O.No O.At O.Kind O.Who Cw O.Race O.Time O.Fault Cw 0)) 33,.blk b1 (An.enc O) 33] [true,true] rfl).k2 1 6 rfl
             exact Tn (⟨O.Who,O.Race,O.Time,O.Fault,Cw,0,h,S.nf [true,true] rfl (subR rfl)⟩)
            ·refine Fr (Vm S rfl rfl fun a S=>Va S rfl rfl fun a S=>Dl ?_)
             obtain ⟨j10,hj10,h⟩:=En h
             refine Ec (fun a w'=>∃ x23 : ByteArray,∃ x24 : ByteArray,∃ x25 : ByteArray,∃ x26 : Int,j10 x23 x24 x25 x26 = some r ∧ Sx w [] nov [.blk b2 (An.enc (An.mk O.Site O.No O.At O.Kind x23 Cw x24 0 0 x25 x26)) 33,.blk b1 (An.enc O) 33] [(1,.pointer (some ⟨b1,0,none⟩)),(6,.pointer (some ⟨b2,0,none⟩))] 152 a w') ?_ ?_
             ·refine Fc h (S.tm rfl) (fun hb22 h=>?_) (fun hb22 h=>?_)
              ·refine Fm [] ([b2]) Tryz.mixed S rfl (by kernel_rfl) ?_;clear S;intro w52 hk46 hsel S
               refine Da 0 S hsel rfl rfl rfl (by kernel_rfl) (by kernel_rfl) rfl (fun _ hw=>(Em Oe (S.tm rfl))) fun a S=>Da 1 S hsel rfl rfl rfl (by kernel_rfl) (by kernel_rfl) rfl (fun _ hw=>(Ep isAgg9 (off:=0) (o:=9) (S.tm rfl) ((S.blk_mem (i:=1) (cells:=(An.enc O)) (b:=b1) (T:=33) rfl (Kd (i:=0) (j:=1) (e:=.blk b2 (An.enc (An.mk O.Site O.No O.At O.Kind Cw Cw Cw 0 0 Cw 0)) 33) (e':=.blk b1 (An.enc O) 33) S rfl rfl rfl)).kept hw) rfl)) fun a S=>Da 2 S hsel rfl rfl rfl (by kernel_rfl) (by kernel_rfl) rfl (fun _ hw=>(Em Mg (S.tm rfl))) fun a S=>Da 3 S hsel rfl rfl rfl (by kernel_rfl) (by kernel_rfl) rfl (fun _ hw=>(Ep isAgg3 (off:=0) (o:=10) (S.tm rfl) ((S.blk_mem (i:=1) (cells:=(An.enc O)) (b:=b1) (T:=33) rfl (Kd (i:=0) (j:=1) (e:=.blk b2 (An.enc (An.mk O.Site O.No O.At O.Kind Cw Cw Cw 0 0 Cw 0)) 33) (e':=.blk b1 (An.enc O) 33) S rfl rfl rfl)).kept hw) rfl)) fun a S=>Da 4 S hsel rfl rfl rfl (by kernel_rfl) (by kernel_rfl) rfl (fun _ hw=>(Em Oe (S.tm rfl))) fun a S=>Ey 5 (by kernel_rfl) rfl (Ef S (S.tm rfl) (S.tm rfl) (i:=0) (off:=9) rfl sizeOf9 (vs:=[sV O.Of]) rfl rfl rfl rfl ?_);clear S;intro w53 hk47 S
               refine Ld (Fz hk47 (Da 6 S hsel rfl rfl rfl (by kernel_rfl) (by kernel_rfl) rfl (fun _ hw=>(Em Mg (S.tm rfl))) fun a S=>Ey 7 (by kernel_rfl) rfl (Ef S (S.tm rfl) (S.tm rfl) (i:=0) (off:=10) rfl sizeOf3 (vs:=[iV O.Other]) rfl rfl rfl rfl ?_)));clear S;intro w54 hk48 S
               refine Ld (Fz hk48 (So (by kernel_rfl) ?_))
               clear hsel
               replace S:=(S.nl [.blk b2 (An.enc (An.mk O.Site O.No O.At O.Kind Cw Cw Cw 0 0 O.Of O.Other)) 33,.blk b1 (An.enc O) 33] [true,true] rfl).k2 1 6 rfl
               exact Tn (⟨Cw,Cw,O.Of,O.Other,h,S.nf [true,true] rfl (subR rfl)⟩)
              ·refine Fm [] ([b2]) Tryz.mixed S rfl (by kernel_rfl) ?_;clear S;intro w57 hk51 hsel S
               refine Da 0 S hsel rfl rfl rfl (by kernel_rfl) (by kernel_rfl) rfl (fun _ hw=>(Em Lv (S.tm rfl))) fun a S=>Da 1 S hsel rfl rfl rfl (by kernel_rfl) (by kernel_rfl) rfl (fun _ hw=>(Ep isAgg9 (off:=0) (o:=4) (S.tm rfl) ((S.blk_mem (i:=1) (cells:=(An.enc O)) (b:=b1) (T:=33) rfl (Kd (i:=0) (j:=1) (e:=.blk b2 (An.enc (An.mk O.Site O.No O.At O.Kind Cw Cw Cw 0 0 Cw 0)) 33) (e':=.blk b1 (An.enc O) 33) S rfl rfl rfl)).kept hw) rfl)) fun a S=>Da 2 S hsel rfl rfl rfl (by kernel_rfl) (by kernel_rfl) rfl (fun _ hw=>(Em Nt (S.tm rfl))) fun a S=>Da 3 S hsel rfl rfl rfl (by kernel_rfl) (by kernel_rfl) rfl (fun _ hw=>(Ep isAgg9 (off:=0) (o:=6) (S.tm rfl) ((S.blk_mem (i:=1) (cells:=(An.enc O)) (b:=b1) (T:=33) rfl (Kd (i:=0) (j:=1) (e:=.blk b2 (An.enc (An.mk O.Site O.No O.At O.Kind Cw Cw Cw 0 0 Cw 0)) 33) (e':=.blk b1 (An.enc O) 33) S rfl rfl rfl)).kept hw) rfl)) fun a S=>Da 4 S hsel rfl rfl rfl (by kernel_rfl) (by kernel_rfl) rfl (fun _ hw=>(Em Lv (S.tm rfl))) fun a S=>Ey 5 (by kernel_rfl) rfl (Ef S (S.tm rfl) (S.tm rfl) (i:=0) (off:=4) rfl sizeOf9 (vs:=[sV O.Who]) rfl rfl rfl rfl ?_);clear S;intro w58 hk52 S
               refine Ld (Fz hk52 (Da 6 S hsel rfl rfl rfl (by kernel_rfl) (by kernel_rfl) rfl (fun _ hw=>(Em Nt (S.tm rfl))) fun a S=>Ey 7 (by kernel_rfl) rfl (Ef S (S.tm rfl) (S.tm rfl) (i:=0) (off:=6) rfl sizeOf9 (vs:=[sV O.Race]) rfl rfl rfl rfl ?_)));clear S;intro w59 hk53 S
               refine Ld (Fz hk53 (So (by kernel_rfl) ?_))
               clear hsel
               replace S:=(S.nl [.blk b2 (An.enc (An.mk O.Site O.No O.At O.Kind O.Who Cw O.Race 0 0 Cw 0)) 33,.blk b1 (An.enc O) 33] [true,true] rfl).k2 1 6 rfl
               exact Tn (⟨O.Who,O.Race,Cw,0,h,S.nf [true,true] rfl (subR rfl)⟩)
             clear S h;rintro a w49 ⟨x23,x24,x25,x26,h,S⟩;rw [hj10] at h;clear hj10 j10
             exact Tn (⟨x23,x24,0,0,x25,x26,h,S.nf [true,true] rfl (subR rfl)⟩)
           clear S h;rintro a w39 ⟨x17,x18,x19,x20,x21,x22,h,S⟩;rw [hj9] at h;clear hj9 j9
           exact Tn (⟨x17,Cw,x18,x19,x20,x21,x22,h,S.nf [true,true] rfl (subR rfl)⟩)
         clear S h;rintro a w29 ⟨x10,x11,x12,x13,x14,x15,x16,h,S⟩;rw [hj8] at h;clear hj8 j8
         exact Ia (Tn (⟨x10,x11,x12,x13,x14,x15,x16,h,S.nf [true,true] rfl (subR rfl)⟩))
        clear S h;rintro a w28 ⟨x3,x4,x5,x6,x7,x8,x9,h,S⟩;rw [hj7] at h;clear hj7 j7
        refine Tn (Fs (Fr (lv S (Ev isAgg33 sizeOf33 (off:=0) (o:=0) (part:=(An.enc O)) rfl rfl (S.tm rfl) (S.cellsAt (i:=1) rfl)) rfl fun a S=>lv S (Ev isAgg33 sizeOf33 (off:=0) (o:=0) (part:=(An.enc (An.mk O.Site O.No O.At O.Kind x3 x4 x5 x6 x7 x8 x9))) rfl rfl (S.tm rfl) (S.cellsAt (i:=0) rfl)) rfl fun a S=>lv S (Rr (m:=O) (n:=(An.mk O.Site O.No O.At O.Kind x3 x4 x5 x6 x7 x8 x9)) (S.tm rfl) (S.tm rfl)) rfl fun a S=>Dl (Fc h (S.tm rfl) (fun hb23 h=>?_) (fun hb23 h=>?_)))))
        ·refine Fr (Vk S rfl rfl fun a S=>Dl (wp_ret (Dc ?_)))
         obtain rfl:=Option.some.inj h
         exact Dx S results43 rfl rfl
        ·refine wp_skip (Tn (Fr (Vk S rfl rfl fun a S=>Dl (wp_ret ?_))))
         obtain rfl:=Option.some.inj h
         exact Dx S results43 rfl rfl
theorem Mh (w : World) (O : Int) (r : Bool) (h : Lh O = r) :
    Calls prog 73 [iV O].toArray w (Ret w [] fun _ v _=>v = bV r):=by
 refine Fe func73 rfl ntmps73 rfl fun a S=>?_
 unfold Lh at h
 replace S:=S.k1 0 rfl
 refine Fr (Vk S rfl rfl fun a S=>Dz (Vm S rfl rfl fun a S=>Vm S rfl rfl fun a S=>Vb S Io rfl rfl rfl fun a S=>Va S rfl rfl ?_));clear S;intro a S
 refine Dl (wp_ret ?_)
 subst h
 exact Dx S results73 rfl rfl
theorem Lm (w : World) (O : Int) (Cq : Int) (r : Int) (h : Eu O Cq = r) :
    Calls prog 53 [iV O,iV Cq].toArray w (Ret w [] fun _ v _=>v = iV r):=by
 refine Fe func53 rfl ntmps53 rfl fun a S=>?_
 unfold Eu at h
 replace S:=S.k2 0 1 rfl
 refine Fr (Vk S rfl rfl fun a S=>Dz (Vm S rfl rfl fun a S=>De S (fun _=>Cy (vs:=[iV O]) ⟨(S.tm rfl),trivial⟩ call73) (Mh _ O _ rfl) rfl ?_));clear S;intro v1 a w1 hv1 hk1 hn1 S
 subst hv1
 refine Va S rfl rfl fun a S=>Dz (Vm S rfl rfl fun a S=>De S (fun _=>Cy (vs:=[iV Cq]) ⟨(S.tm rfl),trivial⟩ call73) (Mh _ Cq _ rfl) rfl ?_);clear S;intro v2 a w2 hv2 hk2 hn2 S
 subst hv2
 refine Va S rfl rfl fun a S=>Dl (Fs (Fr (Vm S rfl rfl fun a S=>Dl (Fc h (S.tm rfl) (fun hb1 h=>?_) (fun hb1 h=>?_)))))
 ·refine Fs (Fr (Vm S rfl rfl fun a S=>Dl (Fc h (S.tm rfl) (fun hb2 h=>?_) (fun hb2 h=>?_))))
  ·refine Fr (Vk S rfl rfl fun a S=>Dl (wp_ret (Dc (Dc ?_))))
   subst h
   exact Dx S results53 rfl rfl
  ·refine wp_skip (Tn (Fr (Vk S rfl rfl fun a S=>Dl (wp_ret (Dc ?_)))))
   subst h
   exact Dx S results53 rfl rfl
 ·refine wp_skip (Tn (Fs (Fr (Vm S rfl rfl fun a S=>Dl (Fc h (S.tm rfl) (fun hb3 h=>?_) (fun hb3 h=>?_))))))
  ·refine Fr (Vk S rfl rfl fun a S=>Dl (wp_ret (Dc ?_)))
   subst h
   exact Dx S results53 rfl rfl
  ·refine wp_skip (Tn (Fs (Fr (Vm S rfl rfl fun a S=>Vm S rfl rfl fun a S=>Vb S Fa rfl rfl rfl fun a S=>Dl (Fc h (S.tm rfl) (fun hb4 h=>?_) (fun hb4 h=>?_))))))
   ·refine Fr (Vk S rfl rfl fun a S=>Dl (wp_ret (Dc ?_)))
    subst h
    exact Dx S results53 rfl rfl
   ·refine wp_skip (Tn (Fs (Fr (Vm S rfl rfl fun a S=>Vm S rfl rfl fun a S=>Vb S Jn rfl rfl rfl fun a S=>Ld ?_))))
    replace S:=S.k1 19 rfl
    refine Tn (Fc h (S.tm rfl) (fun hb5 h=>?_) (fun hb5 h=>?_))
    ·refine Fr (Vk S rfl rfl fun a S=>Dl (wp_ret (Dc ?_)))
     subst h
     exact Dx S results53 rfl rfl
    ·refine wp_skip (Tn (Fr (Vk S rfl rfl fun a S=>Dl (wp_ret ?_))))
     subst h
     exact Dx S results53 rfl rfl
theorem Rd (w : World) (Co : Value) (Cl : List Int) (Cm : Slc (view w []) 1 Co (Cl.map eInt)) (r : Int) (h : Oj Cl = r) :
    Calls prog 52 [Co].toArray w (Ret w [] fun _ v _=>v = iV r):=by
 refine Fe func52 rfl ntmps52 rfl fun a S=>?_
 unfold Oj at h
 replace S:=S.k1 0 rfl
 refine Fr (Vk S rfl rfl fun a S=>Dz (Vk S rfl rfl fun a S=>Dl (Fs ?_)))
 refine Fr (Vm S rfl rfl fun a S=>lv S (Fd Kz (S.tm rfl) (Fb Cm)) rfl fun a S=>lv S (Rm rfl) rfl fun a S=>Dl ?_)
 replace S:=S.k4 3 6 7 8 rfl
 obtain ⟨j1,hj1,h⟩:=En h
 refine Ec (fun a w'=>j1 = r ∧ Sx w [] nov [] [(3,iV 0)] 18 a w') ?_ ?_
 ·refine wp_block (Hx (fun (ys1 : List Int) a w'=>∃ i1 : Nat,(∃ dn,Cl = dn ++ ys1 ∧ dn.length = i1) ∧ Jc j1 ys1 i1 = r ∧ Sx w [] nov [] [(3,iV 0),(6,Co),(7,iV (Cl.length : Int)),(8,iV (i1 : Int))] 18 a w') List.length Cl ⟨0,⟨[],rfl,rfl⟩,h,S.nf [] rfl (subR rfl)⟩ ?_)
  clear S h;rintro ys1 a w1 ⟨i1,⟨dn,hd1,hi1⟩,h,S⟩
  cases ys1 with
  | nil =>
   rw [Jc.eq_1] at h
   refine Fr (Vb S Fa rfl rfl rfl fun a S=>Ld ?_)
   replace S:=S.k5 3 6 7 8 9 rfl
   exact Tn (Fs (wp_cond_false ((S.tm rfl).trans (congrArg Value.bool (Jk hd1 hi1))) (wp_exit (Et (Et (Hp (Tn (⟨h,S.nf [] rfl ⟨rfl,trivial⟩⟩))))))))
  | cons y1 ys1 =>
   rw [Jc.eq_2] at h
   refine Fr (Vb S Fa rfl rfl rfl fun a S=>Ld ?_)
   replace S:=S.k5 3 6 7 8 9 rfl
   refine Tn (Fs (wp_cond_true ((S.tm rfl).trans (congrArg Value.bool (Hy hd1 hi1))) (wp_skip (Tn (Fs (wp_block (Fs (Fg ?_))))))))
   obtain ⟨b1,o1,hm1,hr1⟩:=Dt (a:=a) (x:=.tmp 6) (y:=.tmp 8) (ty:=0) Kz Cm (Jp hd1 hi1) rfl (S.tm rfl) (S.tm rfl)
   refine lv S (hr1 _) rfl ?_;clear S;intro a S
   clear hr1
   refine lv S (Ep isAgg3 (off:=o1) (o:=0) (S.tm rfl) (hm1.at S.emb0) rfl) rfl fun a S=>Va S rfl rfl fun a S=>Dz (Vm S rfl rfl fun a S=>Vm S rfl rfl fun a S=>Vb S Io rfl rfl rfl fun a S=>Dl ?_)
   refine Fc h (S.tm rfl) (fun hb1 h=>?_) (fun hb1 h=>?_)
   ·refine Fr (Vm S rfl rfl fun a S=>Va S rfl rfl fun a S=>Dl (wp_ret (Gg (Dc (Dc (Gg ?_))))))
    refine Dc (Dc ?_)
    subst h
    exact Dx S results52 rfl rfl
   ·exact wp_skip (Ia (Tn (Fg (Vq S Ge rfl rfl rfl fun a S=>Vm S rfl rfl fun a S=>Dl (⟨ys1,⟨i1 + 1,⟨_,(hd1).trans (List.append_cons _ _ _),by simp [hi1]⟩,h,S.nf [] rfl ⟨rfl,rfl,rfl,(congrArg (fun z=>some (Value.int .i64 z)) (Hz hd1 hi1 (Iz Cm))),trivial⟩⟩,Nat.lt_succ_self _⟩)))))
 clear S h;rintro a w2 ⟨h,S⟩;rw [hj1] at h;clear hj1 j1
 refine Tn (Fr (Vm S rfl rfl fun a S=>Va S rfl rfl fun a S=>Dl (wp_ret ?_)))
 subst h
 exact Dx S results52 rfl rfl
set_option maxRecDepth 20000 in
theorem meet_compare_ok (w : World) (Am : An) (Ao : An) (r : Int) (h : Ex Am Ao = r) :
    Calls prog 35 [.agg (An.enc Am).toArray,.agg (An.enc Ao).toArray].toArray w (Ret w [] fun _ v _=>v = iV r):=by
 refine Fe func35 rfl ntmps35 rfl fun a S=>?_
 unfold Ex at h
 replace S:=S.k2 0 1 rfl
 refine Fr (Kw S (S.tm rfl) (cs:=(An.enc Am)) rfl rfl ?_);clear S;intro a w1 b1 hz1 hk1 S
 refine Kw S (S.tm rfl) (cs:=(An.enc Ao)) rfl rfl ?_;clear S;intro a w2 b2 hz2 hk2 S
 refine Vk S rfl rfl fun a S=>Dl (Fs (Fm [] ([]) Tryz.mixed S rfl (by kernel_rfl) ?_));clear S;intro w8 hk8 hsel S
 refine Da 0 S hsel rfl rfl rfl (by kernel_rfl) (by kernel_rfl) rfl (fun _ hw=>(Em Jv (S.tm rfl))) fun a S=>Da 1 S hsel rfl rfl rfl (by kernel_rfl) (by kernel_rfl) rfl (fun _ hw=>(Ep isAgg3 (off:=0) (o:=2) (S.tm rfl) ((S.blk_mem (i:=1) (cells:=(An.enc Am)) (b:=b1) (T:=33) rfl (Gs (e':=.blk b1 (An.enc Am) 33))).kept hw) rfl)) fun a S=>Da 2 S hsel rfl rfl rfl (by kernel_rfl) (by kernel_rfl) rfl (fun _ hw=>(Em Jv (S.tm rfl))) fun a S=>Da 3 S hsel rfl rfl rfl (by kernel_rfl) (by kernel_rfl) rfl (fun _ hw=>(Ep isAgg3 (off:=0) (o:=2) (S.tm rfl) ((S.blk_mem (i:=0) (cells:=(An.enc Ao)) (b:=b2) (T:=33) rfl (Gs (e':=.blk b2 (An.enc Ao) 33))).kept hw) rfl)) fun a S=>Da 5 S hsel rfl rfl rfl (by kernel_rfl) (by kernel_rfl) rfl (fun _ hw=>(Em Ih (S.tm rfl))) fun a S=>Da 6 S hsel rfl rfl rfl (by kernel_rfl) (by kernel_rfl) rfl (fun _ hw=>(Ep isAgg9 (off:=0) (o:=0) (S.tm rfl) ((S.blk_mem (i:=1) (cells:=(An.enc Am)) (b:=b1) (T:=33) rfl (Gs (e':=.blk b1 (An.enc Am) 33))).kept hw) rfl)) fun a S=>Da 7 S hsel rfl rfl rfl (by kernel_rfl) (by kernel_rfl) rfl (fun _ hw=>(Em Ih (S.tm rfl))) fun a S=>Da 8 S hsel rfl rfl rfl (by kernel_rfl) (by kernel_rfl) rfl (fun _ hw=>(Ep isAgg9 (off:=0) (o:=0) (S.tm rfl) ((S.blk_mem (i:=0) (cells:=(An.enc Ao)) (b:=b2) (T:=33) rfl (Gs (e':=.blk b2 (An.enc Ao) 33))).kept hw) rfl)) fun a S=>Da 10 S hsel rfl rfl rfl (by kernel_rfl) (by kernel_rfl) rfl (fun _ hw=>(Em Hd (S.tm rfl))) fun a S=>Da 11 S hsel rfl rfl rfl (by kernel_rfl) (by kernel_rfl) rfl (fun _ hw=>(Ep isAgg3 (off:=0) (o:=1) (S.tm rfl) ((S.blk_mem (i:=1) (cells:=(An.enc Am)) (b:=b1) (T:=33) rfl (Gs (e':=.blk b1 (An.enc Am) 33))).kept hw) rfl)) fun a S=>Da 12 S hsel rfl rfl rfl (by kernel_rfl) (by kernel_rfl) rfl (fun _ hw=>(Em Hd (S.tm rfl))) ?_;clear S;intro a S
 refine Da 13 S hsel rfl rfl rfl (by kernel_rfl) (by kernel_rfl) rfl (fun _ hw=>(Ep isAgg3 (off:=0) (o:=1) (S.tm rfl) ((S.blk_mem (i:=0) (cells:=(An.enc Ao)) (b:=b2) (T:=33) rfl (Gs (e':=.blk b2 (An.enc Ao) 33))).kept hw) rfl)) fun a S=>Ey 4 (by kernel_rfl) rfl (De S (fun _=>Cy (vs:=[iV Am.At,iV Ao.At]) ⟨(S.tm rfl),(S.tm rfl),trivial⟩ call53) (Lm _ Am.At Ao.At _ rfl) rfl ?_);clear S;intro v5 a w9 hv5 hk9 hn5 S
 subst hv5
 refine Ld (Fz hk9 (Ey 9 (by kernel_rfl) rfl (De S (fun _=>Cy (vs:=[sV Am.Site,sV Ao.Site]) ⟨(S.tm rfl),(S.tm rfl),trivial⟩ call47) (Ko _ Am.Site Ao.Site _ rfl) rfl ?_)));clear S;intro v6 a w10 hv6 hk10 hn6 S
 subst hv6
 refine Ld (Fz hk10 (Ey 14 (by kernel_rfl) rfl (De S (fun _=>Cy (vs:=[iV Am.No,iV Ao.No]) ⟨(S.tm rfl),(S.tm rfl),trivial⟩ call53) (Lm _ Am.No Ao.No _ rfl) rfl ?_)));clear S;intro v7 a w11 hv7 hk11 hn7 S
 subst hv7
 refine Ld (Fz hk11 (Ey 15 (by kernel_rfl) rfl (Eg S underlying22 sizeOf3 zeroValue3 rfl rfl (pv:=[(0,iV (Eu Am.At Ao.At)),(1,iV (Gi Am.Site Ao.Site)),(2,iV (Eu Am.No Ao.No))]) ⟨rfl,(S.tm rfl),rfl,(S.tm rfl),rfl,(S.tm rfl),trivial⟩ (cs:=[iV (Eu Am.At Ao.At),iV (Gi Am.Site Ao.Site),iV (Eu Am.No Ao.No)]) (by kernel_rfl) rfl ?_)));clear S;intro a w12 b4 hz4 hk12 S
 refine Ld (Fz hk12 (Ey 16 (by kernel_rfl) rfl (De S (fun _=>Cy (vs:=[.slice (some ⟨b4,0,none⟩) 3 3]) ⟨(S.tm rfl),trivial⟩ call52) (Rd _ (.slice (some ⟨b4,0,none⟩) 3 3) [(Eu Am.At Ao.At),(Gi Am.Site Ao.Site),(Eu Am.No Ao.No)] (Jh Iu S (i:=0) rfl rfl rfl rfl ((Gs (e':=.blk b4 [iV (Eu Am.At Ao.At),iV (Gi Am.Site Ao.Site),iV (Eu Am.No Ao.No)] 3)) _ rfl)) _ rfl) rfl ?_)));clear S;intro v8 a w13 hv8 hk13 hn8 S
 subst hv8
 refine Ld (Fz hk13 (Ip [17] hsel (by kernel_rfl) rfl ?_))
 clear hsel
 refine Er S rfl (Ra (S.tm rfl)) rfl fun a S=>Iq ?_
 replace S:=S.n0.k1 4 rfl
 refine Tn (wp_ret ?_)
 subst h
 exact Dx S results35 rfl rfl
theorem Na (w : World) (O : An) (r : Cz) (h : Cx O = r) :
    Calls prog 33 [.agg (An.enc O).toArray].toArray w (Ret w [] fun _ v _=>v = .agg (Cz.enc r).toArray):=by
 refine Fe func33 rfl ntmps33 rfl fun a S=>?_
 unfold Cx at h
 replace S:=S.k1 0 rfl
 refine Fr (Kw S (S.tm rfl) (cs:=(An.enc O)) rfl rfl ?_);clear S;intro a w1 b1 hz1 hk1 S
 refine It S zeroValue60 (cs:=[sV Cw,iV 0]) rfl rfl ?_;clear S;intro a w2 b2 hz2 hk2 S
 refine Dz (Vf Ih S rfl rfl fun a S=>Vl isAgg9 1 S rfl rfl rfl rfl fun a S=>Vf Hd S rfl rfl fun a S=>Vl isAgg3 1 S rfl rfl rfl rfl fun a S=>lv S (Nw bt_60 (pv:=[(0,sV O.Site),(1,iV O.No)]) ⟨rfl,(S.tm rfl),rfl,(S.tm rfl),trivial⟩ (cs:=[sV O.Site,iV O.No]) (by kernel_rfl)) rfl fun a S=>Ef S (S.tm rfl) (S.tm rfl) (i:=0) (off:=0) rfl sizeOf60 (vs:=[sV O.Site,iV O.No]) rfl rfl rfl rfl ?_);clear S;intro w3 hk3 S
 refine Dl (wp_ret ?_)
 subst h
 exact Vo S (rs:=[.cell 2 60]) (vs:=[.agg #[sV O.Site,iV O.No]]) results33 ⟨(Ri (off:=0) S rfl isAgg60 sizeOf60 rfl (S.cellsAt (i:=0) rfl)),trivial⟩ rfl rfl
set_option maxRecDepth 20000 in
theorem Kp (w : World) (Aa : Value) (Ae : List An) (Ad : Slc (view w []) 11 Aa (Ae.map An.enc)) (r : Int) (h : Gu Ae = some r) :
    Calls prog 17 [Aa].toArray w (Ret w [] fun _ v _=>v = iV r):=by
 refine Fe func17 rfl ntmps17 rfl fun a S=>?_
 unfold Gu at h
 replace S:=S.k1 0 rfl
 refine Fr (Vk S rfl rfl fun a S=>Dl (Fs (Fr (Vm S rfl rfl fun a S=>lv S (Fd Es (S.tm rfl) (Fb Ad)) rfl fun a S=>Vq S Jn rfl rfl rfl ?_))));clear S;intro a S
 refine Dl (Fc h (S.tm rfl) (fun hb1 h=>?_) (fun hb1 h=>?_))
 ·refine Fr (Vk S rfl rfl fun a S=>Dl (wp_ret (Dc ?_)))
  obtain rfl:=Option.some.inj h
  exact Dx S results17 rfl rfl
 ·refine wp_skip (Tn (Fr (Tp (κ:=Cz) (ν:=Bool) S rfl (fun x=>Value.agg (Cz.enc x).toArray) Value.bool ?_)));clear S;intro a w1 b1 hz1 hk1 S
  refine Va S rfl rfl fun a S=>Dz (Vk S rfl rfl fun a S=>Dl (Fs (Fs (Fg ?_))))
  refine Vm S rfl rfl fun a S=>lv S (Fd Es (S.tm rfl) (Fb Ad)) rfl fun a S=>lv S (Rm rfl) rfl fun a S=>Dl ?_
  replace S:=(S.nl [.map b1 (Gy (fun x=>Value.agg (Cz.enc x).toArray) Value.bool ([] : List (Cz × Bool))) ([] : List (Cz × Bool)).length] [true] rfl).k6 0 3 4 12 13 14 rfl
  obtain ⟨j1,hj1,h⟩:=En h
  refine Ec (fun a w'=>∃ x1 : List (Cz × Bool),∃ x2 : Bool,j1 x1 x2 = some r ∧ Sx w [] nov [.map b1 (Gy (fun x=>Value.agg (Cz.enc x).toArray) Value.bool x1) x1.length] [(4,bV x2)] 48 a w') ?_ ?_
  ·refine wp_block (Hx (fun (ys1 : List An) a w'=>∃ i1 : Nat,∃ x1 : List (Cz × Bool),∃ x2 : Bool,(∃ dn,Ae = dn ++ ys1 ∧ dn.length = i1) ∧ Fp Ae j1 ys1 i1 x1 x2 = some r ∧ Sx w [] nov [.map b1 (Gy (fun x=>Value.agg (Cz.enc x).toArray) Value.bool x1) x1.length] [(0,Aa),(3,.map (some b1)),(4,bV x2),(12,Aa),(13,iV (Ae.length : Int)),(14,iV (i1 : Int))] 48 a w') List.length Ae ⟨0,([] : List (Cz × Bool)),false,⟨[],rfl,rfl⟩,h,S.nf [true] rfl (subR rfl)⟩ ?_)
   clear S h;rintro ys1 a w2 ⟨i1,x1,x2,⟨dn,hd1,hi1⟩,h,S⟩
   cases ys1 with
   | nil =>
    rw [Fp.eq_1] at h
    refine Fr (Vb S Fa rfl rfl rfl fun a S=>Ld ?_)
    replace S:=S.k7 0 3 4 12 13 14 15 rfl
    exact Tn (Fs (wp_cond_false ((S.tm rfl).trans (congrArg Value.bool (Jk hd1 hi1))) (wp_exit (Et (Et (Hp (Tn (⟨x1,x2,h,S.nf [true] rfl ⟨rfl,trivial⟩⟩))))))))
   | cons y1 ys1 =>
    rw [Fp.eq_2] at h
    refine Fr (Vb S Fa rfl rfl rfl fun a S=>Ld ?_)
    replace S:=S.k7 0 3 4 12 13 14 15 rfl
    refine Tn (Fs (wp_cond_true ((S.tm rfl).trans (congrArg Value.bool (Hy hd1 hi1))) (wp_skip (Tn (Fs (wp_block (Fr (Vm S rfl rfl ?_))))))));clear S;intro a S
    obtain ⟨b2,o1,hm1,hr1⟩:=Dt (a:=a) (x:=.tmp 12) (y:=.tmp 14) (ty:=0) Es Ad (Jp hd1 hi1) rfl (S.tm rfl) (S.tm rfl)
    refine lv S (hr1 _) rfl ?_;clear S;intro a S
    clear hr1
    refine lv S (Ev isAgg33 sizeOf33 (off:=o1) (o:=0) (part:=(An.enc y1)) rfl rfl (S.tm rfl) (hm1.at S.emb0)) rfl fun a S=>It S zeroValue33 (cs:=[sV Cw,iV 0,iV 0,iV 0,sV Cw,sV Cw,sV Cw,iV 0,iV 0,sV Cw,iV 0]) rfl rfl ?_;clear S;intro a w4 b3 hz2 hk2 S
    refine Va S rfl rfl fun a S=>Ef S (S.tm rfl) (S.tm rfl) (i:=0) (off:=0) rfl sizeOf33 (vs:=(An.enc y1)) rfl rfl rfl rfl ?_;clear S;intro w5 hk3 S
    refine Dl (Fs (Fr (lv S (Ev isAgg33 sizeOf33 (off:=0) (o:=0) (part:=(An.enc y1)) rfl rfl (S.tm rfl) (S.cellsAt (i:=0) rfl)) rfl ?_)));clear S;intro a S
    obtain ⟨r1,hr2,h⟩:=El h
    refine De S (fun _=>Cy (vs:=[.agg (An.enc y1).toArray]) ⟨(S.tm rfl),trivial⟩ call43) (Qz _ y1 _ hr2) rfl ?_;clear S;intro v1 a w6 hv1 hk4 hn1 S
    subst hv1
    refine Va S rfl rfl fun a S=>Ld ?_
    replace S:=(S.nl [.blk b3 (An.enc y1) 33,.map b1 (Gy (fun x=>Value.agg (Cz.enc x).toArray) Value.bool x1) x1.length] [true,true] rfl).k9 0 3 4 5 6 7 12 13 14 rfl
    refine Tn (Fr (Vm S rfl rfl fun a S=>Vq S Io rfl rfl rfl fun a S=>Dl (Fc h (S.tm rfl) (fun hb2 h=>?_) (fun hb2 h=>?_))))
    ·refine Fr (Vm S rfl rfl fun a S=>Va S rfl rfl fun a S=>Dl (wp_ret (Dc (Gg (Dc (Dc ?_))))))
     refine Gg (Dc (Dc ?_))
     obtain rfl:=Option.some.inj h
     exact Dx S results17 rfl rfl
    ·refine wp_skip (Tn (Fs (Fs ?_)))
     obtain ⟨j2,hj2,h⟩:=En h
     refine Ec (fun a w'=>∃ x3 : Bool,j2 x3 = some r ∧ Sx w [] nov [.blk b3 (An.enc y1) 33,.map b1 (Gy (fun x=>Value.agg (Cz.enc x).toArray) Value.bool x1) x1.length] [(0,Aa),(3,.map (some b1)),(4,bV x2),(6,.pointer (some ⟨b3,0,none⟩)),(12,Aa),(13,iV (Ae.length : Int)),(14,iV (i1 : Int)),(35,bV x3)] 48 a w') ?_ ?_
     ·rcases Bool.eq_false_or_eq_true (decide (0 < (i1 : Int))) with hb3 | hb3
      ·replace h:=Nq h hb3
       obtain ⟨hc1,h⟩:=Hw h
       refine Fm [] ([]) Tryz.mixed S rfl (by kernel_rfl) ?_;clear S;intro w9 hk6 hsel S
       refine Da 0 S hsel rfl rfl rfl (by kernel_rfl) (by kernel_rfl) rfl (fun _ hw=>(Rm (S.tm rfl))) fun a S=>Da 1 S hsel rfl rfl rfl (by kernel_rfl) (by kernel_rfl) rfl (fun _ hw=>(Jn (S.tm rfl) rfl)) fun a S=>Da 2 S hsel rfl rfl rfl (by kernel_rfl) (by kernel_rfl) rfl (fun _ hw=>(Rm (S.tm rfl))) fun a S=>Df 3 S hsel rfl rfl rfl rfl hb3 rfl rfl (by kernel_rfl) (by kernel_rfl) rfl (fun _ hw=>(Rm (S.tm rfl))) fun a S=>Df 4 S hsel rfl rfl rfl rfl hb3 rfl rfl (by kernel_rfl) (by kernel_rfl) rfl (fun _ hw=>(Rm (S.tm rfl))) fun a S=>Df 5 S hsel rfl rfl rfl rfl hb3 rfl rfl (by kernel_rfl) (by kernel_rfl) rfl (fun _ hw=>(Kh (S.tm rfl) rfl)) ?_;clear S;intro a S
       obtain ⟨b5,o3,hm3,hr4⟩:=Dt (a:=a) (x:=.tmp 27) (y:=.tmp 29) (ty:=0) Es (Ad.mono (S.le_arg Dj)) (Dg hc1).1 (Dg hc1).2 (S.tm rfl) (S.tm rfl)
       refine Df 6 S hsel rfl rfl rfl rfl hb3 rfl rfl (by kernel_rfl) (by kernel_rfl) rfl (fun _ hw=>hr4 _) ?_;clear S;intro a S
       clear hr4
       refine Df 7 S hsel rfl rfl rfl rfl hb3 rfl rfl (by kernel_rfl) (by kernel_rfl) rfl (fun _ hw=>(Ev isAgg33 sizeOf33 (off:=o3) (o:=0) (part:=(An.enc (nth Ae (W ((i1 : Int) - 1))))) rfl rfl (S.tm rfl) (hm3.kept hw))) fun a S=>Df 8 S hsel rfl rfl rfl rfl hb3 rfl rfl (by kernel_rfl) (by kernel_rfl) rfl (fun _ hw=>(Ev isAgg33 sizeOf33 (off:=0) (o:=0) (part:=(An.enc y1)) rfl rfl (S.tm rfl) ((S.blk_mem (i:=0) (cells:=(An.enc y1)) (b:=b3) (T:=33) rfl (Gs (e':=.blk b3 (An.enc y1) 33))).kept hw))) fun a S=>Ey 9 (by kernel_rfl) rfl (Db S rfl rfl rfl hb3 (De S (fun _=>Cy (vs:=[.agg (An.enc (nth Ae (W ((i1 : Int) - 1)))).toArray,.agg (An.enc y1).toArray]) ⟨(S.tm rfl),(S.tm rfl),trivial⟩ call35) (meet_compare_ok _ (nth Ae (W ((i1 : Int) - 1))) y1 _ rfl) rfl ?_));clear S;intro v3 a w10 hv3 hk7 hn3 S
       subst hv3
       refine Ld (Fz hk7 (Ip [10,11] hsel (by kernel_rfl) rfl ?_))
       clear hsel
       refine Gt S rfl rfl rfl rfl hb3 (Hv S (Nk (S.tm rfl) rfl) rfl fun a S=>Er S rfl (Ix hb3 (S.tm rfl) (S.tm rfl)) rfl fun a S=>Iq ?_)
       replace S:=S.k16 0 3 4 6 12 13 14 27 28 29 30 31 32 33 34 35 rfl
       exact Tn (⟨decide (0 ≤ (Ex (nth Ae (W ((i1 : Int) - 1))) y1)),h,S.nf [true,true] rfl (subR rfl)⟩)
      ·replace h:=Nr h hb3
       refine Fm [] ([]) Tryz.mixed S rfl (by kernel_rfl) ?_;clear S;intro w11 hk8 hsel S
       refine Ip [0,1,2,3,4,5,6,7,8,9,10,11] hsel (by kernel_rfl) rfl ?_
       clear hsel
       refine Er S rfl (Rm (S.tm rfl)) rfl fun a S=>Er S rfl (Jn (S.tm rfl) rfl) rfl fun a S=>Er S rfl (Rm (S.tm rfl)) rfl ?_;clear S;intro a S
       iterate 8 (refine Oi S rfl rfl rfl rfl (Fl hb3) rfl ?_ rfl;clear S;intro a S)
       refine Er S rfl (Iy hb3 (S.tm rfl) rfl) rfl fun a S=>Iq ?_
       replace S:=S.k8 0 3 4 6 12 13 14 35 rfl
       exact Tn (⟨false,h,S.nf [true,true] rfl (subR rfl)⟩)
     clear S h;rintro a w7 ⟨x3,h,S⟩;rw [hj2] at h;clear hj2 j2
     refine Tn (Fc h (S.tm rfl) (fun hb4 h=>?_) (fun hb4 h=>?_))
     ·refine Fr (Vk S rfl rfl fun a S=>Dl (wp_ret (Dc (Gg (Dc (Dc (Gg ?_)))))))
      refine Dc (Dc ?_)
      obtain rfl:=Option.some.inj h
      exact Dx S results17 rfl rfl
     ·refine wp_skip (Tn (Fr (Vm S rfl rfl fun a S=>Vm S rfl rfl fun a S=>Gr 5 (fun a w'=>Keep [] w7 w' ∧ Sx w [] nov [.blk b3 (An.enc y1) 33,.map b1 (Gy (fun x=>Value.agg (Cz.enc x).toArray) Value.bool x1) x1.length] [(0,Aa),(3,.map (some b1)),(6,.pointer (some ⟨b3,0,none⟩)),(12,Aa),(13,iV (Ae.length : Int)),(14,iV (i1 : Int)),(42,bV (x2 || (Dw x1 (Cx y1) false)))] 48 a w') ?_ ?_)))
      ·rcases Bool.eq_false_or_eq_true x2 with hb5 | hb5
       ·iterate 4 (refine Gd S rfl rfl rfl (Mn hb5) rfl ?_ rfl;clear S;intro a S)
        exact lv S (Kj (Dw x1 (Cx y1) false) hb5 (S.tm rfl) rfl) rfl fun a S=>Dl (⟨Keep.refl _ _,S.nf [true,true] rfl (subR rfl)⟩)
       ·refine Db S rfl rfl rfl hb5 (Vm S rfl rfl fun a S=>Db S rfl rfl rfl hb5 (lv S (Ev isAgg33 sizeOf33 (off:=0) (o:=0) (part:=(An.enc y1)) rfl rfl (S.tm rfl) (S.cellsAt (i:=0) rfl)) rfl fun a S=>Db S rfl rfl rfl hb5 (De S (fun _=>Cy (vs:=[.agg (An.enc y1).toArray]) ⟨(S.tm rfl),trivial⟩ call33) (Na _ y1 _ rfl) rfl ?_)));clear S;intro v4 a w13 hv4 hk9 hn4 S
        subst hv4
        exact Db S rfl rfl rfl hb5 (lv S (Rk (kv:=(fun x=>Value.agg (Cz.enc x).toArray)) (vv:=Value.bool) (m:=x1) (key:=(Cx y1)) (z:=false) (S.map_at (i:=1) rfl) underlying66 Ts zeroValue4 (S.tm rfl) (S.tm rfl)) rfl fun a S=>lv S (Kk hb5 (S.tm rfl) (S.tm rfl)) rfl fun a S=>Dl (⟨hk9,S.nf [true,true] rfl (subR rfl)⟩))
      clear S;rintro a w12 ⟨hk10,S⟩
      refine Va S rfl rfl fun a S=>Dl (Fg (Vm S rfl rfl fun a S=>lv S (Ev isAgg33 sizeOf33 (off:=0) (o:=0) (part:=(An.enc y1)) rfl rfl (S.tm rfl) (S.cellsAt (i:=0) rfl)) rfl fun a S=>De S (fun _=>Cy (vs:=[.agg (An.enc y1).toArray]) ⟨(S.tm rfl),trivial⟩ call33) (Na _ y1 _ rfl) rfl ?_));clear S;intro v5 a w14 hv5 hk11 hn5 S
      subst hv5
      refine Qv (kv:=(fun x=>Value.agg (Cz.enc x).toArray)) (vv:=Value.bool) (m:=x1) (key:=(Cx y1)) (val:=true) S (i:=1) rfl underlying66 Ts (S.tm rfl) (S.tm rfl) rfl ?_;clear S;intro w15 hk12 S
      exact Ld (Ia (Tn (Fg (Vq S Ge rfl rfl rfl fun a S=>Vm S rfl rfl fun a S=>Dl (⟨ys1,⟨i1 + 1,(Ff x1 (Cx y1) true),(x2 || (Dw x1 (Cx y1) false)),⟨_,(hd1).trans (List.append_cons _ _ _),by simp [hi1]⟩,h,S.nf [false,true] rfl ⟨rfl,rfl,rfl,rfl,rfl,(congrArg (fun z=>some (Value.int .i64 z)) (Hz hd1 hi1 (Iz Ad))),trivial⟩⟩,Nat.lt_succ_self _⟩)))))
  clear S h;rintro a w3 ⟨x1,x2,h,S⟩;rw [hj1] at h;clear hj1 j1
  refine Tn (Fs (Fr (Vm S rfl rfl fun a S=>Dl (Fc h (S.tm rfl) (fun hb6 h=>?_) (fun hb6 h=>?_)))))
  ·refine Fr (Vk S rfl rfl fun a S=>Dl (wp_ret (Dc ?_)))
   obtain rfl:=Option.some.inj h
   exact Dx S results17 rfl rfl
  ·refine wp_skip (Tn (Fr (Vk S rfl rfl fun a S=>Dl (wp_ret ?_))))
   obtain rfl:=Option.some.inj h
   exact Dx S results17 rfl rfl
theorem Nx (w : World) (Bg : Value) (O : List An) (Ca : (LEnt.own Bg 33 11 O.length (O.flatMap An.enc)).holds w) (r : (List An)) (h : Fx O = some r) :
    Calls prog 34 [Bg,.func (.func 35) #[] #[]].toArray w (Ret w (Bg.ownBlock.toList) fun _ v w'=>(LEnt.own Bg 33 11 r.length (r.flatMap An.enc)).holds w' ∧ v = .tuple #[]):=by
  unfold Fx at h
  split at h
  · rename_i hc
    obtain rfl:=Option.some.inj h
    exact Ys (enc:=An.enc) Tryz.laysg34 isAgg33 sizeOf33 An.enc_ok (enters_of func35 (by kernel_rfl) rfl) (fun w x y=>D.meet_compare_ok w x y _ rfl) hc.1 hc.2 Ca
  · cases h
theorem Yd (w : World) (Bq : Value) (Am : List An) (Cb : Slc (view w []) 11 Bq (Am.map An.enc)) (Bo : Value) (Ao : List An) (Bz : Slc (view w []) 11 Bo (Ao.map An.enc)) (r : (List An) × Int) (h : Mt Am Ao = some r) :
    Calls prog 11 [Bq,Bo].toArray w (Ret w [] fun τ v _=>∃ u1 : Value,v = .tuple #[u1,iV r.2] ∧ Mq τ 33 11 u1 r.1.length (r.1.flatMap An.enc)):=by
 refine Fe func11 rfl ntmps11 rfl fun a S=>?_
 unfold Mt at h
 replace S:=S.k2 0 1 rfl
 refine Fr (Vk S rfl rfl fun a S=>Vk S rfl rfl fun a S=>Dl (Fs (Fr (Vm S rfl rfl ?_))));clear S;intro a S
 obtain ⟨r1,hr1,h⟩:=El h
 refine De S (fun _=>Cy (vs:=[Bq]) ⟨(S.tm rfl),trivial⟩ call17) (Kp _ Bq Am (Cb.mono (S.le_arg Dj)) _ hr1) rfl ?_;clear S;intro v1 a w1 hv1 hk1 hn1 S
 subst hv1
 refine Va S rfl rfl fun a S=>Dz (Vm S rfl rfl fun a S=>Vq S Io rfl rfl rfl fun a S=>Dl (Fc h (S.tm rfl) (fun hb1 h=>?_) (fun hb1 h=>?_)))
 ·refine Fr (Vm S rfl rfl fun a S=>Vk S rfl rfl fun a S=>Va S rfl rfl fun a S=>Dl (wp_ret (Dc ?_)))
  obtain rfl:=Option.some.inj h
  exact Ki S results11 rfl rfl ⟨_,rfl,(Jg _ _ _)⟩
 ·refine wp_skip (Tn (Fs (Fr (Vm S rfl rfl ?_))));clear S;intro a S
  obtain ⟨r2,hr2,h⟩:=El h
  refine De S (fun _=>Cy (vs:=[Bo]) ⟨(S.tm rfl),trivial⟩ call17) (Kp _ Bo Ao (Bz.mono (S.le_arg Dj)) _ hr2) rfl ?_;clear S;intro v2 a w2 hv2 hk2 hn2 S
  subst hv2
  refine Va S rfl rfl fun a S=>Dz (Vm S rfl rfl fun a S=>Vq S Io rfl rfl rfl fun a S=>Dl (Fc h (S.tm rfl) (fun hb2 h=>?_) (fun hb2 h=>?_)))
  ·refine Fr (Vm S rfl rfl fun a S=>Vk S rfl rfl fun a S=>Va S rfl rfl fun a S=>Ld ?_)
   replace S:=S.k2 4 5 rfl
   refine Tn (wp_ret (Dc ?_))
   obtain rfl:=Option.some.inj h
   exact Ki S results11 rfl rfl ⟨_,rfl,(Jg _ _ _)⟩
  ·refine wp_skip (Tn (Fr (Tp (κ:=Cz) (ν:=An) S rfl (fun x=>Value.agg (Cz.enc x).toArray) (fun x=>Value.agg (An.enc x).toArray) ?_)));clear S;intro a w3 b1 hz1 hk3 S
   refine Va S rfl rfl fun a S=>Ld ?_
   replace S:=(S.nl [.map b1 (Gy (fun x=>Value.agg (Cz.enc x).toArray) (fun x=>Value.agg (An.enc x).toArray) ([] : List (Cz × An))) ([] : List (Cz × An)).length] [true] rfl).k3 0 1 8 rfl
   refine Tn (Fs (Fr (Vm S rfl rfl fun a S=>lv S (Fd Es (S.tm rfl) (Fb Cb)) rfl fun a S=>lv S (Rm rfl) rfl fun a S=>Dl ?_)))
   replace S:=S.k6 0 1 8 27 28 29 rfl
   obtain ⟨j1,hj1,h⟩:=En h
   refine Ec (fun a w'=>∃ x1 : List (Cz × An),j1 x1 = some r ∧ Sx w [] nov [.map b1 (Gy (fun x=>Value.agg (Cz.enc x).toArray) (fun x=>Value.agg (An.enc x).toArray) x1) x1.length] [(0,Bq),(1,Bo),(8,.map (some b1))] 72 a w') ?_ ?_
   ·refine wp_block (Hx (fun (ys1 : List An) a w'=>∃ i1 : Nat,∃ x1 : List (Cz × An),(∃ dn,Am = dn ++ ys1 ∧ dn.length = i1) ∧ Jx j1 ys1 i1 x1 = some r ∧ Sx w [] nov [.map b1 (Gy (fun x=>Value.agg (Cz.enc x).toArray) (fun x=>Value.agg (An.enc x).toArray) x1) x1.length] [(0,Bq),(1,Bo),(8,.map (some b1)),(27,Bq),(28,iV (Am.length : Int)),(29,iV (i1 : Int))] 72 a w') List.length Am ⟨0,([] : List (Cz × An)),⟨[],rfl,rfl⟩,h,S.nf [true] rfl (subR rfl)⟩ ?_)
    clear S h;rintro ys1 a w4 ⟨i1,x1,⟨dn,hd1,hi1⟩,h,S⟩
    cases ys1 with
    | nil =>
     rw [Jx.eq_1] at h
     refine Fr (Vb S Fa rfl rfl rfl fun a S=>Ld ?_)
     replace S:=S.k7 0 1 8 27 28 29 30 rfl
     exact Tn (Fs (wp_cond_false ((S.tm rfl).trans (congrArg Value.bool (Jk hd1 hi1))) (wp_exit (Et (Et (Hp (Tn (⟨x1,h,S.nf [true] rfl (subR rfl)⟩))))))))
    | cons y1 ys1 =>
     rw [Jx.eq_2] at h
     refine Fr (Vb S Fa rfl rfl rfl fun a S=>Ld ?_)
     replace S:=S.k7 0 1 8 27 28 29 30 rfl
     refine Tn (Fs (wp_cond_true ((S.tm rfl).trans (congrArg Value.bool (Hy hd1 hi1))) (wp_skip (Tn (Fs (wp_block (Fs (Fg ?_))))))))
     obtain ⟨b2,o1,hm1,hr3⟩:=Dt (a:=a) (x:=.tmp 27) (y:=.tmp 29) (ty:=0) Es Cb (Jp hd1 hi1) rfl (S.tm rfl) (S.tm rfl)
     refine lv S (hr3 _) rfl ?_;clear S;intro a S
     clear hr3
     refine lv S (Ev isAgg33 sizeOf33 (off:=o1) (o:=0) (part:=(An.enc y1)) rfl rfl (S.tm rfl) (hm1.at S.emb0)) rfl fun a S=>It S zeroValue33 (cs:=[sV Cw,iV 0,iV 0,iV 0,sV Cw,sV Cw,sV Cw,iV 0,iV 0,sV Cw,iV 0]) rfl rfl ?_;clear S;intro a w6 b3 hz2 hk4 S
     refine Ef S (S.tm rfl) (S.tm rfl) (i:=0) (off:=0) rfl sizeOf33 (vs:=(An.enc y1)) rfl rfl rfl rfl ?_;clear S;intro w7 hk5 S
     refine Dl (Fm [] ([b1]) Tryz.mixed S rfl (by kernel_rfl) ?_);clear S;intro w10 hk8 hsel S
     refine Da 0 S hsel rfl rfl rfl (by kernel_rfl) (by kernel_rfl) rfl (fun _ hw=>(Rm (S.tm rfl))) fun a S=>Da 1 S hsel rfl rfl rfl (by kernel_rfl) (by kernel_rfl) rfl (fun _ hw=>(Ev isAgg33 sizeOf33 (off:=0) (o:=0) (part:=(An.enc y1)) rfl rfl (S.tm rfl) ((S.blk_mem (i:=0) (cells:=(An.enc y1)) (b:=b3) (T:=33) rfl (Kd (i:=1) (j:=0) (e:=.map b1 (Gy (fun x=>Value.agg (Cz.enc x).toArray) (fun x=>Value.agg (An.enc x).toArray) x1) x1.length) (e':=.blk b3 (An.enc y1) 33) S rfl rfl rfl)).kept hw))) fun a S=>Da 3 S hsel rfl rfl rfl (by kernel_rfl) (by kernel_rfl) rfl (fun _ hw=>(Ev isAgg33 sizeOf33 (off:=0) (o:=0) (part:=(An.enc y1)) rfl rfl (S.tm rfl) ((S.blk_mem (i:=0) (cells:=(An.enc y1)) (b:=b3) (T:=33) rfl (Kd (i:=1) (j:=0) (e:=.map b1 (Gy (fun x=>Value.agg (Cz.enc x).toArray) (fun x=>Value.agg (An.enc x).toArray) x1) x1.length) (e':=.blk b3 (An.enc y1) 33) S rfl rfl rfl)).kept hw))) fun a S=>Ey 2 (by kernel_rfl) rfl (De S (fun _=>Cy (vs:=[.agg (An.enc y1).toArray]) ⟨(S.tm rfl),trivial⟩ call33) (Na _ y1 _ rfl) rfl ?_);clear S;intro v4 a w11 hv4 hk9 hn4 S
     subst hv4
     refine Ld (Fz (Keep.none hk9) (Ey 4 (by kernel_rfl) rfl (Qv (kv:=(fun x=>Value.agg (Cz.enc x).toArray)) (vv:=(fun x=>Value.agg (An.enc x).toArray)) (m:=x1) (key:=(Cx y1)) (val:=y1) S (i:=1) rfl underlying58 Ts (S.tm rfl) (S.tm rfl) (S.tm rfl) ?_)));clear S;intro w12 hk10 S
     refine Ld (Fz hk10 (So (by kernel_rfl) ?_))
     clear hsel
     replace S:=(S.nl [.map b1 (Gy (fun x=>Value.agg (Cz.enc x).toArray) (fun x=>Value.agg (An.enc x).toArray) (Ff x1 (Cx y1) y1)) (Ff x1 (Cx y1) y1).length] [false,true] rfl).k6 0 1 8 27 28 29 rfl
     exact Ia (Tn (Fg (Vq S Ge rfl rfl rfl fun a S=>Vm S rfl rfl fun a S=>Dl (⟨ys1,⟨i1 + 1,(Ff x1 (Cx y1) y1),⟨_,(hd1).trans (List.append_cons _ _ _),by simp [hi1]⟩,h,S.nf [true] rfl ⟨rfl,rfl,rfl,rfl,rfl,(congrArg (fun z=>some (Value.int .i64 z)) (Hz hd1 hi1 (Iz Cb))),trivial⟩⟩,Nat.lt_succ_self _⟩))))
   clear S h;rintro a w5 ⟨x1,h,S⟩;rw [hj1] at h;clear hj1 j1
   refine Tn (Fr (Vm S rfl rfl ?_));clear S;intro a S
   obtain ⟨r3,hr4,h⟩:=El h
   have hz3:=S.keep.size
   refine De S (fun _=>Cy (vs:=[Bq]) ⟨(S.tm rfl),trivial⟩ call8) (Ja _ Bq Am (Cb.mono (S.le_arg Dj)) _ hr4) rfl ?_;clear S;intro v5 a w13 hv5 hk11 hn5 S
   replace S:=S.take hn5 hz3 hv5
   refine Va S rfl rfl fun a S=>Dl (Fs (Fr (Vm S rfl rfl fun a S=>lv S (Fd Es (S.tm rfl) (Fb Bz)) rfl fun a S=>lv S (Rm rfl) rfl fun a S=>Dl ?_)))
   replace S:=(S.nl [.own v5 33 11 r3.length (r3.flatMap An.enc),.map b1 (Gy (fun x=>Value.agg (Cz.enc x).toArray) (fun x=>Value.agg (An.enc x).toArray) x1) x1.length] [true,true] rfl).k5 8 11 40 41 42 rfl
   obtain ⟨j2,hj2,h⟩:=En h
   refine Ec (fun a w'=>∃ x2 : List An,∃ v6 : Value,j2 x2 = some r ∧ Sx w [] nov [.own v6 33 11 x2.length (x2.flatMap An.enc),.map b1 (Gy (fun x=>Value.agg (Cz.enc x).toArray) (fun x=>Value.agg (An.enc x).toArray) x1) x1.length] [(11,v6)] 72 a w') ?_ ?_
   ·refine wp_block (Hx (fun (ys2 : List An) a w'=>∃ i2 : Nat,∃ x2 : List An,∃ v6 : Value,(∃ dn,Ao = dn ++ ys2 ∧ dn.length = i2) ∧ Hm x1 j2 ys2 i2 x2 = some r ∧ Sx w [] nov [.own v6 33 11 x2.length (x2.flatMap An.enc),.map b1 (Gy (fun x=>Value.agg (Cz.enc x).toArray) (fun x=>Value.agg (An.enc x).toArray) x1) x1.length] [(8,.map (some b1)),(11,v6),(40,Bo),(41,iV (Ao.length : Int)),(42,iV (i2 : Int))] 72 a w') List.length Ao ⟨0,r3,v5,⟨[],rfl,rfl⟩,h,S.nf [true,true] rfl (subR rfl)⟩ ?_)
    clear S h;rintro ys2 a w14 ⟨i2,x2,v6,⟨dn,hd2,hi2⟩,h,S⟩
    cases ys2 with
    | nil =>
     rw [Hm.eq_1] at h
     refine Fr (Vb S Fa rfl rfl rfl fun a S=>Ld ?_)
     replace S:=S.k6 8 11 40 41 42 43 rfl
     exact Tn (Fs (wp_cond_false ((S.tm rfl).trans (congrArg Value.bool (Jk hd2 hi2))) (wp_exit (Et (Et (Hp (Tn (⟨x2,v6,h,S.nf [true,true] rfl ⟨rfl,trivial⟩⟩))))))))
    | cons y2 ys2 =>
     rw [Hm.eq_2] at h
     refine Fr (Vb S Fa rfl rfl rfl fun a S=>Ld ?_)
     replace S:=S.k6 8 11 40 41 42 43 rfl
     refine Tn (Fs (wp_cond_true ((S.tm rfl).trans (congrArg Value.bool (Hy hd2 hi2))) (wp_skip (Tn (Fs ?_)))))
     obtain ⟨j3,hj3,h⟩:=En h
     refine Ec (fun a w'=>∃ x3 : List An,∃ v7 : Value,j3 x3 = some r ∧ Sx w [] nov [.own v7 33 11 x3.length (x3.flatMap An.enc),.map b1 (Gy (fun x=>Value.agg (Cz.enc x).toArray) (fun x=>Value.agg (An.enc x).toArray) x1) x1.length] [(8,.map (some b1)),(11,v7),(40,Bo),(41,iV (Ao.length : Int)),(42,iV (i2 : Int))] 72 a w') ?_ ?_
     ·refine wp_block (Fs (Fg ?_))
      obtain ⟨b4,o2,hm2,hr5⟩:=Dt (a:=a) (x:=.tmp 40) (y:=.tmp 42) (ty:=0) Es Bz (Jp hd2 hi2) rfl (S.tm rfl) (S.tm rfl)
      refine lv S (hr5 _) rfl ?_;clear S;intro a S
      clear hr5
      refine lv S (Ev isAgg33 sizeOf33 (off:=o2) (o:=0) (part:=(An.enc y2)) rfl rfl (S.tm rfl) (hm2.at S.emb0)) rfl fun a S=>It S zeroValue33 (cs:=[sV Cw,iV 0,iV 0,iV 0,sV Cw,sV Cw,sV Cw,iV 0,iV 0,sV Cw,iV 0]) rfl rfl ?_;clear S;intro a w17 b5 hz4 hk12 S
      refine Ef S (S.tm rfl) (S.tm rfl) (i:=0) (off:=0) rfl sizeOf33 (vs:=(An.enc y2)) rfl rfl rfl rfl ?_;clear S;intro w18 hk13 S
      refine Dz (Vm S rfl rfl fun a S=>lv S (Ev isAgg33 sizeOf33 (off:=0) (o:=0) (part:=(An.enc y2)) rfl rfl (S.tm rfl) (S.cellsAt (i:=0) rfl)) rfl fun a S=>De S (fun _=>Cy (vs:=[.agg (An.enc y2).toArray]) ⟨(S.tm rfl),trivial⟩ call33) (Na _ y2 _ rfl) rfl ?_);clear S;intro v8 a w19 hv6 hk14 hn6 S
      subst hv6
      refine lv S (BM (kv:=(fun x=>Value.agg (Cz.enc x).toArray)) (vv:=(fun x=>Value.agg (An.enc x).toArray)) (m:=x1) (key:=(Cx y2)) (z:=(An.mk Cw 0 0 0 Cw Cw Cw 0 0 Cw 0)) (S.map_at (i:=2) rfl) underlying58 Ts zeroValue33 (S.tm rfl) (S.tm rfl)) rfl fun a S=>Vm S rfl rfl fun a S=>Vq S He rfl rfl rfl fun a S=>Vq S He rfl rfl rfl fun a S=>It S zeroValue33 (cs:=[sV Cw,iV 0,iV 0,iV 0,sV Cw,sV Cw,sV Cw,iV 0,iV 0,sV Cw,iV 0]) rfl rfl ?_;clear S;intro a w20 b6 hz5 hk15 S
      refine Ef S (S.tm rfl) (S.tm rfl) (i:=0) (off:=0) rfl sizeOf33 (vs:=(An.enc (Dw x1 (Cx y2) (An.mk Cw 0 0 0 Cw Cw Cw 0 0 Cw 0)))) rfl rfl rfl rfl ?_;clear S;intro w21 hk16 S
      refine Va S rfl rfl fun a S=>Ld ?_
      replace S:=(S.nl [.blk b6 (An.enc (Dw x1 (Cx y2) (An.mk Cw 0 0 0 Cw Cw Cw 0 0 Cw 0))) 33,.blk b5 (An.enc y2) 33,.own v6 33 11 x2.length (x2.flatMap An.enc),.map b1 (Gy (fun x=>Value.agg (Cz.enc x).toArray) (fun x=>Value.agg (An.enc x).toArray) x1) x1.length] [true,true,true,true] rfl).k8 8 11 13 14 15 40 41 42 rfl
      refine Tn (Fs (Fr (Vm S rfl rfl fun a S=>Vm S rfl rfl fun a S=>Gr 4 (fun a w'=>Keep [] w21 w' ∧ Sx w [] nov [.blk b6 (An.enc (Dw x1 (Cx y2) (An.mk Cw 0 0 0 Cw Cw Cw 0 0 Cw 0))) 33,.blk b5 (An.enc y2) 33,.own v6 33 11 x2.length (x2.flatMap An.enc),.map b1 (Gy (fun x=>Value.agg (Cz.enc x).toArray) (fun x=>Value.agg (An.enc x).toArray) x1) x1.length] [(8,.map (some b1)),(11,v6),(13,.pointer (some ⟨b5,0,none⟩)),(15,bV ((Nv x1 (Cx y2)).isSome)),(40,Bo),(41,iV (Ao.length : Int)),(42,iV (i2 : Int)),(58,bV (((Nv x1 (Cx y2)).isSome) && (!decide (y2 = (Dw x1 (Cx y2) (An.mk Cw 0 0 0 Cw Cw Cw 0 0 Cw 0))))))] 72 a w') ?_ ?_)))
      ·rcases Bool.eq_false_or_eq_true ((Nv x1 (Cx y2)).isSome) with hb3 | hb3
       ·exact Db S rfl rfl rfl hb3 (lv S (Ev isAgg33 sizeOf33 (off:=0) (o:=0) (part:=(An.enc y2)) rfl rfl (S.tm rfl) (S.cellsAt (i:=1) rfl)) rfl fun a S=>Db S rfl rfl rfl hb3 (lv S (Ev isAgg33 sizeOf33 (off:=0) (o:=0) (part:=(An.enc (Dw x1 (Cx y2) (An.mk Cw 0 0 0 Cw Cw Cw 0 0 Cw 0)))) rfl rfl (S.tm rfl) (S.cellsAt (i:=0) rfl)) rfl fun a S=>Db S rfl rfl rfl hb3 (lv S (Rr (m:=y2) (n:=(Dw x1 (Cx y2) (An.mk Cw 0 0 0 Cw Cw Cw 0 0 Cw 0))) (S.tm rfl) (S.tm rfl)) rfl fun a S=>lv S (Hn hb3 (S.tm rfl) (S.tm rfl)) rfl fun a S=>Dl (⟨Keep.refl _ _,S.nf [true,true,true,true] rfl (subR rfl)⟩))))
       ·iterate 3 (refine Gd S rfl rfl rfl (Fl hb3) rfl ?_ rfl;clear S;intro a S)
        exact lv S (Ho (!decide (y2 = (Dw x1 (Cx y2) (An.mk Cw 0 0 0 Cw Cw Cw 0 0 Cw 0)))) hb3 (S.tm rfl) rfl) rfl fun a S=>Dl (⟨Keep.refl _ _,S.nf [true,true,true,true] rfl (subR rfl)⟩)
      clear S;rintro a w22 ⟨hk17,S⟩
      refine Dl (Fc h (S.tm rfl) (fun hb4 h=>?_) (fun hb4 h=>?_))
      ·refine Fr (Vk S rfl rfl fun a S=>Vk S rfl rfl fun a S=>Dl (wp_ret (Dc (Gg ?_))))
       iterate 3 (refine Dc ?_)
       refine Gg (Dc (Dc ?_))
       obtain rfl:=Option.some.inj h
       exact Ki S results11 rfl rfl ⟨_,rfl,(Jg _ _ _)⟩
      ·refine wp_skip (Tn (Fr (Vm S rfl rfl fun a S=>Vu S Hl rfl rfl fun a S=>Dl ?_)))
       obtain ⟨j4,hj4,h⟩:=En h
       refine Ec (fun a w'=>∃ x4 : List An,∃ v9 : Value,j4 x4 = some r ∧ Sx w [] nov [.blk b6 (An.enc (Dw x1 (Cx y2) (An.mk Cw 0 0 0 Cw Cw Cw 0 0 Cw 0))) 33,.blk b5 (An.enc y2) 33,.own v9 33 11 x4.length (x4.flatMap An.enc),.map b1 (Gy (fun x=>Value.agg (Cz.enc x).toArray) (fun x=>Value.agg (An.enc x).toArray) x1) x1.length] [(8,.map (some b1)),(11,v9),(40,Bo),(41,iV (Ao.length : Int)),(42,iV (i2 : Int))] 72 a w') ?_ ?_
       ·refine Fc h (S.tm rfl) (fun hb5 h=>?_) (fun hb5 h=>?_)
        ·refine Fg (Vm S rfl rfl fun a S=>lv S (Ev isAgg33 sizeOf33 (off:=0) (o:=0) (part:=(An.enc y2)) rfl rfl (S.tm rfl) (S.cellsAt (i:=1) rfl)) rfl fun a S=>Eg S underlying26 sizeOf33 zeroValue33 rfl rfl (pv:=[(0,.agg (An.enc y2).toArray)]) ⟨rfl,(S.tm rfl),trivial⟩ (cs:=[sV y2.Site,iV y2.No,iV y2.At,iV y2.Kind,sV y2.Who,sV y2.Club,sV y2.Race,iV y2.Time,iV y2.Fault,sV y2.Of,iV y2.Other]) (by kernel_rfl) rfl ?_);clear S;intro a w24 b7 hz6 hk18 S
         obtain ⟨hc1,h⟩:=Hw h
         refine Li Es An.enc_ok S (S.tm rfl) (i:=3) rfl (S.tm rfl) (j:=0) rfl (ys:=[y2]) rfl rfl rfl rfl (by have:=Nh hc1;omega) rfl ?_;clear S;intro v10 a w25 hk19 S
         exact Va S rfl rfl fun a S=>Dl (⟨(x2 ++ [y2]),v10,h,S.nf [false,true,true,true,true] rfl (subR rfl)⟩)
        ·exact wp_skip (Tn (⟨x2,v6,h,S.nf [true,true,true,true] rfl (subR rfl)⟩))
       clear S h;rintro a w23 ⟨x4,v9,h,S⟩;rw [hj4] at h;clear hj4 j4
       exact Ia (Tn (⟨x4,v9,h,S.nf [false,false,true,true] rfl (subR rfl)⟩))
     clear S h;rintro a w16 ⟨x3,v7,h,S⟩;rw [hj3] at h;clear hj3 j3
     exact Tn (Fg (Vq S Ge rfl rfl rfl fun a S=>Vm S rfl rfl fun a S=>Dl (⟨ys2,⟨i2 + 1,x3,v7,⟨_,(hd2).trans (List.append_cons _ _ _),by simp [hi2]⟩,h,S.nf [true,true] rfl ⟨rfl,rfl,rfl,rfl,(congrArg (fun z=>some (Value.int .i64 z)) (Hz hd2 hi2 (Iz Bz))),trivial⟩⟩,Nat.lt_succ_self _⟩)))
   clear S h;rintro a w15 ⟨x2,v6,h,S⟩;rw [hj2] at h;clear hj2 j2
   refine Tn (Fs (Fr (Vm S rfl rfl fun a S=>lv S (Fd Es (S.tm rfl) (Mr (S.own_at (i:=0) rfl))) rfl fun a S=>Vq S Jn rfl rfl rfl fun a S=>Dl (Fc h (S.tm rfl) (fun hb6 h=>?_) (fun hb6 h=>?_)))))
   ·refine Fr (Vk S rfl rfl fun a S=>Vk S rfl rfl fun a S=>Dl (wp_ret (Dc ?_)))
    obtain rfl:=Option.some.inj h
    exact Ki S results11 rfl rfl ⟨_,rfl,(Jg _ _ _)⟩
   ·refine wp_skip (Tn (Fr (Vm S rfl rfl ?_)));clear S;intro a S
    obtain ⟨r4,hr6,h⟩:=El h
    refine Nz 0 S rfl (fun _=>.own v6 33 11 r4.length (r4.flatMap An.enc)) (fun _=>Cy (vs:=[v6,.func (.func 35) #[] #[]]) ⟨(S.tm rfl),rfl,trivial⟩ call34) (Nx _ v6 x2 (S.holds _ (List.mem_of_getElem? (i:=0) rfl)) _ hr6) rfl (fun _ _ _ h=>⟨h.1,fun _ hc=>hc⟩) ?_;clear S;intro v11 a w26 hv7 hk20 hn7 S
    replace hv7:=hv7.2
    subst hv7
    refine Dz (Vm S rfl rfl fun a S=>Va S rfl rfl fun a S=>Vk S rfl rfl fun a S=>Dl (wp_ret ?_))
    obtain rfl:=Option.some.inj h
    exact Ki S results11 rfl rfl ⟨_,rfl,(Oq S (i:=0) rfl rfl)⟩
theorem Sv (w : World) (Aq : Value) (As : List Int) (Cs : (LEnt.own Aq 3 1 As.length (As.flatMap eInt)).holds w) (r : (List Int)) (h : Kl As = some r) :
    Calls prog 55 [Aq].toArray w (Ret w (Aq.ownBlock.toList) fun _ v w'=>(LEnt.own Aq 3 1 r.length (r.flatMap eInt)).holds w' ∧ v = .tuple #[]):=by
 refine La (Aq.ownBlock.toList) [.own Aq 3 1 As.length (As.flatMap eInt)] func55 rfl ntmps55 rfl (fun e he=>by simp only [List.mem_singleton] at he;subst he;exact Cs) (Lz _) (Nm _) fun a S=>?_
 unfold Kl at h
 replace S:=(S.nl [.own Aq 3 1 As.length (As.flatMap eInt)] [true] rfl).k1 0 rfl
 refine Fr (Vm S rfl rfl fun a S=>lv S (Fd Kz (S.tm rfl) (Mr (S.own_at (i:=0) rfl))) rfl fun a S=>Vq S Kh rfl rfl rfl fun a S=>Vk S rfl rfl fun a S=>Va S rfl rfl fun a S=>Dl ?_)
 replace S:=S.k3 0 2 3 rfl
 obtain ⟨j1,hj1,h⟩:=En h
 refine Ec (fun a w'=>∃ x1 : List Int,j1 x1 = some r ∧ Sx w (Aq.ownBlock.toList) nov [.own Aq 3 1 x1.length (x1.flatMap eInt)] [] 28 a w') ?_ ?_
 ·refine wp_block (Hx (fun (m1 : Nat) a w'=>∃ x1 : List Int,∃ x2 : Int,∃ x3 : Int,Gq j1 m1 x1 x2 x3 = some r ∧ Sx w (Aq.ownBlock.toList) nov [.own Aq 3 1 x1.length (x1.flatMap eInt)] [(0,Aq),(2,iV x2),(3,iV x3)] 28 a w') id (((W ((As.length : Int) - 1)) - 0).toNat + 2) ⟨As,0,W ((As.length : Int) - 1),h,S.nf [true] rfl (subR rfl)⟩ ?_)
  clear S h;rintro m1 a w1 ⟨x1,x2,x3,h,S⟩
  cases m1 with
  | zero=>rw [Gq.eq_1] at h;cases h
  | succ m1 =>
   rw [Gq.eq_2] at h
   refine Fs (Fr (Vm S rfl rfl fun a S=>Vm S rfl rfl fun a S=>Vb S Fa rfl rfl rfl fun a S=>Dl (Fc h (S.tm rfl) (fun hb1 h=>?_) (fun hb1 h=>?_))))
   ·refine wp_skip (Tn (Fs (wp_block ?_)))
    obtain ⟨hc1,h⟩:=Hw h
    obtain ⟨hc2,h⟩:=Hw h
    obtain ⟨hc3,h⟩:=Hw h
    obtain ⟨hc4,h⟩:=Hw h
    refine Fm [13,15] ([]) Tryz.mixed S rfl (by kernel_rfl) ?_;clear S;intro w7 hk5 hsel S
    refine Hc 0 S hsel rfl rfl (by kernel_rfl) (by kernel_rfl) rfl (fun _=>(Rm (S.tm rfl))) fun a S=>Hc 1 S hsel rfl rfl (by kernel_rfl) (by kernel_rfl) rfl (fun _=>(Rm (S.tm rfl))) fun a S=>Hc 2 S hsel rfl rfl (by kernel_rfl) (by kernel_rfl) rfl (fun _=>(Rm (S.tm rfl))) fun a S=>Hc 3 S hsel rfl rfl (by kernel_rfl) (by kernel_rfl) rfl (fun _=>(Rm (S.tm rfl))) fun a S=>Hc 4 S hsel rfl rfl (by kernel_rfl) (by kernel_rfl) rfl (fun _=>(Rm (S.tm rfl))) fun a S=>Hc 5 S hsel rfl rfl (by kernel_rfl) (by kernel_rfl) rfl (fun _=>(Rm (S.tm rfl))) ?_;clear S;intro a S
    obtain ⟨b5,hg5,hr5⟩:=Jf (a:=a) (x:=.tmp 18) (y:=.tmp 19) (ty:=0) Kz Iu S (i:=0) rfl (Dg hc1).1 (Dg hc1).2 (S.tm rfl) (S.tm rfl)
    refine Hc 6 S hsel rfl rfl (by kernel_rfl) (by kernel_rfl) rfl (fun _=>(hr5 _)) ?_;clear S;intro a S
    clear hr5
    refine Da 7 S hsel rfl (by kernel_rfl) (by kernel_rfl) (by kernel_rfl) (by kernel_rfl) rfl (fun _ hw=>(Ep isAgg3 (off:=x3.toNat * 1) (o:=0) (S.tm rfl) ((Pm Iu S (i:=0) rfl hg5 (Dg hc1).1 (Gs (e':=.own Aq 3 1 x1.length (x1.flatMap eInt)))).kept hw) rfl)) fun a S=>Hc 8 S hsel rfl rfl (by kernel_rfl) (by kernel_rfl) rfl (fun _=>(Rm (S.tm rfl))) fun a S=>Hc 9 S hsel rfl rfl (by kernel_rfl) (by kernel_rfl) rfl (fun _=>(Rm (S.tm rfl))) ?_;clear S;intro a S
    obtain ⟨b6,hg6,hr6⟩:=Jf (a:=a) (x:=.tmp 22) (y:=.tmp 23) (ty:=0) Kz Iu S (i:=0) rfl (Dg hc2).1 (Dg hc2).2 (S.tm rfl) (S.tm rfl)
    refine Hc 10 S hsel rfl rfl (by kernel_rfl) (by kernel_rfl) rfl (fun _=>(hr6 _)) ?_;clear S;intro a S
    clear hr6
    refine Da 11 S hsel rfl (by kernel_rfl) (by kernel_rfl) (by kernel_rfl) (by kernel_rfl) rfl (fun _ hw=>(Ep isAgg3 (off:=x2.toNat * 1) (o:=0) (S.tm rfl) ((Pm Iu S (i:=0) rfl hg6 (Dg hc2).1 (Gs (e':=.own Aq 3 1 x1.length (x1.flatMap eInt)))).kept hw) rfl)) ?_;clear S;intro a S
    obtain ⟨b7,hg7,hr7⟩:=Jf (a:=a) (x:=.tmp 14) (y:=.tmp 15) (ty:=0) Kz Iu S (i:=0) rfl (Dg hc3).1 (Dg hc3).2 (S.tm rfl) (S.tm rfl)
    refine Hc 12 S hsel rfl rfl (by kernel_rfl) (by kernel_rfl) rfl (fun _=>(hr7 _)) ?_;clear S;intro a S
    clear hr7
    refine Wr 13 (Aq.ownBlock.toList) rfl (by kernel_rfl) rfl (Qj (c:=0) (j:=x2.toNat) (nth x1 x3) Iu S (S.tm rfl) (S.tm rfl) (i:=0) rfl hg7 (Dg hc3).1 sizeOf3 (vs:=[iV (nth x1 x3)]) rfl rfl rfl rfl rfl ?_);clear S;intro w9 hk7 S
    refine Ld (Ws ?_)
    obtain ⟨b8,hg8,hr8⟩:=Jf (a:=a) (x:=.tmp 16) (y:=.tmp 17) (ty:=0) Kz Iu S (i:=0) rfl (Dg hc4).1 (Dg hc4).2 (S.tm rfl) (S.tm rfl)
    refine Da 14 S hsel rfl rfl rfl (by kernel_rfl) (by kernel_rfl) rfl (fun _ hw=>(hr8 _)) ?_;clear S;intro a S
    clear hr8
    refine Ey 15 (by kernel_rfl) rfl (Qj (c:=0) (j:=x3.toNat) (nth x1 x2) Iu S (S.tm rfl) (S.tm rfl) (i:=0) rfl hg8 (Dg hc4).1 sizeOf3 (vs:=[iV (nth x1 x2)]) rfl rfl rfl rfl rfl ?_);clear S;intro w11 hk9 S
    refine Ld (Fz hk9 (So (by kernel_rfl) ?_))
    clear hsel
    replace S:=(S.nl [.own Aq 3 1 ((x1.set x2.toNat (nth x1 x3)).set x3.toNat (nth x1 x2)).length (((x1.set x2.toNat (nth x1 x3)).set x3.toNat (nth x1 x2)).flatMap eInt)] [true] rfl).k3 0 2 3 rfl
    refine Ia (Tn (Fg (Vm S rfl rfl fun a S=>Vq S Ge rfl rfl rfl fun a S=>Vm S rfl rfl fun a S=>Vq S Kh rfl rfl rfl fun a S=>Va S rfl rfl fun a S=>Va S rfl rfl fun a S=>Dl ?_)))
    exact ⟨m1,⟨((x1.set x2.toNat (nth x1 x3)).set x3.toNat (nth x1 x2)),W (x2 + 1),W (x3 - 1),h,S.nf [true] rfl ⟨rfl,rfl,rfl,trivial⟩⟩,Nat.lt_succ_self _⟩
   ·exact wp_exit (Et (Et (Hp (Tn (⟨x1,h,S.nf [true] rfl trivial⟩)))))
 clear S h;rintro a w2 ⟨x1,h,S⟩;rw [hj1] at h;clear hj1 j1
 obtain rfl:=Option.some.inj h
 exact Uf S results55 ⟨(S.holds _ (List.mem_of_getElem? (i:=0) rfl)),rfl⟩
end Go.Proofs.YtcmlfgcnichcdaaGreatDoor
