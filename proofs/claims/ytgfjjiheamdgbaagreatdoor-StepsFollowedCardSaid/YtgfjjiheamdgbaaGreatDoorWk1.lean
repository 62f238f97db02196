/- Each Go function computes its plain twin,by program. -/
import Derived.Test.YtgfjjiheamdgbaaGreatDoorTab
import Derived.Test.YtgfjjiheamdgbaaGreatDoorLay
import Derived.Test.YtgfjjiheamdgbaaGreatDoorSort
import Derived.Test.YtgfjjiheamdgbaaGreatDoorGrow
namespace Go.Proofs.YtgfjjiheamdgbaaGreatDoor
open Go
open Go.Proofs.Tryz
theorem Nz (w : World) (Aq : Int) (Ar : Int) (r : Int) (h : Kp Aq Ar = some r) :
    Calls prog 36 [iV Aq,iV Ar].toArray w (Ret w [] fun _ v _=>v = iV r):=by
 refine Fe func36 rfl ntmps36 rfl fun a S=>?_
 unfold Kp at h
 replace S:=S.k2 0 1 rfl
 refine Fr (Vk S rfl rfl fun a S=>Dl (Fs (Fr (Vm S rfl rfl fun a S=>Vq S Ee rfl rfl rfl fun a S=>Ld ?_))))
 refine Tn (Fc h (S.tm rfl) (fun hb1 h=>?_) (fun hb1 h=>?_))
 ·refine Fr (Vk S rfl rfl fun a S=>Dl (wp_ret (Cn ?_)))
  obtain rfl:=Option.some.inj h
  exact Dx S results36 rfl rfl
 ·refine wp_skip (Tn (Fr (Vm S rfl rfl fun a S=>Vm S rfl rfl ?_)));clear S;intro a S
  obtain ⟨hc1,h⟩:=Gz h
  refine lv S (DJ (S.tm rfl) (S.tm rfl) (AP hc1)) rfl fun a S=>Va S rfl rfl fun a S=>Dl (Fs (Fr (Vm S rfl rfl fun a S=>Vq S Ee rfl rfl rfl fun a S=>Dl ?_)))
  obtain ⟨j1,hj1,h⟩:=Dt h
  refine Dj (fun a w'=>∃ x1 : Int,j1 x1 = some r ∧ Sx w [] nov [] [(0,iV x1)] 16 a w') ?_ ?_
  ·refine Fc h (S.tm rfl) (fun hb2 h=>?_) (fun hb2 h=>?_)
   ·exact Fg (Vm S rfl rfl fun a S=>Vm S rfl rfl fun a S=>Vb S Ew rfl rfl rfl fun a S=>Va S rfl rfl fun a S=>Dl (⟨W ((Int.tmod Aq Ar) + Ar),h,S.nf [] rfl ⟨rfl,trivial⟩⟩))
   ·exact wp_skip (Tn (⟨Int.tmod Aq Ar,h,S.nf [] rfl ⟨rfl,trivial⟩⟩))
  clear S h;rintro a w1 ⟨x1,h,S⟩;rw [hj1] at h;clear hj1 j1
  refine Tn (Fr (Vm S rfl rfl fun a S=>Va S rfl rfl fun a S=>Dl (wp_ret ?_)))
  obtain rfl:=Option.some.inj h
  exact Dx S results36 rfl rfl
set_option maxRecDepth 20000 in
theorem Kt (w : World) (O : Nat) (Aa : Value) (Aj : List Int) (Af : Slc (view w [O]) 1 Aa (Aj.map eInt)) (Ai : Int) (Av : (LEnt.blk O [Aa,iV Ai] 25).holds w) (Ar : Int) (r : Int × Int) (h : Jf Aj Ai Ar = some r) :
    Calls prog 10 [.pointer (some ⟨O,0,none⟩),iV Ar].toArray w (Ret w [O] fun _ v w'=>(LEnt.blk O [Aa,iV r.2] 25).holds w' ∧ v = iV r.1):=by
 refine Ju [O] [.blk O [Aa,iV Ai] 25] func10 rfl ntmps10 rfl (fun e he=>by simp only [List.mem_singleton] at he;subst he;exact Av) (by simp [fps,LEnt.fp]) (by simp [fps,LEnt.fp]) fun a S=>?_
 unfold Jf at h
 replace S:=(S.nl [.blk O [Aa,iV Ai] 25] [true] rfl).k2 0 1 rfl
 refine Fr (Vk S rfl rfl fun a S=>Dz (Vm S rfl rfl fun a S=>Vu S Ep rfl rfl fun a S=>Vf Ub S rfl rfl fun a S=>Vl isAgg3 0 S rfl rfl rfl rfl ?_));clear S;intro a S
 refine Vq S Ew rfl rfl rfl fun a S=>Vu S Ep rfl rfl fun a S=>Vf Ub S rfl rfl fun a S=>Gy S (S.tm rfl) (S.tm rfl) (i:=0) (off:=1) rfl sizeOf3 (vs:=[iV (W (Ai + 1))]) rfl rfl rfl rfl ?_;clear S;intro w1 hk1 S
 refine Dl (Fs (Fr (Vm S rfl rfl fun a S=>Vu S Ep rfl rfl fun a S=>Vf Wb S rfl rfl fun a S=>Vl isAgg22 0 S rfl rfl rfl rfl fun a S=>lv S (En Oj (S.tm rfl) (Eg Af)) rfl fun a S=>Vq S Ip rfl rfl rfl ?_)));clear S;intro a S
 refine Ld ?_
 replace S:=(S.nl [.blk O [Aa,iV (W (Ai + 1))] 25] [true] rfl).k3 0 1 19 rfl
 refine Tn (Fc h (S.tm rfl) (fun hb1 h=>?_) (fun hb1 h=>?_))
 ·refine Fr (Vm S rfl rfl fun a S=>Vu S Ep rfl rfl fun a S=>Vf Ub S rfl rfl fun a S=>Vl isAgg3 0 S rfl rfl rfl rfl fun a S=>Vq S Wg rfl rfl rfl fun a S=>Vm S rfl rfl ?_);clear S;intro a S
  obtain ⟨r1,hr1,h⟩:=Eh h
  refine Cy S (fun _=>Ck (vs:=[iV (W ((W (Ai + 1)) * 7919)),iV Ar]) ⟨(S.tm rfl),(S.tm rfl),trivial⟩ call36) (Nz _ (W ((W (Ai + 1)) * 7919)) Ar _ hr1) rfl ?_;clear S;intro v1 a w2 hv1 hk2 hn1 S
  subst hv1
  refine Va S rfl rfl fun a S=>Dl (wp_ret (Cn ?_))
  obtain rfl:=Option.some.inj h
  exact Dx S results10 rfl ⟨(S.holds _ (List.mem_of_getElem? (i:=0) rfl)),rfl⟩
 ·refine wp_skip (Tn (Fs (Fi [] ([]) Tryz.mixed S rfl (by kernel_rfl) ?_)));clear S;intro w3 hk3 hsel S
  refine Iy [0,1,2,3,4,5,6,7,8,9,10,11] hsel (by kernel_rfl) rfl ?_
  clear hsel
  refine Fb S rfl (Rm (S.tm rfl)) rfl fun a S=>Fb S rfl (Ep (S.tm rfl)) rfl fun a S=>Fb S rfl (Fx Ub (S.tm rfl)) rfl fun a S=>Fb S rfl (Mn isAgg3 (S.tm rfl) (S.cell (i:=0) rfl rfl)) rfl fun a S=>Fb S rfl (Hs (S.tm rfl) rfl) rfl fun a S=>Fb S rfl (Rm (S.tm rfl)) rfl fun a S=>Fb S rfl (Ep (S.tm rfl)) rfl fun a S=>Fb S rfl (Fx Wb (S.tm rfl)) rfl fun a S=>Fb S rfl (Mn isAgg22 (S.tm rfl) (S.cell (i:=0) rfl rfl)) rfl fun a S=>Fb S rfl (En Oj (S.tm rfl) (Eg Af)) rfl ?_;clear S;intro a S
  obtain ⟨hc1,h⟩:=Gz h
  refine Fb S rfl (DJ (S.tm rfl) (S.tm rfl) (AP hc1)) rfl fun a S=>Fb S rfl (Ra (S.tm rfl)) rfl fun a S=>Ik ?_
  replace S:=S.k3 0 1 5 rfl
  refine Tn (Fs (Fi [] ([]) Tryz.mixed S rfl (by kernel_rfl) ?_));clear S;intro w4 hk4 hsel S
  refine Iy [0,1,2,3,4,5,6,7,8,9,10,11] hsel (by kernel_rfl) rfl ?_
  clear hsel
  refine Fb S rfl (Rm (S.tm rfl)) rfl fun a S=>Fb S rfl (Ep (S.tm rfl)) rfl fun a S=>Fb S rfl (Fx Ub (S.tm rfl)) rfl fun a S=>Fb S rfl (Mn isAgg3 (S.tm rfl) (S.cell (i:=0) rfl rfl)) rfl fun a S=>Fb S rfl (Hs (S.tm rfl) rfl) rfl fun a S=>Fb S rfl (Rm (S.tm rfl)) rfl fun a S=>Fb S rfl (Ep (S.tm rfl)) rfl fun a S=>Fb S rfl (Fx Wb (S.tm rfl)) rfl fun a S=>Fb S rfl (Mn isAgg22 (S.tm rfl) (S.cell (i:=0) rfl rfl)) rfl fun a S=>Fb S rfl (En Oj (S.tm rfl) (Eg Af)) rfl ?_;clear S;intro a S
  obtain ⟨hc2,h⟩:=Gz h
  refine Fb S rfl (rn_quo (S.tm rfl) (S.tm rfl) (AP hc2)) rfl fun a S=>Fb S rfl (Ra (S.tm rfl)) rfl fun a S=>Ik ?_
  replace S:=S.k4 0 1 5 6 rfl
  refine Tn (Fr (Vm S rfl rfl fun a S=>Vu S Ep rfl rfl fun a S=>Vf Wb S rfl rfl fun a S=>Vl isAgg22 0 S rfl rfl rfl rfl fun a S=>Vm S rfl rfl ?_));clear S;intro a S
  obtain ⟨hc3,h⟩:=Gz h
  obtain ⟨b1,o1,hm1,hr2⟩:=Ev (a:=a) (x:=.tmp 52) (y:=.tmp 53) (ty:=0) Oj Af (Ct hc3).1 (Ct hc3).2 (S.tm rfl) (S.tm rfl)
  refine lv S (hr2 _) rfl ?_;clear S;intro a S
  clear hr2
  refine lv S (Hr isAgg3 (off:=o1) (o:=0) (S.tm rfl) (hm1.at S.emb0) rfl) rfl ?_;clear S;intro a S
  obtain ⟨r2,hr3,h⟩:=Eh h
  refine Cy S (fun _=>Ck (vs:=[iV (nth Aj (Int.tmod (W ((W (Ai + 1)) - 1)) (Aj.length : Int))),iV 1073741824]) ⟨(S.tm rfl),rfl,trivial⟩ call36) (Nz _ (nth Aj (Int.tmod (W ((W (Ai + 1)) - 1)) (Aj.length : Int))) 1073741824 _ hr3) rfl ?_;clear S;intro v2 a w5 hv2 hk5 hn2 S
  subst hv2
  refine Vm S rfl rfl fun a S=>Vm S rfl rfl fun a S=>Vu S (Ew rfl) rfl rfl fun a S=>Vb S Wg rfl rfl rfl fun a S=>Vb S Ew rfl rfl rfl fun a S=>Vm S rfl rfl ?_;clear S;intro a S
  obtain ⟨r3,hr4,h⟩:=Eh h
  refine Cy S (fun _=>Ck (vs:=[iV (W (r2 + (W ((W (Int.tdiv (W ((W (Ai + 1)) - 1)) (Aj.length : Int))) * (W (7919 + (Int.tmod (W ((W (Ai + 1)) - 1)) (Aj.length : Int)))))))),iV Ar]) ⟨(S.tm rfl),(S.tm rfl),trivial⟩ call36) (Nz _ (W (r2 + (W ((W (Int.tdiv (W ((W (Ai + 1)) - 1)) (Aj.length : Int))) * (W (7919 + (Int.tmod (W ((W (Ai + 1)) - 1)) (Aj.length : Int)))))))) Ar _ hr4) rfl ?_;clear S;intro v3 a w6 hv3 hk6 hn3 S
  subst hv3
  refine Va S rfl rfl fun a S=>Ld ?_
  replace S:=S.k1 4 rfl
  refine Tn (wp_ret ?_)
  obtain rfl:=Option.some.inj h
  exact Dx S results10 rfl ⟨(S.holds _ (List.mem_of_getElem? (i:=0) rfl)),rfl⟩
theorem Jy (w : World) (O : Nat) (Aa : Value) (Aj : List Int) (Af : Slc (view w [O]) 1 Aa (Aj.map eInt)) (Ai : Int) (Av : (LEnt.blk O [Aa,iV Ai] 25).holds w) (Ar : Int) (r : Bool × Int) (h : Iv Aj Ai Ar = some r) :
    Calls prog 8 [.pointer (some ⟨O,0,none⟩),iV Ar].toArray w (Ret w [O] fun _ v w'=>(LEnt.blk O [Aa,iV r.2] 25).holds w' ∧ v = bV r.1):=by
 refine Ju [O] [.blk O [Aa,iV Ai] 25] func8 rfl ntmps8 rfl (fun e he=>by simp only [List.mem_singleton] at he;subst he;exact Av) (by simp [fps,LEnt.fp]) (by simp [fps,LEnt.fp]) fun a S=>?_
 unfold Iv at h
 replace S:=(S.nl [.blk O [Aa,iV Ai] 25] [true] rfl).k2 0 1 rfl
 refine Fr (Vk S rfl rfl fun a S=>Dz (Vm S rfl rfl fun a S=>Vm S rfl rfl ?_));clear S;intro a S
 obtain ⟨r1,hr1,h⟩:=Eh h
 refine Dy 0 S (b:=O) rfl rfl (fun _=>.blk O [Aa,iV r1.2] 25) (fun _=>Ck (vs:=[.pointer (some ⟨O,0,none⟩),iV Ar]) ⟨(S.tm rfl),(S.tm rfl),trivial⟩ call10) (Kt _ O Aa Aj (Af.mono (S.le_arg (Fd (i:=0) (e:=.blk O [Aa,iV Ai] 25) rfl))) Ai (S.holds _ (List.mem_of_getElem? (i:=0) rfl)) Ar _ hr1) rfl (fun _ _ _ h=>⟨h.1,fun _ hc=>by cases hc;rfl⟩) ?_;clear S;intro v1 a w1 hv1 hk1 hn1 S
 replace hv1:=hv1.2
 subst hv1
 refine Vq S Ip rfl rfl rfl fun a S=>Va S rfl rfl fun a S=>Dl (wp_ret ?_)
 obtain rfl:=Option.some.inj h
 exact Dx S results8 rfl ⟨(S.holds _ (List.mem_of_getElem? (i:=0) rfl)),rfl⟩
theorem Eu (w : World) (O : Nat) (Aa : Value) (Aj : List Int) (Af : Slc (view w [O]) 1 Aa (Aj.map eInt)) (Ai : Int) (Av : (LEnt.blk O [Aa,iV Ai] 25).holds w) (Ac : Value) (Al : List ByteArray) (Ak : Slc (view w [O]) 1 Ac (Al.map Kh)) (r : ByteArray × Int) (h : Gw Aj Ai Al = some r) :
    Calls prog 28 [.pointer (some ⟨O,0,none⟩),Ac].toArray w (Ret w [O] fun _ v w'=>(LEnt.blk O [Aa,iV r.2] 25).holds w' ∧ v = sV r.1):=by
 refine Ju [O] [.blk O [Aa,iV Ai] 25] func28 rfl ntmps28 rfl (fun e he=>by simp only [List.mem_singleton] at he;subst he;exact Av) (by simp [fps,LEnt.fp]) (by simp [fps,LEnt.fp]) fun a S=>?_
 unfold Gw at h
 replace S:=(S.nl [.blk O [Aa,iV Ai] 25] [true] rfl).k2 0 1 rfl
 refine Fr (Vk S rfl rfl fun a S=>Dl (Fs (Fg ?_)))
 iterate 3 (refine Vm S rfl rfl ?_;clear S;intro a S)
 refine lv S (En Lg (S.tm rfl) (Eg Ak)) rfl ?_;clear S;intro a S
 obtain ⟨r1,hr1,h⟩:=Eh h
 refine Dy 0 S (b:=O) rfl rfl (fun _=>.blk O [Aa,iV r1.2] 25) (fun _=>Ck (vs:=[.pointer (some ⟨O,0,none⟩),iV (Al.length : Int)]) ⟨(S.tm rfl),(S.tm rfl),trivial⟩ call10) (Kt _ O Aa Aj (Af.mono (S.le_arg (Fd (i:=0) (e:=.blk O [Aa,iV Ai] 25) rfl))) Ai (S.holds _ (List.mem_of_getElem? (i:=0) rfl)) (Al.length : Int) _ hr1) rfl (fun _ _ _ h=>⟨h.1,fun _ hc=>by cases hc;rfl⟩) ?_;clear S;intro v1 a w1 hv1 hk1 hn1 S
 replace hv1:=hv1.2
 subst hv1
 obtain ⟨hc1,h⟩:=Gz h
 obtain ⟨b1,o1,hm1,hr2⟩:=Ev (a:=a) (x:=.tmp 5) (y:=.tmp 9) (ty:=0) Lg Ak (Ct hc1).1 (Ct hc1).2 (S.tm rfl) (S.tm rfl)
 refine lv S (hr2 _) rfl ?_;clear S;intro a S
 clear hr2
 refine lv S (Hr isAgg9 (off:=o1) (o:=0) (S.tm rfl) (hm1.at S.emb0) rfl) rfl fun a S=>Va S rfl rfl fun a S=>Dl (wp_ret ?_)
 obtain rfl:=Option.some.inj h
 exact Dx S results28 rfl ⟨(S.holds _ (List.mem_of_getElem? (i:=0) rfl)),rfl⟩
theorem Jz (w : World) (O : Nat) (Aa : Value) (Aj : List Int) (Af : Slc (view w [O]) 1 Aa (Aj.map eInt)) (Ai : Int) (Av : (LEnt.blk O [Aa,iV Ai] 25).holds w) (Ac : Value) (Al : List Int) (Ak : Slc (view w [O]) 1 Ac (Al.map eInt)) (r : Int × Int) (h : Jg Aj Ai Al = some r) :
    Calls prog 7 [.pointer (some ⟨O,0,none⟩),Ac].toArray w (Ret w [O] fun _ v w'=>(LEnt.blk O [Aa,iV r.2] 25).holds w' ∧ v = iV r.1):=by
 refine Ju [O] [.blk O [Aa,iV Ai] 25] func7 rfl ntmps7 rfl (fun e he=>by simp only [List.mem_singleton] at he;subst he;exact Av) (by simp [fps,LEnt.fp]) (by simp [fps,LEnt.fp]) fun a S=>?_
 unfold Jg at h
 replace S:=(S.nl [.blk O [Aa,iV Ai] 25] [true] rfl).k2 0 1 rfl
 refine Fr (Vk S rfl rfl fun a S=>Dl (Fs (Fg ?_)))
 iterate 3 (refine Vm S rfl rfl ?_;clear S;intro a S)
 refine lv S (En Oj (S.tm rfl) (Eg Ak)) rfl ?_;clear S;intro a S
 obtain ⟨r1,hr1,h⟩:=Eh h
 refine Dy 0 S (b:=O) rfl rfl (fun _=>.blk O [Aa,iV r1.2] 25) (fun _=>Ck (vs:=[.pointer (some ⟨O,0,none⟩),iV (Al.length : Int)]) ⟨(S.tm rfl),(S.tm rfl),trivial⟩ call10) (Kt _ O Aa Aj (Af.mono (S.le_arg (Fd (i:=0) (e:=.blk O [Aa,iV Ai] 25) rfl))) Ai (S.holds _ (List.mem_of_getElem? (i:=0) rfl)) (Al.length : Int) _ hr1) rfl (fun _ _ _ h=>⟨h.1,fun _ hc=>by cases hc;rfl⟩) ?_;clear S;intro v1 a w1 hv1 hk1 hn1 S
 replace hv1:=hv1.2
 subst hv1
 obtain ⟨hc1,h⟩:=Gz h
 obtain ⟨b1,o1,hm1,hr2⟩:=Ev (a:=a) (x:=.tmp 5) (y:=.tmp 9) (ty:=0) Oj Ak (Ct hc1).1 (Ct hc1).2 (S.tm rfl) (S.tm rfl)
 refine lv S (hr2 _) rfl ?_;clear S;intro a S
 clear hr2
 refine lv S (Hr isAgg3 (off:=o1) (o:=0) (S.tm rfl) (hm1.at S.emb0) rfl) rfl fun a S=>Va S rfl rfl fun a S=>Dl (wp_ret ?_)
 obtain rfl:=Option.some.inj h
 exact Dx S results7 rfl ⟨(S.holds _ (List.mem_of_getElem? (i:=0) rfl)),rfl⟩
theorem Si (w : World) (O : Nat) (Aa : Value) (Aj : List Int) (Af : Slc (view w [O]) 1 Aa (Aj.map eInt)) (Ai : Int) (Av : (LEnt.blk O [Aa,iV Ai] 25).holds w) (r : (List Ef) × Int) (h : Ky Aj Ai = some r) :
    Calls prog 27 [.pointer (some ⟨O,0,none⟩)].toArray w (Ret w [O] fun τ v w'=>(LEnt.blk O [Aa,iV r.2] 25).holds w' ∧ OwnD τ 58 5 R58.enc Hg v r.1):=by
 refine Ju [O] [.blk O [Aa,iV Ai] 25] func27 rfl ntmps27 rfl (fun e he=>by simp only [List.mem_singleton] at he;subst he;exact Av) (by simp [fps,LEnt.fp]) (by simp [fps,LEnt.fp]) fun a S=>?_
 unfold Ky at h
 replace S:=(S.nl [.blk O [Aa,iV Ai] 25] [true] rfl).k1 0 rfl
 refine Fr (Vk S rfl rfl fun a S=>Dz (Vk S rfl rfl ?_));clear S;intro a S
 replace S:=S.nil 58 5
 refine Dl (Fs (Fr (De S underlying42 sizeOf9 zeroValue9 rfl rfl (pv:=[(0,sV Mj),(1,sV Pl),(2,sV Pm)]) ⟨rfl,rfl,rfl,rfl,rfl,rfl,trivial⟩ (cs:=[sV Mj,sV Pl,sV Pm]) (by kernel_rfl) rfl ?_)));clear S;intro a w1 b1 hz1 hk1 S
 refine lv S (En Lg (S.tm rfl) ⟨_,_,rfl⟩) rfl fun a S=>lv S (Rm rfl) rfl fun a S=>Dl ?_
 replace S:=(S.nl [.blk b1 [sV Mj,sV Pl,sV Pm] 9,.own (.slice none 0 0) 58 5 ([] : List R58).length (([] : List R58).flatMap R58.enc),.blk O [Aa,iV Ai] 25] [true,true,true] rfl).k5 0 3 9 10 11 rfl
 replace S:=S.litOwn (i:=0) (xs:=[Mj,Pl,Pm]) rfl Ex rfl rfl rfl
 replace S:=S.nk [.own (.slice (some ⟨b1,0,none⟩) 3 3) 9 1 ([Mj,Pl,Pm] : List ByteArray).length (([Mj,Pl,Pm] : List ByteArray).flatMap Kh),.own (.slice none 0 0) 58 5 ([] : List R58).length (([] : List R58).flatMap R58.enc),.blk O [Aa,iV Ai] 25] [(0,.pointer (some ⟨O,0,none⟩)),(3,(.slice none 0 0)),(9,(.slice (some ⟨b1,0,none⟩) 3 3)),(10,iV (([Mj,Pl,Pm] : List ByteArray).length : Int)),(11,iV 0)] [] rfl (subR rfl)
 obtain ⟨φ1,hl1,hs1,S⟩:=S.freezeT (xs:=([Mj,Pl,Pm] : List ByteArray)) (enc:=Kh) (i:=0) rfl (fun c hc hh=>Pt S (i:=2) rfl rfl (j:=0) rfl rfl (by simp at hc;subst hc;exact hh))
 replace S:=S.nk [.own (.slice none 0 0) 58 5 ([] : List R58).length (([] : List R58).flatMap R58.enc),.blk O [Aa,iV Ai] 25] [(0,.pointer (some ⟨O,0,none⟩)),(3,(.slice none 0 0)),(9,(.slice (some ⟨b1,0,none⟩) 3 3)),(10,iV (([Mj,Pl,Pm] : List ByteArray).length : Int)),(11,iV 0)] [] rfl (subR rfl)
 obtain ⟨j1,hj1,h⟩:=Dt h
 refine Dj (fun a w'=>∃ x1 : List Ef,∃ x2 : Int,∃ φ2 : View,∃ v1 : Value,∃ rs1 : List R58,j1 x1 x2 = some r ∧ View.le φ1 φ2 ∧ Fn (Hg φ2) x1 rs1 ∧ Sx w [O] φ2 [.own v1 58 5 rs1.length (rs1.flatMap R58.enc),.blk O [Aa,iV x2] 25] [(3,v1)] 49 a w') ?_ ?_
 ·refine wp_block (Gt (fun (ys1 : List ByteArray) a w'=>∃ i1 : Nat,∃ x1 : List Ef,∃ x2 : Int,∃ φ2 : View,∃ v1 : Value,∃ rs1 : List R58,(∃ dn,([Mj,Pl,Pm] : List ByteArray) = dn ++ ys1 ∧ dn.length = i1) ∧ Gg Aj j1 ys1 i1 x1 x2 = some r ∧ View.le φ1 φ2 ∧ Fn (Hg φ2) x1 rs1 ∧ Sx w [O] φ2 [.own v1 58 5 rs1.length (rs1.flatMap R58.enc),.blk O [Aa,iV x2] 25] [(0,.pointer (some ⟨O,0,none⟩)),(3,v1),(9,(.slice (some ⟨b1,0,none⟩) 3 3)),(10,iV (([Mj,Pl,Pm] : List ByteArray).length : Int)),(11,iV (i1 : Int))] 49 a w') List.length ([Mj,Pl,Pm] : List ByteArray) ⟨0,([] : List Ef),Ai,φ1,(.slice none 0 0),([] : List R58),⟨[],rfl,rfl⟩,h,View.le_refl _,.nil,S.nf [true,true] rfl (subR rfl)⟩ ?_)
  clear S h;rintro ys1 a w2 ⟨i1,x1,x2,φ2,v1,rs1,⟨dn,hd1,hi1⟩,h,hl2,hr1,S⟩
  cases ys1 with
  | nil =>
   rw [Gg.eq_1] at h
   refine Fr (Vb S Ee rfl rfl rfl fun a S=>Ld ?_)
   replace S:=S.k6 0 3 9 10 11 12 rfl
   exact Tn (Fs (wp_cond_false ((S.tm rfl).trans (congrArg Value.bool (Ig hd1 hi1))) (wp_exit (Eb (Eb (Gj (Tn (⟨x1,x2,φ2,v1,rs1,h,hl2,hr1,S.nf [true,true] rfl ⟨rfl,trivial⟩⟩))))))))
  | cons y1 ys1 =>
   rw [Gg.eq_2] at h
   refine Fr (Vb S Ee rfl rfl rfl fun a S=>Ld ?_)
   replace S:=S.k6 0 3 9 10 11 12 rfl
   refine Tn (Fs (wp_cond_true ((S.tm rfl).trans (congrArg Value.bool (Hh hd1 hi1))) (wp_skip (Tn (Fs ?_)))))
   obtain ⟨j2,hj2,h⟩:=Dt h
   refine Dj (fun a w'=>∃ x3 : List Ef,∃ x4 : Int,∃ φ3 : View,∃ v2 : Value,∃ rs2 : List R58,j2 x3 x4 = some r ∧ View.le φ2 φ3 ∧ Fn (Hg φ3) x3 rs2 ∧ Sx w [O] φ3 [.own v2 58 5 rs2.length (rs2.flatMap R58.enc),.blk O [Aa,iV x4] 25] [(0,.pointer (some ⟨O,0,none⟩)),(3,v2),(9,(.slice (some ⟨b1,0,none⟩) 3 3)),(10,iV (([Mj,Pl,Pm] : List ByteArray).length : Int)),(11,iV (i1 : Int))] 49 a w') ?_ ?_
   ·refine wp_block (Fs (Fg ?_))
    obtain ⟨b2,o1,hm1,hr3⟩:=Ev (a:=a) (x:=.tmp 9) (y:=.tmp 11) (ty:=0) Lg (Ei Ex hs1) (Ie hd1 hi1) rfl (S.tm rfl) (S.tm rfl)
    refine lv S (hr3 _) rfl ?_;clear S;intro a S
    clear hr3
    refine lv S (Hr isAgg9 (off:=o1) (o:=0) (S.tm rfl) ((hm1.mono hl2).at S.emb) rfl) rfl fun a S=>Va S rfl rfl fun a S=>Dl (Fs (Fr (Vm S rfl rfl ?_)));clear S;intro a S
    obtain ⟨r1,hr4,h⟩:=Eh h
    refine Dy 1 S (b:=O) rfl rfl (fun _=>.blk O [Aa,iV r1.2] 25) (fun _=>Ck (vs:=[.pointer (some ⟨O,0,none⟩),iV 6]) ⟨(S.tm rfl),rfl,trivial⟩ call8) (Jy _ O Aa Aj (Af.mono (S.le_arg (Fd (i:=1) (e:=.blk O [Aa,iV x2] 25) rfl))) x2 (S.holds _ (List.mem_of_getElem? (i:=1) rfl)) 6 _ hr4) rfl (fun _ _ _ h=>⟨h.1,fun _ hc=>by cases hc;rfl⟩) ?_;clear S;intro v3 a w5 hv1 hk2 hn1 S
    replace hv1:=hv1.2
    subst hv1
    refine Dl (Fc h (S.tm rfl) (fun hb1 h=>?_) (fun hb1 h=>?_))
    ·exact wp_exit (Eb (Gj (Tn (⟨x1,r1.2,φ2,v1,rs1,h,(View.le_refl _),hr1,S.nf [true,true] rfl (subR rfl)⟩))))
    ·refine wp_skip (Tn (Fr (Vm S rfl rfl fun a S=>Vm S rfl rfl fun a S=>De S underlying42 sizeOf9 zeroValue9 rfl rfl (pv:=[(0,sV Og),(1,sV Og),(2,sV Ua)]) ⟨rfl,rfl,rfl,rfl,rfl,rfl,trivial⟩ (cs:=[sV Og,sV Og,sV Ua]) (by kernel_rfl) rfl ?_)));clear S;intro a w6 b3 hz2 hk3 S
     obtain ⟨r2,hr5,h⟩:=Eh h
     refine Dy 2 S (b:=O) rfl rfl (fun _=>.blk O [Aa,iV r2.2] 25) (fun _=>Ck (vs:=[.pointer (some ⟨O,0,none⟩),.slice (some ⟨b3,0,none⟩) 3 3]) ⟨(S.tm rfl),(S.tm rfl),trivial⟩ call28) (Eu _ O Aa Aj (Af.mono (S.le_arg (Fd (i:=2) (e:=.blk O [Aa,iV r1.2] 25) rfl))) r1.2 (S.holds _ (List.mem_of_getElem? (i:=2) rfl)) (.slice (some ⟨b3,0,none⟩) 3 3) [Og,Og,Ua] (Fy Ex S (i:=0) rfl rfl rfl rfl ((Jd (i:=2) (j:=0) (e:=.blk O [Aa,iV r1.2] 25) (e':=.blk b3 [sV Og,sV Og,sV Ua] 9) S rfl rfl rfl) _ rfl)) _ hr5) rfl (fun _ _ _ h=>⟨h.1,fun _ hc=>by cases hc;rfl⟩) ?_;clear S;intro v4 a w7 hv2 hk4 hn2 S
     replace hv2:=hv2.2
     subst hv2
     refine Vm S rfl rfl fun a S=>De S underlying22 sizeOf3 zeroValue3 rfl rfl (pv:=[(0,iV 0),(1,iV 0),(2,iV 10)]) ⟨rfl,rfl,rfl,rfl,rfl,rfl,trivial⟩ (cs:=[iV 0,iV 0,iV 10]) (by kernel_rfl) rfl ?_;clear S;intro a w8 b4 hz3 hk5 S
     obtain ⟨r3,hr6,h⟩:=Eh h
     refine Dy 3 S (b:=O) rfl rfl (fun _=>.blk O [Aa,iV r3.2] 25) (fun _=>Ck (vs:=[.pointer (some ⟨O,0,none⟩),.slice (some ⟨b4,0,none⟩) 3 3]) ⟨(S.tm rfl),(S.tm rfl),trivial⟩ call7) (Jz _ O Aa Aj (Af.mono (S.le_arg (Fd (i:=3) (e:=.blk O [Aa,iV r2.2] 25) rfl))) r2.2 (S.holds _ (List.mem_of_getElem? (i:=3) rfl)) (.slice (some ⟨b4,0,none⟩) 3 3) [0,0,10] (Fy Kx S (i:=0) rfl rfl rfl rfl ((Jd (i:=3) (j:=0) (e:=.blk O [Aa,iV r2.2] 25) (e':=.blk b4 [iV 0,iV 0,iV 10] 3) S rfl rfl rfl) _ rfl)) _ hr6) rfl (fun _ _ _ h=>⟨h.1,fun _ hc=>by cases hc;rfl⟩) ?_;clear S;intro v5 a w9 hv3 hk6 hn3 S
     replace hv3:=hv3.2
     subst hv3
     refine Vm S rfl rfl fun a S=>De S underlying22 sizeOf3 zeroValue3 rfl rfl (pv:=[(0,iV 14),(1,iV 99),(2,iV 150)]) ⟨rfl,rfl,rfl,rfl,rfl,rfl,trivial⟩ (cs:=[iV 14,iV 99,iV 150]) (by kernel_rfl) rfl ?_;clear S;intro a w10 b5 hz4 hk7 S
     obtain ⟨r4,hr7,h⟩:=Eh h
     refine Dy 4 S (b:=O) rfl rfl (fun _=>.blk O [Aa,iV r4.2] 25) (fun _=>Ck (vs:=[.pointer (some ⟨O,0,none⟩),.slice (some ⟨b5,0,none⟩) 3 3]) ⟨(S.tm rfl),(S.tm rfl),trivial⟩ call7) (Jz _ O Aa Aj (Af.mono (S.le_arg (Fd (i:=4) (e:=.blk O [Aa,iV r3.2] 25) rfl))) r3.2 (S.holds _ (List.mem_of_getElem? (i:=4) rfl)) (.slice (some ⟨b5,0,none⟩) 3 3) [14,99,150] (Fy Kx S (i:=0) rfl rfl rfl rfl ((Jd (i:=4) (j:=0) (e:=.blk O [Aa,iV r3.2] 25) (e':=.blk b5 [iV 14,iV 99,iV 150] 3) S rfl rfl rfl) _ rfl)) _ hr7) rfl (fun _ _ _ h=>⟨h.1,fun _ hc=>by cases hc;rfl⟩) ?_;clear S;intro v6 a w11 hv4 hk8 hn4 S
     replace hv4:=hv4.2
     subst hv4
     refine lv S (Rb bt_58 (pv:=[(0,sV y1),(1,sV r2.1),(3,iV r3.1),(4,iV r4.1)]) ⟨rfl,(S.tm rfl),rfl,(S.tm rfl),rfl,(S.tm rfl),rfl,(S.tm rfl),trivial⟩ (cs:=[sV y1,sV r2.1,.slice none 0 0,iV r3.1,iV r4.1]) (by kernel_rfl)) rfl fun a S=>Lq S zeroValue58 (cs:=[sV Cj,sV Cj,.slice none 0 0,iV 0,iV 0]) rfl rfl ?_;clear S;intro a w12 b6 hz5 hk9 S
     replace S:=S.nil 9 1
     refine Gy S (S.tm rfl) (S.tm rfl) (i:=1) (off:=0) rfl sizeOf58 (vs:=[sV y1,sV r2.1,.slice none 0 0,iV r3.1,iV r4.1]) rfl rfl rfl rfl ?_;clear S;intro w13 hk10 S
     replace S:=S.nil 9 1
     refine Ld ?_
     replace S:=(S.nl [.own (.slice none 0 0) 9 1 ([] : List ByteArray).length (([] : List ByteArray).flatMap Kh),.blk b6 [sV y1,sV r2.1,(.slice none 0 0),iV r3.1,iV r4.1] 58,.own v1 58 5 rs1.length (rs1.flatMap R58.enc),.blk O [Aa,iV r4.2] 25] [true,false,true,false,false,false,true,true] rfl).k6 0 3 6 9 10 11 rfl
     refine Tn (Fs (Fr (De S underlying42 sizeOf9 zeroValue9 rfl rfl (pv:=[(0,sV Jc),(1,sV Mg)]) ⟨rfl,rfl,rfl,rfl,trivial⟩ (cs:=[sV Jc,sV Mg]) (by kernel_rfl) rfl ?_)));clear S;intro a w14 b7 hz6 hk11 S
     refine lv S (En Lg (S.tm rfl) ⟨_,_,rfl⟩) rfl fun a S=>lv S (Rm rfl) rfl fun a S=>Dl ?_
     replace S:=(S.nl [.blk b7 [sV Jc,sV Mg] 9,.own (.slice none 0 0) 9 1 ([] : List ByteArray).length (([] : List ByteArray).flatMap Kh),.blk b6 [sV y1,sV r2.1,(.slice none 0 0),iV r3.1,iV r4.1] 58,.own v1 58 5 rs1.length (rs1.flatMap R58.enc),.blk O [Aa,iV r4.2] 25] [true,true,true,true,true] rfl).k9 0 3 6 9 10 11 28 29 30 rfl
     replace S:=S.litOwn (i:=0) (xs:=[Jc,Mg]) rfl Ex rfl rfl rfl
     replace S:=S.nk [.own (.slice (some ⟨b7,0,none⟩) 2 2) 9 1 ([Jc,Mg] : List ByteArray).length (([Jc,Mg] : List ByteArray).flatMap Kh),.own (.slice none 0 0) 9 1 ([] : List ByteArray).length (([] : List ByteArray).flatMap Kh),.blk b6 [sV y1,sV r2.1,(.slice none 0 0),iV r3.1,iV r4.1] 58,.own v1 58 5 rs1.length (rs1.flatMap R58.enc),.blk O [Aa,iV r4.2] 25] [(0,.pointer (some ⟨O,0,none⟩)),(3,v1),(6,.pointer (some ⟨b6,0,none⟩)),(9,(.slice (some ⟨b1,0,none⟩) 3 3)),(10,iV (([Mj,Pl,Pm] : List ByteArray).length : Int)),(11,iV (i1 : Int)),(28,(.slice (some ⟨b7,0,none⟩) 2 2)),(29,iV (([Jc,Mg] : List ByteArray).length : Int)),(30,iV 0)] [] rfl (subR rfl)
     obtain ⟨φ4,hl4,hs2,S⟩:=S.freezeT (xs:=([Jc,Mg] : List ByteArray)) (enc:=Kh) (i:=0) rfl (fun c hc hh=>Pt S (i:=4) rfl rfl (j:=0) rfl rfl (by simp at hc;subst hc;exact hh))
     replace S:=S.nk [.own (.slice none 0 0) 9 1 ([] : List ByteArray).length (([] : List ByteArray).flatMap Kh),.blk b6 [sV y1,sV r2.1,(.slice none 0 0),iV r3.1,iV r4.1] 58,.own v1 58 5 rs1.length (rs1.flatMap R58.enc),.blk O [Aa,iV r4.2] 25] [(0,.pointer (some ⟨O,0,none⟩)),(3,v1),(6,.pointer (some ⟨b6,0,none⟩)),(9,(.slice (some ⟨b1,0,none⟩) 3 3)),(10,iV (([Mj,Pl,Pm] : List ByteArray).length : Int)),(11,iV (i1 : Int)),(28,(.slice (some ⟨b7,0,none⟩) 2 2)),(29,iV (([Jc,Mg] : List ByteArray).length : Int)),(30,iV 0)] [] rfl (subR rfl)
     obtain ⟨j3,hj3,h⟩:=Dt h
     refine Dj (fun a w'=>∃ x5 : List ByteArray,∃ x6 : Int,∃ v7 : Value,j3 x5 x6 = some r ∧ Sx w [O] φ4 [.own v7 9 1 x5.length (x5.flatMap Kh),.blk b6 [sV y1,sV r2.1,v7,iV r3.1,iV r4.1] 58,.own v1 58 5 rs1.length (rs1.flatMap R58.enc),.blk O [Aa,iV x6] 25] [(0,.pointer (some ⟨O,0,none⟩)),(3,v1),(6,.pointer (some ⟨b6,0,none⟩)),(9,(.slice (some ⟨b1,0,none⟩) 3 3)),(10,iV (([Mj,Pl,Pm] : List ByteArray).length : Int)),(11,iV (i1 : Int))] 49 a w') ?_ ?_
     ·refine wp_block (Gt (fun (ys2 : List ByteArray) a w'=>∃ i2 : Nat,∃ x5 : List ByteArray,∃ x6 : Int,∃ v7 : Value,(∃ dn,([Jc,Mg] : List ByteArray) = dn ++ ys2 ∧ dn.length = i2) ∧ Gn Aj j3 ys2 i2 x5 x6 = some r ∧ Sx w [O] φ4 [.own v7 9 1 x5.length (x5.flatMap Kh),.blk b6 [sV y1,sV r2.1,v7,iV r3.1,iV r4.1] 58,.own v1 58 5 rs1.length (rs1.flatMap R58.enc),.blk O [Aa,iV x6] 25] [(0,.pointer (some ⟨O,0,none⟩)),(3,v1),(6,.pointer (some ⟨b6,0,none⟩)),(9,(.slice (some ⟨b1,0,none⟩) 3 3)),(10,iV (([Mj,Pl,Pm] : List ByteArray).length : Int)),(11,iV (i1 : Int)),(28,(.slice (some ⟨b7,0,none⟩) 2 2)),(29,iV (([Jc,Mg] : List ByteArray).length : Int)),(30,iV (i2 : Int))] 49 a w') List.length ([Jc,Mg] : List ByteArray) ⟨0,([] : List ByteArray),r4.2,(.slice none 0 0),⟨[],rfl,rfl⟩,h,S.nf [true,true,true,true] rfl (subR rfl)⟩ ?_)
      clear S h;rintro ys2 a w15 ⟨i2,x5,x6,v7,⟨dn,hd2,hi2⟩,h,S⟩
      cases ys2 with
      | nil =>
       rw [Gn.eq_1] at h
       refine Fr (Vb S Ee rfl rfl rfl fun a S=>Ld ?_)
       replace S:=S.k10 0 3 6 9 10 11 28 29 30 31 rfl
       exact Tn (Fs (wp_cond_false ((S.tm rfl).trans (congrArg Value.bool (Ig hd2 hi2))) (wp_exit (Eb (Eb (Gj (Tn (⟨x5,x6,v7,h,S.nf [true,true,true,true] rfl (subR rfl)⟩))))))))
      | cons y2 ys2 =>
       rw [Gn.eq_2] at h
       refine Fr (Vb S Ee rfl rfl rfl fun a S=>Ld ?_)
       replace S:=S.k10 0 3 6 9 10 11 28 29 30 31 rfl
       refine Tn (Fs (wp_cond_true ((S.tm rfl).trans (congrArg Value.bool (Hh hd2 hi2))) (wp_skip (Tn (Fs ?_)))))
       obtain ⟨j4,hj4,h⟩:=Dt h
       refine Dj (fun a w'=>∃ x7 : List ByteArray,∃ x8 : Int,∃ v8 : Value,j4 x7 x8 = some r ∧ Sx w [O] φ4 [.own v8 9 1 x7.length (x7.flatMap Kh),.blk b6 [sV y1,sV r2.1,v8,iV r3.1,iV r4.1] 58,.own v1 58 5 rs1.length (rs1.flatMap R58.enc),.blk O [Aa,iV x8] 25] [(0,.pointer (some ⟨O,0,none⟩)),(3,v1),(6,.pointer (some ⟨b6,0,none⟩)),(9,(.slice (some ⟨b1,0,none⟩) 3 3)),(10,iV (([Mj,Pl,Pm] : List ByteArray).length : Int)),(11,iV (i1 : Int)),(28,(.slice (some ⟨b7,0,none⟩) 2 2)),(29,iV (([Jc,Mg] : List ByteArray).length : Int)),(30,iV (i2 : Int))] 49 a w') ?_ ?_
       ·refine wp_block (Fs (Fg ?_))
        obtain ⟨b8,o2,hm2,hr8⟩:=Ev (a:=a) (x:=.tmp 28) (y:=.tmp 30) (ty:=0) Lg (Ei Ex hs2) (Ie hd2 hi2) rfl (S.tm rfl) (S.tm rfl)
        refine lv S (hr8 _) rfl ?_;clear S;intro a S
        clear hr8
        refine lv S (Hr isAgg9 (off:=o2) (o:=0) (S.tm rfl) (hm2.at S.emb) rfl) rfl fun a S=>Va S rfl rfl fun a S=>Dz (Vm S rfl rfl ?_);clear S;intro a S
        obtain ⟨r5,hr9,h⟩:=Eh h
        refine Dy 3 S (b:=O) rfl rfl (fun _=>.blk O [Aa,iV r5.2] 25) (fun _=>Ck (vs:=[.pointer (some ⟨O,0,none⟩),iV 3]) ⟨(S.tm rfl),rfl,trivial⟩ call8) (Jy _ O Aa Aj (Af.mono (S.le_arg (Fd (i:=3) (e:=.blk O [Aa,iV x6] 25) rfl))) x6 (S.holds _ (List.mem_of_getElem? (i:=3) rfl)) 3 _ hr9) rfl (fun _ _ _ h=>⟨h.1,fun _ hc=>by cases hc;rfl⟩) ?_;clear S;intro v9 a w18 hv5 hk12 hn5 S
        replace hv5:=hv5.2
        subst hv5
        refine Ld ?_
        replace S:=(S.nl [.own v7 9 1 x5.length (x5.flatMap Kh),.blk b6 [sV y1,sV r2.1,v7,iV r3.1,iV r4.1] 58,.own v1 58 5 rs1.length (rs1.flatMap R58.enc),.blk O [Aa,iV r5.2] 25] [true,true,true,true] rfl).k11 0 3 6 8 9 10 11 28 29 30 35 rfl
        refine Tn ?_
        obtain ⟨j5,hj5,h⟩:=Dt h
        refine Dj (fun a w'=>∃ x9 : List ByteArray,∃ v10 : Value,j5 x9 = some r ∧ Sx w [O] φ4 [.own v10 9 1 x9.length (x9.flatMap Kh),.blk b6 [sV y1,sV r2.1,v10,iV r3.1,iV r4.1] 58,.own v1 58 5 rs1.length (rs1.flatMap R58.enc),.blk O [Aa,iV r5.2] 25] [(0,.pointer (some ⟨O,0,none⟩)),(3,v1),(6,.pointer (some ⟨b6,0,none⟩)),(9,(.slice (some ⟨b1,0,none⟩) 3 3)),(10,iV (([Mj,Pl,Pm] : List ByteArray).length : Int)),(11,iV (i1 : Int)),(28,(.slice (some ⟨b7,0,none⟩) 2 2)),(29,iV (([Jc,Mg] : List ByteArray).length : Int)),(30,iV (i2 : Int))] 49 a w') ?_ ?_
        ·refine Fc h (S.tm rfl) (fun hb2 h=>?_) (fun hb2 h=>?_)
         ·refine Fg (Vf Nb S rfl rfl fun a S=>Vl isAgg42 1 S rfl rfl rfl rfl fun a S=>Vm S rfl rfl fun a S=>De S underlying42 sizeOf9 zeroValue9 rfl rfl (pv:=[(0,sV y2)]) ⟨rfl,(S.tm rfl),trivial⟩ (cs:=[sV y2]) (by kernel_rfl) rfl ?_);clear S;intro a w20 b9 hz7 hk13 S
          obtain ⟨hc1,h⟩:=Gz h
          refine Kw Lg Ex S (S.tm rfl) (i:=1) rfl (S.tm rfl) (j:=0) rfl (ys:=[y2]) rfl rfl rfl rfl (by have:=Lh hc1;omega) rfl ?_;clear S;intro v11 a w21 hk14 S
          refine Vf Nb S rfl rfl fun a S=>Gy S (S.tm rfl) (S.tm rfl) (i:=2) (off:=2) rfl sizeOf42 (vs:=[v11]) (Fw.cells (Ns (S.own_at (i:=1) rfl))) rfl rfl (Nv (Fw.one (Ns (S.own_at (i:=1) rfl))) rfl) ?_;clear S;intro w22 hk15 S
          refine Ld ?_
          replace S:=(S.nl [.own v11 9 1 (x5 ++ [y2]).length ((x5 ++ [y2]).flatMap Kh),.blk b6 [sV y1,sV r2.1,v11,iV r3.1,iV r4.1] 58,.own v1 58 5 rs1.length (rs1.flatMap R58.enc),.blk O [Aa,iV r5.2] 25] [false,true,true,true,true] rfl).k9 0 3 6 9 10 11 28 29 30 rfl
          exact Tn (⟨(x5 ++ [y2]),v11,h,S.nf [true,true,true,true] rfl (subR rfl)⟩)
         ·exact wp_skip (Tn (⟨x5,v7,h,S.nf [true,true,true,true] rfl (subR rfl)⟩))
        clear S h;rintro a w19 ⟨x9,v10,h,S⟩;rw [hj5] at h;clear hj5 j5
        exact Hj (Tn (⟨x9,r5.2,v10,h,S.nf [true,true,true,true] rfl (subR rfl)⟩))
       clear S h;rintro a w17 ⟨x7,x8,v8,h,S⟩;rw [hj4] at h;clear hj4 j4
       exact Tn (Fg (Vq S Ew rfl rfl rfl fun a S=>Vm S rfl rfl fun a S=>Dl (⟨ys2,⟨i2 + 1,x7,x8,v8,⟨_,(hd2).trans (List.append_cons _ _ _),by simp [hi2]⟩,h,S.nf [true,true,true,true] rfl ⟨rfl,rfl,rfl,rfl,rfl,rfl,rfl,rfl,(congrArg (fun z=>some (Value.int .i64 z)) (Hi hd2 hi2 (Jk (Ei Ex hs2)))),trivial⟩⟩,Nat.lt_succ_self _⟩)))
     clear S h;rintro a w16 ⟨x5,x6,v7,h,S⟩;rw [hj3] at h;clear hj3 j3
     refine Tn (Fg (Vm S rfl rfl fun a S=>lv S (Ey isAgg58 sizeOf58 (off:=0) (o:=0) (part:=[sV y1,sV r2.1,v7,iV r3.1,iV r4.1]) rfl rfl (S.tm rfl) (S.cellsAt (i:=1) rfl)) rfl fun a S=>De S underlying26 sizeOf58 zeroValue58 rfl rfl (pv:=[(0,.agg #[sV y1,sV r2.1,v7,iV r3.1,iV r4.1])]) ⟨rfl,(S.tm rfl),trivial⟩ (cs:=[sV y1,sV r2.1,v7,iV r3.1,iV r4.1]) (by kernel_rfl) rfl ?_));clear S;intro a w23 b10 hz8 hk16 S
     obtain ⟨φ5,hl5,hs3,S⟩:=S.freezeT (xs:=x5) (enc:=Kh) (i:=1) rfl (fun c hc hh=>Pt S (i:=4) rfl rfl (j:=1) rfl rfl (by simp at hc;subst hc;exact hh))
     replace S:=S.nk [.blk b10 [sV y1,sV r2.1,v7,iV r3.1,iV r4.1] 58,.blk b6 [sV y1,sV r2.1,v7,iV r3.1,iV r4.1] 58,.own v1 58 5 rs1.length (rs1.flatMap R58.enc),.blk O [Aa,iV x6] 25] [(0,.pointer (some ⟨O,0,none⟩)),(3,v1),(6,.pointer (some ⟨b6,0,none⟩)),(9,(.slice (some ⟨b1,0,none⟩) 3 3)),(10,iV (([Mj,Pl,Pm] : List ByteArray).length : Int)),(11,iV (i1 : Int)),(43,v1),(44,.agg #[sV y1,sV r2.1,v7,iV r3.1,iV r4.1]),(45,.slice (some ⟨b10,0,none⟩) 1 1)] [] rfl (subR rfl)
     obtain ⟨hc2,h⟩:=Gz h
     have hr10 : Fn (Hg φ5) (x1 ++ [(Ef.mk y1 r2.1 x5 r3.1 r4.1)]) (rs1 ++ [(R58.mk y1 r2.1 ⟨v7,Fw.one (Eg (Ei Ex hs3))⟩ r3.1 r4.1)]):=Fn.app (On (View.le_trans hl4 hl5) hr1) (Fn.cons ⟨⟨v7,Fw.one (Eg (Ei Ex hs3))⟩,rfl,(Ei Ex hs3)⟩ Fn.nil)
     refine Kw Qk R58.enc_ok S (S.tm rfl) (i:=2) rfl (S.tm rfl) (j:=0) rfl (ys:=[(R58.mk y1 r2.1 ⟨v7,Fw.one (Eg (Ei Ex hs3))⟩ r3.1 r4.1)]) rfl rfl rfl rfl (by have:=Lh hc2;have:=Fn.len (On (View.le_trans hl4 hl5) hr1);simp at this ⊢;omega) rfl ?_;clear S;intro v12 a w24 hk17 S
     exact Va S rfl rfl fun a S=>Ld (Hj (Tn (⟨(x1 ++ [(Ef.mk y1 r2.1 x5 r3.1 r4.1)]),x6,φ5,v12,(rs1 ++ [(R58.mk y1 r2.1 ⟨v7,Fw.one (Eg (Ei Ex hs3))⟩ r3.1 r4.1)]),h,(View.le_trans hl4 hl5),hr10,S.nf [false,false,true,true] rfl (subR rfl)⟩)))
   clear S h;rintro a w4 ⟨x3,x4,φ3,v2,rs2,h,hl3,hr2,S⟩;rw [hj2] at h;clear hj2 j2
   exact Tn (Fg (Vq S Ew rfl rfl rfl fun a S=>Vm S rfl rfl fun a S=>Dl (⟨ys1,⟨i1 + 1,x3,x4,φ3,v2,rs2,⟨_,(hd1).trans (List.append_cons _ _ _),by simp [hi1]⟩,h,(View.le_trans hl2 hl3),hr2,S.nf [true,true] rfl ⟨rfl,rfl,rfl,rfl,(congrArg (fun z=>some (Value.int .i64 z)) (Hi hd1 hi1 (Jk (Ei Ex hs1)))),trivial⟩⟩,Nat.lt_succ_self _⟩)))
 clear S h;rintro a w3 ⟨x1,x2,φ2,v1,rs1,h,hl2,hr1,S⟩;rw [hj1] at h;clear hj1 j1
 refine Tn (Fr (Vm S rfl rfl fun a S=>Va S rfl rfl fun a S=>Dl (wp_ret ?_)))
 obtain rfl:=Option.some.inj h
 exact Dx S results27 rfl ⟨(S.holds _ (List.mem_of_getElem? (i:=1) rfl)),⟨_,(Wl S (i:=0) rfl (fun c hc hh=>Pt S (i:=1) rfl rfl (j:=0) rfl rfl (by simp at hc;subst hc;exact hh))),On (S.le_hide (i:=0) rfl) hr1⟩⟩
theorem Pb (w : World) (O : Nat) (Aa : Value) (Aj : List Int) (Af : Slc (view w [O]) 1 Aa (Aj.map eInt)) (Ai : Int) (Av : (LEnt.blk O [Aa,iV Ai] 25).holds w) (Aw : Int) (As : Int) (r : Int × Int) (h : Kz Aj Ai Aw As = some r) :
    Calls prog 6 [.pointer (some ⟨O,0,none⟩),iV Aw,iV As].toArray w (Ret w [O] fun _ v w'=>(LEnt.blk O [Aa,iV r.2] 25).holds w' ∧ v = iV r.1):=by
 refine Ju [O] [.blk O [Aa,iV Ai] 25] func6 rfl ntmps6 rfl (fun e he=>by simp only [List.mem_singleton] at he;subst he;exact Av) (by simp [fps,LEnt.fp]) (by simp [fps,LEnt.fp]) fun a S=>?_
 unfold Kz at h
 replace S:=(S.nl [.blk O [Aa,iV Ai] 25] [true] rfl).k3 0 1 2 rfl
 refine Fr (Vk S rfl rfl fun a S=>Dl (Fs (Fr (Vm S rfl rfl fun a S=>Vm S rfl rfl fun a S=>Vb S Ee rfl rfl rfl ?_))));clear S;intro a S
 refine Dl (Fc h (S.tm rfl) (fun hb1 h=>?_) (fun hb1 h=>?_))
 ·refine Fr (Vm S rfl rfl fun a S=>Va S rfl rfl fun a S=>Dl (wp_ret (Cn ?_)))
  obtain rfl:=Option.some.inj h
  exact Dx S results6 rfl ⟨(S.holds _ (List.mem_of_getElem? (i:=0) rfl)),rfl⟩
 ·refine wp_skip (Tn (Fs (Fg ?_)))
  iterate 4 (refine Vm S rfl rfl ?_;clear S;intro a S)
  refine Vb S Hs rfl rfl rfl fun a S=>Vq S Ew rfl rfl rfl ?_;clear S;intro a S
  obtain ⟨r1,hr1,h⟩:=Eh h
  refine Dy 0 S (b:=O) rfl rfl (fun _=>.blk O [Aa,iV r1.2] 25) (fun _=>Ck (vs:=[.pointer (some ⟨O,0,none⟩),iV (W ((W (As - Aw)) + 1))]) ⟨(S.tm rfl),(S.tm rfl),trivial⟩ call10) (Kt _ O Aa Aj (Af.mono (S.le_arg (Fd (i:=0) (e:=.blk O [Aa,iV Ai] 25) rfl))) Ai (S.holds _ (List.mem_of_getElem? (i:=0) rfl)) (W ((W (As - Aw)) + 1)) _ hr1) rfl (fun _ _ _ h=>⟨h.1,fun _ hc=>by cases hc;rfl⟩) ?_;clear S;intro v1 a w1 hv1 hk1 hn1 S
  replace hv1:=hv1.2
  subst hv1
  refine Vb S Ew rfl rfl rfl fun a S=>Va S rfl rfl fun a S=>Ld ?_
  replace S:=(S.nl [.blk O [Aa,iV r1.2] 25] [true] rfl).k1 6 rfl
  refine Tn (wp_ret ?_)
  obtain rfl:=Option.some.inj h
  exact Dx S results6 rfl ⟨(S.holds _ (List.mem_of_getElem? (i:=0) rfl)),rfl⟩
theorem Jj (w : World) (O : Nat) (Aa : Value) (Aj : List Int) (Af : Slc (view w [O]) 1 Aa (Aj.map eInt)) (Ai : Int) (Av : (LEnt.blk O [Aa,iV Ai] 25).holds w) (Aw : Int) (As : Int) (r : Int × Int) (h : Jl Aj Ai Aw As = some r) :
    Calls prog 29 [.pointer (some ⟨O,0,none⟩),iV Aw,iV As].toArray w (Ret w [O] fun _ v w'=>(LEnt.blk O [Aa,iV r.2] 25).holds w' ∧ v = iV r.1):=by
 refine Ju [O] [.blk O [Aa,iV Ai] 25] func29 rfl ntmps29 rfl (fun e he=>by simp only [List.mem_singleton] at he;subst he;exact Av) (by simp [fps,LEnt.fp]) (by simp [fps,LEnt.fp]) fun a S=>?_
 unfold Jl at h
 replace S:=(S.nl [.blk O [Aa,iV Ai] 25] [true] rfl).k3 0 1 2 rfl
 refine Fr (Vk S rfl rfl fun a S=>Dl (Fs (Fr (Vm S rfl rfl ?_))));clear S;intro a S
 obtain ⟨r1,hr1,h⟩:=Eh h
 refine Dy 0 S (b:=O) rfl rfl (fun _=>.blk O [Aa,iV r1.2] 25) (fun _=>Ck (vs:=[.pointer (some ⟨O,0,none⟩),iV 12]) ⟨(S.tm rfl),rfl,trivial⟩ call8) (Jy _ O Aa Aj (Af.mono (S.le_arg (Fd (i:=0) (e:=.blk O [Aa,iV Ai] 25) rfl))) Ai (S.holds _ (List.mem_of_getElem? (i:=0) rfl)) 12 _ hr1) rfl (fun _ _ _ h=>⟨h.1,fun _ hc=>by cases hc;rfl⟩) ?_;clear S;intro v1 a w1 hv1 hk1 hn1 S
 replace hv1:=hv1.2
 subst hv1
 refine Dl (Fc h (S.tm rfl) (fun hb1 h=>?_) (fun hb1 h=>?_))
 ·refine Fr (Vm S rfl rfl fun a S=>Vm S rfl rfl fun a S=>Vq S Hs rfl rfl rfl fun a S=>Vm S rfl rfl fun a S=>Vq S Ew rfl rfl rfl fun a S=>Vm S rfl rfl fun a S=>Vm S rfl rfl fun a S=>De S underlying22 sizeOf3 zeroValue3 rfl rfl (pv:=[(0,iV (W (Aw - 1))),(1,iV (W (As + 1))),(2,iV Aw),(3,iV As),(4,iV (-1099511627776)),(5,iV 1099511627776)]) ⟨rfl,(S.tm rfl),rfl,(S.tm rfl),rfl,(S.tm rfl),rfl,(S.tm rfl),rfl,rfl,rfl,rfl,trivial⟩ (cs:=[iV (W (Aw - 1)),iV (W (As + 1)),iV Aw,iV As,iV (-1099511627776),iV 1099511627776]) (by kernel_rfl) rfl ?_);clear S;intro a w2 b1 hz1 hk2 S
  obtain ⟨r2,hr2,h⟩:=Eh h
  refine Dy 1 S (b:=O) rfl rfl (fun _=>.blk O [Aa,iV r2.2] 25) (fun _=>Ck (vs:=[.pointer (some ⟨O,0,none⟩),.slice (some ⟨b1,0,none⟩) 6 6]) ⟨(S.tm rfl),(S.tm rfl),trivial⟩ call7) (Jz _ O Aa Aj (Af.mono (S.le_arg (Fd (i:=1) (e:=.blk O [Aa,iV r1.2] 25) rfl))) r1.2 (S.holds _ (List.mem_of_getElem? (i:=1) rfl)) (.slice (some ⟨b1,0,none⟩) 6 6) [W (Aw - 1),W (As + 1),Aw,As,(-1099511627776),1099511627776] (Fy Kx S (i:=0) rfl rfl rfl rfl ((Jd (i:=1) (j:=0) (e:=.blk O [Aa,iV r1.2] 25) (e':=.blk b1 [iV (W (Aw - 1)),iV (W (As + 1)),iV Aw,iV As,iV (-1099511627776),iV 1099511627776] 3) S rfl rfl rfl) _ rfl)) _ hr2) rfl (fun _ _ _ h=>⟨h.1,fun _ hc=>by cases hc;rfl⟩) ?_;clear S;intro v2 a w3 hv2 hk3 hn2 S
  replace hv2:=hv2.2
  subst hv2
  refine Va S rfl rfl fun a S=>Ld ?_
  replace S:=(S.nl [.blk O [Aa,iV r2.2] 25] [false,true] rfl).k1 6 rfl
  refine Tn (wp_ret (Cn ?_))
  obtain rfl:=Option.some.inj h
  exact Dx S results29 rfl ⟨(S.holds _ (List.mem_of_getElem? (i:=0) rfl)),rfl⟩
 ·refine wp_skip (Tn (Fs (Fg ?_)))
  iterate 3 (refine Vm S rfl rfl ?_;clear S;intro a S)
  obtain ⟨r3,hr3,h⟩:=Eh h
  refine Dy 0 S (b:=O) rfl rfl (fun _=>.blk O [Aa,iV r3.2] 25) (fun _=>Ck (vs:=[.pointer (some ⟨O,0,none⟩),iV Aw,iV As]) ⟨(S.tm rfl),(S.tm rfl),(S.tm rfl),trivial⟩ call6) (Pb _ O Aa Aj (Af.mono (S.le_arg (Fd (i:=0) (e:=.blk O [Aa,iV r1.2] 25) rfl))) r1.2 (S.holds _ (List.mem_of_getElem? (i:=0) rfl)) Aw As _ hr3) rfl (fun _ _ _ h=>⟨h.1,fun _ hc=>by cases hc;rfl⟩) ?_;clear S;intro v3 a w4 hv3 hk4 hn3 S
  replace hv3:=hv3.2
  subst hv3
  refine Va S rfl rfl fun a S=>Dl (wp_ret ?_)
  obtain rfl:=Option.some.inj h
  exact Dx S results29 rfl ⟨(S.holds _ (List.mem_of_getElem? (i:=0) rfl)),rfl⟩
theorem Rg (w : World) (Am : Value) (Ae : List ByteArray) (Bg : Slc (view w []) 1 Am (Ae.map Kh)) (r : (List ByteArray)) (h : Li Ae = some r) :
    Calls prog 30 [Am].toArray w (Ret w [] fun τ v _=>Le τ 9 1 v r.length (r.flatMap Kh)):=by
 refine Fe func30 rfl ntmps30 rfl fun a S=>?_
 unfold Li at h
 replace S:=S.k1 0 rfl
 refine Fr (Vk S rfl rfl fun a S=>Dl (Fs (Fr (Vm S rfl rfl fun a S=>lv S (Zq underlying42 (Eg Bg) (S.tm rfl) rfl) rfl fun a S=>Ld ?_))))
 refine Tn (Wi (S.tm rfl) (fun hb1=>?_) (fun hb1=>?_))
 ·have hx1:=Zp Bg hb1
  subst hx1
  replace h : some ([] : List ByteArray) = some r:=h
  refine Fr (Vk S rfl rfl fun a S=>Dl (wp_ret (Cn ?_)))
  obtain rfl:=Option.some.inj h
  exact Dx S results30 rfl (Jv _ _ _)
 ·refine wp_skip (Tn (Fr (Tc S underlying42 sizeOf9 rfl ?_)));clear S;intro a w1 b1 hz1 hk1 S
  refine Vm S rfl rfl ?_;clear S;intro a S
  replace S:=S.litOwn (i:=0) (xs:=([] : List ByteArray)) rfl Ex rfl rfl rfl
  replace S:=S.nk [.own (.slice (some ⟨b1,0,none⟩) 0 0) 9 1 (([] : List ByteArray) : List ByteArray).length ((([] : List ByteArray) : List ByteArray).flatMap Kh)] [(0,Am),(2,.slice none 0 0),(3,Am),(4,bV (DW Am)),(5,(.slice (some ⟨b1,0,none⟩) 0 0)),(6,Am)] [] rfl (subR rfl)
  obtain ⟨hc1,h⟩:=Gz h
  refine Ur (Y:=[]) Lg Ex S (S.tm rfl) (i:=0) rfl (S.tm rfl) (Bg.mono (S.le_arg (fun _ h=>by cases h))) rfl rfl (by have:=Lh hc1;omega) rfl ?_;clear S;intro v1 a w2 hk2 S
  refine Va S rfl rfl fun a S=>Dl (wp_ret ?_)
  obtain rfl:=Option.some.inj h
  exact Dx S results30 rfl (Ll S (i:=0) rfl rfl)
theorem Vp (w : World) (O : Nat) (Aa : Value) (Aj : List Int) (Af : Slc (view w [O]) 1 Aa (Aj.map eInt)) (Ai : Int) (Av : (LEnt.blk O [Aa,iV Ai] 25).holds w) (r : (List Ef) × Int) (h : Nw Aj Ai = some r) :
    Calls prog 4 [.pointer (some ⟨O,0,none⟩)].toArray w (Ret w [O] fun τ v w'=>(LEnt.blk O [Aa,iV r.2] 25).holds w' ∧ OwnD τ 58 5 R58.enc Hg v r.1):=by
 refine Ju [O] [.blk O [Aa,iV Ai] 25] func4 rfl ntmps4 rfl (fun e he=>by simp only [List.mem_singleton] at he;subst he;exact Av) (by simp [fps,LEnt.fp]) (by simp [fps,LEnt.fp]) fun a S=>?_
 unfold Nw at h
 replace S:=(S.nl [.blk O [Aa,iV Ai] 25] [true] rfl).k1 0 rfl
 refine Fr (Vk S rfl rfl fun a S=>Dz (Vm S rfl rfl ?_));clear S;intro a S
 obtain ⟨r1,hr1,h⟩:=Eh h
 have hz1:=S.keep.size
 refine Dy 0 S (b:=O) rfl rfl (fun _=>.blk O [Aa,iV r1.2] 25) (fun _=>Ck (vs:=[.pointer (some ⟨O,0,none⟩)]) ⟨(S.tm rfl),trivial⟩ call27) (Si _ O Aa Aj (Af.mono (S.le_arg (Fd (i:=0) (e:=.blk O [Aa,iV Ai] 25) rfl))) Ai (S.holds _ (List.mem_of_getElem? (i:=0) rfl)) _ hr1) rfl (fun _ _ _ h=>⟨h.1,fun _ hc=>by cases hc;rfl⟩) ?_;clear S;intro v1 a w1 hv1 hk1 hn1 S
 replace hv1:=hv1.2
 obtain ⟨rs1,ho2,hr2⟩:=hv1
 obtain ⟨φ1,hl1,hr3,S⟩:=S.takeD (Vd) hn1 hz1 ho2 hr2
 refine Va S rfl rfl fun a S=>Dl (Fs (Fr (Vm S rfl rfl fun a S=>lv S (En Qk (S.tm rfl) (Zs (S.own_at (i:=0) rfl) hr3)) rfl fun a S=>Vq S Ix rfl rfl rfl fun a S=>Vm S rfl rfl ?_)));clear S;intro a S
 obtain ⟨j1,hj1,h⟩:=Dt h
 refine Gi 3 (fun a w'=>∃ x1 : Int,∃ x2 : Bool,j1 x1 x2 = some r ∧ Sx w [O] φ1 [.own v1 58 5 rs1.length (rs1.flatMap R58.enc),.blk O [Aa,iV x1] 25] [(0,.pointer (some ⟨O,0,none⟩)),(3,v1),(13,bV x2)] 64 a w') ?_ ?_
 ·rcases Bool.eq_false_or_eq_true (decide (0 < (r1.1.length : Int))) with hb1 | hb1
  ·replace h:=Mu h hb1
   refine Cq S rfl rfl rfl hb1 (Vm S rfl rfl fun a S=>Cq S rfl rfl rfl hb1 ?_)
   obtain ⟨r2,hr4,h⟩:=Eh h
   refine Dy 1 S (b:=O) rfl rfl (fun _=>.blk O [Aa,iV r2.2] 25) (fun _=>Ck (vs:=[.pointer (some ⟨O,0,none⟩),iV 12]) ⟨(S.tm rfl),rfl,trivial⟩ call8) (Jy _ O Aa Aj (Af.mono (S.le_arg (Fd (i:=1) (e:=.blk O [Aa,iV r1.2] 25) rfl))) r1.2 (S.holds _ (List.mem_of_getElem? (i:=1) rfl)) 12 _ hr4) rfl (fun _ _ _ h=>⟨h.1,fun _ hc=>by cases hc;rfl⟩) ?_;clear S;intro v2 a w3 hv2 hk2 hn2 S
   replace hv2:=hv2.2
   subst hv2
   exact lv S (Nm hb1 (S.tm rfl) (S.tm rfl)) rfl fun a S=>Dl (⟨r2.2,r2.1,h,S.nf [true,true] rfl (subR rfl)⟩)
  ·replace h:=Mv h hb1
   exact Fl S rfl rfl rfl (Hq hb1) rfl (fun a S=>Fl S rfl rfl rfl (Hq hb1) rfl (fun a S=>Vq S (Nn hb1) rfl rfl rfl fun a S=>Dl (⟨r1.2,false,h,S.nf [true,true] rfl (subR rfl)⟩)) rfl) rfl
 clear S h;rintro a w2 ⟨x1,x2,h,S⟩;rw [hj1] at h;clear hj1 j1
 refine Dl ?_
 obtain ⟨j2,hj2,h⟩:=Dt h
 refine Dj (fun a w'=>∃ x3 : List Ef,∃ x4 : Int,∃ φ2 : View,∃ rs2 : List R58,j2 x3 x4 = some r ∧ View.le φ1 φ2 ∧ Fn (Hg φ2) x3 rs2 ∧ Sx w [O] φ2 [.own v1 58 5 rs2.length (rs2.flatMap R58.enc),.blk O [Aa,iV x4] 25] [(3,v1)] 64 a w') ?_ ?_
 ·refine Fc h (S.tm rfl) (fun hb2 h=>?_) (fun hb2 h=>?_)
  ·refine Fs (Fg ?_)
   iterate 3 (refine Vm S rfl rfl ?_;clear S;intro a S)
   refine lv S (En Qk (S.tm rfl) (Zs (S.own_at (i:=0) rfl) hr3)) rfl ?_;clear S;intro a S
   obtain ⟨r3,hr6,h⟩:=Eh h
   refine Dy 1 S (b:=O) rfl rfl (fun _=>.blk O [Aa,iV r3.2] 25) (fun _=>Ck (vs:=[.pointer (some ⟨O,0,none⟩),iV (r1.1.length : Int)]) ⟨(S.tm rfl),(S.tm rfl),trivial⟩ call10) (Kt _ O Aa Aj (Af.mono (S.le_arg (Fd (i:=1) (e:=.blk O [Aa,iV x1] 25) rfl))) x1 (S.holds _ (List.mem_of_getElem? (i:=1) rfl)) (r1.1.length : Int) _ hr6) rfl (fun _ _ _ h=>⟨h.1,fun _ hc=>by cases hc;rfl⟩) ?_;clear S;intro v3 a w5 hv3 hk3 hn3 S
   replace hv3:=hv3.2
   subst hv3
   obtain ⟨hc1,h⟩:=Gz h
   obtain ⟨r4,hg1,hl3⟩:=Wp hr3 hc1
   obtain ⟨u2,rfl,hs1⟩:=hl3
   obtain ⟨b1,hg2,hr7⟩:=Fj (a:=a) (x:=.tmp 14) (y:=.tmp 18) (ty:=0) Qk R58.enc_ok S (i:=0) rfl hg1 (Ct hc1).2 (S.tm rfl) (S.tm rfl)
   refine lv S (hr7 _) rfl ?_;clear S;intro a S
   clear hr7
   refine Va S rfl rfl fun a S=>Dl (Fs ?_)
   obtain ⟨j3,hj3,h⟩:=Dt h
   refine Dj (fun a w'=>∃ x5 : List Ef,∃ x6 : Int,∃ rs3 : List R58,j3 x5 x6 = some r ∧ Fn (Hg φ1) x5 rs3 ∧ Sx w [O] φ1 [.own v1 58 5 rs3.length (rs3.flatMap R58.enc),.blk O [Aa,iV x6] 25] [(0,.pointer (some ⟨O,0,none⟩)),(3,v1),(4,.pointer (some ⟨b1,r3.1.toNat * 5,none⟩))] 64 a w') ?_ ?_
   ·obtain ⟨r5,hr9,h⟩:=Eh h
    obtain ⟨r6,hr10,h⟩:=Eh h
    obtain ⟨r7,hr11,h⟩:=Eh h
    obtain ⟨r8,hr12,h⟩:=Eh h
    refine Fi [24,27,30,33] ([O]) Tryz.mixed S rfl (by kernel_rfl) ?_;clear S;intro w21 hk18 hsel S
    refine Ed 0 S hsel rfl rfl (by kernel_rfl) (by kernel_rfl) rfl (fun _=>(Rm (S.tm rfl))) fun a S=>Ed 1 S hsel rfl rfl (by kernel_rfl) (by kernel_rfl) rfl (fun _=>(Rm (S.tm rfl))) fun a S=>Ed 2 S hsel rfl rfl (by kernel_rfl) (by kernel_rfl) rfl (fun _=>(Rm (S.tm rfl))) fun a S=>Ed 3 S hsel rfl rfl (by kernel_rfl) (by kernel_rfl) rfl (fun _=>(Rm (S.tm rfl))) fun a S=>Ed 4 S hsel rfl rfl (by kernel_rfl) (by kernel_rfl) rfl (fun _=>(Rm (S.tm rfl))) fun a S=>Ed 5 S hsel rfl rfl (by kernel_rfl) (by kernel_rfl) rfl (fun _=>(Rm (S.tm rfl))) fun a S=>Ed 6 S hsel rfl rfl (by kernel_rfl) (by kernel_rfl) rfl (fun _=>(Ep (S.tm rfl))) fun a S=>Ed 7 S hsel rfl rfl (by kernel_rfl) (by kernel_rfl) rfl (fun _=>(Fx Ny (S.tm rfl))) fun a S=>Co 8 S hsel rfl (by kernel_rfl) (by kernel_rfl) (by kernel_rfl) (by kernel_rfl) rfl (fun _ hw=>(Hr isAgg9 (off:=r3.1.toNat * 5) (o:=0) (S.tm rfl) ((Jh R58.enc_ok S (i:=0) rfl hg2 hg1 (Jd (i:=1) (j:=0) (e:=.blk O [Aa,iV r3.2] 25) (e':=.own v1 58 5 rs1.length (rs1.flatMap R58.enc)) S rfl rfl rfl)).kept hw) rfl)) fun a S=>Ed 11 S hsel rfl rfl (by kernel_rfl) (by kernel_rfl) rfl (fun _=>(Rm (S.tm rfl))) fun a S=>Ed 12 S hsel rfl rfl (by kernel_rfl) (by kernel_rfl) rfl (fun _=>(Rm (S.tm rfl))) ?_;clear S;intro a S
    refine Ed 13 S hsel rfl rfl (by kernel_rfl) (by kernel_rfl) rfl (fun _=>(Ep (S.tm rfl))) fun a S=>Ed 14 S hsel rfl rfl (by kernel_rfl) (by kernel_rfl) rfl (fun _=>(Fx Re (S.tm rfl))) fun a S=>Co 15 S hsel rfl (by kernel_rfl) (by kernel_rfl) (by kernel_rfl) (by kernel_rfl) rfl (fun _ hw=>(Hr isAgg9 (off:=r3.1.toNat * 5) (o:=1) (S.tm rfl) ((Jh R58.enc_ok S (i:=0) rfl hg2 hg1 (Jd (i:=1) (j:=0) (e:=.blk O [Aa,iV r3.2] 25) (e':=.own v1 58 5 rs1.length (rs1.flatMap R58.enc)) S rfl rfl rfl)).kept hw) rfl)) fun a S=>Ed 18 S hsel rfl rfl (by kernel_rfl) (by kernel_rfl) rfl (fun _=>(Rm (S.tm rfl))) fun a S=>Ed 20 S hsel rfl rfl (by kernel_rfl) (by kernel_rfl) rfl (fun _=>(Rm (S.tm rfl))) fun a S=>Sr 9 16 (by kernel_rfl) rfl rfl ?_ ?_
    ·refine De S underlying42 sizeOf9 zeroValue9 rfl rfl (pv:=[(0,sV ((nth r1.1 r3.1).Key)),(1,sV Cj),(2,sV Mj)]) ⟨rfl,(S.tm rfl),rfl,rfl,rfl,rfl,trivial⟩ (cs:=[sV ((nth r1.1 r3.1).Key),sV Cj,sV Mj]) (by kernel_rfl) rfl ?_;clear S;intro a w22 b4 hz4 hk19 S
     refine Ld (Ej (Keep.none hk19) (Sr 10 16 (by kernel_rfl) rfl rfl ?_ ?_))
     ·refine Dy 2 S (b:=O) rfl rfl (fun _=>.blk O [Aa,iV r5.2] 25) (fun _=>Ck (vs:=[.pointer (some ⟨O,0,none⟩),.slice (some ⟨b4,0,none⟩) 3 3]) ⟨(S.tm rfl),(S.tm rfl),trivial⟩ call28) (Eu _ O Aa Aj (Af.mono (S.le_arg (Fd (i:=2) (e:=.blk O [Aa,iV r3.2] 25) rfl))) r3.2 (S.holds _ (List.mem_of_getElem? (i:=2) rfl)) (.slice (some ⟨b4,0,none⟩) 3 3) [(nth r1.1 r3.1).Key,Cj,Mj] (Fy Ex S (i:=0) rfl rfl rfl rfl ((Jd (i:=2) (j:=0) (e:=.blk O [Aa,iV r3.2] 25) (e':=.blk b4 [sV ((nth r1.1 r3.1).Key),sV Cj,sV Mj] 9) S rfl rfl rfl) _ rfl)) _ hr9) rfl (fun _ _ _ h=>⟨h.1,fun _ hc=>by cases hc;rfl⟩) ?_;clear S;intro v8 a w23 hv8 hk20 hn8 S
      replace hv8:=hv8.2
      subst hv8
      refine Ld (Ej hk20 (Ea 16 (by kernel_rfl) rfl (De S underlying42 sizeOf9 zeroValue9 rfl rfl (pv:=[(0,sV ((nth r1.1 r3.1).Race)),(1,sV k_A)]) ⟨rfl,(S.tm rfl),rfl,rfl,trivial⟩ (cs:=[sV ((nth r1.1 r3.1).Race),sV k_A]) (by kernel_rfl) rfl ?_)));clear S;intro a w24 b5 hz5 hk21 S
      refine Ld (Ej (Keep.none hk21) (Ea 17 (by kernel_rfl) rfl ?_))
      refine Dy 3 S (b:=O) rfl rfl (fun _=>.blk O [Aa,iV r6.2] 25) (fun _=>Ck (vs:=[.pointer (some ⟨O,0,none⟩),.slice (some ⟨b5,0,none⟩) 2 2]) ⟨(S.tm rfl),(S.tm rfl),trivial⟩ call28) (Eu _ O Aa Aj (Af.mono (S.le_arg (Fd (i:=3) (e:=.blk O [Aa,iV r5.2] 25) rfl))) r5.2 (S.holds _ (List.mem_of_getElem? (i:=3) rfl)) (.slice (some ⟨b5,0,none⟩) 2 2) [(nth r1.1 r3.1).Race,k_A] (Fy Ex S (i:=0) rfl rfl rfl rfl ((Jd (i:=3) (j:=0) (e:=.blk O [Aa,iV r5.2] 25) (e':=.blk b5 [sV ((nth r1.1 r3.1).Race),sV k_A] 9) S rfl rfl rfl) _ rfl)) _ hr10) rfl (fun _ _ _ h=>⟨h.1,fun _ hc=>by cases hc;rfl⟩) ?_;clear S;intro v9 a w25 hv9 hk22 hn9 S
      replace hv9:=hv9.2
      subst hv9
      refine Ld (Ej hk22 (Ea 19 (by kernel_rfl) rfl ?_))
      refine Dy 3 S (b:=O) rfl rfl (fun _=>.blk O [Aa,iV r7.2] 25) (fun _=>Ck (vs:=[.pointer (some ⟨O,0,none⟩),iV 0,iV 20]) ⟨(S.tm rfl),rfl,rfl,trivial⟩ call29) (Jj _ O Aa Aj (Af.mono (S.le_arg (Fd (i:=3) (e:=.blk O [Aa,iV r6.2] 25) rfl))) r6.2 (S.holds _ (List.mem_of_getElem? (i:=3) rfl)) 0 20 _ hr11) rfl (fun _ _ _ h=>⟨h.1,fun _ hc=>by cases hc;rfl⟩) ?_;clear S;intro v10 a w26 hv10 hk23 hn10 S
      replace hv10:=hv10.2
      subst hv10
      refine Ld (Ej hk23 (Ea 21 (by kernel_rfl) rfl ?_))
      refine Dy 3 S (b:=O) rfl rfl (fun _=>.blk O [Aa,iV r8.2] 25) (fun _=>Ck (vs:=[.pointer (some ⟨O,0,none⟩),iV 0,iV 150]) ⟨(S.tm rfl),rfl,rfl,trivial⟩ call29) (Jj _ O Aa Aj (Af.mono (S.le_arg (Fd (i:=3) (e:=.blk O [Aa,iV r7.2] 25) rfl))) r7.2 (S.holds _ (List.mem_of_getElem? (i:=3) rfl)) 0 150 _ hr12) rfl (fun _ _ _ h=>⟨h.1,fun _ hc=>by cases hc;rfl⟩) ?_;clear S;intro v11 a w27 hv11 hk24 hn11 S
      replace hv11:=hv11.2
      subst hv11
      refine Ld (Ej hk24 (Ed 22 S hsel rfl rfl (by kernel_rfl) (by kernel_rfl) rfl (fun _=>(Ep (S.tm rfl))) fun a S=>Ed 23 S hsel rfl rfl (by kernel_rfl) (by kernel_rfl) rfl (fun _=>(Fx Ny (S.tm rfl))) fun a S=>Me 24 ([O] ++ v1.ownBlock.toList) rfl (by kernel_rfl) rfl ?_))
      have hl8 : Hg φ1 (Ef.mk r5.1 ((nth r1.1 r3.1).Race) ((nth r1.1 r3.1).Clubs) ((nth r1.1 r3.1).Young) ((nth r1.1 r3.1).Old)) (R58.mk r5.1 ((nth r1.1 r3.1).Race) u2 ((nth r1.1 r3.1).Young) ((nth r1.1 r3.1).Old)):=⟨u2,rfl,hs1⟩
      have hr17 : Fn (Hg φ1) (r1.1.set r3.1.toNat (Ef.mk r5.1 ((nth r1.1 r3.1).Race) ((nth r1.1 r3.1).Clubs) ((nth r1.1 r3.1).Young) ((nth r1.1 r3.1).Old))) (rs1.set r3.1.toNat (R58.mk r5.1 ((nth r1.1 r3.1).Race) u2 ((nth r1.1 r3.1).Young) ((nth r1.1 r3.1).Old))):=Fn.st hr3 r3.1.toNat hl8
      refine Ia (c:=0) (j:=r3.1.toNat) (R58.mk r5.1 ((nth r1.1 r3.1).Race) u2 ((nth r1.1 r3.1).Young) ((nth r1.1 r3.1).Old)) R58.enc_ok S (S.tm rfl) (S.tm rfl) (i:=2) rfl hg2 hg1 sizeOf9 (vs:=[sV r5.1]) rfl rfl rfl (Nv rfl rfl) rfl ?_;clear S;intro w29 hk26 S
      refine Ld (Mf (Co 25 S hsel rfl rfl rfl (by kernel_rfl) (by kernel_rfl) rfl (fun _ hw=>(Ep (S.tm rfl))) fun a S=>Co 26 S hsel rfl rfl rfl (by kernel_rfl) (by kernel_rfl) rfl (fun _ hw=>(Fx Re (S.tm rfl))) fun a S=>Ea 27 (by kernel_rfl) rfl ?_))
      have hl9 : Hg φ1 (Ef.mk r5.1 r6.1 ((nth r1.1 r3.1).Clubs) ((nth r1.1 r3.1).Young) ((nth r1.1 r3.1).Old)) (R58.mk r5.1 r6.1 u2 ((nth r1.1 r3.1).Young) ((nth r1.1 r3.1).Old)):=⟨u2,rfl,hs1⟩
      have hr18 : Fn (Hg φ1) ((r1.1.set r3.1.toNat (Ef.mk r5.1 ((nth r1.1 r3.1).Race) ((nth r1.1 r3.1).Clubs) ((nth r1.1 r3.1).Young) ((nth r1.1 r3.1).Old))).set r3.1.toNat (Ef.mk r5.1 r6.1 ((nth r1.1 r3.1).Clubs) ((nth r1.1 r3.1).Young) ((nth r1.1 r3.1).Old))) ((rs1.set r3.1.toNat (R58.mk r5.1 ((nth r1.1 r3.1).Race) u2 ((nth r1.1 r3.1).Young) ((nth r1.1 r3.1).Old))).set r3.1.toNat (R58.mk r5.1 r6.1 u2 ((nth r1.1 r3.1).Young) ((nth r1.1 r3.1).Old))):=Fn.st hr17 r3.1.toNat hl9
      refine Ia (c:=1) (j:=r3.1.toNat) (R58.mk r5.1 r6.1 u2 ((nth r1.1 r3.1).Young) ((nth r1.1 r3.1).Old)) R58.enc_ok S (S.tm rfl) (S.tm rfl) (i:=2) rfl hg2 (Kv hg1) sizeOf9 (vs:=[sV r6.1]) rfl rfl rfl (Nv rfl rfl) rfl ?_;clear S;intro w31 hk28 S
      refine Ld ?_
      refine Ej (hk28.sub (by intro y hy;simp at hy ⊢;simp [hy])) ?_
      refine Co 28 S hsel rfl rfl rfl (by kernel_rfl) (by kernel_rfl) rfl (fun _ hw=>(Ep (S.tm rfl))) fun a S=>Co 29 S hsel rfl rfl rfl (by kernel_rfl) (by kernel_rfl) rfl (fun _ hw=>(Fx Rf (S.tm rfl))) fun a S=>Ea 30 (by kernel_rfl) rfl ?_
      have hl10 : Hg φ1 (Ef.mk r5.1 r6.1 ((nth r1.1 r3.1).Clubs) r7.1 ((nth r1.1 r3.1).Old)) (R58.mk r5.1 r6.1 u2 r7.1 ((nth r1.1 r3.1).Old)):=⟨u2,rfl,hs1⟩
      have hr19 : Fn (Hg φ1) (((r1.1.set r3.1.toNat (Ef.mk r5.1 ((nth r1.1 r3.1).Race) ((nth r1.1 r3.1).Clubs) ((nth r1.1 r3.1).Young) ((nth r1.1 r3.1).Old))).set r3.1.toNat (Ef.mk r5.1 r6.1 ((nth r1.1 r3.1).Clubs) ((nth r1.1 r3.1).Young) ((nth r1.1 r3.1).Old))).set r3.1.toNat (Ef.mk r5.1 r6.1 ((nth r1.1 r3.1).Clubs) r7.1 ((nth r1.1 r3.1).Old))) (((rs1.set r3.1.toNat (R58.mk r5.1 ((nth r1.1 r3.1).Race) u2 ((nth r1.1 r3.1).Young) ((nth r1.1 r3.1).Old))).set r3.1.toNat (R58.mk r5.1 r6.1 u2 ((nth r1.1 r3.1).Young) ((nth r1.1 r3.1).Old))).set r3.1.toNat (R58.mk r5.1 r6.1 u2 r7.1 ((nth r1.1 r3.1).Old))):=Fn.st hr18 r3.1.toNat hl10
      refine Ia (c:=3) (j:=r3.1.toNat) (R58.mk r5.1 r6.1 u2 r7.1 ((nth r1.1 r3.1).Old)) R58.enc_ok S (S.tm rfl) (S.tm rfl) (i:=2) rfl hg2 (Kv (Kv hg1)) sizeOf3 (vs:=[iV r7.1]) rfl rfl rfl (Nv rfl rfl) rfl ?_;clear S;intro w33 hk30 S
      refine Ld ?_
      refine Ej (hk30.sub (by intro y hy;simp at hy ⊢;simp [hy])) ?_
      refine Co 31 S hsel rfl rfl rfl (by kernel_rfl) (by kernel_rfl) rfl (fun _ hw=>(Ep (S.tm rfl))) fun a S=>Co 32 S hsel rfl rfl rfl (by kernel_rfl) (by kernel_rfl) rfl (fun _ hw=>(Fx Py (S.tm rfl))) fun a S=>Ea 33 (by kernel_rfl) rfl ?_
      have hl11 : Hg φ1 (Ef.mk r5.1 r6.1 ((nth r1.1 r3.1).Clubs) r7.1 r8.1) (R58.mk r5.1 r6.1 u2 r7.1 r8.1):=⟨u2,rfl,hs1⟩
      have hr20 : Fn (Hg φ1) ((((r1.1.set r3.1.toNat (Ef.mk r5.1 ((nth r1.1 r3.1).Race) ((nth r1.1 r3.1).Clubs) ((nth r1.1 r3.1).Young) ((nth r1.1 r3.1).Old))).set r3.1.toNat (Ef.mk r5.1 r6.1 ((nth r1.1 r3.1).Clubs) ((nth r1.1 r3.1).Young) ((nth r1.1 r3.1).Old))).set r3.1.toNat (Ef.mk r5.1 r6.1 ((nth r1.1 r3.1).Clubs) r7.1 ((nth r1.1 r3.1).Old))).set r3.1.toNat (Ef.mk r5.1 r6.1 ((nth r1.1 r3.1).Clubs) r7.1 r8.1)) ((((rs1.set r3.1.toNat (R58.mk r5.1 ((nth r1.1 r3.1).Race) u2 ((nth r1.1 r3.1).Young) ((nth r1.1 r3.1).Old))).set r3.1.toNat (R58.mk r5.1 r6.1 u2 ((nth r1.1 r3.1).Young) ((nth r1.1 r3.1).Old))).set r3.1.toNat (R58.mk r5.1 r6.1 u2 r7.1 ((nth r1.1 r3.1).Old))).set r3.1.toNat (R58.mk r5.1 r6.1 u2 r7.1 r8.1)):=Fn.st hr19 r3.1.toNat hl11
      refine Ia (c:=4) (j:=r3.1.toNat) (R58.mk r5.1 r6.1 u2 r7.1 r8.1) R58.enc_ok S (S.tm rfl) (S.tm rfl) (i:=2) rfl hg2 (Kv (Kv (Kv hg1))) sizeOf3 (vs:=[iV r8.1]) rfl rfl rfl (Nv rfl rfl) rfl ?_;clear S;intro w35 hk32 S
      refine Ld ?_
      refine Ej (hk32.sub (by intro y hy;simp at hy ⊢;simp [hy])) ?_
      refine Pj (by kernel_rfl) ?_
      clear hsel
      replace S:=(S.nl [.own v1 58 5 ((((rs1.set r3.1.toNat (R58.mk r5.1 ((nth r1.1 r3.1).Race) u2 ((nth r1.1 r3.1).Young) ((nth r1.1 r3.1).Old))).set r3.1.toNat (R58.mk r5.1 r6.1 u2 ((nth r1.1 r3.1).Young) ((nth r1.1 r3.1).Old))).set r3.1.toNat (R58.mk r5.1 r6.1 u2 r7.1 ((nth r1.1 r3.1).Old))).set r3.1.toNat (R58.mk r5.1 r6.1 u2 r7.1 r8.1)).length (((((rs1.set r3.1.toNat (R58.mk r5.1 ((nth r1.1 r3.1).Race) u2 ((nth r1.1 r3.1).Young) ((nth r1.1 r3.1).Old))).set r3.1.toNat (R58.mk r5.1 r6.1 u2 ((nth r1.1 r3.1).Young) ((nth r1.1 r3.1).Old))).set r3.1.toNat (R58.mk r5.1 r6.1 u2 r7.1 ((nth r1.1 r3.1).Old))).set r3.1.toNat (R58.mk r5.1 r6.1 u2 r7.1 r8.1)).flatMap R58.enc),.blk O [Aa,iV r8.2] 25] [false,false,true,true] rfl).k3 0 3 4 rfl
      exact Tn (⟨((((r1.1.set r3.1.toNat (Ef.mk r5.1 ((nth r1.1 r3.1).Race) ((nth r1.1 r3.1).Clubs) ((nth r1.1 r3.1).Young) ((nth r1.1 r3.1).Old))).set r3.1.toNat (Ef.mk r5.1 r6.1 ((nth r1.1 r3.1).Clubs) ((nth r1.1 r3.1).Young) ((nth r1.1 r3.1).Old))).set r3.1.toNat (Ef.mk r5.1 r6.1 ((nth r1.1 r3.1).Clubs) r7.1 ((nth r1.1 r3.1).Old))).set r3.1.toNat (Ef.mk r5.1 r6.1 ((nth r1.1 r3.1).Clubs) r7.1 r8.1)),r8.2,((((rs1.set r3.1.toNat (R58.mk r5.1 ((nth r1.1 r3.1).Race) u2 ((nth r1.1 r3.1).Young) ((nth r1.1 r3.1).Old))).set r3.1.toNat (R58.mk r5.1 r6.1 u2 ((nth r1.1 r3.1).Young) ((nth r1.1 r3.1).Old))).set r3.1.toNat (R58.mk r5.1 r6.1 u2 r7.1 ((nth r1.1 r3.1).Old))).set r3.1.toNat (R58.mk r5.1 r6.1 u2 r7.1 r8.1)),h,hr20,S.nf [true,true] rfl (subR rfl)⟩)
     ·refine De S underlying42 sizeOf9 zeroValue9 rfl rfl (pv:=[(0,sV ((nth r1.1 r3.1).Race)),(1,sV k_A)]) ⟨rfl,(S.tm rfl),rfl,rfl,trivial⟩ (cs:=[sV ((nth r1.1 r3.1).Race),sV k_A]) (by kernel_rfl) rfl ?_;clear S;intro a w36 b6 hz6 hk33 S
      refine Ld (Ej (Keep.none hk33) (Ea 10 (by kernel_rfl) rfl ?_))
      refine Dy 3 S (b:=O) rfl rfl (fun _=>.blk O [Aa,iV r5.2] 25) (fun _=>Ck (vs:=[.pointer (some ⟨O,0,none⟩),.slice (some ⟨b4,0,none⟩) 3 3]) ⟨(S.tm rfl),(S.tm rfl),trivial⟩ call28) (Eu _ O Aa Aj (Af.mono (S.le_arg (Fd (i:=3) (e:=.blk O [Aa,iV r3.2] 25) rfl))) r3.2 (S.holds _ (List.mem_of_getElem? (i:=3) rfl)) (.slice (some ⟨b4,0,none⟩) 3 3) [(nth r1.1 r3.1).Key,Cj,Mj] (Fy Ex S (i:=1) rfl rfl rfl rfl ((Jd (i:=3) (j:=1) (e:=.blk O [Aa,iV r3.2] 25) (e':=.blk b4 [sV ((nth r1.1 r3.1).Key),sV Cj,sV Mj] 9) S rfl rfl rfl) _ rfl)) _ hr9) rfl (fun _ _ _ h=>⟨h.1,fun _ hc=>by cases hc;rfl⟩) ?_;clear S;intro v12 a w37 hv12 hk34 hn12 S
      replace hv12:=hv12.2
      subst hv12
      refine Ld (Ej hk34 (Ea 17 (by kernel_rfl) rfl ?_))
      refine Dy 3 S (b:=O) rfl rfl (fun _=>.blk O [Aa,iV r6.2] 25) (fun _=>Ck (vs:=[.pointer (some ⟨O,0,none⟩),.slice (some ⟨b6,0,none⟩) 2 2]) ⟨(S.tm rfl),(S.tm rfl),trivial⟩ call28) (Eu _ O Aa Aj (Af.mono (S.le_arg (Fd (i:=3) (e:=.blk O [Aa,iV r5.2] 25) rfl))) r5.2 (S.holds _ (List.mem_of_getElem? (i:=3) rfl)) (.slice (some ⟨b6,0,none⟩) 2 2) [(nth r1.1 r3.1).Race,k_A] (Fy Ex S (i:=0) rfl rfl rfl rfl ((Jd (i:=3) (j:=0) (e:=.blk O [Aa,iV r5.2] 25) (e':=.blk b6 [sV ((nth r1.1 r3.1).Race),sV k_A] 9) S rfl rfl rfl) _ rfl)) _ hr10) rfl (fun _ _ _ h=>⟨h.1,fun _ hc=>by cases hc;rfl⟩) ?_;clear S;intro v13 a w38 hv13 hk35 hn13 S
      replace hv13:=hv13.2
      subst hv13
      refine Ld (Ej hk35 (Ea 19 (by kernel_rfl) rfl ?_))
      refine Dy 3 S (b:=O) rfl rfl (fun _=>.blk O [Aa,iV r7.2] 25) (fun _=>Ck (vs:=[.pointer (some ⟨O,0,none⟩),iV 0,iV 20]) ⟨(S.tm rfl),rfl,rfl,trivial⟩ call29) (Jj _ O Aa Aj (Af.mono (S.le_arg (Fd (i:=3) (e:=.blk O [Aa,iV r6.2] 25) rfl))) r6.2 (S.holds _ (List.mem_of_getElem? (i:=3) rfl)) 0 20 _ hr11) rfl (fun _ _ _ h=>⟨h.1,fun _ hc=>by cases hc;rfl⟩) ?_;clear S;intro v14 a w39 hv14 hk36 hn14 S
      replace hv14:=hv14.2
      subst hv14
      refine Ld (Ej hk36 (Ea 21 (by kernel_rfl) rfl ?_))
      refine Dy 3 S (b:=O) rfl rfl (fun _=>.blk O [Aa,iV r8.2] 25) (fun _=>Ck (vs:=[.pointer (some ⟨O,0,none⟩),iV 0,iV 150]) ⟨(S.tm rfl),rfl,rfl,trivial⟩ call29) (Jj _ O Aa Aj (Af.mono (S.le_arg (Fd (i:=3) (e:=.blk O [Aa,iV r7.2] 25) rfl))) r7.2 (S.holds _ (List.mem_of_getElem? (i:=3) rfl)) 0 150 _ hr12) rfl (fun _ _ _ h=>⟨h.1,fun _ hc=>by cases hc;rfl⟩) ?_;clear S;intro v15 a w40 hv15 hk37 hn15 S
      replace hv15:=hv15.2
      subst hv15
      refine Ld (Ej hk37 (Ed 22 S hsel rfl rfl (by kernel_rfl) (by kernel_rfl) rfl (fun _=>(Ep (S.tm rfl))) fun a S=>Ed 23 S hsel rfl rfl (by kernel_rfl) (by kernel_rfl) rfl (fun _=>(Fx Ny (S.tm rfl))) fun a S=>Me 24 ([O] ++ v1.ownBlock.toList) rfl (by kernel_rfl) rfl ?_))
      have hl12 : Hg φ1 (Ef.mk r5.1 ((nth r1.1 r3.1).Race) ((nth r1.1 r3.1).Clubs) ((nth r1.1 r3.1).Young) ((nth r1.1 r3.1).Old)) (R58.mk r5.1 ((nth r1.1 r3.1).Race) u2 ((nth r1.1 r3.1).Young) ((nth r1.1 r3.1).Old)):=⟨u2,rfl,hs1⟩
      have hr21 : Fn (Hg φ1) (r1.1.set r3.1.toNat (Ef.mk r5.1 ((nth r1.1 r3.1).Race) ((nth r1.1 r3.1).Clubs) ((nth r1.1 r3.1).Young) ((nth r1.1 r3.1).Old))) (rs1.set r3.1.toNat (R58.mk r5.1 ((nth r1.1 r3.1).Race) u2 ((nth r1.1 r3.1).Young) ((nth r1.1 r3.1).Old))):=Fn.st hr3 r3.1.toNat hl12
      refine Ia (c:=0) (j:=r3.1.toNat) (R58.mk r5.1 ((nth r1.1 r3.1).Race) u2 ((nth r1.1 r3.1).Young) ((nth r1.1 r3.1).Old)) R58.enc_ok S (S.tm rfl) (S.tm rfl) (i:=2) rfl hg2 hg1 sizeOf9 (vs:=[sV r5.1]) rfl rfl rfl (Nv rfl rfl) rfl ?_;clear S;intro w42 hk39 S
      refine Ld (Mf (Co 25 S hsel rfl rfl rfl (by kernel_rfl) (by kernel_rfl) rfl (fun _ hw=>(Ep (S.tm rfl))) fun a S=>Co 26 S hsel rfl rfl rfl (by kernel_rfl) (by kernel_rfl) rfl (fun _ hw=>(Fx Re (S.tm rfl))) fun a S=>Ea 27 (by kernel_rfl) rfl ?_))
      have hl13 : Hg φ1 (Ef.mk r5.1 r6.1 ((nth r1.1 r3.1).Clubs) ((nth r1.1 r3.1).Young) ((nth r1.1 r3.1).Old)) (R58.mk r5.1 r6.1 u2 ((nth r1.1 r3.1).Young) ((nth r1.1 r3.1).Old)):=⟨u2,rfl,hs1⟩
      have hr22 : Fn (Hg φ1) ((r1.1.set r3.1.toNat (Ef.mk r5.1 ((nth r1.1 r3.1).Race) ((nth r1.1 r3.1).Clubs) ((nth r1.1 r3.1).Young) ((nth r1.1 r3.1).Old))).set r3.1.toNat (Ef.mk r5.1 r6.1 ((nth r1.1 r3.1).Clubs) ((nth r1.1 r3.1).Young) ((nth r1.1 r3.1).Old))) ((rs1.set r3.1.toNat (R58.mk r5.1 ((nth r1.1 r3.1).Race) u2 ((nth r1.1 r3.1).Young) ((nth r1.1 r3.1).Old))).set r3.1.toNat (R58.mk r5.1 r6.1 u2 ((nth r1.1 r3.1).Young) ((nth r1.1 r3.1).Old))):=Fn.st hr21 r3.1.toNat hl13
      refine Ia (c:=1) (j:=r3.1.toNat) (R58.mk r5.1 r6.1 u2 ((nth r1.1 r3.1).Young) ((nth r1.1 r3.1).Old)) R58.enc_ok S (S.tm rfl) (S.tm rfl) (i:=2) rfl hg2 (Kv hg1) sizeOf9 (vs:=[sV r6.1]) rfl rfl rfl (Nv rfl rfl) rfl ?_;clear S;intro w44 hk41 S
      refine Ld ?_
      refine Ej (hk41.sub (by intro y hy;simp at hy ⊢;simp [hy])) ?_
      refine Co 28 S hsel rfl rfl rfl (by kernel_rfl) (by kernel_rfl) rfl (fun _ hw=>(Ep (S.tm rfl))) fun a S=>Co 29 S hsel rfl rfl rfl (by kernel_rfl) (by kernel_rfl) rfl (fun _ hw=>(Fx Rf (S.tm rfl))) fun a S=>Ea 30 (by kernel_rfl) rfl ?_
      have hl14 : Hg φ1 (Ef.mk r5.1 r6.1 ((nth r1.1 r3.1).Clubs) r7.1 ((nth r1.1 r3.1).Old)) (R58.mk r5.1 r6.1 u2 r7.1 ((nth r1.1 r3.1).Old)):=⟨u2,rfl,hs1⟩
      have hr23 : Fn (Hg φ1) (((r1.1.set r3.1.toNat (Ef.mk r5.1 ((nth r1.1 r3.1).Race) ((nth r1.1 r3.1).Clubs) ((nth r1.1 r3.1).Young) ((nth r1.1 r3.1).Old))).set r3.1.toNat (Ef.mk r5.1 r6.1 ((nth r1.1 r3.1).Clubs) ((nth r1.1 r3.1).Young) ((nth r1.1 r3.1).Old))).set r3.1.toNat (Ef.mk r5.1 r6.1 ((nth r1.1 r3.1).Clubs) r7.1 ((nth r1.1 r3.1).Old))) (((rs1.set r3.1.toNat (R58.mk r5.1 ((nth r1.1 r3.1).Race) u2 ((nth r1.1 r3.1).Young) ((nth r1.1 r3.1).Old))).set r3.1.toNat (R58.mk r5.1 r6.1 u2 ((nth r1.1 r3.1).Young) ((nth r1.1 r3.1).Old))).set r3.1.toNat (R58.mk r5.1 r6.1 u2 r7.1 ((nth r1.1 r3.1).Old))):=Fn.st hr22 r3.1.toNat hl14
      refine Ia (c:=3) (j:=r3.1.toNat) (R58.mk r5.1 r6.1 u2 r7.1 ((nth r1.1 r3.1).Old)) R58.enc_ok S (S.tm rfl) (S.tm rfl) (i:=2) rfl hg2 (Kv (Kv hg1)) sizeOf3 (vs:=[iV r7.1]) rfl rfl rfl (Nv rfl rfl) rfl ?_;clear S;intro w46 hk43 S
      refine Ld ?_
      refine Ej (hk43.sub (by intro y hy;simp at hy ⊢;simp [hy])) ?_
      refine Co 31 S hsel rfl rfl rfl (by kernel_rfl) (by kernel_rfl) rfl (fun _ hw=>(Ep (S.tm rfl))) fun a S=>Co 32 S hsel rfl rfl rfl (by kernel_rfl) (by kernel_rfl) rfl (fun _ hw=>(Fx Py (S.tm rfl))) fun a S=>Ea 33 (by kernel_rfl) rfl ?_
      have hl15 : Hg φ1 (Ef.mk r5.1 r6.1 ((nth r1.1 r3.1).Clubs) r7.1 r8.1) (R58.mk r5.1 r6.1 u2 r7.1 r8.1):=⟨u2,rfl,hs1⟩
      have hr24 : Fn (Hg φ1) ((((r1.1.set r3.1.toNat (Ef.mk r5.1 ((nth r1.1 r3.1).Race) ((nth r1.1 r3.1).Clubs) ((nth r1.1 r3.1).Young) ((nth r1.1 r3.1).Old))).set r3.1.toNat (Ef.mk r5.1 r6.1 ((nth r1.1 r3.1).Clubs) ((nth r1.1 r3.1).Young) ((nth r1.1 r3.1).Old))).set r3.1.toNat (Ef.mk r5.1 r6.1 ((nth r1.1 r3.1).Clubs) r7.1 ((nth r1.1 r3.1).Old))).set r3.1.toNat (Ef.mk r5.1 r6.1 ((nth r1.1 r3.1).Clubs) r7.1 r8.1)) ((((rs1.set r3.1.toNat (R58.mk r5.1 ((nth r1.1 r3.1).Race) u2 ((nth r1.1 r3.1).Young) ((nth r1.1 r3.1).Old))).set r3.1.toNat (R58.mk r5.1 r6.1 u2 ((nth r1.1 r3.1).Young) ((nth r1.1 r3.1).Old))).set r3.1.toNat (R58.mk r5.1 r6.1 u2 r7.1 ((nth r1.1 r3.1).Old))).set r3.1.toNat (R58.mk r5.1 r6.1 u2 r7.1 r8.1)):=Fn.st hr23 r3.1.toNat hl15
      refine Ia (c:=4) (j:=r3.1.toNat) (R58.mk r5.1 r6.1 u2 r7.1 r8.1) R58.enc_ok S (S.tm rfl) (S.tm rfl) (i:=2) rfl hg2 (Kv (Kv (Kv hg1))) sizeOf3 (vs:=[iV r8.1]) rfl rfl rfl (Nv rfl rfl) rfl ?_;clear S;intro w48 hk45 S
      refine Ld ?_
      refine Ej (hk45.sub (by intro y hy;simp at hy ⊢;simp [hy])) ?_
      refine Pj (by kernel_rfl) ?_
      clear hsel
      replace S:=(S.nl [.own v1 58 5 ((((rs1.set r3.1.toNat (R58.mk r5.1 ((nth r1.1 r3.1).Race) u2 ((nth r1.1 r3.1).Young) ((nth r1.1 r3.1).Old))).set r3.1.toNat (R58.mk r5.1 r6.1 u2 ((nth r1.1 r3.1).Young) ((nth r1.1 r3.1).Old))).set r3.1.toNat (R58.mk r5.1 r6.1 u2 r7.1 ((nth r1.1 r3.1).Old))).set r3.1.toNat (R58.mk r5.1 r6.1 u2 r7.1 r8.1)).length (((((rs1.set r3.1.toNat (R58.mk r5.1 ((nth r1.1 r3.1).Race) u2 ((nth r1.1 r3.1).Young) ((nth r1.1 r3.1).Old))).set r3.1.toNat (R58.mk r5.1 r6.1 u2 ((nth r1.1 r3.1).Young) ((nth r1.1 r3.1).Old))).set r3.1.toNat (R58.mk r5.1 r6.1 u2 r7.1 ((nth r1.1 r3.1).Old))).set r3.1.toNat (R58.mk r5.1 r6.1 u2 r7.1 r8.1)).flatMap R58.enc),.blk O [Aa,iV r8.2] 25] [false,false,true,true] rfl).k3 0 3 4 rfl
      exact Tn (⟨((((r1.1.set r3.1.toNat (Ef.mk r5.1 ((nth r1.1 r3.1).Race) ((nth r1.1 r3.1).Clubs) ((nth r1.1 r3.1).Young) ((nth r1.1 r3.1).Old))).set r3.1.toNat (Ef.mk r5.1 r6.1 ((nth r1.1 r3.1).Clubs) ((nth r1.1 r3.1).Young) ((nth r1.1 r3.1).Old))).set r3.1.toNat (Ef.mk r5.1 r6.1 ((nth r1.1 r3.1).Clubs) r7.1 ((nth r1.1 r3.1).Old))).set r3.1.toNat (Ef.mk r5.1 r6.1 ((nth r1.1 r3.1).Clubs) r7.1 r8.1)),r8.2,((((rs1.set r3.1.toNat (R58.mk r5.1 ((nth r1.1 r3.1).Race) u2 ((nth r1.1 r3.1).Young) ((nth r1.1 r3.1).Old))).set r3.1.toNat (R58.mk r5.1 r6.1 u2 ((nth r1.1 r3.1).Young) ((nth r1.1 r3.1).Old))).set r3.1.toNat (R58.mk r5.1 r6.1 u2 r7.1 ((nth r1.1 r3.1).Old))).set r3.1.toNat (R58.mk r5.1 r6.1 u2 r7.1 r8.1)),h,hr24,S.nf [true,true] rfl (subR rfl)⟩)
    ·refine De S underlying42 sizeOf9 zeroValue9 rfl rfl (pv:=[(0,sV ((nth r1.1 r3.1).Race)),(1,sV k_A)]) ⟨rfl,(S.tm rfl),rfl,rfl,trivial⟩ (cs:=[sV ((nth r1.1 r3.1).Race),sV k_A]) (by kernel_rfl) rfl ?_;clear S;intro a w49 b7 hz7 hk46 S
     refine Ld (Ej (Keep.none hk46) (Ea 9 (by kernel_rfl) rfl (De S underlying42 sizeOf9 zeroValue9 rfl rfl (pv:=[(0,sV ((nth r1.1 r3.1).Key)),(1,sV Cj),(2,sV Mj)]) ⟨rfl,(S.tm rfl),rfl,rfl,rfl,rfl,trivial⟩ (cs:=[sV ((nth r1.1 r3.1).Key),sV Cj,sV Mj]) (by kernel_rfl) rfl ?_)));clear S;intro a w50 b8 hz8 hk47 S
     refine Ld (Ej (Keep.none hk47) (Ea 10 (by kernel_rfl) rfl ?_))
     refine Dy 3 S (b:=O) rfl rfl (fun _=>.blk O [Aa,iV r5.2] 25) (fun _=>Ck (vs:=[.pointer (some ⟨O,0,none⟩),.slice (some ⟨b8,0,none⟩) 3 3]) ⟨(S.tm rfl),(S.tm rfl),trivial⟩ call28) (Eu _ O Aa Aj (Af.mono (S.le_arg (Fd (i:=3) (e:=.blk O [Aa,iV r3.2] 25) rfl))) r3.2 (S.holds _ (List.mem_of_getElem? (i:=3) rfl)) (.slice (some ⟨b8,0,none⟩) 3 3) [(nth r1.1 r3.1).Key,Cj,Mj] (Fy Ex S (i:=0) rfl rfl rfl rfl ((Jd (i:=3) (j:=0) (e:=.blk O [Aa,iV r3.2] 25) (e':=.blk b8 [sV ((nth r1.1 r3.1).Key),sV Cj,sV Mj] 9) S rfl rfl rfl) _ rfl)) _ hr9) rfl (fun _ _ _ h=>⟨h.1,fun _ hc=>by cases hc;rfl⟩) ?_;clear S;intro v16 a w51 hv16 hk48 hn16 S
     replace hv16:=hv16.2
     subst hv16
     refine Ld (Ej hk48 (Ea 17 (by kernel_rfl) rfl ?_))
     refine Dy 3 S (b:=O) rfl rfl (fun _=>.blk O [Aa,iV r6.2] 25) (fun _=>Ck (vs:=[.pointer (some ⟨O,0,none⟩),.slice (some ⟨b7,0,none⟩) 2 2]) ⟨(S.tm rfl),(S.tm rfl),trivial⟩ call28) (Eu _ O Aa Aj (Af.mono (S.le_arg (Fd (i:=3) (e:=.blk O [Aa,iV r5.2] 25) rfl))) r5.2 (S.holds _ (List.mem_of_getElem? (i:=3) rfl)) (.slice (some ⟨b7,0,none⟩) 2 2) [(nth r1.1 r3.1).Race,k_A] (Fy Ex S (i:=1) rfl rfl rfl rfl ((Jd (i:=3) (j:=1) (e:=.blk O [Aa,iV r5.2] 25) (e':=.blk b7 [sV ((nth r1.1 r3.1).Race),sV k_A] 9) S rfl rfl rfl) _ rfl)) _ hr10) rfl (fun _ _ _ h=>⟨h.1,fun _ hc=>by cases hc;rfl⟩) ?_;clear S;intro v17 a w52 hv17 hk49 hn17 S
     replace hv17:=hv17.2
     subst hv17
     refine Ld (Ej hk49 (Ea 19 (by kernel_rfl) rfl ?_))
     refine Dy 3 S (b:=O) rfl rfl (fun _=>.blk O [Aa,iV r7.2] 25) (fun _=>Ck (vs:=[.pointer (some ⟨O,0,none⟩),iV 0,iV 20]) ⟨(S.tm rfl),rfl,rfl,trivial⟩ call29) (Jj _ O Aa Aj (Af.mono (S.le_arg (Fd (i:=3) (e:=.blk O [Aa,iV r6.2] 25) rfl))) r6.2 (S.holds _ (List.mem_of_getElem? (i:=3) rfl)) 0 20 _ hr11) rfl (fun _ _ _ h=>⟨h.1,fun _ hc=>by cases hc;rfl⟩) ?_;clear S;intro v18 a w53 hv18 hk50 hn18 S
     replace hv18:=hv18.2
     subst hv18
     refine Ld (Ej hk50 (Ea 21 (by kernel_rfl) rfl ?_))
     refine Dy 3 S (b:=O) rfl rfl (fun _=>.blk O [Aa,iV r8.2] 25) (fun _=>Ck (vs:=[.pointer (some ⟨O,0,none⟩),iV 0,iV 150]) ⟨(S.tm rfl),rfl,rfl,trivial⟩ call29) (Jj _ O Aa Aj (Af.mono (S.le_arg (Fd (i:=3) (e:=.blk O [Aa,iV r7.2] 25) rfl))) r7.2 (S.holds _ (List.mem_of_getElem? (i:=3) rfl)) 0 150 _ hr12) rfl (fun _ _ _ h=>⟨h.1,fun _ hc=>by cases hc;rfl⟩) ?_;clear S;intro v19 a w54 hv19 hk51 hn19 S
     replace hv19:=hv19.2
     subst hv19
     refine Ld (Ej hk51 (Ed 22 S hsel rfl rfl (by kernel_rfl) (by kernel_rfl) rfl (fun _=>(Ep (S.tm rfl))) fun a S=>Ed 23 S hsel rfl rfl (by kernel_rfl) (by kernel_rfl) rfl (fun _=>(Fx Ny (S.tm rfl))) fun a S=>Me 24 ([O] ++ v1.ownBlock.toList) rfl (by kernel_rfl) rfl ?_))
     have hl16 : Hg φ1 (Ef.mk r5.1 ((nth r1.1 r3.1).Race) ((nth r1.1 r3.1).Clubs) ((nth r1.1 r3.1).Young) ((nth r1.1 r3.1).Old)) (R58.mk r5.1 ((nth r1.1 r3.1).Race) u2 ((nth r1.1 r3.1).Young) ((nth r1.1 r3.1).Old)):=⟨u2,rfl,hs1⟩
     have hr25 : Fn (Hg φ1) (r1.1.set r3.1.toNat (Ef.mk r5.1 ((nth r1.1 r3.1).Race) ((nth r1.1 r3.1).Clubs) ((nth r1.1 r3.1).Young) ((nth r1.1 r3.1).Old))) (rs1.set r3.1.toNat (R58.mk r5.1 ((nth r1.1 r3.1).Race) u2 ((nth r1.1 r3.1).Young) ((nth r1.1 r3.1).Old))):=Fn.st hr3 r3.1.toNat hl16
     refine Ia (c:=0) (j:=r3.1.toNat) (R58.mk r5.1 ((nth r1.1 r3.1).Race) u2 ((nth r1.1 r3.1).Young) ((nth r1.1 r3.1).Old)) R58.enc_ok S (S.tm rfl) (S.tm rfl) (i:=2) rfl hg2 hg1 sizeOf9 (vs:=[sV r5.1]) rfl rfl rfl (Nv rfl rfl) rfl ?_;clear S;intro w56 hk53 S
     refine Ld (Mf (Co 25 S hsel rfl rfl rfl (by kernel_rfl) (by kernel_rfl) rfl (fun _ hw=>(Ep (S.tm rfl))) fun a S=>Co 26 S hsel rfl rfl rfl (by kernel_rfl) (by kernel_rfl) rfl (fun _ hw=>(Fx Re (S.tm rfl))) fun a S=>Ea 27 (by kernel_rfl) rfl ?_))
     have hl17 : Hg φ1 (Ef.mk r5.1 r6.1 ((nth r1.1 r3.1).Clubs) ((nth r1.1 r3.1).Young) ((nth r1.1 r3.1).Old)) (R58.mk r5.1 r6.1 u2 ((nth r1.1 r3.1).Young) ((nth r1.1 r3.1).Old)):=⟨u2,rfl,hs1⟩
     have hr26 : Fn (Hg φ1) ((r1.1.set r3.1.toNat (Ef.mk r5.1 ((nth r1.1 r3.1).Race) ((nth r1.1 r3.1).Clubs) ((nth r1.1 r3.1).Young) ((nth r1.1 r3.1).Old))).set r3.1.toNat (Ef.mk r5.1 r6.1 ((nth r1.1 r3.1).Clubs) ((nth r1.1 r3.1).Young) ((nth r1.1 r3.1).Old))) ((rs1.set r3.1.toNat (R58.mk r5.1 ((nth r1.1 r3.1).Race) u2 ((nth r1.1 r3.1).Young) ((nth r1.1 r3.1).Old))).set r3.1.toNat (R58.mk r5.1 r6.1 u2 ((nth r1.1 r3.1).Young) ((nth r1.1 r3.1).Old))):=Fn.st hr25 r3.1.toNat hl17
     refine Ia (c:=1) (j:=r3.1.toNat) (R58.mk r5.1 r6.1 u2 ((nth r1.1 r3.1).Young) ((nth r1.1 r3.1).Old)) R58.enc_ok S (S.tm rfl) (S.tm rfl) (i:=2) rfl hg2 (Kv hg1) sizeOf9 (vs:=[sV r6.1]) rfl rfl rfl (Nv rfl rfl) rfl ?_;clear S;intro w58 hk55 S
     refine Ld ?_
     refine Ej (hk55.sub (by intro y hy;simp at hy ⊢;simp [hy])) ?_
     refine Co 28 S hsel rfl rfl rfl (by kernel_rfl) (by kernel_rfl) rfl (fun _ hw=>(Ep (S.tm rfl))) fun a S=>Co 29 S hsel rfl rfl rfl (by kernel_rfl) (by kernel_rfl) rfl (fun _ hw=>(Fx Rf (S.tm rfl))) fun a S=>Ea 30 (by kernel_rfl) rfl ?_
     have hl18 : Hg φ1 (Ef.mk r5.1 r6.1 ((nth r1.1 r3.1).Clubs) r7.1 ((nth r1.1 r3.1).Old)) (R58.mk r5.1 r6.1 u2 r7.1 ((nth r1.1 r3.1).Old)):=⟨u2,rfl,hs1⟩
     have hr27 : Fn (Hg φ1) (((r1.1.set r3.1.toNat (Ef.mk r5.1 ((nth r1.1 r3.1).Race) ((nth r1.1 r3.1).Clubs) ((nth r1.1 r3.1).Young) ((nth r1.1 r3.1).Old))).set r3.1.toNat (Ef.mk r5.1 r6.1 ((nth r1.1 r3.1).Clubs) ((nth r1.1 r3.1).Young) ((nth r1.1 r3.1).Old))).set r3.1.toNat (Ef.mk r5.1 r6.1 ((nth r1.1 r3.1).Clubs) r7.1 ((nth r1.1 r3.1).Old))) (((rs1.set r3.1.toNat (R58.mk r5.1 ((nth r1.1 r3.1).Race) u2 ((nth r1.1 r3.1).Young) ((nth r1.1 r3.1).Old))).set r3.1.toNat (R58.mk r5.1 r6.1 u2 ((nth r1.1 r3.1).Young) ((nth r1.1 r3.1).Old))).set r3.1.toNat (R58.mk r5.1 r6.1 u2 r7.1 ((nth r1.1 r3.1).Old))):=Fn.st hr26 r3.1.toNat hl18
     refine Ia (c:=3) (j:=r3.1.toNat) (R58.mk r5.1 r6.1 u2 r7.1 ((nth r1.1 r3.1).Old)) R58.enc_ok S (S.tm rfl) (S.tm rfl) (i:=2) rfl hg2 (Kv (Kv hg1)) sizeOf3 (vs:=[iV r7.1]) rfl rfl rfl (Nv rfl rfl) rfl ?_;clear S;intro w60 hk57 S
     refine Ld ?_
     refine Ej (hk57.sub (by intro y hy;simp at hy ⊢;simp [hy])) ?_
     refine Co 31 S hsel rfl rfl rfl (by kernel_rfl) (by kernel_rfl) rfl (fun _ hw=>(Ep (S.tm rfl))) fun a S=>Co 32 S hsel rfl rfl rfl (by kernel_rfl) (by kernel_rfl) rfl (fun _ hw=>(Fx Py (S.tm rfl))) fun a S=>Ea 33 (by kernel_rfl) rfl ?_
     have hl19 : Hg φ1 (Ef.mk r5.1 r6.1 ((nth r1.1 r3.1).Clubs) r7.1 r8.1) (R58.mk r5.1 r6.1 u2 r7.1 r8.1):=⟨u2,rfl,hs1⟩
     have hr28 : Fn (Hg φ1) ((((r1.1.set r3.1.toNat (Ef.mk r5.1 ((nth r1.1 r3.1).Race) ((nth r1.1 r3.1).Clubs) ((nth r1.1 r3.1).Young) ((nth r1.1 r3.1).Old))).set r3.1.toNat (Ef.mk r5.1 r6.1 ((nth r1.1 r3.1).Clubs) ((nth r1.1 r3.1).Young) ((nth r1.1 r3.1).Old))).set r3.1.toNat (Ef.mk r5.1 r6.1 ((nth r1.1 r3.1).Clubs) r7.1 ((nth r1.1 r3.1).Old))).set r3.1.toNat (Ef.mk r5.1 r6.1 ((nth r1.1 r3.1).Clubs) r7.1 r8.1)) ((((rs1.set r3.1.toNat (R58.mk r5.1 ((nth r1.1 r3.1).Race) u2 ((nth r1.1 r3.1).Young) ((nth r1.1 r3.1).Old))).set r3.1.toNat (R58.mk r5.1 r6.1 u2 ((nth r1.1 r3.1).Young) ((nth r1.1 r3.1).Old))).set r3.1.toNat (R58.mk r5.1 r6.1 u2 r7.1 ((nth r1.1 r3.1).Old))).set r3.1.toNat (R58.mk r5.1 r6.1 u2 r7.1 r8.1)):=Fn.st hr27 r3.1.toNat hl19
     refine Ia (c:=4) (j:=r3.1.toNat) (R58.mk r5.1 r6.1 u2 r7.1 r8.1) R58.enc_ok S (S.tm rfl) (S.tm rfl) (i:=2) rfl hg2 (Kv (Kv (Kv hg1))) sizeOf3 (vs:=[iV r8.1]) rfl rfl rfl (Nv rfl rfl) rfl ?_;clear S;intro w62 hk59 S
     refine Ld ?_
     refine Ej (hk59.sub (by intro y hy;simp at hy ⊢;simp [hy])) ?_
     refine Pj (by kernel_rfl) ?_
     clear hsel
     replace S:=(S.nl [.own v1 58 5 ((((rs1.set r3.1.toNat (R58.mk r5.1 ((nth r1.1 r3.1).Race) u2 ((nth r1.1 r3.1).Young) ((nth r1.1 r3.1).Old))).set r3.1.toNat (R58.mk r5.1 r6.1 u2 ((nth r1.1 r3.1).Young) ((nth r1.1 r3.1).Old))).set r3.1.toNat (R58.mk r5.1 r6.1 u2 r7.1 ((nth r1.1 r3.1).Old))).set r3.1.toNat (R58.mk r5.1 r6.1 u2 r7.1 r8.1)).length (((((rs1.set r3.1.toNat (R58.mk r5.1 ((nth r1.1 r3.1).Race) u2 ((nth r1.1 r3.1).Young) ((nth r1.1 r3.1).Old))).set r3.1.toNat (R58.mk r5.1 r6.1 u2 ((nth r1.1 r3.1).Young) ((nth r1.1 r3.1).Old))).set r3.1.toNat (R58.mk r5.1 r6.1 u2 r7.1 ((nth r1.1 r3.1).Old))).set r3.1.toNat (R58.mk r5.1 r6.1 u2 r7.1 r8.1)).flatMap R58.enc),.blk O [Aa,iV r8.2] 25] [false,false,true,true] rfl).k3 0 3 4 rfl
     exact Tn (⟨((((r1.1.set r3.1.toNat (Ef.mk r5.1 ((nth r1.1 r3.1).Race) ((nth r1.1 r3.1).Clubs) ((nth r1.1 r3.1).Young) ((nth r1.1 r3.1).Old))).set r3.1.toNat (Ef.mk r5.1 r6.1 ((nth r1.1 r3.1).Clubs) ((nth r1.1 r3.1).Young) ((nth r1.1 r3.1).Old))).set r3.1.toNat (Ef.mk r5.1 r6.1 ((nth r1.1 r3.1).Clubs) r7.1 ((nth r1.1 r3.1).Old))).set r3.1.toNat (Ef.mk r5.1 r6.1 ((nth r1.1 r3.1).Clubs) r7.1 r8.1)),r8.2,((((rs1.set r3.1.toNat (R58.mk r5.1 ((nth r1.1 r3.1).Race) u2 ((nth r1.1 r3.1).Young) ((nth r1.1 r3.1).Old))).set r3.1.toNat (R58.mk r5.1 r6.1 u2 ((nth r1.1 r3.1).Young) ((nth r1.1 r3.1).Old))).set r3.1.toNat (R58.mk r5.1 r6.1 u2 r7.1 ((nth r1.1 r3.1).Old))).set r3.1.toNat (R58.mk r5.1 r6.1 u2 r7.1 r8.1)),h,hr28,S.nf [true,true] rfl (subR rfl)⟩)
   clear S h;rintro a w6 ⟨x5,x6,rs3,h,hr8,S⟩;rw [hj3] at h;clear hj3 j3
   refine Tn (Fg (Vm S rfl rfl fun a S=>Vm S rfl rfl fun a S=>Vu S Ep rfl rfl fun a S=>Vf Nb S rfl rfl ?_));clear S;intro a S
   obtain ⟨hc2,h⟩:=Gz h
   obtain ⟨r9,hg3,hl20⟩:=Wp hr8 hc2
   obtain ⟨u3,rfl,hs2⟩:=hl20
   refine lv S (Hr isAgg42 (off:=r3.1.toNat * 5) (o:=2) (S.tm rfl) (Mo R58.enc_ok S (i:=0) rfl hg2 hg3) rfl) rfl ?_;clear S;intro a S
   obtain ⟨r10,hr29,h⟩:=Eh h
   have hz9:=S.keep.size
   refine Cy S (fun _=>Ck (vs:=[u3.val]) ⟨(S.tm rfl),trivial⟩ call30) (Rg _ u3.val ((nth x5 r3.1).Clubs) (hs2.mono (S.le_new Fp)) _ hr29) rfl ?_;clear S;intro v20 a w63 hv20 hk60 hn20 S
   replace S:=S.take hn20 hz9 hv20
   refine Vm S rfl rfl fun a S=>De S underlying42 sizeOf9 zeroValue9 rfl rfl (pv:=[(0,sV Jc),(1,sV Cj),(2,sV Wu)]) ⟨rfl,rfl,rfl,rfl,rfl,rfl,trivial⟩ (cs:=[sV Jc,sV Cj,sV Wu]) (by kernel_rfl) rfl ?_;clear S;intro a w64 b9 hz10 hk61 S
   obtain ⟨r11,hr30,h⟩:=Eh h
   refine Dy 3 S (b:=O) rfl rfl (fun _=>.blk O [Aa,iV r11.2] 25) (fun _=>Ck (vs:=[.pointer (some ⟨O,0,none⟩),.slice (some ⟨b9,0,none⟩) 3 3]) ⟨(S.tm rfl),(S.tm rfl),trivial⟩ call28) (Eu _ O Aa Aj (Af.mono (S.le_arg (Fd (i:=3) (e:=.blk O [Aa,iV x6] 25) rfl))) x6 (S.holds _ (List.mem_of_getElem? (i:=3) rfl)) (.slice (some ⟨b9,0,none⟩) 3 3) [Jc,Cj,Wu] (Fy Ex S (i:=0) rfl rfl rfl rfl ((Jd (i:=3) (j:=0) (e:=.blk O [Aa,iV x6] 25) (e':=.blk b9 [sV Jc,sV Cj,sV Wu] 9) S rfl rfl rfl) _ rfl)) _ hr30) rfl (fun _ _ _ h=>⟨h.1,fun _ hc=>by cases hc;rfl⟩) ?_;clear S;intro v21 a w65 hv21 hk62 hn21 S
   replace hv21:=hv21.2
   subst hv21
   refine De S underlying42 sizeOf9 zeroValue9 rfl rfl (pv:=[(0,sV r11.1)]) ⟨rfl,(S.tm rfl),trivial⟩ (cs:=[sV r11.1]) (by kernel_rfl) rfl ?_;clear S;intro a w66 b10 hz11 hk63 S
   obtain ⟨hc3,h⟩:=Gz h
   refine Kw Lg Ex S (S.tm rfl) (i:=2) rfl (S.tm rfl) (j:=0) rfl (ys:=[r11.1]) rfl rfl rfl rfl (by have:=Lh hc3;omega) rfl ?_;clear S;intro v22 a w67 hk64 S
   refine Vu S Ep rfl rfl fun a S=>Vf Nb S rfl rfl ?_;clear S;intro a S
   obtain ⟨φ3,hl21,hs3,S⟩:=S.freezeT (xs:=(r10 ++ [r11.1])) (enc:=Kh) (i:=2) rfl (fun c hc hh=>Pt S (i:=4) rfl rfl (j:=2) rfl rfl (by simp at hc;subst hc;exact hh))
   replace S:=S.nk [.blk b10 [sV r11.1] 9,.blk b9 [sV Jc,sV Cj,sV Wu] 9,.own v1 58 5 rs3.length (rs3.flatMap R58.enc),.blk O [Aa,iV r11.2] 25] [(0,.pointer (some ⟨O,0,none⟩)),(3,v1),(4,.pointer (some ⟨b1,r3.1.toNat * 5,none⟩)),(50,.pointer (some ⟨b1,r3.1.toNat * 5,none⟩)),(51,.pointer (some ⟨b1,r3.1.toNat * 5,none⟩)),(52,.pointer (some ⟨b1,r3.1.toNat * 5,none⟩)),(53,.pointer (some ⟨b1,r3.1.toNat * 5 + 2,none⟩)),(54,u3.val),(55,v20),(56,.pointer (some ⟨O,0,none⟩)),(57,.slice (some ⟨b9,0,none⟩) 3 3),(58,sV r11.1),(59,.slice (some ⟨b10,0,none⟩) 1 1),(60,v22),(61,.pointer (some ⟨b1,r3.1.toNat * 5,none⟩)),(62,.pointer (some ⟨b1,r3.1.toNat * 5 + 2,none⟩))] [] rfl (subR rfl)
   have hl22 : Hg φ3 (Ef.mk ((nth x5 r3.1).Key) ((nth x5 r3.1).Race) (r10 ++ [r11.1]) ((nth x5 r3.1).Young) ((nth x5 r3.1).Old)) (R58.mk ((nth x5 r3.1).Key) ((nth x5 r3.1).Race) ⟨v22,Fw.one (Eg (Ei Ex hs3))⟩ ((nth x5 r3.1).Young) ((nth x5 r3.1).Old)):=⟨⟨v22,Fw.one (Eg (Ei Ex hs3))⟩,rfl,(Ei Ex hs3)⟩
   have hr31 : Fn (Hg φ3) (x5.set r3.1.toNat (Ef.mk ((nth x5 r3.1).Key) ((nth x5 r3.1).Race) (r10 ++ [r11.1]) ((nth x5 r3.1).Young) ((nth x5 r3.1).Old))) (rs3.set r3.1.toNat (R58.mk ((nth x5 r3.1).Key) ((nth x5 r3.1).Race) ⟨v22,Fw.one (Eg (Ei Ex hs3))⟩ ((nth x5 r3.1).Young) ((nth x5 r3.1).Old))):=Fn.st (On hl21 hr8) r3.1.toNat hl22
   refine Ia (c:=2) (j:=r3.1.toNat) (R58.mk ((nth x5 r3.1).Key) ((nth x5 r3.1).Race) ⟨v22,Fw.one (Eg (Ei Ex hs3))⟩ ((nth x5 r3.1).Young) ((nth x5 r3.1).Old)) R58.enc_ok S (S.tm rfl) (S.tm rfl) (i:=2) rfl hg2 hg3 sizeOf42 (vs:=[v22]) (Fw.cells (Eg (Ei Ex hs3))) rfl rfl (Nv (Fw.one (Eg (Ei Ex hs3))) rfl) rfl ?_;clear S;intro w69 hk66 S
   refine Ld ?_
   replace S:=(S.nl [.own v1 58 5 (rs3.set r3.1.toNat (R58.mk ((nth x5 r3.1).Key) ((nth x5 r3.1).Race) ⟨v22,Fw.one (Eg (Ei Ex hs3))⟩ ((nth x5 r3.1).Young) ((nth x5 r3.1).Old))).length ((rs3.set r3.1.toNat (R58.mk ((nth x5 r3.1).Key) ((nth x5 r3.1).Race) ⟨v22,Fw.one (Eg (Ei Ex hs3))⟩ ((nth x5 r3.1).Young) ((nth x5 r3.1).Old))).flatMap R58.enc),.blk O [Aa,iV r11.2] 25] [false,false,true,true] rfl).k1 3 rfl
   exact Tn (⟨(x5.set r3.1.toNat (Ef.mk ((nth x5 r3.1).Key) ((nth x5 r3.1).Race) (r10 ++ [r11.1]) ((nth x5 r3.1).Young) ((nth x5 r3.1).Old))),r11.2,φ3,(rs3.set r3.1.toNat (R58.mk ((nth x5 r3.1).Key) ((nth x5 r3.1).Race) ⟨v22,Fw.one (Eg (Ei Ex hs3))⟩ ((nth x5 r3.1).Young) ((nth x5 r3.1).Old))),h,hl21,hr31,S.nf [true,true] rfl ⟨rfl,trivial⟩⟩)
  ·exact wp_skip (Tn (⟨r1.1,x1,φ1,rs1,h,(View.le_refl _),hr3,S.nf [true,true] rfl ⟨rfl,trivial⟩⟩))
 clear S h;rintro a w4 ⟨x3,x4,φ2,rs2,h,hl2,hr5,S⟩;rw [hj2] at h;clear hj2 j2
 refine Tn (Fr (Vm S rfl rfl fun a S=>Va S rfl rfl fun a S=>Dl (wp_ret ?_)))
 obtain rfl:=Option.some.inj h
 exact Dx S results4 rfl ⟨(S.holds _ (List.mem_of_getElem? (i:=1) rfl)),⟨_,(Wl S (i:=0) rfl (fun c hc hh=>Pt S (i:=1) rfl rfl (j:=0) rfl rfl (by simp at hc;subst hc;exact hh))),On (S.le_hide (i:=0) rfl) hr5⟩⟩
theorem Tj (w : World) (O : Nat) (Aa : Value) (Aj : List Int) (Af : Slc (view w [O]) 1 Aa (Aj.map eInt)) (Ai : Int) (Av : (LEnt.blk O [Aa,iV Ai] 25).holds w) (Ap : Int) (r : An × Int) (h : Lw Aj Ai Ap = some r) :
    Calls prog 31 [.pointer (some ⟨O,0,none⟩),iV Ap].toArray w (Ret w [O] fun _ v w'=>(LEnt.blk O [Aa,iV r.2] 25).holds w' ∧ v = .agg (An.enc r.1).toArray):=by
 refine Ju [O] [.blk O [Aa,iV Ai] 25] func31 rfl ntmps31 rfl (fun e he=>by simp only [List.mem_singleton] at he;subst he;exact Av) (by simp [fps,LEnt.fp]) (by simp [fps,LEnt.fp]) fun a S=>?_
 unfold Lw at h
 replace S:=(S.nl [.blk O [Aa,iV Ai] 25] [true] rfl).k2 0 1 rfl
 refine Fr (Lq S zeroValue35 (cs:=[iV 0,iV 0,sV Cj,sV Cj,sV Cj,sV Cj,iV 0,iV 0]) rfl rfl ?_);clear S;intro a w1 b1 hz1 hk1 S
 refine Dz (Vm S rfl rfl fun a S=>Vm S rfl rfl fun a S=>De S underlying42 sizeOf9 zeroValue9 rfl rfl (pv:=[(0,sV AX),(1,sV AY),(2,sV AZ),(3,sV BA),(4,sV BB),(5,sV BC)]) ⟨rfl,rfl,rfl,rfl,rfl,rfl,rfl,rfl,rfl,rfl,rfl,rfl,trivial⟩ (cs:=[sV AX,sV AY,sV AZ,sV BA,sV BB,sV BC]) (by kernel_rfl) rfl ?_);clear S;intro a w2 b2 hz2 hk2 S
 obtain ⟨r1,hr1,h⟩:=Eh h
 refine Dy 2 S (b:=O) rfl rfl (fun _=>.blk O [Aa,iV r1.2] 25) (fun _=>Ck (vs:=[.pointer (some ⟨O,0,none⟩),.slice (some ⟨b2,0,none⟩) 6 6]) ⟨(S.tm rfl),(S.tm rfl),trivial⟩ call28) (Eu _ O Aa Aj (Af.mono (S.le_arg (Fd (i:=2) (e:=.blk O [Aa,iV Ai] 25) rfl))) Ai (S.holds _ (List.mem_of_getElem? (i:=2) rfl)) (.slice (some ⟨b2,0,none⟩) 6 6) [AX,AY,AZ,BA,BB,BC] (Fy Ex S (i:=0) rfl rfl rfl rfl ((Jd (i:=2) (j:=0) (e:=.blk O [Aa,iV Ai] 25) (e':=.blk b2 [sV AX,sV AY,sV AZ,sV BA,sV BB,sV BC] 9) S rfl rfl rfl) _ rfl)) _ hr1) rfl (fun _ _ _ h=>⟨h.1,fun _ hc=>by cases hc;rfl⟩) ?_;clear S;intro v1 a w3 hv1 hk3 hn1 S
 replace hv1:=hv1.2
 subst hv1
 refine Vm S rfl rfl fun a S=>De S underlying42 sizeOf9 zeroValue9 rfl rfl (pv:=[(0,sV Wv),(1,sV Ww)]) ⟨rfl,rfl,rfl,rfl,trivial⟩ (cs:=[sV Wv,sV Ww]) (by kernel_rfl) rfl ?_;clear S;intro a w4 b3 hz3 hk4 S
 obtain ⟨r2,hr2,h⟩:=Eh h
 refine Dy 3 S (b:=O) rfl rfl (fun _=>.blk O [Aa,iV r2.2] 25) (fun _=>Ck (vs:=[.pointer (some ⟨O,0,none⟩),.slice (some ⟨b3,0,none⟩) 2 2]) ⟨(S.tm rfl),(S.tm rfl),trivial⟩ call28) (Eu _ O Aa Aj (Af.mono (S.le_arg (Fd (i:=3) (e:=.blk O [Aa,iV r1.2] 25) rfl))) r1.2 (S.holds _ (List.mem_of_getElem? (i:=3) rfl)) (.slice (some ⟨b3,0,none⟩) 2 2) [Wv,Ww] (Fy Ex S (i:=0) rfl rfl rfl rfl ((Jd (i:=3) (j:=0) (e:=.blk O [Aa,iV r1.2] 25) (e':=.blk b3 [sV Wv,sV Ww] 9) S rfl rfl rfl) _ rfl)) _ hr2) rfl (fun _ _ _ h=>⟨h.1,fun _ hc=>by cases hc;rfl⟩) ?_;clear S;intro v2 a w5 hv2 hk5 hn2 S
 replace hv2:=hv2.2
 subst hv2
 refine Vm S rfl rfl fun a S=>De S underlying42 sizeOf9 zeroValue9 rfl rfl (pv:=[(0,sV Jc),(1,sV Mg),(2,sV Cj)]) ⟨rfl,rfl,rfl,rfl,rfl,rfl,trivial⟩ (cs:=[sV Jc,sV Mg,sV Cj]) (by kernel_rfl) rfl ?_;clear S;intro a w6 b4 hz4 hk6 S
 obtain ⟨r3,hr3,h⟩:=Eh h
 refine Dy 4 S (b:=O) rfl rfl (fun _=>.blk O [Aa,iV r3.2] 25) (fun _=>Ck (vs:=[.pointer (some ⟨O,0,none⟩),.slice (some ⟨b4,0,none⟩) 3 3]) ⟨(S.tm rfl),(S.tm rfl),trivial⟩ call28) (Eu _ O Aa Aj (Af.mono (S.le_arg (Fd (i:=4) (e:=.blk O [Aa,iV r2.2] 25) rfl))) r2.2 (S.holds _ (List.mem_of_getElem? (i:=4) rfl)) (.slice (some ⟨b4,0,none⟩) 3 3) [Jc,Mg,Cj] (Fy Ex S (i:=0) rfl rfl rfl rfl ((Jd (i:=4) (j:=0) (e:=.blk O [Aa,iV r2.2] 25) (e':=.blk b4 [sV Jc,sV Mg,sV Cj] 9) S rfl rfl rfl) _ rfl)) _ hr3) rfl (fun _ _ _ h=>⟨h.1,fun _ hc=>by cases hc;rfl⟩) ?_;clear S;intro v3 a w7 hv3 hk7 hn3 S
 replace hv3:=hv3.2
 subst hv3
 refine Vm S rfl rfl fun a S=>De S underlying42 sizeOf9 zeroValue9 rfl rfl (pv:=[(0,sV Og),(1,sV Og),(2,sV Ua)]) ⟨rfl,rfl,rfl,rfl,rfl,rfl,trivial⟩ (cs:=[sV Og,sV Og,sV Ua]) (by kernel_rfl) rfl ?_;clear S;intro a w8 b5 hz5 hk8 S
 obtain ⟨r4,hr4,h⟩:=Eh h
 refine Dy 5 S (b:=O) rfl rfl (fun _=>.blk O [Aa,iV r4.2] 25) (fun _=>Ck (vs:=[.pointer (some ⟨O,0,none⟩),.slice (some ⟨b5,0,none⟩) 3 3]) ⟨(S.tm rfl),(S.tm rfl),trivial⟩ call28) (Eu _ O Aa Aj (Af.mono (S.le_arg (Fd (i:=5) (e:=.blk O [Aa,iV r3.2] 25) rfl))) r3.2 (S.holds _ (List.mem_of_getElem? (i:=5) rfl)) (.slice (some ⟨b5,0,none⟩) 3 3) [Og,Og,Ua] (Fy Ex S (i:=0) rfl rfl rfl rfl ((Jd (i:=5) (j:=0) (e:=.blk O [Aa,iV r3.2] 25) (e':=.blk b5 [sV Og,sV Og,sV Ua] 9) S rfl rfl rfl) _ rfl)) _ hr4) rfl (fun _ _ _ h=>⟨h.1,fun _ hc=>by cases hc;rfl⟩) ?_;clear S;intro v4 a w9 hv4 hk9 hn4 S
 replace hv4:=hv4.2
 subst hv4
 refine Vm S rfl rfl fun a S=>De S underlying22 sizeOf3 zeroValue3 rfl rfl (pv:=[(0,iV 9),(1,iV 10),(2,iV 14),(3,iV 15),(4,iV 20)]) ⟨rfl,rfl,rfl,rfl,rfl,rfl,rfl,rfl,rfl,rfl,trivial⟩ (cs:=[iV 9,iV 10,iV 14,iV 15,iV 20]) (by kernel_rfl) rfl ?_;clear S;intro a w10 b6 hz6 hk10 S
 obtain ⟨r5,hr5,h⟩:=Eh h
 refine Dy 6 S (b:=O) rfl rfl (fun _=>.blk O [Aa,iV r5.2] 25) (fun _=>Ck (vs:=[.pointer (some ⟨O,0,none⟩),.slice (some ⟨b6,0,none⟩) 5 5]) ⟨(S.tm rfl),(S.tm rfl),trivial⟩ call7) (Jz _ O Aa Aj (Af.mono (S.le_arg (Fd (i:=6) (e:=.blk O [Aa,iV r4.2] 25) rfl))) r4.2 (S.holds _ (List.mem_of_getElem? (i:=6) rfl)) (.slice (some ⟨b6,0,none⟩) 5 5) [9,10,14,15,20] (Fy Kx S (i:=0) rfl rfl rfl rfl ((Jd (i:=6) (j:=0) (e:=.blk O [Aa,iV r4.2] 25) (e':=.blk b6 [iV 9,iV 10,iV 14,iV 15,iV 20] 3) S rfl rfl rfl) _ rfl)) _ hr5) rfl (fun _ _ _ h=>⟨h.1,fun _ hc=>by cases hc;rfl⟩) ?_;clear S;intro v5 a w11 hv5 hk11 hn5 S
 replace hv5:=hv5.2
 subst hv5
 refine Vm S rfl rfl fun a S=>De S underlying22 sizeOf3 zeroValue3 rfl rfl (pv:=[(0,iV 95),(1,iV 96),(2,iV 97),(3,iV 100),(4,iV 1),(5,iV 2)]) ⟨rfl,rfl,rfl,rfl,rfl,rfl,rfl,rfl,rfl,rfl,rfl,rfl,trivial⟩ (cs:=[iV 95,iV 96,iV 97,iV 100,iV 1,iV 2]) (by kernel_rfl) rfl ?_;clear S;intro a w12 b7 hz7 hk12 S
 obtain ⟨r6,hr6,h⟩:=Eh h
 refine Dy 7 S (b:=O) rfl rfl (fun _=>.blk O [Aa,iV r6.2] 25) (fun _=>Ck (vs:=[.pointer (some ⟨O,0,none⟩),.slice (some ⟨b7,0,none⟩) 6 6]) ⟨(S.tm rfl),(S.tm rfl),trivial⟩ call7) (Jz _ O Aa Aj (Af.mono (S.le_arg (Fd (i:=7) (e:=.blk O [Aa,iV r5.2] 25) rfl))) r5.2 (S.holds _ (List.mem_of_getElem? (i:=7) rfl)) (.slice (some ⟨b7,0,none⟩) 6 6) [95,96,97,100,1,2] (Fy Kx S (i:=0) rfl rfl rfl rfl ((Jd (i:=7) (j:=0) (e:=.blk O [Aa,iV r5.2] 25) (e':=.blk b7 [iV 95,iV 96,iV 97,iV 100,iV 1,iV 2] 3) S rfl rfl rfl) _ rfl)) _ hr6) rfl (fun _ _ _ h=>⟨h.1,fun _ hc=>by cases hc;rfl⟩) ?_;clear S;intro v6 a w13 hv6 hk13 hn6 S
 replace hv6:=hv6.2
 subst hv6
 refine lv S (Rb Zy (pv:=[(0,iV Ap),(1,iV 1),(2,sV r1.1),(3,sV r2.1),(4,sV r3.1),(5,sV r4.1),(6,iV r5.1),(7,iV r6.1)]) ⟨rfl,(S.tm rfl),rfl,rfl,rfl,(S.tm rfl),rfl,(S.tm rfl),rfl,(S.tm rfl),rfl,(S.tm rfl),rfl,(S.tm rfl),rfl,(S.tm rfl),trivial⟩ (cs:=[iV Ap,iV 1,sV r1.1,sV r2.1,sV r3.1,sV r4.1,iV r5.1,iV r6.1]) (by kernel_rfl)) rfl fun a S=>Gy S (S.tm rfl) (S.tm rfl) (i:=6) (off:=0) rfl sizeOf35 (vs:=(An.enc (An.mk Ap 1 r1.1 r2.1 r3.1 r4.1 r5.1 r6.1))) rfl rfl rfl rfl ?_;clear S;intro w14 hk14 S
 refine Ld ?_
 replace S:=(S.nl [.blk b1 (An.enc (An.mk Ap 1 r1.1 r2.1 r3.1 r4.1 r5.1 r6.1)) 35,.blk O [Aa,iV r6.2] 25] [false,false,false,false,false,false,true,true] rfl).k1 4 rfl
 refine Tn (wp_ret ?_)
 obtain rfl:=Option.some.inj h
 exact f_retG S (rs:=[.cell 4 35]) (vs:=[.agg (An.enc (An.mk Ap 1 r1.1 r2.1 r3.1 r4.1 r5.1 r6.1)).toArray]) results31 ⟨(DS (off:=0) S rfl isAgg35 sizeOf35 rfl (S.cellsAt (i:=0) rfl)),trivial⟩ rfl ⟨(S.holds _ (List.mem_of_getElem? (i:=1) rfl)),rfl⟩
theorem Qm (w : World) (Ar : Int) (r : Int) (h : Mx Ar = r) :
    Calls prog 57 [iV Ar].toArray w (Ret w [] fun _ v _=>v = iV r):=by
 refine Fe func57 rfl ntmps57 rfl fun a S=>?_
 unfold Mx at h
 replace S:=S.k1 0 rfl
 refine Fr (Vk S rfl rfl fun a S=>Dl (Fs (wp_block (Fr (Vm S rfl rfl fun a S=>Vq S Ee rfl rfl rfl ?_)))));clear S;intro a S
 refine Va S rfl rfl fun a S=>Dl (Fc h (S.tm rfl) (fun hb1 h=>?_) (fun hb1 h=>?_))
 ·refine Fr (Vk S rfl rfl fun a S=>Dl (wp_ret (Fa (Cn ?_))))
  subst h
  exact Dx S results57 rfl rfl
 ·refine Fr (Vm S rfl rfl fun a S=>Vq S Ix rfl rfl rfl fun a S=>Va S rfl rfl fun a S=>Dl (Fc h (S.tm rfl) (fun hb2 h=>?_) (fun hb2 h=>?_)))
  ·refine Fr (Vk S rfl rfl fun a S=>Dl (wp_ret (Fa (Cn ?_))))
   subst h
   exact Dx S results57 rfl rfl
  ·refine wp_skip (Hj (Tn (Fr (Vk S rfl rfl fun a S=>Dl (wp_ret ?_)))))
   subst h
   exact Dx S results57 rfl rfl
theorem Lt (w : World) (s t : ByteArray) (r : Int) (h : Gr s t = r) : Calls prog 58 [.string s,.string t].toArray w (Ret w [] fun _ v _=>v = .int .i64 r):=by
  subst h
  exact Pu (Any.strings_Compare Tryz.lays106 s t w)
theorem Hz (w : World) (Ag : An) (Ah : An) (r : Int) (h : Df Ag Ah = r) :
    Calls prog 33 [.agg (An.enc Ag).toArray,.agg (An.enc Ah).toArray].toArray w (Ret w [] fun _ v _=>v = iV r):=by
 refine Fe func33 rfl ntmps33 rfl fun a S=>?_
 unfold Df at h
 replace S:=S.k2 0 1 rfl
 refine Fr (Oh S (S.tm rfl) (cs:=(An.enc Ag)) rfl rfl ?_);clear S;intro a w1 b1 hz1 hk1 S
 refine Oh S (S.tm rfl) (cs:=(An.enc Ah)) rfl rfl ?_;clear S;intro a w2 b2 hz2 hk2 S
 refine Vk S rfl rfl fun a S=>Dl (Fs (wp_block (Fr (Vf Lj S rfl rfl fun a S=>Vl isAgg3 1 S rfl rfl rfl rfl fun a S=>Vf Lj S rfl rfl fun a S=>Vl isAgg3 0 S rfl rfl rfl rfl ?_))));clear S;intro a S
 refine Vb S Kg rfl rfl rfl fun a S=>Va S rfl rfl fun a S=>Dl (Fc h (S.tm rfl) (fun hb1 h=>?_) (fun hb1 h=>?_))
 ·refine Fr (Vf Lj S rfl rfl fun a S=>Vl isAgg3 1 S rfl rfl rfl rfl fun a S=>Vf Lj S rfl rfl fun a S=>Vl isAgg3 0 S rfl rfl rfl rfl fun a S=>Vb S Hs rfl rfl rfl fun a S=>Cy S (fun _=>Ck (vs:=[iV (W (Ag.At - Ah.At))]) ⟨(S.tm rfl),trivial⟩ call57) (Qm _ (W (Ag.At - Ah.At)) _ rfl) rfl ?_);clear S;intro v1 a w3 hv1 hk3 hn1 S
  subst hv1
  refine Va S rfl rfl fun a S=>Ld ?_
  replace S:=S.n0.k1 4 rfl
  refine Tn (wp_ret (Fa (Cn ?_)))
  subst h
  exact Dx S results33 rfl rfl
 ·refine Fr (Vf Iw S rfl rfl fun a S=>Vl isAgg9 1 S rfl rfl rfl rfl fun a S=>Vf Iw S rfl rfl fun a S=>Vl isAgg9 0 S rfl rfl rfl rfl fun a S=>Vb S Vx rfl rfl rfl fun a S=>Va S rfl rfl fun a S=>Ld ?_)
  replace S:=(S.nl [.blk b2 (An.enc Ah) 35,.blk b1 (An.enc Ag) 35] [true,true] rfl).k3 2 3 17 rfl
  refine Tn (Fc h (S.tm rfl) (fun hb2 h=>?_) (fun hb2 h=>?_))
  ·refine Fr (Vf Iw S rfl rfl fun a S=>Vl isAgg9 1 S rfl rfl rfl rfl fun a S=>Vf Iw S rfl rfl fun a S=>Vl isAgg9 0 S rfl rfl rfl rfl fun a S=>Cy S (fun _=>Ck (vs:=[sV Ag.Id,sV Ah.Id]) ⟨(S.tm rfl),(S.tm rfl),trivial⟩ call58) (Lt _ Ag.Id Ah.Id _ rfl) rfl ?_);clear S;intro v2 a w4 hv2 hk4 hn2 S
   subst hv2
   refine Va S rfl rfl fun a S=>Dl (wp_ret (Fa (Cn ?_)))
   subst h
   exact Dx S results33 rfl rfl
  ·refine wp_skip (Hj (Tn (Fr (Vf Jq S rfl rfl fun a S=>Vl isAgg3 1 S rfl rfl rfl rfl fun a S=>Vf Jq S rfl rfl fun a S=>Vl isAgg3 0 S rfl rfl rfl rfl fun a S=>Vb S Hs rfl rfl rfl fun a S=>Cy S (fun _=>Ck (vs:=[iV (W (Ag.Kind - Ah.Kind))]) ⟨(S.tm rfl),trivial⟩ call57) (Qm _ (W (Ag.Kind - Ah.Kind)) _ rfl) rfl ?_))));clear S;intro v3 a w5 hv3 hk5 hn3 S
   subst hv3
   refine Va S rfl rfl fun a S=>Dl (wp_ret ?_)
   subst h
   exact Dx S results33 rfl rfl
set_option maxRecDepth 20000 in
theorem Hu (w : World) (Ab : Value) (Ad : List An) (Bb : (LEnt.own Ab 35 8 Ad.length (Ad.flatMap An.enc)).holds w) (Ag : Int) (Ah : Int) (r : (List An)) (h : Dm Ad Ag Ah = some r) :
    Calls prog 70 [Ab,iV Ag,iV Ah,.func (.func 33) #[] #[]].toArray w (Ret w (Ab.ownBlock.toList) fun _ v w'=>(LEnt.own Ab 35 8 r.length (r.flatMap An.enc)).holds w' ∧ v = .tuple #[]):=by
 refine Ju (Ab.ownBlock.toList) [.own Ab 35 8 Ad.length (Ad.flatMap An.enc)] func70 rfl ntmps70 rfl (fun e he=>by simp only [List.mem_singleton] at he;subst he;exact Bb) (Kj _) (Lp _) fun a S=>?_
 unfold Dm at h
 replace S:=(S.nl [.own Ab 35 8 Ad.length (Ad.flatMap An.enc)] [true] rfl).k4 0 1 2 3 rfl
 refine Fr (Vm S rfl rfl fun a S=>Vq S Ew rfl rfl rfl fun a S=>Va S rfl rfl fun a S=>Dl ?_)
 replace S:=S.k5 0 1 2 3 8 rfl
 obtain ⟨j1,hj1,h⟩:=Dt h
 refine Dj (fun a w'=>∃ x1 : List An,j1 x1 = some r ∧ Sx w (Ab.ownBlock.toList) nov [.own Ab 35 8 x1.length (x1.flatMap An.enc)] [] 53 a w') ?_ ?_
 ·refine wp_block (Gt (fun (m1 : Nat) a w'=>∃ x1 : List An,∃ x2 : Int,Cr Ah Ag j1 m1 x1 x2 = some r ∧ Sx w (Ab.ownBlock.toList) nov [.own Ab 35 8 x1.length (x1.flatMap An.enc)] [(0,Ab),(1,iV Ag),(2,iV Ah),(3,.func (.func 33) #[] #[]),(8,iV x2)] 53 a w') id ((Ah - (W (Ag + 1))).toNat + 2) ⟨Ad,W (Ag + 1),h,S.nf [true] rfl (subR rfl)⟩ ?_)
  clear S h;rintro m1 a w1 ⟨x1,x2,h,S⟩
  cases m1 with
  | zero=>rw [Cr.eq_1] at h;cases h
  | succ m1 =>
   rw [Cr.eq_2] at h
   refine Fs (Fr (Vm S rfl rfl fun a S=>Vm S rfl rfl fun a S=>Vb S Ee rfl rfl rfl fun a S=>Dl (Fc h (S.tm rfl) (fun hb1 h=>?_) (fun hb1 h=>?_))))
   ·refine wp_skip (Tn (Fs (wp_block (Fr (Vm S rfl rfl fun a S=>Va S rfl rfl fun a S=>Dl ?_)))))
    replace S:=S.k6 0 1 2 3 8 9 rfl
    obtain ⟨j2,hj2,h⟩:=Dt h
    refine Dj (fun a w'=>∃ x3 : List An,j2 x3 = some r ∧ Sx w (Ab.ownBlock.toList) nov [.own Ab 35 8 x3.length (x3.flatMap An.enc)] [(0,Ab),(1,iV Ag),(2,iV Ah),(3,.func (.func 33) #[] #[]),(8,iV x2)] 53 a w') ?_ ?_
    ·refine wp_block (Gt (fun (m2 : Nat) a w'=>∃ x3 : List An,∃ x4 : Int,Cp Ag j2 m2 x3 x4 = some r ∧ Sx w (Ab.ownBlock.toList) nov [.own Ab 35 8 x3.length (x3.flatMap An.enc)] [(0,Ab),(1,iV Ag),(2,iV Ah),(3,.func (.func 33) #[] #[]),(8,iV x2),(9,iV x4)] 53 a w') id ((x2 - Ag).toNat + 2) ⟨x1,x2,h,S.nf [true] rfl (subR rfl)⟩ ?_)
     clear S h;rintro m2 a w3 ⟨x3,x4,h,S⟩
     cases m2 with
     | zero=>rw [Cp.eq_1] at h;cases h
     | succ m2 =>
      rw [Cp.eq_2] at h
      refine Fs (Fs ?_)
      obtain ⟨j3,hj3,h⟩:=Dt h
      refine Dj (fun a w'=>∃ x5 : Bool,j3 x5 = some r ∧ Sx w (Ab.ownBlock.toList) nov [.own Ab 35 8 x3.length (x3.flatMap An.enc)] [(0,Ab),(1,iV Ag),(2,iV Ah),(3,.func (.func 33) #[] #[]),(8,iV x2),(9,iV x4),(34,bV x5)] 53 a w') ?_ ?_
      ·rcases Bool.eq_false_or_eq_true (decide (Ag < x4)) with hb2 | hb2
       ·replace h:=Mu h hb2
        obtain ⟨hc1,h⟩:=Gz h
        obtain ⟨hc2,h⟩:=Gz h
        refine Fi [] ([]) Tryz.mixed S rfl (by kernel_rfl) ?_;clear S;intro w7 hk2 hsel S
        refine Co 0 S hsel rfl rfl rfl (by kernel_rfl) (by kernel_rfl) rfl (fun _ hw=>(Rm (S.tm rfl))) fun a S=>Co 1 S hsel rfl rfl rfl (by kernel_rfl) (by kernel_rfl) rfl (fun _ hw=>(Rm (S.tm rfl))) fun a S=>Co 2 S hsel rfl rfl rfl (by kernel_rfl) (by kernel_rfl) rfl (fun _ hw=>(Ix (S.tm rfl) (S.tm rfl))) fun a S=>Co 3 S hsel rfl rfl rfl (by kernel_rfl) (by kernel_rfl) rfl (fun _ hw=>(Rm (S.tm rfl))) fun a S=>Et 4 S hsel rfl rfl rfl rfl hb2 rfl rfl (by kernel_rfl) (by kernel_rfl) rfl (fun _ hw=>(Rm (S.tm rfl))) fun a S=>Et 5 S hsel rfl rfl rfl rfl hb2 rfl rfl (by kernel_rfl) (by kernel_rfl) rfl (fun _ hw=>(Rm (S.tm rfl))) fun a S=>Et 6 S hsel rfl rfl rfl rfl hb2 rfl rfl (by kernel_rfl) (by kernel_rfl) rfl (fun _ hw=>(Rm (S.tm rfl))) ?_;clear S;intro a S
        obtain ⟨b3,hg3,hr3⟩:=Fj (a:=a) (x:=.tmp 23) (y:=.tmp 24) (ty:=0) Eo An.enc_ok S (i:=0) rfl (Ct hc1).1 (Ct hc1).2 (S.tm rfl) (S.tm rfl)
        refine Et 7 S hsel rfl rfl rfl rfl hb2 rfl rfl (by kernel_rfl) (by kernel_rfl) rfl (fun _ hw=>(hr3 _)) ?_;clear S;intro a S
        clear hr3
        refine Et 8 S hsel rfl rfl rfl rfl hb2 rfl rfl (by kernel_rfl) (by kernel_rfl) rfl (fun _ hw=>(Ey isAgg35 sizeOf35 (off:=x4.toNat * 8) (o:=0) (part:=(An.enc (nth x3 x4))) rfl rfl (S.tm rfl) ((Jh An.enc_ok S (i:=0) rfl hg3 (Ct hc1).1 (Ge (e':=.own Ab 35 8 x3.length (x3.flatMap An.enc)))).kept hw))) fun a S=>Et 9 S hsel rfl rfl rfl rfl hb2 rfl rfl (by kernel_rfl) (by kernel_rfl) rfl (fun _ hw=>(Rm (S.tm rfl))) fun a S=>Et 10 S hsel rfl rfl rfl rfl hb2 rfl rfl (by kernel_rfl) (by kernel_rfl) rfl (fun _ hw=>(Rm (S.tm rfl))) fun a S=>Et 11 S hsel rfl rfl rfl rfl hb2 rfl rfl (by kernel_rfl) (by kernel_rfl) rfl (fun _ hw=>(Hs (S.tm rfl) rfl)) ?_;clear S;intro a S
        obtain ⟨b4,hg4,hr4⟩:=Fj (a:=a) (x:=.tmp 27) (y:=.tmp 29) (ty:=0) Eo An.enc_ok S (i:=0) rfl (Ct hc2).1 (Ct hc2).2 (S.tm rfl) (S.tm rfl)
        refine Et 12 S hsel rfl rfl rfl rfl hb2 rfl rfl (by kernel_rfl) (by kernel_rfl) rfl (fun _ hw=>(hr4 _)) ?_;clear S;intro a S
        clear hr4
        refine Et 13 S hsel rfl rfl rfl rfl hb2 rfl rfl (by kernel_rfl) (by kernel_rfl) rfl (fun _ hw=>(Ey isAgg35 sizeOf35 (off:=((W (x4 - 1)).toNat) * 8) (o:=0) (part:=(An.enc (nth x3 (W (x4 - 1))))) rfl rfl (S.tm rfl) ((Jh An.enc_ok S (i:=0) rfl hg4 (Ct hc2).1 (Ge (e':=.own Ab 35 8 x3.length (x3.flatMap An.enc)))).kept hw))) fun a S=>Ea 14 (by kernel_rfl) rfl (Cq S rfl rfl rfl hb2 (Cy S (fun _=>Nj (cap:=[]) (S.tm rfl) (vs:=[.agg (An.enc (nth x3 x4)).toArray,.agg (An.enc (nth x3 (W (x4 - 1)))).toArray]) ⟨(S.tm rfl),(S.tm rfl),trivial⟩ call33) (Hz _ (nth x3 x4) (nth x3 (W (x4 - 1))) _ rfl) rfl ?_));clear S;intro v2 a w8 hv2 hk3 hn2 S
        subst hv2
        refine Ld (Ej hk3 (Iy [15,16] hsel (by kernel_rfl) rfl ?_))
        clear hsel
        refine Ng S rfl rfl rfl rfl hb2 (Oi S (Ee (S.tm rfl) rfl) rfl fun a S=>Fb S rfl (Nm hb2 (S.tm rfl) (S.tm rfl)) rfl fun a S=>Ik ?_)
        replace S:=S.nk [.own Ab 35 8 x3.length (x3.flatMap An.enc)] [(0,Ab),(1,iV Ag),(2,iV Ah),(3,.func (.func 33) #[] #[]),(8,iV x2),(9,iV x4),(22,.func (.func 33) #[] #[]),(23,Ab),(24,iV x4),(25,.pointer (some ⟨b3,x4.toNat * 8,none⟩)),(26,.agg (An.enc (nth x3 x4)).toArray),(27,Ab),(28,iV x4),(29,iV (W (x4 - 1))),(30,.pointer (some ⟨b4,((W (x4 - 1)).toNat) * 8,none⟩)),(31,.agg (An.enc (nth x3 (W (x4 - 1)))).toArray),(32,iV (Df (nth x3 x4) (nth x3 (W (x4 - 1))))),(33,bV (decide ((Df (nth x3 x4) (nth x3 (W (x4 - 1)))) < 0))),(34,bV (decide ((Df (nth x3 x4) (nth x3 (W (x4 - 1)))) < 0)))] [true] rfl (subR rfl)
        exact Tn (⟨decide ((Df (nth x3 x4) (nth x3 (W (x4 - 1)))) < 0),h,S.nf [true] rfl (subR rfl)⟩)
       ·replace h:=Mv h hb2
        refine Fi [] ([]) Tryz.mixed S rfl (by kernel_rfl) ?_;clear S;intro w9 hk4 hsel S
        refine Iy [0,1,2,3,4,5,6,7,8,9,10,11,12,13,14,15,16] hsel (by kernel_rfl) rfl ?_
        clear hsel
        refine Fb S rfl (Rm (S.tm rfl)) rfl fun a S=>Fb S rfl (Rm (S.tm rfl)) rfl fun a S=>Fb S rfl (Ix (S.tm rfl) (S.tm rfl)) rfl fun a S=>Fb S rfl (Rm (S.tm rfl)) rfl ?_;clear S;intro a S
        iterate 12 (refine Tf S rfl rfl rfl rfl (Hq hb2) rfl ?_ rfl;clear S;intro a S)
        refine Fb S rfl (Nn hb2 (S.tm rfl) rfl) rfl fun a S=>Ik ?_
        replace S:=S.k7 0 1 2 3 8 9 34 rfl
        exact Tn (⟨false,h,S.nf [true] rfl (subR rfl)⟩)
      clear S h;rintro a w5 ⟨x5,h,S⟩;rw [hj3] at h;clear hj3 j3
      refine Tn (Fc h (S.tm rfl) (fun hb3 h=>?_) (fun hb3 h=>?_))
      ·refine wp_skip (Tn (Fs (wp_block ?_)))
       obtain ⟨hc3,h⟩:=Gz h
       obtain ⟨hc4,h⟩:=Gz h
       obtain ⟨hc5,h⟩:=Gz h
       obtain ⟨hc6,h⟩:=Gz h
       refine Fi [15,17] ([]) Tryz.mixed S rfl (by kernel_rfl) ?_;clear S;intro w14 hk9 hsel S
       refine Ed 0 S hsel rfl rfl (by kernel_rfl) (by kernel_rfl) rfl (fun _=>(Rm (S.tm rfl))) fun a S=>Ed 1 S hsel rfl rfl (by kernel_rfl) (by kernel_rfl) rfl (fun _=>(Rm (S.tm rfl))) fun a S=>Ed 2 S hsel rfl rfl (by kernel_rfl) (by kernel_rfl) rfl (fun _=>(Rm (S.tm rfl))) fun a S=>Ed 3 S hsel rfl rfl (by kernel_rfl) (by kernel_rfl) rfl (fun _=>(Rm (S.tm rfl))) fun a S=>Ed 4 S hsel rfl rfl (by kernel_rfl) (by kernel_rfl) rfl (fun _=>(Hs (S.tm rfl) rfl)) fun a S=>Ed 5 S hsel rfl rfl (by kernel_rfl) (by kernel_rfl) rfl (fun _=>(Rm (S.tm rfl))) fun a S=>Ed 6 S hsel rfl rfl (by kernel_rfl) (by kernel_rfl) rfl (fun _=>(Rm (S.tm rfl))) fun a S=>Ed 7 S hsel rfl rfl (by kernel_rfl) (by kernel_rfl) rfl (fun _=>(Hs (S.tm rfl) rfl)) ?_;clear S;intro a S
       obtain ⟨b9,hg9,hr9⟩:=Fj (a:=a) (x:=.tmp 42) (y:=.tmp 44) (ty:=0) Eo An.enc_ok S (i:=0) rfl (Ct hc3).1 (Ct hc3).2 (S.tm rfl) (S.tm rfl)
       refine Ed 8 S hsel rfl rfl (by kernel_rfl) (by kernel_rfl) rfl (fun _=>(hr9 _)) ?_;clear S;intro a S
       clear hr9
       refine Co 9 S hsel rfl (by kernel_rfl) (by kernel_rfl) (by kernel_rfl) (by kernel_rfl) rfl (fun _ hw=>(Ey isAgg35 sizeOf35 (off:=((W (x4 - 1)).toNat) * 8) (o:=0) (part:=(An.enc (nth x3 (W (x4 - 1))))) rfl rfl (S.tm rfl) ((Jh An.enc_ok S (i:=0) rfl hg9 (Ct hc3).1 (Ge (e':=.own Ab 35 8 x3.length (x3.flatMap An.enc)))).kept hw))) fun a S=>Ed 10 S hsel rfl rfl (by kernel_rfl) (by kernel_rfl) rfl (fun _=>(Rm (S.tm rfl))) fun a S=>Ed 11 S hsel rfl rfl (by kernel_rfl) (by kernel_rfl) rfl (fun _=>(Rm (S.tm rfl))) ?_;clear S;intro a S
       obtain ⟨b10,hg10,hr10⟩:=Fj (a:=a) (x:=.tmp 47) (y:=.tmp 48) (ty:=0) Eo An.enc_ok S (i:=0) rfl (Ct hc4).1 (Ct hc4).2 (S.tm rfl) (S.tm rfl)
       refine Ed 12 S hsel rfl rfl (by kernel_rfl) (by kernel_rfl) rfl (fun _=>(hr10 _)) ?_;clear S;intro a S
       clear hr10
       refine Co 13 S hsel rfl (by kernel_rfl) (by kernel_rfl) (by kernel_rfl) (by kernel_rfl) rfl (fun _ hw=>(Ey isAgg35 sizeOf35 (off:=x4.toNat * 8) (o:=0) (part:=(An.enc (nth x3 x4))) rfl rfl (S.tm rfl) ((Jh An.enc_ok S (i:=0) rfl hg10 (Ct hc4).1 (Ge (e':=.own Ab 35 8 x3.length (x3.flatMap An.enc)))).kept hw))) ?_;clear S;intro a S
       obtain ⟨b11,hg11,hr11⟩:=Fj (a:=a) (x:=.tmp 37) (y:=.tmp 38) (ty:=0) Eo An.enc_ok S (i:=0) rfl (Ct hc5).1 (Ct hc5).2 (S.tm rfl) (S.tm rfl)
       refine Ed 14 S hsel rfl rfl (by kernel_rfl) (by kernel_rfl) rfl (fun _=>(hr11 _)) ?_;clear S;intro a S
       clear hr11
       refine Me 15 (Ab.ownBlock.toList) rfl (by kernel_rfl) rfl (Ia (c:=0) (j:=x4.toNat) (nth x3 (W (x4 - 1))) An.enc_ok S (S.tm rfl) (S.tm rfl) (i:=0) rfl hg11 (Ct hc5).1 sizeOf35 (vs:=[iV ((nth x3 (W (x4 - 1))).At),iV ((nth x3 (W (x4 - 1))).Kind),sV ((nth x3 (W (x4 - 1))).Id),sV ((nth x3 (W (x4 - 1))).Who),sV ((nth x3 (W (x4 - 1))).Club),sV ((nth x3 (W (x4 - 1))).Race),iV ((nth x3 (W (x4 - 1))).Age),iV ((nth x3 (W (x4 - 1))).Time)]) rfl rfl rfl rfl rfl ?_);clear S;intro w16 hk11 S
       refine Ld (Mf ?_)
       obtain ⟨b12,hg12,hr12⟩:=Fj (a:=a) (x:=.tmp 39) (y:=.tmp 41) (ty:=0) Eo An.enc_ok S (i:=0) rfl (Ct hc6).1 (Ct hc6).2 (S.tm rfl) (S.tm rfl)
       refine Co 16 S hsel rfl rfl rfl (by kernel_rfl) (by kernel_rfl) rfl (fun _ hw=>(hr12 _)) ?_;clear S;intro a S
       clear hr12
       refine Ea 17 (by kernel_rfl) rfl (Ia (c:=0) (j:=(W (x4 - 1)).toNat) (nth x3 x4) An.enc_ok S (S.tm rfl) (S.tm rfl) (i:=0) rfl hg12 (Ct hc6).1 sizeOf35 (vs:=[iV ((nth x3 x4).At),iV ((nth x3 x4).Kind),sV ((nth x3 x4).Id),sV ((nth x3 x4).Who),sV ((nth x3 x4).Club),sV ((nth x3 x4).Race),iV ((nth x3 x4).Age),iV ((nth x3 x4).Time)]) rfl rfl rfl rfl rfl ?_);clear S;intro w18 hk13 S
       refine Ld (Ej hk13 (Pj (by kernel_rfl) ?_))
       clear hsel
       replace S:=(S.nl [.own Ab 35 8 ((x3.set x4.toNat (nth x3 (W (x4 - 1)))).set ((W (x4 - 1)).toNat) (nth x3 x4)).length (((x3.set x4.toNat (nth x3 (W (x4 - 1)))).set ((W (x4 - 1)).toNat) (nth x3 x4)).flatMap An.enc)] [true] rfl).k6 0 1 2 3 8 9 rfl
       exact Hj (Tn (Fg (Vm S rfl rfl fun a S=>Vq S Hs rfl rfl rfl fun a S=>Va S rfl rfl fun a S=>Dl (⟨m2,⟨((x3.set x4.toNat (nth x3 (W (x4 - 1)))).set ((W (x4 - 1)).toNat) (nth x3 x4)),W (x4 - 1),h,S.nf [true] rfl ⟨rfl,rfl,rfl,rfl,rfl,rfl,trivial⟩⟩,Nat.lt_succ_self _⟩))))
      ·exact wp_exit (Eb (Eb (Gj (Tn (⟨x3,h,S.nf [true] rfl (subR rfl)⟩)))))
    clear S h;rintro a w4 ⟨x3,h,S⟩;rw [hj2] at h;clear hj2 j2
    exact Hj (Tn (Fg (Vm S rfl rfl fun a S=>Vq S Ew rfl rfl rfl fun a S=>Va S rfl rfl fun a S=>Dl (⟨m1,⟨x3,W (x2 + 1),h,S.nf [true] rfl ⟨rfl,rfl,rfl,rfl,rfl,trivial⟩⟩,Nat.lt_succ_self _⟩))))
   ·exact wp_exit (Eb (Eb (Gj (Tn (⟨x1,h,S.nf [true] rfl trivial⟩)))))
 clear S h;rintro a w2 ⟨x1,h,S⟩;rw [hj1] at h;clear hj1 j1
 obtain rfl:=Option.some.inj h
 exact Se S results70 ⟨(S.holds _ (List.mem_of_getElem? (i:=0) rfl)),rfl⟩
theorem Gu (w : World) (Ab : Value) (Ad : List An) (Bb : (LEnt.own Ab 35 8 Ad.length (Ad.flatMap An.enc)).holds w) (Ag : Int) (Ah : Int) (Ar : Int) (r : (List An)) (h : Dv Ad Ag Ah Ar = some r) :
    Calls prog 105 [Ab,iV Ag,iV Ah,iV Ar,.func (.func 33) #[] #[]].toArray w (Ret w (Ab.ownBlock.toList) fun _ v w'=>(LEnt.own Ab 35 8 r.length (r.flatMap An.enc)).holds w' ∧ v = .tuple #[]):=by
 refine Ju (Ab.ownBlock.toList) [.own Ab 35 8 Ad.length (Ad.flatMap An.enc)] func105 rfl ntmps105 rfl (fun e he=>by simp only [List.mem_singleton] at he;subst he;exact Bb) (Kj _) (Lp _) fun a S=>?_
 unfold Dv at h
 replace S:=(S.nl [.own Ab 35 8 Ad.length (Ad.flatMap An.enc)] [true] rfl).k4 0 1 2 3 rfl
 refine Fr (Vk S rfl rfl fun a S=>Dl ?_)
 replace S:=S.k5 0 1 2 3 10 rfl
 obtain ⟨j1,hj1,h⟩:=Dt h
 refine Dj (fun a w'=>∃ x1 : List An,j1 x1 = some r ∧ Sx w (Ab.ownBlock.toList) nov [.own Ab 35 8 x1.length (x1.flatMap An.enc)] [] 38 a w') ?_ ?_
 ·refine wp_block (Gt (fun (m1 : Nat) a w'=>∃ x1 : List An,∃ x2 : Int,Cx Ar Ah Ag j1 m1 x1 x2 = some r ∧ Sx w (Ab.ownBlock.toList) nov [.own Ab 35 8 x1.length (x1.flatMap An.enc)] [(0,Ab),(1,iV Ag),(2,iV Ah),(3,iV Ar),(10,iV x2)] 38 a w') id ((Ar - 0).toNat + 2) ⟨Ad,0,h,S.nf [true] rfl (subR rfl)⟩ ?_)
  clear S h;rintro m1 a w1 ⟨x1,x2,h,S⟩
  cases m1 with
  | zero=>rw [Cx.eq_1] at h;cases h
  | succ m1 =>
   rw [Cx.eq_2] at h
   refine Fs (Fr (Vm S rfl rfl fun a S=>Vm S rfl rfl fun a S=>Vb S Ee rfl rfl rfl fun a S=>Dl (Fc h (S.tm rfl) (fun hb1 h=>?_) (fun hb1 h=>?_))))
   ·refine wp_skip (Tn (Fs (wp_block ?_)))
    obtain ⟨hc1,h⟩:=Gz h
    obtain ⟨hc2,h⟩:=Gz h
    obtain ⟨hc3,h⟩:=Gz h
    obtain ⟨hc4,h⟩:=Gz h
    refine Fi [21,23] ([]) Tryz.mixed S rfl (by kernel_rfl) ?_;clear S;intro w7 hk5 hsel S
    refine Ed 0 S hsel rfl rfl (by kernel_rfl) (by kernel_rfl) rfl (fun _=>(Rm (S.tm rfl))) fun a S=>Ed 1 S hsel rfl rfl (by kernel_rfl) (by kernel_rfl) rfl (fun _=>(Rm (S.tm rfl))) fun a S=>Ed 2 S hsel rfl rfl (by kernel_rfl) (by kernel_rfl) rfl (fun _=>(Rm (S.tm rfl))) fun a S=>Ed 3 S hsel rfl rfl (by kernel_rfl) (by kernel_rfl) rfl (fun _=>(Ew (S.tm rfl) (S.tm rfl))) fun a S=>Ed 4 S hsel rfl rfl (by kernel_rfl) (by kernel_rfl) rfl (fun _=>(Rm (S.tm rfl))) fun a S=>Ed 5 S hsel rfl rfl (by kernel_rfl) (by kernel_rfl) rfl (fun _=>(Rm (S.tm rfl))) fun a S=>Ed 6 S hsel rfl rfl (by kernel_rfl) (by kernel_rfl) rfl (fun _=>(Rm (S.tm rfl))) fun a S=>Ed 7 S hsel rfl rfl (by kernel_rfl) (by kernel_rfl) rfl (fun _=>(Ew (S.tm rfl) (S.tm rfl))) fun a S=>Ed 8 S hsel rfl rfl (by kernel_rfl) (by kernel_rfl) rfl (fun _=>(Rm (S.tm rfl))) fun a S=>Ed 9 S hsel rfl rfl (by kernel_rfl) (by kernel_rfl) rfl (fun _=>(Rm (S.tm rfl))) fun a S=>Ed 10 S hsel rfl rfl (by kernel_rfl) (by kernel_rfl) rfl (fun _=>(Rm (S.tm rfl))) ?_;clear S;intro a S
    refine Ed 11 S hsel rfl rfl (by kernel_rfl) (by kernel_rfl) rfl (fun _=>(Ew (S.tm rfl) (S.tm rfl))) ?_;clear S;intro a S
    obtain ⟨b5,hg5,hr5⟩:=Fj (a:=a) (x:=.tmp 24) (y:=.tmp 27) (ty:=0) Eo An.enc_ok S (i:=0) rfl (Ct hc1).1 (Ct hc1).2 (S.tm rfl) (S.tm rfl)
    refine Ed 12 S hsel rfl rfl (by kernel_rfl) (by kernel_rfl) rfl (fun _=>(hr5 _)) ?_;clear S;intro a S
    clear hr5
    refine Co 13 S hsel rfl (by kernel_rfl) (by kernel_rfl) (by kernel_rfl) (by kernel_rfl) rfl (fun _ hw=>(Ey isAgg35 sizeOf35 (off:=((W (Ah + x2)).toNat) * 8) (o:=0) (part:=(An.enc (nth x1 (W (Ah + x2))))) rfl rfl (S.tm rfl) ((Jh An.enc_ok S (i:=0) rfl hg5 (Ct hc1).1 (Ge (e':=.own Ab 35 8 x1.length (x1.flatMap An.enc)))).kept hw))) fun a S=>Ed 14 S hsel rfl rfl (by kernel_rfl) (by kernel_rfl) rfl (fun _=>(Rm (S.tm rfl))) fun a S=>Ed 15 S hsel rfl rfl (by kernel_rfl) (by kernel_rfl) rfl (fun _=>(Rm (S.tm rfl))) fun a S=>Ed 16 S hsel rfl rfl (by kernel_rfl) (by kernel_rfl) rfl (fun _=>(Rm (S.tm rfl))) fun a S=>Ed 17 S hsel rfl rfl (by kernel_rfl) (by kernel_rfl) rfl (fun _=>(Ew (S.tm rfl) (S.tm rfl))) ?_;clear S;intro a S
    obtain ⟨b6,hg6,hr6⟩:=Fj (a:=a) (x:=.tmp 30) (y:=.tmp 33) (ty:=0) Eo An.enc_ok S (i:=0) rfl (Ct hc2).1 (Ct hc2).2 (S.tm rfl) (S.tm rfl)
    refine Ed 18 S hsel rfl rfl (by kernel_rfl) (by kernel_rfl) rfl (fun _=>(hr6 _)) ?_;clear S;intro a S
    clear hr6
    refine Co 19 S hsel rfl (by kernel_rfl) (by kernel_rfl) (by kernel_rfl) (by kernel_rfl) rfl (fun _ hw=>(Ey isAgg35 sizeOf35 (off:=((W (Ag + x2)).toNat) * 8) (o:=0) (part:=(An.enc (nth x1 (W (Ag + x2))))) rfl rfl (S.tm rfl) ((Jh An.enc_ok S (i:=0) rfl hg6 (Ct hc2).1 (Ge (e':=.own Ab 35 8 x1.length (x1.flatMap An.enc)))).kept hw))) ?_;clear S;intro a S
    obtain ⟨b7,hg7,hr7⟩:=Fj (a:=a) (x:=.tmp 16) (y:=.tmp 19) (ty:=0) Eo An.enc_ok S (i:=0) rfl (Ct hc3).1 (Ct hc3).2 (S.tm rfl) (S.tm rfl)
    refine Ed 20 S hsel rfl rfl (by kernel_rfl) (by kernel_rfl) rfl (fun _=>(hr7 _)) ?_;clear S;intro a S
    clear hr7
    refine Me 21 (Ab.ownBlock.toList) rfl (by kernel_rfl) rfl (Ia (c:=0) (j:=(W (Ag + x2)).toNat) (nth x1 (W (Ah + x2))) An.enc_ok S (S.tm rfl) (S.tm rfl) (i:=0) rfl hg7 (Ct hc3).1 sizeOf35 (vs:=[iV ((nth x1 (W (Ah + x2))).At),iV ((nth x1 (W (Ah + x2))).Kind),sV ((nth x1 (W (Ah + x2))).Id),sV ((nth x1 (W (Ah + x2))).Who),sV ((nth x1 (W (Ah + x2))).Club),sV ((nth x1 (W (Ah + x2))).Race),iV ((nth x1 (W (Ah + x2))).Age),iV ((nth x1 (W (Ah + x2))).Time)]) rfl rfl rfl rfl rfl ?_);clear S;intro w9 hk7 S
    refine Ld (Mf ?_)
    obtain ⟨b8,hg8,hr8⟩:=Fj (a:=a) (x:=.tmp 20) (y:=.tmp 23) (ty:=0) Eo An.enc_ok S (i:=0) rfl (Ct hc4).1 (Ct hc4).2 (S.tm rfl) (S.tm rfl)
    refine Co 22 S hsel rfl rfl rfl (by kernel_rfl) (by kernel_rfl) rfl (fun _ hw=>(hr8 _)) ?_;clear S;intro a S
    clear hr8
    refine Ea 23 (by kernel_rfl) rfl (Ia (c:=0) (j:=(W (Ah + x2)).toNat) (nth x1 (W (Ag + x2))) An.enc_ok S (S.tm rfl) (S.tm rfl) (i:=0) rfl hg8 (Ct hc4).1 sizeOf35 (vs:=[iV ((nth x1 (W (Ag + x2))).At),iV ((nth x1 (W (Ag + x2))).Kind),sV ((nth x1 (W (Ag + x2))).Id),sV ((nth x1 (W (Ag + x2))).Who),sV ((nth x1 (W (Ag + x2))).Club),sV ((nth x1 (W (Ag + x2))).Race),iV ((nth x1 (W (Ag + x2))).Age),iV ((nth x1 (W (Ag + x2))).Time)]) rfl rfl rfl rfl rfl ?_);clear S;intro w11 hk9 S
    refine Ld (Ej hk9 (Pj (by kernel_rfl) ?_))
    clear hsel
    replace S:=(S.nl [.own Ab 35 8 ((x1.set ((W (Ag + x2)).toNat) (nth x1 (W (Ah + x2)))).set ((W (Ah + x2)).toNat) (nth x1 (W (Ag + x2)))).length (((x1.set ((W (Ag + x2)).toNat) (nth x1 (W (Ah + x2)))).set ((W (Ah + x2)).toNat) (nth x1 (W (Ag + x2)))).flatMap An.enc)] [true] rfl).k5 0 1 2 3 10 rfl
    exact Hj (Tn (Fg (Vm S rfl rfl fun a S=>Vq S Ew rfl rfl rfl fun a S=>Va S rfl rfl fun a S=>Dl (⟨m1,⟨((x1.set ((W (Ag + x2)).toNat) (nth x1 (W (Ah + x2)))).set ((W (Ah + x2)).toNat) (nth x1 (W (Ag + x2)))),W (x2 + 1),h,S.nf [true] rfl ⟨rfl,rfl,rfl,rfl,rfl,trivial⟩⟩,Nat.lt_succ_self _⟩))))
   ·exact wp_exit (Eb (Eb (Gj (Tn (⟨x1,h,S.nf [true] rfl trivial⟩)))))
 clear S h;rintro a w2 ⟨x1,h,S⟩;rw [hj1] at h;clear hj1 j1
 obtain rfl:=Option.some.inj h
 exact Se S results105 ⟨(S.holds _ (List.mem_of_getElem? (i:=0) rfl)),rfl⟩
theorem Lb (w : World) (Ab : Value) (Ad : List An) (Bb : (LEnt.own Ab 35 8 Ad.length (Ad.flatMap An.enc)).holds w) (Ag : Int) (Ao : Int) (Ah : Int) (r : (List An)) (h : Ek Ad Ag Ao Ah = some r) :
    Calls prog 92 [Ab,iV Ag,iV Ao,iV Ah,.func (.func 33) #[] #[]].toArray w (Ret w (Ab.ownBlock.toList) fun _ v w'=>(LEnt.own Ab 35 8 r.length (r.flatMap An.enc)).holds w' ∧ v = .tuple #[]):=by
 refine Ju (Ab.ownBlock.toList) [.own Ab 35 8 Ad.length (Ad.flatMap An.enc)] func92 rfl ntmps92 rfl (fun e he=>by simp only [List.mem_singleton] at he;subst he;exact Bb) (Kj _) (Lp _) fun a S=>?_
 unfold Ek at h
 replace S:=(S.nl [.own Ab 35 8 Ad.length (Ad.flatMap An.enc)] [true] rfl).k5 0 1 2 3 4 rfl
 refine Fr (Vm S rfl rfl fun a S=>Vm S rfl rfl fun a S=>Vb S Hs rfl rfl rfl fun a S=>Va S rfl rfl fun a S=>Dz (Vm S rfl rfl ?_));clear S;intro a S
 refine Vm S rfl rfl fun a S=>Vb S Hs rfl rfl rfl fun a S=>Va S rfl rfl fun a S=>Dl (Fs ?_)
 replace S:=S.k5 0 2 4 10 11 rfl
 obtain ⟨j1,hj1,h⟩:=Dt h
 refine Dj (fun a w'=>∃ x1 : List An,∃ x2 : Int,j1 x1 x2 = some r ∧ Sx w (Ab.ownBlock.toList) nov [.own Ab 35 8 x1.length (x1.flatMap An.enc)] [(0,Ab),(2,iV Ao),(4,.func (.func 33) #[] #[]),(10,iV x2)] 58 a w') ?_ ?_
 ·refine wp_block (Gt (fun (m1 : Nat) a w'=>∃ x1 : List An,∃ x2 : Int,∃ x3 : Int,Dg Ao j1 m1 x1 x2 x3 = some r ∧ Sx w (Ab.ownBlock.toList) nov [.own Ab 35 8 x1.length (x1.flatMap An.enc)] [(0,Ab),(2,iV Ao),(4,.func (.func 33) #[] #[]),(10,iV x2),(11,iV x3)] 58 a w') id 4611686018427387904 ⟨Ad,W (Ao - Ag),W (Ah - Ao),h,S.nf [true] rfl (subR rfl)⟩ ?_)
  clear S h;rintro m1 a w1 ⟨x1,x2,x3,h,S⟩
  cases m1 with
  | zero=>rw [Dg.eq_1] at h;cases h
  | succ m1 =>
   rw [Dg.eq_2] at h
   refine Fs (Fr (Vm S rfl rfl fun a S=>Vm S rfl rfl fun a S=>Vb S Kg rfl rfl rfl fun a S=>Dl (Fc h (S.tm rfl) (fun hb1 h=>?_) (fun hb1 h=>?_))))
   ·refine wp_skip (Tn ?_)
    obtain ⟨j2,hj2,h⟩:=Dt h
    refine Dj (fun a w'=>∃ x4 : List An,∃ x5 : Int,∃ x6 : Int,j2 x4 x5 x6 = some r ∧ Sx w (Ab.ownBlock.toList) nov [.own Ab 35 8 x4.length (x4.flatMap An.enc)] [(0,Ab),(2,iV Ao),(4,.func (.func 33) #[] #[]),(10,iV x5),(11,iV x6)] 58 a w') ?_ ?_
    ·refine wp_block (Fr (Vm S rfl rfl fun a S=>Vm S rfl rfl fun a S=>Vb S Ix rfl rfl rfl fun a S=>Dl ?_))
     obtain ⟨j3,hj3,h⟩:=Dt h
     refine Dj (fun a w'=>∃ x7 : List An,∃ x8 : Int,∃ x9 : Int,j3 x7 x8 x9 = some r ∧ Sx w (Ab.ownBlock.toList) nov [.own Ab 35 8 x7.length (x7.flatMap An.enc)] [(0,Ab),(2,iV Ao),(4,.func (.func 33) #[] #[]),(10,iV x8),(11,iV x9)] 58 a w') ?_ ?_
     ·refine Fc h (S.tm rfl) (fun hb2 h=>?_) (fun hb2 h=>?_)
      ·refine Fs (Fg ?_)
       iterate 3 (refine Vm S rfl rfl ?_;clear S;intro a S)
       refine Vb S Hs rfl rfl rfl ?_;clear S;intro a S
       iterate 3 (refine Vm S rfl rfl ?_;clear S;intro a S)
       obtain ⟨r1,hr1,h⟩:=Eh h
       refine Ke 0 S rfl (fun _=>.own Ab 35 8 r1.length (r1.flatMap An.enc)) (fun _=>Ck (vs:=[Ab,iV (W (Ao - x2)),iV Ao,iV x3,.func (.func 33) #[] #[]]) ⟨(S.tm rfl),(S.tm rfl),(S.tm rfl),(S.tm rfl),(S.tm rfl),trivial⟩ call105) (Gu _ Ab x1 (S.holds _ (List.mem_of_getElem? (i:=0) rfl)) (W (Ao - x2)) Ao x3 _ hr1) rfl (fun _ _ _ h=>⟨h.1,fun _ hc=>hc⟩) ?_;clear S;intro v1 a w5 hv1 hk1 hn1 S
       replace hv1:=hv1.2
       subst hv1
       refine Ld ?_
       replace S:=(S.nl [.own Ab 35 8 r1.length (r1.flatMap An.enc)] [true] rfl).k5 0 2 4 10 11 rfl
       exact Tn (Fg (Vm S rfl rfl fun a S=>Vm S rfl rfl fun a S=>Vb S Hs rfl rfl rfl fun a S=>Va S rfl rfl fun a S=>Dl (⟨r1,W (x2 - x3),x3,h,S.nf [true] rfl (subR rfl)⟩)))
      ·refine Fs (Fg ?_)
       iterate 3 (refine Vm S rfl rfl ?_;clear S;intro a S)
       refine Vb S Hs rfl rfl rfl fun a S=>Vm S rfl rfl fun a S=>Vm S rfl rfl fun a S=>Vb S Ew rfl rfl rfl fun a S=>Vm S rfl rfl fun a S=>Vb S Hs rfl rfl rfl fun a S=>Vm S rfl rfl fun a S=>Vm S rfl rfl ?_;clear S;intro a S
       obtain ⟨r2,hr2,h⟩:=Eh h
       refine Ke 0 S rfl (fun _=>.own Ab 35 8 r2.length (r2.flatMap An.enc)) (fun _=>Ck (vs:=[Ab,iV (W (Ao - x2)),iV (W ((W (Ao + x3)) - x2)),iV x2,.func (.func 33) #[] #[]]) ⟨(S.tm rfl),(S.tm rfl),(S.tm rfl),(S.tm rfl),(S.tm rfl),trivial⟩ call105) (Gu _ Ab x1 (S.holds _ (List.mem_of_getElem? (i:=0) rfl)) (W (Ao - x2)) (W ((W (Ao + x3)) - x2)) x2 _ hr2) rfl (fun _ _ _ h=>⟨h.1,fun _ hc=>hc⟩) ?_;clear S;intro v2 a w6 hv2 hk2 hn2 S
       replace hv2:=hv2.2
       subst hv2
       refine Ld ?_
       replace S:=(S.nl [.own Ab 35 8 r2.length (r2.flatMap An.enc)] [true] rfl).k5 0 2 4 10 11 rfl
       exact Tn (Fg (Vm S rfl rfl fun a S=>Vm S rfl rfl fun a S=>Vb S Hs rfl rfl rfl fun a S=>Va S rfl rfl fun a S=>Dl (⟨r2,x2,W (x3 - x2),h,S.nf [true] rfl (subR rfl)⟩)))
     clear S h;rintro a w4 ⟨x7,x8,x9,h,S⟩;rw [hj3] at h;clear hj3 j3
     exact Hj (Tn (⟨x7,x8,x9,h,S.nf [true] rfl (subR rfl)⟩))
    clear S h;rintro a w3 ⟨x4,x5,x6,h,S⟩;rw [hj2] at h;clear hj2 j2
    exact Tn (⟨m1,⟨x4,x5,x6,h,S.nf [true] rfl ⟨rfl,rfl,rfl,rfl,rfl,trivial⟩⟩,Nat.lt_succ_self _⟩)
   ·exact wp_exit (Eb (Eb (Gj (Tn (⟨x1,x2,h,S.nf [true] rfl (subR rfl)⟩)))))
 clear S h;rintro a w2 ⟨x1,x2,h,S⟩;rw [hj1] at h;clear hj1 j1
 refine Tn (Fg ?_)
 iterate 3 (refine Vm S rfl rfl ?_;clear S;intro a S)
 refine Vb S Hs rfl rfl rfl ?_;clear S;intro a S
 iterate 3 (refine Vm S rfl rfl ?_;clear S;intro a S)
 obtain ⟨r3,hr3,h⟩:=Eh h
 refine Ke 0 S rfl (fun _=>.own Ab 35 8 r3.length (r3.flatMap An.enc)) (fun _=>Ck (vs:=[Ab,iV (W (Ao - x2)),iV Ao,iV x2,.func (.func 33) #[] #[]]) ⟨(S.tm rfl),(S.tm rfl),(S.tm rfl),(S.tm rfl),(S.tm rfl),trivial⟩ call105) (Gu _ Ab x1 (S.holds _ (List.mem_of_getElem? (i:=0) rfl)) (W (Ao - x2)) Ao x2 _ hr3) rfl (fun _ _ _ h=>⟨h.1,fun _ hc=>hc⟩) ?_;clear S;intro v3 a w7 hv3 hk3 hn3 S
 replace hv3:=hv3.2
 subst hv3
 refine Ld ?_
 obtain rfl:=Option.some.inj h
 exact Se S results92 ⟨(S.holds _ (List.mem_of_getElem? (i:=0) rfl)),rfl⟩
set_option maxRecDepth 20000 in
theorem Kn (self : (List An) → Int → Int → Int → Option (List An)) (hself : ∀ (w : World) (Ab : Value) (Ad : List An) (_ : (LEnt.own Ab 35 8 Ad.length (Ad.flatMap An.enc)).holds w) (Ag : Int) (Ao : Int) (Ah : Int) (r : (List An)) (_ : self Ad Ag Ao Ah = some r),
    Calls prog 71 [Ab,iV Ag,iV Ao,iV Ah,.func (.func 33) #[] #[]].toArray w (Ret w (Ab.ownBlock.toList) fun _ v w'=>(LEnt.own Ab 35 8 r.length (r.flatMap An.enc)).holds w' ∧ v = .tuple #[])) (w : World) (Ab : Value) (Ad : List An) (Bb : (LEnt.own Ab 35 8 Ad.length (Ad.flatMap An.enc)).holds w) (Ag : Int) (Ao : Int) (Ah : Int) (r : (List An)) (h : Ds self Ad Ag Ao Ah = some r) :
    Calls prog 71 [Ab,iV Ag,iV Ao,iV Ah,.func (.func 33) #[] #[]].toArray w (Ret w (Ab.ownBlock.toList) fun _ v w'=>(LEnt.own Ab 35 8 r.length (r.flatMap An.enc)).holds w' ∧ v = .tuple #[]):=by
 refine Ju (Ab.ownBlock.toList) [.own Ab 35 8 Ad.length (Ad.flatMap An.enc)] func71 rfl ntmps71 rfl (fun e he=>by simp only [List.mem_singleton] at he;subst he;exact Bb) (Kj _) (Lp _) fun a S=>?_
 unfold Ds at h
 replace S:=(S.nl [.own Ab 35 8 Ad.length (Ad.flatMap An.enc)] [true] rfl).k5 0 1 2 3 4 rfl
 refine Fs (Fr (Vm S rfl rfl fun a S=>Vm S rfl rfl fun a S=>Vb S Hs rfl rfl rfl fun a S=>Vq S Ip rfl rfl rfl fun a S=>Dl (Fc h (S.tm rfl) (fun hb1 h=>?_) (fun hb1 h=>?_))))
 ·refine Fr (Vm S rfl rfl fun a S=>Va S rfl rfl fun a S=>Dz (Vm S rfl rfl fun a S=>Va S rfl rfl fun a S=>Ld ?_))
  refine Tn (Fs ?_)
  replace S:=S.k5 0 1 4 10 11 rfl
  obtain ⟨j1,hj1,h⟩:=Dt h
  refine Dj (fun a w'=>∃ x1 : Int,j1 x1 = some r ∧ Sx w (Ab.ownBlock.toList) nov [.own Ab 35 8 Ad.length (Ad.flatMap An.enc)] [(0,Ab),(1,iV Ag),(10,iV x1)] 220 a w') ?_ ?_
  ·refine wp_block (Gt (fun (m1 : Nat) a w'=>∃ x1 : Int,∃ x2 : Int,Cz Ad Ag j1 m1 x1 x2 = some r ∧ Sx w (Ab.ownBlock.toList) nov [.own Ab 35 8 Ad.length (Ad.flatMap An.enc)] [(0,Ab),(1,iV Ag),(4,.func (.func 33) #[] #[]),(10,iV x1),(11,iV x2)] 220 a w') id ((Ah - Ao).toNat + 2) ⟨Ao,Ah,h,S.nf [true] rfl (subR rfl)⟩ ?_)
   clear S h;rintro m1 a w1 ⟨x1,x2,h,S⟩
   cases m1 with
   | zero=>rw [Cz.eq_1] at h;cases h
   | succ m1 =>
    rw [Cz.eq_2] at h
    refine Fs (Fr (Vm S rfl rfl fun a S=>Vm S rfl rfl fun a S=>Vb S Ee rfl rfl rfl fun a S=>Dl (Fc h (S.tm rfl) (fun hb2 h=>?_) (fun hb2 h=>?_))))
    ·refine wp_skip (Tn ?_)
     obtain ⟨j2,hj2,h⟩:=Dt h
     refine Dj (fun a w'=>∃ x3 : Int,∃ x4 : Int,j2 x3 x4 = some r ∧ Sx w (Ab.ownBlock.toList) nov [.own Ab 35 8 Ad.length (Ad.flatMap An.enc)] [(0,Ab),(1,iV Ag),(4,.func (.func 33) #[] #[]),(10,iV x3),(11,iV x4)] 220 a w') ?_ ?_
     ·refine wp_block (Fr (Vm S rfl rfl fun a S=>Vm S rfl rfl fun a S=>Vb S Ew rfl rfl rfl fun a S=>Vu S (Ol underlying3 underlying86) rfl rfl fun a S=>lv S (Wh (S.tm rfl) rfl (by decide)) rfl fun a S=>Vu S (Ol underlying86 underlying3) rfl rfl fun a S=>Va S rfl rfl fun a S=>Ld ?_))
      replace S:=S.k6 0 1 4 10 11 12 rfl
      refine Tn (Fs ?_)
      obtain ⟨hc1,h⟩:=Gz h
      obtain ⟨hc2,h⟩:=Gz h
      refine Fi [] ([]) Tryz.mixed S rfl (by kernel_rfl) ?_;clear S;intro w5 hk2 hsel S
      refine Co 0 S hsel rfl rfl rfl (by kernel_rfl) (by kernel_rfl) rfl (fun _ hw=>(Rm (S.tm rfl))) fun a S=>Co 1 S hsel rfl rfl rfl (by kernel_rfl) (by kernel_rfl) rfl (fun _ hw=>(Rm (S.tm rfl))) fun a S=>Co 2 S hsel rfl rfl rfl (by kernel_rfl) (by kernel_rfl) rfl (fun _ hw=>(Rm (S.tm rfl))) ?_;clear S;intro a S
      obtain ⟨b3,hg3,hr3⟩:=Fj (a:=a) (x:=.tmp 41) (y:=.tmp 42) (ty:=0) Eo An.enc_ok S (i:=0) rfl (Ct hc1).1 (Ct hc1).2 (S.tm rfl) (S.tm rfl)
      refine Co 3 S hsel rfl rfl rfl (by kernel_rfl) (by kernel_rfl) rfl (fun _ hw=>(hr3 _)) ?_;clear S;intro a S
      clear hr3
      refine Co 4 S hsel rfl rfl rfl (by kernel_rfl) (by kernel_rfl) rfl (fun _ hw=>(Ey isAgg35 sizeOf35 (off:=((W (Di .u64 (IntKind.wrap .u64 (W (x1 + x2))) 1)).toNat) * 8) (o:=0) (part:=(An.enc (nth Ad (W (Di .u64 (IntKind.wrap .u64 (W (x1 + x2))) 1))))) rfl rfl (S.tm rfl) ((Jh An.enc_ok S (i:=0) rfl hg3 (Ct hc1).1 (Ge (e':=.own Ab 35 8 Ad.length (Ad.flatMap An.enc)))).kept hw))) fun a S=>Co 5 S hsel rfl rfl rfl (by kernel_rfl) (by kernel_rfl) rfl (fun _ hw=>(Rm (S.tm rfl))) fun a S=>Co 6 S hsel rfl rfl rfl (by kernel_rfl) (by kernel_rfl) rfl (fun _ hw=>(Rm (S.tm rfl))) ?_;clear S;intro a S
      obtain ⟨b4,hg4,hr4⟩:=Fj (a:=a) (x:=.tmp 45) (y:=.tmp 46) (ty:=0) Eo An.enc_ok S (i:=0) rfl (Ct hc2).1 (Ct hc2).2 (S.tm rfl) (S.tm rfl)
      refine Co 7 S hsel rfl rfl rfl (by kernel_rfl) (by kernel_rfl) rfl (fun _ hw=>(hr4 _)) ?_;clear S;intro a S
      clear hr4
      refine Co 8 S hsel rfl rfl rfl (by kernel_rfl) (by kernel_rfl) rfl (fun _ hw=>(Ey isAgg35 sizeOf35 (off:=Ag.toNat * 8) (o:=0) (part:=(An.enc (nth Ad Ag))) rfl rfl (S.tm rfl) ((Jh An.enc_ok S (i:=0) rfl hg4 (Ct hc2).1 (Ge (e':=.own Ab 35 8 Ad.length (Ad.flatMap An.enc)))).kept hw))) fun a S=>Ea 9 (by kernel_rfl) rfl (Cy S (fun _=>Nj (cap:=[]) (S.tm rfl) (vs:=[.agg (An.enc (nth Ad (W (Di .u64 (IntKind.wrap .u64 (W (x1 + x2))) 1)))).toArray,.agg (An.enc (nth Ad Ag)).toArray]) ⟨(S.tm rfl),(S.tm rfl),trivial⟩ call33) (Hz _ (nth Ad (W (Di .u64 (IntKind.wrap .u64 (W (x1 + x2))) 1))) (nth Ad Ag) _ rfl) rfl ?_);clear S;intro v2 a w6 hv2 hk3 hn2 S
      subst hv2
      refine Ld (Ej hk3 (Iy [10] hsel (by kernel_rfl) rfl ?_))
      clear hsel
      refine Fb S rfl (Ee (S.tm rfl) rfl) rfl fun a S=>Ik ?_
      replace S:=S.k7 0 1 4 10 11 12 50 rfl
      refine Tn ?_
      obtain ⟨j3,hj3,h⟩:=Dt h
      refine Dj (fun a w'=>∃ x5 : Int,∃ x6 : Int,j3 x5 x6 = some r ∧ Sx w (Ab.ownBlock.toList) nov [.own Ab 35 8 Ad.length (Ad.flatMap An.enc)] [(0,Ab),(1,iV Ag),(4,.func (.func 33) #[] #[]),(10,iV x5),(11,iV x6)] 220 a w') ?_ ?_
      ·refine Fc h (S.tm rfl) (fun hb3 h=>?_) (fun hb3 h=>?_)
       ·exact Fg (Vm S rfl rfl fun a S=>Vq S Ew rfl rfl rfl fun a S=>Va S rfl rfl fun a S=>Dl (⟨W ((W (Di .u64 (IntKind.wrap .u64 (W (x1 + x2))) 1)) + 1),x2,h,S.nf [true] rfl (subR rfl)⟩))
       ·exact Fg (Vm S rfl rfl fun a S=>Va S rfl rfl fun a S=>Dl (⟨x1,W (Di .u64 (IntKind.wrap .u64 (W (x1 + x2))) 1),h,S.nf [true] rfl (subR rfl)⟩))
      clear S h;rintro a w7 ⟨x5,x6,h,S⟩;rw [hj3] at h;clear hj3 j3
      exact Hj (Tn (⟨x5,x6,h,S.nf [true] rfl (subR rfl)⟩))
     clear S h;rintro a w3 ⟨x3,x4,h,S⟩;rw [hj2] at h;clear hj2 j2
     exact Tn (⟨m1,⟨x3,x4,h,S.nf [true] rfl ⟨rfl,rfl,rfl,rfl,rfl,trivial⟩⟩,Nat.lt_succ_self _⟩)
    ·exact wp_exit (Eb (Eb (Gj (Tn (⟨x1,h,S.nf [true] rfl (subR rfl)⟩)))))
  clear S h;rintro a w2 ⟨x1,h,S⟩;rw [hj1] at h;clear hj1 j1
  refine Tn (Fs (Fr (Vm S rfl rfl fun a S=>Va S rfl rfl fun a S=>Dl ?_)))
  replace S:=S.k3 0 10 13 rfl
  obtain ⟨j4,hj4,h⟩:=Dt h
  refine Dj (fun a w'=>∃ x7 : List An,j4 x7 = some r ∧ Sx w (Ab.ownBlock.toList) nov [.own Ab 35 8 x7.length (x7.flatMap An.enc)] [] 220 a w') ?_ ?_
  ·refine wp_block (Gt (fun (m2 : Nat) a w'=>∃ x7 : List An,∃ x8 : Int,Cu x1 j4 m2 x7 x8 = some r ∧ Sx w (Ab.ownBlock.toList) nov [.own Ab 35 8 x7.length (x7.flatMap An.enc)] [(0,Ab),(10,iV x1),(13,iV x8)] 220 a w') id (((W (x1 - 1)) - Ag).toNat + 2) ⟨Ad,Ag,h,S.nf [true] rfl (subR rfl)⟩ ?_)
   clear S h;rintro m2 a w8 ⟨x7,x8,h,S⟩
   cases m2 with
   | zero=>rw [Cu.eq_1] at h;cases h
   | succ m2 =>
    rw [Cu.eq_2] at h
    refine Fs (Fr (Vm S rfl rfl fun a S=>Vm S rfl rfl fun a S=>Vq S Hs rfl rfl rfl fun a S=>Vb S Ee rfl rfl rfl fun a S=>Dl (Fc h (S.tm rfl) (fun hb4 h=>?_) (fun hb4 h=>?_))))
    ·refine wp_skip (Tn (Fs (wp_block ?_)))
     obtain ⟨hc3,h⟩:=Gz h
     obtain ⟨hc4,h⟩:=Gz h
     obtain ⟨hc5,h⟩:=Gz h
     obtain ⟨hc6,h⟩:=Gz h
     refine Fi [15,17] ([]) Tryz.mixed S rfl (by kernel_rfl) ?_;clear S;intro w14 hk8 hsel S
     refine Ed 0 S hsel rfl rfl (by kernel_rfl) (by kernel_rfl) rfl (fun _=>(Rm (S.tm rfl))) fun a S=>Ed 1 S hsel rfl rfl (by kernel_rfl) (by kernel_rfl) rfl (fun _=>(Rm (S.tm rfl))) fun a S=>Ed 2 S hsel rfl rfl (by kernel_rfl) (by kernel_rfl) rfl (fun _=>(Rm (S.tm rfl))) fun a S=>Ed 3 S hsel rfl rfl (by kernel_rfl) (by kernel_rfl) rfl (fun _=>(Rm (S.tm rfl))) fun a S=>Ed 4 S hsel rfl rfl (by kernel_rfl) (by kernel_rfl) rfl (fun _=>(Ew (S.tm rfl) rfl)) fun a S=>Ed 5 S hsel rfl rfl (by kernel_rfl) (by kernel_rfl) rfl (fun _=>(Rm (S.tm rfl))) fun a S=>Ed 6 S hsel rfl rfl (by kernel_rfl) (by kernel_rfl) rfl (fun _=>(Rm (S.tm rfl))) fun a S=>Ed 7 S hsel rfl rfl (by kernel_rfl) (by kernel_rfl) rfl (fun _=>(Ew (S.tm rfl) rfl)) ?_;clear S;intro a S
     obtain ⟨b9,hg9,hr9⟩:=Fj (a:=a) (x:=.tmp 66) (y:=.tmp 68) (ty:=0) Eo An.enc_ok S (i:=0) rfl (Ct hc3).1 (Ct hc3).2 (S.tm rfl) (S.tm rfl)
     refine Ed 8 S hsel rfl rfl (by kernel_rfl) (by kernel_rfl) rfl (fun _=>(hr9 _)) ?_;clear S;intro a S
     clear hr9
     refine Co 9 S hsel rfl (by kernel_rfl) (by kernel_rfl) (by kernel_rfl) (by kernel_rfl) rfl (fun _ hw=>(Ey isAgg35 sizeOf35 (off:=((W (x8 + 1)).toNat) * 8) (o:=0) (part:=(An.enc (nth x7 (W (x8 + 1))))) rfl rfl (S.tm rfl) ((Jh An.enc_ok S (i:=0) rfl hg9 (Ct hc3).1 (Ge (e':=.own Ab 35 8 x7.length (x7.flatMap An.enc)))).kept hw))) fun a S=>Ed 10 S hsel rfl rfl (by kernel_rfl) (by kernel_rfl) rfl (fun _=>(Rm (S.tm rfl))) fun a S=>Ed 11 S hsel rfl rfl (by kernel_rfl) (by kernel_rfl) rfl (fun _=>(Rm (S.tm rfl))) ?_;clear S;intro a S
     obtain ⟨b10,hg10,hr10⟩:=Fj (a:=a) (x:=.tmp 71) (y:=.tmp 72) (ty:=0) Eo An.enc_ok S (i:=0) rfl (Ct hc4).1 (Ct hc4).2 (S.tm rfl) (S.tm rfl)
     refine Ed 12 S hsel rfl rfl (by kernel_rfl) (by kernel_rfl) rfl (fun _=>(hr10 _)) ?_;clear S;intro a S
     clear hr10
     refine Co 13 S hsel rfl (by kernel_rfl) (by kernel_rfl) (by kernel_rfl) (by kernel_rfl) rfl (fun _ hw=>(Ey isAgg35 sizeOf35 (off:=x8.toNat * 8) (o:=0) (part:=(An.enc (nth x7 x8))) rfl rfl (S.tm rfl) ((Jh An.enc_ok S (i:=0) rfl hg10 (Ct hc4).1 (Ge (e':=.own Ab 35 8 x7.length (x7.flatMap An.enc)))).kept hw))) ?_;clear S;intro a S
     obtain ⟨b11,hg11,hr11⟩:=Fj (a:=a) (x:=.tmp 61) (y:=.tmp 62) (ty:=0) Eo An.enc_ok S (i:=0) rfl (Ct hc5).1 (Ct hc5).2 (S.tm rfl) (S.tm rfl)
     refine Ed 14 S hsel rfl rfl (by kernel_rfl) (by kernel_rfl) rfl (fun _=>(hr11 _)) ?_;clear S;intro a S
     clear hr11
     refine Me 15 (Ab.ownBlock.toList) rfl (by kernel_rfl) rfl (Ia (c:=0) (j:=x8.toNat) (nth x7 (W (x8 + 1))) An.enc_ok S (S.tm rfl) (S.tm rfl) (i:=0) rfl hg11 (Ct hc5).1 sizeOf35 (vs:=[iV ((nth x7 (W (x8 + 1))).At),iV ((nth x7 (W (x8 + 1))).Kind),sV ((nth x7 (W (x8 + 1))).Id),sV ((nth x7 (W (x8 + 1))).Who),sV ((nth x7 (W (x8 + 1))).Club),sV ((nth x7 (W (x8 + 1))).Race),iV ((nth x7 (W (x8 + 1))).Age),iV ((nth x7 (W (x8 + 1))).Time)]) rfl rfl rfl rfl rfl ?_);clear S;intro w16 hk10 S
     refine Ld (Mf ?_)
     obtain ⟨b12,hg12,hr12⟩:=Fj (a:=a) (x:=.tmp 63) (y:=.tmp 65) (ty:=0) Eo An.enc_ok S (i:=0) rfl (Ct hc6).1 (Ct hc6).2 (S.tm rfl) (S.tm rfl)
     refine Co 16 S hsel rfl rfl rfl (by kernel_rfl) (by kernel_rfl) rfl (fun _ hw=>(hr12 _)) ?_;clear S;intro a S
     clear hr12
     refine Ea 17 (by kernel_rfl) rfl (Ia (c:=0) (j:=(W (x8 + 1)).toNat) (nth x7 x8) An.enc_ok S (S.tm rfl) (S.tm rfl) (i:=0) rfl hg12 (Ct hc6).1 sizeOf35 (vs:=[iV ((nth x7 x8).At),iV ((nth x7 x8).Kind),sV ((nth x7 x8).Id),sV ((nth x7 x8).Who),sV ((nth x7 x8).Club),sV ((nth x7 x8).Race),iV ((nth x7 x8).Age),iV ((nth x7 x8).Time)]) rfl rfl rfl rfl rfl ?_);clear S;intro w18 hk12 S
     refine Ld (Ej hk12 (Pj (by kernel_rfl) ?_))
     clear hsel
     replace S:=(S.nl [.own Ab 35 8 ((x7.set x8.toNat (nth x7 (W (x8 + 1)))).set ((W (x8 + 1)).toNat) (nth x7 x8)).length (((x7.set x8.toNat (nth x7 (W (x8 + 1)))).set ((W (x8 + 1)).toNat) (nth x7 x8)).flatMap An.enc)] [true] rfl).k3 0 10 13 rfl
     exact Hj (Tn (Fg (Vm S rfl rfl fun a S=>Vq S Ew rfl rfl rfl fun a S=>Va S rfl rfl fun a S=>Dl (⟨m2,⟨((x7.set x8.toNat (nth x7 (W (x8 + 1)))).set ((W (x8 + 1)).toNat) (nth x7 x8)),W (x8 + 1),h,S.nf [true] rfl ⟨rfl,rfl,rfl,trivial⟩⟩,Nat.lt_succ_self _⟩))))
    ·exact wp_exit (Eb (Eb (Gj (Tn (⟨x7,h,S.nf [true] rfl trivial⟩)))))
  clear S h;rintro a w9 ⟨x7,h,S⟩;rw [hj4] at h;clear hj4 j4
  refine Tn (wp_ret (Cn ?_))
  obtain rfl:=Option.some.inj h
  exact Se S results71 ⟨(S.holds _ (List.mem_of_getElem? (i:=0) rfl)),rfl⟩
 ·refine wp_skip (Tn (Fs (Fr (Vm S rfl rfl fun a S=>Vm S rfl rfl fun a S=>Vb S Hs rfl rfl rfl fun a S=>Vq S Ip rfl rfl rfl fun a S=>Dl ?_))))
  refine Fc h (S.tm rfl) (fun hb5 h=>?_) (fun hb5 h=>?_)
  ·refine Fr (Vm S rfl rfl fun a S=>Va S rfl rfl fun a S=>Ld ?_)
   replace S:=S.k4 0 2 4 14 rfl
   refine Tn (Fr (Vm S rfl rfl fun a S=>Va S rfl rfl fun a S=>Dl (Fs ?_)))
   replace S:=S.k5 0 2 4 14 15 rfl
   obtain ⟨j5,hj5,h⟩:=Dt h
   refine Dj (fun a w'=>∃ x9 : Int,j5 x9 = some r ∧ Sx w (Ab.ownBlock.toList) nov [.own Ab 35 8 Ad.length (Ad.flatMap An.enc)] [(0,Ab),(2,iV Ao),(14,iV x9)] 220 a w') ?_ ?_
   ·refine wp_block (Gt (fun (m3 : Nat) a w'=>∃ x9 : Int,∃ x10 : Int,Da Ao Ad j5 m3 x9 x10 = some r ∧ Sx w (Ab.ownBlock.toList) nov [.own Ab 35 8 Ad.length (Ad.flatMap An.enc)] [(0,Ab),(2,iV Ao),(4,.func (.func 33) #[] #[]),(14,iV x9),(15,iV x10)] 220 a w') id ((Ao - Ag).toNat + 2) ⟨Ag,Ao,h,S.nf [true] rfl (subR rfl)⟩ ?_)
    clear S h;rintro m3 a w19 ⟨x9,x10,h,S⟩
    cases m3 with
    | zero=>rw [Da.eq_1] at h;cases h
    | succ m3 =>
     rw [Da.eq_2] at h
     refine Fs (Fr (Vm S rfl rfl fun a S=>Vm S rfl rfl fun a S=>Vb S Ee rfl rfl rfl fun a S=>Dl (Fc h (S.tm rfl) (fun hb6 h=>?_) (fun hb6 h=>?_))))
     ·refine wp_skip (Tn ?_)
      obtain ⟨j6,hj6,h⟩:=Dt h
      refine Dj (fun a w'=>∃ x11 : Int,∃ x12 : Int,j6 x11 x12 = some r ∧ Sx w (Ab.ownBlock.toList) nov [.own Ab 35 8 Ad.length (Ad.flatMap An.enc)] [(0,Ab),(2,iV Ao),(4,.func (.func 33) #[] #[]),(14,iV x11),(15,iV x12)] 220 a w') ?_ ?_
      ·refine wp_block (Fr (Vm S rfl rfl fun a S=>Vm S rfl rfl fun a S=>Vb S Ew rfl rfl rfl fun a S=>Vu S (Ol underlying3 underlying86) rfl rfl fun a S=>lv S (Wh (S.tm rfl) rfl (by decide)) rfl fun a S=>Vu S (Ol underlying86 underlying3) rfl rfl fun a S=>Va S rfl rfl fun a S=>Ld ?_))
       replace S:=S.k6 0 2 4 14 15 16 rfl
       refine Tn (Fs ?_)
       obtain ⟨hc7,h⟩:=Gz h
       obtain ⟨hc8,h⟩:=Gz h
       refine Fi [] ([]) Tryz.mixed S rfl (by kernel_rfl) ?_;clear S;intro w23 hk14 hsel S
       refine Co 0 S hsel rfl rfl rfl (by kernel_rfl) (by kernel_rfl) rfl (fun _ hw=>(Rm (S.tm rfl))) fun a S=>Co 1 S hsel rfl rfl rfl (by kernel_rfl) (by kernel_rfl) rfl (fun _ hw=>(Rm (S.tm rfl))) fun a S=>Co 2 S hsel rfl rfl rfl (by kernel_rfl) (by kernel_rfl) rfl (fun _ hw=>(Rm (S.tm rfl))) ?_;clear S;intro a S
       obtain ⟨b15,hg15,hr15⟩:=Fj (a:=a) (x:=.tmp 93) (y:=.tmp 94) (ty:=0) Eo An.enc_ok S (i:=0) rfl (Ct hc7).1 (Ct hc7).2 (S.tm rfl) (S.tm rfl)
       refine Co 3 S hsel rfl rfl rfl (by kernel_rfl) (by kernel_rfl) rfl (fun _ hw=>(hr15 _)) ?_;clear S;intro a S
       clear hr15
       refine Co 4 S hsel rfl rfl rfl (by kernel_rfl) (by kernel_rfl) rfl (fun _ hw=>(Ey isAgg35 sizeOf35 (off:=Ao.toNat * 8) (o:=0) (part:=(An.enc (nth Ad Ao))) rfl rfl (S.tm rfl) ((Jh An.enc_ok S (i:=0) rfl hg15 (Ct hc7).1 (Ge (e':=.own Ab 35 8 Ad.length (Ad.flatMap An.enc)))).kept hw))) fun a S=>Co 5 S hsel rfl rfl rfl (by kernel_rfl) (by kernel_rfl) rfl (fun _ hw=>(Rm (S.tm rfl))) fun a S=>Co 6 S hsel rfl rfl rfl (by kernel_rfl) (by kernel_rfl) rfl (fun _ hw=>(Rm (S.tm rfl))) ?_;clear S;intro a S
       obtain ⟨b16,hg16,hr16⟩:=Fj (a:=a) (x:=.tmp 97) (y:=.tmp 98) (ty:=0) Eo An.enc_ok S (i:=0) rfl (Ct hc8).1 (Ct hc8).2 (S.tm rfl) (S.tm rfl)
       refine Co 7 S hsel rfl rfl rfl (by kernel_rfl) (by kernel_rfl) rfl (fun _ hw=>(hr16 _)) ?_;clear S;intro a S
       clear hr16
       refine Co 8 S hsel rfl rfl rfl (by kernel_rfl) (by kernel_rfl) rfl (fun _ hw=>(Ey isAgg35 sizeOf35 (off:=((W (Di .u64 (IntKind.wrap .u64 (W (x9 + x10))) 1)).toNat) * 8) (o:=0) (part:=(An.enc (nth Ad (W (Di .u64 (IntKind.wrap .u64 (W (x9 + x10))) 1))))) rfl rfl (S.tm rfl) ((Jh An.enc_ok S (i:=0) rfl hg16 (Ct hc8).1 (Ge (e':=.own Ab 35 8 Ad.length (Ad.flatMap An.enc)))).kept hw))) fun a S=>Ea 9 (by kernel_rfl) rfl (Cy S (fun _=>Nj (cap:=[]) (S.tm rfl) (vs:=[.agg (An.enc (nth Ad Ao)).toArray,.agg (An.enc (nth Ad (W (Di .u64 (IntKind.wrap .u64 (W (x9 + x10))) 1)))).toArray]) ⟨(S.tm rfl),(S.tm rfl),trivial⟩ call33) (Hz _ (nth Ad Ao) (nth Ad (W (Di .u64 (IntKind.wrap .u64 (W (x9 + x10))) 1))) _ rfl) rfl ?_);clear S;intro v4 a w24 hv4 hk15 hn4 S
       subst hv4
       refine Ld (Ej hk15 (Iy [10,11] hsel (by kernel_rfl) rfl ?_))
       clear hsel
       refine Fb S rfl (Ee (S.tm rfl) rfl) rfl fun a S=>Fb S rfl (Ih (S.tm rfl)) rfl fun a S=>Ik ?_
       replace S:=S.k7 0 2 4 14 15 16 103 rfl
       refine Tn ?_
       obtain ⟨j7,hj7,h⟩:=Dt h
       refine Dj (fun a w'=>∃ x13 : Int,∃ x14 : Int,j7 x13 x14 = some r ∧ Sx w (Ab.ownBlock.toList) nov [.own Ab 35 8 Ad.length (Ad.flatMap An.enc)] [(0,Ab),(2,iV Ao),(4,.func (.func 33) #[] #[]),(14,iV x13),(15,iV x14)] 220 a w') ?_ ?_
       ·refine Fc h (S.tm rfl) (fun hb7 h=>?_) (fun hb7 h=>?_)
        ·exact Fg (Vm S rfl rfl fun a S=>Vq S Ew rfl rfl rfl fun a S=>Va S rfl rfl fun a S=>Dl (⟨W ((W (Di .u64 (IntKind.wrap .u64 (W (x9 + x10))) 1)) + 1),x10,h,S.nf [true] rfl (subR rfl)⟩))
        ·exact Fg (Vm S rfl rfl fun a S=>Va S rfl rfl fun a S=>Dl (⟨x9,W (Di .u64 (IntKind.wrap .u64 (W (x9 + x10))) 1),h,S.nf [true] rfl (subR rfl)⟩))
       clear S h;rintro a w25 ⟨x13,x14,h,S⟩;rw [hj7] at h;clear hj7 j7
       exact Hj (Tn (⟨x13,x14,h,S.nf [true] rfl (subR rfl)⟩))
      clear S h;rintro a w21 ⟨x11,x12,h,S⟩;rw [hj6] at h;clear hj6 j6
      exact Tn (⟨m3,⟨x11,x12,h,S.nf [true] rfl ⟨rfl,rfl,rfl,rfl,rfl,trivial⟩⟩,Nat.lt_succ_self _⟩)
     ·exact wp_exit (Eb (Eb (Gj (Tn (⟨x9,h,S.nf [true] rfl (subR rfl)⟩)))))
   clear S h;rintro a w20 ⟨x9,h,S⟩;rw [hj5] at h;clear hj5 j5
   refine Tn (Fs (Fr (Vm S rfl rfl fun a S=>Va S rfl rfl fun a S=>Dl ?_)))
   replace S:=S.k3 0 14 17 rfl
   obtain ⟨j8,hj8,h⟩:=Dt h
   refine Dj (fun a w'=>∃ x15 : List An,j8 x15 = some r ∧ Sx w (Ab.ownBlock.toList) nov [.own Ab 35 8 x15.length (x15.flatMap An.enc)] [] 220 a w') ?_ ?_
   ·refine wp_block (Gt (fun (m4 : Nat) a w'=>∃ x15 : List An,∃ x16 : Int,Cv x9 j8 m4 x15 x16 = some r ∧ Sx w (Ab.ownBlock.toList) nov [.own Ab 35 8 x15.length (x15.flatMap An.enc)] [(0,Ab),(14,iV x9),(17,iV x16)] 220 a w') id ((Ao - x9).toNat + 2) ⟨Ad,Ao,h,S.nf [true] rfl (subR rfl)⟩ ?_)
    clear S h;rintro m4 a w26 ⟨x15,x16,h,S⟩
    cases m4 with
    | zero=>rw [Cv.eq_1] at h;cases h
    | succ m4 =>
     rw [Cv.eq_2] at h
     refine Fs (Fr (Vm S rfl rfl fun a S=>Vm S rfl rfl fun a S=>Vb S Ix rfl rfl rfl fun a S=>Dl (Fc h (S.tm rfl) (fun hb8 h=>?_) (fun hb8 h=>?_))))
     ·refine wp_skip (Tn (Fs (wp_block ?_)))
      obtain ⟨hc9,h⟩:=Gz h
      obtain ⟨hc10,h⟩:=Gz h
      obtain ⟨hc11,h⟩:=Gz h
      obtain ⟨hc12,h⟩:=Gz h
      refine Fi [15,17] ([]) Tryz.mixed S rfl (by kernel_rfl) ?_;clear S;intro w32 hk20 hsel S
      refine Ed 0 S hsel rfl rfl (by kernel_rfl) (by kernel_rfl) rfl (fun _=>(Rm (S.tm rfl))) fun a S=>Ed 1 S hsel rfl rfl (by kernel_rfl) (by kernel_rfl) rfl (fun _=>(Rm (S.tm rfl))) fun a S=>Ed 2 S hsel rfl rfl (by kernel_rfl) (by kernel_rfl) rfl (fun _=>(Rm (S.tm rfl))) fun a S=>Ed 3 S hsel rfl rfl (by kernel_rfl) (by kernel_rfl) rfl (fun _=>(Rm (S.tm rfl))) fun a S=>Ed 4 S hsel rfl rfl (by kernel_rfl) (by kernel_rfl) rfl (fun _=>(Hs (S.tm rfl) rfl)) fun a S=>Ed 5 S hsel rfl rfl (by kernel_rfl) (by kernel_rfl) rfl (fun _=>(Rm (S.tm rfl))) fun a S=>Ed 6 S hsel rfl rfl (by kernel_rfl) (by kernel_rfl) rfl (fun _=>(Rm (S.tm rfl))) fun a S=>Ed 7 S hsel rfl rfl (by kernel_rfl) (by kernel_rfl) rfl (fun _=>(Hs (S.tm rfl) rfl)) ?_;clear S;intro a S
      obtain ⟨b21,hg21,hr21⟩:=Fj (a:=a) (x:=.tmp 118) (y:=.tmp 120) (ty:=0) Eo An.enc_ok S (i:=0) rfl (Ct hc9).1 (Ct hc9).2 (S.tm rfl) (S.tm rfl)
      refine Ed 8 S hsel rfl rfl (by kernel_rfl) (by kernel_rfl) rfl (fun _=>(hr21 _)) ?_;clear S;intro a S
      clear hr21
      refine Co 9 S hsel rfl (by kernel_rfl) (by kernel_rfl) (by kernel_rfl) (by kernel_rfl) rfl (fun _ hw=>(Ey isAgg35 sizeOf35 (off:=((W (x16 - 1)).toNat) * 8) (o:=0) (part:=(An.enc (nth x15 (W (x16 - 1))))) rfl rfl (S.tm rfl) ((Jh An.enc_ok S (i:=0) rfl hg21 (Ct hc9).1 (Ge (e':=.own Ab 35 8 x15.length (x15.flatMap An.enc)))).kept hw))) fun a S=>Ed 10 S hsel rfl rfl (by kernel_rfl) (by kernel_rfl) rfl (fun _=>(Rm (S.tm rfl))) fun a S=>Ed 11 S hsel rfl rfl (by kernel_rfl) (by kernel_rfl) rfl (fun _=>(Rm (S.tm rfl))) ?_;clear S;intro a S
      obtain ⟨b22,hg22,hr22⟩:=Fj (a:=a) (x:=.tmp 123) (y:=.tmp 124) (ty:=0) Eo An.enc_ok S (i:=0) rfl (Ct hc10).1 (Ct hc10).2 (S.tm rfl) (S.tm rfl)
      refine Ed 12 S hsel rfl rfl (by kernel_rfl) (by kernel_rfl) rfl (fun _=>(hr22 _)) ?_;clear S;intro a S
      clear hr22
      refine Co 13 S hsel rfl (by kernel_rfl) (by kernel_rfl) (by kernel_rfl) (by kernel_rfl) rfl (fun _ hw=>(Ey isAgg35 sizeOf35 (off:=x16.toNat * 8) (o:=0) (part:=(An.enc (nth x15 x16))) rfl rfl (S.tm rfl) ((Jh An.enc_ok S (i:=0) rfl hg22 (Ct hc10).1 (Ge (e':=.own Ab 35 8 x15.length (x15.flatMap An.enc)))).kept hw))) ?_;clear S;intro a S
      obtain ⟨b23,hg23,hr23⟩:=Fj (a:=a) (x:=.tmp 113) (y:=.tmp 114) (ty:=0) Eo An.enc_ok S (i:=0) rfl (Ct hc11).1 (Ct hc11).2 (S.tm rfl) (S.tm rfl)
      refine Ed 14 S hsel rfl rfl (by kernel_rfl) (by kernel_rfl) rfl (fun _=>(hr23 _)) ?_;clear S;intro a S
      clear hr23
      refine Me 15 (Ab.ownBlock.toList) rfl (by kernel_rfl) rfl (Ia (c:=0) (j:=x16.toNat) (nth x15 (W (x16 - 1))) An.enc_ok S (S.tm rfl) (S.tm rfl) (i:=0) rfl hg23 (Ct hc11).1 sizeOf35 (vs:=[iV ((nth x15 (W (x16 - 1))).At),iV ((nth x15 (W (x16 - 1))).Kind),sV ((nth x15 (W (x16 - 1))).Id),sV ((nth x15 (W (x16 - 1))).Who),sV ((nth x15 (W (x16 - 1))).Club),sV ((nth x15 (W (x16 - 1))).Race),iV ((nth x15 (W (x16 - 1))).Age),iV ((nth x15 (W (x16 - 1))).Time)]) rfl rfl rfl rfl rfl ?_);clear S;intro w34 hk22 S
      refine Ld (Mf ?_)
      obtain ⟨b24,hg24,hr24⟩:=Fj (a:=a) (x:=.tmp 115) (y:=.tmp 117) (ty:=0) Eo An.enc_ok S (i:=0) rfl (Ct hc12).1 (Ct hc12).2 (S.tm rfl) (S.tm rfl)
      refine Co 16 S hsel rfl rfl rfl (by kernel_rfl) (by kernel_rfl) rfl (fun _ hw=>(hr24 _)) ?_;clear S;intro a S
      clear hr24
      refine Ea 17 (by kernel_rfl) rfl (Ia (c:=0) (j:=(W (x16 - 1)).toNat) (nth x15 x16) An.enc_ok S (S.tm rfl) (S.tm rfl) (i:=0) rfl hg24 (Ct hc12).1 sizeOf35 (vs:=[iV ((nth x15 x16).At),iV ((nth x15 x16).Kind),sV ((nth x15 x16).Id),sV ((nth x15 x16).Who),sV ((nth x15 x16).Club),sV ((nth x15 x16).Race),iV ((nth x15 x16).Age),iV ((nth x15 x16).Time)]) rfl rfl rfl rfl rfl ?_);clear S;intro w36 hk24 S
      refine Ld (Ej hk24 (Pj (by kernel_rfl) ?_))
      clear hsel
      replace S:=(S.nl [.own Ab 35 8 ((x15.set x16.toNat (nth x15 (W (x16 - 1)))).set ((W (x16 - 1)).toNat) (nth x15 x16)).length (((x15.set x16.toNat (nth x15 (W (x16 - 1)))).set ((W (x16 - 1)).toNat) (nth x15 x16)).flatMap An.enc)] [true] rfl).k3 0 14 17 rfl
      exact Hj (Tn (Fg (Vm S rfl rfl fun a S=>Vq S Hs rfl rfl rfl fun a S=>Va S rfl rfl fun a S=>Dl (⟨m4,⟨((x15.set x16.toNat (nth x15 (W (x16 - 1)))).set ((W (x16 - 1)).toNat) (nth x15 x16)),W (x16 - 1),h,S.nf [true] rfl ⟨rfl,rfl,rfl,trivial⟩⟩,Nat.lt_succ_self _⟩))))
     ·exact wp_exit (Eb (Eb (Gj (Tn (⟨x15,h,S.nf [true] rfl trivial⟩)))))
   clear S h;rintro a w27 ⟨x15,h,S⟩;rw [hj8] at h;clear hj8 j8
   refine Tn (wp_ret (Cn ?_))
   obtain rfl:=Option.some.inj h
   exact Se S results71 ⟨(S.holds _ (List.mem_of_getElem? (i:=0) rfl)),rfl⟩
  ·refine wp_skip (Tn (Fr (Vm S rfl rfl fun a S=>Vm S rfl rfl fun a S=>Vb S Ew rfl rfl rfl fun a S=>Vu S (Ol underlying3 underlying86) rfl rfl fun a S=>lv S (Wh (S.tm rfl) rfl (by decide)) rfl fun a S=>Vu S (Ol underlying86 underlying3) rfl rfl fun a S=>Va S rfl rfl ?_)));clear S;intro a S
   refine Ld ?_
   replace S:=S.k6 0 1 2 3 4 18 rfl
   refine Tn (Fr (Vm S rfl rfl fun a S=>Vm S rfl rfl fun a S=>Vb S Ew rfl rfl rfl fun a S=>Va S rfl rfl fun a S=>Dl (Fs (Fg ?_))))
   refine Vk S rfl rfl fun a S=>Vk S rfl rfl fun a S=>Dl (Fs (Fr (Vm S rfl rfl fun a S=>Vm S rfl rfl fun a S=>Vb S Ix rfl rfl rfl fun a S=>Ld ?_)))
   replace S:=S.k8 0 1 2 3 4 18 19 140 rfl
   refine Tn ?_
   obtain ⟨j9,hj9,h⟩:=Dt h
   refine Dj (fun a w'=>∃ x17 : Int,∃ x18 : Int,j9 x17 x18 = some r ∧ Sx w (Ab.ownBlock.toList) nov [.own Ab 35 8 Ad.length (Ad.flatMap An.enc)] [(0,Ab),(1,iV Ag),(2,iV Ao),(3,iV Ah),(4,.func (.func 33) #[] #[]),(18,iV (W (Di .u64 (IntKind.wrap .u64 (W (Ag + Ah))) 1))),(19,iV (W ((W (Di .u64 (IntKind.wrap .u64 (W (Ag + Ah))) 1)) + Ao))),(20,iV x17),(21,iV x18)] 220 a w') ?_ ?_
   ·refine Fc h (S.tm rfl) (fun hb9 h=>?_) (fun hb9 h=>?_)
    ·refine Fr (Vm S rfl rfl fun a S=>Vm S rfl rfl fun a S=>Vb S Hs rfl rfl rfl fun a S=>Va S rfl rfl fun a S=>Dl (Fg (Vm S rfl rfl fun a S=>Va S rfl rfl ?_)));clear S;intro a S
     exact Dl (⟨W ((W ((W (Di .u64 (IntKind.wrap .u64 (W (Ag + Ah))) 1)) + Ao)) - Ah),W (Di .u64 (IntKind.wrap .u64 (W (Ag + Ah))) 1),h,S.nf [true] rfl (subR rfl)⟩)
    ·refine Fr (Vm S rfl rfl fun a S=>Va S rfl rfl fun a S=>Dl (Fg (Vm S rfl rfl fun a S=>Va S rfl rfl fun a S=>Dl ?_)))
     exact ⟨Ag,Ao,h,S.nf [true] rfl (subR rfl)⟩
   clear S h;rintro a w37 ⟨x17,x18,h,S⟩;rw [hj9] at h;clear hj9 j9
   refine Tn (Fr (Vm S rfl rfl fun a S=>Vq S Hs rfl rfl rfl fun a S=>Va S rfl rfl fun a S=>Dl (Fs ?_)))
   replace S:=S.k10 0 1 2 3 4 18 19 20 21 22 rfl
   obtain ⟨j10,hj10,h⟩:=Dt h
   refine Dj (fun a w'=>∃ x19 : Int,j10 x19 = some r ∧ Sx w (Ab.ownBlock.toList) nov [.own Ab 35 8 Ad.length (Ad.flatMap An.enc)] [(0,Ab),(1,iV Ag),(2,iV Ao),(3,iV Ah),(4,.func (.func 33) #[] #[]),(18,iV (W (Di .u64 (IntKind.wrap .u64 (W (Ag + Ah))) 1))),(19,iV (W ((W (Di .u64 (IntKind.wrap .u64 (W (Ag + Ah))) 1)) + Ao))),(20,iV x19)] 220 a w') ?_ ?_
   ·refine wp_block (Gt (fun (m5 : Nat) a w'=>∃ x19 : Int,∃ x20 : Int,Cw Ag Ah Ao Ad j10 m5 x19 x20 = some r ∧ Sx w (Ab.ownBlock.toList) nov [.own Ab 35 8 Ad.length (Ad.flatMap An.enc)] [(0,Ab),(1,iV Ag),(2,iV Ao),(3,iV Ah),(4,.func (.func 33) #[] #[]),(18,iV (W (Di .u64 (IntKind.wrap .u64 (W (Ag + Ah))) 1))),(19,iV (W ((W (Di .u64 (IntKind.wrap .u64 (W (Ag + Ah))) 1)) + Ao))),(20,iV x19),(21,iV x20),(22,iV (W ((W ((W (Di .u64 (IntKind.wrap .u64 (W (Ag + Ah))) 1)) + Ao)) - 1)))] 220 a w') id ((x18 - x17).toNat + 2) ⟨x17,x18,h,S.nf [true] rfl (subR rfl)⟩ ?_)
    clear S h;rintro m5 a w38 ⟨x19,x20,h,S⟩
    cases m5 with
    | zero=>rw [Cw.eq_1] at h;cases h
    | succ m5 =>
     rw [Cw.eq_2] at h
     refine Fs (Fr (Vm S rfl rfl fun a S=>Vm S rfl rfl fun a S=>Vb S Ee rfl rfl rfl fun a S=>Dl (Fc h (S.tm rfl) (fun hb10 h=>?_) (fun hb10 h=>?_))))
     ·refine wp_skip (Tn ?_)
      obtain ⟨j11,hj11,h⟩:=Dt h
      refine Dj (fun a w'=>∃ x21 : Int,∃ x22 : Int,j11 x21 x22 = some r ∧ Sx w (Ab.ownBlock.toList) nov [.own Ab 35 8 Ad.length (Ad.flatMap An.enc)] [(0,Ab),(1,iV Ag),(2,iV Ao),(3,iV Ah),(4,.func (.func 33) #[] #[]),(18,iV (W (Di .u64 (IntKind.wrap .u64 (W (Ag + Ah))) 1))),(19,iV (W ((W (Di .u64 (IntKind.wrap .u64 (W (Ag + Ah))) 1)) + Ao))),(20,iV x21),(21,iV x22),(22,iV (W ((W ((W (Di .u64 (IntKind.wrap .u64 (W (Ag + Ah))) 1)) + Ao)) - 1)))] 220 a w') ?_ ?_
      ·refine wp_block (Fr (Vm S rfl rfl fun a S=>Vm S rfl rfl fun a S=>Vb S Ew rfl rfl rfl fun a S=>Vu S (Ol underlying3 underlying86) rfl rfl fun a S=>lv S (Wh (S.tm rfl) rfl (by decide)) rfl fun a S=>Vu S (Ol underlying86 underlying3) rfl rfl fun a S=>Va S rfl rfl fun a S=>Ld ?_))
       replace S:=S.k11 0 1 2 3 4 18 19 20 21 22 23 rfl
       refine Tn (Fs ?_)
       obtain ⟨hc13,h⟩:=Gz h
       obtain ⟨hc14,h⟩:=Gz h
       refine Fi [] ([]) Tryz.mixed S rfl (by kernel_rfl) ?_;clear S;intro w42 hk26 hsel S
       refine Co 0 S hsel rfl rfl rfl (by kernel_rfl) (by kernel_rfl) rfl (fun _ hw=>(Rm (S.tm rfl))) fun a S=>Co 1 S hsel rfl rfl rfl (by kernel_rfl) (by kernel_rfl) rfl (fun _ hw=>(Rm (S.tm rfl))) fun a S=>Co 2 S hsel rfl rfl rfl (by kernel_rfl) (by kernel_rfl) rfl (fun _ hw=>(Rm (S.tm rfl))) fun a S=>Co 3 S hsel rfl rfl rfl (by kernel_rfl) (by kernel_rfl) rfl (fun _ hw=>(Rm (S.tm rfl))) fun a S=>Co 4 S hsel rfl rfl rfl (by kernel_rfl) (by kernel_rfl) rfl (fun _ hw=>(Hs (S.tm rfl) (S.tm rfl))) ?_;clear S;intro a S
       obtain ⟨b27,hg27,hr27⟩:=Fj (a:=a) (x:=.tmp 159) (y:=.tmp 162) (ty:=0) Eo An.enc_ok S (i:=0) rfl (Ct hc13).1 (Ct hc13).2 (S.tm rfl) (S.tm rfl)
       refine Co 5 S hsel rfl rfl rfl (by kernel_rfl) (by kernel_rfl) rfl (fun _ hw=>(hr27 _)) ?_;clear S;intro a S
       clear hr27
       refine Co 6 S hsel rfl rfl rfl (by kernel_rfl) (by kernel_rfl) rfl (fun _ hw=>(Ey isAgg35 sizeOf35 (off:=((W ((W ((W ((W (Di .u64 (IntKind.wrap .u64 (W (Ag + Ah))) 1)) + Ao)) - 1)) - (W (Di .u64 (IntKind.wrap .u64 (W (x19 + x20))) 1)))).toNat) * 8) (o:=0) (part:=(An.enc (nth Ad (W ((W ((W ((W (Di .u64 (IntKind.wrap .u64 (W (Ag + Ah))) 1)) + Ao)) - 1)) - (W (Di .u64 (IntKind.wrap .u64 (W (x19 + x20))) 1))))))) rfl rfl (S.tm rfl) ((Jh An.enc_ok S (i:=0) rfl hg27 (Ct hc13).1 (Ge (e':=.own Ab 35 8 Ad.length (Ad.flatMap An.enc)))).kept hw))) fun a S=>Co 7 S hsel rfl rfl rfl (by kernel_rfl) (by kernel_rfl) rfl (fun _ hw=>(Rm (S.tm rfl))) fun a S=>Co 8 S hsel rfl rfl rfl (by kernel_rfl) (by kernel_rfl) rfl (fun _ hw=>(Rm (S.tm rfl))) ?_;clear S;intro a S
       obtain ⟨b28,hg28,hr28⟩:=Fj (a:=a) (x:=.tmp 165) (y:=.tmp 166) (ty:=0) Eo An.enc_ok S (i:=0) rfl (Ct hc14).1 (Ct hc14).2 (S.tm rfl) (S.tm rfl)
       refine Co 9 S hsel rfl rfl rfl (by kernel_rfl) (by kernel_rfl) rfl (fun _ hw=>(hr28 _)) ?_;clear S;intro a S
       clear hr28
       refine Co 10 S hsel rfl rfl rfl (by kernel_rfl) (by kernel_rfl) rfl (fun _ hw=>(Ey isAgg35 sizeOf35 (off:=((W (Di .u64 (IntKind.wrap .u64 (W (x19 + x20))) 1)).toNat) * 8) (o:=0) (part:=(An.enc (nth Ad (W (Di .u64 (IntKind.wrap .u64 (W (x19 + x20))) 1))))) rfl rfl (S.tm rfl) ((Jh An.enc_ok S (i:=0) rfl hg28 (Ct hc14).1 (Ge (e':=.own Ab 35 8 Ad.length (Ad.flatMap An.enc)))).kept hw))) fun a S=>Ea 11 (by kernel_rfl) rfl (Cy S (fun _=>Nj (cap:=[]) (S.tm rfl) (vs:=[.agg (An.enc (nth Ad (W ((W ((W ((W (Di .u64 (IntKind.wrap .u64 (W (Ag + Ah))) 1)) + Ao)) - 1)) - (W (Di .u64 (IntKind.wrap .u64 (W (x19 + x20))) 1)))))).toArray,.agg (An.enc (nth Ad (W (Di .u64 (IntKind.wrap .u64 (W (x19 + x20))) 1)))).toArray]) ⟨(S.tm rfl),(S.tm rfl),trivial⟩ call33) (Hz _ (nth Ad (W ((W ((W ((W (Di .u64 (IntKind.wrap .u64 (W (Ag + Ah))) 1)) + Ao)) - 1)) - (W (Di .u64 (IntKind.wrap .u64 (W (x19 + x20))) 1))))) (nth Ad (W (Di .u64 (IntKind.wrap .u64 (W (x19 + x20))) 1))) _ rfl) rfl ?_);clear S;intro v6 a w43 hv6 hk27 hn6 S
       subst hv6
       refine Ld (Ej hk27 (Iy [12,13] hsel (by kernel_rfl) rfl ?_))
       clear hsel
       refine Fb S rfl (Ee (S.tm rfl) rfl) rfl fun a S=>Fb S rfl (Ih (S.tm rfl)) rfl fun a S=>Ik ?_
       replace S:=S.k12 0 1 2 3 4 18 19 20 21 22 23 171 rfl
       refine Tn ?_
       obtain ⟨j12,hj12,h⟩:=Dt h
       refine Dj (fun a w'=>∃ x23 : Int,∃ x24 : Int,j12 x23 x24 = some r ∧ Sx w (Ab.ownBlock.toList) nov [.own Ab 35 8 Ad.length (Ad.flatMap An.enc)] [(0,Ab),(1,iV Ag),(2,iV Ao),(3,iV Ah),(4,.func (.func 33) #[] #[]),(18,iV (W (Di .u64 (IntKind.wrap .u64 (W (Ag + Ah))) 1))),(19,iV (W ((W (Di .u64 (IntKind.wrap .u64 (W (Ag + Ah))) 1)) + Ao))),(20,iV x23),(21,iV x24),(22,iV (W ((W ((W (Di .u64 (IntKind.wrap .u64 (W (Ag + Ah))) 1)) + Ao)) - 1)))] 220 a w') ?_ ?_
       ·refine Fc h (S.tm rfl) (fun hb11 h=>?_) (fun hb11 h=>?_)
        ·exact Fg (Vm S rfl rfl fun a S=>Vq S Ew rfl rfl rfl fun a S=>Va S rfl rfl fun a S=>Dl (⟨W ((W (Di .u64 (IntKind.wrap .u64 (W (x19 + x20))) 1)) + 1),x20,h,S.nf [true] rfl (subR rfl)⟩))
        ·exact Fg (Vm S rfl rfl fun a S=>Va S rfl rfl fun a S=>Dl (⟨x19,W (Di .u64 (IntKind.wrap .u64 (W (x19 + x20))) 1),h,S.nf [true] rfl (subR rfl)⟩))
       clear S h;rintro a w44 ⟨x23,x24,h,S⟩;rw [hj12] at h;clear hj12 j12
       exact Hj (Tn (⟨x23,x24,h,S.nf [true] rfl (subR rfl)⟩))
      clear S h;rintro a w40 ⟨x21,x22,h,S⟩;rw [hj11] at h;clear hj11 j11
      exact Tn (⟨m5,⟨x21,x22,h,S.nf [true] rfl ⟨rfl,rfl,rfl,rfl,rfl,rfl,rfl,rfl,rfl,rfl,trivial⟩⟩,Nat.lt_succ_self _⟩)
     ·exact wp_exit (Eb (Eb (Gj (Tn (⟨x19,h,S.nf [true] rfl (subR rfl)⟩)))))
   clear S h;rintro a w39 ⟨x19,h,S⟩;rw [hj10] at h;clear hj10 j10
   refine Tn (Fr (Vm S rfl rfl fun a S=>Vm S rfl rfl fun a S=>Vb S Hs rfl rfl rfl fun a S=>Va S rfl rfl fun a S=>Dl (Fs (Fs ?_))))
   refine Fg (Vm S rfl rfl fun a S=>Vm S rfl rfl fun a S=>Vb S Ee rfl rfl rfl fun a S=>Vm S rfl rfl fun a S=>Gi 4 (fun a w'=>Keep [] w39 w' ∧ Sx w (Ab.ownBlock.toList) nov [.own Ab 35 8 Ad.length (Ad.flatMap An.enc)] [(0,Ab),(1,iV Ag),(2,iV Ao),(3,iV Ah),(4,.func (.func 33) #[] #[]),(18,iV (W (Di .u64 (IntKind.wrap .u64 (W (Ag + Ah))) 1))),(20,iV x19),(24,iV (W ((W ((W (Di .u64 (IntKind.wrap .u64 (W (Ag + Ah))) 1)) + Ao)) - x19))),(185,bV ((decide (x19 < Ao)) && (decide (Ao < (W ((W ((W (Di .u64 (IntKind.wrap .u64 (W (Ag + Ah))) 1)) + Ao)) - x19))))))] 220 a w') ?_ ?_)
   ·rcases Bool.eq_false_or_eq_true (decide (x19 < Ao)) with hb12 | hb12
    ·exact Cq S rfl rfl rfl hb12 (Vm S rfl rfl fun a S=>Cq S rfl rfl rfl hb12 (Vm S rfl rfl fun a S=>Cq S rfl rfl rfl hb12 (Vb S Ee rfl rfl rfl fun a S=>lv S (Gb hb12 (S.tm rfl) (S.tm rfl)) rfl fun a S=>Dl (⟨Keep.refl _ _,S.nf [true] rfl (subR rfl)⟩))))
    ·iterate 3 (refine Fl S rfl rfl rfl (Hq hb12) rfl ?_ rfl;clear S;intro a S)
     exact lv S (Gc (decide (Ao < (W ((W ((W (Di .u64 (IntKind.wrap .u64 (W (Ag + Ah))) 1)) + Ao)) - x19)))) hb12 (S.tm rfl) rfl) rfl fun a S=>Dl (⟨Keep.refl _ _,S.nf [true] rfl (subR rfl)⟩)
   clear S;rintro a w45 ⟨hk28,S⟩
   refine Dl ?_
   obtain ⟨j13,hj13,h⟩:=Dt h
   refine Dj (fun a w'=>∃ x25 : List An,j13 x25 = some r ∧ Sx w (Ab.ownBlock.toList) nov [.own Ab 35 8 x25.length (x25.flatMap An.enc)] [(0,Ab),(1,iV Ag),(3,iV Ah),(4,.func (.func 33) #[] #[]),(18,iV (W (Di .u64 (IntKind.wrap .u64 (W (Ag + Ah))) 1))),(20,iV x19),(24,iV (W ((W ((W (Di .u64 (IntKind.wrap .u64 (W (Ag + Ah))) 1)) + Ao)) - x19)))] 220 a w') ?_ ?_
   ·refine Fc h (S.tm rfl) (fun hb13 h=>?_) (fun hb13 h=>?_)
    ·refine Fg ?_
     iterate 5 (refine Vm S rfl rfl ?_;clear S;intro a S)
     obtain ⟨r1,hr29,h⟩:=Eh h
     refine Ke 0 S rfl (fun _=>.own Ab 35 8 r1.length (r1.flatMap An.enc)) (fun _=>Ck (vs:=[Ab,iV x19,iV Ao,iV (W ((W ((W (Di .u64 (IntKind.wrap .u64 (W (Ag + Ah))) 1)) + Ao)) - x19)),.func (.func 33) #[] #[]]) ⟨(S.tm rfl),(S.tm rfl),(S.tm rfl),(S.tm rfl),(S.tm rfl),trivial⟩ call92) (Lb _ Ab Ad (S.holds _ (List.mem_of_getElem? (i:=0) rfl)) x19 Ao (W ((W ((W (Di .u64 (IntKind.wrap .u64 (W (Ag + Ah))) 1)) + Ao)) - x19)) _ hr29) rfl (fun _ _ _ h=>⟨h.1,fun _ hc=>hc⟩) ?_;clear S;intro v7 a w47 hv7 hk29 hn7 S
     replace hv7:=hv7.2
     subst hv7
     refine Ld ?_
     replace S:=(S.nl [.own Ab 35 8 r1.length (r1.flatMap An.enc)] [true] rfl).k7 0 1 3 4 18 20 24 rfl
     exact Tn (⟨r1,h,S.nf [true] rfl (subR rfl)⟩)
    ·exact wp_skip (Tn (⟨Ad,h,S.nf [true] rfl (subR rfl)⟩))
   clear S h;rintro a w46 ⟨x25,h,S⟩;rw [hj13] at h;clear hj13 j13
   refine Tn (Fs (Fr (Vm S rfl rfl fun a S=>Vm S rfl rfl fun a S=>Vb S Ee rfl rfl rfl fun a S=>Vm S rfl rfl fun a S=>Gi 4 (fun a w'=>Keep [] w46 w' ∧ Sx w (Ab.ownBlock.toList) nov [.own Ab 35 8 x25.length (x25.flatMap An.enc)] [(0,Ab),(1,iV Ag),(3,iV Ah),(4,.func (.func 33) #[] #[]),(18,iV (W (Di .u64 (IntKind.wrap .u64 (W (Ag + Ah))) 1))),(20,iV x19),(24,iV (W ((W ((W (Di .u64 (IntKind.wrap .u64 (W (Ag + Ah))) 1)) + Ao)) - x19))),(199,bV ((decide (Ag < x19)) && (decide (x19 < (W (Di .u64 (IntKind.wrap .u64 (W (Ag + Ah))) 1))))))] 220 a w') ?_ ?_)))
   ·rcases Bool.eq_false_or_eq_true (decide (Ag < x19)) with hb14 | hb14
    ·exact Cq S rfl rfl rfl hb14 (Vm S rfl rfl fun a S=>Cq S rfl rfl rfl hb14 (Vm S rfl rfl fun a S=>Cq S rfl rfl rfl hb14 (Vb S Ee rfl rfl rfl fun a S=>lv S (Gb hb14 (S.tm rfl) (S.tm rfl)) rfl fun a S=>Dl (⟨Keep.refl _ _,S.nf [true] rfl (subR rfl)⟩))))
    ·iterate 3 (refine Fl S rfl rfl rfl (Hq hb14) rfl ?_ rfl;clear S;intro a S)
     exact lv S (Gc (decide (x19 < (W (Di .u64 (IntKind.wrap .u64 (W (Ag + Ah))) 1)))) hb14 (S.tm rfl) rfl) rfl fun a S=>Dl (⟨Keep.refl _ _,S.nf [true] rfl (subR rfl)⟩)
   clear S;rintro a w48 ⟨hk30,S⟩
   refine Dl ?_
   obtain ⟨j14,hj14,h⟩:=Dt h
   refine Dj (fun a w'=>∃ x26 : List An,j14 x26 = some r ∧ Sx w (Ab.ownBlock.toList) nov [.own Ab 35 8 x26.length (x26.flatMap An.enc)] [(0,Ab),(3,iV Ah),(4,.func (.func 33) #[] #[]),(18,iV (W (Di .u64 (IntKind.wrap .u64 (W (Ag + Ah))) 1))),(24,iV (W ((W ((W (Di .u64 (IntKind.wrap .u64 (W (Ag + Ah))) 1)) + Ao)) - x19)))] 220 a w') ?_ ?_
   ·refine Fc h (S.tm rfl) (fun hb15 h=>?_) (fun hb15 h=>?_)
    ·refine Fg ?_
     iterate 5 (refine Vm S rfl rfl ?_;clear S;intro a S)
     obtain ⟨r2,hr30,h⟩:=Eh h
     refine Ke 0 S rfl (fun _=>.own Ab 35 8 r2.length (r2.flatMap An.enc)) (fun _=>Ck (vs:=[Ab,iV Ag,iV x19,iV (W (Di .u64 (IntKind.wrap .u64 (W (Ag + Ah))) 1)),.func (.func 33) #[] #[]]) ⟨(S.tm rfl),(S.tm rfl),(S.tm rfl),(S.tm rfl),(S.tm rfl),trivial⟩ call71) (hself _ Ab x25 (S.holds _ (List.mem_of_getElem? (i:=0) rfl)) Ag x19 (W (Di .u64 (IntKind.wrap .u64 (W (Ag + Ah))) 1)) _ hr30) rfl (fun _ _ _ h=>⟨h.1,fun _ hc=>hc⟩) ?_;clear S;intro v8 a w50 hv8 hk31 hn8 S
     replace hv8:=hv8.2
     subst hv8
     exact Dl (⟨r2,h,S.nf [true] rfl (subR rfl)⟩)
    ·exact wp_skip (Tn (⟨x25,h,S.nf [true] rfl (subR rfl)⟩))
   clear S h;rintro a w49 ⟨x26,h,S⟩;rw [hj14] at h;clear hj14 j14
   refine Tn (Fr (Vm S rfl rfl fun a S=>Vm S rfl rfl fun a S=>Vb S Ee rfl rfl rfl fun a S=>Vm S rfl rfl fun a S=>Gi 4 (fun a w'=>Keep [] w49 w' ∧ Sx w (Ab.ownBlock.toList) nov [.own Ab 35 8 x26.length (x26.flatMap An.enc)] [(0,Ab),(3,iV Ah),(4,.func (.func 33) #[] #[]),(18,iV (W (Di .u64 (IntKind.wrap .u64 (W (Ag + Ah))) 1))),(24,iV (W ((W ((W (Di .u64 (IntKind.wrap .u64 (W (Ag + Ah))) 1)) + Ao)) - x19))),(213,bV ((decide ((W (Di .u64 (IntKind.wrap .u64 (W (Ag + Ah))) 1)) < (W ((W ((W (Di .u64 (IntKind.wrap .u64 (W (Ag + Ah))) 1)) + Ao)) - x19)))) && (decide ((W ((W ((W (Di .u64 (IntKind.wrap .u64 (W (Ag + Ah))) 1)) + Ao)) - x19)) < Ah))))] 220 a w') ?_ ?_))
   ·rcases Bool.eq_false_or_eq_true (decide ((W (Di .u64 (IntKind.wrap .u64 (W (Ag + Ah))) 1)) < (W ((W ((W (Di .u64 (IntKind.wrap .u64 (W (Ag + Ah))) 1)) + Ao)) - x19)))) with hb16 | hb16
    ·exact Cq S rfl rfl rfl hb16 (Vm S rfl rfl fun a S=>Cq S rfl rfl rfl hb16 (Vm S rfl rfl fun a S=>Cq S rfl rfl rfl hb16 (Vb S Ee rfl rfl rfl fun a S=>lv S (Gb hb16 (S.tm rfl) (S.tm rfl)) rfl fun a S=>Dl (⟨Keep.refl _ _,S.nf [true] rfl (subR rfl)⟩))))
    ·iterate 3 (refine Fl S rfl rfl rfl (Hq hb16) rfl ?_ rfl;clear S;intro a S)
     exact lv S (Gc (decide ((W ((W ((W (Di .u64 (IntKind.wrap .u64 (W (Ag + Ah))) 1)) + Ao)) - x19)) < Ah)) hb16 (S.tm rfl) rfl) rfl fun a S=>Dl (⟨Keep.refl _ _,S.nf [true] rfl (subR rfl)⟩)
   clear S;rintro a w51 ⟨hk32,S⟩
   refine Dl ?_
   obtain ⟨j15,hj15,h⟩:=Dt h
   refine Dj (fun a w'=>∃ x27 : List An,j15 x27 = some r ∧ Sx w (Ab.ownBlock.toList) nov [.own Ab 35 8 x27.length (x27.flatMap An.enc)] [] 220 a w') ?_ ?_
   ·refine Fc h (S.tm rfl) (fun hb17 h=>?_) (fun hb17 h=>?_)
    ·refine Fg ?_
     iterate 5 (refine Vm S rfl rfl ?_;clear S;intro a S)
     obtain ⟨r3,hr31,h⟩:=Eh h
     refine Ke 0 S rfl (fun _=>.own Ab 35 8 r3.length (r3.flatMap An.enc)) (fun _=>Ck (vs:=[Ab,iV (W (Di .u64 (IntKind.wrap .u64 (W (Ag + Ah))) 1)),iV (W ((W ((W (Di .u64 (IntKind.wrap .u64 (W (Ag + Ah))) 1)) + Ao)) - x19)),iV Ah,.func (.func 33) #[] #[]]) ⟨(S.tm rfl),(S.tm rfl),(S.tm rfl),(S.tm rfl),(S.tm rfl),trivial⟩ call71) (hself _ Ab x26 (S.holds _ (List.mem_of_getElem? (i:=0) rfl)) (W (Di .u64 (IntKind.wrap .u64 (W (Ag + Ah))) 1)) (W ((W ((W (Di .u64 (IntKind.wrap .u64 (W (Ag + Ah))) 1)) + Ao)) - x19)) Ah _ hr31) rfl (fun _ _ _ h=>⟨h.1,fun _ hc=>hc⟩) ?_;clear S;intro v9 a w53 hv9 hk33 hn9 S
     replace hv9:=hv9.2
     subst hv9
     exact Dl (⟨r3,h,S.nf [true] rfl trivial⟩)
    ·exact wp_skip (Tn (⟨x26,h,S.nf [true] rfl trivial⟩))
   clear S h;rintro a w52 ⟨x27,h,S⟩;rw [hj15] at h;clear hj15 j15
   obtain rfl:=Option.some.inj h
   exact Se S results71 ⟨(S.holds _ (List.mem_of_getElem? (i:=0) rfl)),rfl⟩
theorem Ij (m : Nat) : ∀ (w : World) (Ab : Value) (Ad : List An) (_ : (LEnt.own Ab 35 8 Ad.length (Ad.flatMap An.enc)).holds w) (Ag : Int) (Ao : Int) (Ah : Int) (r : (List An)) (_ : Cm m Ad Ag Ao Ah = some r),
    Calls prog 71 [Ab,iV Ag,iV Ao,iV Ah,.func (.func 33) #[] #[]].toArray w (Ret w (Ab.ownBlock.toList) fun _ v w'=>(LEnt.own Ab 35 8 r.length (r.flatMap An.enc)).holds w' ∧ v = .tuple #[]):=by
  induction m with
  | zero=>intros;rename_i h;rw [Cm] at h;cases h
  | succ m ih=>exact fun w Ab Ad Bb Ag Ao Ah r h=>Kn (Cm m) ih w Ab Ad Bb Ag Ao Ah r h
theorem Lc (w : World) (Ab : Value) (Ad : List An) (Bb : (LEnt.own Ab 35 8 Ad.length (Ad.flatMap An.enc)).holds w) (Ar : Int) (r : (List An)) (h : Fk Ad Ar = some r) :
    Calls prog 56 [Ab,iV Ar,.func (.func 33) #[] #[]].toArray w (Ret w (Ab.ownBlock.toList) fun _ v w'=>(LEnt.own Ab 35 8 r.length (r.flatMap An.enc)).holds w' ∧ v = .tuple #[]):=by
 refine Ju (Ab.ownBlock.toList) [.own Ab 35 8 Ad.length (Ad.flatMap An.enc)] func56 rfl ntmps56 rfl (fun e he=>by simp only [List.mem_singleton] at he;subst he;exact Bb) (Kj _) (Lp _) fun a S=>?_
 unfold Fk at h
 replace S:=(S.nl [.own Ab 35 8 Ad.length (Ad.flatMap An.enc)] [true] rfl).k3 0 1 2 rfl
 refine Fr (Vk S rfl rfl fun a S=>Dz (Vm S rfl rfl fun a S=>Vk S rfl rfl fun a S=>Va S rfl rfl fun a S=>Ld ?_))
 refine Tn (Fs ?_)
 replace S:=S.k6 0 1 2 6 7 8 rfl
 obtain ⟨j1,hj1,h⟩:=Dt h
 refine Dj (fun a w'=>∃ x1 : List An,∃ x2 : Int,j1 x1 x2 = some r ∧ Sx w (Ab.ownBlock.toList) nov [.own Ab 35 8 x1.length (x1.flatMap An.enc)] [(0,Ab),(1,iV Ar),(2,.func (.func 33) #[] #[]),(6,iV 20),(7,iV x2)] 63 a w') ?_ ?_
 ·refine wp_block (Gt (fun (m1 : Nat) a w'=>∃ x1 : List An,∃ x2 : Int,∃ x3 : Int,Db Ar j1 m1 x1 x2 x3 = some r ∧ Sx w (Ab.ownBlock.toList) nov [.own Ab 35 8 x1.length (x1.flatMap An.enc)] [(0,Ab),(1,iV Ar),(2,.func (.func 33) #[] #[]),(6,iV 20),(7,iV x2),(8,iV x3)] 63 a w') id ((Ar - 20).toNat + 2) ⟨Ad,0,20,h,S.nf [true] rfl (subR rfl)⟩ ?_)
  clear S h;rintro m1 a w1 ⟨x1,x2,x3,h,S⟩
  cases m1 with
  | zero=>rw [Db.eq_1] at h;cases h
  | succ m1 =>
   rw [Db.eq_2] at h
   refine Fs (Fr (Vm S rfl rfl fun a S=>Vm S rfl rfl fun a S=>Vb S Sb rfl rfl rfl fun a S=>Dl (Fc h (S.tm rfl) (fun hb1 h=>?_) (fun hb1 h=>?_))))
   ·refine wp_skip (Tn (wp_block (Fs (Fg ?_))))
    iterate 4 (refine Vm S rfl rfl ?_;clear S;intro a S)
    obtain ⟨r1,hr1,h⟩:=Eh h
    refine Ke 0 S rfl (fun _=>.own Ab 35 8 r1.length (r1.flatMap An.enc)) (fun _=>Ck (vs:=[Ab,iV x2,iV x3,.func (.func 33) #[] #[]]) ⟨(S.tm rfl),(S.tm rfl),(S.tm rfl),(S.tm rfl),trivial⟩ call70) (Hu _ Ab x1 (S.holds _ (List.mem_of_getElem? (i:=0) rfl)) x2 x3 _ hr1) rfl (fun _ _ _ h=>⟨h.1,fun _ hc=>hc⟩) ?_;clear S;intro v1 a w3 hv1 hk1 hn1 S
    replace hv1:=hv1.2
    subst hv1
    refine Dz (Vm S rfl rfl fun a S=>Va S rfl rfl fun a S=>Ld ?_)
    replace S:=(S.nl [.own Ab 35 8 r1.length (r1.flatMap An.enc)] [true] rfl).k6 0 1 2 6 7 8 rfl
    exact Tn (Fg (Vm S rfl rfl fun a S=>Vm S rfl rfl fun a S=>Vb S Ew rfl rfl rfl fun a S=>Va S rfl rfl fun a S=>Ld (Hj (Tn (⟨m1,⟨r1,x3,W (x3 + 20),h,S.nf [true] rfl ⟨rfl,rfl,rfl,rfl,rfl,rfl,trivial⟩⟩,Nat.lt_succ_self _⟩)))))
   ·exact wp_exit (Eb (Eb (Gj (Tn (⟨x1,x2,h,S.nf [true] rfl (subR rfl)⟩)))))
 clear S h;rintro a w2 ⟨x1,x2,h,S⟩;rw [hj1] at h;clear hj1 j1
 refine Tn (Fs (Fg ?_))
 iterate 4 (refine Vm S rfl rfl ?_;clear S;intro a S)
 obtain ⟨r2,hr2,h⟩:=Eh h
 refine Ke 0 S rfl (fun _=>.own Ab 35 8 r2.length (r2.flatMap An.enc)) (fun _=>Ck (vs:=[Ab,iV x2,iV Ar,.func (.func 33) #[] #[]]) ⟨(S.tm rfl),(S.tm rfl),(S.tm rfl),(S.tm rfl),trivial⟩ call70) (Hu _ Ab x1 (S.holds _ (List.mem_of_getElem? (i:=0) rfl)) x2 Ar _ hr2) rfl (fun _ _ _ h=>⟨h.1,fun _ hc=>hc⟩) ?_;clear S;intro v2 a w4 hv2 hk2 hn2 S
 replace hv2:=hv2.2
 subst hv2
 refine Dl ?_
 replace S:=(S.nl [.own Ab 35 8 r2.length (r2.flatMap An.enc)] [true] rfl).k4 0 1 2 6 rfl
 obtain ⟨j2,hj2,h⟩:=Dt h
 refine Dj (fun a w'=>∃ x4 : List An,j2 x4 = some r ∧ Sx w (Ab.ownBlock.toList) nov [.own Ab 35 8 x4.length (x4.flatMap An.enc)] [] 63 a w') ?_ ?_
 ·refine wp_block (Gt (fun (m2 : Nat) a w'=>∃ x4 : List An,∃ x5 : Int,Dc Ar j2 m2 x4 x5 = some r ∧ Sx w (Ab.ownBlock.toList) nov [.own Ab 35 8 x4.length (x4.flatMap An.enc)] [(0,Ab),(1,iV Ar),(2,.func (.func 33) #[] #[]),(6,iV x5)] 63 a w') id ((Ar - 20).toNat + 2) ⟨r2,20,h,S.nf [true] rfl (subR rfl)⟩ ?_)
  clear S h;rintro m2 a w5 ⟨x4,x5,h,S⟩
  cases m2 with
  | zero=>rw [Dc.eq_1] at h;cases h
  | succ m2 =>
   rw [Dc.eq_2] at h
   refine Fs (Fr (Vm S rfl rfl fun a S=>Vm S rfl rfl fun a S=>Vb S Ee rfl rfl rfl fun a S=>Dl (Fc h (S.tm rfl) (fun hb2 h=>?_) (fun hb2 h=>?_))))
   ·refine wp_skip (Tn (wp_block (Fr (Vm S rfl rfl fun a S=>Vu S (Wg rfl) rfl rfl fun a S=>Vk S rfl rfl fun a S=>Va S rfl rfl fun a S=>Dl ?_))))
    refine Fs ?_
    replace S:=S.k6 0 1 2 6 7 8 rfl
    obtain ⟨j3,hj3,h⟩:=Dt h
    refine Dj (fun a w'=>∃ x6 : List An,∃ x7 : Int,j3 x6 x7 = some r ∧ Sx w (Ab.ownBlock.toList) nov [.own Ab 35 8 x6.length (x6.flatMap An.enc)] [(0,Ab),(1,iV Ar),(2,.func (.func 33) #[] #[]),(6,iV x5),(7,iV x7)] 63 a w') ?_ ?_
    ·refine wp_block (Gt (fun (m3 : Nat) a w'=>∃ x6 : List An,∃ x7 : Int,∃ x8 : Int,Dk Ar x5 j3 m3 x6 x7 x8 = some r ∧ Sx w (Ab.ownBlock.toList) nov [.own Ab 35 8 x6.length (x6.flatMap An.enc)] [(0,Ab),(1,iV Ar),(2,.func (.func 33) #[] #[]),(6,iV x5),(7,iV x7),(8,iV x8)] 63 a w') id ((Ar - (W (2 * x5))).toNat + 2) ⟨x4,0,W (2 * x5),h,S.nf [true] rfl (subR rfl)⟩ ?_)
     clear S h;rintro m3 a w7 ⟨x6,x7,x8,h,S⟩
     cases m3 with
     | zero=>rw [Dk.eq_1] at h;cases h
     | succ m3 =>
      rw [Dk.eq_2] at h
      refine Fs (Fr (Vm S rfl rfl fun a S=>Vm S rfl rfl fun a S=>Vb S Sb rfl rfl rfl fun a S=>Dl (Fc h (S.tm rfl) (fun hb3 h=>?_) (fun hb3 h=>?_))))
      ·refine wp_skip (Tn (wp_block (Fs (Fg ?_))))
       iterate 4 (refine Vm S rfl rfl ?_;clear S;intro a S)
       refine Vb S Ew rfl rfl rfl fun a S=>Vm S rfl rfl fun a S=>Vm S rfl rfl ?_;clear S;intro a S
       obtain ⟨r3,hr3,h⟩:=Eh h
       refine Ke 0 S rfl (fun _=>.own Ab 35 8 r3.length (r3.flatMap An.enc)) (fun _=>Ck (vs:=[Ab,iV x7,iV (W (x7 + x5)),iV x8,.func (.func 33) #[] #[]]) ⟨(S.tm rfl),(S.tm rfl),(S.tm rfl),(S.tm rfl),(S.tm rfl),trivial⟩ call71) (Ij 16 _ Ab x6 (S.holds _ (List.mem_of_getElem? (i:=0) rfl)) x7 (W (x7 + x5)) x8 _ hr3) rfl (fun _ _ _ h=>⟨h.1,fun _ hc=>hc⟩) ?_;clear S;intro v3 a w9 hv3 hk3 hn3 S
       replace hv3:=hv3.2
       subst hv3
       refine Ld ?_
       replace S:=(S.nl [.own Ab 35 8 r3.length (r3.flatMap An.enc)] [true] rfl).k5 0 1 2 6 8 rfl
       refine Tn (Fr (Vm S rfl rfl fun a S=>Va S rfl rfl fun a S=>Dl (Fg (Vm S rfl rfl fun a S=>Vm S rfl rfl fun a S=>Vu S (Wg rfl) rfl rfl ?_))));clear S;intro a S
       exact Vb S Ew rfl rfl rfl fun a S=>Va S rfl rfl fun a S=>Ld (Hj (Tn (⟨m3,⟨r3,x8,W (x8 + (W (2 * x5))),h,S.nf [true] rfl ⟨rfl,rfl,rfl,rfl,rfl,rfl,trivial⟩⟩,Nat.lt_succ_self _⟩)))
      ·exact wp_exit (Eb (Eb (Gj (Tn (⟨x6,x7,h,S.nf [true] rfl (subR rfl)⟩)))))
    clear S h;rintro a w8 ⟨x6,x7,h,S⟩;rw [hj3] at h;clear hj3 j3
    refine Tn (Fs (Fr (Vm S rfl rfl fun a S=>Vm S rfl rfl fun a S=>Vb S Ew rfl rfl rfl fun a S=>Va S rfl rfl fun a S=>Dl (Fs ?_))))
    refine Fg (Vm S rfl rfl fun a S=>Vm S rfl rfl fun a S=>Vb S Ee rfl rfl rfl fun a S=>Dl ?_)
    obtain ⟨j4,hj4,h⟩:=Dt h
    refine Dj (fun a w'=>∃ x9 : List An,j4 x9 = some r ∧ Sx w (Ab.ownBlock.toList) nov [.own Ab 35 8 x9.length (x9.flatMap An.enc)] [(0,Ab),(1,iV Ar),(2,.func (.func 33) #[] #[]),(6,iV x5)] 63 a w') ?_ ?_
    ·refine Fc h (S.tm rfl) (fun hb4 h=>?_) (fun hb4 h=>?_)
     ·refine Fg ?_
      iterate 5 (refine Vm S rfl rfl ?_;clear S;intro a S)
      obtain ⟨r4,hr4,h⟩:=Eh h
      refine Ke 0 S rfl (fun _=>.own Ab 35 8 r4.length (r4.flatMap An.enc)) (fun _=>Ck (vs:=[Ab,iV x7,iV (W (x7 + x5)),iV Ar,.func (.func 33) #[] #[]]) ⟨(S.tm rfl),(S.tm rfl),(S.tm rfl),(S.tm rfl),(S.tm rfl),trivial⟩ call71) (Ij 16 _ Ab x6 (S.holds _ (List.mem_of_getElem? (i:=0) rfl)) x7 (W (x7 + x5)) Ar _ hr4) rfl (fun _ _ _ h=>⟨h.1,fun _ hc=>hc⟩) ?_;clear S;intro v4 a w11 hv4 hk4 hn4 S
      replace hv4:=hv4.2
      subst hv4
      refine Ld ?_
      replace S:=(S.nl [.own Ab 35 8 r4.length (r4.flatMap An.enc)] [true] rfl).k4 0 1 2 6 rfl
      exact Tn (⟨r4,h,S.nf [true] rfl (subR rfl)⟩)
     ·exact wp_skip (Tn (⟨x6,h,S.nf [true] rfl (subR rfl)⟩))
    clear S h;rintro a w10 ⟨x9,h,S⟩;rw [hj4] at h;clear hj4 j4
    exact Tn (Fg (Vm S rfl rfl fun a S=>Vq S Wg rfl rfl rfl fun a S=>Va S rfl rfl fun a S=>Ld (Hj (Tn (⟨m2,⟨x9,W (x5 * 2),h,S.nf [true] rfl ⟨rfl,rfl,rfl,rfl,trivial⟩⟩,Nat.lt_succ_self _⟩)))))
   ·exact wp_exit (Eb (Eb (Gj (Tn (⟨x4,h,S.nf [true] rfl trivial⟩)))))
 clear S h;rintro a w6 ⟨x4,h,S⟩;rw [hj2] at h;clear hj2 j2
 obtain rfl:=Option.some.inj h
 exact Se S results56 ⟨(S.holds _ (List.mem_of_getElem? (i:=0) rfl)),rfl⟩
theorem Io (w : World) (Az : Value) (Aq : List An) (Ca : (LEnt.own Az 35 8 Aq.length (Aq.flatMap An.enc)).holds w) (r : (List An)) (h : Dq Aq = some r) :
    Calls prog 32 [Az,.func (.func 33) #[] #[]].toArray w (Ret w (Az.ownBlock.toList) fun _ v w'=>(LEnt.own Az 35 8 r.length (r.flatMap An.enc)).holds w' ∧ v = .tuple #[]):=by
 refine Ju (Az.ownBlock.toList) [.own Az 35 8 Aq.length (Aq.flatMap An.enc)] func32 rfl ntmps32 rfl (fun e he=>by simp only [List.mem_singleton] at he;subst he;exact Ca) (Kj _) (Lp _) fun a S=>?_
 unfold Dq at h
 replace S:=(S.nl [.own Az 35 8 Aq.length (Aq.flatMap An.enc)] [true] rfl).k2 0 1 rfl
 refine Fg (Vm S rfl rfl fun a S=>Vm S rfl rfl fun a S=>lv S (En Eo (S.tm rfl) (Ns (S.own_at (i:=0) rfl))) rfl fun a S=>Vm S rfl rfl ?_);clear S;intro a S
 obtain ⟨r1,hr1,h⟩:=Eh h
 refine Ke 0 S rfl (fun _=>.own Az 35 8 r1.length (r1.flatMap An.enc)) (fun _=>Ck (vs:=[Az,iV (Aq.length : Int),.func (.func 33) #[] #[]]) ⟨(S.tm rfl),(S.tm rfl),(S.tm rfl),trivial⟩ call56) (Lc _ Az Aq (S.holds _ (List.mem_of_getElem? (i:=0) rfl)) (Aq.length : Int) _ hr1) rfl (fun _ _ _ h=>⟨h.1,fun _ hc=>hc⟩) ?_;clear S;intro v1 a w1 hv1 hk1 hn1 S
 replace hv1:=hv1.2
 subst hv1
 refine Ld ?_
 obtain rfl:=Option.some.inj h
 exact Se S results32 ⟨(S.holds _ (List.mem_of_getElem? (i:=0) rfl)),rfl⟩
theorem Pn (w : World) (Ag : An) (Ah : An) (r : Bool) (h : Lx Ag Ah = r) :
    Calls prog 35 [.agg (An.enc Ag).toArray,.agg (An.enc Ah).toArray].toArray w (Ret w [] fun _ v _=>v = bV r):=by
 refine Fe func35 rfl ntmps35 rfl fun a S=>?_
 unfold Lx at h
 replace S:=S.k2 0 1 rfl
 refine Fr (Oh S (S.tm rfl) (cs:=(An.enc Ag)) rfl rfl ?_);clear S;intro a w1 b1 hz1 hk1 S
 refine Oh S (S.tm rfl) (cs:=(An.enc Ah)) rfl rfl ?_;clear S;intro a w2 b2 hz2 hk2 S
 refine Vk S rfl rfl fun a S=>Dz (lv S (Ey isAgg35 sizeOf35 (off:=0) (o:=0) (part:=(An.enc Ag)) rfl rfl (S.tm rfl) (S.cellsAt (i:=1) rfl)) rfl fun a S=>lv S (Ey isAgg35 sizeOf35 (off:=0) (o:=0) (part:=(An.enc Ah)) rfl rfl (S.tm rfl) (S.cellsAt (i:=0) rfl)) rfl fun a S=>Cy S (fun _=>Ck (vs:=[.agg (An.enc Ag).toArray,.agg (An.enc Ah).toArray]) ⟨(S.tm rfl),(S.tm rfl),trivial⟩ call33) (Hz _ Ag Ah _ rfl) rfl ?_);clear S;intro v1 a w3 hv1 hk3 hn1 S
 subst hv1
 refine Vq S Ip rfl rfl rfl fun a S=>Va S rfl rfl fun a S=>Dl (wp_ret ?_)
 subst h
 exact Dx S results35 rfl rfl
set_option maxRecDepth 20000 in
theorem Lu (w : World) (Am : Value) (Ae : List An) (Cb : (LEnt.own Am 35 8 Ae.length (Ae.flatMap An.enc)).holds w) (r : (List An)) (h : Ff Ae = some r) :
    Calls prog 34 [Am,.func (.func 35) #[] #[]].toArray w (Ret w (Am.ownBlock.toList) fun _ v w'=>(LEnt.own v 35 8 r.length (r.flatMap An.enc)).holds w' ∧ v.ownBlock = Am.ownBlock):=by
 refine Ju (Am.ownBlock.toList) [.own Am 35 8 Ae.length (Ae.flatMap An.enc)] func34 rfl ntmps34 rfl (fun e he=>by simp only [List.mem_singleton] at he;subst he;exact Cb) (Kj _) (Lp _) fun a S=>?_
 unfold Ff at h
 replace S:=(S.nl [.own Am 35 8 Ae.length (Ae.flatMap An.enc)] [true] rfl).k2 0 1 rfl
 refine Fr (Vk S rfl rfl fun a S=>Dl (Fs (Fr (Vm S rfl rfl fun a S=>lv S (En Eo (S.tm rfl) (Ns (S.own_at (i:=0) rfl))) rfl fun a S=>Vq S Ee rfl rfl rfl ?_))));clear S;intro a S
 refine Dl (Fc h (S.tm rfl) (fun hb1 h=>?_) (fun hb1 h=>?_))
 ·refine Fr (Vm S rfl rfl fun a S=>Va S rfl rfl fun a S=>Dl (wp_ret (Cn ?_)))
  obtain rfl:=Option.some.inj h
  exact Dx S results34 rfl ⟨(S.holds _ (List.mem_of_getElem? (i:=0) rfl)),rfl⟩
 ·refine wp_skip (Tn (Fs (Fr (Vk S rfl rfl fun a S=>Dl ?_))))
  replace S:=S.k3 0 1 5 rfl
  obtain ⟨j1,hj1,h⟩:=Dt h
  refine Dj (fun a w'=>j1 = some r ∧ Sx w (Am.ownBlock.toList) nov [.own Am 35 8 Ae.length (Ae.flatMap An.enc)] [(0,Am)] 66 a w') ?_ ?_
  ·refine wp_block (Gt (fun (m1 : Nat) a w'=>∃ x1 : Int,Dn Ae j1 m1 x1 = some r ∧ Sx w (Am.ownBlock.toList) nov [.own Am 35 8 Ae.length (Ae.flatMap An.enc)] [(0,Am),(1,.func (.func 35) #[] #[]),(5,iV x1)] 66 a w') id (((Ae.length : Int) - 1).toNat + 2) ⟨1,h,S.nf [true] rfl (subR rfl)⟩ ?_)
   clear S h;rintro m1 a w1 ⟨x1,h,S⟩
   cases m1 with
   | zero=>rw [Dn.eq_1] at h;cases h
   | succ m1 =>
    rw [Dn.eq_2] at h
    refine Fs (Fr (Vm S rfl rfl fun a S=>Vm S rfl rfl fun a S=>lv S (En Eo (S.tm rfl) (Ns (S.own_at (i:=0) rfl))) rfl fun a S=>Vb S Ee rfl rfl rfl fun a S=>Dl (Fc h (S.tm rfl) (fun hb2 h=>?_) (fun hb2 h=>?_))))
    ·refine wp_skip (Tn (Fs (wp_block (Fs ?_))))
     obtain ⟨hc1,h⟩:=Gz h
     obtain ⟨hc2,h⟩:=Gz h
     refine Fi [] ([]) Tryz.mixed S rfl (by kernel_rfl) ?_;clear S;intro w4 hk2 hsel S
     refine Co 0 S hsel rfl rfl rfl (by kernel_rfl) (by kernel_rfl) rfl (fun _ hw=>(Rm (S.tm rfl))) fun a S=>Co 1 S hsel rfl rfl rfl (by kernel_rfl) (by kernel_rfl) rfl (fun _ hw=>(Rm (S.tm rfl))) fun a S=>Co 2 S hsel rfl rfl rfl (by kernel_rfl) (by kernel_rfl) rfl (fun _ hw=>(Rm (S.tm rfl))) ?_;clear S;intro a S
     obtain ⟨b3,hg3,hr3⟩:=Fj (a:=a) (x:=.tmp 19) (y:=.tmp 20) (ty:=0) Eo An.enc_ok S (i:=0) rfl (Ct hc1).1 (Ct hc1).2 (S.tm rfl) (S.tm rfl)
     refine Co 3 S hsel rfl rfl rfl (by kernel_rfl) (by kernel_rfl) rfl (fun _ hw=>(hr3 _)) ?_;clear S;intro a S
     clear hr3
     refine Co 4 S hsel rfl rfl rfl (by kernel_rfl) (by kernel_rfl) rfl (fun _ hw=>(Ey isAgg35 sizeOf35 (off:=x1.toNat * 8) (o:=0) (part:=(An.enc (nth Ae x1))) rfl rfl (S.tm rfl) ((Jh An.enc_ok S (i:=0) rfl hg3 (Ct hc1).1 (Ge (e':=.own Am 35 8 Ae.length (Ae.flatMap An.enc)))).kept hw))) fun a S=>Co 5 S hsel rfl rfl rfl (by kernel_rfl) (by kernel_rfl) rfl (fun _ hw=>(Rm (S.tm rfl))) fun a S=>Co 6 S hsel rfl rfl rfl (by kernel_rfl) (by kernel_rfl) rfl (fun _ hw=>(Rm (S.tm rfl))) fun a S=>Co 7 S hsel rfl rfl rfl (by kernel_rfl) (by kernel_rfl) rfl (fun _ hw=>(Hs (S.tm rfl) rfl)) ?_;clear S;intro a S
     obtain ⟨b4,hg4,hr4⟩:=Fj (a:=a) (x:=.tmp 23) (y:=.tmp 25) (ty:=0) Eo An.enc_ok S (i:=0) rfl (Ct hc2).1 (Ct hc2).2 (S.tm rfl) (S.tm rfl)
     refine Co 8 S hsel rfl rfl rfl (by kernel_rfl) (by kernel_rfl) rfl (fun _ hw=>(hr4 _)) ?_;clear S;intro a S
     clear hr4
     refine Co 9 S hsel rfl rfl rfl (by kernel_rfl) (by kernel_rfl) rfl (fun _ hw=>(Ey isAgg35 sizeOf35 (off:=((W (x1 - 1)).toNat) * 8) (o:=0) (part:=(An.enc (nth Ae (W (x1 - 1))))) rfl rfl (S.tm rfl) ((Jh An.enc_ok S (i:=0) rfl hg4 (Ct hc2).1 (Ge (e':=.own Am 35 8 Ae.length (Ae.flatMap An.enc)))).kept hw))) fun a S=>Ea 10 (by kernel_rfl) rfl (Cy S (fun _=>Nj (cap:=[]) (S.tm rfl) (vs:=[.agg (An.enc (nth Ae x1)).toArray,.agg (An.enc (nth Ae (W (x1 - 1)))).toArray]) ⟨(S.tm rfl),(S.tm rfl),trivial⟩ call35) (Pn _ (nth Ae x1) (nth Ae (W (x1 - 1))) _ rfl) rfl ?_);clear S;intro v2 a w5 hv2 hk3 hn2 S
     subst hv2
     refine Ld (Ej hk3 (Pj (by kernel_rfl) ?_))
     clear hsel
     replace S:=S.k4 0 1 5 28 rfl
     refine Tn (Fc h (S.tm rfl) (fun hb3 h=>?_) (fun hb3 h=>?_))
     ·refine Fr (Vm S rfl rfl fun a S=>Vm S rfl rfl ?_);clear S;intro a S
      obtain ⟨hc3,h⟩:=Gz h
      obtain ⟨u1,hu1,hr5⟩:=Wa (a:=a) (x:=.tmp 29) (y:=.tmp 30) (ty:=28) Eo S (i:=0) rfl (S.tm rfl) (S.tm rfl) hc3
      refine lv S (hr5 _) rfl ?_;clear S;intro a S
      clear hr5
      refine Va S rfl rfl fun a S=>Dl (Fs (Fr (Vk S rfl rfl fun a S=>Dl ?_)))
      replace S:=S.k5 0 1 5 6 7 rfl
      obtain ⟨j2,hj2,h⟩:=Dt h
      refine Dj (fun a w'=>∃ x2 : List An,∃ x3 : Int,j2 x2 x3 = some r ∧ Sx w (Am.ownBlock.toList) nov [.own Am 35 8 x2.length (x2.flatMap An.enc)] [(0,Am),(5,iV x3)] 66 a w') ?_ ?_
      ·refine wp_block (Gt (fun (m2 : Nat) a w'=>∃ x2 : List An,∃ x3 : Int,∃ x4 : Int,Dw Ae x1 j2 m2 x2 x3 x4 = some r ∧ Sx w (Am.ownBlock.toList) nov [.own Am 35 8 x2.length (x2.flatMap An.enc)] [(0,Am),(1,.func (.func 35) #[] #[]),(5,iV x3),(6,u1),(7,iV x4)] 66 a w') id (((((Ae.length : Int).toNat - x1.toNat : Nat) : Int) - 1).toNat + 2) ⟨Ae,x1,1,h,S.nf [true] rfl (subR rfl)⟩ ?_)
       clear S h;rintro m2 a w6 ⟨x2,x3,x4,h,S⟩
       cases m2 with
       | zero=>rw [Dw.eq_1] at h;cases h
       | succ m2 =>
        rw [Dw.eq_2] at h
        refine Fs (Fr (Vm S rfl rfl fun a S=>Vm S rfl rfl fun a S=>lv S (En Eo (S.tm rfl) (DX hu1)) rfl fun a S=>Vb S Ee rfl rfl rfl fun a S=>Dl (Fc h (S.tm rfl) (fun hb4 h=>?_) (fun hb4 h=>?_))))
        ·refine wp_skip (Tn (Fs ?_))
         obtain ⟨j3,hj3,h⟩:=Dt h
         refine Dj (fun a w'=>∃ x5 : List An,∃ x6 : Int,j3 x5 x6 = some r ∧ Sx w (Am.ownBlock.toList) nov [.own Am 35 8 x5.length (x5.flatMap An.enc)] [(0,Am),(1,.func (.func 35) #[] #[]),(5,iV x6),(6,u1),(7,iV x4)] 66 a w') ?_ ?_
         ·refine wp_block (Fs ?_)
          obtain ⟨hc4,h⟩:=Gz h
          obtain ⟨hc5,h⟩:=Gz h
          refine Fi [] ([]) Tryz.mixed S rfl (by kernel_rfl) ?_;clear S;intro w10 hk5 hsel S
          refine Co 0 S hsel rfl rfl rfl (by kernel_rfl) (by kernel_rfl) rfl (fun _ hw=>(Rm (S.tm rfl))) fun a S=>Co 1 S hsel rfl rfl rfl (by kernel_rfl) (by kernel_rfl) rfl (fun _ hw=>(Rm (S.tm rfl))) fun a S=>Co 2 S hsel rfl rfl rfl (by kernel_rfl) (by kernel_rfl) rfl (fun _ hw=>(Rm (S.tm rfl))) ?_;clear S;intro a S
          have hj6:=(Ss (Tg S (i:=0) rfl hu1) hc4).1
          obtain ⟨b7,hg7,hr8⟩:=Np (a:=a) (x:=.tmp 39) (y:=.tmp 40) (ty:=0) Eo An.enc_ok S (i:=0) rfl hu1 hc4 (S.tm rfl) (S.tm rfl)
          refine Co 3 S hsel rfl rfl rfl (by kernel_rfl) (by kernel_rfl) rfl (fun _ hw=>(hr8 _)) ?_;clear S;intro a S
          clear hr8
          refine Co 4 S hsel rfl rfl rfl (by kernel_rfl) (by kernel_rfl) rfl (fun _ hw=>(Ey isAgg35 sizeOf35 (off:=(x1.toNat + x4.toNat) * 8) (o:=0) (part:=(An.enc (nth (cut x2 x1 (Ae.length : Int)) x4))) rfl rfl (S.tm rfl) ((Jh An.enc_ok S (i:=0) rfl hg7 hj6 (Ge (e':=.own Am 35 8 x2.length (x2.flatMap An.enc)))).kept hw))) fun a S=>Co 5 S hsel rfl rfl rfl (by kernel_rfl) (by kernel_rfl) rfl (fun _ hw=>(Rm (S.tm rfl))) fun a S=>Co 6 S hsel rfl rfl rfl (by kernel_rfl) (by kernel_rfl) rfl (fun _ hw=>(Rm (S.tm rfl))) fun a S=>Co 7 S hsel rfl rfl rfl (by kernel_rfl) (by kernel_rfl) rfl (fun _ hw=>(Hs (S.tm rfl) rfl)) ?_;clear S;intro a S
          have hj7:=(Ss (Tg S (i:=0) rfl hu1) hc5).1
          obtain ⟨b8,hg8,hr9⟩:=Np (a:=a) (x:=.tmp 43) (y:=.tmp 45) (ty:=0) Eo An.enc_ok S (i:=0) rfl hu1 hc5 (S.tm rfl) (S.tm rfl)
          refine Co 8 S hsel rfl rfl rfl (by kernel_rfl) (by kernel_rfl) rfl (fun _ hw=>(hr9 _)) ?_;clear S;intro a S
          clear hr9
          refine Co 9 S hsel rfl rfl rfl (by kernel_rfl) (by kernel_rfl) rfl (fun _ hw=>(Ey isAgg35 sizeOf35 (off:=(x1.toNat + (W (x4 - 1)).toNat) * 8) (o:=0) (part:=(An.enc (nth (cut x2 x1 (Ae.length : Int)) (W (x4 - 1))))) rfl rfl (S.tm rfl) ((Jh An.enc_ok S (i:=0) rfl hg8 hj7 (Ge (e':=.own Am 35 8 x2.length (x2.flatMap An.enc)))).kept hw))) fun a S=>Ea 10 (by kernel_rfl) rfl (Cy S (fun _=>Nj (cap:=[]) (S.tm rfl) (vs:=[.agg (An.enc (nth (cut x2 x1 (Ae.length : Int)) x4)).toArray,.agg (An.enc (nth (cut x2 x1 (Ae.length : Int)) (W (x4 - 1)))).toArray]) ⟨(S.tm rfl),(S.tm rfl),trivial⟩ call35) (Pn _ (nth (cut x2 x1 (Ae.length : Int)) x4) (nth (cut x2 x1 (Ae.length : Int)) (W (x4 - 1))) _ rfl) rfl ?_);clear S;intro v4 a w11 hv4 hk6 hn4 S
          subst hv4
          refine Ld (Ej hk6 (Iy [11] hsel (by kernel_rfl) rfl ?_))
          clear hsel
          refine Fb S rfl (Ih (S.tm rfl)) rfl fun a S=>Ik ?_
          replace S:=S.k6 0 1 5 6 7 49 rfl
          refine Tn ?_
          obtain ⟨j4,hj8,h⟩:=Dt h
          refine Dj (fun a w'=>∃ x7 : List An,∃ x8 : Int,j4 x7 x8 = some r ∧ Sx w (Am.ownBlock.toList) nov [.own Am 35 8 x7.length (x7.flatMap An.enc)] [(0,Am),(1,.func (.func 35) #[] #[]),(5,iV x8),(6,u1),(7,iV x4)] 66 a w') ?_ ?_
          ·refine Fc h (S.tm rfl) (fun hb5 h=>?_) (fun hb5 h=>?_)
           ·refine Fs (Fg ?_)
            iterate 4 (refine Vm S rfl rfl ?_;clear S;intro a S)
            obtain ⟨hc6,h⟩:=Gz h
            have hj9:=(Ss (Tg S (i:=0) rfl hu1) hc6).1
            obtain ⟨b9,hg9,hr10⟩:=Np (a:=a) (x:=.tmp 52) (y:=.tmp 53) (ty:=0) Eo An.enc_ok S (i:=0) rfl hu1 hc6 (S.tm rfl) (S.tm rfl)
            refine lv S (hr10 _) rfl ?_;clear S;intro a S
            clear hr10
            refine lv S (Ey isAgg35 sizeOf35 (off:=(x1.toNat + x4.toNat) * 8) (o:=0) (part:=(An.enc (nth (cut x2 x1 (Ae.length : Int)) x4))) rfl rfl (S.tm rfl) (Mo An.enc_ok S (i:=0) rfl hg9 hj9)) rfl ?_;clear S;intro a S
            obtain ⟨hc7,h⟩:=Gz h
            obtain ⟨b10,hg10,hr11⟩:=Fj (a:=a) (x:=.tmp 50) (y:=.tmp 51) (ty:=0) Eo An.enc_ok S (i:=0) rfl (Ct hc7).1 (Ct hc7).2 (S.tm rfl) (S.tm rfl)
            refine lv S (hr11 _) rfl ?_;clear S;intro a S
            clear hr11
            refine Ia (c:=0) (j:=x3.toNat) (nth (cut x2 x1 (Ae.length : Int)) x4) An.enc_ok S (S.tm rfl) (S.tm rfl) (i:=0) rfl hg10 (Ct hc7).1 sizeOf35 (vs:=[iV ((nth (cut x2 x1 (Ae.length : Int)) x4).At),iV ((nth (cut x2 x1 (Ae.length : Int)) x4).Kind),sV ((nth (cut x2 x1 (Ae.length : Int)) x4).Id),sV ((nth (cut x2 x1 (Ae.length : Int)) x4).Who),sV ((nth (cut x2 x1 (Ae.length : Int)) x4).Club),sV ((nth (cut x2 x1 (Ae.length : Int)) x4).Race),iV ((nth (cut x2 x1 (Ae.length : Int)) x4).Age),iV ((nth (cut x2 x1 (Ae.length : Int)) x4).Time)]) rfl rfl rfl rfl rfl ?_;clear S;intro w14 hk8 S
            exact Dl (Fg (Vm S rfl rfl fun a S=>Vq S Ew rfl rfl rfl fun a S=>Va S rfl rfl fun a S=>Dl (⟨(x2.set x3.toNat (nth (cut x2 x1 (Ae.length : Int)) x4)),W (x3 + 1),h,S.nf [true] rfl (subR rfl)⟩)))
           ·exact wp_skip (Tn (⟨x2,x3,h,S.nf [true] rfl (subR rfl)⟩))
          clear S h;rintro a w12 ⟨x7,x8,h,S⟩;rw [hj8] at h;clear hj8 j4
          exact Hj (Tn (⟨x7,x8,h,S.nf [true] rfl (subR rfl)⟩))
         clear S h;rintro a w8 ⟨x5,x6,h,S⟩;rw [hj3] at h;clear hj3 j3
         exact Tn (Fg (Vm S rfl rfl fun a S=>Vq S Ew rfl rfl rfl fun a S=>Va S rfl rfl fun a S=>Dl (⟨m2,⟨x5,x6,W (x4 + 1),h,S.nf [true] rfl ⟨rfl,rfl,rfl,rfl,rfl,trivial⟩⟩,Nat.lt_succ_self _⟩)))
        ·exact wp_exit (Eb (Eb (Gj (Tn (⟨x2,x3,h,S.nf [true] rfl (subR rfl)⟩)))))
      clear S h;rintro a w7 ⟨x2,x3,h,S⟩;rw [hj2] at h;clear hj2 j2
      refine Tn (Fr (Vm S rfl rfl fun a S=>Vm S rfl rfl ?_));clear S;intro a S
      obtain ⟨hc8,h⟩:=Gz h
      obtain ⟨u2,hu2,hr12⟩:=Wa (a:=a) (x:=.tmp 59) (y:=.tmp 60) (ty:=28) Eo S (i:=0) rfl (S.tm rfl) (S.tm rfl) hc8
      refine lv S (hr12 _) rfl ?_;clear S;intro a S
      clear hr12
      refine BO (zl:=x3) (zh:=(x2.length : Int)) (z:=(An.mk 0 0 Cj Cj Cj Cj 0 0)) Eo rfl An.enc_ok S (i:=0) rfl hu2 (S.tm rfl) zeroValue35 rfl ?_;clear S;intro w15 hk9 S
      refine Dz (Vm S rfl rfl fun a S=>Vm S rfl rfl ?_);clear S;intro a S
      obtain ⟨hc9,h⟩:=Gz h
      obtain ⟨u3,hu3,hr13⟩:=BM (a:=a) (x:=.tmp 62) (y':=.tmp 63) (ty:=28) Eo S (i:=0) rfl (S.tm rfl) (S.tm rfl) hc9
      refine lv S (hr13 _) rfl ?_;clear S;intro a S
      clear hr13
      refine Va S rfl rfl fun a S=>Dl (wp_ret (Fa (Cn (Cn (Fa (Cn (Cn ?_)))))))
      obtain ⟨S,hz1⟩:=S.ownCut (zh:=x3) An.enc_ok (i:=0) rfl hu3
      obtain rfl:=Option.some.inj h
      exact Dx S results34 rfl ⟨(S.holds _ (List.mem_of_getElem? (i:=0) rfl)),(Ry.block hu3)⟩
     ·exact wp_skip (Hj (Tn (Fg (Vm S rfl rfl fun a S=>Vq S Ew rfl rfl rfl fun a S=>Va S rfl rfl fun a S=>Dl (⟨m1,⟨W (x1 + 1),h,S.nf [true] rfl ⟨rfl,rfl,rfl,trivial⟩⟩,Nat.lt_succ_self _⟩)))))
    ·exact wp_exit (Eb (Eb (Gj (Tn (⟨h,S.nf [true] rfl ⟨rfl,trivial⟩⟩)))))
  clear S h;rintro a w2 ⟨h,S⟩;rw [hj1] at h;clear hj1 j1
  refine Tn (Fr (Vm S rfl rfl fun a S=>Va S rfl rfl fun a S=>Dl (wp_ret ?_)))
  obtain rfl:=Option.some.inj h
  exact Dx S results34 rfl ⟨(S.holds _ (List.mem_of_getElem? (i:=0) rfl)),rfl⟩
theorem Rx (w : World) (O : Nat) (Aa : Value) (Aj : List Int) (Af : Slc (view w [O]) 1 Aa (Aj.map eInt)) (Ai : Int) (Av : (LEnt.blk O [Aa,iV Ai] 25).holds w) (Bh : Int) (r : (List An) × Int) (h : Mp Aj Ai Bh = some r) :
    Calls prog 5 [.pointer (some ⟨O,0,none⟩),iV Bh].toArray w (Ret w [O] fun τ v w'=>(LEnt.blk O [Aa,iV r.2] 25).holds w' ∧ Le τ 35 8 v r.1.length (r.1.flatMap An.enc)):=by
 refine Ju [O] [.blk O [Aa,iV Ai] 25] func5 rfl ntmps5 rfl (fun e he=>by simp only [List.mem_singleton] at he;subst he;exact Av) (by simp [fps,LEnt.fp]) (by simp [fps,LEnt.fp]) fun a S=>?_
 unfold Mp at h
 replace S:=(S.nl [.blk O [Aa,iV Ai] 25] [true] rfl).k2 0 1 rfl
 refine Fr (Vk S rfl rfl fun a S=>Dz (Vk S rfl rfl ?_));clear S;intro a S
 replace S:=S.nil 35 8
 refine Dz (Vk S rfl rfl fun a S=>Dl (Fs (Fr (Vm S rfl rfl ?_))));clear S;intro a S
 refine lv S (Rm rfl) rfl fun a S=>Dl ?_
 replace S:=(S.nl [.own (.slice none 0 0) 35 8 ([] : List An).length (([] : List An).flatMap An.enc),.blk O [Aa,iV Ai] 25] [true,true] rfl).k5 0 5 6 8 9 rfl
 obtain ⟨j1,hj1,h⟩:=Dt h
 refine Dj (fun a w'=>∃ x1 : List An,∃ x2 : Int,∃ v1 : Value,j1 x1 x2 = some r ∧ Sx w [O] nov [.own v1 35 8 x1.length (x1.flatMap An.enc),.blk O [Aa,iV x2] 25] [(5,v1)] 83 a w') ?_ ?_
 ·refine wp_block (Gt (fun (m1 : Nat) a w'=>∃ x1 : List An,∃ x2 : Int,∃ x3 : Int,∃ x4 : Int,∃ v1 : Value,Gd Bh Aj j1 m1 x1 x2 x3 x4 = some r ∧ Sx w [O] nov [.own v1 35 8 x1.length (x1.flatMap An.enc),.blk O [Aa,iV x2] 25] [(0,.pointer (some ⟨O,0,none⟩)),(5,v1),(6,iV x3),(8,iV Bh),(9,iV x4)] 83 a w') id ((Bh - 0).toNat + 2) ⟨([] : List An),Ai,0,0,(.slice none 0 0),h,S.nf [true,true] rfl (subR rfl)⟩ ?_)
  clear S h;rintro m1 a w1 ⟨x1,x2,x3,x4,v1,h,S⟩
  cases m1 with
  | zero=>rw [Gd.eq_1] at h;cases h
  | succ m1 =>
   rw [Gd.eq_2] at h
   refine Fr (Vb S Ee rfl rfl rfl fun a S=>Dl (Fs (Fc h (S.tm rfl) (fun hb1 h=>?_) (fun hb1 h=>?_))))
   ·refine wp_skip (Tn (Fs (wp_block (Fr (Vm S rfl rfl fun a S=>Vm S rfl rfl fun a S=>De S underlying22 sizeOf3 zeroValue3 rfl rfl (pv:=[(0,iV 0),(1,iV 1),(2,iV 1),(3,iV 5)]) ⟨rfl,rfl,rfl,rfl,rfl,rfl,rfl,rfl,trivial⟩ (cs:=[iV 0,iV 1,iV 1,iV 5]) (by kernel_rfl) rfl ?_)))));clear S;intro a w3 b1 hz1 hk1 S
    obtain ⟨r1,hr1,h⟩:=Eh h
    refine Dy 2 S (b:=O) rfl rfl (fun _=>.blk O [Aa,iV r1.2] 25) (fun _=>Ck (vs:=[.pointer (some ⟨O,0,none⟩),.slice (some ⟨b1,0,none⟩) 4 4]) ⟨(S.tm rfl),(S.tm rfl),trivial⟩ call7) (Jz _ O Aa Aj (Af.mono (S.le_arg (Fd (i:=2) (e:=.blk O [Aa,iV x2] 25) rfl))) x2 (S.holds _ (List.mem_of_getElem? (i:=2) rfl)) (.slice (some ⟨b1,0,none⟩) 4 4) [0,1,1,5] (Fy Kx S (i:=0) rfl rfl rfl rfl ((Jd (i:=2) (j:=0) (e:=.blk O [Aa,iV x2] 25) (e':=.blk b1 [iV 0,iV 1,iV 1,iV 5] 3) S rfl rfl rfl) _ rfl)) _ hr1) rfl (fun _ _ _ h=>⟨h.1,fun _ hc=>by cases hc;rfl⟩) ?_;clear S;intro v2 a w4 hv1 hk2 hn1 S
    replace hv1:=hv1.2
    subst hv1
    refine Vb S Ew rfl rfl rfl fun a S=>Va S rfl rfl fun a S=>Dz (Vm S rfl rfl fun a S=>Vm S rfl rfl ?_);clear S;intro a S
    obtain ⟨r2,hr2,h⟩:=Eh h
    refine Dy 2 S (b:=O) rfl rfl (fun _=>.blk O [Aa,iV r2.2] 25) (fun _=>Ck (vs:=[.pointer (some ⟨O,0,none⟩),iV (W (x3 + r1.1))]) ⟨(S.tm rfl),(S.tm rfl),trivial⟩ call31) (Tj _ O Aa Aj (Af.mono (S.le_arg (Fd (i:=2) (e:=.blk O [Aa,iV r1.2] 25) rfl))) r1.2 (S.holds _ (List.mem_of_getElem? (i:=2) rfl)) (W (x3 + r1.1)) _ hr2) rfl (fun _ _ _ h=>⟨h.1,fun _ hc=>by cases hc;rfl⟩) ?_;clear S;intro v3 a w5 hv2 hk3 hn2 S
    replace hv2:=hv2.2
    subst hv2
    refine Lq S zeroValue35 (cs:=[iV 0,iV 0,sV Cj,sV Cj,sV Cj,sV Cj,iV 0,iV 0]) rfl rfl ?_;clear S;intro a w6 b2 hz2 hk4 S
    refine Gy S (S.tm rfl) (S.tm rfl) (i:=0) (off:=0) rfl sizeOf35 (vs:=(An.enc r2.1)) rfl rfl rfl rfl ?_;clear S;intro w7 hk5 S
    refine Ld ?_
    replace S:=(S.nl [.blk b2 (An.enc r2.1) 35,.own v1 35 8 x1.length (x1.flatMap An.enc),.blk O [Aa,iV r2.2] 25] [true,false,true,true] rfl).k6 0 5 6 7 8 9 rfl
    refine Tn (Fs (Fr (Vm S rfl rfl ?_)));clear S;intro a S
    obtain ⟨r3,hr3,h⟩:=Eh h
    refine Dy 2 S (b:=O) rfl rfl (fun _=>.blk O [Aa,iV r3.2] 25) (fun _=>Ck (vs:=[.pointer (some ⟨O,0,none⟩),iV 3]) ⟨(S.tm rfl),rfl,trivial⟩ call8) (Jy _ O Aa Aj (Af.mono (S.le_arg (Fd (i:=2) (e:=.blk O [Aa,iV r2.2] 25) rfl))) r2.2 (S.holds _ (List.mem_of_getElem? (i:=2) rfl)) 3 _ hr3) rfl (fun _ _ _ h=>⟨h.1,fun _ hc=>by cases hc;rfl⟩) ?_;clear S;intro v4 a w8 hv3 hk6 hn3 S
    replace hv3:=hv3.2
    subst hv3
    refine Dl ?_
    obtain ⟨j2,hj2,h⟩:=Dt h
    refine Dj (fun a w'=>∃ x5 : Int,∃ x6 : Int,∃ x7 : ByteArray,∃ x8 : ByteArray,∃ x9 : ByteArray,∃ x10 : Int,∃ x11 : Int,∃ x12 : Int,j2 x5 x6 x7 x8 x9 x10 x11 x12 = some r ∧ Sx w [O] nov [.blk b2 (An.enc (An.mk x5 x6 r2.1.Id x7 x8 x9 x10 x11)) 35,.own v1 35 8 x1.length (x1.flatMap An.enc),.blk O [Aa,iV x12] 25] [(0,.pointer (some ⟨O,0,none⟩)),(5,v1),(6,iV (W (x3 + r1.1))),(7,.pointer (some ⟨b2,0,none⟩)),(8,iV Bh),(9,iV x4)] 83 a w') ?_ ?_
    ·refine Fc h (S.tm rfl) (fun hb2 h=>?_) (fun hb2 h=>?_)
     ·obtain ⟨r4,hr4,h⟩:=Eh h
      refine Fi [7] ([O]) Tryz.mixed S rfl (by kernel_rfl) ?_;clear S;intro w13 hk10 hsel S
      refine Ed 0 S hsel rfl rfl (by kernel_rfl) (by kernel_rfl) rfl (fun _=>(Rm (S.tm rfl))) fun a S=>Ed 1 S hsel rfl rfl (by kernel_rfl) (by kernel_rfl) rfl (fun _=>(Rm (S.tm rfl))) fun a S=>Ed 4 S hsel rfl rfl (by kernel_rfl) (by kernel_rfl) rfl (fun _=>(Fx Iw (S.tm rfl))) fun a S=>Co 5 S hsel rfl (by kernel_rfl) (by kernel_rfl) (by kernel_rfl) (by kernel_rfl) rfl (fun _ hw=>(Hr isAgg9 (off:=0) (o:=2) (S.tm rfl) ((S.blk_mem (i:=0) (cells:=(An.enc r2.1)) (b:=b2) (T:=35) rfl (Jd (i:=2) (j:=0) (e:=.blk O [Aa,iV r3.2] 25) (e':=.blk b2 (An.enc r2.1) 35) S rfl rfl rfl)).kept hw) rfl)) fun a S=>Ea 2 (by kernel_rfl) rfl (De S underlying22 sizeOf3 zeroValue3 rfl rfl (pv:=[(0,iV 2),(1,iV 3)]) ⟨rfl,rfl,rfl,rfl,trivial⟩ (cs:=[iV 2,iV 3]) (by kernel_rfl) rfl ?_);clear S;intro a w14 b4 hz4 hk11 S
      refine Ld (Ej (Keep.none hk11) (Ea 3 (by kernel_rfl) rfl ?_))
      refine Dy 3 S (b:=O) rfl rfl (fun _=>.blk O [Aa,iV r4.2] 25) (fun _=>Ck (vs:=[.pointer (some ⟨O,0,none⟩),.slice (some ⟨b4,0,none⟩) 2 2]) ⟨(S.tm rfl),(S.tm rfl),trivial⟩ call7) (Jz _ O Aa Aj (Af.mono (S.le_arg (Fd (i:=3) (e:=.blk O [Aa,iV r3.2] 25) rfl))) r3.2 (S.holds _ (List.mem_of_getElem? (i:=3) rfl)) (.slice (some ⟨b4,0,none⟩) 2 2) [2,3] (Fy Kx S (i:=0) rfl rfl rfl rfl ((Jd (i:=3) (j:=0) (e:=.blk O [Aa,iV r3.2] 25) (e':=.blk b4 [iV 2,iV 3] 3) S rfl rfl rfl) _ rfl)) _ hr4) rfl (fun _ _ _ h=>⟨h.1,fun _ hc=>by cases hc;rfl⟩) ?_;clear S;intro v6 a w15 hv5 hk12 hn5 S
      replace hv5:=hv5.2
      subst hv5
      refine Ld (Ej hk12 (Ed 6 S hsel rfl rfl (by kernel_rfl) (by kernel_rfl) rfl (fun _=>(Rb Zy (pv:=[(0,iV (W (x3 + r1.1))),(1,iV r4.1),(2,sV r2.1.Id)]) ⟨rfl,(S.tm rfl),rfl,(S.tm rfl),rfl,(S.tm rfl),trivial⟩ (cs:=[iV (W (x3 + r1.1)),iV r4.1,sV r2.1.Id,sV Cj,sV Cj,sV Cj,iV 0,iV 0]) (by kernel_rfl))) fun a S=>Me 7 ([O] ++ [b2]) rfl (by kernel_rfl) rfl (Gy S (S.tm rfl) (S.tm rfl) (i:=1) (off:=0) rfl sizeOf35 (vs:=(An.enc (An.mk (W (x3 + r1.1)) r4.1 r2.1.Id Cj Cj Cj 0 0))) rfl rfl rfl rfl ?_)));clear S;intro w16 hk13 S
      refine Ld (Mf (Pj (by kernel_rfl) ?_))
      clear hsel
      replace S:=(S.nl [.blk b2 (An.enc (An.mk (W (x3 + r1.1)) r4.1 r2.1.Id Cj Cj Cj 0 0)) 35,.own v1 35 8 x1.length (x1.flatMap An.enc),.blk O [Aa,iV r4.2] 25] [false,true,true,true] rfl).k6 0 5 6 7 8 9 rfl
      exact Tn (⟨W (x3 + r1.1),r4.1,Cj,Cj,Cj,0,0,r4.2,h,S.nf [true,true,true] rfl (subR rfl)⟩)
     ·exact wp_skip (Tn (⟨r2.1.At,r2.1.Kind,r2.1.Who,r2.1.Club,r2.1.Race,r2.1.Age,r2.1.Time,r3.2,h,S.nf [true,true,true] rfl (subR rfl)⟩))
    clear S h;rintro a w9 ⟨x5,x6,x7,x8,x9,x10,x11,x12,h,S⟩;rw [hj2] at h;clear hj2 j2
    refine Tn (Fs (Fr (Vm S rfl rfl ?_)));clear S;intro a S
    obtain ⟨r5,hr5,h⟩:=Eh h
    refine Dy 2 S (b:=O) rfl rfl (fun _=>.blk O [Aa,iV r5.2] 25) (fun _=>Ck (vs:=[.pointer (some ⟨O,0,none⟩),iV 80]) ⟨(S.tm rfl),rfl,trivial⟩ call8) (Jy _ O Aa Aj (Af.mono (S.le_arg (Fd (i:=2) (e:=.blk O [Aa,iV x12] 25) rfl))) x12 (S.holds _ (List.mem_of_getElem? (i:=2) rfl)) 80 _ hr5) rfl (fun _ _ _ h=>⟨h.1,fun _ hc=>by cases hc;rfl⟩) ?_;clear S;intro v7 a w17 hv6 hk14 hn6 S
    replace hv6:=hv6.2
    subst hv6
    refine Dl ?_
    obtain ⟨j3,hj3,h⟩:=Dt h
    refine Dj (fun a w'=>∃ x13 : Int,∃ x14 : Int,∃ x15 : ByteArray,∃ x16 : ByteArray,∃ x17 : ByteArray,∃ x18 : ByteArray,∃ x19 : Int,∃ x20 : Int,∃ x21 : Int,j3 x13 x14 x15 x16 x17 x18 x19 x20 x21 = some r ∧ Sx w [O] nov [.blk b2 (An.enc (An.mk x13 x14 x15 x16 x17 x18 x19 x20)) 35,.own v1 35 8 x1.length (x1.flatMap An.enc),.blk O [Aa,iV x21] 25] [(0,.pointer (some ⟨O,0,none⟩)),(5,v1),(6,iV (W (x3 + r1.1))),(7,.pointer (some ⟨b2,0,none⟩)),(8,iV Bh),(9,iV x4)] 83 a w') ?_ ?_
    ·refine Fc h (S.tm rfl) (fun hb3 h=>?_) (fun hb3 h=>?_)
     ·refine Fr (Vm S rfl rfl ?_);clear S;intro a S
      obtain ⟨r6,hr6,h⟩:=Eh h
      refine Dy 2 S (b:=O) rfl rfl (fun _=>.blk O [Aa,iV r6.2] 25) (fun _=>Ck (vs:=[.pointer (some ⟨O,0,none⟩),iV 4]) ⟨(S.tm rfl),rfl,trivial⟩ call10) (Kt _ O Aa Aj (Af.mono (S.le_arg (Fd (i:=2) (e:=.blk O [Aa,iV r5.2] 25) rfl))) r5.2 (S.holds _ (List.mem_of_getElem? (i:=2) rfl)) 4 _ hr6) rfl (fun _ _ _ h=>⟨h.1,fun _ hc=>by cases hc;rfl⟩) ?_;clear S;intro v8 a w19 hv7 hk15 hn7 S
      replace hv7:=hv7.2
      subst hv7
      refine Dl ?_
      obtain ⟨j4,hj4,h⟩:=Dt h
      refine Dj (fun a w'=>∃ x22 : Int,∃ x23 : Int,∃ x24 : ByteArray,∃ x25 : ByteArray,∃ x26 : ByteArray,∃ x27 : ByteArray,∃ x28 : Int,∃ x29 : Int,∃ x30 : Int,j4 x22 x23 x24 x25 x26 x27 x28 x29 x30 = some r ∧ Sx w [O] nov [.blk b2 (An.enc (An.mk x22 x23 x24 x25 x26 x27 x28 x29)) 35,.own v1 35 8 x1.length (x1.flatMap An.enc),.blk O [Aa,iV x30] 25] [(0,.pointer (some ⟨O,0,none⟩)),(5,v1),(6,iV (W (x3 + r1.1))),(7,.pointer (some ⟨b2,0,none⟩)),(8,iV Bh),(9,iV x4)] 83 a w') ?_ ?_
      ·refine wp_block (Fr (Vq S Ip rfl rfl rfl fun a S=>Va S rfl rfl fun a S=>Dl ?_))
       obtain ⟨j5,hj5,h⟩:=Dt h
       refine Dj (fun a w'=>∃ x31 : Int,∃ x32 : Int,∃ x33 : ByteArray,∃ x34 : ByteArray,∃ x35 : ByteArray,∃ x36 : ByteArray,∃ x37 : Int,∃ x38 : Int,∃ x39 : Int,j5 x31 x32 x33 x34 x35 x36 x37 x38 x39 = some r ∧ Sx w [O] nov [.blk b2 (An.enc (An.mk x31 x32 x33 x34 x35 x36 x37 x38)) 35,.own v1 35 8 x1.length (x1.flatMap An.enc),.blk O [Aa,iV x39] 25] [(0,.pointer (some ⟨O,0,none⟩)),(5,v1),(6,iV (W (x3 + r1.1))),(7,.pointer (some ⟨b2,0,none⟩)),(8,iV Bh),(9,iV x4)] 83 a w') ?_ ?_
       ·refine Fc h (S.tm rfl) (fun hb4 h=>?_) (fun hb4 h=>?_)
        ·refine Fg (Vm S rfl rfl ?_);clear S;intro a S
         obtain ⟨r7,hr7,h⟩:=Eh h
         refine Dy 2 S (b:=O) rfl rfl (fun _=>.blk O [Aa,iV r7.2] 25) (fun _=>Ck (vs:=[.pointer (some ⟨O,0,none⟩),iV 0,iV 50]) ⟨(S.tm rfl),rfl,rfl,trivial⟩ call29) (Jj _ O Aa Aj (Af.mono (S.le_arg (Fd (i:=2) (e:=.blk O [Aa,iV r6.2] 25) rfl))) r6.2 (S.holds _ (List.mem_of_getElem? (i:=2) rfl)) 0 50 _ hr7) rfl (fun _ _ _ h=>⟨h.1,fun _ hc=>by cases hc;rfl⟩) ?_;clear S;intro v9 a w22 hv8 hk16 hn8 S
         replace hv8:=hv8.2
         subst hv8
         refine Vm S rfl rfl ?_;clear S;intro a S
         obtain ⟨r8,hr8,h⟩:=Eh h
         refine Dy 2 S (b:=O) rfl rfl (fun _=>.blk O [Aa,iV r8.2] 25) (fun _=>Ck (vs:=[.pointer (some ⟨O,0,none⟩),iV 1,iV 3]) ⟨(S.tm rfl),rfl,rfl,trivial⟩ call29) (Jj _ O Aa Aj (Af.mono (S.le_arg (Fd (i:=2) (e:=.blk O [Aa,iV r7.2] 25) rfl))) r7.2 (S.holds _ (List.mem_of_getElem? (i:=2) rfl)) 1 3 _ hr8) rfl (fun _ _ _ h=>⟨h.1,fun _ hc=>by cases hc;rfl⟩) ?_;clear S;intro v10 a w23 hv9 hk17 hn9 S
         replace hv9:=hv9.2
         subst hv9
         refine Vf Lj S rfl rfl fun a S=>Gy S (S.tm rfl) (S.tm rfl) (i:=0) (off:=0) rfl sizeOf3 (vs:=[iV r7.1]) rfl rfl rfl rfl ?_;clear S;intro w24 hk18 S
         refine Vf Jq S rfl rfl fun a S=>Gy S (S.tm rfl) (S.tm rfl) (i:=0) (off:=1) rfl sizeOf3 (vs:=[iV r8.1]) rfl rfl rfl rfl ?_;clear S;intro w25 hk19 S
         refine Ld ?_
         replace S:=(S.nl [.blk b2 (An.enc (An.mk r7.1 r8.1 r2.1.Id x7 x8 x9 x10 x11)) 35,.own v1 35 8 x1.length (x1.flatMap An.enc),.blk O [Aa,iV r8.2] 25] [true,true,true] rfl).k6 0 5 6 7 8 9 rfl
         exact Tn (⟨r7.1,r8.1,r2.1.Id,x7,x8,x9,x10,x11,r8.2,h,S.nf [true,true,true] rfl (subR rfl)⟩)
        ·refine Fr (Vq S Ip rfl rfl rfl fun a S=>Va S rfl rfl fun a S=>Dl ?_)
         obtain ⟨j6,hj6,h⟩:=Dt h
         refine Dj (fun a w'=>∃ x40 : ByteArray,∃ x41 : ByteArray,∃ x42 : ByteArray,∃ x43 : ByteArray,∃ x44 : Int,∃ x45 : Int,∃ x46 : Int,j6 x40 x41 x42 x43 x44 x45 x46 = some r ∧ Sx w [O] nov [.blk b2 (An.enc (An.mk x5 x6 x40 x41 x42 x43 x44 x45)) 35,.own v1 35 8 x1.length (x1.flatMap An.enc),.blk O [Aa,iV x46] 25] [(0,.pointer (some ⟨O,0,none⟩)),(5,v1),(6,iV (W (x3 + r1.1))),(7,.pointer (some ⟨b2,0,none⟩)),(8,iV Bh),(9,iV x4)] 83 a w') ?_ ?_
         ·refine Fc h (S.tm rfl) (fun hb5 h=>?_) (fun hb5 h=>?_)
          ·obtain ⟨j7,hj7,h⟩:=Dt h
           refine Dj (fun a w'=>∃ x47 : ByteArray,∃ x48 : ByteArray,∃ x49 : Int,j7 x47 x48 x49 = some r ∧ Sx w [O] nov [.blk b2 (An.enc (An.mk x5 x6 x47 x48 x8 x9 x10 x11)) 35,.own v1 35 8 x1.length (x1.flatMap An.enc),.blk O [Aa,iV x49] 25] [(0,.pointer (some ⟨O,0,none⟩)),(5,v1),(6,iV (W (x3 + r1.1))),(7,.pointer (some ⟨b2,0,none⟩)),(8,iV Bh),(9,iV x4)] 83 a w') ?_ ?_
           ·obtain ⟨r9,hr9,h⟩:=Eh h
            obtain ⟨r10,hr10,h⟩:=Eh h
            refine Fi [11,13] ([O]) Tryz.mixed S rfl (by kernel_rfl) ?_;clear S;intro w34 hk26 hsel S
            refine Ed 0 S hsel rfl rfl (by kernel_rfl) (by kernel_rfl) rfl (fun _=>(Rm (S.tm rfl))) fun a S=>Ed 1 S hsel rfl rfl (by kernel_rfl) (by kernel_rfl) rfl (fun _=>(Fx Iw (S.tm rfl))) fun a S=>Co 2 S hsel rfl (by kernel_rfl) (by kernel_rfl) (by kernel_rfl) (by kernel_rfl) rfl (fun _ hw=>(Hr isAgg9 (off:=0) (o:=2) (S.tm rfl) ((S.blk_mem (i:=0) (cells:=(An.enc (An.mk x5 x6 r2.1.Id x7 x8 x9 x10 x11))) (b:=b2) (T:=35) rfl (Jd (i:=2) (j:=0) (e:=.blk O [Aa,iV r6.2] 25) (e':=.blk b2 (An.enc (An.mk x5 x6 r2.1.Id x7 x8 x9 x10 x11)) 35) S rfl rfl rfl)).kept hw) rfl)) fun a S=>Ed 5 S hsel rfl rfl (by kernel_rfl) (by kernel_rfl) rfl (fun _=>(Rm (S.tm rfl))) fun a S=>Ed 6 S hsel rfl rfl (by kernel_rfl) (by kernel_rfl) rfl (fun _=>(Fx St (S.tm rfl))) fun a S=>Co 7 S hsel rfl (by kernel_rfl) (by kernel_rfl) (by kernel_rfl) (by kernel_rfl) rfl (fun _ hw=>(Hr isAgg9 (off:=0) (o:=3) (S.tm rfl) ((S.blk_mem (i:=0) (cells:=(An.enc (An.mk x5 x6 r2.1.Id x7 x8 x9 x10 x11))) (b:=b2) (T:=35) rfl (Jd (i:=2) (j:=0) (e:=.blk O [Aa,iV r6.2] 25) (e':=.blk b2 (An.enc (An.mk x5 x6 r2.1.Id x7 x8 x9 x10 x11)) 35) S rfl rfl rfl)).kept hw) rfl)) fun a S=>Sr 3 8 (by kernel_rfl) rfl rfl ?_ ?_
            ·refine De S underlying42 sizeOf9 zeroValue9 rfl rfl (pv:=[(0,sV Cj),(1,sV r2.1.Id),(2,sV k_A)]) ⟨rfl,rfl,rfl,(S.tm rfl),rfl,rfl,trivial⟩ (cs:=[sV Cj,sV r2.1.Id,sV k_A]) (by kernel_rfl) rfl ?_;clear S;intro a w35 b7 hz7 hk27 S
             refine Ld (Ej (Keep.none hk27) (Sr 4 8 (by kernel_rfl) rfl rfl ?_ ?_))
             ·refine Dy 3 S (b:=O) rfl rfl (fun _=>.blk O [Aa,iV r9.2] 25) (fun _=>Ck (vs:=[.pointer (some ⟨O,0,none⟩),.slice (some ⟨b7,0,none⟩) 3 3]) ⟨(S.tm rfl),(S.tm rfl),trivial⟩ call28) (Eu _ O Aa Aj (Af.mono (S.le_arg (Fd (i:=3) (e:=.blk O [Aa,iV r6.2] 25) rfl))) r6.2 (S.holds _ (List.mem_of_getElem? (i:=3) rfl)) (.slice (some ⟨b7,0,none⟩) 3 3) [Cj,r2.1.Id,k_A] (Fy Ex S (i:=0) rfl rfl rfl rfl ((Jd (i:=3) (j:=0) (e:=.blk O [Aa,iV r6.2] 25) (e':=.blk b7 [sV Cj,sV r2.1.Id,sV k_A] 9) S rfl rfl rfl) _ rfl)) _ hr9) rfl (fun _ _ _ h=>⟨h.1,fun _ hc=>by cases hc;rfl⟩) ?_;clear S;intro v13 a w36 hv12 hk28 hn12 S
              replace hv12:=hv12.2
              subst hv12
              refine Ld (Ej hk28 (Ed 10 S hsel rfl rfl (by kernel_rfl) (by kernel_rfl) rfl (fun _=>(Fx Iw (S.tm rfl))) fun a S=>Ea 8 (by kernel_rfl) rfl (De S underlying42 sizeOf9 zeroValue9 rfl rfl (pv:=[(0,sV Cj),(1,sV x7)]) ⟨rfl,rfl,rfl,(S.tm rfl),trivial⟩ (cs:=[sV Cj,sV x7]) (by kernel_rfl) rfl ?_)));clear S;intro a w37 b8 hz8 hk29 S
              refine Ld (Ej (Keep.none hk29) (Ea 9 (by kernel_rfl) rfl ?_))
              refine Dy 4 S (b:=O) rfl rfl (fun _=>.blk O [Aa,iV r10.2] 25) (fun _=>Ck (vs:=[.pointer (some ⟨O,0,none⟩),.slice (some ⟨b8,0,none⟩) 2 2]) ⟨(S.tm rfl),(S.tm rfl),trivial⟩ call28) (Eu _ O Aa Aj (Af.mono (S.le_arg (Fd (i:=4) (e:=.blk O [Aa,iV r9.2] 25) rfl))) r9.2 (S.holds _ (List.mem_of_getElem? (i:=4) rfl)) (.slice (some ⟨b8,0,none⟩) 2 2) [Cj,x7] (Fy Ex S (i:=0) rfl rfl rfl rfl ((Jd (i:=4) (j:=0) (e:=.blk O [Aa,iV r9.2] 25) (e':=.blk b8 [sV Cj,sV x7] 9) S rfl rfl rfl) _ rfl)) _ hr10) rfl (fun _ _ _ h=>⟨h.1,fun _ hc=>by cases hc;rfl⟩) ?_;clear S;intro v14 a w38 hv13 hk30 hn13 S
              replace hv13:=hv13.2
              subst hv13
              refine Ld (Ej hk30 (Me 11 ([O] ++ [b2]) rfl (by kernel_rfl) rfl (Gy S (S.tm rfl) (S.tm rfl) (i:=2) (off:=2) rfl sizeOf9 (vs:=[sV r9.1]) rfl rfl rfl rfl ?_)));clear S;intro w39 hk31 S
              refine Ld (Mf (Co 12 S hsel rfl rfl rfl (by kernel_rfl) (by kernel_rfl) rfl (fun _ hw=>(Fx St (S.tm rfl))) fun a S=>Ea 13 (by kernel_rfl) rfl (Gy S (S.tm rfl) (S.tm rfl) (i:=2) (off:=3) rfl sizeOf9 (vs:=[sV r10.1]) rfl rfl rfl rfl ?_)));clear S;intro w40 hk32 S
              refine Ld ?_
              refine Ej (hk32.sub (by intro y hy;simp at hy ⊢;simp [hy])) ?_
              refine Pj (by kernel_rfl) ?_
              clear hsel
              replace S:=(S.nl [.blk b2 (An.enc (An.mk x5 x6 r9.1 r10.1 x8 x9 x10 x11)) 35,.own v1 35 8 x1.length (x1.flatMap An.enc),.blk O [Aa,iV r10.2] 25] [false,false,true,true,true] rfl).k6 0 5 6 7 8 9 rfl
              exact Tn (⟨r9.1,r10.1,r10.2,h,S.nf [true,true,true] rfl (subR rfl)⟩)
             ·refine De S underlying42 sizeOf9 zeroValue9 rfl rfl (pv:=[(0,sV Cj),(1,sV x7)]) ⟨rfl,rfl,rfl,(S.tm rfl),trivial⟩ (cs:=[sV Cj,sV x7]) (by kernel_rfl) rfl ?_;clear S;intro a w41 b9 hz9 hk33 S
              refine Ld (Ej (Keep.none hk33) (Ea 4 (by kernel_rfl) rfl ?_))
              refine Dy 4 S (b:=O) rfl rfl (fun _=>.blk O [Aa,iV r9.2] 25) (fun _=>Ck (vs:=[.pointer (some ⟨O,0,none⟩),.slice (some ⟨b7,0,none⟩) 3 3]) ⟨(S.tm rfl),(S.tm rfl),trivial⟩ call28) (Eu _ O Aa Aj (Af.mono (S.le_arg (Fd (i:=4) (e:=.blk O [Aa,iV r6.2] 25) rfl))) r6.2 (S.holds _ (List.mem_of_getElem? (i:=4) rfl)) (.slice (some ⟨b7,0,none⟩) 3 3) [Cj,r2.1.Id,k_A] (Fy Ex S (i:=1) rfl rfl rfl rfl ((Jd (i:=4) (j:=1) (e:=.blk O [Aa,iV r6.2] 25) (e':=.blk b7 [sV Cj,sV r2.1.Id,sV k_A] 9) S rfl rfl rfl) _ rfl)) _ hr9) rfl (fun _ _ _ h=>⟨h.1,fun _ hc=>by cases hc;rfl⟩) ?_;clear S;intro v15 a w42 hv14 hk34 hn14 S
              replace hv14:=hv14.2
              subst hv14
              refine Ld (Ej hk34 (Ed 10 S hsel rfl rfl (by kernel_rfl) (by kernel_rfl) rfl (fun _=>(Fx Iw (S.tm rfl))) fun a S=>Ea 9 (by kernel_rfl) rfl ?_))
              refine Dy 4 S (b:=O) rfl rfl (fun _=>.blk O [Aa,iV r10.2] 25) (fun _=>Ck (vs:=[.pointer (some ⟨O,0,none⟩),.slice (some ⟨b9,0,none⟩) 2 2]) ⟨(S.tm rfl),(S.tm rfl),trivial⟩ call28) (Eu _ O Aa Aj (Af.mono (S.le_arg (Fd (i:=4) (e:=.blk O [Aa,iV r9.2] 25) rfl))) r9.2 (S.holds _ (List.mem_of_getElem? (i:=4) rfl)) (.slice (some ⟨b9,0,none⟩) 2 2) [Cj,x7] (Fy Ex S (i:=0) rfl rfl rfl rfl ((Jd (i:=4) (j:=0) (e:=.blk O [Aa,iV r9.2] 25) (e':=.blk b9 [sV Cj,sV x7] 9) S rfl rfl rfl) _ rfl)) _ hr10) rfl (fun _ _ _ h=>⟨h.1,fun _ hc=>by cases hc;rfl⟩) ?_;clear S;intro v16 a w43 hv15 hk35 hn15 S
              replace hv15:=hv15.2
              subst hv15
              refine Ld (Ej hk35 (Me 11 ([O] ++ [b2]) rfl (by kernel_rfl) rfl (Gy S (S.tm rfl) (S.tm rfl) (i:=2) (off:=2) rfl sizeOf9 (vs:=[sV r9.1]) rfl rfl rfl rfl ?_)));clear S;intro w44 hk36 S
              refine Ld (Mf (Co 12 S hsel rfl rfl rfl (by kernel_rfl) (by kernel_rfl) rfl (fun _ hw=>(Fx St (S.tm rfl))) fun a S=>Ea 13 (by kernel_rfl) rfl (Gy S (S.tm rfl) (S.tm rfl) (i:=2) (off:=3) rfl sizeOf9 (vs:=[sV r10.1]) rfl rfl rfl rfl ?_)));clear S;intro w45 hk37 S
              refine Ld ?_
              refine Ej (hk37.sub (by intro y hy;simp at hy ⊢;simp [hy])) ?_
              refine Pj (by kernel_rfl) ?_
              clear hsel
              replace S:=(S.nl [.blk b2 (An.enc (An.mk x5 x6 r9.1 r10.1 x8 x9 x10 x11)) 35,.own v1 35 8 x1.length (x1.flatMap An.enc),.blk O [Aa,iV r10.2] 25] [false,false,true,true,true] rfl).k6 0 5 6 7 8 9 rfl
              exact Tn (⟨r9.1,r10.1,r10.2,h,S.nf [true,true,true] rfl (subR rfl)⟩)
            ·refine De S underlying42 sizeOf9 zeroValue9 rfl rfl (pv:=[(0,sV Cj),(1,sV x7)]) ⟨rfl,rfl,rfl,(S.tm rfl),trivial⟩ (cs:=[sV Cj,sV x7]) (by kernel_rfl) rfl ?_;clear S;intro a w46 b10 hz10 hk38 S
             refine Ld (Ej (Keep.none hk38) (Ea 3 (by kernel_rfl) rfl (De S underlying42 sizeOf9 zeroValue9 rfl rfl (pv:=[(0,sV Cj),(1,sV r2.1.Id),(2,sV k_A)]) ⟨rfl,rfl,rfl,(S.tm rfl),rfl,rfl,trivial⟩ (cs:=[sV Cj,sV r2.1.Id,sV k_A]) (by kernel_rfl) rfl ?_)));clear S;intro a w47 b11 hz11 hk39 S
             refine Ld (Ej (Keep.none hk39) (Ea 4 (by kernel_rfl) rfl ?_))
             refine Dy 4 S (b:=O) rfl rfl (fun _=>.blk O [Aa,iV r9.2] 25) (fun _=>Ck (vs:=[.pointer (some ⟨O,0,none⟩),.slice (some ⟨b11,0,none⟩) 3 3]) ⟨(S.tm rfl),(S.tm rfl),trivial⟩ call28) (Eu _ O Aa Aj (Af.mono (S.le_arg (Fd (i:=4) (e:=.blk O [Aa,iV r6.2] 25) rfl))) r6.2 (S.holds _ (List.mem_of_getElem? (i:=4) rfl)) (.slice (some ⟨b11,0,none⟩) 3 3) [Cj,r2.1.Id,k_A] (Fy Ex S (i:=0) rfl rfl rfl rfl ((Jd (i:=4) (j:=0) (e:=.blk O [Aa,iV r6.2] 25) (e':=.blk b11 [sV Cj,sV r2.1.Id,sV k_A] 9) S rfl rfl rfl) _ rfl)) _ hr9) rfl (fun _ _ _ h=>⟨h.1,fun _ hc=>by cases hc;rfl⟩) ?_;clear S;intro v17 a w48 hv16 hk40 hn16 S
             replace hv16:=hv16.2
             subst hv16
             refine Ld (Ej hk40 (Ed 10 S hsel rfl rfl (by kernel_rfl) (by kernel_rfl) rfl (fun _=>(Fx Iw (S.tm rfl))) fun a S=>Ea 9 (by kernel_rfl) rfl ?_))
             refine Dy 4 S (b:=O) rfl rfl (fun _=>.blk O [Aa,iV r10.2] 25) (fun _=>Ck (vs:=[.pointer (some ⟨O,0,none⟩),.slice (some ⟨b10,0,none⟩) 2 2]) ⟨(S.tm rfl),(S.tm rfl),trivial⟩ call28) (Eu _ O Aa Aj (Af.mono (S.le_arg (Fd (i:=4) (e:=.blk O [Aa,iV r9.2] 25) rfl))) r9.2 (S.holds _ (List.mem_of_getElem? (i:=4) rfl)) (.slice (some ⟨b10,0,none⟩) 2 2) [Cj,x7] (Fy Ex S (i:=1) rfl rfl rfl rfl ((Jd (i:=4) (j:=1) (e:=.blk O [Aa,iV r9.2] 25) (e':=.blk b10 [sV Cj,sV x7] 9) S rfl rfl rfl) _ rfl)) _ hr10) rfl (fun _ _ _ h=>⟨h.1,fun _ hc=>by cases hc;rfl⟩) ?_;clear S;intro v18 a w49 hv17 hk41 hn17 S
             replace hv17:=hv17.2
             subst hv17
             refine Ld (Ej hk41 (Me 11 ([O] ++ [b2]) rfl (by kernel_rfl) rfl (Gy S (S.tm rfl) (S.tm rfl) (i:=2) (off:=2) rfl sizeOf9 (vs:=[sV r9.1]) rfl rfl rfl rfl ?_)));clear S;intro w50 hk42 S
             refine Ld (Mf (Co 12 S hsel rfl rfl rfl (by kernel_rfl) (by kernel_rfl) rfl (fun _ hw=>(Fx St (S.tm rfl))) fun a S=>Ea 13 (by kernel_rfl) rfl (Gy S (S.tm rfl) (S.tm rfl) (i:=2) (off:=3) rfl sizeOf9 (vs:=[sV r10.1]) rfl rfl rfl rfl ?_)));clear S;intro w51 hk43 S
             refine Ld ?_
             refine Ej (hk43.sub (by intro y hy;simp at hy ⊢;simp [hy])) ?_
             refine Pj (by kernel_rfl) ?_
             clear hsel
             replace S:=(S.nl [.blk b2 (An.enc (An.mk x5 x6 r9.1 r10.1 x8 x9 x10 x11)) 35,.own v1 35 8 x1.length (x1.flatMap An.enc),.blk O [Aa,iV r10.2] 25] [false,false,true,true,true] rfl).k6 0 5 6 7 8 9 rfl
             exact Tn (⟨r9.1,r10.1,r10.2,h,S.nf [true,true,true] rfl (subR rfl)⟩)
           clear S h;rintro a w27 ⟨x47,x48,x49,h,S⟩;rw [hj7] at h;clear hj7 j7
           exact Tn (⟨x47,x48,x8,x9,x10,x11,x49,h,S.nf [true,true,true] rfl (subR rfl)⟩)
          ·refine Fr (Vq S Ip rfl rfl rfl fun a S=>Va S rfl rfl fun a S=>Ld ?_)
           replace S:=(S.nl [.blk b2 (An.enc (An.mk x5 x6 r2.1.Id x7 x8 x9 x10 x11)) 35,.own v1 35 8 x1.length (x1.flatMap An.enc),.blk O [Aa,iV r6.2] 25] [true,true,true] rfl).k7 0 5 6 7 8 9 60 rfl
           refine Tn ?_
           obtain ⟨j8,hj8,h⟩:=Dt h
           refine Dj (fun a w'=>∃ x50 : ByteArray,∃ x51 : ByteArray,∃ x52 : Int,∃ x53 : Int,∃ x54 : Int,j8 x50 x51 x52 x53 x54 = some r ∧ Sx w [O] nov [.blk b2 (An.enc (An.mk x5 x6 r2.1.Id x7 x50 x51 x52 x53)) 35,.own v1 35 8 x1.length (x1.flatMap An.enc),.blk O [Aa,iV x54] 25] [(0,.pointer (some ⟨O,0,none⟩)),(5,v1),(6,iV (W (x3 + r1.1))),(7,.pointer (some ⟨b2,0,none⟩)),(8,iV Bh),(9,iV x4)] 83 a w') ?_ ?_
           ·refine Fc h (S.tm rfl) (fun hb6 h=>?_) (fun hb6 h=>?_)
            ·obtain ⟨j9,hj9,h⟩:=Dt h
             refine Dj (fun a w'=>∃ x55 : ByteArray,∃ x56 : ByteArray,∃ x57 : Int,j9 x55 x56 x57 = some r ∧ Sx w [O] nov [.blk b2 (An.enc (An.mk x5 x6 r2.1.Id x7 x55 x56 x10 x11)) 35,.own v1 35 8 x1.length (x1.flatMap An.enc),.blk O [Aa,iV x57] 25] [(0,.pointer (some ⟨O,0,none⟩)),(5,v1),(6,iV (W (x3 + r1.1))),(7,.pointer (some ⟨b2,0,none⟩)),(8,iV Bh),(9,iV x4)] 83 a w') ?_ ?_
             ·obtain ⟨r11,hr11,h⟩:=Eh h
              obtain ⟨r12,hr12,h⟩:=Eh h
              refine Fi [11,13] ([O]) Tryz.mixed S rfl (by kernel_rfl) ?_;clear S;intro w60 hk50 hsel S
              refine Ed 0 S hsel rfl rfl (by kernel_rfl) (by kernel_rfl) rfl (fun _=>(Rm (S.tm rfl))) fun a S=>Ed 1 S hsel rfl rfl (by kernel_rfl) (by kernel_rfl) rfl (fun _=>(Fx Ph (S.tm rfl))) fun a S=>Co 2 S hsel rfl (by kernel_rfl) (by kernel_rfl) (by kernel_rfl) (by kernel_rfl) rfl (fun _ hw=>(Hr isAgg9 (off:=0) (o:=4) (S.tm rfl) ((S.blk_mem (i:=0) (cells:=(An.enc (An.mk x5 x6 r2.1.Id x7 x8 x9 x10 x11))) (b:=b2) (T:=35) rfl (Jd (i:=2) (j:=0) (e:=.blk O [Aa,iV r6.2] 25) (e':=.blk b2 (An.enc (An.mk x5 x6 r2.1.Id x7 x8 x9 x10 x11)) 35) S rfl rfl rfl)).kept hw) rfl)) fun a S=>Ed 5 S hsel rfl rfl (by kernel_rfl) (by kernel_rfl) rfl (fun _=>(Rm (S.tm rfl))) fun a S=>Ed 6 S hsel rfl rfl (by kernel_rfl) (by kernel_rfl) rfl (fun _=>(Fx Rd (S.tm rfl))) fun a S=>Co 7 S hsel rfl (by kernel_rfl) (by kernel_rfl) (by kernel_rfl) (by kernel_rfl) rfl (fun _ hw=>(Hr isAgg9 (off:=0) (o:=5) (S.tm rfl) ((S.blk_mem (i:=0) (cells:=(An.enc (An.mk x5 x6 r2.1.Id x7 x8 x9 x10 x11))) (b:=b2) (T:=35) rfl (Jd (i:=2) (j:=0) (e:=.blk O [Aa,iV r6.2] 25) (e':=.blk b2 (An.enc (An.mk x5 x6 r2.1.Id x7 x8 x9 x10 x11)) 35) S rfl rfl rfl)).kept hw) rfl)) fun a S=>Sr 3 8 (by kernel_rfl) rfl rfl ?_ ?_
              ·refine De S underlying42 sizeOf9 zeroValue9 rfl rfl (pv:=[(0,sV k_A),(1,sV x8)]) ⟨rfl,rfl,rfl,(S.tm rfl),trivial⟩ (cs:=[sV k_A,sV x8]) (by kernel_rfl) rfl ?_;clear S;intro a w61 b14 hz14 hk51 S
               refine Ld (Ej (Keep.none hk51) (Sr 4 8 (by kernel_rfl) rfl rfl ?_ ?_))
               ·refine Dy 3 S (b:=O) rfl rfl (fun _=>.blk O [Aa,iV r11.2] 25) (fun _=>Ck (vs:=[.pointer (some ⟨O,0,none⟩),.slice (some ⟨b14,0,none⟩) 2 2]) ⟨(S.tm rfl),(S.tm rfl),trivial⟩ call28) (Eu _ O Aa Aj (Af.mono (S.le_arg (Fd (i:=3) (e:=.blk O [Aa,iV r6.2] 25) rfl))) r6.2 (S.holds _ (List.mem_of_getElem? (i:=3) rfl)) (.slice (some ⟨b14,0,none⟩) 2 2) [k_A,x8] (Fy Ex S (i:=0) rfl rfl rfl rfl ((Jd (i:=3) (j:=0) (e:=.blk O [Aa,iV r6.2] 25) (e':=.blk b14 [sV k_A,sV x8] 9) S rfl rfl rfl) _ rfl)) _ hr11) rfl (fun _ _ _ h=>⟨h.1,fun _ hc=>by cases hc;rfl⟩) ?_;clear S;intro v21 a w62 hv20 hk52 hn20 S
                replace hv20:=hv20.2
                subst hv20
                refine Ld (Ej hk52 (Ed 10 S hsel rfl rfl (by kernel_rfl) (by kernel_rfl) rfl (fun _=>(Fx Ph (S.tm rfl))) fun a S=>Ea 8 (by kernel_rfl) rfl (De S underlying42 sizeOf9 zeroValue9 rfl rfl (pv:=[(0,sV Cj),(1,sV x9)]) ⟨rfl,rfl,rfl,(S.tm rfl),trivial⟩ (cs:=[sV Cj,sV x9]) (by kernel_rfl) rfl ?_)));clear S;intro a w63 b15 hz15 hk53 S
                refine Ld (Ej (Keep.none hk53) (Ea 9 (by kernel_rfl) rfl ?_))
                refine Dy 4 S (b:=O) rfl rfl (fun _=>.blk O [Aa,iV r12.2] 25) (fun _=>Ck (vs:=[.pointer (some ⟨O,0,none⟩),.slice (some ⟨b15,0,none⟩) 2 2]) ⟨(S.tm rfl),(S.tm rfl),trivial⟩ call28) (Eu _ O Aa Aj (Af.mono (S.le_arg (Fd (i:=4) (e:=.blk O [Aa,iV r11.2] 25) rfl))) r11.2 (S.holds _ (List.mem_of_getElem? (i:=4) rfl)) (.slice (some ⟨b15,0,none⟩) 2 2) [Cj,x9] (Fy Ex S (i:=0) rfl rfl rfl rfl ((Jd (i:=4) (j:=0) (e:=.blk O [Aa,iV r11.2] 25) (e':=.blk b15 [sV Cj,sV x9] 9) S rfl rfl rfl) _ rfl)) _ hr12) rfl (fun _ _ _ h=>⟨h.1,fun _ hc=>by cases hc;rfl⟩) ?_;clear S;intro v22 a w64 hv21 hk54 hn21 S
                replace hv21:=hv21.2
                subst hv21
                refine Ld (Ej hk54 (Me 11 ([O] ++ [b2]) rfl (by kernel_rfl) rfl (Gy S (S.tm rfl) (S.tm rfl) (i:=2) (off:=4) rfl sizeOf9 (vs:=[sV r11.1]) rfl rfl rfl rfl ?_)));clear S;intro w65 hk55 S
                refine Ld (Mf (Co 12 S hsel rfl rfl rfl (by kernel_rfl) (by kernel_rfl) rfl (fun _ hw=>(Fx Rd (S.tm rfl))) fun a S=>Ea 13 (by kernel_rfl) rfl (Gy S (S.tm rfl) (S.tm rfl) (i:=2) (off:=5) rfl sizeOf9 (vs:=[sV r12.1]) rfl rfl rfl rfl ?_)));clear S;intro w66 hk56 S
                refine Ld ?_
                refine Ej (hk56.sub (by intro y hy;simp at hy ⊢;simp [hy])) ?_
                refine Pj (by kernel_rfl) ?_
                clear hsel
                replace S:=(S.nl [.blk b2 (An.enc (An.mk x5 x6 r2.1.Id x7 r11.1 r12.1 x10 x11)) 35,.own v1 35 8 x1.length (x1.flatMap An.enc),.blk O [Aa,iV r12.2] 25] [false,false,true,true,true] rfl).k6 0 5 6 7 8 9 rfl
                exact Tn (⟨r11.1,r12.1,r12.2,h,S.nf [true,true,true] rfl (subR rfl)⟩)
               ·refine De S underlying42 sizeOf9 zeroValue9 rfl rfl (pv:=[(0,sV Cj),(1,sV x9)]) ⟨rfl,rfl,rfl,(S.tm rfl),trivial⟩ (cs:=[sV Cj,sV x9]) (by kernel_rfl) rfl ?_;clear S;intro a w67 b16 hz16 hk57 S
                refine Ld (Ej (Keep.none hk57) (Ea 4 (by kernel_rfl) rfl ?_))
                refine Dy 4 S (b:=O) rfl rfl (fun _=>.blk O [Aa,iV r11.2] 25) (fun _=>Ck (vs:=[.pointer (some ⟨O,0,none⟩),.slice (some ⟨b14,0,none⟩) 2 2]) ⟨(S.tm rfl),(S.tm rfl),trivial⟩ call28) (Eu _ O Aa Aj (Af.mono (S.le_arg (Fd (i:=4) (e:=.blk O [Aa,iV r6.2] 25) rfl))) r6.2 (S.holds _ (List.mem_of_getElem? (i:=4) rfl)) (.slice (some ⟨b14,0,none⟩) 2 2) [k_A,x8] (Fy Ex S (i:=1) rfl rfl rfl rfl ((Jd (i:=4) (j:=1) (e:=.blk O [Aa,iV r6.2] 25) (e':=.blk b14 [sV k_A,sV x8] 9) S rfl rfl rfl) _ rfl)) _ hr11) rfl (fun _ _ _ h=>⟨h.1,fun _ hc=>by cases hc;rfl⟩) ?_;clear S;intro v23 a w68 hv22 hk58 hn22 S
                replace hv22:=hv22.2
                subst hv22
                refine Ld (Ej hk58 (Ed 10 S hsel rfl rfl (by kernel_rfl) (by kernel_rfl) rfl (fun _=>(Fx Ph (S.tm rfl))) fun a S=>Ea 9 (by kernel_rfl) rfl ?_))
                refine Dy 4 S (b:=O) rfl rfl (fun _=>.blk O [Aa,iV r12.2] 25) (fun _=>Ck (vs:=[.pointer (some ⟨O,0,none⟩),.slice (some ⟨b16,0,none⟩) 2 2]) ⟨(S.tm rfl),(S.tm rfl),trivial⟩ call28) (Eu _ O Aa Aj (Af.mono (S.le_arg (Fd (i:=4) (e:=.blk O [Aa,iV r11.2] 25) rfl))) r11.2 (S.holds _ (List.mem_of_getElem? (i:=4) rfl)) (.slice (some ⟨b16,0,none⟩) 2 2) [Cj,x9] (Fy Ex S (i:=0) rfl rfl rfl rfl ((Jd (i:=4) (j:=0) (e:=.blk O [Aa,iV r11.2] 25) (e':=.blk b16 [sV Cj,sV x9] 9) S rfl rfl rfl) _ rfl)) _ hr12) rfl (fun _ _ _ h=>⟨h.1,fun _ hc=>by cases hc;rfl⟩) ?_;clear S;intro v24 a w69 hv23 hk59 hn23 S
                replace hv23:=hv23.2
                subst hv23
                refine Ld (Ej hk59 (Me 11 ([O] ++ [b2]) rfl (by kernel_rfl) rfl (Gy S (S.tm rfl) (S.tm rfl) (i:=2) (off:=4) rfl sizeOf9 (vs:=[sV r11.1]) rfl rfl rfl rfl ?_)));clear S;intro w70 hk60 S
                refine Ld (Mf (Co 12 S hsel rfl rfl rfl (by kernel_rfl) (by kernel_rfl) rfl (fun _ hw=>(Fx Rd (S.tm rfl))) fun a S=>Ea 13 (by kernel_rfl) rfl (Gy S (S.tm rfl) (S.tm rfl) (i:=2) (off:=5) rfl sizeOf9 (vs:=[sV r12.1]) rfl rfl rfl rfl ?_)));clear S;intro w71 hk61 S
                refine Ld ?_
                refine Ej (hk61.sub (by intro y hy;simp at hy ⊢;simp [hy])) ?_
                refine Pj (by kernel_rfl) ?_
                clear hsel
                replace S:=(S.nl [.blk b2 (An.enc (An.mk x5 x6 r2.1.Id x7 r11.1 r12.1 x10 x11)) 35,.own v1 35 8 x1.length (x1.flatMap An.enc),.blk O [Aa,iV r12.2] 25] [false,false,true,true,true] rfl).k6 0 5 6 7 8 9 rfl
                exact Tn (⟨r11.1,r12.1,r12.2,h,S.nf [true,true,true] rfl (subR rfl)⟩)
              ·refine De S underlying42 sizeOf9 zeroValue9 rfl rfl (pv:=[(0,sV Cj),(1,sV x9)]) ⟨rfl,rfl,rfl,(S.tm rfl),trivial⟩ (cs:=[sV Cj,sV x9]) (by kernel_rfl) rfl ?_;clear S;intro a w72 b17 hz17 hk62 S
               refine Ld (Ej (Keep.none hk62) (Ea 3 (by kernel_rfl) rfl (De S underlying42 sizeOf9 zeroValue9 rfl rfl (pv:=[(0,sV k_A),(1,sV x8)]) ⟨rfl,rfl,rfl,(S.tm rfl),trivial⟩ (cs:=[sV k_A,sV x8]) (by kernel_rfl) rfl ?_)));clear S;intro a w73 b18 hz18 hk63 S
               refine Ld (Ej (Keep.none hk63) (Ea 4 (by kernel_rfl) rfl ?_))
               refine Dy 4 S (b:=O) rfl rfl (fun _=>.blk O [Aa,iV r11.2] 25) (fun _=>Ck (vs:=[.pointer (some ⟨O,0,none⟩),.slice (some ⟨b18,0,none⟩) 2 2]) ⟨(S.tm rfl),(S.tm rfl),trivial⟩ call28) (Eu _ O Aa Aj (Af.mono (S.le_arg (Fd (i:=4) (e:=.blk O [Aa,iV r6.2] 25) rfl))) r6.2 (S.holds _ (List.mem_of_getElem? (i:=4) rfl)) (.slice (some ⟨b18,0,none⟩) 2 2) [k_A,x8] (Fy Ex S (i:=0) rfl rfl rfl rfl ((Jd (i:=4) (j:=0) (e:=.blk O [Aa,iV r6.2] 25) (e':=.blk b18 [sV k_A,sV x8] 9) S rfl rfl rfl) _ rfl)) _ hr11) rfl (fun _ _ _ h=>⟨h.1,fun _ hc=>by cases hc;rfl⟩) ?_;clear S;intro v25 a w74 hv24 hk64 hn24 S
               replace hv24:=hv24.2
               subst hv24
               refine Ld (Ej hk64 (Ed 10 S hsel rfl rfl (by kernel_rfl) (by kernel_rfl) rfl (fun _=>(Fx Ph (S.tm rfl))) fun a S=>Ea 9 (by kernel_rfl) rfl ?_))
               refine Dy 4 S (b:=O) rfl rfl (fun _=>.blk O [Aa,iV r12.2] 25) (fun _=>Ck (vs:=[.pointer (some ⟨O,0,none⟩),.slice (some ⟨b17,0,none⟩) 2 2]) ⟨(S.tm rfl),(S.tm rfl),trivial⟩ call28) (Eu _ O Aa Aj (Af.mono (S.le_arg (Fd (i:=4) (e:=.blk O [Aa,iV r11.2] 25) rfl))) r11.2 (S.holds _ (List.mem_of_getElem? (i:=4) rfl)) (.slice (some ⟨b17,0,none⟩) 2 2) [Cj,x9] (Fy Ex S (i:=1) rfl rfl rfl rfl ((Jd (i:=4) (j:=1) (e:=.blk O [Aa,iV r11.2] 25) (e':=.blk b17 [sV Cj,sV x9] 9) S rfl rfl rfl) _ rfl)) _ hr12) rfl (fun _ _ _ h=>⟨h.1,fun _ hc=>by cases hc;rfl⟩) ?_;clear S;intro v26 a w75 hv25 hk65 hn25 S
               replace hv25:=hv25.2
               subst hv25
               refine Ld (Ej hk65 (Me 11 ([O] ++ [b2]) rfl (by kernel_rfl) rfl (Gy S (S.tm rfl) (S.tm rfl) (i:=2) (off:=4) rfl sizeOf9 (vs:=[sV r11.1]) rfl rfl rfl rfl ?_)));clear S;intro w76 hk66 S
               refine Ld (Mf (Co 12 S hsel rfl rfl rfl (by kernel_rfl) (by kernel_rfl) rfl (fun _ hw=>(Fx Rd (S.tm rfl))) fun a S=>Ea 13 (by kernel_rfl) rfl (Gy S (S.tm rfl) (S.tm rfl) (i:=2) (off:=5) rfl sizeOf9 (vs:=[sV r12.1]) rfl rfl rfl rfl ?_)));clear S;intro w77 hk67 S
               refine Ld ?_
               refine Ej (hk67.sub (by intro y hy;simp at hy ⊢;simp [hy])) ?_
               refine Pj (by kernel_rfl) ?_
               clear hsel
               replace S:=(S.nl [.blk b2 (An.enc (An.mk x5 x6 r2.1.Id x7 r11.1 r12.1 x10 x11)) 35,.own v1 35 8 x1.length (x1.flatMap An.enc),.blk O [Aa,iV r12.2] 25] [false,false,true,true,true] rfl).k6 0 5 6 7 8 9 rfl
               exact Tn (⟨r11.1,r12.1,r12.2,h,S.nf [true,true,true] rfl (subR rfl)⟩)
             clear S h;rintro a w53 ⟨x55,x56,x57,h,S⟩;rw [hj9] at h;clear hj9 j9
             exact Tn (⟨x55,x56,x10,x11,x57,h,S.nf [true,true,true] rfl (subR rfl)⟩)
            ·refine Fg (Vm S rfl rfl ?_);clear S;intro a S
             obtain ⟨r13,hr13,h⟩:=Eh h
             refine Dy 2 S (b:=O) rfl rfl (fun _=>.blk O [Aa,iV r13.2] 25) (fun _=>Ck (vs:=[.pointer (some ⟨O,0,none⟩),iV 0,iV 150]) ⟨(S.tm rfl),rfl,rfl,trivial⟩ call29) (Jj _ O Aa Aj (Af.mono (S.le_arg (Fd (i:=2) (e:=.blk O [Aa,iV r6.2] 25) rfl))) r6.2 (S.holds _ (List.mem_of_getElem? (i:=2) rfl)) 0 150 _ hr13) rfl (fun _ _ _ h=>⟨h.1,fun _ hc=>by cases hc;rfl⟩) ?_;clear S;intro v27 a w78 hv26 hk68 hn26 S
             replace hv26:=hv26.2
             subst hv26
             refine Vm S rfl rfl ?_;clear S;intro a S
             obtain ⟨r14,hr14,h⟩:=Eh h
             refine Dy 2 S (b:=O) rfl rfl (fun _=>.blk O [Aa,iV r14.2] 25) (fun _=>Ck (vs:=[.pointer (some ⟨O,0,none⟩),iV 1,iV 360000]) ⟨(S.tm rfl),rfl,rfl,trivial⟩ call29) (Jj _ O Aa Aj (Af.mono (S.le_arg (Fd (i:=2) (e:=.blk O [Aa,iV r13.2] 25) rfl))) r13.2 (S.holds _ (List.mem_of_getElem? (i:=2) rfl)) 1 360000 _ hr14) rfl (fun _ _ _ h=>⟨h.1,fun _ hc=>by cases hc;rfl⟩) ?_;clear S;intro v28 a w79 hv27 hk69 hn27 S
             replace hv27:=hv27.2
             subst hv27
             refine Vf Wc S rfl rfl fun a S=>Gy S (S.tm rfl) (S.tm rfl) (i:=0) (off:=6) rfl sizeOf3 (vs:=[iV r13.1]) rfl rfl rfl rfl ?_;clear S;intro w80 hk70 S
             refine Vf Uc S rfl rfl fun a S=>Gy S (S.tm rfl) (S.tm rfl) (i:=0) (off:=7) rfl sizeOf3 (vs:=[iV r14.1]) rfl rfl rfl rfl ?_;clear S;intro w81 hk71 S
             exact Dl (⟨x8,x9,r13.1,r14.1,r14.2,h,S.nf [true,true,true] rfl (subR rfl)⟩)
           clear S h;rintro a w52 ⟨x50,x51,x52,x53,x54,h,S⟩;rw [hj8] at h;clear hj8 j8
           exact Tn (⟨r2.1.Id,x7,x50,x51,x52,x53,x54,h,S.nf [true,true,true] rfl (subR rfl)⟩)
         clear S h;rintro a w26 ⟨x40,x41,x42,x43,x44,x45,x46,h,S⟩;rw [hj6] at h;clear hj6 j6
         exact Tn (⟨x5,x6,x40,x41,x42,x43,x44,x45,x46,h,S.nf [true,true,true] rfl (subR rfl)⟩)
       clear S h;rintro a w21 ⟨x31,x32,x33,x34,x35,x36,x37,x38,x39,h,S⟩;rw [hj5] at h;clear hj5 j5
       exact Hj (Tn (⟨x31,x32,x33,x34,x35,x36,x37,x38,x39,h,S.nf [true,true,true] rfl (subR rfl)⟩))
      clear S h;rintro a w20 ⟨x22,x23,x24,x25,x26,x27,x28,x29,x30,h,S⟩;rw [hj4] at h;clear hj4 j4
      exact Tn (⟨x22,x23,x24,x25,x26,x27,x28,x29,x30,h,S.nf [true,true,true] rfl (subR rfl)⟩)
     ·exact wp_skip (Tn (⟨x5,x6,r2.1.Id,x7,x8,x9,x10,x11,r5.2,h,S.nf [true,true,true] rfl (subR rfl)⟩))
    clear S h;rintro a w18 ⟨x13,x14,x15,x16,x17,x18,x19,x20,x21,h,S⟩;rw [hj3] at h;clear hj3 j3
    refine Tn (Fg (Vm S rfl rfl fun a S=>lv S (Ey isAgg35 sizeOf35 (off:=0) (o:=0) (part:=(An.enc (An.mk x13 x14 x15 x16 x17 x18 x19 x20))) rfl rfl (S.tm rfl) (S.cellsAt (i:=0) rfl)) rfl fun a S=>De S underlying28 sizeOf35 zeroValue35 rfl rfl (pv:=[(0,.agg (An.enc (An.mk x13 x14 x15 x16 x17 x18 x19 x20)).toArray)]) ⟨rfl,(S.tm rfl),trivial⟩ (cs:=[iV x13,iV x14,sV x15,sV x16,sV x17,sV x18,iV x19,iV x20]) (by kernel_rfl) rfl ?_));clear S;intro a w82 b19 hz19 hk72 S
    obtain ⟨hc1,h⟩:=Gz h
    refine Kw Eo An.enc_ok S (S.tm rfl) (i:=2) rfl (S.tm rfl) (j:=0) rfl (ys:=[(An.mk x13 x14 x15 x16 x17 x18 x19 x20)]) rfl rfl rfl rfl (by have:=Lh hc1;omega) rfl ?_;clear S;intro v29 a w83 hk73 S
    exact Va S rfl rfl fun a S=>Ld (Hj (Tn (Fg (Vq S Ew rfl rfl rfl fun a S=>Vm S rfl rfl fun a S=>Dl (⟨m1,⟨(x1 ++ [(An.mk x13 x14 x15 x16 x17 x18 x19 x20)]),x21,W (x3 + r1.1),W (x4 + 1),v29,h,S.nf [false,false,true,true] rfl ⟨rfl,rfl,rfl,rfl,rfl,trivial⟩⟩,Nat.lt_succ_self _⟩)))))
   ·exact wp_exit (Eb (Eb (Gj (Tn (⟨x1,x2,v1,h,S.nf [true,true] rfl ⟨rfl,trivial⟩⟩)))))
 clear S h;rintro a w2 ⟨x1,x2,v1,h,S⟩;rw [hj1] at h;clear hj1 j1
 refine Tn (Fr (Vm S rfl rfl ?_));clear S;intro a S
 obtain ⟨r15,hr15,h⟩:=Eh h
 refine Ke 0 S rfl (fun _=>.own v1 35 8 r15.length (r15.flatMap An.enc)) (fun _=>Ck (vs:=[v1,.func (.func 33) #[] #[]]) ⟨(S.tm rfl),rfl,trivial⟩ call32) (Io _ v1 x1 (S.holds _ (List.mem_of_getElem? (i:=0) rfl)) _ hr15) rfl (fun _ _ _ h=>⟨h.1,fun _ hc=>hc⟩) ?_;clear S;intro v30 a w84 hv28 hk74 hn28 S
 replace hv28:=hv28.2
 subst hv28
 refine Dz (Vm S rfl rfl ?_);clear S;intro a S
 obtain ⟨r16,hr16,h⟩:=Eh h
 have hz20:=S.keep.size
 refine Ke 0 S rfl (fun v31=>.own v31 35 8 r16.length (r16.flatMap An.enc)) (fun _=>Ck (vs:=[v1,.func (.func 35) #[] #[]]) ⟨(S.tm rfl),rfl,trivial⟩ call34) (Lu _ v1 r15 (S.holds _ (List.mem_of_getElem? (i:=0) rfl)) _ hr16) rfl (fun _ _ _ h=>⟨h.1,fun _ hc=>h.2.symm.trans hc⟩) ?_;clear S;intro v31 a w85 hv29 hk75 hn29 S
 clear hv29
 refine Va S rfl rfl fun a S=>Dl (wp_ret ?_)
 obtain rfl:=Option.some.inj h
 exact Dx S results5 rfl ⟨(S.holds _ (List.mem_of_getElem? (i:=1) rfl)),(Wl S (i:=0) rfl (fun c hc hh=>Pt S (i:=1) rfl rfl (j:=0) rfl rfl (by simp at hc;subst hc;exact hh)))⟩
theorem Ou (w : World) (Am : Value) (Ae : List An) (Bg : Slc (view w []) 8 Am (Ae.map An.enc)) (r : (List An)) (h : Ib Ae = some r) :
    Calls prog 9 [Am].toArray w (Ret w [] fun τ v _=>Le τ 35 8 v r.length (r.flatMap An.enc)):=by
 refine Fe func9 rfl ntmps9 rfl fun a S=>?_
 unfold Ib at h
 replace S:=S.k1 0 rfl
 refine Fr (Vk S rfl rfl fun a S=>Dl (Fs (Fr (Vm S rfl rfl fun a S=>lv S (Zq underlying28 (Eg Bg) (S.tm rfl) rfl) rfl fun a S=>Ld ?_))))
 refine Tn (Wi (S.tm rfl) (fun hb1=>?_) (fun hb1=>?_))
 ·have hx1:=Zp Bg hb1
  subst hx1
  replace h : some ([] : List An) = some r:=h
  refine Fr (Vk S rfl rfl fun a S=>Dl (wp_ret (Cn ?_)))
  obtain rfl:=Option.some.inj h
  exact Dx S results9 rfl (Jv _ _ _)
 ·refine wp_skip (Tn (Fr (Tc S underlying28 sizeOf35 rfl ?_)));clear S;intro a w1 b1 hz1 hk1 S
  refine Vm S rfl rfl ?_;clear S;intro a S
  replace S:=S.litOwn (i:=0) (xs:=([] : List An)) rfl An.enc_ok rfl rfl rfl
  replace S:=S.nk [.own (.slice (some ⟨b1,0,none⟩) 0 0) 35 8 (([] : List An) : List An).length ((([] : List An) : List An).flatMap An.enc)] [(0,Am),(2,.slice none 0 0),(3,Am),(4,bV (DW Am)),(5,(.slice (some ⟨b1,0,none⟩) 0 0)),(6,Am)] [] rfl (subR rfl)
  obtain ⟨hc1,h⟩:=Gz h
  refine Ur (Y:=[]) Eo An.enc_ok S (S.tm rfl) (i:=0) rfl (S.tm rfl) (Bg.mono (S.le_arg (fun _ h=>by cases h))) rfl rfl (by have:=Lh hc1;omega) rfl ?_;clear S;intro v1 a w2 hk2 S
  refine Va S rfl rfl fun a S=>Dl (wp_ret ?_)
  obtain rfl:=Option.some.inj h
  exact Dx S results9 rfl (Ll S (i:=0) rfl rfl)
theorem Pz (w : World) (Ar : Int) (r : Bool) (h : Lm Ar = r) :
    Calls prog 41 [iV Ar].toArray w (Ret w [] fun _ v _=>v = bV r):=by
 refine Fe func41 rfl ntmps41 rfl fun a S=>?_
 unfold Lm at h
 replace S:=S.k1 0 rfl
 refine Fr (Vk S rfl rfl fun a S=>Dz (Vm S rfl rfl fun a S=>Vq S Td rfl rfl rfl fun a S=>Vm S rfl rfl fun a S=>Gi 3 (fun a w'=>Keep [] w w' ∧ Sx w [] nov [] [(8,bV ((decide (0 ≤ Ar)) && (decide (Ar < 345686400000))))] 9 a w') ?_ ?_))
 ·rcases Bool.eq_false_or_eq_true (decide (0 ≤ Ar)) with hb1 | hb1
  ·exact Cq S rfl rfl rfl hb1 (Vm S rfl rfl fun a S=>Cq S rfl rfl rfl hb1 (Vq S Ee rfl rfl rfl fun a S=>lv S (Gb hb1 (S.tm rfl) (S.tm rfl)) rfl fun a S=>Dl (⟨Keep.refl _ _,S.nf [] rfl ⟨rfl,trivial⟩⟩)))
  ·exact Fl S rfl rfl rfl (Hq hb1) rfl (fun a S=>Fl S rfl rfl rfl (Hq hb1) rfl (fun a S=>lv S (Gc (decide (Ar < 345686400000)) hb1 (S.tm rfl) rfl) rfl fun a S=>Dl (⟨Keep.refl _ _,S.nf [] rfl ⟨rfl,trivial⟩⟩)) rfl) rfl
 clear S;rintro a w1 ⟨hk1,S⟩
 refine Va S rfl rfl fun a S=>Dl (wp_ret ?_)
 subst h
 exact Dx S results41 rfl rfl
theorem Nc (w : World) (Ar : Int) (Aw : Int) (As : Int) (r : Bool) (h : Jm Ar Aw As = r) :
    Calls prog 66 [iV Ar,iV Aw,iV As].toArray w (Ret w [] fun _ v _=>v = bV r):=by
 refine Fe func66 rfl ntmps66 rfl fun a S=>?_
 unfold Jm at h
 replace S:=S.k3 0 1 2 rfl
 refine Fr (Vk S rfl rfl fun a S=>Dz (Vm S rfl rfl fun a S=>Vm S rfl rfl fun a S=>Vb S Td rfl rfl rfl fun a S=>Vm S rfl rfl ?_));clear S;intro a S
 refine Gi 4 (fun a w'=>Keep [] w w' ∧ Sx w [] nov [] [(14,bV ((decide (Aw ≤ Ar)) && (decide (Ar ≤ As))))] 15 a w') ?_ ?_
 ·rcases Bool.eq_false_or_eq_true (decide (Aw ≤ Ar)) with hb1 | hb1
  ·exact Cq S rfl rfl rfl hb1 (Vm S rfl rfl fun a S=>Cq S rfl rfl rfl hb1 (Vm S rfl rfl fun a S=>Cq S rfl rfl rfl hb1 (Vb S Sb rfl rfl rfl fun a S=>lv S (Gb hb1 (S.tm rfl) (S.tm rfl)) rfl fun a S=>Dl (⟨Keep.refl _ _,S.nf [] rfl ⟨rfl,trivial⟩⟩))))
  ·iterate 3 (refine Fl S rfl rfl rfl (Hq hb1) rfl ?_ rfl;clear S;intro a S)
   exact lv S (Gc (decide (Ar ≤ As)) hb1 (S.tm rfl) rfl) rfl fun a S=>Dl (⟨Keep.refl _ _,S.nf [] rfl ⟨rfl,trivial⟩⟩)
 clear S;rintro a w1 ⟨hk1,S⟩
 refine Va S rfl rfl fun a S=>Dl (wp_ret ?_)
 subst h
 exact Dx S results66 rfl rfl
theorem Vr (w : World) (s c : ByteArray) (r : ByteArray) (h : Nx s c = some r) : Calls prog 64 [.string s,.string c].toArray w (Ret w [] fun _ v _=>v = .string r):=by
  unfold Nx at h
  obtain ⟨h1,h⟩:=Gz h
  obtain ⟨h2,h⟩:=Gz h
  obtain ⟨h3,h⟩:=Gz h
  obtain rfl:=Option.some.inj h
  exact Ys (Any.strings_Trim_laid Tryz.lays160 (by kernel_rfl) s c w (by simpa using h1) (by simpa using h2) (fun j b hb=>by simpa using List.all_eq_true.1 h3 b (List.mem_of_getElem? hb)))
end Go.Proofs.YtgfjjiheamdgbaaGreatDoor
