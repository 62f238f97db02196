/- Each Go function computes its plain twin,by program. -/
import Derived.Test.YtocmlionnalaaaaGreatDoorTab
import Derived.Test.YtocmlionnalaaaaGreatDoorLay
import Derived.Test.YtocmlionnalaaaaGreatDoorText
namespace Go.Proofs.YtocmlionnalaaaaGreatDoor
open Go
open Go.Proofs.Tryz
theorem Oj (w : World) (Ai : Int) (Ao : Int) (r : Int) (h : Ki Ai Ao = some r) :
    Calls prog 43 [iV Ai,iV Ao].toArray w (Ret w [] fun _ v _=>v = iV r):=by
 refine Fe func43 rfl ntmps43 rfl fun a S=>?_
 unfold Ki at h
 replace S:=S.k2 0 1 rfl
 refine Fr (Vk S rfl rfl fun a S=>Dl (Fs (Fr (Vm S rfl rfl fun a S=>Vq S Dp rfl rfl rfl fun a S=>Ld ?_))))
 refine Tn (Fc h (S.tm rfl) (fun hb1 h=>?_) (fun hb1 h=>?_))
 ·refine Fr (Vk S rfl rfl fun a S=>Dl (wp_ret (Cp ?_)))
  obtain rfl:=Option.some.inj h
  exact Ee S results43 rfl rfl
 ·refine wp_skip (Tn (Fr (Vm S rfl rfl fun a S=>Vm S rfl rfl ?_)));clear S;intro a S
  obtain ⟨hc1,h⟩:=Gn h
  refine lv S (Yq (S.tm rfl) (S.tm rfl) (Ti hc1)) rfl fun a S=>Va S rfl rfl fun a S=>Dl (Fs (Fr (Vm S rfl rfl fun a S=>Vq S Dp rfl rfl rfl fun a S=>Dl ?_)))
  obtain ⟨j1,hj1,h⟩:=Dw h
  refine Dk (fun a w'=>∃ x1 : Int,j1 x1 = some r ∧ Sx w [] nov [] [(0,iV x1)] 16 a w') ?_ ?_
  ·refine Fc h (S.tm rfl) (fun hb2 h=>?_) (fun hb2 h=>?_)
   ·exact Fg (Vm S rfl rfl fun a S=>Vm S rfl rfl fun a S=>Vb S Eh rfl rfl rfl fun a S=>Va S rfl rfl fun a S=>Dl (⟨W ((Int.tmod Ai Ao) + Ao),h,S.nf [] rfl ⟨rfl,trivial⟩⟩))
   ·exact wp_skip (Tn (⟨Int.tmod Ai Ao,h,S.nf [] rfl ⟨rfl,trivial⟩⟩))
  clear S h;rintro a w1 ⟨x1,h,S⟩;rw [hj1] at h;clear hj1 j1
  refine Tn (Fr (Vm S rfl rfl fun a S=>Va S rfl rfl fun a S=>Dl (wp_ret ?_)))
  obtain rfl:=Option.some.inj h
  exact Ee S results43 rfl rfl
set_option maxRecDepth 20000 in
theorem Ln (w : World) (O : Nat) (U : Value) (Ag : List Int) (Af : Slc (view w [O]) 1 U (Ag.map eInt)) (Ac : Int) (As : (LEnt.blk O [U,iV Ac] 25).holds w) (Ao : Int) (r : Int × Int) (h : Jo Ag Ac Ao = some r) :
    Calls prog 21 [.pointer (some ⟨O,0,none⟩),iV Ao].toArray w (Ret w [O] fun _ v w'=>(LEnt.blk O [U,iV r.2] 25).holds w' ∧ v = iV r.1):=by
 refine Jt [O] [.blk O [U,iV Ac] 25] func21 rfl ntmps21 rfl (fun e he=>by simp only [List.mem_singleton] at he;subst he;exact As) (by simp [fps,LEnt.fp]) (by simp [fps,LEnt.fp]) fun a S=>?_
 unfold Jo at h
 replace S:=(S.nl [.blk O [U,iV Ac] 25] [true] rfl).k2 0 1 rfl
 refine Fr (Vk S rfl rfl fun a S=>Dz (Vm S rfl rfl fun a S=>Vu S Gj rfl rfl fun a S=>Vf Uh S rfl rfl fun a S=>Vl isAgg3 0 S rfl rfl rfl rfl ?_));clear S;intro a S
 refine Vq S Eh rfl rfl rfl fun a S=>Vu S Gj rfl rfl fun a S=>Vf Uh S rfl rfl fun a S=>Hy S (S.tm rfl) (S.tm rfl) (i:=0) (off:=1) rfl sizeOf3 (vs:=[iV (W (Ac + 1))]) rfl rfl rfl rfl ?_;clear S;intro w1 hk1 S
 refine Dl (Fs (Fr (Vm S rfl rfl fun a S=>Vu S Gj rfl rfl fun a S=>Vf Wg S rfl rfl fun a S=>Vl isAgg22 0 S rfl rfl rfl rfl fun a S=>lv S (Ec Mz (S.tm rfl) (Ew Af)) rfl fun a S=>Vq S Kq rfl rfl rfl ?_)));clear S;intro a S
 refine Ld ?_
 replace S:=(S.nl [.blk O [U,iV (W (Ac + 1))] 25] [true] rfl).k3 0 1 19 rfl
 refine Tn (Fc h (S.tm rfl) (fun hb1 h=>?_) (fun hb1 h=>?_))
 ·refine Fr (Vm S rfl rfl fun a S=>Vu S Gj rfl rfl fun a S=>Vf Uh S rfl rfl fun a S=>Vl isAgg3 0 S rfl rfl rfl rfl fun a S=>Vq S Qv rfl rfl rfl fun a S=>Vm S rfl rfl ?_);clear S;intro a S
  obtain ⟨r1,hr1,h⟩:=Em h
  refine Df S (fun _=>Ck (vs:=[iV (W ((W (Ac + 1)) * 7919)),iV Ao]) ⟨(S.tm rfl),(S.tm rfl),trivial⟩ call43) (Oj _ (W ((W (Ac + 1)) * 7919)) Ao _ hr1) rfl ?_;clear S;intro v1 a w2 hv1 hk2 hn1 S
  subst hv1
  refine Va S rfl rfl fun a S=>Dl (wp_ret (Cp ?_))
  obtain rfl:=Option.some.inj h
  exact Ee S results21 rfl ⟨(S.holds _ (List.mem_of_getElem? (i:=0) rfl)),rfl⟩
 ·refine wp_skip (Tn (Fs (Gf [] ([]) Tryz.mixed S rfl (by kernel_rfl) ?_)));clear S;intro w3 hk3 hsel S
  refine Ji [0,1,2,3,4,5,6,7,8,9,10,11] hsel (by kernel_rfl) rfl ?_
  clear hsel
  refine Ei S rfl (Rm (S.tm rfl)) rfl fun a S=>Ei S rfl (Gj (S.tm rfl)) rfl fun a S=>Ei S rfl (Gp Uh (S.tm rfl)) rfl fun a S=>Ei S rfl (Od isAgg3 (S.tm rfl) (S.cell (i:=0) rfl rfl)) rfl fun a S=>Ei S rfl (It (S.tm rfl) rfl) rfl fun a S=>Ei S rfl (Rm (S.tm rfl)) rfl fun a S=>Ei S rfl (Gj (S.tm rfl)) rfl fun a S=>Ei S rfl (Gp Wg (S.tm rfl)) rfl fun a S=>Ei S rfl (Od isAgg22 (S.tm rfl) (S.cell (i:=0) rfl rfl)) rfl fun a S=>Ei S rfl (Ec Mz (S.tm rfl) (Ew Af)) rfl ?_;clear S;intro a S
  obtain ⟨hc1,h⟩:=Gn h
  refine Ei S rfl (Yq (S.tm rfl) (S.tm rfl) (Ti hc1)) rfl fun a S=>Ei S rfl (Ra (S.tm rfl)) rfl fun a S=>Ic ?_
  replace S:=S.k3 0 1 5 rfl
  refine Tn (Fs (Gf [] ([]) Tryz.mixed S rfl (by kernel_rfl) ?_));clear S;intro w4 hk4 hsel S
  refine Ji [0,1,2,3,4,5,6,7,8,9,10,11] hsel (by kernel_rfl) rfl ?_
  clear hsel
  refine Ei S rfl (Rm (S.tm rfl)) rfl fun a S=>Ei S rfl (Gj (S.tm rfl)) rfl fun a S=>Ei S rfl (Gp Uh (S.tm rfl)) rfl fun a S=>Ei S rfl (Od isAgg3 (S.tm rfl) (S.cell (i:=0) rfl rfl)) rfl fun a S=>Ei S rfl (It (S.tm rfl) rfl) rfl fun a S=>Ei S rfl (Rm (S.tm rfl)) rfl fun a S=>Ei S rfl (Gj (S.tm rfl)) rfl fun a S=>Ei S rfl (Gp Wg (S.tm rfl)) rfl fun a S=>Ei S rfl (Od isAgg22 (S.tm rfl) (S.cell (i:=0) rfl rfl)) rfl fun a S=>Ei S rfl (Ec Mz (S.tm rfl) (Ew Af)) rfl ?_;clear S;intro a S
  obtain ⟨hc2,h⟩:=Gn h
  refine Ei S rfl (DL (S.tm rfl) (S.tm rfl) (Ti hc2)) rfl fun a S=>Ei S rfl (Ra (S.tm rfl)) rfl fun a S=>Ic ?_
  replace S:=S.k4 0 1 5 6 rfl
  refine Tn (Fr (Vm S rfl rfl fun a S=>Vu S Gj rfl rfl fun a S=>Vf Wg S rfl rfl fun a S=>Vl isAgg22 0 S rfl rfl rfl rfl fun a S=>Vm S rfl rfl ?_));clear S;intro a S
  obtain ⟨hc3,h⟩:=Gn h
  obtain ⟨b1,o1,hm1,hr2⟩:=Ea (a:=a) (x:=.tmp 52) (y:=.tmp 53) (ty:=0) Mz Af (Cn hc3).1 (Cn hc3).2 (S.tm rfl) (S.tm rfl)
  refine lv S (hr2 _) rfl ?_;clear S;intro a S
  clear hr2
  refine lv S (Gy isAgg3 (off:=o1) (o:=0) (S.tm rfl) (hm1.at S.emb0) rfl) rfl ?_;clear S;intro a S
  obtain ⟨r2,hr3,h⟩:=Em h
  refine Df S (fun _=>Ck (vs:=[iV (nth Ag (Int.tmod (W ((W (Ac + 1)) - 1)) (Ag.length : Int))),iV 1073741824]) ⟨(S.tm rfl),rfl,trivial⟩ call43) (Oj _ (nth Ag (Int.tmod (W ((W (Ac + 1)) - 1)) (Ag.length : Int))) 1073741824 _ hr3) rfl ?_;clear S;intro v2 a w5 hv2 hk5 hn2 S
  subst hv2
  refine Vm S rfl rfl fun a S=>Vm S rfl rfl fun a S=>Vu S (Eh rfl) rfl rfl fun a S=>Vb S Qv rfl rfl rfl fun a S=>Vb S Eh rfl rfl rfl fun a S=>Vm S rfl rfl ?_;clear S;intro a S
  obtain ⟨r3,hr4,h⟩:=Em h
  refine Df S (fun _=>Ck (vs:=[iV (W (r2 + (W ((W (Int.tdiv (W ((W (Ac + 1)) - 1)) (Ag.length : Int))) * (W (7919 + (Int.tmod (W ((W (Ac + 1)) - 1)) (Ag.length : Int)))))))),iV Ao]) ⟨(S.tm rfl),(S.tm rfl),trivial⟩ call43) (Oj _ (W (r2 + (W ((W (Int.tdiv (W ((W (Ac + 1)) - 1)) (Ag.length : Int))) * (W (7919 + (Int.tmod (W ((W (Ac + 1)) - 1)) (Ag.length : Int)))))))) Ao _ hr4) rfl ?_;clear S;intro v3 a w6 hv3 hk6 hn3 S
  subst hv3
  refine Va S rfl rfl fun a S=>Ld ?_
  replace S:=S.k1 4 rfl
  refine Tn (wp_ret ?_)
  obtain rfl:=Option.some.inj h
  exact Ee S results21 rfl ⟨(S.holds _ (List.mem_of_getElem? (i:=0) rfl)),rfl⟩
theorem Pg (w : World) (O : Nat) (U : Value) (Ag : List Int) (Af : Slc (view w [O]) 1 U (Ag.map eInt)) (Ac : Int) (As : (LEnt.blk O [U,iV Ac] 25).holds w) (At : Int) (Ap : Int) (r : Int × Int) (h : Jy Ag Ac At Ap = some r) :
    Calls prog 15 [.pointer (some ⟨O,0,none⟩),iV At,iV Ap].toArray w (Ret w [O] fun _ v w'=>(LEnt.blk O [U,iV r.2] 25).holds w' ∧ v = iV r.1):=by
 refine Jt [O] [.blk O [U,iV Ac] 25] func15 rfl ntmps15 rfl (fun e he=>by simp only [List.mem_singleton] at he;subst he;exact As) (by simp [fps,LEnt.fp]) (by simp [fps,LEnt.fp]) fun a S=>?_
 unfold Jy at h
 replace S:=(S.nl [.blk O [U,iV Ac] 25] [true] rfl).k3 0 1 2 rfl
 refine Fr (Vk S rfl rfl fun a S=>Dl (Fs (Fr (Vm S rfl rfl fun a S=>Vm S rfl rfl fun a S=>Vb S Dp rfl rfl rfl ?_))));clear S;intro a S
 refine Dl (Fc h (S.tm rfl) (fun hb1 h=>?_) (fun hb1 h=>?_))
 ·refine Fr (Vm S rfl rfl fun a S=>Va S rfl rfl fun a S=>Dl (wp_ret (Cp ?_)))
  obtain rfl:=Option.some.inj h
  exact Ee S results15 rfl ⟨(S.holds _ (List.mem_of_getElem? (i:=0) rfl)),rfl⟩
 ·refine wp_skip (Tn (Fs (Fg ?_)))
  iterate 4 (refine Vm S rfl rfl ?_;clear S;intro a S)
  refine Vb S It rfl rfl rfl fun a S=>Vq S Eh rfl rfl rfl ?_;clear S;intro a S
  obtain ⟨r1,hr1,h⟩:=Em h
  refine Fv 0 S (b:=O) rfl rfl (fun _=>.blk O [U,iV r1.2] 25) (fun _=>Ck (vs:=[.pointer (some ⟨O,0,none⟩),iV (W ((W (Ap - At)) + 1))]) ⟨(S.tm rfl),(S.tm rfl),trivial⟩ call21) (Ln _ O U Ag (Af.mono (S.le_arg (Hn (i:=0) (e:=.blk O [U,iV Ac] 25) rfl))) Ac (S.holds _ (List.mem_of_getElem? (i:=0) rfl)) (W ((W (Ap - At)) + 1)) _ hr1) rfl (fun _ _ _ h=>⟨h.1,fun _ hc=>by cases hc;rfl⟩) ?_;clear S;intro v1 a w1 hv1 hk1 hn1 S
  replace hv1:=hv1.2
  subst hv1
  refine Vb S Eh rfl rfl rfl fun a S=>Va S rfl rfl fun a S=>Ld ?_
  replace S:=(S.nl [.blk O [U,iV r1.2] 25] [true] rfl).k1 6 rfl
  refine Tn (wp_ret ?_)
  obtain rfl:=Option.some.inj h
  exact Ee S results15 rfl ⟨(S.holds _ (List.mem_of_getElem? (i:=0) rfl)),rfl⟩
theorem Im (w : World) (O : Nat) (U : Value) (Ag : List Int) (Af : Slc (view w [O]) 1 U (Ag.map eInt)) (Ac : Int) (As : (LEnt.blk O [U,iV Ac] 25).holds w) (Z : Value) (Aa : List ByteArray) (Ab : Slc (view w [O]) 1 Z (Aa.map Hi)) (r : ByteArray × Int) (h : Jp Ag Ac Aa = some r) :
    Calls prog 16 [.pointer (some ⟨O,0,none⟩),Z].toArray w (Ret w [O] fun _ v w'=>(LEnt.blk O [U,iV r.2] 25).holds w' ∧ v = sV r.1):=by
 refine Jt [O] [.blk O [U,iV Ac] 25] func16 rfl ntmps16 rfl (fun e he=>by simp only [List.mem_singleton] at he;subst he;exact As) (by simp [fps,LEnt.fp]) (by simp [fps,LEnt.fp]) fun a S=>?_
 unfold Jp at h
 replace S:=(S.nl [.blk O [U,iV Ac] 25] [true] rfl).k2 0 1 rfl
 refine Fr (Vk S rfl rfl fun a S=>Dl (Fs (Fg ?_)))
 iterate 3 (refine Vm S rfl rfl ?_;clear S;intro a S)
 refine lv S (Ec Kp (S.tm rfl) (Ew Ab)) rfl ?_;clear S;intro a S
 obtain ⟨r1,hr1,h⟩:=Em h
 refine Fv 0 S (b:=O) rfl rfl (fun _=>.blk O [U,iV r1.2] 25) (fun _=>Ck (vs:=[.pointer (some ⟨O,0,none⟩),iV (Aa.length : Int)]) ⟨(S.tm rfl),(S.tm rfl),trivial⟩ call21) (Ln _ O U Ag (Af.mono (S.le_arg (Hn (i:=0) (e:=.blk O [U,iV Ac] 25) rfl))) Ac (S.holds _ (List.mem_of_getElem? (i:=0) rfl)) (Aa.length : Int) _ hr1) rfl (fun _ _ _ h=>⟨h.1,fun _ hc=>by cases hc;rfl⟩) ?_;clear S;intro v1 a w1 hv1 hk1 hn1 S
 replace hv1:=hv1.2
 subst hv1
 obtain ⟨hc1,h⟩:=Gn h
 obtain ⟨b1,o1,hm1,hr2⟩:=Ea (a:=a) (x:=.tmp 5) (y:=.tmp 9) (ty:=0) Kp Ab (Cn hc1).1 (Cn hc1).2 (S.tm rfl) (S.tm rfl)
 refine lv S (hr2 _) rfl ?_;clear S;intro a S
 clear hr2
 refine lv S (Gy isAgg9 (off:=o1) (o:=0) (S.tm rfl) (hm1.at S.emb0) rfl) rfl fun a S=>Va S rfl rfl fun a S=>Dl (wp_ret ?_)
 obtain rfl:=Option.some.inj h
 exact Ee S results16 rfl ⟨(S.holds _ (List.mem_of_getElem? (i:=0) rfl)),rfl⟩
theorem Ok (w : World) (O : Nat) (U : Value) (Ag : List Int) (Af : Slc (view w [O]) 1 U (Ag.map eInt)) (Ac : Int) (As : (LEnt.blk O [U,iV Ac] 25).holds w) (Z : Value) (Aa : List Int) (Ab : Slc (view w [O]) 1 Z (Aa.map eInt)) (r : Int × Int) (h : Ku Ag Ac Aa = some r) :
    Calls prog 17 [.pointer (some ⟨O,0,none⟩),Z].toArray w (Ret w [O] fun _ v w'=>(LEnt.blk O [U,iV r.2] 25).holds w' ∧ v = iV r.1):=by
 refine Jt [O] [.blk O [U,iV Ac] 25] func17 rfl ntmps17 rfl (fun e he=>by simp only [List.mem_singleton] at he;subst he;exact As) (by simp [fps,LEnt.fp]) (by simp [fps,LEnt.fp]) fun a S=>?_
 unfold Ku at h
 replace S:=(S.nl [.blk O [U,iV Ac] 25] [true] rfl).k2 0 1 rfl
 refine Fr (Vk S rfl rfl fun a S=>Dl (Fs (Fg ?_)))
 iterate 3 (refine Vm S rfl rfl ?_;clear S;intro a S)
 refine lv S (Ec Mz (S.tm rfl) (Ew Ab)) rfl ?_;clear S;intro a S
 obtain ⟨r1,hr1,h⟩:=Em h
 refine Fv 0 S (b:=O) rfl rfl (fun _=>.blk O [U,iV r1.2] 25) (fun _=>Ck (vs:=[.pointer (some ⟨O,0,none⟩),iV (Aa.length : Int)]) ⟨(S.tm rfl),(S.tm rfl),trivial⟩ call21) (Ln _ O U Ag (Af.mono (S.le_arg (Hn (i:=0) (e:=.blk O [U,iV Ac] 25) rfl))) Ac (S.holds _ (List.mem_of_getElem? (i:=0) rfl)) (Aa.length : Int) _ hr1) rfl (fun _ _ _ h=>⟨h.1,fun _ hc=>by cases hc;rfl⟩) ?_;clear S;intro v1 a w1 hv1 hk1 hn1 S
 replace hv1:=hv1.2
 subst hv1
 obtain ⟨hc1,h⟩:=Gn h
 obtain ⟨b1,o1,hm1,hr2⟩:=Ea (a:=a) (x:=.tmp 5) (y:=.tmp 9) (ty:=0) Mz Ab (Cn hc1).1 (Cn hc1).2 (S.tm rfl) (S.tm rfl)
 refine lv S (hr2 _) rfl ?_;clear S;intro a S
 clear hr2
 refine lv S (Gy isAgg3 (off:=o1) (o:=0) (S.tm rfl) (hm1.at S.emb0) rfl) rfl fun a S=>Va S rfl rfl fun a S=>Dl (wp_ret ?_)
 obtain rfl:=Option.some.inj h
 exact Ee S results17 rfl ⟨(S.holds _ (List.mem_of_getElem? (i:=0) rfl)),rfl⟩
theorem Lo (w : World) (O : Nat) (U : Value) (Ag : List Int) (Af : Slc (view w [O]) 1 U (Ag.map eInt)) (Ac : Int) (As : (LEnt.blk O [U,iV Ac] 25).holds w) (Ao : Int) (r : Bool × Int) (h : Jq Ag Ac Ao = some r) :
    Calls prog 18 [.pointer (some ⟨O,0,none⟩),iV Ao].toArray w (Ret w [O] fun _ v w'=>(LEnt.blk O [U,iV r.2] 25).holds w' ∧ v = bV r.1):=by
 refine Jt [O] [.blk O [U,iV Ac] 25] func18 rfl ntmps18 rfl (fun e he=>by simp only [List.mem_singleton] at he;subst he;exact As) (by simp [fps,LEnt.fp]) (by simp [fps,LEnt.fp]) fun a S=>?_
 unfold Jq at h
 replace S:=(S.nl [.blk O [U,iV Ac] 25] [true] rfl).k2 0 1 rfl
 refine Fr (Vk S rfl rfl fun a S=>Dz (Vm S rfl rfl fun a S=>Vm S rfl rfl ?_));clear S;intro a S
 obtain ⟨r1,hr1,h⟩:=Em h
 refine Fv 0 S (b:=O) rfl rfl (fun _=>.blk O [U,iV r1.2] 25) (fun _=>Ck (vs:=[.pointer (some ⟨O,0,none⟩),iV Ao]) ⟨(S.tm rfl),(S.tm rfl),trivial⟩ call21) (Ln _ O U Ag (Af.mono (S.le_arg (Hn (i:=0) (e:=.blk O [U,iV Ac] 25) rfl))) Ac (S.holds _ (List.mem_of_getElem? (i:=0) rfl)) Ao _ hr1) rfl (fun _ _ _ h=>⟨h.1,fun _ hc=>by cases hc;rfl⟩) ?_;clear S;intro v1 a w1 hv1 hk1 hn1 S
 replace hv1:=hv1.2
 subst hv1
 refine Vq S Kq rfl rfl rfl fun a S=>Va S rfl rfl fun a S=>Dl (wp_ret ?_)
 obtain rfl:=Option.some.inj h
 exact Ee S results18 rfl ⟨(S.holds _ (List.mem_of_getElem? (i:=0) rfl)),rfl⟩
theorem Qg (w : World) (O : Nat) (U : Value) (Ag : List Int) (Af : Slc (view w [O]) 1 U (Ag.map eInt)) (Ac : Int) (As : (LEnt.blk O [U,iV Ac] 25).holds w) (At : Int) (Ap : Int) (r : Int × Int) (h : Nv Ag Ac At Ap = some r) :
    Calls prog 19 [.pointer (some ⟨O,0,none⟩),iV At,iV Ap].toArray w (Ret w [O] fun _ v w'=>(LEnt.blk O [U,iV r.2] 25).holds w' ∧ v = iV r.1):=by
 refine Jt [O] [.blk O [U,iV Ac] 25] func19 rfl ntmps19 rfl (fun e he=>by simp only [List.mem_singleton] at he;subst he;exact As) (by simp [fps,LEnt.fp]) (by simp [fps,LEnt.fp]) fun a S=>?_
 unfold Nv at h
 replace S:=(S.nl [.blk O [U,iV Ac] 25] [true] rfl).k3 0 1 2 rfl
 refine Fr (Vk S rfl rfl fun a S=>Dl (Fs (Fr (Vm S rfl rfl ?_))));clear S;intro a S
 obtain ⟨r1,hr1,h⟩:=Em h
 refine Fv 0 S (b:=O) rfl rfl (fun _=>.blk O [U,iV r1.2] 25) (fun _=>Ck (vs:=[.pointer (some ⟨O,0,none⟩),iV 12]) ⟨(S.tm rfl),rfl,trivial⟩ call18) (Lo _ O U Ag (Af.mono (S.le_arg (Hn (i:=0) (e:=.blk O [U,iV Ac] 25) rfl))) Ac (S.holds _ (List.mem_of_getElem? (i:=0) rfl)) 12 _ hr1) rfl (fun _ _ _ h=>⟨h.1,fun _ hc=>by cases hc;rfl⟩) ?_;clear S;intro v1 a w1 hv1 hk1 hn1 S
 replace hv1:=hv1.2
 subst hv1
 refine Dl (Fc h (S.tm rfl) (fun hb1 h=>?_) (fun hb1 h=>?_))
 ·refine Fr (Vm S rfl rfl fun a S=>Vm S rfl rfl fun a S=>Vq S It rfl rfl rfl fun a S=>Vm S rfl rfl fun a S=>Vq S Eh rfl rfl rfl fun a S=>Vm S rfl rfl fun a S=>Vm S rfl rfl fun a S=>Eb S underlying22 sizeOf3 zeroValue3 rfl rfl (pv:=[(0,iV (W (At - 1))),(1,iV (W (Ap + 1))),(2,iV At),(3,iV Ap),(4,iV (-1099511627776)),(5,iV 1099511627776)]) ⟨rfl,(S.tm rfl),rfl,(S.tm rfl),rfl,(S.tm rfl),rfl,(S.tm rfl),rfl,rfl,rfl,rfl,trivial⟩ (cs:=[iV (W (At - 1)),iV (W (Ap + 1)),iV At,iV Ap,iV (-1099511627776),iV 1099511627776]) (by kernel_rfl) rfl ?_);clear S;intro a w2 b1 hz1 hk2 S
  obtain ⟨r2,hr2,h⟩:=Em h
  refine Fv 1 S (b:=O) rfl rfl (fun _=>.blk O [U,iV r2.2] 25) (fun _=>Ck (vs:=[.pointer (some ⟨O,0,none⟩),.slice (some ⟨b1,0,none⟩) 6 6]) ⟨(S.tm rfl),(S.tm rfl),trivial⟩ call17) (Ok _ O U Ag (Af.mono (S.le_arg (Hn (i:=1) (e:=.blk O [U,iV r1.2] 25) rfl))) r1.2 (S.holds _ (List.mem_of_getElem? (i:=1) rfl)) (.slice (some ⟨b1,0,none⟩) 6 6) [W (At - 1),W (Ap + 1),At,Ap,(-1099511627776),1099511627776] (Iw Nf S (i:=0) rfl rfl rfl rfl ((Mw (i:=1) (j:=0) (e:=.blk O [U,iV r1.2] 25) (e':=.blk b1 [iV (W (At - 1)),iV (W (Ap + 1)),iV At,iV Ap,iV (-1099511627776),iV 1099511627776] 3) S rfl rfl rfl) _ rfl)) _ hr2) rfl (fun _ _ _ h=>⟨h.1,fun _ hc=>by cases hc;rfl⟩) ?_;clear S;intro v2 a w3 hv2 hk3 hn2 S
  replace hv2:=hv2.2
  subst hv2
  refine Va S rfl rfl fun a S=>Ld ?_
  replace S:=(S.nl [.blk O [U,iV r2.2] 25] [false,true] rfl).k1 6 rfl
  refine Tn (wp_ret (Cp ?_))
  obtain rfl:=Option.some.inj h
  exact Ee S results19 rfl ⟨(S.holds _ (List.mem_of_getElem? (i:=0) rfl)),rfl⟩
 ·refine wp_skip (Tn (Fs (Fg ?_)))
  iterate 3 (refine Vm S rfl rfl ?_;clear S;intro a S)
  obtain ⟨r3,hr3,h⟩:=Em h
  refine Fv 0 S (b:=O) rfl rfl (fun _=>.blk O [U,iV r3.2] 25) (fun _=>Ck (vs:=[.pointer (some ⟨O,0,none⟩),iV At,iV Ap]) ⟨(S.tm rfl),(S.tm rfl),(S.tm rfl),trivial⟩ call15) (Pg _ O U Ag (Af.mono (S.le_arg (Hn (i:=0) (e:=.blk O [U,iV r1.2] 25) rfl))) r1.2 (S.holds _ (List.mem_of_getElem? (i:=0) rfl)) At Ap _ hr3) rfl (fun _ _ _ h=>⟨h.1,fun _ hc=>by cases hc;rfl⟩) ?_;clear S;intro v3 a w4 hv3 hk4 hn3 S
  replace hv3:=hv3.2
  subst hv3
  refine Va S rfl rfl fun a S=>Dl (wp_ret ?_)
  obtain rfl:=Option.some.inj h
  exact Ee S results19 rfl ⟨(S.holds _ (List.mem_of_getElem? (i:=0) rfl)),rfl⟩
theorem Ux (w : World) (O : Nat) (U : Value) (Ag : List Int) (Af : Slc (view w [O]) 1 U (Ag.map eInt)) (Ac : Int) (As : (LEnt.blk O [U,iV Ac] 25).holds w) (r : (List Dj) × Int) (h : Nj Ag Ac = some r) :
    Calls prog 4 [.pointer (some ⟨O,0,none⟩)].toArray w (Ret w [O] fun τ v w'=>(LEnt.blk O [U,iV r.2] 25).holds w' ∧ Pr τ 52 3 v r.1.length (r.1.flatMap Dj.enc)):=by
 refine Jt [O] [.blk O [U,iV Ac] 25] func4 rfl ntmps4 rfl (fun e he=>by simp only [List.mem_singleton] at he;subst he;exact As) (by simp [fps,LEnt.fp]) (by simp [fps,LEnt.fp]) fun a S=>?_
 unfold Nj at h
 replace S:=(S.nl [.blk O [U,iV Ac] 25] [true] rfl).k1 0 rfl
 refine Fr (Vk S rfl rfl fun a S=>Dz (Vk S rfl rfl ?_));clear S;intro a S
 replace S:=S.nil 52 3
 refine Dl (Fs (Fr (Vm S rfl rfl ?_)));clear S;intro a S
 obtain ⟨r1,hr1,h⟩:=Em h
 refine Fv 1 S (b:=O) rfl rfl (fun _=>.blk O [U,iV r1.2] 25) (fun _=>Ck (vs:=[.pointer (some ⟨O,0,none⟩),iV 0,iV 5]) ⟨(S.tm rfl),rfl,rfl,trivial⟩ call15) (Pg _ O U Ag (Af.mono (S.le_arg (Hn (i:=1) (e:=.blk O [U,iV Ac] 25) rfl))) Ac (S.holds _ (List.mem_of_getElem? (i:=1) rfl)) 0 5 _ hr1) rfl (fun _ _ _ h=>⟨h.1,fun _ hc=>by cases hc;rfl⟩) ?_;clear S;intro v1 a w1 hv1 hk1 hn1 S
 replace hv1:=hv1.2
 subst hv1
 refine lv S (Rm rfl) rfl fun a S=>Dl ?_
 replace S:=(S.nl [.own (.slice none 0 0) 52 3 ([] : List Dj).length (([] : List Dj).flatMap Dj.enc),.blk O [U,iV r1.2] 25] [true,true] rfl).k4 0 3 6 7 rfl
 obtain ⟨j1,hj1,h⟩:=Dw h
 refine Dk (fun a w'=>∃ x1 : List Dj,∃ x2 : Int,∃ v2 : Value,j1 x1 x2 = some r ∧ Sx w [O] nov [.own v2 52 3 x1.length (x1.flatMap Dj.enc),.blk O [U,iV x2] 25] [(3,v2)] 40 a w') ?_ ?_
 ·refine wp_block (Fq (fun (m1 : Nat) a w'=>∃ x1 : List Dj,∃ x2 : Int,∃ x3 : Int,∃ v2 : Value,Ht r1 Ag j1 m1 x1 x2 x3 = some r ∧ Sx w [O] nov [.own v2 52 3 x1.length (x1.flatMap Dj.enc),.blk O [U,iV x2] 25] [(0,.pointer (some ⟨O,0,none⟩)),(3,v2),(6,iV r1.1),(7,iV x3)] 40 a w') id ((r1.1 - 0).toNat + 2) ⟨([] : List Dj),r1.2,0,(.slice none 0 0),h,S.nf [true,true] rfl (subR rfl)⟩ ?_)
  clear S h;rintro m1 a w2 ⟨x1,x2,x3,v2,h,S⟩
  cases m1 with
  | zero=>rw [Ht.eq_1] at h;cases h
  | succ m1 =>
   rw [Ht.eq_2] at h
   refine Fr (Vb S Dp rfl rfl rfl fun a S=>Dl (Fs (Fc h (S.tm rfl) (fun hb1 h=>?_) (fun hb1 h=>?_))))
   ·refine wp_skip (Tn (Fs (wp_block (Fr (Vm S rfl rfl fun a S=>Eb S underlying75 sizeOf9 zeroValue9 rfl rfl (pv:=[(0,sV Ie),(1,sV Of),(2,sV Ya)]) ⟨rfl,rfl,rfl,rfl,rfl,rfl,trivial⟩ (cs:=[sV Ie,sV Of,sV Ya]) (by kernel_rfl) rfl ?_)))));clear S;intro a w4 b1 hz1 hk2 S
    obtain ⟨r2,hr2,h⟩:=Em h
    refine Fv 2 S (b:=O) rfl rfl (fun _=>.blk O [U,iV r2.2] 25) (fun _=>Ck (vs:=[.pointer (some ⟨O,0,none⟩),.slice (some ⟨b1,0,none⟩) 3 3]) ⟨(S.tm rfl),(S.tm rfl),trivial⟩ call16) (Im _ O U Ag (Af.mono (S.le_arg (Hn (i:=2) (e:=.blk O [U,iV x2] 25) rfl))) x2 (S.holds _ (List.mem_of_getElem? (i:=2) rfl)) (.slice (some ⟨b1,0,none⟩) 3 3) [Ie,Of,Ya] (Iw Fa S (i:=0) rfl rfl rfl rfl ((Mw (i:=2) (j:=0) (e:=.blk O [U,iV x2] 25) (e':=.blk b1 [sV Ie,sV Of,sV Ya] 9) S rfl rfl rfl) _ rfl)) _ hr2) rfl (fun _ _ _ h=>⟨h.1,fun _ hc=>by cases hc;rfl⟩) ?_;clear S;intro v3 a w5 hv2 hk3 hn2 S
    replace hv2:=hv2.2
    subst hv2
    refine Vm S rfl rfl fun a S=>Eb S underlying22 sizeOf3 zeroValue3 rfl rfl (pv:=[(0,iV 0),(1,iV 1),(2,iV 2),(3,iV 3),(4,iV 5)]) ⟨rfl,rfl,rfl,rfl,rfl,rfl,rfl,rfl,rfl,rfl,trivial⟩ (cs:=[iV 0,iV 1,iV 2,iV 3,iV 5]) (by kernel_rfl) rfl ?_;clear S;intro a w6 b2 hz2 hk4 S
    obtain ⟨r3,hr3,h⟩:=Em h
    refine Fv 3 S (b:=O) rfl rfl (fun _=>.blk O [U,iV r3.2] 25) (fun _=>Ck (vs:=[.pointer (some ⟨O,0,none⟩),.slice (some ⟨b2,0,none⟩) 5 5]) ⟨(S.tm rfl),(S.tm rfl),trivial⟩ call17) (Ok _ O U Ag (Af.mono (S.le_arg (Hn (i:=3) (e:=.blk O [U,iV r2.2] 25) rfl))) r2.2 (S.holds _ (List.mem_of_getElem? (i:=3) rfl)) (.slice (some ⟨b2,0,none⟩) 5 5) [0,1,2,3,5] (Iw Nf S (i:=0) rfl rfl rfl rfl ((Mw (i:=3) (j:=0) (e:=.blk O [U,iV r2.2] 25) (e':=.blk b2 [iV 0,iV 1,iV 2,iV 3,iV 5] 3) S rfl rfl rfl) _ rfl)) _ hr3) rfl (fun _ _ _ h=>⟨h.1,fun _ hc=>by cases hc;rfl⟩) ?_;clear S;intro v4 a w7 hv3 hk5 hn3 S
    replace hv3:=hv3.2
    subst hv3
    refine Vm S rfl rfl fun a S=>Eb S underlying22 sizeOf3 zeroValue3 rfl rfl (pv:=[(0,iV 1),(1,iV 2),(2,iV 3)]) ⟨rfl,rfl,rfl,rfl,rfl,rfl,trivial⟩ (cs:=[iV 1,iV 2,iV 3]) (by kernel_rfl) rfl ?_;clear S;intro a w8 b3 hz3 hk6 S
    obtain ⟨r4,hr4,h⟩:=Em h
    refine Fv 4 S (b:=O) rfl rfl (fun _=>.blk O [U,iV r4.2] 25) (fun _=>Ck (vs:=[.pointer (some ⟨O,0,none⟩),.slice (some ⟨b3,0,none⟩) 3 3]) ⟨(S.tm rfl),(S.tm rfl),trivial⟩ call17) (Ok _ O U Ag (Af.mono (S.le_arg (Hn (i:=4) (e:=.blk O [U,iV r3.2] 25) rfl))) r3.2 (S.holds _ (List.mem_of_getElem? (i:=4) rfl)) (.slice (some ⟨b3,0,none⟩) 3 3) [1,2,3] (Iw Nf S (i:=0) rfl rfl rfl rfl ((Mw (i:=4) (j:=0) (e:=.blk O [U,iV r3.2] 25) (e':=.blk b3 [iV 1,iV 2,iV 3] 3) S rfl rfl rfl) _ rfl)) _ hr4) rfl (fun _ _ _ h=>⟨h.1,fun _ hc=>by cases hc;rfl⟩) ?_;clear S;intro v5 a w9 hv4 hk7 hn4 S
    replace hv4:=hv4.2
    subst hv4
    refine lv S (Nu bt_50 (pv:=[(0,iV r3.1),(1,iV r4.1)]) ⟨rfl,(S.tm rfl),rfl,(S.tm rfl),trivial⟩ (cs:=[iV r3.1,iV r4.1]) (by kernel_rfl)) rfl fun a S=>lv S (Nu bt_52 (pv:=[(0,sV r2.1),(1,.agg #[iV r3.1,iV r4.1])]) ⟨rfl,(S.tm rfl),rfl,(S.tm rfl),trivial⟩ (cs:=[sV r2.1,iV r3.1,iV r4.1]) (by kernel_rfl)) rfl fun a S=>Iq S zeroValue52 (cs:=[sV Co,iV 0,iV 0]) rfl rfl ?_;clear S;intro a w10 b4 hz4 hk8 S
    refine Hy S (S.tm rfl) (S.tm rfl) (i:=0) (off:=0) rfl sizeOf52 (vs:=[sV r2.1,iV r3.1,iV r4.1]) rfl rfl rfl rfl ?_;clear S;intro w11 hk9 S
    refine Ld ?_
    replace S:=(S.nl [.blk b4 [sV r2.1,iV r3.1,iV r4.1] 52,.own v2 52 3 x1.length (x1.flatMap Dj.enc),.blk O [U,iV r4.2] 25] [true,false,false,false,true,true] rfl).k5 0 3 4 6 7 rfl
    refine Tn (Fs (Fr (Vm S rfl rfl ?_)));clear S;intro a S
    obtain ⟨r5,hr5,h⟩:=Em h
    refine Fv 2 S (b:=O) rfl rfl (fun _=>.blk O [U,iV r5.2] 25) (fun _=>Ck (vs:=[.pointer (some ⟨O,0,none⟩),iV 50]) ⟨(S.tm rfl),rfl,trivial⟩ call18) (Lo _ O U Ag (Af.mono (S.le_arg (Hn (i:=2) (e:=.blk O [U,iV r4.2] 25) rfl))) r4.2 (S.holds _ (List.mem_of_getElem? (i:=2) rfl)) 50 _ hr5) rfl (fun _ _ _ h=>⟨h.1,fun _ hc=>by cases hc;rfl⟩) ?_;clear S;intro v6 a w12 hv5 hk10 hn5 S
    replace hv5:=hv5.2
    subst hv5
    refine Dl ?_
    obtain ⟨j2,hj2,h⟩:=Dw h
    refine Dk (fun a w'=>∃ x4 : ByteArray,∃ x5 : Int,∃ x6 : Int,∃ x7 : Int,j2 x4 x5 x6 x7 = some r ∧ Sx w [O] nov [.blk b4 [sV x4,iV x5,iV x6] 52,.own v2 52 3 x1.length (x1.flatMap Dj.enc),.blk O [U,iV x7] 25] [(0,.pointer (some ⟨O,0,none⟩)),(3,v2),(4,.pointer (some ⟨b4,0,none⟩)),(6,iV r1.1),(7,iV x3)] 40 a w') ?_ ?_
    ·refine Fc h (S.tm rfl) (fun hb2 h=>?_) (fun hb2 h=>?_)
     ·refine Fg (Vm S rfl rfl fun a S=>Eb S underlying75 sizeOf9 zeroValue9 rfl rfl (pv:=[(0,sV Ie),(1,sV Co)]) ⟨rfl,rfl,rfl,rfl,trivial⟩ (cs:=[sV Ie,sV Co]) (by kernel_rfl) rfl ?_);clear S;intro a w14 b5 hz5 hk11 S
      obtain ⟨r6,hr6,h⟩:=Em h
      refine Fv 3 S (b:=O) rfl rfl (fun _=>.blk O [U,iV r6.2] 25) (fun _=>Ck (vs:=[.pointer (some ⟨O,0,none⟩),.slice (some ⟨b5,0,none⟩) 2 2]) ⟨(S.tm rfl),(S.tm rfl),trivial⟩ call16) (Im _ O U Ag (Af.mono (S.le_arg (Hn (i:=3) (e:=.blk O [U,iV r5.2] 25) rfl))) r5.2 (S.holds _ (List.mem_of_getElem? (i:=3) rfl)) (.slice (some ⟨b5,0,none⟩) 2 2) [Ie,Co] (Iw Fa S (i:=0) rfl rfl rfl rfl ((Mw (i:=3) (j:=0) (e:=.blk O [U,iV r5.2] 25) (e':=.blk b5 [sV Ie,sV Co] 9) S rfl rfl rfl) _ rfl)) _ hr6) rfl (fun _ _ _ h=>⟨h.1,fun _ hc=>by cases hc;rfl⟩) ?_;clear S;intro v7 a w15 hv6 hk12 hn6 S
      replace hv6:=hv6.2
      subst hv6
      refine Vm S rfl rfl ?_;clear S;intro a S
      obtain ⟨r7,hr7,h⟩:=Em h
      refine Fv 3 S (b:=O) rfl rfl (fun _=>.blk O [U,iV r7.2] 25) (fun _=>Ck (vs:=[.pointer (some ⟨O,0,none⟩),iV 0,iV 1000000000]) ⟨(S.tm rfl),rfl,rfl,trivial⟩ call19) (Qg _ O U Ag (Af.mono (S.le_arg (Hn (i:=3) (e:=.blk O [U,iV r6.2] 25) rfl))) r6.2 (S.holds _ (List.mem_of_getElem? (i:=3) rfl)) 0 1000000000 _ hr7) rfl (fun _ _ _ h=>⟨h.1,fun _ hc=>by cases hc;rfl⟩) ?_;clear S;intro v8 a w16 hv7 hk13 hn7 S
      replace hv7:=hv7.2
      subst hv7
      refine Vm S rfl rfl ?_;clear S;intro a S
      obtain ⟨r8,hr8,h⟩:=Em h
      refine Fv 3 S (b:=O) rfl rfl (fun _=>.blk O [U,iV r8.2] 25) (fun _=>Ck (vs:=[.pointer (some ⟨O,0,none⟩),iV 1,iV 1000000]) ⟨(S.tm rfl),rfl,rfl,trivial⟩ call19) (Qg _ O U Ag (Af.mono (S.le_arg (Hn (i:=3) (e:=.blk O [U,iV r7.2] 25) rfl))) r7.2 (S.holds _ (List.mem_of_getElem? (i:=3) rfl)) 1 1000000 _ hr8) rfl (fun _ _ _ h=>⟨h.1,fun _ hc=>by cases hc;rfl⟩) ?_;clear S;intro v9 a w17 hv8 hk14 hn8 S
      replace hv8:=hv8.2
      subst hv8
      refine Vf Za S rfl rfl fun a S=>Hy S (S.tm rfl) (S.tm rfl) (i:=1) (off:=0) rfl sizeOf9 (vs:=[sV r6.1]) rfl rfl rfl rfl ?_;clear S;intro w18 hk15 S
      refine Vf Nr S rfl rfl fun a S=>Vf Rh S rfl rfl fun a S=>Hy S (S.tm rfl) (S.tm rfl) (i:=1) (off:=1) rfl sizeOf3 (vs:=[iV r7.1]) rfl rfl rfl rfl ?_;clear S;intro w19 hk16 S
      refine Vf Nr S rfl rfl fun a S=>Vf Ri S rfl rfl fun a S=>Hy S (S.tm rfl) (S.tm rfl) (i:=1) (off:=2) rfl sizeOf3 (vs:=[iV r8.1]) rfl rfl rfl rfl ?_;clear S;intro w20 hk17 S
      refine Ld ?_
      replace S:=(S.nl [.blk b4 [sV r6.1,iV r7.1,iV r8.1] 52,.own v2 52 3 x1.length (x1.flatMap Dj.enc),.blk O [U,iV r8.2] 25] [false,true,true,true] rfl).k5 0 3 4 6 7 rfl
      exact Tn (⟨r6.1,r7.1,r8.1,r8.2,h,S.nf [true,true,true] rfl (subR rfl)⟩)
     ·exact wp_skip (Tn (⟨r2.1,r3.1,r4.1,r5.2,h,S.nf [true,true,true] rfl (subR rfl)⟩))
    clear S h;rintro a w13 ⟨x4,x5,x6,x7,h,S⟩;rw [hj2] at h;clear hj2 j2
    refine Tn (Fg (Vm S rfl rfl fun a S=>lv S (He isAgg52 sizeOf52 (off:=0) (o:=0) (part:=[sV x4,iV x5,iV x6]) rfl rfl (S.tm rfl) (S.cellsAt (i:=0) rfl)) rfl fun a S=>Eb S underlying26 sizeOf52 zeroValue52 rfl rfl (pv:=[(0,.agg #[sV x4,iV x5,iV x6])]) ⟨rfl,(S.tm rfl),trivial⟩ (cs:=[sV x4,iV x5,iV x6]) (by kernel_rfl) rfl ?_));clear S;intro a w21 b6 hz6 hk18 S
    obtain ⟨hc1,h⟩:=Gn h
    refine Mb Pt Dj.enc_ok S (S.tm rfl) (i:=2) rfl (S.tm rfl) (j:=0) rfl (ys:=[(Dj.mk x4 (Ha.mk x5 x6))]) rfl rfl rfl rfl (by have:=Lh hc1;omega) rfl ?_;clear S;intro v10 a w22 hk19 S
    exact Va S rfl rfl fun a S=>Ld (Hf (Tn (Fg (Vq S Eh rfl rfl rfl fun a S=>Vm S rfl rfl fun a S=>Dl (⟨m1,⟨(x1 ++ [(Dj.mk x4 (Ha.mk x5 x6))]),x7,W (x3 + 1),v10,h,S.nf [false,false,true,true] rfl ⟨rfl,rfl,rfl,rfl,trivial⟩⟩,Nat.lt_succ_self _⟩)))))
   ·exact wp_exit (De (De (Fk (Tn (⟨x1,x2,v2,h,S.nf [true,true] rfl ⟨rfl,trivial⟩⟩)))))
 clear S h;rintro a w3 ⟨x1,x2,v2,h,S⟩;rw [hj1] at h;clear hj1 j1
 refine Tn (Fr (Vm S rfl rfl fun a S=>Va S rfl rfl fun a S=>Dl (wp_ret ?_)))
 obtain rfl:=Option.some.inj h
 exact Ee S results4 rfl ⟨(S.holds _ (List.mem_of_getElem? (i:=1) rfl)),(Wr S (i:=0) rfl (fun c hc hh=>Ss S (i:=1) rfl rfl (j:=0) rfl rfl (by simp at hc;subst hc;exact hh)))⟩
set_option maxRecDepth 20000 in
theorem Xj (w : World) (Ai : Int) (r : Int) (h : Tk Ai = some r) :
    Calls prog 76 [.int .u32 Ai].toArray w (Ret w [] fun _ v _=>v = iV r):=by
 refine Fe func76 rfl ntmps76 rfl fun a S=>?_
 unfold Tk at h
 replace S:=S.k1 0 rfl
 refine Fr (Vk S rfl rfl fun a S=>Dl (Fs (Fr (Vm S rfl rfl fun a S=>Vq S Ms rfl rfl rfl fun a S=>Ld ?_))))
 refine Tn ?_
 obtain ⟨j1,hj1,h⟩:=Dw h
 refine Dk (fun a w'=>∃ x1 : Int,∃ x2 : Int,j1 x1 x2 = some r ∧ Sx w [] nov [] [(0,.int .u32 x1),(2,iV x2)] 19 a w') ?_ ?_
 ·refine Fc h (S.tm rfl) (fun hb1 h=>?_) (fun hb1 h=>?_)
  ·refine Fr (Vm S rfl rfl fun a S=>lv S (Oc (S.tm rfl) rfl (by decide)) rfl fun a S=>Va S rfl rfl fun a S=>Dl (Fg (Vk S rfl rfl fun a S=>Dl ?_)))
   exact ⟨Dt .u32 Ai 16,16,h,S.nf [] rfl (subR rfl)⟩
  ·exact wp_skip (Tn (⟨Ai,0,h,S.nf [] rfl (subR rfl)⟩))
 clear S h;rintro a w1 ⟨x1,x2,h,S⟩;rw [hj1] at h;clear hj1 j1
 refine Tn (Fs (Fr (Vm S rfl rfl fun a S=>Vq S Ms rfl rfl rfl fun a S=>Dl ?_)))
 obtain ⟨j2,hj2,h⟩:=Dw h
 refine Dk (fun a w'=>∃ x3 : Int,∃ x4 : Int,j2 x3 x4 = some r ∧ Sx w [] nov [] [(0,.int .u32 x3),(2,iV x4)] 19 a w') ?_ ?_
 ·refine Fc h (S.tm rfl) (fun hb2 h=>?_) (fun hb2 h=>?_)
  ·refine Fr (Vm S rfl rfl fun a S=>lv S (Oc (S.tm rfl) rfl (by decide)) rfl fun a S=>Va S rfl rfl fun a S=>Dl (Fg (Vm S rfl rfl fun a S=>Vq S Eh rfl rfl rfl fun a S=>Va S rfl rfl ?_)));clear S;intro a S
   exact Dl (⟨Dt .u32 x1 8,W (x2 + 8),h,S.nf [] rfl (subR rfl)⟩)
  ·exact wp_skip (Tn (⟨x1,x2,h,S.nf [] rfl (subR rfl)⟩))
 clear S h;rintro a w2 ⟨x3,x4,h,S⟩;rw [hj2] at h;clear hj2 j2
 refine Tn (Fr (Vm S rfl rfl fun a S=>Vm S rfl rfl fun a S=>Vu S (Nn underlying115 underlying5) rfl rfl ?_));clear S;intro a S
 obtain ⟨hc1,h⟩:=Gn h
 refine lv S (Ps underlying9 rfl (S.tm rfl) hc1) rfl fun a S=>Vu S (Nn underlying5 underlying3) rfl rfl fun a S=>Vb S Eh rfl rfl rfl fun a S=>Va S rfl rfl fun a S=>Dl (wp_ret ?_)
 obtain rfl:=Option.some.inj h
 exact Ee S results76 rfl rfl
set_option maxRecDepth 20000 in
theorem Tg (w : World) (Ai : Int) (r : Int) (h : Rg Ai = some r) :
    Calls prog 77 [.int .u64 Ai].toArray w (Ret w [] fun _ v _=>v = iV r):=by
 refine Fe func77 rfl ntmps77 rfl fun a S=>?_
 unfold Rg at h
 replace S:=S.k1 0 rfl
 refine Fr (Vk S rfl rfl fun a S=>Dl (Fs (Fr (Vm S rfl rfl fun a S=>Vq S Ms rfl rfl rfl fun a S=>Ld ?_))))
 refine Tn ?_
 obtain ⟨j1,hj1,h⟩:=Dw h
 refine Dk (fun a w'=>∃ x1 : Int,∃ x2 : Int,j1 x1 x2 = some r ∧ Sx w [] nov [] [(0,.int .u64 x1),(2,iV x2)] 25 a w') ?_ ?_
 ·refine Fc h (S.tm rfl) (fun hb1 h=>?_) (fun hb1 h=>?_)
  ·refine Fr (Vm S rfl rfl fun a S=>lv S (Oc (S.tm rfl) rfl (by decide)) rfl fun a S=>Va S rfl rfl fun a S=>Dl (Fg (Vk S rfl rfl fun a S=>Dl ?_)))
   exact ⟨Dt .u64 Ai 32,32,h,S.nf [] rfl (subR rfl)⟩
  ·exact wp_skip (Tn (⟨Ai,0,h,S.nf [] rfl (subR rfl)⟩))
 clear S h;rintro a w1 ⟨x1,x2,h,S⟩;rw [hj1] at h;clear hj1 j1
 refine Tn (Fs (Fr (Vm S rfl rfl fun a S=>Vq S Ms rfl rfl rfl fun a S=>Dl ?_)))
 obtain ⟨j2,hj2,h⟩:=Dw h
 refine Dk (fun a w'=>∃ x3 : Int,∃ x4 : Int,j2 x3 x4 = some r ∧ Sx w [] nov [] [(0,.int .u64 x3),(2,iV x4)] 25 a w') ?_ ?_
 ·refine Fc h (S.tm rfl) (fun hb2 h=>?_) (fun hb2 h=>?_)
  ·refine Fr (Vm S rfl rfl fun a S=>lv S (Oc (S.tm rfl) rfl (by decide)) rfl fun a S=>Va S rfl rfl fun a S=>Dl (Fg (Vm S rfl rfl fun a S=>Vq S Eh rfl rfl rfl fun a S=>Va S rfl rfl ?_)));clear S;intro a S
   exact Dl (⟨Dt .u64 x1 16,W (x2 + 16),h,S.nf [] rfl (subR rfl)⟩)
  ·exact wp_skip (Tn (⟨x1,x2,h,S.nf [] rfl (subR rfl)⟩))
 clear S h;rintro a w2 ⟨x3,x4,h,S⟩;rw [hj2] at h;clear hj2 j2
 refine Tn (Fs (Fr (Vm S rfl rfl fun a S=>Vq S Ms rfl rfl rfl fun a S=>Dl ?_)))
 obtain ⟨j3,hj3,h⟩:=Dw h
 refine Dk (fun a w'=>∃ x5 : Int,∃ x6 : Int,j3 x5 x6 = some r ∧ Sx w [] nov [] [(0,.int .u64 x5),(2,iV x6)] 25 a w') ?_ ?_
 ·refine Fc h (S.tm rfl) (fun hb3 h=>?_) (fun hb3 h=>?_)
  ·refine Fr (Vm S rfl rfl fun a S=>lv S (Oc (S.tm rfl) rfl (by decide)) rfl fun a S=>Va S rfl rfl fun a S=>Dl (Fg (Vm S rfl rfl fun a S=>Vq S Eh rfl rfl rfl fun a S=>Va S rfl rfl ?_)));clear S;intro a S
   exact Dl (⟨Dt .u64 x3 8,W (x4 + 8),h,S.nf [] rfl (subR rfl)⟩)
  ·exact wp_skip (Tn (⟨x3,x4,h,S.nf [] rfl (subR rfl)⟩))
 clear S h;rintro a w3 ⟨x5,x6,h,S⟩;rw [hj3] at h;clear hj3 j3
 refine Tn (Fr (Vm S rfl rfl fun a S=>Vm S rfl rfl fun a S=>Vu S (Nn underlying117 underlying5) rfl rfl ?_));clear S;intro a S
 obtain ⟨hc1,h⟩:=Gn h
 refine lv S (Ps underlying9 rfl (S.tm rfl) hc1) rfl fun a S=>Vu S (Nn underlying5 underlying3) rfl rfl fun a S=>Vb S Eh rfl rfl rfl fun a S=>Va S rfl rfl fun a S=>Dl (wp_ret ?_)
 obtain rfl:=Option.some.inj h
 exact Ee S results77 rfl rfl
theorem Vs (w : World) (Ai : Int) (r : Int) (h : Sg Ai = some r) :
    Calls prog 48 [.int .u64 Ai].toArray w (Ret w [] fun _ v _=>v = iV r):=by
 refine Fe func48 rfl ntmps48 rfl fun a S=>?_
 unfold Sg at h
 replace S:=S.k1 0 rfl
 refine Fr (Vk S rfl rfl fun a S=>Dl (Fs (Fc h rfl (fun hb1 h=>?_) (fun hb1 h=>?_))))
 ·refine Fr (Vm S rfl rfl fun a S=>Vu S (Nn underlying89 underlying115) rfl rfl ?_);clear S;intro a S
  obtain ⟨r1,hr1,h⟩:=Em h
  refine Df S (fun _=>Ck (vs:=[.int .u32 (IntKind.wrap .u32 Ai)]) ⟨(S.tm rfl),trivial⟩ call76) (Xj _ (IntKind.wrap .u32 Ai) _ hr1) rfl ?_;clear S;intro v1 a w1 hv1 hk1 hn1 S
  subst hv1
  refine Va S rfl rfl fun a S=>Dl (wp_ret (Cp ?_))
  obtain rfl:=Option.some.inj h
  exact Ee S results48 rfl rfl
 ·refine wp_skip (Tn (Fr (Vm S rfl rfl ?_)));clear S;intro a S
  obtain ⟨r2,hr2,h⟩:=Em h
  refine Df S (fun _=>Ck (vs:=[.int .u64 Ai]) ⟨(S.tm rfl),trivial⟩ call77) (Tg _ Ai _ hr2) rfl ?_;clear S;intro v2 a w2 hv2 hk2 hn2 S
  subst hv2
  refine Va S rfl rfl fun a S=>Dl (wp_ret ?_)
  obtain rfl:=Option.some.inj h
  exact Ee S results48 rfl rfl
theorem Kl (w : World) (s t : ByteArray) (r : Int) (h : Ef s t = r) : Calls prog 30 [.string s,.string t].toArray w (Ret w [] fun _ v _=>v = .int .i64 r):=by
  subst h
  exact Sb (Any.strings_Compare Tryz.lays106 s t w)
theorem Jf (w : World) (Ak : An) (r : Int) (h : En Ak = r) :
    Calls prog 52 [.agg (An.enc Ak).toArray].toArray w (Ret w [] fun _ v _=>v = iV r):=by
 refine Fe func52 rfl ntmps52 rfl fun a S=>?_
 unfold En at h
 replace S:=S.k1 0 rfl
 refine Fr (Rr S (S.tm rfl) (cs:=(An.enc Ak)) rfl rfl ?_);clear S;intro a w1 b1 hz1 hk1 S
 refine Vk S rfl rfl fun a S=>Dl (Fs (Fr (Vf Hh S rfl rfl fun a S=>Vl isAgg3 0 S rfl rfl rfl rfl fun a S=>Vq S Kq rfl rfl rfl fun a S=>Dl ?_)))
 refine Fc h (S.tm rfl) (fun hb1 h=>?_) (fun hb1 h=>?_)
 ·refine Fr (Vk S rfl rfl fun a S=>Dl (wp_ret (Cp ?_)))
  subst h
  exact Ee S results52 rfl rfl
 ·refine wp_skip (Tn (Fr (Vf Hh S rfl rfl fun a S=>Vl isAgg3 0 S rfl rfl rfl rfl fun a S=>Va S rfl rfl fun a S=>Dl (wp_ret ?_))))
  subst h
  exact Ee S results52 rfl rfl
theorem Uy (w : World) (Ao : Int) (r : Int) (h : Nk Ao = r) :
    Calls prog 53 [iV Ao].toArray w (Ret w [] fun _ v _=>v = iV r):=by
 refine Fe func53 rfl ntmps53 rfl fun a S=>?_
 unfold Nk at h
 replace S:=S.k1 0 rfl
 refine Fr (Vk S rfl rfl fun a S=>Dl (Fs (wp_block (Fr (Vm S rfl rfl fun a S=>Vq S Dp rfl rfl rfl ?_)))));clear S;intro a S
 refine Va S rfl rfl fun a S=>Dl (Fc h (S.tm rfl) (fun hb1 h=>?_) (fun hb1 h=>?_))
 ·refine Fr (Vk S rfl rfl fun a S=>Dl (wp_ret (Fb (Cp ?_))))
  subst h
  exact Ee S results53 rfl rfl
 ·refine Fr (Vm S rfl rfl fun a S=>Vq S Iv rfl rfl rfl fun a S=>Va S rfl rfl fun a S=>Dl (Fc h (S.tm rfl) (fun hb2 h=>?_) (fun hb2 h=>?_)))
  ·refine Fr (Vk S rfl rfl fun a S=>Dl (wp_ret (Fb (Cp ?_))))
   subst h
   exact Ee S results53 rfl rfl
  ·refine wp_skip (Hf (Tn (Fr (Vk S rfl rfl fun a S=>Dl (wp_ret ?_)))))
   subst h
   exact Ee S results53 rfl rfl
set_option maxRecDepth 20000 in
theorem Nx (w : World) (Ad : An) (Ae : An) (r : Int) (h : Dx Ad Ae = r) :
    Calls prog 34 [.agg (An.enc Ad).toArray,.agg (An.enc Ae).toArray].toArray w (Ret w [] fun _ v _=>v = iV r):=by
 refine Fe func34 rfl ntmps34 rfl fun a S=>?_
 unfold Dx at h
 replace S:=S.k2 0 1 rfl
 refine Fr (Rr S (S.tm rfl) (cs:=(An.enc Ad)) rfl rfl ?_);clear S;intro a w1 b1 hz1 hk1 S
 refine Rr S (S.tm rfl) (cs:=(An.enc Ae)) rfl rfl ?_;clear S;intro a w2 b2 hz2 hk2 S
 refine Vk S rfl rfl fun a S=>Dz (Vk S rfl rfl fun a S=>Dl (Fs (wp_block (Fs ?_))))
 refine Fg (Vf Kn S rfl rfl fun a S=>Vl isAgg9 1 S rfl rfl rfl rfl fun a S=>Vf Kn S rfl rfl fun a S=>Vl isAgg9 0 S rfl rfl rfl rfl fun a S=>Vb S Sr rfl rfl rfl fun a S=>Va S rfl rfl fun a S=>Dl (Fc h (S.tm rfl) (fun hb1 h=>?_) (fun hb1 h=>?_)))
 ·refine Fr (Vf Kn S rfl rfl fun a S=>Vl isAgg9 1 S rfl rfl rfl rfl fun a S=>Vf Kn S rfl rfl fun a S=>Vl isAgg9 0 S rfl rfl rfl rfl fun a S=>Df S (fun _=>Ck (vs:=[sV Ad.Race,sV Ae.Race]) ⟨(S.tm rfl),(S.tm rfl),trivial⟩ call30) (Kl _ Ad.Race Ae.Race _ rfl) rfl ?_);clear S;intro v1 a w3 hv1 hk3 hn1 S
  subst hv1
  refine Va S rfl rfl fun a S=>Ld ?_
  replace S:=S.n0.k1 4 rfl
  refine Tn (wp_ret (Fb (Cp ?_)))
  subst h
  exact Ee S results34 rfl rfl
 ·refine Fs (Gf [] ([]) Tryz.mixed S rfl (by kernel_rfl) ?_);clear S;intro w6 hk6 hsel S
  refine Cw 0 S hsel rfl rfl rfl (by kernel_rfl) (by kernel_rfl) rfl (fun _ hw=>(Rm (S.tm rfl))) fun a S=>Cw 1 S hsel rfl rfl rfl (by kernel_rfl) (by kernel_rfl) rfl (fun _ hw=>(He isAgg55 sizeOf55 (off:=0) (o:=0) (part:=(An.enc Ad)) rfl rfl (S.tm rfl) ((S.blk_mem (i:=1) (cells:=(An.enc Ad)) (b:=b1) (T:=55) rfl (Hg (e':=.blk b1 (An.enc Ad) 55))).kept hw))) fun a S=>Cw 3 S hsel rfl rfl rfl (by kernel_rfl) (by kernel_rfl) rfl (fun _ hw=>(Rm (S.tm rfl))) fun a S=>Cw 4 S hsel rfl rfl rfl (by kernel_rfl) (by kernel_rfl) rfl (fun _ hw=>(He isAgg55 sizeOf55 (off:=0) (o:=0) (part:=(An.enc Ae)) rfl rfl (S.tm rfl) ((S.blk_mem (i:=0) (cells:=(An.enc Ae)) (b:=b2) (T:=55) rfl (Hg (e':=.blk b2 (An.enc Ae) 55))).kept hw))) fun a S=>Gu 2 (by kernel_rfl) rfl (Df S (fun _=>Nc (cap:=[]) (S.tm rfl) (vs:=[.agg (An.enc Ad).toArray]) ⟨(S.tm rfl),trivial⟩ call52) (Jf _ Ad _ rfl) rfl ?_);clear S;intro v4 a w7 hv4 hk7 hn4 S
  subst hv4
  refine Ld (Ib hk7 (Gu 5 (by kernel_rfl) rfl (Df S (fun _=>Nc (cap:=[]) (S.tm rfl) (vs:=[.agg (An.enc Ae).toArray]) ⟨(S.tm rfl),trivial⟩ call52) (Jf _ Ae _ rfl) rfl ?_)));clear S;intro v5 a w8 hv5 hk8 hn5 S
  subst hv5
  refine Ld (Ib hk8 (Ji [6,7] hsel (by kernel_rfl) rfl ?_))
  clear hsel
  refine Ei S rfl (Ot (S.tm rfl) (S.tm rfl)) rfl fun a S=>Ei S rfl (Ra (S.tm rfl)) rfl fun a S=>Ic ?_
  replace S:=(S.nl [.blk b2 (An.enc Ae) 55,.blk b1 (An.enc Ad) 55] [true,true] rfl).k4 2 3 5 17 rfl
  refine Tn (Fc h (S.tm rfl) (fun hb2 h=>?_) (fun hb2 h=>?_))
  ·refine Fs (Gf [] ([]) Tryz.mixed S rfl (by kernel_rfl) ?_);clear S;intro w12 hk12 hsel S
   refine Cw 0 S hsel rfl rfl rfl (by kernel_rfl) (by kernel_rfl) rfl (fun _ hw=>(Rm (S.tm rfl))) fun a S=>Cw 1 S hsel rfl rfl rfl (by kernel_rfl) (by kernel_rfl) rfl (fun _ hw=>(He isAgg55 sizeOf55 (off:=0) (o:=0) (part:=(An.enc Ad)) rfl rfl (S.tm rfl) ((S.blk_mem (i:=1) (cells:=(An.enc Ad)) (b:=b1) (T:=55) rfl (Hg (e':=.blk b1 (An.enc Ad) 55))).kept hw))) fun a S=>Cw 3 S hsel rfl rfl rfl (by kernel_rfl) (by kernel_rfl) rfl (fun _ hw=>(Rm (S.tm rfl))) fun a S=>Cw 4 S hsel rfl rfl rfl (by kernel_rfl) (by kernel_rfl) rfl (fun _ hw=>(He isAgg55 sizeOf55 (off:=0) (o:=0) (part:=(An.enc Ae)) rfl rfl (S.tm rfl) ((S.blk_mem (i:=0) (cells:=(An.enc Ae)) (b:=b2) (T:=55) rfl (Hg (e':=.blk b2 (An.enc Ae) 55))).kept hw))) fun a S=>Gu 2 (by kernel_rfl) rfl (Df S (fun _=>Nc (cap:=[]) (S.tm rfl) (vs:=[.agg (An.enc Ad).toArray]) ⟨(S.tm rfl),trivial⟩ call52) (Jf _ Ad _ rfl) rfl ?_);clear S;intro v9 a w13 hv9 hk13 hn9 S
   subst hv9
   refine Ld (Ib hk13 (Gu 5 (by kernel_rfl) rfl (Df S (fun _=>Nc (cap:=[]) (S.tm rfl) (vs:=[.agg (An.enc Ae).toArray]) ⟨(S.tm rfl),trivial⟩ call52) (Jf _ Ae _ rfl) rfl ?_)));clear S;intro v10 a w14 hv10 hk14 hn10 S
   subst hv10
   refine Ld (Ib hk14 (Cw 6 S hsel rfl rfl rfl (by kernel_rfl) (by kernel_rfl) rfl (fun _ hw=>(It (S.tm rfl) (S.tm rfl))) fun a S=>Gu 7 (by kernel_rfl) rfl (Df S (fun _=>Ck (vs:=[iV (W ((En Ad) - (En Ae)))]) ⟨(S.tm rfl),trivial⟩ call53) (Uy _ (W ((En Ad) - (En Ae))) _ rfl) rfl ?_)));clear S;intro v11 a w15 hv11 hk15 hn11 S
   subst hv11
   refine Ld (Ib hk15 (Ji [8] hsel (by kernel_rfl) rfl ?_))
   clear hsel
   refine Ei S rfl (Ra (S.tm rfl)) rfl fun a S=>Ic ?_
   replace S:=S.n0.k1 4 rfl
   refine Tn (wp_ret (Fb (Cp ?_)))
   subst h
   exact Ee S results34 rfl rfl
  ·refine wp_skip (Hf (Tn (Fr (Vf Mm S rfl rfl fun a S=>Vl isAgg9 1 S rfl rfl rfl rfl fun a S=>Vf Mm S rfl rfl fun a S=>Vl isAgg9 0 S rfl rfl rfl rfl fun a S=>Df S (fun _=>Ck (vs:=[sV Ad.Who,sV Ae.Who]) ⟨(S.tm rfl),(S.tm rfl),trivial⟩ call30) (Kl _ Ad.Who Ae.Who _ rfl) rfl ?_))));clear S;intro v12 a w16 hv12 hk16 hn12 S
   subst hv12
   refine Va S rfl rfl fun a S=>Dl (wp_ret ?_)
   subst h
   exact Ee S results34 rfl rfl
set_option maxRecDepth 20000 in
theorem Jm (w : World) (V : Value) (Ah : List An) (Ay : (LEnt.own V 55 5 Ah.length (Ah.flatMap An.enc)).holds w) (Ad : Int) (Ae : Int) (r : (List An)) (h : Ed Ah Ad Ae = some r) :
    Calls prog 98 [V,iV Ad,iV Ae,.func (.func 34) #[] #[]].toArray w (Ret w (V.ownBlock.toList) fun _ v w'=>(LEnt.own V 55 5 r.length (r.flatMap An.enc)).holds w' ∧ v = .tuple #[]):=by
 refine Jt (V.ownBlock.toList) [.own V 55 5 Ah.length (Ah.flatMap An.enc)] func98 rfl ntmps98 rfl (fun e he=>by simp only [List.mem_singleton] at he;subst he;exact Ay) (Jd _) (Kb _) fun a S=>?_
 unfold Ed at h
 replace S:=(S.nl [.own V 55 5 Ah.length (Ah.flatMap An.enc)] [true] rfl).k4 0 1 2 3 rfl
 refine Fr (Vm S rfl rfl fun a S=>Vq S Eh rfl rfl rfl fun a S=>Va S rfl rfl fun a S=>Dl ?_)
 replace S:=S.k5 0 1 2 3 8 rfl
 obtain ⟨j1,hj1,h⟩:=Dw h
 refine Dk (fun a w'=>∃ x1 : List An,j1 x1 = some r ∧ Sx w (V.ownBlock.toList) nov [.own V 55 5 x1.length (x1.flatMap An.enc)] [] 53 a w') ?_ ?_
 ·refine wp_block (Fq (fun (m1 : Nat) a w'=>∃ x1 : List An,∃ x2 : Int,Ct Ae Ad j1 m1 x1 x2 = some r ∧ Sx w (V.ownBlock.toList) nov [.own V 55 5 x1.length (x1.flatMap An.enc)] [(0,V),(1,iV Ad),(2,iV Ae),(3,.func (.func 34) #[] #[]),(8,iV x2)] 53 a w') id ((Ae - (W (Ad + 1))).toNat + 2) ⟨Ah,W (Ad + 1),h,S.nf [true] rfl (subR rfl)⟩ ?_)
  clear S h;rintro m1 a w1 ⟨x1,x2,h,S⟩
  cases m1 with
  | zero=>rw [Ct.eq_1] at h;cases h
  | succ m1 =>
   rw [Ct.eq_2] at h
   refine Fs (Fr (Vm S rfl rfl fun a S=>Vm S rfl rfl fun a S=>Vb S Dp rfl rfl rfl fun a S=>Dl (Fc h (S.tm rfl) (fun hb1 h=>?_) (fun hb1 h=>?_))))
   ·refine wp_skip (Tn (Fs (wp_block (Fr (Vm S rfl rfl fun a S=>Va S rfl rfl fun a S=>Dl ?_)))))
    replace S:=S.k6 0 1 2 3 8 9 rfl
    obtain ⟨j2,hj2,h⟩:=Dw h
    refine Dk (fun a w'=>∃ x3 : List An,j2 x3 = some r ∧ Sx w (V.ownBlock.toList) nov [.own V 55 5 x3.length (x3.flatMap An.enc)] [(0,V),(1,iV Ad),(2,iV Ae),(3,.func (.func 34) #[] #[]),(8,iV x2)] 53 a w') ?_ ?_
    ·refine wp_block (Fq (fun (m2 : Nat) a w'=>∃ x3 : List An,∃ x4 : Int,Cl Ad j2 m2 x3 x4 = some r ∧ Sx w (V.ownBlock.toList) nov [.own V 55 5 x3.length (x3.flatMap An.enc)] [(0,V),(1,iV Ad),(2,iV Ae),(3,.func (.func 34) #[] #[]),(8,iV x2),(9,iV x4)] 53 a w') id ((x2 - Ad).toNat + 2) ⟨x1,x2,h,S.nf [true] rfl (subR rfl)⟩ ?_)
     clear S h;rintro m2 a w3 ⟨x3,x4,h,S⟩
     cases m2 with
     | zero=>rw [Cl.eq_1] at h;cases h
     | succ m2 =>
      rw [Cl.eq_2] at h
      refine Fs (Fs ?_)
      obtain ⟨j3,hj3,h⟩:=Dw h
      refine Dk (fun a w'=>∃ x5 : Bool,j3 x5 = some r ∧ Sx w (V.ownBlock.toList) nov [.own V 55 5 x3.length (x3.flatMap An.enc)] [(0,V),(1,iV Ad),(2,iV Ae),(3,.func (.func 34) #[] #[]),(8,iV x2),(9,iV x4),(34,bV x5)] 53 a w') ?_ ?_
      ·rcases Bool.eq_false_or_eq_true (decide (Ad < x4)) with hb2 | hb2
       ·replace h:=Oo h hb2
        obtain ⟨hc1,h⟩:=Gn h
        obtain ⟨hc2,h⟩:=Gn h
        refine Gf [] ([]) Tryz.mixed S rfl (by kernel_rfl) ?_;clear S;intro w7 hk2 hsel S
        refine Cw 0 S hsel rfl rfl rfl (by kernel_rfl) (by kernel_rfl) rfl (fun _ hw=>(Rm (S.tm rfl))) fun a S=>Cw 1 S hsel rfl rfl rfl (by kernel_rfl) (by kernel_rfl) rfl (fun _ hw=>(Rm (S.tm rfl))) fun a S=>Cw 2 S hsel rfl rfl rfl (by kernel_rfl) (by kernel_rfl) rfl (fun _ hw=>(Iv (S.tm rfl) (S.tm rfl))) fun a S=>Cw 3 S hsel rfl rfl rfl (by kernel_rfl) (by kernel_rfl) rfl (fun _ hw=>(Rm (S.tm rfl))) fun a S=>Eg 4 S hsel rfl rfl rfl rfl hb2 rfl rfl (by kernel_rfl) (by kernel_rfl) rfl (fun _ hw=>(Rm (S.tm rfl))) fun a S=>Eg 5 S hsel rfl rfl rfl rfl hb2 rfl rfl (by kernel_rfl) (by kernel_rfl) rfl (fun _ hw=>(Rm (S.tm rfl))) fun a S=>Eg 6 S hsel rfl rfl rfl rfl hb2 rfl rfl (by kernel_rfl) (by kernel_rfl) rfl (fun _ hw=>(Rm (S.tm rfl))) ?_;clear S;intro a S
        obtain ⟨b3,hg3,hr3⟩:=Ft (a:=a) (x:=.tmp 23) (y:=.tmp 24) (ty:=0) Hz An.enc_ok S (i:=0) rfl (Cn hc1).1 (Cn hc1).2 (S.tm rfl) (S.tm rfl)
        refine Eg 7 S hsel rfl rfl rfl rfl hb2 rfl rfl (by kernel_rfl) (by kernel_rfl) rfl (fun _ hw=>(hr3 _)) ?_;clear S;intro a S
        clear hr3
        refine Eg 8 S hsel rfl rfl rfl rfl hb2 rfl rfl (by kernel_rfl) (by kernel_rfl) rfl (fun _ hw=>(He isAgg55 sizeOf55 (off:=x4.toNat * 5) (o:=0) (part:=(An.enc (nth x3 x4))) rfl rfl (S.tm rfl) ((Lq An.enc_ok S (i:=0) rfl hg3 (Cn hc1).1 (Hg (e':=.own V 55 5 x3.length (x3.flatMap An.enc)))).kept hw))) fun a S=>Eg 9 S hsel rfl rfl rfl rfl hb2 rfl rfl (by kernel_rfl) (by kernel_rfl) rfl (fun _ hw=>(Rm (S.tm rfl))) fun a S=>Eg 10 S hsel rfl rfl rfl rfl hb2 rfl rfl (by kernel_rfl) (by kernel_rfl) rfl (fun _ hw=>(Rm (S.tm rfl))) fun a S=>Eg 11 S hsel rfl rfl rfl rfl hb2 rfl rfl (by kernel_rfl) (by kernel_rfl) rfl (fun _ hw=>(It (S.tm rfl) rfl)) ?_;clear S;intro a S
        obtain ⟨b4,hg4,hr4⟩:=Ft (a:=a) (x:=.tmp 27) (y:=.tmp 29) (ty:=0) Hz An.enc_ok S (i:=0) rfl (Cn hc2).1 (Cn hc2).2 (S.tm rfl) (S.tm rfl)
        refine Eg 12 S hsel rfl rfl rfl rfl hb2 rfl rfl (by kernel_rfl) (by kernel_rfl) rfl (fun _ hw=>(hr4 _)) ?_;clear S;intro a S
        clear hr4
        refine Eg 13 S hsel rfl rfl rfl rfl hb2 rfl rfl (by kernel_rfl) (by kernel_rfl) rfl (fun _ hw=>(He isAgg55 sizeOf55 (off:=((W (x4 - 1)).toNat) * 5) (o:=0) (part:=(An.enc (nth x3 (W (x4 - 1))))) rfl rfl (S.tm rfl) ((Lq An.enc_ok S (i:=0) rfl hg4 (Cn hc2).1 (Hg (e':=.own V 55 5 x3.length (x3.flatMap An.enc)))).kept hw))) fun a S=>Gu 14 (by kernel_rfl) rfl (Cq S rfl rfl rfl hb2 (Df S (fun _=>Nc (cap:=[]) (S.tm rfl) (vs:=[.agg (An.enc (nth x3 x4)).toArray,.agg (An.enc (nth x3 (W (x4 - 1)))).toArray]) ⟨(S.tm rfl),(S.tm rfl),trivial⟩ call34) (Nx _ (nth x3 x4) (nth x3 (W (x4 - 1))) _ rfl) rfl ?_));clear S;intro v2 a w8 hv2 hk3 hn2 S
        subst hv2
        refine Ld (Ib hk3 (Ji [15,16] hsel (by kernel_rfl) rfl ?_))
        clear hsel
        refine Fo S rfl rfl rfl rfl hb2 (Hm S (Dp (S.tm rfl) rfl) rfl fun a S=>Ei S rfl (Pp hb2 (S.tm rfl) (S.tm rfl)) rfl fun a S=>Ic ?_)
        replace S:=S.nk [.own V 55 5 x3.length (x3.flatMap An.enc)] [(0,V),(1,iV Ad),(2,iV Ae),(3,.func (.func 34) #[] #[]),(8,iV x2),(9,iV x4),(22,.func (.func 34) #[] #[]),(23,V),(24,iV x4),(25,.pointer (some ⟨b3,x4.toNat * 5,none⟩)),(26,.agg (An.enc (nth x3 x4)).toArray),(27,V),(28,iV x4),(29,iV (W (x4 - 1))),(30,.pointer (some ⟨b4,((W (x4 - 1)).toNat) * 5,none⟩)),(31,.agg (An.enc (nth x3 (W (x4 - 1)))).toArray),(32,iV (Dx (nth x3 x4) (nth x3 (W (x4 - 1))))),(33,bV (decide ((Dx (nth x3 x4) (nth x3 (W (x4 - 1)))) < 0))),(34,bV (decide ((Dx (nth x3 x4) (nth x3 (W (x4 - 1)))) < 0)))] [true] rfl (subR rfl)
        exact Tn (⟨decide ((Dx (nth x3 x4) (nth x3 (W (x4 - 1)))) < 0),h,S.nf [true] rfl (subR rfl)⟩)
       ·replace h:=Oq h hb2
        refine Gf [] ([]) Tryz.mixed S rfl (by kernel_rfl) ?_;clear S;intro w9 hk4 hsel S
        refine Ji [0,1,2,3,4,5,6,7,8,9,10,11,12,13,14,15,16] hsel (by kernel_rfl) rfl ?_
        clear hsel
        refine Ei S rfl (Rm (S.tm rfl)) rfl fun a S=>Ei S rfl (Rm (S.tm rfl)) rfl fun a S=>Ei S rfl (Iv (S.tm rfl) (S.tm rfl)) rfl fun a S=>Ei S rfl (Rm (S.tm rfl)) rfl ?_;clear S;intro a S
        iterate 12 (refine Pf S rfl rfl rfl rfl (Jh hb2) rfl ?_ rfl;clear S;intro a S)
        refine Ei S rfl (Pq hb2 (S.tm rfl) rfl) rfl fun a S=>Ic ?_
        replace S:=S.k7 0 1 2 3 8 9 34 rfl
        exact Tn (⟨false,h,S.nf [true] rfl (subR rfl)⟩)
      clear S h;rintro a w5 ⟨x5,h,S⟩;rw [hj3] at h;clear hj3 j3
      refine Tn (Fc h (S.tm rfl) (fun hb3 h=>?_) (fun hb3 h=>?_))
      ·refine wp_skip (Tn (Fs (wp_block ?_)))
       obtain ⟨hc3,h⟩:=Gn h
       obtain ⟨hc4,h⟩:=Gn h
       obtain ⟨hc5,h⟩:=Gn h
       obtain ⟨hc6,h⟩:=Gn h
       refine Gf [15,17] ([]) Tryz.mixed S rfl (by kernel_rfl) ?_;clear S;intro w14 hk9 hsel S
       refine Es 0 S hsel rfl rfl (by kernel_rfl) (by kernel_rfl) rfl (fun _=>(Rm (S.tm rfl))) fun a S=>Es 1 S hsel rfl rfl (by kernel_rfl) (by kernel_rfl) rfl (fun _=>(Rm (S.tm rfl))) fun a S=>Es 2 S hsel rfl rfl (by kernel_rfl) (by kernel_rfl) rfl (fun _=>(Rm (S.tm rfl))) fun a S=>Es 3 S hsel rfl rfl (by kernel_rfl) (by kernel_rfl) rfl (fun _=>(Rm (S.tm rfl))) fun a S=>Es 4 S hsel rfl rfl (by kernel_rfl) (by kernel_rfl) rfl (fun _=>(It (S.tm rfl) rfl)) fun a S=>Es 5 S hsel rfl rfl (by kernel_rfl) (by kernel_rfl) rfl (fun _=>(Rm (S.tm rfl))) fun a S=>Es 6 S hsel rfl rfl (by kernel_rfl) (by kernel_rfl) rfl (fun _=>(Rm (S.tm rfl))) fun a S=>Es 7 S hsel rfl rfl (by kernel_rfl) (by kernel_rfl) rfl (fun _=>(It (S.tm rfl) rfl)) ?_;clear S;intro a S
       obtain ⟨b9,hg9,hr9⟩:=Ft (a:=a) (x:=.tmp 42) (y:=.tmp 44) (ty:=0) Hz An.enc_ok S (i:=0) rfl (Cn hc3).1 (Cn hc3).2 (S.tm rfl) (S.tm rfl)
       refine Es 8 S hsel rfl rfl (by kernel_rfl) (by kernel_rfl) rfl (fun _=>(hr9 _)) ?_;clear S;intro a S
       clear hr9
       refine Cw 9 S hsel rfl (by kernel_rfl) (by kernel_rfl) (by kernel_rfl) (by kernel_rfl) rfl (fun _ hw=>(He isAgg55 sizeOf55 (off:=((W (x4 - 1)).toNat) * 5) (o:=0) (part:=(An.enc (nth x3 (W (x4 - 1))))) rfl rfl (S.tm rfl) ((Lq An.enc_ok S (i:=0) rfl hg9 (Cn hc3).1 (Hg (e':=.own V 55 5 x3.length (x3.flatMap An.enc)))).kept hw))) fun a S=>Es 10 S hsel rfl rfl (by kernel_rfl) (by kernel_rfl) rfl (fun _=>(Rm (S.tm rfl))) fun a S=>Es 11 S hsel rfl rfl (by kernel_rfl) (by kernel_rfl) rfl (fun _=>(Rm (S.tm rfl))) ?_;clear S;intro a S
       obtain ⟨b10,hg10,hr10⟩:=Ft (a:=a) (x:=.tmp 47) (y:=.tmp 48) (ty:=0) Hz An.enc_ok S (i:=0) rfl (Cn hc4).1 (Cn hc4).2 (S.tm rfl) (S.tm rfl)
       refine Es 12 S hsel rfl rfl (by kernel_rfl) (by kernel_rfl) rfl (fun _=>(hr10 _)) ?_;clear S;intro a S
       clear hr10
       refine Cw 13 S hsel rfl (by kernel_rfl) (by kernel_rfl) (by kernel_rfl) (by kernel_rfl) rfl (fun _ hw=>(He isAgg55 sizeOf55 (off:=x4.toNat * 5) (o:=0) (part:=(An.enc (nth x3 x4))) rfl rfl (S.tm rfl) ((Lq An.enc_ok S (i:=0) rfl hg10 (Cn hc4).1 (Hg (e':=.own V 55 5 x3.length (x3.flatMap An.enc)))).kept hw))) ?_;clear S;intro a S
       obtain ⟨b11,hg11,hr11⟩:=Ft (a:=a) (x:=.tmp 37) (y:=.tmp 38) (ty:=0) Hz An.enc_ok S (i:=0) rfl (Cn hc5).1 (Cn hc5).2 (S.tm rfl) (S.tm rfl)
       refine Es 14 S hsel rfl rfl (by kernel_rfl) (by kernel_rfl) rfl (fun _=>(hr11 _)) ?_;clear S;intro a S
       clear hr11
       refine Qy 15 (V.ownBlock.toList) rfl (by kernel_rfl) rfl (Je (c:=0) (j:=x4.toNat) (nth x3 (W (x4 - 1))) An.enc_ok S (S.tm rfl) (S.tm rfl) (i:=0) rfl hg11 (Cn hc5).1 sizeOf55 (vs:=[sV ((nth x3 (W (x4 - 1))).Race),sV ((nth x3 (W (x4 - 1))).Who),sV ((nth x3 (W (x4 - 1))).Club),iV ((nth x3 (W (x4 - 1))).Rank),bV ((nth x3 (W (x4 - 1))).Relay)]) rfl rfl rfl rfl rfl ?_);clear S;intro w16 hk11 S
       refine Ld (Rd ?_)
       obtain ⟨b12,hg12,hr12⟩:=Ft (a:=a) (x:=.tmp 39) (y:=.tmp 41) (ty:=0) Hz An.enc_ok S (i:=0) rfl (Cn hc6).1 (Cn hc6).2 (S.tm rfl) (S.tm rfl)
       refine Cw 16 S hsel rfl rfl rfl (by kernel_rfl) (by kernel_rfl) rfl (fun _ hw=>(hr12 _)) ?_;clear S;intro a S
       clear hr12
       refine Gu 17 (by kernel_rfl) rfl (Je (c:=0) (j:=(W (x4 - 1)).toNat) (nth x3 x4) An.enc_ok S (S.tm rfl) (S.tm rfl) (i:=0) rfl hg12 (Cn hc6).1 sizeOf55 (vs:=[sV ((nth x3 x4).Race),sV ((nth x3 x4).Who),sV ((nth x3 x4).Club),iV ((nth x3 x4).Rank),bV ((nth x3 x4).Relay)]) rfl rfl rfl rfl rfl ?_);clear S;intro w18 hk13 S
       refine Ld (Ib hk13 (Wo (by kernel_rfl) ?_))
       clear hsel
       replace S:=(S.nl [.own V 55 5 ((x3.set x4.toNat (nth x3 (W (x4 - 1)))).set ((W (x4 - 1)).toNat) (nth x3 x4)).length (((x3.set x4.toNat (nth x3 (W (x4 - 1)))).set ((W (x4 - 1)).toNat) (nth x3 x4)).flatMap An.enc)] [true] rfl).k6 0 1 2 3 8 9 rfl
       exact Hf (Tn (Fg (Vm S rfl rfl fun a S=>Vq S It rfl rfl rfl fun a S=>Va S rfl rfl fun a S=>Dl (⟨m2,⟨((x3.set x4.toNat (nth x3 (W (x4 - 1)))).set ((W (x4 - 1)).toNat) (nth x3 x4)),W (x4 - 1),h,S.nf [true] rfl ⟨rfl,rfl,rfl,rfl,rfl,rfl,trivial⟩⟩,Nat.lt_succ_self _⟩))))
      ·exact wp_exit (De (De (Fk (Tn (⟨x3,h,S.nf [true] rfl (subR rfl)⟩)))))
    clear S h;rintro a w4 ⟨x3,h,S⟩;rw [hj2] at h;clear hj2 j2
    exact Hf (Tn (Fg (Vm S rfl rfl fun a S=>Vq S Eh rfl rfl rfl fun a S=>Va S rfl rfl fun a S=>Dl (⟨m1,⟨x3,W (x2 + 1),h,S.nf [true] rfl ⟨rfl,rfl,rfl,rfl,rfl,trivial⟩⟩,Nat.lt_succ_self _⟩))))
   ·exact wp_exit (De (De (Fk (Tn (⟨x1,h,S.nf [true] rfl trivial⟩)))))
 clear S h;rintro a w2 ⟨x1,h,S⟩;rw [hj1] at h;clear hj1 j1
 obtain rfl:=Option.some.inj h
 exact Rc S results98 ⟨(S.holds _ (List.mem_of_getElem? (i:=0) rfl)),rfl⟩
theorem Jz (w : World) (V : Value) (Ah : List An) (Ay : (LEnt.own V 55 5 Ah.length (Ah.flatMap An.enc)).holds w) (Ad : Int) (Ae : Int) (Bp : Int) (r : (List An)) (h : Fi Ah Ad Ae Bp = some r) :
    Calls prog 62 [V,iV Ad,iV Ae,iV Bp,.func (.func 34) #[] #[]].toArray w (Ret w (V.ownBlock.toList) fun _ v w'=>(LEnt.own V 55 5 r.length (r.flatMap An.enc)).holds w' ∧ v = .tuple #[]):=by
 refine Jt (V.ownBlock.toList) [.own V 55 5 Ah.length (Ah.flatMap An.enc)] func62 rfl ntmps62 rfl (fun e he=>by simp only [List.mem_singleton] at he;subst he;exact Ay) (Jd _) (Kb _) fun a S=>?_
 unfold Fi at h
 replace S:=(S.nl [.own V 55 5 Ah.length (Ah.flatMap An.enc)] [true] rfl).k5 0 1 2 3 4 rfl
 refine Fr (Vk S rfl rfl fun a S=>Dz (Vk S rfl rfl fun a S=>Dl ?_))
 replace S:=S.k6 0 1 2 3 4 10 rfl
 refine Dk (fun a w'=>False) ?_ ?_
 ·refine wp_block (Fq (fun (m1 : Nat) a w'=>∃ x1 : Int,∃ x2 : Int,∃ x3 : Int,∃ x4 : Bool,Dd Ah m1 x1 x2 x3 x4 = some r ∧ Sx w (V.ownBlock.toList) nov [.own V 55 5 Ah.length (Ah.flatMap An.enc)] [(0,V),(1,iV x1),(2,iV x2),(3,iV x3),(4,.func (.func 34) #[] #[]),(10,bV x4)] 148 a w') id 4611686018427387904 ⟨Ad,Ae,Bp,true,h,S.nf [true] rfl (subR rfl)⟩ ?_)
  clear S h;rintro m1 a w1 ⟨x1,x2,x3,x4,h,S⟩
  cases m1 with
  | zero=>rw [Dd.eq_1] at h;cases h
  | succ m1 =>
   rw [Dd.eq_2] at h
   refine wp_block (Fr (Vm S rfl rfl fun a S=>Vm S rfl rfl fun a S=>Vb S It rfl rfl rfl fun a S=>Va S rfl rfl fun a S=>Dl (Fs (Fs ?_))))
   refine Fg (Vm S rfl rfl fun a S=>Vq S Qc rfl rfl rfl fun a S=>Dl (Fc h (S.tm rfl) (fun hb1 h=>?_) (fun hb1 h=>?_)))
   ·refine Fs (Fg ?_)
    iterate 4 (refine Vm S rfl rfl ?_;clear S;intro a S)
    obtain ⟨r1,hr1,h⟩:=Em h
    refine Ly 0 S rfl (fun _=>.own V 55 5 r1.length (r1.flatMap An.enc)) (fun _=>Ck (vs:=[V,iV x1,iV x2,.func (.func 34) #[] #[]]) ⟨(S.tm rfl),(S.tm rfl),(S.tm rfl),(S.tm rfl),trivial⟩ call98) (Jm _ V Ah (S.holds _ (List.mem_of_getElem? (i:=0) rfl)) x1 x2 _ hr1) rfl (fun _ _ _ h=>⟨h.1,fun _ hc=>hc⟩) ?_;clear S;intro v1 a w3 hv1 hk1 hn1 S
    replace hv1:=hv1.2
    subst hv1
    refine Ld ?_
    replace S:=(S.nl [.own V 55 5 r1.length (r1.flatMap An.enc)] [true] rfl).k0
    refine Tn (wp_ret (Cp (Fb (Cp (Fb (Cp ?_))))))
    obtain rfl:=Option.some.inj h
    exact Rc S results62 ⟨(S.holds _ (List.mem_of_getElem? (i:=0) rfl)),rfl⟩
   ·refine wp_skip (Tn (Fs (Fr (Vm S rfl rfl fun a S=>Vq S Kq rfl rfl rfl fun a S=>Dl (Fc h (S.tm rfl) (fun hb2 h=>?_) (fun hb2 h=>?_))))))
    ·refine Fs ?_
     cases h
    ·refine wp_skip (Tn (Fs (Fr (Vm S rfl rfl fun a S=>Vu S Lj rfl rfl fun a S=>Ld ?_))))
     replace S:=S.k1 39 rfl
     refine Tn (Fc h (S.tm rfl) (fun hb3 h=>?_) (fun hb3 h=>?_))
     ·refine Fs ?_
      cases h
     ·refine wp_skip (Tn (Fs ?_))
      cases h
 exact fun _ _ h=>h.elim
theorem Lb (w : World) (Al : Value) (Ai : List An) (Br : (LEnt.own Al 55 5 Ai.length (Ai.flatMap An.enc)).holds w) (r : (List An)) (h : Dv Ai = some r) :
    Calls prog 42 [Al,.func (.func 34) #[] #[]].toArray w (Ret w (Al.ownBlock.toList) fun _ v w'=>(LEnt.own Al 55 5 r.length (r.flatMap An.enc)).holds w' ∧ v = .tuple #[]):=by
 refine Jt (Al.ownBlock.toList) [.own Al 55 5 Ai.length (Ai.flatMap An.enc)] func42 rfl ntmps42 rfl (fun e he=>by simp only [List.mem_singleton] at he;subst he;exact Br) (Jd _) (Kb _) fun a S=>?_
 unfold Dv at h
 replace S:=(S.nl [.own Al 55 5 Ai.length (Ai.flatMap An.enc)] [true] rfl).k2 0 1 rfl
 refine Fr (Vm S rfl rfl fun a S=>lv S (Ec Hz (S.tm rfl) (Nd (S.own_at (i:=0) rfl))) rfl fun a S=>Va S rfl rfl fun a S=>Dl (Fg ?_))
 iterate 3 (refine Vm S rfl rfl ?_;clear S;intro a S)
 refine Vu S (Nn underlying3 underlying89) rfl rfl ?_;clear S;intro a S
 obtain ⟨r1,hr1,h⟩:=Em h
 refine Df S (fun _=>Ck (vs:=[.int .u64 (IntKind.wrap .u64 (Ai.length : Int))]) ⟨(S.tm rfl),trivial⟩ call48) (Vs _ (IntKind.wrap .u64 (Ai.length : Int)) _ hr1) rfl ?_;clear S;intro v1 a w1 hv1 hk1 hn1 S
 subst hv1
 refine Vm S rfl rfl ?_;clear S;intro a S
 obtain ⟨r2,hr2,h⟩:=Em h
 refine Ly 0 S rfl (fun _=>.own Al 55 5 r2.length (r2.flatMap An.enc)) (fun _=>Ck (vs:=[Al,iV 0,iV (Ai.length : Int),iV r1,.func (.func 34) #[] #[]]) ⟨(S.tm rfl),rfl,(S.tm rfl),(S.tm rfl),(S.tm rfl),trivial⟩ call62) (Jz _ Al Ai (S.holds _ (List.mem_of_getElem? (i:=0) rfl)) 0 (Ai.length : Int) r1 _ hr2) rfl (fun _ _ _ h=>⟨h.1,fun _ hc=>hc⟩) ?_;clear S;intro v2 a w2 hv2 hk2 hn2 S
 replace hv2:=hv2.2
 subst hv2
 refine Ld ?_
 obtain rfl:=Option.some.inj h
 exact Rc S results42 ⟨(S.holds _ (List.mem_of_getElem? (i:=0) rfl)),rfl⟩
theorem Rt (w : World) (O : Nat) (U : Value) (Ag : List Int) (Af : Slc (view w [O]) 1 U (Ag.map eInt)) (Ac : Int) (As : (LEnt.blk O [U,iV Ac] 25).holds w) (r : (List An) × Int) (h : Kj Ag Ac = some r) :
    Calls prog 20 [.pointer (some ⟨O,0,none⟩)].toArray w (Ret w [O] fun τ v w'=>(LEnt.blk O [U,iV r.2] 25).holds w' ∧ Pr τ 55 5 v r.1.length (r.1.flatMap An.enc)):=by
 refine Jt [O] [.blk O [U,iV Ac] 25] func20 rfl ntmps20 rfl (fun e he=>by simp only [List.mem_singleton] at he;subst he;exact As) (by simp [fps,LEnt.fp]) (by simp [fps,LEnt.fp]) fun a S=>?_
 unfold Kj at h
 replace S:=(S.nl [.blk O [U,iV Ac] 25] [true] rfl).k1 0 rfl
 refine Fr (Vk S rfl rfl fun a S=>Dz (Vk S rfl rfl ?_));clear S;intro a S
 replace S:=S.nil 55 5
 refine Dl (Fs (Fr (Eb S underlying75 sizeOf9 zeroValue9 rfl rfl (pv:=[(0,sV Jg),(1,sV Mp),(2,sV Mq)]) ⟨rfl,rfl,rfl,rfl,rfl,rfl,trivial⟩ (cs:=[sV Jg,sV Mp,sV Mq]) (by kernel_rfl) rfl ?_)));clear S;intro a w1 b1 hz1 hk1 S
 refine lv S (Ec Kp (S.tm rfl) ⟨_,_,rfl⟩) rfl fun a S=>lv S (Rm rfl) rfl fun a S=>Dl ?_
 replace S:=(S.nl [.blk b1 [sV Jg,sV Mp,sV Mq] 9,.own (.slice none 0 0) 55 5 ([] : List An).length (([] : List An).flatMap An.enc),.blk O [U,iV Ac] 25] [true,true,true] rfl).k5 0 3 16 17 18 rfl
 replace S:=S.litOwn (i:=0) (xs:=[Jg,Mp,Mq]) rfl Fa rfl rfl rfl
 replace S:=S.nk [.own (.slice (some ⟨b1,0,none⟩) 3 3) 9 1 ([Jg,Mp,Mq] : List ByteArray).length (([Jg,Mp,Mq] : List ByteArray).flatMap Hi),.own (.slice none 0 0) 55 5 ([] : List An).length (([] : List An).flatMap An.enc),.blk O [U,iV Ac] 25] [(0,.pointer (some ⟨O,0,none⟩)),(3,(.slice none 0 0)),(16,(.slice (some ⟨b1,0,none⟩) 3 3)),(17,iV (([Jg,Mp,Mq] : List ByteArray).length : Int)),(18,iV 0)] [] rfl (subR rfl)
 obtain ⟨φ1,hl1,hs1,S⟩:=S.freezeT (xs:=([Jg,Mp,Mq] : List ByteArray)) (enc:=Hi) (i:=0) rfl (fun c hc hh=>Ss S (i:=2) rfl rfl (j:=0) rfl rfl (by simp at hc;subst hc;exact hh))
 replace S:=S.nk [.own (.slice none 0 0) 55 5 ([] : List An).length (([] : List An).flatMap An.enc),.blk O [U,iV Ac] 25] [(0,.pointer (some ⟨O,0,none⟩)),(3,(.slice none 0 0)),(16,(.slice (some ⟨b1,0,none⟩) 3 3)),(17,iV (([Jg,Mp,Mq] : List ByteArray).length : Int)),(18,iV 0)] [] rfl (subR rfl)
 obtain ⟨j1,hj1,h⟩:=Dw h
 refine Dk (fun a w'=>∃ x1 : List An,∃ x2 : Int,∃ φ2 : View,∃ v1 : Value,j1 x1 x2 = some r ∧ View.le φ1 φ2 ∧ Sx w [O] φ2 [.own v1 55 5 x1.length (x1.flatMap An.enc),.blk O [U,iV x2] 25] [(3,v1)] 114 a w') ?_ ?_
 ·refine wp_block (Fq (fun (ys1 : List ByteArray) a w'=>∃ i1 : Nat,∃ x1 : List An,∃ x2 : Int,∃ φ2 : View,∃ v1 : Value,(∃ dn,([Jg,Mp,Mq] : List ByteArray) = dn ++ ys1 ∧ dn.length = i1) ∧ Ej Ag j1 ys1 i1 x1 x2 = some r ∧ View.le φ1 φ2 ∧ Sx w [O] φ2 [.own v1 55 5 x1.length (x1.flatMap An.enc),.blk O [U,iV x2] 25] [(0,.pointer (some ⟨O,0,none⟩)),(3,v1),(16,(.slice (some ⟨b1,0,none⟩) 3 3)),(17,iV (([Jg,Mp,Mq] : List ByteArray).length : Int)),(18,iV (i1 : Int))] 114 a w') List.length ([Jg,Mp,Mq] : List ByteArray) ⟨0,([] : List An),Ac,φ1,(.slice none 0 0),⟨[],rfl,rfl⟩,h,View.le_refl _,S.nf [true,true] rfl (subR rfl)⟩ ?_)
  clear S h;rintro ys1 a w2 ⟨i1,x1,x2,φ2,v1,⟨dn,hd1,hi1⟩,h,hl2,S⟩
  cases ys1 with
  | nil =>
   rw [Ej.eq_1] at h
   refine Fr (Vb S Dp rfl rfl rfl fun a S=>Ld ?_)
   replace S:=S.k6 0 3 16 17 18 19 rfl
   exact Tn (Fs (wp_cond_false ((S.tm rfl).trans (congrArg Value.bool (Hj hd1 hi1))) (wp_exit (De (De (Fk (Tn (⟨x1,x2,φ2,v1,h,hl2,S.nf [true,true] rfl ⟨rfl,trivial⟩⟩))))))))
  | cons y1 ys1 =>
   rw [Ej.eq_2] at h
   refine Fr (Vb S Dp rfl rfl rfl fun a S=>Ld ?_)
   replace S:=S.k6 0 3 16 17 18 19 rfl
   refine Tn (Fs (wp_cond_true ((S.tm rfl).trans (congrArg Value.bool (Fy hd1 hi1))) (wp_skip (Tn (Fs (wp_block (Fs (Fg ?_))))))))
   obtain ⟨b2,o1,hm1,hr1⟩:=Ea (a:=a) (x:=.tmp 16) (y:=.tmp 18) (ty:=0) Kp (Ir Fa hs1) (Hd hd1 hi1) rfl (S.tm rfl) (S.tm rfl)
   refine lv S (hr1 _) rfl ?_;clear S;intro a S
   clear hr1
   refine lv S (Gy isAgg9 (off:=o1) (o:=0) (S.tm rfl) ((hm1.mono hl2).at S.emb) rfl) rfl fun a S=>Va S rfl rfl fun a S=>Dz (Vm S rfl rfl ?_);clear S;intro a S
   obtain ⟨r1,hr2,h⟩:=Em h
   refine Fv 1 S (b:=O) rfl rfl (fun _=>.blk O [U,iV r1.2] 25) (fun _=>Ck (vs:=[.pointer (some ⟨O,0,none⟩),iV 3]) ⟨(S.tm rfl),rfl,trivial⟩ call18) (Lo _ O U Ag (Af.mono (S.le_arg (Hn (i:=1) (e:=.blk O [U,iV x2] 25) rfl))) x2 (S.holds _ (List.mem_of_getElem? (i:=1) rfl)) 3 _ hr2) rfl (fun _ _ _ h=>⟨h.1,fun _ hc=>by cases hc;rfl⟩) ?_;clear S;intro v2 a w4 hv1 hk2 hn1 S
   replace hv1:=hv1.2
   subst hv1
   refine Va S rfl rfl fun a S=>Dz (Vk S rfl rfl ?_);clear S;intro a S
   replace S:=S.nil 55 5
   refine Dl (Fs (Fr (Eb S underlying75 sizeOf9 zeroValue9 rfl rfl (pv:=[(0,sV Kh),(1,sV Pa),(2,sV Pb),(3,sV Pc),(4,sV Pd)]) ⟨rfl,rfl,rfl,rfl,rfl,rfl,rfl,rfl,rfl,rfl,trivial⟩ (cs:=[sV Kh,sV Pa,sV Pb,sV Pc,sV Pd]) (by kernel_rfl) rfl ?_)));clear S;intro a w5 b3 hz2 hk3 S
   refine lv S (Ec Kp (S.tm rfl) ⟨_,_,rfl⟩) rfl fun a S=>lv S (Rm rfl) rfl fun a S=>Ld ?_
   replace S:=(S.nl [.blk b3 [sV Kh,sV Pa,sV Pb,sV Pc,sV Pd] 9,.own (.slice none 0 0) 55 5 ([] : List An).length (([] : List An).flatMap An.enc),.own v1 55 5 x1.length (x1.flatMap An.enc),.blk O [U,iV r1.2] 25] [true,true,true,true] rfl).k11 0 3 5 6 7 16 17 18 24 25 26 rfl
   refine Tn ?_
   replace S:=S.litOwn (i:=0) (xs:=[Kh,Pa,Pb,Pc,Pd]) rfl Fa rfl rfl rfl
   replace S:=S.nk [.own (.slice (some ⟨b3,0,none⟩) 5 5) 9 1 ([Kh,Pa,Pb,Pc,Pd] : List ByteArray).length (([Kh,Pa,Pb,Pc,Pd] : List ByteArray).flatMap Hi),.own (.slice none 0 0) 55 5 ([] : List An).length (([] : List An).flatMap An.enc),.own v1 55 5 x1.length (x1.flatMap An.enc),.blk O [U,iV r1.2] 25] [(0,.pointer (some ⟨O,0,none⟩)),(3,v1),(5,sV y1),(6,bV r1.1),(7,(.slice none 0 0)),(16,(.slice (some ⟨b1,0,none⟩) 3 3)),(17,iV (([Jg,Mp,Mq] : List ByteArray).length : Int)),(18,iV (i1 : Int)),(24,(.slice (some ⟨b3,0,none⟩) 5 5)),(25,iV (([Kh,Pa,Pb,Pc,Pd] : List ByteArray).length : Int)),(26,iV 0)] [] rfl (subR rfl)
   obtain ⟨φ3,hl3,hs2,S⟩:=S.freezeT (xs:=([Kh,Pa,Pb,Pc,Pd] : List ByteArray)) (enc:=Hi) (i:=0) rfl (fun c hc hh=>Ss S (i:=3) rfl rfl (j:=0) rfl rfl (by simp at hc;subst hc;exact hh))
   replace S:=S.nk [.own (.slice none 0 0) 55 5 ([] : List An).length (([] : List An).flatMap An.enc),.own v1 55 5 x1.length (x1.flatMap An.enc),.blk O [U,iV r1.2] 25] [(0,.pointer (some ⟨O,0,none⟩)),(3,v1),(5,sV y1),(6,bV r1.1),(7,(.slice none 0 0)),(16,(.slice (some ⟨b1,0,none⟩) 3 3)),(17,iV (([Jg,Mp,Mq] : List ByteArray).length : Int)),(18,iV (i1 : Int)),(24,(.slice (some ⟨b3,0,none⟩) 5 5)),(25,iV (([Kh,Pa,Pb,Pc,Pd] : List ByteArray).length : Int)),(26,iV 0)] [] rfl (subR rfl)
   obtain ⟨j2,hj2,h⟩:=Dw h
   refine Dk (fun a w'=>∃ x3 : List An,∃ x4 : Int,∃ v3 : Value,j2 x3 x4 = some r ∧ Sx w [O] φ3 [.own v3 55 5 x3.length (x3.flatMap An.enc),.own v1 55 5 x1.length (x1.flatMap An.enc),.blk O [U,iV x4] 25] [(0,.pointer (some ⟨O,0,none⟩)),(3,v1),(7,v3),(16,(.slice (some ⟨b1,0,none⟩) 3 3)),(17,iV (([Jg,Mp,Mq] : List ByteArray).length : Int)),(18,iV (i1 : Int))] 114 a w') ?_ ?_
   ·refine wp_block (Fq (fun (ys2 : List ByteArray) a w'=>∃ i2 : Nat,∃ x3 : List An,∃ x4 : Int,∃ v3 : Value,(∃ dn,([Kh,Pa,Pb,Pc,Pd] : List ByteArray) = dn ++ ys2 ∧ dn.length = i2) ∧ Ga Ag y1 r1 j2 ys2 i2 x3 x4 = some r ∧ Sx w [O] φ3 [.own v3 55 5 x3.length (x3.flatMap An.enc),.own v1 55 5 x1.length (x1.flatMap An.enc),.blk O [U,iV x4] 25] [(0,.pointer (some ⟨O,0,none⟩)),(3,v1),(5,sV y1),(6,bV r1.1),(7,v3),(16,(.slice (some ⟨b1,0,none⟩) 3 3)),(17,iV (([Jg,Mp,Mq] : List ByteArray).length : Int)),(18,iV (i1 : Int)),(24,(.slice (some ⟨b3,0,none⟩) 5 5)),(25,iV (([Kh,Pa,Pb,Pc,Pd] : List ByteArray).length : Int)),(26,iV (i2 : Int))] 114 a w') List.length ([Kh,Pa,Pb,Pc,Pd] : List ByteArray) ⟨0,([] : List An),r1.2,(.slice none 0 0),⟨[],rfl,rfl⟩,h,S.nf [true,true,true] rfl (subR rfl)⟩ ?_)
    clear S h;rintro ys2 a w6 ⟨i2,x3,x4,v3,⟨dn,hd2,hi2⟩,h,S⟩
    cases ys2 with
    | nil =>
     rw [Ga.eq_1] at h
     refine Fr (Vb S Dp rfl rfl rfl fun a S=>Ld ?_)
     replace S:=S.k12 0 3 5 6 7 16 17 18 24 25 26 27 rfl
     exact Tn (Fs (wp_cond_false ((S.tm rfl).trans (congrArg Value.bool (Hj hd2 hi2))) (wp_exit (De (De (Fk (Tn (⟨x3,x4,v3,h,S.nf [true,true,true] rfl (subR rfl)⟩))))))))
    | cons y2 ys2 =>
     rw [Ga.eq_2] at h
     refine Fr (Vb S Dp rfl rfl rfl fun a S=>Ld ?_)
     replace S:=S.k12 0 3 5 6 7 16 17 18 24 25 26 27 rfl
     refine Tn (Fs (wp_cond_true ((S.tm rfl).trans (congrArg Value.bool (Fy hd2 hi2))) (wp_skip (Tn (Fs ?_)))))
     obtain ⟨j3,hj3,h⟩:=Dw h
     refine Dk (fun a w'=>∃ x5 : List An,∃ x6 : Int,∃ v4 : Value,j3 x5 x6 = some r ∧ Sx w [O] φ3 [.own v4 55 5 x5.length (x5.flatMap An.enc),.own v1 55 5 x1.length (x1.flatMap An.enc),.blk O [U,iV x6] 25] [(0,.pointer (some ⟨O,0,none⟩)),(3,v1),(5,sV y1),(6,bV r1.1),(7,v4),(16,(.slice (some ⟨b1,0,none⟩) 3 3)),(17,iV (([Jg,Mp,Mq] : List ByteArray).length : Int)),(18,iV (i1 : Int)),(24,(.slice (some ⟨b3,0,none⟩) 5 5)),(25,iV (([Kh,Pa,Pb,Pc,Pd] : List ByteArray).length : Int)),(26,iV (i2 : Int))] 114 a w') ?_ ?_
     ·refine wp_block (Fs (Fg ?_))
      obtain ⟨b4,o2,hm2,hr3⟩:=Ea (a:=a) (x:=.tmp 24) (y:=.tmp 26) (ty:=0) Kp (Ir Fa hs2) (Hd hd2 hi2) rfl (S.tm rfl) (S.tm rfl)
      refine lv S (hr3 _) rfl ?_;clear S;intro a S
      clear hr3
      refine lv S (Gy isAgg9 (off:=o2) (o:=0) (S.tm rfl) (hm2.at S.emb) rfl) rfl fun a S=>Va S rfl rfl fun a S=>Ld ?_
      replace S:=S.k12 0 3 5 6 7 9 16 17 18 24 25 26 rfl
      refine Tn (Fr (Vm S rfl rfl ?_));clear S;intro a S
      obtain ⟨r2,hr4,h⟩:=Em h
      refine Fv 2 S (b:=O) rfl rfl (fun _=>.blk O [U,iV r2.2] 25) (fun _=>Ck (vs:=[.pointer (some ⟨O,0,none⟩),iV 4]) ⟨(S.tm rfl),rfl,trivial⟩ call18) (Lo _ O U Ag (Af.mono (S.le_arg (Hn (i:=2) (e:=.blk O [U,iV x4] 25) rfl))) x4 (S.holds _ (List.mem_of_getElem? (i:=2) rfl)) 4 _ hr4) rfl (fun _ _ _ h=>⟨h.1,fun _ hc=>by cases hc;rfl⟩) ?_;clear S;intro v5 a w9 hv2 hk4 hn2 S
      replace hv2:=hv2.2
      subst hv2
      refine Vu S Lj rfl rfl fun a S=>Ld ?_
      replace S:=(S.nl [.own v3 55 5 x3.length (x3.flatMap An.enc),.own v1 55 5 x1.length (x1.flatMap An.enc),.blk O [U,iV r2.2] 25] [true,true,true] rfl).k13 0 3 5 6 7 9 16 17 18 24 25 26 32 rfl
      refine Tn ?_
      obtain ⟨j4,hj4,h⟩:=Dw h
      refine Dk (fun a w'=>∃ x7 : List An,∃ x8 : Int,∃ v6 : Value,j4 x7 x8 = some r ∧ Sx w [O] φ3 [.own v6 55 5 x7.length (x7.flatMap An.enc),.own v1 55 5 x1.length (x1.flatMap An.enc),.blk O [U,iV x8] 25] [(0,.pointer (some ⟨O,0,none⟩)),(3,v1),(5,sV y1),(6,bV r1.1),(7,v6),(16,(.slice (some ⟨b1,0,none⟩) 3 3)),(17,iV (([Jg,Mp,Mq] : List ByteArray).length : Int)),(18,iV (i1 : Int)),(24,(.slice (some ⟨b3,0,none⟩) 5 5)),(25,iV (([Kh,Pa,Pb,Pc,Pd] : List ByteArray).length : Int)),(26,iV (i2 : Int))] 114 a w') ?_ ?_
      ·refine Fc h (S.tm rfl) (fun hb1 h=>?_) (fun hb1 h=>?_)
       ·refine Fg ?_
        iterate 4 (refine Vm S rfl rfl ?_;clear S;intro a S)
        refine Eb S underlying75 sizeOf9 zeroValue9 rfl rfl (pv:=[(0,sV Ie),(1,sV Ie),(2,sV Of),(3,sV Tj),(4,sV Co)]) ⟨rfl,rfl,rfl,rfl,rfl,rfl,rfl,rfl,rfl,rfl,trivial⟩ (cs:=[sV Ie,sV Ie,sV Of,sV Tj,sV Co]) (by kernel_rfl) rfl ?_;clear S;intro a w11 b5 hz3 hk5 S
        obtain ⟨r3,hr5,h⟩:=Em h
        refine Fv 3 S (b:=O) rfl rfl (fun _=>.blk O [U,iV r3.2] 25) (fun _=>Ck (vs:=[.pointer (some ⟨O,0,none⟩),.slice (some ⟨b5,0,none⟩) 5 5]) ⟨(S.tm rfl),(S.tm rfl),trivial⟩ call16) (Im _ O U Ag (Af.mono (S.le_arg (Hn (i:=3) (e:=.blk O [U,iV r2.2] 25) rfl))) r2.2 (S.holds _ (List.mem_of_getElem? (i:=3) rfl)) (.slice (some ⟨b5,0,none⟩) 5 5) [Ie,Ie,Of,Tj,Co] (Iw Fa S (i:=0) rfl rfl rfl rfl ((Mw (i:=3) (j:=0) (e:=.blk O [U,iV r2.2] 25) (e':=.blk b5 [sV Ie,sV Ie,sV Of,sV Tj,sV Co] 9) S rfl rfl rfl) _ rfl)) _ hr5) rfl (fun _ _ _ h=>⟨h.1,fun _ hc=>by cases hc;rfl⟩) ?_;clear S;intro v7 a w12 hv3 hk6 hn3 S
        replace hv3:=hv3.2
        subst hv3
        refine Vm S rfl rfl fun a S=>Eb S underlying22 sizeOf3 zeroValue3 rfl rfl (pv:=[(0,iV 0),(1,iV 1),(2,iV 2),(3,iV 2),(4,iV 3),(5,iV 4)]) ⟨rfl,rfl,rfl,rfl,rfl,rfl,rfl,rfl,rfl,rfl,rfl,rfl,trivial⟩ (cs:=[iV 0,iV 1,iV 2,iV 2,iV 3,iV 4]) (by kernel_rfl) rfl ?_;clear S;intro a w13 b6 hz4 hk7 S
        obtain ⟨r4,hr6,h⟩:=Em h
        refine Fv 4 S (b:=O) rfl rfl (fun _=>.blk O [U,iV r4.2] 25) (fun _=>Ck (vs:=[.pointer (some ⟨O,0,none⟩),.slice (some ⟨b6,0,none⟩) 6 6]) ⟨(S.tm rfl),(S.tm rfl),trivial⟩ call17) (Ok _ O U Ag (Af.mono (S.le_arg (Hn (i:=4) (e:=.blk O [U,iV r3.2] 25) rfl))) r3.2 (S.holds _ (List.mem_of_getElem? (i:=4) rfl)) (.slice (some ⟨b6,0,none⟩) 6 6) [0,1,2,2,3,4] (Iw Nf S (i:=0) rfl rfl rfl rfl ((Mw (i:=4) (j:=0) (e:=.blk O [U,iV r3.2] 25) (e':=.blk b6 [iV 0,iV 1,iV 2,iV 2,iV 3,iV 4] 3) S rfl rfl rfl) _ rfl)) _ hr6) rfl (fun _ _ _ h=>⟨h.1,fun _ hc=>by cases hc;rfl⟩) ?_;clear S;intro v8 a w14 hv4 hk8 hn4 S
        replace hv4:=hv4.2
        subst hv4
        refine Vm S rfl rfl fun a S=>lv S (Nu bt_55 (pv:=[(0,sV y1),(1,sV y2),(2,sV r3.1),(3,iV r4.1),(4,bV r1.1)]) ⟨rfl,(S.tm rfl),rfl,(S.tm rfl),rfl,(S.tm rfl),rfl,(S.tm rfl),rfl,(S.tm rfl),trivial⟩ (cs:=[sV y1,sV y2,sV r3.1,iV r4.1,bV r1.1]) (by kernel_rfl)) rfl fun a S=>Eb S underlying28 sizeOf55 zeroValue55 rfl rfl (pv:=[(0,.agg #[sV y1,sV y2,sV r3.1,iV r4.1,bV r1.1])]) ⟨rfl,(S.tm rfl),trivial⟩ (cs:=[sV y1,sV y2,sV r3.1,iV r4.1,bV r1.1]) (by kernel_rfl) rfl ?_;clear S;intro a w15 b7 hz5 hk9 S
        obtain ⟨hc1,h⟩:=Gn h
        refine Mb Hz An.enc_ok S (S.tm rfl) (i:=3) rfl (S.tm rfl) (j:=0) rfl (ys:=[(An.mk y1 y2 r3.1 r4.1 r1.1)]) rfl rfl rfl rfl (by have:=Lh hc1;omega) rfl ?_;clear S;intro v9 a w16 hk10 S
        refine Va S rfl rfl fun a S=>Ld ?_
        replace S:=(S.nl [.own v9 55 5 (x3 ++ [(An.mk y1 y2 r3.1 r4.1 r1.1)]).length ((x3 ++ [(An.mk y1 y2 r3.1 r4.1 r1.1)]).flatMap An.enc),.own v1 55 5 x1.length (x1.flatMap An.enc),.blk O [U,iV r4.2] 25] [false,false,false,true,true,true] rfl).k11 0 3 5 6 7 16 17 18 24 25 26 rfl
        exact Tn (⟨(x3 ++ [(An.mk y1 y2 r3.1 r4.1 r1.1)]),r4.2,v9,h,S.nf [true,true,true] rfl (subR rfl)⟩)
       ·exact wp_skip (Tn (⟨x3,r2.2,v3,h,S.nf [true,true,true] rfl (subR rfl)⟩))
      clear S h;rintro a w10 ⟨x7,x8,v6,h,S⟩;rw [hj4] at h;clear hj4 j4
      exact Hf (Tn (⟨x7,x8,v6,h,S.nf [true,true,true] rfl (subR rfl)⟩))
     clear S h;rintro a w8 ⟨x5,x6,v4,h,S⟩;rw [hj3] at h;clear hj3 j3
     exact Tn (Fg (Vq S Eh rfl rfl rfl fun a S=>Vm S rfl rfl fun a S=>Dl (⟨ys2,⟨i2 + 1,x5,x6,v4,⟨_,(hd2).trans (List.append_cons _ _ _),by simp [hi2]⟩,h,S.nf [true,true,true] rfl ⟨rfl,rfl,rfl,rfl,rfl,rfl,rfl,rfl,rfl,rfl,(congrArg (fun z=>some (Value.int .i64 z)) (Fz hd2 hi2 (Il (Ir Fa hs2)))),trivial⟩⟩,Nat.lt_succ_self _⟩)))
   clear S h;rintro a w7 ⟨x3,x4,v3,h,S⟩;rw [hj2] at h;clear hj2 j2
   refine Tn (Fs (Fr (Vm S rfl rfl fun a S=>lv S (Ec Hz (S.tm rfl) (Nd (S.own_at (i:=0) rfl))) rfl fun a S=>lv S (Rm rfl) rfl fun a S=>Dl ?_)))
   replace S:=S.k9 0 3 7 16 17 18 47 48 49 rfl
   have hm3:=Ua (S.own_at (i:=0) rfl)
   obtain ⟨j5,hj5,h⟩:=Dw h
   refine Dk (fun a w'=>∃ x9 : List An,∃ v10 : Value,j5 x9 = some r ∧ Sx w [O] φ3 [.own v10 55 5 x9.length (x9.flatMap An.enc),.own v1 55 5 x1.length (x1.flatMap An.enc),.blk O [U,iV x4] 25] [(0,.pointer (some ⟨O,0,none⟩)),(3,v1),(7,v10),(16,(.slice (some ⟨b1,0,none⟩) 3 3)),(17,iV (([Jg,Mp,Mq] : List ByteArray).length : Int)),(18,iV (i1 : Int))] 114 a w') ?_ ?_
   ·refine wp_block (Fq (fun (ys3 : List An) a w'=>∃ i3 : Nat,∃ x9 : List An,∃ v10 : Value,(∃ dn,x3 = dn ++ ys3 ∧ dn.length = i3) ∧ Ey j5 ys3 i3 x9 = some r ∧ Sx w [O] φ3 [.own v10 55 5 x9.length (x9.flatMap An.enc),.own v1 55 5 x1.length (x1.flatMap An.enc),.blk O [U,iV x4] 25] [(0,.pointer (some ⟨O,0,none⟩)),(3,v1),(7,v10),(16,(.slice (some ⟨b1,0,none⟩) 3 3)),(17,iV (([Jg,Mp,Mq] : List ByteArray).length : Int)),(18,iV (i1 : Int)),(47,v10),(48,iV (x3.length : Int)),(49,iV (i3 : Int))] 114 a w') List.length x3 ⟨0,x3,v3,⟨[],rfl,rfl⟩,h,S.nf [true,true,true] rfl (subR rfl)⟩ ?_)
    clear S h;rintro ys3 a w17 ⟨i3,x9,v10,⟨dn,hd3,hi3⟩,h,S⟩
    cases ys3 with
    | nil =>
     rw [Ey.eq_1] at h
     refine Fr (Vb S Dp rfl rfl rfl fun a S=>Ld ?_)
     replace S:=S.k10 0 3 7 16 17 18 47 48 49 50 rfl
     exact Tn (Fs (wp_cond_false ((S.tm rfl).trans (congrArg Value.bool (Hj hd3 hi3))) (wp_exit (De (De (Fk (Tn (⟨x9,v10,h,S.nf [true,true,true] rfl (subR rfl)⟩))))))))
    | cons y3 ys3 =>
     rw [Ey.eq_2] at h
     refine Fr (Vb S Dp rfl rfl rfl fun a S=>Ld ?_)
     replace S:=S.k10 0 3 7 16 17 18 47 48 49 50 rfl
     refine Tn (Fs (wp_cond_true ((S.tm rfl).trans (congrArg Value.bool (Fy hd3 hi3))) (wp_skip (Tn (Fs ?_)))))
     obtain ⟨j6,hj6,h⟩:=Dw h
     refine Dk (fun a w'=>∃ x10 : List An,j6 x10 = some r ∧ Sx w [O] φ3 [.own v10 55 5 x10.length (x10.flatMap An.enc),.own v1 55 5 x1.length (x1.flatMap An.enc),.blk O [U,iV x4] 25] [(0,.pointer (some ⟨O,0,none⟩)),(3,v1),(7,v10),(16,(.slice (some ⟨b1,0,none⟩) 3 3)),(17,iV (([Jg,Mp,Mq] : List ByteArray).length : Int)),(18,iV (i1 : Int)),(47,v10),(48,iV (x3.length : Int)),(49,iV (i3 : Int))] 114 a w') ?_ ?_
     ·refine wp_block (Fr (Vm S rfl rfl ?_));clear S;intro a S
      obtain ⟨hc2,h⟩:=Gn h
      obtain ⟨b8,hg1,hr7⟩:=Ft (a:=a) (x:=.tmp 47) (y:=.tmp 49) (ty:=0) Hz An.enc_ok S (i:=0) rfl (Cn hc2).1 (Cn hc2).2 (S.tm rfl) (S.tm rfl)
      refine lv S (hr7 _) rfl ?_;clear S;intro a S
      clear hr7
      refine lv S (He isAgg55 sizeOf55 (off:=((i3 : Int).toNat) * 5) (o:=0) (part:=(An.enc (nth x9 (i3 : Int)))) rfl rfl (S.tm rfl) (Ks An.enc_ok S (i:=0) rfl hg1 (Cn hc2).1)) rfl fun a S=>Iq S zeroValue55 (cs:=[sV Co,sV Co,sV Co,iV 0,bV false]) rfl rfl ?_;clear S;intro a w20 b9 hz6 hk11 S
      refine Va S rfl rfl fun a S=>Hy S (S.tm rfl) (S.tm rfl) (i:=0) (off:=0) rfl sizeOf55 (vs:=(An.enc (nth x9 (i3 : Int)))) rfl rfl rfl rfl ?_;clear S;intro w21 hk12 S
      refine Ld ?_
      replace S:=(S.nl [.blk b9 (An.enc (nth x9 (i3 : Int))) 55,.own v10 55 5 x9.length (x9.flatMap An.enc),.own v1 55 5 x1.length (x1.flatMap An.enc),.blk O [U,iV x4] 25] [true,true,true,true] rfl).k11 0 3 7 10 11 16 17 18 47 48 49 rfl
      refine Tn (Fr (Vk S rfl rfl fun a S=>Dl (Fs (Fr (Vm S rfl rfl fun a S=>lv S (Ec Hz (S.tm rfl) (Nd (S.own_at (i:=1) rfl))) rfl ?_)))));clear S;intro a S
      refine lv S (Rm rfl) rfl fun a S=>Ld ?_
      replace S:=S.k15 0 3 7 10 11 12 16 17 18 47 48 49 54 55 56 rfl
      refine Tn ?_
      have hm5:=Ua (S.own_at (i:=1) rfl)
      obtain ⟨j7,hj7,h⟩:=Dw h
      refine Dk (fun a w'=>∃ x11 : Int,j7 x11 = some r ∧ Sx w [O] φ3 [.blk b9 (An.enc (nth x9 (i3 : Int))) 55,.own v10 55 5 x9.length (x9.flatMap An.enc),.own v1 55 5 x1.length (x1.flatMap An.enc),.blk O [U,iV x4] 25] [(0,.pointer (some ⟨O,0,none⟩)),(3,v1),(7,v10),(10,iV (i3 : Int)),(11,.pointer (some ⟨b9,0,none⟩)),(12,iV x11),(16,(.slice (some ⟨b1,0,none⟩) 3 3)),(17,iV (([Jg,Mp,Mq] : List ByteArray).length : Int)),(18,iV (i1 : Int)),(47,v10),(48,iV (x3.length : Int)),(49,iV (i3 : Int))] 114 a w') ?_ ?_
      ·refine wp_block (Fq (fun (ys4 : List An) a w'=>∃ i4 : Nat,∃ x11 : Int,(∃ dn,x9 = dn ++ ys4 ∧ dn.length = i4) ∧ Fp x9 i3 j7 ys4 i4 x11 = some r ∧ Sx w [O] φ3 [.blk b9 (An.enc (nth x9 (i3 : Int))) 55,.own v10 55 5 x9.length (x9.flatMap An.enc),.own v1 55 5 x1.length (x1.flatMap An.enc),.blk O [U,iV x4] 25] [(0,.pointer (some ⟨O,0,none⟩)),(3,v1),(7,v10),(10,iV (i3 : Int)),(11,.pointer (some ⟨b9,0,none⟩)),(12,iV x11),(16,(.slice (some ⟨b1,0,none⟩) 3 3)),(17,iV (([Jg,Mp,Mq] : List ByteArray).length : Int)),(18,iV (i1 : Int)),(47,v10),(48,iV (x3.length : Int)),(49,iV (i3 : Int)),(54,v10),(55,iV (x9.length : Int)),(56,iV (i4 : Int))] 114 a w') List.length x9 ⟨0,1,⟨[],rfl,rfl⟩,h,S.nf [true,true,true,true] rfl (subR rfl)⟩ ?_)
       clear S h;rintro ys4 a w22 ⟨i4,x11,⟨dn,hd4,hi4⟩,h,S⟩
       cases ys4 with
       | nil =>
        rw [Fp.eq_1] at h
        refine Fr (Vb S Dp rfl rfl rfl fun a S=>Ld ?_)
        replace S:=S.k16 0 3 7 10 11 12 16 17 18 47 48 49 54 55 56 57 rfl
        exact Tn (Fs (wp_cond_false ((S.tm rfl).trans (congrArg Value.bool (Hj hd4 hi4))) (wp_exit (De (De (Fk (Tn (⟨x11,h,S.nf [true,true,true,true] rfl (subR rfl)⟩))))))))
       | cons y4 ys4 =>
        rw [Fp.eq_2] at h
        refine Fr (Vb S Dp rfl rfl rfl fun a S=>Ld ?_)
        replace S:=S.k16 0 3 7 10 11 12 16 17 18 47 48 49 54 55 56 57 rfl
        refine Tn (Fs (wp_cond_true ((S.tm rfl).trans (congrArg Value.bool (Fy hd4 hi4))) (wp_skip (Tn (Fs ?_)))))
        obtain ⟨j8,hj8,h⟩:=Dw h
        refine Dk (fun a w'=>∃ x12 : Int,j8 x12 = some r ∧ Sx w [O] φ3 [.blk b9 (An.enc (nth x9 (i3 : Int))) 55,.own v10 55 5 x9.length (x9.flatMap An.enc),.own v1 55 5 x1.length (x1.flatMap An.enc),.blk O [U,iV x4] 25] [(0,.pointer (some ⟨O,0,none⟩)),(3,v1),(7,v10),(10,iV (i3 : Int)),(11,.pointer (some ⟨b9,0,none⟩)),(12,iV x12),(16,(.slice (some ⟨b1,0,none⟩) 3 3)),(17,iV (([Jg,Mp,Mq] : List ByteArray).length : Int)),(18,iV (i1 : Int)),(47,v10),(48,iV (x3.length : Int)),(49,iV (i3 : Int)),(54,v10),(55,iV (x9.length : Int)),(56,iV (i4 : Int))] 114 a w') ?_ ?_
        ·refine wp_block (Fs (Fg ?_))
         obtain ⟨b10,hg2,hr8⟩:=Ft (a:=a) (x:=.tmp 54) (y:=.tmp 56) (ty:=0) Hz An.enc_ok S (i:=1) rfl (Hd hd4 hi4) rfl (S.tm rfl) (S.tm rfl)
         refine lv S (hr8 _) rfl ?_;clear S;intro a S
         clear hr8
         refine lv S (He isAgg55 sizeOf55 (off:=i4 * 5) (o:=0) (part:=(An.enc y4)) rfl rfl (S.tm rfl) (Ks An.enc_ok S (i:=1) rfl hg2 (Hd hd4 hi4))) rfl fun a S=>Iq S zeroValue55 (cs:=[sV Co,sV Co,sV Co,iV 0,bV false]) rfl rfl ?_;clear S;intro a w25 b11 hz7 hk13 S
         refine Hy S (S.tm rfl) (S.tm rfl) (i:=0) (off:=0) rfl sizeOf55 (vs:=(An.enc y4)) rfl rfl rfl rfl ?_;clear S;intro w26 hk14 S
         refine Ld ?_
         replace S:=(S.nl [.blk b11 (An.enc y4) 55,.blk b9 (An.enc (nth x9 (i3 : Int))) 55,.own v10 55 5 x9.length (x9.flatMap An.enc),.own v1 55 5 x1.length (x1.flatMap An.enc),.blk O [U,iV x4] 25] [true,true,true,true,true] rfl).k16 0 3 7 10 11 12 14 16 17 18 47 48 49 54 55 56 rfl
         refine Tn (Fr (Vf Hh S rfl rfl fun a S=>Vl isAgg3 0 S rfl rfl rfl rfl fun a S=>Vq S Iv rfl rfl rfl fun a S=>Vm S rfl rfl fun a S=>Ik 8 (fun a w'=>Keep [] w26 w' ∧ Sx w [O] φ3 [.blk b11 (An.enc y4) 55,.blk b9 (An.enc (nth x9 (i3 : Int))) 55,.own v10 55 5 x9.length (x9.flatMap An.enc),.own v1 55 5 x1.length (x1.flatMap An.enc),.blk O [U,iV x4] 25] [(0,.pointer (some ⟨O,0,none⟩)),(3,v1),(7,v10),(10,iV (i3 : Int)),(11,.pointer (some ⟨b9,0,none⟩)),(12,iV x11),(16,(.slice (some ⟨b1,0,none⟩) 3 3)),(17,iV (([Jg,Mp,Mq] : List ByteArray).length : Int)),(18,iV (i1 : Int)),(47,v10),(48,iV (x3.length : Int)),(49,iV (i3 : Int)),(54,v10),(55,iV (x9.length : Int)),(56,iV (i4 : Int)),(71,bV ((decide (0 < y4.Rank)) && (decide ((Int.tmod y4.Rank 10) < (Int.tmod ((nth x9 (i3 : Int)).Rank) 10)))))] 114 a w') ?_ ?_))
         ·rcases Bool.eq_false_or_eq_true (decide (0 < y4.Rank)) with hb2 | hb2
          ·refine Cq S rfl rfl rfl hb2 (Vf Hh S rfl rfl fun a S=>Cq S rfl rfl rfl hb2 (Vl isAgg3 0 S rfl rfl rfl rfl fun a S=>Cq S rfl rfl rfl hb2 (lv S (Yq (S.tm rfl) rfl (by decide)) rfl fun a S=>Cq S rfl rfl rfl hb2 (Vf Hh S rfl rfl fun a S=>Cq S rfl rfl rfl hb2 (Vl isAgg3 1 S rfl rfl rfl rfl fun a S=>Cq S rfl rfl rfl hb2 ?_)))))
           exact lv S (Yq (S.tm rfl) rfl (by decide)) rfl fun a S=>Cq S rfl rfl rfl hb2 (Vb S Dp rfl rfl rfl fun a S=>lv S (Hr hb2 (S.tm rfl) (S.tm rfl)) rfl fun a S=>Dl (⟨Keep.refl _ _,S.nf [true,true,true,true,true] rfl (subR rfl)⟩))
          ·iterate 7 (refine Gz S rfl rfl rfl (Jh hb2) rfl ?_ rfl;clear S;intro a S)
           exact lv S (Hs (decide ((Int.tmod y4.Rank 10) < (Int.tmod ((nth x9 (i3 : Int)).Rank) 10))) hb2 (S.tm rfl) rfl) rfl fun a S=>Dl (⟨Keep.refl _ _,S.nf [true,true,true,true,true] rfl (subR rfl)⟩)
         clear S;rintro a w27 ⟨hk15,S⟩
         refine Vm S rfl rfl fun a S=>Ik 4 (fun a w'=>Keep [] w27 w' ∧ Sx w [O] φ3 [.blk b11 (An.enc y4) 55,.blk b9 (An.enc (nth x9 (i3 : Int))) 55,.own v10 55 5 x9.length (x9.flatMap An.enc),.own v1 55 5 x1.length (x1.flatMap An.enc),.blk O [U,iV x4] 25] [(0,.pointer (some ⟨O,0,none⟩)),(3,v1),(7,v10),(10,iV (i3 : Int)),(11,.pointer (some ⟨b9,0,none⟩)),(12,iV x11),(16,(.slice (some ⟨b1,0,none⟩) 3 3)),(17,iV (([Jg,Mp,Mq] : List ByteArray).length : Int)),(18,iV (i1 : Int)),(47,v10),(48,iV (x3.length : Int)),(49,iV (i3 : Int)),(54,v10),(55,iV (x9.length : Int)),(56,iV (i4 : Int)),(76,bV (((decide (0 < y4.Rank)) && (decide ((Int.tmod y4.Rank 10) < (Int.tmod ((nth x9 (i3 : Int)).Rank) 10)))) && (decide (0 < ((nth x9 (i3 : Int)).Rank)))))] 114 a w') ?_ ?_
         ·rcases Bool.eq_false_or_eq_true ((decide (0 < y4.Rank)) && (decide ((Int.tmod y4.Rank 10) < (Int.tmod ((nth x9 (i3 : Int)).Rank) 10)))) with hb3 | hb3
          ·exact Cq S rfl rfl rfl hb3 (Vf Hh S rfl rfl fun a S=>Cq S rfl rfl rfl hb3 (Vl isAgg3 1 S rfl rfl rfl rfl fun a S=>Cq S rfl rfl rfl hb3 (Vq S Iv rfl rfl rfl fun a S=>lv S (Hr hb3 (S.tm rfl) (S.tm rfl)) rfl fun a S=>Dl (⟨Keep.refl _ _,S.nf [true,true,true,true,true] rfl (subR rfl)⟩))))
          ·iterate 3 (refine Gz S rfl rfl rfl (Jh hb3) rfl ?_ rfl;clear S;intro a S)
           exact lv S (Hs (decide (0 < ((nth x9 (i3 : Int)).Rank))) hb3 (S.tm rfl) rfl) rfl fun a S=>Dl (⟨Keep.refl _ _,S.nf [true,true,true,true,true] rfl (subR rfl)⟩)
         clear S;rintro a w28 ⟨hk16,S⟩
         refine Ld ?_
         replace S:=S.d0.k16 0 3 7 10 11 12 16 17 18 47 48 49 54 55 56 76 rfl
         refine Tn ?_
         obtain ⟨j9,hj9,h⟩:=Dw h
         refine Dk (fun a w'=>∃ x13 : Int,j9 x13 = some r ∧ Sx w [O] φ3 [.blk b9 (An.enc (nth x9 (i3 : Int))) 55,.own v10 55 5 x9.length (x9.flatMap An.enc),.own v1 55 5 x1.length (x1.flatMap An.enc),.blk O [U,iV x4] 25] [(0,.pointer (some ⟨O,0,none⟩)),(3,v1),(7,v10),(10,iV (i3 : Int)),(11,.pointer (some ⟨b9,0,none⟩)),(12,iV x13),(16,(.slice (some ⟨b1,0,none⟩) 3 3)),(17,iV (([Jg,Mp,Mq] : List ByteArray).length : Int)),(18,iV (i1 : Int)),(47,v10),(48,iV (x3.length : Int)),(49,iV (i3 : Int)),(54,v10),(55,iV (x9.length : Int)),(56,iV (i4 : Int))] 114 a w') ?_ ?_
         ·refine Fc h (S.tm rfl) (fun hb4 h=>?_) (fun hb4 h=>?_)
          ·refine Fg (Vm S rfl rfl fun a S=>Vq S Eh rfl rfl rfl fun a S=>Va S rfl rfl fun a S=>Ld ?_)
           replace S:=S.k15 0 3 7 10 11 12 16 17 18 47 48 49 54 55 56 rfl
           exact Tn (⟨W (x11 + 1),h,S.nf [true,true,true,true] rfl (subR rfl)⟩)
          ·exact wp_skip (Tn (⟨x11,h,S.nf [true,true,true,true] rfl (subR rfl)⟩))
         clear S h;rintro a w29 ⟨x13,h,S⟩;rw [hj9] at h;clear hj9 j9
         exact Hf (Tn (⟨x13,h,S.nf [true,true,true,true] rfl (subR rfl)⟩))
        clear S h;rintro a w24 ⟨x12,h,S⟩;rw [hj8] at h;clear hj8 j8
        refine Tn (Fg (Vq S Eh rfl rfl rfl fun a S=>Vm S rfl rfl fun a S=>Ld ?_))
        replace S:=S.k15 0 3 7 10 11 12 16 17 18 47 48 49 54 55 56 rfl
        exact Tn (⟨ys4,⟨i4 + 1,x12,⟨_,(hd4).trans (List.append_cons _ _ _),by simp [hi4]⟩,h,S.nf [true,true,true,true] rfl ⟨rfl,rfl,rfl,rfl,rfl,rfl,rfl,rfl,rfl,rfl,rfl,rfl,rfl,rfl,(congrArg (fun z=>some (Value.int .i64 z)) (Fz hd4 hi4 hm5)),trivial⟩⟩,Nat.lt_succ_self _⟩)
      clear S h;rintro a w23 ⟨x11,h,S⟩;rw [hj7] at h;clear hj7 j7
      refine Tn (Fr (Vf Hh S rfl rfl fun a S=>Vl isAgg3 0 S rfl rfl rfl rfl fun a S=>Vq S Iv rfl rfl rfl fun a S=>Ld ?_))
      replace S:=S.k13 0 3 7 10 11 12 16 17 18 47 48 49 82 rfl
      refine Tn ?_
      obtain ⟨j10,hj10,h⟩:=Dw h
      refine Dk (fun a w'=>∃ x14 : List An,j10 x14 = some r ∧ Sx w [O] φ3 [.own v10 55 5 x14.length (x14.flatMap An.enc),.own v1 55 5 x1.length (x1.flatMap An.enc),.blk O [U,iV x4] 25] [(0,.pointer (some ⟨O,0,none⟩)),(3,v1),(7,v10),(16,(.slice (some ⟨b1,0,none⟩) 3 3)),(17,iV (([Jg,Mp,Mq] : List ByteArray).length : Int)),(18,iV (i1 : Int)),(47,v10),(48,iV (x3.length : Int)),(49,iV (i3 : Int))] 114 a w') ?_ ?_
      ·refine Fc h (S.tm rfl) (fun hb5 h=>?_) (fun hb5 h=>?_)
       ·refine Fg (Vm S rfl rfl fun a S=>Vm S rfl rfl fun a S=>Vf Hh S rfl rfl fun a S=>Vl isAgg3 0 S rfl rfl rfl rfl fun a S=>Vm S rfl rfl fun a S=>Vu S (Qv rfl) rfl rfl fun a S=>Vb S Eh rfl rfl rfl ?_);clear S;intro a S
        obtain ⟨hc3,h⟩:=Gn h
        obtain ⟨b12,hg3,hr9⟩:=Ft (a:=a) (x:=.tmp 83) (y:=.tmp 84) (ty:=0) Hz An.enc_ok S (i:=1) rfl (Cn hc3).1 (Cn hc3).2 (S.tm rfl) (S.tm rfl)
        refine lv S (hr9 _) rfl ?_;clear S;intro a S
        clear hr9
        refine Vf Hh S rfl rfl fun a S=>Je (c:=3) (j:=(i3 : Int).toNat) (An.mk ((nth x9 (i3 : Int)).Race) ((nth x9 (i3 : Int)).Who) ((nth x9 (i3 : Int)).Club) (W (((nth x9 (i3 : Int)).Rank) + (W (10 * x11)))) ((nth x9 (i3 : Int)).Relay)) An.enc_ok S (S.tm rfl) (S.tm rfl) (i:=1) rfl hg3 (Cn hc3).1 sizeOf3 (vs:=[iV (W (((nth x9 (i3 : Int)).Rank) + (W (10 * x11))))]) rfl rfl rfl rfl rfl ?_;clear S;intro w32 hk18 S
        refine Ld ?_
        replace S:=(S.nl [.own v10 55 5 (x9.set ((i3 : Int).toNat) (An.mk ((nth x9 (i3 : Int)).Race) ((nth x9 (i3 : Int)).Who) ((nth x9 (i3 : Int)).Club) (W (((nth x9 (i3 : Int)).Rank) + (W (10 * x11)))) ((nth x9 (i3 : Int)).Relay))).length ((x9.set ((i3 : Int).toNat) (An.mk ((nth x9 (i3 : Int)).Race) ((nth x9 (i3 : Int)).Who) ((nth x9 (i3 : Int)).Club) (W (((nth x9 (i3 : Int)).Rank) + (W (10 * x11)))) ((nth x9 (i3 : Int)).Relay))).flatMap An.enc),.own v1 55 5 x1.length (x1.flatMap An.enc),.blk O [U,iV x4] 25] [false,true,true,true] rfl).k9 0 3 7 16 17 18 47 48 49 rfl
        exact Tn (⟨(x9.set ((i3 : Int).toNat) (An.mk ((nth x9 (i3 : Int)).Race) ((nth x9 (i3 : Int)).Who) ((nth x9 (i3 : Int)).Club) (W (((nth x9 (i3 : Int)).Rank) + (W (10 * x11)))) ((nth x9 (i3 : Int)).Relay))),h,S.nf [true,true,true] rfl (subR rfl)⟩)
       ·exact wp_skip (Tn (⟨x9,h,S.nf [false,true,true,true] rfl (subR rfl)⟩))
      clear S h;rintro a w30 ⟨x14,h,S⟩;rw [hj10] at h;clear hj10 j10
      exact Hf (Tn (⟨x14,h,S.nf [true,true,true] rfl (subR rfl)⟩))
     clear S h;rintro a w19 ⟨x10,h,S⟩;rw [hj6] at h;clear hj6 j6
     exact Tn (Fg (Vq S Eh rfl rfl rfl fun a S=>Vm S rfl rfl fun a S=>Dl (⟨ys3,⟨i3 + 1,x10,v10,⟨_,(hd3).trans (List.append_cons _ _ _),by simp [hi3]⟩,h,S.nf [true,true,true] rfl ⟨rfl,rfl,rfl,rfl,rfl,rfl,rfl,rfl,(congrArg (fun z=>some (Value.int .i64 z)) (Fz hd3 hi3 hm3)),trivial⟩⟩,Nat.lt_succ_self _⟩)))
   clear S h;rintro a w18 ⟨x9,v10,h,S⟩;rw [hj5] at h;clear hj5 j5
   refine Tn (Fs (Fr (Vm S rfl rfl fun a S=>lv S (Ec Hz (S.tm rfl) (Nd (S.own_at (i:=0) rfl))) rfl fun a S=>lv S (Rm rfl) rfl fun a S=>Dl ?_)))
   replace S:=S.k8 0 3 7 16 17 18 94 95 rfl
   have hm8:=Ua (S.own_at (i:=0) rfl)
   obtain ⟨j11,hj11,h⟩:=Dw h
   refine Dk (fun a w'=>∃ x15 : List An,∃ v11 : Value,j11 x15 = some r ∧ Sx w [O] φ3 [.own v11 55 5 x15.length (x15.flatMap An.enc),.own v1 55 5 x1.length (x1.flatMap An.enc),.blk O [U,iV x4] 25] [(0,.pointer (some ⟨O,0,none⟩)),(3,v1),(7,v11),(16,(.slice (some ⟨b1,0,none⟩) 3 3)),(17,iV (([Jg,Mp,Mq] : List ByteArray).length : Int)),(18,iV (i1 : Int))] 114 a w') ?_ ?_
   ·refine wp_block (Fq (fun (ys5 : List An) a w'=>∃ i5 : Nat,∃ x15 : List An,∃ v11 : Value,(∃ dn,x9 = dn ++ ys5 ∧ dn.length = i5) ∧ Et j11 ys5 i5 x15 = some r ∧ Sx w [O] φ3 [.own v11 55 5 x15.length (x15.flatMap An.enc),.own v1 55 5 x1.length (x1.flatMap An.enc),.blk O [U,iV x4] 25] [(0,.pointer (some ⟨O,0,none⟩)),(3,v1),(7,v11),(16,(.slice (some ⟨b1,0,none⟩) 3 3)),(17,iV (([Jg,Mp,Mq] : List ByteArray).length : Int)),(18,iV (i1 : Int)),(94,iV (x9.length : Int)),(95,iV (i5 : Int))] 114 a w') List.length x9 ⟨0,x9,v10,⟨[],rfl,rfl⟩,h,S.nf [true,true,true] rfl (subR rfl)⟩ ?_)
    clear S h;rintro ys5 a w33 ⟨i5,x15,v11,⟨dn,hd5,hi5⟩,h,S⟩
    cases ys5 with
    | nil =>
     rw [Et.eq_1] at h
     refine Fr (Vb S Dp rfl rfl rfl fun a S=>Ld ?_)
     replace S:=S.k9 0 3 7 16 17 18 94 95 96 rfl
     exact Tn (Fs (wp_cond_false ((S.tm rfl).trans (congrArg Value.bool (Hj hd5 hi5))) (wp_exit (De (De (Fk (Tn (⟨x15,v11,h,S.nf [true,true,true] rfl (subR rfl)⟩))))))))
    | cons y5 ys5 =>
     rw [Et.eq_2] at h
     refine Fr (Vb S Dp rfl rfl rfl fun a S=>Ld ?_)
     replace S:=S.k9 0 3 7 16 17 18 94 95 96 rfl
     refine Tn (Fs (wp_cond_true ((S.tm rfl).trans (congrArg Value.bool (Fy hd5 hi5))) (wp_skip (Tn (Fs (wp_block (Fr (Vm S rfl rfl fun a S=>Va S rfl rfl ?_))))))));clear S;intro a S
     refine Dl (Fg (Vm S rfl rfl fun a S=>Vm S rfl rfl ?_));clear S;intro a S
     obtain ⟨hc4,h⟩:=Gn h
     obtain ⟨b13,hg4,hr10⟩:=Ft (a:=a) (x:=.tmp 98) (y:=.tmp 99) (ty:=0) Hz An.enc_ok S (i:=0) rfl (Cn hc4).1 (Cn hc4).2 (S.tm rfl) (S.tm rfl)
     refine lv S (hr10 _) rfl ?_;clear S;intro a S
     clear hr10
     refine Vf Hh S rfl rfl fun a S=>lv S (Gy isAgg3 (off:=((i5 : Int).toNat) * 5) (o:=3) (S.tm rfl) (Ks An.enc_ok S (i:=0) rfl hg4 (Cn hc4).1) rfl) rfl fun a S=>lv S (DL (S.tm rfl) rfl (by decide)) rfl ?_;clear S;intro a S
     obtain ⟨hc5,h⟩:=Gn h
     obtain ⟨b14,hg5,hr11⟩:=Ft (a:=a) (x:=.tmp 98) (y:=.tmp 99) (ty:=0) Hz An.enc_ok S (i:=0) rfl (Cn hc5).1 (Cn hc5).2 (S.tm rfl) (S.tm rfl)
     refine lv S (hr11 _) rfl ?_;clear S;intro a S
     clear hr11
     refine Vf Hh S rfl rfl fun a S=>Je (c:=3) (j:=(i5 : Int).toNat) (An.mk ((nth x15 (i5 : Int)).Race) ((nth x15 (i5 : Int)).Who) ((nth x15 (i5 : Int)).Club) (W (Int.tdiv ((nth x15 (i5 : Int)).Rank) 10)) ((nth x15 (i5 : Int)).Relay)) An.enc_ok S (S.tm rfl) (S.tm rfl) (i:=0) rfl hg5 (Cn hc5).1 sizeOf3 (vs:=[iV (W (Int.tdiv ((nth x15 (i5 : Int)).Rank) 10))]) rfl rfl rfl rfl rfl ?_;clear S;intro w36 hk20 S
     refine Ld ?_
     replace S:=(S.nl [.own v11 55 5 (x15.set ((i5 : Int).toNat) (An.mk ((nth x15 (i5 : Int)).Race) ((nth x15 (i5 : Int)).Who) ((nth x15 (i5 : Int)).Club) (W (Int.tdiv ((nth x15 (i5 : Int)).Rank) 10)) ((nth x15 (i5 : Int)).Relay))).length ((x15.set ((i5 : Int).toNat) (An.mk ((nth x15 (i5 : Int)).Race) ((nth x15 (i5 : Int)).Who) ((nth x15 (i5 : Int)).Club) (W (Int.tdiv ((nth x15 (i5 : Int)).Rank) 10)) ((nth x15 (i5 : Int)).Relay))).flatMap An.enc),.own v1 55 5 x1.length (x1.flatMap An.enc),.blk O [U,iV x4] 25] [true,true,true] rfl).k8 0 3 7 16 17 18 94 95 rfl
     exact Hf (Tn (Fg (Vq S Eh rfl rfl rfl fun a S=>Vm S rfl rfl fun a S=>Dl (⟨ys5,⟨i5 + 1,(x15.set ((i5 : Int).toNat) (An.mk ((nth x15 (i5 : Int)).Race) ((nth x15 (i5 : Int)).Who) ((nth x15 (i5 : Int)).Club) (W (Int.tdiv ((nth x15 (i5 : Int)).Rank) 10)) ((nth x15 (i5 : Int)).Relay))),v11,⟨_,(hd5).trans (List.append_cons _ _ _),by simp [hi5]⟩,h,S.nf [true,true,true] rfl ⟨rfl,rfl,rfl,rfl,rfl,rfl,rfl,(congrArg (fun z=>some (Value.int .i64 z)) (Fz hd5 hi5 hm8)),trivial⟩⟩,Nat.lt_succ_self _⟩))))
   clear S h;rintro a w34 ⟨x15,v11,h,S⟩;rw [hj11] at h;clear hj11 j11
   refine Tn (Fr (Vm S rfl rfl ?_));clear S;intro a S
   obtain ⟨r5,hr12,h⟩:=Em h
   refine Ly 0 S rfl (fun _=>.own v11 55 5 r5.length (r5.flatMap An.enc)) (fun _=>Ck (vs:=[v11,.func (.func 34) #[] #[]]) ⟨(S.tm rfl),rfl,trivial⟩ call42) (Lb _ v11 x15 (S.holds _ (List.mem_of_getElem? (i:=0) rfl)) _ hr12) rfl (fun _ _ _ h=>⟨h.1,fun _ hc=>hc⟩) ?_;clear S;intro v12 a w37 hv5 hk21 hn5 S
   replace hv5:=hv5.2
   subst hv5
   refine Dl (Fg (Vm S rfl rfl fun a S=>Vm S rfl rfl ?_));clear S;intro a S
   obtain ⟨hc6,h⟩:=Gn h
   refine CP (Y:=[]) Hz An.enc_ok S (S.tm rfl) (i:=1) rfl (S.tm rfl) (Wp An.enc_ok S (i:=0) rfl (fun _ _ h=>by cases h)) rfl rfl (by have:=Lh hc6;omega) rfl ?_;clear S;intro v13 a w38 hk22 S
   exact Va S rfl rfl fun a S=>Ld (Hf (Tn (Fg (Vq S Eh rfl rfl rfl fun a S=>Vm S rfl rfl fun a S=>Dl (⟨ys1,⟨i1 + 1,(x1 ++ r5),x4,φ3,v13,⟨_,(hd1).trans (List.append_cons _ _ _),by simp [hi1]⟩,h,(View.le_trans hl2 hl3),S.nf [false,true,true] rfl ⟨rfl,rfl,rfl,rfl,(congrArg (fun z=>some (Value.int .i64 z)) (Fz hd1 hi1 (Il (Ir Fa hs1)))),trivial⟩⟩,Nat.lt_succ_self _⟩)))))
 clear S h;rintro a w3 ⟨x1,x2,φ2,v1,h,hl2,S⟩;rw [hj1] at h;clear hj1 j1
 refine Tn (Fr (Vm S rfl rfl fun a S=>Va S rfl rfl fun a S=>Dl (wp_ret ?_)))
 obtain rfl:=Option.some.inj h
 exact Ee S results20 rfl ⟨(S.holds _ (List.mem_of_getElem? (i:=1) rfl)),(Wr S (i:=0) rfl (fun c hc hh=>Ss S (i:=1) rfl rfl (j:=0) rfl rfl (by simp at hc;subst hc;exact hh)))⟩
theorem Uz (w : World) (O : Nat) (U : Value) (Ag : List Int) (Af : Slc (view w [O]) 1 U (Ag.map eInt)) (Ac : Int) (As : (LEnt.blk O [U,iV Ac] 25).holds w) (r : (List An) × Int) (h : Nl Ag Ac = some r) :
    Calls prog 5 [.pointer (some ⟨O,0,none⟩)].toArray w (Ret w [O] fun τ v w'=>(LEnt.blk O [U,iV r.2] 25).holds w' ∧ Pr τ 55 5 v r.1.length (r.1.flatMap An.enc)):=by
 refine Jt [O] [.blk O [U,iV Ac] 25] func5 rfl ntmps5 rfl (fun e he=>by simp only [List.mem_singleton] at he;subst he;exact As) (by simp [fps,LEnt.fp]) (by simp [fps,LEnt.fp]) fun a S=>?_
 unfold Nl at h
 replace S:=(S.nl [.blk O [U,iV Ac] 25] [true] rfl).k1 0 rfl
 refine Fr (Vk S rfl rfl fun a S=>Dz (Vm S rfl rfl ?_));clear S;intro a S
 obtain ⟨r1,hr1,h⟩:=Em h
 have hz1:=S.keep.size
 refine Fv 0 S (b:=O) rfl rfl (fun _=>.blk O [U,iV r1.2] 25) (fun _=>Ck (vs:=[.pointer (some ⟨O,0,none⟩)]) ⟨(S.tm rfl),trivial⟩ call20) (Rt _ O U Ag (Af.mono (S.le_arg (Hn (i:=0) (e:=.blk O [U,iV Ac] 25) rfl))) Ac (S.holds _ (List.mem_of_getElem? (i:=0) rfl)) _ hr1) rfl (fun _ _ _ h=>⟨h.1,fun _ hc=>by cases hc;rfl⟩) ?_;clear S;intro v1 a w1 hv1 hk1 hn1 S
 replace hv1:=hv1.2
 replace S:=S.take hn1 hz1 hv1
 refine Va S rfl rfl fun a S=>Dl (Fs (Fr (Vm S rfl rfl ?_)));clear S;intro a S
 obtain ⟨r2,hr2,h⟩:=Em h
 refine Fv 1 S (b:=O) rfl rfl (fun _=>.blk O [U,iV r2.2] 25) (fun _=>Ck (vs:=[.pointer (some ⟨O,0,none⟩),iV 20]) ⟨(S.tm rfl),rfl,trivial⟩ call18) (Lo _ O U Ag (Af.mono (S.le_arg (Hn (i:=1) (e:=.blk O [U,iV r1.2] 25) rfl))) r1.2 (S.holds _ (List.mem_of_getElem? (i:=1) rfl)) 20 _ hr2) rfl (fun _ _ _ h=>⟨h.1,fun _ hc=>by cases hc;rfl⟩) ?_;clear S;intro v2 a w2 hv2 hk2 hn2 S
 replace hv2:=hv2.2
 subst hv2
 refine Dl ?_
 obtain ⟨j1,hj1,h⟩:=Dw h
 refine Dk (fun a w'=>∃ x1 : Int,∃ x2 : List An,∃ v3 : Value,j1 x1 x2 = some r ∧ Sx w [O] nov [.own v3 55 5 x2.length (x2.flatMap An.enc),.blk O [U,iV x1] 25] [(0,.pointer (some ⟨O,0,none⟩)),(3,v3)] 88 a w') ?_ ?_
 ·refine Fc h (S.tm rfl) (fun hb1 h=>?_) (fun hb1 h=>?_)
  ·refine Fr (Vk S rfl rfl ?_);clear S;intro a S
   replace S:=S.nil 55 5
   refine Dz (Vm S rfl rfl ?_);clear S;intro a S
   obtain ⟨r3,hr3,h⟩:=Em h
   refine Fv 2 S (b:=O) rfl rfl (fun _=>.blk O [U,iV r3.2] 25) (fun _=>Ck (vs:=[.pointer (some ⟨O,0,none⟩),iV 9,iV 12]) ⟨(S.tm rfl),rfl,rfl,trivial⟩ call15) (Pg _ O U Ag (Af.mono (S.le_arg (Hn (i:=2) (e:=.blk O [U,iV r2.2] 25) rfl))) r2.2 (S.holds _ (List.mem_of_getElem? (i:=2) rfl)) 9 12 _ hr3) rfl (fun _ _ _ h=>⟨h.1,fun _ hc=>by cases hc;rfl⟩) ?_;clear S;intro v4 a w4 hv3 hk3 hn3 S
   replace hv3:=hv3.2
   subst hv3
   refine lv S (Rm rfl) rfl fun a S=>Dl ?_
   replace S:=(S.nl [.own (.slice none 0 0) 55 5 ([] : List An).length (([] : List An).flatMap An.enc),.blk O [U,iV r3.2] 25] [true,false,true] rfl).k4 0 3 11 12 rfl
   obtain ⟨j2,hj2,h⟩:=Dw h
   refine Dk (fun a w'=>∃ x3 : List An,∃ x4 : Int,∃ v5 : Value,j2 x3 x4 = some r ∧ Sx w [O] nov [.own v5 55 5 x3.length (x3.flatMap An.enc),.blk O [U,iV x4] 25] [(0,.pointer (some ⟨O,0,none⟩)),(3,v5)] 88 a w') ?_ ?_
   ·refine wp_block (Fq (fun (m1 : Nat) a w'=>∃ x3 : List An,∃ x4 : Int,∃ x5 : Int,∃ v5 : Value,Hu r3 Ag j2 m1 x3 x4 x5 = some r ∧ Sx w [O] nov [.own v5 55 5 x3.length (x3.flatMap An.enc),.blk O [U,iV x4] 25] [(0,.pointer (some ⟨O,0,none⟩)),(3,v5),(11,iV r3.1),(12,iV x5)] 88 a w') id ((r3.1 - 0).toNat + 2) ⟨([] : List An),r3.2,0,(.slice none 0 0),h,S.nf [true,true] rfl (subR rfl)⟩ ?_)
    clear S h;rintro m1 a w5 ⟨x3,x4,x5,v5,h,S⟩
    cases m1 with
    | zero=>rw [Hu.eq_1] at h;cases h
    | succ m1 =>
     rw [Hu.eq_2] at h
     refine Fr (Vb S Dp rfl rfl rfl fun a S=>Dl (Fs (Fc h (S.tm rfl) (fun hb2 h=>?_) (fun hb2 h=>?_))))
     ·refine wp_skip (Tn (Fs (wp_block (Fr (Vm S rfl rfl fun a S=>Va S rfl rfl fun a S=>Dl (Fg ?_))))))
      refine Vm S rfl rfl fun a S=>Vm S rfl rfl fun a S=>Vu S (Eh rfl) rfl rfl fun a S=>Vu S (Nn underlying3 underlying21) rfl rfl fun a S=>Vu S (AO underlying21 underlying9) rfl rfl fun a S=>Vm S rfl rfl fun a S=>Eb S underlying75 sizeOf9 zeroValue9 rfl rfl (pv:=[(0,sV Ie),(1,sV Of)]) ⟨rfl,rfl,rfl,rfl,trivial⟩ (cs:=[sV Ie,sV Of]) (by kernel_rfl) rfl ?_;clear S;intro a w7 b1 hz2 hk4 S
      obtain ⟨r4,hr4,h⟩:=Em h
      refine Fv 2 S (b:=O) rfl rfl (fun _=>.blk O [U,iV r4.2] 25) (fun _=>Ck (vs:=[.pointer (some ⟨O,0,none⟩),.slice (some ⟨b1,0,none⟩) 2 2]) ⟨(S.tm rfl),(S.tm rfl),trivial⟩ call16) (Im _ O U Ag (Af.mono (S.le_arg (Hn (i:=2) (e:=.blk O [U,iV x4] 25) rfl))) x4 (S.holds _ (List.mem_of_getElem? (i:=2) rfl)) (.slice (some ⟨b1,0,none⟩) 2 2) [Ie,Of] (Iw Fa S (i:=0) rfl rfl rfl rfl ((Mw (i:=2) (j:=0) (e:=.blk O [U,iV x4] 25) (e':=.blk b1 [sV Ie,sV Of] 9) S rfl rfl rfl) _ rfl)) _ hr4) rfl (fun _ _ _ h=>⟨h.1,fun _ hc=>by cases hc;rfl⟩) ?_;clear S;intro v6 a w8 hv4 hk5 hn4 S
      replace hv4:=hv4.2
      subst hv4
      refine lv S (Nu bt_55 (pv:=[(0,sV Jg),(1,sV (Utf8.encode (IntKind.wrap .i32 (W (97 + x5))))),(2,sV r4.1),(3,iV 1)]) ⟨rfl,rfl,rfl,(S.tm rfl),rfl,(S.tm rfl),rfl,rfl,trivial⟩ (cs:=[sV Jg,sV (Utf8.encode (IntKind.wrap .i32 (W (97 + x5)))),sV r4.1,iV 1,bV false]) (by kernel_rfl)) rfl fun a S=>Eb S underlying28 sizeOf55 zeroValue55 rfl rfl (pv:=[(0,.agg #[sV Jg,sV (Utf8.encode (IntKind.wrap .i32 (W (97 + x5)))),sV r4.1,iV 1,bV false])]) ⟨rfl,(S.tm rfl),trivial⟩ (cs:=[sV Jg,sV (Utf8.encode (IntKind.wrap .i32 (W (97 + x5)))),sV r4.1,iV 1,bV false]) (by kernel_rfl) rfl ?_;clear S;intro a w9 b2 hz3 hk6 S
      obtain ⟨hc1,h⟩:=Gn h
      refine Mb Hz An.enc_ok S (S.tm rfl) (i:=2) rfl (S.tm rfl) (j:=0) rfl (ys:=[(An.mk Jg (Utf8.encode (IntKind.wrap .i32 (W (97 + x5)))) r4.1 1 false)]) rfl rfl rfl rfl (by have:=Lh hc1;omega) rfl ?_;clear S;intro v7 a w10 hk7 S
      refine Va S rfl rfl fun a S=>Ld ?_
      replace S:=(S.nl [.own v7 55 5 (x3 ++ [(An.mk Jg (Utf8.encode (IntKind.wrap .i32 (W (97 + x5)))) r4.1 1 false)]).length ((x3 ++ [(An.mk Jg (Utf8.encode (IntKind.wrap .i32 (W (97 + x5)))) r4.1 1 false)]).flatMap An.enc),.blk O [U,iV r4.2] 25] [false,false,true,true] rfl).k4 0 3 11 12 rfl
      exact Hf (Tn (Fg (Vq S Eh rfl rfl rfl fun a S=>Vm S rfl rfl fun a S=>Dl (⟨m1,⟨(x3 ++ [(An.mk Jg (Utf8.encode (IntKind.wrap .i32 (W (97 + x5)))) r4.1 1 false)]),r4.2,W (x5 + 1),v7,h,S.nf [true,true] rfl ⟨rfl,rfl,rfl,rfl,trivial⟩⟩,Nat.lt_succ_self _⟩))))
     ·exact wp_exit (De (De (Fk (Tn (⟨x3,x4,v5,h,S.nf [true,true] rfl (subR rfl)⟩)))))
   clear S h;rintro a w6 ⟨x3,x4,v5,h,S⟩;rw [hj2] at h;clear hj2 j2
   exact Tn (⟨x4,x3,v5,h,S.nf [true,true] rfl (subR rfl)⟩)
  ·exact wp_skip (Tn (⟨r2.2,r1.1,v1,h,S.nf [true,true] rfl (subR rfl)⟩))
 clear S h;rintro a w3 ⟨x1,x2,v3,h,S⟩;rw [hj1] at h;clear hj1 j1
 refine Tn (Fs (Fr (Vm S rfl rfl fun a S=>lv S (Ec Hz (S.tm rfl) (Nd (S.own_at (i:=0) rfl))) rfl fun a S=>Vq S Iv rfl rfl rfl fun a S=>Vm S rfl rfl ?_)));clear S;intro a S
 obtain ⟨j3,hj3,h⟩:=Dw h
 refine Ik 3 (fun a w'=>∃ x6 : Int,∃ x7 : Bool,j3 x6 x7 = some r ∧ Sx w [O] nov [.own v3 55 5 x2.length (x2.flatMap An.enc),.blk O [U,iV x6] 25] [(0,.pointer (some ⟨O,0,none⟩)),(3,v3),(33,bV x7)] 88 a w') ?_ ?_
 ·rcases Bool.eq_false_or_eq_true (decide (0 < (x2.length : Int))) with hb3 | hb3
  ·replace h:=Oo h hb3
   refine Cq S rfl rfl rfl hb3 (Vm S rfl rfl fun a S=>Cq S rfl rfl rfl hb3 ?_)
   obtain ⟨r5,hr5,h⟩:=Em h
   refine Fv 1 S (b:=O) rfl rfl (fun _=>.blk O [U,iV r5.2] 25) (fun _=>Ck (vs:=[.pointer (some ⟨O,0,none⟩),iV 12]) ⟨(S.tm rfl),rfl,trivial⟩ call18) (Lo _ O U Ag (Af.mono (S.le_arg (Hn (i:=1) (e:=.blk O [U,iV x1] 25) rfl))) x1 (S.holds _ (List.mem_of_getElem? (i:=1) rfl)) 12 _ hr5) rfl (fun _ _ _ h=>⟨h.1,fun _ hc=>by cases hc;rfl⟩) ?_;clear S;intro v8 a w12 hv5 hk8 hn5 S
   replace hv5:=hv5.2
   subst hv5
   exact lv S (Pp hb3 (S.tm rfl) (S.tm rfl)) rfl fun a S=>Dl (⟨r5.2,r5.1,h,S.nf [true,true] rfl (subR rfl)⟩)
  ·replace h:=Oq h hb3
   exact Gz S rfl rfl rfl (Jh hb3) rfl (fun a S=>Gz S rfl rfl rfl (Jh hb3) rfl (fun a S=>Vq S (Pq hb3) rfl rfl rfl fun a S=>Dl (⟨x1,false,h,S.nf [true,true] rfl (subR rfl)⟩)) rfl) rfl
 clear S h;rintro a w11 ⟨x6,x7,h,S⟩;rw [hj3] at h;clear hj3 j3
 refine Dl ?_
 obtain ⟨j4,hj4,h⟩:=Dw h
 refine Dk (fun a w'=>∃ x8 : List An,∃ x9 : Int,j4 x8 x9 = some r ∧ Sx w [O] nov [.own v3 55 5 x8.length (x8.flatMap An.enc),.blk O [U,iV x9] 25] [(3,v3)] 88 a w') ?_ ?_
 ·refine Fc h (S.tm rfl) (fun hb4 h=>?_) (fun hb4 h=>?_)
  ·refine Fs (Fg ?_)
   iterate 3 (refine Vm S rfl rfl ?_;clear S;intro a S)
   refine lv S (Ec Hz (S.tm rfl) (Nd (S.own_at (i:=0) rfl))) rfl ?_;clear S;intro a S
   obtain ⟨r6,hr6,h⟩:=Em h
   refine Fv 1 S (b:=O) rfl rfl (fun _=>.blk O [U,iV r6.2] 25) (fun _=>Ck (vs:=[.pointer (some ⟨O,0,none⟩),iV (x2.length : Int)]) ⟨(S.tm rfl),(S.tm rfl),trivial⟩ call21) (Ln _ O U Ag (Af.mono (S.le_arg (Hn (i:=1) (e:=.blk O [U,iV x6] 25) rfl))) x6 (S.holds _ (List.mem_of_getElem? (i:=1) rfl)) (x2.length : Int) _ hr6) rfl (fun _ _ _ h=>⟨h.1,fun _ hc=>by cases hc;rfl⟩) ?_;clear S;intro v9 a w14 hv6 hk9 hn6 S
   replace hv6:=hv6.2
   subst hv6
   obtain ⟨hc2,h⟩:=Gn h
   obtain ⟨b3,hg1,hr7⟩:=Ft (a:=a) (x:=.tmp 34) (y:=.tmp 38) (ty:=0) Hz An.enc_ok S (i:=0) rfl (Cn hc2).1 (Cn hc2).2 (S.tm rfl) (S.tm rfl)
   refine lv S (hr7 _) rfl ?_;clear S;intro a S
   clear hr7
   refine Va S rfl rfl fun a S=>Dz (Vm S rfl rfl ?_);clear S;intro a S
   obtain ⟨r7,hr8,h⟩:=Em h
   refine Fv 1 S (b:=O) rfl rfl (fun _=>.blk O [U,iV r7.2] 25) (fun _=>Ck (vs:=[.pointer (some ⟨O,0,none⟩),iV 4]) ⟨(S.tm rfl),rfl,trivial⟩ call21) (Ln _ O U Ag (Af.mono (S.le_arg (Hn (i:=1) (e:=.blk O [U,iV r6.2] 25) rfl))) r6.2 (S.holds _ (List.mem_of_getElem? (i:=1) rfl)) 4 _ hr8) rfl (fun _ _ _ h=>⟨h.1,fun _ hc=>by cases hc;rfl⟩) ?_;clear S;intro v10 a w15 hv7 hk10 hn7 S
   replace hv7:=hv7.2
   subst hv7
   refine Dl ?_
   obtain ⟨j5,hj5,h⟩:=Dw h
   refine Dk (fun a w'=>∃ x10 : List An,∃ x11 : Int,j5 x10 x11 = some r ∧ Sx w [O] nov [.own v3 55 5 x10.length (x10.flatMap An.enc),.blk O [U,iV x11] 25] [(3,v3)] 88 a w') ?_ ?_
   ·refine wp_block (Fr (Vq S Kq rfl rfl rfl fun a S=>Va S rfl rfl fun a S=>Dl ?_))
    obtain ⟨j6,hj6,h⟩:=Dw h
    refine Dk (fun a w'=>∃ x12 : List An,∃ x13 : Int,j6 x12 x13 = some r ∧ Sx w [O] nov [.own v3 55 5 x12.length (x12.flatMap An.enc),.blk O [U,iV x13] 25] [(3,v3)] 88 a w') ?_ ?_
    ·refine Fc h (S.tm rfl) (fun hb5 h=>?_) (fun hb5 h=>?_)
     ·obtain ⟨j7,hj7,h⟩:=Dw h
      refine Dk (fun a w'=>∃ x14 : List An,∃ x15 : Int,j7 x14 x15 = some r ∧ Sx w [O] nov [.own v3 55 5 x14.length (x14.flatMap An.enc),.blk O [U,iV x15] 25] [(3,v3)] 88 a w') ?_ ?_
      ·obtain ⟨r8,hr9,h⟩:=Em h
       obtain ⟨r9,hr10,h⟩:=Em h
       refine Gf [18,21] ([O]) Tryz.mixed S rfl (by kernel_rfl) ?_;clear S;intro w27 hk19 hsel S
       refine Es 0 S hsel rfl rfl (by kernel_rfl) (by kernel_rfl) rfl (fun _=>(Rm (S.tm rfl))) fun a S=>Es 1 S hsel rfl rfl (by kernel_rfl) (by kernel_rfl) rfl (fun _=>(Rm (S.tm rfl))) fun a S=>Es 2 S hsel rfl rfl (by kernel_rfl) (by kernel_rfl) rfl (fun _=>(Rm (S.tm rfl))) fun a S=>Es 3 S hsel rfl rfl (by kernel_rfl) (by kernel_rfl) rfl (fun _=>(Rm (S.tm rfl))) fun a S=>Es 4 S hsel rfl rfl (by kernel_rfl) (by kernel_rfl) rfl (fun _=>(Gj (S.tm rfl))) fun a S=>Es 5 S hsel rfl rfl (by kernel_rfl) (by kernel_rfl) rfl (fun _=>(Gp Kn (S.tm rfl))) fun a S=>Cw 6 S hsel rfl (by kernel_rfl) (by kernel_rfl) (by kernel_rfl) (by kernel_rfl) rfl (fun _ hw=>(Gy isAgg9 (off:=r6.1.toNat * 5) (o:=0) (S.tm rfl) ((Lq An.enc_ok S (i:=0) rfl hg1 (Cn hc2).1 (Mw (i:=1) (j:=0) (e:=.blk O [U,iV r7.2] 25) (e':=.own v3 55 5 x2.length (x2.flatMap An.enc)) S rfl rfl rfl)).kept hw) rfl)) fun a S=>Es 9 S hsel rfl rfl (by kernel_rfl) (by kernel_rfl) rfl (fun _=>(Rm (S.tm rfl))) fun a S=>Es 10 S hsel rfl rfl (by kernel_rfl) (by kernel_rfl) rfl (fun _=>(Rm (S.tm rfl))) fun a S=>Es 11 S hsel rfl rfl (by kernel_rfl) (by kernel_rfl) rfl (fun _=>(Gj (S.tm rfl))) fun a S=>Es 12 S hsel rfl rfl (by kernel_rfl) (by kernel_rfl) rfl (fun _=>(Gp Mm (S.tm rfl))) ?_;clear S;intro a S
       refine Cw 13 S hsel rfl (by kernel_rfl) (by kernel_rfl) (by kernel_rfl) (by kernel_rfl) rfl (fun _ hw=>(Gy isAgg9 (off:=r6.1.toNat * 5) (o:=1) (S.tm rfl) ((Lq An.enc_ok S (i:=0) rfl hg1 (Cn hc2).1 (Mw (i:=1) (j:=0) (e:=.blk O [U,iV r7.2] 25) (e':=.own v3 55 5 x2.length (x2.flatMap An.enc)) S rfl rfl rfl)).kept hw) rfl)) fun a S=>BL 7 14 (by kernel_rfl) rfl rfl ?_ ?_
       ·refine Eb S underlying75 sizeOf9 zeroValue9 rfl rfl (pv:=[(0,sV ((nth x2 r6.1).Race)),(1,sV Co),(2,sV Jg)]) ⟨rfl,(S.tm rfl),rfl,rfl,rfl,rfl,trivial⟩ (cs:=[sV ((nth x2 r6.1).Race),sV Co,sV Jg]) (by kernel_rfl) rfl ?_;clear S;intro a w28 b6 hz6 hk20 S
        refine Ld (Ib (Keep.none hk20) (BL 8 14 (by kernel_rfl) rfl rfl ?_ ?_))
        ·refine Fv 2 S (b:=O) rfl rfl (fun _=>.blk O [U,iV r8.2] 25) (fun _=>Ck (vs:=[.pointer (some ⟨O,0,none⟩),.slice (some ⟨b6,0,none⟩) 3 3]) ⟨(S.tm rfl),(S.tm rfl),trivial⟩ call16) (Im _ O U Ag (Af.mono (S.le_arg (Hn (i:=2) (e:=.blk O [U,iV r7.2] 25) rfl))) r7.2 (S.holds _ (List.mem_of_getElem? (i:=2) rfl)) (.slice (some ⟨b6,0,none⟩) 3 3) [(nth x2 r6.1).Race,Co,Jg] (Iw Fa S (i:=0) rfl rfl rfl rfl ((Mw (i:=2) (j:=0) (e:=.blk O [U,iV r7.2] 25) (e':=.blk b6 [sV ((nth x2 r6.1).Race),sV Co,sV Jg] 9) S rfl rfl rfl) _ rfl)) _ hr9) rfl (fun _ _ _ h=>⟨h.1,fun _ hc=>by cases hc;rfl⟩) ?_;clear S;intro v13 a w29 hv10 hk21 hn10 S
         replace hv10:=hv10.2
         subst hv10
         refine Ld (Ib hk21 (Gu 14 (by kernel_rfl) rfl (Eb S underlying75 sizeOf9 zeroValue9 rfl rfl (pv:=[(0,sV ((nth x2 r6.1).Who)),(1,sV k_A),(2,sV Kh)]) ⟨rfl,(S.tm rfl),rfl,rfl,rfl,rfl,trivial⟩ (cs:=[sV ((nth x2 r6.1).Who),sV k_A,sV Kh]) (by kernel_rfl) rfl ?_)));clear S;intro a w30 b7 hz7 hk22 S
         refine Ld (Ib (Keep.none hk22) (Gu 15 (by kernel_rfl) rfl ?_))
         refine Fv 3 S (b:=O) rfl rfl (fun _=>.blk O [U,iV r9.2] 25) (fun _=>Ck (vs:=[.pointer (some ⟨O,0,none⟩),.slice (some ⟨b7,0,none⟩) 3 3]) ⟨(S.tm rfl),(S.tm rfl),trivial⟩ call16) (Im _ O U Ag (Af.mono (S.le_arg (Hn (i:=3) (e:=.blk O [U,iV r8.2] 25) rfl))) r8.2 (S.holds _ (List.mem_of_getElem? (i:=3) rfl)) (.slice (some ⟨b7,0,none⟩) 3 3) [(nth x2 r6.1).Who,k_A,Kh] (Iw Fa S (i:=0) rfl rfl rfl rfl ((Mw (i:=3) (j:=0) (e:=.blk O [U,iV r8.2] 25) (e':=.blk b7 [sV ((nth x2 r6.1).Who),sV k_A,sV Kh] 9) S rfl rfl rfl) _ rfl)) _ hr10) rfl (fun _ _ _ h=>⟨h.1,fun _ hc=>by cases hc;rfl⟩) ?_;clear S;intro v14 a w31 hv11 hk23 hn11 S
         replace hv11:=hv11.2
         subst hv11
         refine Ld (Ib hk23 (Es 16 S hsel rfl rfl (by kernel_rfl) (by kernel_rfl) rfl (fun _=>(Gj (S.tm rfl))) fun a S=>Es 17 S hsel rfl rfl (by kernel_rfl) (by kernel_rfl) rfl (fun _=>(Gp Kn (S.tm rfl))) fun a S=>Qy 18 ([O] ++ v3.ownBlock.toList) rfl (by kernel_rfl) rfl (Je (c:=0) (j:=r6.1.toNat) (An.mk r8.1 ((nth x2 r6.1).Who) ((nth x2 r6.1).Club) ((nth x2 r6.1).Rank) ((nth x2 r6.1).Relay)) An.enc_ok S (S.tm rfl) (S.tm rfl) (i:=2) rfl hg1 (Cn hc2).1 sizeOf9 (vs:=[sV r8.1]) rfl rfl rfl rfl rfl ?_)));clear S;intro w33 hk25 S
         refine Ld (Rd (Cw 19 S hsel rfl rfl rfl (by kernel_rfl) (by kernel_rfl) rfl (fun _ hw=>(Gj (S.tm rfl))) fun a S=>Cw 20 S hsel rfl rfl rfl (by kernel_rfl) (by kernel_rfl) rfl (fun _ hw=>(Gp Mm (S.tm rfl))) fun a S=>Gu 21 (by kernel_rfl) rfl (Je (c:=1) (j:=r6.1.toNat) (An.mk r8.1 r9.1 ((nth x2 r6.1).Club) ((nth x2 r6.1).Rank) ((nth x2 r6.1).Relay)) An.enc_ok S (S.tm rfl) (S.tm rfl) (i:=2) rfl hg1 (Yv (Cn hc2).1) sizeOf9 (vs:=[sV r9.1]) rfl rfl rfl rfl rfl ?_)));clear S;intro w35 hk27 S
         refine Ld ?_
         refine Ib (hk27.sub (by intro y hy;simp at hy ⊢;simp [hy])) ?_
         refine Wo (by kernel_rfl) ?_
         clear hsel
         replace S:=(S.nl [.own v3 55 5 ((x2.set r6.1.toNat (An.mk r8.1 ((nth x2 r6.1).Who) ((nth x2 r6.1).Club) ((nth x2 r6.1).Rank) ((nth x2 r6.1).Relay))).set r6.1.toNat (An.mk r8.1 r9.1 ((nth x2 r6.1).Club) ((nth x2 r6.1).Rank) ((nth x2 r6.1).Relay))).length (((x2.set r6.1.toNat (An.mk r8.1 ((nth x2 r6.1).Who) ((nth x2 r6.1).Club) ((nth x2 r6.1).Rank) ((nth x2 r6.1).Relay))).set r6.1.toNat (An.mk r8.1 r9.1 ((nth x2 r6.1).Club) ((nth x2 r6.1).Rank) ((nth x2 r6.1).Relay))).flatMap An.enc),.blk O [U,iV r9.2] 25] [false,false,true,true] rfl).k1 3 rfl
         exact Tn (⟨((x2.set r6.1.toNat (An.mk r8.1 ((nth x2 r6.1).Who) ((nth x2 r6.1).Club) ((nth x2 r6.1).Rank) ((nth x2 r6.1).Relay))).set r6.1.toNat (An.mk r8.1 r9.1 ((nth x2 r6.1).Club) ((nth x2 r6.1).Rank) ((nth x2 r6.1).Relay))),r9.2,h,S.nf [true,true] rfl ⟨rfl,trivial⟩⟩)
        ·refine Eb S underlying75 sizeOf9 zeroValue9 rfl rfl (pv:=[(0,sV ((nth x2 r6.1).Who)),(1,sV k_A),(2,sV Kh)]) ⟨rfl,(S.tm rfl),rfl,rfl,rfl,rfl,trivial⟩ (cs:=[sV ((nth x2 r6.1).Who),sV k_A,sV Kh]) (by kernel_rfl) rfl ?_;clear S;intro a w36 b8 hz8 hk28 S
         refine Ld (Ib (Keep.none hk28) (Gu 8 (by kernel_rfl) rfl ?_))
         refine Fv 3 S (b:=O) rfl rfl (fun _=>.blk O [U,iV r8.2] 25) (fun _=>Ck (vs:=[.pointer (some ⟨O,0,none⟩),.slice (some ⟨b6,0,none⟩) 3 3]) ⟨(S.tm rfl),(S.tm rfl),trivial⟩ call16) (Im _ O U Ag (Af.mono (S.le_arg (Hn (i:=3) (e:=.blk O [U,iV r7.2] 25) rfl))) r7.2 (S.holds _ (List.mem_of_getElem? (i:=3) rfl)) (.slice (some ⟨b6,0,none⟩) 3 3) [(nth x2 r6.1).Race,Co,Jg] (Iw Fa S (i:=1) rfl rfl rfl rfl ((Mw (i:=3) (j:=1) (e:=.blk O [U,iV r7.2] 25) (e':=.blk b6 [sV ((nth x2 r6.1).Race),sV Co,sV Jg] 9) S rfl rfl rfl) _ rfl)) _ hr9) rfl (fun _ _ _ h=>⟨h.1,fun _ hc=>by cases hc;rfl⟩) ?_;clear S;intro v15 a w37 hv12 hk29 hn12 S
         replace hv12:=hv12.2
         subst hv12
         refine Ld (Ib hk29 (Gu 15 (by kernel_rfl) rfl ?_))
         refine Fv 3 S (b:=O) rfl rfl (fun _=>.blk O [U,iV r9.2] 25) (fun _=>Ck (vs:=[.pointer (some ⟨O,0,none⟩),.slice (some ⟨b8,0,none⟩) 3 3]) ⟨(S.tm rfl),(S.tm rfl),trivial⟩ call16) (Im _ O U Ag (Af.mono (S.le_arg (Hn (i:=3) (e:=.blk O [U,iV r8.2] 25) rfl))) r8.2 (S.holds _ (List.mem_of_getElem? (i:=3) rfl)) (.slice (some ⟨b8,0,none⟩) 3 3) [(nth x2 r6.1).Who,k_A,Kh] (Iw Fa S (i:=0) rfl rfl rfl rfl ((Mw (i:=3) (j:=0) (e:=.blk O [U,iV r8.2] 25) (e':=.blk b8 [sV ((nth x2 r6.1).Who),sV k_A,sV Kh] 9) S rfl rfl rfl) _ rfl)) _ hr10) rfl (fun _ _ _ h=>⟨h.1,fun _ hc=>by cases hc;rfl⟩) ?_;clear S;intro v16 a w38 hv13 hk30 hn13 S
         replace hv13:=hv13.2
         subst hv13
         refine Ld (Ib hk30 (Es 16 S hsel rfl rfl (by kernel_rfl) (by kernel_rfl) rfl (fun _=>(Gj (S.tm rfl))) fun a S=>Es 17 S hsel rfl rfl (by kernel_rfl) (by kernel_rfl) rfl (fun _=>(Gp Kn (S.tm rfl))) fun a S=>Qy 18 ([O] ++ v3.ownBlock.toList) rfl (by kernel_rfl) rfl (Je (c:=0) (j:=r6.1.toNat) (An.mk r8.1 ((nth x2 r6.1).Who) ((nth x2 r6.1).Club) ((nth x2 r6.1).Rank) ((nth x2 r6.1).Relay)) An.enc_ok S (S.tm rfl) (S.tm rfl) (i:=2) rfl hg1 (Cn hc2).1 sizeOf9 (vs:=[sV r8.1]) rfl rfl rfl rfl rfl ?_)));clear S;intro w40 hk32 S
         refine Ld (Rd (Cw 19 S hsel rfl rfl rfl (by kernel_rfl) (by kernel_rfl) rfl (fun _ hw=>(Gj (S.tm rfl))) fun a S=>Cw 20 S hsel rfl rfl rfl (by kernel_rfl) (by kernel_rfl) rfl (fun _ hw=>(Gp Mm (S.tm rfl))) fun a S=>Gu 21 (by kernel_rfl) rfl (Je (c:=1) (j:=r6.1.toNat) (An.mk r8.1 r9.1 ((nth x2 r6.1).Club) ((nth x2 r6.1).Rank) ((nth x2 r6.1).Relay)) An.enc_ok S (S.tm rfl) (S.tm rfl) (i:=2) rfl hg1 (Yv (Cn hc2).1) sizeOf9 (vs:=[sV r9.1]) rfl rfl rfl rfl rfl ?_)));clear S;intro w42 hk34 S
         refine Ld ?_
         refine Ib (hk34.sub (by intro y hy;simp at hy ⊢;simp [hy])) ?_
         refine Wo (by kernel_rfl) ?_
         clear hsel
         replace S:=(S.nl [.own v3 55 5 ((x2.set r6.1.toNat (An.mk r8.1 ((nth x2 r6.1).Who) ((nth x2 r6.1).Club) ((nth x2 r6.1).Rank) ((nth x2 r6.1).Relay))).set r6.1.toNat (An.mk r8.1 r9.1 ((nth x2 r6.1).Club) ((nth x2 r6.1).Rank) ((nth x2 r6.1).Relay))).length (((x2.set r6.1.toNat (An.mk r8.1 ((nth x2 r6.1).Who) ((nth x2 r6.1).Club) ((nth x2 r6.1).Rank) ((nth x2 r6.1).Relay))).set r6.1.toNat (An.mk r8.1 r9.1 ((nth x2 r6.1).Club) ((nth x2 r6.1).Rank) ((nth x2 r6.1).Relay))).flatMap An.enc),.blk O [U,iV r9.2] 25] [false,false,true,true] rfl).k1 3 rfl
         exact Tn (⟨((x2.set r6.1.toNat (An.mk r8.1 ((nth x2 r6.1).Who) ((nth x2 r6.1).Club) ((nth x2 r6.1).Rank) ((nth x2 r6.1).Relay))).set r6.1.toNat (An.mk r8.1 r9.1 ((nth x2 r6.1).Club) ((nth x2 r6.1).Rank) ((nth x2 r6.1).Relay))),r9.2,h,S.nf [true,true] rfl ⟨rfl,trivial⟩⟩)
       ·refine Eb S underlying75 sizeOf9 zeroValue9 rfl rfl (pv:=[(0,sV ((nth x2 r6.1).Who)),(1,sV k_A),(2,sV Kh)]) ⟨rfl,(S.tm rfl),rfl,rfl,rfl,rfl,trivial⟩ (cs:=[sV ((nth x2 r6.1).Who),sV k_A,sV Kh]) (by kernel_rfl) rfl ?_;clear S;intro a w43 b9 hz9 hk35 S
        refine Ld (Ib (Keep.none hk35) (Gu 7 (by kernel_rfl) rfl (Eb S underlying75 sizeOf9 zeroValue9 rfl rfl (pv:=[(0,sV ((nth x2 r6.1).Race)),(1,sV Co),(2,sV Jg)]) ⟨rfl,(S.tm rfl),rfl,rfl,rfl,rfl,trivial⟩ (cs:=[sV ((nth x2 r6.1).Race),sV Co,sV Jg]) (by kernel_rfl) rfl ?_)));clear S;intro a w44 b10 hz10 hk36 S
        refine Ld (Ib (Keep.none hk36) (Gu 8 (by kernel_rfl) rfl ?_))
        refine Fv 3 S (b:=O) rfl rfl (fun _=>.blk O [U,iV r8.2] 25) (fun _=>Ck (vs:=[.pointer (some ⟨O,0,none⟩),.slice (some ⟨b10,0,none⟩) 3 3]) ⟨(S.tm rfl),(S.tm rfl),trivial⟩ call16) (Im _ O U Ag (Af.mono (S.le_arg (Hn (i:=3) (e:=.blk O [U,iV r7.2] 25) rfl))) r7.2 (S.holds _ (List.mem_of_getElem? (i:=3) rfl)) (.slice (some ⟨b10,0,none⟩) 3 3) [(nth x2 r6.1).Race,Co,Jg] (Iw Fa S (i:=0) rfl rfl rfl rfl ((Mw (i:=3) (j:=0) (e:=.blk O [U,iV r7.2] 25) (e':=.blk b10 [sV ((nth x2 r6.1).Race),sV Co,sV Jg] 9) S rfl rfl rfl) _ rfl)) _ hr9) rfl (fun _ _ _ h=>⟨h.1,fun _ hc=>by cases hc;rfl⟩) ?_;clear S;intro v17 a w45 hv14 hk37 hn14 S
        replace hv14:=hv14.2
        subst hv14
        refine Ld (Ib hk37 (Gu 15 (by kernel_rfl) rfl ?_))
        refine Fv 3 S (b:=O) rfl rfl (fun _=>.blk O [U,iV r9.2] 25) (fun _=>Ck (vs:=[.pointer (some ⟨O,0,none⟩),.slice (some ⟨b9,0,none⟩) 3 3]) ⟨(S.tm rfl),(S.tm rfl),trivial⟩ call16) (Im _ O U Ag (Af.mono (S.le_arg (Hn (i:=3) (e:=.blk O [U,iV r8.2] 25) rfl))) r8.2 (S.holds _ (List.mem_of_getElem? (i:=3) rfl)) (.slice (some ⟨b9,0,none⟩) 3 3) [(nth x2 r6.1).Who,k_A,Kh] (Iw Fa S (i:=1) rfl rfl rfl rfl ((Mw (i:=3) (j:=1) (e:=.blk O [U,iV r8.2] 25) (e':=.blk b9 [sV ((nth x2 r6.1).Who),sV k_A,sV Kh] 9) S rfl rfl rfl) _ rfl)) _ hr10) rfl (fun _ _ _ h=>⟨h.1,fun _ hc=>by cases hc;rfl⟩) ?_;clear S;intro v18 a w46 hv15 hk38 hn15 S
        replace hv15:=hv15.2
        subst hv15
        refine Ld (Ib hk38 (Es 16 S hsel rfl rfl (by kernel_rfl) (by kernel_rfl) rfl (fun _=>(Gj (S.tm rfl))) fun a S=>Es 17 S hsel rfl rfl (by kernel_rfl) (by kernel_rfl) rfl (fun _=>(Gp Kn (S.tm rfl))) fun a S=>Qy 18 ([O] ++ v3.ownBlock.toList) rfl (by kernel_rfl) rfl (Je (c:=0) (j:=r6.1.toNat) (An.mk r8.1 ((nth x2 r6.1).Who) ((nth x2 r6.1).Club) ((nth x2 r6.1).Rank) ((nth x2 r6.1).Relay)) An.enc_ok S (S.tm rfl) (S.tm rfl) (i:=2) rfl hg1 (Cn hc2).1 sizeOf9 (vs:=[sV r8.1]) rfl rfl rfl rfl rfl ?_)));clear S;intro w48 hk40 S
        refine Ld (Rd (Cw 19 S hsel rfl rfl rfl (by kernel_rfl) (by kernel_rfl) rfl (fun _ hw=>(Gj (S.tm rfl))) fun a S=>Cw 20 S hsel rfl rfl rfl (by kernel_rfl) (by kernel_rfl) rfl (fun _ hw=>(Gp Mm (S.tm rfl))) fun a S=>Gu 21 (by kernel_rfl) rfl (Je (c:=1) (j:=r6.1.toNat) (An.mk r8.1 r9.1 ((nth x2 r6.1).Club) ((nth x2 r6.1).Rank) ((nth x2 r6.1).Relay)) An.enc_ok S (S.tm rfl) (S.tm rfl) (i:=2) rfl hg1 (Yv (Cn hc2).1) sizeOf9 (vs:=[sV r9.1]) rfl rfl rfl rfl rfl ?_)));clear S;intro w50 hk42 S
        refine Ld ?_
        refine Ib (hk42.sub (by intro y hy;simp at hy ⊢;simp [hy])) ?_
        refine Wo (by kernel_rfl) ?_
        clear hsel
        replace S:=(S.nl [.own v3 55 5 ((x2.set r6.1.toNat (An.mk r8.1 ((nth x2 r6.1).Who) ((nth x2 r6.1).Club) ((nth x2 r6.1).Rank) ((nth x2 r6.1).Relay))).set r6.1.toNat (An.mk r8.1 r9.1 ((nth x2 r6.1).Club) ((nth x2 r6.1).Rank) ((nth x2 r6.1).Relay))).length (((x2.set r6.1.toNat (An.mk r8.1 ((nth x2 r6.1).Who) ((nth x2 r6.1).Club) ((nth x2 r6.1).Rank) ((nth x2 r6.1).Relay))).set r6.1.toNat (An.mk r8.1 r9.1 ((nth x2 r6.1).Club) ((nth x2 r6.1).Rank) ((nth x2 r6.1).Relay))).flatMap An.enc),.blk O [U,iV r9.2] 25] [false,false,true,true] rfl).k1 3 rfl
        exact Tn (⟨((x2.set r6.1.toNat (An.mk r8.1 ((nth x2 r6.1).Who) ((nth x2 r6.1).Club) ((nth x2 r6.1).Rank) ((nth x2 r6.1).Relay))).set r6.1.toNat (An.mk r8.1 r9.1 ((nth x2 r6.1).Club) ((nth x2 r6.1).Rank) ((nth x2 r6.1).Relay))),r9.2,h,S.nf [true,true] rfl ⟨rfl,trivial⟩⟩)
      clear S h;rintro a w18 ⟨x14,x15,h,S⟩;rw [hj7] at h;clear hj7 j7
      exact Tn (⟨x14,x15,h,S.nf [true,true] rfl ⟨rfl,trivial⟩⟩)
     ·refine Fr (Vq S Kq rfl rfl rfl fun a S=>Va S rfl rfl fun a S=>Ld ?_)
      replace S:=(S.nl [.own v3 55 5 x2.length (x2.flatMap An.enc),.blk O [U,iV r7.2] 25] [true,true] rfl).k5 0 3 5 41 72 rfl
      refine Tn ?_
      obtain ⟨j8,hj8,h⟩:=Dw h
      refine Dk (fun a w'=>∃ x16 : List An,∃ x17 : Int,j8 x16 x17 = some r ∧ Sx w [O] nov [.own v3 55 5 x16.length (x16.flatMap An.enc),.blk O [U,iV x17] 25] [(3,v3)] 88 a w') ?_ ?_
      ·refine Fc h (S.tm rfl) (fun hb6 h=>?_) (fun hb6 h=>?_)
       ·refine Fg (Vm S rfl rfl fun a S=>Vm S rfl rfl fun a S=>Eb S underlying75 sizeOf9 zeroValue9 rfl rfl (pv:=[(0,sV Ie),(1,sV k_A)]) ⟨rfl,rfl,rfl,rfl,trivial⟩ (cs:=[sV Ie,sV k_A]) (by kernel_rfl) rfl ?_);clear S;intro a w52 b11 hz11 hk43 S
        obtain ⟨r10,hr11,h⟩:=Em h
        refine Fv 2 S (b:=O) rfl rfl (fun _=>.blk O [U,iV r10.2] 25) (fun _=>Ck (vs:=[.pointer (some ⟨O,0,none⟩),.slice (some ⟨b11,0,none⟩) 2 2]) ⟨(S.tm rfl),(S.tm rfl),trivial⟩ call16) (Im _ O U Ag (Af.mono (S.le_arg (Hn (i:=2) (e:=.blk O [U,iV r7.2] 25) rfl))) r7.2 (S.holds _ (List.mem_of_getElem? (i:=2) rfl)) (.slice (some ⟨b11,0,none⟩) 2 2) [Ie,k_A] (Iw Fa S (i:=0) rfl rfl rfl rfl ((Mw (i:=2) (j:=0) (e:=.blk O [U,iV r7.2] 25) (e':=.blk b11 [sV Ie,sV k_A] 9) S rfl rfl rfl) _ rfl)) _ hr11) rfl (fun _ _ _ h=>⟨h.1,fun _ hc=>by cases hc;rfl⟩) ?_;clear S;intro v19 a w53 hv16 hk44 hn16 S
        replace hv16:=hv16.2
        subst hv16
        refine Vu S Gj rfl rfl fun a S=>Vf Ns S rfl rfl fun a S=>Je (c:=2) (j:=r6.1.toNat) (An.mk ((nth x2 r6.1).Race) ((nth x2 r6.1).Who) r10.1 ((nth x2 r6.1).Rank) ((nth x2 r6.1).Relay)) An.enc_ok S (S.tm rfl) (S.tm rfl) (i:=1) rfl hg1 (Cn hc2).1 sizeOf9 (vs:=[sV r10.1]) rfl rfl rfl rfl rfl ?_;clear S;intro w55 hk46 S
        exact Dl (⟨(x2.set r6.1.toNat (An.mk ((nth x2 r6.1).Race) ((nth x2 r6.1).Who) r10.1 ((nth x2 r6.1).Rank) ((nth x2 r6.1).Relay))),r10.2,h,S.nf [false,true,true] rfl ⟨rfl,trivial⟩⟩)
       ·refine Fr (Vq S Kq rfl rfl rfl fun a S=>Va S rfl rfl fun a S=>Dl ?_)
        obtain ⟨j9,hj9,h⟩:=Dw h
        refine Dk (fun a w'=>∃ x18 : List An,∃ x19 : Int,j9 x18 x19 = some r ∧ Sx w [O] nov [.own v3 55 5 x18.length (x18.flatMap An.enc),.blk O [U,iV x19] 25] [(3,v3)] 88 a w') ?_ ?_
        ·refine Fc h (S.tm rfl) (fun hb7 h=>?_) (fun hb7 h=>?_)
         ·refine Fg (Vm S rfl rfl fun a S=>Vm S rfl rfl ?_);clear S;intro a S
          obtain ⟨r11,hr12,h⟩:=Em h
          refine Fv 1 S (b:=O) rfl rfl (fun _=>.blk O [U,iV r11.2] 25) (fun _=>Ck (vs:=[.pointer (some ⟨O,0,none⟩),iV 0,iV 5]) ⟨(S.tm rfl),rfl,rfl,trivial⟩ call19) (Qg _ O U Ag (Af.mono (S.le_arg (Hn (i:=1) (e:=.blk O [U,iV r7.2] 25) rfl))) r7.2 (S.holds _ (List.mem_of_getElem? (i:=1) rfl)) 0 5 _ hr12) rfl (fun _ _ _ h=>⟨h.1,fun _ hc=>by cases hc;rfl⟩) ?_;clear S;intro v20 a w57 hv17 hk47 hn17 S
          replace hv17:=hv17.2
          subst hv17
          refine Vu S Gj rfl rfl fun a S=>Vf Hh S rfl rfl fun a S=>Je (c:=3) (j:=r6.1.toNat) (An.mk ((nth x2 r6.1).Race) ((nth x2 r6.1).Who) ((nth x2 r6.1).Club) r11.1 ((nth x2 r6.1).Relay)) An.enc_ok S (S.tm rfl) (S.tm rfl) (i:=0) rfl hg1 (Cn hc2).1 sizeOf3 (vs:=[iV r11.1]) rfl rfl rfl rfl rfl ?_;clear S;intro w59 hk49 S
          exact Dl (⟨(x2.set r6.1.toNat (An.mk ((nth x2 r6.1).Race) ((nth x2 r6.1).Who) ((nth x2 r6.1).Club) r11.1 ((nth x2 r6.1).Relay))),r11.2,h,S.nf [true,true] rfl ⟨rfl,trivial⟩⟩)
         ·refine Fg (Vm S rfl rfl fun a S=>Vm S rfl rfl fun a S=>Vu S Gj rfl rfl fun a S=>Vf Sw S rfl rfl fun a S=>lv S (Gy isAgg4 (off:=r6.1.toNat * 5) (o:=4) (S.tm rfl) (Ks An.enc_ok S (i:=0) rfl hg1 (Cn hc2).1) rfl) rfl fun a S=>Vu S Lj rfl rfl fun a S=>Vu S Gj rfl rfl fun a S=>Vf Sw S rfl rfl fun a S=>Je (c:=4) (j:=r6.1.toNat) (An.mk ((nth x2 r6.1).Race) ((nth x2 r6.1).Who) ((nth x2 r6.1).Club) ((nth x2 r6.1).Rank) (!((nth x2 r6.1).Relay))) An.enc_ok S (S.tm rfl) (S.tm rfl) (i:=0) rfl hg1 (Cn hc2).1 sizeOf4 (vs:=[bV (!((nth x2 r6.1).Relay))]) rfl rfl rfl rfl rfl ?_);clear S;intro w61 hk51 S
          refine Ld ?_
          replace S:=(S.nl [.own v3 55 5 (x2.set r6.1.toNat (An.mk ((nth x2 r6.1).Race) ((nth x2 r6.1).Who) ((nth x2 r6.1).Club) ((nth x2 r6.1).Rank) (!((nth x2 r6.1).Relay)))).length ((x2.set r6.1.toNat (An.mk ((nth x2 r6.1).Race) ((nth x2 r6.1).Who) ((nth x2 r6.1).Club) ((nth x2 r6.1).Rank) (!((nth x2 r6.1).Relay)))).flatMap An.enc),.blk O [U,iV r7.2] 25] [true,true] rfl).k1 3 rfl
          exact Tn (⟨(x2.set r6.1.toNat (An.mk ((nth x2 r6.1).Race) ((nth x2 r6.1).Who) ((nth x2 r6.1).Club) ((nth x2 r6.1).Rank) (!((nth x2 r6.1).Relay)))),r7.2,h,S.nf [true,true] rfl ⟨rfl,trivial⟩⟩)
        clear S h;rintro a w56 ⟨x18,x19,h,S⟩;rw [hj9] at h;clear hj9 j9
        exact Tn (⟨x18,x19,h,S.nf [true,true] rfl ⟨rfl,trivial⟩⟩)
      clear S h;rintro a w51 ⟨x16,x17,h,S⟩;rw [hj8] at h;clear hj8 j8
      exact Tn (⟨x16,x17,h,S.nf [true,true] rfl ⟨rfl,trivial⟩⟩)
    clear S h;rintro a w17 ⟨x12,x13,h,S⟩;rw [hj6] at h;clear hj6 j6
    exact Hf (Tn (⟨x12,x13,h,S.nf [true,true] rfl ⟨rfl,trivial⟩⟩))
   clear S h;rintro a w16 ⟨x10,x11,h,S⟩;rw [hj5] at h;clear hj5 j5
   exact Tn (⟨x10,x11,h,S.nf [true,true] rfl ⟨rfl,trivial⟩⟩)
  ·exact wp_skip (Tn (⟨x2,x6,h,S.nf [true,true] rfl ⟨rfl,trivial⟩⟩))
 clear S h;rintro a w13 ⟨x8,x9,h,S⟩;rw [hj4] at h;clear hj4 j4
 refine Tn (Fr (Vm S rfl rfl fun a S=>Va S rfl rfl fun a S=>Dl (wp_ret ?_)))
 obtain rfl:=Option.some.inj h
 exact Ee S results5 rfl ⟨(S.holds _ (List.mem_of_getElem? (i:=1) rfl)),(Wr S (i:=0) rfl (fun c hc hh=>Ss S (i:=1) rfl rfl (j:=0) rfl rfl (by simp at hc;subst hc;exact hh)))⟩
theorem Lz (w : World) (Ao : Int) (At : Int) (Ap : Int) (r : Bool) (h : Fd Ao At Ap = r) :
    Calls prog 22 [iV Ao,iV At,iV Ap].toArray w (Ret w [] fun _ v _=>v = bV r):=by
 refine Fe func22 rfl ntmps22 rfl fun a S=>?_
 unfold Fd at h
 replace S:=S.k3 0 1 2 rfl
 refine Fr (Vk S rfl rfl fun a S=>Dz (Vm S rfl rfl fun a S=>Vm S rfl rfl fun a S=>Vb S Ms rfl rfl rfl fun a S=>Vm S rfl rfl ?_));clear S;intro a S
 refine Ik 4 (fun a w'=>Keep [] w w' ∧ Sx w [] nov [] [(14,bV ((decide (At ≤ Ao)) && (decide (Ao ≤ Ap))))] 15 a w') ?_ ?_
 ·rcases Bool.eq_false_or_eq_true (decide (At ≤ Ao)) with hb1 | hb1
  ·exact Cq S rfl rfl rfl hb1 (Vm S rfl rfl fun a S=>Cq S rfl rfl rfl hb1 (Vm S rfl rfl fun a S=>Cq S rfl rfl rfl hb1 (Vb S Qc rfl rfl rfl fun a S=>lv S (Hr hb1 (S.tm rfl) (S.tm rfl)) rfl fun a S=>Dl (⟨Keep.refl _ _,S.nf [] rfl ⟨rfl,trivial⟩⟩))))
  ·iterate 3 (refine Gz S rfl rfl rfl (Jh hb1) rfl ?_ rfl;clear S;intro a S)
   exact lv S (Hs (decide (Ao ≤ Ap)) hb1 (S.tm rfl) rfl) rfl fun a S=>Dl (⟨Keep.refl _ _,S.nf [] rfl ⟨rfl,trivial⟩⟩)
 clear S;rintro a w1 ⟨hk1,S⟩
 refine Va S rfl rfl fun a S=>Dl (wp_ret ?_)
 subst h
 exact Ee S results22 rfl rfl
theorem Wx (w : World) (Ad : Ha) (Ae : Ha) (r : Bool) (h : Mx Ad Ae = r) :
    Calls prog 23 [.agg (Ha.enc Ad).toArray,.agg (Ha.enc Ae).toArray].toArray w (Ret w [] fun _ v _=>v = bV r):=by
 refine Fe func23 rfl ntmps23 rfl fun a S=>?_
 unfold Mx at h
 replace S:=S.k2 0 1 rfl
 refine Fr (Rr S (S.tm rfl) (cs:=(Ha.enc Ad)) rfl rfl ?_);clear S;intro a w1 b1 hz1 hk1 S
 refine Rr S (S.tm rfl) (cs:=(Ha.enc Ae)) rfl rfl ?_;clear S;intro a w2 b2 hz2 hk2 S
 refine Vk S rfl rfl fun a S=>Dz (Vf Rh S rfl rfl fun a S=>Vl isAgg3 1 S rfl rfl rfl rfl fun a S=>Vf Ri S rfl rfl fun a S=>Vl isAgg3 0 S rfl rfl rfl rfl fun a S=>Vb S Qv rfl rfl rfl fun a S=>Vf Rh S rfl rfl ?_);clear S;intro a S
 refine Vl isAgg3 0 S rfl rfl rfl rfl fun a S=>Vf Ri S rfl rfl fun a S=>Vl isAgg3 1 S rfl rfl rfl rfl fun a S=>Vb S Qv rfl rfl rfl fun a S=>Vb S Iv rfl rfl rfl fun a S=>Va S rfl rfl fun a S=>Ld ?_
 replace S:=S.n0.k1 4 rfl
 refine Tn (wp_ret ?_)
 subst h
 exact Ee S results23 rfl rfl
theorem Wb (w : World) (Z : Value) (Aa : List Dj) (Ab : Slc (view w []) 3 Z (Aa.map Dj.enc)) (r : (List Int) × Int) (h : Og Aa = some r) :
    Calls prog 6 [Z].toArray w (Ret w [] fun τ v _=>∃ u1 : Value,v = .tuple #[u1,iV r.2] ∧ Pr τ 3 1 u1 r.1.length (r.1.flatMap eInt)):=by
 refine Fe func6 rfl ntmps6 rfl fun a S=>?_
 unfold Og at h
 replace S:=S.k1 0 rfl
 refine Fr (Vk S rfl rfl fun a S=>Vk S rfl rfl fun a S=>Dl (Fs (Fr (Vm S rfl rfl fun a S=>lv S (Ec Pt (S.tm rfl) (Ew Ab)) rfl ?_))));clear S;intro a S
 refine Vq S Iv rfl rfl rfl fun a S=>Dl (Fc h (S.tm rfl) (fun hb1 h=>?_) (fun hb1 h=>?_))
 ·refine Fr (Vk S rfl rfl fun a S=>Vk S rfl rfl fun a S=>Dl (wp_ret (Cp ?_)))
  obtain rfl:=Option.some.inj h
  exact Ou S results6 rfl rfl ⟨_,rfl,(Qk _ _ _)⟩
 ·refine wp_skip (Tn (Fs (Fr (Vm S rfl rfl fun a S=>lv S (Ec Pt (S.tm rfl) (Ew Ab)) rfl fun a S=>lv S (Rm rfl) rfl fun a S=>Dl ?_))))
  replace S:=S.k4 0 15 16 17 rfl
  obtain ⟨j1,hj1,h⟩:=Dw h
  refine Dk (fun a w'=>j1 = some r ∧ Sx w [] nov [] [(0,Z)] 63 a w') ?_ ?_
  ·refine wp_block (Fq (fun (ys1 : List Dj) a w'=>∃ i1 : Nat,(∃ dn,Aa = dn ++ ys1 ∧ dn.length = i1) ∧ Ig j1 ys1 i1 = some r ∧ Sx w [] nov [] [(0,Z),(15,Z),(16,iV (Aa.length : Int)),(17,iV (i1 : Int))] 63 a w') List.length Aa ⟨0,⟨[],rfl,rfl⟩,h,S.nf [] rfl (subR rfl)⟩ ?_)
   clear S h;rintro ys1 a w1 ⟨i1,⟨dn,hd1,hi1⟩,h,S⟩
   cases ys1 with
   | nil =>
    rw [Ig.eq_1] at h
    refine Fr (Vb S Dp rfl rfl rfl fun a S=>Ld ?_)
    replace S:=S.k5 0 15 16 17 18 rfl
    exact Tn (Fs (wp_cond_false ((S.tm rfl).trans (congrArg Value.bool (Hj hd1 hi1))) (wp_exit (De (De (Fk (Tn (⟨h,S.nf [] rfl ⟨rfl,trivial⟩⟩))))))))
   | cons y1 ys1 =>
    rw [Ig.eq_2] at h
    refine Fr (Vb S Dp rfl rfl rfl fun a S=>Ld ?_)
    replace S:=S.k5 0 15 16 17 18 rfl
    refine Tn (Fs (wp_cond_true ((S.tm rfl).trans (congrArg Value.bool (Fy hd1 hi1))) (wp_skip (Tn (Fs (wp_block (Fs (Fg ?_))))))))
    obtain ⟨b1,o1,hm1,hr1⟩:=Ea (a:=a) (x:=.tmp 15) (y:=.tmp 17) (ty:=0) Pt Ab (Hd hd1 hi1) rfl (S.tm rfl) (S.tm rfl)
    refine lv S (hr1 _) rfl ?_;clear S;intro a S
    clear hr1
    refine lv S (He isAgg52 sizeOf52 (off:=o1) (o:=0) (part:=(Dj.enc y1)) rfl rfl (S.tm rfl) (hm1.at S.emb0)) rfl fun a S=>Iq S zeroValue52 (cs:=[sV Co,iV 0,iV 0]) rfl rfl ?_;clear S;intro a w3 b2 hz1 hk1 S
    refine Hy S (S.tm rfl) (S.tm rfl) (i:=0) (off:=0) rfl sizeOf52 (vs:=(Dj.enc y1)) rfl rfl rfl rfl ?_;clear S;intro w4 hk2 S
    refine Dl (Fs (Fr (Vf Za S rfl rfl fun a S=>Vl isAgg9 0 S rfl rfl rfl rfl fun a S=>Vq S Pk rfl rfl rfl fun a S=>Dl (Fc h (S.tm rfl) (fun hb2 h=>?_) (fun hb2 h=>?_)))))
    ·refine Fr (Vk S rfl rfl fun a S=>Vk S rfl rfl fun a S=>Dl (wp_ret (Cp (Fb (Cp (Cp ?_))))))
     refine Fb (Cp (Cp ?_))
     obtain rfl:=Option.some.inj h
     exact Ou S results6 rfl rfl ⟨_,rfl,(Qk _ _ _)⟩
    ·refine wp_skip (Tn (Fr (Vf Nr S rfl rfl fun a S=>Vf Ri S rfl rfl fun a S=>Vl isAgg3 0 S rfl rfl rfl rfl fun a S=>Df S (fun _=>Ck (vs:=[iV y1.Points.Den,iV 1,iV 1000000]) ⟨(S.tm rfl),rfl,rfl,trivial⟩ call22) (Lz _ y1.Points.Den 1 1000000 _ rfl) rfl ?_)));clear S;intro v1 a w5 hv1 hk3 hn1 S
     subst hv1
     refine Vu S Lj rfl rfl fun a S=>Vm S rfl rfl fun a S=>Ik 6 (fun a w'=>Keep [] w5 w' ∧ Sx w [] nov [.blk b2 (Dj.enc y1) 52] [(0,Z),(15,Z),(16,iV (Aa.length : Int)),(17,iV (i1 : Int)),(35,bV ((!(Fd y1.Points.Den 1 1000000)) || (!(Fd y1.Points.Num 0 1000000000))))] 63 a w') ?_ ?_
     ·rcases Bool.eq_false_or_eq_true (!(Fd y1.Points.Den 1 1000000)) with hb3 | hb3
      ·iterate 5 (refine Gz S rfl rfl rfl (Nz hb3) rfl ?_ rfl;clear S;intro a S)
       exact lv S (Mj (!(Fd y1.Points.Num 0 1000000000)) hb3 (S.tm rfl) rfl) rfl fun a S=>Dl (⟨Keep.refl _ _,S.nf [true] rfl (subR rfl)⟩)
      ·refine Cq S rfl rfl rfl hb3 (Vf Nr S rfl rfl fun a S=>Cq S rfl rfl rfl hb3 (Vf Rh S rfl rfl fun a S=>Cq S rfl rfl rfl hb3 (Vl isAgg3 0 S rfl rfl rfl rfl fun a S=>Cq S rfl rfl rfl hb3 (Df S (fun _=>Ck (vs:=[iV y1.Points.Num,iV 0,iV 1000000000]) ⟨(S.tm rfl),rfl,rfl,trivial⟩ call22) (Lz _ y1.Points.Num 0 1000000000 _ rfl) rfl ?_))));clear S;intro v2 a w7 hv2 hk4 hn2 S
       subst hv2
       exact Cq S rfl rfl rfl hb3 (Vu S Lj rfl rfl fun a S=>lv S (Mk hb3 (S.tm rfl) (S.tm rfl)) rfl fun a S=>Dl (⟨hk4,S.nf [true] rfl (subR rfl)⟩))
     clear S;rintro a w6 ⟨hk5,S⟩
     refine Dl (Fc h (S.tm rfl) (fun hb4 h=>?_) (fun hb4 h=>?_))
     ·refine Fr (Vk S rfl rfl fun a S=>Vk S rfl rfl fun a S=>Dl (wp_ret (Fb (Cp (Cp (Fb ?_))))))
      refine Cp (Cp ?_)
      obtain rfl:=Option.some.inj h
      exact Ou S results6 rfl rfl ⟨_,rfl,(Qk _ _ _)⟩
     ·exact wp_skip (Hf (Tn (Fg (Vq S Eh rfl rfl rfl fun a S=>Vm S rfl rfl fun a S=>Dl (⟨ys1,⟨i1 + 1,⟨_,(hd1).trans (List.append_cons _ _ _),by simp [hi1]⟩,h,S.nf [false] rfl ⟨rfl,rfl,rfl,(congrArg (fun z=>some (Value.int .i64 z)) (Fz hd1 hi1 (Il Ab))),trivial⟩⟩,Nat.lt_succ_self _⟩)))))
  clear S h;rintro a w2 ⟨h,S⟩;rw [hj1] at h;clear hj1 j1
  refine Tn (Fr (Vk S rfl rfl ?_));clear S;intro a S
  replace S:=S.nil 3 1
  refine Dl (Fs (Fr (Vm S rfl rfl fun a S=>lv S (Ec Pt (S.tm rfl) (Ew Ab)) rfl fun a S=>lv S (Rm rfl) rfl fun a S=>Dl ?_)))
  replace S:=(S.nl [.own (.slice none 0 0) 3 1 ([] : List Int).length (([] : List Int).flatMap eInt)] [true] rfl).k5 0 6 37 38 39 rfl
  obtain ⟨j2,hj2,h⟩:=Dw h
  refine Dk (fun a w'=>∃ x1 : List Int,∃ v3 : Value,j2 x1 = some r ∧ Sx w [] nov [.own v3 3 1 x1.length (x1.flatMap eInt)] [(6,v3)] 63 a w') ?_ ?_
  ·refine wp_block (Fq (fun (ys2 : List Dj) a w'=>∃ i2 : Nat,∃ x1 : List Int,∃ v3 : Value,(∃ dn,Aa = dn ++ ys2 ∧ dn.length = i2) ∧ Ih Aa j2 ys2 i2 x1 = some r ∧ Sx w [] nov [.own v3 3 1 x1.length (x1.flatMap eInt)] [(0,Z),(6,v3),(37,Z),(38,iV (Aa.length : Int)),(39,iV (i2 : Int))] 63 a w') List.length Aa ⟨0,([] : List Int),(.slice none 0 0),⟨[],rfl,rfl⟩,h,S.nf [true] rfl (subR rfl)⟩ ?_)
   clear S h;rintro ys2 a w8 ⟨i2,x1,v3,⟨dn,hd2,hi2⟩,h,S⟩
   cases ys2 with
   | nil =>
    rw [Ih.eq_1] at h
    refine Fr (Vb S Dp rfl rfl rfl fun a S=>Ld ?_)
    replace S:=S.k6 0 6 37 38 39 40 rfl
    exact Tn (Fs (wp_cond_false ((S.tm rfl).trans (congrArg Value.bool (Hj hd2 hi2))) (wp_exit (De (De (Fk (Tn (⟨x1,v3,h,S.nf [true] rfl ⟨rfl,trivial⟩⟩))))))))
   | cons y2 ys2 =>
    rw [Ih.eq_2] at h
    refine Fr (Vb S Dp rfl rfl rfl fun a S=>Ld ?_)
    replace S:=S.k6 0 6 37 38 39 40 rfl
    refine Tn (Fs (wp_cond_true ((S.tm rfl).trans (congrArg Value.bool (Fy hd2 hi2))) (wp_skip (Tn (Fs (wp_block (Fs (Fg ?_))))))))
    obtain ⟨b3,o2,hm2,hr2⟩:=Ea (a:=a) (x:=.tmp 37) (y:=.tmp 39) (ty:=0) Pt Ab (Hd hd2 hi2) rfl (S.tm rfl) (S.tm rfl)
    refine lv S (hr2 _) rfl ?_;clear S;intro a S
    clear hr2
    refine lv S (He isAgg52 sizeOf52 (off:=o2) (o:=0) (part:=(Dj.enc y2)) rfl rfl (S.tm rfl) (hm2.at S.emb0)) rfl fun a S=>Iq S zeroValue52 (cs:=[sV Co,iV 0,iV 0]) rfl rfl ?_;clear S;intro a w10 b4 hz2 hk6 S
    refine Hy S (S.tm rfl) (S.tm rfl) (i:=0) (off:=0) rfl sizeOf52 (vs:=(Dj.enc y2)) rfl rfl rfl rfl ?_;clear S;intro w11 hk7 S
    refine Dz (Vk S rfl rfl fun a S=>Dl (Fs (Fr (Vm S rfl rfl ?_))));clear S;intro a S
    refine lv S (Ec Pt (S.tm rfl) (Ew Ab)) rfl fun a S=>lv S (Rm rfl) rfl fun a S=>Dl ?_
    replace S:=(S.nl [.blk b4 (Dj.enc y2) 52,.own v3 3 1 x1.length (x1.flatMap eInt)] [true,true] rfl).k10 0 6 8 9 37 38 39 43 44 45 rfl
    obtain ⟨j3,hj3,h⟩:=Dw h
    refine Dk (fun a w'=>∃ x2 : Int,j3 x2 = some r ∧ Sx w [] nov [.blk b4 (Dj.enc y2) 52,.own v3 3 1 x1.length (x1.flatMap eInt)] [(0,Z),(6,v3),(9,iV x2),(37,Z),(38,iV (Aa.length : Int)),(39,iV (i2 : Int))] 63 a w') ?_ ?_
    ·refine wp_block (Fq (fun (ys3 : List Dj) a w'=>∃ i3 : Nat,∃ x2 : Int,(∃ dn,Aa = dn ++ ys3 ∧ dn.length = i3) ∧ Io y2 j3 ys3 i3 x2 = some r ∧ Sx w [] nov [.blk b4 (Dj.enc y2) 52,.own v3 3 1 x1.length (x1.flatMap eInt)] [(0,Z),(6,v3),(8,.pointer (some ⟨b4,0,none⟩)),(9,iV x2),(37,Z),(38,iV (Aa.length : Int)),(39,iV (i2 : Int)),(43,Z),(44,iV (Aa.length : Int)),(45,iV (i3 : Int))] 63 a w') List.length Aa ⟨0,1,⟨[],rfl,rfl⟩,h,S.nf [true,true] rfl (subR rfl)⟩ ?_)
     clear S h;rintro ys3 a w12 ⟨i3,x2,⟨dn,hd3,hi3⟩,h,S⟩
     cases ys3 with
     | nil =>
      rw [Io.eq_1] at h
      refine Fr (Vb S Dp rfl rfl rfl fun a S=>Ld ?_)
      replace S:=S.k11 0 6 8 9 37 38 39 43 44 45 46 rfl
      exact Tn (Fs (wp_cond_false ((S.tm rfl).trans (congrArg Value.bool (Hj hd3 hi3))) (wp_exit (De (De (Fk (Tn (⟨x2,h,S.nf [true,true] rfl (subR rfl)⟩))))))))
     | cons y3 ys3 =>
      rw [Io.eq_2] at h
      refine Fr (Vb S Dp rfl rfl rfl fun a S=>Ld ?_)
      replace S:=S.k11 0 6 8 9 37 38 39 43 44 45 46 rfl
      refine Tn (Fs (wp_cond_true ((S.tm rfl).trans (congrArg Value.bool (Fy hd3 hi3))) (wp_skip (Tn (Fs ?_)))))
      obtain ⟨j4,hj4,h⟩:=Dw h
      refine Dk (fun a w'=>∃ x3 : Int,j4 x3 = some r ∧ Sx w [] nov [.blk b4 (Dj.enc y2) 52,.own v3 3 1 x1.length (x1.flatMap eInt)] [(0,Z),(6,v3),(8,.pointer (some ⟨b4,0,none⟩)),(9,iV x3),(37,Z),(38,iV (Aa.length : Int)),(39,iV (i2 : Int)),(43,Z),(44,iV (Aa.length : Int)),(45,iV (i3 : Int))] 63 a w') ?_ ?_
      ·refine wp_block (Fs (Fg ?_))
       obtain ⟨b5,o3,hm3,hr3⟩:=Ea (a:=a) (x:=.tmp 43) (y:=.tmp 45) (ty:=0) Pt Ab (Hd hd3 hi3) rfl (S.tm rfl) (S.tm rfl)
       refine lv S (hr3 _) rfl ?_;clear S;intro a S
       clear hr3
       refine lv S (He isAgg52 sizeOf52 (off:=o3) (o:=0) (part:=(Dj.enc y3)) rfl rfl (S.tm rfl) (hm3.at S.emb0)) rfl fun a S=>Iq S zeroValue52 (cs:=[sV Co,iV 0,iV 0]) rfl rfl ?_;clear S;intro a w15 b6 hz3 hk8 S
       refine Hy S (S.tm rfl) (S.tm rfl) (i:=0) (off:=0) rfl sizeOf52 (vs:=(Dj.enc y3)) rfl rfl rfl rfl ?_;clear S;intro w16 hk9 S
       refine Dz (Vf Nr S rfl rfl fun a S=>lv S (He isAgg50 sizeOf50 (off:=0) (o:=1) (part:=(Ha.enc y3.Points)) rfl rfl (S.tm rfl) (S.cellsAt (i:=0) rfl)) rfl fun a S=>Vf Nr S rfl rfl fun a S=>lv S (He isAgg50 sizeOf50 (off:=0) (o:=1) (part:=(Ha.enc y2.Points)) rfl rfl (S.tm rfl) (S.cellsAt (i:=1) rfl)) rfl fun a S=>Df S (fun _=>Ck (vs:=[.agg (Ha.enc y3.Points).toArray,.agg (Ha.enc y2.Points).toArray]) ⟨(S.tm rfl),(S.tm rfl),trivial⟩ call23) (Wx _ y3.Points y2.Points _ rfl) rfl ?_);clear S;intro v4 a w17 hv3 hk10 hn3 S
       subst hv3
       refine Ld ?_
       replace S:=(S.nl [.blk b4 (Dj.enc y2) 52,.own v3 3 1 x1.length (x1.flatMap eInt)] [false,true,true] rfl).k11 0 6 8 9 37 38 39 43 44 45 53 rfl
       refine Tn ?_
       obtain ⟨j5,hj5,h⟩:=Dw h
       refine Dk (fun a w'=>∃ x4 : Int,j5 x4 = some r ∧ Sx w [] nov [.blk b4 (Dj.enc y2) 52,.own v3 3 1 x1.length (x1.flatMap eInt)] [(0,Z),(6,v3),(8,.pointer (some ⟨b4,0,none⟩)),(9,iV x4),(37,Z),(38,iV (Aa.length : Int)),(39,iV (i2 : Int)),(43,Z),(44,iV (Aa.length : Int)),(45,iV (i3 : Int))] 63 a w') ?_ ?_
       ·refine Fc h (S.tm rfl) (fun hb5 h=>?_) (fun hb5 h=>?_)
        ·exact Fg (Vm S rfl rfl fun a S=>Vq S Eh rfl rfl rfl fun a S=>Va S rfl rfl fun a S=>Dl (⟨W (x2 + 1),h,S.nf [true,true] rfl (subR rfl)⟩))
        ·exact wp_skip (Tn (⟨x2,h,S.nf [true,true] rfl (subR rfl)⟩))
       clear S h;rintro a w18 ⟨x4,h,S⟩;rw [hj5] at h;clear hj5 j5
       exact Hf (Tn (⟨x4,h,S.nf [true,true] rfl (subR rfl)⟩))
      clear S h;rintro a w14 ⟨x3,h,S⟩;rw [hj4] at h;clear hj4 j4
      exact Tn (Fg (Vq S Eh rfl rfl rfl fun a S=>Vm S rfl rfl fun a S=>Dl (⟨ys3,⟨i3 + 1,x3,⟨_,(hd3).trans (List.append_cons _ _ _),by simp [hi3]⟩,h,S.nf [true,true] rfl ⟨rfl,rfl,rfl,rfl,rfl,rfl,rfl,rfl,rfl,(congrArg (fun z=>some (Value.int .i64 z)) (Fz hd3 hi3 (Il Ab))),trivial⟩⟩,Nat.lt_succ_self _⟩)))
    clear S h;rintro a w13 ⟨x2,h,S⟩;rw [hj3] at h;clear hj3 j3
    refine Tn (Fg (Vm S rfl rfl fun a S=>Vm S rfl rfl fun a S=>Eb S underlying22 sizeOf3 zeroValue3 rfl rfl (pv:=[(0,iV x2)]) ⟨rfl,(S.tm rfl),trivial⟩ (cs:=[iV x2]) (by kernel_rfl) rfl ?_));clear S;intro a w19 b7 hz4 hk11 S
    obtain ⟨hc1,h⟩:=Gn h
    refine Mb Mz Nf S (S.tm rfl) (i:=2) rfl (S.tm rfl) (j:=0) rfl (ys:=[x2]) rfl rfl rfl rfl (by have:=Lh hc1;omega) rfl ?_;clear S;intro v5 a w20 hk12 S
    exact Va S rfl rfl fun a S=>Ld (Hf (Tn (Fg (Vq S Eh rfl rfl rfl fun a S=>Vm S rfl rfl fun a S=>Dl (⟨ys2,⟨i2 + 1,(x1 ++ [x2]),v5,⟨_,(hd2).trans (List.append_cons _ _ _),by simp [hi2]⟩,h,S.nf [false,false,true] rfl ⟨rfl,rfl,rfl,rfl,(congrArg (fun z=>some (Value.int .i64 z)) (Fz hd2 hi2 (Il Ab))),trivial⟩⟩,Nat.lt_succ_self _⟩)))))
  clear S h;rintro a w9 ⟨x1,v3,h,S⟩;rw [hj2] at h;clear hj2 j2
  refine Tn (Fr (Vm S rfl rfl fun a S=>Va S rfl rfl fun a S=>Vk S rfl rfl fun a S=>Dl (wp_ret ?_)))
  obtain rfl:=Option.some.inj h
  exact Ou S results6 rfl rfl ⟨_,rfl,(Tz S (i:=0) rfl rfl)⟩
theorem Wc (w : World) (s c : ByteArray) (r : ByteArray) (h : Oh s c = some r) : Calls prog 63 [.string s,.string c].toArray w (Ret w [] fun _ v _=>v = .string r):=by
  unfold Oh at h
  obtain ⟨h1,h⟩:=Gn h
  obtain ⟨h2,h⟩:=Gn h
  obtain ⟨h3,h⟩:=Gn h
  obtain rfl:=Option.some.inj h
  exact Uc (Any.strings_Trim_laid Tryz.lays160 (by kernel_rfl) s c w (by simpa using h1) (by simpa using h2) (fun j b hb=>by simpa using List.all_eq_true.1 h3 b (List.mem_of_getElem? hb)))
theorem Ol (w : World) (Ak : ByteArray) (r : Bool) (h : Kv Ak = some r) :
    Calls prog 44 [sV Ak].toArray w (Ret w [] fun _ v _=>v = bV r):=by
 refine Fe func44 rfl ntmps44 rfl fun a S=>?_
 unfold Kv at h
 replace S:=S.k1 0 rfl
 refine Fr (Vk S rfl rfl fun a S=>Dz (Vm S rfl rfl fun a S=>Vu S (Qx underlying9) rfl rfl fun a S=>Vq S Ms rfl rfl rfl fun a S=>Vm S rfl rfl ?_));clear S;intro a S
 refine Ik 4 (fun a w'=>Keep [] w w' ∧ Sx w [] nov [] [(0,sV Ak),(10,bV ((decide (1 ≤ (Ak.size : Int))) && (decide ((Ak.size : Int) ≤ 40))))] 26 a w') ?_ ?_
 ·rcases Bool.eq_false_or_eq_true (decide (1 ≤ (Ak.size : Int))) with hb1 | hb1
  ·exact Cq S rfl rfl rfl hb1 (Vm S rfl rfl fun a S=>Cq S rfl rfl rfl hb1 (Vu S (Qx underlying9) rfl rfl fun a S=>Cq S rfl rfl rfl hb1 (Vq S Qc rfl rfl rfl fun a S=>lv S (Hr hb1 (S.tm rfl) (S.tm rfl)) rfl fun a S=>Dl (⟨Keep.refl _ _,S.nf [] rfl (subR rfl)⟩))))
  ·iterate 3 (refine Gz S rfl rfl rfl (Jh hb1) rfl ?_ rfl;clear S;intro a S)
   exact lv S (Hs (decide ((Ak.size : Int) ≤ 40)) hb1 (S.tm rfl) rfl) rfl fun a S=>Dl (⟨Keep.refl _ _,S.nf [] rfl (subR rfl)⟩)
 clear S;rintro a w1 ⟨hk1,S⟩
 refine Vm S rfl rfl ?_;clear S;intro a S
 obtain ⟨j1,hj1,h⟩:=Dw h
 refine Ik 4 (fun a w'=>∃ c1,j1 c1 = some r ∧ Keep [] w1 w' ∧ Sx w [] nov [] [(0,sV Ak),(15,bV c1)] 26 a w') ?_ ?_
 ·rcases Bool.eq_false_or_eq_true ((decide (1 ≤ (Ak.size : Int))) && (decide ((Ak.size : Int) ≤ 40))) with hb2 | hb2
  ·replace h:=Oo h hb2
   refine Cq S rfl rfl rfl hb2 (Vm S rfl rfl fun a S=>Cq S rfl rfl rfl hb2 ?_)
   obtain ⟨hc1,h⟩:=Gn h
   exact lv S (Ps underlying9 (S.tm rfl) rfl hc1) rfl fun a S=>Cq S rfl rfl rfl hb2 (Vq S Ms rfl rfl rfl fun a S=>lv S (Hr hb2 (S.tm rfl) (S.tm rfl)) rfl fun a S=>Dl (⟨_,h,Keep.refl _ _,S.nf [] rfl (subR rfl)⟩))
  ·replace h:=Oq h hb2
   iterate 3 (refine Gz S rfl rfl rfl (Jh hb2) rfl ?_ rfl;clear S;intro a S)
   exact Vq S (Hs true hb2) rfl rfl rfl fun a S=>Dl (⟨_,h,Keep.refl _ _,S.nf [] rfl (subR rfl)⟩)
 clear S h;rintro a w2 ⟨c1,h,hk2,S⟩;rw [hj1] at h;clear hj1 j1
 refine Vm S rfl rfl ?_;clear S;intro a S
 obtain ⟨j2,hj2,h⟩:=Dw h
 refine Ik 4 (fun a w'=>∃ c2,j2 c2 = some r ∧ Keep [] w2 w' ∧ Sx w [] nov [] [(0,sV Ak),(20,bV c2)] 26 a w') ?_ ?_
 ·rcases Bool.eq_false_or_eq_true c1 with hb3 | hb3
  ·replace h:=Oo h hb3
   refine Cq S rfl rfl rfl hb3 (Vm S rfl rfl fun a S=>Cq S rfl rfl rfl hb3 ?_)
   obtain ⟨hc2,h⟩:=Gn h
   exact lv S (Ps underlying9 (S.tm rfl) rfl hc2) rfl fun a S=>Cq S rfl rfl rfl hb3 (Vq S Qc rfl rfl rfl fun a S=>lv S (Hr hb3 (S.tm rfl) (S.tm rfl)) rfl fun a S=>Dl (⟨_,h,Keep.refl _ _,S.nf [] rfl (subR rfl)⟩))
  ·replace h:=Oq h hb3
   iterate 3 (refine Gz S rfl rfl rfl (Jh hb3) rfl ?_ rfl;clear S;intro a S)
   exact Vq S (Hs true hb3) rfl rfl rfl fun a S=>Dl (⟨_,h,Keep.refl _ _,S.nf [] rfl (subR rfl)⟩)
 clear S h;rintro a w3 ⟨c2,h,hk3,S⟩;rw [hj2] at h;clear hj2 j2
 refine Vm S rfl rfl ?_;clear S;intro a S
 obtain ⟨j3,hj3,h⟩:=Dw h
 refine Ik 4 (fun a w'=>∃ c3,j3 c3 = some r ∧ Keep [] w3 w' ∧ Sx w [] nov [] [(25,bV c3)] 26 a w') ?_ ?_
 ·rcases Bool.eq_false_or_eq_true c2 with hb4 | hb4
  ·replace h:=Oo h hb4
   refine Cq S rfl rfl rfl hb4 (Vm S rfl rfl fun a S=>Cq S rfl rfl rfl hb4 ?_)
   obtain ⟨r1,hr1,h⟩:=Em h
   refine Df S (fun _=>Ck (vs:=[sV Ak,sV Ek]) ⟨(S.tm rfl),rfl,trivial⟩ call63) (Wc _ Ak Ek _ hr1) rfl ?_;clear S;intro v1 a w5 hv1 hk4 hn1 S
   subst hv1
   exact Cq S rfl rfl rfl hb4 (Vq S Pk rfl rfl rfl fun a S=>lv S (Hr hb4 (S.tm rfl) (S.tm rfl)) rfl fun a S=>Dl (⟨_,h,hk4,S.nf [] rfl ⟨rfl,trivial⟩⟩))
  ·replace h:=Oq h hb4
   iterate 3 (refine Gz S rfl rfl rfl (Jh hb4) rfl ?_ rfl;clear S;intro a S)
   exact Vq S (Hs true hb4) rfl rfl rfl fun a S=>Dl (⟨_,h,Keep.refl _ _,S.nf [] rfl ⟨rfl,trivial⟩⟩)
 clear S h;rintro a w4 ⟨c3,h,hk5,S⟩;rw [hj3] at h;clear hj3 j3
 refine Va S rfl rfl fun a S=>Dl (wp_ret ?_)
 obtain rfl:=Option.some.inj h
 exact Ee S results44 rfl rfl
theorem Rj (w : World) (Ad : Int) (Ae : Int) (r : Int) (h : Ho Ad Ae = r) :
    Calls prog 64 [iV Ad,iV Ae].toArray w (Ret w [] fun _ v _=>v = iV r):=by
 refine Fe func64 rfl ntmps64 rfl fun a S=>?_
 unfold Ho at h
 replace S:=S.k2 0 1 rfl
 refine Fr (Vk S rfl rfl fun a S=>Dl (Fs (Fr (Vm S rfl rfl fun a S=>Vq S Kq rfl rfl rfl fun a S=>Ld ?_))))
 refine Tn ?_
 obtain ⟨j1,hj1,h⟩:=Dw h
 refine Dk (fun a w'=>∃ x1 : Int,j1 x1 = r ∧ Sx w [] nov [] [(0,iV x1),(1,iV Ae)] 12 a w') ?_ ?_
 ·refine Fc h (S.tm rfl) (fun hb1 h=>?_) (fun hb1 h=>?_)
  ·exact Fg (Vk S rfl rfl fun a S=>Dl (⟨301,h,S.nf [] rfl (subR rfl)⟩))
  ·exact wp_skip (Tn (⟨Ad,h,S.nf [] rfl (subR rfl)⟩))
 clear S h;rintro a w1 ⟨x1,h,S⟩;rw [hj1] at h;clear hj1 j1
 refine Tn (Fs (Fr (Vm S rfl rfl fun a S=>Vq S Kq rfl rfl rfl fun a S=>Dl ?_)))
 obtain ⟨j2,hj2,h⟩:=Dw h
 refine Dk (fun a w'=>∃ x2 : Int,j2 x2 = r ∧ Sx w [] nov [] [(0,iV x1),(1,iV x2)] 12 a w') ?_ ?_
 ·refine Fc h (S.tm rfl) (fun hb2 h=>?_) (fun hb2 h=>?_)
  ·exact Fg (Vk S rfl rfl fun a S=>Dl (⟨301,h,S.nf [] rfl (subR rfl)⟩))
  ·exact wp_skip (Tn (⟨Ae,h,S.nf [] rfl (subR rfl)⟩))
 clear S h;rintro a w2 ⟨x2,h,S⟩;rw [hj2] at h;clear hj2 j2
 refine Tn (Fr (Vm S rfl rfl fun a S=>Vm S rfl rfl fun a S=>Vb S It rfl rfl rfl fun a S=>Va S rfl rfl fun a S=>Dl (wp_ret ?_)))
 subst h
 exact Ee S results64 rfl rfl
theorem Th (w : World) (By : Value) (Bu : List Int) (Bv : Slc (view w []) 1 By (Bu.map eInt)) (r : Int) (h : My Bu = r) :
    Calls prog 29 [By].toArray w (Ret w [] fun _ v _=>v = iV r):=by
 refine Fe func29 rfl ntmps29 rfl fun a S=>?_
 unfold My at h
 replace S:=S.k1 0 rfl
 refine Fr (Vk S rfl rfl fun a S=>Dz (Vk S rfl rfl fun a S=>Dl (Fs ?_)))
 refine Fr (Vm S rfl rfl fun a S=>lv S (Ec Mz (S.tm rfl) (Ew Bv)) rfl fun a S=>lv S (Rm rfl) rfl fun a S=>Dl ?_)
 replace S:=S.k4 3 6 7 8 rfl
 obtain ⟨j1,hj1,h⟩:=Dw h
 refine Dk (fun a w'=>j1 = r ∧ Sx w [] nov [] [(3,iV 0)] 18 a w') ?_ ?_
 ·refine wp_block (Fq (fun (ys1 : List Int) a w'=>∃ i1 : Nat,(∃ dn,Bu = dn ++ ys1 ∧ dn.length = i1) ∧ Ii j1 ys1 i1 = r ∧ Sx w [] nov [] [(3,iV 0),(6,By),(7,iV (Bu.length : Int)),(8,iV (i1 : Int))] 18 a w') List.length Bu ⟨0,⟨[],rfl,rfl⟩,h,S.nf [] rfl (subR rfl)⟩ ?_)
  clear S h;rintro ys1 a w1 ⟨i1,⟨dn,hd1,hi1⟩,h,S⟩
  cases ys1 with
  | nil =>
   rw [Ii.eq_1] at h
   refine Fr (Vb S Dp rfl rfl rfl fun a S=>Ld ?_)
   replace S:=S.k5 3 6 7 8 9 rfl
   exact Tn (Fs (wp_cond_false ((S.tm rfl).trans (congrArg Value.bool (Hj hd1 hi1))) (wp_exit (De (De (Fk (Tn (⟨h,S.nf [] rfl ⟨rfl,trivial⟩⟩))))))))
  | cons y1 ys1 =>
   rw [Ii.eq_2] at h
   refine Fr (Vb S Dp rfl rfl rfl fun a S=>Ld ?_)
   replace S:=S.k5 3 6 7 8 9 rfl
   refine Tn (Fs (wp_cond_true ((S.tm rfl).trans (congrArg Value.bool (Fy hd1 hi1))) (wp_skip (Tn (Fs (wp_block (Fs (Fg ?_))))))))
   obtain ⟨b1,o1,hm1,hr1⟩:=Ea (a:=a) (x:=.tmp 6) (y:=.tmp 8) (ty:=0) Mz Bv (Hd hd1 hi1) rfl (S.tm rfl) (S.tm rfl)
   refine lv S (hr1 _) rfl ?_;clear S;intro a S
   clear hr1
   refine lv S (Gy isAgg3 (off:=o1) (o:=0) (S.tm rfl) (hm1.at S.emb0) rfl) rfl fun a S=>Va S rfl rfl fun a S=>Dz (Vm S rfl rfl fun a S=>Vm S rfl rfl fun a S=>Vb S Ot rfl rfl rfl fun a S=>Dl ?_)
   refine Fc h (S.tm rfl) (fun hb1 h=>?_) (fun hb1 h=>?_)
   ·refine Fr (Vm S rfl rfl fun a S=>Va S rfl rfl fun a S=>Dl (wp_ret (Fb (Cp (Cp (Fb ?_))))))
    refine Cp (Cp ?_)
    subst h
    exact Ee S results29 rfl rfl
   ·exact wp_skip (Hf (Tn (Fg (Vq S Eh rfl rfl rfl fun a S=>Vm S rfl rfl fun a S=>Dl (⟨ys1,⟨i1 + 1,⟨_,(hd1).trans (List.append_cons _ _ _),by simp [hi1]⟩,h,S.nf [] rfl ⟨rfl,rfl,rfl,(congrArg (fun z=>some (Value.int .i64 z)) (Fz hd1 hi1 (Il Bv))),trivial⟩⟩,Nat.lt_succ_self _⟩)))))
 clear S h;rintro a w2 ⟨h,S⟩;rw [hj1] at h;clear hj1 j1
 refine Tn (Fr (Vm S rfl rfl fun a S=>Va S rfl rfl fun a S=>Dl (wp_ret ?_)))
 subst h
 exact Ee S results29 rfl rfl
set_option maxRecDepth 20000 in
theorem Ui (w : World) (Ad : An) (Ae : An) (r : Int) (h : Jr Ad Ae = r) :
    Calls prog 45 [.agg (An.enc Ad).toArray,.agg (An.enc Ae).toArray].toArray w (Ret w [] fun _ v _=>v = iV r):=by
 refine Fe func45 rfl ntmps45 rfl fun a S=>?_
 unfold Jr at h
 replace S:=S.k2 0 1 rfl
 refine Fr (Rr S (S.tm rfl) (cs:=(An.enc Ad)) rfl rfl ?_);clear S;intro a w1 b1 hz1 hk1 S
 refine Rr S (S.tm rfl) (cs:=(An.enc Ae)) rfl rfl ?_;clear S;intro a w2 b2 hz2 hk2 S
 refine Vk S rfl rfl fun a S=>Dl (Fs (Gf [] ([]) Tryz.mixed S rfl (by kernel_rfl) ?_));clear S;intro w8 hk8 hsel S
 refine Cw 0 S hsel rfl rfl rfl (by kernel_rfl) (by kernel_rfl) rfl (fun _ hw=>(Gp Kn (S.tm rfl))) fun a S=>Cw 1 S hsel rfl rfl rfl (by kernel_rfl) (by kernel_rfl) rfl (fun _ hw=>(Gy isAgg9 (off:=0) (o:=0) (S.tm rfl) ((S.blk_mem (i:=1) (cells:=(An.enc Ad)) (b:=b1) (T:=55) rfl (Hg (e':=.blk b1 (An.enc Ad) 55))).kept hw) rfl)) fun a S=>Cw 2 S hsel rfl rfl rfl (by kernel_rfl) (by kernel_rfl) rfl (fun _ hw=>(Gp Kn (S.tm rfl))) fun a S=>Cw 3 S hsel rfl rfl rfl (by kernel_rfl) (by kernel_rfl) rfl (fun _ hw=>(Gy isAgg9 (off:=0) (o:=0) (S.tm rfl) ((S.blk_mem (i:=0) (cells:=(An.enc Ae)) (b:=b2) (T:=55) rfl (Hg (e':=.blk b2 (An.enc Ae) 55))).kept hw) rfl)) fun a S=>Cw 5 S hsel rfl rfl rfl (by kernel_rfl) (by kernel_rfl) rfl (fun _ hw=>(Gp Hh (S.tm rfl))) fun a S=>Cw 6 S hsel rfl rfl rfl (by kernel_rfl) (by kernel_rfl) rfl (fun _ hw=>(Gy isAgg3 (off:=0) (o:=3) (S.tm rfl) ((S.blk_mem (i:=1) (cells:=(An.enc Ad)) (b:=b1) (T:=55) rfl (Hg (e':=.blk b1 (An.enc Ad) 55))).kept hw) rfl)) fun a S=>Cw 7 S hsel rfl rfl rfl (by kernel_rfl) (by kernel_rfl) rfl (fun _ hw=>(Gp Hh (S.tm rfl))) fun a S=>Cw 8 S hsel rfl rfl rfl (by kernel_rfl) (by kernel_rfl) rfl (fun _ hw=>(Gy isAgg3 (off:=0) (o:=3) (S.tm rfl) ((S.blk_mem (i:=0) (cells:=(An.enc Ae)) (b:=b2) (T:=55) rfl (Hg (e':=.blk b2 (An.enc Ae) 55))).kept hw) rfl)) fun a S=>Cw 10 S hsel rfl rfl rfl (by kernel_rfl) (by kernel_rfl) rfl (fun _ hw=>(Gp Mm (S.tm rfl))) fun a S=>Cw 11 S hsel rfl rfl rfl (by kernel_rfl) (by kernel_rfl) rfl (fun _ hw=>(Gy isAgg9 (off:=0) (o:=1) (S.tm rfl) ((S.blk_mem (i:=1) (cells:=(An.enc Ad)) (b:=b1) (T:=55) rfl (Hg (e':=.blk b1 (An.enc Ad) 55))).kept hw) rfl)) ?_;clear S;intro a S
 refine Cw 12 S hsel rfl rfl rfl (by kernel_rfl) (by kernel_rfl) rfl (fun _ hw=>(Gp Mm (S.tm rfl))) fun a S=>Cw 13 S hsel rfl rfl rfl (by kernel_rfl) (by kernel_rfl) rfl (fun _ hw=>(Gy isAgg9 (off:=0) (o:=1) (S.tm rfl) ((S.blk_mem (i:=0) (cells:=(An.enc Ae)) (b:=b2) (T:=55) rfl (Hg (e':=.blk b2 (An.enc Ae) 55))).kept hw) rfl)) fun a S=>Gu 4 (by kernel_rfl) rfl (Df S (fun _=>Ck (vs:=[sV Ad.Race,sV Ae.Race]) ⟨(S.tm rfl),(S.tm rfl),trivial⟩ call30) (Kl _ Ad.Race Ae.Race _ rfl) rfl ?_);clear S;intro v5 a w9 hv5 hk9 hn5 S
 subst hv5
 refine Ld (Ib hk9 (Gu 9 (by kernel_rfl) rfl (Df S (fun _=>Ck (vs:=[iV Ad.Rank,iV Ae.Rank]) ⟨(S.tm rfl),(S.tm rfl),trivial⟩ call64) (Rj _ Ad.Rank Ae.Rank _ rfl) rfl ?_)));clear S;intro v6 a w10 hv6 hk10 hn6 S
 subst hv6
 refine Ld (Ib hk10 (Gu 14 (by kernel_rfl) rfl (Df S (fun _=>Ck (vs:=[sV Ad.Who,sV Ae.Who]) ⟨(S.tm rfl),(S.tm rfl),trivial⟩ call30) (Kl _ Ad.Who Ae.Who _ rfl) rfl ?_)));clear S;intro v7 a w11 hv7 hk11 hn7 S
 subst hv7
 refine Ld (Ib hk11 (Gu 15 (by kernel_rfl) rfl (Eb S underlying22 sizeOf3 zeroValue3 rfl rfl (pv:=[(0,iV (Ef Ad.Race Ae.Race)),(1,iV (Ho Ad.Rank Ae.Rank)),(2,iV (Ef Ad.Who Ae.Who))]) ⟨rfl,(S.tm rfl),rfl,(S.tm rfl),rfl,(S.tm rfl),trivial⟩ (cs:=[iV (Ef Ad.Race Ae.Race),iV (Ho Ad.Rank Ae.Rank),iV (Ef Ad.Who Ae.Who)]) (by kernel_rfl) rfl ?_)));clear S;intro a w12 b4 hz4 hk12 S
 refine Ld (Ib hk12 (Gu 16 (by kernel_rfl) rfl (Df S (fun _=>Ck (vs:=[.slice (some ⟨b4,0,none⟩) 3 3]) ⟨(S.tm rfl),trivial⟩ call29) (Th _ (.slice (some ⟨b4,0,none⟩) 3 3) [(Ef Ad.Race Ae.Race),(Ho Ad.Rank Ae.Rank),(Ef Ad.Who Ae.Who)] (Iw Nf S (i:=0) rfl rfl rfl rfl ((Hg (e':=.blk b4 [iV (Ef Ad.Race Ae.Race),iV (Ho Ad.Rank Ae.Rank),iV (Ef Ad.Who Ae.Who)] 3)) _ rfl)) _ rfl) rfl ?_)));clear S;intro v8 a w13 hv8 hk13 hn8 S
 subst hv8
 refine Ld (Ib hk13 (Ji [17] hsel (by kernel_rfl) rfl ?_))
 clear hsel
 refine Ei S rfl (Ra (S.tm rfl)) rfl fun a S=>Ic ?_
 replace S:=S.n0.k1 4 rfl
 refine Tn (wp_ret ?_)
 subst h
 exact Ee S results45 rfl rfl
set_option maxRecDepth 20000 in
theorem Wd (w : World) (ψ : View) (hψ : View.le ψ (view w [])) (Z : Value) (Aa : List An) (Ab : Slc ψ 5 Z (Aa.map An.enc)) (r : (List (List An))) (h : Lt Aa = some r) :
    Calls prog 65 [Z].toArray w (Ret w [] fun τ v _=>SlcD (join ψ τ) 1 RS.enc Sh v r):=by
 refine Fe func65 rfl ntmps65 rfl fun a S=>?_
 unfold Lt at h
 replace S:=S.k1 0 rfl
 refine Fr (Vk S rfl rfl fun a S=>Dz (Vk S rfl rfl ?_));clear S;intro a S
 replace S:=S.nil 28 1
 refine Dl (Fs (Fr (Vk S rfl rfl fun a S=>Dl ?_)))
 replace S:=(S.nl [.own (.slice none 0 0) 28 1 ([] : List RS).length (([] : List RS).flatMap RS.enc)] [true] rfl).k3 0 3 4 rfl
 obtain ⟨j1,hj1,h⟩:=Dw h
 refine Dk (fun a w'=>∃ x1 : List (List An),∃ v1 : Value,∃ rs1 : List RS,j1 x1 = some r ∧ Ko (Sh (join ψ nov)) x1 rs1 ∧ Sx w [] nov [.own v1 28 1 rs1.length (rs1.flatMap RS.enc)] [(3,v1)] 41 a w') ?_ ?_
 ·refine wp_block (Fq (fun (m1 : Nat) a w'=>∃ x1 : List (List An),∃ x2 : Int,∃ v1 : Value,∃ rs1 : List RS,Hq Aa j1 m1 x1 x2 = some r ∧ Ko (Sh (join ψ nov)) x1 rs1 ∧ Sx w [] nov [.own v1 28 1 rs1.length (rs1.flatMap RS.enc)] [(0,Z),(3,v1),(4,iV x2)] 41 a w') id (((Aa.length : Int) - 0).toNat + 2) ⟨([] : List (List An)),0,(.slice none 0 0),([] : List RS),h,.nil,S.nf [true] rfl (subR rfl)⟩ ?_)
  clear S h;rintro m1 a w1 ⟨x1,x2,v1,rs1,h,hr1,S⟩
  cases m1 with
  | zero=>rw [Hq.eq_1] at h;cases h
  | succ m1 =>
   rw [Hq.eq_2] at h
   refine Fs (Fr (Vm S rfl rfl fun a S=>Vm S rfl rfl fun a S=>lv S (Ec Hz (S.tm rfl) (Ew Ab)) rfl fun a S=>Vb S Dp rfl rfl rfl fun a S=>Dl (Fc h (S.tm rfl) (fun hb1 h=>?_) (fun hb1 h=>?_))))
   ·refine wp_skip (Tn (wp_block (Fr (Vm S rfl rfl fun a S=>Vq S Eh rfl rfl rfl fun a S=>Va S rfl rfl fun a S=>Dl (Fs ?_)))))
    replace S:=S.k4 0 3 4 5 rfl
    obtain ⟨j2,hj2,h⟩:=Dw h
    refine Dk (fun a w'=>∃ x3 : Int,j2 x3 = some r ∧ Sx w [] nov [.own v1 28 1 rs1.length (rs1.flatMap RS.enc)] [(0,Z),(3,v1),(4,iV x2),(5,iV x3)] 41 a w') ?_ ?_
    ·refine wp_block (Fq (fun (m2 : Nat) a w'=>∃ x3 : Int,Ip Aa x2 j2 m2 x3 = some r ∧ Sx w [] nov [.own v1 28 1 rs1.length (rs1.flatMap RS.enc)] [(0,Z),(3,v1),(4,iV x2),(5,iV x3)] 41 a w') id (((Aa.length : Int) - (W (x2 + 1))).toNat + 2) ⟨W (x2 + 1),h,S.nf [true] rfl (subR rfl)⟩ ?_)
     clear S h;rintro m2 a w3 ⟨x3,h,S⟩
     cases m2 with
     | zero=>rw [Ip.eq_1] at h;cases h
     | succ m2 =>
      rw [Ip.eq_2] at h
      refine Fs (Fs (Gf [] ([]) Tryz.mixed S rfl (by kernel_rfl) ?_));clear S;intro w5 hk1 hsel S
      refine Ji [0,1,2,3,4,5,6,7,8,9,10,11,12,13,14,15,16] hsel (by kernel_rfl) rfl ?_
      clear hsel
      refine Ei S rfl (Rm (S.tm rfl)) rfl fun a S=>Ei S rfl (Rm (S.tm rfl)) rfl fun a S=>Ei S rfl (Ec Hz (S.tm rfl) (Ew Ab)) rfl fun a S=>Ei S rfl (Dp (S.tm rfl) (S.tm rfl)) rfl fun a S=>Ei S rfl (Rm (S.tm rfl)) rfl ?_;clear S;intro a S
      obtain ⟨j3,hj3,h⟩:=Dw h
      refine Uu 12 (fun a w'=>∃ c1,j3 c1 = some r ∧ Keep [] w5 w' ∧ Sx w [] nov [.own v1 28 1 rs1.length (rs1.flatMap RS.enc)] [(0,Z),(3,v1),(4,iV x2),(5,iV x3),(28,bV c1)] 41 a w') ?_ ?_
      ·rcases Bool.eq_false_or_eq_true (decide (x3 < (Aa.length : Int))) with hb2 | hb2
       ·replace h:=Oo h hb2
        refine Fo S rfl rfl rfl rfl hb2 (Hm S (Rm (S.tm rfl)) rfl fun a S=>Fo S rfl rfl rfl rfl hb2 (Hm S (Rm (S.tm rfl)) rfl fun a S=>Fo S rfl rfl rfl rfl hb2 ?_))
        obtain ⟨hc1,h⟩:=Gn h
        obtain ⟨b1,o1,hm1,hr2⟩:=Ea (a:=a) (x:=.tmp 17) (y:=.tmp 18) (ty:=0) Hz Ab (Cn hc1).1 (Cn hc1).2 (S.tm rfl) (S.tm rfl)
        refine Hm S (hr2 _) rfl ?_;clear S;intro a S
        clear hr2
        refine Fo S rfl rfl rfl rfl hb2 (Hm S (Gp Kn (S.tm rfl)) rfl fun a S=>Fo S rfl rfl rfl rfl hb2 (Hm S (Gy isAgg9 (off:=o1) (o:=0) (S.tm rfl) (hm1.at (EA hψ S.emb0)) rfl) rfl fun a S=>Fo S rfl rfl rfl rfl hb2 (Hm S (Rm (S.tm rfl)) rfl fun a S=>Fo S rfl rfl rfl rfl hb2 (Hm S (Rm (S.tm rfl)) rfl fun a S=>Fo S rfl rfl rfl rfl hb2 ?_))))
        obtain ⟨hc2,h⟩:=Gn h
        obtain ⟨b2,o2,hm2,hr3⟩:=Ea (a:=a) (x:=.tmp 22) (y:=.tmp 23) (ty:=0) Hz Ab (Cn hc2).1 (Cn hc2).2 (S.tm rfl) (S.tm rfl)
        refine Hm S (hr3 _) rfl ?_;clear S;intro a S
        clear hr3
        exact Fo S rfl rfl rfl rfl hb2 (Hm S (Gp Kn (S.tm rfl)) rfl fun a S=>Fo S rfl rfl rfl rfl hb2 (Hm S (Gy isAgg9 (off:=o2) (o:=0) (S.tm rfl) (hm2.at (EA hψ S.emb0)) rfl) rfl fun a S=>Fo S rfl rfl rfl rfl hb2 (Hm S (Pk (S.tm rfl) (S.tm rfl)) rfl fun a S=>Ei S rfl (Hr hb2 (S.tm rfl) (S.tm rfl)) rfl fun a S=>Ic (⟨_,h,Keep.refl _ _,S.nf [true] rfl (subR rfl)⟩))))
       ·replace h:=Oq h hb2
        iterate 11 (refine Pf S rfl rfl rfl rfl (Jh hb2) rfl ?_ rfl;clear S;intro a S)
        exact Ei S rfl (Hs true hb2 (S.tm rfl) rfl) rfl fun a S=>Ic (⟨_,h,Keep.refl _ _,S.nf [true] rfl (subR rfl)⟩)
      clear S h;rintro a w6 ⟨c1,h,hk2,S⟩;rw [hj3] at h;clear hj3 j3
      refine Ic ?_
      replace S:=S.k5 0 3 4 5 28 rfl
      refine Tn (Fc h (S.tm rfl) (fun hb3 h=>?_) (fun hb3 h=>?_))
      ·exact wp_skip (Tn (wp_block (Fg (Vm S rfl rfl fun a S=>Vq S Eh rfl rfl rfl fun a S=>Va S rfl rfl fun a S=>Ld (Hf (Tn (⟨m2,⟨W (x3 + 1),h,S.nf [true] rfl ⟨rfl,rfl,rfl,rfl,trivial⟩⟩,Nat.lt_succ_self _⟩)))))))
      ·exact wp_exit (De (De (Fk (Tn (⟨x3,h,S.nf [true] rfl (subR rfl)⟩)))))
    clear S h;rintro a w4 ⟨x3,h,S⟩;rw [hj2] at h;clear hj2 j2
    refine Tn (Fs (Fg ?_))
    iterate 5 (refine Vm S rfl rfl ?_;clear S;intro a S)
    obtain ⟨hc3,h⟩:=Gn h
    obtain ⟨v2,hs1,hr4⟩:=DU (y2:=.tmp 35) (a:=a) (x:=.tmp 32) (y:=.tmp 33) (y':=.tmp 34) (ty:=28) Hz Ab (S.tm rfl) (S.tm rfl) (S.tm rfl) (S.tm rfl) hc3
    refine lv S (hr4 _) rfl ?_;clear S;intro a S
    clear hr4
    refine Eb S underlying102 sizeOf28 zeroValue28 rfl rfl (pv:=[(0,v2)]) ⟨rfl,(S.tm rfl),trivial⟩ (cs:=[v2]) (DT hs1) rfl ?_;clear S;intro a w7 b3 hz1 hk3 S
    obtain ⟨hc4,h⟩:=Gn h
    have hr5 : Ko (Sh (join ψ nov)) (x1 ++ [cut Aa x2 x3]) (rs1 ++ [⟨v2,Mv.one (Ew hs1)⟩]):=Ko.app hr1 (Ko.cons (hs1.mono (le_join_left _ _)) Ko.nil)
    refine Mb Tm RS.enc_ok S (S.tm rfl) (i:=1) rfl (S.tm rfl) (j:=0) rfl (ys:=[⟨v2,Mv.one (Ew hs1)⟩]) rfl rfl rfl rfl (by have:=Lh hc4;have:=Ko.len hr1;simp at this ⊢;omega) rfl ?_;clear S;intro v3 a w8 hk4 S
    exact Va S rfl rfl fun a S=>Dl (Fg (Vm S rfl rfl fun a S=>Va S rfl rfl fun a S=>Ld (Hf (Tn (⟨m1,⟨(x1 ++ [cut Aa x2 x3]),x3,v3,(rs1 ++ [⟨v2,Mv.one (Ew hs1)⟩]),h,hr5,S.nf [false,true] rfl ⟨rfl,rfl,rfl,trivial⟩⟩,Nat.lt_succ_self _⟩)))))
   ·exact wp_exit (De (De (Fk (Tn (⟨x1,v1,rs1,h,hr1,S.nf [true] rfl ⟨rfl,trivial⟩⟩)))))
 clear S h;rintro a w2 ⟨x1,v1,rs1,h,hr1,S⟩;rw [hj1] at h;clear hj1 j1
 refine Tn (Fr (Vm S rfl rfl fun a S=>Va S rfl rfl fun a S=>Dl (wp_ret ?_)))
 obtain ⟨φ1,hl1,hs2,S⟩:=S.freezeT (xs:=rs1) (enc:=RS.enc) (i:=0) rfl (fun _ h=>by cases h)
 have hr6:=(Yz (Zp hl1) hr1)
 have hs3:=(Ir RS.enc_ok hs2).mono (S.all_right hψ)
 replace S:=S.nk [] [(2,v1),(3,v1),(40,v1)] [] rfl (subR rfl)
 obtain rfl:=Option.some.inj h
 exact Ee S results65 rfl ⟨_,(hs3.mono (BS hψ S.le_newer)),Yz (BS hψ S.le_newer) hr6⟩
set_option maxRecDepth 20000 in
theorem Ru (w : World) (Ai : An) (Bw : Nat) (Cd : Value) (Bt : List An) (Cf : Slc (view w []) 5 Cd (Bt.map An.enc)) (Bx : (view w []) Bw = some (.cells [Cd].toArray 28 (0,0))) (r : Bool) (h : Lu Ai Bt = some r) :
    Calls prog 67 [.agg (An.enc Ai).toArray,.pointer (some ⟨Bw,0,none⟩)].toArray w (Ret w [] fun _ v _=>v = bV r):=by
 refine Fe func67 rfl ntmps67 rfl fun a S=>?_
 unfold Lu at h
 replace S:=S.k2 0 1 rfl
 refine Fr (Rr S (S.tm rfl) (cs:=(An.enc Ai)) rfl rfl ?_);clear S;intro a w1 b1 hz1 hk1 S
 refine Vk S rfl rfl fun a S=>Dl (Fs (Gf [] ([]) Tryz.mixed S rfl (by kernel_rfl) ?_));clear S;intro w2 hk2 hsel S
 refine Ji [0,1,2,3,4,5,6,7] hsel (by kernel_rfl) rfl ?_
 clear hsel
 refine Ei S rfl (Gp Sw (S.tm rfl)) rfl fun a S=>Ei S rfl (Od isAgg4 (S.tm rfl) (S.cell (i:=0) rfl rfl)) rfl fun a S=>Ei S rfl (Gy isAgg28 (off:=0) (o:=0) (S.tm rfl) ((Ub Bx).at S.emb0) rfl) rfl ?_;clear S;intro a S
 obtain ⟨hc1,h⟩:=Gn h
 obtain ⟨b2,o1,hm1,hr1⟩:=Ea (a:=a) (x:=.tmp 6) (y:=.const (iV 0)) (ty:=0) Hz Cf (Cn hc1).1 (Cn hc1).2 (S.tm rfl) rfl
 refine Ei S rfl (hr1 _) rfl ?_;clear S;intro a S
 clear hr1
 refine Ei S rfl (Gp Sw (S.tm rfl)) rfl fun a S=>Ei S rfl (Gy isAgg4 (off:=o1) (o:=4) (S.tm rfl) (hm1.at S.emb0) rfl) rfl fun a S=>Ei S rfl (BG underlying4 (S.tm rfl) (S.tm rfl)) rfl fun a S=>Ei S rfl (Ra (S.tm rfl)) rfl fun a S=>Ic ?_
 replace S:=S.n0.k1 3 rfl
 refine Tn (wp_ret ?_)
 obtain rfl:=Option.some.inj h
 exact Ee S results67 rfl rfl
theorem Lf (w : World) (Am : Value) (Ak : List An) (Bn : Slc (view w []) 5 Am (Ak.map An.enc)) (Ax : Nat) (Bq : Value) (Bb : List An) (Bz : Slc (view w []) 5 Bq (Bb.map An.enc)) (Bo : (view w []) Ax = some (.cells [Bq].toArray 28 (0,0))) (r : Int) (h : Gh Ak Bb = some r) :
    Calls prog 113 [Am,.func (.func 67) #[] #[.pointer (some ⟨Ax,0,none⟩)]].toArray w (Ret w [] fun _ v _=>v = iV r):=by
 refine Fe func113 rfl ntmps113 rfl fun a S=>?_
 unfold Gh at h
 replace S:=S.k2 0 1 rfl
 refine Fr (Vk S rfl rfl fun a S=>Dl (Fs (Fr (Vm S rfl rfl fun a S=>lv S (Ec Hz (S.tm rfl) (Ew Bn)) rfl fun a S=>lv S (Rm rfl) rfl ?_))));clear S;intro a S
 refine Dl ?_
 replace S:=S.k4 0 1 7 8 rfl
 obtain ⟨j1,hj1,h⟩:=Dw h
 refine Dk (fun a w'=>j1 = some r ∧ Sx w [] nov [] [] 19 a w') ?_ ?_
 ·refine wp_block (Fq (fun (ys1 : List An) a w'=>∃ i1 : Nat,(∃ dn,Ak = dn ++ ys1 ∧ dn.length = i1) ∧ Da Bb j1 ys1 i1 = some r ∧ Sx w [] nov [] [(0,Am),(1,.func (.func 67) #[] #[.pointer (some ⟨Ax,0,none⟩)]),(7,iV (Ak.length : Int)),(8,iV (i1 : Int))] 19 a w') List.length Ak ⟨0,⟨[],rfl,rfl⟩,h,S.nf [] rfl (subR rfl)⟩ ?_)
  clear S h;rintro ys1 a w1 ⟨i1,⟨dn,hd1,hi1⟩,h,S⟩
  cases ys1 with
  | nil =>
   rw [Da.eq_1] at h
   refine Fr (Vb S Dp rfl rfl rfl fun a S=>Ld ?_)
   replace S:=S.k5 0 1 7 8 9 rfl
   exact Tn (Fs (wp_cond_false ((S.tm rfl).trans (congrArg Value.bool (Hj hd1 hi1))) (wp_exit (De (De (Fk (Tn (⟨h,S.nf [] rfl trivial⟩))))))))
  | cons y1 ys1 =>
   rw [Da.eq_2] at h
   refine Fr (Vb S Dp rfl rfl rfl fun a S=>Ld ?_)
   replace S:=S.k5 0 1 7 8 9 rfl
   refine Tn (Fs (wp_cond_true ((S.tm rfl).trans (congrArg Value.bool (Fy hd1 hi1))) (wp_skip (Tn (Fs (wp_block (Fr (Vm S rfl rfl fun a S=>Va S rfl rfl ?_))))))));clear S;intro a S
   refine Dl (Fs (Fg ?_))
   iterate 3 (refine Vm S rfl rfl ?_;clear S;intro a S)
   obtain ⟨b1,o1,hm1,hr1⟩:=Ea (a:=a) (x:=.tmp 12) (y:=.tmp 13) (ty:=0) Hz Bn (Hd hd1 hi1) rfl (S.tm rfl) (S.tm rfl)
   refine lv S (hr1 _) rfl ?_;clear S;intro a S
   clear hr1
   refine lv S (He isAgg55 sizeOf55 (off:=o1) (o:=0) (part:=(An.enc y1)) rfl rfl (S.tm rfl) (hm1.at S.emb0)) rfl ?_;clear S;intro a S
   obtain ⟨r1,hr2,h⟩:=Em h
   refine Df S (fun _=>Nc (cap:=[.pointer (some ⟨Ax,0,none⟩)]) (S.tm rfl) (vs:=[.agg (An.enc y1).toArray]) ⟨(S.tm rfl),trivial⟩ call67) (Ru _ y1 Ax Bq Bb (Bz.mono (S.le_arg Gm)) ((S.le_arg Gm) _ _ Bo) _ hr2) rfl ?_;clear S;intro v1 a w3 hv1 hk1 hn1 S
   subst hv1
   refine Dl (Fc h (S.tm rfl) (fun hb1 h=>?_) (fun hb1 h=>?_))
   ·refine Fr (Vm S rfl rfl fun a S=>Va S rfl rfl fun a S=>Ld ?_)
    replace S:=S.k1 4 rfl
    refine Tn (wp_ret (Fb (Cp (Cp (Fb (Cp (Cp ?_)))))))
    obtain rfl:=Option.some.inj h
    exact Ee S results113 rfl rfl
   ·exact wp_skip (Hf (Tn (Fg (Vq S Eh rfl rfl rfl fun a S=>Vm S rfl rfl fun a S=>Dl (⟨ys1,⟨i1 + 1,⟨_,(hd1).trans (List.append_cons _ _ _),by simp [hi1]⟩,h,S.nf [] rfl ⟨rfl,rfl,rfl,(congrArg (fun z=>some (Value.int .i64 z)) (Fz hd1 hi1 (Il Bn))),trivial⟩⟩,Nat.lt_succ_self _⟩)))))
 clear S h;rintro a w2 ⟨h,S⟩;rw [hj1] at h;clear hj1 j1
 refine Tn (Fr (Vk S rfl rfl fun a S=>Dl (wp_ret ?_)))
 obtain rfl:=Option.some.inj h
 exact Ee S results113 rfl rfl
theorem Kr (w : World) (Am : Value) (Ak : List An) (Bn : Slc (view w []) 5 Am (Ak.map An.enc)) (Ax : Nat) (Bq : Value) (Bb : List An) (Bz : Slc (view w []) 5 Bq (Bb.map An.enc)) (Bo : (view w []) Ax = some (.cells [Bq].toArray 28 (0,0))) (r : Bool) (h : Fx Ak Bb = some r) :
    Calls prog 66 [Am,.func (.func 67) #[] #[.pointer (some ⟨Ax,0,none⟩)]].toArray w (Ret w [] fun _ v _=>v = bV r):=by
 refine Fe func66 rfl ntmps66 rfl fun a S=>?_
 unfold Fx at h
 replace S:=S.k2 0 1 rfl
 refine Fr (Vk S rfl rfl fun a S=>Dz (Vm S rfl rfl fun a S=>Vm S rfl rfl ?_));clear S;intro a S
 obtain ⟨r1,hr1,h⟩:=Em h
 refine Df S (fun _=>Ck (vs:=[Am,.func (.func 67) #[] #[.pointer (some ⟨Ax,0,none⟩)]]) ⟨(S.tm rfl),(S.tm rfl),trivial⟩ call113) (Lf _ Am Ak (Bn.mono (S.le_arg Gm)) Ax Bq Bb (Bz.mono (S.le_arg Gm)) ((S.le_arg Gm) _ _ Bo) _ hr1) rfl ?_;clear S;intro v1 a w1 hv1 hk1 hn1 S
 subst hv1
 refine Vq S Ms rfl rfl rfl fun a S=>Va S rfl rfl fun a S=>Dl (wp_ret ?_)
 obtain rfl:=Option.some.inj h
 exact Ee S results66 rfl rfl
set_option maxRecDepth 20000 in
theorem To (w : World) (Z : Value) (Aa : List An) (Ab : Slc (view w []) 5 Z (Aa.map An.enc)) (r : Int) (h : Nq Aa = some r) :
    Calls prog 46 [Z].toArray w (Ret w [] fun _ v _=>v = iV r):=by
 refine Fe func46 rfl ntmps46 rfl fun a S=>?_
 unfold Nq at h
 replace S:=S.k1 0 rfl
 refine Fr (Vk S rfl rfl fun a S=>Dz (Xw (κ:=Cv) (ν:=Bool) S rfl (fun x=>Value.agg (Cv.enc x).toArray) Value.bool ?_));clear S;intro a w1 b1 hz1 hk1 S
 refine Va S rfl rfl fun a S=>Dl (Fs (Fr (Vm S rfl rfl fun a S=>lv S (Ec Hz (S.tm rfl) (Ew Ab)) rfl fun a S=>lv S (Rm rfl) rfl fun a S=>Dl ?_)))
 replace S:=(S.nl [.map b1 (Ix (fun x=>Value.agg (Cv.enc x).toArray) Value.bool ([] : List (Cv × Bool))) ([] : List (Cv × Bool)).length] [true] rfl).k5 0 3 17 18 19 rfl
 obtain ⟨j1,hj1,h⟩:=Dw h
 refine Dk (fun a w'=>∃ x1 : List (Cv × Bool),j1 x1 = some r ∧ Sx w [] nov [.map b1 (Ix (fun x=>Value.agg (Cv.enc x).toArray) Value.bool x1) x1.length] [(0,Z)] 122 a w') ?_ ?_
 ·refine wp_block (Fq (fun (ys1 : List An) a w'=>∃ i1 : Nat,∃ x1 : List (Cv × Bool),(∃ dn,Aa = dn ++ ys1 ∧ dn.length = i1) ∧ Gb j1 ys1 i1 x1 = some r ∧ Sx w [] nov [.map b1 (Ix (fun x=>Value.agg (Cv.enc x).toArray) Value.bool x1) x1.length] [(0,Z),(3,.map (some b1)),(17,Z),(18,iV (Aa.length : Int)),(19,iV (i1 : Int))] 122 a w') List.length Aa ⟨0,([] : List (Cv × Bool)),⟨[],rfl,rfl⟩,h,S.nf [true] rfl (subR rfl)⟩ ?_)
  clear S h;rintro ys1 a w2 ⟨i1,x1,⟨dn,hd1,hi1⟩,h,S⟩
  cases ys1 with
  | nil =>
   rw [Gb.eq_1] at h
   refine Fr (Vb S Dp rfl rfl rfl fun a S=>Ld ?_)
   replace S:=S.k6 0 3 17 18 19 20 rfl
   exact Tn (Fs (wp_cond_false ((S.tm rfl).trans (congrArg Value.bool (Hj hd1 hi1))) (wp_exit (De (De (Fk (Tn (⟨x1,h,S.nf [true] rfl ⟨rfl,trivial⟩⟩))))))))
  | cons y1 ys1 =>
   rw [Gb.eq_2] at h
   refine Fr (Vb S Dp rfl rfl rfl fun a S=>Ld ?_)
   replace S:=S.k6 0 3 17 18 19 20 rfl
   refine Tn (Fs (wp_cond_true ((S.tm rfl).trans (congrArg Value.bool (Fy hd1 hi1))) (wp_skip (Tn (Fs (wp_block (Fs (Fg ?_))))))))
   obtain ⟨b2,o1,hm1,hr1⟩:=Ea (a:=a) (x:=.tmp 17) (y:=.tmp 19) (ty:=0) Hz Ab (Hd hd1 hi1) rfl (S.tm rfl) (S.tm rfl)
   refine lv S (hr1 _) rfl ?_;clear S;intro a S
   clear hr1
   refine lv S (He isAgg55 sizeOf55 (off:=o1) (o:=0) (part:=(An.enc y1)) rfl rfl (S.tm rfl) (hm1.at S.emb0)) rfl fun a S=>Iq S zeroValue55 (cs:=[sV Co,sV Co,sV Co,iV 0,bV false]) rfl rfl ?_;clear S;intro a w4 b3 hz2 hk2 S
   refine Hy S (S.tm rfl) (S.tm rfl) (i:=0) (off:=0) rfl sizeOf55 (vs:=(An.enc y1)) rfl rfl rfl rfl ?_;clear S;intro w5 hk3 S
   refine Dl (Fs (Fr (Vm S rfl rfl fun a S=>Vf Kn S rfl rfl fun a S=>Vl isAgg9 0 S rfl rfl rfl rfl fun a S=>Vf Mm S rfl rfl fun a S=>Vl isAgg9 0 S rfl rfl rfl rfl fun a S=>lv S (Nu EF (pv:=[(0,sV y1.Race),(1,sV y1.Who)]) ⟨rfl,(S.tm rfl),rfl,(S.tm rfl),trivial⟩ (cs:=[sV y1.Race,sV y1.Who]) (by kernel_rfl)) rfl ?_)));clear S;intro a S
   refine lv S (Ql (kv:=(fun x=>Value.agg (Cv.enc x).toArray)) (vv:=Value.bool) (m:=x1) (key:=(Cv.mk y1.Race y1.Who)) (z:=false) (S.map_at (i:=1) rfl) underlying99 Zs zeroValue4 (S.tm rfl) (S.tm rfl)) rfl fun a S=>Ld ?_
   replace S:=(S.nl [.blk b3 (An.enc y1) 55,.map b1 (Ix (fun x=>Value.agg (Cv.enc x).toArray) Value.bool x1) x1.length] [true,true] rfl).k7 0 3 5 17 18 19 29 rfl
   refine Tn (Fc h (S.tm rfl) (fun hb1 h=>?_) (fun hb1 h=>?_))
   ·refine Fr (Vk S rfl rfl fun a S=>Dl (wp_ret (Cp (Fb (Cp (Cp (Fb ?_)))))))
    refine Cp (Cp ?_)
    obtain rfl:=Option.some.inj h
    exact Ee S results46 rfl rfl
   ·refine wp_skip (Tn (Fg (Vm S rfl rfl fun a S=>Vf Kn S rfl rfl fun a S=>Vl isAgg9 0 S rfl rfl rfl rfl fun a S=>Vf Mm S rfl rfl fun a S=>Vl isAgg9 0 S rfl rfl rfl rfl fun a S=>lv S (Nu EF (pv:=[(0,sV y1.Race),(1,sV y1.Who)]) ⟨rfl,(S.tm rfl),rfl,(S.tm rfl),trivial⟩ (cs:=[sV y1.Race,sV y1.Who]) (by kernel_rfl)) rfl fun a S=>Vp (kv:=(fun x=>Value.agg (Cv.enc x).toArray)) (vv:=Value.bool) (m:=x1) (key:=(Cv.mk y1.Race y1.Who)) (val:=true) S (i:=1) rfl underlying99 Zs (S.tm rfl) (S.tm rfl) rfl ?_)));clear S;intro w6 hk4 S
    exact Ld (Hf (Tn (Fg (Vq S Eh rfl rfl rfl fun a S=>Vm S rfl rfl fun a S=>Dl (⟨ys1,⟨i1 + 1,(Mo x1 (Cv.mk y1.Race y1.Who) true),⟨_,(hd1).trans (List.append_cons _ _ _),by simp [hi1]⟩,h,S.nf [false,true] rfl ⟨rfl,rfl,rfl,rfl,(congrArg (fun z=>some (Value.int .i64 z)) (Fz hd1 hi1 (Il Ab))),trivial⟩⟩,Nat.lt_succ_self _⟩)))))
 clear S h;rintro a w3 ⟨x1,h,S⟩;rw [hj1] at h;clear hj1 j1
 refine Tn (Fr (Vm S rfl rfl ?_));clear S;intro a S
 obtain ⟨r1,hr2,h⟩:=Em h
 have hz3:=S.keep.size
 refine Df S (fun _=>Ck (vs:=[Z]) ⟨(S.tm rfl),trivial⟩ call65) (Wd _ (join (view w []) nov) (Yy (S.le_arg Gm) (S.le_new Gm)) Z Aa (Ab.mono (le_join_left _ _)) _ hr2) rfl ?_;clear S;intro v1 a w7 hv1 hk5 hn1 S
 obtain ⟨φ1,hl1,hm2,S⟩:=S.see' hn1 hz3
 obtain ⟨rs1,ho2,hr3⟩:=hv1
 have hs1:=ho2.mono (Zq hl1 hm2)
 have hr4:=Yz (Zq hl1 hm2) hr3
 refine Va S rfl rfl fun a S=>Dl (Fs (Fr (Vm S rfl rfl fun a S=>lv S (Ec Tm (S.tm rfl) (Wu hs1 hr4)) rfl fun a S=>lv S (Rm rfl) rfl fun a S=>Dl ?_)))
 replace S:=S.n0.k4 6 39 40 41 rfl
 obtain ⟨j2,hj2,h⟩:=Dw h
 refine Dk (fun a w'=>j2 = some r ∧ Sx w [] φ1 [] [(6,v1)] 122 a w') ?_ ?_
 ·refine wp_block (Fq (fun (ys2 : List (List An)) a w'=>∃ i2 : Nat,(∃ dn,r1 = dn ++ ys2 ∧ dn.length = i2) ∧ Gq j2 ys2 i2 = some r ∧ Sx w [] φ1 [] [(6,v1),(39,v1),(40,iV (r1.length : Int)),(41,iV (i2 : Int))] 122 a w') List.length r1 ⟨0,⟨[],rfl,rfl⟩,h,S.nf [] rfl (subR rfl)⟩ ?_)
  clear S h;rintro ys2 a w8 ⟨i2,⟨dn,hd2,hi2⟩,h,S⟩
  cases ys2 with
  | nil =>
   rw [Gq.eq_1] at h
   refine Fr (Vb S Dp rfl rfl rfl fun a S=>Ld ?_)
   replace S:=S.k5 6 39 40 41 42 rfl
   exact Tn (Fs (wp_cond_false ((S.tm rfl).trans (congrArg Value.bool (Hj hd2 hi2))) (wp_exit (De (De (Fk (Tn (⟨h,S.nf [] rfl ⟨rfl,trivial⟩⟩))))))))
  | cons y2 ys2 =>
   rw [Gq.eq_2] at h
   refine Fr (Vb S Dp rfl rfl rfl fun a S=>Ld ?_)
   replace S:=S.k5 6 39 40 41 42 rfl
   refine Tn (Fs (wp_cond_true ((S.tm rfl).trans (congrArg Value.bool (Fy hd2 hi2))) (wp_skip (Tn (Fs (wp_block (Fs (Fg ?_))))))))
   obtain ⟨r2,hg1,hl2⟩:=Ko.at hr4 (Hd hd2 hi2)
   have hs2:=hl2
   obtain ⟨b4,o2,hm3,hr5⟩:=Ea (a:=a) (x:=.tmp 39) (y:=.tmp 41) (ty:=0) Tm hs1 hg1 rfl (S.tm rfl) (S.tm rfl)
   refine lv S (hr5 _) rfl ?_;clear S;intro a S
   clear hr5
   refine lv S (Gy isAgg28 (off:=o2) (o:=0) (S.tm rfl) (hm3.at (Oz S.emb0 S.emb)) rfl) rfl fun a S=>Iq S zeroValue28 (cs:=[.slice none 0 0]) rfl rfl ?_;clear S;intro a w10 b5 hz4 hk6 S
   refine Hy S (S.tm rfl) (S.tm rfl) (i:=0) (off:=0) rfl sizeOf28 (vs:=[r2.val]) (Mv.cells (Ew hs2)) rfl rfl (all1 (Mv.one (Ew hs2)) rfl) ?_;clear S;intro w11 hk7 S
   refine Dz (Vl isAgg28 0 S rfl rfl rfl rfl fun a S=>lv S (Sa (us:=#[]) (xs:=[].toArray) (ys:=[.tmp 8].toArray) (by simp) (evA ⟨(S.tm rfl),trivial⟩ (vs:=[.pointer (some ⟨b5,0,none⟩)]))) rfl ?_);clear S;intro a S
   obtain ⟨r3,hr6,h⟩:=Em h
   refine Df S (fun _=>Ck (vs:=[r2.val,.func (.func 67) #[] #[.pointer (some ⟨b5,0,none⟩)]]) ⟨(S.tm rfl),(S.tm rfl),trivial⟩ call66) (Kr _ r2.val y2 (hs2.mono (Yy (S.le_arg Gm) (S.le_new Gm))) b5 r2.val y2 (hs2.mono (Yy (S.le_arg Gm) (S.le_new Gm))) (S.blk_view (i:=0) rfl ((Hg (e':=.blk b5 [r2.val] 28)) _ rfl)) _ hr6) rfl ?_;clear S;intro v2 a w12 hv2 hk8 hn2 S
   subst hv2
   refine Dl (Fc h (S.tm rfl) (fun hb2 h=>?_) (fun hb2 h=>?_))
   ·refine Fr (Vk S rfl rfl fun a S=>Dl (wp_ret (Fb (Cp (Cp (Fb (Cp ?_)))))))
    refine Cp ?_
    obtain rfl:=Option.some.inj h
    exact Ee S results46 rfl rfl
   ·exact wp_skip (Hf (Tn (Fg (Vq S Eh rfl rfl rfl fun a S=>Vm S rfl rfl fun a S=>Dl (⟨ys2,⟨i2 + 1,⟨_,(hd2).trans (List.append_cons _ _ _),by simp [hi2]⟩,h,S.nf [false] rfl ⟨rfl,rfl,rfl,(congrArg (fun z=>some (Value.int .i64 z)) (Fz hd2 hi2 (Wv hs1 hr4))),trivial⟩⟩,Nat.lt_succ_self _⟩)))))
 clear S h;rintro a w9 ⟨h,S⟩;rw [hj2] at h;clear hj2 j2
 refine Tn (Fs (Fr (Vm S rfl rfl fun a S=>lv S (Ec Tm (S.tm rfl) (Wu hs1 hr4)) rfl fun a S=>lv S (Rm rfl) rfl fun a S=>Dl ?_)))
 replace S:=S.k4 6 49 50 51 rfl
 obtain ⟨j3,hj3,h⟩:=Dw h
 refine Dk (fun a w'=>j3 = some r ∧ Sx w [] φ1 [] [(6,v1)] 122 a w') ?_ ?_
 ·refine wp_block (Fq (fun (ys3 : List (List An)) a w'=>∃ i3 : Nat,(∃ dn,r1 = dn ++ ys3 ∧ dn.length = i3) ∧ Gc j3 ys3 i3 = some r ∧ Sx w [] φ1 [] [(6,v1),(49,v1),(50,iV (r1.length : Int)),(51,iV (i3 : Int))] 122 a w') List.length r1 ⟨0,⟨[],rfl,rfl⟩,h,S.nf [] rfl (subR rfl)⟩ ?_)
  clear S h;rintro ys3 a w13 ⟨i3,⟨dn,hd3,hi3⟩,h,S⟩
  cases ys3 with
  | nil =>
   rw [Gc.eq_1] at h
   refine Fr (Vb S Dp rfl rfl rfl fun a S=>Ld ?_)
   replace S:=S.k5 6 49 50 51 52 rfl
   exact Tn (Fs (wp_cond_false ((S.tm rfl).trans (congrArg Value.bool (Hj hd3 hi3))) (wp_exit (De (De (Fk (Tn (⟨h,S.nf [] rfl ⟨rfl,trivial⟩⟩))))))))
  | cons y3 ys3 =>
   rw [Gc.eq_2] at h
   refine Fr (Vb S Dp rfl rfl rfl fun a S=>Ld ?_)
   replace S:=S.k5 6 49 50 51 52 rfl
   refine Tn (Fs (wp_cond_true ((S.tm rfl).trans (congrArg Value.bool (Fy hd3 hi3))) (wp_skip (Tn (Fs (wp_block (Fs (Fg ?_))))))))
   obtain ⟨r4,hg2,hl3⟩:=Ko.at hr4 (Hd hd3 hi3)
   have hs3:=hl3
   obtain ⟨b6,o3,hm4,hr7⟩:=Ea (a:=a) (x:=.tmp 49) (y:=.tmp 51) (ty:=0) Tm hs1 hg2 rfl (S.tm rfl) (S.tm rfl)
   refine lv S (hr7 _) rfl ?_;clear S;intro a S
   clear hr7
   refine lv S (Gy isAgg28 (off:=o3) (o:=0) (S.tm rfl) (hm4.at (Oz S.emb0 S.emb)) rfl) rfl fun a S=>Va S rfl rfl fun a S=>Dz (Vm S rfl rfl fun a S=>lv S (Ec Hz (S.tm rfl) (Ew hs3)) rfl fun a S=>lv S (Rm rfl) rfl fun a S=>Dl ?_)
   replace S:=S.k8 6 10 49 50 51 55 56 57 rfl
   obtain ⟨j4,hj4,h⟩:=Dw h
   refine Dk (fun a w'=>j4 = some r ∧ Sx w [] φ1 [] [(6,v1),(49,v1),(50,iV (r1.length : Int)),(51,iV (i3 : Int))] 122 a w') ?_ ?_
   ·refine wp_block (Fq (fun (ys4 : List An) a w'=>∃ i4 : Nat,(∃ dn,y3 = dn ++ ys4 ∧ dn.length = i4) ∧ Gt y3 j4 ys4 i4 = some r ∧ Sx w [] φ1 [] [(6,v1),(10,r4.val),(49,v1),(50,iV (r1.length : Int)),(51,iV (i3 : Int)),(55,r4.val),(56,iV (y3.length : Int)),(57,iV (i4 : Int))] 122 a w') List.length y3 ⟨0,⟨[],rfl,rfl⟩,h,S.nf [] rfl (subR rfl)⟩ ?_)
    clear S h;rintro ys4 a w15 ⟨i4,⟨dn,hd4,hi4⟩,h,S⟩
    cases ys4 with
    | nil =>
     rw [Gt.eq_1] at h
     refine Fr (Vb S Dp rfl rfl rfl fun a S=>Ld ?_)
     replace S:=S.k9 6 10 49 50 51 55 56 57 58 rfl
     exact Tn (Fs (wp_cond_false ((S.tm rfl).trans (congrArg Value.bool (Hj hd4 hi4))) (wp_exit (De (De (Fk (Tn (⟨h,S.nf [] rfl (subR rfl)⟩))))))))
    | cons y4 ys4 =>
     rw [Gt.eq_2] at h
     refine Fr (Vb S Dp rfl rfl rfl fun a S=>Ld ?_)
     replace S:=S.k9 6 10 49 50 51 55 56 57 58 rfl
     refine Tn (Fs (wp_cond_true ((S.tm rfl).trans (congrArg Value.bool (Fy hd4 hi4))) (wp_skip (Tn (Fs (wp_block (Fr (Vm S rfl rfl ?_))))))));clear S;intro a S
     obtain ⟨b7,o4,hm5,hr8⟩:=Ea (a:=a) (x:=.tmp 55) (y:=.tmp 57) (ty:=0) Hz hs3 (Hd hd4 hi4) rfl (S.tm rfl) (S.tm rfl)
     refine lv S (hr8 _) rfl ?_;clear S;intro a S
     clear hr8
     refine lv S (He isAgg55 sizeOf55 (off:=o4) (o:=0) (part:=(An.enc y4)) rfl rfl (S.tm rfl) (hm5.at (Oz S.emb0 S.emb))) rfl fun a S=>Iq S zeroValue55 (cs:=[sV Co,sV Co,sV Co,iV 0,bV false]) rfl rfl ?_;clear S;intro a w17 b8 hz5 hk9 S
     refine Va S rfl rfl fun a S=>Hy S (S.tm rfl) (S.tm rfl) (i:=0) (off:=0) rfl sizeOf55 (vs:=(An.enc y4)) rfl rfl rfl rfl ?_;clear S;intro w18 hk10 S
     refine Dl (Fs (Gf [] ([]) Tryz.mixed S rfl (by kernel_rfl) ?_));clear S;intro w19 hk11 hsel S
     refine Ji [0,1,2,3,4,5,6,7,8,9,10,11,12,13,14,15,16,17,18,19,20,21,22,23,24] hsel (by kernel_rfl) rfl ?_
     clear hsel
     refine Ei S rfl (Gp Hh (S.tm rfl)) rfl fun a S=>Ei S rfl (Od isAgg3 (S.tm rfl) (S.cell (i:=0) rfl rfl)) rfl fun a S=>Ei S rfl (Iv (S.tm rfl) rfl) rfl fun a S=>Ei S rfl (Rm (S.tm rfl)) rfl fun a S=>Uu 6 (fun a w'=>Keep [] w19 w' ∧ Sx w [] φ1 [.blk b8 (An.enc y4) 55] [(6,v1),(10,r4.val),(11,iV (i4 : Int)),(12,.pointer (some ⟨b8,0,none⟩)),(49,v1),(50,iV (r1.length : Int)),(51,iV (i3 : Int)),(55,r4.val),(56,iV (y3.length : Int)),(57,iV (i4 : Int)),(71,bV ((decide (0 < y4.Rank)) && (!decide (y4.Rank = (W ((i4 : Int) + 1))))))] 122 a w') ?_ ?_
     ·rcases Bool.eq_false_or_eq_true (decide (0 < y4.Rank)) with hb3 | hb3
      ·refine Fo S rfl rfl rfl rfl hb3 (Hm S (Gp Hh (S.tm rfl)) rfl fun a S=>Fo S rfl rfl rfl rfl hb3 (Hm S (Od isAgg3 (S.tm rfl) (S.cell (i:=0) rfl rfl)) rfl fun a S=>Fo S rfl rfl rfl rfl hb3 (Hm S (Rm (S.tm rfl)) rfl fun a S=>Fo S rfl rfl rfl rfl hb3 (Hm S (Eh (S.tm rfl) rfl) rfl fun a S=>Fo S rfl rfl rfl rfl hb3 (Hm S (Ot (S.tm rfl) (S.tm rfl)) rfl fun a S=>Ei S rfl (Hr hb3 (S.tm rfl) (S.tm rfl)) rfl ?_)))));clear S;intro a S
       exact Ic (⟨Keep.refl _ _,S.nf [true] rfl (subR rfl)⟩)
      ·iterate 5 (refine Pf S rfl rfl rfl rfl (Jh hb3) rfl ?_ rfl;clear S;intro a S)
       exact Ei S rfl (Hs (!decide (y4.Rank = (W ((i4 : Int) + 1)))) hb3 (S.tm rfl) rfl) rfl fun a S=>Ic (⟨Keep.refl _ _,S.nf [true] rfl (subR rfl)⟩)
     clear S;rintro a w20 ⟨hk12,S⟩
     refine Ei S rfl (Rm (S.tm rfl)) rfl ?_;clear S;intro a S
     obtain ⟨j5,hj5,h⟩:=Dw h
     refine Uu 14 (fun a w'=>∃ c1,j5 c1 = some r ∧ Keep [] w20 w' ∧ Sx w [] φ1 [.blk b8 (An.enc y4) 55] [(6,v1),(10,r4.val),(49,v1),(50,iV (r1.length : Int)),(51,iV (i3 : Int)),(55,r4.val),(56,iV (y3.length : Int)),(57,iV (i4 : Int)),(86,bV c1)] 122 a w') ?_ ?_
     ·rcases Bool.eq_false_or_eq_true ((decide (0 < y4.Rank)) && (!decide (y4.Rank = (W ((i4 : Int) + 1))))) with hb4 | hb4
      ·replace h:=Oo h hb4
       refine Fo S rfl rfl rfl rfl hb4 (Hm S (Rm (S.tm rfl)) rfl fun a S=>Fo S rfl rfl rfl rfl hb4 (Hm S (Kq (S.tm rfl) rfl) rfl fun a S=>Fo S rfl rfl rfl rfl hb4 (Hm S (Rm (S.tm rfl)) rfl ?_)));clear S;intro a S
       obtain ⟨j6,hj6,h⟩:=Dw h
       refine Uu 10 (fun a w'=>∃ c2,j6 c2 = some r ∧ Keep [] w20 w' ∧ Sx w [] φ1 [.blk b8 (An.enc y4) 55] [(6,v1),(10,r4.val),(49,v1),(50,iV (r1.length : Int)),(51,iV (i3 : Int)),(55,r4.val),(56,iV (y3.length : Int)),(57,iV (i4 : Int)),(72,bV ((decide (0 < y4.Rank)) && (!decide (y4.Rank = (W ((i4 : Int) + 1)))))),(73,iV (i4 : Int)),(74,bV (decide ((i4 : Int) = 0))),(75,bV (decide ((i4 : Int) = 0))),(85,bV c2)] 122 a w') ?_ ?_
       ·rcases Bool.eq_false_or_eq_true (decide ((i4 : Int) = 0)) with hb5 | hb5
        ·replace h:=Oo h hb5
         iterate 9 (refine Pf S rfl rfl rfl rfl (Nz hb5) rfl ?_ rfl;clear S;intro a S)
         exact Fo S rfl rfl rfl rfl hb4 (Hm S (Mj true hb5 (S.tm rfl) rfl) rfl fun a S=>Ic (⟨_,h,Keep.refl _ _,S.nf [true] rfl (subR rfl)⟩))
        ·replace h:=Oq h hb5
         refine Fo S rfl rfl rfl rfl hb5 (Hm S (Gp Hh (S.tm rfl)) rfl fun a S=>Fo S rfl rfl rfl rfl hb5 (Hm S (Od isAgg3 (S.tm rfl) (S.cell (i:=0) rfl rfl)) rfl fun a S=>Fo S rfl rfl rfl rfl hb5 (Hm S (Rm (S.tm rfl)) rfl fun a S=>Fo S rfl rfl rfl rfl hb5 (Hm S (Rm (S.tm rfl)) rfl fun a S=>Fo S rfl rfl rfl rfl hb5 (Hm S (It (S.tm rfl) rfl) rfl fun a S=>Fo S rfl rfl rfl rfl hb5 ?_)))))
         obtain ⟨hc1,h⟩:=Gn h
         obtain ⟨b9,o5,hm6,hr9⟩:=Ea (a:=a) (x:=.tmp 78) (y:=.tmp 80) (ty:=0) Hz hs3 (Cn hc1).1 (Cn hc1).2 (S.tm rfl) (S.tm rfl)
         refine Hm S (hr9 _) rfl ?_;clear S;intro a S
         clear hr9
         exact Fo S rfl rfl rfl rfl hb5 (Hm S (Gp Hh (S.tm rfl)) rfl fun a S=>Fo S rfl rfl rfl rfl hb5 (Hm S (Gy isAgg3 (off:=o5) (o:=3) (S.tm rfl) (hm6.at (Oz S.emb0 S.emb)) rfl) rfl fun a S=>Fo S rfl rfl rfl rfl hb5 (Hm S (Ot (S.tm rfl) (S.tm rfl)) rfl fun a S=>Fo S rfl rfl rfl rfl hb4 (Hm S (Mk hb5 (S.tm rfl) (S.tm rfl)) rfl fun a S=>Ic (⟨_,h,Keep.refl _ _,S.nf [true] rfl (subR rfl)⟩)))))
       clear S h;rintro a w22 ⟨c2,h,hk13,S⟩;rw [hj6] at h;clear hj6 j6
       exact Ei S rfl (Hr hb4 (S.tm rfl) (S.tm rfl)) rfl fun a S=>Ic (⟨_,h,hk13,S.nf [true] rfl (subR rfl)⟩)
      ·replace h:=Oq h hb4
       iterate 3 (refine Pf S rfl rfl rfl rfl (Jh hb4) rfl ?_ rfl;clear S;intro a S)
       iterate 9 (refine s_skipU S rfl rfl rfl rfl rfl ?_;clear S;intro a S)
       exact Pf S rfl rfl rfl rfl (Jh hb4) rfl (fun a S=>Ei S rfl (Hs true hb4 (S.tm rfl) rfl) rfl fun a S=>Ic (⟨_,h,Keep.refl _ _,S.nf [true] rfl (subR rfl)⟩)) rfl
     clear S h;rintro a w21 ⟨c1,h,hk14,S⟩;rw [hj5] at h;clear hj5 j5
     refine Ic ?_
     replace S:=S.n0.k9 6 10 49 50 51 55 56 57 86 rfl
     refine Tn (Fc h (S.tm rfl) (fun hb6 h=>?_) (fun hb6 h=>?_))
     ·refine Fr (Vk S rfl rfl fun a S=>Dl (wp_ret (Fb (Cp (Cp (Fb (Cp ?_)))))))
      refine Fb (Cp (Cp (Fb (Cp (Cp ?_)))))
      obtain rfl:=Option.some.inj h
      exact Ee S results46 rfl rfl
     ·exact wp_skip (Hf (Tn (Fg (Vq S Eh rfl rfl rfl fun a S=>Vm S rfl rfl fun a S=>Dl (⟨ys4,⟨i4 + 1,⟨_,(hd4).trans (List.append_cons _ _ _),by simp [hi4]⟩,h,S.nf [] rfl ⟨rfl,rfl,rfl,rfl,rfl,rfl,rfl,(congrArg (fun z=>some (Value.int .i64 z)) (Fz hd4 hi4 (Il hs3))),trivial⟩⟩,Nat.lt_succ_self _⟩)))))
   clear S h;rintro a w16 ⟨h,S⟩;rw [hj4] at h;clear hj4 j4
   exact Hf (Tn (Fg (Vq S Eh rfl rfl rfl fun a S=>Vm S rfl rfl fun a S=>Dl (⟨ys3,⟨i3 + 1,⟨_,(hd3).trans (List.append_cons _ _ _),by simp [hi3]⟩,h,S.nf [] rfl ⟨rfl,rfl,rfl,(congrArg (fun z=>some (Value.int .i64 z)) (Fz hd3 hi3 (Wv hs1 hr4))),trivial⟩⟩,Nat.lt_succ_self _⟩))))
 clear S h;rintro a w14 ⟨h,S⟩;rw [hj3] at h;clear hj3 j3
 refine Tn (Fs (Fr (Vm S rfl rfl fun a S=>lv S (Ec Tm (S.tm rfl) (Wu hs1 hr4)) rfl fun a S=>lv S (Rm rfl) rfl fun a S=>Dl ?_)))
 replace S:=S.k3 89 90 91 rfl
 obtain ⟨j7,hj7,h⟩:=Dw h
 refine Dk (fun a w'=>j7 = some r ∧ Sx w [] φ1 [] [] 122 a w') ?_ ?_
 ·refine wp_block (Fq (fun (ys5 : List (List An)) a w'=>∃ i5 : Nat,(∃ dn,r1 = dn ++ ys5 ∧ dn.length = i5) ∧ Gd j7 ys5 i5 = some r ∧ Sx w [] φ1 [] [(89,v1),(90,iV (r1.length : Int)),(91,iV (i5 : Int))] 122 a w') List.length r1 ⟨0,⟨[],rfl,rfl⟩,h,S.nf [] rfl (subR rfl)⟩ ?_)
  clear S h;rintro ys5 a w23 ⟨i5,⟨dn,hd5,hi5⟩,h,S⟩
  cases ys5 with
  | nil =>
   rw [Gd.eq_1] at h
   refine Fr (Vb S Dp rfl rfl rfl fun a S=>Ld ?_)
   replace S:=S.k4 89 90 91 92 rfl
   exact Tn (Fs (wp_cond_false ((S.tm rfl).trans (congrArg Value.bool (Hj hd5 hi5))) (wp_exit (De (De (Fk (Tn (⟨h,S.nf [] rfl trivial⟩))))))))
  | cons y5 ys5 =>
   rw [Gd.eq_2] at h
   refine Fr (Vb S Dp rfl rfl rfl fun a S=>Ld ?_)
   replace S:=S.k4 89 90 91 92 rfl
   refine Tn (Fs (wp_cond_true ((S.tm rfl).trans (congrArg Value.bool (Fy hd5 hi5))) (wp_skip (Tn (Fs (wp_block (Fs (Fg ?_))))))))
   obtain ⟨r5,hg3,hl4⟩:=Ko.at hr4 (Hd hd5 hi5)
   have hs4:=hl4
   obtain ⟨b10,o6,hm7,hr10⟩:=Ea (a:=a) (x:=.tmp 89) (y:=.tmp 91) (ty:=0) Tm hs1 hg3 rfl (S.tm rfl) (S.tm rfl)
   refine lv S (hr10 _) rfl ?_;clear S;intro a S
   clear hr10
   refine lv S (Gy isAgg28 (off:=o6) (o:=0) (S.tm rfl) (hm7.at (Oz S.emb0 S.emb)) rfl) rfl fun a S=>Va S rfl rfl fun a S=>Dz (Vk S rfl rfl fun a S=>Dl ?_)
   replace S:=S.k5 14 15 89 90 91 rfl
   obtain ⟨j8,hj8,h⟩:=Dw h
   refine Dk (fun a w'=>j8 = some r ∧ Sx w [] φ1 [] [(89,v1),(90,iV (r1.length : Int)),(91,iV (i5 : Int))] 122 a w') ?_ ?_
   ·refine wp_block (Fq (fun (m1 : Nat) a w'=>∃ x2 : Int,Er y5 j8 m1 x2 = some r ∧ Sx w [] φ1 [] [(14,r5.val),(15,iV x2),(89,v1),(90,iV (r1.length : Int)),(91,iV (i5 : Int))] 122 a w') id (((y5.length : Int) - 10).toNat + 2) ⟨10,h,S.nf [] rfl (subR rfl)⟩ ?_)
    clear S h;rintro m1 a w25 ⟨x2,h,S⟩
    cases m1 with
    | zero=>rw [Er.eq_1] at h;cases h
    | succ m1 =>
     rw [Er.eq_2] at h
     refine Fs (Fr (Vm S rfl rfl fun a S=>Vm S rfl rfl fun a S=>lv S (Ec Hz (S.tm rfl) (Ew hs4)) rfl fun a S=>Vb S Dp rfl rfl rfl fun a S=>Dl (Fc h (S.tm rfl) (fun hb7 h=>?_) (fun hb7 h=>?_))))
     ·refine wp_skip (Tn (Fs (wp_block (Fs (Gf [] ([]) Tryz.mixed S rfl (by kernel_rfl) ?_)))));clear S;intro w27 hk15 hsel S
      refine Ji [0,1,2,3,4,5,6,7,8,9,10,11,12,13,14,15,16,17,18,19] hsel (by kernel_rfl) rfl ?_
      clear hsel
      refine Ei S rfl (Rm (S.tm rfl)) rfl fun a S=>Ei S rfl (Rm (S.tm rfl)) rfl ?_;clear S;intro a S
      obtain ⟨hc2,h⟩:=Gn h
      obtain ⟨b11,o7,hm8,hr11⟩:=Ea (a:=a) (x:=.tmp 101) (y:=.tmp 102) (ty:=0) Hz hs4 (Cn hc2).1 (Cn hc2).2 (S.tm rfl) (S.tm rfl)
      refine Ei S rfl (hr11 _) rfl ?_;clear S;intro a S
      clear hr11
      refine Ei S rfl (Gp Hh (S.tm rfl)) rfl fun a S=>Ei S rfl (Gy isAgg3 (off:=o7) (o:=3) (S.tm rfl) (hm8.at (Oz S.emb0 S.emb)) rfl) rfl fun a S=>Ei S rfl (Iv (S.tm rfl) rfl) rfl fun a S=>Ei S rfl (Rm (S.tm rfl)) rfl ?_;clear S;intro a S
      obtain ⟨j9,hj9,h⟩:=Dw h
      refine Uu 13 (fun a w'=>∃ c3,j9 c3 = some r ∧ Keep [] w27 w' ∧ Sx w [] φ1 [] [(14,r5.val),(15,iV x2),(89,v1),(90,iV (r1.length : Int)),(91,iV (i5 : Int)),(120,bV c3)] 122 a w') ?_ ?_
      ·rcases Bool.eq_false_or_eq_true (decide (0 < ((nth y5 x2).Rank))) with hb8 | hb8
       ·replace h:=Oo h hb8
        refine Fo S rfl rfl rfl rfl hb8 (Hm S (Rm (S.tm rfl)) rfl fun a S=>Fo S rfl rfl rfl rfl hb8 (Hm S (Rm (S.tm rfl)) rfl fun a S=>Fo S rfl rfl rfl rfl hb8 ?_))
        obtain ⟨hc3,h⟩:=Gn h
        obtain ⟨b12,o8,hm9,hr12⟩:=Ea (a:=a) (x:=.tmp 108) (y:=.tmp 109) (ty:=0) Hz hs4 (Cn hc3).1 (Cn hc3).2 (S.tm rfl) (S.tm rfl)
        refine Hm S (hr12 _) rfl ?_;clear S;intro a S
        clear hr12
        refine Fo S rfl rfl rfl rfl hb8 (Hm S (Gp Hh (S.tm rfl)) rfl fun a S=>Fo S rfl rfl rfl rfl hb8 (Hm S (Gy isAgg3 (off:=o8) (o:=3) (S.tm rfl) (hm9.at (Oz S.emb0 S.emb)) rfl) rfl fun a S=>Fo S rfl rfl rfl rfl hb8 (Hm S (Rm (S.tm rfl)) rfl fun a S=>Fo S rfl rfl rfl rfl hb8 (Hm S (Rm (S.tm rfl)) rfl fun a S=>Fo S rfl rfl rfl rfl hb8 (Hm S (It (S.tm rfl) rfl) rfl fun a S=>Fo S rfl rfl rfl rfl hb8 ?_)))))
        obtain ⟨hc4,h⟩:=Gn h
        obtain ⟨b13,o9,hm10,hr13⟩:=Ea (a:=a) (x:=.tmp 113) (y:=.tmp 115) (ty:=0) Hz hs4 (Cn hc4).1 (Cn hc4).2 (S.tm rfl) (S.tm rfl)
        refine Hm S (hr13 _) rfl ?_;clear S;intro a S
        clear hr13
        exact Fo S rfl rfl rfl rfl hb8 (Hm S (Gp Hh (S.tm rfl)) rfl fun a S=>Fo S rfl rfl rfl rfl hb8 (Hm S (Gy isAgg3 (off:=o9) (o:=3) (S.tm rfl) (hm10.at (Oz S.emb0 S.emb)) rfl) rfl fun a S=>Fo S rfl rfl rfl rfl hb8 (Hm S (Kq (S.tm rfl) (S.tm rfl)) rfl fun a S=>Ei S rfl (Hr hb8 (S.tm rfl) (S.tm rfl)) rfl fun a S=>Ic (⟨_,h,Keep.refl _ _,S.nf [] rfl (subR rfl)⟩))))
       ·replace h:=Oq h hb8
        iterate 12 (refine Pf S rfl rfl rfl rfl (Jh hb8) rfl ?_ rfl;clear S;intro a S)
        exact Ei S rfl (Hs true hb8 (S.tm rfl) rfl) rfl fun a S=>Ic (⟨_,h,Keep.refl _ _,S.nf [] rfl (subR rfl)⟩)
      clear S h;rintro a w28 ⟨c3,h,hk16,S⟩;rw [hj9] at h;clear hj9 j9
      refine Ic ?_
      replace S:=S.k6 14 15 89 90 91 120 rfl
      refine Tn (Fc h (S.tm rfl) (fun hb9 h=>?_) (fun hb9 h=>?_))
      ·refine Fr (Vk S rfl rfl fun a S=>Dl (wp_ret (Fb (Cp (Cp (Fb (Cp ?_)))))))
       refine Fb (Cp (Cp (Fb (Cp (Cp ?_)))))
       obtain rfl:=Option.some.inj h
       exact Ee S results46 rfl rfl
      ·exact wp_skip (Hf (Tn (Fg (Vm S rfl rfl fun a S=>Vq S Eh rfl rfl rfl fun a S=>Va S rfl rfl fun a S=>Dl (⟨m1,⟨W (x2 + 1),h,S.nf [] rfl ⟨rfl,rfl,rfl,rfl,rfl,trivial⟩⟩,Nat.lt_succ_self _⟩)))))
     ·exact wp_exit (De (De (Fk (Tn (⟨h,S.nf [] rfl (subR rfl)⟩)))))
   clear S h;rintro a w26 ⟨h,S⟩;rw [hj8] at h;clear hj8 j8
   exact Hf (Tn (Fg (Vq S Eh rfl rfl rfl fun a S=>Vm S rfl rfl fun a S=>Dl (⟨ys5,⟨i5 + 1,⟨_,(hd5).trans (List.append_cons _ _ _),by simp [hi5]⟩,h,S.nf [] rfl ⟨rfl,rfl,(congrArg (fun z=>some (Value.int .i64 z)) (Fz hd5 hi5 (Wv hs1 hr4))),trivial⟩⟩,Nat.lt_succ_self _⟩))))
 clear S h;rintro a w24 ⟨h,S⟩;rw [hj7] at h;clear hj7 j7
 refine Tn (Fr (Vk S rfl rfl fun a S=>Dl (wp_ret ?_)))
 obtain rfl:=Option.some.inj h
 exact Ee S results46 rfl rfl
set_option maxRecDepth 20000 in
theorem Rv (w : World) (Z : Value) (Aa : List An) (Ab : Slc (view w []) 5 Z (Aa.map An.enc)) (r : Int) (h : Jk Aa = some r) :
    Calls prog 24 [Z].toArray w (Ret w [] fun _ v _=>v = iV r):=by
 refine Fe func24 rfl ntmps24 rfl fun a S=>?_
 unfold Jk at h
 replace S:=S.k1 0 rfl
 refine Fr (Vk S rfl rfl fun a S=>Dl (Fs (Fr (Vm S rfl rfl fun a S=>lv S (Ec Hz (S.tm rfl) (Ew Ab)) rfl fun a S=>Vq S Iv rfl rfl rfl ?_))));clear S;intro a S
 refine Dl (Fc h (S.tm rfl) (fun hb1 h=>?_) (fun hb1 h=>?_))
 ·refine Fr (Vk S rfl rfl fun a S=>Dl (wp_ret (Cp ?_)))
  obtain rfl:=Option.some.inj h
  exact Ee S results24 rfl rfl
 ·refine wp_skip (Tn (Fs (Fr (Vm S rfl rfl fun a S=>lv S (Ec Hz (S.tm rfl) (Ew Ab)) rfl fun a S=>lv S (Rm rfl) rfl fun a S=>Dl ?_))))
  replace S:=S.k4 0 8 9 10 rfl
  obtain ⟨j1,hj1,h⟩:=Dw h
  refine Dk (fun a w'=>j1 = some r ∧ Sx w [] nov [] [(0,Z)] 58 a w') ?_ ?_
  ·refine wp_block (Fq (fun (ys1 : List An) a w'=>∃ i1 : Nat,(∃ dn,Aa = dn ++ ys1 ∧ dn.length = i1) ∧ Dh Aa j1 ys1 i1 = some r ∧ Sx w [] nov [] [(0,Z),(8,Z),(9,iV (Aa.length : Int)),(10,iV (i1 : Int))] 58 a w') List.length Aa ⟨0,⟨[],rfl,rfl⟩,h,S.nf [] rfl (subR rfl)⟩ ?_)
   clear S h;rintro ys1 a w1 ⟨i1,⟨dn,hd1,hi1⟩,h,S⟩
   cases ys1 with
   | nil =>
    rw [Dh.eq_1] at h
    refine Fr (Vb S Dp rfl rfl rfl fun a S=>Ld ?_)
    replace S:=S.k5 0 8 9 10 11 rfl
    exact Tn (Fs (wp_cond_false ((S.tm rfl).trans (congrArg Value.bool (Hj hd1 hi1))) (wp_exit (De (De (Fk (Tn (⟨h,S.nf [] rfl ⟨rfl,trivial⟩⟩))))))))
   | cons y1 ys1 =>
    rw [Dh.eq_2] at h
    refine Fr (Vb S Dp rfl rfl rfl fun a S=>Ld ?_)
    replace S:=S.k5 0 8 9 10 11 rfl
    refine Tn (Fs (wp_cond_true ((S.tm rfl).trans (congrArg Value.bool (Fy hd1 hi1))) (wp_skip (Tn (Fs (wp_block (Fr (Vm S rfl rfl ?_))))))));clear S;intro a S
    obtain ⟨b1,o1,hm1,hr1⟩:=Ea (a:=a) (x:=.tmp 8) (y:=.tmp 10) (ty:=0) Hz Ab (Hd hd1 hi1) rfl (S.tm rfl) (S.tm rfl)
    refine lv S (hr1 _) rfl ?_;clear S;intro a S
    clear hr1
    refine lv S (He isAgg55 sizeOf55 (off:=o1) (o:=0) (part:=(An.enc y1)) rfl rfl (S.tm rfl) (hm1.at S.emb0)) rfl fun a S=>Iq S zeroValue55 (cs:=[sV Co,sV Co,sV Co,iV 0,bV false]) rfl rfl ?_;clear S;intro a w3 b2 hz1 hk1 S
    refine Va S rfl rfl fun a S=>Hy S (S.tm rfl) (S.tm rfl) (i:=0) (off:=0) rfl sizeOf55 (vs:=(An.enc y1)) rfl rfl rfl rfl ?_;clear S;intro w4 hk2 S
    refine Dl (wp_block (Fr (Vf Kn S rfl rfl fun a S=>Vl isAgg9 0 S rfl rfl rfl rfl ?_)));clear S;intro a S
    obtain ⟨r1,hr2,h⟩:=Em h
    refine Df S (fun _=>Ck (vs:=[sV y1.Race]) ⟨(S.tm rfl),trivial⟩ call44) (Ol _ y1.Race _ hr2) rfl ?_;clear S;intro v1 a w5 hv1 hk3 hn1 S
    subst hv1
    refine Vu S Lj rfl rfl fun a S=>Vm S rfl rfl ?_;clear S;intro a S
    obtain ⟨j2,hj2,h⟩:=Dw h
    refine Ik 5 (fun a w'=>∃ c1,j2 c1 = some r ∧ Keep [] w5 w' ∧ Sx w [] nov [.blk b2 (An.enc y1) 55] [(0,Z),(3,iV (i1 : Int)),(4,.pointer (some ⟨b2,0,none⟩)),(8,Z),(9,iV (Aa.length : Int)),(10,iV (i1 : Int)),(25,bV c1)] 58 a w') ?_ ?_
    ·rcases Bool.eq_false_or_eq_true (!r1) with hb2 | hb2
     ·replace h:=Oo h hb2
      iterate 4 (refine Gz S rfl rfl rfl (Nz hb2) rfl ?_ rfl;clear S;intro a S)
      exact Vq S (Mj true hb2) rfl rfl rfl fun a S=>Dl (⟨_,h,Keep.refl _ _,S.nf [true] rfl (subR rfl)⟩)
     ·replace h:=Oq h hb2
      refine Cq S rfl rfl rfl hb2 (Vf Mm S rfl rfl fun a S=>Cq S rfl rfl rfl hb2 (Vl isAgg9 0 S rfl rfl rfl rfl fun a S=>Cq S rfl rfl rfl hb2 ?_))
      obtain ⟨r2,hr3,h⟩:=Em h
      refine Df S (fun _=>Ck (vs:=[sV y1.Who]) ⟨(S.tm rfl),trivial⟩ call44) (Ol _ y1.Who _ hr3) rfl ?_;clear S;intro v2 a w7 hv2 hk4 hn2 S
      subst hv2
      exact Cq S rfl rfl rfl hb2 (Vu S Lj rfl rfl fun a S=>lv S (Mk hb2 (S.tm rfl) (S.tm rfl)) rfl fun a S=>Dl (⟨_,h,hk4,S.nf [true] rfl (subR rfl)⟩))
    clear S h;rintro a w6 ⟨c1,h,hk5,S⟩;rw [hj2] at h;clear hj2 j2
    refine Vm S rfl rfl ?_;clear S;intro a S
    obtain ⟨j3,hj3,h⟩:=Dw h
    refine Ik 10 (fun a w'=>∃ c2,j3 c2 = some r ∧ Keep [] w6 w' ∧ Sx w [] nov [.blk b2 (An.enc y1) 55] [(0,Z),(3,iV (i1 : Int)),(4,.pointer (some ⟨b2,0,none⟩)),(8,Z),(9,iV (Aa.length : Int)),(10,iV (i1 : Int)),(36,bV c2)] 58 a w') ?_ ?_
    ·rcases Bool.eq_false_or_eq_true c1 with hb3 | hb3
     ·replace h:=Oo h hb3
      iterate 4 (refine Gz S rfl rfl rfl (Nz hb3) rfl ?_ rfl;clear S;intro a S)
      iterate 4 (refine Sv S rfl rfl rfl rfl ?_;clear S;intro a S)
      exact Gz S rfl rfl rfl (Nz hb3) rfl (fun a S=>Vq S (Mj true hb3) rfl rfl rfl fun a S=>Dl (⟨_,h,Keep.refl _ _,S.nf [true] rfl (subR rfl)⟩)) rfl
     ·replace h:=Oq h hb3
      refine Cq S rfl rfl rfl hb3 (Vf Ns S rfl rfl fun a S=>Cq S rfl rfl rfl hb3 (Vl isAgg9 0 S rfl rfl rfl rfl fun a S=>Cq S rfl rfl rfl hb3 (Vq S Sr rfl rfl rfl fun a S=>Cq S rfl rfl rfl hb3 (Vm S rfl rfl ?_))));clear S;intro a S
      obtain ⟨j4,hj4,h⟩:=Dw h
      refine Ik 5 (fun a w'=>∃ c3,j4 c3 = some r ∧ Keep [] w6 w' ∧ Sx w [] nov [.blk b2 (An.enc y1) 55] [(0,Z),(3,iV (i1 : Int)),(4,.pointer (some ⟨b2,0,none⟩)),(8,Z),(9,iV (Aa.length : Int)),(10,iV (i1 : Int)),(26,bV c1),(27,.pointer (some ⟨b2,2,none⟩)),(28,sV y1.Club),(29,bV (!decide (y1.Club = Co))),(30,bV (!decide (y1.Club = Co))),(35,bV c3)] 58 a w') ?_ ?_
      ·rcases Bool.eq_false_or_eq_true (!decide (y1.Club = Co)) with hb4 | hb4
       ·replace h:=Oo h hb4
        refine Cq S rfl rfl rfl hb4 (Vf Ns S rfl rfl fun a S=>Cq S rfl rfl rfl hb4 (Vl isAgg9 0 S rfl rfl rfl rfl fun a S=>Cq S rfl rfl rfl hb4 ?_))
        obtain ⟨r3,hr4,h⟩:=Em h
        refine Df S (fun _=>Ck (vs:=[sV y1.Club]) ⟨(S.tm rfl),trivial⟩ call44) (Ol _ y1.Club _ hr4) rfl ?_;clear S;intro v3 a w10 hv3 hk6 hn3 S
        subst hv3
        exact Cq S rfl rfl rfl hb4 (Vu S Lj rfl rfl fun a S=>Cq S rfl rfl rfl hb3 (lv S (Hr hb4 (S.tm rfl) (S.tm rfl)) rfl fun a S=>Dl (⟨_,h,hk6,S.nf [true] rfl (subR rfl)⟩)))
       ·replace h:=Oq h hb4
        iterate 4 (refine Gz S rfl rfl rfl (Jh hb4) rfl ?_ rfl;clear S;intro a S)
        exact Cq S rfl rfl rfl hb3 (Vq S (Hs true hb4) rfl rfl rfl fun a S=>Dl (⟨_,h,Keep.refl _ _,S.nf [true] rfl (subR rfl)⟩))
      clear S h;rintro a w9 ⟨c3,h,hk7,S⟩;rw [hj4] at h;clear hj4 j4
      exact lv S (Mk hb3 (S.tm rfl) (S.tm rfl)) rfl fun a S=>Dl (⟨_,h,hk7,S.nf [true] rfl (subR rfl)⟩)
    clear S h;rintro a w8 ⟨c2,h,hk8,S⟩;rw [hj3] at h;clear hj3 j3
    refine Va S rfl rfl fun a S=>Dl (Fc h (S.tm rfl) (fun hb5 h=>?_) (fun hb5 h=>?_))
    ·refine Fr (Vk S rfl rfl fun a S=>Dl (wp_ret (Fb (Fb (Cp (Cp (Fb ?_)))))))
     refine Cp (Cp ?_)
     obtain rfl:=Option.some.inj h
     exact Ee S results24 rfl rfl
    ·refine Fr (Vf Hh S rfl rfl fun a S=>Vl isAgg3 0 S rfl rfl rfl rfl fun a S=>Df S (fun _=>Ck (vs:=[iV y1.Rank,iV 0,iV 300]) ⟨(S.tm rfl),rfl,rfl,trivial⟩ call22) (Lz _ y1.Rank 0 300 _ rfl) rfl ?_);clear S;intro v4 a w11 hv4 hk9 hn4 S
     subst hv4
     refine Vu S Lj rfl rfl fun a S=>Va S rfl rfl fun a S=>Dl (Fc h (S.tm rfl) (fun hb6 h=>?_) (fun hb6 h=>?_))
     ·refine Fr (Vk S rfl rfl fun a S=>Dl (wp_ret (Fb (Fb (Cp (Cp (Fb ?_)))))))
      refine Cp (Cp ?_)
      obtain rfl:=Option.some.inj h
      exact Ee S results24 rfl rfl
     ·refine Fs ?_
      obtain ⟨j5,hj5,h⟩:=Dw h
      refine Dk (fun a w'=>∃ x1 : Bool,j5 x1 = some r ∧ Sx w [] nov [] [(0,Z),(8,Z),(9,iV (Aa.length : Int)),(10,iV (i1 : Int)),(42,bV x1)] 58 a w') ?_ ?_
      ·rcases Bool.eq_false_or_eq_true (decide (0 < (i1 : Int))) with hb7 | hb7
       ·replace h:=Oo h hb7
        obtain ⟨hc1,h⟩:=Gn h
        refine Gf [] ([]) Tryz.mixed S rfl (by kernel_rfl) ?_;clear S;intro w14 hk11 hsel S
        refine Cw 0 S hsel rfl rfl rfl (by kernel_rfl) (by kernel_rfl) rfl (fun _ hw=>(Rm (S.tm rfl))) fun a S=>Cw 1 S hsel rfl rfl rfl (by kernel_rfl) (by kernel_rfl) rfl (fun _ hw=>(Iv (S.tm rfl) rfl)) fun a S=>Cw 2 S hsel rfl rfl rfl (by kernel_rfl) (by kernel_rfl) rfl (fun _ hw=>(Rm (S.tm rfl))) fun a S=>Eg 3 S hsel rfl rfl rfl rfl hb7 rfl rfl (by kernel_rfl) (by kernel_rfl) rfl (fun _ hw=>(Rm (S.tm rfl))) fun a S=>Eg 4 S hsel rfl rfl rfl rfl hb7 rfl rfl (by kernel_rfl) (by kernel_rfl) rfl (fun _ hw=>(Rm (S.tm rfl))) fun a S=>Eg 5 S hsel rfl rfl rfl rfl hb7 rfl rfl (by kernel_rfl) (by kernel_rfl) rfl (fun _ hw=>(It (S.tm rfl) rfl)) ?_;clear S;intro a S
        obtain ⟨b4,o3,hm3,hr6⟩:=Ea (a:=a) (x:=.tmp 46) (y:=.tmp 48) (ty:=0) Hz (Ab.mono (S.le_arg Gm)) (Cn hc1).1 (Cn hc1).2 (S.tm rfl) (S.tm rfl)
        refine Eg 6 S hsel rfl rfl rfl rfl hb7 rfl rfl (by kernel_rfl) (by kernel_rfl) rfl (fun _ hw=>hr6 _) ?_;clear S;intro a S
        clear hr6
        refine Eg 7 S hsel rfl rfl rfl rfl hb7 rfl rfl (by kernel_rfl) (by kernel_rfl) rfl (fun _ hw=>(He isAgg55 sizeOf55 (off:=o3) (o:=0) (part:=(An.enc (nth Aa (W ((i1 : Int) - 1))))) rfl rfl (S.tm rfl) (hm3.kept hw))) fun a S=>Eg 8 S hsel rfl rfl rfl rfl hb7 rfl rfl (by kernel_rfl) (by kernel_rfl) rfl (fun _ hw=>(He isAgg55 sizeOf55 (off:=0) (o:=0) (part:=(An.enc y1)) rfl rfl (S.tm rfl) ((S.blk_mem (i:=0) (cells:=(An.enc y1)) (b:=b2) (T:=55) rfl (Hg (e':=.blk b2 (An.enc y1) 55))).kept hw))) fun a S=>Gu 9 (by kernel_rfl) rfl (Cq S rfl rfl rfl hb7 (Df S (fun _=>Ck (vs:=[.agg (An.enc (nth Aa (W ((i1 : Int) - 1)))).toArray,.agg (An.enc y1).toArray]) ⟨(S.tm rfl),(S.tm rfl),trivial⟩ call45) (Ui _ (nth Aa (W ((i1 : Int) - 1))) y1 _ rfl) rfl ?_));clear S;intro v6 a w15 hv6 hk12 hn6 S
        subst hv6
        refine Ld (Ib hk12 (Ji [10,11,12] hsel (by kernel_rfl) rfl ?_))
        clear hsel
        refine Fo S rfl rfl rfl rfl hb7 (Hm S (Ms (S.tm rfl) rfl) rfl fun a S=>Ei S rfl (Pp hb7 (S.tm rfl) (S.tm rfl)) rfl fun a S=>Ei S rfl (Ra (S.tm rfl)) rfl fun a S=>Ic ?_)
        replace S:=S.n0.k13 0 8 9 10 42 46 47 48 49 50 51 52 53 rfl
        exact Tn (⟨decide (0 ≤ (Jr (nth Aa (W ((i1 : Int) - 1))) y1)),h,S.nf [] rfl (subR rfl)⟩)
       ·replace h:=Oq h hb7
        refine Gf [] ([]) Tryz.mixed S rfl (by kernel_rfl) ?_;clear S;intro w16 hk13 hsel S
        refine Ji [0,1,2,3,4,5,6,7,8,9,10,11,12] hsel (by kernel_rfl) rfl ?_
        clear hsel
        refine Ei S rfl (Rm (S.tm rfl)) rfl fun a S=>Ei S rfl (Iv (S.tm rfl) rfl) rfl fun a S=>Ei S rfl (Rm (S.tm rfl)) rfl ?_;clear S;intro a S
        iterate 8 (refine Pf S rfl rfl rfl rfl (Jh hb7) rfl ?_ rfl;clear S;intro a S)
        refine Ei S rfl (Pq hb7 (S.tm rfl) rfl) rfl fun a S=>Ei S rfl (Ra (S.tm rfl)) rfl fun a S=>Ic ?_
        replace S:=S.n0.k5 0 8 9 10 42 rfl
        exact Tn (⟨false,h,S.nf [] rfl (subR rfl)⟩)
      clear S h;rintro a w12 ⟨x1,h,S⟩;rw [hj5] at h;clear hj5 j5
      refine Tn (Fc h (S.tm rfl) (fun hb8 h=>?_) (fun hb8 h=>?_))
      ·refine Fr (Vk S rfl rfl fun a S=>Dl (wp_ret (Fb (Fb (Cp (Cp (Fb ?_)))))))
       refine Cp (Cp ?_)
       obtain rfl:=Option.some.inj h
       exact Ee S results24 rfl rfl
      ·exact wp_skip (Hf (Hf (Tn (Fg (Vq S Eh rfl rfl rfl fun a S=>Vm S rfl rfl fun a S=>Dl (⟨ys1,⟨i1 + 1,⟨_,(hd1).trans (List.append_cons _ _ _),by simp [hi1]⟩,h,S.nf [] rfl ⟨rfl,rfl,rfl,(congrArg (fun z=>some (Value.int .i64 z)) (Fz hd1 hi1 (Il Ab))),trivial⟩⟩,Nat.lt_succ_self _⟩))))))
  clear S h;rintro a w2 ⟨h,S⟩;rw [hj1] at h;clear hj1 j1
  refine Tn (Fr (Vm S rfl rfl ?_));clear S;intro a S
  obtain ⟨r4,hr7,h⟩:=Em h
  refine Df S (fun _=>Ck (vs:=[Z]) ⟨(S.tm rfl),trivial⟩ call46) (To _ Z Aa (Ab.mono (S.le_arg Gm)) _ hr7) rfl ?_;clear S;intro v7 a w17 hv7 hk14 hn7 S
  subst hv7
  refine Va S rfl rfl fun a S=>Dl (wp_ret ?_)
  obtain rfl:=Option.some.inj h
  exact Ee S results24 rfl rfl
theorem Sz (w : World) (Cg : Ci) (Bw : Nat) (Bt : An) (Bx : (view w []) Bw = some (.cells [sV Bt.Race,sV Bt.Who,sV Bt.Club,iV Bt.Rank,bV Bt.Relay].toArray 55 (0,0))) (r : Bool) (h : Lk Cg Bt = r) :
    Calls prog 26 [.agg (Ci.enc Cg).toArray,.pointer (some ⟨Bw,0,none⟩)].toArray w (Ret w [] fun _ v _=>v = bV r):=by
 refine Fe func26 rfl ntmps26 rfl fun a S=>?_
 unfold Lk at h
 replace S:=S.k2 0 1 rfl
 refine Fr (Rr S (S.tm rfl) (cs:=(Ci.enc Cg)) rfl rfl ?_);clear S;intro a w1 b1 hz1 hk1 S
 refine Vk S rfl rfl fun a S=>Dz (Vf Wh S rfl rfl fun a S=>Vl isAgg9 0 S rfl rfl rfl rfl fun a S=>Vf Ns S rfl rfl fun a S=>lv S (Gy isAgg9 (off:=0) (o:=2) (S.tm rfl) ((Ub Bx).at S.emb0) rfl) rfl fun a S=>Vb S Pk rfl rfl rfl fun a S=>Va S rfl rfl ?_);clear S;intro a S
 refine Dl (wp_ret ?_)
 subst h
 exact Ee S results26 rfl rfl
theorem Mg (w : World) (Am : Value) (Ak : List Ci) (Bn : Slc (view w []) 4 Am (Ak.map Ci.enc)) (Ax : Nat) (Bb : An) (Bo : (view w []) Ax = some (.cells [sV Bb.Race,sV Bb.Who,sV Bb.Club,iV Bb.Rank,bV Bb.Relay].toArray 55 (0,0))) (r : Int) (h : Dg Ak Bb = r) :
    Calls prog 25 [Am,.func (.func 26) #[] #[.pointer (some ⟨Ax,0,none⟩)]].toArray w (Ret w [] fun _ v _=>v = iV r):=by
 refine Fe func25 rfl ntmps25 rfl fun a S=>?_
 unfold Dg at h
 replace S:=S.k2 0 1 rfl
 refine Fr (Vk S rfl rfl fun a S=>Dl (Fs (Fr (Vm S rfl rfl fun a S=>lv S (Ec Pu (S.tm rfl) (Ew Bn)) rfl fun a S=>lv S (Rm rfl) rfl ?_))));clear S;intro a S
 refine Dl ?_
 replace S:=S.k4 0 1 7 8 rfl
 obtain ⟨j1,hj1,h⟩:=Dw h
 refine Dk (fun a w'=>j1 = r ∧ Sx w [] nov [] [] 19 a w') ?_ ?_
 ·refine wp_block (Fq (fun (ys1 : List Ci) a w'=>∃ i1 : Nat,(∃ dn,Ak = dn ++ ys1 ∧ dn.length = i1) ∧ Dq Bb j1 ys1 i1 = r ∧ Sx w [] nov [] [(0,Am),(1,.func (.func 26) #[] #[.pointer (some ⟨Ax,0,none⟩)]),(7,iV (Ak.length : Int)),(8,iV (i1 : Int))] 19 a w') List.length Ak ⟨0,⟨[],rfl,rfl⟩,h,S.nf [] rfl (subR rfl)⟩ ?_)
  clear S h;rintro ys1 a w1 ⟨i1,⟨dn,hd1,hi1⟩,h,S⟩
  cases ys1 with
  | nil =>
   rw [Dq.eq_1] at h
   refine Fr (Vb S Dp rfl rfl rfl fun a S=>Ld ?_)
   replace S:=S.k5 0 1 7 8 9 rfl
   exact Tn (Fs (wp_cond_false ((S.tm rfl).trans (congrArg Value.bool (Hj hd1 hi1))) (wp_exit (De (De (Fk (Tn (⟨h,S.nf [] rfl trivial⟩))))))))
  | cons y1 ys1 =>
   rw [Dq.eq_2] at h
   refine Fr (Vb S Dp rfl rfl rfl fun a S=>Ld ?_)
   replace S:=S.k5 0 1 7 8 9 rfl
   refine Tn (Fs (wp_cond_true ((S.tm rfl).trans (congrArg Value.bool (Fy hd1 hi1))) (wp_skip (Tn (Fs (wp_block (Fr (Vm S rfl rfl fun a S=>Va S rfl rfl ?_))))))));clear S;intro a S
   refine Dl (Fs (Fg ?_))
   iterate 3 (refine Vm S rfl rfl ?_;clear S;intro a S)
   obtain ⟨b1,o1,hm1,hr1⟩:=Ea (a:=a) (x:=.tmp 12) (y:=.tmp 13) (ty:=0) Pu Bn (Hd hd1 hi1) rfl (S.tm rfl) (S.tm rfl)
   refine lv S (hr1 _) rfl ?_;clear S;intro a S
   clear hr1
   refine lv S (He isAgg64 sizeOf64 (off:=o1) (o:=0) (part:=(Ci.enc y1)) rfl rfl (S.tm rfl) (hm1.at S.emb0)) rfl fun a S=>Df S (fun _=>Nc (cap:=[.pointer (some ⟨Ax,0,none⟩)]) (S.tm rfl) (vs:=[.agg (Ci.enc y1).toArray]) ⟨(S.tm rfl),trivial⟩ call26) (Sz _ y1 Ax Bb ((S.le_arg Gm) _ _ Bo) _ rfl) rfl ?_;clear S;intro v1 a w3 hv1 hk1 hn1 S
   subst hv1
   refine Dl (Fc h (S.tm rfl) (fun hb1 h=>?_) (fun hb1 h=>?_))
   ·refine Fr (Vm S rfl rfl fun a S=>Va S rfl rfl fun a S=>Ld ?_)
    replace S:=S.k1 4 rfl
    refine Tn (wp_ret (Fb (Cp (Cp (Fb (Cp (Cp ?_)))))))
    subst h
    exact Ee S results25 rfl rfl
   ·exact wp_skip (Hf (Tn (Fg (Vq S Eh rfl rfl rfl fun a S=>Vm S rfl rfl fun a S=>Dl (⟨ys1,⟨i1 + 1,⟨_,(hd1).trans (List.append_cons _ _ _),by simp [hi1]⟩,h,S.nf [] rfl ⟨rfl,rfl,rfl,(congrArg (fun z=>some (Value.int .i64 z)) (Fz hd1 hi1 (Il Bn))),trivial⟩⟩,Nat.lt_succ_self _⟩)))))
 clear S h;rintro a w2 ⟨h,S⟩;rw [hj1] at h;clear hj1 j1
 refine Tn (Fr (Vk S rfl rfl fun a S=>Dl (wp_ret ?_)))
 subst h
 exact Ee S results25 rfl rfl
set_option maxRecDepth 20000 in
theorem Ta (w : World) (Ad : Ci) (Ae : Ci) (r : Int) (h : Fu Ad Ae = r) :
    Calls prog 28 [.agg (Ci.enc Ad).toArray,.agg (Ci.enc Ae).toArray].toArray w (Ret w [] fun _ v _=>v = iV r):=by
 refine Fe func28 rfl ntmps28 rfl fun a S=>?_
 unfold Fu at h
 replace S:=S.k2 0 1 rfl
 refine Fr (Rr S (S.tm rfl) (cs:=(Ci.enc Ad)) rfl rfl ?_);clear S;intro a w1 b1 hz1 hk1 S
 refine Rr S (S.tm rfl) (cs:=(Ci.enc Ae)) rfl rfl ?_;clear S;intro a w2 b2 hz2 hk2 S
 refine Vk S rfl rfl fun a S=>Dl (Fs (Gf [] ([]) Tryz.mixed S rfl (by kernel_rfl) ?_));clear S;intro w6 hk6 hsel S
 refine Cw 0 S hsel rfl rfl rfl (by kernel_rfl) (by kernel_rfl) rfl (fun _ hw=>(Gp Oi (S.tm rfl))) fun a S=>Cw 1 S hsel rfl rfl rfl (by kernel_rfl) (by kernel_rfl) rfl (fun _ hw=>(Qd (i:=0) Ni (S.tm rfl) rfl rfl)) fun a S=>Cw 2 S hsel rfl rfl rfl (by kernel_rfl) (by kernel_rfl) rfl (fun _ hw=>(Gy isAgg3 (off:=0) (o:=1) (S.tm rfl) ((S.blk_mem (i:=0) (cells:=(Ci.enc Ae)) (b:=b2) (T:=64) rfl (Hg (e':=.blk b2 (Ci.enc Ae) 64))).kept hw) rfl)) fun a S=>Cw 3 S hsel rfl rfl rfl (by kernel_rfl) (by kernel_rfl) rfl (fun _ hw=>(Gp Oi (S.tm rfl))) fun a S=>Cw 4 S hsel rfl rfl rfl (by kernel_rfl) (by kernel_rfl) rfl (fun _ hw=>(Qd (i:=0) Ni (S.tm rfl) rfl rfl)) fun a S=>Cw 5 S hsel rfl rfl rfl (by kernel_rfl) (by kernel_rfl) rfl (fun _ hw=>(Gy isAgg3 (off:=0) (o:=1) (S.tm rfl) ((S.blk_mem (i:=1) (cells:=(Ci.enc Ad)) (b:=b1) (T:=64) rfl (Hg (e':=.blk b1 (Ci.enc Ad) 64))).kept hw) rfl)) fun a S=>Cw 6 S hsel rfl rfl rfl (by kernel_rfl) (by kernel_rfl) rfl (fun _ hw=>(It (S.tm rfl) (S.tm rfl))) fun a S=>Cw 7 S hsel rfl rfl rfl (by kernel_rfl) (by kernel_rfl) rfl (fun _ hw=>(Gp Oi (S.tm rfl))) fun a S=>Cw 8 S hsel rfl rfl rfl (by kernel_rfl) (by kernel_rfl) rfl (fun _ hw=>(Qd (i:=1) Ni (S.tm rfl) rfl rfl)) fun a S=>Cw 9 S hsel rfl rfl rfl (by kernel_rfl) (by kernel_rfl) rfl (fun _ hw=>(Gy isAgg3 (off:=0) (o:=2) (S.tm rfl) ((S.blk_mem (i:=0) (cells:=(Ci.enc Ae)) (b:=b2) (T:=64) rfl (Hg (e':=.blk b2 (Ci.enc Ae) 64))).kept hw) rfl)) fun a S=>Cw 10 S hsel rfl rfl rfl (by kernel_rfl) (by kernel_rfl) rfl (fun _ hw=>(Gp Oi (S.tm rfl))) ?_;clear S;intro a S
 refine Cw 11 S hsel rfl rfl rfl (by kernel_rfl) (by kernel_rfl) rfl (fun _ hw=>(Qd (i:=1) Ni (S.tm rfl) rfl rfl)) fun a S=>Cw 12 S hsel rfl rfl rfl (by kernel_rfl) (by kernel_rfl) rfl (fun _ hw=>(Gy isAgg3 (off:=0) (o:=2) (S.tm rfl) ((S.blk_mem (i:=1) (cells:=(Ci.enc Ad)) (b:=b1) (T:=64) rfl (Hg (e':=.blk b1 (Ci.enc Ad) 64))).kept hw) rfl)) fun a S=>Cw 13 S hsel rfl rfl rfl (by kernel_rfl) (by kernel_rfl) rfl (fun _ hw=>(It (S.tm rfl) (S.tm rfl))) fun a S=>Cw 14 S hsel rfl rfl rfl (by kernel_rfl) (by kernel_rfl) rfl (fun _ hw=>(Gp Oi (S.tm rfl))) fun a S=>Cw 15 S hsel rfl rfl rfl (by kernel_rfl) (by kernel_rfl) rfl (fun _ hw=>(Qd (i:=2) Ni (S.tm rfl) rfl rfl)) fun a S=>Cw 16 S hsel rfl rfl rfl (by kernel_rfl) (by kernel_rfl) rfl (fun _ hw=>(Gy isAgg3 (off:=0) (o:=3) (S.tm rfl) ((S.blk_mem (i:=0) (cells:=(Ci.enc Ae)) (b:=b2) (T:=64) rfl (Hg (e':=.blk b2 (Ci.enc Ae) 64))).kept hw) rfl)) fun a S=>Cw 17 S hsel rfl rfl rfl (by kernel_rfl) (by kernel_rfl) rfl (fun _ hw=>(Gp Oi (S.tm rfl))) fun a S=>Cw 18 S hsel rfl rfl rfl (by kernel_rfl) (by kernel_rfl) rfl (fun _ hw=>(Qd (i:=2) Ni (S.tm rfl) rfl rfl)) fun a S=>Cw 19 S hsel rfl rfl rfl (by kernel_rfl) (by kernel_rfl) rfl (fun _ hw=>(Gy isAgg3 (off:=0) (o:=3) (S.tm rfl) ((S.blk_mem (i:=1) (cells:=(Ci.enc Ad)) (b:=b1) (T:=64) rfl (Hg (e':=.blk b1 (Ci.enc Ad) 64))).kept hw) rfl)) fun a S=>Cw 20 S hsel rfl rfl rfl (by kernel_rfl) (by kernel_rfl) rfl (fun _ hw=>(It (S.tm rfl) (S.tm rfl))) fun a S=>Cw 21 S hsel rfl rfl rfl (by kernel_rfl) (by kernel_rfl) rfl (fun _ hw=>(Gp Wh (S.tm rfl))) ?_;clear S;intro a S
 refine Cw 22 S hsel rfl rfl rfl (by kernel_rfl) (by kernel_rfl) rfl (fun _ hw=>(Gy isAgg9 (off:=0) (o:=0) (S.tm rfl) ((S.blk_mem (i:=1) (cells:=(Ci.enc Ad)) (b:=b1) (T:=64) rfl (Hg (e':=.blk b1 (Ci.enc Ad) 64))).kept hw) rfl)) fun a S=>Cw 23 S hsel rfl rfl rfl (by kernel_rfl) (by kernel_rfl) rfl (fun _ hw=>(Gp Wh (S.tm rfl))) fun a S=>Cw 24 S hsel rfl rfl rfl (by kernel_rfl) (by kernel_rfl) rfl (fun _ hw=>(Gy isAgg9 (off:=0) (o:=0) (S.tm rfl) ((S.blk_mem (i:=0) (cells:=(Ci.enc Ae)) (b:=b2) (T:=64) rfl (Hg (e':=.blk b2 (Ci.enc Ae) 64))).kept hw) rfl)) fun a S=>Gu 25 (by kernel_rfl) rfl (Df S (fun _=>Ck (vs:=[sV Ad.club_,sV Ae.club_]) ⟨(S.tm rfl),(S.tm rfl),trivial⟩ call30) (Kl _ Ad.club_ Ae.club_ _ rfl) rfl ?_);clear S;intro v3 a w7 hv3 hk7 hn3 S
 subst hv3
 refine Ld (Ib hk7 (Gu 26 (by kernel_rfl) rfl (Eb S underlying22 sizeOf3 zeroValue3 rfl rfl (pv:=[(0,iV (W (Ae.many_.a0_ - Ad.many_.a0_))),(1,iV (W (Ae.many_.a1_ - Ad.many_.a1_))),(2,iV (W (Ae.many_.a2_ - Ad.many_.a2_))),(3,iV (Ef Ad.club_ Ae.club_))]) ⟨rfl,(S.tm rfl),rfl,(S.tm rfl),rfl,(S.tm rfl),rfl,(S.tm rfl),trivial⟩ (cs:=[iV (W (Ae.many_.a0_ - Ad.many_.a0_)),iV (W (Ae.many_.a1_ - Ad.many_.a1_)),iV (W (Ae.many_.a2_ - Ad.many_.a2_)),iV (Ef Ad.club_ Ae.club_)]) (by kernel_rfl) rfl ?_)));clear S;intro a w8 b4 hz4 hk8 S
 refine Ld (Ib hk8 (Gu 27 (by kernel_rfl) rfl (Df S (fun _=>Ck (vs:=[.slice (some ⟨b4,0,none⟩) 4 4]) ⟨(S.tm rfl),trivial⟩ call29) (Th _ (.slice (some ⟨b4,0,none⟩) 4 4) [W (Ae.many_.a0_ - Ad.many_.a0_),W (Ae.many_.a1_ - Ad.many_.a1_),W (Ae.many_.a2_ - Ad.many_.a2_),(Ef Ad.club_ Ae.club_)] (Iw Nf S (i:=0) rfl rfl rfl rfl ((Hg (e':=.blk b4 [iV (W (Ae.many_.a0_ - Ad.many_.a0_)),iV (W (Ae.many_.a1_ - Ad.many_.a1_)),iV (W (Ae.many_.a2_ - Ad.many_.a2_)),iV (Ef Ad.club_ Ae.club_)] 3)) _ rfl)) _ rfl) rfl ?_)));clear S;intro v4 a w9 hv4 hk9 hn4 S
 subst hv4
 refine Ld (Ib hk9 (Ji [28] hsel (by kernel_rfl) rfl ?_))
 clear hsel
 refine Ei S rfl (Ra (S.tm rfl)) rfl fun a S=>Ic ?_
 replace S:=S.n0.k1 4 rfl
 refine Tn (wp_ret ?_)
 subst h
 exact Ee S results28 rfl rfl
set_option maxRecDepth 20000 in
theorem Kf (w : World) (V : Value) (Ah : List Ci) (Ay : (LEnt.own V 64 4 Ah.length (Ah.flatMap Ci.enc)).holds w) (Ad : Int) (Ae : Int) (r : (List Ci)) (h : El Ah Ad Ae = some r) :
    Calls prog 68 [V,iV Ad,iV Ae,.func (.func 28) #[] #[]].toArray w (Ret w (V.ownBlock.toList) fun _ v w'=>(LEnt.own V 64 4 r.length (r.flatMap Ci.enc)).holds w' ∧ v = .tuple #[]):=by
 refine Jt (V.ownBlock.toList) [.own V 64 4 Ah.length (Ah.flatMap Ci.enc)] func68 rfl ntmps68 rfl (fun e he=>by simp only [List.mem_singleton] at he;subst he;exact Ay) (Jd _) (Kb _) fun a S=>?_
 unfold El at h
 replace S:=(S.nl [.own V 64 4 Ah.length (Ah.flatMap Ci.enc)] [true] rfl).k4 0 1 2 3 rfl
 refine Fr (Vm S rfl rfl fun a S=>Vq S Eh rfl rfl rfl fun a S=>Va S rfl rfl fun a S=>Dl ?_)
 replace S:=S.k5 0 1 2 3 8 rfl
 obtain ⟨j1,hj1,h⟩:=Dw h
 refine Dk (fun a w'=>∃ x1 : List Ci,j1 x1 = some r ∧ Sx w (V.ownBlock.toList) nov [.own V 64 4 x1.length (x1.flatMap Ci.enc)] [] 53 a w') ?_ ?_
 ·refine wp_block (Fq (fun (m1 : Nat) a w'=>∃ x1 : List Ci,∃ x2 : Int,Cx Ae Ad j1 m1 x1 x2 = some r ∧ Sx w (V.ownBlock.toList) nov [.own V 64 4 x1.length (x1.flatMap Ci.enc)] [(0,V),(1,iV Ad),(2,iV Ae),(3,.func (.func 28) #[] #[]),(8,iV x2)] 53 a w') id ((Ae - (W (Ad + 1))).toNat + 2) ⟨Ah,W (Ad + 1),h,S.nf [true] rfl (subR rfl)⟩ ?_)
  clear S h;rintro m1 a w1 ⟨x1,x2,h,S⟩
  cases m1 with
  | zero=>rw [Cx.eq_1] at h;cases h
  | succ m1 =>
   rw [Cx.eq_2] at h
   refine Fs (Fr (Vm S rfl rfl fun a S=>Vm S rfl rfl fun a S=>Vb S Dp rfl rfl rfl fun a S=>Dl (Fc h (S.tm rfl) (fun hb1 h=>?_) (fun hb1 h=>?_))))
   ·refine wp_skip (Tn (Fs (wp_block (Fr (Vm S rfl rfl fun a S=>Va S rfl rfl fun a S=>Dl ?_)))))
    replace S:=S.k6 0 1 2 3 8 9 rfl
    obtain ⟨j2,hj2,h⟩:=Dw h
    refine Dk (fun a w'=>∃ x3 : List Ci,j2 x3 = some r ∧ Sx w (V.ownBlock.toList) nov [.own V 64 4 x3.length (x3.flatMap Ci.enc)] [(0,V),(1,iV Ad),(2,iV Ae),(3,.func (.func 28) #[] #[]),(8,iV x2)] 53 a w') ?_ ?_
    ·refine wp_block (Fq (fun (m2 : Nat) a w'=>∃ x3 : List Ci,∃ x4 : Int,Cs Ad j2 m2 x3 x4 = some r ∧ Sx w (V.ownBlock.toList) nov [.own V 64 4 x3.length (x3.flatMap Ci.enc)] [(0,V),(1,iV Ad),(2,iV Ae),(3,.func (.func 28) #[] #[]),(8,iV x2),(9,iV x4)] 53 a w') id ((x2 - Ad).toNat + 2) ⟨x1,x2,h,S.nf [true] rfl (subR rfl)⟩ ?_)
     clear S h;rintro m2 a w3 ⟨x3,x4,h,S⟩
     cases m2 with
     | zero=>rw [Cs.eq_1] at h;cases h
     | succ m2 =>
      rw [Cs.eq_2] at h
      refine Fs (Fs ?_)
      obtain ⟨j3,hj3,h⟩:=Dw h
      refine Dk (fun a w'=>∃ x5 : Bool,j3 x5 = some r ∧ Sx w (V.ownBlock.toList) nov [.own V 64 4 x3.length (x3.flatMap Ci.enc)] [(0,V),(1,iV Ad),(2,iV Ae),(3,.func (.func 28) #[] #[]),(8,iV x2),(9,iV x4),(34,bV x5)] 53 a w') ?_ ?_
      ·rcases Bool.eq_false_or_eq_true (decide (Ad < x4)) with hb2 | hb2
       ·replace h:=Oo h hb2
        obtain ⟨hc1,h⟩:=Gn h
        obtain ⟨hc2,h⟩:=Gn h
        refine Gf [] ([]) Tryz.mixed S rfl (by kernel_rfl) ?_;clear S;intro w7 hk2 hsel S
        refine Cw 0 S hsel rfl rfl rfl (by kernel_rfl) (by kernel_rfl) rfl (fun _ hw=>(Rm (S.tm rfl))) fun a S=>Cw 1 S hsel rfl rfl rfl (by kernel_rfl) (by kernel_rfl) rfl (fun _ hw=>(Rm (S.tm rfl))) fun a S=>Cw 2 S hsel rfl rfl rfl (by kernel_rfl) (by kernel_rfl) rfl (fun _ hw=>(Iv (S.tm rfl) (S.tm rfl))) fun a S=>Cw 3 S hsel rfl rfl rfl (by kernel_rfl) (by kernel_rfl) rfl (fun _ hw=>(Rm (S.tm rfl))) fun a S=>Eg 4 S hsel rfl rfl rfl rfl hb2 rfl rfl (by kernel_rfl) (by kernel_rfl) rfl (fun _ hw=>(Rm (S.tm rfl))) fun a S=>Eg 5 S hsel rfl rfl rfl rfl hb2 rfl rfl (by kernel_rfl) (by kernel_rfl) rfl (fun _ hw=>(Rm (S.tm rfl))) fun a S=>Eg 6 S hsel rfl rfl rfl rfl hb2 rfl rfl (by kernel_rfl) (by kernel_rfl) rfl (fun _ hw=>(Rm (S.tm rfl))) ?_;clear S;intro a S
        obtain ⟨b3,hg3,hr3⟩:=Ft (a:=a) (x:=.tmp 23) (y:=.tmp 24) (ty:=0) Pu Ci.enc_ok S (i:=0) rfl (Cn hc1).1 (Cn hc1).2 (S.tm rfl) (S.tm rfl)
        refine Eg 7 S hsel rfl rfl rfl rfl hb2 rfl rfl (by kernel_rfl) (by kernel_rfl) rfl (fun _ hw=>(hr3 _)) ?_;clear S;intro a S
        clear hr3
        refine Eg 8 S hsel rfl rfl rfl rfl hb2 rfl rfl (by kernel_rfl) (by kernel_rfl) rfl (fun _ hw=>(He isAgg64 sizeOf64 (off:=x4.toNat * 4) (o:=0) (part:=(Ci.enc (Ci.mk ((nth x3 x4).club_) ((nth x3 x4).many_)))) rfl rfl (S.tm rfl) ((Lq Ci.enc_ok S (i:=0) rfl hg3 (Cn hc1).1 (Hg (e':=.own V 64 4 x3.length (x3.flatMap Ci.enc)))).kept hw))) fun a S=>Eg 9 S hsel rfl rfl rfl rfl hb2 rfl rfl (by kernel_rfl) (by kernel_rfl) rfl (fun _ hw=>(Rm (S.tm rfl))) fun a S=>Eg 10 S hsel rfl rfl rfl rfl hb2 rfl rfl (by kernel_rfl) (by kernel_rfl) rfl (fun _ hw=>(Rm (S.tm rfl))) fun a S=>Eg 11 S hsel rfl rfl rfl rfl hb2 rfl rfl (by kernel_rfl) (by kernel_rfl) rfl (fun _ hw=>(It (S.tm rfl) rfl)) ?_;clear S;intro a S
        obtain ⟨b4,hg4,hr4⟩:=Ft (a:=a) (x:=.tmp 27) (y:=.tmp 29) (ty:=0) Pu Ci.enc_ok S (i:=0) rfl (Cn hc2).1 (Cn hc2).2 (S.tm rfl) (S.tm rfl)
        refine Eg 12 S hsel rfl rfl rfl rfl hb2 rfl rfl (by kernel_rfl) (by kernel_rfl) rfl (fun _ hw=>(hr4 _)) ?_;clear S;intro a S
        clear hr4
        refine Eg 13 S hsel rfl rfl rfl rfl hb2 rfl rfl (by kernel_rfl) (by kernel_rfl) rfl (fun _ hw=>(He isAgg64 sizeOf64 (off:=((W (x4 - 1)).toNat) * 4) (o:=0) (part:=(Ci.enc (Ci.mk ((nth x3 (W (x4 - 1))).club_) ((nth x3 (W (x4 - 1))).many_)))) rfl rfl (S.tm rfl) ((Lq Ci.enc_ok S (i:=0) rfl hg4 (Cn hc2).1 (Hg (e':=.own V 64 4 x3.length (x3.flatMap Ci.enc)))).kept hw))) fun a S=>Gu 14 (by kernel_rfl) rfl (Cq S rfl rfl rfl hb2 (Df S (fun _=>Nc (cap:=[]) (S.tm rfl) (vs:=[.agg (Ci.enc (Ci.mk ((nth x3 x4).club_) ((nth x3 x4).many_))).toArray,.agg (Ci.enc (Ci.mk ((nth x3 (W (x4 - 1))).club_) ((nth x3 (W (x4 - 1))).many_))).toArray]) ⟨(S.tm rfl),(S.tm rfl),trivial⟩ call28) (Ta _ (Ci.mk ((nth x3 x4).club_) ((nth x3 x4).many_)) (Ci.mk ((nth x3 (W (x4 - 1))).club_) ((nth x3 (W (x4 - 1))).many_)) _ rfl) rfl ?_));clear S;intro v2 a w8 hv2 hk3 hn2 S
        subst hv2
        refine Ld (Ib hk3 (Ji [15,16] hsel (by kernel_rfl) rfl ?_))
        clear hsel
        refine Fo S rfl rfl rfl rfl hb2 (Hm S (Dp (S.tm rfl) rfl) rfl fun a S=>Ei S rfl (Pp hb2 (S.tm rfl) (S.tm rfl)) rfl fun a S=>Ic ?_)
        replace S:=S.nk [.own V 64 4 x3.length (x3.flatMap Ci.enc)] [(0,V),(1,iV Ad),(2,iV Ae),(3,.func (.func 28) #[] #[]),(8,iV x2),(9,iV x4),(22,.func (.func 28) #[] #[]),(23,V),(24,iV x4),(25,.pointer (some ⟨b3,x4.toNat * 4,none⟩)),(26,.agg (Ci.enc (Ci.mk ((nth x3 x4).club_) ((nth x3 x4).many_))).toArray),(27,V),(28,iV x4),(29,iV (W (x4 - 1))),(30,.pointer (some ⟨b4,((W (x4 - 1)).toNat) * 4,none⟩)),(31,.agg (Ci.enc (Ci.mk ((nth x3 (W (x4 - 1))).club_) ((nth x3 (W (x4 - 1))).many_))).toArray),(32,iV (Fu (Ci.mk ((nth x3 x4).club_) ((nth x3 x4).many_)) (Ci.mk ((nth x3 (W (x4 - 1))).club_) ((nth x3 (W (x4 - 1))).many_)))),(33,bV (decide ((Fu (Ci.mk ((nth x3 x4).club_) ((nth x3 x4).many_)) (Ci.mk ((nth x3 (W (x4 - 1))).club_) ((nth x3 (W (x4 - 1))).many_))) < 0))),(34,bV (decide ((Fu (Ci.mk ((nth x3 x4).club_) ((nth x3 x4).many_)) (Ci.mk ((nth x3 (W (x4 - 1))).club_) ((nth x3 (W (x4 - 1))).many_))) < 0)))] [true] rfl (subR rfl)
        exact Tn (⟨decide ((Fu (Ci.mk ((nth x3 x4).club_) ((nth x3 x4).many_)) (Ci.mk ((nth x3 (W (x4 - 1))).club_) ((nth x3 (W (x4 - 1))).many_))) < 0),h,S.nf [true] rfl (subR rfl)⟩)
       ·replace h:=Oq h hb2
        refine Gf [] ([]) Tryz.mixed S rfl (by kernel_rfl) ?_;clear S;intro w9 hk4 hsel S
        refine Ji [0,1,2,3,4,5,6,7,8,9,10,11,12,13,14,15,16] hsel (by kernel_rfl) rfl ?_
        clear hsel
        refine Ei S rfl (Rm (S.tm rfl)) rfl fun a S=>Ei S rfl (Rm (S.tm rfl)) rfl fun a S=>Ei S rfl (Iv (S.tm rfl) (S.tm rfl)) rfl fun a S=>Ei S rfl (Rm (S.tm rfl)) rfl ?_;clear S;intro a S
        iterate 12 (refine Pf S rfl rfl rfl rfl (Jh hb2) rfl ?_ rfl;clear S;intro a S)
        refine Ei S rfl (Pq hb2 (S.tm rfl) rfl) rfl fun a S=>Ic ?_
        replace S:=S.k7 0 1 2 3 8 9 34 rfl
        exact Tn (⟨false,h,S.nf [true] rfl (subR rfl)⟩)
      clear S h;rintro a w5 ⟨x5,h,S⟩;rw [hj3] at h;clear hj3 j3
      refine Tn (Fc h (S.tm rfl) (fun hb3 h=>?_) (fun hb3 h=>?_))
      ·refine wp_skip (Tn (Fs (wp_block ?_)))
       obtain ⟨hc3,h⟩:=Gn h
       obtain ⟨hc4,h⟩:=Gn h
       obtain ⟨hc5,h⟩:=Gn h
       obtain ⟨hc6,h⟩:=Gn h
       refine Gf [15,17] ([]) Tryz.mixed S rfl (by kernel_rfl) ?_;clear S;intro w14 hk9 hsel S
       refine Es 0 S hsel rfl rfl (by kernel_rfl) (by kernel_rfl) rfl (fun _=>(Rm (S.tm rfl))) fun a S=>Es 1 S hsel rfl rfl (by kernel_rfl) (by kernel_rfl) rfl (fun _=>(Rm (S.tm rfl))) fun a S=>Es 2 S hsel rfl rfl (by kernel_rfl) (by kernel_rfl) rfl (fun _=>(Rm (S.tm rfl))) fun a S=>Es 3 S hsel rfl rfl (by kernel_rfl) (by kernel_rfl) rfl (fun _=>(Rm (S.tm rfl))) fun a S=>Es 4 S hsel rfl rfl (by kernel_rfl) (by kernel_rfl) rfl (fun _=>(It (S.tm rfl) rfl)) fun a S=>Es 5 S hsel rfl rfl (by kernel_rfl) (by kernel_rfl) rfl (fun _=>(Rm (S.tm rfl))) fun a S=>Es 6 S hsel rfl rfl (by kernel_rfl) (by kernel_rfl) rfl (fun _=>(Rm (S.tm rfl))) fun a S=>Es 7 S hsel rfl rfl (by kernel_rfl) (by kernel_rfl) rfl (fun _=>(It (S.tm rfl) rfl)) ?_;clear S;intro a S
       obtain ⟨b9,hg9,hr9⟩:=Ft (a:=a) (x:=.tmp 42) (y:=.tmp 44) (ty:=0) Pu Ci.enc_ok S (i:=0) rfl (Cn hc3).1 (Cn hc3).2 (S.tm rfl) (S.tm rfl)
       refine Es 8 S hsel rfl rfl (by kernel_rfl) (by kernel_rfl) rfl (fun _=>(hr9 _)) ?_;clear S;intro a S
       clear hr9
       refine Cw 9 S hsel rfl (by kernel_rfl) (by kernel_rfl) (by kernel_rfl) (by kernel_rfl) rfl (fun _ hw=>(He isAgg64 sizeOf64 (off:=((W (x4 - 1)).toNat) * 4) (o:=0) (part:=(Ci.enc (Ci.mk ((nth x3 (W (x4 - 1))).club_) ((nth x3 (W (x4 - 1))).many_)))) rfl rfl (S.tm rfl) ((Lq Ci.enc_ok S (i:=0) rfl hg9 (Cn hc3).1 (Hg (e':=.own V 64 4 x3.length (x3.flatMap Ci.enc)))).kept hw))) fun a S=>Es 10 S hsel rfl rfl (by kernel_rfl) (by kernel_rfl) rfl (fun _=>(Rm (S.tm rfl))) fun a S=>Es 11 S hsel rfl rfl (by kernel_rfl) (by kernel_rfl) rfl (fun _=>(Rm (S.tm rfl))) ?_;clear S;intro a S
       obtain ⟨b10,hg10,hr10⟩:=Ft (a:=a) (x:=.tmp 47) (y:=.tmp 48) (ty:=0) Pu Ci.enc_ok S (i:=0) rfl (Cn hc4).1 (Cn hc4).2 (S.tm rfl) (S.tm rfl)
       refine Es 12 S hsel rfl rfl (by kernel_rfl) (by kernel_rfl) rfl (fun _=>(hr10 _)) ?_;clear S;intro a S
       clear hr10
       refine Cw 13 S hsel rfl (by kernel_rfl) (by kernel_rfl) (by kernel_rfl) (by kernel_rfl) rfl (fun _ hw=>(He isAgg64 sizeOf64 (off:=x4.toNat * 4) (o:=0) (part:=(Ci.enc (Ci.mk ((nth x3 x4).club_) ((nth x3 x4).many_)))) rfl rfl (S.tm rfl) ((Lq Ci.enc_ok S (i:=0) rfl hg10 (Cn hc4).1 (Hg (e':=.own V 64 4 x3.length (x3.flatMap Ci.enc)))).kept hw))) ?_;clear S;intro a S
       obtain ⟨b11,hg11,hr11⟩:=Ft (a:=a) (x:=.tmp 37) (y:=.tmp 38) (ty:=0) Pu Ci.enc_ok S (i:=0) rfl (Cn hc5).1 (Cn hc5).2 (S.tm rfl) (S.tm rfl)
       refine Es 14 S hsel rfl rfl (by kernel_rfl) (by kernel_rfl) rfl (fun _=>(hr11 _)) ?_;clear S;intro a S
       clear hr11
       refine Qy 15 (V.ownBlock.toList) rfl (by kernel_rfl) rfl (Je (c:=0) (j:=x4.toNat) (Ci.mk ((nth x3 (W (x4 - 1))).club_) ((nth x3 (W (x4 - 1))).many_)) Ci.enc_ok S (S.tm rfl) (S.tm rfl) (i:=0) rfl hg11 (Cn hc5).1 sizeOf64 (vs:=[sV ((nth x3 (W (x4 - 1))).club_),iV (((nth x3 (W (x4 - 1))).many_).a0_),iV (((nth x3 (W (x4 - 1))).many_).a1_),iV (((nth x3 (W (x4 - 1))).many_).a2_)]) rfl rfl rfl rfl rfl ?_);clear S;intro w16 hk11 S
       refine Ld (Rd ?_)
       obtain ⟨b12,hg12,hr12⟩:=Ft (a:=a) (x:=.tmp 39) (y:=.tmp 41) (ty:=0) Pu Ci.enc_ok S (i:=0) rfl (Cn hc6).1 (Cn hc6).2 (S.tm rfl) (S.tm rfl)
       refine Cw 16 S hsel rfl rfl rfl (by kernel_rfl) (by kernel_rfl) rfl (fun _ hw=>(hr12 _)) ?_;clear S;intro a S
       clear hr12
       refine Gu 17 (by kernel_rfl) rfl (Je (c:=0) (j:=(W (x4 - 1)).toNat) (Ci.mk ((nth x3 x4).club_) ((nth x3 x4).many_)) Ci.enc_ok S (S.tm rfl) (S.tm rfl) (i:=0) rfl hg12 (Cn hc6).1 sizeOf64 (vs:=[sV ((nth x3 x4).club_),iV (((nth x3 x4).many_).a0_),iV (((nth x3 x4).many_).a1_),iV (((nth x3 x4).many_).a2_)]) rfl rfl rfl rfl rfl ?_);clear S;intro w18 hk13 S
       refine Ld (Ib hk13 (Wo (by kernel_rfl) ?_))
       clear hsel
       replace S:=(S.nl [.own V 64 4 ((x3.set x4.toNat (Ci.mk ((nth x3 (W (x4 - 1))).club_) ((nth x3 (W (x4 - 1))).many_))).set ((W (x4 - 1)).toNat) (Ci.mk ((nth x3 x4).club_) ((nth x3 x4).many_))).length (((x3.set x4.toNat (Ci.mk ((nth x3 (W (x4 - 1))).club_) ((nth x3 (W (x4 - 1))).many_))).set ((W (x4 - 1)).toNat) (Ci.mk ((nth x3 x4).club_) ((nth x3 x4).many_))).flatMap Ci.enc)] [true] rfl).k6 0 1 2 3 8 9 rfl
       exact Hf (Tn (Fg (Vm S rfl rfl fun a S=>Vq S It rfl rfl rfl fun a S=>Va S rfl rfl fun a S=>Dl (⟨m2,⟨((x3.set x4.toNat (Ci.mk ((nth x3 (W (x4 - 1))).club_) ((nth x3 (W (x4 - 1))).many_))).set ((W (x4 - 1)).toNat) (Ci.mk ((nth x3 x4).club_) ((nth x3 x4).many_))),W (x4 - 1),h,S.nf [true] rfl ⟨rfl,rfl,rfl,rfl,rfl,rfl,trivial⟩⟩,Nat.lt_succ_self _⟩))))
      ·exact wp_exit (De (De (Fk (Tn (⟨x3,h,S.nf [true] rfl (subR rfl)⟩)))))
    clear S h;rintro a w4 ⟨x3,h,S⟩;rw [hj2] at h;clear hj2 j2
    exact Hf (Tn (Fg (Vm S rfl rfl fun a S=>Vq S Eh rfl rfl rfl fun a S=>Va S rfl rfl fun a S=>Dl (⟨m1,⟨x3,W (x2 + 1),h,S.nf [true] rfl ⟨rfl,rfl,rfl,rfl,rfl,trivial⟩⟩,Nat.lt_succ_self _⟩))))
   ·exact wp_exit (De (De (Fk (Tn (⟨x1,h,S.nf [true] rfl trivial⟩)))))
 clear S h;rintro a w2 ⟨x1,h,S⟩;rw [hj1] at h;clear hj1 j1
 obtain rfl:=Option.some.inj h
 exact Rc S results68 ⟨(S.holds _ (List.mem_of_getElem? (i:=0) rfl)),rfl⟩
end Go.Proofs.YtocmlionnalaaaaGreatDoor
