/- Each Go function computes its plain twin,by program. -/
import Derived.Test.YtfdmkmnjfhbliaaGreatDoorTab
import Derived.Test.YtfdmkmnjfhbliaaGreatDoorLay
import Derived.Test.YtfdmkmnjfhbliaaGreatDoorSeq
namespace Go.Proofs.YtfdmkmnjfhbliaaGreatDoor
open Go
open Go.Proofs.Tryz
theorem Xg (w : World) (Ab : Int) (Bb : Int) (r : Int) (h : Rr Ab Bb = some r) :
    Calls prog 47 [iV Ab,iV Bb].toArray w (Ret w [] fun _ v _=>v = iV r):=by
 refine Fe func47 rfl ntmps47 rfl fun a S=>?_
 unfold Rr at h
 replace S:=S.k2 0 1 rfl
 refine Fr (Vk S rfl rfl fun a S=>Dl (Fs (Fr (Vm S rfl rfl fun a S=>Vq S Es rfl rfl rfl fun a S=>Ld ?_))))
 refine Tn (Fc h (S.tm rfl) (fun hb1 h=>?_) (fun hb1 h=>?_))
 ·refine Fr (Vk S rfl rfl fun a S=>Dl (wp_ret (Dv ?_)))
  obtain rfl:=Option.some.inj h
  exact Et S results47 rfl rfl
 ·refine wp_skip (Tn (Fr (Vm S rfl rfl fun a S=>Vm S rfl rfl ?_)));clear S;intro a S
  obtain ⟨hc1,h⟩:=Ig h
  refine lv S (CM (S.tm rfl) (S.tm rfl) (Vy hc1)) rfl fun a S=>Va S rfl rfl fun a S=>Dl (Fs (Fr (Vm S rfl rfl fun a S=>Vq S Es rfl rfl rfl fun a S=>Dl ?_)))
  obtain ⟨j1,hj1,h⟩:=Eu h
  refine Eh (fun a w'=>∃ x1 : Int,j1 x1 = some r ∧ Sx w [] nov [] [(0,iV x1)] 16 a w') ?_ ?_
  ·refine Fc h (S.tm rfl) (fun hb2 h=>?_) (fun hb2 h=>?_)
   ·exact Fg (Vm S rfl rfl fun a S=>Vm S rfl rfl fun a S=>Vb S Gc rfl rfl rfl fun a S=>Va S rfl rfl fun a S=>Dl (⟨W ((Int.tmod Ab Bb) + Bb),h,S.nf [] rfl ⟨rfl,trivial⟩⟩))
   ·exact wp_skip (Tn (⟨Int.tmod Ab Bb,h,S.nf [] rfl ⟨rfl,trivial⟩⟩))
  clear S h;rintro a w1 ⟨x1,h,S⟩;rw [hj1] at h;clear hj1 j1
  refine Tn (Fr (Vm S rfl rfl fun a S=>Va S rfl rfl fun a S=>Dl (wp_ret ?_)))
  obtain rfl:=Option.some.inj h
  exact Et S results47 rfl rfl
set_option maxRecDepth 20000 in
theorem Uz (w : World) (U : Nat) (Aa : Value) (Ar : List Int) (Ap : Slc (view w [U]) 1 Aa (Ar.map eInt)) (Am : Int) (As : (LEnt.blk U [Aa,iV Am] 25).holds w) (Bb : Int) (r : Int × Int) (h : Rb Ar Am Bb = some r) :
    Calls prog 23 [.pointer (some ⟨U,0,none⟩),iV Bb].toArray w (Ret w [U] fun _ v w'=>(LEnt.blk U [Aa,iV r.2] 25).holds w' ∧ v = iV r.1):=by
 refine Lb [U] [.blk U [Aa,iV Am] 25] func23 rfl ntmps23 rfl (fun e he=>by simp only [List.mem_singleton] at he;subst he;exact As) (by simp [fps,LEnt.fp]) (by simp [fps,LEnt.fp]) fun a S=>?_
 unfold Rb at h
 replace S:=(S.nl [.blk U [Aa,iV Am] 25] [true] rfl).k2 0 1 rfl
 refine Fr (Vk S rfl rfl fun a S=>Dz (Vm S rfl rfl fun a S=>Vu S Lv rfl rfl fun a S=>Vf FZ S rfl rfl fun a S=>Vl isAgg3 0 S rfl rfl rfl rfl ?_));clear S;intro a S
 refine Vq S Gc rfl rfl rfl fun a S=>Vu S Lv rfl rfl fun a S=>Vf FZ S rfl rfl fun a S=>Ex S (S.tm rfl) (S.tm rfl) (i:=0) (off:=1) rfl sizeOf3 (vs:=[iV (W (Am + 1))]) rfl rfl rfl rfl ?_;clear S;intro w1 hk1 S
 refine Dl (Fs (Fr (Vm S rfl rfl fun a S=>Vu S Lv rfl rfl fun a S=>Vf JB S rfl rfl fun a S=>Vl isAgg22 0 S rfl rfl rfl rfl fun a S=>lv S (Gi Qg (S.tm rfl) (Gf Ap)) rfl fun a S=>Vq S Jk rfl rfl rfl ?_)));clear S;intro a S
 refine Ld ?_
 replace S:=(S.nl [.blk U [Aa,iV (W (Am + 1))] 25] [true] rfl).k3 0 1 19 rfl
 refine Tn (Fc h (S.tm rfl) (fun hb1 h=>?_) (fun hb1 h=>?_))
 ·refine Fr (Vm S rfl rfl fun a S=>Vu S Lv rfl rfl fun a S=>Vf FZ S rfl rfl fun a S=>Vl isAgg3 0 S rfl rfl rfl rfl fun a S=>Vq S Vx rfl rfl rfl fun a S=>Vm S rfl rfl ?_);clear S;intro a S
  obtain ⟨r1,hr1,h⟩:=Fa h
  refine Eb S (fun _=>Dq (vs:=[iV (W ((W (Am + 1)) * 7919)),iV Bb]) ⟨(S.tm rfl),(S.tm rfl),trivial⟩ call47) (Xg _ (W ((W (Am + 1)) * 7919)) Bb _ hr1) rfl ?_;clear S;intro v1 a w2 hv1 hk2 hn1 S
  subst hv1
  refine Va S rfl rfl fun a S=>Dl (wp_ret (Dv ?_))
  obtain rfl:=Option.some.inj h
  exact Et S results23 rfl ⟨(S.holds _ (List.mem_of_getElem? (i:=0) rfl)),rfl⟩
 ·refine wp_skip (Tn (Fs (Gt [] ([]) Tryz.mixed S rfl (by kernel_rfl) ?_)));clear S;intro w3 hk3 hsel S
  refine Li [0,1,2,3,4,5,6,7,8,9,10,11] hsel (by kernel_rfl) rfl ?_
  clear hsel
  refine Gp S rfl (Rm (S.tm rfl)) rfl fun a S=>Gp S rfl (Lv (S.tm rfl)) rfl fun a S=>Gp S rfl (Gd FZ (S.tm rfl)) rfl fun a S=>Gp S rfl (Nf isAgg3 (S.tm rfl) (S.cell (i:=0) rfl rfl)) rfl fun a S=>Gp S rfl (Iw (S.tm rfl) rfl) rfl fun a S=>Gp S rfl (Rm (S.tm rfl)) rfl fun a S=>Gp S rfl (Lv (S.tm rfl)) rfl fun a S=>Gp S rfl (Gd JB (S.tm rfl)) rfl fun a S=>Gp S rfl (Nf isAgg22 (S.tm rfl) (S.cell (i:=0) rfl rfl)) rfl fun a S=>Gp S rfl (Gi Qg (S.tm rfl) (Gf Ap)) rfl ?_;clear S;intro a S
  obtain ⟨hc1,h⟩:=Ig h
  refine Gp S rfl (CM (S.tm rfl) (S.tm rfl) (Vy hc1)) rfl fun a S=>Gp S rfl (Ra (S.tm rfl)) rfl fun a S=>Ij ?_
  replace S:=S.k3 0 1 5 rfl
  refine Tn (Fs (Gt [] ([]) Tryz.mixed S rfl (by kernel_rfl) ?_));clear S;intro w4 hk4 hsel S
  refine Li [0,1,2,3,4,5,6,7,8,9,10,11] hsel (by kernel_rfl) rfl ?_
  clear hsel
  refine Gp S rfl (Rm (S.tm rfl)) rfl fun a S=>Gp S rfl (Lv (S.tm rfl)) rfl fun a S=>Gp S rfl (Gd FZ (S.tm rfl)) rfl fun a S=>Gp S rfl (Nf isAgg3 (S.tm rfl) (S.cell (i:=0) rfl rfl)) rfl fun a S=>Gp S rfl (Iw (S.tm rfl) rfl) rfl fun a S=>Gp S rfl (Rm (S.tm rfl)) rfl fun a S=>Gp S rfl (Lv (S.tm rfl)) rfl fun a S=>Gp S rfl (Gd JB (S.tm rfl)) rfl fun a S=>Gp S rfl (Nf isAgg22 (S.tm rfl) (S.cell (i:=0) rfl rfl)) rfl fun a S=>Gp S rfl (Gi Qg (S.tm rfl) (Gf Ap)) rfl ?_;clear S;intro a S
  obtain ⟨hc2,h⟩:=Ig h
  refine Gp S rfl (EY (S.tm rfl) (S.tm rfl) (Vy hc2)) rfl fun a S=>Gp S rfl (Ra (S.tm rfl)) rfl fun a S=>Ij ?_
  replace S:=S.k4 0 1 5 6 rfl
  refine Tn (Fr (Vm S rfl rfl fun a S=>Vu S Lv rfl rfl fun a S=>Vf JB S rfl rfl fun a S=>Vl isAgg22 0 S rfl rfl rfl rfl fun a S=>Vm S rfl rfl ?_));clear S;intro a S
  obtain ⟨hc3,h⟩:=Ig h
  obtain ⟨b1,o1,hm1,hr2⟩:=Fk (a:=a) (x:=.tmp 52) (y:=.tmp 53) (ty:=0) Qg Ap (Dw hc3).1 (Dw hc3).2 (S.tm rfl) (S.tm rfl)
  refine lv S (hr2 _) rfl ?_;clear S;intro a S
  clear hr2
  refine lv S (Hx isAgg3 (off:=o1) (o:=0) (S.tm rfl) (hm1.at S.emb0) rfl) rfl ?_;clear S;intro a S
  obtain ⟨r2,hr3,h⟩:=Fa h
  refine Eb S (fun _=>Dq (vs:=[iV (nth Ar (Int.tmod (W ((W (Am + 1)) - 1)) (Ar.length : Int))),iV 1073741824]) ⟨(S.tm rfl),rfl,trivial⟩ call47) (Xg _ (nth Ar (Int.tmod (W ((W (Am + 1)) - 1)) (Ar.length : Int))) 1073741824 _ hr3) rfl ?_;clear S;intro v2 a w5 hv2 hk5 hn2 S
  subst hv2
  refine Vm S rfl rfl fun a S=>Vm S rfl rfl fun a S=>Vu S (Gc rfl) rfl rfl fun a S=>Vb S Vx rfl rfl rfl fun a S=>Vb S Gc rfl rfl rfl fun a S=>Vm S rfl rfl ?_;clear S;intro a S
  obtain ⟨r3,hr4,h⟩:=Fa h
  refine Eb S (fun _=>Dq (vs:=[iV (W (r2 + (W ((W (Int.tdiv (W ((W (Am + 1)) - 1)) (Ar.length : Int))) * (W (7919 + (Int.tmod (W ((W (Am + 1)) - 1)) (Ar.length : Int)))))))),iV Bb]) ⟨(S.tm rfl),(S.tm rfl),trivial⟩ call47) (Xg _ (W (r2 + (W ((W (Int.tdiv (W ((W (Am + 1)) - 1)) (Ar.length : Int))) * (W (7919 + (Int.tmod (W ((W (Am + 1)) - 1)) (Ar.length : Int)))))))) Bb _ hr4) rfl ?_;clear S;intro v3 a w6 hv3 hk6 hn3 S
  subst hv3
  refine Va S rfl rfl fun a S=>Ld ?_
  replace S:=S.k1 4 rfl
  refine Tn (wp_ret ?_)
  obtain rfl:=Option.some.inj h
  exact Et S results23 rfl ⟨(S.holds _ (List.mem_of_getElem? (i:=0) rfl)),rfl⟩
theorem Zj (w : World) (U : Nat) (Aa : Value) (Ar : List Int) (Ap : Slc (view w [U]) 1 Aa (Ar.map eInt)) (Am : Int) (As : (LEnt.blk U [Aa,iV Am] 25).holds w) (Bb : Int) (r : Bool × Int) (h : Tm Ar Am Bb = some r) :
    Calls prog 36 [.pointer (some ⟨U,0,none⟩),iV Bb].toArray w (Ret w [U] fun _ v w'=>(LEnt.blk U [Aa,iV r.2] 25).holds w' ∧ v = bV r.1):=by
 refine Lb [U] [.blk U [Aa,iV Am] 25] func36 rfl ntmps36 rfl (fun e he=>by simp only [List.mem_singleton] at he;subst he;exact As) (by simp [fps,LEnt.fp]) (by simp [fps,LEnt.fp]) fun a S=>?_
 unfold Tm at h
 replace S:=(S.nl [.blk U [Aa,iV Am] 25] [true] rfl).k2 0 1 rfl
 refine Fr (Vk S rfl rfl fun a S=>Dz (Vm S rfl rfl fun a S=>Vm S rfl rfl ?_));clear S;intro a S
 obtain ⟨r1,hr1,h⟩:=Fa h
 refine Hu 0 S (b:=U) rfl rfl (fun _=>.blk U [Aa,iV r1.2] 25) (fun _=>Dq (vs:=[.pointer (some ⟨U,0,none⟩),iV Bb]) ⟨(S.tm rfl),(S.tm rfl),trivial⟩ call23) (Uz _ U Aa Ar (Ap.mono (S.le_arg (Jn (i:=0) (e:=.blk U [Aa,iV Am] 25) rfl))) Am (S.holds _ (List.mem_of_getElem? (i:=0) rfl)) Bb _ hr1) rfl (fun _ _ _ h=>⟨h.1,fun _ hc=>by cases hc;rfl⟩) ?_;clear S;intro v1 a w1 hv1 hk1 hn1 S
 replace hv1:=hv1.2
 subst hv1
 refine Vq S Jk rfl rfl rfl fun a S=>Va S rfl rfl fun a S=>Dl (wp_ret ?_)
 obtain rfl:=Option.some.inj h
 exact Et S results36 rfl ⟨(S.holds _ (List.mem_of_getElem? (i:=0) rfl)),rfl⟩
theorem Jy (w : World) (U : Nat) (Aa : Value) (Ar : List Int) (Ap : Slc (view w [U]) 1 Aa (Ar.map eInt)) (Am : Int) (As : (LEnt.blk U [Aa,iV Am] 25).holds w) (Ac : Value) (Aj : List Int) (Ai : Slc (view w [U]) 1 Ac (Aj.map eInt)) (r : Int × Int) (h : Kk Ar Am Aj = some r) :
    Calls prog 38 [.pointer (some ⟨U,0,none⟩),Ac].toArray w (Ret w [U] fun _ v w'=>(LEnt.blk U [Aa,iV r.2] 25).holds w' ∧ v = iV r.1):=by
 refine Lb [U] [.blk U [Aa,iV Am] 25] func38 rfl ntmps38 rfl (fun e he=>by simp only [List.mem_singleton] at he;subst he;exact As) (by simp [fps,LEnt.fp]) (by simp [fps,LEnt.fp]) fun a S=>?_
 unfold Kk at h
 replace S:=(S.nl [.blk U [Aa,iV Am] 25] [true] rfl).k2 0 1 rfl
 refine Fr (Vk S rfl rfl fun a S=>Dl (Fs (Fg ?_)))
 iterate 3 (refine Vm S rfl rfl ?_;clear S;intro a S)
 refine lv S (Gi Qg (S.tm rfl) (Gf Ai)) rfl ?_;clear S;intro a S
 obtain ⟨r1,hr1,h⟩:=Fa h
 refine Hu 0 S (b:=U) rfl rfl (fun _=>.blk U [Aa,iV r1.2] 25) (fun _=>Dq (vs:=[.pointer (some ⟨U,0,none⟩),iV (Aj.length : Int)]) ⟨(S.tm rfl),(S.tm rfl),trivial⟩ call23) (Uz _ U Aa Ar (Ap.mono (S.le_arg (Jn (i:=0) (e:=.blk U [Aa,iV Am] 25) rfl))) Am (S.holds _ (List.mem_of_getElem? (i:=0) rfl)) (Aj.length : Int) _ hr1) rfl (fun _ _ _ h=>⟨h.1,fun _ hc=>by cases hc;rfl⟩) ?_;clear S;intro v1 a w1 hv1 hk1 hn1 S
 replace hv1:=hv1.2
 subst hv1
 obtain ⟨hc1,h⟩:=Ig h
 obtain ⟨b1,o1,hm1,hr2⟩:=Fk (a:=a) (x:=.tmp 5) (y:=.tmp 9) (ty:=0) Qg Ai (Dw hc1).1 (Dw hc1).2 (S.tm rfl) (S.tm rfl)
 refine lv S (hr2 _) rfl ?_;clear S;intro a S
 clear hr2
 refine lv S (Hx isAgg3 (off:=o1) (o:=0) (S.tm rfl) (hm1.at S.emb0) rfl) rfl fun a S=>Va S rfl rfl fun a S=>Dl (wp_ret ?_)
 obtain rfl:=Option.some.inj h
 exact Et S results38 rfl ⟨(S.holds _ (List.mem_of_getElem? (i:=0) rfl)),rfl⟩
theorem FE (w : World) (U : Nat) (Aa : Value) (Ar : List Int) (Ap : Slc (view w [U]) 1 Aa (Ar.map eInt)) (Am : Int) (As : (LEnt.blk U [Aa,iV Am] 25).holds w) (Br : ByteArray) (r : Du × Int) (h : Tz Ar Am Br = some r) :
    Calls prog 37 [.pointer (some ⟨U,0,none⟩),sV Br].toArray w (Ret w [U] fun _ v w'=>(LEnt.blk U [Aa,iV r.2] 25).holds w' ∧ v = .agg (Du.enc r.1).toArray):=by
 refine Lb [U] [.blk U [Aa,iV Am] 25] func37 rfl ntmps37 rfl (fun e he=>by simp only [List.mem_singleton] at he;subst he;exact As) (by simp [fps,LEnt.fp]) (by simp [fps,LEnt.fp]) fun a S=>?_
 unfold Tz at h
 replace S:=(S.nl [.blk U [Aa,iV Am] 25] [true] rfl).k2 0 1 rfl
 refine Fr (Hq S zeroValue40 (cs:=[sV An,iV 0,iV 0,iV 0,iV 0,iV 0,iV 0,iV 0]) rfl rfl ?_);clear S;intro a w1 b1 hz1 hk1 S
 refine Dz (Vm S rfl rfl fun a S=>Vm S rfl rfl fun a S=>Ey S underlying22 sizeOf3 zeroValue3 rfl rfl (pv:=[(0,iV 50),(1,iV 100),(2,iV 200)]) ⟨rfl,rfl,rfl,rfl,rfl,rfl,trivial⟩ (cs:=[iV 50,iV 100,iV 200]) (by kernel_rfl) rfl ?_);clear S;intro a w2 b2 hz2 hk2 S
 obtain ⟨r1,hr1,h⟩:=Fa h
 refine Hu 2 S (b:=U) rfl rfl (fun _=>.blk U [Aa,iV r1.2] 25) (fun _=>Dq (vs:=[.pointer (some ⟨U,0,none⟩),.slice (some ⟨b2,0,none⟩) 3 3]) ⟨(S.tm rfl),(S.tm rfl),trivial⟩ call38) (Jy _ U Aa Ar (Ap.mono (S.le_arg (Jn (i:=2) (e:=.blk U [Aa,iV Am] 25) rfl))) Am (S.holds _ (List.mem_of_getElem? (i:=2) rfl)) (.slice (some ⟨b2,0,none⟩) 3 3) [50,100,200] (Lg Jf S (i:=0) rfl rfl rfl rfl ((Nc (i:=2) (j:=0) (e:=.blk U [Aa,iV Am] 25) (e':=.blk b2 [iV 50,iV 100,iV 200] 3) S rfl rfl rfl) _ rfl)) _ hr1) rfl (fun _ _ _ h=>⟨h.1,fun _ hc=>by cases hc;rfl⟩) ?_;clear S;intro v1 a w3 hv1 hk3 hn1 S
 replace hv1:=hv1.2
 subst hv1
 refine Vm S rfl rfl fun a S=>Ey S underlying22 sizeOf3 zeroValue3 rfl rfl (pv:=[(0,iV 1),(1,iV 2),(2,iV 3),(3,iV 4)]) ⟨rfl,rfl,rfl,rfl,rfl,rfl,rfl,rfl,trivial⟩ (cs:=[iV 1,iV 2,iV 3,iV 4]) (by kernel_rfl) rfl ?_;clear S;intro a w4 b3 hz3 hk4 S
 obtain ⟨r2,hr2,h⟩:=Fa h
 refine Hu 3 S (b:=U) rfl rfl (fun _=>.blk U [Aa,iV r2.2] 25) (fun _=>Dq (vs:=[.pointer (some ⟨U,0,none⟩),.slice (some ⟨b3,0,none⟩) 4 4]) ⟨(S.tm rfl),(S.tm rfl),trivial⟩ call38) (Jy _ U Aa Ar (Ap.mono (S.le_arg (Jn (i:=3) (e:=.blk U [Aa,iV r1.2] 25) rfl))) r1.2 (S.holds _ (List.mem_of_getElem? (i:=3) rfl)) (.slice (some ⟨b3,0,none⟩) 4 4) [1,2,3,4] (Lg Jf S (i:=0) rfl rfl rfl rfl ((Nc (i:=3) (j:=0) (e:=.blk U [Aa,iV r1.2] 25) (e':=.blk b3 [iV 1,iV 2,iV 3,iV 4] 3) S rfl rfl rfl) _ rfl)) _ hr2) rfl (fun _ _ _ h=>⟨h.1,fun _ hc=>by cases hc;rfl⟩) ?_;clear S;intro v2 a w5 hv2 hk5 hn2 S
 replace hv2:=hv2.2
 subst hv2
 refine Vm S rfl rfl fun a S=>Ey S underlying22 sizeOf3 zeroValue3 rfl rfl (pv:=[(0,iV 25),(1,iV 50)]) ⟨rfl,rfl,rfl,rfl,trivial⟩ (cs:=[iV 25,iV 50]) (by kernel_rfl) rfl ?_;clear S;intro a w6 b4 hz4 hk6 S
 obtain ⟨r3,hr3,h⟩:=Fa h
 refine Hu 4 S (b:=U) rfl rfl (fun _=>.blk U [Aa,iV r3.2] 25) (fun _=>Dq (vs:=[.pointer (some ⟨U,0,none⟩),.slice (some ⟨b4,0,none⟩) 2 2]) ⟨(S.tm rfl),(S.tm rfl),trivial⟩ call38) (Jy _ U Aa Ar (Ap.mono (S.le_arg (Jn (i:=4) (e:=.blk U [Aa,iV r2.2] 25) rfl))) r2.2 (S.holds _ (List.mem_of_getElem? (i:=4) rfl)) (.slice (some ⟨b4,0,none⟩) 2 2) [25,50] (Lg Jf S (i:=0) rfl rfl rfl rfl ((Nc (i:=4) (j:=0) (e:=.blk U [Aa,iV r2.2] 25) (e':=.blk b4 [iV 25,iV 50] 3) S rfl rfl rfl) _ rfl)) _ hr3) rfl (fun _ _ _ h=>⟨h.1,fun _ hc=>by cases hc;rfl⟩) ?_;clear S;intro v3 a w7 hv3 hk7 hn3 S
 replace hv3:=hv3.2
 subst hv3
 refine Vm S rfl rfl fun a S=>Ey S underlying22 sizeOf3 zeroValue3 rfl rfl (pv:=[(0,iV 1),(1,iV 1),(2,iV 1),(3,iV 4)]) ⟨rfl,rfl,rfl,rfl,rfl,rfl,rfl,rfl,trivial⟩ (cs:=[iV 1,iV 1,iV 1,iV 4]) (by kernel_rfl) rfl ?_;clear S;intro a w8 b5 hz5 hk8 S
 obtain ⟨r4,hr4,h⟩:=Fa h
 refine Hu 5 S (b:=U) rfl rfl (fun _=>.blk U [Aa,iV r4.2] 25) (fun _=>Dq (vs:=[.pointer (some ⟨U,0,none⟩),.slice (some ⟨b5,0,none⟩) 4 4]) ⟨(S.tm rfl),(S.tm rfl),trivial⟩ call38) (Jy _ U Aa Ar (Ap.mono (S.le_arg (Jn (i:=5) (e:=.blk U [Aa,iV r3.2] 25) rfl))) r3.2 (S.holds _ (List.mem_of_getElem? (i:=5) rfl)) (.slice (some ⟨b5,0,none⟩) 4 4) [1,1,1,4] (Lg Jf S (i:=0) rfl rfl rfl rfl ((Nc (i:=5) (j:=0) (e:=.blk U [Aa,iV r3.2] 25) (e':=.blk b5 [iV 1,iV 1,iV 1,iV 4] 3) S rfl rfl rfl) _ rfl)) _ hr4) rfl (fun _ _ _ h=>⟨h.1,fun _ hc=>by cases hc;rfl⟩) ?_;clear S;intro v4 a w9 hv4 hk9 hn4 S
 replace hv4:=hv4.2
 subst hv4
 refine Vm S rfl rfl fun a S=>Ey S underlying22 sizeOf3 zeroValue3 rfl rfl (pv:=[(0,iV 0),(1,iV 1),(2,iV 2)]) ⟨rfl,rfl,rfl,rfl,rfl,rfl,trivial⟩ (cs:=[iV 0,iV 1,iV 2]) (by kernel_rfl) rfl ?_;clear S;intro a w10 b6 hz6 hk10 S
 obtain ⟨r5,hr5,h⟩:=Fa h
 refine Hu 6 S (b:=U) rfl rfl (fun _=>.blk U [Aa,iV r5.2] 25) (fun _=>Dq (vs:=[.pointer (some ⟨U,0,none⟩),.slice (some ⟨b6,0,none⟩) 3 3]) ⟨(S.tm rfl),(S.tm rfl),trivial⟩ call38) (Jy _ U Aa Ar (Ap.mono (S.le_arg (Jn (i:=6) (e:=.blk U [Aa,iV r4.2] 25) rfl))) r4.2 (S.holds _ (List.mem_of_getElem? (i:=6) rfl)) (.slice (some ⟨b6,0,none⟩) 3 3) [0,1,2] (Lg Jf S (i:=0) rfl rfl rfl rfl ((Nc (i:=6) (j:=0) (e:=.blk U [Aa,iV r4.2] 25) (e':=.blk b6 [iV 0,iV 1,iV 2] 3) S rfl rfl rfl) _ rfl)) _ hr5) rfl (fun _ _ _ h=>⟨h.1,fun _ hc=>by cases hc;rfl⟩) ?_;clear S;intro v5 a w11 hv5 hk11 hn5 S
 replace hv5:=hv5.2
 subst hv5
 refine Vm S rfl rfl fun a S=>Ey S underlying22 sizeOf3 zeroValue3 rfl rfl (pv:=[(0,iV 0),(1,iV 0),(2,iV 5),(3,iV 10)]) ⟨rfl,rfl,rfl,rfl,rfl,rfl,rfl,rfl,trivial⟩ (cs:=[iV 0,iV 0,iV 5,iV 10]) (by kernel_rfl) rfl ?_;clear S;intro a w12 b7 hz7 hk12 S
 obtain ⟨r6,hr6,h⟩:=Fa h
 refine Hu 7 S (b:=U) rfl rfl (fun _=>.blk U [Aa,iV r6.2] 25) (fun _=>Dq (vs:=[.pointer (some ⟨U,0,none⟩),.slice (some ⟨b7,0,none⟩) 4 4]) ⟨(S.tm rfl),(S.tm rfl),trivial⟩ call38) (Jy _ U Aa Ar (Ap.mono (S.le_arg (Jn (i:=7) (e:=.blk U [Aa,iV r5.2] 25) rfl))) r5.2 (S.holds _ (List.mem_of_getElem? (i:=7) rfl)) (.slice (some ⟨b7,0,none⟩) 4 4) [0,0,5,10] (Lg Jf S (i:=0) rfl rfl rfl rfl ((Nc (i:=7) (j:=0) (e:=.blk U [Aa,iV r5.2] 25) (e':=.blk b7 [iV 0,iV 0,iV 5,iV 10] 3) S rfl rfl rfl) _ rfl)) _ hr6) rfl (fun _ _ _ h=>⟨h.1,fun _ hc=>by cases hc;rfl⟩) ?_;clear S;intro v6 a w13 hv6 hk13 hn6 S
 replace hv6:=hv6.2
 subst hv6
 refine lv S (Nl TH (pv:=[(0,sV Br),(1,iV r1.1),(2,iV r2.1),(3,iV r3.1),(4,iV r4.1),(5,iV r5.1),(6,iV r6.1)]) ⟨rfl,(S.tm rfl),rfl,(S.tm rfl),rfl,(S.tm rfl),rfl,(S.tm rfl),rfl,(S.tm rfl),rfl,(S.tm rfl),rfl,(S.tm rfl),trivial⟩ (cs:=[sV Br,iV r1.1,iV r2.1,iV r3.1,iV r4.1,iV r5.1,iV r6.1,iV 0]) (by kernel_rfl)) rfl fun a S=>Hq S zeroValue40 (cs:=[sV An,iV 0,iV 0,iV 0,iV 0,iV 0,iV 0,iV 0]) rfl rfl ?_;clear S;intro a w14 b8 hz8 hk14 S
 refine Ex S (S.tm rfl) (S.tm rfl) (i:=0) (off:=0) rfl sizeOf40 (vs:=(Du.enc (Du.mk Br r1.1 r2.1 r3.1 r4.1 r5.1 r6.1 0))) rfl rfl rfl rfl ?_;clear S;intro w15 hk15 S
 refine Ld ?_
 replace S:=(S.nl [.blk b8 (Du.enc (Du.mk Br r1.1 r2.1 r3.1 r4.1 r5.1 r6.1 0)) 40,.blk b1 (Du.enc (Du.mk An 0 0 0 0 0 0 0)) 40,.blk U [Aa,iV r6.2] 25] [true,false,false,false,false,false,false,true,true] rfl).k3 0 4 5 rfl
 refine Tn (Fs ?_)
 obtain ⟨r7,hr7,h⟩:=Fa h
 refine Gt [7] ([U]) Tryz.mixed S rfl (by kernel_rfl) ?_;clear S;intro w19 hk19 hsel S
 refine Ew 0 S hsel rfl rfl (by kernel_rfl) (by kernel_rfl) rfl (fun _=>(Gd NR (S.tm rfl))) fun a S=>Ea 1 S hsel rfl (by kernel_rfl) (by kernel_rfl) (by kernel_rfl) (by kernel_rfl) rfl (fun _ hw=>(Hx isAgg3 (off:=0) (o:=6) (S.tm rfl) ((S.blk_mem (i:=0) (cells:=(Du.enc (Du.mk Br r1.1 r2.1 r3.1 r4.1 r5.1 r6.1 0))) (b:=b8) (T:=40) rfl (Nc (i:=2) (j:=0) (e:=.blk U [Aa,iV r6.2] 25) (e':=.blk b8 (Du.enc (Du.mk Br r1.1 r2.1 r3.1 r4.1 r5.1 r6.1 0)) 40) S rfl rfl rfl)).kept hw) rfl)) fun a S=>Ew 2 S hsel rfl rfl (by kernel_rfl) (by kernel_rfl) rfl (fun _=>(Rm (S.tm rfl))) fun a S=>Hb 3 (by kernel_rfl) rfl (Ey S underlying22 sizeOf3 zeroValue3 rfl rfl (pv:=[(0,iV 0),(1,iV 5),(2,iV 90)]) ⟨rfl,rfl,rfl,rfl,rfl,rfl,trivial⟩ (cs:=[iV 0,iV 5,iV 90]) (by kernel_rfl) rfl ?_);clear S;intro a w20 b10 hz10 hk20 S
 refine Ld (Hy (Keep.none hk20) (Hb 4 (by kernel_rfl) rfl ?_))
 refine Hu 3 S (b:=U) rfl rfl (fun _=>.blk U [Aa,iV r7.2] 25) (fun _=>Dq (vs:=[.pointer (some ⟨U,0,none⟩),.slice (some ⟨b10,0,none⟩) 3 3]) ⟨(S.tm rfl),(S.tm rfl),trivial⟩ call38) (Jy _ U Aa Ar (Ap.mono (S.le_arg (Jn (i:=3) (e:=.blk U [Aa,iV r6.2] 25) rfl))) r6.2 (S.holds _ (List.mem_of_getElem? (i:=3) rfl)) (.slice (some ⟨b10,0,none⟩) 3 3) [0,5,90] (Lg Jf S (i:=0) rfl rfl rfl rfl ((Nc (i:=3) (j:=0) (e:=.blk U [Aa,iV r6.2] 25) (e':=.blk b10 [iV 0,iV 5,iV 90] 3) S rfl rfl rfl) _ rfl)) _ hr7) rfl (fun _ _ _ h=>⟨h.1,fun _ hc=>by cases hc;rfl⟩) ?_;clear S;intro v8 a w21 hv8 hk21 hn8 S
 replace hv8:=hv8.2
 subst hv8
 refine Ld (Hy hk21 (Ew 5 S hsel rfl rfl (by kernel_rfl) (by kernel_rfl) rfl (fun _=>(Gc (S.tm rfl) (S.tm rfl))) fun a S=>Ew 6 S hsel rfl rfl (by kernel_rfl) (by kernel_rfl) rfl (fun _=>(Gd NS (S.tm rfl))) fun a S=>Vg 7 ([U] ++ [b8]) rfl (by kernel_rfl) rfl (Ex S (S.tm rfl) (S.tm rfl) (i:=1) (off:=7) rfl sizeOf3 (vs:=[iV (W (r6.1 + r7.1))]) rfl rfl rfl rfl ?_)));clear S;intro w22 hk22 S
 refine Ld (Vh (Vt (by kernel_rfl) ?_))
 clear hsel
 replace S:=(S.nl [.blk b8 (Du.enc (Du.mk Br r1.1 r2.1 r3.1 r4.1 r5.1 r6.1 (W (r6.1 + r7.1)))) 40,.blk b1 (Du.enc (Du.mk An 0 0 0 0 0 0 0)) 40,.blk U [Aa,iV r7.2] 25] [false,true,true,true] rfl).k2 4 5 rfl
 refine Tn (Fr (lv S (Fb isAgg40 sizeOf40 (off:=0) (o:=0) (part:=(Du.enc (Du.mk Br r1.1 r2.1 r3.1 r4.1 r5.1 r6.1 (W (r6.1 + r7.1))))) rfl rfl (S.tm rfl) (S.cellsAt (i:=0) rfl)) rfl fun a S=>Ex S (S.tm rfl) (S.tm rfl) (i:=1) (off:=0) rfl sizeOf40 (vs:=(Du.enc (Du.mk Br r1.1 r2.1 r3.1 r4.1 r5.1 r6.1 (W (r6.1 + r7.1))))) rfl rfl rfl rfl ?_));clear S;intro w23 hk23 S
 refine Dl (wp_ret ?_)
 obtain rfl:=Option.some.inj h
 exact Xo S (rs:=[.cell 4 40]) (vs:=[.agg (Du.enc (Du.mk Br r1.1 r2.1 r3.1 r4.1 r5.1 r6.1 (W (r6.1 + r7.1)))).toArray]) results37 ⟨(Tc (off:=0) S rfl isAgg40 sizeOf40 rfl (S.cellsAt (i:=1) rfl)),trivial⟩ rfl ⟨(S.holds _ (List.mem_of_getElem? (i:=2) rfl)),rfl⟩
theorem EH (w : World) (U : Nat) (Aa : Value) (Ar : List Int) (Ap : Slc (view w [U]) 1 Aa (Ar.map eInt)) (Am : Int) (As : (LEnt.blk U [Aa,iV Am] 25).holds w) (r : (List Du) × Int) (h : Vn Ar Am = some r) :
    Calls prog 18 [.pointer (some ⟨U,0,none⟩)].toArray w (Ret w [U] fun τ v w'=>(LEnt.blk U [Aa,iV r.2] 25).holds w' ∧ Uq τ 40 8 v r.1.length (r.1.flatMap Du.enc)):=by
 refine Lb [U] [.blk U [Aa,iV Am] 25] func18 rfl ntmps18 rfl (fun e he=>by simp only [List.mem_singleton] at he;subst he;exact As) (by simp [fps,LEnt.fp]) (by simp [fps,LEnt.fp]) fun a S=>?_
 unfold Vn at h
 replace S:=(S.nl [.blk U [Aa,iV Am] 25] [true] rfl).k1 0 rfl
 refine Fr (Vk S rfl rfl fun a S=>Dz (Vk S rfl rfl ?_));clear S;intro a S
 replace S:=S.nil 40 8
 refine Dl (Fs (Fr (Ey S underlying95 sizeOf9 zeroValue9 rfl rfl (pv:=[(0,sV Rq),(1,sV Uu),(2,sV Xl)]) ⟨rfl,rfl,rfl,rfl,rfl,rfl,trivial⟩ (cs:=[sV Rq,sV Uu,sV Xl]) (by kernel_rfl) rfl ?_)));clear S;intro a w1 b1 hz1 hk1 S
 refine lv S (Gi TA (S.tm rfl) ⟨_,_,rfl⟩) rfl fun a S=>lv S (Rm rfl) rfl fun a S=>Dl ?_
 replace S:=(S.nl [.blk b1 [sV Rq,sV Uu,sV Xl] 9,.own (.slice none 0 0) 40 8 ([] : List Du).length (([] : List Du).flatMap Du.enc),.blk U [Aa,iV Am] 25] [true,true,true] rfl).k5 0 3 6 7 8 rfl
 replace S:=S.litOwn (i:=0) (xs:=[Rq,Uu,Xl]) rfl Wi rfl rfl rfl
 replace S:=S.nk [.own (.slice (some ⟨b1,0,none⟩) 3 3) 9 1 ([Rq,Uu,Xl] : List ByteArray).length (([Rq,Uu,Xl] : List ByteArray).flatMap VA),.own (.slice none 0 0) 40 8 ([] : List Du).length (([] : List Du).flatMap Du.enc),.blk U [Aa,iV Am] 25] [(0,.pointer (some ⟨U,0,none⟩)),(3,(.slice none 0 0)),(6,(.slice (some ⟨b1,0,none⟩) 3 3)),(7,iV (([Rq,Uu,Xl] : List ByteArray).length : Int)),(8,iV 0)] [] rfl (subR rfl)
 obtain ⟨φ1,hl1,hs1,S⟩:=S.freezeT (xs:=([Rq,Uu,Xl] : List ByteArray)) (enc:=VA) (i:=0) rfl (fun c hc hh=>DV S (i:=2) rfl rfl (j:=0) rfl rfl (by simp at hc;subst hc;exact hh))
 replace S:=S.nk [.own (.slice none 0 0) 40 8 ([] : List Du).length (([] : List Du).flatMap Du.enc),.blk U [Aa,iV Am] 25] [(0,.pointer (some ⟨U,0,none⟩)),(3,(.slice none 0 0)),(6,(.slice (some ⟨b1,0,none⟩) 3 3)),(7,iV (([Rq,Uu,Xl] : List ByteArray).length : Int)),(8,iV 0)] [] rfl (subR rfl)
 obtain ⟨j1,hj1,h⟩:=Eu h
 refine Eh (fun a w'=>∃ x1 : List Du,∃ x2 : Int,∃ v1 : Value,j1 x1 x2 = some r ∧ Sx w [U] φ1 [.own v1 40 8 x1.length (x1.flatMap Du.enc),.blk U [Aa,iV x2] 25] [(3,v1)] 23 a w') ?_ ?_
 ·refine wp_block (Gr (fun (ys1 : List ByteArray) a w'=>∃ i1 : Nat,∃ x1 : List Du,∃ x2 : Int,∃ v1 : Value,(∃ dn,([Rq,Uu,Xl] : List ByteArray) = dn ++ ys1 ∧ dn.length = i1) ∧ Lf Ar j1 ys1 i1 x1 x2 = some r ∧ Sx w [U] φ1 [.own v1 40 8 x1.length (x1.flatMap Du.enc),.blk U [Aa,iV x2] 25] [(0,.pointer (some ⟨U,0,none⟩)),(3,v1),(6,(.slice (some ⟨b1,0,none⟩) 3 3)),(7,iV (([Rq,Uu,Xl] : List ByteArray).length : Int)),(8,iV (i1 : Int))] 23 a w') List.length ([Rq,Uu,Xl] : List ByteArray) ⟨0,([] : List Du),Am,(.slice none 0 0),⟨[],rfl,rfl⟩,h,S.nf [true,true] rfl (subR rfl)⟩ ?_)
  clear S h;rintro ys1 a w2 ⟨i1,x1,x2,v1,⟨dn,hd1,hi1⟩,h,S⟩
  cases ys1 with
  | nil =>
   rw [Lf.eq_1] at h
   refine Fr (Vb S Es rfl rfl rfl fun a S=>Ld ?_)
   replace S:=S.k6 0 3 6 7 8 9 rfl
   exact Tn (Fs (wp_cond_false ((S.tm rfl).trans (congrArg Value.bool (Jd hd1 hi1))) (wp_exit (Ed (Ed (Gn (Tn (⟨x1,x2,v1,h,S.nf [true,true] rfl ⟨rfl,trivial⟩⟩))))))))
  | cons y1 ys1 =>
   rw [Lf.eq_2] at h
   refine Fr (Vb S Es rfl rfl rfl fun a S=>Ld ?_)
   replace S:=S.k6 0 3 6 7 8 9 rfl
   refine Tn (Fs (wp_cond_true ((S.tm rfl).trans (congrArg Value.bool (Ia hd1 hi1))) (wp_skip (Tn (Fs ?_)))))
   obtain ⟨j2,hj2,h⟩:=Eu h
   refine Eh (fun a w'=>∃ x3 : List Du,∃ x4 : Int,∃ v2 : Value,j2 x3 x4 = some r ∧ Sx w [U] φ1 [.own v2 40 8 x3.length (x3.flatMap Du.enc),.blk U [Aa,iV x4] 25] [(0,.pointer (some ⟨U,0,none⟩)),(3,v2),(6,(.slice (some ⟨b1,0,none⟩) 3 3)),(7,iV (([Rq,Uu,Xl] : List ByteArray).length : Int)),(8,iV (i1 : Int))] 23 a w') ?_ ?_
   ·refine wp_block (Fs (Fg ?_))
    obtain ⟨b2,o1,hm1,hr1⟩:=Fk (a:=a) (x:=.tmp 6) (y:=.tmp 8) (ty:=0) TA (Ge Wi hs1) (Jc hd1 hi1) rfl (S.tm rfl) (S.tm rfl)
    refine lv S (hr1 _) rfl ?_;clear S;intro a S
    clear hr1
    refine lv S (Hx isAgg9 (off:=o1) (o:=0) (S.tm rfl) (hm1.at S.emb) rfl) rfl fun a S=>Va S rfl rfl fun a S=>Dz (Vm S rfl rfl ?_);clear S;intro a S
    obtain ⟨r1,hr2,h⟩:=Fa h
    refine Hu 1 S (b:=U) rfl rfl (fun _=>.blk U [Aa,iV r1.2] 25) (fun _=>Dq (vs:=[.pointer (some ⟨U,0,none⟩),iV 6]) ⟨(S.tm rfl),rfl,trivial⟩ call36) (Zj _ U Aa Ar (Ap.mono (S.le_arg (Jn (i:=1) (e:=.blk U [Aa,iV x2] 25) rfl))) x2 (S.holds _ (List.mem_of_getElem? (i:=1) rfl)) 6 _ hr2) rfl (fun _ _ _ h=>⟨h.1,fun _ hc=>by cases hc;rfl⟩) ?_;clear S;intro v3 a w5 hv1 hk2 hn1 S
    replace hv1:=hv1.2
    subst hv1
    refine Vu S Ih rfl rfl fun a S=>Dl ?_
    obtain ⟨j3,hj3,h⟩:=Eu h
    refine Eh (fun a w'=>∃ x5 : List Du,∃ x6 : Int,∃ v4 : Value,j3 x5 x6 = some r ∧ Sx w [U] φ1 [.own v4 40 8 x5.length (x5.flatMap Du.enc),.blk U [Aa,iV x6] 25] [(0,.pointer (some ⟨U,0,none⟩)),(3,v4),(6,(.slice (some ⟨b1,0,none⟩) 3 3)),(7,iV (([Rq,Uu,Xl] : List ByteArray).length : Int)),(8,iV (i1 : Int))] 23 a w') ?_ ?_
    ·refine Fc h (S.tm rfl) (fun hb1 h=>?_) (fun hb1 h=>?_)
     ·refine Fg ?_
      iterate 3 (refine Vm S rfl rfl ?_;clear S;intro a S)
      obtain ⟨r2,hr3,h⟩:=Fa h
      refine Hu 1 S (b:=U) rfl rfl (fun _=>.blk U [Aa,iV r2.2] 25) (fun _=>Dq (vs:=[.pointer (some ⟨U,0,none⟩),sV y1]) ⟨(S.tm rfl),(S.tm rfl),trivial⟩ call37) (FE _ U Aa Ar (Ap.mono (S.le_arg (Jn (i:=1) (e:=.blk U [Aa,iV r1.2] 25) rfl))) r1.2 (S.holds _ (List.mem_of_getElem? (i:=1) rfl)) y1 _ hr3) rfl (fun _ _ _ h=>⟨h.1,fun _ hc=>by cases hc;rfl⟩) ?_;clear S;intro v5 a w7 hv2 hk3 hn2 S
      replace hv2:=hv2.2
      subst hv2
      refine Ey S underlying26 sizeOf40 zeroValue40 rfl rfl (pv:=[(0,.agg (Du.enc r2.1).toArray)]) ⟨rfl,(S.tm rfl),trivial⟩ (cs:=[sV r2.1.Key,iV r2.1.Metres,iV r2.1.Stroke,iV r2.1.Course,iV r2.1.Legs,iV r2.1.Sex,iV r2.1.Young,iV r2.1.Old]) (by kernel_rfl) rfl ?_;clear S;intro a w8 b3 hz2 hk4 S
      obtain ⟨hc1,h⟩:=Ig h
      refine Ni Sh Du.enc_ok S (S.tm rfl) (i:=1) rfl (S.tm rfl) (j:=0) rfl (ys:=[r2.1]) rfl rfl rfl rfl (by have:=Nu hc1;omega) rfl ?_;clear S;intro v6 a w9 hk5 S
      refine Va S rfl rfl fun a S=>Ld ?_
      replace S:=(S.nl [.own v6 40 8 (x1 ++ [r2.1]).length ((x1 ++ [r2.1]).flatMap Du.enc),.blk U [Aa,iV r2.2] 25] [false,true,true] rfl).k5 0 3 6 7 8 rfl
      exact Tn (⟨(x1 ++ [r2.1]),r2.2,v6,h,S.nf [true,true] rfl (subR rfl)⟩)
     ·exact wp_skip (Tn (⟨x1,r1.2,v1,h,S.nf [true,true] rfl (subR rfl)⟩))
    clear S h;rintro a w6 ⟨x5,x6,v4,h,S⟩;rw [hj3] at h;clear hj3 j3
    exact Hp (Tn (⟨x5,x6,v4,h,S.nf [true,true] rfl (subR rfl)⟩))
   clear S h;rintro a w4 ⟨x3,x4,v2,h,S⟩;rw [hj2] at h;clear hj2 j2
   exact Tn (Fg (Vq S Gc rfl rfl rfl fun a S=>Vm S rfl rfl fun a S=>Dl (⟨ys1,⟨i1 + 1,x3,x4,v2,⟨_,(hd1).trans (List.append_cons _ _ _),by simp [hi1]⟩,h,S.nf [true,true] rfl ⟨rfl,rfl,rfl,rfl,(congrArg (fun z=>some (Value.int .i64 z)) (Ib hd1 hi1 (Jp (Ge Wi hs1)))),trivial⟩⟩,Nat.lt_succ_self _⟩)))
 clear S h;rintro a w3 ⟨x1,x2,v1,h,S⟩;rw [hj1] at h;clear hj1 j1
 refine Tn (Fr (Vm S rfl rfl fun a S=>Va S rfl rfl fun a S=>Dl (wp_ret ?_)))
 obtain rfl:=Option.some.inj h
 exact Et S results18 rfl ⟨(S.holds _ (List.mem_of_getElem? (i:=1) rfl)),(OS S (i:=0) rfl (fun c hc hh=>DV S (i:=1) rfl rfl (j:=0) rfl rfl (by simp at hc;subst hc;exact hh)))⟩
theorem Qr (w : World) (U : Nat) (Aa : Value) (Ar : List Int) (Ap : Slc (view w [U]) 1 Aa (Ar.map eInt)) (Am : Int) (As : (LEnt.blk U [Aa,iV Am] 25).holds w) (Bp : Int) (Bi : Int) (r : Int × Int) (h : Ok Ar Am Bp Bi = some r) :
    Calls prog 6 [.pointer (some ⟨U,0,none⟩),iV Bp,iV Bi].toArray w (Ret w [U] fun _ v w'=>(LEnt.blk U [Aa,iV r.2] 25).holds w' ∧ v = iV r.1):=by
 refine Lb [U] [.blk U [Aa,iV Am] 25] func6 rfl ntmps6 rfl (fun e he=>by simp only [List.mem_singleton] at he;subst he;exact As) (by simp [fps,LEnt.fp]) (by simp [fps,LEnt.fp]) fun a S=>?_
 unfold Ok at h
 replace S:=(S.nl [.blk U [Aa,iV Am] 25] [true] rfl).k3 0 1 2 rfl
 refine Fr (Vk S rfl rfl fun a S=>Dl (Fs (Fr (Vm S rfl rfl fun a S=>Vm S rfl rfl fun a S=>Vb S Es rfl rfl rfl ?_))));clear S;intro a S
 refine Dl (Fc h (S.tm rfl) (fun hb1 h=>?_) (fun hb1 h=>?_))
 ·refine Fr (Vm S rfl rfl fun a S=>Va S rfl rfl fun a S=>Dl (wp_ret (Dv ?_)))
  obtain rfl:=Option.some.inj h
  exact Et S results6 rfl ⟨(S.holds _ (List.mem_of_getElem? (i:=0) rfl)),rfl⟩
 ·refine wp_skip (Tn (Fs (Fg ?_)))
  iterate 4 (refine Vm S rfl rfl ?_;clear S;intro a S)
  refine Vb S Iw rfl rfl rfl fun a S=>Vq S Gc rfl rfl rfl ?_;clear S;intro a S
  obtain ⟨r1,hr1,h⟩:=Fa h
  refine Hu 0 S (b:=U) rfl rfl (fun _=>.blk U [Aa,iV r1.2] 25) (fun _=>Dq (vs:=[.pointer (some ⟨U,0,none⟩),iV (W ((W (Bi - Bp)) + 1))]) ⟨(S.tm rfl),(S.tm rfl),trivial⟩ call23) (Uz _ U Aa Ar (Ap.mono (S.le_arg (Jn (i:=0) (e:=.blk U [Aa,iV Am] 25) rfl))) Am (S.holds _ (List.mem_of_getElem? (i:=0) rfl)) (W ((W (Bi - Bp)) + 1)) _ hr1) rfl (fun _ _ _ h=>⟨h.1,fun _ hc=>by cases hc;rfl⟩) ?_;clear S;intro v1 a w1 hv1 hk1 hn1 S
  replace hv1:=hv1.2
  subst hv1
  refine Vb S Gc rfl rfl rfl fun a S=>Va S rfl rfl fun a S=>Ld ?_
  replace S:=(S.nl [.blk U [Aa,iV r1.2] 25] [true] rfl).k1 6 rfl
  refine Tn (wp_ret ?_)
  obtain rfl:=Option.some.inj h
  exact Et S results6 rfl ⟨(S.holds _ (List.mem_of_getElem? (i:=0) rfl)),rfl⟩
theorem DF (w : World) (U : Nat) (Aa : Value) (Ar : List Int) (Ap : Slc (view w [U]) 1 Aa (Ar.map eInt)) (Am : Int) (As : (LEnt.blk U [Aa,iV Am] 25).holds w) (r : Jx × Int) (h : Se Ar Am = some r) :
    Calls prog 19 [.pointer (some ⟨U,0,none⟩)].toArray w (Ret w [U] fun τ v w'=>(LEnt.blk U [Aa,iV r.2] 25).holds w' ∧ ∃ q : R28,v = .agg (R28.enc q).toArray ∧ Xt τ r.1 q):=by
 refine Lb [U] [.blk U [Aa,iV Am] 25] func19 rfl ntmps19 rfl (fun e he=>by simp only [List.mem_singleton] at he;subst he;exact As) (by simp [fps,LEnt.fp]) (by simp [fps,LEnt.fp]) fun a S=>?_
 unfold Se at h
 replace S:=(S.nl [.blk U [Aa,iV Am] 25] [true] rfl).k1 0 rfl
 refine Fr (Hq S zeroValue28 (cs:=[.slice none 0 0,iV 0,iV 0]) rfl rfl ?_);clear S;intro a w1 b1 hz1 hk1 S
 replace S:=S.nil 3 1
 refine Dz (Vm S rfl rfl fun a S=>Ey S underlying22 sizeOf3 zeroValue3 rfl rfl (pv:=[(0,iV 1),(1,iV 2)]) ⟨rfl,rfl,rfl,rfl,trivial⟩ (cs:=[iV 1,iV 2]) (by kernel_rfl) rfl ?_);clear S;intro a w2 b2 hz2 hk2 S
 obtain ⟨r1,hr1,h⟩:=Fa h
 refine Hu 3 S (b:=U) rfl rfl (fun _=>.blk U [Aa,iV r1.2] 25) (fun _=>Dq (vs:=[.pointer (some ⟨U,0,none⟩),.slice (some ⟨b2,0,none⟩) 2 2]) ⟨(S.tm rfl),(S.tm rfl),trivial⟩ call38) (Jy _ U Aa Ar (Ap.mono (S.le_arg (Jn (i:=3) (e:=.blk U [Aa,iV Am] 25) rfl))) Am (S.holds _ (List.mem_of_getElem? (i:=3) rfl)) (.slice (some ⟨b2,0,none⟩) 2 2) [1,2] (Lg Jf S (i:=0) rfl rfl rfl rfl ((Nc (i:=3) (j:=0) (e:=.blk U [Aa,iV Am] 25) (e':=.blk b2 [iV 1,iV 2] 3) S rfl rfl rfl) _ rfl)) _ hr1) rfl (fun _ _ _ h=>⟨h.1,fun _ hc=>by cases hc;rfl⟩) ?_;clear S;intro v1 a w3 hv1 hk3 hn1 S
 replace hv1:=hv1.2
 subst hv1
 refine Vm S rfl rfl fun a S=>Ey S underlying22 sizeOf3 zeroValue3 rfl rfl (pv:=[(0,iV 0),(1,iV 0),(2,iV 1),(3,iV 2)]) ⟨rfl,rfl,rfl,rfl,rfl,rfl,rfl,rfl,trivial⟩ (cs:=[iV 0,iV 0,iV 1,iV 2]) (by kernel_rfl) rfl ?_;clear S;intro a w4 b3 hz3 hk4 S
 obtain ⟨r2,hr2,h⟩:=Fa h
 refine Hu 4 S (b:=U) rfl rfl (fun _=>.blk U [Aa,iV r2.2] 25) (fun _=>Dq (vs:=[.pointer (some ⟨U,0,none⟩),.slice (some ⟨b3,0,none⟩) 4 4]) ⟨(S.tm rfl),(S.tm rfl),trivial⟩ call38) (Jy _ U Aa Ar (Ap.mono (S.le_arg (Jn (i:=4) (e:=.blk U [Aa,iV r1.2] 25) rfl))) r1.2 (S.holds _ (List.mem_of_getElem? (i:=4) rfl)) (.slice (some ⟨b3,0,none⟩) 4 4) [0,0,1,2] (Lg Jf S (i:=0) rfl rfl rfl rfl ((Nc (i:=4) (j:=0) (e:=.blk U [Aa,iV r1.2] 25) (e':=.blk b3 [iV 0,iV 0,iV 1,iV 2] 3) S rfl rfl rfl) _ rfl)) _ hr2) rfl (fun _ _ _ h=>⟨h.1,fun _ hc=>by cases hc;rfl⟩) ?_;clear S;intro v2 a w5 hv2 hk5 hn2 S
 replace hv2:=hv2.2
 subst hv2
 refine lv S (Nl bt_28 (pv:=[(1,iV r1.1),(2,iV r2.1)]) ⟨rfl,(S.tm rfl),rfl,(S.tm rfl),trivial⟩ (cs:=[.slice none 0 0,iV r1.1,iV r2.1]) (by kernel_rfl)) rfl fun a S=>Hq S zeroValue28 (cs:=[.slice none 0 0,iV 0,iV 0]) rfl rfl ?_;clear S;intro a w6 b4 hz4 hk6 S
 replace S:=S.nil 3 1
 refine Ex S (S.tm rfl) (S.tm rfl) (i:=1) (off:=0) rfl sizeOf28 (vs:=[.slice none 0 0,iV r1.1,iV r2.1]) rfl rfl rfl rfl ?_;clear S;intro w7 hk7 S
 replace S:=S.nil 3 1
 refine Ld ?_
 replace S:=(S.nl [.own (.slice none 0 0) 3 1 ([] : List Int).length (([] : List Int).flatMap eInt),.blk b4 [(.slice none 0 0),iV r1.1,iV r2.1] 28,.own (.slice none 0 0) 3 1 ([] : List Int).length (([] : List Int).flatMap eInt),.blk b1 [(.slice none 0 0),iV 0,iV 0] 28,.blk U [Aa,iV r2.2] 25] [true,false,true,false,false,true,true,true] rfl).k3 0 2 3 rfl
 refine Tn (Fr (Vm S rfl rfl fun a S=>Ey S underlying22 sizeOf3 zeroValue3 rfl rfl (pv:=[(0,iV 10),(1,iV 9),(2,iV 7),(3,iV 5)]) ⟨rfl,rfl,rfl,rfl,rfl,rfl,rfl,rfl,trivial⟩ (cs:=[iV 10,iV 9,iV 7,iV 5]) (by kernel_rfl) rfl ?_));clear S;intro a w8 b5 hz5 hk8 S
 obtain ⟨r3,hr3,h⟩:=Fa h
 refine Hu 5 S (b:=U) rfl rfl (fun _=>.blk U [Aa,iV r3.2] 25) (fun _=>Dq (vs:=[.pointer (some ⟨U,0,none⟩),.slice (some ⟨b5,0,none⟩) 4 4]) ⟨(S.tm rfl),(S.tm rfl),trivial⟩ call38) (Jy _ U Aa Ar (Ap.mono (S.le_arg (Jn (i:=5) (e:=.blk U [Aa,iV r2.2] 25) rfl))) r2.2 (S.holds _ (List.mem_of_getElem? (i:=5) rfl)) (.slice (some ⟨b5,0,none⟩) 4 4) [10,9,7,5] (Lg Jf S (i:=0) rfl rfl rfl rfl ((Nc (i:=5) (j:=0) (e:=.blk U [Aa,iV r2.2] 25) (e':=.blk b5 [iV 10,iV 9,iV 7,iV 5] 3) S rfl rfl rfl) _ rfl)) _ hr3) rfl (fun _ _ _ h=>⟨h.1,fun _ hc=>by cases hc;rfl⟩) ?_;clear S;intro v3 a w9 hv3 hk9 hn3 S
 replace hv3:=hv3.2
 subst hv3
 refine Va S rfl rfl fun a S=>Ld ?_
 replace S:=(S.nl [.own (.slice none 0 0) 3 1 ([] : List Int).length (([] : List Int).flatMap eInt),.blk b4 [(.slice none 0 0),iV r1.1,iV r2.1] 28,.own (.slice none 0 0) 3 1 ([] : List Int).length (([] : List Int).flatMap eInt),.blk b1 [(.slice none 0 0),iV 0,iV 0] 28,.blk U [Aa,iV r3.2] 25] [false,true,true,true,true,true] rfl).k4 0 2 3 4 rfl
 refine Tn (Fs (Fr (Vm S rfl rfl ?_)));clear S;intro a S
 obtain ⟨r4,hr4,h⟩:=Fa h
 refine Hu 4 S (b:=U) rfl rfl (fun _=>.blk U [Aa,iV r4.2] 25) (fun _=>Dq (vs:=[.pointer (some ⟨U,0,none⟩),iV 0,iV 5]) ⟨(S.tm rfl),rfl,rfl,trivial⟩ call6) (Qr _ U Aa Ar (Ap.mono (S.le_arg (Jn (i:=4) (e:=.blk U [Aa,iV r3.2] 25) rfl))) r3.2 (S.holds _ (List.mem_of_getElem? (i:=4) rfl)) 0 5 _ hr4) rfl (fun _ _ _ h=>⟨h.1,fun _ hc=>by cases hc;rfl⟩) ?_;clear S;intro v4 a w10 hv4 hk10 hn4 S
 replace hv4:=hv4.2
 subst hv4
 refine lv S (Rm rfl) rfl fun a S=>Dl ?_
 replace S:=(S.nl [.own (.slice none 0 0) 3 1 ([] : List Int).length (([] : List Int).flatMap eInt),.blk b4 [(.slice none 0 0),iV r1.1,iV r2.1] 28,.own (.slice none 0 0) 3 1 ([] : List Int).length (([] : List Int).flatMap eInt),.blk b1 [(.slice none 0 0),iV 0,iV 0] 28,.blk U [Aa,iV r4.2] 25] [true,true,true,true,true] rfl).k6 0 2 3 4 16 17 rfl
 obtain ⟨j1,hj1,h⟩:=Eu h
 refine Eh (fun a w'=>∃ x1 : List Int,∃ x2 : Int,∃ v5 : Value,j1 x1 x2 = some r ∧ Sx w [U] nov [.own v5 3 1 x1.length (x1.flatMap eInt),.blk b4 [v5,iV r1.1,iV r2.1] 28,.own (.slice none 0 0) 3 1 ([] : List Int).length (([] : List Int).flatMap eInt),.blk b1 [(.slice none 0 0),iV 0,iV 0] 28,.blk U [Aa,iV x2] 25] [(2,.pointer (some ⟨b1,0,none⟩)),(3,.pointer (some ⟨b4,0,none⟩))] 33 a w') ?_ ?_
 ·refine wp_block (Gr (fun (m1 : Nat) a w'=>∃ x1 : List Int,∃ x2 : Int,∃ x3 : Int,∃ x4 : Int,∃ v5 : Value,Kt r4 Ar j1 m1 x1 x2 x3 x4 = some r ∧ Sx w [U] nov [.own v5 3 1 x1.length (x1.flatMap eInt),.blk b4 [v5,iV r1.1,iV r2.1] 28,.own (.slice none 0 0) 3 1 ([] : List Int).length (([] : List Int).flatMap eInt),.blk b1 [(.slice none 0 0),iV 0,iV 0] 28,.blk U [Aa,iV x2] 25] [(0,.pointer (some ⟨U,0,none⟩)),(2,.pointer (some ⟨b1,0,none⟩)),(3,.pointer (some ⟨b4,0,none⟩)),(4,iV x3),(16,iV r4.1),(17,iV x4)] 33 a w') id ((r4.1 - 0).toNat + 2) ⟨([] : List Int),r4.2,r3.1,0,(.slice none 0 0),h,S.nf [true,true,true,true,true] rfl (subR rfl)⟩ ?_)
  clear S h;rintro m1 a w11 ⟨x1,x2,x3,x4,v5,h,S⟩
  cases m1 with
  | zero=>rw [Kt.eq_1] at h;cases h
  | succ m1 =>
   rw [Kt.eq_2] at h
   refine Fr (Vb S Es rfl rfl rfl fun a S=>Dl (Fs (Fc h (S.tm rfl) (fun hb1 h=>?_) (fun hb1 h=>?_))))
   ·refine wp_skip (Tn (Fs (wp_block (Fr (Vf BT S rfl rfl fun a S=>Vl isAgg22 1 S rfl rfl rfl rfl fun a S=>Vm S rfl rfl fun a S=>Ey S underlying22 sizeOf3 zeroValue3 rfl rfl (pv:=[(0,iV x3)]) ⟨rfl,(S.tm rfl),trivial⟩ (cs:=[iV x3]) (by kernel_rfl) rfl ?_)))));clear S;intro a w13 b6 hz6 hk11 S
    obtain ⟨hc1,h⟩:=Ig h
    refine Ni Qg Jf S (S.tm rfl) (i:=1) rfl (S.tm rfl) (j:=0) rfl (ys:=[x3]) rfl rfl rfl rfl (by have:=Nu hc1;omega) rfl ?_;clear S;intro v6 a w14 hk12 S
    refine Vf BT S rfl rfl fun a S=>Ex S (S.tm rfl) (S.tm rfl) (i:=2) (off:=0) rfl sizeOf22 (vs:=[v6]) (Lp.cells (Pb (S.own_at (i:=1) rfl))) rfl rfl (Vi (Lp.one (Pb (S.own_at (i:=1) rfl))) rfl) ?_;clear S;intro w15 hk13 S
    refine Ld ?_
    replace S:=(S.nl [.own v6 3 1 (x1 ++ [x3]).length ((x1 ++ [x3]).flatMap eInt),.blk b4 [v6,iV r1.1,iV r2.1] 28,.own (.slice none 0 0) 3 1 ([] : List Int).length (([] : List Int).flatMap eInt),.blk b1 [(.slice none 0 0),iV 0,iV 0] 28,.blk U [Aa,iV x2] 25] [false,true,true,true,true,true] rfl).k6 0 2 3 4 16 17 rfl
    refine Tn (Fg (Vm S rfl rfl fun a S=>Vm S rfl rfl fun a S=>Ey S underlying22 sizeOf3 zeroValue3 rfl rfl (pv:=[(0,iV 0),(1,iV 1),(2,iV 2),(3,iV 3)]) ⟨rfl,rfl,rfl,rfl,rfl,rfl,rfl,rfl,trivial⟩ (cs:=[iV 0,iV 1,iV 2,iV 3]) (by kernel_rfl) rfl ?_));clear S;intro a w16 b7 hz7 hk14 S
    obtain ⟨r5,hr5,h⟩:=Fa h
    refine Hu 5 S (b:=U) rfl rfl (fun _=>.blk U [Aa,iV r5.2] 25) (fun _=>Dq (vs:=[.pointer (some ⟨U,0,none⟩),.slice (some ⟨b7,0,none⟩) 4 4]) ⟨(S.tm rfl),(S.tm rfl),trivial⟩ call38) (Jy _ U Aa Ar (Ap.mono (S.le_arg (Jn (i:=5) (e:=.blk U [Aa,iV x2] 25) rfl))) x2 (S.holds _ (List.mem_of_getElem? (i:=5) rfl)) (.slice (some ⟨b7,0,none⟩) 4 4) [0,1,2,3] (Lg Jf S (i:=0) rfl rfl rfl rfl ((Nc (i:=5) (j:=0) (e:=.blk U [Aa,iV x2] 25) (e':=.blk b7 [iV 0,iV 1,iV 2,iV 3] 3) S rfl rfl rfl) _ rfl)) _ hr5) rfl (fun _ _ _ h=>⟨h.1,fun _ hc=>by cases hc;rfl⟩) ?_;clear S;intro v7 a w17 hv5 hk15 hn5 S
    replace hv5:=hv5.2
    subst hv5
    refine Vb S Iw rfl rfl rfl fun a S=>Vu S (SP rfl) rfl rfl fun a S=>Va S rfl rfl fun a S=>Ld ?_
    replace S:=(S.nl [.own v6 3 1 (x1 ++ [x3]).length ((x1 ++ [x3]).flatMap eInt),.blk b4 [v6,iV r1.1,iV r2.1] 28,.own (.slice none 0 0) 3 1 ([] : List Int).length (([] : List Int).flatMap eInt),.blk b1 [(.slice none 0 0),iV 0,iV 0] 28,.blk U [Aa,iV r5.2] 25] [false,true,true,true,true,true] rfl).k6 0 2 3 4 16 17 rfl
    exact Hp (Tn (Fg (Vq S Gc rfl rfl rfl fun a S=>Vm S rfl rfl fun a S=>Dl (⟨m1,⟨(x1 ++ [x3]),r5.2,HA 0 (W (x3 - r5.1)),W (x4 + 1),v6,h,S.nf [true,true,true,true,true] rfl ⟨rfl,rfl,rfl,rfl,rfl,rfl,trivial⟩⟩,Nat.lt_succ_self _⟩))))
   ·exact wp_exit (Ed (Ed (Gn (Tn (⟨x1,x2,v5,h,S.nf [true,true,true,true,true] rfl (subR rfl)⟩)))))
 clear S h;rintro a w12 ⟨x1,x2,v5,h,S⟩;rw [hj1] at h;clear hj1 j1
 refine Tn (Fr (lv S (Fb isAgg28 sizeOf28 (off:=0) (o:=0) (part:=[v5,iV r1.1,iV r2.1]) rfl rfl (S.tm rfl) (S.cellsAt (i:=1) rfl)) rfl fun a S=>Ex S (S.tm rfl) (S.tm rfl) (i:=3) (off:=0) rfl sizeOf28 (vs:=[v5,iV r1.1,iV r2.1]) rfl rfl rfl (Vi (Lp.one (Pb (S.own_at (i:=0) rfl))) (Vi rfl (Vi rfl rfl))) ?_));clear S;intro w18 hk16 S
 refine Dl (wp_ret ?_)
 obtain ⟨φ1,hl1,hs1,S⟩:=S.freezeT (xs:=x1) (enc:=eInt) (i:=0) rfl (fun c hc hh=>DV S (i:=4) rfl rfl (j:=0) rfl rfl (by simp at hc;subst hc;exact hh))
 replace S:=S.nk [.blk b4 [v5,iV r1.1,iV r2.1] 28,.own (.slice none 0 0) 3 1 ([] : List Int).length (([] : List Int).flatMap eInt),.blk b1 [v5,iV r1.1,iV r2.1] 28,.blk U [Aa,iV x2] 25] [(2,.pointer (some ⟨b1,0,none⟩)),(3,.pointer (some ⟨b4,0,none⟩)),(32,.agg #[v5,iV r1.1,iV r2.1])] [] rfl (subR rfl)
 obtain rfl:=Option.some.inj h
 exact Xo S (rs:=[.cell 2 28]) (vs:=[.agg (R28.enc (R28.mk ⟨v5,Lp.one (Gf (Ge Jf hs1))⟩ r1.1 r2.1)).toArray]) results19 ⟨(Tc (off:=0) S rfl isAgg28 sizeOf28 rfl (S.cellsAt (i:=2) rfl)),trivial⟩ rfl ⟨(S.holds _ (List.mem_of_getElem? (i:=3) rfl)),⟨(R28.mk ⟨v5,Lp.one (Gf (Ge Jf hs1))⟩ r1.1 r2.1),rfl,Zz S.le_newer _ _ ⟨⟨v5,Lp.one (Gf (Ge Jf hs1))⟩,rfl,(Ge Jf hs1)⟩⟩⟩
theorem BU (w : World) (Ax : Value) (Ba : List Du) (Da : (LEnt.own Ax 40 8 Ba.length (Ba.flatMap Du.enc)).holds w) (r : (List Du)) (h : Qt Ba = some r) :
    Calls prog 20 [Ax].toArray w (Ret w (Ax.ownBlock.toList) fun _ v w'=>(LEnt.own Ax 40 8 r.length (r.flatMap Du.enc)).holds w' ∧ v = .tuple #[]):=by
 refine Lb (Ax.ownBlock.toList) [.own Ax 40 8 Ba.length (Ba.flatMap Du.enc)] func20 rfl ntmps20 rfl (fun e he=>by simp only [List.mem_singleton] at he;subst he;exact Da) (Ix _) (Jw _) fun a S=>?_
 unfold Qt at h
 replace S:=(S.nl [.own Ax 40 8 Ba.length (Ba.flatMap Du.enc)] [true] rfl).k1 0 rfl
 refine Fr (Vm S rfl rfl fun a S=>lv S (Gi Sh (S.tm rfl) (Pb (S.own_at (i:=0) rfl))) rfl fun a S=>Vq S Iw rfl rfl rfl fun a S=>Vk S rfl rfl fun a S=>Va S rfl rfl fun a S=>Dl ?_)
 replace S:=S.k3 0 2 3 rfl
 obtain ⟨j1,hj1,h⟩:=Eu h
 refine Eh (fun a w'=>∃ x1 : List Du,j1 x1 = some r ∧ Sx w (Ax.ownBlock.toList) nov [.own Ax 40 8 x1.length (x1.flatMap Du.enc)] [] 28 a w') ?_ ?_
 ·refine wp_block (Gr (fun (m1 : Nat) a w'=>∃ x1 : List Du,∃ x2 : Int,∃ x3 : Int,Js j1 m1 x1 x2 x3 = some r ∧ Sx w (Ax.ownBlock.toList) nov [.own Ax 40 8 x1.length (x1.flatMap Du.enc)] [(0,Ax),(2,iV x2),(3,iV x3)] 28 a w') id (((W ((Ba.length : Int) - 1)) - 0).toNat + 2) ⟨Ba,0,W ((Ba.length : Int) - 1),h,S.nf [true] rfl (subR rfl)⟩ ?_)
  clear S h;rintro m1 a w1 ⟨x1,x2,x3,h,S⟩
  cases m1 with
  | zero=>rw [Js.eq_1] at h;cases h
  | succ m1 =>
   rw [Js.eq_2] at h
   refine Fs (Fr (Vm S rfl rfl fun a S=>Vm S rfl rfl fun a S=>Vb S Es rfl rfl rfl fun a S=>Dl (Fc h (S.tm rfl) (fun hb1 h=>?_) (fun hb1 h=>?_))))
   ·refine wp_skip (Tn (Fs (wp_block ?_)))
    obtain ⟨hc1,h⟩:=Ig h
    obtain ⟨hc2,h⟩:=Ig h
    obtain ⟨hc3,h⟩:=Ig h
    obtain ⟨hc4,h⟩:=Ig h
    refine Gt [13,15] ([]) Tryz.mixed S rfl (by kernel_rfl) ?_;clear S;intro w7 hk5 hsel S
    refine Ew 0 S hsel rfl rfl (by kernel_rfl) (by kernel_rfl) rfl (fun _=>(Rm (S.tm rfl))) fun a S=>Ew 1 S hsel rfl rfl (by kernel_rfl) (by kernel_rfl) rfl (fun _=>(Rm (S.tm rfl))) fun a S=>Ew 2 S hsel rfl rfl (by kernel_rfl) (by kernel_rfl) rfl (fun _=>(Rm (S.tm rfl))) fun a S=>Ew 3 S hsel rfl rfl (by kernel_rfl) (by kernel_rfl) rfl (fun _=>(Rm (S.tm rfl))) fun a S=>Ew 4 S hsel rfl rfl (by kernel_rfl) (by kernel_rfl) rfl (fun _=>(Rm (S.tm rfl))) fun a S=>Ew 5 S hsel rfl rfl (by kernel_rfl) (by kernel_rfl) rfl (fun _=>(Rm (S.tm rfl))) ?_;clear S;intro a S
    obtain ⟨b5,hg5,hr5⟩:=Gh (a:=a) (x:=.tmp 18) (y:=.tmp 19) (ty:=0) Sh Du.enc_ok S (i:=0) rfl (Dw hc1).1 (Dw hc1).2 (S.tm rfl) (S.tm rfl)
    refine Ew 6 S hsel rfl rfl (by kernel_rfl) (by kernel_rfl) rfl (fun _=>(hr5 _)) ?_;clear S;intro a S
    clear hr5
    refine Ea 7 S hsel rfl (by kernel_rfl) (by kernel_rfl) (by kernel_rfl) (by kernel_rfl) rfl (fun _ hw=>(Fb isAgg40 sizeOf40 (off:=x3.toNat * 8) (o:=0) (part:=(Du.enc (nth x1 x3))) rfl rfl (S.tm rfl) ((Mg Du.enc_ok S (i:=0) rfl hg5 (Dw hc1).1 (Hg (e':=.own Ax 40 8 x1.length (x1.flatMap Du.enc)))).kept hw))) fun a S=>Ew 8 S hsel rfl rfl (by kernel_rfl) (by kernel_rfl) rfl (fun _=>(Rm (S.tm rfl))) fun a S=>Ew 9 S hsel rfl rfl (by kernel_rfl) (by kernel_rfl) rfl (fun _=>(Rm (S.tm rfl))) ?_;clear S;intro a S
    obtain ⟨b6,hg6,hr6⟩:=Gh (a:=a) (x:=.tmp 22) (y:=.tmp 23) (ty:=0) Sh Du.enc_ok S (i:=0) rfl (Dw hc2).1 (Dw hc2).2 (S.tm rfl) (S.tm rfl)
    refine Ew 10 S hsel rfl rfl (by kernel_rfl) (by kernel_rfl) rfl (fun _=>(hr6 _)) ?_;clear S;intro a S
    clear hr6
    refine Ea 11 S hsel rfl (by kernel_rfl) (by kernel_rfl) (by kernel_rfl) (by kernel_rfl) rfl (fun _ hw=>(Fb isAgg40 sizeOf40 (off:=x2.toNat * 8) (o:=0) (part:=(Du.enc (nth x1 x2))) rfl rfl (S.tm rfl) ((Mg Du.enc_ok S (i:=0) rfl hg6 (Dw hc2).1 (Hg (e':=.own Ax 40 8 x1.length (x1.flatMap Du.enc)))).kept hw))) ?_;clear S;intro a S
    obtain ⟨b7,hg7,hr7⟩:=Gh (a:=a) (x:=.tmp 14) (y:=.tmp 15) (ty:=0) Sh Du.enc_ok S (i:=0) rfl (Dw hc3).1 (Dw hc3).2 (S.tm rfl) (S.tm rfl)
    refine Ew 12 S hsel rfl rfl (by kernel_rfl) (by kernel_rfl) rfl (fun _=>(hr7 _)) ?_;clear S;intro a S
    clear hr7
    refine Vg 13 (Ax.ownBlock.toList) rfl (by kernel_rfl) rfl (Ob (c:=0) (j:=x2.toNat) (nth x1 x3) Du.enc_ok S (S.tm rfl) (S.tm rfl) (i:=0) rfl hg7 (Dw hc3).1 sizeOf40 (vs:=[sV ((nth x1 x3).Key),iV ((nth x1 x3).Metres),iV ((nth x1 x3).Stroke),iV ((nth x1 x3).Course),iV ((nth x1 x3).Legs),iV ((nth x1 x3).Sex),iV ((nth x1 x3).Young),iV ((nth x1 x3).Old)]) rfl rfl rfl rfl rfl ?_);clear S;intro w9 hk7 S
    refine Ld (Vh ?_)
    obtain ⟨b8,hg8,hr8⟩:=Gh (a:=a) (x:=.tmp 16) (y:=.tmp 17) (ty:=0) Sh Du.enc_ok S (i:=0) rfl (Dw hc4).1 (Dw hc4).2 (S.tm rfl) (S.tm rfl)
    refine Ea 14 S hsel rfl rfl rfl (by kernel_rfl) (by kernel_rfl) rfl (fun _ hw=>(hr8 _)) ?_;clear S;intro a S
    clear hr8
    refine Hb 15 (by kernel_rfl) rfl (Ob (c:=0) (j:=x3.toNat) (nth x1 x2) Du.enc_ok S (S.tm rfl) (S.tm rfl) (i:=0) rfl hg8 (Dw hc4).1 sizeOf40 (vs:=[sV ((nth x1 x2).Key),iV ((nth x1 x2).Metres),iV ((nth x1 x2).Stroke),iV ((nth x1 x2).Course),iV ((nth x1 x2).Legs),iV ((nth x1 x2).Sex),iV ((nth x1 x2).Young),iV ((nth x1 x2).Old)]) rfl rfl rfl rfl rfl ?_);clear S;intro w11 hk9 S
    refine Ld (Hy hk9 (Vt (by kernel_rfl) ?_))
    clear hsel
    replace S:=(S.nl [.own Ax 40 8 ((x1.set x2.toNat (nth x1 x3)).set x3.toNat (nth x1 x2)).length (((x1.set x2.toNat (nth x1 x3)).set x3.toNat (nth x1 x2)).flatMap Du.enc)] [true] rfl).k3 0 2 3 rfl
    refine Hp (Tn (Fg (Vm S rfl rfl fun a S=>Vq S Gc rfl rfl rfl fun a S=>Vm S rfl rfl fun a S=>Vq S Iw rfl rfl rfl fun a S=>Va S rfl rfl fun a S=>Va S rfl rfl fun a S=>Dl ?_)))
    exact ⟨m1,⟨((x1.set x2.toNat (nth x1 x3)).set x3.toNat (nth x1 x2)),W (x2 + 1),W (x3 - 1),h,S.nf [true] rfl ⟨rfl,rfl,rfl,trivial⟩⟩,Nat.lt_succ_self _⟩
   ·exact wp_exit (Ed (Ed (Gn (Tn (⟨x1,h,S.nf [true] rfl trivial⟩)))))
 clear S h;rintro a w2 ⟨x1,h,S⟩;rw [hj1] at h;clear hj1 j1
 obtain rfl:=Option.some.inj h
 exact Rp S results20 ⟨(S.holds _ (List.mem_of_getElem? (i:=0) rfl)),rfl⟩
theorem EI (w : World) (U : Nat) (Aa : Value) (Ar : List Int) (Ap : Slc (view w [U]) 1 Aa (Ar.map eInt)) (Am : Int) (As : (LEnt.blk U [Aa,iV Am] 25).holds w) (r : Jr × Int) (h : Td Ar Am = some r) :
    Calls prog 4 [.pointer (some ⟨U,0,none⟩)].toArray w (Ret w [U] fun τ v w'=>(LEnt.blk U [Aa,iV r.2] 25).holds w' ∧ ∃ q : R32,v = .agg (R32.enc q).toArray ∧ Tt τ r.1 q):=by
 refine Lb [U] [.blk U [Aa,iV Am] 25] func4 rfl ntmps4 rfl (fun e he=>by simp only [List.mem_singleton] at he;subst he;exact As) (by simp [fps,LEnt.fp]) (by simp [fps,LEnt.fp]) fun a S=>?_
 unfold Td at h
 replace S:=(S.nl [.blk U [Aa,iV Am] 25] [true] rfl).k1 0 rfl
 refine Fr (Hq S zeroValue32 (cs:=[.slice none 0 0,.slice none 0 0,iV 0,iV 0,iV 0,iV 0,iV 0]) rfl rfl ?_);clear S;intro a w1 b1 hz1 hk1 S
 refine Dz (Vm S rfl rfl ?_);clear S;intro a S
 obtain ⟨r1,hr1,h⟩:=Fa h
 have hz2:=S.keep.size
 refine Hu 1 S (b:=U) rfl rfl (fun _=>.blk U [Aa,iV r1.2] 25) (fun _=>Dq (vs:=[.pointer (some ⟨U,0,none⟩)]) ⟨(S.tm rfl),trivial⟩ call18) (EH _ U Aa Ar (Ap.mono (S.le_arg (Jn (i:=1) (e:=.blk U [Aa,iV Am] 25) rfl))) Am (S.holds _ (List.mem_of_getElem? (i:=1) rfl)) _ hr1) rfl (fun _ _ _ h=>⟨h.1,fun _ hc=>by cases hc;rfl⟩) ?_;clear S;intro v1 a w2 hv1 hk2 hn1 S
 replace hv1:=hv1.2
 replace S:=S.take hn1 hz2 hv1
 refine Vm S rfl rfl ?_;clear S;intro a S
 obtain ⟨r2,hr2,h⟩:=Fa h
 have hz3:=S.keep.size
 refine Hu 2 S (b:=U) rfl rfl (fun _=>.blk U [Aa,iV r2.2] 25) (fun _=>Dq (vs:=[.pointer (some ⟨U,0,none⟩)]) ⟨(S.tm rfl),trivial⟩ call19) (DF _ U Aa Ar (Ap.mono (S.le_arg (Jn (i:=2) (e:=.blk U [Aa,iV r1.2] 25) rfl))) r1.2 (S.holds _ (List.mem_of_getElem? (i:=2) rfl)) _ hr2) rfl (fun _ _ _ h=>⟨h.1,fun _ hc=>by cases hc;rfl⟩) ?_;clear S;intro v2 a w3 hv2 hk3 hn2 S
 replace hv2:=hv2.2
 obtain ⟨q1,rfl,hq1⟩:=hv2
 obtain ⟨φ1,hl1,hm1,S⟩:=S.see' hn2 hz3
 obtain ⟨u3,rfl,hs1⟩:=Zz hm1 _ _ hq1
 refine Vm S rfl rfl ?_;clear S;intro a S
 obtain ⟨r3,hr3,h⟩:=Fa h
 refine Hu 2 S (b:=U) rfl rfl (fun _=>.blk U [Aa,iV r3.2] 25) (fun _=>Dq (vs:=[.pointer (some ⟨U,0,none⟩),iV 1,iV 3]) ⟨(S.tm rfl),rfl,rfl,trivial⟩ call6) (Qr _ U Aa Ar (Ap.mono (S.le_arg (Jn (i:=2) (e:=.blk U [Aa,iV r2.2] 25) rfl))) r2.2 (S.holds _ (List.mem_of_getElem? (i:=2) rfl)) 1 3 _ hr3) rfl (fun _ _ _ h=>⟨h.1,fun _ hc=>by cases hc;rfl⟩) ?_;clear S;intro v3 a w4 hv3 hk4 hn3 S
 replace hv3:=hv3.2
 subst hv3
 refine Vm S rfl rfl ?_;clear S;intro a S
 obtain ⟨r4,hr4,h⟩:=Fa h
 refine Hu 2 S (b:=U) rfl rfl (fun _=>.blk U [Aa,iV r4.2] 25) (fun _=>Dq (vs:=[.pointer (some ⟨U,0,none⟩),iV 1,iV 2]) ⟨(S.tm rfl),rfl,rfl,trivial⟩ call6) (Qr _ U Aa Ar (Ap.mono (S.le_arg (Jn (i:=2) (e:=.blk U [Aa,iV r3.2] 25) rfl))) r3.2 (S.holds _ (List.mem_of_getElem? (i:=2) rfl)) 1 2 _ hr4) rfl (fun _ _ _ h=>⟨h.1,fun _ hc=>by cases hc;rfl⟩) ?_;clear S;intro v4 a w5 hv4 hk5 hn4 S
 replace hv4:=hv4.2
 subst hv4
 refine Vm S rfl rfl ?_;clear S;intro a S
 obtain ⟨r5,hr5,h⟩:=Fa h
 refine Hu 2 S (b:=U) rfl rfl (fun _=>.blk U [Aa,iV r5.2] 25) (fun _=>Dq (vs:=[.pointer (some ⟨U,0,none⟩),iV 0,iV 2]) ⟨(S.tm rfl),rfl,rfl,trivial⟩ call6) (Qr _ U Aa Ar (Ap.mono (S.le_arg (Jn (i:=2) (e:=.blk U [Aa,iV r4.2] 25) rfl))) r4.2 (S.holds _ (List.mem_of_getElem? (i:=2) rfl)) 0 2 _ hr5) rfl (fun _ _ _ h=>⟨h.1,fun _ hc=>by cases hc;rfl⟩) ?_;clear S;intro v5 a w6 hv5 hk6 hn5 S
 replace hv5:=hv5.2
 subst hv5
 refine lv S (Nl bt_30 (pv:=[(0,iV r3.1),(1,iV r4.1),(2,iV r5.1)]) ⟨rfl,(S.tm rfl),rfl,(S.tm rfl),rfl,(S.tm rfl),trivial⟩ (cs:=[iV r3.1,iV r4.1,iV r5.1]) (by kernel_rfl)) rfl ?_;clear S;intro a S
 refine lv S (Nl bt_32 (pv:=[(0,v1),(1,.agg #[u3.val,iV r2.1.Relay,iV r2.1.Most]),(2,.agg #[iV r3.1,iV r4.1,iV r5.1])]) ⟨rfl,(S.tm rfl),rfl,(S.tm rfl),rfl,(S.tm rfl),trivial⟩ (cs:=[v1,u3.val,iV r2.1.Relay,iV r2.1.Most,iV r3.1,iV r4.1,iV r5.1]) (by obtain ⟨_,_,hv⟩:=(Pb (S.own_at (i:=0) rfl));rw [hv];clear hv;obtain ⟨_,_,hv⟩:=(Gf hs1);rw [hv];clear hv;kernel_rfl)) rfl ?_;clear S;intro a S
 refine Hq S zeroValue32 (cs:=[.slice none 0 0,.slice none 0 0,iV 0,iV 0,iV 0,iV 0,iV 0]) rfl rfl ?_;clear S;intro a w7 b2 hz4 hk7 S
 refine Ex S (S.tm rfl) (S.tm rfl) (i:=0) (off:=0) rfl sizeOf32 (vs:=[v1,u3.val,iV r2.1.Relay,iV r2.1.Most,iV r3.1,iV r4.1,iV r5.1]) rfl rfl rfl (Vi (Lp.one (Pb (S.own_at (i:=1) rfl))) (Vi (Lp.one (Gf hs1)) (Vi rfl (Vi rfl (Vi rfl (Vi rfl (Vi rfl rfl))))))) ?_;clear S;intro w8 hk8 S
 refine Ld ?_
 replace S:=(S.nl [.blk b2 [v1,u3.val,iV r2.1.Relay,iV r2.1.Most,iV r3.1,iV r4.1,iV r5.1] 32,.own v1 40 8 r1.1.length (r1.1.flatMap Du.enc),.blk b1 [.slice none 0 0,.slice none 0 0,iV 0,iV 0,iV 0,iV 0,iV 0] 32,.blk U [Aa,iV r5.2] 25] [true,true,true,true] rfl).k2 2 3 rfl
 refine Tn (Fr (Vf Yu S rfl rfl fun a S=>Vl isAgg26 0 S rfl rfl rfl rfl ?_));clear S;intro a S
 obtain ⟨r6,hr6,h⟩:=Fa h
 refine Mj 1 S rfl (fun _=>.own v1 40 8 r6.length (r6.flatMap Du.enc)) (fun _=>Dq (vs:=[v1]) ⟨(S.tm rfl),trivial⟩ call20) (BU _ v1 r1.1 (S.holds _ (List.mem_of_getElem? (i:=1) rfl)) _ hr6) rfl (fun _ _ _ h=>⟨h.1,fun _ hc=>hc⟩) ?_;clear S;intro v6 a w9 hv6 hk9 hn6 S
 replace hv6:=hv6.2
 subst hv6
 refine Dz (lv S (Fb isAgg32 sizeOf32 (off:=0) (o:=0) (part:=[v1,u3.val,iV r2.1.Relay,iV r2.1.Most,iV r3.1,iV r4.1,iV r5.1]) rfl rfl (S.tm rfl) (S.cellsAt (i:=0) rfl)) rfl fun a S=>Ex S (S.tm rfl) (S.tm rfl) (i:=2) (off:=0) rfl sizeOf32 (vs:=[v1,u3.val,iV r2.1.Relay,iV r2.1.Most,iV r3.1,iV r4.1,iV r5.1]) rfl rfl rfl (Vi (Lp.one (Pb (S.own_at (i:=1) rfl))) (Vi (Lp.one (Gf hs1)) (Vi rfl (Vi rfl (Vi rfl (Vi rfl (Vi rfl rfl))))))) ?_);clear S;intro w10 hk10 S
 refine Dl (wp_ret ?_)
 obtain ⟨φ2,hl2,hs2,S⟩:=S.freezeT (xs:=r6) (enc:=Du.enc) (i:=1) rfl (fun c hc hh=>DV S (i:=3) rfl rfl (j:=1) rfl rfl (by simp at hc;subst hc;exact hh))
 replace S:=S.nk [.blk b2 [v1,u3.val,iV r2.1.Relay,iV r2.1.Most,iV r3.1,iV r4.1,iV r5.1] 32,.blk b1 [v1,u3.val,iV r2.1.Relay,iV r2.1.Most,iV r3.1,iV r4.1,iV r5.1] 32,.blk U [Aa,iV r5.2] 25] [(2,.pointer (some ⟨b1,0,none⟩)),(3,.pointer (some ⟨b2,0,none⟩)),(16,.pointer (some ⟨b2,0,none⟩)),(17,v1),(19,.agg #[v1,u3.val,iV r2.1.Relay,iV r2.1.Most,iV r3.1,iV r4.1,iV r5.1])] [] rfl (subR rfl)
 obtain rfl:=Option.some.inj h
 exact Xo S (rs:=[.cell 2 32]) (vs:=[.agg (R32.enc (R32.mk ⟨v1,Lp.one (Gf (Ge Du.enc_ok hs2))⟩ (R28.mk u3 r2.1.Relay r2.1.Most) (Uk.mk r3.1 r4.1 r5.1))).toArray]) results4 ⟨(Tc (off:=0) S rfl isAgg32 sizeOf32 rfl (S.cellsAt (i:=1) rfl)),trivial⟩ rfl ⟨(S.holds _ (List.mem_of_getElem? (i:=2) rfl)),⟨(R32.mk ⟨v1,Lp.one (Gf (Ge Du.enc_ok hs2))⟩ (R28.mk u3 r2.1.Relay r2.1.Most) (Uk.mk r3.1 r4.1 r5.1)),rfl,AA S.le_newer _ _ ⟨⟨v1,Lp.one (Gf (Ge Du.enc_ok hs2))⟩,(R28.mk u3 r2.1.Relay r2.1.Most),rfl,(Ge Du.enc_ok hs2),⟨u3,rfl,(hs1.mono hl2)⟩⟩⟩⟩
theorem Pm (w : World) (U : Nat) (Aa : Value) (Ar : List Int) (Ap : Slc (view w [U]) 1 Aa (Ar.map eInt)) (Am : Int) (As : (LEnt.blk U [Aa,iV Am] 25).holds w) (Ac : Value) (Aj : List ByteArray) (Ai : Slc (view w [U]) 1 Ac (Aj.map VA)) (r : ByteArray × Int) (h : Ou Ar Am Aj = some r) :
    Calls prog 39 [.pointer (some ⟨U,0,none⟩),Ac].toArray w (Ret w [U] fun _ v w'=>(LEnt.blk U [Aa,iV r.2] 25).holds w' ∧ v = sV r.1):=by
 refine Lb [U] [.blk U [Aa,iV Am] 25] func39 rfl ntmps39 rfl (fun e he=>by simp only [List.mem_singleton] at he;subst he;exact As) (by simp [fps,LEnt.fp]) (by simp [fps,LEnt.fp]) fun a S=>?_
 unfold Ou at h
 replace S:=(S.nl [.blk U [Aa,iV Am] 25] [true] rfl).k2 0 1 rfl
 refine Fr (Vk S rfl rfl fun a S=>Dl (Fs (Fg ?_)))
 iterate 3 (refine Vm S rfl rfl ?_;clear S;intro a S)
 refine lv S (Gi TA (S.tm rfl) (Gf Ai)) rfl ?_;clear S;intro a S
 obtain ⟨r1,hr1,h⟩:=Fa h
 refine Hu 0 S (b:=U) rfl rfl (fun _=>.blk U [Aa,iV r1.2] 25) (fun _=>Dq (vs:=[.pointer (some ⟨U,0,none⟩),iV (Aj.length : Int)]) ⟨(S.tm rfl),(S.tm rfl),trivial⟩ call23) (Uz _ U Aa Ar (Ap.mono (S.le_arg (Jn (i:=0) (e:=.blk U [Aa,iV Am] 25) rfl))) Am (S.holds _ (List.mem_of_getElem? (i:=0) rfl)) (Aj.length : Int) _ hr1) rfl (fun _ _ _ h=>⟨h.1,fun _ hc=>by cases hc;rfl⟩) ?_;clear S;intro v1 a w1 hv1 hk1 hn1 S
 replace hv1:=hv1.2
 subst hv1
 obtain ⟨hc1,h⟩:=Ig h
 obtain ⟨b1,o1,hm1,hr2⟩:=Fk (a:=a) (x:=.tmp 5) (y:=.tmp 9) (ty:=0) TA Ai (Dw hc1).1 (Dw hc1).2 (S.tm rfl) (S.tm rfl)
 refine lv S (hr2 _) rfl ?_;clear S;intro a S
 clear hr2
 refine lv S (Hx isAgg9 (off:=o1) (o:=0) (S.tm rfl) (hm1.at S.emb0) rfl) rfl fun a S=>Va S rfl rfl fun a S=>Dl (wp_ret ?_)
 obtain rfl:=Option.some.inj h
 exact Et S results39 rfl ⟨(S.holds _ (List.mem_of_getElem? (i:=0) rfl)),rfl⟩
theorem Wf (w : World) (U : Nat) (Aa : Value) (Ar : List Int) (Ap : Slc (view w [U]) 1 Aa (Ar.map eInt)) (Am : Int) (As : (LEnt.blk U [Aa,iV Am] 25).holds w) (Bp : Int) (Bi : Int) (r : Int × Int) (h : Tp Ar Am Bp Bi = some r) :
    Calls prog 40 [.pointer (some ⟨U,0,none⟩),iV Bp,iV Bi].toArray w (Ret w [U] fun _ v w'=>(LEnt.blk U [Aa,iV r.2] 25).holds w' ∧ v = iV r.1):=by
 refine Lb [U] [.blk U [Aa,iV Am] 25] func40 rfl ntmps40 rfl (fun e he=>by simp only [List.mem_singleton] at he;subst he;exact As) (by simp [fps,LEnt.fp]) (by simp [fps,LEnt.fp]) fun a S=>?_
 unfold Tp at h
 replace S:=(S.nl [.blk U [Aa,iV Am] 25] [true] rfl).k3 0 1 2 rfl
 refine Fr (Vk S rfl rfl fun a S=>Dl (Fs (Fr (Vm S rfl rfl ?_))));clear S;intro a S
 obtain ⟨r1,hr1,h⟩:=Fa h
 refine Hu 0 S (b:=U) rfl rfl (fun _=>.blk U [Aa,iV r1.2] 25) (fun _=>Dq (vs:=[.pointer (some ⟨U,0,none⟩),iV 12]) ⟨(S.tm rfl),rfl,trivial⟩ call36) (Zj _ U Aa Ar (Ap.mono (S.le_arg (Jn (i:=0) (e:=.blk U [Aa,iV Am] 25) rfl))) Am (S.holds _ (List.mem_of_getElem? (i:=0) rfl)) 12 _ hr1) rfl (fun _ _ _ h=>⟨h.1,fun _ hc=>by cases hc;rfl⟩) ?_;clear S;intro v1 a w1 hv1 hk1 hn1 S
 replace hv1:=hv1.2
 subst hv1
 refine Dl (Fc h (S.tm rfl) (fun hb1 h=>?_) (fun hb1 h=>?_))
 ·refine Fr (Vm S rfl rfl fun a S=>Vm S rfl rfl fun a S=>Vq S Iw rfl rfl rfl fun a S=>Vm S rfl rfl fun a S=>Vq S Gc rfl rfl rfl fun a S=>Vm S rfl rfl fun a S=>Vm S rfl rfl fun a S=>Ey S underlying22 sizeOf3 zeroValue3 rfl rfl (pv:=[(0,iV (W (Bp - 1))),(1,iV (W (Bi + 1))),(2,iV Bp),(3,iV Bi),(4,iV (-1099511627776)),(5,iV 1099511627776)]) ⟨rfl,(S.tm rfl),rfl,(S.tm rfl),rfl,(S.tm rfl),rfl,(S.tm rfl),rfl,rfl,rfl,rfl,trivial⟩ (cs:=[iV (W (Bp - 1)),iV (W (Bi + 1)),iV Bp,iV Bi,iV (-1099511627776),iV 1099511627776]) (by kernel_rfl) rfl ?_);clear S;intro a w2 b1 hz1 hk2 S
  obtain ⟨r2,hr2,h⟩:=Fa h
  refine Hu 1 S (b:=U) rfl rfl (fun _=>.blk U [Aa,iV r2.2] 25) (fun _=>Dq (vs:=[.pointer (some ⟨U,0,none⟩),.slice (some ⟨b1,0,none⟩) 6 6]) ⟨(S.tm rfl),(S.tm rfl),trivial⟩ call38) (Jy _ U Aa Ar (Ap.mono (S.le_arg (Jn (i:=1) (e:=.blk U [Aa,iV r1.2] 25) rfl))) r1.2 (S.holds _ (List.mem_of_getElem? (i:=1) rfl)) (.slice (some ⟨b1,0,none⟩) 6 6) [W (Bp - 1),W (Bi + 1),Bp,Bi,(-1099511627776),1099511627776] (Lg Jf S (i:=0) rfl rfl rfl rfl ((Nc (i:=1) (j:=0) (e:=.blk U [Aa,iV r1.2] 25) (e':=.blk b1 [iV (W (Bp - 1)),iV (W (Bi + 1)),iV Bp,iV Bi,iV (-1099511627776),iV 1099511627776] 3) S rfl rfl rfl) _ rfl)) _ hr2) rfl (fun _ _ _ h=>⟨h.1,fun _ hc=>by cases hc;rfl⟩) ?_;clear S;intro v2 a w3 hv2 hk3 hn2 S
  replace hv2:=hv2.2
  subst hv2
  refine Va S rfl rfl fun a S=>Ld ?_
  replace S:=(S.nl [.blk U [Aa,iV r2.2] 25] [false,true] rfl).k1 6 rfl
  refine Tn (wp_ret (Dv ?_))
  obtain rfl:=Option.some.inj h
  exact Et S results40 rfl ⟨(S.holds _ (List.mem_of_getElem? (i:=0) rfl)),rfl⟩
 ·refine wp_skip (Tn (Fs (Fg ?_)))
  iterate 3 (refine Vm S rfl rfl ?_;clear S;intro a S)
  obtain ⟨r3,hr3,h⟩:=Fa h
  refine Hu 0 S (b:=U) rfl rfl (fun _=>.blk U [Aa,iV r3.2] 25) (fun _=>Dq (vs:=[.pointer (some ⟨U,0,none⟩),iV Bp,iV Bi]) ⟨(S.tm rfl),(S.tm rfl),(S.tm rfl),trivial⟩ call6) (Qr _ U Aa Ar (Ap.mono (S.le_arg (Jn (i:=0) (e:=.blk U [Aa,iV r1.2] 25) rfl))) r1.2 (S.holds _ (List.mem_of_getElem? (i:=0) rfl)) Bp Bi _ hr3) rfl (fun _ _ _ h=>⟨h.1,fun _ hc=>by cases hc;rfl⟩) ?_;clear S;intro v3 a w4 hv3 hk4 hn3 S
  replace hv3:=hv3.2
  subst hv3
  refine Va S rfl rfl fun a S=>Dl (wp_ret ?_)
  obtain rfl:=Option.some.inj h
  exact Et S results40 rfl ⟨(S.holds _ (List.mem_of_getElem? (i:=0) rfl)),rfl⟩
theorem AU (w : World) (Bb : Int) (r : Int) (h : Wc Bb = r) :
    Calls prog 90 [iV Bb].toArray w (Ret w [] fun _ v _=>v = iV r):=by
 refine Fe func90 rfl ntmps90 rfl fun a S=>?_
 unfold Wc at h
 replace S:=S.k1 0 rfl
 refine Fr (Vk S rfl rfl fun a S=>Dl (Fs (wp_block (Fr (Vm S rfl rfl fun a S=>Vq S Es rfl rfl rfl ?_)))));clear S;intro a S
 refine Va S rfl rfl fun a S=>Dl (Fc h (S.tm rfl) (fun hb1 h=>?_) (fun hb1 h=>?_))
 ·refine Fr (Vk S rfl rfl fun a S=>Dl (wp_ret (Gq (Dv ?_))))
  subst h
  exact Et S results90 rfl rfl
 ·refine Fr (Vm S rfl rfl fun a S=>Vq S Kb rfl rfl rfl fun a S=>Va S rfl rfl fun a S=>Dl (Fc h (S.tm rfl) (fun hb2 h=>?_) (fun hb2 h=>?_)))
  ·refine Fr (Vk S rfl rfl fun a S=>Dl (wp_ret (Gq (Dv ?_))))
   subst h
   exact Et S results90 rfl rfl
  ·refine wp_skip (Hp (Tn (Fr (Vk S rfl rfl fun a S=>Dl (wp_ret ?_)))))
   subst h
   exact Et S results90 rfl rfl
theorem Nr (w : World) (s t : ByteArray) (r : Int) (h : Hl s t = r) : Calls prog 62 [.string s,.string t].toArray w (Ret w [] fun _ v _=>v = .int .i64 r):=by
  subst h
  exact HZ (Any.strings_Compare Tryz.lays106 s t w)
theorem Xm (w : World) (Ah : Di) (Ak : Di) (r : Int) (h : Kh Ah Ak = r) :
    Calls prog 42 [.agg (Di.enc Ah).toArray,.agg (Di.enc Ak).toArray].toArray w (Ret w [] fun _ v _=>v = iV r):=by
 refine Fe func42 rfl ntmps42 rfl fun a S=>?_
 unfold Kh at h
 replace S:=S.k2 0 1 rfl
 refine Fr (Lw S (S.tm rfl) (cs:=(Di.enc Ah)) rfl rfl ?_);clear S;intro a w1 b1 hz1 hk1 S
 refine Lw S (S.tm rfl) (cs:=(Di.enc Ak)) rfl rfl ?_;clear S;intro a w2 b2 hz2 hk2 S
 refine Vk S rfl rfl fun a S=>Dl (Fs (wp_block (Fr (Vf Uc S rfl rfl fun a S=>Vl isAgg3 1 S rfl rfl rfl rfl fun a S=>Vf Uc S rfl rfl fun a S=>Vl isAgg3 0 S rfl rfl rfl rfl ?_))));clear S;intro a S
 refine Vb S Mn rfl rfl rfl fun a S=>Va S rfl rfl fun a S=>Dl (Fc h (S.tm rfl) (fun hb1 h=>?_) (fun hb1 h=>?_))
 ·refine Fr (Vf Uc S rfl rfl fun a S=>Vl isAgg3 1 S rfl rfl rfl rfl fun a S=>Vf Uc S rfl rfl fun a S=>Vl isAgg3 0 S rfl rfl rfl rfl fun a S=>Vb S Iw rfl rfl rfl fun a S=>Eb S (fun _=>Dq (vs:=[iV (W (Ah.At - Ak.At))]) ⟨(S.tm rfl),trivial⟩ call90) (AU _ (W (Ah.At - Ak.At)) _ rfl) rfl ?_);clear S;intro v1 a w3 hv1 hk3 hn1 S
  subst hv1
  refine Va S rfl rfl fun a S=>Ld ?_
  replace S:=S.n0.k1 4 rfl
  refine Tn (wp_ret (Gq (Dv ?_)))
  subst h
  exact Et S results42 rfl rfl
 ·refine Fr (Vf Qw S rfl rfl fun a S=>Vl isAgg9 1 S rfl rfl rfl rfl fun a S=>Vf Qw S rfl rfl fun a S=>Vl isAgg9 0 S rfl rfl rfl rfl fun a S=>Vb S Zv rfl rfl rfl fun a S=>Va S rfl rfl fun a S=>Ld ?_)
  replace S:=(S.nl [.blk b2 (Di.enc Ak) 102,.blk b1 (Di.enc Ah) 102] [true,true] rfl).k3 2 3 17 rfl
  refine Tn (Fc h (S.tm rfl) (fun hb2 h=>?_) (fun hb2 h=>?_))
  ·refine Fr (Vf Qw S rfl rfl fun a S=>Vl isAgg9 1 S rfl rfl rfl rfl fun a S=>Vf Qw S rfl rfl fun a S=>Vl isAgg9 0 S rfl rfl rfl rfl fun a S=>Eb S (fun _=>Dq (vs:=[sV Ah.Site,sV Ak.Site]) ⟨(S.tm rfl),(S.tm rfl),trivial⟩ call62) (Nr _ Ah.Site Ak.Site _ rfl) rfl ?_);clear S;intro v2 a w4 hv2 hk4 hn2 S
   subst hv2
   refine Va S rfl rfl fun a S=>Dl (wp_ret (Gq (Dv ?_)))
   subst h
   exact Et S results42 rfl rfl
  ·refine wp_skip (Hp (Tn (Fr (Vf Tg S rfl rfl fun a S=>Vl isAgg3 1 S rfl rfl rfl rfl fun a S=>Vf Tg S rfl rfl fun a S=>Vl isAgg3 0 S rfl rfl rfl rfl fun a S=>Vb S Iw rfl rfl rfl fun a S=>Eb S (fun _=>Dq (vs:=[iV (W (Ah.No - Ak.No))]) ⟨(S.tm rfl),trivial⟩ call90) (AU _ (W (Ah.No - Ak.No)) _ rfl) rfl ?_))));clear S;intro v3 a w5 hv3 hk5 hn3 S
   subst hv3
   refine Va S rfl rfl fun a S=>Dl (wp_ret ?_)
   subst h
   exact Et S results42 rfl rfl
set_option maxRecDepth 20000 in
theorem Mx (w : World) (O : Value) (Af : List Di) (Bc : (LEnt.own O 102 11 Af.length (Af.flatMap Di.enc)).holds w) (Ah : Int) (Ak : Int) (r : (List Di)) (h : Hi Af Ah Ak = some r) :
    Calls prog 128 [O,iV Ah,iV Ak,.func (.func 42) #[] #[]].toArray w (Ret w (O.ownBlock.toList) fun _ v w'=>(LEnt.own O 102 11 r.length (r.flatMap Di.enc)).holds w' ∧ v = .tuple #[]):=by
 refine Lb (O.ownBlock.toList) [.own O 102 11 Af.length (Af.flatMap Di.enc)] func128 rfl ntmps128 rfl (fun e he=>by simp only [List.mem_singleton] at he;subst he;exact Bc) (Ix _) (Jw _) fun a S=>?_
 unfold Hi at h
 replace S:=(S.nl [.own O 102 11 Af.length (Af.flatMap Di.enc)] [true] rfl).k4 0 1 2 3 rfl
 refine Fr (Vm S rfl rfl fun a S=>Vq S Gc rfl rfl rfl fun a S=>Va S rfl rfl fun a S=>Dl ?_)
 replace S:=S.k5 0 1 2 3 8 rfl
 obtain ⟨j1,hj1,h⟩:=Eu h
 refine Eh (fun a w'=>∃ x1 : List Di,j1 x1 = some r ∧ Sx w (O.ownBlock.toList) nov [.own O 102 11 x1.length (x1.flatMap Di.enc)] [] 53 a w') ?_ ?_
 ·refine wp_block (Gr (fun (m1 : Nat) a w'=>∃ x1 : List Di,∃ x2 : Int,Ff Ak Ah j1 m1 x1 x2 = some r ∧ Sx w (O.ownBlock.toList) nov [.own O 102 11 x1.length (x1.flatMap Di.enc)] [(0,O),(1,iV Ah),(2,iV Ak),(3,.func (.func 42) #[] #[]),(8,iV x2)] 53 a w') id ((Ak - (W (Ah + 1))).toNat + 2) ⟨Af,W (Ah + 1),h,S.nf [true] rfl (subR rfl)⟩ ?_)
  clear S h;rintro m1 a w1 ⟨x1,x2,h,S⟩
  cases m1 with
  | zero=>rw [Ff.eq_1] at h;cases h
  | succ m1 =>
   rw [Ff.eq_2] at h
   refine Fs (Fr (Vm S rfl rfl fun a S=>Vm S rfl rfl fun a S=>Vb S Es rfl rfl rfl fun a S=>Dl (Fc h (S.tm rfl) (fun hb1 h=>?_) (fun hb1 h=>?_))))
   ·refine wp_skip (Tn (Fs (wp_block (Fr (Vm S rfl rfl fun a S=>Va S rfl rfl fun a S=>Dl ?_)))))
    replace S:=S.k6 0 1 2 3 8 9 rfl
    obtain ⟨j2,hj2,h⟩:=Eu h
    refine Eh (fun a w'=>∃ x3 : List Di,j2 x3 = some r ∧ Sx w (O.ownBlock.toList) nov [.own O 102 11 x3.length (x3.flatMap Di.enc)] [(0,O),(1,iV Ah),(2,iV Ak),(3,.func (.func 42) #[] #[]),(8,iV x2)] 53 a w') ?_ ?_
    ·refine wp_block (Gr (fun (m2 : Nat) a w'=>∃ x3 : List Di,∃ x4 : Int,Ek Ah j2 m2 x3 x4 = some r ∧ Sx w (O.ownBlock.toList) nov [.own O 102 11 x3.length (x3.flatMap Di.enc)] [(0,O),(1,iV Ah),(2,iV Ak),(3,.func (.func 42) #[] #[]),(8,iV x2),(9,iV x4)] 53 a w') id ((x2 - Ah).toNat + 2) ⟨x1,x2,h,S.nf [true] rfl (subR rfl)⟩ ?_)
     clear S h;rintro m2 a w3 ⟨x3,x4,h,S⟩
     cases m2 with
     | zero=>rw [Ek.eq_1] at h;cases h
     | succ m2 =>
      rw [Ek.eq_2] at h
      refine Fs (Fs ?_)
      obtain ⟨j3,hj3,h⟩:=Eu h
      refine Eh (fun a w'=>∃ x5 : Bool,j3 x5 = some r ∧ Sx w (O.ownBlock.toList) nov [.own O 102 11 x3.length (x3.flatMap Di.enc)] [(0,O),(1,iV Ah),(2,iV Ak),(3,.func (.func 42) #[] #[]),(8,iV x2),(9,iV x4),(34,bV x5)] 53 a w') ?_ ?_
      ·rcases Bool.eq_false_or_eq_true (decide (Ah < x4)) with hb2 | hb2
       ·replace h:=Ti h hb2
        obtain ⟨hc1,h⟩:=Ig h
        obtain ⟨hc2,h⟩:=Ig h
        refine Gt [] ([]) Tryz.mixed S rfl (by kernel_rfl) ?_;clear S;intro w7 hk2 hsel S
        refine Ea 0 S hsel rfl rfl rfl (by kernel_rfl) (by kernel_rfl) rfl (fun _ hw=>(Rm (S.tm rfl))) fun a S=>Ea 1 S hsel rfl rfl rfl (by kernel_rfl) (by kernel_rfl) rfl (fun _ hw=>(Rm (S.tm rfl))) fun a S=>Ea 2 S hsel rfl rfl rfl (by kernel_rfl) (by kernel_rfl) rfl (fun _ hw=>(Kb (S.tm rfl) (S.tm rfl))) fun a S=>Ea 3 S hsel rfl rfl rfl (by kernel_rfl) (by kernel_rfl) rfl (fun _ hw=>(Rm (S.tm rfl))) fun a S=>Ef 4 S hsel rfl rfl rfl rfl hb2 rfl rfl (by kernel_rfl) (by kernel_rfl) rfl (fun _ hw=>(Rm (S.tm rfl))) fun a S=>Ef 5 S hsel rfl rfl rfl rfl hb2 rfl rfl (by kernel_rfl) (by kernel_rfl) rfl (fun _ hw=>(Rm (S.tm rfl))) fun a S=>Ef 6 S hsel rfl rfl rfl rfl hb2 rfl rfl (by kernel_rfl) (by kernel_rfl) rfl (fun _ hw=>(Rm (S.tm rfl))) ?_;clear S;intro a S
        obtain ⟨b3,hg3,hr3⟩:=Gh (a:=a) (x:=.tmp 23) (y:=.tmp 24) (ty:=0) Oo Di.enc_ok S (i:=0) rfl (Dw hc1).1 (Dw hc1).2 (S.tm rfl) (S.tm rfl)
        refine Ef 7 S hsel rfl rfl rfl rfl hb2 rfl rfl (by kernel_rfl) (by kernel_rfl) rfl (fun _ hw=>(hr3 _)) ?_;clear S;intro a S
        clear hr3
        refine Ef 8 S hsel rfl rfl rfl rfl hb2 rfl rfl (by kernel_rfl) (by kernel_rfl) rfl (fun _ hw=>(Fb isAgg102 sizeOf102 (off:=x4.toNat * 11) (o:=0) (part:=(Di.enc (nth x3 x4))) rfl rfl (S.tm rfl) ((Mg Di.enc_ok S (i:=0) rfl hg3 (Dw hc1).1 (Hg (e':=.own O 102 11 x3.length (x3.flatMap Di.enc)))).kept hw))) fun a S=>Ef 9 S hsel rfl rfl rfl rfl hb2 rfl rfl (by kernel_rfl) (by kernel_rfl) rfl (fun _ hw=>(Rm (S.tm rfl))) fun a S=>Ef 10 S hsel rfl rfl rfl rfl hb2 rfl rfl (by kernel_rfl) (by kernel_rfl) rfl (fun _ hw=>(Rm (S.tm rfl))) fun a S=>Ef 11 S hsel rfl rfl rfl rfl hb2 rfl rfl (by kernel_rfl) (by kernel_rfl) rfl (fun _ hw=>(Iw (S.tm rfl) rfl)) ?_;clear S;intro a S
        obtain ⟨b4,hg4,hr4⟩:=Gh (a:=a) (x:=.tmp 27) (y:=.tmp 29) (ty:=0) Oo Di.enc_ok S (i:=0) rfl (Dw hc2).1 (Dw hc2).2 (S.tm rfl) (S.tm rfl)
        refine Ef 12 S hsel rfl rfl rfl rfl hb2 rfl rfl (by kernel_rfl) (by kernel_rfl) rfl (fun _ hw=>(hr4 _)) ?_;clear S;intro a S
        clear hr4
        refine Ef 13 S hsel rfl rfl rfl rfl hb2 rfl rfl (by kernel_rfl) (by kernel_rfl) rfl (fun _ hw=>(Fb isAgg102 sizeOf102 (off:=((W (x4 - 1)).toNat) * 11) (o:=0) (part:=(Di.enc (nth x3 (W (x4 - 1))))) rfl rfl (S.tm rfl) ((Mg Di.enc_ok S (i:=0) rfl hg4 (Dw hc2).1 (Hg (e':=.own O 102 11 x3.length (x3.flatMap Di.enc)))).kept hw))) fun a S=>Hb 14 (by kernel_rfl) rfl (Dy S rfl rfl rfl hb2 (Eb S (fun _=>Rf (cap:=[]) (S.tm rfl) (vs:=[.agg (Di.enc (nth x3 x4)).toArray,.agg (Di.enc (nth x3 (W (x4 - 1)))).toArray]) ⟨(S.tm rfl),(S.tm rfl),trivial⟩ call42) (Xm _ (nth x3 x4) (nth x3 (W (x4 - 1))) _ rfl) rfl ?_));clear S;intro v2 a w8 hv2 hk3 hn2 S
        subst hv2
        refine Ld (Hy hk3 (Li [15,16] hsel (by kernel_rfl) rfl ?_))
        clear hsel
        refine Fj S rfl rfl rfl rfl hb2 (Ha S (Es (S.tm rfl) rfl) rfl fun a S=>Gp S rfl (Pq hb2 (S.tm rfl) (S.tm rfl)) rfl fun a S=>Ij ?_)
        replace S:=S.nk [.own O 102 11 x3.length (x3.flatMap Di.enc)] [(0,O),(1,iV Ah),(2,iV Ak),(3,.func (.func 42) #[] #[]),(8,iV x2),(9,iV x4),(22,.func (.func 42) #[] #[]),(23,O),(24,iV x4),(25,.pointer (some ⟨b3,x4.toNat * 11,none⟩)),(26,.agg (Di.enc (nth x3 x4)).toArray),(27,O),(28,iV x4),(29,iV (W (x4 - 1))),(30,.pointer (some ⟨b4,((W (x4 - 1)).toNat) * 11,none⟩)),(31,.agg (Di.enc (nth x3 (W (x4 - 1)))).toArray),(32,iV (Kh (nth x3 x4) (nth x3 (W (x4 - 1))))),(33,bV (decide ((Kh (nth x3 x4) (nth x3 (W (x4 - 1)))) < 0))),(34,bV (decide ((Kh (nth x3 x4) (nth x3 (W (x4 - 1)))) < 0)))] [true] rfl (subR rfl)
        exact Tn (⟨decide ((Kh (nth x3 x4) (nth x3 (W (x4 - 1)))) < 0),h,S.nf [true] rfl (subR rfl)⟩)
       ·replace h:=Tj h hb2
        refine Gt [] ([]) Tryz.mixed S rfl (by kernel_rfl) ?_;clear S;intro w9 hk4 hsel S
        refine Li [0,1,2,3,4,5,6,7,8,9,10,11,12,13,14,15,16] hsel (by kernel_rfl) rfl ?_
        clear hsel
        refine Gp S rfl (Rm (S.tm rfl)) rfl fun a S=>Gp S rfl (Rm (S.tm rfl)) rfl fun a S=>Gp S rfl (Kb (S.tm rfl) (S.tm rfl)) rfl fun a S=>Gp S rfl (Rm (S.tm rfl)) rfl ?_;clear S;intro a S
        iterate 12 (refine Pn S rfl rfl rfl rfl (Kp hb2) rfl ?_ rfl;clear S;intro a S)
        refine Gp S rfl (Ps hb2 (S.tm rfl) rfl) rfl fun a S=>Ij ?_
        replace S:=S.k7 0 1 2 3 8 9 34 rfl
        exact Tn (⟨false,h,S.nf [true] rfl (subR rfl)⟩)
      clear S h;rintro a w5 ⟨x5,h,S⟩;rw [hj3] at h;clear hj3 j3
      refine Tn (Fc h (S.tm rfl) (fun hb3 h=>?_) (fun hb3 h=>?_))
      ·refine wp_skip (Tn (Fs (wp_block ?_)))
       obtain ⟨hc3,h⟩:=Ig h
       obtain ⟨hc4,h⟩:=Ig h
       obtain ⟨hc5,h⟩:=Ig h
       obtain ⟨hc6,h⟩:=Ig h
       refine Gt [15,17] ([]) Tryz.mixed S rfl (by kernel_rfl) ?_;clear S;intro w14 hk9 hsel S
       refine Ew 0 S hsel rfl rfl (by kernel_rfl) (by kernel_rfl) rfl (fun _=>(Rm (S.tm rfl))) fun a S=>Ew 1 S hsel rfl rfl (by kernel_rfl) (by kernel_rfl) rfl (fun _=>(Rm (S.tm rfl))) fun a S=>Ew 2 S hsel rfl rfl (by kernel_rfl) (by kernel_rfl) rfl (fun _=>(Rm (S.tm rfl))) fun a S=>Ew 3 S hsel rfl rfl (by kernel_rfl) (by kernel_rfl) rfl (fun _=>(Rm (S.tm rfl))) fun a S=>Ew 4 S hsel rfl rfl (by kernel_rfl) (by kernel_rfl) rfl (fun _=>(Iw (S.tm rfl) rfl)) fun a S=>Ew 5 S hsel rfl rfl (by kernel_rfl) (by kernel_rfl) rfl (fun _=>(Rm (S.tm rfl))) fun a S=>Ew 6 S hsel rfl rfl (by kernel_rfl) (by kernel_rfl) rfl (fun _=>(Rm (S.tm rfl))) fun a S=>Ew 7 S hsel rfl rfl (by kernel_rfl) (by kernel_rfl) rfl (fun _=>(Iw (S.tm rfl) rfl)) ?_;clear S;intro a S
       obtain ⟨b9,hg9,hr9⟩:=Gh (a:=a) (x:=.tmp 42) (y:=.tmp 44) (ty:=0) Oo Di.enc_ok S (i:=0) rfl (Dw hc3).1 (Dw hc3).2 (S.tm rfl) (S.tm rfl)
       refine Ew 8 S hsel rfl rfl (by kernel_rfl) (by kernel_rfl) rfl (fun _=>(hr9 _)) ?_;clear S;intro a S
       clear hr9
       refine Ea 9 S hsel rfl (by kernel_rfl) (by kernel_rfl) (by kernel_rfl) (by kernel_rfl) rfl (fun _ hw=>(Fb isAgg102 sizeOf102 (off:=((W (x4 - 1)).toNat) * 11) (o:=0) (part:=(Di.enc (nth x3 (W (x4 - 1))))) rfl rfl (S.tm rfl) ((Mg Di.enc_ok S (i:=0) rfl hg9 (Dw hc3).1 (Hg (e':=.own O 102 11 x3.length (x3.flatMap Di.enc)))).kept hw))) fun a S=>Ew 10 S hsel rfl rfl (by kernel_rfl) (by kernel_rfl) rfl (fun _=>(Rm (S.tm rfl))) fun a S=>Ew 11 S hsel rfl rfl (by kernel_rfl) (by kernel_rfl) rfl (fun _=>(Rm (S.tm rfl))) ?_;clear S;intro a S
       obtain ⟨b10,hg10,hr10⟩:=Gh (a:=a) (x:=.tmp 47) (y:=.tmp 48) (ty:=0) Oo Di.enc_ok S (i:=0) rfl (Dw hc4).1 (Dw hc4).2 (S.tm rfl) (S.tm rfl)
       refine Ew 12 S hsel rfl rfl (by kernel_rfl) (by kernel_rfl) rfl (fun _=>(hr10 _)) ?_;clear S;intro a S
       clear hr10
       refine Ea 13 S hsel rfl (by kernel_rfl) (by kernel_rfl) (by kernel_rfl) (by kernel_rfl) rfl (fun _ hw=>(Fb isAgg102 sizeOf102 (off:=x4.toNat * 11) (o:=0) (part:=(Di.enc (nth x3 x4))) rfl rfl (S.tm rfl) ((Mg Di.enc_ok S (i:=0) rfl hg10 (Dw hc4).1 (Hg (e':=.own O 102 11 x3.length (x3.flatMap Di.enc)))).kept hw))) ?_;clear S;intro a S
       obtain ⟨b11,hg11,hr11⟩:=Gh (a:=a) (x:=.tmp 37) (y:=.tmp 38) (ty:=0) Oo Di.enc_ok S (i:=0) rfl (Dw hc5).1 (Dw hc5).2 (S.tm rfl) (S.tm rfl)
       refine Ew 14 S hsel rfl rfl (by kernel_rfl) (by kernel_rfl) rfl (fun _=>(hr11 _)) ?_;clear S;intro a S
       clear hr11
       refine Vg 15 (O.ownBlock.toList) rfl (by kernel_rfl) rfl (Ob (c:=0) (j:=x4.toNat) (nth x3 (W (x4 - 1))) Di.enc_ok S (S.tm rfl) (S.tm rfl) (i:=0) rfl hg11 (Dw hc5).1 sizeOf102 (vs:=[sV ((nth x3 (W (x4 - 1))).Site),iV ((nth x3 (W (x4 - 1))).No),iV ((nth x3 (W (x4 - 1))).At),iV ((nth x3 (W (x4 - 1))).Kind),sV ((nth x3 (W (x4 - 1))).Who),sV ((nth x3 (W (x4 - 1))).Club),sV ((nth x3 (W (x4 - 1))).Race),iV ((nth x3 (W (x4 - 1))).Time),iV ((nth x3 (W (x4 - 1))).Fault),sV ((nth x3 (W (x4 - 1))).Of),iV ((nth x3 (W (x4 - 1))).Other)]) rfl rfl rfl rfl rfl ?_);clear S;intro w16 hk11 S
       refine Ld (Vh ?_)
       obtain ⟨b12,hg12,hr12⟩:=Gh (a:=a) (x:=.tmp 39) (y:=.tmp 41) (ty:=0) Oo Di.enc_ok S (i:=0) rfl (Dw hc6).1 (Dw hc6).2 (S.tm rfl) (S.tm rfl)
       refine Ea 16 S hsel rfl rfl rfl (by kernel_rfl) (by kernel_rfl) rfl (fun _ hw=>(hr12 _)) ?_;clear S;intro a S
       clear hr12
       refine Hb 17 (by kernel_rfl) rfl (Ob (c:=0) (j:=(W (x4 - 1)).toNat) (nth x3 x4) Di.enc_ok S (S.tm rfl) (S.tm rfl) (i:=0) rfl hg12 (Dw hc6).1 sizeOf102 (vs:=[sV ((nth x3 x4).Site),iV ((nth x3 x4).No),iV ((nth x3 x4).At),iV ((nth x3 x4).Kind),sV ((nth x3 x4).Who),sV ((nth x3 x4).Club),sV ((nth x3 x4).Race),iV ((nth x3 x4).Time),iV ((nth x3 x4).Fault),sV ((nth x3 x4).Of),iV ((nth x3 x4).Other)]) rfl rfl rfl rfl rfl ?_);clear S;intro w18 hk13 S
       refine Ld (Hy hk13 (Vt (by kernel_rfl) ?_))
       clear hsel
       replace S:=(S.nl [.own O 102 11 ((x3.set x4.toNat (nth x3 (W (x4 - 1)))).set ((W (x4 - 1)).toNat) (nth x3 x4)).length (((x3.set x4.toNat (nth x3 (W (x4 - 1)))).set ((W (x4 - 1)).toNat) (nth x3 x4)).flatMap Di.enc)] [true] rfl).k6 0 1 2 3 8 9 rfl
       exact Hp (Tn (Fg (Vm S rfl rfl fun a S=>Vq S Iw rfl rfl rfl fun a S=>Va S rfl rfl fun a S=>Dl (⟨m2,⟨((x3.set x4.toNat (nth x3 (W (x4 - 1)))).set ((W (x4 - 1)).toNat) (nth x3 x4)),W (x4 - 1),h,S.nf [true] rfl ⟨rfl,rfl,rfl,rfl,rfl,rfl,trivial⟩⟩,Nat.lt_succ_self _⟩))))
      ·exact wp_exit (Ed (Ed (Gn (Tn (⟨x3,h,S.nf [true] rfl (subR rfl)⟩)))))
    clear S h;rintro a w4 ⟨x3,h,S⟩;rw [hj2] at h;clear hj2 j2
    exact Hp (Tn (Fg (Vm S rfl rfl fun a S=>Vq S Gc rfl rfl rfl fun a S=>Va S rfl rfl fun a S=>Dl (⟨m1,⟨x3,W (x2 + 1),h,S.nf [true] rfl ⟨rfl,rfl,rfl,rfl,rfl,trivial⟩⟩,Nat.lt_succ_self _⟩))))
   ·exact wp_exit (Ed (Ed (Gn (Tn (⟨x1,h,S.nf [true] rfl trivial⟩)))))
 clear S h;rintro a w2 ⟨x1,h,S⟩;rw [hj1] at h;clear hj1 j1
 obtain rfl:=Option.some.inj h
 exact Rp S results128 ⟨(S.holds _ (List.mem_of_getElem? (i:=0) rfl)),rfl⟩
theorem Sl (w : World) (O : Value) (Af : List Di) (Bc : (LEnt.own O 102 11 Af.length (Af.flatMap Di.enc)).holds w) (Bb : Int) (r : (List Di)) (h : Kc Af Bb = some r) :
    Calls prog 89 [O,iV Bb,.func (.func 42) #[] #[]].toArray w (Ret w (O.ownBlock.toList) fun _ v w'=>(LEnt.own O 102 11 r.length (r.flatMap Di.enc)).holds w' ∧ v = .tuple #[]):=by
 refine Lb (O.ownBlock.toList) [.own O 102 11 Af.length (Af.flatMap Di.enc)] func89 rfl ntmps89 rfl (fun e he=>by simp only [List.mem_singleton] at he;subst he;exact Bc) (Ix _) (Jw _) fun a S=>?_
 unfold Kc at h
 replace S:=(S.nl [.own O 102 11 Af.length (Af.flatMap Di.enc)] [true] rfl).k3 0 1 2 rfl
 refine Fr (Vk S rfl rfl fun a S=>Dz (Vm S rfl rfl fun a S=>Vk S rfl rfl fun a S=>Va S rfl rfl fun a S=>Ld ?_))
 refine Tn (Fs ?_)
 replace S:=S.k6 0 1 2 6 7 8 rfl
 obtain ⟨j1,hj1,h⟩:=Eu h
 refine Eh (fun a w'=>∃ x1 : List Di,∃ x2 : Int,j1 x1 x2 = some r ∧ Sx w (O.ownBlock.toList) nov [.own O 102 11 x1.length (x1.flatMap Di.enc)] [(0,O),(1,iV Bb),(2,.func (.func 42) #[] #[]),(6,iV 20),(7,iV x2)] 63 a w') ?_ ?_
 ·refine wp_block (Gr (fun (m1 : Nat) a w'=>∃ x1 : List Di,∃ x2 : Int,∃ x3 : Int,Fx Bb j1 m1 x1 x2 x3 = some r ∧ Sx w (O.ownBlock.toList) nov [.own O 102 11 x1.length (x1.flatMap Di.enc)] [(0,O),(1,iV Bb),(2,.func (.func 42) #[] #[]),(6,iV 20),(7,iV x2),(8,iV x3)] 63 a w') id ((Bb - 20).toNat + 2) ⟨Af,0,20,h,S.nf [true] rfl (subR rfl)⟩ ?_)
  clear S h;rintro m1 a w1 ⟨x1,x2,x3,h,S⟩
  cases m1 with
  | zero=>rw [Fx.eq_1] at h;cases h
  | succ m1 =>
   rw [Fx.eq_2] at h
   refine Fs (Fr (Vm S rfl rfl fun a S=>Vm S rfl rfl fun a S=>Vb S Uj rfl rfl rfl fun a S=>Dl (Fc h (S.tm rfl) (fun hb1 h=>?_) (fun hb1 h=>?_))))
   ·refine wp_skip (Tn (wp_block (Fs (Fg ?_))))
    iterate 4 (refine Vm S rfl rfl ?_;clear S;intro a S)
    obtain ⟨r1,hr1,h⟩:=Fa h
    refine Mj 0 S rfl (fun _=>.own O 102 11 r1.length (r1.flatMap Di.enc)) (fun _=>Dq (vs:=[O,iV x2,iV x3,.func (.func 42) #[] #[]]) ⟨(S.tm rfl),(S.tm rfl),(S.tm rfl),(S.tm rfl),trivial⟩ call128) (Mx _ O x1 (S.holds _ (List.mem_of_getElem? (i:=0) rfl)) x2 x3 _ hr1) rfl (fun _ _ _ h=>⟨h.1,fun _ hc=>hc⟩) ?_;clear S;intro v1 a w3 hv1 hk1 hn1 S
    replace hv1:=hv1.2
    subst hv1
    refine Dz (Vm S rfl rfl fun a S=>Va S rfl rfl fun a S=>Ld ?_)
    replace S:=(S.nl [.own O 102 11 r1.length (r1.flatMap Di.enc)] [true] rfl).k6 0 1 2 6 7 8 rfl
    exact Tn (Fg (Vm S rfl rfl fun a S=>Vm S rfl rfl fun a S=>Vb S Gc rfl rfl rfl fun a S=>Va S rfl rfl fun a S=>Ld (Hp (Tn (⟨m1,⟨r1,x3,W (x3 + 20),h,S.nf [true] rfl ⟨rfl,rfl,rfl,rfl,rfl,rfl,trivial⟩⟩,Nat.lt_succ_self _⟩)))))
   ·exact wp_exit (Ed (Ed (Gn (Tn (⟨x1,x2,h,S.nf [true] rfl (subR rfl)⟩)))))
 clear S h;rintro a w2 ⟨x1,x2,h,S⟩;rw [hj1] at h;clear hj1 j1
 refine Tn (Fs (Fg ?_))
 iterate 4 (refine Vm S rfl rfl ?_;clear S;intro a S)
 obtain ⟨r2,hr2,h⟩:=Fa h
 refine Mj 0 S rfl (fun _=>.own O 102 11 r2.length (r2.flatMap Di.enc)) (fun _=>Dq (vs:=[O,iV x2,iV Bb,.func (.func 42) #[] #[]]) ⟨(S.tm rfl),(S.tm rfl),(S.tm rfl),(S.tm rfl),trivial⟩ call128) (Mx _ O x1 (S.holds _ (List.mem_of_getElem? (i:=0) rfl)) x2 Bb _ hr2) rfl (fun _ _ _ h=>⟨h.1,fun _ hc=>hc⟩) ?_;clear S;intro v2 a w4 hv2 hk2 hn2 S
 replace hv2:=hv2.2
 subst hv2
 refine Dl ?_
 replace S:=(S.nl [.own O 102 11 r2.length (r2.flatMap Di.enc)] [true] rfl).k2 1 6 rfl
 obtain ⟨j2,hj2,h⟩:=Eu h
 refine Eh (fun a w'=>j2 = some r ∧ Sx w (O.ownBlock.toList) nov [.own O 102 11 r2.length (r2.flatMap Di.enc)] [] 63 a w') ?_ ?_
 ·refine wp_block (Gr (fun (m2 : Nat) a w'=>∃ x4 : Int,Fy Bb j2 m2 x4 = some r ∧ Sx w (O.ownBlock.toList) nov [.own O 102 11 r2.length (r2.flatMap Di.enc)] [(1,iV Bb),(6,iV x4)] 63 a w') id ((Bb - 20).toNat + 2) ⟨20,h,S.nf [true] rfl (subR rfl)⟩ ?_)
  clear S h;rintro m2 a w5 ⟨x4,h,S⟩
  cases m2 with
  | zero=>rw [Fy.eq_1] at h;cases h
  | succ m2 =>
   rw [Fy.eq_2] at h
   refine Fs (Fr (Vm S rfl rfl fun a S=>Vm S rfl rfl fun a S=>Vb S Es rfl rfl rfl fun a S=>Dl (Fc h (S.tm rfl) (fun hb2 h=>?_) (fun hb2 h=>?_))))
   ·refine wp_skip (Tn (wp_block (Fr (Vm S rfl rfl fun a S=>Vu S (Vx rfl) rfl rfl fun a S=>Vk S rfl rfl fun a S=>Va S rfl rfl fun a S=>Dl ?_))))
    refine Fs ?_
    replace S:=S.k4 1 6 7 8 rfl
    obtain ⟨j3,hj3,h⟩:=Eu h
    refine Eh (fun a w'=>∃ x5 : Int,j3 x5 = some r ∧ Sx w (O.ownBlock.toList) nov [.own O 102 11 r2.length (r2.flatMap Di.enc)] [(1,iV Bb),(6,iV x4),(7,iV x5)] 63 a w') ?_ ?_
    ·refine wp_block (Gr (fun (m3 : Nat) a w'=>∃ x5 : Int,∃ x6 : Int,He Bb j3 m3 x5 x6 = some r ∧ Sx w (O.ownBlock.toList) nov [.own O 102 11 r2.length (r2.flatMap Di.enc)] [(1,iV Bb),(6,iV x4),(7,iV x5),(8,iV x6)] 63 a w') id ((Bb - (W (2 * x4))).toNat + 2) ⟨0,W (2 * x4),h,S.nf [true] rfl (subR rfl)⟩ ?_)
     clear S h;rintro m3 a w7 ⟨x5,x6,h,S⟩
     cases m3 with
     | zero=>rw [He.eq_1] at h;cases h
     | succ m3 =>
      rw [He.eq_2] at h
      refine Fs (Fr (Vm S rfl rfl fun a S=>Vm S rfl rfl fun a S=>Vb S Uj rfl rfl rfl fun a S=>Dl (Fc h (S.tm rfl) (fun hb3 h=>?_) (fun hb3 h=>?_))))
      ·refine wp_skip (Tn (wp_block (Fs ?_)))
       cases h
      ·exact wp_exit (Ed (Ed (Gn (Tn (⟨x5,h,S.nf [true] rfl (subR rfl)⟩)))))
    clear S h;rintro a w8 ⟨x5,h,S⟩;rw [hj3] at h;clear hj3 j3
    refine Tn (Fs (Fr (Vm S rfl rfl fun a S=>Vm S rfl rfl fun a S=>Vb S Gc rfl rfl rfl fun a S=>Va S rfl rfl fun a S=>Dl (Fs ?_))))
    refine Fg (Vm S rfl rfl fun a S=>Vm S rfl rfl fun a S=>Vb S Es rfl rfl rfl fun a S=>Dl (Fc h (S.tm rfl) (fun hb4 h=>?_) (fun hb4 h=>?_)))
    ·cases h
    ·exact wp_skip (Tn (Fg (Vm S rfl rfl fun a S=>Vq S Vx rfl rfl rfl fun a S=>Va S rfl rfl fun a S=>Ld (Hp (Tn (⟨m2,⟨W (x4 * 2),h,S.nf [true] rfl ⟨rfl,rfl,trivial⟩⟩,Nat.lt_succ_self _⟩))))))
   ·exact wp_exit (Ed (Ed (Gn (Tn (⟨h,S.nf [true] rfl trivial⟩)))))
 clear S h;rintro a w6 ⟨h,S⟩;rw [hj2] at h;clear hj2 j2
 obtain rfl:=Option.some.inj h
 exact Rp S results89 ⟨(S.holds _ (List.mem_of_getElem? (i:=0) rfl)),rfl⟩
theorem Rx (w : World) (Ay : Value) (Ab : List Di) (Ce : (LEnt.own Ay 102 11 Ab.length (Ab.flatMap Di.enc)).holds w) (r : (List Di)) (h : Hz Ab = some r) :
    Calls prog 41 [Ay,.func (.func 42) #[] #[]].toArray w (Ret w (Ay.ownBlock.toList) fun _ v w'=>(LEnt.own Ay 102 11 r.length (r.flatMap Di.enc)).holds w' ∧ v = .tuple #[]):=by
 refine Lb (Ay.ownBlock.toList) [.own Ay 102 11 Ab.length (Ab.flatMap Di.enc)] func41 rfl ntmps41 rfl (fun e he=>by simp only [List.mem_singleton] at he;subst he;exact Ce) (Ix _) (Jw _) fun a S=>?_
 unfold Hz at h
 replace S:=(S.nl [.own Ay 102 11 Ab.length (Ab.flatMap Di.enc)] [true] rfl).k2 0 1 rfl
 refine Fg (Vm S rfl rfl fun a S=>Vm S rfl rfl fun a S=>lv S (Gi Oo (S.tm rfl) (Pb (S.own_at (i:=0) rfl))) rfl fun a S=>Vm S rfl rfl ?_);clear S;intro a S
 obtain ⟨r1,hr1,h⟩:=Fa h
 refine Mj 0 S rfl (fun _=>.own Ay 102 11 r1.length (r1.flatMap Di.enc)) (fun _=>Dq (vs:=[Ay,iV (Ab.length : Int),.func (.func 42) #[] #[]]) ⟨(S.tm rfl),(S.tm rfl),(S.tm rfl),trivial⟩ call89) (Sl _ Ay Ab (S.holds _ (List.mem_of_getElem? (i:=0) rfl)) (Ab.length : Int) _ hr1) rfl (fun _ _ _ h=>⟨h.1,fun _ hc=>hc⟩) ?_;clear S;intro v1 a w1 hv1 hk1 hn1 S
 replace hv1:=hv1.2
 subst hv1
 refine Ld ?_
 obtain rfl:=Option.some.inj h
 exact Rp S results41 ⟨(S.holds _ (List.mem_of_getElem? (i:=0) rfl)),rfl⟩
theorem IK (w : World) (U : Nat) (Aa : Value) (Ar : List Int) (Ap : Slc (view w [U]) 1 Aa (Ar.map eInt)) (Am : Int) (As : (LEnt.blk U [Aa,iV Am] 25).holds w) (Bq : Int) (r : (List Di) × Int) (h : Wx Ar Am Bq = some r) :
    Calls prog 21 [.pointer (some ⟨U,0,none⟩),iV Bq].toArray w (Ret w [U] fun τ v w'=>(LEnt.blk U [Aa,iV r.2] 25).holds w' ∧ Uq τ 102 11 v r.1.length (r.1.flatMap Di.enc)):=by
 refine Lb [U] [.blk U [Aa,iV Am] 25] func21 rfl ntmps21 rfl (fun e he=>by simp only [List.mem_singleton] at he;subst he;exact As) (by simp [fps,LEnt.fp]) (by simp [fps,LEnt.fp]) fun a S=>?_
 unfold Wx at h
 replace S:=(S.nl [.blk U [Aa,iV Am] 25] [true] rfl).k2 0 1 rfl
 refine Fr (Vk S rfl rfl fun a S=>Dz (Vk S rfl rfl ?_));clear S;intro a S
 replace S:=S.nil 102 11
 refine Dz (Vk S rfl rfl fun a S=>Dz (Rg (κ:=ByteArray) (ν:=Int) S rfl Value.string (Value.int .i64) ?_));clear S;intro a w1 b1 hz1 hk1 S
 refine Va S rfl rfl fun a S=>Dl (Fs (Fr (Vm S rfl rfl fun a S=>lv S (Rm rfl) rfl fun a S=>Dl ?_)))
 replace S:=(S.nl [.map b1 (Fi Value.string (Value.int .i64) ([] : List (ByteArray × Int))) ([] : List (ByteArray × Int)).length,.own (.slice none 0 0) 102 11 ([] : List Di).length (([] : List Di).flatMap Di.enc),.blk U [Aa,iV Am] 25] [true,true,true] rfl).k6 0 5 6 7 10 11 rfl
 obtain ⟨j1,hj1,h⟩:=Eu h
 refine Eh (fun a w'=>∃ x1 : List (ByteArray × Int),∃ x2 : List Di,∃ x3 : Int,∃ v1 : Value,j1 x1 x2 x3 = some r ∧ Sx w [U] nov [.map b1 (Fi Value.string (Value.int .i64) x1) x1.length,.own v1 102 11 x2.length (x2.flatMap Di.enc),.blk U [Aa,iV x3] 25] [(5,v1)] 130 a w') ?_ ?_
 ·refine wp_block (Gr (fun (m1 : Nat) a w'=>∃ x1 : List (ByteArray × Int),∃ x2 : List Di,∃ x3 : Int,∃ x4 : Int,∃ x5 : Int,∃ v1 : Value,Ns Bq Ar j1 m1 x1 x2 x3 x4 x5 = some r ∧ Sx w [U] nov [.map b1 (Fi Value.string (Value.int .i64) x1) x1.length,.own v1 102 11 x2.length (x2.flatMap Di.enc),.blk U [Aa,iV x3] 25] [(0,.pointer (some ⟨U,0,none⟩)),(5,v1),(6,iV x4),(7,.map (some b1)),(10,iV Bq),(11,iV x5)] 130 a w') id ((Bq - 0).toNat + 2) ⟨([] : List (ByteArray × Int)),([] : List Di),Am,0,0,(.slice none 0 0),h,S.nf [true,true,true] rfl (subR rfl)⟩ ?_)
  clear S h;rintro m1 a w2 ⟨x1,x2,x3,x4,x5,v1,h,S⟩
  cases m1 with
  | zero=>rw [Ns.eq_1] at h;cases h
  | succ m1 =>
   rw [Ns.eq_2] at h
   refine Fr (Vb S Es rfl rfl rfl fun a S=>Dl (Fs (Fc h (S.tm rfl) (fun hb1 h=>?_) (fun hb1 h=>?_))))
   ·refine wp_skip (Tn (Fs (wp_block (Fr (Vm S rfl rfl fun a S=>Vm S rfl rfl fun a S=>Ey S underlying22 sizeOf3 zeroValue3 rfl rfl (pv:=[(0,iV 0),(1,iV 1),(2,iV 5)]) ⟨rfl,rfl,rfl,rfl,rfl,rfl,trivial⟩ (cs:=[iV 0,iV 1,iV 5]) (by kernel_rfl) rfl ?_)))));clear S;intro a w4 b2 hz2 hk2 S
    obtain ⟨r1,hr1,h⟩:=Fa h
    refine Hu 3 S (b:=U) rfl rfl (fun _=>.blk U [Aa,iV r1.2] 25) (fun _=>Dq (vs:=[.pointer (some ⟨U,0,none⟩),.slice (some ⟨b2,0,none⟩) 3 3]) ⟨(S.tm rfl),(S.tm rfl),trivial⟩ call38) (Jy _ U Aa Ar (Ap.mono (S.le_arg (Jn (i:=3) (e:=.blk U [Aa,iV x3] 25) rfl))) x3 (S.holds _ (List.mem_of_getElem? (i:=3) rfl)) (.slice (some ⟨b2,0,none⟩) 3 3) [0,1,5] (Lg Jf S (i:=0) rfl rfl rfl rfl ((Nc (i:=3) (j:=0) (e:=.blk U [Aa,iV x3] 25) (e':=.blk b2 [iV 0,iV 1,iV 5] 3) S rfl rfl rfl) _ rfl)) _ hr1) rfl (fun _ _ _ h=>⟨h.1,fun _ hc=>by cases hc;rfl⟩) ?_;clear S;intro v2 a w5 hv1 hk3 hn1 S
    replace hv1:=hv1.2
    subst hv1
    refine Vb S Gc rfl rfl rfl fun a S=>Va S rfl rfl fun a S=>Dz (Vm S rfl rfl fun a S=>Ey S underlying95 sizeOf9 zeroValue9 rfl rfl (pv:=[(0,sV Ty),(1,sV Ty),(2,sV HI)]) ⟨rfl,rfl,rfl,rfl,rfl,rfl,trivial⟩ (cs:=[sV Ty,sV Ty,sV HI]) (by kernel_rfl) rfl ?_);clear S;intro a w6 b3 hz3 hk4 S
    obtain ⟨r2,hr2,h⟩:=Fa h
    refine Hu 4 S (b:=U) rfl rfl (fun _=>.blk U [Aa,iV r2.2] 25) (fun _=>Dq (vs:=[.pointer (some ⟨U,0,none⟩),.slice (some ⟨b3,0,none⟩) 3 3]) ⟨(S.tm rfl),(S.tm rfl),trivial⟩ call39) (Pm _ U Aa Ar (Ap.mono (S.le_arg (Jn (i:=4) (e:=.blk U [Aa,iV r1.2] 25) rfl))) r1.2 (S.holds _ (List.mem_of_getElem? (i:=4) rfl)) (.slice (some ⟨b3,0,none⟩) 3 3) [Ty,Ty,HI] (Lg Wi S (i:=0) rfl rfl rfl rfl ((Nc (i:=4) (j:=0) (e:=.blk U [Aa,iV r1.2] 25) (e':=.blk b3 [sV Ty,sV Ty,sV HI] 9) S rfl rfl rfl) _ rfl)) _ hr2) rfl (fun _ _ _ h=>⟨h.1,fun _ hc=>by cases hc;rfl⟩) ?_;clear S;intro v3 a w7 hv2 hk5 hn2 S
    replace hv2:=hv2.2
    subst hv2
    refine Vm S rfl rfl fun a S=>Vm S rfl rfl fun a S=>Ey S underlying22 sizeOf3 zeroValue3 rfl rfl (pv:=[(0,iV 1),(1,iV 1),(2,iV 1),(3,iV 3),(4,iV 3),(5,iV 3),(6,iV 2),(7,iV 4)]) ⟨rfl,rfl,rfl,rfl,rfl,rfl,rfl,rfl,rfl,rfl,rfl,rfl,rfl,rfl,rfl,rfl,trivial⟩ (cs:=[iV 1,iV 1,iV 1,iV 3,iV 3,iV 3,iV 2,iV 4]) (by kernel_rfl) rfl ?_;clear S;intro a w8 b4 hz4 hk6 S
    obtain ⟨r3,hr3,h⟩:=Fa h
    refine Hu 5 S (b:=U) rfl rfl (fun _=>.blk U [Aa,iV r3.2] 25) (fun _=>Dq (vs:=[.pointer (some ⟨U,0,none⟩),.slice (some ⟨b4,0,none⟩) 8 8]) ⟨(S.tm rfl),(S.tm rfl),trivial⟩ call38) (Jy _ U Aa Ar (Ap.mono (S.le_arg (Jn (i:=5) (e:=.blk U [Aa,iV r2.2] 25) rfl))) r2.2 (S.holds _ (List.mem_of_getElem? (i:=5) rfl)) (.slice (some ⟨b4,0,none⟩) 8 8) [1,1,1,3,3,3,2,4] (Lg Jf S (i:=0) rfl rfl rfl rfl ((Nc (i:=5) (j:=0) (e:=.blk U [Aa,iV r2.2] 25) (e':=.blk b4 [iV 1,iV 1,iV 1,iV 3,iV 3,iV 3,iV 2,iV 4] 3) S rfl rfl rfl) _ rfl)) _ hr3) rfl (fun _ _ _ h=>⟨h.1,fun _ hc=>by cases hc;rfl⟩) ?_;clear S;intro v4 a w9 hv3 hk7 hn3 S
    replace hv3:=hv3.2
    subst hv3
    refine lv S (Nl RJ (pv:=[(0,sV r2.1),(2,iV (W (x4 + r1.1))),(3,iV r3.1)]) ⟨rfl,(S.tm rfl),rfl,(S.tm rfl),rfl,(S.tm rfl),trivial⟩ (cs:=[sV r2.1,iV 0,iV (W (x4 + r1.1)),iV r3.1,sV An,sV An,sV An,iV 0,iV 0,sV An,iV 0]) (by kernel_rfl)) rfl fun a S=>Hq S zeroValue102 (cs:=[sV An,iV 0,iV 0,iV 0,sV An,sV An,sV An,iV 0,iV 0,sV An,iV 0]) rfl rfl ?_;clear S;intro a w10 b5 hz5 hk8 S
    refine Ex S (S.tm rfl) (S.tm rfl) (i:=0) (off:=0) rfl sizeOf102 (vs:=(Di.enc (Di.mk r2.1 0 (W (x4 + r1.1)) r3.1 An An An 0 0 An 0))) rfl rfl rfl rfl ?_;clear S;intro w11 hk9 S
    refine Ld ?_
    replace S:=(S.nl [.blk b5 (Di.enc (Di.mk r2.1 0 (W (x4 + r1.1)) r3.1 An An An 0 0 An 0)) 102,.map b1 (Fi Value.string (Value.int .i64) x1) x1.length,.own v1 102 11 x2.length (x2.flatMap Di.enc),.blk U [Aa,iV r3.2] 25] [true,false,false,false,true,true,true] rfl).k7 0 5 6 7 8 10 11 rfl
    refine Tn (Fr (Vm S rfl rfl fun a S=>Vf Qw S rfl rfl fun a S=>Vl isAgg9 0 S rfl rfl rfl rfl fun a S=>lv S (Pt (kv:=Value.string) (vv:=(Value.int .i64)) (m:=x1) (key:=r2.1) (z:=0) (S.map_at (i:=1) rfl) underlying99 (Lm underlying9) zeroValue3 (S.tm rfl) (S.tm rfl)) rfl fun a S=>Vq S Gc rfl rfl rfl fun a S=>Nm (kv:=Value.string) (vv:=(Value.int .i64)) (m:=x1) (key:=r2.1) (val:=W ((Ec x1 r2.1 0) + 1)) S (i:=1) rfl underlying99 (Lm underlying9) (S.tm rfl) (S.tm rfl) (S.tm rfl) ?_));clear S;intro w12 hk10 S
    refine Dz (Vm S rfl rfl fun a S=>Vf Qw S rfl rfl fun a S=>Vl isAgg9 0 S rfl rfl rfl rfl fun a S=>lv S (Pt (kv:=Value.string) (vv:=(Value.int .i64)) (m:=(Gk x1 r2.1 (W ((Ec x1 r2.1 0) + 1)))) (key:=r2.1) (z:=0) (S.map_at (i:=1) rfl) underlying99 (Lm underlying9) zeroValue3 (S.tm rfl) (S.tm rfl)) rfl fun a S=>Vf Tg S rfl rfl fun a S=>Ex S (S.tm rfl) (S.tm rfl) (i:=0) (off:=1) rfl sizeOf3 (vs:=[iV (Ec (Gk x1 r2.1 (W ((Ec x1 r2.1 0) + 1))) r2.1 0)]) rfl rfl rfl rfl ?_);clear S;intro w13 hk11 S
    refine Ld ?_
    replace S:=(S.nl [.blk b5 (Di.enc (Di.mk r2.1 (Ec (Gk x1 r2.1 (W ((Ec x1 r2.1 0) + 1))) r2.1 0) (W (x4 + r1.1)) r3.1 An An An 0 0 An 0)) 102,.map b1 (Fi Value.string (Value.int .i64) (Gk x1 r2.1 (W ((Ec x1 r2.1 0) + 1)))) (Gk x1 r2.1 (W ((Ec x1 r2.1 0) + 1))).length,.own v1 102 11 x2.length (x2.flatMap Di.enc),.blk U [Aa,iV r3.2] 25] [true,true,true,true] rfl).k7 0 5 6 7 8 10 11 rfl
    refine Tn (Fs (Fr (Vf Pl S rfl rfl fun a S=>Vl isAgg3 0 S rfl rfl rfl rfl fun a S=>Vq S Mn rfl rfl rfl fun a S=>Dl ?_)))
    obtain ⟨j2,hj2,h⟩:=Eu h
    refine Eh (fun a w'=>∃ x6 : ByteArray,∃ x7 : ByteArray,∃ x8 : Int,j2 x6 x7 x8 = some r ∧ Sx w [U] nov [.blk b5 (Di.enc (Di.mk r2.1 (Ec (Gk x1 r2.1 (W ((Ec x1 r2.1 0) + 1))) r2.1 0) (W (x4 + r1.1)) r3.1 x6 An x7 0 0 An 0)) 102,.map b1 (Fi Value.string (Value.int .i64) (Gk x1 r2.1 (W ((Ec x1 r2.1 0) + 1)))) (Gk x1 r2.1 (W ((Ec x1 r2.1 0) + 1))).length,.own v1 102 11 x2.length (x2.flatMap Di.enc),.blk U [Aa,iV x8] 25] [(0,.pointer (some ⟨U,0,none⟩)),(5,v1),(6,iV (W (x4 + r1.1))),(7,.map (some b1)),(8,.pointer (some ⟨b5,0,none⟩)),(10,iV Bq),(11,iV x5)] 130 a w') ?_ ?_
    ·refine Fc h (S.tm rfl) (fun hb2 h=>?_) (fun hb2 h=>?_)
     ·refine Fg (Vm S rfl rfl fun a S=>Ey S underlying95 sizeOf9 zeroValue9 rfl rfl (pv:=[(0,sV Yh),(1,sV CV),(2,sV CW),(3,sV CX)]) ⟨rfl,rfl,rfl,rfl,rfl,rfl,rfl,rfl,trivial⟩ (cs:=[sV Yh,sV CV,sV CW,sV CX]) (by kernel_rfl) rfl ?_);clear S;intro a w15 b6 hz6 hk12 S
      obtain ⟨r4,hr4,h⟩:=Fa h
      refine Hu 4 S (b:=U) rfl rfl (fun _=>.blk U [Aa,iV r4.2] 25) (fun _=>Dq (vs:=[.pointer (some ⟨U,0,none⟩),.slice (some ⟨b6,0,none⟩) 4 4]) ⟨(S.tm rfl),(S.tm rfl),trivial⟩ call39) (Pm _ U Aa Ar (Ap.mono (S.le_arg (Jn (i:=4) (e:=.blk U [Aa,iV r3.2] 25) rfl))) r3.2 (S.holds _ (List.mem_of_getElem? (i:=4) rfl)) (.slice (some ⟨b6,0,none⟩) 4 4) [Yh,CV,CW,CX] (Lg Wi S (i:=0) rfl rfl rfl rfl ((Nc (i:=4) (j:=0) (e:=.blk U [Aa,iV r3.2] 25) (e':=.blk b6 [sV Yh,sV CV,sV CW,sV CX] 9) S rfl rfl rfl) _ rfl)) _ hr4) rfl (fun _ _ _ h=>⟨h.1,fun _ hc=>by cases hc;rfl⟩) ?_;clear S;intro v5 a w16 hv4 hk13 hn4 S
      replace hv4:=hv4.2
      subst hv4
      refine Vm S rfl rfl fun a S=>Ey S underlying95 sizeOf9 zeroValue9 rfl rfl (pv:=[(0,sV Rq),(1,sV Rq),(2,sV Uu),(3,sV RG)]) ⟨rfl,rfl,rfl,rfl,rfl,rfl,rfl,rfl,trivial⟩ (cs:=[sV Rq,sV Rq,sV Uu,sV RG]) (by kernel_rfl) rfl ?_;clear S;intro a w17 b7 hz7 hk14 S
      obtain ⟨r5,hr5,h⟩:=Fa h
      refine Hu 5 S (b:=U) rfl rfl (fun _=>.blk U [Aa,iV r5.2] 25) (fun _=>Dq (vs:=[.pointer (some ⟨U,0,none⟩),.slice (some ⟨b7,0,none⟩) 4 4]) ⟨(S.tm rfl),(S.tm rfl),trivial⟩ call39) (Pm _ U Aa Ar (Ap.mono (S.le_arg (Jn (i:=5) (e:=.blk U [Aa,iV r4.2] 25) rfl))) r4.2 (S.holds _ (List.mem_of_getElem? (i:=5) rfl)) (.slice (some ⟨b7,0,none⟩) 4 4) [Rq,Rq,Uu,RG] (Lg Wi S (i:=0) rfl rfl rfl rfl ((Nc (i:=5) (j:=0) (e:=.blk U [Aa,iV r4.2] 25) (e':=.blk b7 [sV Rq,sV Rq,sV Uu,sV RG] 9) S rfl rfl rfl) _ rfl)) _ hr5) rfl (fun _ _ _ h=>⟨h.1,fun _ hc=>by cases hc;rfl⟩) ?_;clear S;intro v6 a w18 hv5 hk15 hn5 S
      replace hv5:=hv5.2
      subst hv5
      refine Vf Oh S rfl rfl fun a S=>Ex S (S.tm rfl) (S.tm rfl) (i:=2) (off:=4) rfl sizeOf9 (vs:=[sV r4.1]) rfl rfl rfl rfl ?_;clear S;intro w19 hk16 S
      refine Vf Sj S rfl rfl fun a S=>Ex S (S.tm rfl) (S.tm rfl) (i:=2) (off:=6) rfl sizeOf9 (vs:=[sV r5.1]) rfl rfl rfl rfl ?_;clear S;intro w20 hk17 S
      refine Ld ?_
      replace S:=(S.nl [.blk b5 (Di.enc (Di.mk r2.1 (Ec (Gk x1 r2.1 (W ((Ec x1 r2.1 0) + 1))) r2.1 0) (W (x4 + r1.1)) r3.1 r4.1 An r5.1 0 0 An 0)) 102,.map b1 (Fi Value.string (Value.int .i64) (Gk x1 r2.1 (W ((Ec x1 r2.1 0) + 1)))) (Gk x1 r2.1 (W ((Ec x1 r2.1 0) + 1))).length,.own v1 102 11 x2.length (x2.flatMap Di.enc),.blk U [Aa,iV r5.2] 25] [false,false,true,true,true,true] rfl).k7 0 5 6 7 8 10 11 rfl
      exact Tn (⟨r4.1,r5.1,r5.2,h,S.nf [true,true,true,true] rfl (subR rfl)⟩)
     ·exact wp_skip (Tn (⟨An,An,r3.2,h,S.nf [true,true,true,true] rfl (subR rfl)⟩))
    clear S h;rintro a w14 ⟨x6,x7,x8,h,S⟩;rw [hj2] at h;clear hj2 j2
    refine Tn (Fs (Fr (Vf Pl S rfl rfl fun a S=>Vl isAgg3 0 S rfl rfl rfl rfl fun a S=>Dl ?_)))
    obtain ⟨j3,hj3,h⟩:=Eu h
    refine Eh (fun a w'=>∃ x9 : ByteArray,∃ x10 : Int,∃ x11 : Int,∃ x12 : ByteArray,∃ x13 : Int,∃ x14 : Int,j3 x9 x10 x11 x12 x13 x14 = some r ∧ Sx w [U] nov [.blk b5 (Di.enc (Di.mk r2.1 (Ec (Gk x1 r2.1 (W ((Ec x1 r2.1 0) + 1))) r2.1 0) (W (x4 + r1.1)) r3.1 x6 x9 x7 x10 x11 x12 x13)) 102,.map b1 (Fi Value.string (Value.int .i64) (Gk x1 r2.1 (W ((Ec x1 r2.1 0) + 1)))) (Gk x1 r2.1 (W ((Ec x1 r2.1 0) + 1))).length,.own v1 102 11 x2.length (x2.flatMap Di.enc),.blk U [Aa,iV x14] 25] [(0,.pointer (some ⟨U,0,none⟩)),(5,v1),(6,iV (W (x4 + r1.1))),(7,.map (some b1)),(8,.pointer (some ⟨b5,0,none⟩)),(10,iV Bq),(11,iV x5)] 130 a w') ?_ ?_
    ·refine wp_block (Fr (Vq S Jk rfl rfl rfl fun a S=>Va S rfl rfl fun a S=>Dl ?_))
     obtain ⟨j4,hj4,h⟩:=Eu h
     refine Eh (fun a w'=>∃ x15 : ByteArray,∃ x16 : Int,∃ x17 : Int,∃ x18 : ByteArray,∃ x19 : Int,∃ x20 : Int,j4 x15 x16 x17 x18 x19 x20 = some r ∧ Sx w [U] nov [.blk b5 (Di.enc (Di.mk r2.1 (Ec (Gk x1 r2.1 (W ((Ec x1 r2.1 0) + 1))) r2.1 0) (W (x4 + r1.1)) r3.1 x6 x15 x7 x16 x17 x18 x19)) 102,.map b1 (Fi Value.string (Value.int .i64) (Gk x1 r2.1 (W ((Ec x1 r2.1 0) + 1)))) (Gk x1 r2.1 (W ((Ec x1 r2.1 0) + 1))).length,.own v1 102 11 x2.length (x2.flatMap Di.enc),.blk U [Aa,iV x20] 25] [(0,.pointer (some ⟨U,0,none⟩)),(5,v1),(6,iV (W (x4 + r1.1))),(7,.map (some b1)),(8,.pointer (some ⟨b5,0,none⟩)),(10,iV Bq),(11,iV x5)] 130 a w') ?_ ?_
     ·refine Fc h (S.tm rfl) (fun hb3 h=>?_) (fun hb3 h=>?_)
      ·refine Fg (Vm S rfl rfl fun a S=>Ey S underlying95 sizeOf9 zeroValue9 rfl rfl (pv:=[(0,sV Uv),(1,sV ES),(2,sV An)]) ⟨rfl,rfl,rfl,rfl,rfl,rfl,trivial⟩ (cs:=[sV Uv,sV ES,sV An]) (by kernel_rfl) rfl ?_);clear S;intro a w23 b8 hz8 hk18 S
       obtain ⟨r6,hr6,h⟩:=Fa h
       refine Hu 4 S (b:=U) rfl rfl (fun _=>.blk U [Aa,iV r6.2] 25) (fun _=>Dq (vs:=[.pointer (some ⟨U,0,none⟩),.slice (some ⟨b8,0,none⟩) 3 3]) ⟨(S.tm rfl),(S.tm rfl),trivial⟩ call39) (Pm _ U Aa Ar (Ap.mono (S.le_arg (Jn (i:=4) (e:=.blk U [Aa,iV x8] 25) rfl))) x8 (S.holds _ (List.mem_of_getElem? (i:=4) rfl)) (.slice (some ⟨b8,0,none⟩) 3 3) [Uv,ES,An] (Lg Wi S (i:=0) rfl rfl rfl rfl ((Nc (i:=4) (j:=0) (e:=.blk U [Aa,iV x8] 25) (e':=.blk b8 [sV Uv,sV ES,sV An] 9) S rfl rfl rfl) _ rfl)) _ hr6) rfl (fun _ _ _ h=>⟨h.1,fun _ hc=>by cases hc;rfl⟩) ?_;clear S;intro v7 a w24 hv6 hk19 hn6 S
       replace hv6:=hv6.2
       subst hv6
       refine Vm S rfl rfl fun a S=>Ey S underlying22 sizeOf3 zeroValue3 rfl rfl (pv:=[(0,iV 0),(1,iV 5900),(2,iV 6000),(3,iV 7000)]) ⟨rfl,rfl,rfl,rfl,rfl,rfl,rfl,rfl,trivial⟩ (cs:=[iV 0,iV 5900,iV 6000,iV 7000]) (by kernel_rfl) rfl ?_;clear S;intro a w25 b9 hz9 hk20 S
       obtain ⟨r7,hr7,h⟩:=Fa h
       refine Hu 5 S (b:=U) rfl rfl (fun _=>.blk U [Aa,iV r7.2] 25) (fun _=>Dq (vs:=[.pointer (some ⟨U,0,none⟩),.slice (some ⟨b9,0,none⟩) 4 4]) ⟨(S.tm rfl),(S.tm rfl),trivial⟩ call38) (Jy _ U Aa Ar (Ap.mono (S.le_arg (Jn (i:=5) (e:=.blk U [Aa,iV r6.2] 25) rfl))) r6.2 (S.holds _ (List.mem_of_getElem? (i:=5) rfl)) (.slice (some ⟨b9,0,none⟩) 4 4) [0,5900,6000,7000] (Lg Jf S (i:=0) rfl rfl rfl rfl ((Nc (i:=5) (j:=0) (e:=.blk U [Aa,iV r6.2] 25) (e':=.blk b9 [iV 0,iV 5900,iV 6000,iV 7000] 3) S rfl rfl rfl) _ rfl)) _ hr7) rfl (fun _ _ _ h=>⟨h.1,fun _ hc=>by cases hc;rfl⟩) ?_;clear S;intro v8 a w26 hv7 hk21 hn7 S
       replace hv7:=hv7.2
       subst hv7
       refine Vf Si S rfl rfl fun a S=>Ex S (S.tm rfl) (S.tm rfl) (i:=2) (off:=5) rfl sizeOf9 (vs:=[sV r6.1]) rfl rfl rfl rfl ?_;clear S;intro w27 hk22 S
       refine Vf Ud S rfl rfl fun a S=>Ex S (S.tm rfl) (S.tm rfl) (i:=2) (off:=7) rfl sizeOf3 (vs:=[iV r7.1]) rfl rfl rfl rfl ?_;clear S;intro w28 hk23 S
       refine Ld ?_
       replace S:=(S.nl [.blk b5 (Di.enc (Di.mk r2.1 (Ec (Gk x1 r2.1 (W ((Ec x1 r2.1 0) + 1))) r2.1 0) (W (x4 + r1.1)) r3.1 x6 r6.1 x7 r7.1 0 An 0)) 102,.map b1 (Fi Value.string (Value.int .i64) (Gk x1 r2.1 (W ((Ec x1 r2.1 0) + 1)))) (Gk x1 r2.1 (W ((Ec x1 r2.1 0) + 1))).length,.own v1 102 11 x2.length (x2.flatMap Di.enc),.blk U [Aa,iV r7.2] 25] [false,false,true,true,true,true] rfl).k7 0 5 6 7 8 10 11 rfl
       exact Tn (⟨r6.1,r7.1,0,An,0,r7.2,h,S.nf [true,true,true,true] rfl (subR rfl)⟩)
      ·refine Fr (Vq S Jk rfl rfl rfl fun a S=>Va S rfl rfl fun a S=>Dl ?_)
       obtain ⟨j5,hj5,h⟩:=Eu h
       refine Eh (fun a w'=>∃ x21 : Int,∃ x22 : Int,∃ x23 : ByteArray,∃ x24 : Int,∃ x25 : Int,j5 x21 x22 x23 x24 x25 = some r ∧ Sx w [U] nov [.blk b5 (Di.enc (Di.mk r2.1 (Ec (Gk x1 r2.1 (W ((Ec x1 r2.1 0) + 1))) r2.1 0) (W (x4 + r1.1)) r3.1 x6 An x7 x21 x22 x23 x24)) 102,.map b1 (Fi Value.string (Value.int .i64) (Gk x1 r2.1 (W ((Ec x1 r2.1 0) + 1)))) (Gk x1 r2.1 (W ((Ec x1 r2.1 0) + 1))).length,.own v1 102 11 x2.length (x2.flatMap Di.enc),.blk U [Aa,iV x25] 25] [(0,.pointer (some ⟨U,0,none⟩)),(5,v1),(6,iV (W (x4 + r1.1))),(7,.map (some b1)),(8,.pointer (some ⟨b5,0,none⟩)),(10,iV Bq),(11,iV x5)] 130 a w') ?_ ?_
       ·refine Fc h (S.tm rfl) (fun hb4 h=>?_) (fun hb4 h=>?_)
        ·refine Fg (Vm S rfl rfl fun a S=>Ey S underlying22 sizeOf3 zeroValue3 rfl rfl (pv:=[(0,iV 0),(1,iV 5900),(2,iV 5900),(3,iV 6000),(4,iV 6100)]) ⟨rfl,rfl,rfl,rfl,rfl,rfl,rfl,rfl,rfl,rfl,trivial⟩ (cs:=[iV 0,iV 5900,iV 5900,iV 6000,iV 6100]) (by kernel_rfl) rfl ?_);clear S;intro a w30 b10 hz10 hk24 S
         obtain ⟨r8,hr8,h⟩:=Fa h
         refine Hu 4 S (b:=U) rfl rfl (fun _=>.blk U [Aa,iV r8.2] 25) (fun _=>Dq (vs:=[.pointer (some ⟨U,0,none⟩),.slice (some ⟨b10,0,none⟩) 5 5]) ⟨(S.tm rfl),(S.tm rfl),trivial⟩ call38) (Jy _ U Aa Ar (Ap.mono (S.le_arg (Jn (i:=4) (e:=.blk U [Aa,iV x8] 25) rfl))) x8 (S.holds _ (List.mem_of_getElem? (i:=4) rfl)) (.slice (some ⟨b10,0,none⟩) 5 5) [0,5900,5900,6000,6100] (Lg Jf S (i:=0) rfl rfl rfl rfl ((Nc (i:=4) (j:=0) (e:=.blk U [Aa,iV x8] 25) (e':=.blk b10 [iV 0,iV 5900,iV 5900,iV 6000,iV 6100] 3) S rfl rfl rfl) _ rfl)) _ hr8) rfl (fun _ _ _ h=>⟨h.1,fun _ hc=>by cases hc;rfl⟩) ?_;clear S;intro v9 a w31 hv8 hk25 hn8 S
         replace hv8:=hv8.2
         subst hv8
         refine Vm S rfl rfl fun a S=>Ey S underlying22 sizeOf3 zeroValue3 rfl rfl (pv:=[(0,iV 0),(1,iV 0),(2,iV 0),(3,iV 0),(4,iV 3)]) ⟨rfl,rfl,rfl,rfl,rfl,rfl,rfl,rfl,rfl,rfl,trivial⟩ (cs:=[iV 0,iV 0,iV 0,iV 0,iV 3]) (by kernel_rfl) rfl ?_;clear S;intro a w32 b11 hz11 hk26 S
         obtain ⟨r9,hr9,h⟩:=Fa h
         refine Hu 5 S (b:=U) rfl rfl (fun _=>.blk U [Aa,iV r9.2] 25) (fun _=>Dq (vs:=[.pointer (some ⟨U,0,none⟩),.slice (some ⟨b11,0,none⟩) 5 5]) ⟨(S.tm rfl),(S.tm rfl),trivial⟩ call38) (Jy _ U Aa Ar (Ap.mono (S.le_arg (Jn (i:=5) (e:=.blk U [Aa,iV r8.2] 25) rfl))) r8.2 (S.holds _ (List.mem_of_getElem? (i:=5) rfl)) (.slice (some ⟨b11,0,none⟩) 5 5) [0,0,0,0,3] (Lg Jf S (i:=0) rfl rfl rfl rfl ((Nc (i:=5) (j:=0) (e:=.blk U [Aa,iV r8.2] 25) (e':=.blk b11 [iV 0,iV 0,iV 0,iV 0,iV 3] 3) S rfl rfl rfl) _ rfl)) _ hr9) rfl (fun _ _ _ h=>⟨h.1,fun _ hc=>by cases hc;rfl⟩) ?_;clear S;intro v10 a w33 hv9 hk27 hn9 S
         replace hv9:=hv9.2
         subst hv9
         refine Vf Ud S rfl rfl fun a S=>Ex S (S.tm rfl) (S.tm rfl) (i:=2) (off:=7) rfl sizeOf3 (vs:=[iV r8.1]) rfl rfl rfl rfl ?_;clear S;intro w34 hk28 S
         refine Vf We S rfl rfl fun a S=>Ex S (S.tm rfl) (S.tm rfl) (i:=2) (off:=8) rfl sizeOf3 (vs:=[iV r9.1]) rfl rfl rfl rfl ?_;clear S;intro w35 hk29 S
         refine Ld ?_
         replace S:=(S.nl [.blk b5 (Di.enc (Di.mk r2.1 (Ec (Gk x1 r2.1 (W ((Ec x1 r2.1 0) + 1))) r2.1 0) (W (x4 + r1.1)) r3.1 x6 An x7 r8.1 r9.1 An 0)) 102,.map b1 (Fi Value.string (Value.int .i64) (Gk x1 r2.1 (W ((Ec x1 r2.1 0) + 1)))) (Gk x1 r2.1 (W ((Ec x1 r2.1 0) + 1))).length,.own v1 102 11 x2.length (x2.flatMap Di.enc),.blk U [Aa,iV r9.2] 25] [false,false,true,true,true,true] rfl).k7 0 5 6 7 8 10 11 rfl
         exact Tn (⟨r8.1,r9.1,An,0,r9.2,h,S.nf [true,true,true,true] rfl (subR rfl)⟩)
        ·refine Fr (Vq S Jk rfl rfl rfl fun a S=>Va S rfl rfl fun a S=>Ld ?_)
         replace S:=S.k8 0 5 6 7 8 10 11 69 rfl
         refine Tn ?_
         obtain ⟨j6,hj6,h⟩:=Eu h
         refine Eh (fun a w'=>∃ x26 : ByteArray,∃ x27 : Int,∃ x28 : Int,j6 x26 x27 x28 = some r ∧ Sx w [U] nov [.blk b5 (Di.enc (Di.mk r2.1 (Ec (Gk x1 r2.1 (W ((Ec x1 r2.1 0) + 1))) r2.1 0) (W (x4 + r1.1)) r3.1 x6 An x7 0 0 x26 x27)) 102,.map b1 (Fi Value.string (Value.int .i64) (Gk x1 r2.1 (W ((Ec x1 r2.1 0) + 1)))) (Gk x1 r2.1 (W ((Ec x1 r2.1 0) + 1))).length,.own v1 102 11 x2.length (x2.flatMap Di.enc),.blk U [Aa,iV x28] 25] [(0,.pointer (some ⟨U,0,none⟩)),(5,v1),(6,iV (W (x4 + r1.1))),(7,.map (some b1)),(8,.pointer (some ⟨b5,0,none⟩)),(10,iV Bq),(11,iV x5)] 130 a w') ?_ ?_
         ·refine Fc h (S.tm rfl) (fun hb5 h=>?_) (fun hb5 h=>?_)
          ·obtain ⟨r10,hr10,h⟩:=Fa h
           obtain ⟨r11,hr11,h⟩:=Fa h
           refine Gt [] ([U] ++ [b5]) Tryz.mixed S rfl (by kernel_rfl) ?_;clear S;intro w42 hk35 hsel S
           refine Ea 0 S hsel rfl rfl rfl (by kernel_rfl) (by kernel_rfl) rfl (fun _ hw=>(Rm (S.tm rfl))) fun a S=>Ea 3 S hsel rfl rfl rfl (by kernel_rfl) (by kernel_rfl) rfl (fun _ hw=>(Rm (S.tm rfl))) fun a S=>Ea 4 S hsel rfl rfl rfl (by kernel_rfl) (by kernel_rfl) rfl (fun _ hw=>(Rm (S.tm rfl))) fun a S=>Ea 5 S hsel rfl rfl rfl (by kernel_rfl) (by kernel_rfl) rfl (fun _ hw=>(Pt (kv:=Value.string) (vv:=(Value.int .i64)) (m:=(Gk x1 r2.1 (W ((Ec x1 r2.1 0) + 1)))) (key:=Ty) (z:=0) (S.map_kept (i:=1) rfl (ne_app (Nc (i:=3) (j:=1) (e:=.blk U [Aa,iV x8] 25) (e':=.map b1 (Fi Value.string (Value.int .i64) (Gk x1 r2.1 (W ((Ec x1 r2.1 0) + 1)))) (Gk x1 r2.1 (W ((Ec x1 r2.1 0) + 1))).length) S rfl rfl rfl) (Nc (i:=0) (j:=1) (e:=.blk b5 (Di.enc (Di.mk r2.1 (Ec (Gk x1 r2.1 (W ((Ec x1 r2.1 0) + 1))) r2.1 0) (W (x4 + r1.1)) r3.1 x6 An x7 0 0 An 0)) 102) (e':=.map b1 (Fi Value.string (Value.int .i64) (Gk x1 r2.1 (W ((Ec x1 r2.1 0) + 1)))) (Gk x1 r2.1 (W ((Ec x1 r2.1 0) + 1))).length) S rfl rfl rfl)) hw) underlying99 (Lm underlying9) zeroValue3 (S.tm rfl) rfl)) fun a S=>Ea 6 S hsel rfl rfl rfl (by kernel_rfl) (by kernel_rfl) rfl (fun _ hw=>(SP rfl (S.tm rfl))) fun a S=>Hb 1 (by kernel_rfl) rfl (Ey S underlying95 sizeOf9 zeroValue9 rfl rfl (pv:=[(0,sV Ty),(1,sV Ty),(2,sV HI)]) ⟨rfl,rfl,rfl,rfl,rfl,rfl,trivial⟩ (cs:=[sV Ty,sV Ty,sV HI]) (by kernel_rfl) rfl ?_);clear S;intro a w43 b13 hz13 hk36 S
           refine Ld (Hy (Keep.none hk36) (Hb 2 (by kernel_rfl) rfl ?_))
           refine Hu 4 S (b:=U) rfl rfl (fun _=>.blk U [Aa,iV r10.2] 25) (fun _=>Dq (vs:=[.pointer (some ⟨U,0,none⟩),.slice (some ⟨b13,0,none⟩) 3 3]) ⟨(S.tm rfl),(S.tm rfl),trivial⟩ call39) (Pm _ U Aa Ar (Ap.mono (S.le_arg (Jn (i:=4) (e:=.blk U [Aa,iV x8] 25) rfl))) x8 (S.holds _ (List.mem_of_getElem? (i:=4) rfl)) (.slice (some ⟨b13,0,none⟩) 3 3) [Ty,Ty,HI] (Lg Wi S (i:=0) rfl rfl rfl rfl ((Nc (i:=4) (j:=0) (e:=.blk U [Aa,iV x8] 25) (e':=.blk b13 [sV Ty,sV Ty,sV HI] 9) S rfl rfl rfl) _ rfl)) _ hr10) rfl (fun _ _ _ h=>⟨h.1,fun _ hc=>by cases hc;rfl⟩) ?_;clear S;intro v13 a w44 hv12 hk37 hn12 S
           replace hv12:=hv12.2
           subst hv12
           refine Ld ?_
           refine Hy (hk37.sub (by intro y hy;simp at hy ⊢;simp [hy])) ?_
           refine Ea 8 S hsel rfl rfl rfl (by kernel_rfl) (by kernel_rfl) rfl (fun _ hw=>(Gd Yj (S.tm rfl))) fun a S=>Hb 7 (by kernel_rfl) rfl ?_
           refine Hu 4 S (b:=U) rfl rfl (fun _=>.blk U [Aa,iV r11.2] 25) (fun _=>Dq (vs:=[.pointer (some ⟨U,0,none⟩),iV 1,iV (HA 1 (Ec (Gk x1 r2.1 (W ((Ec x1 r2.1 0) + 1))) Ty 0))]) ⟨(S.tm rfl),rfl,(S.tm rfl),trivial⟩ call6) (Qr _ U Aa Ar (Ap.mono (S.le_arg (Jn (i:=4) (e:=.blk U [Aa,iV r10.2] 25) rfl))) r10.2 (S.holds _ (List.mem_of_getElem? (i:=4) rfl)) 1 (HA 1 (Ec (Gk x1 r2.1 (W ((Ec x1 r2.1 0) + 1))) Ty 0)) _ hr11) rfl (fun _ _ _ h=>⟨h.1,fun _ hc=>by cases hc;rfl⟩) ?_;clear S;intro v14 a w45 hv13 hk38 hn13 S
           replace hv13:=hv13.2
           subst hv13
           refine Ld ?_
           refine Hy (hk38.sub (by intro y hy;simp at hy ⊢;simp [hy])) ?_
           refine Hb 9 (by kernel_rfl) rfl (Ex S (S.tm rfl) (S.tm rfl) (i:=1) (off:=9) rfl sizeOf9 (vs:=[sV r10.1]) rfl rfl rfl rfl ?_);clear S;intro w46 hk39 S
           refine Ld ?_
           refine Hy (hk39.sub (by intro y hy;simp at hy ⊢;simp [hy])) ?_
           refine Ea 10 S hsel rfl rfl rfl (by kernel_rfl) (by kernel_rfl) rfl (fun _ hw=>(Gd Vs (S.tm rfl))) fun a S=>Hb 11 (by kernel_rfl) rfl (Ex S (S.tm rfl) (S.tm rfl) (i:=1) (off:=10) rfl sizeOf3 (vs:=[iV r11.1]) rfl rfl rfl rfl ?_);clear S;intro w47 hk40 S
           refine Ld ?_
           refine Hy (hk40.sub (by intro y hy;simp at hy ⊢;simp [hy])) ?_
           refine Vt (by kernel_rfl) ?_
           clear hsel
           replace S:=(S.nl [.blk b5 (Di.enc (Di.mk r2.1 (Ec (Gk x1 r2.1 (W ((Ec x1 r2.1 0) + 1))) r2.1 0) (W (x4 + r1.1)) r3.1 x6 An x7 0 0 r10.1 r11.1)) 102,.map b1 (Fi Value.string (Value.int .i64) (Gk x1 r2.1 (W ((Ec x1 r2.1 0) + 1)))) (Gk x1 r2.1 (W ((Ec x1 r2.1 0) + 1))).length,.own v1 102 11 x2.length (x2.flatMap Di.enc),.blk U [Aa,iV r11.2] 25] [false,true,true,true,true] rfl).k7 0 5 6 7 8 10 11 rfl
           exact Tn (⟨r10.1,r11.1,r11.2,h,S.nf [true,true,true,true] rfl (subR rfl)⟩)
          ·exact wp_skip (Tn (⟨An,0,x8,h,S.nf [true,true,true,true] rfl (subR rfl)⟩))
         clear S h;rintro a w36 ⟨x26,x27,x28,h,S⟩;rw [hj6] at h;clear hj6 j6
         exact Tn (⟨0,0,x26,x27,x28,h,S.nf [true,true,true,true] rfl (subR rfl)⟩)
       clear S h;rintro a w29 ⟨x21,x22,x23,x24,x25,h,S⟩;rw [hj5] at h;clear hj5 j5
       exact Tn (⟨An,x21,x22,x23,x24,x25,h,S.nf [true,true,true,true] rfl (subR rfl)⟩)
     clear S h;rintro a w22 ⟨x15,x16,x17,x18,x19,x20,h,S⟩;rw [hj4] at h;clear hj4 j4
     exact Hp (Tn (⟨x15,x16,x17,x18,x19,x20,h,S.nf [true,true,true,true] rfl (subR rfl)⟩))
    clear S h;rintro a w21 ⟨x9,x10,x11,x12,x13,x14,h,S⟩;rw [hj3] at h;clear hj3 j3
    refine Tn (Fs (Fr (Vm S rfl rfl ?_)));clear S;intro a S
    obtain ⟨r12,hr12,h⟩:=Fa h
    refine Hu 3 S (b:=U) rfl rfl (fun _=>.blk U [Aa,iV r12.2] 25) (fun _=>Dq (vs:=[.pointer (some ⟨U,0,none⟩),iV 100]) ⟨(S.tm rfl),rfl,trivial⟩ call36) (Zj _ U Aa Ar (Ap.mono (S.le_arg (Jn (i:=3) (e:=.blk U [Aa,iV x14] 25) rfl))) x14 (S.holds _ (List.mem_of_getElem? (i:=3) rfl)) 100 _ hr12) rfl (fun _ _ _ h=>⟨h.1,fun _ hc=>by cases hc;rfl⟩) ?_;clear S;intro v15 a w48 hv14 hk41 hn14 S
    replace hv14:=hv14.2
    subst hv14
    refine Dl ?_
    obtain ⟨j7,hj7,h⟩:=Eu h
    refine Eh (fun a w'=>∃ x29 : ByteArray,∃ x30 : Int,∃ x31 : Int,∃ x32 : ByteArray,∃ x33 : ByteArray,∃ x34 : ByteArray,∃ x35 : Int,∃ x36 : Int,∃ x37 : Int,∃ x38 : Int,j7 x29 x30 x31 x32 x33 x34 x35 x36 x37 x38 = some r ∧ Sx w [U] nov [.blk b5 (Di.enc (Di.mk x29 x30 (W (x4 + r1.1)) x31 x32 x33 x34 x35 x36 x12 x37)) 102,.map b1 (Fi Value.string (Value.int .i64) (Gk x1 r2.1 (W ((Ec x1 r2.1 0) + 1)))) (Gk x1 r2.1 (W ((Ec x1 r2.1 0) + 1))).length,.own v1 102 11 x2.length (x2.flatMap Di.enc),.blk U [Aa,iV x38] 25] [(0,.pointer (some ⟨U,0,none⟩)),(5,v1),(6,iV (W (x4 + r1.1))),(7,.map (some b1)),(8,.pointer (some ⟨b5,0,none⟩)),(10,iV Bq),(11,iV x5)] 130 a w') ?_ ?_
    ·refine Fc h (S.tm rfl) (fun hb6 h=>?_) (fun hb6 h=>?_)
     ·refine Fr (Vm S rfl rfl ?_);clear S;intro a S
      obtain ⟨r13,hr13,h⟩:=Fa h
      refine Hu 3 S (b:=U) rfl rfl (fun _=>.blk U [Aa,iV r13.2] 25) (fun _=>Dq (vs:=[.pointer (some ⟨U,0,none⟩),iV 4]) ⟨(S.tm rfl),rfl,trivial⟩ call23) (Uz _ U Aa Ar (Ap.mono (S.le_arg (Jn (i:=3) (e:=.blk U [Aa,iV r12.2] 25) rfl))) r12.2 (S.holds _ (List.mem_of_getElem? (i:=3) rfl)) 4 _ hr13) rfl (fun _ _ _ h=>⟨h.1,fun _ hc=>by cases hc;rfl⟩) ?_;clear S;intro v16 a w50 hv15 hk42 hn15 S
      replace hv15:=hv15.2
      subst hv15
      refine Dl ?_
      obtain ⟨j8,hj8,h⟩:=Eu h
      refine Eh (fun a w'=>∃ x39 : ByteArray,∃ x40 : Int,∃ x41 : Int,∃ x42 : ByteArray,∃ x43 : ByteArray,∃ x44 : ByteArray,∃ x45 : Int,∃ x46 : Int,∃ x47 : Int,∃ x48 : Int,j8 x39 x40 x41 x42 x43 x44 x45 x46 x47 x48 = some r ∧ Sx w [U] nov [.blk b5 (Di.enc (Di.mk x39 x40 (W (x4 + r1.1)) x41 x42 x43 x44 x45 x46 x12 x47)) 102,.map b1 (Fi Value.string (Value.int .i64) (Gk x1 r2.1 (W ((Ec x1 r2.1 0) + 1)))) (Gk x1 r2.1 (W ((Ec x1 r2.1 0) + 1))).length,.own v1 102 11 x2.length (x2.flatMap Di.enc),.blk U [Aa,iV x48] 25] [(0,.pointer (some ⟨U,0,none⟩)),(5,v1),(6,iV (W (x4 + r1.1))),(7,.map (some b1)),(8,.pointer (some ⟨b5,0,none⟩)),(10,iV Bq),(11,iV x5)] 130 a w') ?_ ?_
      ·refine wp_block (Fr (Vq S Jk rfl rfl rfl fun a S=>Va S rfl rfl fun a S=>Dl ?_))
       obtain ⟨j9,hj9,h⟩:=Eu h
       refine Eh (fun a w'=>∃ x49 : ByteArray,∃ x50 : Int,∃ x51 : Int,∃ x52 : ByteArray,∃ x53 : ByteArray,∃ x54 : ByteArray,∃ x55 : Int,∃ x56 : Int,∃ x57 : Int,∃ x58 : Int,j9 x49 x50 x51 x52 x53 x54 x55 x56 x57 x58 = some r ∧ Sx w [U] nov [.blk b5 (Di.enc (Di.mk x49 x50 (W (x4 + r1.1)) x51 x52 x53 x54 x55 x56 x12 x57)) 102,.map b1 (Fi Value.string (Value.int .i64) (Gk x1 r2.1 (W ((Ec x1 r2.1 0) + 1)))) (Gk x1 r2.1 (W ((Ec x1 r2.1 0) + 1))).length,.own v1 102 11 x2.length (x2.flatMap Di.enc),.blk U [Aa,iV x58] 25] [(0,.pointer (some ⟨U,0,none⟩)),(5,v1),(6,iV (W (x4 + r1.1))),(7,.map (some b1)),(8,.pointer (some ⟨b5,0,none⟩)),(10,iV Bq),(11,iV x5)] 130 a w') ?_ ?_
       ·refine Fc h (S.tm rfl) (fun hb7 h=>?_) (fun hb7 h=>?_)
        ·refine Fg (Vm S rfl rfl fun a S=>Ey S underlying95 sizeOf9 zeroValue9 rfl rfl (pv:=[(0,sV An),(1,sV Ty)]) ⟨rfl,rfl,rfl,rfl,trivial⟩ (cs:=[sV An,sV Ty]) (by kernel_rfl) rfl ?_);clear S;intro a w53 b14 hz14 hk43 S
         obtain ⟨r14,hr14,h⟩:=Fa h
         refine Hu 4 S (b:=U) rfl rfl (fun _=>.blk U [Aa,iV r14.2] 25) (fun _=>Dq (vs:=[.pointer (some ⟨U,0,none⟩),.slice (some ⟨b14,0,none⟩) 2 2]) ⟨(S.tm rfl),(S.tm rfl),trivial⟩ call39) (Pm _ U Aa Ar (Ap.mono (S.le_arg (Jn (i:=4) (e:=.blk U [Aa,iV r13.2] 25) rfl))) r13.2 (S.holds _ (List.mem_of_getElem? (i:=4) rfl)) (.slice (some ⟨b14,0,none⟩) 2 2) [An,Ty] (Lg Wi S (i:=0) rfl rfl rfl rfl ((Nc (i:=4) (j:=0) (e:=.blk U [Aa,iV r13.2] 25) (e':=.blk b14 [sV An,sV Ty] 9) S rfl rfl rfl) _ rfl)) _ hr14) rfl (fun _ _ _ h=>⟨h.1,fun _ hc=>by cases hc;rfl⟩) ?_;clear S;intro v17 a w54 hv16 hk44 hn16 S
         replace hv16:=hv16.2
         subst hv16
         refine Vm S rfl rfl ?_;clear S;intro a S
         obtain ⟨r15,hr15,h⟩:=Fa h
         refine Hu 4 S (b:=U) rfl rfl (fun _=>.blk U [Aa,iV r15.2] 25) (fun _=>Dq (vs:=[.pointer (some ⟨U,0,none⟩),iV 1,iV 9]) ⟨(S.tm rfl),rfl,rfl,trivial⟩ call40) (Wf _ U Aa Ar (Ap.mono (S.le_arg (Jn (i:=4) (e:=.blk U [Aa,iV r14.2] 25) rfl))) r14.2 (S.holds _ (List.mem_of_getElem? (i:=4) rfl)) 1 9 _ hr15) rfl (fun _ _ _ h=>⟨h.1,fun _ hc=>by cases hc;rfl⟩) ?_;clear S;intro v18 a w55 hv17 hk45 hn17 S
         replace hv17:=hv17.2
         subst hv17
         refine Vf Qw S rfl rfl fun a S=>Ex S (S.tm rfl) (S.tm rfl) (i:=1) (off:=0) rfl sizeOf9 (vs:=[sV r14.1]) rfl rfl rfl rfl ?_;clear S;intro w56 hk46 S
         refine Vf Tg S rfl rfl fun a S=>Ex S (S.tm rfl) (S.tm rfl) (i:=1) (off:=1) rfl sizeOf3 (vs:=[iV r15.1]) rfl rfl rfl rfl ?_;clear S;intro w57 hk47 S
         refine Ld ?_
         replace S:=(S.nl [.blk b5 (Di.enc (Di.mk r14.1 r15.1 (W (x4 + r1.1)) r3.1 x6 x9 x7 x10 x11 x12 x13)) 102,.map b1 (Fi Value.string (Value.int .i64) (Gk x1 r2.1 (W ((Ec x1 r2.1 0) + 1)))) (Gk x1 r2.1 (W ((Ec x1 r2.1 0) + 1))).length,.own v1 102 11 x2.length (x2.flatMap Di.enc),.blk U [Aa,iV r15.2] 25] [false,true,true,true,true] rfl).k7 0 5 6 7 8 10 11 rfl
         exact Tn (⟨r14.1,r15.1,r3.1,x6,x9,x7,x10,x11,x13,r15.2,h,S.nf [true,true,true,true] rfl (subR rfl)⟩)
        ·refine Fr (Vq S Jk rfl rfl rfl fun a S=>Va S rfl rfl fun a S=>Ld ?_)
         replace S:=(S.nl [.blk b5 (Di.enc (Di.mk r2.1 (Ec (Gk x1 r2.1 (W ((Ec x1 r2.1 0) + 1))) r2.1 0) (W (x4 + r1.1)) r3.1 x6 x9 x7 x10 x11 x12 x13)) 102,.map b1 (Fi Value.string (Value.int .i64) (Gk x1 r2.1 (W ((Ec x1 r2.1 0) + 1)))) (Gk x1 r2.1 (W ((Ec x1 r2.1 0) + 1))).length,.own v1 102 11 x2.length (x2.flatMap Di.enc),.blk U [Aa,iV r13.2] 25] [true,true,true,true] rfl).k9 0 5 6 7 8 10 11 84 103 rfl
         refine Tn ?_
         obtain ⟨j10,hj10,h⟩:=Eu h
         refine Eh (fun a w'=>∃ x59 : Int,∃ x60 : ByteArray,∃ x61 : ByteArray,∃ x62 : ByteArray,∃ x63 : Int,∃ x64 : Int,∃ x65 : Int,∃ x66 : Int,j10 x59 x60 x61 x62 x63 x64 x65 x66 = some r ∧ Sx w [U] nov [.blk b5 (Di.enc (Di.mk r2.1 (Ec (Gk x1 r2.1 (W ((Ec x1 r2.1 0) + 1))) r2.1 0) (W (x4 + r1.1)) x59 x60 x61 x62 x63 x64 x12 x65)) 102,.map b1 (Fi Value.string (Value.int .i64) (Gk x1 r2.1 (W ((Ec x1 r2.1 0) + 1)))) (Gk x1 r2.1 (W ((Ec x1 r2.1 0) + 1))).length,.own v1 102 11 x2.length (x2.flatMap Di.enc),.blk U [Aa,iV x66] 25] [(0,.pointer (some ⟨U,0,none⟩)),(5,v1),(6,iV (W (x4 + r1.1))),(7,.map (some b1)),(8,.pointer (some ⟨b5,0,none⟩)),(10,iV Bq),(11,iV x5)] 130 a w') ?_ ?_
         ·refine Fc h (S.tm rfl) (fun hb8 h=>?_) (fun hb8 h=>?_)
          ·refine Fg (Vm S rfl rfl ?_);clear S;intro a S
           obtain ⟨r16,hr16,h⟩:=Fa h
           refine Hu 3 S (b:=U) rfl rfl (fun _=>.blk U [Aa,iV r16.2] 25) (fun _=>Dq (vs:=[.pointer (some ⟨U,0,none⟩),iV 1,iV 4]) ⟨(S.tm rfl),rfl,rfl,trivial⟩ call40) (Wf _ U Aa Ar (Ap.mono (S.le_arg (Jn (i:=3) (e:=.blk U [Aa,iV r13.2] 25) rfl))) r13.2 (S.holds _ (List.mem_of_getElem? (i:=3) rfl)) 1 4 _ hr16) rfl (fun _ _ _ h=>⟨h.1,fun _ hc=>by cases hc;rfl⟩) ?_;clear S;intro v19 a w59 hv18 hk48 hn18 S
           replace hv18:=hv18.2
           subst hv18
           refine Vf Pl S rfl rfl fun a S=>Ex S (S.tm rfl) (S.tm rfl) (i:=0) (off:=3) rfl sizeOf3 (vs:=[iV r16.1]) rfl rfl rfl rfl ?_;clear S;intro w60 hk49 S
           exact Dl (⟨r16.1,x6,x9,x7,x10,x11,x13,r16.2,h,S.nf [true,true,true,true] rfl (subR rfl)⟩)
          ·refine Fr (Vq S Jk rfl rfl rfl fun a S=>Va S rfl rfl fun a S=>Dl ?_)
           obtain ⟨j11,hj11,h⟩:=Eu h
           refine Eh (fun a w'=>∃ x67 : ByteArray,∃ x68 : ByteArray,∃ x69 : ByteArray,∃ x70 : Int,∃ x71 : Int,∃ x72 : Int,∃ x73 : Int,j11 x67 x68 x69 x70 x71 x72 x73 = some r ∧ Sx w [U] nov [.blk b5 (Di.enc (Di.mk r2.1 (Ec (Gk x1 r2.1 (W ((Ec x1 r2.1 0) + 1))) r2.1 0) (W (x4 + r1.1)) r3.1 x67 x68 x69 x70 x71 x12 x72)) 102,.map b1 (Fi Value.string (Value.int .i64) (Gk x1 r2.1 (W ((Ec x1 r2.1 0) + 1)))) (Gk x1 r2.1 (W ((Ec x1 r2.1 0) + 1))).length,.own v1 102 11 x2.length (x2.flatMap Di.enc),.blk U [Aa,iV x73] 25] [(0,.pointer (some ⟨U,0,none⟩)),(5,v1),(6,iV (W (x4 + r1.1))),(7,.map (some b1)),(8,.pointer (some ⟨b5,0,none⟩)),(10,iV Bq),(11,iV x5)] 130 a w') ?_ ?_
           ·refine Fc h (S.tm rfl) (fun hb9 h=>?_) (fun hb9 h=>?_)
            ·refine Fg (Vm S rfl rfl fun a S=>Ey S underlying95 sizeOf9 zeroValue9 rfl rfl (pv:=[(0,sV An),(1,sV Yh)]) ⟨rfl,rfl,rfl,rfl,trivial⟩ (cs:=[sV An,sV Yh]) (by kernel_rfl) rfl ?_);clear S;intro a w62 b15 hz15 hk50 S
             obtain ⟨r17,hr17,h⟩:=Fa h
             refine Hu 4 S (b:=U) rfl rfl (fun _=>.blk U [Aa,iV r17.2] 25) (fun _=>Dq (vs:=[.pointer (some ⟨U,0,none⟩),.slice (some ⟨b15,0,none⟩) 2 2]) ⟨(S.tm rfl),(S.tm rfl),trivial⟩ call39) (Pm _ U Aa Ar (Ap.mono (S.le_arg (Jn (i:=4) (e:=.blk U [Aa,iV r13.2] 25) rfl))) r13.2 (S.holds _ (List.mem_of_getElem? (i:=4) rfl)) (.slice (some ⟨b15,0,none⟩) 2 2) [An,Yh] (Lg Wi S (i:=0) rfl rfl rfl rfl ((Nc (i:=4) (j:=0) (e:=.blk U [Aa,iV r13.2] 25) (e':=.blk b15 [sV An,sV Yh] 9) S rfl rfl rfl) _ rfl)) _ hr17) rfl (fun _ _ _ h=>⟨h.1,fun _ hc=>by cases hc;rfl⟩) ?_;clear S;intro v20 a w63 hv19 hk51 hn19 S
             replace hv19:=hv19.2
             subst hv19
             refine Vm S rfl rfl fun a S=>Ey S underlying95 sizeOf9 zeroValue9 rfl rfl (pv:=[(0,sV k_A),(1,sV Uv)]) ⟨rfl,rfl,rfl,rfl,trivial⟩ (cs:=[sV k_A,sV Uv]) (by kernel_rfl) rfl ?_;clear S;intro a w64 b16 hz16 hk52 S
             obtain ⟨r18,hr18,h⟩:=Fa h
             refine Hu 5 S (b:=U) rfl rfl (fun _=>.blk U [Aa,iV r18.2] 25) (fun _=>Dq (vs:=[.pointer (some ⟨U,0,none⟩),.slice (some ⟨b16,0,none⟩) 2 2]) ⟨(S.tm rfl),(S.tm rfl),trivial⟩ call39) (Pm _ U Aa Ar (Ap.mono (S.le_arg (Jn (i:=5) (e:=.blk U [Aa,iV r17.2] 25) rfl))) r17.2 (S.holds _ (List.mem_of_getElem? (i:=5) rfl)) (.slice (some ⟨b16,0,none⟩) 2 2) [k_A,Uv] (Lg Wi S (i:=0) rfl rfl rfl rfl ((Nc (i:=5) (j:=0) (e:=.blk U [Aa,iV r17.2] 25) (e':=.blk b16 [sV k_A,sV Uv] 9) S rfl rfl rfl) _ rfl)) _ hr18) rfl (fun _ _ _ h=>⟨h.1,fun _ hc=>by cases hc;rfl⟩) ?_;clear S;intro v21 a w65 hv20 hk53 hn20 S
             replace hv20:=hv20.2
             subst hv20
             refine Vm S rfl rfl fun a S=>Ey S underlying95 sizeOf9 zeroValue9 rfl rfl (pv:=[(0,sV An),(1,sV Rq)]) ⟨rfl,rfl,rfl,rfl,trivial⟩ (cs:=[sV An,sV Rq]) (by kernel_rfl) rfl ?_;clear S;intro a w66 b17 hz17 hk54 S
             obtain ⟨r19,hr19,h⟩:=Fa h
             refine Hu 6 S (b:=U) rfl rfl (fun _=>.blk U [Aa,iV r19.2] 25) (fun _=>Dq (vs:=[.pointer (some ⟨U,0,none⟩),.slice (some ⟨b17,0,none⟩) 2 2]) ⟨(S.tm rfl),(S.tm rfl),trivial⟩ call39) (Pm _ U Aa Ar (Ap.mono (S.le_arg (Jn (i:=6) (e:=.blk U [Aa,iV r18.2] 25) rfl))) r18.2 (S.holds _ (List.mem_of_getElem? (i:=6) rfl)) (.slice (some ⟨b17,0,none⟩) 2 2) [An,Rq] (Lg Wi S (i:=0) rfl rfl rfl rfl ((Nc (i:=6) (j:=0) (e:=.blk U [Aa,iV r18.2] 25) (e':=.blk b17 [sV An,sV Rq] 9) S rfl rfl rfl) _ rfl)) _ hr19) rfl (fun _ _ _ h=>⟨h.1,fun _ hc=>by cases hc;rfl⟩) ?_;clear S;intro v22 a w67 hv21 hk55 hn21 S
             replace hv21:=hv21.2
             subst hv21
             refine Vf Oh S rfl rfl fun a S=>Ex S (S.tm rfl) (S.tm rfl) (i:=3) (off:=4) rfl sizeOf9 (vs:=[sV r17.1]) rfl rfl rfl rfl ?_;clear S;intro w68 hk56 S
             refine Vf Si S rfl rfl fun a S=>Ex S (S.tm rfl) (S.tm rfl) (i:=3) (off:=5) rfl sizeOf9 (vs:=[sV r18.1]) rfl rfl rfl rfl ?_;clear S;intro w69 hk57 S
             refine Vf Sj S rfl rfl fun a S=>Ex S (S.tm rfl) (S.tm rfl) (i:=3) (off:=6) rfl sizeOf9 (vs:=[sV r19.1]) rfl rfl rfl rfl ?_;clear S;intro w70 hk58 S
             refine Ld ?_
             replace S:=(S.nl [.blk b5 (Di.enc (Di.mk r2.1 (Ec (Gk x1 r2.1 (W ((Ec x1 r2.1 0) + 1))) r2.1 0) (W (x4 + r1.1)) r3.1 r17.1 r18.1 r19.1 x10 x11 x12 x13)) 102,.map b1 (Fi Value.string (Value.int .i64) (Gk x1 r2.1 (W ((Ec x1 r2.1 0) + 1)))) (Gk x1 r2.1 (W ((Ec x1 r2.1 0) + 1))).length,.own v1 102 11 x2.length (x2.flatMap Di.enc),.blk U [Aa,iV r19.2] 25] [false,false,false,true,true,true,true] rfl).k7 0 5 6 7 8 10 11 rfl
             exact Tn (⟨r17.1,r18.1,r19.1,x10,x11,x13,r19.2,h,S.nf [true,true,true,true] rfl (subR rfl)⟩)
            ·refine Fg (Vm S rfl rfl ?_);clear S;intro a S
             obtain ⟨r20,hr20,h⟩:=Fa h
             refine Hu 3 S (b:=U) rfl rfl (fun _=>.blk U [Aa,iV r20.2] 25) (fun _=>Dq (vs:=[.pointer (some ⟨U,0,none⟩),iV 0,iV 360000]) ⟨(S.tm rfl),rfl,rfl,trivial⟩ call40) (Wf _ U Aa Ar (Ap.mono (S.le_arg (Jn (i:=3) (e:=.blk U [Aa,iV r13.2] 25) rfl))) r13.2 (S.holds _ (List.mem_of_getElem? (i:=3) rfl)) 0 360000 _ hr20) rfl (fun _ _ _ h=>⟨h.1,fun _ hc=>by cases hc;rfl⟩) ?_;clear S;intro v23 a w71 hv22 hk59 hn22 S
             replace hv22:=hv22.2
             subst hv22
             refine Vm S rfl rfl ?_;clear S;intro a S
             obtain ⟨r21,hr21,h⟩:=Fa h
             refine Hu 3 S (b:=U) rfl rfl (fun _=>.blk U [Aa,iV r21.2] 25) (fun _=>Dq (vs:=[.pointer (some ⟨U,0,none⟩),iV 0,iV 8]) ⟨(S.tm rfl),rfl,rfl,trivial⟩ call40) (Wf _ U Aa Ar (Ap.mono (S.le_arg (Jn (i:=3) (e:=.blk U [Aa,iV r20.2] 25) rfl))) r20.2 (S.holds _ (List.mem_of_getElem? (i:=3) rfl)) 0 8 _ hr21) rfl (fun _ _ _ h=>⟨h.1,fun _ hc=>by cases hc;rfl⟩) ?_;clear S;intro v24 a w72 hv23 hk60 hn23 S
             replace hv23:=hv23.2
             subst hv23
             refine Vm S rfl rfl ?_;clear S;intro a S
             obtain ⟨r22,hr22,h⟩:=Fa h
             refine Hu 3 S (b:=U) rfl rfl (fun _=>.blk U [Aa,iV r22.2] 25) (fun _=>Dq (vs:=[.pointer (some ⟨U,0,none⟩),iV 0,iV 5]) ⟨(S.tm rfl),rfl,rfl,trivial⟩ call40) (Wf _ U Aa Ar (Ap.mono (S.le_arg (Jn (i:=3) (e:=.blk U [Aa,iV r21.2] 25) rfl))) r21.2 (S.holds _ (List.mem_of_getElem? (i:=3) rfl)) 0 5 _ hr22) rfl (fun _ _ _ h=>⟨h.1,fun _ hc=>by cases hc;rfl⟩) ?_;clear S;intro v25 a w73 hv24 hk61 hn24 S
             replace hv24:=hv24.2
             subst hv24
             refine Vf Ud S rfl rfl fun a S=>Ex S (S.tm rfl) (S.tm rfl) (i:=0) (off:=7) rfl sizeOf3 (vs:=[iV r20.1]) rfl rfl rfl rfl ?_;clear S;intro w74 hk62 S
             refine Vf We S rfl rfl fun a S=>Ex S (S.tm rfl) (S.tm rfl) (i:=0) (off:=8) rfl sizeOf3 (vs:=[iV r21.1]) rfl rfl rfl rfl ?_;clear S;intro w75 hk63 S
             refine Vf Vs S rfl rfl fun a S=>Ex S (S.tm rfl) (S.tm rfl) (i:=0) (off:=10) rfl sizeOf3 (vs:=[iV r22.1]) rfl rfl rfl rfl ?_;clear S;intro w76 hk64 S
             refine Ld ?_
             replace S:=(S.nl [.blk b5 (Di.enc (Di.mk r2.1 (Ec (Gk x1 r2.1 (W ((Ec x1 r2.1 0) + 1))) r2.1 0) (W (x4 + r1.1)) r3.1 x6 x9 x7 r20.1 r21.1 x12 r22.1)) 102,.map b1 (Fi Value.string (Value.int .i64) (Gk x1 r2.1 (W ((Ec x1 r2.1 0) + 1)))) (Gk x1 r2.1 (W ((Ec x1 r2.1 0) + 1))).length,.own v1 102 11 x2.length (x2.flatMap Di.enc),.blk U [Aa,iV r22.2] 25] [true,true,true,true] rfl).k7 0 5 6 7 8 10 11 rfl
             exact Tn (⟨x6,x9,x7,r20.1,r21.1,r22.1,r22.2,h,S.nf [true,true,true,true] rfl (subR rfl)⟩)
           clear S h;rintro a w61 ⟨x67,x68,x69,x70,x71,x72,x73,h,S⟩;rw [hj11] at h;clear hj11 j11
           exact Tn (⟨r3.1,x67,x68,x69,x70,x71,x72,x73,h,S.nf [true,true,true,true] rfl (subR rfl)⟩)
         clear S h;rintro a w58 ⟨x59,x60,x61,x62,x63,x64,x65,x66,h,S⟩;rw [hj10] at h;clear hj10 j10
         exact Tn (⟨r2.1,Ec (Gk x1 r2.1 (W ((Ec x1 r2.1 0) + 1))) r2.1 0,x59,x60,x61,x62,x63,x64,x65,x66,h,S.nf [true,true,true,true] rfl (subR rfl)⟩)
       clear S h;rintro a w52 ⟨x49,x50,x51,x52,x53,x54,x55,x56,x57,x58,h,S⟩;rw [hj9] at h;clear hj9 j9
       exact Hp (Tn (⟨x49,x50,x51,x52,x53,x54,x55,x56,x57,x58,h,S.nf [true,true,true,true] rfl (subR rfl)⟩))
      clear S h;rintro a w51 ⟨x39,x40,x41,x42,x43,x44,x45,x46,x47,x48,h,S⟩;rw [hj8] at h;clear hj8 j8
      exact Tn (⟨x39,x40,x41,x42,x43,x44,x45,x46,x47,x48,h,S.nf [true,true,true,true] rfl (subR rfl)⟩)
     ·exact wp_skip (Tn (⟨r2.1,Ec (Gk x1 r2.1 (W ((Ec x1 r2.1 0) + 1))) r2.1 0,r3.1,x6,x9,x7,x10,x11,x13,r12.2,h,S.nf [true,true,true,true] rfl (subR rfl)⟩))
    clear S h;rintro a w49 ⟨x29,x30,x31,x32,x33,x34,x35,x36,x37,x38,h,S⟩;rw [hj7] at h;clear hj7 j7
    refine Tn (Fg (Vm S rfl rfl fun a S=>lv S (Fb isAgg102 sizeOf102 (off:=0) (o:=0) (part:=(Di.enc (Di.mk x29 x30 (W (x4 + r1.1)) x31 x32 x33 x34 x35 x36 x12 x37))) rfl rfl (S.tm rfl) (S.cellsAt (i:=0) rfl)) rfl fun a S=>Ey S underlying34 sizeOf102 zeroValue102 rfl rfl (pv:=[(0,.agg (Di.enc (Di.mk x29 x30 (W (x4 + r1.1)) x31 x32 x33 x34 x35 x36 x12 x37)).toArray)]) ⟨rfl,(S.tm rfl),trivial⟩ (cs:=[sV x29,iV x30,iV (W (x4 + r1.1)),iV x31,sV x32,sV x33,sV x34,iV x35,iV x36,sV x12,iV x37]) (by kernel_rfl) rfl ?_));clear S;intro a w77 b18 hz18 hk65 S
    obtain ⟨hc1,h⟩:=Ig h
    refine Ni Oo Di.enc_ok S (S.tm rfl) (i:=3) rfl (S.tm rfl) (j:=0) rfl (ys:=[(Di.mk x29 x30 (W (x4 + r1.1)) x31 x32 x33 x34 x35 x36 x12 x37)]) rfl rfl rfl rfl (by have:=Nu hc1;omega) rfl ?_;clear S;intro v26 a w78 hk66 S
    exact Va S rfl rfl fun a S=>Ld (Hp (Tn (Fg (Vq S Gc rfl rfl rfl fun a S=>Vm S rfl rfl fun a S=>Dl (⟨m1,⟨(Gk x1 r2.1 (W ((Ec x1 r2.1 0) + 1))),(x2 ++ [(Di.mk x29 x30 (W (x4 + r1.1)) x31 x32 x33 x34 x35 x36 x12 x37)]),x38,W (x4 + r1.1),W (x5 + 1),v26,h,S.nf [false,false,true,true,true] rfl ⟨rfl,rfl,rfl,rfl,rfl,rfl,trivial⟩⟩,Nat.lt_succ_self _⟩)))))
   ·exact wp_exit (Ed (Ed (Gn (Tn (⟨x1,x2,x3,v1,h,S.nf [true,true,true] rfl ⟨rfl,trivial⟩⟩)))))
 clear S h;rintro a w3 ⟨x1,x2,x3,v1,h,S⟩;rw [hj1] at h;clear hj1 j1
 refine Tn (Fr (Vm S rfl rfl ?_));clear S;intro a S
 obtain ⟨r23,hr23,h⟩:=Fa h
 refine Mj 1 S rfl (fun _=>.own v1 102 11 r23.length (r23.flatMap Di.enc)) (fun _=>Dq (vs:=[v1,.func (.func 42) #[] #[]]) ⟨(S.tm rfl),rfl,trivial⟩ call41) (Rx _ v1 x2 (S.holds _ (List.mem_of_getElem? (i:=1) rfl)) _ hr23) rfl (fun _ _ _ h=>⟨h.1,fun _ hc=>hc⟩) ?_;clear S;intro v27 a w79 hv25 hk67 hn25 S
 replace hv25:=hv25.2
 subst hv25
 refine Dz (Vm S rfl rfl fun a S=>Va S rfl rfl fun a S=>Dl (wp_ret ?_))
 obtain rfl:=Option.some.inj h
 exact Et S results21 rfl ⟨(S.holds _ (List.mem_of_getElem? (i:=2) rfl)),(OS S (i:=1) rfl (fun c hc hh=>DV S (i:=2) rfl rfl (j:=1) rfl rfl (by simp at hc;subst hc;exact hh)))⟩
theorem Rv (w : World) (Bb : Int) (Bp : Int) (Bi : Int) (r : Bool) (h : Le Bb Bp Bi = r) :
    Calls prog 92 [iV Bb,iV Bp,iV Bi].toArray w (Ret w [] fun _ v _=>v = bV r):=by
 refine Fe func92 rfl ntmps92 rfl fun a S=>?_
 unfold Le at h
 replace S:=S.k3 0 1 2 rfl
 refine Fr (Vk S rfl rfl fun a S=>Dz (Vm S rfl rfl fun a S=>Vm S rfl rfl fun a S=>Vb S Uj rfl rfl rfl fun a S=>Vm S rfl rfl ?_));clear S;intro a S
 refine Iy 4 (fun a w'=>Keep [] w w' ∧ Sx w [] nov [] [(14,bV ((decide (Bp ≤ Bb)) && (decide (Bb ≤ Bi))))] 15 a w') ?_ ?_
 ·rcases Bool.eq_false_or_eq_true (decide (Bp ≤ Bb)) with hb1 | hb1
  ·exact Dy S rfl rfl rfl hb1 (Vm S rfl rfl fun a S=>Dy S rfl rfl rfl hb1 (Vm S rfl rfl fun a S=>Dy S rfl rfl rfl hb1 (Vb S Uj rfl rfl rfl fun a S=>lv S (Io hb1 (S.tm rfl) (S.tm rfl)) rfl fun a S=>Dl (⟨Keep.refl _ _,S.nf [] rfl ⟨rfl,trivial⟩⟩))))
  ·iterate 3 (refine Ht S rfl rfl rfl (Kp hb1) rfl ?_ rfl;clear S;intro a S)
   exact lv S (Ip (decide (Bb ≤ Bi)) hb1 (S.tm rfl) rfl) rfl fun a S=>Dl (⟨Keep.refl _ _,S.nf [] rfl ⟨rfl,trivial⟩⟩)
 clear S;rintro a w1 ⟨hk1,S⟩
 refine Va S rfl rfl fun a S=>Dl (wp_ret ?_)
 subst h
 exact Et S results92 rfl rfl
theorem DH (w : World) (s : ByteArray) (c : Int) (r : Int) (h : Un s c = r) : Calls prog 156 [.string s,.int .u8 c].toArray w (Ret w [] fun _ v _=>v = .int .i64 r):=by
  subst h
  exact HZ (Any.strings_IndexByte Tryz.lays137 s c w)
theorem AV (w : World) (Ba : ByteArray) (Cr : ByteArray) (r : Bool) (h : Ug Ba Cr = some r) :
    Calls prog 130 [sV Ba,sV Cr].toArray w (Ret w [] fun _ v _=>v = bV r):=by
 refine Fe func130 rfl ntmps130 rfl fun a S=>?_
 unfold Ug at h
 replace S:=S.k2 0 1 rfl
 refine Fr (Vk S rfl rfl fun a S=>Dl (Fs (Fr (Vm S rfl rfl fun a S=>Vu S (BJ underlying9) rfl rfl fun a S=>lv S (Rm rfl) rfl ?_))));clear S;intro a S
 refine Dl ?_
 replace S:=S.k4 0 1 7 8 rfl
 obtain ⟨j1,hj1,h⟩:=Eu h
 refine Eh (fun a w'=>j1 = some r ∧ Sx w [] nov [] [] 18 a w') ?_ ?_
 ·refine wp_block (Gr (fun (m1 : Nat) a w'=>∃ x1 : Int,Ma Ba Cr j1 m1 x1 = some r ∧ Sx w [] nov [] [(0,sV Ba),(1,sV Cr),(7,iV (Ba.size : Int)),(8,iV x1)] 18 a w') id (((Ba.size : Int) - 0).toNat + 2) ⟨0,h,S.nf [] rfl (subR rfl)⟩ ?_)
  clear S h;rintro m1 a w1 ⟨x1,h,S⟩
  cases m1 with
  | zero=>rw [Ma.eq_1] at h;cases h
  | succ m1 =>
   rw [Ma.eq_2] at h
   refine Fr (Vb S Es rfl rfl rfl fun a S=>Dl (Fs (Fc h (S.tm rfl) (fun hb1 h=>?_) (fun hb1 h=>?_))))
   ·refine wp_skip (Tn (Fs (wp_block (Fr (Vm S rfl rfl fun a S=>Va S rfl rfl fun a S=>Dl (Fs ?_))))))
    refine Fg ?_
    iterate 3 (refine Vm S rfl rfl ?_;clear S;intro a S)
    obtain ⟨hc1,h⟩:=Ig h
    refine lv S (Zd underlying9 (S.tm rfl) (S.tm rfl) hc1) rfl fun a S=>Eb S (fun _=>Dq (vs:=[sV Cr,.int .u8 (Zu Ba x1)]) ⟨(S.tm rfl),(S.tm rfl),trivial⟩ call156) (DH _ Cr (Zu Ba x1) _ rfl) rfl ?_;clear S;intro v1 a w3 hv1 hk1 hn1 S
    subst hv1
    refine Vq S Es rfl rfl rfl fun a S=>Dl (Fc h (S.tm rfl) (fun hb2 h=>?_) (fun hb2 h=>?_))
    ·refine Fr (Vk S rfl rfl fun a S=>Dl (wp_ret (Gq (Dv (Dv (Gq (Dv ?_)))))))
     refine Dv ?_
     obtain rfl:=Option.some.inj h
     exact Et S results130 rfl rfl
    ·exact wp_skip (Hp (Tn (Fg (Vq S Gc rfl rfl rfl fun a S=>Vm S rfl rfl fun a S=>Dl (⟨m1,⟨W (x1 + 1),h,S.nf [] rfl ⟨rfl,rfl,rfl,rfl,trivial⟩⟩,Nat.lt_succ_self _⟩)))))
   ·exact wp_exit (Ed (Ed (Gn (Tn (⟨h,S.nf [] rfl trivial⟩)))))
 clear S h;rintro a w2 ⟨h,S⟩;rw [hj1] at h;clear hj1 j1
 refine Tn (Fr (Vk S rfl rfl fun a S=>Dl (wp_ret ?_)))
 obtain rfl:=Option.some.inj h
 exact Et S results130 rfl rfl
theorem Ue (w : World) (Ba : ByteArray) (r : Bool) (h : Px Ba = some r) :
    Calls prog 91 [sV Ba].toArray w (Ret w [] fun _ v _=>v = bV r):=by
 refine Fe func91 rfl ntmps91 rfl fun a S=>?_
 unfold Px at h
 replace S:=S.k1 0 rfl
 refine Fr (Vk S rfl rfl fun a S=>Dz (Vm S rfl rfl fun a S=>Vu S (BJ underlying9) rfl rfl fun a S=>Eb S (fun _=>Dq (vs:=[iV (Ba.size : Int),iV 1,iV 40]) ⟨(S.tm rfl),rfl,rfl,trivial⟩ call92) (Rv _ (Ba.size : Int) 1 40 _ rfl) rfl ?_));clear S;intro v1 a w1 hv1 hk1 hn1 S
 subst hv1
 refine Vm S rfl rfl ?_;clear S;intro a S
 obtain ⟨j1,hj1,h⟩:=Eu h
 refine Iy 4 (fun a w'=>∃ c1,j1 c1 = some r ∧ Keep [] w1 w' ∧ Sx w [] nov [] [(0,sV Ba),(10,bV c1)] 15 a w') ?_ ?_
 ·rcases Bool.eq_false_or_eq_true (Le (Ba.size : Int) 1 40) with hb1 | hb1
  ·replace h:=Ti h hb1
   refine Dy S rfl rfl rfl hb1 (Vm S rfl rfl fun a S=>Dy S rfl rfl rfl hb1 ?_)
   obtain ⟨hc1,h⟩:=Ig h
   refine lv S (VB underlying9 (S.tm rfl) rfl hc1) rfl fun a S=>Dy S rfl rfl rfl hb1 ?_
   obtain ⟨r1,hr1,h⟩:=Fa h
   refine Eb S (fun _=>Dq (vs:=[sV (ON Ba 0 1),sV Lj]) ⟨(S.tm rfl),rfl,trivial⟩ call130) (AV _ (ON Ba 0 1) Lj _ hr1) rfl ?_;clear S;intro v2 a w3 hv2 hk2 hn2 S
   subst hv2
   exact lv S (Io hb1 (S.tm rfl) (S.tm rfl)) rfl fun a S=>Dl (⟨_,h,hk2,S.nf [] rfl (subR rfl)⟩)
  ·replace h:=Tj h hb1
   iterate 3 (refine Ht S rfl rfl rfl (Kp hb1) rfl ?_ rfl;clear S;intro a S)
   exact Vq S (Ip true hb1) rfl rfl rfl fun a S=>Dl (⟨_,h,Keep.refl _ _,S.nf [] rfl (subR rfl)⟩)
 clear S h;rintro a w2 ⟨c1,h,hk3,S⟩;rw [hj1] at h;clear hj1 j1
 refine Vm S rfl rfl ?_;clear S;intro a S
 obtain ⟨j2,hj2,h⟩:=Eu h
 refine Iy 3 (fun a w'=>∃ c2,j2 c2 = some r ∧ Keep [] w2 w' ∧ Sx w [] nov [] [(14,bV c2)] 15 a w') ?_ ?_
 ·rcases Bool.eq_false_or_eq_true c1 with hb2 | hb2
  ·replace h:=Ti h hb2
   refine Dy S rfl rfl rfl hb2 (Vm S rfl rfl fun a S=>Dy S rfl rfl rfl hb2 ?_)
   obtain ⟨r2,hr2,h⟩:=Fa h
   refine Eb S (fun _=>Dq (vs:=[sV Ba,sV Ik]) ⟨(S.tm rfl),rfl,trivial⟩ call130) (AV _ Ba Ik _ hr2) rfl ?_;clear S;intro v3 a w5 hv3 hk4 hn3 S
   subst hv3
   exact lv S (Io hb2 (S.tm rfl) (S.tm rfl)) rfl fun a S=>Dl (⟨_,h,hk4,S.nf [] rfl ⟨rfl,trivial⟩⟩)
  ·replace h:=Tj h hb2
   exact Ht S rfl rfl rfl (Kp hb2) rfl (fun a S=>Ht S rfl rfl rfl (Kp hb2) rfl (fun a S=>Vq S (Ip true hb2) rfl rfl rfl fun a S=>Dl (⟨_,h,Keep.refl _ _,S.nf [] rfl ⟨rfl,trivial⟩⟩)) rfl) rfl
 clear S h;rintro a w4 ⟨c2,h,hk5,S⟩;rw [hj2] at h;clear hj2 j2
 refine Va S rfl rfl fun a S=>Dl (wp_ret ?_)
 obtain rfl:=Option.some.inj h
 exact Et S results91 rfl rfl
theorem FF (w : World) (Bg : Int) (r : Bool) (h : Qp Bg = r) :
    Calls prog 93 [iV Bg].toArray w (Ret w [] fun _ v _=>v = bV r):=by
 refine Fe func93 rfl ntmps93 rfl fun a S=>?_
 unfold Qp at h
 replace S:=S.k1 0 rfl
 refine Fr (Vk S rfl rfl fun a S=>Dz (Vm S rfl rfl fun a S=>Eb S (fun _=>Dq (vs:=[iV Bg,iV 0,iV 345686399999]) ⟨(S.tm rfl),rfl,rfl,trivial⟩ call92) (Rv _ Bg 0 345686399999 _ rfl) rfl ?_));clear S;intro v1 a w1 hv1 hk1 hn1 S
 subst hv1
 refine Va S rfl rfl fun a S=>Dl (wp_ret ?_)
 subst h
 exact Et S results93 rfl rfl
theorem CG (w : World) (Ag : Di) (r : Int) (h : Rs Ag = some r) :
    Calls prog 43 [.agg (Di.enc Ag).toArray].toArray w (Ret w [] fun _ v _=>v = iV r):=by
 refine Fe func43 rfl ntmps43 rfl fun a S=>?_
 unfold Rs at h
 replace S:=S.k1 0 rfl
 refine Fr (Lw S (S.tm rfl) (cs:=(Di.enc Ag)) rfl rfl ?_);clear S;intro a w1 b1 hz1 hk1 S
 refine Vk S rfl rfl fun a S=>Dl (Fs (wp_block (Fr (Vf Qw S rfl rfl fun a S=>Vl isAgg9 0 S rfl rfl rfl rfl ?_))));clear S;intro a S
 obtain ⟨r1,hr1,h⟩:=Fa h
 refine Eb S (fun _=>Dq (vs:=[sV Ag.Site]) ⟨(S.tm rfl),trivial⟩ call91) (Ue _ Ag.Site _ hr1) rfl ?_;clear S;intro v1 a w2 hv1 hk2 hn1 S
 subst hv1
 refine Vu S Ih rfl rfl fun a S=>Va S rfl rfl fun a S=>Dl (Fc h (S.tm rfl) (fun hb1 h=>?_) (fun hb1 h=>?_))
 ·refine Fr (Vk S rfl rfl fun a S=>Dl (wp_ret (Gq (Dv ?_))))
  obtain rfl:=Option.some.inj h
  exact Et S results43 rfl rfl
 ·refine Fr (Vf Tg S rfl rfl fun a S=>Vl isAgg3 0 S rfl rfl rfl rfl fun a S=>Eb S (fun _=>Dq (vs:=[iV Ag.No,iV 1,iV 1000000]) ⟨(S.tm rfl),rfl,rfl,trivial⟩ call92) (Rv _ Ag.No 1 1000000 _ rfl) rfl ?_);clear S;intro v2 a w3 hv2 hk3 hn2 S
  subst hv2
  refine Vu S Ih rfl rfl fun a S=>Vm S rfl rfl fun a S=>Iy 5 (fun a w'=>Keep [] w3 w' ∧ Sx w [] nov [.blk b1 (Di.enc Ag) 102] [(1,.pointer (some ⟨b1,0,none⟩)),(19,bV ((!(Le Ag.No 1 1000000)) || (!(Qp Ag.At))))] 117 a w') ?_ ?_
  ·rcases Bool.eq_false_or_eq_true (!(Le Ag.No 1 1000000)) with hb2 | hb2
   ·iterate 4 (refine Ht S rfl rfl rfl (Oa hb2) rfl ?_ rfl;clear S;intro a S)
    exact lv S (Mo (!(Qp Ag.At)) hb2 (S.tm rfl) rfl) rfl fun a S=>Dl (⟨Keep.refl _ _,S.nf [true] rfl (subR rfl)⟩)
   ·refine Dy S rfl rfl rfl hb2 (Vf Uc S rfl rfl fun a S=>Dy S rfl rfl rfl hb2 (Vl isAgg3 0 S rfl rfl rfl rfl fun a S=>Dy S rfl rfl rfl hb2 (Eb S (fun _=>Dq (vs:=[iV Ag.At]) ⟨(S.tm rfl),trivial⟩ call93) (FF _ Ag.At _ rfl) rfl ?_)));clear S;intro v3 a w5 hv3 hk4 hn3 S
    subst hv3
    exact Dy S rfl rfl rfl hb2 (Vu S Ih rfl rfl fun a S=>lv S (Mp hb2 (S.tm rfl) (S.tm rfl)) rfl fun a S=>Dl (⟨hk4,S.nf [true] rfl (subR rfl)⟩))
  clear S;rintro a w4 ⟨hk5,S⟩
  refine Va S rfl rfl fun a S=>Dl (Fc h (S.tm rfl) (fun hb3 h=>?_) (fun hb3 h=>?_))
  ·refine Fr (Vk S rfl rfl fun a S=>Dl (wp_ret (Gq (Dv ?_))))
   obtain rfl:=Option.some.inj h
   exact Et S results43 rfl rfl
  ·refine Fr (Vf Pl S rfl rfl fun a S=>Vl isAgg3 0 S rfl rfl rfl rfl fun a S=>Eb S (fun _=>Dq (vs:=[iV Ag.Kind,iV 1,iV 4]) ⟨(S.tm rfl),rfl,rfl,trivial⟩ call92) (Rv _ Ag.Kind 1 4 _ rfl) rfl ?_);clear S;intro v4 a w6 hv4 hk6 hn4 S
   subst hv4
   refine Vu S Ih rfl rfl fun a S=>Va S rfl rfl fun a S=>Dl (Fc h (S.tm rfl) (fun hb4 h=>?_) (fun hb4 h=>?_))
   ·refine Fr (Vk S rfl rfl fun a S=>Dl (wp_ret (Gq (Dv ?_))))
    obtain rfl:=Option.some.inj h
    exact Et S results43 rfl rfl
   ·refine wp_skip (Hp (Tn (Fr (Vf Qw S rfl rfl fun a S=>Vl isAgg9 0 S rfl rfl rfl rfl fun a S=>Vf Tg S rfl rfl fun a S=>Vl isAgg3 0 S rfl rfl rfl rfl fun a S=>Vf Uc S rfl rfl fun a S=>Vl isAgg3 0 S rfl rfl rfl rfl ?_))));clear S;intro a S
    refine Vf Pl S rfl rfl fun a S=>Vl isAgg3 0 S rfl rfl rfl rfl fun a S=>lv S (Nl RJ (pv:=[(0,sV Ag.Site),(1,iV Ag.No),(2,iV Ag.At),(3,iV Ag.Kind)]) ⟨rfl,(S.tm rfl),rfl,(S.tm rfl),rfl,(S.tm rfl),rfl,(S.tm rfl),trivial⟩ (cs:=[sV Ag.Site,iV Ag.No,iV Ag.At,iV Ag.Kind,sV An,sV An,sV An,iV 0,iV 0,sV An,iV 0]) (by kernel_rfl)) rfl fun a S=>Hq S zeroValue102 (cs:=[sV An,iV 0,iV 0,iV 0,sV An,sV An,sV An,iV 0,iV 0,sV An,iV 0]) rfl rfl ?_;clear S;intro a w7 b2 hz2 hk7 S
    refine Ex S (S.tm rfl) (S.tm rfl) (i:=0) (off:=0) rfl sizeOf102 (vs:=(Di.enc (Di.mk Ag.Site Ag.No Ag.At Ag.Kind An An An 0 0 An 0))) rfl rfl rfl rfl ?_;clear S;intro w8 hk8 S
    refine Ld ?_
    replace S:=(S.nl [.blk b2 (Di.enc (Di.mk Ag.Site Ag.No Ag.At Ag.Kind An An An 0 0 An 0)) 102,.blk b1 (Di.enc Ag) 102] [true,true] rfl).k2 1 3 rfl
    refine Tn (Fs (Fr (Vf Pl S rfl rfl fun a S=>Vl isAgg3 1 S rfl rfl rfl rfl fun a S=>Vq S Jk rfl rfl rfl fun a S=>Dl ?_)))
    obtain ⟨j1,hj1,h⟩:=Eu h
    refine Eh (fun a w'=>∃ x1 : ByteArray,∃ x2 : ByteArray,∃ x3 : ByteArray,∃ x4 : Int,j1 x1 x2 x3 x4 = some r ∧ Sx w [] nov [.blk b2 (Di.enc (Di.mk Ag.Site Ag.No Ag.At Ag.Kind x1 An x2 0 0 x3 x4)) 102,.blk b1 (Di.enc Ag) 102] [(1,.pointer (some ⟨b1,0,none⟩)),(3,.pointer (some ⟨b2,0,none⟩))] 117 a w') ?_ ?_
    ·refine Fc h (S.tm rfl) (fun hb5 h=>?_) (fun hb5 h=>?_)
     ·refine Fs (Gt [] ([b2]) Tryz.mixed S rfl (by kernel_rfl) ?_);clear S;intro w12 hk11 hsel S
      refine Ea 0 S hsel rfl rfl rfl (by kernel_rfl) (by kernel_rfl) rfl (fun _ hw=>(Gd Yj (S.tm rfl))) fun a S=>Ea 1 S hsel rfl rfl rfl (by kernel_rfl) (by kernel_rfl) rfl (fun _ hw=>(Hx isAgg9 (off:=0) (o:=9) (S.tm rfl) ((S.blk_mem (i:=1) (cells:=(Di.enc Ag)) (b:=b1) (T:=102) rfl (Nc (i:=0) (j:=1) (e:=.blk b2 (Di.enc (Di.mk Ag.Site Ag.No Ag.At Ag.Kind An An An 0 0 An 0)) 102) (e':=.blk b1 (Di.enc Ag) 102) S rfl rfl rfl)).kept hw) rfl)) fun a S=>Ea 2 S hsel rfl rfl rfl (by kernel_rfl) (by kernel_rfl) rfl (fun _ hw=>(Gd Vs (S.tm rfl))) fun a S=>Ea 3 S hsel rfl rfl rfl (by kernel_rfl) (by kernel_rfl) rfl (fun _ hw=>(Hx isAgg3 (off:=0) (o:=10) (S.tm rfl) ((S.blk_mem (i:=1) (cells:=(Di.enc Ag)) (b:=b1) (T:=102) rfl (Nc (i:=0) (j:=1) (e:=.blk b2 (Di.enc (Di.mk Ag.Site Ag.No Ag.At Ag.Kind An An An 0 0 An 0)) 102) (e':=.blk b1 (Di.enc Ag) 102) S rfl rfl rfl)).kept hw) rfl)) fun a S=>Ea 4 S hsel rfl rfl rfl (by kernel_rfl) (by kernel_rfl) rfl (fun _ hw=>(Gd Yj (S.tm rfl))) fun a S=>Hb 5 (by kernel_rfl) rfl (Ex S (S.tm rfl) (S.tm rfl) (i:=0) (off:=9) rfl sizeOf9 (vs:=[sV Ag.Of]) rfl rfl rfl rfl ?_);clear S;intro w13 hk12 S
      refine Ld (Hy hk12 (Ea 6 S hsel rfl rfl rfl (by kernel_rfl) (by kernel_rfl) rfl (fun _ hw=>(Gd Vs (S.tm rfl))) fun a S=>Hb 7 (by kernel_rfl) rfl (Ex S (S.tm rfl) (S.tm rfl) (i:=0) (off:=10) rfl sizeOf3 (vs:=[iV Ag.Other]) rfl rfl rfl rfl ?_)));clear S;intro w14 hk13 S
      refine Ld (Hy hk13 (Vt (by kernel_rfl) ?_))
      clear hsel
      replace S:=(S.nl [.blk b2 (Di.enc (Di.mk Ag.Site Ag.No Ag.At Ag.Kind An An An 0 0 Ag.Of Ag.Other)) 102,.blk b1 (Di.enc Ag) 102] [true,true] rfl).k2 1 3 rfl
      refine Tn (Fs (Fr (Vf Yj S rfl rfl fun a S=>Vl isAgg9 1 S rfl rfl rfl rfl ?_)));clear S;intro a S
      obtain ⟨r2,hr2,h⟩:=Fa h
      refine Eb S (fun _=>Dq (vs:=[sV Ag.Of]) ⟨(S.tm rfl),trivial⟩ call91) (Ue _ Ag.Of _ hr2) rfl ?_;clear S;intro v5 a w15 hv5 hk14 hn5 S
      subst hv5
      refine Vu S Ih rfl rfl fun a S=>Dl (Fc h (S.tm rfl) (fun hb6 h=>?_) (fun hb6 h=>?_))
      ·refine Fr (Vk S rfl rfl fun a S=>Dl (wp_ret ?_))
       iterate 3 (refine Dv ?_)
       obtain rfl:=Option.some.inj h
       exact Et S results43 rfl rfl
      ·refine wp_skip (Tn (Fr (Vf Vs S rfl rfl fun a S=>Vl isAgg3 1 S rfl rfl rfl rfl fun a S=>Eb S (fun _=>Dq (vs:=[iV Ag.Other,iV 1,iV 1000000]) ⟨(S.tm rfl),rfl,rfl,trivial⟩ call92) (Rv _ Ag.Other 1 1000000 _ rfl) rfl ?_)));clear S;intro v6 a w16 hv6 hk15 hn6 S
       subst hv6
       refine Vu S Ih rfl rfl fun a S=>Dl (Fc h (S.tm rfl) (fun hb7 h=>?_) (fun hb7 h=>?_))
       ·refine Fr (Vk S rfl rfl fun a S=>Dl (wp_ret (Dv (Dv ?_))))
        obtain rfl:=Option.some.inj h
        exact Et S results43 rfl rfl
       ·exact wp_skip (Tn (⟨An,An,Ag.Of,Ag.Other,h,S.nf [true,true] rfl (subR rfl)⟩))
     ·refine Fs (Gt [] ([b2]) Tryz.mixed S rfl (by kernel_rfl) ?_);clear S;intro w19 hk18 hsel S
      refine Ea 0 S hsel rfl rfl rfl (by kernel_rfl) (by kernel_rfl) rfl (fun _ hw=>(Gd Oh (S.tm rfl))) fun a S=>Ea 1 S hsel rfl rfl rfl (by kernel_rfl) (by kernel_rfl) rfl (fun _ hw=>(Hx isAgg9 (off:=0) (o:=4) (S.tm rfl) ((S.blk_mem (i:=1) (cells:=(Di.enc Ag)) (b:=b1) (T:=102) rfl (Nc (i:=0) (j:=1) (e:=.blk b2 (Di.enc (Di.mk Ag.Site Ag.No Ag.At Ag.Kind An An An 0 0 An 0)) 102) (e':=.blk b1 (Di.enc Ag) 102) S rfl rfl rfl)).kept hw) rfl)) fun a S=>Ea 2 S hsel rfl rfl rfl (by kernel_rfl) (by kernel_rfl) rfl (fun _ hw=>(Gd Sj (S.tm rfl))) fun a S=>Ea 3 S hsel rfl rfl rfl (by kernel_rfl) (by kernel_rfl) rfl (fun _ hw=>(Hx isAgg9 (off:=0) (o:=6) (S.tm rfl) ((S.blk_mem (i:=1) (cells:=(Di.enc Ag)) (b:=b1) (T:=102) rfl (Nc (i:=0) (j:=1) (e:=.blk b2 (Di.enc (Di.mk Ag.Site Ag.No Ag.At Ag.Kind An An An 0 0 An 0)) 102) (e':=.blk b1 (Di.enc Ag) 102) S rfl rfl rfl)).kept hw) rfl)) fun a S=>Ea 4 S hsel rfl rfl rfl (by kernel_rfl) (by kernel_rfl) rfl (fun _ hw=>(Gd Oh (S.tm rfl))) fun a S=>Hb 5 (by kernel_rfl) rfl (Ex S (S.tm rfl) (S.tm rfl) (i:=0) (off:=4) rfl sizeOf9 (vs:=[sV Ag.Who]) rfl rfl rfl rfl ?_);clear S;intro w20 hk19 S
      refine Ld (Hy hk19 (Ea 6 S hsel rfl rfl rfl (by kernel_rfl) (by kernel_rfl) rfl (fun _ hw=>(Gd Sj (S.tm rfl))) fun a S=>Hb 7 (by kernel_rfl) rfl (Ex S (S.tm rfl) (S.tm rfl) (i:=0) (off:=6) rfl sizeOf9 (vs:=[sV Ag.Race]) rfl rfl rfl rfl ?_)));clear S;intro w21 hk20 S
      refine Ld (Hy hk20 (Vt (by kernel_rfl) ?_))
      clear hsel
      replace S:=(S.nl [.blk b2 (Di.enc (Di.mk Ag.Site Ag.No Ag.At Ag.Kind Ag.Who An Ag.Race 0 0 An 0)) 102,.blk b1 (Di.enc Ag) 102] [true,true] rfl).k2 1 3 rfl
      refine Tn (Fr (Vf Oh S rfl rfl fun a S=>Vl isAgg9 1 S rfl rfl rfl rfl ?_));clear S;intro a S
      obtain ⟨r3,hr3,h⟩:=Fa h
      refine Eb S (fun _=>Dq (vs:=[sV Ag.Who]) ⟨(S.tm rfl),trivial⟩ call91) (Ue _ Ag.Who _ hr3) rfl ?_;clear S;intro v7 a w22 hv7 hk21 hn7 S
      subst hv7
      refine Vu S Ih rfl rfl fun a S=>Vm S rfl rfl ?_;clear S;intro a S
      obtain ⟨j2,hj2,h⟩:=Eu h
      refine Iy 5 (fun a w'=>∃ c1,j2 c1 = some r ∧ Keep [] w22 w' ∧ Sx w [] nov [.blk b2 (Di.enc (Di.mk Ag.Site Ag.No Ag.At Ag.Kind Ag.Who An Ag.Race 0 0 An 0)) 102,.blk b1 (Di.enc Ag) 102] [(1,.pointer (some ⟨b1,0,none⟩)),(3,.pointer (some ⟨b2,0,none⟩)),(66,bV c1)] 117 a w') ?_ ?_
      ·rcases Bool.eq_false_or_eq_true (!r3) with hb8 | hb8
       ·replace h:=Ti h hb8
        iterate 4 (refine Ht S rfl rfl rfl (Oa hb8) rfl ?_ rfl;clear S;intro a S)
        exact Vq S (Mo true hb8) rfl rfl rfl fun a S=>Dl (⟨_,h,Keep.refl _ _,S.nf [true,true] rfl (subR rfl)⟩)
       ·replace h:=Tj h hb8
        refine Dy S rfl rfl rfl hb8 (Vf Sj S rfl rfl fun a S=>Dy S rfl rfl rfl hb8 (Vl isAgg9 1 S rfl rfl rfl rfl fun a S=>Dy S rfl rfl rfl hb8 ?_))
        obtain ⟨r4,hr4,h⟩:=Fa h
        refine Eb S (fun _=>Dq (vs:=[sV Ag.Race]) ⟨(S.tm rfl),trivial⟩ call91) (Ue _ Ag.Race _ hr4) rfl ?_;clear S;intro v8 a w24 hv8 hk22 hn8 S
        subst hv8
        exact Dy S rfl rfl rfl hb8 (Vu S Ih rfl rfl fun a S=>lv S (Mp hb8 (S.tm rfl) (S.tm rfl)) rfl fun a S=>Dl (⟨_,h,hk22,S.nf [true,true] rfl (subR rfl)⟩))
      clear S h;rintro a w23 ⟨c1,h,hk23,S⟩;rw [hj2] at h;clear hj2 j2
      refine Vm S rfl rfl ?_;clear S;intro a S
      obtain ⟨j3,hj3,h⟩:=Eu h
      refine Iy 15 (fun a w'=>∃ c2,j3 c2 = some r ∧ Keep [] w23 w' ∧ Sx w [] nov [.blk b2 (Di.enc (Di.mk Ag.Site Ag.No Ag.At Ag.Kind Ag.Who An Ag.Race 0 0 An 0)) 102,.blk b1 (Di.enc Ag) 102] [(1,.pointer (some ⟨b1,0,none⟩)),(3,.pointer (some ⟨b2,0,none⟩)),(82,bV c2)] 117 a w') ?_ ?_
      ·rcases Bool.eq_false_or_eq_true c1 with hb9 | hb9
       ·replace h:=Ti h hb9
        iterate 4 (refine Ht S rfl rfl rfl (Oa hb9) rfl ?_ rfl;clear S;intro a S)
        iterate 3 (refine FV S rfl rfl rfl rfl ?_;clear S;intro a S)
        refine Ht S rfl rfl rfl (Oa hb9) rfl (fun a S=>Ht S rfl rfl rfl (Oa hb9) rfl ?_ rfl) rfl;clear S;intro a S
        iterate 4 (refine FV S rfl rfl rfl rfl ?_;clear S;intro a S)
        exact Ht S rfl rfl rfl (Oa hb9) rfl (fun a S=>Vq S (Mo true hb9) rfl rfl rfl fun a S=>Dl (⟨_,h,Keep.refl _ _,S.nf [true,true] rfl (subR rfl)⟩)) rfl
       ·replace h:=Tj h hb9
        refine Dy S rfl rfl rfl hb9 (Vf Pl S rfl rfl fun a S=>Dy S rfl rfl rfl hb9 (Vl isAgg3 1 S rfl rfl rfl rfl fun a S=>Dy S rfl rfl rfl hb9 (Vq S Jk rfl rfl rfl fun a S=>Dy S rfl rfl rfl hb9 (Vm S rfl rfl fun a S=>Iy 4 (fun a w'=>Keep [] w23 w' ∧ Sx w [] nov [.blk b2 (Di.enc (Di.mk Ag.Site Ag.No Ag.At Ag.Kind Ag.Who An Ag.Race 0 0 An 0)) 102,.blk b1 (Di.enc Ag) 102] [(1,.pointer (some ⟨b1,0,none⟩)),(3,.pointer (some ⟨b2,0,none⟩)),(67,bV c1),(75,bV ((decide (Ag.Kind = 1)) && (!decide (Ag.Club = An))))] 117 a w') ?_ ?_))))
        ·rcases Bool.eq_false_or_eq_true (decide (Ag.Kind = 1)) with hb10 | hb10
         ·exact Dy S rfl rfl rfl hb10 (Vf Si S rfl rfl fun a S=>Dy S rfl rfl rfl hb10 (Vl isAgg9 1 S rfl rfl rfl rfl fun a S=>Dy S rfl rfl rfl hb10 (Vq S Zv rfl rfl rfl fun a S=>Dy S rfl rfl rfl hb9 (lv S (Io hb10 (S.tm rfl) (S.tm rfl)) rfl fun a S=>Dl (⟨Keep.refl _ _,S.nf [true,true] rfl (subR rfl)⟩)))))
         ·iterate 3 (refine Ht S rfl rfl rfl (Kp hb10) rfl ?_ rfl;clear S;intro a S)
          exact Dy S rfl rfl rfl hb9 (lv S (Ip (!decide (Ag.Club = An)) hb10 (S.tm rfl) rfl) rfl fun a S=>Dl (⟨Keep.refl _ _,S.nf [true,true] rfl (subR rfl)⟩))
        clear S;rintro a w26 ⟨hk24,S⟩
        refine Dy S rfl rfl rfl hb9 (Vm S rfl rfl ?_);clear S;intro a S
        obtain ⟨j4,hj4,h⟩:=Eu h
        refine Iy 5 (fun a w'=>∃ c3,j4 c3 = some r ∧ Keep [] w26 w' ∧ Sx w [] nov [.blk b2 (Di.enc (Di.mk Ag.Site Ag.No Ag.At Ag.Kind Ag.Who An Ag.Race 0 0 An 0)) 102,.blk b1 (Di.enc Ag) 102] [(1,.pointer (some ⟨b1,0,none⟩)),(3,.pointer (some ⟨b2,0,none⟩)),(67,bV c1),(81,bV c3)] 117 a w') ?_ ?_
        ·rcases Bool.eq_false_or_eq_true ((decide (Ag.Kind = 1)) && (!decide (Ag.Club = An))) with hb11 | hb11
         ·replace h:=Ti h hb11
          refine Dy S rfl rfl rfl hb11 (Vf Si S rfl rfl fun a S=>Dy S rfl rfl rfl hb11 (Vl isAgg9 1 S rfl rfl rfl rfl fun a S=>Dy S rfl rfl rfl hb11 ?_))
          obtain ⟨r5,hr5,h⟩:=Fa h
          refine Eb S (fun _=>Dq (vs:=[sV Ag.Club]) ⟨(S.tm rfl),trivial⟩ call91) (Ue _ Ag.Club _ hr5) rfl ?_;clear S;intro v9 a w28 hv9 hk25 hn9 S
          subst hv9
          exact Dy S rfl rfl rfl hb11 (Vu S Ih rfl rfl fun a S=>Dy S rfl rfl rfl hb9 (lv S (Io hb11 (S.tm rfl) (S.tm rfl)) rfl fun a S=>Dl (⟨_,h,hk25,S.nf [true,true] rfl (subR rfl)⟩)))
         ·replace h:=Tj h hb11
          iterate 4 (refine Ht S rfl rfl rfl (Kp hb11) rfl ?_ rfl;clear S;intro a S)
          exact Dy S rfl rfl rfl hb9 (Vq S (Ip true hb11) rfl rfl rfl fun a S=>Dl (⟨_,h,Keep.refl _ _,S.nf [true,true] rfl (subR rfl)⟩))
        clear S h;rintro a w27 ⟨c3,h,hk26,S⟩;rw [hj4] at h;clear hj4 j4
        exact lv S (Mp hb9 (S.tm rfl) (S.tm rfl)) rfl fun a S=>Dl (⟨_,h,(hk24).trans hk26,S.nf [true,true] rfl (subR rfl)⟩)
      clear S h;rintro a w25 ⟨c2,h,hk27,S⟩;rw [hj3] at h;clear hj3 j3
      refine Dl (Fc h (S.tm rfl) (fun hb12 h=>?_) (fun hb12 h=>?_))
      ·refine Fr (Vk S rfl rfl fun a S=>Dl (wp_ret (Dv (Dv ?_))))
       obtain rfl:=Option.some.inj h
       exact Et S results43 rfl rfl
      ·exact wp_skip (Tn (⟨Ag.Who,Ag.Race,An,0,h,S.nf [true,true] rfl (subR rfl)⟩))
    clear S h;rintro a w9 ⟨x1,x2,x3,x4,h,S⟩;rw [hj1] at h;clear hj1 j1
    refine Tn (Fs (Fr (Vf Pl S rfl rfl fun a S=>Vl isAgg3 1 S rfl rfl rfl rfl fun a S=>Vq S Jk rfl rfl rfl fun a S=>Dl ?_)))
    obtain ⟨j5,hj5,h⟩:=Eu h
    refine Eh (fun a w'=>∃ x5 : ByteArray,j5 x5 = some r ∧ Sx w [] nov [.blk b2 (Di.enc (Di.mk Ag.Site Ag.No Ag.At Ag.Kind x1 x5 x2 0 0 x3 x4)) 102,.blk b1 (Di.enc Ag) 102] [(1,.pointer (some ⟨b1,0,none⟩)),(3,.pointer (some ⟨b2,0,none⟩))] 117 a w') ?_ ?_
    ·refine Fc h (S.tm rfl) (fun hb13 h=>?_) (fun hb13 h=>?_)
     ·refine Fg (Vf Si S rfl rfl fun a S=>Vl isAgg9 1 S rfl rfl rfl rfl fun a S=>Vf Si S rfl rfl fun a S=>Ex S (S.tm rfl) (S.tm rfl) (i:=0) (off:=5) rfl sizeOf9 (vs:=[sV Ag.Club]) rfl rfl rfl rfl ?_);clear S;intro w30 hk28 S
      exact Dl (⟨Ag.Club,h,S.nf [true,true] rfl (subR rfl)⟩)
     ·exact wp_skip (Tn (⟨An,h,S.nf [true,true] rfl (subR rfl)⟩))
    clear S h;rintro a w29 ⟨x5,h,S⟩;rw [hj5] at h;clear hj5 j5
    refine Tn (Fs (Fr (Vf Pl S rfl rfl fun a S=>Vl isAgg3 1 S rfl rfl rfl rfl fun a S=>Vq S Jk rfl rfl rfl fun a S=>Vm S rfl rfl fun a S=>Iy 4 (fun a w'=>Keep [] w29 w' ∧ Sx w [] nov [.blk b2 (Di.enc (Di.mk Ag.Site Ag.No Ag.At Ag.Kind x1 x5 x2 0 0 x3 x4)) 102,.blk b1 (Di.enc Ag) 102] [(1,.pointer (some ⟨b1,0,none⟩)),(3,.pointer (some ⟨b2,0,none⟩)),(96,bV ((decide (Ag.Kind = 1)) || (decide (Ag.Kind = 3))))] 117 a w') ?_ ?_)))
    ·rcases Bool.eq_false_or_eq_true (decide (Ag.Kind = 1)) with hb14 | hb14
     ·iterate 3 (refine Ht S rfl rfl rfl (Oa hb14) rfl ?_ rfl;clear S;intro a S)
      exact lv S (Mo (decide (Ag.Kind = 3)) hb14 (S.tm rfl) rfl) rfl fun a S=>Dl (⟨Keep.refl _ _,S.nf [true,true] rfl (subR rfl)⟩)
     ·exact Dy S rfl rfl rfl hb14 (Vf Pl S rfl rfl fun a S=>Dy S rfl rfl rfl hb14 (Vl isAgg3 1 S rfl rfl rfl rfl fun a S=>Dy S rfl rfl rfl hb14 (Vq S Jk rfl rfl rfl fun a S=>lv S (Mp hb14 (S.tm rfl) (S.tm rfl)) rfl fun a S=>Dl (⟨Keep.refl _ _,S.nf [true,true] rfl (subR rfl)⟩))))
    clear S;rintro a w31 ⟨hk29,S⟩
    refine Dl ?_
    obtain ⟨j6,hj6,h⟩:=Eu h
    refine Eh (fun a w'=>∃ x6 : Int,j6 x6 = some r ∧ Sx w [] nov [.blk b2 (Di.enc (Di.mk Ag.Site Ag.No Ag.At Ag.Kind x1 x5 x2 x6 0 x3 x4)) 102,.blk b1 (Di.enc Ag) 102] [(1,.pointer (some ⟨b1,0,none⟩)),(3,.pointer (some ⟨b2,0,none⟩))] 117 a w') ?_ ?_
    ·refine Fc h (S.tm rfl) (fun hb15 h=>?_) (fun hb15 h=>?_)
     ·refine Fr (Vf Ud S rfl rfl fun a S=>Vl isAgg3 1 S rfl rfl rfl rfl fun a S=>Vf Ud S rfl rfl fun a S=>Ex S (S.tm rfl) (S.tm rfl) (i:=0) (off:=7) rfl sizeOf3 (vs:=[iV Ag.Time]) rfl rfl rfl rfl ?_);clear S;intro w33 hk30 S
      refine Dz (Vf Ud S rfl rfl fun a S=>Vl isAgg3 1 S rfl rfl rfl rfl fun a S=>Eb S (fun _=>Dq (vs:=[iV Ag.Time,iV 0,iV 360000]) ⟨(S.tm rfl),rfl,rfl,trivial⟩ call92) (Rv _ Ag.Time 0 360000 _ rfl) rfl ?_);clear S;intro v10 a w34 hv10 hk31 hn10 S
      subst hv10
      refine Vu S Ih rfl rfl fun a S=>Dl (Fc h (S.tm rfl) (fun hb16 h=>?_) (fun hb16 h=>?_))
      ·refine Fr (Vk S rfl rfl fun a S=>Dl (wp_ret (Dv (Dv ?_))))
       obtain rfl:=Option.some.inj h
       exact Et S results43 rfl rfl
      ·exact wp_skip (Tn (⟨Ag.Time,h,S.nf [true,true] rfl (subR rfl)⟩))
     ·exact wp_skip (Tn (⟨0,h,S.nf [true,true] rfl (subR rfl)⟩))
    clear S h;rintro a w32 ⟨x6,h,S⟩;rw [hj6] at h;clear hj6 j6
    refine Tn (Fs (Fr (Vf Pl S rfl rfl fun a S=>Vl isAgg3 1 S rfl rfl rfl rfl fun a S=>Vq S Jk rfl rfl rfl fun a S=>Dl ?_)))
    obtain ⟨j7,hj7,h⟩:=Eu h
    refine Eh (fun a w'=>∃ x7 : Int,j7 x7 = some r ∧ Sx w [] nov [.blk b2 (Di.enc (Di.mk Ag.Site Ag.No Ag.At Ag.Kind x1 x5 x2 x6 x7 x3 x4)) 102,.blk b1 (Di.enc Ag) 102] [(1,.pointer (some ⟨b1,0,none⟩)),(3,.pointer (some ⟨b2,0,none⟩))] 117 a w') ?_ ?_
    ·refine Fc h (S.tm rfl) (fun hb17 h=>?_) (fun hb17 h=>?_)
     ·refine Fr (Vf We S rfl rfl fun a S=>Vl isAgg3 1 S rfl rfl rfl rfl fun a S=>Vf We S rfl rfl fun a S=>Ex S (S.tm rfl) (S.tm rfl) (i:=0) (off:=8) rfl sizeOf3 (vs:=[iV Ag.Fault]) rfl rfl rfl rfl ?_);clear S;intro w36 hk32 S
      refine Dz (Vf We S rfl rfl fun a S=>Vl isAgg3 1 S rfl rfl rfl rfl fun a S=>Eb S (fun _=>Dq (vs:=[iV Ag.Fault,iV 0,iV 8]) ⟨(S.tm rfl),rfl,rfl,trivial⟩ call92) (Rv _ Ag.Fault 0 8 _ rfl) rfl ?_);clear S;intro v11 a w37 hv11 hk33 hn11 S
      subst hv11
      refine Vu S Ih rfl rfl fun a S=>Dl (Fc h (S.tm rfl) (fun hb18 h=>?_) (fun hb18 h=>?_))
      ·refine Fr (Vk S rfl rfl fun a S=>Dl (wp_ret (Dv (Dv ?_))))
       obtain rfl:=Option.some.inj h
       exact Et S results43 rfl rfl
      ·exact wp_skip (Tn (⟨Ag.Fault,h,S.nf [true,true] rfl (subR rfl)⟩))
     ·exact wp_skip (Tn (⟨0,h,S.nf [true,true] rfl (subR rfl)⟩))
    clear S h;rintro a w35 ⟨x7,h,S⟩;rw [hj7] at h;clear hj7 j7
    refine Tn (Fs (Fr (lv S (Fb isAgg102 sizeOf102 (off:=0) (o:=0) (part:=(Di.enc Ag)) rfl rfl (S.tm rfl) (S.cellsAt (i:=1) rfl)) rfl fun a S=>lv S (Fb isAgg102 sizeOf102 (off:=0) (o:=0) (part:=(Di.enc (Di.mk Ag.Site Ag.No Ag.At Ag.Kind x1 x5 x2 x6 x7 x3 x4))) rfl rfl (S.tm rfl) (S.cellsAt (i:=0) rfl)) rfl fun a S=>lv S (JT (m:=Ag) (n:=(Di.mk Ag.Site Ag.No Ag.At Ag.Kind x1 x5 x2 x6 x7 x3 x4)) (S.tm rfl) (S.tm rfl)) rfl fun a S=>Dl (Fc h (S.tm rfl) (fun hb19 h=>?_) (fun hb19 h=>?_)))))
    ·refine Fr (Vk S rfl rfl fun a S=>Dl (wp_ret (Dv ?_)))
     obtain rfl:=Option.some.inj h
     exact Et S results43 rfl rfl
    ·refine wp_skip (Tn (Fr (Vk S rfl rfl fun a S=>Dl (wp_ret ?_))))
     obtain rfl:=Option.some.inj h
     exact Et S results43 rfl rfl
theorem FH (w : World) (Ah : Di) (Ak : Di) (r : Bool) (h : Wj Ah Ak = r) :
    Calls prog 46 [.agg (Di.enc Ah).toArray,.agg (Di.enc Ak).toArray].toArray w (Ret w [] fun _ v _=>v = bV r):=by
 refine Fe func46 rfl ntmps46 rfl fun a S=>?_
 unfold Wj at h
 replace S:=S.k2 0 1 rfl
 refine Fr (Lw S (S.tm rfl) (cs:=(Di.enc Ah)) rfl rfl ?_);clear S;intro a w1 b1 hz1 hk1 S
 refine Lw S (S.tm rfl) (cs:=(Di.enc Ak)) rfl rfl ?_;clear S;intro a w2 b2 hz2 hk2 S
 refine Vk S rfl rfl fun a S=>Dz (Vf Qw S rfl rfl fun a S=>Vl isAgg9 1 S rfl rfl rfl rfl fun a S=>Vf Qw S rfl rfl fun a S=>Vl isAgg9 0 S rfl rfl rfl rfl fun a S=>Vb S Xy rfl rfl rfl fun a S=>Vm S rfl rfl ?_);clear S;intro a S
 refine Iy 6 (fun a w'=>Keep [] w2 w' ∧ Sx w [] nov [.blk b2 (Di.enc Ak) 102,.blk b1 (Di.enc Ah) 102] [(16,bV ((decide (Ah.Site = Ak.Site)) && (decide (Ah.No = Ak.No))))] 17 a w') ?_ ?_
 ·rcases Bool.eq_false_or_eq_true (decide (Ah.Site = Ak.Site)) with hb1 | hb1
  ·refine Dy S rfl rfl rfl hb1 (Vf Tg S rfl rfl fun a S=>Dy S rfl rfl rfl hb1 (Vl isAgg3 1 S rfl rfl rfl rfl fun a S=>Dy S rfl rfl rfl hb1 (Vf Tg S rfl rfl fun a S=>Dy S rfl rfl rfl hb1 (Vl isAgg3 0 S rfl rfl rfl rfl fun a S=>Dy S rfl rfl rfl hb1 (Vb S Jk rfl rfl rfl fun a S=>lv S (Io hb1 (S.tm rfl) (S.tm rfl)) rfl ?_)))));clear S;intro a S
   exact Dl (⟨Keep.refl _ _,S.nf [true,true] rfl ⟨rfl,trivial⟩⟩)
  ·iterate 5 (refine Ht S rfl rfl rfl (Kp hb1) rfl ?_ rfl;clear S;intro a S)
   exact lv S (Ip (decide (Ah.No = Ak.No)) hb1 (S.tm rfl) rfl) rfl fun a S=>Dl (⟨Keep.refl _ _,S.nf [true,true] rfl ⟨rfl,trivial⟩⟩)
 clear S;rintro a w3 ⟨hk3,S⟩
 refine Va S rfl rfl fun a S=>Dl (wp_ret ?_)
 subst h
 exact Et S results46 rfl rfl
theorem Zr (w : World) (Dd : Di) (By : Nat) (Bj : Di) (Bz : (view w []) By = some (.cells [sV Bj.Site,iV Bj.No,iV Bj.At,iV Bj.Kind,sV Bj.Who,sV Bj.Club,sV Bj.Race,iV Bj.Time,iV Bj.Fault,sV Bj.Of,iV Bj.Other].toArray 102 (0,0))) (r : Bool) (h : Pi Dd Bj = r) :
    Calls prog 45 [.agg (Di.enc Dd).toArray,.pointer (some ⟨By,0,none⟩)].toArray w (Ret w [] fun _ v _=>v = bV r):=by
 refine Fe func45 rfl ntmps45 rfl fun a S=>?_
 unfold Pi at h
 replace S:=S.k2 0 1 rfl
 refine Fr (Lw S (S.tm rfl) (cs:=(Di.enc Dd)) rfl rfl ?_);clear S;intro a w1 b1 hz1 hk1 S
 refine Vk S rfl rfl fun a S=>Dz (lv S (Fb isAgg102 sizeOf102 (off:=0) (o:=0) (part:=(Di.enc Dd)) rfl rfl (S.tm rfl) (S.cellsAt (i:=0) rfl)) rfl fun a S=>lv S (Fb isAgg102 sizeOf102 (off:=0) (o:=0) (part:=(Di.enc Bj)) rfl rfl (S.tm rfl) ((Sc Bz).at S.emb0)) rfl fun a S=>Eb S (fun _=>Dq (vs:=[.agg (Di.enc Dd).toArray,.agg (Di.enc Bj).toArray]) ⟨(S.tm rfl),(S.tm rfl),trivial⟩ call46) (FH _ Dd Bj _ rfl) rfl ?_);clear S;intro v1 a w2 hv1 hk2 hn1 S
 subst hv1
 refine Va S rfl rfl fun a S=>Dl (wp_ret ?_)
 subst h
 exact Et S results45 rfl rfl
theorem Sm (w : World) (Ax : Value) (Ba : List Di) (Bf : Slc (view w []) 11 Ax (Ba.map Di.enc)) (Az : Nat) (Aw : Di) (Bh : (view w []) Az = some (.cells [sV Aw.Site,iV Aw.No,iV Aw.At,iV Aw.Kind,sV Aw.Who,sV Aw.Club,sV Aw.Race,iV Aw.Time,iV Aw.Fault,sV Aw.Of,iV Aw.Other].toArray 102 (0,0))) (r : Int) (h : Mb Ba Aw = r) :
    Calls prog 94 [Ax,.func (.func 45) #[] #[.pointer (some ⟨Az,0,none⟩)]].toArray w (Ret w [] fun _ v _=>v = iV r):=by
 refine Fe func94 rfl ntmps94 rfl fun a S=>?_
 unfold Mb at h
 replace S:=S.k2 0 1 rfl
 refine Fr (Vk S rfl rfl fun a S=>Dl (Fs (Fr (Vm S rfl rfl fun a S=>lv S (Gi Oo (S.tm rfl) (Gf Bf)) rfl fun a S=>lv S (Rm rfl) rfl ?_))));clear S;intro a S
 refine Dl ?_
 replace S:=S.k4 0 1 7 8 rfl
 obtain ⟨j1,hj1,h⟩:=Eu h
 refine Eh (fun a w'=>j1 = r ∧ Sx w [] nov [] [] 19 a w') ?_ ?_
 ·refine wp_block (Gr (fun (ys1 : List Di) a w'=>∃ i1 : Nat,(∃ dn,Ba = dn ++ ys1 ∧ dn.length = i1) ∧ Ez Aw j1 ys1 i1 = r ∧ Sx w [] nov [] [(0,Ax),(1,.func (.func 45) #[] #[.pointer (some ⟨Az,0,none⟩)]),(7,iV (Ba.length : Int)),(8,iV (i1 : Int))] 19 a w') List.length Ba ⟨0,⟨[],rfl,rfl⟩,h,S.nf [] rfl (subR rfl)⟩ ?_)
  clear S h;rintro ys1 a w1 ⟨i1,⟨dn,hd1,hi1⟩,h,S⟩
  cases ys1 with
  | nil =>
   rw [Ez.eq_1] at h
   refine Fr (Vb S Es rfl rfl rfl fun a S=>Ld ?_)
   replace S:=S.k5 0 1 7 8 9 rfl
   exact Tn (Fs (wp_cond_false ((S.tm rfl).trans (congrArg Value.bool (Jd hd1 hi1))) (wp_exit (Ed (Ed (Gn (Tn (⟨h,S.nf [] rfl trivial⟩))))))))
  | cons y1 ys1 =>
   rw [Ez.eq_2] at h
   refine Fr (Vb S Es rfl rfl rfl fun a S=>Ld ?_)
   replace S:=S.k5 0 1 7 8 9 rfl
   refine Tn (Fs (wp_cond_true ((S.tm rfl).trans (congrArg Value.bool (Ia hd1 hi1))) (wp_skip (Tn (Fs (wp_block (Fr (Vm S rfl rfl fun a S=>Va S rfl rfl ?_))))))));clear S;intro a S
   refine Dl (Fs (Fg ?_))
   iterate 3 (refine Vm S rfl rfl ?_;clear S;intro a S)
   obtain ⟨b1,o1,hm1,hr1⟩:=Fk (a:=a) (x:=.tmp 12) (y:=.tmp 13) (ty:=0) Oo Bf (Jc hd1 hi1) rfl (S.tm rfl) (S.tm rfl)
   refine lv S (hr1 _) rfl ?_;clear S;intro a S
   clear hr1
   refine lv S (Fb isAgg102 sizeOf102 (off:=o1) (o:=0) (part:=(Di.enc y1)) rfl rfl (S.tm rfl) (hm1.at S.emb0)) rfl fun a S=>Eb S (fun _=>Rf (cap:=[.pointer (some ⟨Az,0,none⟩)]) (S.tm rfl) (vs:=[.agg (Di.enc y1).toArray]) ⟨(S.tm rfl),trivial⟩ call45) (Zr _ y1 Az Aw ((S.le_arg Eg) _ _ Bh) _ rfl) rfl ?_;clear S;intro v1 a w3 hv1 hk1 hn1 S
   subst hv1
   refine Dl (Fc h (S.tm rfl) (fun hb1 h=>?_) (fun hb1 h=>?_))
   ·refine Fr (Vm S rfl rfl fun a S=>Va S rfl rfl fun a S=>Ld ?_)
    replace S:=S.k1 4 rfl
    refine Tn (wp_ret (Gq (Dv (Dv (Gq (Dv (Dv ?_)))))))
    subst h
    exact Et S results94 rfl rfl
   ·exact wp_skip (Hp (Tn (Fg (Vq S Gc rfl rfl rfl fun a S=>Vm S rfl rfl fun a S=>Dl (⟨ys1,⟨i1 + 1,⟨_,(hd1).trans (List.append_cons _ _ _),by simp [hi1]⟩,h,S.nf [] rfl ⟨rfl,rfl,rfl,(congrArg (fun z=>some (Value.int .i64 z)) (Ib hd1 hi1 (Jp Bf))),trivial⟩⟩,Nat.lt_succ_self _⟩)))))
 clear S h;rintro a w2 ⟨h,S⟩;rw [hj1] at h;clear hj1 j1
 refine Tn (Fr (Vk S rfl rfl fun a S=>Dl (wp_ret ?_)))
 subst h
 exact Et S results94 rfl rfl
theorem Rw (w : World) (Ax : Value) (Ba : List Di) (Bf : Slc (view w []) 11 Ax (Ba.map Di.enc)) (Az : Nat) (Aw : Di) (Bh : (view w []) Az = some (.cells [sV Aw.Site,iV Aw.No,iV Aw.At,iV Aw.Kind,sV Aw.Who,sV Aw.Club,sV Aw.Race,iV Aw.Time,iV Aw.Fault,sV Aw.Of,iV Aw.Other].toArray 102 (0,0))) (r : Bool) (h : Jq Ba Aw = r) :
    Calls prog 44 [Ax,.func (.func 45) #[] #[.pointer (some ⟨Az,0,none⟩)]].toArray w (Ret w [] fun _ v _=>v = bV r):=by
 refine Fe func44 rfl ntmps44 rfl fun a S=>?_
 unfold Jq at h
 replace S:=S.k2 0 1 rfl
 refine Fr (Vk S rfl rfl fun a S=>Dz (Vm S rfl rfl fun a S=>Vm S rfl rfl fun a S=>Eb S (fun _=>Dq (vs:=[Ax,.func (.func 45) #[] #[.pointer (some ⟨Az,0,none⟩)]]) ⟨(S.tm rfl),(S.tm rfl),trivial⟩ call94) (Sm _ Ax Ba (Bf.mono (S.le_arg Eg)) Az Aw ((S.le_arg Eg) _ _ Bh) _ rfl) rfl ?_));clear S;intro v1 a w1 hv1 hk1 hn1 S
 subst hv1
 refine Vq S Rl rfl rfl rfl fun a S=>Va S rfl rfl fun a S=>Dl (wp_ret ?_)
 subst h
 exact Et S results44 rfl rfl
set_option maxRecDepth 20000 in
theorem BV (w : World) (Ac : Value) (Aj : List Di) (Ai : Slc (view w []) 11 Ac (Aj.map Di.enc)) (r : Int) (h : Qu Aj = some r) :
    Calls prog 22 [Ac].toArray w (Ret w [] fun _ v _=>v = iV r):=by
 refine Fe func22 rfl ntmps22 rfl fun a S=>?_
 unfold Qu at h
 replace S:=S.k1 0 rfl
 refine Fr (Vk S rfl rfl fun a S=>Dl (Fs (Fr (Vm S rfl rfl fun a S=>lv S (Gi Oo (S.tm rfl) (Gf Ai)) rfl fun a S=>Vq S Kb rfl rfl rfl ?_))));clear S;intro a S
 refine Dl (Fc h (S.tm rfl) (fun hb1 h=>?_) (fun hb1 h=>?_))
 ·refine Fr (Vk S rfl rfl fun a S=>Dl (wp_ret (Dv ?_)))
  obtain rfl:=Option.some.inj h
  exact Et S results22 rfl rfl
 ·refine wp_skip (Tn (Fs (Fr (Vm S rfl rfl fun a S=>lv S (Gi Oo (S.tm rfl) (Gf Ai)) rfl fun a S=>lv S (Rm rfl) rfl fun a S=>Dl ?_))))
  replace S:=S.k4 0 11 12 13 rfl
  obtain ⟨j1,hj1,h⟩:=Eu h
  refine Eh (fun a w'=>j1 = some r ∧ Sx w [] nov [] [(0,Ac)] 49 a w') ?_ ?_
  ·refine wp_block (Gr (fun (ys1 : List Di) a w'=>∃ i1 : Nat,(∃ dn,Aj = dn ++ ys1 ∧ dn.length = i1) ∧ Il Aj j1 ys1 i1 = some r ∧ Sx w [] nov [] [(0,Ac),(11,Ac),(12,iV (Aj.length : Int)),(13,iV (i1 : Int))] 49 a w') List.length Aj ⟨0,⟨[],rfl,rfl⟩,h,S.nf [] rfl (subR rfl)⟩ ?_)
   clear S h;rintro ys1 a w1 ⟨i1,⟨dn,hd1,hi1⟩,h,S⟩
   cases ys1 with
   | nil =>
    rw [Il.eq_1] at h
    refine Fr (Vb S Es rfl rfl rfl fun a S=>Ld ?_)
    replace S:=S.k5 0 11 12 13 14 rfl
    exact Tn (Fs (wp_cond_false ((S.tm rfl).trans (congrArg Value.bool (Jd hd1 hi1))) (wp_exit (Ed (Ed (Gn (Tn (⟨h,S.nf [] rfl ⟨rfl,trivial⟩⟩))))))))
   | cons y1 ys1 =>
    rw [Il.eq_2] at h
    refine Fr (Vb S Es rfl rfl rfl fun a S=>Ld ?_)
    replace S:=S.k5 0 11 12 13 14 rfl
    refine Tn (Fs (wp_cond_true ((S.tm rfl).trans (congrArg Value.bool (Ia hd1 hi1))) (wp_skip (Tn (Fs (wp_block (Fr (Vm S rfl rfl ?_))))))));clear S;intro a S
    obtain ⟨b1,o1,hm1,hr1⟩:=Fk (a:=a) (x:=.tmp 11) (y:=.tmp 13) (ty:=0) Oo Ai (Jc hd1 hi1) rfl (S.tm rfl) (S.tm rfl)
    refine lv S (hr1 _) rfl ?_;clear S;intro a S
    clear hr1
    refine lv S (Fb isAgg102 sizeOf102 (off:=o1) (o:=0) (part:=(Di.enc y1)) rfl rfl (S.tm rfl) (hm1.at S.emb0)) rfl fun a S=>Hq S zeroValue102 (cs:=[sV An,iV 0,iV 0,iV 0,sV An,sV An,sV An,iV 0,iV 0,sV An,iV 0]) rfl rfl ?_;clear S;intro a w3 b2 hz1 hk1 S
    refine Va S rfl rfl fun a S=>Ex S (S.tm rfl) (S.tm rfl) (i:=0) (off:=0) rfl sizeOf102 (vs:=(Di.enc y1)) rfl rfl rfl rfl ?_;clear S;intro w4 hk2 S
    refine Dl (Fs (Fr (lv S (Fb isAgg102 sizeOf102 (off:=0) (o:=0) (part:=(Di.enc y1)) rfl rfl (S.tm rfl) (S.cellsAt (i:=0) rfl)) rfl ?_)));clear S;intro a S
    obtain ⟨r1,hr2,h⟩:=Fa h
    refine Eb S (fun _=>Dq (vs:=[.agg (Di.enc y1).toArray]) ⟨(S.tm rfl),trivial⟩ call43) (CG _ y1 _ hr2) rfl ?_;clear S;intro v1 a w5 hv1 hk3 hn1 S
    subst hv1
    refine Va S rfl rfl fun a S=>Dz (Vm S rfl rfl fun a S=>Vq S Mn rfl rfl rfl fun a S=>Ld ?_)
    replace S:=(S.nl [.blk b2 (Di.enc y1) 102] [true] rfl).k8 0 3 4 5 11 12 13 21 rfl
    refine Tn (Fc h (S.tm rfl) (fun hb2 h=>?_) (fun hb2 h=>?_))
    ·refine Fr (Vm S rfl rfl fun a S=>Va S rfl rfl fun a S=>Dl (wp_ret (Dv (Gq (Dv (Dv ?_))))))
     refine Gq (Dv (Dv ?_))
     obtain rfl:=Option.some.inj h
     exact Et S results22 rfl rfl
    ·refine wp_skip (Tn (Fs ?_))
     obtain ⟨j2,hj2,h⟩:=Eu h
     refine Eh (fun a w'=>∃ x1 : Bool,j2 x1 = some r ∧ Sx w [] nov [] [(0,Ac),(11,Ac),(12,iV (Aj.length : Int)),(13,iV (i1 : Int)),(34,bV x1)] 49 a w') ?_ ?_
     ·rcases Bool.eq_false_or_eq_true (decide (0 < (i1 : Int))) with hb3 | hb3
      ·replace h:=Ti h hb3
       obtain ⟨hc1,h⟩:=Ig h
       refine Gt [] ([]) Tryz.mixed S rfl (by kernel_rfl) ?_;clear S;intro w8 hk5 hsel S
       refine Ea 0 S hsel rfl rfl rfl (by kernel_rfl) (by kernel_rfl) rfl (fun _ hw=>(Rm (S.tm rfl))) fun a S=>Ea 1 S hsel rfl rfl rfl (by kernel_rfl) (by kernel_rfl) rfl (fun _ hw=>(Kb (S.tm rfl) rfl)) fun a S=>Ea 2 S hsel rfl rfl rfl (by kernel_rfl) (by kernel_rfl) rfl (fun _ hw=>(Rm (S.tm rfl))) fun a S=>Ef 3 S hsel rfl rfl rfl rfl hb3 rfl rfl (by kernel_rfl) (by kernel_rfl) rfl (fun _ hw=>(Rm (S.tm rfl))) fun a S=>Ef 4 S hsel rfl rfl rfl rfl hb3 rfl rfl (by kernel_rfl) (by kernel_rfl) rfl (fun _ hw=>(Rm (S.tm rfl))) fun a S=>Ef 5 S hsel rfl rfl rfl rfl hb3 rfl rfl (by kernel_rfl) (by kernel_rfl) rfl (fun _ hw=>(Iw (S.tm rfl) rfl)) ?_;clear S;intro a S
       obtain ⟨b4,o3,hm3,hr4⟩:=Fk (a:=a) (x:=.tmp 26) (y:=.tmp 28) (ty:=0) Oo (Ai.mono (S.le_arg Eg)) (Dw hc1).1 (Dw hc1).2 (S.tm rfl) (S.tm rfl)
       refine Ef 6 S hsel rfl rfl rfl rfl hb3 rfl rfl (by kernel_rfl) (by kernel_rfl) rfl (fun _ hw=>hr4 _) ?_;clear S;intro a S
       clear hr4
       refine Ef 7 S hsel rfl rfl rfl rfl hb3 rfl rfl (by kernel_rfl) (by kernel_rfl) rfl (fun _ hw=>(Fb isAgg102 sizeOf102 (off:=o3) (o:=0) (part:=(Di.enc (nth Aj (W ((i1 : Int) - 1))))) rfl rfl (S.tm rfl) (hm3.kept hw))) fun a S=>Ef 8 S hsel rfl rfl rfl rfl hb3 rfl rfl (by kernel_rfl) (by kernel_rfl) rfl (fun _ hw=>(Fb isAgg102 sizeOf102 (off:=0) (o:=0) (part:=(Di.enc y1)) rfl rfl (S.tm rfl) ((S.blk_mem (i:=0) (cells:=(Di.enc y1)) (b:=b2) (T:=102) rfl (Hg (e':=.blk b2 (Di.enc y1) 102))).kept hw))) fun a S=>Hb 9 (by kernel_rfl) rfl (Dy S rfl rfl rfl hb3 (Eb S (fun _=>Dq (vs:=[.agg (Di.enc (nth Aj (W ((i1 : Int) - 1)))).toArray,.agg (Di.enc y1).toArray]) ⟨(S.tm rfl),(S.tm rfl),trivial⟩ call42) (Xm _ (nth Aj (W ((i1 : Int) - 1))) y1 _ rfl) rfl ?_));clear S;intro v3 a w9 hv3 hk6 hn3 S
       subst hv3
       refine Ld (Hy hk6 (Li [10,11] hsel (by kernel_rfl) rfl ?_))
       clear hsel
       refine Fj S rfl rfl rfl rfl hb3 (Ha S (Rl (S.tm rfl) rfl) rfl fun a S=>Gp S rfl (Pq hb3 (S.tm rfl) (S.tm rfl)) rfl fun a S=>Ij ?_)
       replace S:=S.n0.k13 0 11 12 13 26 27 28 29 30 31 32 33 34 rfl
       exact Tn (⟨decide (0 ≤ (Kh (nth Aj (W ((i1 : Int) - 1))) y1)),h,S.nf [] rfl (subR rfl)⟩)
      ·replace h:=Tj h hb3
       refine Gt [] ([]) Tryz.mixed S rfl (by kernel_rfl) ?_;clear S;intro w10 hk7 hsel S
       refine Li [0,1,2,3,4,5,6,7,8,9,10,11] hsel (by kernel_rfl) rfl ?_
       clear hsel
       refine Gp S rfl (Rm (S.tm rfl)) rfl fun a S=>Gp S rfl (Kb (S.tm rfl) rfl) rfl fun a S=>Gp S rfl (Rm (S.tm rfl)) rfl ?_;clear S;intro a S
       iterate 8 (refine Pn S rfl rfl rfl rfl (Kp hb3) rfl ?_ rfl;clear S;intro a S)
       refine Gp S rfl (Ps hb3 (S.tm rfl) rfl) rfl fun a S=>Ij ?_
       replace S:=S.n0.k5 0 11 12 13 34 rfl
       exact Tn (⟨false,h,S.nf [] rfl (subR rfl)⟩)
     clear S h;rintro a w6 ⟨x1,h,S⟩;rw [hj2] at h;clear hj2 j2
     refine Tn (Fc h (S.tm rfl) (fun hb4 h=>?_) (fun hb4 h=>?_))
     ·refine Fr (Vk S rfl rfl fun a S=>Dl (wp_ret (Gq (Dv (Dv (Gq (Dv ?_)))))))
      refine Dv ?_
      obtain rfl:=Option.some.inj h
      exact Et S results22 rfl rfl
     ·exact wp_skip (Hp (Tn (Fg (Vq S Gc rfl rfl rfl fun a S=>Vm S rfl rfl fun a S=>Dl (⟨ys1,⟨i1 + 1,⟨_,(hd1).trans (List.append_cons _ _ _),by simp [hi1]⟩,h,S.nf [] rfl ⟨rfl,rfl,rfl,(congrArg (fun z=>some (Value.int .i64 z)) (Ib hd1 hi1 (Jp Ai))),trivial⟩⟩,Nat.lt_succ_self _⟩)))))
  clear S h;rintro a w2 ⟨h,S⟩;rw [hj1] at h;clear hj1 j1
  refine Tn (Fs (Fr (Vm S rfl rfl fun a S=>lv S (Gi Oo (S.tm rfl) (Gf Ai)) rfl fun a S=>lv S (Rm rfl) rfl fun a S=>Dl ?_)))
  replace S:=S.k4 0 36 37 38 rfl
  obtain ⟨j3,hj3,h⟩:=Eu h
  refine Eh (fun a w'=>j3 = some r ∧ Sx w [] nov [] [] 49 a w') ?_ ?_
  ·refine wp_block (Gr (fun (ys2 : List Di) a w'=>∃ i2 : Nat,(∃ dn,Aj = dn ++ ys2 ∧ dn.length = i2) ∧ Jg Aj j3 ys2 i2 = some r ∧ Sx w [] nov [] [(0,Ac),(36,Ac),(37,iV (Aj.length : Int)),(38,iV (i2 : Int))] 49 a w') List.length Aj ⟨0,⟨[],rfl,rfl⟩,h,S.nf [] rfl (subR rfl)⟩ ?_)
   clear S h;rintro ys2 a w11 ⟨i2,⟨dn,hd2,hi2⟩,h,S⟩
   cases ys2 with
   | nil =>
    rw [Jg.eq_1] at h
    refine Fr (Vb S Es rfl rfl rfl fun a S=>Ld ?_)
    replace S:=S.k5 0 36 37 38 39 rfl
    exact Tn (Fs (wp_cond_false ((S.tm rfl).trans (congrArg Value.bool (Jd hd2 hi2))) (wp_exit (Ed (Ed (Gn (Tn (⟨h,S.nf [] rfl trivial⟩))))))))
   | cons y2 ys2 =>
    rw [Jg.eq_2] at h
    refine Fr (Vb S Es rfl rfl rfl fun a S=>Ld ?_)
    replace S:=S.k5 0 36 37 38 39 rfl
    refine Tn (Fs (wp_cond_true ((S.tm rfl).trans (congrArg Value.bool (Ia hd2 hi2))) (wp_skip (Tn (Fs (wp_block (Fr (Vm S rfl rfl ?_))))))));clear S;intro a S
    obtain ⟨b5,o4,hm4,hr5⟩:=Fk (a:=a) (x:=.tmp 36) (y:=.tmp 38) (ty:=0) Oo Ai (Jc hd2 hi2) rfl (S.tm rfl) (S.tm rfl)
    refine lv S (hr5 _) rfl ?_;clear S;intro a S
    clear hr5
    refine lv S (Fb isAgg102 sizeOf102 (off:=o4) (o:=0) (part:=(Di.enc y2)) rfl rfl (S.tm rfl) (hm4.at S.emb0)) rfl fun a S=>Hq S zeroValue102 (cs:=[sV An,iV 0,iV 0,iV 0,sV An,sV An,sV An,iV 0,iV 0,sV An,iV 0]) rfl rfl ?_;clear S;intro a w13 b6 hz2 hk8 S
    refine Va S rfl rfl fun a S=>Ex S (S.tm rfl) (S.tm rfl) (i:=0) (off:=0) rfl sizeOf102 (vs:=(Di.enc y2)) rfl rfl rfl rfl ?_;clear S;intro w14 hk9 S
    refine Dz (Vm S rfl rfl fun a S=>Vm S rfl rfl ?_);clear S;intro a S
    obtain ⟨hc2,h⟩:=Ig h
    obtain ⟨v4,hs1,hr6⟩:=OT (a:=a) (x:=.tmp 43) (y':=.tmp 44) (ty:=34) Oo Ai (S.tm rfl) (S.tm rfl) hc2
    refine lv S (hr6 _) rfl ?_;clear S;intro a S
    clear hr6
    refine lv S (Tk (us:=#[]) (xs:=[].toArray) (ys:=[.tmp 7].toArray) (by simp) (evA ⟨(S.tm rfl),trivial⟩ (vs:=[.pointer (some ⟨b6,0,none⟩)]))) rfl fun a S=>Eb S (fun _=>Dq (vs:=[v4,.func (.func 45) #[] #[.pointer (some ⟨b6,0,none⟩)]]) ⟨(S.tm rfl),(S.tm rfl),trivial⟩ call44) (Rw _ v4 (cut Aj 0 (i2 : Int)) (hs1.mono (S.le_arg Eg)) b6 y2 (S.blk_view (i:=0) rfl ((Hg (e':=.blk b6 (Di.enc y2) 102)) _ rfl)) _ rfl) rfl ?_;clear S;intro v5 a w15 hv4 hk10 hn4 S
    subst hv4
    refine Ld ?_
    replace S:=S.n0.k5 0 36 37 38 47 rfl
    refine Tn (Fc h (S.tm rfl) (fun hb5 h=>?_) (fun hb5 h=>?_))
    ·refine Fr (Vk S rfl rfl fun a S=>Dl (wp_ret (Gq (Dv (Dv (Gq (Dv ?_)))))))
     refine Dv ?_
     obtain rfl:=Option.some.inj h
     exact Et S results22 rfl rfl
    ·exact wp_skip (Hp (Tn (Fg (Vq S Gc rfl rfl rfl fun a S=>Vm S rfl rfl fun a S=>Dl (⟨ys2,⟨i2 + 1,⟨_,(hd2).trans (List.append_cons _ _ _),by simp [hi2]⟩,h,S.nf [] rfl ⟨rfl,rfl,rfl,(congrArg (fun z=>some (Value.int .i64 z)) (Ib hd2 hi2 (Jp Ai))),trivial⟩⟩,Nat.lt_succ_self _⟩)))))
  clear S h;rintro a w12 ⟨h,S⟩;rw [hj3] at h;clear hj3 j3
  refine Tn (Fr (Vk S rfl rfl fun a S=>Dl (wp_ret ?_)))
  obtain rfl:=Option.some.inj h
  exact Et S results22 rfl rfl
theorem DI (w : World) (U : Nat) (Aa : Value) (Ar : List Int) (Ap : Slc (view w [U]) 1 Aa (Ar.map eInt)) (Am : Int) (As : (LEnt.blk U [Aa,iV Am] 25).holds w) (Bq : Int) (r : (List Di) × Int) (h : Sf Ar Am Bq = some r) :
    Calls prog 5 [.pointer (some ⟨U,0,none⟩),iV Bq].toArray w (Ret w [U] fun τ v w'=>(LEnt.blk U [Aa,iV r.2] 25).holds w' ∧ Uq τ 102 11 v r.1.length (r.1.flatMap Di.enc)):=by
 refine Lb [U] [.blk U [Aa,iV Am] 25] func5 rfl ntmps5 rfl (fun e he=>by simp only [List.mem_singleton] at he;subst he;exact As) (by simp [fps,LEnt.fp]) (by simp [fps,LEnt.fp]) fun a S=>?_
 unfold Sf at h
 replace S:=(S.nl [.blk U [Aa,iV Am] 25] [true] rfl).k2 0 1 rfl
 refine Fr (Vk S rfl rfl fun a S=>Dl (Fs (Fr (lv S (Rm rfl) rfl fun a S=>Dl ?_))))
 replace S:=S.k3 0 1 6 rfl
 obtain ⟨j1,hj1,h⟩:=Eu h
 refine Eh (fun a w'=>∃ x1 : Int,∃ φ1 : View,j1 x1 = some r ∧ View.le nov φ1 ∧ Sx w [U] φ1 [.blk U [Aa,iV x1] 25] [] 16 a w') ?_ ?_
 ·refine wp_block (Gr (fun (m1 : Nat) a w'=>∃ x1 : Int,∃ x2 : Int,∃ φ1 : View,Ku Ar Bq j1 m1 x1 x2 = some r ∧ View.le nov φ1 ∧ Sx w [U] φ1 [.blk U [Aa,iV x1] 25] [(0,.pointer (some ⟨U,0,none⟩)),(1,iV Bq),(6,iV x2)] 16 a w') id 7 ⟨Am,0,nov,h,View.le_refl _,S.nf [true] rfl (subR rfl)⟩ ?_)
  clear S h;rintro m1 a w1 ⟨x1,x2,φ1,h,hl1,S⟩
  cases m1 with
  | zero=>rw [Ku.eq_1] at h;cases h
  | succ m1 =>
   rw [Ku.eq_2] at h
   refine Fr (Vq S Es rfl rfl rfl fun a S=>Dl (Fs (Fc h (S.tm rfl) (fun hb1 h=>?_) (fun hb1 h=>?_))))
   ·refine wp_skip (Tn (Fs (wp_block (Fr (Vm S rfl rfl fun a S=>Vm S rfl rfl ?_)))));clear S;intro a S
    obtain ⟨r1,hr1,h⟩:=Fa h
    have hz1:=S.keep.size
    refine Hu 0 S (b:=U) rfl rfl (fun _=>.blk U [Aa,iV r1.2] 25) (fun _=>Dq (vs:=[.pointer (some ⟨U,0,none⟩),iV Bq]) ⟨(S.tm rfl),(S.tm rfl),trivial⟩ call21) (IK _ U Aa Ar (Ap.mono (S.le_arg (Jn (i:=0) (e:=.blk U [Aa,iV x1] 25) rfl))) x1 (S.holds _ (List.mem_of_getElem? (i:=0) rfl)) Bq _ hr1) rfl (fun _ _ _ h=>⟨h.1,fun _ hc=>by cases hc;rfl⟩) ?_;clear S;intro v1 a w3 hv1 hk1 hn1 S
    replace hv1:=hv1.2
    obtain ⟨φ2,hl2,hm1,S⟩:=S.see' hn1 hz1
    have hs1:=hv1.mono hm1
    refine Va S rfl rfl fun a S=>Dz (Vm S rfl rfl ?_);clear S;intro a S
    obtain ⟨r2,hr2,h⟩:=Fa h
    refine Eb S (fun _=>Dq (vs:=[v1]) ⟨(S.tm rfl),trivial⟩ call22) (BV _ v1 r1.1 ((Ge Di.enc_ok hs1).mono (S.le_new Eg)) _ hr2) rfl ?_;clear S;intro v2 a w4 hv2 hk2 hn2 S
    subst hv2
    refine Vq S Jk rfl rfl rfl fun a S=>Dl (Fc h (S.tm rfl) (fun hb2 h=>?_) (fun hb2 h=>?_))
    ·refine Fr (Vm S rfl rfl fun a S=>Va S rfl rfl fun a S=>Dl (wp_ret (Gq (Dv (Dv (Gq ?_))))))
     refine Dv (Dv ?_)
     obtain rfl:=Option.some.inj h
     exact Et S results5 rfl ⟨(S.holds _ (List.mem_of_getElem? (i:=0) rfl)),((hs1).mono S.le_newer)⟩
    ·exact wp_skip (Hp (Tn (Fg (Vq S Gc rfl rfl rfl fun a S=>Vm S rfl rfl fun a S=>Dl (⟨m1,⟨r1.2,W (x2 + 1),φ2,h,(View.le_trans hl1 hl2),S.nf [true] rfl ⟨rfl,rfl,rfl,trivial⟩⟩,Nat.lt_succ_self _⟩)))))
   ·exact wp_exit (Ed (Ed (Gn (Tn (⟨x1,φ1,h,hl1,S.nf [true] rfl trivial⟩)))))
 clear S h;rintro a w2 ⟨x1,φ1,h,hl1,S⟩;rw [hj1] at h;clear hj1 j1
 refine Tn (Fr (Vk S rfl rfl fun a S=>Dl (wp_ret ?_)))
 obtain rfl:=Option.some.inj h
 exact Et S results5 rfl ⟨(S.holds _ (List.mem_of_getElem? (i:=0) rfl)),(Ro _ _ _)⟩
theorem DJ (w : World) (Ax : Value) (Ba : List Du) (Bf : Slc (view w []) 8 Ax (Ba.map Du.enc)) (r : (List Du)) (h : Uo Ba = some r) :
    Calls prog 7 [Ax].toArray w (Ret w [] fun τ v _=>Uq τ 40 8 v r.length (r.flatMap Du.enc)):=by
 refine Fe func7 rfl ntmps7 rfl fun a S=>?_
 unfold Uo at h
 replace S:=S.k1 0 rfl
 refine Fr (Vk S rfl rfl fun a S=>Dl (Fs (Fr (Vm S rfl rfl fun a S=>lv S (XA underlying26 (Gf Bf) (S.tm rfl) rfl) rfl fun a S=>Ld ?_))))
 refine Tn (WR (S.tm rfl) (fun hb1=>?_) (fun hb1=>?_))
 ·have hx1:=WZ Bf hb1
  subst hx1
  replace h : some ([] : List Du) = some r:=h
  refine Fr (Vk S rfl rfl fun a S=>Dl (wp_ret (Dv ?_)))
  obtain rfl:=Option.some.inj h
  exact Et S results7 rfl (Ro _ _ _)
 ·refine wp_skip (Tn (Fr (LE S underlying26 sizeOf40 rfl ?_)));clear S;intro a w1 b1 hz1 hk1 S
  refine Vm S rfl rfl ?_;clear S;intro a S
  replace S:=S.litOwn (i:=0) (xs:=([] : List Du)) rfl Du.enc_ok rfl rfl rfl
  replace S:=S.nk [.own (.slice (some ⟨b1,0,none⟩) 0 0) 40 8 (([] : List Du) : List Du).length ((([] : List Du) : List Du).flatMap Du.enc)] [(0,Ax),(2,.slice none 0 0),(3,Ax),(4,bV (nilB Ax)),(5,(.slice (some ⟨b1,0,none⟩) 0 0)),(6,Ax)] [] rfl (subR rfl)
  obtain ⟨hc1,h⟩:=Ig h
  refine HE (Y:=[]) Sh Du.enc_ok S (S.tm rfl) (i:=0) rfl (S.tm rfl) (Bf.mono (S.le_arg (fun _ h=>by cases h))) rfl rfl (by have:=Nu hc1;omega) rfl ?_;clear S;intro v1 a w2 hk2 S
  refine Va S rfl rfl fun a S=>Dl (wp_ret ?_)
  obtain rfl:=Option.some.inj h
  exact Et S results7 rfl (Ut S (i:=0) rfl rfl)
set_option maxRecDepth 20000 in
theorem LF (w : World) (Ab : Int) (r : Int) (h : FB Ab = some r) :
    Calls prog 56 [.int .u32 Ab].toArray w (Ret w [] fun _ v _=>v = iV r):=by
 refine Fe func56 rfl ntmps56 rfl fun a S=>?_
 unfold FB at h
 replace S:=S.k1 0 rfl
 refine Fr (Vk S rfl rfl fun a S=>Dl (Fs (Fr (Vm S rfl rfl fun a S=>Vq S Rl rfl rfl rfl fun a S=>Ld ?_))))
 refine Tn ?_
 obtain ⟨j1,hj1,h⟩:=Eu h
 refine Eh (fun a w'=>∃ x1 : Int,∃ x2 : Int,j1 x1 x2 = some r ∧ Sx w [] nov [] [(0,.int .u32 x1),(2,iV x2)] 19 a w') ?_ ?_
 ·refine Fc h (S.tm rfl) (fun hb1 h=>?_) (fun hb1 h=>?_)
  ·refine Fr (Vm S rfl rfl fun a S=>lv S (Wv (S.tm rfl) rfl (by decide)) rfl fun a S=>Va S rfl rfl fun a S=>Dl (Fg (Vk S rfl rfl fun a S=>Dl ?_)))
   exact ⟨Hc .u32 Ab 16,16,h,S.nf [] rfl (subR rfl)⟩
  ·exact wp_skip (Tn (⟨Ab,0,h,S.nf [] rfl (subR rfl)⟩))
 clear S h;rintro a w1 ⟨x1,x2,h,S⟩;rw [hj1] at h;clear hj1 j1
 refine Tn (Fs (Fr (Vm S rfl rfl fun a S=>Vq S Rl rfl rfl rfl fun a S=>Dl ?_)))
 obtain ⟨j2,hj2,h⟩:=Eu h
 refine Eh (fun a w'=>∃ x3 : Int,∃ x4 : Int,j2 x3 x4 = some r ∧ Sx w [] nov [] [(0,.int .u32 x3),(2,iV x4)] 19 a w') ?_ ?_
 ·refine Fc h (S.tm rfl) (fun hb2 h=>?_) (fun hb2 h=>?_)
  ·refine Fr (Vm S rfl rfl fun a S=>lv S (Wv (S.tm rfl) rfl (by decide)) rfl fun a S=>Va S rfl rfl fun a S=>Dl (Fg (Vm S rfl rfl fun a S=>Vq S Gc rfl rfl rfl fun a S=>Va S rfl rfl ?_)));clear S;intro a S
   exact Dl (⟨Hc .u32 x1 8,W (x2 + 8),h,S.nf [] rfl (subR rfl)⟩)
  ·exact wp_skip (Tn (⟨x1,x2,h,S.nf [] rfl (subR rfl)⟩))
 clear S h;rintro a w2 ⟨x3,x4,h,S⟩;rw [hj2] at h;clear hj2 j2
 refine Tn (Fr (Vm S rfl rfl fun a S=>Vm S rfl rfl fun a S=>Vu S (Ve underlying118 underlying5) rfl rfl ?_));clear S;intro a S
 obtain ⟨hc1,h⟩:=Ig h
 refine lv S (Zd underlying9 rfl (S.tm rfl) hc1) rfl fun a S=>Vu S (Ve underlying5 underlying3) rfl rfl fun a S=>Vb S Gc rfl rfl rfl fun a S=>Va S rfl rfl fun a S=>Dl (wp_ret ?_)
 obtain rfl:=Option.some.inj h
 exact Et S results56 rfl rfl
set_option maxRecDepth 20000 in
theorem ET (w : World) (Ab : Int) (r : Int) (h : BN Ab = some r) :
    Calls prog 57 [.int .u64 Ab].toArray w (Ret w [] fun _ v _=>v = iV r):=by
 refine Fe func57 rfl ntmps57 rfl fun a S=>?_
 unfold BN at h
 replace S:=S.k1 0 rfl
 refine Fr (Vk S rfl rfl fun a S=>Dl (Fs (Fr (Vm S rfl rfl fun a S=>Vq S Rl rfl rfl rfl fun a S=>Ld ?_))))
 refine Tn ?_
 obtain ⟨j1,hj1,h⟩:=Eu h
 refine Eh (fun a w'=>∃ x1 : Int,∃ x2 : Int,j1 x1 x2 = some r ∧ Sx w [] nov [] [(0,.int .u64 x1),(2,iV x2)] 25 a w') ?_ ?_
 ·refine Fc h (S.tm rfl) (fun hb1 h=>?_) (fun hb1 h=>?_)
  ·refine Fr (Vm S rfl rfl fun a S=>lv S (Wv (S.tm rfl) rfl (by decide)) rfl fun a S=>Va S rfl rfl fun a S=>Dl (Fg (Vk S rfl rfl fun a S=>Dl ?_)))
   exact ⟨Hc .u64 Ab 32,32,h,S.nf [] rfl (subR rfl)⟩
  ·exact wp_skip (Tn (⟨Ab,0,h,S.nf [] rfl (subR rfl)⟩))
 clear S h;rintro a w1 ⟨x1,x2,h,S⟩;rw [hj1] at h;clear hj1 j1
 refine Tn (Fs (Fr (Vm S rfl rfl fun a S=>Vq S Rl rfl rfl rfl fun a S=>Dl ?_)))
 obtain ⟨j2,hj2,h⟩:=Eu h
 refine Eh (fun a w'=>∃ x3 : Int,∃ x4 : Int,j2 x3 x4 = some r ∧ Sx w [] nov [] [(0,.int .u64 x3),(2,iV x4)] 25 a w') ?_ ?_
 ·refine Fc h (S.tm rfl) (fun hb2 h=>?_) (fun hb2 h=>?_)
  ·refine Fr (Vm S rfl rfl fun a S=>lv S (Wv (S.tm rfl) rfl (by decide)) rfl fun a S=>Va S rfl rfl fun a S=>Dl (Fg (Vm S rfl rfl fun a S=>Vq S Gc rfl rfl rfl fun a S=>Va S rfl rfl ?_)));clear S;intro a S
   exact Dl (⟨Hc .u64 x1 16,W (x2 + 16),h,S.nf [] rfl (subR rfl)⟩)
  ·exact wp_skip (Tn (⟨x1,x2,h,S.nf [] rfl (subR rfl)⟩))
 clear S h;rintro a w2 ⟨x3,x4,h,S⟩;rw [hj2] at h;clear hj2 j2
 refine Tn (Fs (Fr (Vm S rfl rfl fun a S=>Vq S Rl rfl rfl rfl fun a S=>Dl ?_)))
 obtain ⟨j3,hj3,h⟩:=Eu h
 refine Eh (fun a w'=>∃ x5 : Int,∃ x6 : Int,j3 x5 x6 = some r ∧ Sx w [] nov [] [(0,.int .u64 x5),(2,iV x6)] 25 a w') ?_ ?_
 ·refine Fc h (S.tm rfl) (fun hb3 h=>?_) (fun hb3 h=>?_)
  ·refine Fr (Vm S rfl rfl fun a S=>lv S (Wv (S.tm rfl) rfl (by decide)) rfl fun a S=>Va S rfl rfl fun a S=>Dl (Fg (Vm S rfl rfl fun a S=>Vq S Gc rfl rfl rfl fun a S=>Va S rfl rfl ?_)));clear S;intro a S
   exact Dl (⟨Hc .u64 x3 8,W (x4 + 8),h,S.nf [] rfl (subR rfl)⟩)
  ·exact wp_skip (Tn (⟨x3,x4,h,S.nf [] rfl (subR rfl)⟩))
 clear S h;rintro a w3 ⟨x5,x6,h,S⟩;rw [hj3] at h;clear hj3 j3
 refine Tn (Fr (Vm S rfl rfl fun a S=>Vm S rfl rfl fun a S=>Vu S (Ve underlying120 underlying5) rfl rfl ?_));clear S;intro a S
 obtain ⟨hc1,h⟩:=Ig h
 refine lv S (Zd underlying9 rfl (S.tm rfl) hc1) rfl fun a S=>Vu S (Ve underlying5 underlying3) rfl rfl fun a S=>Vb S Gc rfl rfl rfl fun a S=>Va S rfl rfl fun a S=>Dl (wp_ret ?_)
 obtain rfl:=Option.some.inj h
 exact Et S results57 rfl rfl
theorem AE (w : World) (Ab : Int) (r : Int) (h : Zg Ab = some r) :
    Calls prog 25 [.int .u64 Ab].toArray w (Ret w [] fun _ v _=>v = iV r):=by
 refine Fe func25 rfl ntmps25 rfl fun a S=>?_
 unfold Zg at h
 replace S:=S.k1 0 rfl
 refine Fr (Vk S rfl rfl fun a S=>Dl (Fs (Fc h rfl (fun hb1 h=>?_) (fun hb1 h=>?_))))
 ·refine Fr (Vm S rfl rfl fun a S=>Vu S (Ve underlying71 underlying118) rfl rfl ?_);clear S;intro a S
  obtain ⟨r1,hr1,h⟩:=Fa h
  refine Eb S (fun _=>Dq (vs:=[.int .u32 (IntKind.wrap .u32 Ab)]) ⟨(S.tm rfl),trivial⟩ call56) (LF _ (IntKind.wrap .u32 Ab) _ hr1) rfl ?_;clear S;intro v1 a w1 hv1 hk1 hn1 S
  subst hv1
  refine Va S rfl rfl fun a S=>Dl (wp_ret (Dv ?_))
  obtain rfl:=Option.some.inj h
  exact Et S results25 rfl rfl
 ·refine wp_skip (Tn (Fr (Vm S rfl rfl ?_)));clear S;intro a S
  obtain ⟨r2,hr2,h⟩:=Fa h
  refine Eb S (fun _=>Dq (vs:=[.int .u64 Ab]) ⟨(S.tm rfl),trivial⟩ call57) (ET _ Ab _ hr2) rfl ?_;clear S;intro v2 a w2 hv2 hk2 hn2 S
  subst hv2
  refine Va S rfl rfl fun a S=>Dl (wp_ret ?_)
  obtain rfl:=Option.some.inj h
  exact Et S results25 rfl rfl
theorem Wq (w : World) (Ah : Du) (Ak : Du) (r : Int) (h : Im Ah Ak = r) :
    Calls prog 9 [.agg (Du.enc Ah).toArray,.agg (Du.enc Ak).toArray].toArray w (Ret w [] fun _ v _=>v = iV r):=by
 refine Fe func9 rfl ntmps9 rfl fun a S=>?_
 unfold Im at h
 replace S:=S.k2 0 1 rfl
 refine Fr (Lw S (S.tm rfl) (cs:=(Du.enc Ah)) rfl rfl ?_);clear S;intro a w1 b1 hz1 hk1 S
 refine Lw S (S.tm rfl) (cs:=(Du.enc Ak)) rfl rfl ?_;clear S;intro a w2 b2 hz2 hk2 S
 refine Vk S rfl rfl fun a S=>Dl (Fs (Fr (Vf Vr S rfl rfl fun a S=>Vl isAgg9 1 S rfl rfl rfl rfl fun a S=>Vf Vr S rfl rfl fun a S=>Vl isAgg9 0 S rfl rfl rfl rfl fun a S=>Vb S rn_slss rfl rfl rfl ?_)));clear S;intro a S
 refine Dl (Fc h (S.tm rfl) (fun hb1 h=>?_) (fun hb1 h=>?_))
 ·refine Fr (Vk S rfl rfl fun a S=>Dl (wp_ret (Dv ?_)))
  subst h
  exact Et S results9 rfl rfl
 ·refine wp_skip (Tn (Fr (Vk S rfl rfl fun a S=>Dl (wp_ret ?_))))
  subst h
  exact Et S results9 rfl rfl
set_option maxRecDepth 20000 in
theorem Ot (w : World) (O : Value) (Af : List Du) (Bc : (LEnt.own O 40 8 Af.length (Af.flatMap Du.enc)).holds w) (Ah : Int) (Ak : Int) (r : (List Du)) (h : Hd Af Ah Ak = some r) :
    Calls prog 48 [O,iV Ah,iV Ak,.func (.func 9) #[] #[]].toArray w (Ret w (O.ownBlock.toList) fun _ v w'=>(LEnt.own O 40 8 r.length (r.flatMap Du.enc)).holds w' ∧ v = .tuple #[]):=by
 refine Lb (O.ownBlock.toList) [.own O 40 8 Af.length (Af.flatMap Du.enc)] func48 rfl ntmps48 rfl (fun e he=>by simp only [List.mem_singleton] at he;subst he;exact Bc) (Ix _) (Jw _) fun a S=>?_
 unfold Hd at h
 replace S:=(S.nl [.own O 40 8 Af.length (Af.flatMap Du.enc)] [true] rfl).k4 0 1 2 3 rfl
 refine Fr (Vm S rfl rfl fun a S=>Vq S Gc rfl rfl rfl fun a S=>Va S rfl rfl fun a S=>Dl ?_)
 replace S:=S.k5 0 1 2 3 8 rfl
 obtain ⟨j1,hj1,h⟩:=Eu h
 refine Eh (fun a w'=>∃ x1 : List Du,j1 x1 = some r ∧ Sx w (O.ownBlock.toList) nov [.own O 40 8 x1.length (x1.flatMap Du.enc)] [] 53 a w') ?_ ?_
 ·refine wp_block (Gr (fun (m1 : Nat) a w'=>∃ x1 : List Du,∃ x2 : Int,Ej Ak Ah j1 m1 x1 x2 = some r ∧ Sx w (O.ownBlock.toList) nov [.own O 40 8 x1.length (x1.flatMap Du.enc)] [(0,O),(1,iV Ah),(2,iV Ak),(3,.func (.func 9) #[] #[]),(8,iV x2)] 53 a w') id ((Ak - (W (Ah + 1))).toNat + 2) ⟨Af,W (Ah + 1),h,S.nf [true] rfl (subR rfl)⟩ ?_)
  clear S h;rintro m1 a w1 ⟨x1,x2,h,S⟩
  cases m1 with
  | zero=>rw [Ej.eq_1] at h;cases h
  | succ m1 =>
   rw [Ej.eq_2] at h
   refine Fs (Fr (Vm S rfl rfl fun a S=>Vm S rfl rfl fun a S=>Vb S Es rfl rfl rfl fun a S=>Dl (Fc h (S.tm rfl) (fun hb1 h=>?_) (fun hb1 h=>?_))))
   ·refine wp_skip (Tn (Fs (wp_block (Fr (Vm S rfl rfl fun a S=>Va S rfl rfl fun a S=>Dl ?_)))))
    replace S:=S.k6 0 1 2 3 8 9 rfl
    obtain ⟨j2,hj2,h⟩:=Eu h
    refine Eh (fun a w'=>∃ x3 : List Du,j2 x3 = some r ∧ Sx w (O.ownBlock.toList) nov [.own O 40 8 x3.length (x3.flatMap Du.enc)] [(0,O),(1,iV Ah),(2,iV Ak),(3,.func (.func 9) #[] #[]),(8,iV x2)] 53 a w') ?_ ?_
    ·refine wp_block (Gr (fun (m2 : Nat) a w'=>∃ x3 : List Du,∃ x4 : Int,Ee Ah j2 m2 x3 x4 = some r ∧ Sx w (O.ownBlock.toList) nov [.own O 40 8 x3.length (x3.flatMap Du.enc)] [(0,O),(1,iV Ah),(2,iV Ak),(3,.func (.func 9) #[] #[]),(8,iV x2),(9,iV x4)] 53 a w') id ((x2 - Ah).toNat + 2) ⟨x1,x2,h,S.nf [true] rfl (subR rfl)⟩ ?_)
     clear S h;rintro m2 a w3 ⟨x3,x4,h,S⟩
     cases m2 with
     | zero=>rw [Ee.eq_1] at h;cases h
     | succ m2 =>
      rw [Ee.eq_2] at h
      refine Fs (Fs ?_)
      obtain ⟨j3,hj3,h⟩:=Eu h
      refine Eh (fun a w'=>∃ x5 : Bool,j3 x5 = some r ∧ Sx w (O.ownBlock.toList) nov [.own O 40 8 x3.length (x3.flatMap Du.enc)] [(0,O),(1,iV Ah),(2,iV Ak),(3,.func (.func 9) #[] #[]),(8,iV x2),(9,iV x4),(34,bV x5)] 53 a w') ?_ ?_
      ·rcases Bool.eq_false_or_eq_true (decide (Ah < x4)) with hb2 | hb2
       ·replace h:=Ti h hb2
        obtain ⟨hc1,h⟩:=Ig h
        obtain ⟨hc2,h⟩:=Ig h
        refine Gt [] ([]) Tryz.mixed S rfl (by kernel_rfl) ?_;clear S;intro w7 hk2 hsel S
        refine Ea 0 S hsel rfl rfl rfl (by kernel_rfl) (by kernel_rfl) rfl (fun _ hw=>(Rm (S.tm rfl))) fun a S=>Ea 1 S hsel rfl rfl rfl (by kernel_rfl) (by kernel_rfl) rfl (fun _ hw=>(Rm (S.tm rfl))) fun a S=>Ea 2 S hsel rfl rfl rfl (by kernel_rfl) (by kernel_rfl) rfl (fun _ hw=>(Kb (S.tm rfl) (S.tm rfl))) fun a S=>Ea 3 S hsel rfl rfl rfl (by kernel_rfl) (by kernel_rfl) rfl (fun _ hw=>(Rm (S.tm rfl))) fun a S=>Ef 4 S hsel rfl rfl rfl rfl hb2 rfl rfl (by kernel_rfl) (by kernel_rfl) rfl (fun _ hw=>(Rm (S.tm rfl))) fun a S=>Ef 5 S hsel rfl rfl rfl rfl hb2 rfl rfl (by kernel_rfl) (by kernel_rfl) rfl (fun _ hw=>(Rm (S.tm rfl))) fun a S=>Ef 6 S hsel rfl rfl rfl rfl hb2 rfl rfl (by kernel_rfl) (by kernel_rfl) rfl (fun _ hw=>(Rm (S.tm rfl))) ?_;clear S;intro a S
        obtain ⟨b3,hg3,hr3⟩:=Gh (a:=a) (x:=.tmp 23) (y:=.tmp 24) (ty:=0) Sh Du.enc_ok S (i:=0) rfl (Dw hc1).1 (Dw hc1).2 (S.tm rfl) (S.tm rfl)
        refine Ef 7 S hsel rfl rfl rfl rfl hb2 rfl rfl (by kernel_rfl) (by kernel_rfl) rfl (fun _ hw=>(hr3 _)) ?_;clear S;intro a S
        clear hr3
        refine Ef 8 S hsel rfl rfl rfl rfl hb2 rfl rfl (by kernel_rfl) (by kernel_rfl) rfl (fun _ hw=>(Fb isAgg40 sizeOf40 (off:=x4.toNat * 8) (o:=0) (part:=(Du.enc (nth x3 x4))) rfl rfl (S.tm rfl) ((Mg Du.enc_ok S (i:=0) rfl hg3 (Dw hc1).1 (Hg (e':=.own O 40 8 x3.length (x3.flatMap Du.enc)))).kept hw))) fun a S=>Ef 9 S hsel rfl rfl rfl rfl hb2 rfl rfl (by kernel_rfl) (by kernel_rfl) rfl (fun _ hw=>(Rm (S.tm rfl))) fun a S=>Ef 10 S hsel rfl rfl rfl rfl hb2 rfl rfl (by kernel_rfl) (by kernel_rfl) rfl (fun _ hw=>(Rm (S.tm rfl))) fun a S=>Ef 11 S hsel rfl rfl rfl rfl hb2 rfl rfl (by kernel_rfl) (by kernel_rfl) rfl (fun _ hw=>(Iw (S.tm rfl) rfl)) ?_;clear S;intro a S
        obtain ⟨b4,hg4,hr4⟩:=Gh (a:=a) (x:=.tmp 27) (y:=.tmp 29) (ty:=0) Sh Du.enc_ok S (i:=0) rfl (Dw hc2).1 (Dw hc2).2 (S.tm rfl) (S.tm rfl)
        refine Ef 12 S hsel rfl rfl rfl rfl hb2 rfl rfl (by kernel_rfl) (by kernel_rfl) rfl (fun _ hw=>(hr4 _)) ?_;clear S;intro a S
        clear hr4
        refine Ef 13 S hsel rfl rfl rfl rfl hb2 rfl rfl (by kernel_rfl) (by kernel_rfl) rfl (fun _ hw=>(Fb isAgg40 sizeOf40 (off:=((W (x4 - 1)).toNat) * 8) (o:=0) (part:=(Du.enc (nth x3 (W (x4 - 1))))) rfl rfl (S.tm rfl) ((Mg Du.enc_ok S (i:=0) rfl hg4 (Dw hc2).1 (Hg (e':=.own O 40 8 x3.length (x3.flatMap Du.enc)))).kept hw))) fun a S=>Hb 14 (by kernel_rfl) rfl (Dy S rfl rfl rfl hb2 (Eb S (fun _=>Rf (cap:=[]) (S.tm rfl) (vs:=[.agg (Du.enc (nth x3 x4)).toArray,.agg (Du.enc (nth x3 (W (x4 - 1)))).toArray]) ⟨(S.tm rfl),(S.tm rfl),trivial⟩ call9) (Wq _ (nth x3 x4) (nth x3 (W (x4 - 1))) _ rfl) rfl ?_));clear S;intro v2 a w8 hv2 hk3 hn2 S
        subst hv2
        refine Ld (Hy hk3 (Li [15,16] hsel (by kernel_rfl) rfl ?_))
        clear hsel
        refine Fj S rfl rfl rfl rfl hb2 (Ha S (Es (S.tm rfl) rfl) rfl fun a S=>Gp S rfl (Pq hb2 (S.tm rfl) (S.tm rfl)) rfl fun a S=>Ij ?_)
        replace S:=S.nk [.own O 40 8 x3.length (x3.flatMap Du.enc)] [(0,O),(1,iV Ah),(2,iV Ak),(3,.func (.func 9) #[] #[]),(8,iV x2),(9,iV x4),(22,.func (.func 9) #[] #[]),(23,O),(24,iV x4),(25,.pointer (some ⟨b3,x4.toNat * 8,none⟩)),(26,.agg (Du.enc (nth x3 x4)).toArray),(27,O),(28,iV x4),(29,iV (W (x4 - 1))),(30,.pointer (some ⟨b4,((W (x4 - 1)).toNat) * 8,none⟩)),(31,.agg (Du.enc (nth x3 (W (x4 - 1)))).toArray),(32,iV (Im (nth x3 x4) (nth x3 (W (x4 - 1))))),(33,bV (decide ((Im (nth x3 x4) (nth x3 (W (x4 - 1)))) < 0))),(34,bV (decide ((Im (nth x3 x4) (nth x3 (W (x4 - 1)))) < 0)))] [true] rfl (subR rfl)
        exact Tn (⟨decide ((Im (nth x3 x4) (nth x3 (W (x4 - 1)))) < 0),h,S.nf [true] rfl (subR rfl)⟩)
       ·replace h:=Tj h hb2
        refine Gt [] ([]) Tryz.mixed S rfl (by kernel_rfl) ?_;clear S;intro w9 hk4 hsel S
        refine Li [0,1,2,3,4,5,6,7,8,9,10,11,12,13,14,15,16] hsel (by kernel_rfl) rfl ?_
        clear hsel
        refine Gp S rfl (Rm (S.tm rfl)) rfl fun a S=>Gp S rfl (Rm (S.tm rfl)) rfl fun a S=>Gp S rfl (Kb (S.tm rfl) (S.tm rfl)) rfl fun a S=>Gp S rfl (Rm (S.tm rfl)) rfl ?_;clear S;intro a S
        iterate 12 (refine Pn S rfl rfl rfl rfl (Kp hb2) rfl ?_ rfl;clear S;intro a S)
        refine Gp S rfl (Ps hb2 (S.tm rfl) rfl) rfl fun a S=>Ij ?_
        replace S:=S.k7 0 1 2 3 8 9 34 rfl
        exact Tn (⟨false,h,S.nf [true] rfl (subR rfl)⟩)
      clear S h;rintro a w5 ⟨x5,h,S⟩;rw [hj3] at h;clear hj3 j3
      refine Tn (Fc h (S.tm rfl) (fun hb3 h=>?_) (fun hb3 h=>?_))
      ·refine wp_skip (Tn (Fs (wp_block ?_)))
       obtain ⟨hc3,h⟩:=Ig h
       obtain ⟨hc4,h⟩:=Ig h
       obtain ⟨hc5,h⟩:=Ig h
       obtain ⟨hc6,h⟩:=Ig h
       refine Gt [15,17] ([]) Tryz.mixed S rfl (by kernel_rfl) ?_;clear S;intro w14 hk9 hsel S
       refine Ew 0 S hsel rfl rfl (by kernel_rfl) (by kernel_rfl) rfl (fun _=>(Rm (S.tm rfl))) fun a S=>Ew 1 S hsel rfl rfl (by kernel_rfl) (by kernel_rfl) rfl (fun _=>(Rm (S.tm rfl))) fun a S=>Ew 2 S hsel rfl rfl (by kernel_rfl) (by kernel_rfl) rfl (fun _=>(Rm (S.tm rfl))) fun a S=>Ew 3 S hsel rfl rfl (by kernel_rfl) (by kernel_rfl) rfl (fun _=>(Rm (S.tm rfl))) fun a S=>Ew 4 S hsel rfl rfl (by kernel_rfl) (by kernel_rfl) rfl (fun _=>(Iw (S.tm rfl) rfl)) fun a S=>Ew 5 S hsel rfl rfl (by kernel_rfl) (by kernel_rfl) rfl (fun _=>(Rm (S.tm rfl))) fun a S=>Ew 6 S hsel rfl rfl (by kernel_rfl) (by kernel_rfl) rfl (fun _=>(Rm (S.tm rfl))) fun a S=>Ew 7 S hsel rfl rfl (by kernel_rfl) (by kernel_rfl) rfl (fun _=>(Iw (S.tm rfl) rfl)) ?_;clear S;intro a S
       obtain ⟨b9,hg9,hr9⟩:=Gh (a:=a) (x:=.tmp 42) (y:=.tmp 44) (ty:=0) Sh Du.enc_ok S (i:=0) rfl (Dw hc3).1 (Dw hc3).2 (S.tm rfl) (S.tm rfl)
       refine Ew 8 S hsel rfl rfl (by kernel_rfl) (by kernel_rfl) rfl (fun _=>(hr9 _)) ?_;clear S;intro a S
       clear hr9
       refine Ea 9 S hsel rfl (by kernel_rfl) (by kernel_rfl) (by kernel_rfl) (by kernel_rfl) rfl (fun _ hw=>(Fb isAgg40 sizeOf40 (off:=((W (x4 - 1)).toNat) * 8) (o:=0) (part:=(Du.enc (nth x3 (W (x4 - 1))))) rfl rfl (S.tm rfl) ((Mg Du.enc_ok S (i:=0) rfl hg9 (Dw hc3).1 (Hg (e':=.own O 40 8 x3.length (x3.flatMap Du.enc)))).kept hw))) fun a S=>Ew 10 S hsel rfl rfl (by kernel_rfl) (by kernel_rfl) rfl (fun _=>(Rm (S.tm rfl))) fun a S=>Ew 11 S hsel rfl rfl (by kernel_rfl) (by kernel_rfl) rfl (fun _=>(Rm (S.tm rfl))) ?_;clear S;intro a S
       obtain ⟨b10,hg10,hr10⟩:=Gh (a:=a) (x:=.tmp 47) (y:=.tmp 48) (ty:=0) Sh Du.enc_ok S (i:=0) rfl (Dw hc4).1 (Dw hc4).2 (S.tm rfl) (S.tm rfl)
       refine Ew 12 S hsel rfl rfl (by kernel_rfl) (by kernel_rfl) rfl (fun _=>(hr10 _)) ?_;clear S;intro a S
       clear hr10
       refine Ea 13 S hsel rfl (by kernel_rfl) (by kernel_rfl) (by kernel_rfl) (by kernel_rfl) rfl (fun _ hw=>(Fb isAgg40 sizeOf40 (off:=x4.toNat * 8) (o:=0) (part:=(Du.enc (nth x3 x4))) rfl rfl (S.tm rfl) ((Mg Du.enc_ok S (i:=0) rfl hg10 (Dw hc4).1 (Hg (e':=.own O 40 8 x3.length (x3.flatMap Du.enc)))).kept hw))) ?_;clear S;intro a S
       obtain ⟨b11,hg11,hr11⟩:=Gh (a:=a) (x:=.tmp 37) (y:=.tmp 38) (ty:=0) Sh Du.enc_ok S (i:=0) rfl (Dw hc5).1 (Dw hc5).2 (S.tm rfl) (S.tm rfl)
       refine Ew 14 S hsel rfl rfl (by kernel_rfl) (by kernel_rfl) rfl (fun _=>(hr11 _)) ?_;clear S;intro a S
       clear hr11
       refine Vg 15 (O.ownBlock.toList) rfl (by kernel_rfl) rfl (Ob (c:=0) (j:=x4.toNat) (nth x3 (W (x4 - 1))) Du.enc_ok S (S.tm rfl) (S.tm rfl) (i:=0) rfl hg11 (Dw hc5).1 sizeOf40 (vs:=[sV ((nth x3 (W (x4 - 1))).Key),iV ((nth x3 (W (x4 - 1))).Metres),iV ((nth x3 (W (x4 - 1))).Stroke),iV ((nth x3 (W (x4 - 1))).Course),iV ((nth x3 (W (x4 - 1))).Legs),iV ((nth x3 (W (x4 - 1))).Sex),iV ((nth x3 (W (x4 - 1))).Young),iV ((nth x3 (W (x4 - 1))).Old)]) rfl rfl rfl rfl rfl ?_);clear S;intro w16 hk11 S
       refine Ld (Vh ?_)
       obtain ⟨b12,hg12,hr12⟩:=Gh (a:=a) (x:=.tmp 39) (y:=.tmp 41) (ty:=0) Sh Du.enc_ok S (i:=0) rfl (Dw hc6).1 (Dw hc6).2 (S.tm rfl) (S.tm rfl)
       refine Ea 16 S hsel rfl rfl rfl (by kernel_rfl) (by kernel_rfl) rfl (fun _ hw=>(hr12 _)) ?_;clear S;intro a S
       clear hr12
       refine Hb 17 (by kernel_rfl) rfl (Ob (c:=0) (j:=(W (x4 - 1)).toNat) (nth x3 x4) Du.enc_ok S (S.tm rfl) (S.tm rfl) (i:=0) rfl hg12 (Dw hc6).1 sizeOf40 (vs:=[sV ((nth x3 x4).Key),iV ((nth x3 x4).Metres),iV ((nth x3 x4).Stroke),iV ((nth x3 x4).Course),iV ((nth x3 x4).Legs),iV ((nth x3 x4).Sex),iV ((nth x3 x4).Young),iV ((nth x3 x4).Old)]) rfl rfl rfl rfl rfl ?_);clear S;intro w18 hk13 S
       refine Ld (Hy hk13 (Vt (by kernel_rfl) ?_))
       clear hsel
       replace S:=(S.nl [.own O 40 8 ((x3.set x4.toNat (nth x3 (W (x4 - 1)))).set ((W (x4 - 1)).toNat) (nth x3 x4)).length (((x3.set x4.toNat (nth x3 (W (x4 - 1)))).set ((W (x4 - 1)).toNat) (nth x3 x4)).flatMap Du.enc)] [true] rfl).k6 0 1 2 3 8 9 rfl
       exact Hp (Tn (Fg (Vm S rfl rfl fun a S=>Vq S Iw rfl rfl rfl fun a S=>Va S rfl rfl fun a S=>Dl (⟨m2,⟨((x3.set x4.toNat (nth x3 (W (x4 - 1)))).set ((W (x4 - 1)).toNat) (nth x3 x4)),W (x4 - 1),h,S.nf [true] rfl ⟨rfl,rfl,rfl,rfl,rfl,rfl,trivial⟩⟩,Nat.lt_succ_self _⟩))))
      ·exact wp_exit (Ed (Ed (Gn (Tn (⟨x3,h,S.nf [true] rfl (subR rfl)⟩)))))
    clear S h;rintro a w4 ⟨x3,h,S⟩;rw [hj2] at h;clear hj2 j2
    exact Hp (Tn (Fg (Vm S rfl rfl fun a S=>Vq S Gc rfl rfl rfl fun a S=>Va S rfl rfl fun a S=>Dl (⟨m1,⟨x3,W (x2 + 1),h,S.nf [true] rfl ⟨rfl,rfl,rfl,rfl,rfl,trivial⟩⟩,Nat.lt_succ_self _⟩))))
   ·exact wp_exit (Ed (Ed (Gn (Tn (⟨x1,h,S.nf [true] rfl trivial⟩)))))
 clear S h;rintro a w2 ⟨x1,h,S⟩;rw [hj1] at h;clear hj1 j1
 obtain rfl:=Option.some.inj h
 exact Rp S results48 ⟨(S.holds _ (List.mem_of_getElem? (i:=0) rfl)),rfl⟩
theorem Po (w : World) (O : Value) (Af : List Du) (Bc : (LEnt.own O 40 8 Af.length (Af.flatMap Du.enc)).holds w) (Ah : Int) (Ak : Int) (Bu : Int) (r : (List Du)) (h : It Af Ah Ak Bu = some r) :
    Calls prog 24 [O,iV Ah,iV Ak,iV Bu,.func (.func 9) #[] #[]].toArray w (Ret w (O.ownBlock.toList) fun _ v w'=>(LEnt.own O 40 8 r.length (r.flatMap Du.enc)).holds w' ∧ v = .tuple #[]):=by
 refine Lb (O.ownBlock.toList) [.own O 40 8 Af.length (Af.flatMap Du.enc)] func24 rfl ntmps24 rfl (fun e he=>by simp only [List.mem_singleton] at he;subst he;exact Bc) (Ix _) (Jw _) fun a S=>?_
 unfold It at h
 replace S:=(S.nl [.own O 40 8 Af.length (Af.flatMap Du.enc)] [true] rfl).k5 0 1 2 3 4 rfl
 refine Fr (Vk S rfl rfl fun a S=>Dz (Vk S rfl rfl fun a S=>Dl ?_))
 replace S:=S.k6 0 1 2 3 4 10 rfl
 refine Eh (fun a w'=>False) ?_ ?_
 ·refine wp_block (Gr (fun (m1 : Nat) a w'=>∃ x1 : Int,∃ x2 : Int,∃ x3 : Int,∃ x4 : Bool,Fd Af m1 x1 x2 x3 x4 = some r ∧ Sx w (O.ownBlock.toList) nov [.own O 40 8 Af.length (Af.flatMap Du.enc)] [(0,O),(1,iV x1),(2,iV x2),(3,iV x3),(4,.func (.func 9) #[] #[]),(10,bV x4)] 148 a w') id 4611686018427387904 ⟨Ah,Ak,Bu,true,h,S.nf [true] rfl (subR rfl)⟩ ?_)
  clear S h;rintro m1 a w1 ⟨x1,x2,x3,x4,h,S⟩
  cases m1 with
  | zero=>rw [Fd.eq_1] at h;cases h
  | succ m1 =>
   rw [Fd.eq_2] at h
   refine wp_block (Fr (Vm S rfl rfl fun a S=>Vm S rfl rfl fun a S=>Vb S Iw rfl rfl rfl fun a S=>Va S rfl rfl fun a S=>Dl (Fs (Fs ?_))))
   refine Fg (Vm S rfl rfl fun a S=>Vq S Uj rfl rfl rfl fun a S=>Dl (Fc h (S.tm rfl) (fun hb1 h=>?_) (fun hb1 h=>?_)))
   ·refine Fs (Fg ?_)
    iterate 4 (refine Vm S rfl rfl ?_;clear S;intro a S)
    obtain ⟨r1,hr1,h⟩:=Fa h
    refine Mj 0 S rfl (fun _=>.own O 40 8 r1.length (r1.flatMap Du.enc)) (fun _=>Dq (vs:=[O,iV x1,iV x2,.func (.func 9) #[] #[]]) ⟨(S.tm rfl),(S.tm rfl),(S.tm rfl),(S.tm rfl),trivial⟩ call48) (Ot _ O Af (S.holds _ (List.mem_of_getElem? (i:=0) rfl)) x1 x2 _ hr1) rfl (fun _ _ _ h=>⟨h.1,fun _ hc=>hc⟩) ?_;clear S;intro v1 a w3 hv1 hk1 hn1 S
    replace hv1:=hv1.2
    subst hv1
    refine Ld ?_
    replace S:=(S.nl [.own O 40 8 r1.length (r1.flatMap Du.enc)] [true] rfl).k0
    refine Tn (wp_ret (Dv (Gq (Dv (Gq (Dv ?_))))))
    obtain rfl:=Option.some.inj h
    exact Rp S results24 ⟨(S.holds _ (List.mem_of_getElem? (i:=0) rfl)),rfl⟩
   ·refine wp_skip (Tn (Fs (Fr (Vm S rfl rfl fun a S=>Vq S Jk rfl rfl rfl fun a S=>Dl (Fc h (S.tm rfl) (fun hb2 h=>?_) (fun hb2 h=>?_))))))
    ·refine Fs ?_
     cases h
    ·refine wp_skip (Tn (Fs (Fr (Vm S rfl rfl fun a S=>Vu S Ih rfl rfl fun a S=>Ld ?_))))
     replace S:=S.k1 39 rfl
     refine Tn (Fc h (S.tm rfl) (fun hb3 h=>?_) (fun hb3 h=>?_))
     ·refine Fs ?_
      cases h
     ·refine wp_skip (Tn (Fs ?_))
      cases h
 exact fun _ _ h=>h.elim
theorem Qs (w : World) (Ay : Value) (Ab : List Du) (Ce : (LEnt.own Ay 40 8 Ab.length (Ab.flatMap Du.enc)).holds w) (r : (List Du)) (h : Ie Ab = some r) :
    Calls prog 8 [Ay,.func (.func 9) #[] #[]].toArray w (Ret w (Ay.ownBlock.toList) fun _ v w'=>(LEnt.own Ay 40 8 r.length (r.flatMap Du.enc)).holds w' ∧ v = .tuple #[]):=by
 refine Lb (Ay.ownBlock.toList) [.own Ay 40 8 Ab.length (Ab.flatMap Du.enc)] func8 rfl ntmps8 rfl (fun e he=>by simp only [List.mem_singleton] at he;subst he;exact Ce) (Ix _) (Jw _) fun a S=>?_
 unfold Ie at h
 replace S:=(S.nl [.own Ay 40 8 Ab.length (Ab.flatMap Du.enc)] [true] rfl).k2 0 1 rfl
 refine Fr (Vm S rfl rfl fun a S=>lv S (Gi Sh (S.tm rfl) (Pb (S.own_at (i:=0) rfl))) rfl fun a S=>Va S rfl rfl fun a S=>Dl (Fg ?_))
 iterate 3 (refine Vm S rfl rfl ?_;clear S;intro a S)
 refine Vu S (Ve underlying3 underlying71) rfl rfl ?_;clear S;intro a S
 obtain ⟨r1,hr1,h⟩:=Fa h
 refine Eb S (fun _=>Dq (vs:=[.int .u64 (IntKind.wrap .u64 (Ab.length : Int))]) ⟨(S.tm rfl),trivial⟩ call25) (AE _ (IntKind.wrap .u64 (Ab.length : Int)) _ hr1) rfl ?_;clear S;intro v1 a w1 hv1 hk1 hn1 S
 subst hv1
 refine Vm S rfl rfl ?_;clear S;intro a S
 obtain ⟨r2,hr2,h⟩:=Fa h
 refine Mj 0 S rfl (fun _=>.own Ay 40 8 r2.length (r2.flatMap Du.enc)) (fun _=>Dq (vs:=[Ay,iV 0,iV (Ab.length : Int),iV r1,.func (.func 9) #[] #[]]) ⟨(S.tm rfl),rfl,(S.tm rfl),(S.tm rfl),(S.tm rfl),trivial⟩ call24) (Po _ Ay Ab (S.holds _ (List.mem_of_getElem? (i:=0) rfl)) 0 (Ab.length : Int) r1 _ hr2) rfl (fun _ _ _ h=>⟨h.1,fun _ hc=>hc⟩) ?_;clear S;intro v2 a w2 hv2 hk2 hn2 S
 replace hv2:=hv2.2
 subst hv2
 refine Ld ?_
 obtain rfl:=Option.some.inj h
 exact Rp S results8 ⟨(S.holds _ (List.mem_of_getElem? (i:=0) rfl)),rfl⟩
theorem IL (w : World) (s c : ByteArray) (r : ByteArray) (h : Wy s c = some r) : Calls prog 136 [.string s,.string c].toArray w (Ret w [] fun _ v _=>v = .string r):=by
  unfold Wy at h
  obtain ⟨h1,h⟩:=Ig h
  obtain ⟨h2,h⟩:=Ig h
  obtain ⟨h3,h⟩:=Ig h
  obtain rfl:=Option.some.inj h
  exact NG (Any.strings_Trim_laid Tryz.lays160 (by kernel_rfl) s c w (by simpa using h1) (by simpa using h2) (fun j b hb=>by simpa using List.all_eq_true.1 h3 b (List.mem_of_getElem? hb)))
theorem Mf (w : World) (Ba : ByteArray) (r : Bool) (h : Hk Ba = some r) :
    Calls prog 106 [sV Ba].toArray w (Ret w [] fun _ v _=>v = bV r):=by
 refine Fe func106 rfl ntmps106 rfl fun a S=>?_
 unfold Hk at h
 replace S:=S.k1 0 rfl
 refine Fr (Vk S rfl rfl fun a S=>Dz (Vm S rfl rfl fun a S=>Vu S (BJ underlying9) rfl rfl fun a S=>Vq S Rl rfl rfl rfl fun a S=>Vm S rfl rfl ?_));clear S;intro a S
 refine Iy 4 (fun a w'=>Keep [] w w' ∧ Sx w [] nov [] [(0,sV Ba),(10,bV ((decide (1 ≤ (Ba.size : Int))) && (decide ((Ba.size : Int) ≤ 40))))] 26 a w') ?_ ?_
 ·rcases Bool.eq_false_or_eq_true (decide (1 ≤ (Ba.size : Int))) with hb1 | hb1
  ·exact Dy S rfl rfl rfl hb1 (Vm S rfl rfl fun a S=>Dy S rfl rfl rfl hb1 (Vu S (BJ underlying9) rfl rfl fun a S=>Dy S rfl rfl rfl hb1 (Vq S Uj rfl rfl rfl fun a S=>lv S (Io hb1 (S.tm rfl) (S.tm rfl)) rfl fun a S=>Dl (⟨Keep.refl _ _,S.nf [] rfl (subR rfl)⟩))))
  ·iterate 3 (refine Ht S rfl rfl rfl (Kp hb1) rfl ?_ rfl;clear S;intro a S)
   exact lv S (Ip (decide ((Ba.size : Int) ≤ 40)) hb1 (S.tm rfl) rfl) rfl fun a S=>Dl (⟨Keep.refl _ _,S.nf [] rfl (subR rfl)⟩)
 clear S;rintro a w1 ⟨hk1,S⟩
 refine Vm S rfl rfl ?_;clear S;intro a S
 obtain ⟨j1,hj1,h⟩:=Eu h
 refine Iy 4 (fun a w'=>∃ c1,j1 c1 = some r ∧ Keep [] w1 w' ∧ Sx w [] nov [] [(0,sV Ba),(15,bV c1)] 26 a w') ?_ ?_
 ·rcases Bool.eq_false_or_eq_true ((decide (1 ≤ (Ba.size : Int))) && (decide ((Ba.size : Int) ≤ 40))) with hb2 | hb2
  ·replace h:=Ti h hb2
   refine Dy S rfl rfl rfl hb2 (Vm S rfl rfl fun a S=>Dy S rfl rfl rfl hb2 ?_)
   obtain ⟨hc1,h⟩:=Ig h
   exact lv S (Zd underlying9 (S.tm rfl) rfl hc1) rfl fun a S=>Dy S rfl rfl rfl hb2 (Vq S Rl rfl rfl rfl fun a S=>lv S (Io hb2 (S.tm rfl) (S.tm rfl)) rfl fun a S=>Dl (⟨_,h,Keep.refl _ _,S.nf [] rfl (subR rfl)⟩))
  ·replace h:=Tj h hb2
   iterate 3 (refine Ht S rfl rfl rfl (Kp hb2) rfl ?_ rfl;clear S;intro a S)
   exact Vq S (Ip true hb2) rfl rfl rfl fun a S=>Dl (⟨_,h,Keep.refl _ _,S.nf [] rfl (subR rfl)⟩)
 clear S h;rintro a w2 ⟨c1,h,hk2,S⟩;rw [hj1] at h;clear hj1 j1
 refine Vm S rfl rfl ?_;clear S;intro a S
 obtain ⟨j2,hj2,h⟩:=Eu h
 refine Iy 4 (fun a w'=>∃ c2,j2 c2 = some r ∧ Keep [] w2 w' ∧ Sx w [] nov [] [(0,sV Ba),(20,bV c2)] 26 a w') ?_ ?_
 ·rcases Bool.eq_false_or_eq_true c1 with hb3 | hb3
  ·replace h:=Ti h hb3
   refine Dy S rfl rfl rfl hb3 (Vm S rfl rfl fun a S=>Dy S rfl rfl rfl hb3 ?_)
   obtain ⟨hc2,h⟩:=Ig h
   exact lv S (Zd underlying9 (S.tm rfl) rfl hc2) rfl fun a S=>Dy S rfl rfl rfl hb3 (Vq S Uj rfl rfl rfl fun a S=>lv S (Io hb3 (S.tm rfl) (S.tm rfl)) rfl fun a S=>Dl (⟨_,h,Keep.refl _ _,S.nf [] rfl (subR rfl)⟩))
  ·replace h:=Tj h hb3
   iterate 3 (refine Ht S rfl rfl rfl (Kp hb3) rfl ?_ rfl;clear S;intro a S)
   exact Vq S (Ip true hb3) rfl rfl rfl fun a S=>Dl (⟨_,h,Keep.refl _ _,S.nf [] rfl (subR rfl)⟩)
 clear S h;rintro a w3 ⟨c2,h,hk3,S⟩;rw [hj2] at h;clear hj2 j2
 refine Vm S rfl rfl ?_;clear S;intro a S
 obtain ⟨j3,hj3,h⟩:=Eu h
 refine Iy 4 (fun a w'=>∃ c3,j3 c3 = some r ∧ Keep [] w3 w' ∧ Sx w [] nov [] [(25,bV c3)] 26 a w') ?_ ?_
 ·rcases Bool.eq_false_or_eq_true c2 with hb4 | hb4
  ·replace h:=Ti h hb4
   refine Dy S rfl rfl rfl hb4 (Vm S rfl rfl fun a S=>Dy S rfl rfl rfl hb4 ?_)
   obtain ⟨r1,hr1,h⟩:=Fa h
   refine Eb S (fun _=>Dq (vs:=[sV Ba,sV Ik]) ⟨(S.tm rfl),rfl,trivial⟩ call136) (IL _ Ba Ik _ hr1) rfl ?_;clear S;intro v1 a w5 hv1 hk4 hn1 S
   subst hv1
   exact Dy S rfl rfl rfl hb4 (Vq S Xy rfl rfl rfl fun a S=>lv S (Io hb4 (S.tm rfl) (S.tm rfl)) rfl fun a S=>Dl (⟨_,h,hk4,S.nf [] rfl ⟨rfl,trivial⟩⟩))
  ·replace h:=Tj h hb4
   iterate 3 (refine Ht S rfl rfl rfl (Kp hb4) rfl ?_ rfl;clear S;intro a S)
   exact Vq S (Ip true hb4) rfl rfl rfl fun a S=>Dl (⟨_,h,Keep.refl _ _,S.nf [] rfl ⟨rfl,trivial⟩⟩)
 clear S h;rintro a w4 ⟨c3,h,hk5,S⟩;rw [hj3] at h;clear hj3 j3
 refine Va S rfl rfl fun a S=>Dl (wp_ret ?_)
 obtain rfl:=Option.some.inj h
 exact Et S results106 rfl rfl
theorem Gj (w : World) (Bb : Int) (Bp : Int) (Bi : Int) (r : Bool) (h : Dt Bb Bp Bi = r) :
    Calls prog 79 [iV Bb,iV Bp,iV Bi].toArray w (Ret w [] fun _ v _=>v = bV r):=by
 refine Fe func79 rfl ntmps79 rfl fun a S=>?_
 unfold Dt at h
 replace S:=S.k3 0 1 2 rfl
 refine Fr (Vk S rfl rfl fun a S=>Dz (Vm S rfl rfl fun a S=>Vm S rfl rfl fun a S=>Vb S Rl rfl rfl rfl fun a S=>Vm S rfl rfl ?_));clear S;intro a S
 refine Iy 4 (fun a w'=>Keep [] w w' ∧ Sx w [] nov [] [(14,bV ((decide (Bp ≤ Bb)) && (decide (Bb ≤ Bi))))] 15 a w') ?_ ?_
 ·rcases Bool.eq_false_or_eq_true (decide (Bp ≤ Bb)) with hb1 | hb1
  ·exact Dy S rfl rfl rfl hb1 (Vm S rfl rfl fun a S=>Dy S rfl rfl rfl hb1 (Vm S rfl rfl fun a S=>Dy S rfl rfl rfl hb1 (Vb S Uj rfl rfl rfl fun a S=>lv S (Io hb1 (S.tm rfl) (S.tm rfl)) rfl fun a S=>Dl (⟨Keep.refl _ _,S.nf [] rfl ⟨rfl,trivial⟩⟩))))
  ·iterate 3 (refine Ht S rfl rfl rfl (Kp hb1) rfl ?_ rfl;clear S;intro a S)
   exact lv S (Ip (decide (Bb ≤ Bi)) hb1 (S.tm rfl) rfl) rfl fun a S=>Dl (⟨Keep.refl _ _,S.nf [] rfl ⟨rfl,trivial⟩⟩)
 clear S;rintro a w1 ⟨hk1,S⟩
 refine Va S rfl rfl fun a S=>Dl (wp_ret ?_)
 subst h
 exact Et S results79 rfl rfl
theorem EJ (w : World) (Au : Du) (r : Int) (h : Ov Au = some r) :
    Calls prog 113 [.agg (Du.enc Au).toArray].toArray w (Ret w [] fun _ v _=>v = iV r):=by
 refine Fe func113 rfl ntmps113 rfl fun a S=>?_
 unfold Ov at h
 replace S:=S.k1 0 rfl
 refine Fr (Lw S (S.tm rfl) (cs:=(Du.enc Au)) rfl rfl ?_);clear S;intro a w1 b1 hz1 hk1 S
 refine Vk S rfl rfl fun a S=>Dl (Fs (wp_block (Fr (Vf Vr S rfl rfl fun a S=>Vl isAgg9 0 S rfl rfl rfl rfl ?_))));clear S;intro a S
 obtain ⟨r1,hr1,h⟩:=Fa h
 refine Eb S (fun _=>Dq (vs:=[sV Au.Key]) ⟨(S.tm rfl),trivial⟩ call106) (Mf _ Au.Key _ hr1) rfl ?_;clear S;intro v1 a w2 hv1 hk2 hn1 S
 subst hv1
 refine Vu S Ih rfl rfl fun a S=>Va S rfl rfl fun a S=>Dl (Fc h (S.tm rfl) (fun hb1 h=>?_) (fun hb1 h=>?_))
 ·refine Fr (Vk S rfl rfl fun a S=>Dl (wp_ret (Gq (Dv ?_))))
  obtain rfl:=Option.some.inj h
  exact Et S results113 rfl rfl
 ·refine Fr (Vf NQ S rfl rfl fun a S=>Vl isAgg3 0 S rfl rfl rfl rfl fun a S=>Eb S (fun _=>Dq (vs:=[iV Au.Stroke,iV 1,iV 5]) ⟨(S.tm rfl),rfl,rfl,trivial⟩ call79) (Gj _ Au.Stroke 1 5 _ rfl) rfl ?_);clear S;intro v2 a w3 hv2 hk3 hn2 S
  subst hv2
  refine Vu S Ih rfl rfl fun a S=>Vm S rfl rfl fun a S=>Iy 5 (fun a w'=>Keep [] w3 w' ∧ Sx w [] nov [.blk b1 (Du.enc Au) 40] [(1,.pointer (some ⟨b1,0,none⟩)),(18,bV ((!(Dt Au.Stroke 1 5)) || (!(Dt Au.Sex 0 2))))] 95 a w') ?_ ?_
  ·rcases Bool.eq_false_or_eq_true (!(Dt Au.Stroke 1 5)) with hb2 | hb2
   ·iterate 4 (refine Ht S rfl rfl rfl (Oa hb2) rfl ?_ rfl;clear S;intro a S)
    exact lv S (Mo (!(Dt Au.Sex 0 2)) hb2 (S.tm rfl) rfl) rfl fun a S=>Dl (⟨Keep.refl _ _,S.nf [true] rfl (subR rfl)⟩)
   ·refine Dy S rfl rfl rfl hb2 (Vf fa_40_5 S rfl rfl fun a S=>Dy S rfl rfl rfl hb2 (Vl isAgg3 0 S rfl rfl rfl rfl fun a S=>Dy S rfl rfl rfl hb2 (Eb S (fun _=>Dq (vs:=[iV Au.Sex,iV 0,iV 2]) ⟨(S.tm rfl),rfl,rfl,trivial⟩ call79) (Gj _ Au.Sex 0 2 _ rfl) rfl ?_)));clear S;intro v3 a w5 hv3 hk4 hn3 S
    subst hv3
    exact Dy S rfl rfl rfl hb2 (Vu S Ih rfl rfl fun a S=>lv S (Mp hb2 (S.tm rfl) (S.tm rfl)) rfl fun a S=>Dl (⟨hk4,S.nf [true] rfl (subR rfl)⟩))
  clear S;rintro a w4 ⟨hk5,S⟩
  refine Va S rfl rfl fun a S=>Dl (Fc h (S.tm rfl) (fun hb3 h=>?_) (fun hb3 h=>?_))
  ·refine Fr (Vk S rfl rfl fun a S=>Dl (wp_ret (Gq (Dv ?_))))
   obtain rfl:=Option.some.inj h
   exact Et S results113 rfl rfl
  ·refine Fr (Vf JC S rfl rfl fun a S=>Vl isAgg3 0 S rfl rfl rfl rfl fun a S=>Vq S Mn rfl rfl rfl fun a S=>Vm S rfl rfl fun a S=>Iy 4 (fun a w'=>Keep [] w4 w' ∧ Sx w [] nov [.blk b1 (Du.enc Au) 40] [(1,.pointer (some ⟨b1,0,none⟩)),(27,bV ((!decide (Au.Course = 25)) && (!decide (Au.Course = 50))))] 95 a w') ?_ ?_)
   ·rcases Bool.eq_false_or_eq_true (!decide (Au.Course = 25)) with hb4 | hb4
    ·exact Dy S rfl rfl rfl hb4 (Vf JC S rfl rfl fun a S=>Dy S rfl rfl rfl hb4 (Vl isAgg3 0 S rfl rfl rfl rfl fun a S=>Dy S rfl rfl rfl hb4 (Vq S Mn rfl rfl rfl fun a S=>lv S (Io hb4 (S.tm rfl) (S.tm rfl)) rfl fun a S=>Dl (⟨Keep.refl _ _,S.nf [true] rfl (subR rfl)⟩))))
    ·iterate 3 (refine Ht S rfl rfl rfl (Kp hb4) rfl ?_ rfl;clear S;intro a S)
     exact lv S (Ip (!decide (Au.Course = 50)) hb4 (S.tm rfl) rfl) rfl fun a S=>Dl (⟨Keep.refl _ _,S.nf [true] rfl (subR rfl)⟩)
   clear S;rintro a w6 ⟨hk6,S⟩
   refine Vm S rfl rfl fun a S=>Iy 5 (fun a w'=>Keep [] w6 w' ∧ Sx w [] nov [.blk b1 (Du.enc Au) 40] [(1,.pointer (some ⟨b1,0,none⟩)),(33,bV (((!decide (Au.Course = 25)) && (!decide (Au.Course = 50))) || (!(Dt Au.Legs 1 4))))] 95 a w') ?_ ?_
   ·rcases Bool.eq_false_or_eq_true ((!decide (Au.Course = 25)) && (!decide (Au.Course = 50))) with hb5 | hb5
    ·iterate 4 (refine Ht S rfl rfl rfl (Oa hb5) rfl ?_ rfl;clear S;intro a S)
     exact lv S (Mo (!(Dt Au.Legs 1 4)) hb5 (S.tm rfl) rfl) rfl fun a S=>Dl (⟨Keep.refl _ _,S.nf [true] rfl (subR rfl)⟩)
    ·refine Dy S rfl rfl rfl hb5 (Vf EA S rfl rfl fun a S=>Dy S rfl rfl rfl hb5 (Vl isAgg3 0 S rfl rfl rfl rfl fun a S=>Dy S rfl rfl rfl hb5 (Eb S (fun _=>Dq (vs:=[iV Au.Legs,iV 1,iV 4]) ⟨(S.tm rfl),rfl,rfl,trivial⟩ call79) (Gj _ Au.Legs 1 4 _ rfl) rfl ?_)));clear S;intro v4 a w8 hv4 hk7 hn4 S
     subst hv4
     exact Dy S rfl rfl rfl hb5 (Vu S Ih rfl rfl fun a S=>lv S (Mp hb5 (S.tm rfl) (S.tm rfl)) rfl fun a S=>Dl (⟨hk7,S.nf [true] rfl (subR rfl)⟩))
   clear S;rintro a w7 ⟨hk8,S⟩
   refine Vm S rfl rfl fun a S=>Iy 5 (fun a w'=>Keep [] w7 w' ∧ Sx w [] nov [.blk b1 (Du.enc Au) 40] [(1,.pointer (some ⟨b1,0,none⟩)),(39,bV ((((!decide (Au.Course = 25)) && (!decide (Au.Course = 50))) || (!(Dt Au.Legs 1 4))) || (!(Dt Au.Metres 25 1500))))] 95 a w') ?_ ?_
   ·rcases Bool.eq_false_or_eq_true (((!decide (Au.Course = 25)) && (!decide (Au.Course = 50))) || (!(Dt Au.Legs 1 4))) with hb6 | hb6
    ·iterate 4 (refine Ht S rfl rfl rfl (Oa hb6) rfl ?_ rfl;clear S;intro a S)
     exact lv S (Mo (!(Dt Au.Metres 25 1500)) hb6 (S.tm rfl) rfl) rfl fun a S=>Dl (⟨Keep.refl _ _,S.nf [true] rfl (subR rfl)⟩)
    ·refine Dy S rfl rfl rfl hb6 (Vf NP S rfl rfl fun a S=>Dy S rfl rfl rfl hb6 (Vl isAgg3 0 S rfl rfl rfl rfl fun a S=>Dy S rfl rfl rfl hb6 (Eb S (fun _=>Dq (vs:=[iV Au.Metres,iV 25,iV 1500]) ⟨(S.tm rfl),rfl,rfl,trivial⟩ call79) (Gj _ Au.Metres 25 1500 _ rfl) rfl ?_)));clear S;intro v5 a w10 hv5 hk9 hn5 S
     subst hv5
     exact Dy S rfl rfl rfl hb6 (Vu S Ih rfl rfl fun a S=>lv S (Mp hb6 (S.tm rfl) (S.tm rfl)) rfl fun a S=>Dl (⟨hk9,S.nf [true] rfl (subR rfl)⟩))
   clear S;rintro a w9 ⟨hk10,S⟩
   refine Vm S rfl rfl fun a S=>Iy 4 (fun a w'=>Keep [] w9 w' ∧ Sx w [] nov [.blk b1 (Du.enc Au) 40] [(1,.pointer (some ⟨b1,0,none⟩)),(44,bV (((((!decide (Au.Course = 25)) && (!decide (Au.Course = 50))) || (!(Dt Au.Legs 1 4))) || (!(Dt Au.Metres 25 1500))) || (decide (Au.Young < 0))))] 95 a w') ?_ ?_
   ·rcases Bool.eq_false_or_eq_true ((((!decide (Au.Course = 25)) && (!decide (Au.Course = 50))) || (!(Dt Au.Legs 1 4))) || (!(Dt Au.Metres 25 1500))) with hb7 | hb7
    ·iterate 3 (refine Ht S rfl rfl rfl (Oa hb7) rfl ?_ rfl;clear S;intro a S)
     exact lv S (Mo (decide (Au.Young < 0)) hb7 (S.tm rfl) rfl) rfl fun a S=>Dl (⟨Keep.refl _ _,S.nf [true] rfl (subR rfl)⟩)
    ·exact Dy S rfl rfl rfl hb7 (Vf NR S rfl rfl fun a S=>Dy S rfl rfl rfl hb7 (Vl isAgg3 0 S rfl rfl rfl rfl fun a S=>Dy S rfl rfl rfl hb7 (Vq S Es rfl rfl rfl fun a S=>lv S (Mp hb7 (S.tm rfl) (S.tm rfl)) rfl fun a S=>Dl (⟨Keep.refl _ _,S.nf [true] rfl (subR rfl)⟩))))
   clear S;rintro a w11 ⟨hk11,S⟩
   refine Vm S rfl rfl fun a S=>Iy 6 (fun a w'=>Keep [] w11 w' ∧ Sx w [] nov [.blk b1 (Du.enc Au) 40] [(1,.pointer (some ⟨b1,0,none⟩)),(51,bV ((((((!decide (Au.Course = 25)) && (!decide (Au.Course = 50))) || (!(Dt Au.Legs 1 4))) || (!(Dt Au.Metres 25 1500))) || (decide (Au.Young < 0))) || (decide (Au.Old < Au.Young))))] 95 a w') ?_ ?_
   ·rcases Bool.eq_false_or_eq_true (((((!decide (Au.Course = 25)) && (!decide (Au.Course = 50))) || (!(Dt Au.Legs 1 4))) || (!(Dt Au.Metres 25 1500))) || (decide (Au.Young < 0))) with hb8 | hb8
    ·iterate 5 (refine Ht S rfl rfl rfl (Oa hb8) rfl ?_ rfl;clear S;intro a S)
     exact lv S (Mo (decide (Au.Old < Au.Young)) hb8 (S.tm rfl) rfl) rfl fun a S=>Dl (⟨Keep.refl _ _,S.nf [true] rfl (subR rfl)⟩)
    ·refine Dy S rfl rfl rfl hb8 (Vf NR S rfl rfl fun a S=>Dy S rfl rfl rfl hb8 (Vl isAgg3 0 S rfl rfl rfl rfl fun a S=>Dy S rfl rfl rfl hb8 (Vf NS S rfl rfl fun a S=>Dy S rfl rfl rfl hb8 (Vl isAgg3 0 S rfl rfl rfl rfl fun a S=>Dy S rfl rfl rfl hb8 (Vb S Kb rfl rfl rfl fun a S=>lv S (Mp hb8 (S.tm rfl) (S.tm rfl)) rfl ?_)))));clear S;intro a S
     exact Dl (⟨Keep.refl _ _,S.nf [true] rfl (subR rfl)⟩)
   clear S;rintro a w12 ⟨hk12,S⟩
   refine Vm S rfl rfl fun a S=>Iy 4 (fun a w'=>Keep [] w12 w' ∧ Sx w [] nov [.blk b1 (Du.enc Au) 40] [(1,.pointer (some ⟨b1,0,none⟩)),(56,bV (((((((!decide (Au.Course = 25)) && (!decide (Au.Course = 50))) || (!(Dt Au.Legs 1 4))) || (!(Dt Au.Metres 25 1500))) || (decide (Au.Young < 0))) || (decide (Au.Old < Au.Young))) || (decide (120 < Au.Old))))] 95 a w') ?_ ?_
   ·rcases Bool.eq_false_or_eq_true ((((((!decide (Au.Course = 25)) && (!decide (Au.Course = 50))) || (!(Dt Au.Legs 1 4))) || (!(Dt Au.Metres 25 1500))) || (decide (Au.Young < 0))) || (decide (Au.Old < Au.Young))) with hb9 | hb9
    ·iterate 3 (refine Ht S rfl rfl rfl (Oa hb9) rfl ?_ rfl;clear S;intro a S)
     exact lv S (Mo (decide (120 < Au.Old)) hb9 (S.tm rfl) rfl) rfl fun a S=>Dl (⟨Keep.refl _ _,S.nf [true] rfl (subR rfl)⟩)
    ·exact Dy S rfl rfl rfl hb9 (Vf NS S rfl rfl fun a S=>Dy S rfl rfl rfl hb9 (Vl isAgg3 0 S rfl rfl rfl rfl fun a S=>Dy S rfl rfl rfl hb9 (Vq S Kb rfl rfl rfl fun a S=>lv S (Mp hb9 (S.tm rfl) (S.tm rfl)) rfl fun a S=>Dl (⟨Keep.refl _ _,S.nf [true] rfl (subR rfl)⟩))))
   clear S;rintro a w13 ⟨hk13,S⟩
   refine Va S rfl rfl fun a S=>Dl (Fc h (S.tm rfl) (fun hb10 h=>?_) (fun hb10 h=>?_))
   ·refine Fr (Vk S rfl rfl fun a S=>Dl (wp_ret (Gq (Dv ?_))))
    obtain rfl:=Option.some.inj h
    exact Et S results113 rfl rfl
   ·refine Fr (Vf NP S rfl rfl fun a S=>Vl isAgg3 0 S rfl rfl rfl rfl fun a S=>Vf JC S rfl rfl fun a S=>Vl isAgg3 0 S rfl rfl rfl rfl ?_);clear S;intro a S
    obtain ⟨hc1,h⟩:=Ig h
    refine lv S (CM (S.tm rfl) (S.tm rfl) (Vy hc1)) rfl fun a S=>Vq S Mn rfl rfl rfl fun a S=>Va S rfl rfl fun a S=>Dl (Fc h (S.tm rfl) (fun hb11 h=>?_) (fun hb11 h=>?_))
    ·refine Fr (Vk S rfl rfl fun a S=>Dl (wp_ret (Gq (Dv ?_))))
     obtain rfl:=Option.some.inj h
     exact Et S results113 rfl rfl
    ·refine Fs (Fr (Vf NQ S rfl rfl fun a S=>Vl isAgg3 0 S rfl rfl rfl rfl fun a S=>Vq S Jk rfl rfl rfl fun a S=>Vm S rfl rfl fun a S=>Iy 4 (fun a w'=>Keep [] w13 w' ∧ Sx w [] nov [.blk b1 (Du.enc Au) 40] [(1,.pointer (some ⟨b1,0,none⟩)),(72,bV ((decide (Au.Stroke = 5)) && (decide (Au.Legs = 1))))] 95 a w') ?_ ?_))
     ·rcases Bool.eq_false_or_eq_true (decide (Au.Stroke = 5)) with hb12 | hb12
      ·exact Dy S rfl rfl rfl hb12 (Vf EA S rfl rfl fun a S=>Dy S rfl rfl rfl hb12 (Vl isAgg3 0 S rfl rfl rfl rfl fun a S=>Dy S rfl rfl rfl hb12 (Vq S Jk rfl rfl rfl fun a S=>lv S (Io hb12 (S.tm rfl) (S.tm rfl)) rfl fun a S=>Dl (⟨Keep.refl _ _,S.nf [true] rfl (subR rfl)⟩))))
      ·iterate 3 (refine Ht S rfl rfl rfl (Kp hb12) rfl ?_ rfl;clear S;intro a S)
       exact lv S (Ip (decide (Au.Legs = 1)) hb12 (S.tm rfl) rfl) rfl fun a S=>Dl (⟨Keep.refl _ _,S.nf [true] rfl (subR rfl)⟩)
     clear S;rintro a w14 ⟨hk14,S⟩
     refine Vm S rfl rfl ?_;clear S;intro a S
     obtain ⟨j1,hj1,h⟩:=Eu h
     refine Iy 8 (fun a w'=>∃ c1,j1 c1 = some r ∧ Keep [] w14 w' ∧ Sx w [] nov [.blk b1 (Du.enc Au) 40] [(1,.pointer (some ⟨b1,0,none⟩)),(81,bV c1)] 95 a w') ?_ ?_
     ·rcases Bool.eq_false_or_eq_true ((decide (Au.Stroke = 5)) && (decide (Au.Legs = 1))) with hb13 | hb13
      ·replace h:=Ti h hb13
       refine Dy S rfl rfl rfl hb13 (Vf NP S rfl rfl fun a S=>Dy S rfl rfl rfl hb13 (Vl isAgg3 0 S rfl rfl rfl rfl fun a S=>Dy S rfl rfl rfl hb13 (Vf JC S rfl rfl fun a S=>Dy S rfl rfl rfl hb13 (Vl isAgg3 0 S rfl rfl rfl rfl fun a S=>Dy S rfl rfl rfl hb13 (Vu S (Vx rfl) rfl rfl fun a S=>Dy S rfl rfl rfl hb13 ?_)))))
       obtain ⟨hc2,h⟩:=Ig h
       exact lv S (CM (S.tm rfl) (S.tm rfl) (Vy hc2)) rfl fun a S=>Dy S rfl rfl rfl hb13 (Vq S Mn rfl rfl rfl fun a S=>lv S (Io hb13 (S.tm rfl) (S.tm rfl)) rfl fun a S=>Dl (⟨_,h,Keep.refl _ _,S.nf [true] rfl (subR rfl)⟩))
      ·replace h:=Tj h hb13
       iterate 7 (refine Ht S rfl rfl rfl (Kp hb13) rfl ?_ rfl;clear S;intro a S)
       exact Vq S (Ip true hb13) rfl rfl rfl fun a S=>Dl (⟨_,h,Keep.refl _ _,S.nf [true] rfl (subR rfl)⟩)
     clear S h;rintro a w15 ⟨c1,h,hk15,S⟩;rw [hj1] at h;clear hj1 j1
     refine Va S rfl rfl fun a S=>Dl ?_
     obtain ⟨j2,hj2,h⟩:=Eu h
     refine Eh (fun a w'=>∃ x1 : Bool,j2 x1 = some r ∧ Sx w [] nov [.blk b1 (Du.enc Au) 40] [(64,bV x1)] 95 a w') ?_ ?_
     ·refine Fc h (S.tm rfl) (fun hb14 h=>?_) (fun hb14 h=>?_)
      ·exact wp_skip (Tn (⟨c1,h,S.nf [true] rfl ⟨rfl,trivial⟩⟩))
      ·refine Fg (Vf NQ S rfl rfl fun a S=>Vl isAgg3 0 S rfl rfl rfl rfl fun a S=>Vq S Jk rfl rfl rfl fun a S=>Vm S rfl rfl fun a S=>Iy 4 (fun a w'=>Keep [] w15 w' ∧ Sx w [] nov [.blk b1 (Du.enc Au) 40] [(1,.pointer (some ⟨b1,0,none⟩)),(89,bV ((decide (Au.Stroke = 5)) && (decide (1 < Au.Legs))))] 95 a w') ?_ ?_)
       ·rcases Bool.eq_false_or_eq_true (decide (Au.Stroke = 5)) with hb15 | hb15
        ·exact Dy S rfl rfl rfl hb15 (Vf EA S rfl rfl fun a S=>Dy S rfl rfl rfl hb15 (Vl isAgg3 0 S rfl rfl rfl rfl fun a S=>Dy S rfl rfl rfl hb15 (Vq S Kb rfl rfl rfl fun a S=>lv S (Io hb15 (S.tm rfl) (S.tm rfl)) rfl fun a S=>Dl (⟨Keep.refl _ _,S.nf [true] rfl (subR rfl)⟩))))
        ·iterate 3 (refine Ht S rfl rfl rfl (Kp hb15) rfl ?_ rfl;clear S;intro a S)
         exact lv S (Ip (decide (1 < Au.Legs)) hb15 (S.tm rfl) rfl) rfl fun a S=>Dl (⟨Keep.refl _ _,S.nf [true] rfl (subR rfl)⟩)
       clear S;rintro a w17 ⟨hk16,S⟩
       refine Vm S rfl rfl fun a S=>Iy 4 (fun a w'=>Keep [] w17 w' ∧ Sx w [] nov [.blk b1 (Du.enc Au) 40] [(94,bV (((decide (Au.Stroke = 5)) && (decide (1 < Au.Legs))) && (!decide (Au.Legs = 4))))] 95 a w') ?_ ?_
       ·rcases Bool.eq_false_or_eq_true ((decide (Au.Stroke = 5)) && (decide (1 < Au.Legs))) with hb16 | hb16
        ·exact Dy S rfl rfl rfl hb16 (Vf EA S rfl rfl fun a S=>Dy S rfl rfl rfl hb16 (Vl isAgg3 0 S rfl rfl rfl rfl fun a S=>Dy S rfl rfl rfl hb16 (Vq S Mn rfl rfl rfl fun a S=>lv S (Io hb16 (S.tm rfl) (S.tm rfl)) rfl fun a S=>Dl (⟨Keep.refl _ _,S.nf [true] rfl ⟨rfl,trivial⟩⟩))))
        ·iterate 3 (refine Ht S rfl rfl rfl (Kp hb16) rfl ?_ rfl;clear S;intro a S)
         exact lv S (Ip (!decide (Au.Legs = 4)) hb16 (S.tm rfl) rfl) rfl fun a S=>Dl (⟨Keep.refl _ _,S.nf [true] rfl ⟨rfl,trivial⟩⟩)
       clear S;rintro a w18 ⟨hk17,S⟩
       exact Va S rfl rfl fun a S=>Dl (⟨(((decide (Au.Stroke = 5)) && (decide (1 < Au.Legs))) && (!decide (Au.Legs = 4))),h,S.nf [true] rfl ⟨rfl,trivial⟩⟩)
     clear S h;rintro a w16 ⟨x1,h,S⟩;rw [hj2] at h;clear hj2 j2
     refine Tn (Fc h (S.tm rfl) (fun hb17 h=>?_) (fun hb17 h=>?_))
     ·refine Fr (Vk S rfl rfl fun a S=>Dl (wp_ret (Gq (Dv ?_))))
      obtain rfl:=Option.some.inj h
      exact Et S results113 rfl rfl
     ·refine wp_skip (Hp (Tn (Fr (Vk S rfl rfl fun a S=>Dl (wp_ret ?_)))))
      obtain rfl:=Option.some.inj h
      exact Et S results113 rfl rfl
theorem DK (w : World) (Ab : Du) (By : Nat) (Bj : Du) (Bz : (view w []) By = some (.cells [sV Bj.Key,iV Bj.Metres,iV Bj.Stroke,iV Bj.Course,iV Bj.Legs,iV Bj.Sex,iV Bj.Young,iV Bj.Old].toArray 40 (0,0))) (r : Bool) (h : Up Ab Bj = r) :
    Calls prog 115 [.agg (Du.enc Ab).toArray,.pointer (some ⟨By,0,none⟩)].toArray w (Ret w [] fun _ v _=>v = bV r):=by
 refine Fe func115 rfl ntmps115 rfl fun a S=>?_
 unfold Up at h
 replace S:=S.k2 0 1 rfl
 refine Fr (Lw S (S.tm rfl) (cs:=(Du.enc Ab)) rfl rfl ?_);clear S;intro a w1 b1 hz1 hk1 S
 refine Vk S rfl rfl fun a S=>Dz (Vf Vr S rfl rfl fun a S=>Vl isAgg9 0 S rfl rfl rfl rfl fun a S=>Vf Vr S rfl rfl fun a S=>lv S (Hx isAgg9 (off:=0) (o:=0) (S.tm rfl) ((Sc Bz).at S.emb0) rfl) rfl fun a S=>Vb S Xy rfl rfl rfl fun a S=>Va S rfl rfl ?_);clear S;intro a S
 refine Dl (wp_ret ?_)
 subst h
 exact Et S results115 rfl rfl
theorem Tu (w : World) (Ax : Value) (Ba : List Du) (Bf : Slc (view w []) 8 Ax (Ba.map Du.enc)) (Az : Nat) (Aw : Du) (Bh : (view w []) Az = some (.cells [sV Aw.Key,iV Aw.Metres,iV Aw.Stroke,iV Aw.Course,iV Aw.Legs,iV Aw.Sex,iV Aw.Young,iV Aw.Old].toArray 40 (0,0))) (r : Int) (h : Lh Ba Aw = r) :
    Calls prog 100 [Ax,.func (.func 115) #[] #[.pointer (some ⟨Az,0,none⟩)]].toArray w (Ret w [] fun _ v _=>v = iV r):=by
 refine Fe func100 rfl ntmps100 rfl fun a S=>?_
 unfold Lh at h
 replace S:=S.k2 0 1 rfl
 refine Fr (Vk S rfl rfl fun a S=>Dl (Fs (Fr (Vm S rfl rfl fun a S=>lv S (Gi Sh (S.tm rfl) (Gf Bf)) rfl fun a S=>lv S (Rm rfl) rfl ?_))));clear S;intro a S
 refine Dl ?_
 replace S:=S.k4 0 1 7 8 rfl
 obtain ⟨j1,hj1,h⟩:=Eu h
 refine Eh (fun a w'=>j1 = r ∧ Sx w [] nov [] [] 19 a w') ?_ ?_
 ·refine wp_block (Gr (fun (ys1 : List Du) a w'=>∃ i1 : Nat,(∃ dn,Ba = dn ++ ys1 ∧ dn.length = i1) ∧ Gg Aw j1 ys1 i1 = r ∧ Sx w [] nov [] [(0,Ax),(1,.func (.func 115) #[] #[.pointer (some ⟨Az,0,none⟩)]),(7,iV (Ba.length : Int)),(8,iV (i1 : Int))] 19 a w') List.length Ba ⟨0,⟨[],rfl,rfl⟩,h,S.nf [] rfl (subR rfl)⟩ ?_)
  clear S h;rintro ys1 a w1 ⟨i1,⟨dn,hd1,hi1⟩,h,S⟩
  cases ys1 with
  | nil =>
   rw [Gg.eq_1] at h
   refine Fr (Vb S Es rfl rfl rfl fun a S=>Ld ?_)
   replace S:=S.k5 0 1 7 8 9 rfl
   exact Tn (Fs (wp_cond_false ((S.tm rfl).trans (congrArg Value.bool (Jd hd1 hi1))) (wp_exit (Ed (Ed (Gn (Tn (⟨h,S.nf [] rfl trivial⟩))))))))
  | cons y1 ys1 =>
   rw [Gg.eq_2] at h
   refine Fr (Vb S Es rfl rfl rfl fun a S=>Ld ?_)
   replace S:=S.k5 0 1 7 8 9 rfl
   refine Tn (Fs (wp_cond_true ((S.tm rfl).trans (congrArg Value.bool (Ia hd1 hi1))) (wp_skip (Tn (Fs (wp_block (Fr (Vm S rfl rfl fun a S=>Va S rfl rfl ?_))))))));clear S;intro a S
   refine Dl (Fs (Fg ?_))
   iterate 3 (refine Vm S rfl rfl ?_;clear S;intro a S)
   obtain ⟨b1,o1,hm1,hr1⟩:=Fk (a:=a) (x:=.tmp 12) (y:=.tmp 13) (ty:=0) Sh Bf (Jc hd1 hi1) rfl (S.tm rfl) (S.tm rfl)
   refine lv S (hr1 _) rfl ?_;clear S;intro a S
   clear hr1
   refine lv S (Fb isAgg40 sizeOf40 (off:=o1) (o:=0) (part:=(Du.enc y1)) rfl rfl (S.tm rfl) (hm1.at S.emb0)) rfl fun a S=>Eb S (fun _=>Rf (cap:=[.pointer (some ⟨Az,0,none⟩)]) (S.tm rfl) (vs:=[.agg (Du.enc y1).toArray]) ⟨(S.tm rfl),trivial⟩ call115) (DK _ y1 Az Aw ((S.le_arg Eg) _ _ Bh) _ rfl) rfl ?_;clear S;intro v1 a w3 hv1 hk1 hn1 S
   subst hv1
   refine Dl (Fc h (S.tm rfl) (fun hb1 h=>?_) (fun hb1 h=>?_))
   ·refine Fr (Vm S rfl rfl fun a S=>Va S rfl rfl fun a S=>Ld ?_)
    replace S:=S.k1 4 rfl
    refine Tn (wp_ret (Gq (Dv (Dv (Gq (Dv (Dv ?_)))))))
    subst h
    exact Et S results100 rfl rfl
   ·exact wp_skip (Hp (Tn (Fg (Vq S Gc rfl rfl rfl fun a S=>Vm S rfl rfl fun a S=>Dl (⟨ys1,⟨i1 + 1,⟨_,(hd1).trans (List.append_cons _ _ _),by simp [hi1]⟩,h,S.nf [] rfl ⟨rfl,rfl,rfl,(congrArg (fun z=>some (Value.int .i64 z)) (Ib hd1 hi1 (Jp Bf))),trivial⟩⟩,Nat.lt_succ_self _⟩)))))
 clear S h;rintro a w2 ⟨h,S⟩;rw [hj1] at h;clear hj1 j1
 refine Tn (Fr (Vk S rfl rfl fun a S=>Dl (wp_ret ?_)))
 subst h
 exact Et S results100 rfl rfl
theorem Su (w : World) (Ax : Value) (Ba : List Du) (Bf : Slc (view w []) 8 Ax (Ba.map Du.enc)) (Az : Nat) (Aw : Du) (Bh : (view w []) Az = some (.cells [sV Aw.Key,iV Aw.Metres,iV Aw.Stroke,iV Aw.Course,iV Aw.Legs,iV Aw.Sex,iV Aw.Young,iV Aw.Old].toArray 40 (0,0))) (r : Bool) (h : Jh Ba Aw = r) :
    Calls prog 114 [Ax,.func (.func 115) #[] #[.pointer (some ⟨Az,0,none⟩)]].toArray w (Ret w [] fun _ v _=>v = bV r):=by
 refine Fe func114 rfl ntmps114 rfl fun a S=>?_
 unfold Jh at h
 replace S:=S.k2 0 1 rfl
 refine Fr (Vk S rfl rfl fun a S=>Dz (Vm S rfl rfl fun a S=>Vm S rfl rfl fun a S=>Eb S (fun _=>Dq (vs:=[Ax,.func (.func 115) #[] #[.pointer (some ⟨Az,0,none⟩)]]) ⟨(S.tm rfl),(S.tm rfl),trivial⟩ call100) (Tu _ Ax Ba (Bf.mono (S.le_arg Eg)) Az Aw ((S.le_arg Eg) _ _ Bh) _ rfl) rfl ?_));clear S;intro v1 a w1 hv1 hk1 hn1 S
 subst hv1
 refine Vq S Rl rfl rfl rfl fun a S=>Va S rfl rfl fun a S=>Dl (wp_ret ?_)
 subst h
 exact Et S results114 rfl rfl
end Go.Proofs.YtfdmkmnjfhbliaaGreatDoor
