/- Each Go function computes its plain twin,by program. -/
import Derived.Test.YtjofndbcioknfaaGreatDoorTab
import Derived.Test.YtjofndbcioknfaaGreatDoorLay
import Derived.Test.YtjofndbcioknfaaGreatDoorSeq
namespace Go.Proofs.YtjofndbcioknfaaGreatDoor
open Go
open Go.Proofs.Tryz
theorem Xv (w : World) (Ac : Int) (Bb : Int) (r : Int) (h : Rq Ac Bb = some r) :
    Calls prog 42 [iV Ac,iV Bb].toArray w (Ret w [] fun _ v _=>v = iV r):=by
 refine Fe func42 rfl ntmps42 rfl fun a S=>?_
 unfold Rq at h
 replace S:=S.k2 0 1 rfl
 refine Fr (Vk S rfl rfl fun a S=>Dl (Fs (Fr (Vm S rfl rfl fun a S=>Vq S Fp rfl rfl rfl fun a S=>Ld ?_))))
 refine Tn (Fc h (S.tm rfl) (fun hb1 h=>?_) (fun hb1 h=>?_))
 ·refine Fr (Vk S rfl rfl fun a S=>Dl (wp_ret (Ek ?_)))
  obtain rfl:=Option.some.inj h
  exact Fd S results42 rfl rfl
 ·refine wp_skip (Tn (Fr (Vm S rfl rfl fun a S=>Vm S rfl rfl ?_)));clear S;intro a S
  obtain ⟨hc1,h⟩:=Jc h
  refine lv S (CP (S.tm rfl) (S.tm rfl) (Wg hc1)) rfl fun a S=>Va S rfl rfl fun a S=>Dl (Fs (Fr (Vm S rfl rfl fun a S=>Vq S Fp rfl rfl rfl fun a S=>Dl ?_)))
  obtain ⟨j1,hj1,h⟩:=Fk h
  refine Fa (fun a w'=>∃ x1 : Int,j1 x1 = some r ∧ Sx w [] nov [] [(0,iV x1)] 16 a w') ?_ ?_
  ·refine Fc h (S.tm rfl) (fun hb2 h=>?_) (fun hb2 h=>?_)
   ·exact Fg (Vm S rfl rfl fun a S=>Vm S rfl rfl fun a S=>Vb S Gw rfl rfl rfl fun a S=>Va S rfl rfl fun a S=>Dl (⟨W ((Int.tmod Ac Bb) + Bb),h,S.nf [] rfl ⟨rfl,trivial⟩⟩))
   ·exact wp_skip (Tn (⟨Int.tmod Ac Bb,h,S.nf [] rfl ⟨rfl,trivial⟩⟩))
  clear S h;rintro a w1 ⟨x1,h,S⟩;rw [hj1] at h;clear hj1 j1
  refine Tn (Fr (Vm S rfl rfl fun a S=>Va S rfl rfl fun a S=>Dl (wp_ret ?_)))
  obtain rfl:=Option.some.inj h
  exact Fd S results42 rfl rfl
set_option maxRecDepth 20000 in
theorem Vr (w : World) (O : Nat) (Aa : Value) (Aq : List Int) (Ap : Slc (view w [O]) 1 Aa (Aq.map eInt)) (Al : Int) (Az : (LEnt.blk O [Aa,iV Al] 25).holds w) (Bb : Int) (r : Int × Int) (h : Ri Aq Al Bb = some r) :
    Calls prog 19 [.pointer (some ⟨O,0,none⟩),iV Bb].toArray w (Ret w [O] fun _ v w'=>(LEnt.blk O [Aa,iV r.2] 25).holds w' ∧ v = iV r.1):=by
 refine Nb [O] [.blk O [Aa,iV Al] 25] func19 rfl ntmps19 rfl (fun e he=>by simp only [List.mem_singleton] at he;subst he;exact Az) (by simp [fps,LEnt.fp]) (by simp [fps,LEnt.fp]) fun a S=>?_
 unfold Ri at h
 replace S:=(S.nl [.blk O [Aa,iV Al] 25] [true] rfl).k2 0 1 rfl
 refine Fr (Vk S rfl rfl fun a S=>Dz (Vm S rfl rfl fun a S=>Vu S Jh rfl rfl fun a S=>Vf GC S rfl rfl fun a S=>Vl isAgg3 0 S rfl rfl rfl rfl ?_));clear S;intro a S
 refine Vq S Gw rfl rfl rfl fun a S=>Vu S Jh rfl rfl fun a S=>Vf GC S rfl rfl fun a S=>Ft S (S.tm rfl) (S.tm rfl) (i:=0) (off:=1) rfl sizeOf3 (vs:=[iV (W (Al + 1))]) rfl rfl rfl rfl ?_;clear S;intro w1 hk1 S
 refine Dl (Fs (Fr (Vm S rfl rfl fun a S=>Vu S Jh rfl rfl fun a S=>Vf JF S rfl rfl fun a S=>Vl isAgg22 0 S rfl rfl rfl rfl fun a S=>lv S (Gn Qh (S.tm rfl) (Gk Ap)) rfl fun a S=>Vq S Jn rfl rfl rfl ?_)));clear S;intro a S
 refine Ld ?_
 replace S:=(S.nl [.blk O [Aa,iV (W (Al + 1))] 25] [true] rfl).k3 0 1 19 rfl
 refine Tn (Fc h (S.tm rfl) (fun hb1 h=>?_) (fun hb1 h=>?_))
 ·refine Fr (Vm S rfl rfl fun a S=>Vu S Jh rfl rfl fun a S=>Vf GC S rfl rfl fun a S=>Vl isAgg3 0 S rfl rfl rfl rfl fun a S=>Vq S AI rfl rfl rfl fun a S=>Vm S rfl rfl ?_);clear S;intro a S
  obtain ⟨r1,hr1,h⟩:=Ga h
  refine Er S (fun _=>Ei (vs:=[iV (W ((W (Al + 1)) * 7919)),iV Bb]) ⟨(S.tm rfl),(S.tm rfl),trivial⟩ call42) (Xv _ (W ((W (Al + 1)) * 7919)) Bb _ hr1) rfl ?_;clear S;intro v1 a w2 hv1 hk2 hn1 S
  subst hv1
  refine Va S rfl rfl fun a S=>Dl (wp_ret (Ek ?_))
  obtain rfl:=Option.some.inj h
  exact Fd S results19 rfl ⟨(S.holds _ (List.mem_of_getElem? (i:=0) rfl)),rfl⟩
 ·refine wp_skip (Tn (Fs (Hd [] ([]) Tryz.mixed S rfl (by kernel_rfl) ?_)));clear S;intro w3 hk3 hsel S
  refine Kt [0,1,2,3,4,5,6,7,8,9,10,11] hsel (by kernel_rfl) rfl ?_
  clear hsel
  refine Gv S rfl (Rm (S.tm rfl)) rfl fun a S=>Gv S rfl (Jh (S.tm rfl)) rfl fun a S=>Gv S rfl (Gb GC (S.tm rfl)) rfl fun a S=>Gv S rfl (Mg isAgg3 (S.tm rfl) (S.cell (i:=0) rfl rfl)) rfl fun a S=>Gv S rfl (Jt (S.tm rfl) rfl) rfl fun a S=>Gv S rfl (Rm (S.tm rfl)) rfl fun a S=>Gv S rfl (Jh (S.tm rfl)) rfl fun a S=>Gv S rfl (Gb JF (S.tm rfl)) rfl fun a S=>Gv S rfl (Mg isAgg22 (S.tm rfl) (S.cell (i:=0) rfl rfl)) rfl fun a S=>Gv S rfl (Gn Qh (S.tm rfl) (Gk Ap)) rfl ?_;clear S;intro a S
  obtain ⟨hc1,h⟩:=Jc h
  refine Gv S rfl (CP (S.tm rfl) (S.tm rfl) (Wg hc1)) rfl fun a S=>Gv S rfl (Ra (S.tm rfl)) rfl fun a S=>Jb ?_
  replace S:=S.k3 0 1 5 rfl
  refine Tn (Fs (Hd [] ([]) Tryz.mixed S rfl (by kernel_rfl) ?_));clear S;intro w4 hk4 hsel S
  refine Kt [0,1,2,3,4,5,6,7,8,9,10,11] hsel (by kernel_rfl) rfl ?_
  clear hsel
  refine Gv S rfl (Rm (S.tm rfl)) rfl fun a S=>Gv S rfl (Jh (S.tm rfl)) rfl fun a S=>Gv S rfl (Gb GC (S.tm rfl)) rfl fun a S=>Gv S rfl (Mg isAgg3 (S.tm rfl) (S.cell (i:=0) rfl rfl)) rfl fun a S=>Gv S rfl (Jt (S.tm rfl) rfl) rfl fun a S=>Gv S rfl (Rm (S.tm rfl)) rfl fun a S=>Gv S rfl (Jh (S.tm rfl)) rfl fun a S=>Gv S rfl (Gb JF (S.tm rfl)) rfl fun a S=>Gv S rfl (Mg isAgg22 (S.tm rfl) (S.cell (i:=0) rfl rfl)) rfl fun a S=>Gv S rfl (Gn Qh (S.tm rfl) (Gk Ap)) rfl ?_;clear S;intro a S
  obtain ⟨hc2,h⟩:=Jc h
  refine Gv S rfl (FD (S.tm rfl) (S.tm rfl) (Wg hc2)) rfl fun a S=>Gv S rfl (Ra (S.tm rfl)) rfl fun a S=>Jb ?_
  replace S:=S.k4 0 1 5 6 rfl
  refine Tn (Fr (Vm S rfl rfl fun a S=>Vu S Jh rfl rfl fun a S=>Vf JF S rfl rfl fun a S=>Vl isAgg22 0 S rfl rfl rfl rfl fun a S=>Vm S rfl rfl ?_));clear S;intro a S
  obtain ⟨hc3,h⟩:=Jc h
  obtain ⟨b1,o1,hm1,hr2⟩:=Fv (a:=a) (x:=.tmp 52) (y:=.tmp 53) (ty:=0) Qh Ap (Es hc3).1 (Es hc3).2 (S.tm rfl) (S.tm rfl)
  refine lv S (hr2 _) rfl ?_;clear S;intro a S
  clear hr2
  refine lv S (Hw isAgg3 (off:=o1) (o:=0) (S.tm rfl) (hm1.at S.emb0) rfl) rfl ?_;clear S;intro a S
  obtain ⟨r2,hr3,h⟩:=Ga h
  refine Er S (fun _=>Ei (vs:=[iV (nth Aq (Int.tmod (W ((W (Al + 1)) - 1)) (Aq.length : Int))),iV 1073741824]) ⟨(S.tm rfl),rfl,trivial⟩ call42) (Xv _ (nth Aq (Int.tmod (W ((W (Al + 1)) - 1)) (Aq.length : Int))) 1073741824 _ hr3) rfl ?_;clear S;intro v2 a w5 hv2 hk5 hn2 S
  subst hv2
  refine Vm S rfl rfl fun a S=>Vm S rfl rfl fun a S=>Vu S (Gw rfl) rfl rfl fun a S=>Vb S AI rfl rfl rfl fun a S=>Vb S Gw rfl rfl rfl fun a S=>Vm S rfl rfl ?_;clear S;intro a S
  obtain ⟨r3,hr4,h⟩:=Ga h
  refine Er S (fun _=>Ei (vs:=[iV (W (r2 + (W ((W (Int.tdiv (W ((W (Al + 1)) - 1)) (Aq.length : Int))) * (W (7919 + (Int.tmod (W ((W (Al + 1)) - 1)) (Aq.length : Int)))))))),iV Bb]) ⟨(S.tm rfl),(S.tm rfl),trivial⟩ call42) (Xv _ (W (r2 + (W ((W (Int.tdiv (W ((W (Al + 1)) - 1)) (Aq.length : Int))) * (W (7919 + (Int.tmod (W ((W (Al + 1)) - 1)) (Aq.length : Int)))))))) Bb _ hr4) rfl ?_;clear S;intro v3 a w6 hv3 hk6 hn3 S
  subst hv3
  refine Va S rfl rfl fun a S=>Ld ?_
  replace S:=S.k1 4 rfl
  refine Tn (wp_ret ?_)
  obtain rfl:=Option.some.inj h
  exact Fd S results19 rfl ⟨(S.holds _ (List.mem_of_getElem? (i:=0) rfl)),rfl⟩
theorem Zr (w : World) (O : Nat) (Aa : Value) (Aq : List Int) (Ap : Slc (view w [O]) 1 Aa (Aq.map eInt)) (Al : Int) (Az : (LEnt.blk O [Aa,iV Al] 25).holds w) (Bb : Int) (r : Bool × Int) (h : Ts Aq Al Bb = some r) :
    Calls prog 31 [.pointer (some ⟨O,0,none⟩),iV Bb].toArray w (Ret w [O] fun _ v w'=>(LEnt.blk O [Aa,iV r.2] 25).holds w' ∧ v = bV r.1):=by
 refine Nb [O] [.blk O [Aa,iV Al] 25] func31 rfl ntmps31 rfl (fun e he=>by simp only [List.mem_singleton] at he;subst he;exact Az) (by simp [fps,LEnt.fp]) (by simp [fps,LEnt.fp]) fun a S=>?_
 unfold Ts at h
 replace S:=(S.nl [.blk O [Aa,iV Al] 25] [true] rfl).k2 0 1 rfl
 refine Fr (Vk S rfl rfl fun a S=>Dz (Vm S rfl rfl fun a S=>Vm S rfl rfl ?_));clear S;intro a S
 obtain ⟨r1,hr1,h⟩:=Ga h
 refine Ir 0 S (b:=O) rfl rfl (fun _=>.blk O [Aa,iV r1.2] 25) (fun _=>Ei (vs:=[.pointer (some ⟨O,0,none⟩),iV Bb]) ⟨(S.tm rfl),(S.tm rfl),trivial⟩ call19) (Vr _ O Aa Aq (Ap.mono (S.le_arg (Jr (i:=0) (e:=.blk O [Aa,iV Al] 25) rfl))) Al (S.holds _ (List.mem_of_getElem? (i:=0) rfl)) Bb _ hr1) rfl (fun _ _ _ h=>⟨h.1,fun _ hc=>by cases hc;rfl⟩) ?_;clear S;intro v1 a w1 hv1 hk1 hn1 S
 replace hv1:=hv1.2
 subst hv1
 refine Vq S Jn rfl rfl rfl fun a S=>Va S rfl rfl fun a S=>Dl (wp_ret ?_)
 obtain rfl:=Option.some.inj h
 exact Fd S results31 rfl ⟨(S.holds _ (List.mem_of_getElem? (i:=0) rfl)),rfl⟩
theorem Kg (w : World) (O : Nat) (Aa : Value) (Aq : List Int) (Ap : Slc (view w [O]) 1 Aa (Aq.map eInt)) (Al : Int) (Az : (LEnt.blk O [Aa,iV Al] 25).holds w) (Ab : Value) (Ad : List Int) (Ae : Slc (view w [O]) 1 Ab (Ad.map eInt)) (r : Int × Int) (h : Kr Aq Al Ad = some r) :
    Calls prog 33 [.pointer (some ⟨O,0,none⟩),Ab].toArray w (Ret w [O] fun _ v w'=>(LEnt.blk O [Aa,iV r.2] 25).holds w' ∧ v = iV r.1):=by
 refine Nb [O] [.blk O [Aa,iV Al] 25] func33 rfl ntmps33 rfl (fun e he=>by simp only [List.mem_singleton] at he;subst he;exact Az) (by simp [fps,LEnt.fp]) (by simp [fps,LEnt.fp]) fun a S=>?_
 unfold Kr at h
 replace S:=(S.nl [.blk O [Aa,iV Al] 25] [true] rfl).k2 0 1 rfl
 refine Fr (Vk S rfl rfl fun a S=>Dl (Fs (Fg ?_)))
 iterate 3 (refine Vm S rfl rfl ?_;clear S;intro a S)
 refine lv S (Gn Qh (S.tm rfl) (Gk Ae)) rfl ?_;clear S;intro a S
 obtain ⟨r1,hr1,h⟩:=Ga h
 refine Ir 0 S (b:=O) rfl rfl (fun _=>.blk O [Aa,iV r1.2] 25) (fun _=>Ei (vs:=[.pointer (some ⟨O,0,none⟩),iV (Ad.length : Int)]) ⟨(S.tm rfl),(S.tm rfl),trivial⟩ call19) (Vr _ O Aa Aq (Ap.mono (S.le_arg (Jr (i:=0) (e:=.blk O [Aa,iV Al] 25) rfl))) Al (S.holds _ (List.mem_of_getElem? (i:=0) rfl)) (Ad.length : Int) _ hr1) rfl (fun _ _ _ h=>⟨h.1,fun _ hc=>by cases hc;rfl⟩) ?_;clear S;intro v1 a w1 hv1 hk1 hn1 S
 replace hv1:=hv1.2
 subst hv1
 obtain ⟨hc1,h⟩:=Jc h
 obtain ⟨b1,o1,hm1,hr2⟩:=Fv (a:=a) (x:=.tmp 5) (y:=.tmp 9) (ty:=0) Qh Ae (Es hc1).1 (Es hc1).2 (S.tm rfl) (S.tm rfl)
 refine lv S (hr2 _) rfl ?_;clear S;intro a S
 clear hr2
 refine lv S (Hw isAgg3 (off:=o1) (o:=0) (S.tm rfl) (hm1.at S.emb0) rfl) rfl fun a S=>Va S rfl rfl fun a S=>Dl (wp_ret ?_)
 obtain rfl:=Option.some.inj h
 exact Fd S results33 rfl ⟨(S.holds _ (List.mem_of_getElem? (i:=0) rfl)),rfl⟩
theorem FI (w : World) (O : Nat) (Aa : Value) (Aq : List Int) (Ap : Slc (view w [O]) 1 Aa (Aq.map eInt)) (Al : Int) (Az : (LEnt.blk O [Aa,iV Al] 25).holds w) (Bm : ByteArray) (r : Eu × Int) (h : Ui Aq Al Bm = some r) :
    Calls prog 32 [.pointer (some ⟨O,0,none⟩),sV Bm].toArray w (Ret w [O] fun _ v w'=>(LEnt.blk O [Aa,iV r.2] 25).holds w' ∧ v = .agg (Eu.enc r.1).toArray):=by
 refine Nb [O] [.blk O [Aa,iV Al] 25] func32 rfl ntmps32 rfl (fun e he=>by simp only [List.mem_singleton] at he;subst he;exact Az) (by simp [fps,LEnt.fp]) (by simp [fps,LEnt.fp]) fun a S=>?_
 unfold Ui at h
 replace S:=(S.nl [.blk O [Aa,iV Al] 25] [true] rfl).k2 0 1 rfl
 refine Fr (Iz S zeroValue38 (cs:=[sV An,iV 0,iV 0,iV 0,iV 0,iV 0,iV 0,iV 0]) rfl rfl ?_);clear S;intro a w1 b1 hz1 hk1 S
 refine Dz (Vm S rfl rfl fun a S=>Vm S rfl rfl fun a S=>Fq S underlying22 sizeOf3 zeroValue3 rfl rfl (pv:=[(0,iV 50),(1,iV 100),(2,iV 200)]) ⟨rfl,rfl,rfl,rfl,rfl,rfl,trivial⟩ (cs:=[iV 50,iV 100,iV 200]) (by kernel_rfl) rfl ?_);clear S;intro a w2 b2 hz2 hk2 S
 obtain ⟨r1,hr1,h⟩:=Ga h
 refine Ir 2 S (b:=O) rfl rfl (fun _=>.blk O [Aa,iV r1.2] 25) (fun _=>Ei (vs:=[.pointer (some ⟨O,0,none⟩),.slice (some ⟨b2,0,none⟩) 3 3]) ⟨(S.tm rfl),(S.tm rfl),trivial⟩ call33) (Kg _ O Aa Aq (Ap.mono (S.le_arg (Jr (i:=2) (e:=.blk O [Aa,iV Al] 25) rfl))) Al (S.holds _ (List.mem_of_getElem? (i:=2) rfl)) (.slice (some ⟨b2,0,none⟩) 3 3) [50,100,200] (Lg Ju S (i:=0) rfl rfl rfl rfl ((Nf (i:=2) (j:=0) (e:=.blk O [Aa,iV Al] 25) (e':=.blk b2 [iV 50,iV 100,iV 200] 3) S rfl rfl rfl) _ rfl)) _ hr1) rfl (fun _ _ _ h=>⟨h.1,fun _ hc=>by cases hc;rfl⟩) ?_;clear S;intro v1 a w3 hv1 hk3 hn1 S
 replace hv1:=hv1.2
 subst hv1
 refine Vm S rfl rfl fun a S=>Fq S underlying22 sizeOf3 zeroValue3 rfl rfl (pv:=[(0,iV 1),(1,iV 2),(2,iV 3),(3,iV 4)]) ⟨rfl,rfl,rfl,rfl,rfl,rfl,rfl,rfl,trivial⟩ (cs:=[iV 1,iV 2,iV 3,iV 4]) (by kernel_rfl) rfl ?_;clear S;intro a w4 b3 hz3 hk4 S
 obtain ⟨r2,hr2,h⟩:=Ga h
 refine Ir 3 S (b:=O) rfl rfl (fun _=>.blk O [Aa,iV r2.2] 25) (fun _=>Ei (vs:=[.pointer (some ⟨O,0,none⟩),.slice (some ⟨b3,0,none⟩) 4 4]) ⟨(S.tm rfl),(S.tm rfl),trivial⟩ call33) (Kg _ O Aa Aq (Ap.mono (S.le_arg (Jr (i:=3) (e:=.blk O [Aa,iV r1.2] 25) rfl))) r1.2 (S.holds _ (List.mem_of_getElem? (i:=3) rfl)) (.slice (some ⟨b3,0,none⟩) 4 4) [1,2,3,4] (Lg Ju S (i:=0) rfl rfl rfl rfl ((Nf (i:=3) (j:=0) (e:=.blk O [Aa,iV r1.2] 25) (e':=.blk b3 [iV 1,iV 2,iV 3,iV 4] 3) S rfl rfl rfl) _ rfl)) _ hr2) rfl (fun _ _ _ h=>⟨h.1,fun _ hc=>by cases hc;rfl⟩) ?_;clear S;intro v2 a w5 hv2 hk5 hn2 S
 replace hv2:=hv2.2
 subst hv2
 refine Vm S rfl rfl fun a S=>Fq S underlying22 sizeOf3 zeroValue3 rfl rfl (pv:=[(0,iV 25),(1,iV 50)]) ⟨rfl,rfl,rfl,rfl,trivial⟩ (cs:=[iV 25,iV 50]) (by kernel_rfl) rfl ?_;clear S;intro a w6 b4 hz4 hk6 S
 obtain ⟨r3,hr3,h⟩:=Ga h
 refine Ir 4 S (b:=O) rfl rfl (fun _=>.blk O [Aa,iV r3.2] 25) (fun _=>Ei (vs:=[.pointer (some ⟨O,0,none⟩),.slice (some ⟨b4,0,none⟩) 2 2]) ⟨(S.tm rfl),(S.tm rfl),trivial⟩ call33) (Kg _ O Aa Aq (Ap.mono (S.le_arg (Jr (i:=4) (e:=.blk O [Aa,iV r2.2] 25) rfl))) r2.2 (S.holds _ (List.mem_of_getElem? (i:=4) rfl)) (.slice (some ⟨b4,0,none⟩) 2 2) [25,50] (Lg Ju S (i:=0) rfl rfl rfl rfl ((Nf (i:=4) (j:=0) (e:=.blk O [Aa,iV r2.2] 25) (e':=.blk b4 [iV 25,iV 50] 3) S rfl rfl rfl) _ rfl)) _ hr3) rfl (fun _ _ _ h=>⟨h.1,fun _ hc=>by cases hc;rfl⟩) ?_;clear S;intro v3 a w7 hv3 hk7 hn3 S
 replace hv3:=hv3.2
 subst hv3
 refine Vm S rfl rfl fun a S=>Fq S underlying22 sizeOf3 zeroValue3 rfl rfl (pv:=[(0,iV 1),(1,iV 1),(2,iV 1),(3,iV 4)]) ⟨rfl,rfl,rfl,rfl,rfl,rfl,rfl,rfl,trivial⟩ (cs:=[iV 1,iV 1,iV 1,iV 4]) (by kernel_rfl) rfl ?_;clear S;intro a w8 b5 hz5 hk8 S
 obtain ⟨r4,hr4,h⟩:=Ga h
 refine Ir 5 S (b:=O) rfl rfl (fun _=>.blk O [Aa,iV r4.2] 25) (fun _=>Ei (vs:=[.pointer (some ⟨O,0,none⟩),.slice (some ⟨b5,0,none⟩) 4 4]) ⟨(S.tm rfl),(S.tm rfl),trivial⟩ call33) (Kg _ O Aa Aq (Ap.mono (S.le_arg (Jr (i:=5) (e:=.blk O [Aa,iV r3.2] 25) rfl))) r3.2 (S.holds _ (List.mem_of_getElem? (i:=5) rfl)) (.slice (some ⟨b5,0,none⟩) 4 4) [1,1,1,4] (Lg Ju S (i:=0) rfl rfl rfl rfl ((Nf (i:=5) (j:=0) (e:=.blk O [Aa,iV r3.2] 25) (e':=.blk b5 [iV 1,iV 1,iV 1,iV 4] 3) S rfl rfl rfl) _ rfl)) _ hr4) rfl (fun _ _ _ h=>⟨h.1,fun _ hc=>by cases hc;rfl⟩) ?_;clear S;intro v4 a w9 hv4 hk9 hn4 S
 replace hv4:=hv4.2
 subst hv4
 refine Vm S rfl rfl fun a S=>Fq S underlying22 sizeOf3 zeroValue3 rfl rfl (pv:=[(0,iV 0),(1,iV 1),(2,iV 2)]) ⟨rfl,rfl,rfl,rfl,rfl,rfl,trivial⟩ (cs:=[iV 0,iV 1,iV 2]) (by kernel_rfl) rfl ?_;clear S;intro a w10 b6 hz6 hk10 S
 obtain ⟨r5,hr5,h⟩:=Ga h
 refine Ir 6 S (b:=O) rfl rfl (fun _=>.blk O [Aa,iV r5.2] 25) (fun _=>Ei (vs:=[.pointer (some ⟨O,0,none⟩),.slice (some ⟨b6,0,none⟩) 3 3]) ⟨(S.tm rfl),(S.tm rfl),trivial⟩ call33) (Kg _ O Aa Aq (Ap.mono (S.le_arg (Jr (i:=6) (e:=.blk O [Aa,iV r4.2] 25) rfl))) r4.2 (S.holds _ (List.mem_of_getElem? (i:=6) rfl)) (.slice (some ⟨b6,0,none⟩) 3 3) [0,1,2] (Lg Ju S (i:=0) rfl rfl rfl rfl ((Nf (i:=6) (j:=0) (e:=.blk O [Aa,iV r4.2] 25) (e':=.blk b6 [iV 0,iV 1,iV 2] 3) S rfl rfl rfl) _ rfl)) _ hr5) rfl (fun _ _ _ h=>⟨h.1,fun _ hc=>by cases hc;rfl⟩) ?_;clear S;intro v5 a w11 hv5 hk11 hn5 S
 replace hv5:=hv5.2
 subst hv5
 refine Vm S rfl rfl fun a S=>Fq S underlying22 sizeOf3 zeroValue3 rfl rfl (pv:=[(0,iV 0),(1,iV 0),(2,iV 5),(3,iV 10)]) ⟨rfl,rfl,rfl,rfl,rfl,rfl,rfl,rfl,trivial⟩ (cs:=[iV 0,iV 0,iV 5,iV 10]) (by kernel_rfl) rfl ?_;clear S;intro a w12 b7 hz7 hk12 S
 obtain ⟨r6,hr6,h⟩:=Ga h
 refine Ir 7 S (b:=O) rfl rfl (fun _=>.blk O [Aa,iV r6.2] 25) (fun _=>Ei (vs:=[.pointer (some ⟨O,0,none⟩),.slice (some ⟨b7,0,none⟩) 4 4]) ⟨(S.tm rfl),(S.tm rfl),trivial⟩ call33) (Kg _ O Aa Aq (Ap.mono (S.le_arg (Jr (i:=7) (e:=.blk O [Aa,iV r5.2] 25) rfl))) r5.2 (S.holds _ (List.mem_of_getElem? (i:=7) rfl)) (.slice (some ⟨b7,0,none⟩) 4 4) [0,0,5,10] (Lg Ju S (i:=0) rfl rfl rfl rfl ((Nf (i:=7) (j:=0) (e:=.blk O [Aa,iV r5.2] 25) (e':=.blk b7 [iV 0,iV 0,iV 5,iV 10] 3) S rfl rfl rfl) _ rfl)) _ hr6) rfl (fun _ _ _ h=>⟨h.1,fun _ hc=>by cases hc;rfl⟩) ?_;clear S;intro v6 a w13 hv6 hk13 hn6 S
 replace hv6:=hv6.2
 subst hv6
 refine lv S (Nc TK (pv:=[(0,sV Bm),(1,iV r1.1),(2,iV r2.1),(3,iV r3.1),(4,iV r4.1),(5,iV r5.1),(6,iV r6.1)]) ⟨rfl,(S.tm rfl),rfl,(S.tm rfl),rfl,(S.tm rfl),rfl,(S.tm rfl),rfl,(S.tm rfl),rfl,(S.tm rfl),rfl,(S.tm rfl),trivial⟩ (cs:=[sV Bm,iV r1.1,iV r2.1,iV r3.1,iV r4.1,iV r5.1,iV r6.1,iV 0]) (by kernel_rfl)) rfl fun a S=>Iz S zeroValue38 (cs:=[sV An,iV 0,iV 0,iV 0,iV 0,iV 0,iV 0,iV 0]) rfl rfl ?_;clear S;intro a w14 b8 hz8 hk14 S
 refine Ft S (S.tm rfl) (S.tm rfl) (i:=0) (off:=0) rfl sizeOf38 (vs:=(Eu.enc (Eu.mk Bm r1.1 r2.1 r3.1 r4.1 r5.1 r6.1 0))) rfl rfl rfl rfl ?_;clear S;intro w15 hk15 S
 refine Ld ?_
 replace S:=(S.nl [.blk b8 (Eu.enc (Eu.mk Bm r1.1 r2.1 r3.1 r4.1 r5.1 r6.1 0)) 38,.blk b1 (Eu.enc (Eu.mk An 0 0 0 0 0 0 0)) 38,.blk O [Aa,iV r6.2] 25] [true,false,false,false,false,false,false,true,true] rfl).k3 0 4 5 rfl
 refine Tn (Fs ?_)
 obtain ⟨r7,hr7,h⟩:=Ga h
 refine Hd [7] ([O]) Tryz.mixed S rfl (by kernel_rfl) ?_;clear S;intro w19 hk19 hsel S
 refine Hb 0 S hsel rfl rfl (by kernel_rfl) (by kernel_rfl) rfl (fun _=>(Gb NZ (S.tm rfl))) fun a S=>Eo 1 S hsel rfl (by kernel_rfl) (by kernel_rfl) (by kernel_rfl) (by kernel_rfl) rfl (fun _ hw=>(Hw isAgg3 (off:=0) (o:=6) (S.tm rfl) ((S.blk_mem (i:=0) (cells:=(Eu.enc (Eu.mk Bm r1.1 r2.1 r3.1 r4.1 r5.1 r6.1 0))) (b:=b8) (T:=38) rfl (Nf (i:=2) (j:=0) (e:=.blk O [Aa,iV r6.2] 25) (e':=.blk b8 (Eu.enc (Eu.mk Bm r1.1 r2.1 r3.1 r4.1 r5.1 r6.1 0)) 38) S rfl rfl rfl)).kept hw) rfl)) fun a S=>Hb 2 S hsel rfl rfl (by kernel_rfl) (by kernel_rfl) rfl (fun _=>(Rm (S.tm rfl))) fun a S=>Hi 3 (by kernel_rfl) rfl (Fq S underlying22 sizeOf3 zeroValue3 rfl rfl (pv:=[(0,iV 0),(1,iV 5),(2,iV 90)]) ⟨rfl,rfl,rfl,rfl,rfl,rfl,trivial⟩ (cs:=[iV 0,iV 5,iV 90]) (by kernel_rfl) rfl ?_);clear S;intro a w20 b10 hz10 hk20 S
 refine Ld (It (Keep.none hk20) (Hi 4 (by kernel_rfl) rfl ?_))
 refine Ir 3 S (b:=O) rfl rfl (fun _=>.blk O [Aa,iV r7.2] 25) (fun _=>Ei (vs:=[.pointer (some ⟨O,0,none⟩),.slice (some ⟨b10,0,none⟩) 3 3]) ⟨(S.tm rfl),(S.tm rfl),trivial⟩ call33) (Kg _ O Aa Aq (Ap.mono (S.le_arg (Jr (i:=3) (e:=.blk O [Aa,iV r6.2] 25) rfl))) r6.2 (S.holds _ (List.mem_of_getElem? (i:=3) rfl)) (.slice (some ⟨b10,0,none⟩) 3 3) [0,5,90] (Lg Ju S (i:=0) rfl rfl rfl rfl ((Nf (i:=3) (j:=0) (e:=.blk O [Aa,iV r6.2] 25) (e':=.blk b10 [iV 0,iV 5,iV 90] 3) S rfl rfl rfl) _ rfl)) _ hr7) rfl (fun _ _ _ h=>⟨h.1,fun _ hc=>by cases hc;rfl⟩) ?_;clear S;intro v8 a w21 hv8 hk21 hn8 S
 replace hv8:=hv8.2
 subst hv8
 refine Ld (It hk21 (Hb 5 S hsel rfl rfl (by kernel_rfl) (by kernel_rfl) rfl (fun _=>(Gw (S.tm rfl) (S.tm rfl))) fun a S=>Hb 6 S hsel rfl rfl (by kernel_rfl) (by kernel_rfl) rfl (fun _=>(Gb OA (S.tm rfl))) fun a S=>Zb 7 ([O] ++ [b8]) rfl (by kernel_rfl) rfl (Ft S (S.tm rfl) (S.tm rfl) (i:=1) (off:=7) rfl sizeOf3 (vs:=[iV (W (r6.1 + r7.1))]) rfl rfl rfl rfl ?_)));clear S;intro w22 hk22 S
 refine Ld (Zc (Xy (by kernel_rfl) ?_))
 clear hsel
 replace S:=(S.nl [.blk b8 (Eu.enc (Eu.mk Bm r1.1 r2.1 r3.1 r4.1 r5.1 r6.1 (W (r6.1 + r7.1)))) 38,.blk b1 (Eu.enc (Eu.mk An 0 0 0 0 0 0 0)) 38,.blk O [Aa,iV r7.2] 25] [false,true,true,true] rfl).k2 4 5 rfl
 refine Tn (Fr (lv S (Gh isAgg38 sizeOf38 (off:=0) (o:=0) (part:=(Eu.enc (Eu.mk Bm r1.1 r2.1 r3.1 r4.1 r5.1 r6.1 (W (r6.1 + r7.1))))) rfl rfl (S.tm rfl) (S.cellsAt (i:=0) rfl)) rfl fun a S=>Ft S (S.tm rfl) (S.tm rfl) (i:=1) (off:=0) rfl sizeOf38 (vs:=(Eu.enc (Eu.mk Bm r1.1 r2.1 r3.1 r4.1 r5.1 r6.1 (W (r6.1 + r7.1))))) rfl rfl rfl rfl ?_));clear S;intro w23 hk23 S
 refine Dl (wp_ret ?_)
 obtain rfl:=Option.some.inj h
 exact Wh S (rs:=[.cell 4 38]) (vs:=[.agg (Eu.enc (Eu.mk Bm r1.1 r2.1 r3.1 r4.1 r5.1 r6.1 (W (r6.1 + r7.1)))).toArray]) results32 ⟨(Qy (off:=0) S rfl isAgg38 sizeOf38 rfl (S.cellsAt (i:=1) rfl)),trivial⟩ rfl ⟨(S.holds _ (List.mem_of_getElem? (i:=2) rfl)),rfl⟩
theorem EN (w : World) (O : Nat) (Aa : Value) (Aq : List Int) (Ap : Slc (view w [O]) 1 Aa (Aq.map eInt)) (Al : Int) (Az : (LEnt.blk O [Aa,iV Al] 25).holds w) (r : (List Eu) × Int) (h : Vw Aq Al = some r) :
    Calls prog 14 [.pointer (some ⟨O,0,none⟩)].toArray w (Ret w [O] fun τ v w'=>(LEnt.blk O [Aa,iV r.2] 25).holds w' ∧ Ve τ 38 8 v r.1.length (r.1.flatMap Eu.enc)):=by
 refine Nb [O] [.blk O [Aa,iV Al] 25] func14 rfl ntmps14 rfl (fun e he=>by simp only [List.mem_singleton] at he;subst he;exact Az) (by simp [fps,LEnt.fp]) (by simp [fps,LEnt.fp]) fun a S=>?_
 unfold Vw at h
 replace S:=(S.nl [.blk O [Aa,iV Al] 25] [true] rfl).k1 0 rfl
 refine Fr (Vk S rfl rfl fun a S=>Dz (Vk S rfl rfl ?_));clear S;intro a S
 replace S:=S.nil 38 8
 refine Dl (Fs (Fr (Fq S underlying43 sizeOf9 zeroValue9 rfl rfl (pv:=[(0,sV Qr),(1,sV Tq),(2,sV Wi)]) ⟨rfl,rfl,rfl,rfl,rfl,rfl,trivial⟩ (cs:=[sV Qr,sV Tq,sV Wi]) (by kernel_rfl) rfl ?_)));clear S;intro a w1 b1 hz1 hk1 S
 refine lv S (Gn DA (S.tm rfl) ⟨_,_,rfl⟩) rfl fun a S=>lv S (Rm rfl) rfl fun a S=>Dl ?_
 replace S:=(S.nl [.blk b1 [sV Qr,sV Tq,sV Wi] 9,.own (.slice none 0 0) 38 8 ([] : List Eu).length (([] : List Eu).flatMap Eu.enc),.blk O [Aa,iV Al] 25] [true,true,true] rfl).k5 0 3 6 7 8 rfl
 replace S:=S.litOwn (i:=0) (xs:=[Qr,Tq,Wi]) rfl Wx rfl rfl rfl
 replace S:=S.nk [.own (.slice (some ⟨b1,0,none⟩) 3 3) 9 1 ([Qr,Tq,Wi] : List ByteArray).length (([Qr,Tq,Wi] : List ByteArray).flatMap NM),.own (.slice none 0 0) 38 8 ([] : List Eu).length (([] : List Eu).flatMap Eu.enc),.blk O [Aa,iV Al] 25] [(0,.pointer (some ⟨O,0,none⟩)),(3,(.slice none 0 0)),(6,(.slice (some ⟨b1,0,none⟩) 3 3)),(7,iV (([Qr,Tq,Wi] : List ByteArray).length : Int)),(8,iV 0)] [] rfl (subR rfl)
 obtain ⟨φ1,hl1,hs1,S⟩:=S.freezeT (xs:=([Qr,Tq,Wi] : List ByteArray)) (enc:=NM) (i:=0) rfl (fun c hc hh=>EA S (i:=2) rfl rfl (j:=0) rfl rfl (by simp at hc;subst hc;exact hh))
 replace S:=S.nk [.own (.slice none 0 0) 38 8 ([] : List Eu).length (([] : List Eu).flatMap Eu.enc),.blk O [Aa,iV Al] 25] [(0,.pointer (some ⟨O,0,none⟩)),(3,(.slice none 0 0)),(6,(.slice (some ⟨b1,0,none⟩) 3 3)),(7,iV (([Qr,Tq,Wi] : List ByteArray).length : Int)),(8,iV 0)] [] rfl (subR rfl)
 obtain ⟨j1,hj1,h⟩:=Fk h
 refine Fa (fun a w'=>∃ x1 : List Eu,∃ x2 : Int,∃ v1 : Value,j1 x1 x2 = some r ∧ Sx w [O] φ1 [.own v1 38 8 x1.length (x1.flatMap Eu.enc),.blk O [Aa,iV x2] 25] [(3,v1)] 23 a w') ?_ ?_
 ·refine wp_block (Hs (fun (ys1 : List ByteArray) a w'=>∃ i1 : Nat,∃ x1 : List Eu,∃ x2 : Int,∃ v1 : Value,(∃ dn,([Qr,Tq,Wi] : List ByteArray) = dn ++ ys1 ∧ dn.length = i1) ∧ Lq Aq j1 ys1 i1 x1 x2 = some r ∧ Sx w [O] φ1 [.own v1 38 8 x1.length (x1.flatMap Eu.enc),.blk O [Aa,iV x2] 25] [(0,.pointer (some ⟨O,0,none⟩)),(3,v1),(6,(.slice (some ⟨b1,0,none⟩) 3 3)),(7,iV (([Qr,Tq,Wi] : List ByteArray).length : Int)),(8,iV (i1 : Int))] 23 a w') List.length ([Qr,Tq,Wi] : List ByteArray) ⟨0,([] : List Eu),Al,(.slice none 0 0),⟨[],rfl,rfl⟩,h,S.nf [true,true] rfl (subR rfl)⟩ ?_)
  clear S h;rintro ys1 a w2 ⟨i1,x1,x2,v1,⟨dn,hd1,hi1⟩,h,S⟩
  cases ys1 with
  | nil =>
   rw [Lq.eq_1] at h
   refine Fr (Vb S Fp rfl rfl rfl fun a S=>Ld ?_)
   replace S:=S.k6 0 3 6 7 8 9 rfl
   exact Tn (Fs (wp_cond_false ((S.tm rfl).trans (congrArg Value.bool (Jq hd1 hi1))) (wp_exit (Ew (Ew (Hl (Tn (⟨x1,x2,v1,h,S.nf [true,true] rfl ⟨rfl,trivial⟩⟩))))))))
  | cons y1 ys1 =>
   rw [Lq.eq_2] at h
   refine Fr (Vb S Fp rfl rfl rfl fun a S=>Ld ?_)
   replace S:=S.k6 0 3 6 7 8 9 rfl
   refine Tn (Fs (wp_cond_true ((S.tm rfl).trans (congrArg Value.bool (Iv hd1 hi1))) (wp_skip (Tn (Fs ?_)))))
   obtain ⟨j2,hj2,h⟩:=Fk h
   refine Fa (fun a w'=>∃ x3 : List Eu,∃ x4 : Int,∃ v2 : Value,j2 x3 x4 = some r ∧ Sx w [O] φ1 [.own v2 38 8 x3.length (x3.flatMap Eu.enc),.blk O [Aa,iV x4] 25] [(0,.pointer (some ⟨O,0,none⟩)),(3,v2),(6,(.slice (some ⟨b1,0,none⟩) 3 3)),(7,iV (([Qr,Tq,Wi] : List ByteArray).length : Int)),(8,iV (i1 : Int))] 23 a w') ?_ ?_
   ·refine wp_block (Fs (Fg ?_))
    obtain ⟨b2,o1,hm1,hr1⟩:=Fv (a:=a) (x:=.tmp 6) (y:=.tmp 8) (ty:=0) DA (Hn Wx hs1) (Js hd1 hi1) rfl (S.tm rfl) (S.tm rfl)
    refine lv S (hr1 _) rfl ?_;clear S;intro a S
    clear hr1
    refine lv S (Hw isAgg9 (off:=o1) (o:=0) (S.tm rfl) (hm1.at S.emb) rfl) rfl fun a S=>Va S rfl rfl fun a S=>Dz (Vm S rfl rfl ?_);clear S;intro a S
    obtain ⟨r1,hr2,h⟩:=Ga h
    refine Ir 1 S (b:=O) rfl rfl (fun _=>.blk O [Aa,iV r1.2] 25) (fun _=>Ei (vs:=[.pointer (some ⟨O,0,none⟩),iV 6]) ⟨(S.tm rfl),rfl,trivial⟩ call31) (Zr _ O Aa Aq (Ap.mono (S.le_arg (Jr (i:=1) (e:=.blk O [Aa,iV x2] 25) rfl))) x2 (S.holds _ (List.mem_of_getElem? (i:=1) rfl)) 6 _ hr2) rfl (fun _ _ _ h=>⟨h.1,fun _ hc=>by cases hc;rfl⟩) ?_;clear S;intro v3 a w5 hv1 hk2 hn1 S
    replace hv1:=hv1.2
    subst hv1
    refine Vu S Ig rfl rfl fun a S=>Dl ?_
    obtain ⟨j3,hj3,h⟩:=Fk h
    refine Fa (fun a w'=>∃ x5 : List Eu,∃ x6 : Int,∃ v4 : Value,j3 x5 x6 = some r ∧ Sx w [O] φ1 [.own v4 38 8 x5.length (x5.flatMap Eu.enc),.blk O [Aa,iV x6] 25] [(0,.pointer (some ⟨O,0,none⟩)),(3,v4),(6,(.slice (some ⟨b1,0,none⟩) 3 3)),(7,iV (([Qr,Tq,Wi] : List ByteArray).length : Int)),(8,iV (i1 : Int))] 23 a w') ?_ ?_
    ·refine Fc h (S.tm rfl) (fun hb1 h=>?_) (fun hb1 h=>?_)
     ·refine Fg ?_
      iterate 3 (refine Vm S rfl rfl ?_;clear S;intro a S)
      obtain ⟨r2,hr3,h⟩:=Ga h
      refine Ir 1 S (b:=O) rfl rfl (fun _=>.blk O [Aa,iV r2.2] 25) (fun _=>Ei (vs:=[.pointer (some ⟨O,0,none⟩),sV y1]) ⟨(S.tm rfl),(S.tm rfl),trivial⟩ call32) (FI _ O Aa Aq (Ap.mono (S.le_arg (Jr (i:=1) (e:=.blk O [Aa,iV r1.2] 25) rfl))) r1.2 (S.holds _ (List.mem_of_getElem? (i:=1) rfl)) y1 _ hr3) rfl (fun _ _ _ h=>⟨h.1,fun _ hc=>by cases hc;rfl⟩) ?_;clear S;intro v5 a w7 hv2 hk3 hn2 S
      replace hv2:=hv2.2
      subst hv2
      refine Fq S underlying26 sizeOf38 zeroValue38 rfl rfl (pv:=[(0,.agg (Eu.enc r2.1).toArray)]) ⟨rfl,(S.tm rfl),trivial⟩ (cs:=[sV r2.1.Key,iV r2.1.Metres,iV r2.1.Stroke,iV r2.1.Course,iV r2.1.Legs,iV r2.1.Sex,iV r2.1.Young,iV r2.1.Old]) (by kernel_rfl) rfl ?_;clear S;intro a w8 b3 hz2 hk4 S
      obtain ⟨hc1,h⟩:=Jc h
      refine Np Yq Eu.enc_ok S (S.tm rfl) (i:=1) rfl (S.tm rfl) (j:=0) rfl (ys:=[r2.1]) rfl rfl rfl rfl (by have:=Nx hc1;omega) rfl ?_;clear S;intro v6 a w9 hk5 S
      refine Va S rfl rfl fun a S=>Ld ?_
      replace S:=(S.nl [.own v6 38 8 (x1 ++ [r2.1]).length ((x1 ++ [r2.1]).flatMap Eu.enc),.blk O [Aa,iV r2.2] 25] [false,true,true] rfl).k5 0 3 6 7 8 rfl
      exact Tn (⟨(x1 ++ [r2.1]),r2.2,v6,h,S.nf [true,true] rfl (subR rfl)⟩)
     ·exact wp_skip (Tn (⟨x1,r1.2,v1,h,S.nf [true,true] rfl (subR rfl)⟩))
    clear S h;rintro a w6 ⟨x5,x6,v4,h,S⟩;rw [hj3] at h;clear hj3 j3
    exact Im (Tn (⟨x5,x6,v4,h,S.nf [true,true] rfl (subR rfl)⟩))
   clear S h;rintro a w4 ⟨x3,x4,v2,h,S⟩;rw [hj2] at h;clear hj2 j2
   exact Tn (Fg (Vq S Gw rfl rfl rfl fun a S=>Vm S rfl rfl fun a S=>Dl (⟨ys1,⟨i1 + 1,x3,x4,v2,⟨_,(hd1).trans (List.append_cons _ _ _),by simp [hi1]⟩,h,S.nf [true,true] rfl ⟨rfl,rfl,rfl,rfl,(congrArg (fun z=>some (Value.int .i64 z)) (Iw hd1 hi1 (Kh (Hn Wx hs1)))),trivial⟩⟩,Nat.lt_succ_self _⟩)))
 clear S h;rintro a w3 ⟨x1,x2,v1,h,S⟩;rw [hj1] at h;clear hj1 j1
 refine Tn (Fr (Vm S rfl rfl fun a S=>Va S rfl rfl fun a S=>Dl (wp_ret ?_)))
 obtain rfl:=Option.some.inj h
 exact Fd S results14 rfl ⟨(S.holds _ (List.mem_of_getElem? (i:=1) rfl)),(PB S (i:=0) rfl (fun c hc hh=>EA S (i:=1) rfl rfl (j:=0) rfl rfl (by simp at hc;subst hc;exact hh)))⟩
theorem Qx (w : World) (O : Nat) (Aa : Value) (Aq : List Int) (Ap : Slc (view w [O]) 1 Aa (Aq.map eInt)) (Al : Int) (Az : (LEnt.blk O [Aa,iV Al] 25).holds w) (Bt : Int) (Bk : Int) (r : Int × Int) (h : Ou Aq Al Bt Bk = some r) :
    Calls prog 6 [.pointer (some ⟨O,0,none⟩),iV Bt,iV Bk].toArray w (Ret w [O] fun _ v w'=>(LEnt.blk O [Aa,iV r.2] 25).holds w' ∧ v = iV r.1):=by
 refine Nb [O] [.blk O [Aa,iV Al] 25] func6 rfl ntmps6 rfl (fun e he=>by simp only [List.mem_singleton] at he;subst he;exact Az) (by simp [fps,LEnt.fp]) (by simp [fps,LEnt.fp]) fun a S=>?_
 unfold Ou at h
 replace S:=(S.nl [.blk O [Aa,iV Al] 25] [true] rfl).k3 0 1 2 rfl
 refine Fr (Vk S rfl rfl fun a S=>Dl (Fs (Fr (Vm S rfl rfl fun a S=>Vm S rfl rfl fun a S=>Vb S Fp rfl rfl rfl ?_))));clear S;intro a S
 refine Dl (Fc h (S.tm rfl) (fun hb1 h=>?_) (fun hb1 h=>?_))
 ·refine Fr (Vm S rfl rfl fun a S=>Va S rfl rfl fun a S=>Dl (wp_ret (Ek ?_)))
  obtain rfl:=Option.some.inj h
  exact Fd S results6 rfl ⟨(S.holds _ (List.mem_of_getElem? (i:=0) rfl)),rfl⟩
 ·refine wp_skip (Tn (Fs (Fg ?_)))
  iterate 4 (refine Vm S rfl rfl ?_;clear S;intro a S)
  refine Vb S Jt rfl rfl rfl fun a S=>Vq S Gw rfl rfl rfl ?_;clear S;intro a S
  obtain ⟨r1,hr1,h⟩:=Ga h
  refine Ir 0 S (b:=O) rfl rfl (fun _=>.blk O [Aa,iV r1.2] 25) (fun _=>Ei (vs:=[.pointer (some ⟨O,0,none⟩),iV (W ((W (Bk - Bt)) + 1))]) ⟨(S.tm rfl),(S.tm rfl),trivial⟩ call19) (Vr _ O Aa Aq (Ap.mono (S.le_arg (Jr (i:=0) (e:=.blk O [Aa,iV Al] 25) rfl))) Al (S.holds _ (List.mem_of_getElem? (i:=0) rfl)) (W ((W (Bk - Bt)) + 1)) _ hr1) rfl (fun _ _ _ h=>⟨h.1,fun _ hc=>by cases hc;rfl⟩) ?_;clear S;intro v1 a w1 hv1 hk1 hn1 S
  replace hv1:=hv1.2
  subst hv1
  refine Vb S Gw rfl rfl rfl fun a S=>Va S rfl rfl fun a S=>Ld ?_
  replace S:=(S.nl [.blk O [Aa,iV r1.2] 25] [true] rfl).k1 6 rfl
  refine Tn (wp_ret ?_)
  obtain rfl:=Option.some.inj h
  exact Fd S results6 rfl ⟨(S.holds _ (List.mem_of_getElem? (i:=0) rfl)),rfl⟩
theorem DK (w : World) (O : Nat) (Aa : Value) (Aq : List Int) (Ap : Slc (view w [O]) 1 Aa (Aq.map eInt)) (Al : Int) (Az : (LEnt.blk O [Aa,iV Al] 25).holds w) (r : Nh × Int) (h : Si Aq Al = some r) :
    Calls prog 15 [.pointer (some ⟨O,0,none⟩)].toArray w (Ret w [O] fun τ v w'=>(LEnt.blk O [Aa,iV r.2] 25).holds w' ∧ ∃ q : R28,v = .agg (R28.enc q).toArray ∧ Zp τ r.1 q):=by
 refine Nb [O] [.blk O [Aa,iV Al] 25] func15 rfl ntmps15 rfl (fun e he=>by simp only [List.mem_singleton] at he;subst he;exact Az) (by simp [fps,LEnt.fp]) (by simp [fps,LEnt.fp]) fun a S=>?_
 unfold Si at h
 replace S:=(S.nl [.blk O [Aa,iV Al] 25] [true] rfl).k1 0 rfl
 refine Fr (Iz S zeroValue28 (cs:=[.slice none 0 0,iV 0,iV 0]) rfl rfl ?_);clear S;intro a w1 b1 hz1 hk1 S
 replace S:=S.nil 3 1
 refine Dz (Vm S rfl rfl fun a S=>Fq S underlying22 sizeOf3 zeroValue3 rfl rfl (pv:=[(0,iV 1),(1,iV 2)]) ⟨rfl,rfl,rfl,rfl,trivial⟩ (cs:=[iV 1,iV 2]) (by kernel_rfl) rfl ?_);clear S;intro a w2 b2 hz2 hk2 S
 obtain ⟨r1,hr1,h⟩:=Ga h
 refine Ir 3 S (b:=O) rfl rfl (fun _=>.blk O [Aa,iV r1.2] 25) (fun _=>Ei (vs:=[.pointer (some ⟨O,0,none⟩),.slice (some ⟨b2,0,none⟩) 2 2]) ⟨(S.tm rfl),(S.tm rfl),trivial⟩ call33) (Kg _ O Aa Aq (Ap.mono (S.le_arg (Jr (i:=3) (e:=.blk O [Aa,iV Al] 25) rfl))) Al (S.holds _ (List.mem_of_getElem? (i:=3) rfl)) (.slice (some ⟨b2,0,none⟩) 2 2) [1,2] (Lg Ju S (i:=0) rfl rfl rfl rfl ((Nf (i:=3) (j:=0) (e:=.blk O [Aa,iV Al] 25) (e':=.blk b2 [iV 1,iV 2] 3) S rfl rfl rfl) _ rfl)) _ hr1) rfl (fun _ _ _ h=>⟨h.1,fun _ hc=>by cases hc;rfl⟩) ?_;clear S;intro v1 a w3 hv1 hk3 hn1 S
 replace hv1:=hv1.2
 subst hv1
 refine Vm S rfl rfl fun a S=>Fq S underlying22 sizeOf3 zeroValue3 rfl rfl (pv:=[(0,iV 0),(1,iV 0),(2,iV 1),(3,iV 2)]) ⟨rfl,rfl,rfl,rfl,rfl,rfl,rfl,rfl,trivial⟩ (cs:=[iV 0,iV 0,iV 1,iV 2]) (by kernel_rfl) rfl ?_;clear S;intro a w4 b3 hz3 hk4 S
 obtain ⟨r2,hr2,h⟩:=Ga h
 refine Ir 4 S (b:=O) rfl rfl (fun _=>.blk O [Aa,iV r2.2] 25) (fun _=>Ei (vs:=[.pointer (some ⟨O,0,none⟩),.slice (some ⟨b3,0,none⟩) 4 4]) ⟨(S.tm rfl),(S.tm rfl),trivial⟩ call33) (Kg _ O Aa Aq (Ap.mono (S.le_arg (Jr (i:=4) (e:=.blk O [Aa,iV r1.2] 25) rfl))) r1.2 (S.holds _ (List.mem_of_getElem? (i:=4) rfl)) (.slice (some ⟨b3,0,none⟩) 4 4) [0,0,1,2] (Lg Ju S (i:=0) rfl rfl rfl rfl ((Nf (i:=4) (j:=0) (e:=.blk O [Aa,iV r1.2] 25) (e':=.blk b3 [iV 0,iV 0,iV 1,iV 2] 3) S rfl rfl rfl) _ rfl)) _ hr2) rfl (fun _ _ _ h=>⟨h.1,fun _ hc=>by cases hc;rfl⟩) ?_;clear S;intro v2 a w5 hv2 hk5 hn2 S
 replace hv2:=hv2.2
 subst hv2
 refine lv S (Nc bt_28 (pv:=[(1,iV r1.1),(2,iV r2.1)]) ⟨rfl,(S.tm rfl),rfl,(S.tm rfl),trivial⟩ (cs:=[.slice none 0 0,iV r1.1,iV r2.1]) (by kernel_rfl)) rfl fun a S=>Iz S zeroValue28 (cs:=[.slice none 0 0,iV 0,iV 0]) rfl rfl ?_;clear S;intro a w6 b4 hz4 hk6 S
 replace S:=S.nil 3 1
 refine Ft S (S.tm rfl) (S.tm rfl) (i:=1) (off:=0) rfl sizeOf28 (vs:=[.slice none 0 0,iV r1.1,iV r2.1]) rfl rfl rfl rfl ?_;clear S;intro w7 hk7 S
 replace S:=S.nil 3 1
 refine Ld ?_
 replace S:=(S.nl [.own (.slice none 0 0) 3 1 ([] : List Int).length (([] : List Int).flatMap eInt),.blk b4 [(.slice none 0 0),iV r1.1,iV r2.1] 28,.own (.slice none 0 0) 3 1 ([] : List Int).length (([] : List Int).flatMap eInt),.blk b1 [(.slice none 0 0),iV 0,iV 0] 28,.blk O [Aa,iV r2.2] 25] [true,false,true,false,false,true,true,true] rfl).k3 0 2 3 rfl
 refine Tn (Fr (Vm S rfl rfl fun a S=>Fq S underlying22 sizeOf3 zeroValue3 rfl rfl (pv:=[(0,iV 10),(1,iV 9),(2,iV 7),(3,iV 5)]) ⟨rfl,rfl,rfl,rfl,rfl,rfl,rfl,rfl,trivial⟩ (cs:=[iV 10,iV 9,iV 7,iV 5]) (by kernel_rfl) rfl ?_));clear S;intro a w8 b5 hz5 hk8 S
 obtain ⟨r3,hr3,h⟩:=Ga h
 refine Ir 5 S (b:=O) rfl rfl (fun _=>.blk O [Aa,iV r3.2] 25) (fun _=>Ei (vs:=[.pointer (some ⟨O,0,none⟩),.slice (some ⟨b5,0,none⟩) 4 4]) ⟨(S.tm rfl),(S.tm rfl),trivial⟩ call33) (Kg _ O Aa Aq (Ap.mono (S.le_arg (Jr (i:=5) (e:=.blk O [Aa,iV r2.2] 25) rfl))) r2.2 (S.holds _ (List.mem_of_getElem? (i:=5) rfl)) (.slice (some ⟨b5,0,none⟩) 4 4) [10,9,7,5] (Lg Ju S (i:=0) rfl rfl rfl rfl ((Nf (i:=5) (j:=0) (e:=.blk O [Aa,iV r2.2] 25) (e':=.blk b5 [iV 10,iV 9,iV 7,iV 5] 3) S rfl rfl rfl) _ rfl)) _ hr3) rfl (fun _ _ _ h=>⟨h.1,fun _ hc=>by cases hc;rfl⟩) ?_;clear S;intro v3 a w9 hv3 hk9 hn3 S
 replace hv3:=hv3.2
 subst hv3
 refine Va S rfl rfl fun a S=>Ld ?_
 replace S:=(S.nl [.own (.slice none 0 0) 3 1 ([] : List Int).length (([] : List Int).flatMap eInt),.blk b4 [(.slice none 0 0),iV r1.1,iV r2.1] 28,.own (.slice none 0 0) 3 1 ([] : List Int).length (([] : List Int).flatMap eInt),.blk b1 [(.slice none 0 0),iV 0,iV 0] 28,.blk O [Aa,iV r3.2] 25] [false,true,true,true,true,true] rfl).k4 0 2 3 4 rfl
 refine Tn (Fs (Fr (Vm S rfl rfl ?_)));clear S;intro a S
 obtain ⟨r4,hr4,h⟩:=Ga h
 refine Ir 4 S (b:=O) rfl rfl (fun _=>.blk O [Aa,iV r4.2] 25) (fun _=>Ei (vs:=[.pointer (some ⟨O,0,none⟩),iV 0,iV 5]) ⟨(S.tm rfl),rfl,rfl,trivial⟩ call6) (Qx _ O Aa Aq (Ap.mono (S.le_arg (Jr (i:=4) (e:=.blk O [Aa,iV r3.2] 25) rfl))) r3.2 (S.holds _ (List.mem_of_getElem? (i:=4) rfl)) 0 5 _ hr4) rfl (fun _ _ _ h=>⟨h.1,fun _ hc=>by cases hc;rfl⟩) ?_;clear S;intro v4 a w10 hv4 hk10 hn4 S
 replace hv4:=hv4.2
 subst hv4
 refine lv S (Rm rfl) rfl fun a S=>Dl ?_
 replace S:=(S.nl [.own (.slice none 0 0) 3 1 ([] : List Int).length (([] : List Int).flatMap eInt),.blk b4 [(.slice none 0 0),iV r1.1,iV r2.1] 28,.own (.slice none 0 0) 3 1 ([] : List Int).length (([] : List Int).flatMap eInt),.blk b1 [(.slice none 0 0),iV 0,iV 0] 28,.blk O [Aa,iV r4.2] 25] [true,true,true,true,true] rfl).k6 0 2 3 4 16 17 rfl
 obtain ⟨j1,hj1,h⟩:=Fk h
 refine Fa (fun a w'=>∃ x1 : List Int,∃ x2 : Int,∃ v5 : Value,j1 x1 x2 = some r ∧ Sx w [O] nov [.own v5 3 1 x1.length (x1.flatMap eInt),.blk b4 [v5,iV r1.1,iV r2.1] 28,.own (.slice none 0 0) 3 1 ([] : List Int).length (([] : List Int).flatMap eInt),.blk b1 [(.slice none 0 0),iV 0,iV 0] 28,.blk O [Aa,iV x2] 25] [(2,.pointer (some ⟨b1,0,none⟩)),(3,.pointer (some ⟨b4,0,none⟩))] 33 a w') ?_ ?_
 ·refine wp_block (Hs (fun (m1 : Nat) a w'=>∃ x1 : List Int,∃ x2 : Int,∃ x3 : Int,∃ x4 : Int,∃ v5 : Value,Kx r4 Aq j1 m1 x1 x2 x3 x4 = some r ∧ Sx w [O] nov [.own v5 3 1 x1.length (x1.flatMap eInt),.blk b4 [v5,iV r1.1,iV r2.1] 28,.own (.slice none 0 0) 3 1 ([] : List Int).length (([] : List Int).flatMap eInt),.blk b1 [(.slice none 0 0),iV 0,iV 0] 28,.blk O [Aa,iV x2] 25] [(0,.pointer (some ⟨O,0,none⟩)),(2,.pointer (some ⟨b1,0,none⟩)),(3,.pointer (some ⟨b4,0,none⟩)),(4,iV x3),(16,iV r4.1),(17,iV x4)] 33 a w') id ((r4.1 - 0).toNat + 2) ⟨([] : List Int),r4.2,r3.1,0,(.slice none 0 0),h,S.nf [true,true,true,true,true] rfl (subR rfl)⟩ ?_)
  clear S h;rintro m1 a w11 ⟨x1,x2,x3,x4,v5,h,S⟩
  cases m1 with
  | zero=>rw [Kx.eq_1] at h;cases h
  | succ m1 =>
   rw [Kx.eq_2] at h
   refine Fr (Vb S Fp rfl rfl rfl fun a S=>Dl (Fs (Fc h (S.tm rfl) (fun hb1 h=>?_) (fun hb1 h=>?_))))
   ·refine wp_skip (Tn (Fs (wp_block (Fr (Vf BV S rfl rfl fun a S=>Vl isAgg22 1 S rfl rfl rfl rfl fun a S=>Vm S rfl rfl fun a S=>Fq S underlying22 sizeOf3 zeroValue3 rfl rfl (pv:=[(0,iV x3)]) ⟨rfl,(S.tm rfl),trivial⟩ (cs:=[iV x3]) (by kernel_rfl) rfl ?_)))));clear S;intro a w13 b6 hz6 hk11 S
    obtain ⟨hc1,h⟩:=Jc h
    refine Np Qh Ju S (S.tm rfl) (i:=1) rfl (S.tm rfl) (j:=0) rfl (ys:=[x3]) rfl rfl rfl rfl (by have:=Nx hc1;omega) rfl ?_;clear S;intro v6 a w14 hk12 S
    refine Vf BV S rfl rfl fun a S=>Ft S (S.tm rfl) (S.tm rfl) (i:=2) (off:=0) rfl sizeOf22 (vs:=[v6]) (Lo.cells (Qb (S.own_at (i:=1) rfl))) rfl rfl (Rf (Lo.one (Qb (S.own_at (i:=1) rfl))) rfl) ?_;clear S;intro w15 hk13 S
    refine Ld ?_
    replace S:=(S.nl [.own v6 3 1 (x1 ++ [x3]).length ((x1 ++ [x3]).flatMap eInt),.blk b4 [v6,iV r1.1,iV r2.1] 28,.own (.slice none 0 0) 3 1 ([] : List Int).length (([] : List Int).flatMap eInt),.blk b1 [(.slice none 0 0),iV 0,iV 0] 28,.blk O [Aa,iV x2] 25] [false,true,true,true,true,true] rfl).k6 0 2 3 4 16 17 rfl
    refine Tn (Fg (Vm S rfl rfl fun a S=>Vm S rfl rfl fun a S=>Fq S underlying22 sizeOf3 zeroValue3 rfl rfl (pv:=[(0,iV 0),(1,iV 1),(2,iV 2),(3,iV 3)]) ⟨rfl,rfl,rfl,rfl,rfl,rfl,rfl,rfl,trivial⟩ (cs:=[iV 0,iV 1,iV 2,iV 3]) (by kernel_rfl) rfl ?_));clear S;intro a w16 b7 hz7 hk14 S
    obtain ⟨r5,hr5,h⟩:=Ga h
    refine Ir 5 S (b:=O) rfl rfl (fun _=>.blk O [Aa,iV r5.2] 25) (fun _=>Ei (vs:=[.pointer (some ⟨O,0,none⟩),.slice (some ⟨b7,0,none⟩) 4 4]) ⟨(S.tm rfl),(S.tm rfl),trivial⟩ call33) (Kg _ O Aa Aq (Ap.mono (S.le_arg (Jr (i:=5) (e:=.blk O [Aa,iV x2] 25) rfl))) x2 (S.holds _ (List.mem_of_getElem? (i:=5) rfl)) (.slice (some ⟨b7,0,none⟩) 4 4) [0,1,2,3] (Lg Ju S (i:=0) rfl rfl rfl rfl ((Nf (i:=5) (j:=0) (e:=.blk O [Aa,iV x2] 25) (e':=.blk b7 [iV 0,iV 1,iV 2,iV 3] 3) S rfl rfl rfl) _ rfl)) _ hr5) rfl (fun _ _ _ h=>⟨h.1,fun _ hc=>by cases hc;rfl⟩) ?_;clear S;intro v7 a w17 hv5 hk15 hn5 S
    replace hv5:=hv5.2
    subst hv5
    refine Vb S Jt rfl rfl rfl fun a S=>Vu S (SP rfl) rfl rfl fun a S=>Va S rfl rfl fun a S=>Ld ?_
    replace S:=(S.nl [.own v6 3 1 (x1 ++ [x3]).length ((x1 ++ [x3]).flatMap eInt),.blk b4 [v6,iV r1.1,iV r2.1] 28,.own (.slice none 0 0) 3 1 ([] : List Int).length (([] : List Int).flatMap eInt),.blk b1 [(.slice none 0 0),iV 0,iV 0] 28,.blk O [Aa,iV r5.2] 25] [false,true,true,true,true,true] rfl).k6 0 2 3 4 16 17 rfl
    exact Im (Tn (Fg (Vq S Gw rfl rfl rfl fun a S=>Vm S rfl rfl fun a S=>Dl (⟨m1,⟨(x1 ++ [x3]),r5.2,HA 0 (W (x3 - r5.1)),W (x4 + 1),v6,h,S.nf [true,true,true,true,true] rfl ⟨rfl,rfl,rfl,rfl,rfl,rfl,trivial⟩⟩,Nat.lt_succ_self _⟩))))
   ·exact wp_exit (Ew (Ew (Hl (Tn (⟨x1,x2,v5,h,S.nf [true,true,true,true,true] rfl (subR rfl)⟩)))))
 clear S h;rintro a w12 ⟨x1,x2,v5,h,S⟩;rw [hj1] at h;clear hj1 j1
 refine Tn (Fr (lv S (Gh isAgg28 sizeOf28 (off:=0) (o:=0) (part:=[v5,iV r1.1,iV r2.1]) rfl rfl (S.tm rfl) (S.cellsAt (i:=1) rfl)) rfl fun a S=>Ft S (S.tm rfl) (S.tm rfl) (i:=3) (off:=0) rfl sizeOf28 (vs:=[v5,iV r1.1,iV r2.1]) rfl rfl rfl (Rf (Lo.one (Qb (S.own_at (i:=0) rfl))) (Rf rfl (Rf rfl rfl))) ?_));clear S;intro w18 hk16 S
 refine Dl (wp_ret ?_)
 obtain ⟨φ1,hl1,hs1,S⟩:=S.freezeT (xs:=x1) (enc:=eInt) (i:=0) rfl (fun c hc hh=>EA S (i:=4) rfl rfl (j:=0) rfl rfl (by simp at hc;subst hc;exact hh))
 replace S:=S.nk [.blk b4 [v5,iV r1.1,iV r2.1] 28,.own (.slice none 0 0) 3 1 ([] : List Int).length (([] : List Int).flatMap eInt),.blk b1 [v5,iV r1.1,iV r2.1] 28,.blk O [Aa,iV x2] 25] [(2,.pointer (some ⟨b1,0,none⟩)),(3,.pointer (some ⟨b4,0,none⟩)),(32,.agg #[v5,iV r1.1,iV r2.1])] [] rfl (subR rfl)
 obtain rfl:=Option.some.inj h
 exact Wh S (rs:=[.cell 2 28]) (vs:=[.agg (R28.enc (R28.mk ⟨v5,Lo.one (Gk (Hn Ju hs1))⟩ r1.1 r2.1)).toArray]) results15 ⟨(Qy (off:=0) S rfl isAgg28 sizeOf28 rfl (S.cellsAt (i:=2) rfl)),trivial⟩ rfl ⟨(S.holds _ (List.mem_of_getElem? (i:=3) rfl)),⟨(R28.mk ⟨v5,Lo.one (Gk (Hn Ju hs1))⟩ r1.1 r2.1),rfl,AC S.le_newer _ _ ⟨⟨v5,Lo.one (Gk (Hn Ju hs1))⟩,rfl,(Hn Ju hs1)⟩⟩⟩
theorem BX (w : World) (Au : Value) (Aw : List Eu) (Ds : (LEnt.own Au 38 8 Aw.length (Aw.flatMap Eu.enc)).holds w) (r : (List Eu)) (h : Qz Aw = some r) :
    Calls prog 16 [Au].toArray w (Ret w (Au.ownBlock.toList) fun _ v w'=>(LEnt.own Au 38 8 r.length (r.flatMap Eu.enc)).holds w' ∧ v = .tuple #[]):=by
 refine Nb (Au.ownBlock.toList) [.own Au 38 8 Aw.length (Aw.flatMap Eu.enc)] func16 rfl ntmps16 rfl (fun e he=>by simp only [List.mem_singleton] at he;subst he;exact Ds) (Kw _) (Mv _) fun a S=>?_
 unfold Qz at h
 replace S:=(S.nl [.own Au 38 8 Aw.length (Aw.flatMap Eu.enc)] [true] rfl).k1 0 rfl
 refine Fr (Vm S rfl rfl fun a S=>lv S (Gn Yq (S.tm rfl) (Qb (S.own_at (i:=0) rfl))) rfl fun a S=>Vq S Jt rfl rfl rfl fun a S=>Vk S rfl rfl fun a S=>Va S rfl rfl fun a S=>Dl ?_)
 replace S:=S.k3 0 2 3 rfl
 obtain ⟨j1,hj1,h⟩:=Fk h
 refine Fa (fun a w'=>∃ x1 : List Eu,j1 x1 = some r ∧ Sx w (Au.ownBlock.toList) nov [.own Au 38 8 x1.length (x1.flatMap Eu.enc)] [] 28 a w') ?_ ?_
 ·refine wp_block (Hs (fun (m1 : Nat) a w'=>∃ x1 : List Eu,∃ x2 : Int,∃ x3 : Int,Kd j1 m1 x1 x2 x3 = some r ∧ Sx w (Au.ownBlock.toList) nov [.own Au 38 8 x1.length (x1.flatMap Eu.enc)] [(0,Au),(2,iV x2),(3,iV x3)] 28 a w') id (((W ((Aw.length : Int) - 1)) - 0).toNat + 2) ⟨Aw,0,W ((Aw.length : Int) - 1),h,S.nf [true] rfl (subR rfl)⟩ ?_)
  clear S h;rintro m1 a w1 ⟨x1,x2,x3,h,S⟩
  cases m1 with
  | zero=>rw [Kd.eq_1] at h;cases h
  | succ m1 =>
   rw [Kd.eq_2] at h
   refine Fs (Fr (Vm S rfl rfl fun a S=>Vm S rfl rfl fun a S=>Vb S Fp rfl rfl rfl fun a S=>Dl (Fc h (S.tm rfl) (fun hb1 h=>?_) (fun hb1 h=>?_))))
   ·refine wp_skip (Tn (Fs (wp_block ?_)))
    obtain ⟨hc1,h⟩:=Jc h
    obtain ⟨hc2,h⟩:=Jc h
    obtain ⟨hc3,h⟩:=Jc h
    obtain ⟨hc4,h⟩:=Jc h
    refine Hd [13,15] ([]) Tryz.mixed S rfl (by kernel_rfl) ?_;clear S;intro w7 hk5 hsel S
    refine Hb 0 S hsel rfl rfl (by kernel_rfl) (by kernel_rfl) rfl (fun _=>(Rm (S.tm rfl))) fun a S=>Hb 1 S hsel rfl rfl (by kernel_rfl) (by kernel_rfl) rfl (fun _=>(Rm (S.tm rfl))) fun a S=>Hb 2 S hsel rfl rfl (by kernel_rfl) (by kernel_rfl) rfl (fun _=>(Rm (S.tm rfl))) fun a S=>Hb 3 S hsel rfl rfl (by kernel_rfl) (by kernel_rfl) rfl (fun _=>(Rm (S.tm rfl))) fun a S=>Hb 4 S hsel rfl rfl (by kernel_rfl) (by kernel_rfl) rfl (fun _=>(Rm (S.tm rfl))) fun a S=>Hb 5 S hsel rfl rfl (by kernel_rfl) (by kernel_rfl) rfl (fun _=>(Rm (S.tm rfl))) ?_;clear S;intro a S
    obtain ⟨b5,hg5,hr5⟩:=Hy (a:=a) (x:=.tmp 18) (y:=.tmp 19) (ty:=0) Yq Eu.enc_ok S (i:=0) rfl (Es hc1).1 (Es hc1).2 (S.tm rfl) (S.tm rfl)
    refine Hb 6 S hsel rfl rfl (by kernel_rfl) (by kernel_rfl) rfl (fun _=>(hr5 _)) ?_;clear S;intro a S
    clear hr5
    refine Eo 7 S hsel rfl (by kernel_rfl) (by kernel_rfl) (by kernel_rfl) (by kernel_rfl) rfl (fun _ hw=>(Gh isAgg38 sizeOf38 (off:=x3.toNat * 8) (o:=0) (part:=(Eu.enc (nth x1 x3))) rfl rfl (S.tm rfl) ((Pm Eu.enc_ok S (i:=0) rfl hg5 (Es hc1).1 (Ik (e':=.own Au 38 8 x1.length (x1.flatMap Eu.enc)))).kept hw))) fun a S=>Hb 8 S hsel rfl rfl (by kernel_rfl) (by kernel_rfl) rfl (fun _=>(Rm (S.tm rfl))) fun a S=>Hb 9 S hsel rfl rfl (by kernel_rfl) (by kernel_rfl) rfl (fun _=>(Rm (S.tm rfl))) ?_;clear S;intro a S
    obtain ⟨b6,hg6,hr6⟩:=Hy (a:=a) (x:=.tmp 22) (y:=.tmp 23) (ty:=0) Yq Eu.enc_ok S (i:=0) rfl (Es hc2).1 (Es hc2).2 (S.tm rfl) (S.tm rfl)
    refine Hb 10 S hsel rfl rfl (by kernel_rfl) (by kernel_rfl) rfl (fun _=>(hr6 _)) ?_;clear S;intro a S
    clear hr6
    refine Eo 11 S hsel rfl (by kernel_rfl) (by kernel_rfl) (by kernel_rfl) (by kernel_rfl) rfl (fun _ hw=>(Gh isAgg38 sizeOf38 (off:=x2.toNat * 8) (o:=0) (part:=(Eu.enc (nth x1 x2))) rfl rfl (S.tm rfl) ((Pm Eu.enc_ok S (i:=0) rfl hg6 (Es hc2).1 (Ik (e':=.own Au 38 8 x1.length (x1.flatMap Eu.enc)))).kept hw))) ?_;clear S;intro a S
    obtain ⟨b7,hg7,hr7⟩:=Hy (a:=a) (x:=.tmp 14) (y:=.tmp 15) (ty:=0) Yq Eu.enc_ok S (i:=0) rfl (Es hc3).1 (Es hc3).2 (S.tm rfl) (S.tm rfl)
    refine Hb 12 S hsel rfl rfl (by kernel_rfl) (by kernel_rfl) rfl (fun _=>(hr7 _)) ?_;clear S;intro a S
    clear hr7
    refine Zb 13 (Au.ownBlock.toList) rfl (by kernel_rfl) rfl (Qn (c:=0) (j:=x2.toNat) (nth x1 x3) Eu.enc_ok S (S.tm rfl) (S.tm rfl) (i:=0) rfl hg7 (Es hc3).1 sizeOf38 (vs:=[sV ((nth x1 x3).Key),iV ((nth x1 x3).Metres),iV ((nth x1 x3).Stroke),iV ((nth x1 x3).Course),iV ((nth x1 x3).Legs),iV ((nth x1 x3).Sex),iV ((nth x1 x3).Young),iV ((nth x1 x3).Old)]) rfl rfl rfl rfl rfl ?_);clear S;intro w9 hk7 S
    refine Ld (Zc ?_)
    obtain ⟨b8,hg8,hr8⟩:=Hy (a:=a) (x:=.tmp 16) (y:=.tmp 17) (ty:=0) Yq Eu.enc_ok S (i:=0) rfl (Es hc4).1 (Es hc4).2 (S.tm rfl) (S.tm rfl)
    refine Eo 14 S hsel rfl rfl rfl (by kernel_rfl) (by kernel_rfl) rfl (fun _ hw=>(hr8 _)) ?_;clear S;intro a S
    clear hr8
    refine Hi 15 (by kernel_rfl) rfl (Qn (c:=0) (j:=x3.toNat) (nth x1 x2) Eu.enc_ok S (S.tm rfl) (S.tm rfl) (i:=0) rfl hg8 (Es hc4).1 sizeOf38 (vs:=[sV ((nth x1 x2).Key),iV ((nth x1 x2).Metres),iV ((nth x1 x2).Stroke),iV ((nth x1 x2).Course),iV ((nth x1 x2).Legs),iV ((nth x1 x2).Sex),iV ((nth x1 x2).Young),iV ((nth x1 x2).Old)]) rfl rfl rfl rfl rfl ?_);clear S;intro w11 hk9 S
    refine Ld (It hk9 (Xy (by kernel_rfl) ?_))
    clear hsel
    replace S:=(S.nl [.own Au 38 8 ((x1.set x2.toNat (nth x1 x3)).set x3.toNat (nth x1 x2)).length (((x1.set x2.toNat (nth x1 x3)).set x3.toNat (nth x1 x2)).flatMap Eu.enc)] [true] rfl).k3 0 2 3 rfl
    refine Im (Tn (Fg (Vm S rfl rfl fun a S=>Vq S Gw rfl rfl rfl fun a S=>Vm S rfl rfl fun a S=>Vq S Jt rfl rfl rfl fun a S=>Va S rfl rfl fun a S=>Va S rfl rfl fun a S=>Dl ?_)))
    exact ⟨m1,⟨((x1.set x2.toNat (nth x1 x3)).set x3.toNat (nth x1 x2)),W (x2 + 1),W (x3 - 1),h,S.nf [true] rfl ⟨rfl,rfl,rfl,trivial⟩⟩,Nat.lt_succ_self _⟩
   ·exact wp_exit (Ew (Ew (Hl (Tn (⟨x1,h,S.nf [true] rfl trivial⟩)))))
 clear S h;rintro a w2 ⟨x1,h,S⟩;rw [hj1] at h;clear hj1 j1
 obtain rfl:=Option.some.inj h
 exact Vg S results16 ⟨(S.holds _ (List.mem_of_getElem? (i:=0) rfl)),rfl⟩
theorem EO (w : World) (O : Nat) (Aa : Value) (Aq : List Int) (Ap : Slc (view w [O]) 1 Aa (Aq.map eInt)) (Al : Int) (Az : (LEnt.blk O [Aa,iV Al] 25).holds w) (r : Ni × Int) (h : Tf Aq Al = some r) :
    Calls prog 4 [.pointer (some ⟨O,0,none⟩)].toArray w (Ret w [O] fun τ v w'=>(LEnt.blk O [Aa,iV r.2] 25).holds w' ∧ ∃ q : R32,v = .agg (R32.enc q).toArray ∧ Wm τ r.1 q):=by
 refine Nb [O] [.blk O [Aa,iV Al] 25] func4 rfl ntmps4 rfl (fun e he=>by simp only [List.mem_singleton] at he;subst he;exact Az) (by simp [fps,LEnt.fp]) (by simp [fps,LEnt.fp]) fun a S=>?_
 unfold Tf at h
 replace S:=(S.nl [.blk O [Aa,iV Al] 25] [true] rfl).k1 0 rfl
 refine Fr (Iz S zeroValue32 (cs:=[.slice none 0 0,.slice none 0 0,iV 0,iV 0,iV 0,iV 0,iV 0]) rfl rfl ?_);clear S;intro a w1 b1 hz1 hk1 S
 refine Dz (Vm S rfl rfl ?_);clear S;intro a S
 obtain ⟨r1,hr1,h⟩:=Ga h
 have hz2:=S.keep.size
 refine Ir 1 S (b:=O) rfl rfl (fun _=>.blk O [Aa,iV r1.2] 25) (fun _=>Ei (vs:=[.pointer (some ⟨O,0,none⟩)]) ⟨(S.tm rfl),trivial⟩ call14) (EN _ O Aa Aq (Ap.mono (S.le_arg (Jr (i:=1) (e:=.blk O [Aa,iV Al] 25) rfl))) Al (S.holds _ (List.mem_of_getElem? (i:=1) rfl)) _ hr1) rfl (fun _ _ _ h=>⟨h.1,fun _ hc=>by cases hc;rfl⟩) ?_;clear S;intro v1 a w2 hv1 hk2 hn1 S
 replace hv1:=hv1.2
 replace S:=S.take hn1 hz2 hv1
 refine Vm S rfl rfl ?_;clear S;intro a S
 obtain ⟨r2,hr2,h⟩:=Ga h
 have hz3:=S.keep.size
 refine Ir 2 S (b:=O) rfl rfl (fun _=>.blk O [Aa,iV r2.2] 25) (fun _=>Ei (vs:=[.pointer (some ⟨O,0,none⟩)]) ⟨(S.tm rfl),trivial⟩ call15) (DK _ O Aa Aq (Ap.mono (S.le_arg (Jr (i:=2) (e:=.blk O [Aa,iV r1.2] 25) rfl))) r1.2 (S.holds _ (List.mem_of_getElem? (i:=2) rfl)) _ hr2) rfl (fun _ _ _ h=>⟨h.1,fun _ hc=>by cases hc;rfl⟩) ?_;clear S;intro v2 a w3 hv2 hk3 hn2 S
 replace hv2:=hv2.2
 obtain ⟨q1,rfl,hq1⟩:=hv2
 obtain ⟨φ1,hl1,hm1,S⟩:=S.see' hn2 hz3
 obtain ⟨u3,rfl,hs1⟩:=AC hm1 _ _ hq1
 refine Vm S rfl rfl ?_;clear S;intro a S
 obtain ⟨r3,hr3,h⟩:=Ga h
 refine Ir 2 S (b:=O) rfl rfl (fun _=>.blk O [Aa,iV r3.2] 25) (fun _=>Ei (vs:=[.pointer (some ⟨O,0,none⟩),iV 1,iV 3]) ⟨(S.tm rfl),rfl,rfl,trivial⟩ call6) (Qx _ O Aa Aq (Ap.mono (S.le_arg (Jr (i:=2) (e:=.blk O [Aa,iV r2.2] 25) rfl))) r2.2 (S.holds _ (List.mem_of_getElem? (i:=2) rfl)) 1 3 _ hr3) rfl (fun _ _ _ h=>⟨h.1,fun _ hc=>by cases hc;rfl⟩) ?_;clear S;intro v3 a w4 hv3 hk4 hn3 S
 replace hv3:=hv3.2
 subst hv3
 refine Vm S rfl rfl ?_;clear S;intro a S
 obtain ⟨r4,hr4,h⟩:=Ga h
 refine Ir 2 S (b:=O) rfl rfl (fun _=>.blk O [Aa,iV r4.2] 25) (fun _=>Ei (vs:=[.pointer (some ⟨O,0,none⟩),iV 1,iV 2]) ⟨(S.tm rfl),rfl,rfl,trivial⟩ call6) (Qx _ O Aa Aq (Ap.mono (S.le_arg (Jr (i:=2) (e:=.blk O [Aa,iV r3.2] 25) rfl))) r3.2 (S.holds _ (List.mem_of_getElem? (i:=2) rfl)) 1 2 _ hr4) rfl (fun _ _ _ h=>⟨h.1,fun _ hc=>by cases hc;rfl⟩) ?_;clear S;intro v4 a w5 hv4 hk5 hn4 S
 replace hv4:=hv4.2
 subst hv4
 refine Vm S rfl rfl ?_;clear S;intro a S
 obtain ⟨r5,hr5,h⟩:=Ga h
 refine Ir 2 S (b:=O) rfl rfl (fun _=>.blk O [Aa,iV r5.2] 25) (fun _=>Ei (vs:=[.pointer (some ⟨O,0,none⟩),iV 0,iV 2]) ⟨(S.tm rfl),rfl,rfl,trivial⟩ call6) (Qx _ O Aa Aq (Ap.mono (S.le_arg (Jr (i:=2) (e:=.blk O [Aa,iV r4.2] 25) rfl))) r4.2 (S.holds _ (List.mem_of_getElem? (i:=2) rfl)) 0 2 _ hr5) rfl (fun _ _ _ h=>⟨h.1,fun _ hc=>by cases hc;rfl⟩) ?_;clear S;intro v5 a w6 hv5 hk6 hn5 S
 replace hv5:=hv5.2
 subst hv5
 refine lv S (Nc bt_30 (pv:=[(0,iV r3.1),(1,iV r4.1),(2,iV r5.1)]) ⟨rfl,(S.tm rfl),rfl,(S.tm rfl),rfl,(S.tm rfl),trivial⟩ (cs:=[iV r3.1,iV r4.1,iV r5.1]) (by kernel_rfl)) rfl ?_;clear S;intro a S
 refine lv S (Nc bt_32 (pv:=[(0,v1),(1,.agg #[u3.val,iV r2.1.Relay,iV r2.1.Most]),(2,.agg #[iV r3.1,iV r4.1,iV r5.1])]) ⟨rfl,(S.tm rfl),rfl,(S.tm rfl),rfl,(S.tm rfl),trivial⟩ (cs:=[v1,u3.val,iV r2.1.Relay,iV r2.1.Most,iV r3.1,iV r4.1,iV r5.1]) (by obtain ⟨_,_,hv⟩:=(Qb (S.own_at (i:=0) rfl));rw [hv];clear hv;obtain ⟨_,_,hv⟩:=(Gk hs1);rw [hv];clear hv;kernel_rfl)) rfl ?_;clear S;intro a S
 refine Iz S zeroValue32 (cs:=[.slice none 0 0,.slice none 0 0,iV 0,iV 0,iV 0,iV 0,iV 0]) rfl rfl ?_;clear S;intro a w7 b2 hz4 hk7 S
 refine Ft S (S.tm rfl) (S.tm rfl) (i:=0) (off:=0) rfl sizeOf32 (vs:=[v1,u3.val,iV r2.1.Relay,iV r2.1.Most,iV r3.1,iV r4.1,iV r5.1]) rfl rfl rfl (Rf (Lo.one (Qb (S.own_at (i:=1) rfl))) (Rf (Lo.one (Gk hs1)) (Rf rfl (Rf rfl (Rf rfl (Rf rfl (Rf rfl rfl))))))) ?_;clear S;intro w8 hk8 S
 refine Ld ?_
 replace S:=(S.nl [.blk b2 [v1,u3.val,iV r2.1.Relay,iV r2.1.Most,iV r3.1,iV r4.1,iV r5.1] 32,.own v1 38 8 r1.1.length (r1.1.flatMap Eu.enc),.blk b1 [.slice none 0 0,.slice none 0 0,iV 0,iV 0,iV 0,iV 0,iV 0] 32,.blk O [Aa,iV r5.2] 25] [true,true,true,true] rfl).k2 2 3 rfl
 refine Tn (Fr (Vf BW S rfl rfl fun a S=>Vl isAgg26 0 S rfl rfl rfl rfl ?_));clear S;intro a S
 obtain ⟨r6,hr6,h⟩:=Ga h
 refine Pc 1 S rfl (fun _=>.own v1 38 8 r6.length (r6.flatMap Eu.enc)) (fun _=>Ei (vs:=[v1]) ⟨(S.tm rfl),trivial⟩ call16) (BX _ v1 r1.1 (S.holds _ (List.mem_of_getElem? (i:=1) rfl)) _ hr6) rfl (fun _ _ _ h=>⟨h.1,fun _ hc=>hc⟩) ?_;clear S;intro v6 a w9 hv6 hk9 hn6 S
 replace hv6:=hv6.2
 subst hv6
 refine Dz (lv S (Gh isAgg32 sizeOf32 (off:=0) (o:=0) (part:=[v1,u3.val,iV r2.1.Relay,iV r2.1.Most,iV r3.1,iV r4.1,iV r5.1]) rfl rfl (S.tm rfl) (S.cellsAt (i:=0) rfl)) rfl fun a S=>Ft S (S.tm rfl) (S.tm rfl) (i:=2) (off:=0) rfl sizeOf32 (vs:=[v1,u3.val,iV r2.1.Relay,iV r2.1.Most,iV r3.1,iV r4.1,iV r5.1]) rfl rfl rfl (Rf (Lo.one (Qb (S.own_at (i:=1) rfl))) (Rf (Lo.one (Gk hs1)) (Rf rfl (Rf rfl (Rf rfl (Rf rfl (Rf rfl rfl))))))) ?_);clear S;intro w10 hk10 S
 refine Dl (wp_ret ?_)
 obtain ⟨φ2,hl2,hs2,S⟩:=S.freezeT (xs:=r6) (enc:=Eu.enc) (i:=1) rfl (fun c hc hh=>EA S (i:=3) rfl rfl (j:=1) rfl rfl (by simp at hc;subst hc;exact hh))
 replace S:=S.nk [.blk b2 [v1,u3.val,iV r2.1.Relay,iV r2.1.Most,iV r3.1,iV r4.1,iV r5.1] 32,.blk b1 [v1,u3.val,iV r2.1.Relay,iV r2.1.Most,iV r3.1,iV r4.1,iV r5.1] 32,.blk O [Aa,iV r5.2] 25] [(2,.pointer (some ⟨b1,0,none⟩)),(3,.pointer (some ⟨b2,0,none⟩)),(16,.pointer (some ⟨b2,0,none⟩)),(17,v1),(19,.agg #[v1,u3.val,iV r2.1.Relay,iV r2.1.Most,iV r3.1,iV r4.1,iV r5.1])] [] rfl (subR rfl)
 obtain rfl:=Option.some.inj h
 exact Wh S (rs:=[.cell 2 32]) (vs:=[.agg (R32.enc (R32.mk ⟨v1,Lo.one (Gk (Hn Eu.enc_ok hs2))⟩ (R28.mk u3 r2.1.Relay r2.1.Most) (Uu.mk r3.1 r4.1 r5.1))).toArray]) results4 ⟨(Qy (off:=0) S rfl isAgg32 sizeOf32 rfl (S.cellsAt (i:=1) rfl)),trivial⟩ rfl ⟨(S.holds _ (List.mem_of_getElem? (i:=2) rfl)),⟨(R32.mk ⟨v1,Lo.one (Gk (Hn Eu.enc_ok hs2))⟩ (R28.mk u3 r2.1.Relay r2.1.Most) (Uu.mk r3.1 r4.1 r5.1)),rfl,AD S.le_newer _ _ ⟨⟨v1,Lo.one (Gk (Hn Eu.enc_ok hs2))⟩,(R28.mk u3 r2.1.Relay r2.1.Most),rfl,(Hn Eu.enc_ok hs2),⟨u3,rfl,(hs1.mono hl2)⟩⟩⟩⟩
theorem Pw (w : World) (O : Nat) (Aa : Value) (Aq : List Int) (Ap : Slc (view w [O]) 1 Aa (Aq.map eInt)) (Al : Int) (Az : (LEnt.blk O [Aa,iV Al] 25).holds w) (Ab : Value) (Ad : List ByteArray) (Ae : Slc (view w [O]) 1 Ab (Ad.map NM)) (r : ByteArray × Int) (h : Pd Aq Al Ad = some r) :
    Calls prog 34 [.pointer (some ⟨O,0,none⟩),Ab].toArray w (Ret w [O] fun _ v w'=>(LEnt.blk O [Aa,iV r.2] 25).holds w' ∧ v = sV r.1):=by
 refine Nb [O] [.blk O [Aa,iV Al] 25] func34 rfl ntmps34 rfl (fun e he=>by simp only [List.mem_singleton] at he;subst he;exact Az) (by simp [fps,LEnt.fp]) (by simp [fps,LEnt.fp]) fun a S=>?_
 unfold Pd at h
 replace S:=(S.nl [.blk O [Aa,iV Al] 25] [true] rfl).k2 0 1 rfl
 refine Fr (Vk S rfl rfl fun a S=>Dl (Fs (Fg ?_)))
 iterate 3 (refine Vm S rfl rfl ?_;clear S;intro a S)
 refine lv S (Gn DA (S.tm rfl) (Gk Ae)) rfl ?_;clear S;intro a S
 obtain ⟨r1,hr1,h⟩:=Ga h
 refine Ir 0 S (b:=O) rfl rfl (fun _=>.blk O [Aa,iV r1.2] 25) (fun _=>Ei (vs:=[.pointer (some ⟨O,0,none⟩),iV (Ad.length : Int)]) ⟨(S.tm rfl),(S.tm rfl),trivial⟩ call19) (Vr _ O Aa Aq (Ap.mono (S.le_arg (Jr (i:=0) (e:=.blk O [Aa,iV Al] 25) rfl))) Al (S.holds _ (List.mem_of_getElem? (i:=0) rfl)) (Ad.length : Int) _ hr1) rfl (fun _ _ _ h=>⟨h.1,fun _ hc=>by cases hc;rfl⟩) ?_;clear S;intro v1 a w1 hv1 hk1 hn1 S
 replace hv1:=hv1.2
 subst hv1
 obtain ⟨hc1,h⟩:=Jc h
 obtain ⟨b1,o1,hm1,hr2⟩:=Fv (a:=a) (x:=.tmp 5) (y:=.tmp 9) (ty:=0) DA Ae (Es hc1).1 (Es hc1).2 (S.tm rfl) (S.tm rfl)
 refine lv S (hr2 _) rfl ?_;clear S;intro a S
 clear hr2
 refine lv S (Hw isAgg9 (off:=o1) (o:=0) (S.tm rfl) (hm1.at S.emb0) rfl) rfl fun a S=>Va S rfl rfl fun a S=>Dl (wp_ret ?_)
 obtain rfl:=Option.some.inj h
 exact Fd S results34 rfl ⟨(S.holds _ (List.mem_of_getElem? (i:=0) rfl)),rfl⟩
theorem Wt (w : World) (O : Nat) (Aa : Value) (Aq : List Int) (Ap : Slc (view w [O]) 1 Aa (Aq.map eInt)) (Al : Int) (Az : (LEnt.blk O [Aa,iV Al] 25).holds w) (Bt : Int) (Bk : Int) (r : Int × Int) (h : Tv Aq Al Bt Bk = some r) :
    Calls prog 35 [.pointer (some ⟨O,0,none⟩),iV Bt,iV Bk].toArray w (Ret w [O] fun _ v w'=>(LEnt.blk O [Aa,iV r.2] 25).holds w' ∧ v = iV r.1):=by
 refine Nb [O] [.blk O [Aa,iV Al] 25] func35 rfl ntmps35 rfl (fun e he=>by simp only [List.mem_singleton] at he;subst he;exact Az) (by simp [fps,LEnt.fp]) (by simp [fps,LEnt.fp]) fun a S=>?_
 unfold Tv at h
 replace S:=(S.nl [.blk O [Aa,iV Al] 25] [true] rfl).k3 0 1 2 rfl
 refine Fr (Vk S rfl rfl fun a S=>Dl (Fs (Fr (Vm S rfl rfl ?_))));clear S;intro a S
 obtain ⟨r1,hr1,h⟩:=Ga h
 refine Ir 0 S (b:=O) rfl rfl (fun _=>.blk O [Aa,iV r1.2] 25) (fun _=>Ei (vs:=[.pointer (some ⟨O,0,none⟩),iV 12]) ⟨(S.tm rfl),rfl,trivial⟩ call31) (Zr _ O Aa Aq (Ap.mono (S.le_arg (Jr (i:=0) (e:=.blk O [Aa,iV Al] 25) rfl))) Al (S.holds _ (List.mem_of_getElem? (i:=0) rfl)) 12 _ hr1) rfl (fun _ _ _ h=>⟨h.1,fun _ hc=>by cases hc;rfl⟩) ?_;clear S;intro v1 a w1 hv1 hk1 hn1 S
 replace hv1:=hv1.2
 subst hv1
 refine Dl (Fc h (S.tm rfl) (fun hb1 h=>?_) (fun hb1 h=>?_))
 ·refine Fr (Vm S rfl rfl fun a S=>Vm S rfl rfl fun a S=>Vq S Jt rfl rfl rfl fun a S=>Vm S rfl rfl fun a S=>Vq S Gw rfl rfl rfl fun a S=>Vm S rfl rfl fun a S=>Vm S rfl rfl fun a S=>Fq S underlying22 sizeOf3 zeroValue3 rfl rfl (pv:=[(0,iV (W (Bt - 1))),(1,iV (W (Bk + 1))),(2,iV Bt),(3,iV Bk),(4,iV (-1099511627776)),(5,iV 1099511627776)]) ⟨rfl,(S.tm rfl),rfl,(S.tm rfl),rfl,(S.tm rfl),rfl,(S.tm rfl),rfl,rfl,rfl,rfl,trivial⟩ (cs:=[iV (W (Bt - 1)),iV (W (Bk + 1)),iV Bt,iV Bk,iV (-1099511627776),iV 1099511627776]) (by kernel_rfl) rfl ?_);clear S;intro a w2 b1 hz1 hk2 S
  obtain ⟨r2,hr2,h⟩:=Ga h
  refine Ir 1 S (b:=O) rfl rfl (fun _=>.blk O [Aa,iV r2.2] 25) (fun _=>Ei (vs:=[.pointer (some ⟨O,0,none⟩),.slice (some ⟨b1,0,none⟩) 6 6]) ⟨(S.tm rfl),(S.tm rfl),trivial⟩ call33) (Kg _ O Aa Aq (Ap.mono (S.le_arg (Jr (i:=1) (e:=.blk O [Aa,iV r1.2] 25) rfl))) r1.2 (S.holds _ (List.mem_of_getElem? (i:=1) rfl)) (.slice (some ⟨b1,0,none⟩) 6 6) [W (Bt - 1),W (Bk + 1),Bt,Bk,(-1099511627776),1099511627776] (Lg Ju S (i:=0) rfl rfl rfl rfl ((Nf (i:=1) (j:=0) (e:=.blk O [Aa,iV r1.2] 25) (e':=.blk b1 [iV (W (Bt - 1)),iV (W (Bk + 1)),iV Bt,iV Bk,iV (-1099511627776),iV 1099511627776] 3) S rfl rfl rfl) _ rfl)) _ hr2) rfl (fun _ _ _ h=>⟨h.1,fun _ hc=>by cases hc;rfl⟩) ?_;clear S;intro v2 a w3 hv2 hk3 hn2 S
  replace hv2:=hv2.2
  subst hv2
  refine Va S rfl rfl fun a S=>Ld ?_
  replace S:=(S.nl [.blk O [Aa,iV r2.2] 25] [false,true] rfl).k1 6 rfl
  refine Tn (wp_ret (Ek ?_))
  obtain rfl:=Option.some.inj h
  exact Fd S results35 rfl ⟨(S.holds _ (List.mem_of_getElem? (i:=0) rfl)),rfl⟩
 ·refine wp_skip (Tn (Fs (Fg ?_)))
  iterate 3 (refine Vm S rfl rfl ?_;clear S;intro a S)
  obtain ⟨r3,hr3,h⟩:=Ga h
  refine Ir 0 S (b:=O) rfl rfl (fun _=>.blk O [Aa,iV r3.2] 25) (fun _=>Ei (vs:=[.pointer (some ⟨O,0,none⟩),iV Bt,iV Bk]) ⟨(S.tm rfl),(S.tm rfl),(S.tm rfl),trivial⟩ call6) (Qx _ O Aa Aq (Ap.mono (S.le_arg (Jr (i:=0) (e:=.blk O [Aa,iV r1.2] 25) rfl))) r1.2 (S.holds _ (List.mem_of_getElem? (i:=0) rfl)) Bt Bk _ hr3) rfl (fun _ _ _ h=>⟨h.1,fun _ hc=>by cases hc;rfl⟩) ?_;clear S;intro v3 a w4 hv3 hk4 hn3 S
  replace hv3:=hv3.2
  subst hv3
  refine Va S rfl rfl fun a S=>Dl (wp_ret ?_)
  obtain rfl:=Option.some.inj h
  exact Fd S results35 rfl ⟨(S.holds _ (List.mem_of_getElem? (i:=0) rfl)),rfl⟩
theorem AZ (w : World) (Bb : Int) (r : Int) (h : Wo Bb = r) :
    Calls prog 76 [iV Bb].toArray w (Ret w [] fun _ v _=>v = iV r):=by
 refine Fe func76 rfl ntmps76 rfl fun a S=>?_
 unfold Wo at h
 replace S:=S.k1 0 rfl
 refine Fr (Vk S rfl rfl fun a S=>Dl (Fs (wp_block (Fr (Vm S rfl rfl fun a S=>Vq S Fp rfl rfl rfl ?_)))));clear S;intro a S
 refine Va S rfl rfl fun a S=>Dl (Fc h (S.tm rfl) (fun hb1 h=>?_) (fun hb1 h=>?_))
 ·refine Fr (Vk S rfl rfl fun a S=>Dl (wp_ret (Gg (Ek ?_))))
  subst h
  exact Fd S results76 rfl rfl
 ·refine Fr (Vm S rfl rfl fun a S=>Vq S Jz rfl rfl rfl fun a S=>Va S rfl rfl fun a S=>Dl (Fc h (S.tm rfl) (fun hb2 h=>?_) (fun hb2 h=>?_)))
  ·refine Fr (Vk S rfl rfl fun a S=>Dl (wp_ret (Gg (Ek ?_))))
   subst h
   exact Fd S results76 rfl rfl
  ·refine wp_skip (Im (Tn (Fr (Vk S rfl rfl fun a S=>Dl (wp_ret ?_)))))
   subst h
   exact Fd S results76 rfl rfl
theorem Pb (w : World) (s t : ByteArray) (r : Int) (h : Ho s t = r) : Calls prog 48 [.string s,.string t].toArray w (Ret w [] fun _ v _=>v = .int .i64 r):=by
  subst h
  exact IC (Any.strings_Compare Tryz.lays106 s t w)
theorem Xz (w : World) (Ah : Eg) (Aj : Eg) (r : Int) (h : Ko Ah Aj = r) :
    Calls prog 37 [.agg (Eg.enc Ah).toArray,.agg (Eg.enc Aj).toArray].toArray w (Ret w [] fun _ v _=>v = iV r):=by
 refine Fe func37 rfl ntmps37 rfl fun a S=>?_
 unfold Ko at h
 replace S:=S.k2 0 1 rfl
 refine Fr (Mk S (S.tm rfl) (cs:=(Eg.enc Ah)) rfl rfl ?_);clear S;intro a w1 b1 hz1 hk1 S
 refine Mk S (S.tm rfl) (cs:=(Eg.enc Aj)) rfl rfl ?_;clear S;intro a w2 b2 hz2 hk2 S
 refine Vk S rfl rfl fun a S=>Dl (Fs (wp_block (Fr (Vf Ul S rfl rfl fun a S=>Vl isAgg3 1 S rfl rfl rfl rfl fun a S=>Vf Ul S rfl rfl fun a S=>Vl isAgg3 0 S rfl rfl rfl rfl ?_))));clear S;intro a S
 refine Vb S Nt rfl rfl rfl fun a S=>Va S rfl rfl fun a S=>Dl (Fc h (S.tm rfl) (fun hb1 h=>?_) (fun hb1 h=>?_))
 ·refine Fr (Vf Ul S rfl rfl fun a S=>Vl isAgg3 1 S rfl rfl rfl rfl fun a S=>Vf Ul S rfl rfl fun a S=>Vl isAgg3 0 S rfl rfl rfl rfl fun a S=>Vb S Jt rfl rfl rfl fun a S=>Er S (fun _=>Ei (vs:=[iV (W (Ah.At - Aj.At))]) ⟨(S.tm rfl),trivial⟩ call76) (AZ _ (W (Ah.At - Aj.At)) _ rfl) rfl ?_);clear S;intro v1 a w3 hv1 hk3 hn1 S
  subst hv1
  refine Va S rfl rfl fun a S=>Ld ?_
  replace S:=S.n0.k1 4 rfl
  refine Tn (wp_ret (Gg (Ek ?_)))
  subst h
  exact Fd S results37 rfl rfl
 ·refine Fr (Vf Rd S rfl rfl fun a S=>Vl isAgg9 1 S rfl rfl rfl rfl fun a S=>Vf Rd S rfl rfl fun a S=>Vl isAgg9 0 S rfl rfl rfl rfl fun a S=>Vb S DZ rfl rfl rfl fun a S=>Va S rfl rfl fun a S=>Ld ?_)
  replace S:=(S.nl [.blk b2 (Eg.enc Aj) 101,.blk b1 (Eg.enc Ah) 101] [true,true] rfl).k3 2 3 17 rfl
  refine Tn (Fc h (S.tm rfl) (fun hb2 h=>?_) (fun hb2 h=>?_))
  ·refine Fr (Vf Rd S rfl rfl fun a S=>Vl isAgg9 1 S rfl rfl rfl rfl fun a S=>Vf Rd S rfl rfl fun a S=>Vl isAgg9 0 S rfl rfl rfl rfl fun a S=>Er S (fun _=>Ei (vs:=[sV Ah.Site,sV Aj.Site]) ⟨(S.tm rfl),(S.tm rfl),trivial⟩ call48) (Pb _ Ah.Site Aj.Site _ rfl) rfl ?_);clear S;intro v2 a w4 hv2 hk4 hn2 S
   subst hv2
   refine Va S rfl rfl fun a S=>Dl (wp_ret (Gg (Ek ?_)))
   subst h
   exact Fd S results37 rfl rfl
  ·refine wp_skip (Im (Tn (Fr (Vf Tl S rfl rfl fun a S=>Vl isAgg3 1 S rfl rfl rfl rfl fun a S=>Vf Tl S rfl rfl fun a S=>Vl isAgg3 0 S rfl rfl rfl rfl fun a S=>Vb S Jt rfl rfl rfl fun a S=>Er S (fun _=>Ei (vs:=[iV (W (Ah.No - Aj.No))]) ⟨(S.tm rfl),trivial⟩ call76) (AZ _ (W (Ah.No - Aj.No)) _ rfl) rfl ?_))));clear S;intro v3 a w5 hv3 hk5 hn3 S
   subst hv3
   refine Va S rfl rfl fun a S=>Dl (wp_ret ?_)
   subst h
   exact Fd S results37 rfl rfl
set_option maxRecDepth 20000 in
theorem Nm (w : World) (U : Value) (Ak : List Eg) (Bh : (LEnt.own U 101 11 Ak.length (Ak.flatMap Eg.enc)).holds w) (Ah : Int) (Aj : Int) (r : (List Eg)) (h : Ic Ak Ah Aj = some r) :
    Calls prog 110 [U,iV Ah,iV Aj,.func (.func 37) #[] #[]].toArray w (Ret w (U.ownBlock.toList) fun _ v w'=>(LEnt.own U 101 11 r.length (r.flatMap Eg.enc)).holds w' ∧ v = .tuple #[]):=by
 refine Nb (U.ownBlock.toList) [.own U 101 11 Ak.length (Ak.flatMap Eg.enc)] func110 rfl ntmps110 rfl (fun e he=>by simp only [List.mem_singleton] at he;subst he;exact Bh) (Kw _) (Mv _) fun a S=>?_
 unfold Ic at h
 replace S:=(S.nl [.own U 101 11 Ak.length (Ak.flatMap Eg.enc)] [true] rfl).k4 0 1 2 3 rfl
 refine Fr (Vm S rfl rfl fun a S=>Vq S Gw rfl rfl rfl fun a S=>Va S rfl rfl fun a S=>Dl ?_)
 replace S:=S.k5 0 1 2 3 8 rfl
 obtain ⟨j1,hj1,h⟩:=Fk h
 refine Fa (fun a w'=>∃ x1 : List Eg,j1 x1 = some r ∧ Sx w (U.ownBlock.toList) nov [.own U 101 11 x1.length (x1.flatMap Eg.enc)] [] 53 a w') ?_ ?_
 ·refine wp_block (Hs (fun (m1 : Nat) a w'=>∃ x1 : List Eg,∃ x2 : Int,Fy Aj Ah j1 m1 x1 x2 = some r ∧ Sx w (U.ownBlock.toList) nov [.own U 101 11 x1.length (x1.flatMap Eg.enc)] [(0,U),(1,iV Ah),(2,iV Aj),(3,.func (.func 37) #[] #[]),(8,iV x2)] 53 a w') id ((Aj - (W (Ah + 1))).toNat + 2) ⟨Ak,W (Ah + 1),h,S.nf [true] rfl (subR rfl)⟩ ?_)
  clear S h;rintro m1 a w1 ⟨x1,x2,h,S⟩
  cases m1 with
  | zero=>rw [Fy.eq_1] at h;cases h
  | succ m1 =>
   rw [Fy.eq_2] at h
   refine Fs (Fr (Vm S rfl rfl fun a S=>Vm S rfl rfl fun a S=>Vb S Fp rfl rfl rfl fun a S=>Dl (Fc h (S.tm rfl) (fun hb1 h=>?_) (fun hb1 h=>?_))))
   ·refine wp_skip (Tn (Fs (wp_block (Fr (Vm S rfl rfl fun a S=>Va S rfl rfl fun a S=>Dl ?_)))))
    replace S:=S.k6 0 1 2 3 8 9 rfl
    obtain ⟨j2,hj2,h⟩:=Fk h
    refine Fa (fun a w'=>∃ x3 : List Eg,j2 x3 = some r ∧ Sx w (U.ownBlock.toList) nov [.own U 101 11 x3.length (x3.flatMap Eg.enc)] [(0,U),(1,iV Ah),(2,iV Aj),(3,.func (.func 37) #[] #[]),(8,iV x2)] 53 a w') ?_ ?_
    ·refine wp_block (Hs (fun (m2 : Nat) a w'=>∃ x3 : List Eg,∃ x4 : Int,Fh Ah j2 m2 x3 x4 = some r ∧ Sx w (U.ownBlock.toList) nov [.own U 101 11 x3.length (x3.flatMap Eg.enc)] [(0,U),(1,iV Ah),(2,iV Aj),(3,.func (.func 37) #[] #[]),(8,iV x2),(9,iV x4)] 53 a w') id ((x2 - Ah).toNat + 2) ⟨x1,x2,h,S.nf [true] rfl (subR rfl)⟩ ?_)
     clear S h;rintro m2 a w3 ⟨x3,x4,h,S⟩
     cases m2 with
     | zero=>rw [Fh.eq_1] at h;cases h
     | succ m2 =>
      rw [Fh.eq_2] at h
      refine Fs (Fs ?_)
      obtain ⟨j3,hj3,h⟩:=Fk h
      refine Fa (fun a w'=>∃ x5 : Bool,j3 x5 = some r ∧ Sx w (U.ownBlock.toList) nov [.own U 101 11 x3.length (x3.flatMap Eg.enc)] [(0,U),(1,iV Ah),(2,iV Aj),(3,.func (.func 37) #[] #[]),(8,iV x2),(9,iV x4),(34,bV x5)] 53 a w') ?_ ?_
      ·rcases Bool.eq_false_or_eq_true (decide (Ah < x4)) with hb2 | hb2
       ·replace h:=Rz h hb2
        obtain ⟨hc1,h⟩:=Jc h
        obtain ⟨hc2,h⟩:=Jc h
        refine Hd [] ([]) Tryz.mixed S rfl (by kernel_rfl) ?_;clear S;intro w7 hk2 hsel S
        refine Eo 0 S hsel rfl rfl rfl (by kernel_rfl) (by kernel_rfl) rfl (fun _ hw=>(Rm (S.tm rfl))) fun a S=>Eo 1 S hsel rfl rfl rfl (by kernel_rfl) (by kernel_rfl) rfl (fun _ hw=>(Rm (S.tm rfl))) fun a S=>Eo 2 S hsel rfl rfl rfl (by kernel_rfl) (by kernel_rfl) rfl (fun _ hw=>(Jz (S.tm rfl) (S.tm rfl))) fun a S=>Eo 3 S hsel rfl rfl rfl (by kernel_rfl) (by kernel_rfl) rfl (fun _ hw=>(Rm (S.tm rfl))) fun a S=>Ey 4 S hsel rfl rfl rfl rfl hb2 rfl rfl (by kernel_rfl) (by kernel_rfl) rfl (fun _ hw=>(Rm (S.tm rfl))) fun a S=>Ey 5 S hsel rfl rfl rfl rfl hb2 rfl rfl (by kernel_rfl) (by kernel_rfl) rfl (fun _ hw=>(Rm (S.tm rfl))) fun a S=>Ey 6 S hsel rfl rfl rfl rfl hb2 rfl rfl (by kernel_rfl) (by kernel_rfl) rfl (fun _ hw=>(Rm (S.tm rfl))) ?_;clear S;intro a S
        obtain ⟨b3,hg3,hr3⟩:=Hy (a:=a) (x:=.tmp 23) (y:=.tmp 24) (ty:=0) Pn Eg.enc_ok S (i:=0) rfl (Es hc1).1 (Es hc1).2 (S.tm rfl) (S.tm rfl)
        refine Ey 7 S hsel rfl rfl rfl rfl hb2 rfl rfl (by kernel_rfl) (by kernel_rfl) rfl (fun _ hw=>(hr3 _)) ?_;clear S;intro a S
        clear hr3
        refine Ey 8 S hsel rfl rfl rfl rfl hb2 rfl rfl (by kernel_rfl) (by kernel_rfl) rfl (fun _ hw=>(Gh isAgg101 sizeOf101 (off:=x4.toNat * 11) (o:=0) (part:=(Eg.enc (nth x3 x4))) rfl rfl (S.tm rfl) ((Pm Eg.enc_ok S (i:=0) rfl hg3 (Es hc1).1 (Ik (e':=.own U 101 11 x3.length (x3.flatMap Eg.enc)))).kept hw))) fun a S=>Ey 9 S hsel rfl rfl rfl rfl hb2 rfl rfl (by kernel_rfl) (by kernel_rfl) rfl (fun _ hw=>(Rm (S.tm rfl))) fun a S=>Ey 10 S hsel rfl rfl rfl rfl hb2 rfl rfl (by kernel_rfl) (by kernel_rfl) rfl (fun _ hw=>(Rm (S.tm rfl))) fun a S=>Ey 11 S hsel rfl rfl rfl rfl hb2 rfl rfl (by kernel_rfl) (by kernel_rfl) rfl (fun _ hw=>(Jt (S.tm rfl) rfl)) ?_;clear S;intro a S
        obtain ⟨b4,hg4,hr4⟩:=Hy (a:=a) (x:=.tmp 27) (y:=.tmp 29) (ty:=0) Pn Eg.enc_ok S (i:=0) rfl (Es hc2).1 (Es hc2).2 (S.tm rfl) (S.tm rfl)
        refine Ey 12 S hsel rfl rfl rfl rfl hb2 rfl rfl (by kernel_rfl) (by kernel_rfl) rfl (fun _ hw=>(hr4 _)) ?_;clear S;intro a S
        clear hr4
        refine Ey 13 S hsel rfl rfl rfl rfl hb2 rfl rfl (by kernel_rfl) (by kernel_rfl) rfl (fun _ hw=>(Gh isAgg101 sizeOf101 (off:=((W (x4 - 1)).toNat) * 11) (o:=0) (part:=(Eg.enc (nth x3 (W (x4 - 1))))) rfl rfl (S.tm rfl) ((Pm Eg.enc_ok S (i:=0) rfl hg4 (Es hc2).1 (Ik (e':=.own U 101 11 x3.length (x3.flatMap Eg.enc)))).kept hw))) fun a S=>Hi 14 (by kernel_rfl) rfl (Em S rfl rfl rfl hb2 (Er S (fun _=>Te (cap:=[]) (S.tm rfl) (vs:=[.agg (Eg.enc (nth x3 x4)).toArray,.agg (Eg.enc (nth x3 (W (x4 - 1)))).toArray]) ⟨(S.tm rfl),(S.tm rfl),trivial⟩ call37) (Xz _ (nth x3 x4) (nth x3 (W (x4 - 1))) _ rfl) rfl ?_));clear S;intro v2 a w8 hv2 hk3 hn2 S
        subst hv2
        refine Ld (It hk3 (Kt [15,16] hsel (by kernel_rfl) rfl ?_))
        clear hsel
        refine Fx S rfl rfl rfl rfl hb2 (He S (Fp (S.tm rfl) rfl) rfl fun a S=>Gv S rfl (Qe hb2 (S.tm rfl) (S.tm rfl)) rfl fun a S=>Jb ?_)
        replace S:=S.nk [.own U 101 11 x3.length (x3.flatMap Eg.enc)] [(0,U),(1,iV Ah),(2,iV Aj),(3,.func (.func 37) #[] #[]),(8,iV x2),(9,iV x4),(22,.func (.func 37) #[] #[]),(23,U),(24,iV x4),(25,.pointer (some ⟨b3,x4.toNat * 11,none⟩)),(26,.agg (Eg.enc (nth x3 x4)).toArray),(27,U),(28,iV x4),(29,iV (W (x4 - 1))),(30,.pointer (some ⟨b4,((W (x4 - 1)).toNat) * 11,none⟩)),(31,.agg (Eg.enc (nth x3 (W (x4 - 1)))).toArray),(32,iV (Ko (nth x3 x4) (nth x3 (W (x4 - 1))))),(33,bV (decide ((Ko (nth x3 x4) (nth x3 (W (x4 - 1)))) < 0))),(34,bV (decide ((Ko (nth x3 x4) (nth x3 (W (x4 - 1)))) < 0)))] [true] rfl (subR rfl)
        exact Tn (⟨decide ((Ko (nth x3 x4) (nth x3 (W (x4 - 1)))) < 0),h,S.nf [true] rfl (subR rfl)⟩)
       ·replace h:=Sa h hb2
        refine Hd [] ([]) Tryz.mixed S rfl (by kernel_rfl) ?_;clear S;intro w9 hk4 hsel S
        refine Kt [0,1,2,3,4,5,6,7,8,9,10,11,12,13,14,15,16] hsel (by kernel_rfl) rfl ?_
        clear hsel
        refine Gv S rfl (Rm (S.tm rfl)) rfl fun a S=>Gv S rfl (Rm (S.tm rfl)) rfl fun a S=>Gv S rfl (Jz (S.tm rfl) (S.tm rfl)) rfl fun a S=>Gv S rfl (Rm (S.tm rfl)) rfl ?_;clear S;intro a S
        iterate 12 (refine Qo S rfl rfl rfl rfl (Ka hb2) rfl ?_ rfl;clear S;intro a S)
        refine Gv S rfl (Qf hb2 (S.tm rfl) rfl) rfl fun a S=>Jb ?_
        replace S:=S.k7 0 1 2 3 8 9 34 rfl
        exact Tn (⟨false,h,S.nf [true] rfl (subR rfl)⟩)
      clear S h;rintro a w5 ⟨x5,h,S⟩;rw [hj3] at h;clear hj3 j3
      refine Tn (Fc h (S.tm rfl) (fun hb3 h=>?_) (fun hb3 h=>?_))
      ·refine wp_skip (Tn (Fs (wp_block ?_)))
       obtain ⟨hc3,h⟩:=Jc h
       obtain ⟨hc4,h⟩:=Jc h
       obtain ⟨hc5,h⟩:=Jc h
       obtain ⟨hc6,h⟩:=Jc h
       refine Hd [15,17] ([]) Tryz.mixed S rfl (by kernel_rfl) ?_;clear S;intro w14 hk9 hsel S
       refine Hb 0 S hsel rfl rfl (by kernel_rfl) (by kernel_rfl) rfl (fun _=>(Rm (S.tm rfl))) fun a S=>Hb 1 S hsel rfl rfl (by kernel_rfl) (by kernel_rfl) rfl (fun _=>(Rm (S.tm rfl))) fun a S=>Hb 2 S hsel rfl rfl (by kernel_rfl) (by kernel_rfl) rfl (fun _=>(Rm (S.tm rfl))) fun a S=>Hb 3 S hsel rfl rfl (by kernel_rfl) (by kernel_rfl) rfl (fun _=>(Rm (S.tm rfl))) fun a S=>Hb 4 S hsel rfl rfl (by kernel_rfl) (by kernel_rfl) rfl (fun _=>(Jt (S.tm rfl) rfl)) fun a S=>Hb 5 S hsel rfl rfl (by kernel_rfl) (by kernel_rfl) rfl (fun _=>(Rm (S.tm rfl))) fun a S=>Hb 6 S hsel rfl rfl (by kernel_rfl) (by kernel_rfl) rfl (fun _=>(Rm (S.tm rfl))) fun a S=>Hb 7 S hsel rfl rfl (by kernel_rfl) (by kernel_rfl) rfl (fun _=>(Jt (S.tm rfl) rfl)) ?_;clear S;intro a S
       obtain ⟨b9,hg9,hr9⟩:=Hy (a:=a) (x:=.tmp 42) (y:=.tmp 44) (ty:=0) Pn Eg.enc_ok S (i:=0) rfl (Es hc3).1 (Es hc3).2 (S.tm rfl) (S.tm rfl)
       refine Hb 8 S hsel rfl rfl (by kernel_rfl) (by kernel_rfl) rfl (fun _=>(hr9 _)) ?_;clear S;intro a S
       clear hr9
       refine Eo 9 S hsel rfl (by kernel_rfl) (by kernel_rfl) (by kernel_rfl) (by kernel_rfl) rfl (fun _ hw=>(Gh isAgg101 sizeOf101 (off:=((W (x4 - 1)).toNat) * 11) (o:=0) (part:=(Eg.enc (nth x3 (W (x4 - 1))))) rfl rfl (S.tm rfl) ((Pm Eg.enc_ok S (i:=0) rfl hg9 (Es hc3).1 (Ik (e':=.own U 101 11 x3.length (x3.flatMap Eg.enc)))).kept hw))) fun a S=>Hb 10 S hsel rfl rfl (by kernel_rfl) (by kernel_rfl) rfl (fun _=>(Rm (S.tm rfl))) fun a S=>Hb 11 S hsel rfl rfl (by kernel_rfl) (by kernel_rfl) rfl (fun _=>(Rm (S.tm rfl))) ?_;clear S;intro a S
       obtain ⟨b10,hg10,hr10⟩:=Hy (a:=a) (x:=.tmp 47) (y:=.tmp 48) (ty:=0) Pn Eg.enc_ok S (i:=0) rfl (Es hc4).1 (Es hc4).2 (S.tm rfl) (S.tm rfl)
       refine Hb 12 S hsel rfl rfl (by kernel_rfl) (by kernel_rfl) rfl (fun _=>(hr10 _)) ?_;clear S;intro a S
       clear hr10
       refine Eo 13 S hsel rfl (by kernel_rfl) (by kernel_rfl) (by kernel_rfl) (by kernel_rfl) rfl (fun _ hw=>(Gh isAgg101 sizeOf101 (off:=x4.toNat * 11) (o:=0) (part:=(Eg.enc (nth x3 x4))) rfl rfl (S.tm rfl) ((Pm Eg.enc_ok S (i:=0) rfl hg10 (Es hc4).1 (Ik (e':=.own U 101 11 x3.length (x3.flatMap Eg.enc)))).kept hw))) ?_;clear S;intro a S
       obtain ⟨b11,hg11,hr11⟩:=Hy (a:=a) (x:=.tmp 37) (y:=.tmp 38) (ty:=0) Pn Eg.enc_ok S (i:=0) rfl (Es hc5).1 (Es hc5).2 (S.tm rfl) (S.tm rfl)
       refine Hb 14 S hsel rfl rfl (by kernel_rfl) (by kernel_rfl) rfl (fun _=>(hr11 _)) ?_;clear S;intro a S
       clear hr11
       refine Zb 15 (U.ownBlock.toList) rfl (by kernel_rfl) rfl (Qn (c:=0) (j:=x4.toNat) (nth x3 (W (x4 - 1))) Eg.enc_ok S (S.tm rfl) (S.tm rfl) (i:=0) rfl hg11 (Es hc5).1 sizeOf101 (vs:=[sV ((nth x3 (W (x4 - 1))).Site),iV ((nth x3 (W (x4 - 1))).No),iV ((nth x3 (W (x4 - 1))).At),iV ((nth x3 (W (x4 - 1))).Kind),sV ((nth x3 (W (x4 - 1))).Who),sV ((nth x3 (W (x4 - 1))).Club),sV ((nth x3 (W (x4 - 1))).Race),iV ((nth x3 (W (x4 - 1))).Time),iV ((nth x3 (W (x4 - 1))).Fault),sV ((nth x3 (W (x4 - 1))).Of),iV ((nth x3 (W (x4 - 1))).Other)]) rfl rfl rfl rfl rfl ?_);clear S;intro w16 hk11 S
       refine Ld (Zc ?_)
       obtain ⟨b12,hg12,hr12⟩:=Hy (a:=a) (x:=.tmp 39) (y:=.tmp 41) (ty:=0) Pn Eg.enc_ok S (i:=0) rfl (Es hc6).1 (Es hc6).2 (S.tm rfl) (S.tm rfl)
       refine Eo 16 S hsel rfl rfl rfl (by kernel_rfl) (by kernel_rfl) rfl (fun _ hw=>(hr12 _)) ?_;clear S;intro a S
       clear hr12
       refine Hi 17 (by kernel_rfl) rfl (Qn (c:=0) (j:=(W (x4 - 1)).toNat) (nth x3 x4) Eg.enc_ok S (S.tm rfl) (S.tm rfl) (i:=0) rfl hg12 (Es hc6).1 sizeOf101 (vs:=[sV ((nth x3 x4).Site),iV ((nth x3 x4).No),iV ((nth x3 x4).At),iV ((nth x3 x4).Kind),sV ((nth x3 x4).Who),sV ((nth x3 x4).Club),sV ((nth x3 x4).Race),iV ((nth x3 x4).Time),iV ((nth x3 x4).Fault),sV ((nth x3 x4).Of),iV ((nth x3 x4).Other)]) rfl rfl rfl rfl rfl ?_);clear S;intro w18 hk13 S
       refine Ld (It hk13 (Xy (by kernel_rfl) ?_))
       clear hsel
       replace S:=(S.nl [.own U 101 11 ((x3.set x4.toNat (nth x3 (W (x4 - 1)))).set ((W (x4 - 1)).toNat) (nth x3 x4)).length (((x3.set x4.toNat (nth x3 (W (x4 - 1)))).set ((W (x4 - 1)).toNat) (nth x3 x4)).flatMap Eg.enc)] [true] rfl).k6 0 1 2 3 8 9 rfl
       exact Im (Tn (Fg (Vm S rfl rfl fun a S=>Vq S Jt rfl rfl rfl fun a S=>Va S rfl rfl fun a S=>Dl (⟨m2,⟨((x3.set x4.toNat (nth x3 (W (x4 - 1)))).set ((W (x4 - 1)).toNat) (nth x3 x4)),W (x4 - 1),h,S.nf [true] rfl ⟨rfl,rfl,rfl,rfl,rfl,rfl,trivial⟩⟩,Nat.lt_succ_self _⟩))))
      ·exact wp_exit (Ew (Ew (Hl (Tn (⟨x3,h,S.nf [true] rfl (subR rfl)⟩)))))
    clear S h;rintro a w4 ⟨x3,h,S⟩;rw [hj2] at h;clear hj2 j2
    exact Im (Tn (Fg (Vm S rfl rfl fun a S=>Vq S Gw rfl rfl rfl fun a S=>Va S rfl rfl fun a S=>Dl (⟨m1,⟨x3,W (x2 + 1),h,S.nf [true] rfl ⟨rfl,rfl,rfl,rfl,rfl,trivial⟩⟩,Nat.lt_succ_self _⟩))))
   ·exact wp_exit (Ew (Ew (Hl (Tn (⟨x1,h,S.nf [true] rfl trivial⟩)))))
 clear S h;rintro a w2 ⟨x1,h,S⟩;rw [hj1] at h;clear hj1 j1
 obtain rfl:=Option.some.inj h
 exact Vg S results110 ⟨(S.holds _ (List.mem_of_getElem? (i:=0) rfl)),rfl⟩
theorem So (w : World) (U : Value) (Ak : List Eg) (Bh : (LEnt.own U 101 11 Ak.length (Ak.flatMap Eg.enc)).holds w) (Bb : Int) (r : (List Eg)) (h : Kj Ak Bb = some r) :
    Calls prog 75 [U,iV Bb,.func (.func 37) #[] #[]].toArray w (Ret w (U.ownBlock.toList) fun _ v w'=>(LEnt.own U 101 11 r.length (r.flatMap Eg.enc)).holds w' ∧ v = .tuple #[]):=by
 refine Nb (U.ownBlock.toList) [.own U 101 11 Ak.length (Ak.flatMap Eg.enc)] func75 rfl ntmps75 rfl (fun e he=>by simp only [List.mem_singleton] at he;subst he;exact Bh) (Kw _) (Mv _) fun a S=>?_
 unfold Kj at h
 replace S:=(S.nl [.own U 101 11 Ak.length (Ak.flatMap Eg.enc)] [true] rfl).k3 0 1 2 rfl
 refine Fr (Vk S rfl rfl fun a S=>Dz (Vm S rfl rfl fun a S=>Vk S rfl rfl fun a S=>Va S rfl rfl fun a S=>Ld ?_))
 refine Tn (Fs ?_)
 replace S:=S.k6 0 1 2 6 7 8 rfl
 obtain ⟨j1,hj1,h⟩:=Fk h
 refine Fa (fun a w'=>∃ x1 : List Eg,∃ x2 : Int,j1 x1 x2 = some r ∧ Sx w (U.ownBlock.toList) nov [.own U 101 11 x1.length (x1.flatMap Eg.enc)] [(0,U),(1,iV Bb),(2,.func (.func 37) #[] #[]),(6,iV 20),(7,iV x2)] 63 a w') ?_ ?_
 ·refine wp_block (Hs (fun (m1 : Nat) a w'=>∃ x1 : List Eg,∃ x2 : Int,∃ x3 : Int,Gp Bb j1 m1 x1 x2 x3 = some r ∧ Sx w (U.ownBlock.toList) nov [.own U 101 11 x1.length (x1.flatMap Eg.enc)] [(0,U),(1,iV Bb),(2,.func (.func 37) #[] #[]),(6,iV 20),(7,iV x2),(8,iV x3)] 63 a w') id ((Bb - 20).toNat + 2) ⟨Ak,0,20,h,S.nf [true] rfl (subR rfl)⟩ ?_)
  clear S h;rintro m1 a w1 ⟨x1,x2,x3,h,S⟩
  cases m1 with
  | zero=>rw [Gp.eq_1] at h;cases h
  | succ m1 =>
   rw [Gp.eq_2] at h
   refine Fs (Fr (Vm S rfl rfl fun a S=>Vm S rfl rfl fun a S=>Vb S Vd rfl rfl rfl fun a S=>Dl (Fc h (S.tm rfl) (fun hb1 h=>?_) (fun hb1 h=>?_))))
   ·refine wp_skip (Tn (wp_block (Fs (Fg ?_))))
    iterate 4 (refine Vm S rfl rfl ?_;clear S;intro a S)
    obtain ⟨r1,hr1,h⟩:=Ga h
    refine Pc 0 S rfl (fun _=>.own U 101 11 r1.length (r1.flatMap Eg.enc)) (fun _=>Ei (vs:=[U,iV x2,iV x3,.func (.func 37) #[] #[]]) ⟨(S.tm rfl),(S.tm rfl),(S.tm rfl),(S.tm rfl),trivial⟩ call110) (Nm _ U x1 (S.holds _ (List.mem_of_getElem? (i:=0) rfl)) x2 x3 _ hr1) rfl (fun _ _ _ h=>⟨h.1,fun _ hc=>hc⟩) ?_;clear S;intro v1 a w3 hv1 hk1 hn1 S
    replace hv1:=hv1.2
    subst hv1
    refine Dz (Vm S rfl rfl fun a S=>Va S rfl rfl fun a S=>Ld ?_)
    replace S:=(S.nl [.own U 101 11 r1.length (r1.flatMap Eg.enc)] [true] rfl).k6 0 1 2 6 7 8 rfl
    exact Tn (Fg (Vm S rfl rfl fun a S=>Vm S rfl rfl fun a S=>Vb S Gw rfl rfl rfl fun a S=>Va S rfl rfl fun a S=>Ld (Im (Tn (⟨m1,⟨r1,x3,W (x3 + 20),h,S.nf [true] rfl ⟨rfl,rfl,rfl,rfl,rfl,rfl,trivial⟩⟩,Nat.lt_succ_self _⟩)))))
   ·exact wp_exit (Ew (Ew (Hl (Tn (⟨x1,x2,h,S.nf [true] rfl (subR rfl)⟩)))))
 clear S h;rintro a w2 ⟨x1,x2,h,S⟩;rw [hj1] at h;clear hj1 j1
 refine Tn (Fs (Fg ?_))
 iterate 4 (refine Vm S rfl rfl ?_;clear S;intro a S)
 obtain ⟨r2,hr2,h⟩:=Ga h
 refine Pc 0 S rfl (fun _=>.own U 101 11 r2.length (r2.flatMap Eg.enc)) (fun _=>Ei (vs:=[U,iV x2,iV Bb,.func (.func 37) #[] #[]]) ⟨(S.tm rfl),(S.tm rfl),(S.tm rfl),(S.tm rfl),trivial⟩ call110) (Nm _ U x1 (S.holds _ (List.mem_of_getElem? (i:=0) rfl)) x2 Bb _ hr2) rfl (fun _ _ _ h=>⟨h.1,fun _ hc=>hc⟩) ?_;clear S;intro v2 a w4 hv2 hk2 hn2 S
 replace hv2:=hv2.2
 subst hv2
 refine Dl ?_
 replace S:=(S.nl [.own U 101 11 r2.length (r2.flatMap Eg.enc)] [true] rfl).k2 1 6 rfl
 obtain ⟨j2,hj2,h⟩:=Fk h
 refine Fa (fun a w'=>j2 = some r ∧ Sx w (U.ownBlock.toList) nov [.own U 101 11 r2.length (r2.flatMap Eg.enc)] [] 63 a w') ?_ ?_
 ·refine wp_block (Hs (fun (m2 : Nat) a w'=>∃ x4 : Int,Gq Bb j2 m2 x4 = some r ∧ Sx w (U.ownBlock.toList) nov [.own U 101 11 r2.length (r2.flatMap Eg.enc)] [(1,iV Bb),(6,iV x4)] 63 a w') id ((Bb - 20).toNat + 2) ⟨20,h,S.nf [true] rfl (subR rfl)⟩ ?_)
  clear S h;rintro m2 a w5 ⟨x4,h,S⟩
  cases m2 with
  | zero=>rw [Gq.eq_1] at h;cases h
  | succ m2 =>
   rw [Gq.eq_2] at h
   refine Fs (Fr (Vm S rfl rfl fun a S=>Vm S rfl rfl fun a S=>Vb S Fp rfl rfl rfl fun a S=>Dl (Fc h (S.tm rfl) (fun hb2 h=>?_) (fun hb2 h=>?_))))
   ·refine wp_skip (Tn (wp_block (Fr (Vm S rfl rfl fun a S=>Vu S (AI rfl) rfl rfl fun a S=>Vk S rfl rfl fun a S=>Va S rfl rfl fun a S=>Dl ?_))))
    refine Fs ?_
    replace S:=S.k4 1 6 7 8 rfl
    obtain ⟨j3,hj3,h⟩:=Fk h
    refine Fa (fun a w'=>∃ x5 : Int,j3 x5 = some r ∧ Sx w (U.ownBlock.toList) nov [.own U 101 11 r2.length (r2.flatMap Eg.enc)] [(1,iV Bb),(6,iV x4),(7,iV x5)] 63 a w') ?_ ?_
    ·refine wp_block (Hs (fun (m3 : Nat) a w'=>∃ x5 : Int,∃ x6 : Int,Ht Bb j3 m3 x5 x6 = some r ∧ Sx w (U.ownBlock.toList) nov [.own U 101 11 r2.length (r2.flatMap Eg.enc)] [(1,iV Bb),(6,iV x4),(7,iV x5),(8,iV x6)] 63 a w') id ((Bb - (W (2 * x4))).toNat + 2) ⟨0,W (2 * x4),h,S.nf [true] rfl (subR rfl)⟩ ?_)
     clear S h;rintro m3 a w7 ⟨x5,x6,h,S⟩
     cases m3 with
     | zero=>rw [Ht.eq_1] at h;cases h
     | succ m3 =>
      rw [Ht.eq_2] at h
      refine Fs (Fr (Vm S rfl rfl fun a S=>Vm S rfl rfl fun a S=>Vb S Vd rfl rfl rfl fun a S=>Dl (Fc h (S.tm rfl) (fun hb3 h=>?_) (fun hb3 h=>?_))))
      ·refine wp_skip (Tn (wp_block (Fs ?_)))
       cases h
      ·exact wp_exit (Ew (Ew (Hl (Tn (⟨x5,h,S.nf [true] rfl (subR rfl)⟩)))))
    clear S h;rintro a w8 ⟨x5,h,S⟩;rw [hj3] at h;clear hj3 j3
    refine Tn (Fs (Fr (Vm S rfl rfl fun a S=>Vm S rfl rfl fun a S=>Vb S Gw rfl rfl rfl fun a S=>Va S rfl rfl fun a S=>Dl (Fs ?_))))
    refine Fg (Vm S rfl rfl fun a S=>Vm S rfl rfl fun a S=>Vb S Fp rfl rfl rfl fun a S=>Dl (Fc h (S.tm rfl) (fun hb4 h=>?_) (fun hb4 h=>?_)))
    ·cases h
    ·exact wp_skip (Tn (Fg (Vm S rfl rfl fun a S=>Vq S AI rfl rfl rfl fun a S=>Va S rfl rfl fun a S=>Ld (Im (Tn (⟨m2,⟨W (x4 * 2),h,S.nf [true] rfl ⟨rfl,rfl,trivial⟩⟩,Nat.lt_succ_self _⟩))))))
   ·exact wp_exit (Ew (Ew (Hl (Tn (⟨h,S.nf [true] rfl trivial⟩)))))
 clear S h;rintro a w6 ⟨h,S⟩;rw [hj2] at h;clear hj2 j2
 obtain rfl:=Option.some.inj h
 exact Vg S results75 ⟨(S.holds _ (List.mem_of_getElem? (i:=0) rfl)),rfl⟩
theorem Sc (w : World) (Bc : Value) (Ac : List Eg) (Cs : (LEnt.own Bc 101 11 Ac.length (Ac.flatMap Eg.enc)).holds w) (r : (List Eg)) (h : Iu Ac = some r) :
    Calls prog 36 [Bc,.func (.func 37) #[] #[]].toArray w (Ret w (Bc.ownBlock.toList) fun _ v w'=>(LEnt.own Bc 101 11 r.length (r.flatMap Eg.enc)).holds w' ∧ v = .tuple #[]):=by
 refine Nb (Bc.ownBlock.toList) [.own Bc 101 11 Ac.length (Ac.flatMap Eg.enc)] func36 rfl ntmps36 rfl (fun e he=>by simp only [List.mem_singleton] at he;subst he;exact Cs) (Kw _) (Mv _) fun a S=>?_
 unfold Iu at h
 replace S:=(S.nl [.own Bc 101 11 Ac.length (Ac.flatMap Eg.enc)] [true] rfl).k2 0 1 rfl
 refine Fg (Vm S rfl rfl fun a S=>Vm S rfl rfl fun a S=>lv S (Gn Pn (S.tm rfl) (Qb (S.own_at (i:=0) rfl))) rfl fun a S=>Vm S rfl rfl ?_);clear S;intro a S
 obtain ⟨r1,hr1,h⟩:=Ga h
 refine Pc 0 S rfl (fun _=>.own Bc 101 11 r1.length (r1.flatMap Eg.enc)) (fun _=>Ei (vs:=[Bc,iV (Ac.length : Int),.func (.func 37) #[] #[]]) ⟨(S.tm rfl),(S.tm rfl),(S.tm rfl),trivial⟩ call75) (So _ Bc Ac (S.holds _ (List.mem_of_getElem? (i:=0) rfl)) (Ac.length : Int) _ hr1) rfl (fun _ _ _ h=>⟨h.1,fun _ hc=>hc⟩) ?_;clear S;intro v1 a w1 hv1 hk1 hn1 S
 replace hv1:=hv1.2
 subst hv1
 refine Ld ?_
 obtain rfl:=Option.some.inj h
 exact Vg S results36 ⟨(S.holds _ (List.mem_of_getElem? (i:=0) rfl)),rfl⟩
theorem IR (w : World) (O : Nat) (Aa : Value) (Aq : List Int) (Ap : Slc (view w [O]) 1 Aa (Aq.map eInt)) (Al : Int) (Az : (LEnt.blk O [Aa,iV Al] 25).holds w) (Bu : Int) (r : (List Eg) × Int) (h : Xn Aq Al Bu = some r) :
    Calls prog 17 [.pointer (some ⟨O,0,none⟩),iV Bu].toArray w (Ret w [O] fun τ v w'=>(LEnt.blk O [Aa,iV r.2] 25).holds w' ∧ Ve τ 101 11 v r.1.length (r.1.flatMap Eg.enc)):=by
 refine Nb [O] [.blk O [Aa,iV Al] 25] func17 rfl ntmps17 rfl (fun e he=>by simp only [List.mem_singleton] at he;subst he;exact Az) (by simp [fps,LEnt.fp]) (by simp [fps,LEnt.fp]) fun a S=>?_
 unfold Xn at h
 replace S:=(S.nl [.blk O [Aa,iV Al] 25] [true] rfl).k2 0 1 rfl
 refine Fr (Vk S rfl rfl fun a S=>Dz (Vk S rfl rfl ?_));clear S;intro a S
 replace S:=S.nil 101 11
 refine Dz (Vk S rfl rfl fun a S=>Dz (Sf (κ:=ByteArray) (ν:=Int) S rfl Value.string (Value.int .i64) ?_));clear S;intro a w1 b1 hz1 hk1 S
 refine Va S rfl rfl fun a S=>Dl (Fs (Fr (Vm S rfl rfl fun a S=>lv S (Rm rfl) rfl fun a S=>Dl ?_)))
 replace S:=(S.nl [.map b1 (Gx Value.string (Value.int .i64) ([] : List (ByteArray × Int))) ([] : List (ByteArray × Int)).length,.own (.slice none 0 0) 101 11 ([] : List Eg).length (([] : List Eg).flatMap Eg.enc),.blk O [Aa,iV Al] 25] [true,true,true] rfl).k6 0 5 6 7 10 11 rfl
 obtain ⟨j1,hj1,h⟩:=Fk h
 refine Fa (fun a w'=>∃ x1 : List (ByteArray × Int),∃ x2 : List Eg,∃ x3 : Int,∃ v1 : Value,j1 x1 x2 x3 = some r ∧ Sx w [O] nov [.map b1 (Gx Value.string (Value.int .i64) x1) x1.length,.own v1 101 11 x2.length (x2.flatMap Eg.enc),.blk O [Aa,iV x3] 25] [(5,v1)] 130 a w') ?_ ?_
 ·refine wp_block (Hs (fun (m1 : Nat) a w'=>∃ x1 : List (ByteArray × Int),∃ x2 : List Eg,∃ x3 : Int,∃ x4 : Int,∃ x5 : Int,∃ v1 : Value,Od Bu Aq j1 m1 x1 x2 x3 x4 x5 = some r ∧ Sx w [O] nov [.map b1 (Gx Value.string (Value.int .i64) x1) x1.length,.own v1 101 11 x2.length (x2.flatMap Eg.enc),.blk O [Aa,iV x3] 25] [(0,.pointer (some ⟨O,0,none⟩)),(5,v1),(6,iV x4),(7,.map (some b1)),(10,iV Bu),(11,iV x5)] 130 a w') id ((Bu - 0).toNat + 2) ⟨([] : List (ByteArray × Int)),([] : List Eg),Al,0,0,(.slice none 0 0),h,S.nf [true,true,true] rfl (subR rfl)⟩ ?_)
  clear S h;rintro m1 a w2 ⟨x1,x2,x3,x4,x5,v1,h,S⟩
  cases m1 with
  | zero=>rw [Od.eq_1] at h;cases h
  | succ m1 =>
   rw [Od.eq_2] at h
   refine Fr (Vb S Fp rfl rfl rfl fun a S=>Dl (Fs (Fc h (S.tm rfl) (fun hb1 h=>?_) (fun hb1 h=>?_))))
   ·refine wp_skip (Tn (Fs (wp_block (Fr (Vm S rfl rfl fun a S=>Vm S rfl rfl fun a S=>Fq S underlying22 sizeOf3 zeroValue3 rfl rfl (pv:=[(0,iV 0),(1,iV 1),(2,iV 5)]) ⟨rfl,rfl,rfl,rfl,rfl,rfl,trivial⟩ (cs:=[iV 0,iV 1,iV 5]) (by kernel_rfl) rfl ?_)))));clear S;intro a w4 b2 hz2 hk2 S
    obtain ⟨r1,hr1,h⟩:=Ga h
    refine Ir 3 S (b:=O) rfl rfl (fun _=>.blk O [Aa,iV r1.2] 25) (fun _=>Ei (vs:=[.pointer (some ⟨O,0,none⟩),.slice (some ⟨b2,0,none⟩) 3 3]) ⟨(S.tm rfl),(S.tm rfl),trivial⟩ call33) (Kg _ O Aa Aq (Ap.mono (S.le_arg (Jr (i:=3) (e:=.blk O [Aa,iV x3] 25) rfl))) x3 (S.holds _ (List.mem_of_getElem? (i:=3) rfl)) (.slice (some ⟨b2,0,none⟩) 3 3) [0,1,5] (Lg Ju S (i:=0) rfl rfl rfl rfl ((Nf (i:=3) (j:=0) (e:=.blk O [Aa,iV x3] 25) (e':=.blk b2 [iV 0,iV 1,iV 5] 3) S rfl rfl rfl) _ rfl)) _ hr1) rfl (fun _ _ _ h=>⟨h.1,fun _ hc=>by cases hc;rfl⟩) ?_;clear S;intro v2 a w5 hv1 hk3 hn1 S
    replace hv1:=hv1.2
    subst hv1
    refine Vb S Gw rfl rfl rfl fun a S=>Va S rfl rfl fun a S=>Dz (Vm S rfl rfl fun a S=>Fq S underlying43 sizeOf9 zeroValue9 rfl rfl (pv:=[(0,sV Uh),(1,sV Uh),(2,sV HH)]) ⟨rfl,rfl,rfl,rfl,rfl,rfl,trivial⟩ (cs:=[sV Uh,sV Uh,sV HH]) (by kernel_rfl) rfl ?_);clear S;intro a w6 b3 hz3 hk4 S
    obtain ⟨r2,hr2,h⟩:=Ga h
    refine Ir 4 S (b:=O) rfl rfl (fun _=>.blk O [Aa,iV r2.2] 25) (fun _=>Ei (vs:=[.pointer (some ⟨O,0,none⟩),.slice (some ⟨b3,0,none⟩) 3 3]) ⟨(S.tm rfl),(S.tm rfl),trivial⟩ call34) (Pw _ O Aa Aq (Ap.mono (S.le_arg (Jr (i:=4) (e:=.blk O [Aa,iV r1.2] 25) rfl))) r1.2 (S.holds _ (List.mem_of_getElem? (i:=4) rfl)) (.slice (some ⟨b3,0,none⟩) 3 3) [Uh,Uh,HH] (Lg Wx S (i:=0) rfl rfl rfl rfl ((Nf (i:=4) (j:=0) (e:=.blk O [Aa,iV r1.2] 25) (e':=.blk b3 [sV Uh,sV Uh,sV HH] 9) S rfl rfl rfl) _ rfl)) _ hr2) rfl (fun _ _ _ h=>⟨h.1,fun _ hc=>by cases hc;rfl⟩) ?_;clear S;intro v3 a w7 hv2 hk5 hn2 S
    replace hv2:=hv2.2
    subst hv2
    refine Vm S rfl rfl fun a S=>Vm S rfl rfl fun a S=>Fq S underlying22 sizeOf3 zeroValue3 rfl rfl (pv:=[(0,iV 1),(1,iV 1),(2,iV 1),(3,iV 3),(4,iV 3),(5,iV 3),(6,iV 2),(7,iV 4)]) ⟨rfl,rfl,rfl,rfl,rfl,rfl,rfl,rfl,rfl,rfl,rfl,rfl,rfl,rfl,rfl,rfl,trivial⟩ (cs:=[iV 1,iV 1,iV 1,iV 3,iV 3,iV 3,iV 2,iV 4]) (by kernel_rfl) rfl ?_;clear S;intro a w8 b4 hz4 hk6 S
    obtain ⟨r3,hr3,h⟩:=Ga h
    refine Ir 5 S (b:=O) rfl rfl (fun _=>.blk O [Aa,iV r3.2] 25) (fun _=>Ei (vs:=[.pointer (some ⟨O,0,none⟩),.slice (some ⟨b4,0,none⟩) 8 8]) ⟨(S.tm rfl),(S.tm rfl),trivial⟩ call33) (Kg _ O Aa Aq (Ap.mono (S.le_arg (Jr (i:=5) (e:=.blk O [Aa,iV r2.2] 25) rfl))) r2.2 (S.holds _ (List.mem_of_getElem? (i:=5) rfl)) (.slice (some ⟨b4,0,none⟩) 8 8) [1,1,1,3,3,3,2,4] (Lg Ju S (i:=0) rfl rfl rfl rfl ((Nf (i:=5) (j:=0) (e:=.blk O [Aa,iV r2.2] 25) (e':=.blk b4 [iV 1,iV 1,iV 1,iV 3,iV 3,iV 3,iV 2,iV 4] 3) S rfl rfl rfl) _ rfl)) _ hr3) rfl (fun _ _ _ h=>⟨h.1,fun _ hc=>by cases hc;rfl⟩) ?_;clear S;intro v4 a w9 hv3 hk7 hn3 S
    replace hv3:=hv3.2
    subst hv3
    refine lv S (Nc RN (pv:=[(0,sV r2.1),(2,iV (W (x4 + r1.1))),(3,iV r3.1)]) ⟨rfl,(S.tm rfl),rfl,(S.tm rfl),rfl,(S.tm rfl),trivial⟩ (cs:=[sV r2.1,iV 0,iV (W (x4 + r1.1)),iV r3.1,sV An,sV An,sV An,iV 0,iV 0,sV An,iV 0]) (by kernel_rfl)) rfl fun a S=>Iz S zeroValue101 (cs:=[sV An,iV 0,iV 0,iV 0,sV An,sV An,sV An,iV 0,iV 0,sV An,iV 0]) rfl rfl ?_;clear S;intro a w10 b5 hz5 hk8 S
    refine Ft S (S.tm rfl) (S.tm rfl) (i:=0) (off:=0) rfl sizeOf101 (vs:=(Eg.enc (Eg.mk r2.1 0 (W (x4 + r1.1)) r3.1 An An An 0 0 An 0))) rfl rfl rfl rfl ?_;clear S;intro w11 hk9 S
    refine Ld ?_
    replace S:=(S.nl [.blk b5 (Eg.enc (Eg.mk r2.1 0 (W (x4 + r1.1)) r3.1 An An An 0 0 An 0)) 101,.map b1 (Gx Value.string (Value.int .i64) x1) x1.length,.own v1 101 11 x2.length (x2.flatMap Eg.enc),.blk O [Aa,iV r3.2] 25] [true,false,false,false,true,true,true] rfl).k7 0 5 6 7 8 10 11 rfl
    refine Tn (Fr (Vm S rfl rfl fun a S=>Vf Rd S rfl rfl fun a S=>Vl isAgg9 0 S rfl rfl rfl rfl fun a S=>lv S (Qu (kv:=Value.string) (vv:=(Value.int .i64)) (m:=x1) (key:=r2.1) (z:=0) (S.map_at (i:=1) rfl) underlying98 (Nu underlying9) zeroValue3 (S.tm rfl) (S.tm rfl)) rfl fun a S=>Vq S Gw rfl rfl rfl fun a S=>Qa (kv:=Value.string) (vv:=(Value.int .i64)) (m:=x1) (key:=r2.1) (val:=W ((Et x1 r2.1 0) + 1)) S (i:=1) rfl underlying98 (Nu underlying9) (S.tm rfl) (S.tm rfl) (S.tm rfl) ?_));clear S;intro w12 hk10 S
    refine Dz (Vm S rfl rfl fun a S=>Vf Rd S rfl rfl fun a S=>Vl isAgg9 0 S rfl rfl rfl rfl fun a S=>lv S (Qu (kv:=Value.string) (vv:=(Value.int .i64)) (m:=(Hj x1 r2.1 (W ((Et x1 r2.1 0) + 1)))) (key:=r2.1) (z:=0) (S.map_at (i:=1) rfl) underlying98 (Nu underlying9) zeroValue3 (S.tm rfl) (S.tm rfl)) rfl fun a S=>Vf Tl S rfl rfl fun a S=>Ft S (S.tm rfl) (S.tm rfl) (i:=0) (off:=1) rfl sizeOf3 (vs:=[iV (Et (Hj x1 r2.1 (W ((Et x1 r2.1 0) + 1))) r2.1 0)]) rfl rfl rfl rfl ?_);clear S;intro w13 hk11 S
    refine Ld ?_
    replace S:=(S.nl [.blk b5 (Eg.enc (Eg.mk r2.1 (Et (Hj x1 r2.1 (W ((Et x1 r2.1 0) + 1))) r2.1 0) (W (x4 + r1.1)) r3.1 An An An 0 0 An 0)) 101,.map b1 (Gx Value.string (Value.int .i64) (Hj x1 r2.1 (W ((Et x1 r2.1 0) + 1)))) (Hj x1 r2.1 (W ((Et x1 r2.1 0) + 1))).length,.own v1 101 11 x2.length (x2.flatMap Eg.enc),.blk O [Aa,iV r3.2] 25] [true,true,true,true] rfl).k7 0 5 6 7 8 10 11 rfl
    refine Tn (Fs (Fr (Vf Pv S rfl rfl fun a S=>Vl isAgg3 0 S rfl rfl rfl rfl fun a S=>Vq S Nt rfl rfl rfl fun a S=>Dl ?_)))
    obtain ⟨j2,hj2,h⟩:=Fk h
    refine Fa (fun a w'=>∃ x6 : ByteArray,∃ x7 : ByteArray,∃ x8 : Int,j2 x6 x7 x8 = some r ∧ Sx w [O] nov [.blk b5 (Eg.enc (Eg.mk r2.1 (Et (Hj x1 r2.1 (W ((Et x1 r2.1 0) + 1))) r2.1 0) (W (x4 + r1.1)) r3.1 x6 An x7 0 0 An 0)) 101,.map b1 (Gx Value.string (Value.int .i64) (Hj x1 r2.1 (W ((Et x1 r2.1 0) + 1)))) (Hj x1 r2.1 (W ((Et x1 r2.1 0) + 1))).length,.own v1 101 11 x2.length (x2.flatMap Eg.enc),.blk O [Aa,iV x8] 25] [(0,.pointer (some ⟨O,0,none⟩)),(5,v1),(6,iV (W (x4 + r1.1))),(7,.map (some b1)),(8,.pointer (some ⟨b5,0,none⟩)),(10,iV Bu),(11,iV x5)] 130 a w') ?_ ?_
    ·refine Fc h (S.tm rfl) (fun hb2 h=>?_) (fun hb2 h=>?_)
     ·refine Fg (Vm S rfl rfl fun a S=>Fq S underlying43 sizeOf9 zeroValue9 rfl rfl (pv:=[(0,sV Xm),(1,sV AR),(2,sV AS),(3,sV AU)]) ⟨rfl,rfl,rfl,rfl,rfl,rfl,rfl,rfl,trivial⟩ (cs:=[sV Xm,sV AR,sV AS,sV AU]) (by kernel_rfl) rfl ?_);clear S;intro a w15 b6 hz6 hk12 S
      obtain ⟨r4,hr4,h⟩:=Ga h
      refine Ir 4 S (b:=O) rfl rfl (fun _=>.blk O [Aa,iV r4.2] 25) (fun _=>Ei (vs:=[.pointer (some ⟨O,0,none⟩),.slice (some ⟨b6,0,none⟩) 4 4]) ⟨(S.tm rfl),(S.tm rfl),trivial⟩ call34) (Pw _ O Aa Aq (Ap.mono (S.le_arg (Jr (i:=4) (e:=.blk O [Aa,iV r3.2] 25) rfl))) r3.2 (S.holds _ (List.mem_of_getElem? (i:=4) rfl)) (.slice (some ⟨b6,0,none⟩) 4 4) [Xm,AR,AS,AU] (Lg Wx S (i:=0) rfl rfl rfl rfl ((Nf (i:=4) (j:=0) (e:=.blk O [Aa,iV r3.2] 25) (e':=.blk b6 [sV Xm,sV AR,sV AS,sV AU] 9) S rfl rfl rfl) _ rfl)) _ hr4) rfl (fun _ _ _ h=>⟨h.1,fun _ hc=>by cases hc;rfl⟩) ?_;clear S;intro v5 a w16 hv4 hk13 hn4 S
      replace hv4:=hv4.2
      subst hv4
      refine Vm S rfl rfl fun a S=>Fq S underlying43 sizeOf9 zeroValue9 rfl rfl (pv:=[(0,sV Qr),(1,sV Qr),(2,sV Tq),(3,sV RJ)]) ⟨rfl,rfl,rfl,rfl,rfl,rfl,rfl,rfl,trivial⟩ (cs:=[sV Qr,sV Qr,sV Tq,sV RJ]) (by kernel_rfl) rfl ?_;clear S;intro a w17 b7 hz7 hk14 S
      obtain ⟨r5,hr5,h⟩:=Ga h
      refine Ir 5 S (b:=O) rfl rfl (fun _=>.blk O [Aa,iV r5.2] 25) (fun _=>Ei (vs:=[.pointer (some ⟨O,0,none⟩),.slice (some ⟨b7,0,none⟩) 4 4]) ⟨(S.tm rfl),(S.tm rfl),trivial⟩ call34) (Pw _ O Aa Aq (Ap.mono (S.le_arg (Jr (i:=5) (e:=.blk O [Aa,iV r4.2] 25) rfl))) r4.2 (S.holds _ (List.mem_of_getElem? (i:=5) rfl)) (.slice (some ⟨b7,0,none⟩) 4 4) [Qr,Qr,Tq,RJ] (Lg Wx S (i:=0) rfl rfl rfl rfl ((Nf (i:=5) (j:=0) (e:=.blk O [Aa,iV r4.2] 25) (e':=.blk b7 [sV Qr,sV Qr,sV Tq,sV RJ] 9) S rfl rfl rfl) _ rfl)) _ hr5) rfl (fun _ _ _ h=>⟨h.1,fun _ hc=>by cases hc;rfl⟩) ?_;clear S;intro v6 a w18 hv5 hk15 hn5 S
      replace hv5:=hv5.2
      subst hv5
      refine Vf Oq S rfl rfl fun a S=>Ft S (S.tm rfl) (S.tm rfl) (i:=2) (off:=4) rfl sizeOf9 (vs:=[sV r4.1]) rfl rfl rfl rfl ?_;clear S;intro w19 hk16 S
      refine Vf Sm S rfl rfl fun a S=>Ft S (S.tm rfl) (S.tm rfl) (i:=2) (off:=6) rfl sizeOf9 (vs:=[sV r5.1]) rfl rfl rfl rfl ?_;clear S;intro w20 hk17 S
      refine Ld ?_
      replace S:=(S.nl [.blk b5 (Eg.enc (Eg.mk r2.1 (Et (Hj x1 r2.1 (W ((Et x1 r2.1 0) + 1))) r2.1 0) (W (x4 + r1.1)) r3.1 r4.1 An r5.1 0 0 An 0)) 101,.map b1 (Gx Value.string (Value.int .i64) (Hj x1 r2.1 (W ((Et x1 r2.1 0) + 1)))) (Hj x1 r2.1 (W ((Et x1 r2.1 0) + 1))).length,.own v1 101 11 x2.length (x2.flatMap Eg.enc),.blk O [Aa,iV r5.2] 25] [false,false,true,true,true,true] rfl).k7 0 5 6 7 8 10 11 rfl
      exact Tn (⟨r4.1,r5.1,r5.2,h,S.nf [true,true,true,true] rfl (subR rfl)⟩)
     ·exact wp_skip (Tn (⟨An,An,r3.2,h,S.nf [true,true,true,true] rfl (subR rfl)⟩))
    clear S h;rintro a w14 ⟨x6,x7,x8,h,S⟩;rw [hj2] at h;clear hj2 j2
    refine Tn (Fs (Fr (Vf Pv S rfl rfl fun a S=>Vl isAgg3 0 S rfl rfl rfl rfl fun a S=>Dl ?_)))
    obtain ⟨j3,hj3,h⟩:=Fk h
    refine Fa (fun a w'=>∃ x9 : ByteArray,∃ x10 : Int,∃ x11 : Int,∃ x12 : ByteArray,∃ x13 : Int,∃ x14 : Int,j3 x9 x10 x11 x12 x13 x14 = some r ∧ Sx w [O] nov [.blk b5 (Eg.enc (Eg.mk r2.1 (Et (Hj x1 r2.1 (W ((Et x1 r2.1 0) + 1))) r2.1 0) (W (x4 + r1.1)) r3.1 x6 x9 x7 x10 x11 x12 x13)) 101,.map b1 (Gx Value.string (Value.int .i64) (Hj x1 r2.1 (W ((Et x1 r2.1 0) + 1)))) (Hj x1 r2.1 (W ((Et x1 r2.1 0) + 1))).length,.own v1 101 11 x2.length (x2.flatMap Eg.enc),.blk O [Aa,iV x14] 25] [(0,.pointer (some ⟨O,0,none⟩)),(5,v1),(6,iV (W (x4 + r1.1))),(7,.map (some b1)),(8,.pointer (some ⟨b5,0,none⟩)),(10,iV Bu),(11,iV x5)] 130 a w') ?_ ?_
    ·refine wp_block (Fr (Vq S Jn rfl rfl rfl fun a S=>Va S rfl rfl fun a S=>Dl ?_))
     obtain ⟨j4,hj4,h⟩:=Fk h
     refine Fa (fun a w'=>∃ x15 : ByteArray,∃ x16 : Int,∃ x17 : Int,∃ x18 : ByteArray,∃ x19 : Int,∃ x20 : Int,j4 x15 x16 x17 x18 x19 x20 = some r ∧ Sx w [O] nov [.blk b5 (Eg.enc (Eg.mk r2.1 (Et (Hj x1 r2.1 (W ((Et x1 r2.1 0) + 1))) r2.1 0) (W (x4 + r1.1)) r3.1 x6 x15 x7 x16 x17 x18 x19)) 101,.map b1 (Gx Value.string (Value.int .i64) (Hj x1 r2.1 (W ((Et x1 r2.1 0) + 1)))) (Hj x1 r2.1 (W ((Et x1 r2.1 0) + 1))).length,.own v1 101 11 x2.length (x2.flatMap Eg.enc),.blk O [Aa,iV x20] 25] [(0,.pointer (some ⟨O,0,none⟩)),(5,v1),(6,iV (W (x4 + r1.1))),(7,.map (some b1)),(8,.pointer (some ⟨b5,0,none⟩)),(10,iV Bu),(11,iV x5)] 130 a w') ?_ ?_
     ·refine Fc h (S.tm rfl) (fun hb3 h=>?_) (fun hb3 h=>?_)
      ·refine Fg (Vm S rfl rfl fun a S=>Fq S underlying43 sizeOf9 zeroValue9 rfl rfl (pv:=[(0,sV Wj),(1,sV FZ),(2,sV An)]) ⟨rfl,rfl,rfl,rfl,rfl,rfl,trivial⟩ (cs:=[sV Wj,sV FZ,sV An]) (by kernel_rfl) rfl ?_);clear S;intro a w23 b8 hz8 hk18 S
       obtain ⟨r6,hr6,h⟩:=Ga h
       refine Ir 4 S (b:=O) rfl rfl (fun _=>.blk O [Aa,iV r6.2] 25) (fun _=>Ei (vs:=[.pointer (some ⟨O,0,none⟩),.slice (some ⟨b8,0,none⟩) 3 3]) ⟨(S.tm rfl),(S.tm rfl),trivial⟩ call34) (Pw _ O Aa Aq (Ap.mono (S.le_arg (Jr (i:=4) (e:=.blk O [Aa,iV x8] 25) rfl))) x8 (S.holds _ (List.mem_of_getElem? (i:=4) rfl)) (.slice (some ⟨b8,0,none⟩) 3 3) [Wj,FZ,An] (Lg Wx S (i:=0) rfl rfl rfl rfl ((Nf (i:=4) (j:=0) (e:=.blk O [Aa,iV x8] 25) (e':=.blk b8 [sV Wj,sV FZ,sV An] 9) S rfl rfl rfl) _ rfl)) _ hr6) rfl (fun _ _ _ h=>⟨h.1,fun _ hc=>by cases hc;rfl⟩) ?_;clear S;intro v7 a w24 hv6 hk19 hn6 S
       replace hv6:=hv6.2
       subst hv6
       refine Vm S rfl rfl fun a S=>Fq S underlying22 sizeOf3 zeroValue3 rfl rfl (pv:=[(0,iV 0),(1,iV 5900),(2,iV 6000),(3,iV 7000)]) ⟨rfl,rfl,rfl,rfl,rfl,rfl,rfl,rfl,trivial⟩ (cs:=[iV 0,iV 5900,iV 6000,iV 7000]) (by kernel_rfl) rfl ?_;clear S;intro a w25 b9 hz9 hk20 S
       obtain ⟨r7,hr7,h⟩:=Ga h
       refine Ir 5 S (b:=O) rfl rfl (fun _=>.blk O [Aa,iV r7.2] 25) (fun _=>Ei (vs:=[.pointer (some ⟨O,0,none⟩),.slice (some ⟨b9,0,none⟩) 4 4]) ⟨(S.tm rfl),(S.tm rfl),trivial⟩ call33) (Kg _ O Aa Aq (Ap.mono (S.le_arg (Jr (i:=5) (e:=.blk O [Aa,iV r6.2] 25) rfl))) r6.2 (S.holds _ (List.mem_of_getElem? (i:=5) rfl)) (.slice (some ⟨b9,0,none⟩) 4 4) [0,5900,6000,7000] (Lg Ju S (i:=0) rfl rfl rfl rfl ((Nf (i:=5) (j:=0) (e:=.blk O [Aa,iV r6.2] 25) (e':=.blk b9 [iV 0,iV 5900,iV 6000,iV 7000] 3) S rfl rfl rfl) _ rfl)) _ hr7) rfl (fun _ _ _ h=>⟨h.1,fun _ hc=>by cases hc;rfl⟩) ?_;clear S;intro v8 a w26 hv7 hk21 hn7 S
       replace hv7:=hv7.2
       subst hv7
       refine Vf Vp S rfl rfl fun a S=>Ft S (S.tm rfl) (S.tm rfl) (i:=2) (off:=5) rfl sizeOf9 (vs:=[sV r6.1]) rfl rfl rfl rfl ?_;clear S;intro w27 hk22 S
       refine Vf Um S rfl rfl fun a S=>Ft S (S.tm rfl) (S.tm rfl) (i:=2) (off:=7) rfl sizeOf3 (vs:=[iV r7.1]) rfl rfl rfl rfl ?_;clear S;intro w28 hk23 S
       refine Ld ?_
       replace S:=(S.nl [.blk b5 (Eg.enc (Eg.mk r2.1 (Et (Hj x1 r2.1 (W ((Et x1 r2.1 0) + 1))) r2.1 0) (W (x4 + r1.1)) r3.1 x6 r6.1 x7 r7.1 0 An 0)) 101,.map b1 (Gx Value.string (Value.int .i64) (Hj x1 r2.1 (W ((Et x1 r2.1 0) + 1)))) (Hj x1 r2.1 (W ((Et x1 r2.1 0) + 1))).length,.own v1 101 11 x2.length (x2.flatMap Eg.enc),.blk O [Aa,iV r7.2] 25] [false,false,true,true,true,true] rfl).k7 0 5 6 7 8 10 11 rfl
       exact Tn (⟨r6.1,r7.1,0,An,0,r7.2,h,S.nf [true,true,true,true] rfl (subR rfl)⟩)
      ·refine Fr (Vq S Jn rfl rfl rfl fun a S=>Va S rfl rfl fun a S=>Dl ?_)
       obtain ⟨j5,hj5,h⟩:=Fk h
       refine Fa (fun a w'=>∃ x21 : Int,∃ x22 : Int,∃ x23 : ByteArray,∃ x24 : Int,∃ x25 : Int,j5 x21 x22 x23 x24 x25 = some r ∧ Sx w [O] nov [.blk b5 (Eg.enc (Eg.mk r2.1 (Et (Hj x1 r2.1 (W ((Et x1 r2.1 0) + 1))) r2.1 0) (W (x4 + r1.1)) r3.1 x6 An x7 x21 x22 x23 x24)) 101,.map b1 (Gx Value.string (Value.int .i64) (Hj x1 r2.1 (W ((Et x1 r2.1 0) + 1)))) (Hj x1 r2.1 (W ((Et x1 r2.1 0) + 1))).length,.own v1 101 11 x2.length (x2.flatMap Eg.enc),.blk O [Aa,iV x25] 25] [(0,.pointer (some ⟨O,0,none⟩)),(5,v1),(6,iV (W (x4 + r1.1))),(7,.map (some b1)),(8,.pointer (some ⟨b5,0,none⟩)),(10,iV Bu),(11,iV x5)] 130 a w') ?_ ?_
       ·refine Fc h (S.tm rfl) (fun hb4 h=>?_) (fun hb4 h=>?_)
        ·refine Fg (Vm S rfl rfl fun a S=>Fq S underlying22 sizeOf3 zeroValue3 rfl rfl (pv:=[(0,iV 0),(1,iV 5900),(2,iV 5900),(3,iV 6000),(4,iV 6100)]) ⟨rfl,rfl,rfl,rfl,rfl,rfl,rfl,rfl,rfl,rfl,trivial⟩ (cs:=[iV 0,iV 5900,iV 5900,iV 6000,iV 6100]) (by kernel_rfl) rfl ?_);clear S;intro a w30 b10 hz10 hk24 S
         obtain ⟨r8,hr8,h⟩:=Ga h
         refine Ir 4 S (b:=O) rfl rfl (fun _=>.blk O [Aa,iV r8.2] 25) (fun _=>Ei (vs:=[.pointer (some ⟨O,0,none⟩),.slice (some ⟨b10,0,none⟩) 5 5]) ⟨(S.tm rfl),(S.tm rfl),trivial⟩ call33) (Kg _ O Aa Aq (Ap.mono (S.le_arg (Jr (i:=4) (e:=.blk O [Aa,iV x8] 25) rfl))) x8 (S.holds _ (List.mem_of_getElem? (i:=4) rfl)) (.slice (some ⟨b10,0,none⟩) 5 5) [0,5900,5900,6000,6100] (Lg Ju S (i:=0) rfl rfl rfl rfl ((Nf (i:=4) (j:=0) (e:=.blk O [Aa,iV x8] 25) (e':=.blk b10 [iV 0,iV 5900,iV 5900,iV 6000,iV 6100] 3) S rfl rfl rfl) _ rfl)) _ hr8) rfl (fun _ _ _ h=>⟨h.1,fun _ hc=>by cases hc;rfl⟩) ?_;clear S;intro v9 a w31 hv8 hk25 hn8 S
         replace hv8:=hv8.2
         subst hv8
         refine Vm S rfl rfl fun a S=>Fq S underlying22 sizeOf3 zeroValue3 rfl rfl (pv:=[(0,iV 0),(1,iV 0),(2,iV 0),(3,iV 0),(4,iV 3)]) ⟨rfl,rfl,rfl,rfl,rfl,rfl,rfl,rfl,rfl,rfl,trivial⟩ (cs:=[iV 0,iV 0,iV 0,iV 0,iV 3]) (by kernel_rfl) rfl ?_;clear S;intro a w32 b11 hz11 hk26 S
         obtain ⟨r9,hr9,h⟩:=Ga h
         refine Ir 5 S (b:=O) rfl rfl (fun _=>.blk O [Aa,iV r9.2] 25) (fun _=>Ei (vs:=[.pointer (some ⟨O,0,none⟩),.slice (some ⟨b11,0,none⟩) 5 5]) ⟨(S.tm rfl),(S.tm rfl),trivial⟩ call33) (Kg _ O Aa Aq (Ap.mono (S.le_arg (Jr (i:=5) (e:=.blk O [Aa,iV r8.2] 25) rfl))) r8.2 (S.holds _ (List.mem_of_getElem? (i:=5) rfl)) (.slice (some ⟨b11,0,none⟩) 5 5) [0,0,0,0,3] (Lg Ju S (i:=0) rfl rfl rfl rfl ((Nf (i:=5) (j:=0) (e:=.blk O [Aa,iV r8.2] 25) (e':=.blk b11 [iV 0,iV 0,iV 0,iV 0,iV 3] 3) S rfl rfl rfl) _ rfl)) _ hr9) rfl (fun _ _ _ h=>⟨h.1,fun _ hc=>by cases hc;rfl⟩) ?_;clear S;intro v10 a w33 hv9 hk27 hn9 S
         replace hv9:=hv9.2
         subst hv9
         refine Vf Um S rfl rfl fun a S=>Ft S (S.tm rfl) (S.tm rfl) (i:=2) (off:=7) rfl sizeOf3 (vs:=[iV r8.1]) rfl rfl rfl rfl ?_;clear S;intro w34 hk28 S
         refine Vf Ws S rfl rfl fun a S=>Ft S (S.tm rfl) (S.tm rfl) (i:=2) (off:=8) rfl sizeOf3 (vs:=[iV r9.1]) rfl rfl rfl rfl ?_;clear S;intro w35 hk29 S
         refine Ld ?_
         replace S:=(S.nl [.blk b5 (Eg.enc (Eg.mk r2.1 (Et (Hj x1 r2.1 (W ((Et x1 r2.1 0) + 1))) r2.1 0) (W (x4 + r1.1)) r3.1 x6 An x7 r8.1 r9.1 An 0)) 101,.map b1 (Gx Value.string (Value.int .i64) (Hj x1 r2.1 (W ((Et x1 r2.1 0) + 1)))) (Hj x1 r2.1 (W ((Et x1 r2.1 0) + 1))).length,.own v1 101 11 x2.length (x2.flatMap Eg.enc),.blk O [Aa,iV r9.2] 25] [false,false,true,true,true,true] rfl).k7 0 5 6 7 8 10 11 rfl
         exact Tn (⟨r8.1,r9.1,An,0,r9.2,h,S.nf [true,true,true,true] rfl (subR rfl)⟩)
        ·refine Fr (Vq S Jn rfl rfl rfl fun a S=>Va S rfl rfl fun a S=>Ld ?_)
         replace S:=S.k8 0 5 6 7 8 10 11 69 rfl
         refine Tn ?_
         obtain ⟨j6,hj6,h⟩:=Fk h
         refine Fa (fun a w'=>∃ x26 : ByteArray,∃ x27 : Int,∃ x28 : Int,j6 x26 x27 x28 = some r ∧ Sx w [O] nov [.blk b5 (Eg.enc (Eg.mk r2.1 (Et (Hj x1 r2.1 (W ((Et x1 r2.1 0) + 1))) r2.1 0) (W (x4 + r1.1)) r3.1 x6 An x7 0 0 x26 x27)) 101,.map b1 (Gx Value.string (Value.int .i64) (Hj x1 r2.1 (W ((Et x1 r2.1 0) + 1)))) (Hj x1 r2.1 (W ((Et x1 r2.1 0) + 1))).length,.own v1 101 11 x2.length (x2.flatMap Eg.enc),.blk O [Aa,iV x28] 25] [(0,.pointer (some ⟨O,0,none⟩)),(5,v1),(6,iV (W (x4 + r1.1))),(7,.map (some b1)),(8,.pointer (some ⟨b5,0,none⟩)),(10,iV Bu),(11,iV x5)] 130 a w') ?_ ?_
         ·refine Fc h (S.tm rfl) (fun hb5 h=>?_) (fun hb5 h=>?_)
          ·obtain ⟨r10,hr10,h⟩:=Ga h
           obtain ⟨r11,hr11,h⟩:=Ga h
           refine Hd [] ([O] ++ [b5]) Tryz.mixed S rfl (by kernel_rfl) ?_;clear S;intro w42 hk35 hsel S
           refine Eo 0 S hsel rfl rfl rfl (by kernel_rfl) (by kernel_rfl) rfl (fun _ hw=>(Rm (S.tm rfl))) fun a S=>Eo 3 S hsel rfl rfl rfl (by kernel_rfl) (by kernel_rfl) rfl (fun _ hw=>(Rm (S.tm rfl))) fun a S=>Eo 4 S hsel rfl rfl rfl (by kernel_rfl) (by kernel_rfl) rfl (fun _ hw=>(Rm (S.tm rfl))) fun a S=>Eo 5 S hsel rfl rfl rfl (by kernel_rfl) (by kernel_rfl) rfl (fun _ hw=>(Qu (kv:=Value.string) (vv:=(Value.int .i64)) (m:=(Hj x1 r2.1 (W ((Et x1 r2.1 0) + 1)))) (key:=Uh) (z:=0) (S.map_kept (i:=1) rfl (WR (Nf (i:=3) (j:=1) (e:=.blk O [Aa,iV x8] 25) (e':=.map b1 (Gx Value.string (Value.int .i64) (Hj x1 r2.1 (W ((Et x1 r2.1 0) + 1)))) (Hj x1 r2.1 (W ((Et x1 r2.1 0) + 1))).length) S rfl rfl rfl) (Nf (i:=0) (j:=1) (e:=.blk b5 (Eg.enc (Eg.mk r2.1 (Et (Hj x1 r2.1 (W ((Et x1 r2.1 0) + 1))) r2.1 0) (W (x4 + r1.1)) r3.1 x6 An x7 0 0 An 0)) 101) (e':=.map b1 (Gx Value.string (Value.int .i64) (Hj x1 r2.1 (W ((Et x1 r2.1 0) + 1)))) (Hj x1 r2.1 (W ((Et x1 r2.1 0) + 1))).length) S rfl rfl rfl)) hw) underlying98 (Nu underlying9) zeroValue3 (S.tm rfl) rfl)) fun a S=>Eo 6 S hsel rfl rfl rfl (by kernel_rfl) (by kernel_rfl) rfl (fun _ hw=>(SP rfl (S.tm rfl))) fun a S=>Hi 1 (by kernel_rfl) rfl (Fq S underlying43 sizeOf9 zeroValue9 rfl rfl (pv:=[(0,sV Uh),(1,sV Uh),(2,sV HH)]) ⟨rfl,rfl,rfl,rfl,rfl,rfl,trivial⟩ (cs:=[sV Uh,sV Uh,sV HH]) (by kernel_rfl) rfl ?_);clear S;intro a w43 b13 hz13 hk36 S
           refine Ld (It (Keep.none hk36) (Hi 2 (by kernel_rfl) rfl ?_))
           refine Ir 4 S (b:=O) rfl rfl (fun _=>.blk O [Aa,iV r10.2] 25) (fun _=>Ei (vs:=[.pointer (some ⟨O,0,none⟩),.slice (some ⟨b13,0,none⟩) 3 3]) ⟨(S.tm rfl),(S.tm rfl),trivial⟩ call34) (Pw _ O Aa Aq (Ap.mono (S.le_arg (Jr (i:=4) (e:=.blk O [Aa,iV x8] 25) rfl))) x8 (S.holds _ (List.mem_of_getElem? (i:=4) rfl)) (.slice (some ⟨b13,0,none⟩) 3 3) [Uh,Uh,HH] (Lg Wx S (i:=0) rfl rfl rfl rfl ((Nf (i:=4) (j:=0) (e:=.blk O [Aa,iV x8] 25) (e':=.blk b13 [sV Uh,sV Uh,sV HH] 9) S rfl rfl rfl) _ rfl)) _ hr10) rfl (fun _ _ _ h=>⟨h.1,fun _ hc=>by cases hc;rfl⟩) ?_;clear S;intro v13 a w44 hv12 hk37 hn12 S
           replace hv12:=hv12.2
           subst hv12
           refine Ld ?_
           refine It (hk37.sub (by intro y hy;simp at hy ⊢;simp [hy])) ?_
           refine Eo 8 S hsel rfl rfl rfl (by kernel_rfl) (by kernel_rfl) rfl (fun _ hw=>(Gb Yr (S.tm rfl))) fun a S=>Hi 7 (by kernel_rfl) rfl ?_
           refine Ir 4 S (b:=O) rfl rfl (fun _=>.blk O [Aa,iV r11.2] 25) (fun _=>Ei (vs:=[.pointer (some ⟨O,0,none⟩),iV 1,iV (HA 1 (Et (Hj x1 r2.1 (W ((Et x1 r2.1 0) + 1))) Uh 0))]) ⟨(S.tm rfl),rfl,(S.tm rfl),trivial⟩ call6) (Qx _ O Aa Aq (Ap.mono (S.le_arg (Jr (i:=4) (e:=.blk O [Aa,iV r10.2] 25) rfl))) r10.2 (S.holds _ (List.mem_of_getElem? (i:=4) rfl)) 1 (HA 1 (Et (Hj x1 r2.1 (W ((Et x1 r2.1 0) + 1))) Uh 0)) _ hr11) rfl (fun _ _ _ h=>⟨h.1,fun _ hc=>by cases hc;rfl⟩) ?_;clear S;intro v14 a w45 hv13 hk38 hn13 S
           replace hv13:=hv13.2
           subst hv13
           refine Ld ?_
           refine It (hk38.sub (by intro y hy;simp at hy ⊢;simp [hy])) ?_
           refine Hi 9 (by kernel_rfl) rfl (Ft S (S.tm rfl) (S.tm rfl) (i:=1) (off:=9) rfl sizeOf9 (vs:=[sV r10.1]) rfl rfl rfl rfl ?_);clear S;intro w46 hk39 S
           refine Ld ?_
           refine It (hk39.sub (by intro y hy;simp at hy ⊢;simp [hy])) ?_
           refine Eo 10 S hsel rfl rfl rfl (by kernel_rfl) (by kernel_rfl) rfl (fun _ hw=>(Gb Wc (S.tm rfl))) fun a S=>Hi 11 (by kernel_rfl) rfl (Ft S (S.tm rfl) (S.tm rfl) (i:=1) (off:=10) rfl sizeOf3 (vs:=[iV r11.1]) rfl rfl rfl rfl ?_);clear S;intro w47 hk40 S
           refine Ld ?_
           refine It (hk40.sub (by intro y hy;simp at hy ⊢;simp [hy])) ?_
           refine Xy (by kernel_rfl) ?_
           clear hsel
           replace S:=(S.nl [.blk b5 (Eg.enc (Eg.mk r2.1 (Et (Hj x1 r2.1 (W ((Et x1 r2.1 0) + 1))) r2.1 0) (W (x4 + r1.1)) r3.1 x6 An x7 0 0 r10.1 r11.1)) 101,.map b1 (Gx Value.string (Value.int .i64) (Hj x1 r2.1 (W ((Et x1 r2.1 0) + 1)))) (Hj x1 r2.1 (W ((Et x1 r2.1 0) + 1))).length,.own v1 101 11 x2.length (x2.flatMap Eg.enc),.blk O [Aa,iV r11.2] 25] [false,true,true,true,true] rfl).k7 0 5 6 7 8 10 11 rfl
           exact Tn (⟨r10.1,r11.1,r11.2,h,S.nf [true,true,true,true] rfl (subR rfl)⟩)
          ·exact wp_skip (Tn (⟨An,0,x8,h,S.nf [true,true,true,true] rfl (subR rfl)⟩))
         clear S h;rintro a w36 ⟨x26,x27,x28,h,S⟩;rw [hj6] at h;clear hj6 j6
         exact Tn (⟨0,0,x26,x27,x28,h,S.nf [true,true,true,true] rfl (subR rfl)⟩)
       clear S h;rintro a w29 ⟨x21,x22,x23,x24,x25,h,S⟩;rw [hj5] at h;clear hj5 j5
       exact Tn (⟨An,x21,x22,x23,x24,x25,h,S.nf [true,true,true,true] rfl (subR rfl)⟩)
     clear S h;rintro a w22 ⟨x15,x16,x17,x18,x19,x20,h,S⟩;rw [hj4] at h;clear hj4 j4
     exact Im (Tn (⟨x15,x16,x17,x18,x19,x20,h,S.nf [true,true,true,true] rfl (subR rfl)⟩))
    clear S h;rintro a w21 ⟨x9,x10,x11,x12,x13,x14,h,S⟩;rw [hj3] at h;clear hj3 j3
    refine Tn (Fs (Fr (Vm S rfl rfl ?_)));clear S;intro a S
    obtain ⟨r12,hr12,h⟩:=Ga h
    refine Ir 3 S (b:=O) rfl rfl (fun _=>.blk O [Aa,iV r12.2] 25) (fun _=>Ei (vs:=[.pointer (some ⟨O,0,none⟩),iV 100]) ⟨(S.tm rfl),rfl,trivial⟩ call31) (Zr _ O Aa Aq (Ap.mono (S.le_arg (Jr (i:=3) (e:=.blk O [Aa,iV x14] 25) rfl))) x14 (S.holds _ (List.mem_of_getElem? (i:=3) rfl)) 100 _ hr12) rfl (fun _ _ _ h=>⟨h.1,fun _ hc=>by cases hc;rfl⟩) ?_;clear S;intro v15 a w48 hv14 hk41 hn14 S
    replace hv14:=hv14.2
    subst hv14
    refine Dl ?_
    obtain ⟨j7,hj7,h⟩:=Fk h
    refine Fa (fun a w'=>∃ x29 : ByteArray,∃ x30 : Int,∃ x31 : Int,∃ x32 : ByteArray,∃ x33 : ByteArray,∃ x34 : ByteArray,∃ x35 : Int,∃ x36 : Int,∃ x37 : Int,∃ x38 : Int,j7 x29 x30 x31 x32 x33 x34 x35 x36 x37 x38 = some r ∧ Sx w [O] nov [.blk b5 (Eg.enc (Eg.mk x29 x30 (W (x4 + r1.1)) x31 x32 x33 x34 x35 x36 x12 x37)) 101,.map b1 (Gx Value.string (Value.int .i64) (Hj x1 r2.1 (W ((Et x1 r2.1 0) + 1)))) (Hj x1 r2.1 (W ((Et x1 r2.1 0) + 1))).length,.own v1 101 11 x2.length (x2.flatMap Eg.enc),.blk O [Aa,iV x38] 25] [(0,.pointer (some ⟨O,0,none⟩)),(5,v1),(6,iV (W (x4 + r1.1))),(7,.map (some b1)),(8,.pointer (some ⟨b5,0,none⟩)),(10,iV Bu),(11,iV x5)] 130 a w') ?_ ?_
    ·refine Fc h (S.tm rfl) (fun hb6 h=>?_) (fun hb6 h=>?_)
     ·refine Fr (Vm S rfl rfl ?_);clear S;intro a S
      obtain ⟨r13,hr13,h⟩:=Ga h
      refine Ir 3 S (b:=O) rfl rfl (fun _=>.blk O [Aa,iV r13.2] 25) (fun _=>Ei (vs:=[.pointer (some ⟨O,0,none⟩),iV 4]) ⟨(S.tm rfl),rfl,trivial⟩ call19) (Vr _ O Aa Aq (Ap.mono (S.le_arg (Jr (i:=3) (e:=.blk O [Aa,iV r12.2] 25) rfl))) r12.2 (S.holds _ (List.mem_of_getElem? (i:=3) rfl)) 4 _ hr13) rfl (fun _ _ _ h=>⟨h.1,fun _ hc=>by cases hc;rfl⟩) ?_;clear S;intro v16 a w50 hv15 hk42 hn15 S
      replace hv15:=hv15.2
      subst hv15
      refine Dl ?_
      obtain ⟨j8,hj8,h⟩:=Fk h
      refine Fa (fun a w'=>∃ x39 : ByteArray,∃ x40 : Int,∃ x41 : Int,∃ x42 : ByteArray,∃ x43 : ByteArray,∃ x44 : ByteArray,∃ x45 : Int,∃ x46 : Int,∃ x47 : Int,∃ x48 : Int,j8 x39 x40 x41 x42 x43 x44 x45 x46 x47 x48 = some r ∧ Sx w [O] nov [.blk b5 (Eg.enc (Eg.mk x39 x40 (W (x4 + r1.1)) x41 x42 x43 x44 x45 x46 x12 x47)) 101,.map b1 (Gx Value.string (Value.int .i64) (Hj x1 r2.1 (W ((Et x1 r2.1 0) + 1)))) (Hj x1 r2.1 (W ((Et x1 r2.1 0) + 1))).length,.own v1 101 11 x2.length (x2.flatMap Eg.enc),.blk O [Aa,iV x48] 25] [(0,.pointer (some ⟨O,0,none⟩)),(5,v1),(6,iV (W (x4 + r1.1))),(7,.map (some b1)),(8,.pointer (some ⟨b5,0,none⟩)),(10,iV Bu),(11,iV x5)] 130 a w') ?_ ?_
      ·refine wp_block (Fr (Vq S Jn rfl rfl rfl fun a S=>Va S rfl rfl fun a S=>Dl ?_))
       obtain ⟨j9,hj9,h⟩:=Fk h
       refine Fa (fun a w'=>∃ x49 : ByteArray,∃ x50 : Int,∃ x51 : Int,∃ x52 : ByteArray,∃ x53 : ByteArray,∃ x54 : ByteArray,∃ x55 : Int,∃ x56 : Int,∃ x57 : Int,∃ x58 : Int,j9 x49 x50 x51 x52 x53 x54 x55 x56 x57 x58 = some r ∧ Sx w [O] nov [.blk b5 (Eg.enc (Eg.mk x49 x50 (W (x4 + r1.1)) x51 x52 x53 x54 x55 x56 x12 x57)) 101,.map b1 (Gx Value.string (Value.int .i64) (Hj x1 r2.1 (W ((Et x1 r2.1 0) + 1)))) (Hj x1 r2.1 (W ((Et x1 r2.1 0) + 1))).length,.own v1 101 11 x2.length (x2.flatMap Eg.enc),.blk O [Aa,iV x58] 25] [(0,.pointer (some ⟨O,0,none⟩)),(5,v1),(6,iV (W (x4 + r1.1))),(7,.map (some b1)),(8,.pointer (some ⟨b5,0,none⟩)),(10,iV Bu),(11,iV x5)] 130 a w') ?_ ?_
       ·refine Fc h (S.tm rfl) (fun hb7 h=>?_) (fun hb7 h=>?_)
        ·refine Fg (Vm S rfl rfl fun a S=>Fq S underlying43 sizeOf9 zeroValue9 rfl rfl (pv:=[(0,sV An),(1,sV Uh)]) ⟨rfl,rfl,rfl,rfl,trivial⟩ (cs:=[sV An,sV Uh]) (by kernel_rfl) rfl ?_);clear S;intro a w53 b14 hz14 hk43 S
         obtain ⟨r14,hr14,h⟩:=Ga h
         refine Ir 4 S (b:=O) rfl rfl (fun _=>.blk O [Aa,iV r14.2] 25) (fun _=>Ei (vs:=[.pointer (some ⟨O,0,none⟩),.slice (some ⟨b14,0,none⟩) 2 2]) ⟨(S.tm rfl),(S.tm rfl),trivial⟩ call34) (Pw _ O Aa Aq (Ap.mono (S.le_arg (Jr (i:=4) (e:=.blk O [Aa,iV r13.2] 25) rfl))) r13.2 (S.holds _ (List.mem_of_getElem? (i:=4) rfl)) (.slice (some ⟨b14,0,none⟩) 2 2) [An,Uh] (Lg Wx S (i:=0) rfl rfl rfl rfl ((Nf (i:=4) (j:=0) (e:=.blk O [Aa,iV r13.2] 25) (e':=.blk b14 [sV An,sV Uh] 9) S rfl rfl rfl) _ rfl)) _ hr14) rfl (fun _ _ _ h=>⟨h.1,fun _ hc=>by cases hc;rfl⟩) ?_;clear S;intro v17 a w54 hv16 hk44 hn16 S
         replace hv16:=hv16.2
         subst hv16
         refine Vm S rfl rfl ?_;clear S;intro a S
         obtain ⟨r15,hr15,h⟩:=Ga h
         refine Ir 4 S (b:=O) rfl rfl (fun _=>.blk O [Aa,iV r15.2] 25) (fun _=>Ei (vs:=[.pointer (some ⟨O,0,none⟩),iV 1,iV 9]) ⟨(S.tm rfl),rfl,rfl,trivial⟩ call35) (Wt _ O Aa Aq (Ap.mono (S.le_arg (Jr (i:=4) (e:=.blk O [Aa,iV r14.2] 25) rfl))) r14.2 (S.holds _ (List.mem_of_getElem? (i:=4) rfl)) 1 9 _ hr15) rfl (fun _ _ _ h=>⟨h.1,fun _ hc=>by cases hc;rfl⟩) ?_;clear S;intro v18 a w55 hv17 hk45 hn17 S
         replace hv17:=hv17.2
         subst hv17
         refine Vf Rd S rfl rfl fun a S=>Ft S (S.tm rfl) (S.tm rfl) (i:=1) (off:=0) rfl sizeOf9 (vs:=[sV r14.1]) rfl rfl rfl rfl ?_;clear S;intro w56 hk46 S
         refine Vf Tl S rfl rfl fun a S=>Ft S (S.tm rfl) (S.tm rfl) (i:=1) (off:=1) rfl sizeOf3 (vs:=[iV r15.1]) rfl rfl rfl rfl ?_;clear S;intro w57 hk47 S
         refine Ld ?_
         replace S:=(S.nl [.blk b5 (Eg.enc (Eg.mk r14.1 r15.1 (W (x4 + r1.1)) r3.1 x6 x9 x7 x10 x11 x12 x13)) 101,.map b1 (Gx Value.string (Value.int .i64) (Hj x1 r2.1 (W ((Et x1 r2.1 0) + 1)))) (Hj x1 r2.1 (W ((Et x1 r2.1 0) + 1))).length,.own v1 101 11 x2.length (x2.flatMap Eg.enc),.blk O [Aa,iV r15.2] 25] [false,true,true,true,true] rfl).k7 0 5 6 7 8 10 11 rfl
         exact Tn (⟨r14.1,r15.1,r3.1,x6,x9,x7,x10,x11,x13,r15.2,h,S.nf [true,true,true,true] rfl (subR rfl)⟩)
        ·refine Fr (Vq S Jn rfl rfl rfl fun a S=>Va S rfl rfl fun a S=>Ld ?_)
         replace S:=(S.nl [.blk b5 (Eg.enc (Eg.mk r2.1 (Et (Hj x1 r2.1 (W ((Et x1 r2.1 0) + 1))) r2.1 0) (W (x4 + r1.1)) r3.1 x6 x9 x7 x10 x11 x12 x13)) 101,.map b1 (Gx Value.string (Value.int .i64) (Hj x1 r2.1 (W ((Et x1 r2.1 0) + 1)))) (Hj x1 r2.1 (W ((Et x1 r2.1 0) + 1))).length,.own v1 101 11 x2.length (x2.flatMap Eg.enc),.blk O [Aa,iV r13.2] 25] [true,true,true,true] rfl).k9 0 5 6 7 8 10 11 84 103 rfl
         refine Tn ?_
         obtain ⟨j10,hj10,h⟩:=Fk h
         refine Fa (fun a w'=>∃ x59 : Int,∃ x60 : ByteArray,∃ x61 : ByteArray,∃ x62 : ByteArray,∃ x63 : Int,∃ x64 : Int,∃ x65 : Int,∃ x66 : Int,j10 x59 x60 x61 x62 x63 x64 x65 x66 = some r ∧ Sx w [O] nov [.blk b5 (Eg.enc (Eg.mk r2.1 (Et (Hj x1 r2.1 (W ((Et x1 r2.1 0) + 1))) r2.1 0) (W (x4 + r1.1)) x59 x60 x61 x62 x63 x64 x12 x65)) 101,.map b1 (Gx Value.string (Value.int .i64) (Hj x1 r2.1 (W ((Et x1 r2.1 0) + 1)))) (Hj x1 r2.1 (W ((Et x1 r2.1 0) + 1))).length,.own v1 101 11 x2.length (x2.flatMap Eg.enc),.blk O [Aa,iV x66] 25] [(0,.pointer (some ⟨O,0,none⟩)),(5,v1),(6,iV (W (x4 + r1.1))),(7,.map (some b1)),(8,.pointer (some ⟨b5,0,none⟩)),(10,iV Bu),(11,iV x5)] 130 a w') ?_ ?_
         ·refine Fc h (S.tm rfl) (fun hb8 h=>?_) (fun hb8 h=>?_)
          ·refine Fg (Vm S rfl rfl ?_);clear S;intro a S
           obtain ⟨r16,hr16,h⟩:=Ga h
           refine Ir 3 S (b:=O) rfl rfl (fun _=>.blk O [Aa,iV r16.2] 25) (fun _=>Ei (vs:=[.pointer (some ⟨O,0,none⟩),iV 1,iV 4]) ⟨(S.tm rfl),rfl,rfl,trivial⟩ call35) (Wt _ O Aa Aq (Ap.mono (S.le_arg (Jr (i:=3) (e:=.blk O [Aa,iV r13.2] 25) rfl))) r13.2 (S.holds _ (List.mem_of_getElem? (i:=3) rfl)) 1 4 _ hr16) rfl (fun _ _ _ h=>⟨h.1,fun _ hc=>by cases hc;rfl⟩) ?_;clear S;intro v19 a w59 hv18 hk48 hn18 S
           replace hv18:=hv18.2
           subst hv18
           refine Vf Pv S rfl rfl fun a S=>Ft S (S.tm rfl) (S.tm rfl) (i:=0) (off:=3) rfl sizeOf3 (vs:=[iV r16.1]) rfl rfl rfl rfl ?_;clear S;intro w60 hk49 S
           exact Dl (⟨r16.1,x6,x9,x7,x10,x11,x13,r16.2,h,S.nf [true,true,true,true] rfl (subR rfl)⟩)
          ·refine Fr (Vq S Jn rfl rfl rfl fun a S=>Va S rfl rfl fun a S=>Dl ?_)
           obtain ⟨j11,hj11,h⟩:=Fk h
           refine Fa (fun a w'=>∃ x67 : ByteArray,∃ x68 : ByteArray,∃ x69 : ByteArray,∃ x70 : Int,∃ x71 : Int,∃ x72 : Int,∃ x73 : Int,j11 x67 x68 x69 x70 x71 x72 x73 = some r ∧ Sx w [O] nov [.blk b5 (Eg.enc (Eg.mk r2.1 (Et (Hj x1 r2.1 (W ((Et x1 r2.1 0) + 1))) r2.1 0) (W (x4 + r1.1)) r3.1 x67 x68 x69 x70 x71 x12 x72)) 101,.map b1 (Gx Value.string (Value.int .i64) (Hj x1 r2.1 (W ((Et x1 r2.1 0) + 1)))) (Hj x1 r2.1 (W ((Et x1 r2.1 0) + 1))).length,.own v1 101 11 x2.length (x2.flatMap Eg.enc),.blk O [Aa,iV x73] 25] [(0,.pointer (some ⟨O,0,none⟩)),(5,v1),(6,iV (W (x4 + r1.1))),(7,.map (some b1)),(8,.pointer (some ⟨b5,0,none⟩)),(10,iV Bu),(11,iV x5)] 130 a w') ?_ ?_
           ·refine Fc h (S.tm rfl) (fun hb9 h=>?_) (fun hb9 h=>?_)
            ·refine Fg (Vm S rfl rfl fun a S=>Fq S underlying43 sizeOf9 zeroValue9 rfl rfl (pv:=[(0,sV An),(1,sV Xm)]) ⟨rfl,rfl,rfl,rfl,trivial⟩ (cs:=[sV An,sV Xm]) (by kernel_rfl) rfl ?_);clear S;intro a w62 b15 hz15 hk50 S
             obtain ⟨r17,hr17,h⟩:=Ga h
             refine Ir 4 S (b:=O) rfl rfl (fun _=>.blk O [Aa,iV r17.2] 25) (fun _=>Ei (vs:=[.pointer (some ⟨O,0,none⟩),.slice (some ⟨b15,0,none⟩) 2 2]) ⟨(S.tm rfl),(S.tm rfl),trivial⟩ call34) (Pw _ O Aa Aq (Ap.mono (S.le_arg (Jr (i:=4) (e:=.blk O [Aa,iV r13.2] 25) rfl))) r13.2 (S.holds _ (List.mem_of_getElem? (i:=4) rfl)) (.slice (some ⟨b15,0,none⟩) 2 2) [An,Xm] (Lg Wx S (i:=0) rfl rfl rfl rfl ((Nf (i:=4) (j:=0) (e:=.blk O [Aa,iV r13.2] 25) (e':=.blk b15 [sV An,sV Xm] 9) S rfl rfl rfl) _ rfl)) _ hr17) rfl (fun _ _ _ h=>⟨h.1,fun _ hc=>by cases hc;rfl⟩) ?_;clear S;intro v20 a w63 hv19 hk51 hn19 S
             replace hv19:=hv19.2
             subst hv19
             refine Vm S rfl rfl fun a S=>Fq S underlying43 sizeOf9 zeroValue9 rfl rfl (pv:=[(0,sV k_A),(1,sV Wj)]) ⟨rfl,rfl,rfl,rfl,trivial⟩ (cs:=[sV k_A,sV Wj]) (by kernel_rfl) rfl ?_;clear S;intro a w64 b16 hz16 hk52 S
             obtain ⟨r18,hr18,h⟩:=Ga h
             refine Ir 5 S (b:=O) rfl rfl (fun _=>.blk O [Aa,iV r18.2] 25) (fun _=>Ei (vs:=[.pointer (some ⟨O,0,none⟩),.slice (some ⟨b16,0,none⟩) 2 2]) ⟨(S.tm rfl),(S.tm rfl),trivial⟩ call34) (Pw _ O Aa Aq (Ap.mono (S.le_arg (Jr (i:=5) (e:=.blk O [Aa,iV r17.2] 25) rfl))) r17.2 (S.holds _ (List.mem_of_getElem? (i:=5) rfl)) (.slice (some ⟨b16,0,none⟩) 2 2) [k_A,Wj] (Lg Wx S (i:=0) rfl rfl rfl rfl ((Nf (i:=5) (j:=0) (e:=.blk O [Aa,iV r17.2] 25) (e':=.blk b16 [sV k_A,sV Wj] 9) S rfl rfl rfl) _ rfl)) _ hr18) rfl (fun _ _ _ h=>⟨h.1,fun _ hc=>by cases hc;rfl⟩) ?_;clear S;intro v21 a w65 hv20 hk53 hn20 S
             replace hv20:=hv20.2
             subst hv20
             refine Vm S rfl rfl fun a S=>Fq S underlying43 sizeOf9 zeroValue9 rfl rfl (pv:=[(0,sV An),(1,sV Qr)]) ⟨rfl,rfl,rfl,rfl,trivial⟩ (cs:=[sV An,sV Qr]) (by kernel_rfl) rfl ?_;clear S;intro a w66 b17 hz17 hk54 S
             obtain ⟨r19,hr19,h⟩:=Ga h
             refine Ir 6 S (b:=O) rfl rfl (fun _=>.blk O [Aa,iV r19.2] 25) (fun _=>Ei (vs:=[.pointer (some ⟨O,0,none⟩),.slice (some ⟨b17,0,none⟩) 2 2]) ⟨(S.tm rfl),(S.tm rfl),trivial⟩ call34) (Pw _ O Aa Aq (Ap.mono (S.le_arg (Jr (i:=6) (e:=.blk O [Aa,iV r18.2] 25) rfl))) r18.2 (S.holds _ (List.mem_of_getElem? (i:=6) rfl)) (.slice (some ⟨b17,0,none⟩) 2 2) [An,Qr] (Lg Wx S (i:=0) rfl rfl rfl rfl ((Nf (i:=6) (j:=0) (e:=.blk O [Aa,iV r18.2] 25) (e':=.blk b17 [sV An,sV Qr] 9) S rfl rfl rfl) _ rfl)) _ hr19) rfl (fun _ _ _ h=>⟨h.1,fun _ hc=>by cases hc;rfl⟩) ?_;clear S;intro v22 a w67 hv21 hk55 hn21 S
             replace hv21:=hv21.2
             subst hv21
             refine Vf Oq S rfl rfl fun a S=>Ft S (S.tm rfl) (S.tm rfl) (i:=3) (off:=4) rfl sizeOf9 (vs:=[sV r17.1]) rfl rfl rfl rfl ?_;clear S;intro w68 hk56 S
             refine Vf Vp S rfl rfl fun a S=>Ft S (S.tm rfl) (S.tm rfl) (i:=3) (off:=5) rfl sizeOf9 (vs:=[sV r18.1]) rfl rfl rfl rfl ?_;clear S;intro w69 hk57 S
             refine Vf Sm S rfl rfl fun a S=>Ft S (S.tm rfl) (S.tm rfl) (i:=3) (off:=6) rfl sizeOf9 (vs:=[sV r19.1]) rfl rfl rfl rfl ?_;clear S;intro w70 hk58 S
             refine Ld ?_
             replace S:=(S.nl [.blk b5 (Eg.enc (Eg.mk r2.1 (Et (Hj x1 r2.1 (W ((Et x1 r2.1 0) + 1))) r2.1 0) (W (x4 + r1.1)) r3.1 r17.1 r18.1 r19.1 x10 x11 x12 x13)) 101,.map b1 (Gx Value.string (Value.int .i64) (Hj x1 r2.1 (W ((Et x1 r2.1 0) + 1)))) (Hj x1 r2.1 (W ((Et x1 r2.1 0) + 1))).length,.own v1 101 11 x2.length (x2.flatMap Eg.enc),.blk O [Aa,iV r19.2] 25] [false,false,false,true,true,true,true] rfl).k7 0 5 6 7 8 10 11 rfl
             exact Tn (⟨r17.1,r18.1,r19.1,x10,x11,x13,r19.2,h,S.nf [true,true,true,true] rfl (subR rfl)⟩)
            ·refine Fg (Vm S rfl rfl ?_);clear S;intro a S
             obtain ⟨r20,hr20,h⟩:=Ga h
             refine Ir 3 S (b:=O) rfl rfl (fun _=>.blk O [Aa,iV r20.2] 25) (fun _=>Ei (vs:=[.pointer (some ⟨O,0,none⟩),iV 0,iV 360000]) ⟨(S.tm rfl),rfl,rfl,trivial⟩ call35) (Wt _ O Aa Aq (Ap.mono (S.le_arg (Jr (i:=3) (e:=.blk O [Aa,iV r13.2] 25) rfl))) r13.2 (S.holds _ (List.mem_of_getElem? (i:=3) rfl)) 0 360000 _ hr20) rfl (fun _ _ _ h=>⟨h.1,fun _ hc=>by cases hc;rfl⟩) ?_;clear S;intro v23 a w71 hv22 hk59 hn22 S
             replace hv22:=hv22.2
             subst hv22
             refine Vm S rfl rfl ?_;clear S;intro a S
             obtain ⟨r21,hr21,h⟩:=Ga h
             refine Ir 3 S (b:=O) rfl rfl (fun _=>.blk O [Aa,iV r21.2] 25) (fun _=>Ei (vs:=[.pointer (some ⟨O,0,none⟩),iV 0,iV 8]) ⟨(S.tm rfl),rfl,rfl,trivial⟩ call35) (Wt _ O Aa Aq (Ap.mono (S.le_arg (Jr (i:=3) (e:=.blk O [Aa,iV r20.2] 25) rfl))) r20.2 (S.holds _ (List.mem_of_getElem? (i:=3) rfl)) 0 8 _ hr21) rfl (fun _ _ _ h=>⟨h.1,fun _ hc=>by cases hc;rfl⟩) ?_;clear S;intro v24 a w72 hv23 hk60 hn23 S
             replace hv23:=hv23.2
             subst hv23
             refine Vm S rfl rfl ?_;clear S;intro a S
             obtain ⟨r22,hr22,h⟩:=Ga h
             refine Ir 3 S (b:=O) rfl rfl (fun _=>.blk O [Aa,iV r22.2] 25) (fun _=>Ei (vs:=[.pointer (some ⟨O,0,none⟩),iV 0,iV 5]) ⟨(S.tm rfl),rfl,rfl,trivial⟩ call35) (Wt _ O Aa Aq (Ap.mono (S.le_arg (Jr (i:=3) (e:=.blk O [Aa,iV r21.2] 25) rfl))) r21.2 (S.holds _ (List.mem_of_getElem? (i:=3) rfl)) 0 5 _ hr22) rfl (fun _ _ _ h=>⟨h.1,fun _ hc=>by cases hc;rfl⟩) ?_;clear S;intro v25 a w73 hv24 hk61 hn24 S
             replace hv24:=hv24.2
             subst hv24
             refine Vf Um S rfl rfl fun a S=>Ft S (S.tm rfl) (S.tm rfl) (i:=0) (off:=7) rfl sizeOf3 (vs:=[iV r20.1]) rfl rfl rfl rfl ?_;clear S;intro w74 hk62 S
             refine Vf Ws S rfl rfl fun a S=>Ft S (S.tm rfl) (S.tm rfl) (i:=0) (off:=8) rfl sizeOf3 (vs:=[iV r21.1]) rfl rfl rfl rfl ?_;clear S;intro w75 hk63 S
             refine Vf Wc S rfl rfl fun a S=>Ft S (S.tm rfl) (S.tm rfl) (i:=0) (off:=10) rfl sizeOf3 (vs:=[iV r22.1]) rfl rfl rfl rfl ?_;clear S;intro w76 hk64 S
             refine Ld ?_
             replace S:=(S.nl [.blk b5 (Eg.enc (Eg.mk r2.1 (Et (Hj x1 r2.1 (W ((Et x1 r2.1 0) + 1))) r2.1 0) (W (x4 + r1.1)) r3.1 x6 x9 x7 r20.1 r21.1 x12 r22.1)) 101,.map b1 (Gx Value.string (Value.int .i64) (Hj x1 r2.1 (W ((Et x1 r2.1 0) + 1)))) (Hj x1 r2.1 (W ((Et x1 r2.1 0) + 1))).length,.own v1 101 11 x2.length (x2.flatMap Eg.enc),.blk O [Aa,iV r22.2] 25] [true,true,true,true] rfl).k7 0 5 6 7 8 10 11 rfl
             exact Tn (⟨x6,x9,x7,r20.1,r21.1,r22.1,r22.2,h,S.nf [true,true,true,true] rfl (subR rfl)⟩)
           clear S h;rintro a w61 ⟨x67,x68,x69,x70,x71,x72,x73,h,S⟩;rw [hj11] at h;clear hj11 j11
           exact Tn (⟨r3.1,x67,x68,x69,x70,x71,x72,x73,h,S.nf [true,true,true,true] rfl (subR rfl)⟩)
         clear S h;rintro a w58 ⟨x59,x60,x61,x62,x63,x64,x65,x66,h,S⟩;rw [hj10] at h;clear hj10 j10
         exact Tn (⟨r2.1,Et (Hj x1 r2.1 (W ((Et x1 r2.1 0) + 1))) r2.1 0,x59,x60,x61,x62,x63,x64,x65,x66,h,S.nf [true,true,true,true] rfl (subR rfl)⟩)
       clear S h;rintro a w52 ⟨x49,x50,x51,x52,x53,x54,x55,x56,x57,x58,h,S⟩;rw [hj9] at h;clear hj9 j9
       exact Im (Tn (⟨x49,x50,x51,x52,x53,x54,x55,x56,x57,x58,h,S.nf [true,true,true,true] rfl (subR rfl)⟩))
      clear S h;rintro a w51 ⟨x39,x40,x41,x42,x43,x44,x45,x46,x47,x48,h,S⟩;rw [hj8] at h;clear hj8 j8
      exact Tn (⟨x39,x40,x41,x42,x43,x44,x45,x46,x47,x48,h,S.nf [true,true,true,true] rfl (subR rfl)⟩)
     ·exact wp_skip (Tn (⟨r2.1,Et (Hj x1 r2.1 (W ((Et x1 r2.1 0) + 1))) r2.1 0,r3.1,x6,x9,x7,x10,x11,x13,r12.2,h,S.nf [true,true,true,true] rfl (subR rfl)⟩))
    clear S h;rintro a w49 ⟨x29,x30,x31,x32,x33,x34,x35,x36,x37,x38,h,S⟩;rw [hj7] at h;clear hj7 j7
    refine Tn (Fg (Vm S rfl rfl fun a S=>lv S (Gh isAgg101 sizeOf101 (off:=0) (o:=0) (part:=(Eg.enc (Eg.mk x29 x30 (W (x4 + r1.1)) x31 x32 x33 x34 x35 x36 x12 x37))) rfl rfl (S.tm rfl) (S.cellsAt (i:=0) rfl)) rfl fun a S=>Fq S underlying34 sizeOf101 zeroValue101 rfl rfl (pv:=[(0,.agg (Eg.enc (Eg.mk x29 x30 (W (x4 + r1.1)) x31 x32 x33 x34 x35 x36 x12 x37)).toArray)]) ⟨rfl,(S.tm rfl),trivial⟩ (cs:=[sV x29,iV x30,iV (W (x4 + r1.1)),iV x31,sV x32,sV x33,sV x34,iV x35,iV x36,sV x12,iV x37]) (by kernel_rfl) rfl ?_));clear S;intro a w77 b18 hz18 hk65 S
    obtain ⟨hc1,h⟩:=Jc h
    refine Np Pn Eg.enc_ok S (S.tm rfl) (i:=3) rfl (S.tm rfl) (j:=0) rfl (ys:=[(Eg.mk x29 x30 (W (x4 + r1.1)) x31 x32 x33 x34 x35 x36 x12 x37)]) rfl rfl rfl rfl (by have:=Nx hc1;omega) rfl ?_;clear S;intro v26 a w78 hk66 S
    exact Va S rfl rfl fun a S=>Ld (Im (Tn (Fg (Vq S Gw rfl rfl rfl fun a S=>Vm S rfl rfl fun a S=>Dl (⟨m1,⟨(Hj x1 r2.1 (W ((Et x1 r2.1 0) + 1))),(x2 ++ [(Eg.mk x29 x30 (W (x4 + r1.1)) x31 x32 x33 x34 x35 x36 x12 x37)]),x38,W (x4 + r1.1),W (x5 + 1),v26,h,S.nf [false,false,true,true,true] rfl ⟨rfl,rfl,rfl,rfl,rfl,rfl,trivial⟩⟩,Nat.lt_succ_self _⟩)))))
   ·exact wp_exit (Ew (Ew (Hl (Tn (⟨x1,x2,x3,v1,h,S.nf [true,true,true] rfl ⟨rfl,trivial⟩⟩)))))
 clear S h;rintro a w3 ⟨x1,x2,x3,v1,h,S⟩;rw [hj1] at h;clear hj1 j1
 refine Tn (Fr (Vm S rfl rfl ?_));clear S;intro a S
 obtain ⟨r23,hr23,h⟩:=Ga h
 refine Pc 1 S rfl (fun _=>.own v1 101 11 r23.length (r23.flatMap Eg.enc)) (fun _=>Ei (vs:=[v1,.func (.func 37) #[] #[]]) ⟨(S.tm rfl),rfl,trivial⟩ call36) (Sc _ v1 x2 (S.holds _ (List.mem_of_getElem? (i:=1) rfl)) _ hr23) rfl (fun _ _ _ h=>⟨h.1,fun _ hc=>hc⟩) ?_;clear S;intro v27 a w79 hv25 hk67 hn25 S
 replace hv25:=hv25.2
 subst hv25
 refine Dz (Vm S rfl rfl fun a S=>Va S rfl rfl fun a S=>Dl (wp_ret ?_))
 obtain rfl:=Option.some.inj h
 exact Fd S results17 rfl ⟨(S.holds _ (List.mem_of_getElem? (i:=2) rfl)),(PB S (i:=1) rfl (fun c hc hh=>EA S (i:=2) rfl rfl (j:=1) rfl rfl (by simp at hc;subst hc;exact hh)))⟩
theorem Rw (w : World) (Bb : Int) (Bt : Int) (Bk : Int) (r : Bool) (h : Ln Bb Bt Bk = r) :
    Calls prog 78 [iV Bb,iV Bt,iV Bk].toArray w (Ret w [] fun _ v _=>v = bV r):=by
 refine Fe func78 rfl ntmps78 rfl fun a S=>?_
 unfold Ln at h
 replace S:=S.k3 0 1 2 rfl
 refine Fr (Vk S rfl rfl fun a S=>Dz (Vm S rfl rfl fun a S=>Vm S rfl rfl fun a S=>Vb S Vd rfl rfl rfl fun a S=>Vm S rfl rfl ?_));clear S;intro a S
 refine Io 4 (fun a w'=>Keep [] w w' ∧ Sx w [] nov [] [(14,bV ((decide (Bt ≤ Bb)) && (decide (Bb ≤ Bk))))] 15 a w') ?_ ?_
 ·rcases Bool.eq_false_or_eq_true (decide (Bt ≤ Bb)) with hb1 | hb1
  ·exact Em S rfl rfl rfl hb1 (Vm S rfl rfl fun a S=>Em S rfl rfl rfl hb1 (Vm S rfl rfl fun a S=>Em S rfl rfl rfl hb1 (Vb S Vd rfl rfl rfl fun a S=>lv S (Ii hb1 (S.tm rfl) (S.tm rfl)) rfl fun a S=>Dl (⟨Keep.refl _ _,S.nf [] rfl ⟨rfl,trivial⟩⟩))))
  ·iterate 3 (refine Hk S rfl rfl rfl (Ka hb1) rfl ?_ rfl;clear S;intro a S)
   exact lv S (Ij (decide (Bb ≤ Bk)) hb1 (S.tm rfl) rfl) rfl fun a S=>Dl (⟨Keep.refl _ _,S.nf [] rfl ⟨rfl,trivial⟩⟩)
 clear S;rintro a w1 ⟨hk1,S⟩
 refine Va S rfl rfl fun a S=>Dl (wp_ret ?_)
 subst h
 exact Fd S results78 rfl rfl
theorem DL (w : World) (s : ByteArray) (c : Int) (r : Int) (h : Uw s c = r) : Calls prog 139 [.string s,.int .u8 c].toArray w (Ret w [] fun _ v _=>v = .int .i64 r):=by
  subst h
  exact IC (Any.strings_IndexByte Tryz.lays137 s c w)
theorem BA (w : World) (Aw : ByteArray) (Dg : ByteArray) (r : Bool) (h : Uq Aw Dg = some r) :
    Calls prog 112 [sV Aw,sV Dg].toArray w (Ret w [] fun _ v _=>v = bV r):=by
 refine Fe func112 rfl ntmps112 rfl fun a S=>?_
 unfold Uq at h
 replace S:=S.k2 0 1 rfl
 refine Fr (Vk S rfl rfl fun a S=>Dl (Fs (Fr (Vm S rfl rfl fun a S=>Vu S (BL underlying9) rfl rfl fun a S=>lv S (Rm rfl) rfl ?_))));clear S;intro a S
 refine Dl ?_
 replace S:=S.k4 0 1 7 8 rfl
 obtain ⟨j1,hj1,h⟩:=Fk h
 refine Fa (fun a w'=>j1 = some r ∧ Sx w [] nov [] [] 18 a w') ?_ ?_
 ·refine wp_block (Hs (fun (m1 : Nat) a w'=>∃ x1 : Int,Ml Aw Dg j1 m1 x1 = some r ∧ Sx w [] nov [] [(0,sV Aw),(1,sV Dg),(7,iV (Aw.size : Int)),(8,iV x1)] 18 a w') id (((Aw.size : Int) - 0).toNat + 2) ⟨0,h,S.nf [] rfl (subR rfl)⟩ ?_)
  clear S h;rintro m1 a w1 ⟨x1,h,S⟩
  cases m1 with
  | zero=>rw [Ml.eq_1] at h;cases h
  | succ m1 =>
   rw [Ml.eq_2] at h
   refine Fr (Vb S Fp rfl rfl rfl fun a S=>Dl (Fs (Fc h (S.tm rfl) (fun hb1 h=>?_) (fun hb1 h=>?_))))
   ·refine wp_skip (Tn (Fs (wp_block (Fr (Vm S rfl rfl fun a S=>Va S rfl rfl fun a S=>Dl (Fs ?_))))))
    refine Fg ?_
    iterate 3 (refine Vm S rfl rfl ?_;clear S;intro a S)
    obtain ⟨hc1,h⟩:=Jc h
    refine lv S (Zl underlying9 (S.tm rfl) (S.tm rfl) hc1) rfl fun a S=>Er S (fun _=>Ei (vs:=[sV Dg,.int .u8 (Zz Aw x1)]) ⟨(S.tm rfl),(S.tm rfl),trivial⟩ call139) (DL _ Dg (Zz Aw x1) _ rfl) rfl ?_;clear S;intro v1 a w3 hv1 hk1 hn1 S
    subst hv1
    refine Vq S Fp rfl rfl rfl fun a S=>Dl (Fc h (S.tm rfl) (fun hb2 h=>?_) (fun hb2 h=>?_))
    ·refine Fr (Vk S rfl rfl fun a S=>Dl (wp_ret (Gg (Ek (Ek (Gg (Ek ?_)))))))
     refine Ek ?_
     obtain rfl:=Option.some.inj h
     exact Fd S results112 rfl rfl
    ·exact wp_skip (Im (Tn (Fg (Vq S Gw rfl rfl rfl fun a S=>Vm S rfl rfl fun a S=>Dl (⟨m1,⟨W (x1 + 1),h,S.nf [] rfl ⟨rfl,rfl,rfl,rfl,trivial⟩⟩,Nat.lt_succ_self _⟩)))))
   ·exact wp_exit (Ew (Ew (Hl (Tn (⟨h,S.nf [] rfl trivial⟩)))))
 clear S h;rintro a w2 ⟨h,S⟩;rw [hj1] at h;clear hj1 j1
 refine Tn (Fr (Vk S rfl rfl fun a S=>Dl (wp_ret ?_)))
 obtain rfl:=Option.some.inj h
 exact Fd S results112 rfl rfl
theorem Un (w : World) (Aw : ByteArray) (r : Bool) (h : Qi Aw = some r) :
    Calls prog 77 [sV Aw].toArray w (Ret w [] fun _ v _=>v = bV r):=by
 refine Fe func77 rfl ntmps77 rfl fun a S=>?_
 unfold Qi at h
 replace S:=S.k1 0 rfl
 refine Fr (Vk S rfl rfl fun a S=>Dz (Vm S rfl rfl fun a S=>Vu S (BL underlying9) rfl rfl fun a S=>Er S (fun _=>Ei (vs:=[iV (Aw.size : Int),iV 1,iV 40]) ⟨(S.tm rfl),rfl,rfl,trivial⟩ call78) (Rw _ (Aw.size : Int) 1 40 _ rfl) rfl ?_));clear S;intro v1 a w1 hv1 hk1 hn1 S
 subst hv1
 refine Vm S rfl rfl ?_;clear S;intro a S
 obtain ⟨j1,hj1,h⟩:=Fk h
 refine Io 4 (fun a w'=>∃ c1,j1 c1 = some r ∧ Keep [] w1 w' ∧ Sx w [] nov [] [(0,sV Aw),(10,bV c1)] 15 a w') ?_ ?_
 ·rcases Bool.eq_false_or_eq_true (Ln (Aw.size : Int) 1 40) with hb1 | hb1
  ·replace h:=Rz h hb1
   refine Em S rfl rfl rfl hb1 (Vm S rfl rfl fun a S=>Em S rfl rfl rfl hb1 ?_)
   obtain ⟨hc1,h⟩:=Jc h
   refine lv S (UX underlying9 (S.tm rfl) rfl hc1) rfl fun a S=>Em S rfl rfl rfl hb1 ?_
   obtain ⟨r1,hr1,h⟩:=Ga h
   refine Er S (fun _=>Ei (vs:=[sV (OX Aw 0 1),sV Lu]) ⟨(S.tm rfl),rfl,trivial⟩ call112) (BA _ (OX Aw 0 1) Lu _ hr1) rfl ?_;clear S;intro v2 a w3 hv2 hk2 hn2 S
   subst hv2
   exact lv S (Ii hb1 (S.tm rfl) (S.tm rfl)) rfl fun a S=>Dl (⟨_,h,hk2,S.nf [] rfl (subR rfl)⟩)
  ·replace h:=Sa h hb1
   iterate 3 (refine Hk S rfl rfl rfl (Ka hb1) rfl ?_ rfl;clear S;intro a S)
   exact Vq S (Ij true hb1) rfl rfl rfl fun a S=>Dl (⟨_,h,Keep.refl _ _,S.nf [] rfl (subR rfl)⟩)
 clear S h;rintro a w2 ⟨c1,h,hk3,S⟩;rw [hj1] at h;clear hj1 j1
 refine Vm S rfl rfl ?_;clear S;intro a S
 obtain ⟨j2,hj2,h⟩:=Fk h
 refine Io 3 (fun a w'=>∃ c2,j2 c2 = some r ∧ Keep [] w2 w' ∧ Sx w [] nov [] [(14,bV c2)] 15 a w') ?_ ?_
 ·rcases Bool.eq_false_or_eq_true c1 with hb2 | hb2
  ·replace h:=Rz h hb2
   refine Em S rfl rfl rfl hb2 (Vm S rfl rfl fun a S=>Em S rfl rfl rfl hb2 ?_)
   obtain ⟨r2,hr2,h⟩:=Ga h
   refine Er S (fun _=>Ei (vs:=[sV Aw,sV Je]) ⟨(S.tm rfl),rfl,trivial⟩ call112) (BA _ Aw Je _ hr2) rfl ?_;clear S;intro v3 a w5 hv3 hk4 hn3 S
   subst hv3
   exact lv S (Ii hb2 (S.tm rfl) (S.tm rfl)) rfl fun a S=>Dl (⟨_,h,hk4,S.nf [] rfl ⟨rfl,trivial⟩⟩)
  ·replace h:=Sa h hb2
   exact Hk S rfl rfl rfl (Ka hb2) rfl (fun a S=>Hk S rfl rfl rfl (Ka hb2) rfl (fun a S=>Vq S (Ij true hb2) rfl rfl rfl fun a S=>Dl (⟨_,h,Keep.refl _ _,S.nf [] rfl ⟨rfl,trivial⟩⟩)) rfl) rfl
 clear S h;rintro a w4 ⟨c2,h,hk5,S⟩;rw [hj2] at h;clear hj2 j2
 refine Va S rfl rfl fun a S=>Dl (wp_ret ?_)
 obtain rfl:=Option.some.inj h
 exact Fd S results77 rfl rfl
theorem FJ (w : World) (Bd : Int) (r : Bool) (h : Qv Bd = r) :
    Calls prog 79 [iV Bd].toArray w (Ret w [] fun _ v _=>v = bV r):=by
 refine Fe func79 rfl ntmps79 rfl fun a S=>?_
 unfold Qv at h
 replace S:=S.k1 0 rfl
 refine Fr (Vk S rfl rfl fun a S=>Dz (Vm S rfl rfl fun a S=>Er S (fun _=>Ei (vs:=[iV Bd,iV 0,iV 345686399999]) ⟨(S.tm rfl),rfl,rfl,trivial⟩ call78) (Rw _ Bd 0 345686399999 _ rfl) rfl ?_));clear S;intro v1 a w1 hv1 hk1 hn1 S
 subst hv1
 refine Va S rfl rfl fun a S=>Dl (wp_ret ?_)
 subst h
 exact Fd S results79 rfl rfl
theorem CK (w : World) (Af : Eg) (r : Int) (h : Rr Af = some r) :
    Calls prog 38 [.agg (Eg.enc Af).toArray].toArray w (Ret w [] fun _ v _=>v = iV r):=by
 refine Fe func38 rfl ntmps38 rfl fun a S=>?_
 unfold Rr at h
 replace S:=S.k1 0 rfl
 refine Fr (Mk S (S.tm rfl) (cs:=(Eg.enc Af)) rfl rfl ?_);clear S;intro a w1 b1 hz1 hk1 S
 refine Vk S rfl rfl fun a S=>Dl (Fs (wp_block (Fr (Vf Rd S rfl rfl fun a S=>Vl isAgg9 0 S rfl rfl rfl rfl ?_))));clear S;intro a S
 obtain ⟨r1,hr1,h⟩:=Ga h
 refine Er S (fun _=>Ei (vs:=[sV Af.Site]) ⟨(S.tm rfl),trivial⟩ call77) (Un _ Af.Site _ hr1) rfl ?_;clear S;intro v1 a w2 hv1 hk2 hn1 S
 subst hv1
 refine Vu S Ig rfl rfl fun a S=>Va S rfl rfl fun a S=>Dl (Fc h (S.tm rfl) (fun hb1 h=>?_) (fun hb1 h=>?_))
 ·refine Fr (Vk S rfl rfl fun a S=>Dl (wp_ret (Gg (Ek ?_))))
  obtain rfl:=Option.some.inj h
  exact Fd S results38 rfl rfl
 ·refine Fr (Vf Tl S rfl rfl fun a S=>Vl isAgg3 0 S rfl rfl rfl rfl fun a S=>Er S (fun _=>Ei (vs:=[iV Af.No,iV 1,iV 1000000]) ⟨(S.tm rfl),rfl,rfl,trivial⟩ call78) (Rw _ Af.No 1 1000000 _ rfl) rfl ?_);clear S;intro v2 a w3 hv2 hk3 hn2 S
  subst hv2
  refine Vu S Ig rfl rfl fun a S=>Vm S rfl rfl fun a S=>Io 5 (fun a w'=>Keep [] w3 w' ∧ Sx w [] nov [.blk b1 (Eg.enc Af) 101] [(1,.pointer (some ⟨b1,0,none⟩)),(19,bV ((!(Ln Af.No 1 1000000)) || (!(Qv Af.At))))] 117 a w') ?_ ?_
  ·rcases Bool.eq_false_or_eq_true (!(Ln Af.No 1 1000000)) with hb2 | hb2
   ·iterate 4 (refine Hk S rfl rfl rfl (Ng hb2) rfl ?_ rfl;clear S;intro a S)
    exact lv S (Lk (!(Qv Af.At)) hb2 (S.tm rfl) rfl) rfl fun a S=>Dl (⟨Keep.refl _ _,S.nf [true] rfl (subR rfl)⟩)
   ·refine Em S rfl rfl rfl hb2 (Vf Ul S rfl rfl fun a S=>Em S rfl rfl rfl hb2 (Vl isAgg3 0 S rfl rfl rfl rfl fun a S=>Em S rfl rfl rfl hb2 (Er S (fun _=>Ei (vs:=[iV Af.At]) ⟨(S.tm rfl),trivial⟩ call79) (FJ _ Af.At _ rfl) rfl ?_)));clear S;intro v3 a w5 hv3 hk4 hn3 S
    subst hv3
    exact Em S rfl rfl rfl hb2 (Vu S Ig rfl rfl fun a S=>lv S (Ll hb2 (S.tm rfl) (S.tm rfl)) rfl fun a S=>Dl (⟨hk4,S.nf [true] rfl (subR rfl)⟩))
  clear S;rintro a w4 ⟨hk5,S⟩
  refine Va S rfl rfl fun a S=>Dl (Fc h (S.tm rfl) (fun hb3 h=>?_) (fun hb3 h=>?_))
  ·refine Fr (Vk S rfl rfl fun a S=>Dl (wp_ret (Gg (Ek ?_))))
   obtain rfl:=Option.some.inj h
   exact Fd S results38 rfl rfl
  ·refine Fr (Vf Pv S rfl rfl fun a S=>Vl isAgg3 0 S rfl rfl rfl rfl fun a S=>Er S (fun _=>Ei (vs:=[iV Af.Kind,iV 1,iV 4]) ⟨(S.tm rfl),rfl,rfl,trivial⟩ call78) (Rw _ Af.Kind 1 4 _ rfl) rfl ?_);clear S;intro v4 a w6 hv4 hk6 hn4 S
   subst hv4
   refine Vu S Ig rfl rfl fun a S=>Va S rfl rfl fun a S=>Dl (Fc h (S.tm rfl) (fun hb4 h=>?_) (fun hb4 h=>?_))
   ·refine Fr (Vk S rfl rfl fun a S=>Dl (wp_ret (Gg (Ek ?_))))
    obtain rfl:=Option.some.inj h
    exact Fd S results38 rfl rfl
   ·refine wp_skip (Im (Tn (Fr (Vf Rd S rfl rfl fun a S=>Vl isAgg9 0 S rfl rfl rfl rfl fun a S=>Vf Tl S rfl rfl fun a S=>Vl isAgg3 0 S rfl rfl rfl rfl fun a S=>Vf Ul S rfl rfl fun a S=>Vl isAgg3 0 S rfl rfl rfl rfl ?_))));clear S;intro a S
    refine Vf Pv S rfl rfl fun a S=>Vl isAgg3 0 S rfl rfl rfl rfl fun a S=>lv S (Nc RN (pv:=[(0,sV Af.Site),(1,iV Af.No),(2,iV Af.At),(3,iV Af.Kind)]) ⟨rfl,(S.tm rfl),rfl,(S.tm rfl),rfl,(S.tm rfl),rfl,(S.tm rfl),trivial⟩ (cs:=[sV Af.Site,iV Af.No,iV Af.At,iV Af.Kind,sV An,sV An,sV An,iV 0,iV 0,sV An,iV 0]) (by kernel_rfl)) rfl fun a S=>Iz S zeroValue101 (cs:=[sV An,iV 0,iV 0,iV 0,sV An,sV An,sV An,iV 0,iV 0,sV An,iV 0]) rfl rfl ?_;clear S;intro a w7 b2 hz2 hk7 S
    refine Ft S (S.tm rfl) (S.tm rfl) (i:=0) (off:=0) rfl sizeOf101 (vs:=(Eg.enc (Eg.mk Af.Site Af.No Af.At Af.Kind An An An 0 0 An 0))) rfl rfl rfl rfl ?_;clear S;intro w8 hk8 S
    refine Ld ?_
    replace S:=(S.nl [.blk b2 (Eg.enc (Eg.mk Af.Site Af.No Af.At Af.Kind An An An 0 0 An 0)) 101,.blk b1 (Eg.enc Af) 101] [true,true] rfl).k2 1 3 rfl
    refine Tn (Fs (Fr (Vf Pv S rfl rfl fun a S=>Vl isAgg3 1 S rfl rfl rfl rfl fun a S=>Vq S Jn rfl rfl rfl fun a S=>Dl ?_)))
    obtain ⟨j1,hj1,h⟩:=Fk h
    refine Fa (fun a w'=>∃ x1 : ByteArray,∃ x2 : ByteArray,∃ x3 : ByteArray,∃ x4 : Int,j1 x1 x2 x3 x4 = some r ∧ Sx w [] nov [.blk b2 (Eg.enc (Eg.mk Af.Site Af.No Af.At Af.Kind x1 An x2 0 0 x3 x4)) 101,.blk b1 (Eg.enc Af) 101] [(1,.pointer (some ⟨b1,0,none⟩)),(3,.pointer (some ⟨b2,0,none⟩))] 117 a w') ?_ ?_
    ·refine Fc h (S.tm rfl) (fun hb5 h=>?_) (fun hb5 h=>?_)
     ·refine Fs (Hd [] ([b2]) Tryz.mixed S rfl (by kernel_rfl) ?_);clear S;intro w12 hk11 hsel S
      refine Eo 0 S hsel rfl rfl rfl (by kernel_rfl) (by kernel_rfl) rfl (fun _ hw=>(Gb Yr (S.tm rfl))) fun a S=>Eo 1 S hsel rfl rfl rfl (by kernel_rfl) (by kernel_rfl) rfl (fun _ hw=>(Hw isAgg9 (off:=0) (o:=9) (S.tm rfl) ((S.blk_mem (i:=1) (cells:=(Eg.enc Af)) (b:=b1) (T:=101) rfl (Nf (i:=0) (j:=1) (e:=.blk b2 (Eg.enc (Eg.mk Af.Site Af.No Af.At Af.Kind An An An 0 0 An 0)) 101) (e':=.blk b1 (Eg.enc Af) 101) S rfl rfl rfl)).kept hw) rfl)) fun a S=>Eo 2 S hsel rfl rfl rfl (by kernel_rfl) (by kernel_rfl) rfl (fun _ hw=>(Gb Wc (S.tm rfl))) fun a S=>Eo 3 S hsel rfl rfl rfl (by kernel_rfl) (by kernel_rfl) rfl (fun _ hw=>(Hw isAgg3 (off:=0) (o:=10) (S.tm rfl) ((S.blk_mem (i:=1) (cells:=(Eg.enc Af)) (b:=b1) (T:=101) rfl (Nf (i:=0) (j:=1) (e:=.blk b2 (Eg.enc (Eg.mk Af.Site Af.No Af.At Af.Kind An An An 0 0 An 0)) 101) (e':=.blk b1 (Eg.enc Af) 101) S rfl rfl rfl)).kept hw) rfl)) fun a S=>Eo 4 S hsel rfl rfl rfl (by kernel_rfl) (by kernel_rfl) rfl (fun _ hw=>(Gb Yr (S.tm rfl))) fun a S=>Hi 5 (by kernel_rfl) rfl (Ft S (S.tm rfl) (S.tm rfl) (i:=0) (off:=9) rfl sizeOf9 (vs:=[sV Af.Of]) rfl rfl rfl rfl ?_);clear S;intro w13 hk12 S
      refine Ld (It hk12 (Eo 6 S hsel rfl rfl rfl (by kernel_rfl) (by kernel_rfl) rfl (fun _ hw=>(Gb Wc (S.tm rfl))) fun a S=>Hi 7 (by kernel_rfl) rfl (Ft S (S.tm rfl) (S.tm rfl) (i:=0) (off:=10) rfl sizeOf3 (vs:=[iV Af.Other]) rfl rfl rfl rfl ?_)));clear S;intro w14 hk13 S
      refine Ld (It hk13 (Xy (by kernel_rfl) ?_))
      clear hsel
      replace S:=(S.nl [.blk b2 (Eg.enc (Eg.mk Af.Site Af.No Af.At Af.Kind An An An 0 0 Af.Of Af.Other)) 101,.blk b1 (Eg.enc Af) 101] [true,true] rfl).k2 1 3 rfl
      refine Tn (Fs (Fr (Vf Yr S rfl rfl fun a S=>Vl isAgg9 1 S rfl rfl rfl rfl ?_)));clear S;intro a S
      obtain ⟨r2,hr2,h⟩:=Ga h
      refine Er S (fun _=>Ei (vs:=[sV Af.Of]) ⟨(S.tm rfl),trivial⟩ call77) (Un _ Af.Of _ hr2) rfl ?_;clear S;intro v5 a w15 hv5 hk14 hn5 S
      subst hv5
      refine Vu S Ig rfl rfl fun a S=>Dl (Fc h (S.tm rfl) (fun hb6 h=>?_) (fun hb6 h=>?_))
      ·refine Fr (Vk S rfl rfl fun a S=>Dl (wp_ret ?_))
       iterate 3 (refine Ek ?_)
       obtain rfl:=Option.some.inj h
       exact Fd S results38 rfl rfl
      ·refine wp_skip (Tn (Fr (Vf Wc S rfl rfl fun a S=>Vl isAgg3 1 S rfl rfl rfl rfl fun a S=>Er S (fun _=>Ei (vs:=[iV Af.Other,iV 1,iV 1000000]) ⟨(S.tm rfl),rfl,rfl,trivial⟩ call78) (Rw _ Af.Other 1 1000000 _ rfl) rfl ?_)));clear S;intro v6 a w16 hv6 hk15 hn6 S
       subst hv6
       refine Vu S Ig rfl rfl fun a S=>Dl (Fc h (S.tm rfl) (fun hb7 h=>?_) (fun hb7 h=>?_))
       ·refine Fr (Vk S rfl rfl fun a S=>Dl (wp_ret (Ek (Ek ?_))))
        obtain rfl:=Option.some.inj h
        exact Fd S results38 rfl rfl
       ·exact wp_skip (Tn (⟨An,An,Af.Of,Af.Other,h,S.nf [true,true] rfl (subR rfl)⟩))
     ·refine Fs (Hd [] ([b2]) Tryz.mixed S rfl (by kernel_rfl) ?_);clear S;intro w19 hk18 hsel S
      refine Eo 0 S hsel rfl rfl rfl (by kernel_rfl) (by kernel_rfl) rfl (fun _ hw=>(Gb Oq (S.tm rfl))) fun a S=>Eo 1 S hsel rfl rfl rfl (by kernel_rfl) (by kernel_rfl) rfl (fun _ hw=>(Hw isAgg9 (off:=0) (o:=4) (S.tm rfl) ((S.blk_mem (i:=1) (cells:=(Eg.enc Af)) (b:=b1) (T:=101) rfl (Nf (i:=0) (j:=1) (e:=.blk b2 (Eg.enc (Eg.mk Af.Site Af.No Af.At Af.Kind An An An 0 0 An 0)) 101) (e':=.blk b1 (Eg.enc Af) 101) S rfl rfl rfl)).kept hw) rfl)) fun a S=>Eo 2 S hsel rfl rfl rfl (by kernel_rfl) (by kernel_rfl) rfl (fun _ hw=>(Gb Sm (S.tm rfl))) fun a S=>Eo 3 S hsel rfl rfl rfl (by kernel_rfl) (by kernel_rfl) rfl (fun _ hw=>(Hw isAgg9 (off:=0) (o:=6) (S.tm rfl) ((S.blk_mem (i:=1) (cells:=(Eg.enc Af)) (b:=b1) (T:=101) rfl (Nf (i:=0) (j:=1) (e:=.blk b2 (Eg.enc (Eg.mk Af.Site Af.No Af.At Af.Kind An An An 0 0 An 0)) 101) (e':=.blk b1 (Eg.enc Af) 101) S rfl rfl rfl)).kept hw) rfl)) fun a S=>Eo 4 S hsel rfl rfl rfl (by kernel_rfl) (by kernel_rfl) rfl (fun _ hw=>(Gb Oq (S.tm rfl))) fun a S=>Hi 5 (by kernel_rfl) rfl (Ft S (S.tm rfl) (S.tm rfl) (i:=0) (off:=4) rfl sizeOf9 (vs:=[sV Af.Who]) rfl rfl rfl rfl ?_);clear S;intro w20 hk19 S
      refine Ld (It hk19 (Eo 6 S hsel rfl rfl rfl (by kernel_rfl) (by kernel_rfl) rfl (fun _ hw=>(Gb Sm (S.tm rfl))) fun a S=>Hi 7 (by kernel_rfl) rfl (Ft S (S.tm rfl) (S.tm rfl) (i:=0) (off:=6) rfl sizeOf9 (vs:=[sV Af.Race]) rfl rfl rfl rfl ?_)));clear S;intro w21 hk20 S
      refine Ld (It hk20 (Xy (by kernel_rfl) ?_))
      clear hsel
      replace S:=(S.nl [.blk b2 (Eg.enc (Eg.mk Af.Site Af.No Af.At Af.Kind Af.Who An Af.Race 0 0 An 0)) 101,.blk b1 (Eg.enc Af) 101] [true,true] rfl).k2 1 3 rfl
      refine Tn (Fr (Vf Oq S rfl rfl fun a S=>Vl isAgg9 1 S rfl rfl rfl rfl ?_));clear S;intro a S
      obtain ⟨r3,hr3,h⟩:=Ga h
      refine Er S (fun _=>Ei (vs:=[sV Af.Who]) ⟨(S.tm rfl),trivial⟩ call77) (Un _ Af.Who _ hr3) rfl ?_;clear S;intro v7 a w22 hv7 hk21 hn7 S
      subst hv7
      refine Vu S Ig rfl rfl fun a S=>Vm S rfl rfl ?_;clear S;intro a S
      obtain ⟨j2,hj2,h⟩:=Fk h
      refine Io 5 (fun a w'=>∃ c1,j2 c1 = some r ∧ Keep [] w22 w' ∧ Sx w [] nov [.blk b2 (Eg.enc (Eg.mk Af.Site Af.No Af.At Af.Kind Af.Who An Af.Race 0 0 An 0)) 101,.blk b1 (Eg.enc Af) 101] [(1,.pointer (some ⟨b1,0,none⟩)),(3,.pointer (some ⟨b2,0,none⟩)),(66,bV c1)] 117 a w') ?_ ?_
      ·rcases Bool.eq_false_or_eq_true (!r3) with hb8 | hb8
       ·replace h:=Rz h hb8
        iterate 4 (refine Hk S rfl rfl rfl (Ng hb8) rfl ?_ rfl;clear S;intro a S)
        exact Vq S (Lk true hb8) rfl rfl rfl fun a S=>Dl (⟨_,h,Keep.refl _ _,S.nf [true,true] rfl (subR rfl)⟩)
       ·replace h:=Sa h hb8
        refine Em S rfl rfl rfl hb8 (Vf Sm S rfl rfl fun a S=>Em S rfl rfl rfl hb8 (Vl isAgg9 1 S rfl rfl rfl rfl fun a S=>Em S rfl rfl rfl hb8 ?_))
        obtain ⟨r4,hr4,h⟩:=Ga h
        refine Er S (fun _=>Ei (vs:=[sV Af.Race]) ⟨(S.tm rfl),trivial⟩ call77) (Un _ Af.Race _ hr4) rfl ?_;clear S;intro v8 a w24 hv8 hk22 hn8 S
        subst hv8
        exact Em S rfl rfl rfl hb8 (Vu S Ig rfl rfl fun a S=>lv S (Ll hb8 (S.tm rfl) (S.tm rfl)) rfl fun a S=>Dl (⟨_,h,hk22,S.nf [true,true] rfl (subR rfl)⟩))
      clear S h;rintro a w23 ⟨c1,h,hk23,S⟩;rw [hj2] at h;clear hj2 j2
      refine Vm S rfl rfl ?_;clear S;intro a S
      obtain ⟨j3,hj3,h⟩:=Fk h
      refine Io 15 (fun a w'=>∃ c2,j3 c2 = some r ∧ Keep [] w23 w' ∧ Sx w [] nov [.blk b2 (Eg.enc (Eg.mk Af.Site Af.No Af.At Af.Kind Af.Who An Af.Race 0 0 An 0)) 101,.blk b1 (Eg.enc Af) 101] [(1,.pointer (some ⟨b1,0,none⟩)),(3,.pointer (some ⟨b2,0,none⟩)),(82,bV c2)] 117 a w') ?_ ?_
      ·rcases Bool.eq_false_or_eq_true c1 with hb9 | hb9
       ·replace h:=Rz h hb9
        iterate 4 (refine Hk S rfl rfl rfl (Ng hb9) rfl ?_ rfl;clear S;intro a S)
        iterate 3 (refine BM S rfl rfl rfl rfl ?_;clear S;intro a S)
        refine Hk S rfl rfl rfl (Ng hb9) rfl (fun a S=>Hk S rfl rfl rfl (Ng hb9) rfl ?_ rfl) rfl;clear S;intro a S
        iterate 4 (refine BM S rfl rfl rfl rfl ?_;clear S;intro a S)
        exact Hk S rfl rfl rfl (Ng hb9) rfl (fun a S=>Vq S (Lk true hb9) rfl rfl rfl fun a S=>Dl (⟨_,h,Keep.refl _ _,S.nf [true,true] rfl (subR rfl)⟩)) rfl
       ·replace h:=Sa h hb9
        refine Em S rfl rfl rfl hb9 (Vf Pv S rfl rfl fun a S=>Em S rfl rfl rfl hb9 (Vl isAgg3 1 S rfl rfl rfl rfl fun a S=>Em S rfl rfl rfl hb9 (Vq S Jn rfl rfl rfl fun a S=>Em S rfl rfl rfl hb9 (Vm S rfl rfl fun a S=>Io 4 (fun a w'=>Keep [] w23 w' ∧ Sx w [] nov [.blk b2 (Eg.enc (Eg.mk Af.Site Af.No Af.At Af.Kind Af.Who An Af.Race 0 0 An 0)) 101,.blk b1 (Eg.enc Af) 101] [(1,.pointer (some ⟨b1,0,none⟩)),(3,.pointer (some ⟨b2,0,none⟩)),(67,bV c1),(75,bV ((decide (Af.Kind = 1)) && (!decide (Af.Club = An))))] 117 a w') ?_ ?_))))
        ·rcases Bool.eq_false_or_eq_true (decide (Af.Kind = 1)) with hb10 | hb10
         ·exact Em S rfl rfl rfl hb10 (Vf Vp S rfl rfl fun a S=>Em S rfl rfl rfl hb10 (Vl isAgg9 1 S rfl rfl rfl rfl fun a S=>Em S rfl rfl rfl hb10 (Vq S DZ rfl rfl rfl fun a S=>Em S rfl rfl rfl hb9 (lv S (Ii hb10 (S.tm rfl) (S.tm rfl)) rfl fun a S=>Dl (⟨Keep.refl _ _,S.nf [true,true] rfl (subR rfl)⟩)))))
         ·iterate 3 (refine Hk S rfl rfl rfl (Ka hb10) rfl ?_ rfl;clear S;intro a S)
          exact Em S rfl rfl rfl hb9 (lv S (Ij (!decide (Af.Club = An)) hb10 (S.tm rfl) rfl) rfl fun a S=>Dl (⟨Keep.refl _ _,S.nf [true,true] rfl (subR rfl)⟩))
        clear S;rintro a w26 ⟨hk24,S⟩
        refine Em S rfl rfl rfl hb9 (Vm S rfl rfl ?_);clear S;intro a S
        obtain ⟨j4,hj4,h⟩:=Fk h
        refine Io 5 (fun a w'=>∃ c3,j4 c3 = some r ∧ Keep [] w26 w' ∧ Sx w [] nov [.blk b2 (Eg.enc (Eg.mk Af.Site Af.No Af.At Af.Kind Af.Who An Af.Race 0 0 An 0)) 101,.blk b1 (Eg.enc Af) 101] [(1,.pointer (some ⟨b1,0,none⟩)),(3,.pointer (some ⟨b2,0,none⟩)),(67,bV c1),(81,bV c3)] 117 a w') ?_ ?_
        ·rcases Bool.eq_false_or_eq_true ((decide (Af.Kind = 1)) && (!decide (Af.Club = An))) with hb11 | hb11
         ·replace h:=Rz h hb11
          refine Em S rfl rfl rfl hb11 (Vf Vp S rfl rfl fun a S=>Em S rfl rfl rfl hb11 (Vl isAgg9 1 S rfl rfl rfl rfl fun a S=>Em S rfl rfl rfl hb11 ?_))
          obtain ⟨r5,hr5,h⟩:=Ga h
          refine Er S (fun _=>Ei (vs:=[sV Af.Club]) ⟨(S.tm rfl),trivial⟩ call77) (Un _ Af.Club _ hr5) rfl ?_;clear S;intro v9 a w28 hv9 hk25 hn9 S
          subst hv9
          exact Em S rfl rfl rfl hb11 (Vu S Ig rfl rfl fun a S=>Em S rfl rfl rfl hb9 (lv S (Ii hb11 (S.tm rfl) (S.tm rfl)) rfl fun a S=>Dl (⟨_,h,hk25,S.nf [true,true] rfl (subR rfl)⟩)))
         ·replace h:=Sa h hb11
          iterate 4 (refine Hk S rfl rfl rfl (Ka hb11) rfl ?_ rfl;clear S;intro a S)
          exact Em S rfl rfl rfl hb9 (Vq S (Ij true hb11) rfl rfl rfl fun a S=>Dl (⟨_,h,Keep.refl _ _,S.nf [true,true] rfl (subR rfl)⟩))
        clear S h;rintro a w27 ⟨c3,h,hk26,S⟩;rw [hj4] at h;clear hj4 j4
        exact lv S (Ll hb9 (S.tm rfl) (S.tm rfl)) rfl fun a S=>Dl (⟨_,h,(hk24).trans hk26,S.nf [true,true] rfl (subR rfl)⟩)
      clear S h;rintro a w25 ⟨c2,h,hk27,S⟩;rw [hj3] at h;clear hj3 j3
      refine Dl (Fc h (S.tm rfl) (fun hb12 h=>?_) (fun hb12 h=>?_))
      ·refine Fr (Vk S rfl rfl fun a S=>Dl (wp_ret (Ek (Ek ?_))))
       obtain rfl:=Option.some.inj h
       exact Fd S results38 rfl rfl
      ·exact wp_skip (Tn (⟨Af.Who,Af.Race,An,0,h,S.nf [true,true] rfl (subR rfl)⟩))
    clear S h;rintro a w9 ⟨x1,x2,x3,x4,h,S⟩;rw [hj1] at h;clear hj1 j1
    refine Tn (Fs (Fr (Vf Pv S rfl rfl fun a S=>Vl isAgg3 1 S rfl rfl rfl rfl fun a S=>Vq S Jn rfl rfl rfl fun a S=>Dl ?_)))
    obtain ⟨j5,hj5,h⟩:=Fk h
    refine Fa (fun a w'=>∃ x5 : ByteArray,j5 x5 = some r ∧ Sx w [] nov [.blk b2 (Eg.enc (Eg.mk Af.Site Af.No Af.At Af.Kind x1 x5 x2 0 0 x3 x4)) 101,.blk b1 (Eg.enc Af) 101] [(1,.pointer (some ⟨b1,0,none⟩)),(3,.pointer (some ⟨b2,0,none⟩))] 117 a w') ?_ ?_
    ·refine Fc h (S.tm rfl) (fun hb13 h=>?_) (fun hb13 h=>?_)
     ·refine Fg (Vf Vp S rfl rfl fun a S=>Vl isAgg9 1 S rfl rfl rfl rfl fun a S=>Vf Vp S rfl rfl fun a S=>Ft S (S.tm rfl) (S.tm rfl) (i:=0) (off:=5) rfl sizeOf9 (vs:=[sV Af.Club]) rfl rfl rfl rfl ?_);clear S;intro w30 hk28 S
      exact Dl (⟨Af.Club,h,S.nf [true,true] rfl (subR rfl)⟩)
     ·exact wp_skip (Tn (⟨An,h,S.nf [true,true] rfl (subR rfl)⟩))
    clear S h;rintro a w29 ⟨x5,h,S⟩;rw [hj5] at h;clear hj5 j5
    refine Tn (Fs (Fr (Vf Pv S rfl rfl fun a S=>Vl isAgg3 1 S rfl rfl rfl rfl fun a S=>Vq S Jn rfl rfl rfl fun a S=>Vm S rfl rfl fun a S=>Io 4 (fun a w'=>Keep [] w29 w' ∧ Sx w [] nov [.blk b2 (Eg.enc (Eg.mk Af.Site Af.No Af.At Af.Kind x1 x5 x2 0 0 x3 x4)) 101,.blk b1 (Eg.enc Af) 101] [(1,.pointer (some ⟨b1,0,none⟩)),(3,.pointer (some ⟨b2,0,none⟩)),(96,bV ((decide (Af.Kind = 1)) || (decide (Af.Kind = 3))))] 117 a w') ?_ ?_)))
    ·rcases Bool.eq_false_or_eq_true (decide (Af.Kind = 1)) with hb14 | hb14
     ·iterate 3 (refine Hk S rfl rfl rfl (Ng hb14) rfl ?_ rfl;clear S;intro a S)
      exact lv S (Lk (decide (Af.Kind = 3)) hb14 (S.tm rfl) rfl) rfl fun a S=>Dl (⟨Keep.refl _ _,S.nf [true,true] rfl (subR rfl)⟩)
     ·exact Em S rfl rfl rfl hb14 (Vf Pv S rfl rfl fun a S=>Em S rfl rfl rfl hb14 (Vl isAgg3 1 S rfl rfl rfl rfl fun a S=>Em S rfl rfl rfl hb14 (Vq S Jn rfl rfl rfl fun a S=>lv S (Ll hb14 (S.tm rfl) (S.tm rfl)) rfl fun a S=>Dl (⟨Keep.refl _ _,S.nf [true,true] rfl (subR rfl)⟩))))
    clear S;rintro a w31 ⟨hk29,S⟩
    refine Dl ?_
    obtain ⟨j6,hj6,h⟩:=Fk h
    refine Fa (fun a w'=>∃ x6 : Int,j6 x6 = some r ∧ Sx w [] nov [.blk b2 (Eg.enc (Eg.mk Af.Site Af.No Af.At Af.Kind x1 x5 x2 x6 0 x3 x4)) 101,.blk b1 (Eg.enc Af) 101] [(1,.pointer (some ⟨b1,0,none⟩)),(3,.pointer (some ⟨b2,0,none⟩))] 117 a w') ?_ ?_
    ·refine Fc h (S.tm rfl) (fun hb15 h=>?_) (fun hb15 h=>?_)
     ·refine Fr (Vf Um S rfl rfl fun a S=>Vl isAgg3 1 S rfl rfl rfl rfl fun a S=>Vf Um S rfl rfl fun a S=>Ft S (S.tm rfl) (S.tm rfl) (i:=0) (off:=7) rfl sizeOf3 (vs:=[iV Af.Time]) rfl rfl rfl rfl ?_);clear S;intro w33 hk30 S
      refine Dz (Vf Um S rfl rfl fun a S=>Vl isAgg3 1 S rfl rfl rfl rfl fun a S=>Er S (fun _=>Ei (vs:=[iV Af.Time,iV 0,iV 360000]) ⟨(S.tm rfl),rfl,rfl,trivial⟩ call78) (Rw _ Af.Time 0 360000 _ rfl) rfl ?_);clear S;intro v10 a w34 hv10 hk31 hn10 S
      subst hv10
      refine Vu S Ig rfl rfl fun a S=>Dl (Fc h (S.tm rfl) (fun hb16 h=>?_) (fun hb16 h=>?_))
      ·refine Fr (Vk S rfl rfl fun a S=>Dl (wp_ret (Ek (Ek ?_))))
       obtain rfl:=Option.some.inj h
       exact Fd S results38 rfl rfl
      ·exact wp_skip (Tn (⟨Af.Time,h,S.nf [true,true] rfl (subR rfl)⟩))
     ·exact wp_skip (Tn (⟨0,h,S.nf [true,true] rfl (subR rfl)⟩))
    clear S h;rintro a w32 ⟨x6,h,S⟩;rw [hj6] at h;clear hj6 j6
    refine Tn (Fs (Fr (Vf Pv S rfl rfl fun a S=>Vl isAgg3 1 S rfl rfl rfl rfl fun a S=>Vq S Jn rfl rfl rfl fun a S=>Dl ?_)))
    obtain ⟨j7,hj7,h⟩:=Fk h
    refine Fa (fun a w'=>∃ x7 : Int,j7 x7 = some r ∧ Sx w [] nov [.blk b2 (Eg.enc (Eg.mk Af.Site Af.No Af.At Af.Kind x1 x5 x2 x6 x7 x3 x4)) 101,.blk b1 (Eg.enc Af) 101] [(1,.pointer (some ⟨b1,0,none⟩)),(3,.pointer (some ⟨b2,0,none⟩))] 117 a w') ?_ ?_
    ·refine Fc h (S.tm rfl) (fun hb17 h=>?_) (fun hb17 h=>?_)
     ·refine Fr (Vf Ws S rfl rfl fun a S=>Vl isAgg3 1 S rfl rfl rfl rfl fun a S=>Vf Ws S rfl rfl fun a S=>Ft S (S.tm rfl) (S.tm rfl) (i:=0) (off:=8) rfl sizeOf3 (vs:=[iV Af.Fault]) rfl rfl rfl rfl ?_);clear S;intro w36 hk32 S
      refine Dz (Vf Ws S rfl rfl fun a S=>Vl isAgg3 1 S rfl rfl rfl rfl fun a S=>Er S (fun _=>Ei (vs:=[iV Af.Fault,iV 0,iV 8]) ⟨(S.tm rfl),rfl,rfl,trivial⟩ call78) (Rw _ Af.Fault 0 8 _ rfl) rfl ?_);clear S;intro v11 a w37 hv11 hk33 hn11 S
      subst hv11
      refine Vu S Ig rfl rfl fun a S=>Dl (Fc h (S.tm rfl) (fun hb18 h=>?_) (fun hb18 h=>?_))
      ·refine Fr (Vk S rfl rfl fun a S=>Dl (wp_ret (Ek (Ek ?_))))
       obtain rfl:=Option.some.inj h
       exact Fd S results38 rfl rfl
      ·exact wp_skip (Tn (⟨Af.Fault,h,S.nf [true,true] rfl (subR rfl)⟩))
     ·exact wp_skip (Tn (⟨0,h,S.nf [true,true] rfl (subR rfl)⟩))
    clear S h;rintro a w35 ⟨x7,h,S⟩;rw [hj7] at h;clear hj7 j7
    refine Tn (Fs (Fr (lv S (Gh isAgg101 sizeOf101 (off:=0) (o:=0) (part:=(Eg.enc Af)) rfl rfl (S.tm rfl) (S.cellsAt (i:=1) rfl)) rfl fun a S=>lv S (Gh isAgg101 sizeOf101 (off:=0) (o:=0) (part:=(Eg.enc (Eg.mk Af.Site Af.No Af.At Af.Kind x1 x5 x2 x6 x7 x3 x4))) rfl rfl (S.tm rfl) (S.cellsAt (i:=0) rfl)) rfl fun a S=>lv S (KC (m:=Af) (n:=(Eg.mk Af.Site Af.No Af.At Af.Kind x1 x5 x2 x6 x7 x3 x4)) (S.tm rfl) (S.tm rfl)) rfl fun a S=>Dl (Fc h (S.tm rfl) (fun hb19 h=>?_) (fun hb19 h=>?_)))))
    ·refine Fr (Vk S rfl rfl fun a S=>Dl (wp_ret (Ek ?_)))
     obtain rfl:=Option.some.inj h
     exact Fd S results38 rfl rfl
    ·refine wp_skip (Tn (Fr (Vk S rfl rfl fun a S=>Dl (wp_ret ?_))))
     obtain rfl:=Option.some.inj h
     exact Fd S results38 rfl rfl
theorem FK (w : World) (Ah : Eg) (Aj : Eg) (r : Bool) (h : Wz Ah Aj = r) :
    Calls prog 41 [.agg (Eg.enc Ah).toArray,.agg (Eg.enc Aj).toArray].toArray w (Ret w [] fun _ v _=>v = bV r):=by
 refine Fe func41 rfl ntmps41 rfl fun a S=>?_
 unfold Wz at h
 replace S:=S.k2 0 1 rfl
 refine Fr (Mk S (S.tm rfl) (cs:=(Eg.enc Ah)) rfl rfl ?_);clear S;intro a w1 b1 hz1 hk1 S
 refine Mk S (S.tm rfl) (cs:=(Eg.enc Aj)) rfl rfl ?_;clear S;intro a w2 b2 hz2 hk2 S
 refine Vk S rfl rfl fun a S=>Dz (Vf Rd S rfl rfl fun a S=>Vl isAgg9 1 S rfl rfl rfl rfl fun a S=>Vf Rd S rfl rfl fun a S=>Vl isAgg9 0 S rfl rfl rfl rfl fun a S=>Vb S Wv rfl rfl rfl fun a S=>Vm S rfl rfl ?_);clear S;intro a S
 refine Io 6 (fun a w'=>Keep [] w2 w' ∧ Sx w [] nov [.blk b2 (Eg.enc Aj) 101,.blk b1 (Eg.enc Ah) 101] [(16,bV ((decide (Ah.Site = Aj.Site)) && (decide (Ah.No = Aj.No))))] 17 a w') ?_ ?_
 ·rcases Bool.eq_false_or_eq_true (decide (Ah.Site = Aj.Site)) with hb1 | hb1
  ·refine Em S rfl rfl rfl hb1 (Vf Tl S rfl rfl fun a S=>Em S rfl rfl rfl hb1 (Vl isAgg3 1 S rfl rfl rfl rfl fun a S=>Em S rfl rfl rfl hb1 (Vf Tl S rfl rfl fun a S=>Em S rfl rfl rfl hb1 (Vl isAgg3 0 S rfl rfl rfl rfl fun a S=>Em S rfl rfl rfl hb1 (Vb S Jn rfl rfl rfl fun a S=>lv S (Ii hb1 (S.tm rfl) (S.tm rfl)) rfl ?_)))));clear S;intro a S
   exact Dl (⟨Keep.refl _ _,S.nf [true,true] rfl ⟨rfl,trivial⟩⟩)
  ·iterate 5 (refine Hk S rfl rfl rfl (Ka hb1) rfl ?_ rfl;clear S;intro a S)
   exact lv S (Ij (decide (Ah.No = Aj.No)) hb1 (S.tm rfl) rfl) rfl fun a S=>Dl (⟨Keep.refl _ _,S.nf [true,true] rfl ⟨rfl,trivial⟩⟩)
 clear S;rintro a w3 ⟨hk3,S⟩
 refine Va S rfl rfl fun a S=>Dl (wp_ret ?_)
 subst h
 exact Fd S results41 rfl rfl
theorem Zw (w : World) (Dv : Eg) (Bz : Nat) (Bj : Eg) (Ca : (view w []) Bz = some (.cells [sV Bj.Site,iV Bj.No,iV Bj.At,iV Bj.Kind,sV Bj.Who,sV Bj.Club,sV Bj.Race,iV Bj.Time,iV Bj.Fault,sV Bj.Of,iV Bj.Other].toArray 101 (0,0))) (r : Bool) (h : Pt Dv Bj = r) :
    Calls prog 40 [.agg (Eg.enc Dv).toArray,.pointer (some ⟨Bz,0,none⟩)].toArray w (Ret w [] fun _ v _=>v = bV r):=by
 refine Fe func40 rfl ntmps40 rfl fun a S=>?_
 unfold Pt at h
 replace S:=S.k2 0 1 rfl
 refine Fr (Mk S (S.tm rfl) (cs:=(Eg.enc Dv)) rfl rfl ?_);clear S;intro a w1 b1 hz1 hk1 S
 refine Vk S rfl rfl fun a S=>Dz (lv S (Gh isAgg101 sizeOf101 (off:=0) (o:=0) (part:=(Eg.enc Dv)) rfl rfl (S.tm rfl) (S.cellsAt (i:=0) rfl)) rfl fun a S=>lv S (Gh isAgg101 sizeOf101 (off:=0) (o:=0) (part:=(Eg.enc Bj)) rfl rfl (S.tm rfl) ((Pl Ca).at S.emb0)) rfl fun a S=>Er S (fun _=>Ei (vs:=[.agg (Eg.enc Dv).toArray,.agg (Eg.enc Bj).toArray]) ⟨(S.tm rfl),(S.tm rfl),trivial⟩ call41) (FK _ Dv Bj _ rfl) rfl ?_);clear S;intro v1 a w2 hv1 hk2 hn1 S
 subst hv1
 refine Va S rfl rfl fun a S=>Dl (wp_ret ?_)
 subst h
 exact Fd S results40 rfl rfl
theorem Sp (w : World) (Au : Value) (Aw : List Eg) (Be : Slc (view w []) 11 Au (Aw.map Eg.enc)) (Ay : Nat) (Av : Eg) (Bg : (view w []) Ay = some (.cells [sV Av.Site,iV Av.No,iV Av.At,iV Av.Kind,sV Av.Who,sV Av.Club,sV Av.Race,iV Av.Time,iV Av.Fault,sV Av.Of,iV Av.Other].toArray 101 (0,0))) (r : Int) (h : Mm Aw Av = r) :
    Calls prog 80 [Au,.func (.func 40) #[] #[.pointer (some ⟨Ay,0,none⟩)]].toArray w (Ret w [] fun _ v _=>v = iV r):=by
 refine Fe func80 rfl ntmps80 rfl fun a S=>?_
 unfold Mm at h
 replace S:=S.k2 0 1 rfl
 refine Fr (Vk S rfl rfl fun a S=>Dl (Fs (Fr (Vm S rfl rfl fun a S=>lv S (Gn Pn (S.tm rfl) (Gk Be)) rfl fun a S=>lv S (Rm rfl) rfl ?_))));clear S;intro a S
 refine Dl ?_
 replace S:=S.k4 0 1 7 8 rfl
 obtain ⟨j1,hj1,h⟩:=Fk h
 refine Fa (fun a w'=>j1 = r ∧ Sx w [] nov [] [] 19 a w') ?_ ?_
 ·refine wp_block (Hs (fun (ys1 : List Eg) a w'=>∃ i1 : Nat,(∃ dn,Aw = dn ++ ys1 ∧ dn.length = i1) ∧ Fu Av j1 ys1 i1 = r ∧ Sx w [] nov [] [(0,Au),(1,.func (.func 40) #[] #[.pointer (some ⟨Ay,0,none⟩)]),(7,iV (Aw.length : Int)),(8,iV (i1 : Int))] 19 a w') List.length Aw ⟨0,⟨[],rfl,rfl⟩,h,S.nf [] rfl (subR rfl)⟩ ?_)
  clear S h;rintro ys1 a w1 ⟨i1,⟨dn,hd1,hi1⟩,h,S⟩
  cases ys1 with
  | nil =>
   rw [Fu.eq_1] at h
   refine Fr (Vb S Fp rfl rfl rfl fun a S=>Ld ?_)
   replace S:=S.k5 0 1 7 8 9 rfl
   exact Tn (Fs (wp_cond_false ((S.tm rfl).trans (congrArg Value.bool (Jq hd1 hi1))) (wp_exit (Ew (Ew (Hl (Tn (⟨h,S.nf [] rfl trivial⟩))))))))
  | cons y1 ys1 =>
   rw [Fu.eq_2] at h
   refine Fr (Vb S Fp rfl rfl rfl fun a S=>Ld ?_)
   replace S:=S.k5 0 1 7 8 9 rfl
   refine Tn (Fs (wp_cond_true ((S.tm rfl).trans (congrArg Value.bool (Iv hd1 hi1))) (wp_skip (Tn (Fs (wp_block (Fr (Vm S rfl rfl fun a S=>Va S rfl rfl ?_))))))));clear S;intro a S
   refine Dl (Fs (Fg ?_))
   iterate 3 (refine Vm S rfl rfl ?_;clear S;intro a S)
   obtain ⟨b1,o1,hm1,hr1⟩:=Fv (a:=a) (x:=.tmp 12) (y:=.tmp 13) (ty:=0) Pn Be (Js hd1 hi1) rfl (S.tm rfl) (S.tm rfl)
   refine lv S (hr1 _) rfl ?_;clear S;intro a S
   clear hr1
   refine lv S (Gh isAgg101 sizeOf101 (off:=o1) (o:=0) (part:=(Eg.enc y1)) rfl rfl (S.tm rfl) (hm1.at S.emb0)) rfl fun a S=>Er S (fun _=>Te (cap:=[.pointer (some ⟨Ay,0,none⟩)]) (S.tm rfl) (vs:=[.agg (Eg.enc y1).toArray]) ⟨(S.tm rfl),trivial⟩ call40) (Zw _ y1 Ay Av ((S.le_arg Ez) _ _ Bg) _ rfl) rfl ?_;clear S;intro v1 a w3 hv1 hk1 hn1 S
   subst hv1
   refine Dl (Fc h (S.tm rfl) (fun hb1 h=>?_) (fun hb1 h=>?_))
   ·refine Fr (Vm S rfl rfl fun a S=>Va S rfl rfl fun a S=>Ld ?_)
    replace S:=S.k1 4 rfl
    refine Tn (wp_ret (Gg (Ek (Ek (Gg (Ek (Ek ?_)))))))
    subst h
    exact Fd S results80 rfl rfl
   ·exact wp_skip (Im (Tn (Fg (Vq S Gw rfl rfl rfl fun a S=>Vm S rfl rfl fun a S=>Dl (⟨ys1,⟨i1 + 1,⟨_,(hd1).trans (List.append_cons _ _ _),by simp [hi1]⟩,h,S.nf [] rfl ⟨rfl,rfl,rfl,(congrArg (fun z=>some (Value.int .i64 z)) (Iw hd1 hi1 (Kh Be))),trivial⟩⟩,Nat.lt_succ_self _⟩)))))
 clear S h;rintro a w2 ⟨h,S⟩;rw [hj1] at h;clear hj1 j1
 refine Tn (Fr (Vk S rfl rfl fun a S=>Dl (wp_ret ?_)))
 subst h
 exact Fd S results80 rfl rfl
theorem Rx (w : World) (Au : Value) (Aw : List Eg) (Be : Slc (view w []) 11 Au (Aw.map Eg.enc)) (Ay : Nat) (Av : Eg) (Bg : (view w []) Ay = some (.cells [sV Av.Site,iV Av.No,iV Av.At,iV Av.Kind,sV Av.Who,sV Av.Club,sV Av.Race,iV Av.Time,iV Av.Fault,sV Av.Of,iV Av.Other].toArray 101 (0,0))) (r : Bool) (h : Kc Aw Av = r) :
    Calls prog 39 [Au,.func (.func 40) #[] #[.pointer (some ⟨Ay,0,none⟩)]].toArray w (Ret w [] fun _ v _=>v = bV r):=by
 refine Fe func39 rfl ntmps39 rfl fun a S=>?_
 unfold Kc at h
 replace S:=S.k2 0 1 rfl
 refine Fr (Vk S rfl rfl fun a S=>Dz (Vm S rfl rfl fun a S=>Vm S rfl rfl fun a S=>Er S (fun _=>Ei (vs:=[Au,.func (.func 40) #[] #[.pointer (some ⟨Ay,0,none⟩)]]) ⟨(S.tm rfl),(S.tm rfl),trivial⟩ call80) (Sp _ Au Aw (Be.mono (S.le_arg Ez)) Ay Av ((S.le_arg Ez) _ _ Bg) _ rfl) rfl ?_));clear S;intro v1 a w1 hv1 hk1 hn1 S
 subst hv1
 refine Vq S Re rfl rfl rfl fun a S=>Va S rfl rfl fun a S=>Dl (wp_ret ?_)
 subst h
 exact Fd S results39 rfl rfl
set_option maxRecDepth 20000 in
theorem BY (w : World) (Ab : Value) (Ad : List Eg) (Ae : Slc (view w []) 11 Ab (Ad.map Eg.enc)) (r : Int) (h : Rb Ad = some r) :
    Calls prog 18 [Ab].toArray w (Ret w [] fun _ v _=>v = iV r):=by
 refine Fe func18 rfl ntmps18 rfl fun a S=>?_
 unfold Rb at h
 replace S:=S.k1 0 rfl
 refine Fr (Vk S rfl rfl fun a S=>Dl (Fs (Fr (Vm S rfl rfl fun a S=>lv S (Gn Pn (S.tm rfl) (Gk Ae)) rfl fun a S=>Vq S Jz rfl rfl rfl ?_))));clear S;intro a S
 refine Dl (Fc h (S.tm rfl) (fun hb1 h=>?_) (fun hb1 h=>?_))
 ·refine Fr (Vk S rfl rfl fun a S=>Dl (wp_ret (Ek ?_)))
  obtain rfl:=Option.some.inj h
  exact Fd S results18 rfl rfl
 ·refine wp_skip (Tn (Fs (Fr (Vm S rfl rfl fun a S=>lv S (Gn Pn (S.tm rfl) (Gk Ae)) rfl fun a S=>lv S (Rm rfl) rfl fun a S=>Dl ?_))))
  replace S:=S.k4 0 11 12 13 rfl
  obtain ⟨j1,hj1,h⟩:=Fk h
  refine Fa (fun a w'=>j1 = some r ∧ Sx w [] nov [] [(0,Ab)] 49 a w') ?_ ?_
  ·refine wp_block (Hs (fun (ys1 : List Eg) a w'=>∃ i1 : Nat,(∃ dn,Ad = dn ++ ys1 ∧ dn.length = i1) ∧ Jf Ad j1 ys1 i1 = some r ∧ Sx w [] nov [] [(0,Ab),(11,Ab),(12,iV (Ad.length : Int)),(13,iV (i1 : Int))] 49 a w') List.length Ad ⟨0,⟨[],rfl,rfl⟩,h,S.nf [] rfl (subR rfl)⟩ ?_)
   clear S h;rintro ys1 a w1 ⟨i1,⟨dn,hd1,hi1⟩,h,S⟩
   cases ys1 with
   | nil =>
    rw [Jf.eq_1] at h
    refine Fr (Vb S Fp rfl rfl rfl fun a S=>Ld ?_)
    replace S:=S.k5 0 11 12 13 14 rfl
    exact Tn (Fs (wp_cond_false ((S.tm rfl).trans (congrArg Value.bool (Jq hd1 hi1))) (wp_exit (Ew (Ew (Hl (Tn (⟨h,S.nf [] rfl ⟨rfl,trivial⟩⟩))))))))
   | cons y1 ys1 =>
    rw [Jf.eq_2] at h
    refine Fr (Vb S Fp rfl rfl rfl fun a S=>Ld ?_)
    replace S:=S.k5 0 11 12 13 14 rfl
    refine Tn (Fs (wp_cond_true ((S.tm rfl).trans (congrArg Value.bool (Iv hd1 hi1))) (wp_skip (Tn (Fs (wp_block (Fr (Vm S rfl rfl ?_))))))));clear S;intro a S
    obtain ⟨b1,o1,hm1,hr1⟩:=Fv (a:=a) (x:=.tmp 11) (y:=.tmp 13) (ty:=0) Pn Ae (Js hd1 hi1) rfl (S.tm rfl) (S.tm rfl)
    refine lv S (hr1 _) rfl ?_;clear S;intro a S
    clear hr1
    refine lv S (Gh isAgg101 sizeOf101 (off:=o1) (o:=0) (part:=(Eg.enc y1)) rfl rfl (S.tm rfl) (hm1.at S.emb0)) rfl fun a S=>Iz S zeroValue101 (cs:=[sV An,iV 0,iV 0,iV 0,sV An,sV An,sV An,iV 0,iV 0,sV An,iV 0]) rfl rfl ?_;clear S;intro a w3 b2 hz1 hk1 S
    refine Va S rfl rfl fun a S=>Ft S (S.tm rfl) (S.tm rfl) (i:=0) (off:=0) rfl sizeOf101 (vs:=(Eg.enc y1)) rfl rfl rfl rfl ?_;clear S;intro w4 hk2 S
    refine Dl (Fs (Fr (lv S (Gh isAgg101 sizeOf101 (off:=0) (o:=0) (part:=(Eg.enc y1)) rfl rfl (S.tm rfl) (S.cellsAt (i:=0) rfl)) rfl ?_)));clear S;intro a S
    obtain ⟨r1,hr2,h⟩:=Ga h
    refine Er S (fun _=>Ei (vs:=[.agg (Eg.enc y1).toArray]) ⟨(S.tm rfl),trivial⟩ call38) (CK _ y1 _ hr2) rfl ?_;clear S;intro v1 a w5 hv1 hk3 hn1 S
    subst hv1
    refine Va S rfl rfl fun a S=>Dz (Vm S rfl rfl fun a S=>Vq S Nt rfl rfl rfl fun a S=>Ld ?_)
    replace S:=(S.nl [.blk b2 (Eg.enc y1) 101] [true] rfl).k8 0 3 4 5 11 12 13 21 rfl
    refine Tn (Fc h (S.tm rfl) (fun hb2 h=>?_) (fun hb2 h=>?_))
    ·refine Fr (Vm S rfl rfl fun a S=>Va S rfl rfl fun a S=>Dl (wp_ret (Ek (Gg (Ek (Ek ?_))))))
     refine Gg (Ek (Ek ?_))
     obtain rfl:=Option.some.inj h
     exact Fd S results18 rfl rfl
    ·refine wp_skip (Tn (Fs ?_))
     obtain ⟨j2,hj2,h⟩:=Fk h
     refine Fa (fun a w'=>∃ x1 : Bool,j2 x1 = some r ∧ Sx w [] nov [] [(0,Ab),(11,Ab),(12,iV (Ad.length : Int)),(13,iV (i1 : Int)),(34,bV x1)] 49 a w') ?_ ?_
     ·rcases Bool.eq_false_or_eq_true (decide (0 < (i1 : Int))) with hb3 | hb3
      ·replace h:=Rz h hb3
       obtain ⟨hc1,h⟩:=Jc h
       refine Hd [] ([]) Tryz.mixed S rfl (by kernel_rfl) ?_;clear S;intro w8 hk5 hsel S
       refine Eo 0 S hsel rfl rfl rfl (by kernel_rfl) (by kernel_rfl) rfl (fun _ hw=>(Rm (S.tm rfl))) fun a S=>Eo 1 S hsel rfl rfl rfl (by kernel_rfl) (by kernel_rfl) rfl (fun _ hw=>(Jz (S.tm rfl) rfl)) fun a S=>Eo 2 S hsel rfl rfl rfl (by kernel_rfl) (by kernel_rfl) rfl (fun _ hw=>(Rm (S.tm rfl))) fun a S=>Ey 3 S hsel rfl rfl rfl rfl hb3 rfl rfl (by kernel_rfl) (by kernel_rfl) rfl (fun _ hw=>(Rm (S.tm rfl))) fun a S=>Ey 4 S hsel rfl rfl rfl rfl hb3 rfl rfl (by kernel_rfl) (by kernel_rfl) rfl (fun _ hw=>(Rm (S.tm rfl))) fun a S=>Ey 5 S hsel rfl rfl rfl rfl hb3 rfl rfl (by kernel_rfl) (by kernel_rfl) rfl (fun _ hw=>(Jt (S.tm rfl) rfl)) ?_;clear S;intro a S
       obtain ⟨b4,o3,hm3,hr4⟩:=Fv (a:=a) (x:=.tmp 26) (y:=.tmp 28) (ty:=0) Pn (Ae.mono (S.le_arg Ez)) (Es hc1).1 (Es hc1).2 (S.tm rfl) (S.tm rfl)
       refine Ey 6 S hsel rfl rfl rfl rfl hb3 rfl rfl (by kernel_rfl) (by kernel_rfl) rfl (fun _ hw=>hr4 _) ?_;clear S;intro a S
       clear hr4
       refine Ey 7 S hsel rfl rfl rfl rfl hb3 rfl rfl (by kernel_rfl) (by kernel_rfl) rfl (fun _ hw=>(Gh isAgg101 sizeOf101 (off:=o3) (o:=0) (part:=(Eg.enc (nth Ad (W ((i1 : Int) - 1))))) rfl rfl (S.tm rfl) (hm3.kept hw))) fun a S=>Ey 8 S hsel rfl rfl rfl rfl hb3 rfl rfl (by kernel_rfl) (by kernel_rfl) rfl (fun _ hw=>(Gh isAgg101 sizeOf101 (off:=0) (o:=0) (part:=(Eg.enc y1)) rfl rfl (S.tm rfl) ((S.blk_mem (i:=0) (cells:=(Eg.enc y1)) (b:=b2) (T:=101) rfl (Ik (e':=.blk b2 (Eg.enc y1) 101))).kept hw))) fun a S=>Hi 9 (by kernel_rfl) rfl (Em S rfl rfl rfl hb3 (Er S (fun _=>Ei (vs:=[.agg (Eg.enc (nth Ad (W ((i1 : Int) - 1)))).toArray,.agg (Eg.enc y1).toArray]) ⟨(S.tm rfl),(S.tm rfl),trivial⟩ call37) (Xz _ (nth Ad (W ((i1 : Int) - 1))) y1 _ rfl) rfl ?_));clear S;intro v3 a w9 hv3 hk6 hn3 S
       subst hv3
       refine Ld (It hk6 (Kt [10,11] hsel (by kernel_rfl) rfl ?_))
       clear hsel
       refine Fx S rfl rfl rfl rfl hb3 (He S (Re (S.tm rfl) rfl) rfl fun a S=>Gv S rfl (Qe hb3 (S.tm rfl) (S.tm rfl)) rfl fun a S=>Jb ?_)
       replace S:=S.n0.k13 0 11 12 13 26 27 28 29 30 31 32 33 34 rfl
       exact Tn (⟨decide (0 ≤ (Ko (nth Ad (W ((i1 : Int) - 1))) y1)),h,S.nf [] rfl (subR rfl)⟩)
      ·replace h:=Sa h hb3
       refine Hd [] ([]) Tryz.mixed S rfl (by kernel_rfl) ?_;clear S;intro w10 hk7 hsel S
       refine Kt [0,1,2,3,4,5,6,7,8,9,10,11] hsel (by kernel_rfl) rfl ?_
       clear hsel
       refine Gv S rfl (Rm (S.tm rfl)) rfl fun a S=>Gv S rfl (Jz (S.tm rfl) rfl) rfl fun a S=>Gv S rfl (Rm (S.tm rfl)) rfl ?_;clear S;intro a S
       iterate 8 (refine Qo S rfl rfl rfl rfl (Ka hb3) rfl ?_ rfl;clear S;intro a S)
       refine Gv S rfl (Qf hb3 (S.tm rfl) rfl) rfl fun a S=>Jb ?_
       replace S:=S.n0.k5 0 11 12 13 34 rfl
       exact Tn (⟨false,h,S.nf [] rfl (subR rfl)⟩)
     clear S h;rintro a w6 ⟨x1,h,S⟩;rw [hj2] at h;clear hj2 j2
     refine Tn (Fc h (S.tm rfl) (fun hb4 h=>?_) (fun hb4 h=>?_))
     ·refine Fr (Vk S rfl rfl fun a S=>Dl (wp_ret (Gg (Ek (Ek (Gg (Ek ?_)))))))
      refine Ek ?_
      obtain rfl:=Option.some.inj h
      exact Fd S results18 rfl rfl
     ·exact wp_skip (Im (Tn (Fg (Vq S Gw rfl rfl rfl fun a S=>Vm S rfl rfl fun a S=>Dl (⟨ys1,⟨i1 + 1,⟨_,(hd1).trans (List.append_cons _ _ _),by simp [hi1]⟩,h,S.nf [] rfl ⟨rfl,rfl,rfl,(congrArg (fun z=>some (Value.int .i64 z)) (Iw hd1 hi1 (Kh Ae))),trivial⟩⟩,Nat.lt_succ_self _⟩)))))
  clear S h;rintro a w2 ⟨h,S⟩;rw [hj1] at h;clear hj1 j1
  refine Tn (Fs (Fr (Vm S rfl rfl fun a S=>lv S (Gn Pn (S.tm rfl) (Gk Ae)) rfl fun a S=>lv S (Rm rfl) rfl fun a S=>Dl ?_)))
  replace S:=S.k4 0 36 37 38 rfl
  obtain ⟨j3,hj3,h⟩:=Fk h
  refine Fa (fun a w'=>j3 = some r ∧ Sx w [] nov [] [] 49 a w') ?_ ?_
  ·refine wp_block (Hs (fun (ys2 : List Eg) a w'=>∃ i2 : Nat,(∃ dn,Ad = dn ++ ys2 ∧ dn.length = i2) ∧ Jv Ad j3 ys2 i2 = some r ∧ Sx w [] nov [] [(0,Ab),(36,Ab),(37,iV (Ad.length : Int)),(38,iV (i2 : Int))] 49 a w') List.length Ad ⟨0,⟨[],rfl,rfl⟩,h,S.nf [] rfl (subR rfl)⟩ ?_)
   clear S h;rintro ys2 a w11 ⟨i2,⟨dn,hd2,hi2⟩,h,S⟩
   cases ys2 with
   | nil =>
    rw [Jv.eq_1] at h
    refine Fr (Vb S Fp rfl rfl rfl fun a S=>Ld ?_)
    replace S:=S.k5 0 36 37 38 39 rfl
    exact Tn (Fs (wp_cond_false ((S.tm rfl).trans (congrArg Value.bool (Jq hd2 hi2))) (wp_exit (Ew (Ew (Hl (Tn (⟨h,S.nf [] rfl trivial⟩))))))))
   | cons y2 ys2 =>
    rw [Jv.eq_2] at h
    refine Fr (Vb S Fp rfl rfl rfl fun a S=>Ld ?_)
    replace S:=S.k5 0 36 37 38 39 rfl
    refine Tn (Fs (wp_cond_true ((S.tm rfl).trans (congrArg Value.bool (Iv hd2 hi2))) (wp_skip (Tn (Fs (wp_block (Fr (Vm S rfl rfl ?_))))))));clear S;intro a S
    obtain ⟨b5,o4,hm4,hr5⟩:=Fv (a:=a) (x:=.tmp 36) (y:=.tmp 38) (ty:=0) Pn Ae (Js hd2 hi2) rfl (S.tm rfl) (S.tm rfl)
    refine lv S (hr5 _) rfl ?_;clear S;intro a S
    clear hr5
    refine lv S (Gh isAgg101 sizeOf101 (off:=o4) (o:=0) (part:=(Eg.enc y2)) rfl rfl (S.tm rfl) (hm4.at S.emb0)) rfl fun a S=>Iz S zeroValue101 (cs:=[sV An,iV 0,iV 0,iV 0,sV An,sV An,sV An,iV 0,iV 0,sV An,iV 0]) rfl rfl ?_;clear S;intro a w13 b6 hz2 hk8 S
    refine Va S rfl rfl fun a S=>Ft S (S.tm rfl) (S.tm rfl) (i:=0) (off:=0) rfl sizeOf101 (vs:=(Eg.enc y2)) rfl rfl rfl rfl ?_;clear S;intro w14 hk9 S
    refine Dz (Vm S rfl rfl fun a S=>Vm S rfl rfl ?_);clear S;intro a S
    obtain ⟨hc2,h⟩:=Jc h
    obtain ⟨v4,hs1,hr6⟩:=PC (a:=a) (x:=.tmp 43) (y':=.tmp 44) (ty:=34) Pn Ae (S.tm rfl) (S.tm rfl) hc2
    refine lv S (hr6 _) rfl ?_;clear S;intro a S
    clear hr6
    refine lv S (Tr (us:=#[]) (xs:=[].toArray) (ys:=[.tmp 7].toArray) (by simp) (evA ⟨(S.tm rfl),trivial⟩ (vs:=[.pointer (some ⟨b6,0,none⟩)]))) rfl fun a S=>Er S (fun _=>Ei (vs:=[v4,.func (.func 40) #[] #[.pointer (some ⟨b6,0,none⟩)]]) ⟨(S.tm rfl),(S.tm rfl),trivial⟩ call39) (Rx _ v4 (cut Ad 0 (i2 : Int)) (hs1.mono (S.le_arg Ez)) b6 y2 (S.blk_view (i:=0) rfl ((Ik (e':=.blk b6 (Eg.enc y2) 101)) _ rfl)) _ rfl) rfl ?_;clear S;intro v5 a w15 hv4 hk10 hn4 S
    subst hv4
    refine Ld ?_
    replace S:=S.n0.k5 0 36 37 38 47 rfl
    refine Tn (Fc h (S.tm rfl) (fun hb5 h=>?_) (fun hb5 h=>?_))
    ·refine Fr (Vk S rfl rfl fun a S=>Dl (wp_ret (Gg (Ek (Ek (Gg (Ek ?_)))))))
     refine Ek ?_
     obtain rfl:=Option.some.inj h
     exact Fd S results18 rfl rfl
    ·exact wp_skip (Im (Tn (Fg (Vq S Gw rfl rfl rfl fun a S=>Vm S rfl rfl fun a S=>Dl (⟨ys2,⟨i2 + 1,⟨_,(hd2).trans (List.append_cons _ _ _),by simp [hi2]⟩,h,S.nf [] rfl ⟨rfl,rfl,rfl,(congrArg (fun z=>some (Value.int .i64 z)) (Iw hd2 hi2 (Kh Ae))),trivial⟩⟩,Nat.lt_succ_self _⟩)))))
  clear S h;rintro a w12 ⟨h,S⟩;rw [hj3] at h;clear hj3 j3
  refine Tn (Fr (Vk S rfl rfl fun a S=>Dl (wp_ret ?_)))
  obtain rfl:=Option.some.inj h
  exact Fd S results18 rfl rfl
theorem DM (w : World) (O : Nat) (Aa : Value) (Aq : List Int) (Ap : Slc (view w [O]) 1 Aa (Aq.map eInt)) (Al : Int) (Az : (LEnt.blk O [Aa,iV Al] 25).holds w) (Bu : Int) (r : (List Eg) × Int) (h : Sj Aq Al Bu = some r) :
    Calls prog 5 [.pointer (some ⟨O,0,none⟩),iV Bu].toArray w (Ret w [O] fun τ v w'=>(LEnt.blk O [Aa,iV r.2] 25).holds w' ∧ Ve τ 101 11 v r.1.length (r.1.flatMap Eg.enc)):=by
 refine Nb [O] [.blk O [Aa,iV Al] 25] func5 rfl ntmps5 rfl (fun e he=>by simp only [List.mem_singleton] at he;subst he;exact Az) (by simp [fps,LEnt.fp]) (by simp [fps,LEnt.fp]) fun a S=>?_
 unfold Sj at h
 replace S:=(S.nl [.blk O [Aa,iV Al] 25] [true] rfl).k2 0 1 rfl
 refine Fr (Vk S rfl rfl fun a S=>Dl (Fs (Fr (lv S (Rm rfl) rfl fun a S=>Dl ?_))))
 replace S:=S.k3 0 1 6 rfl
 obtain ⟨j1,hj1,h⟩:=Fk h
 refine Fa (fun a w'=>∃ x1 : Int,∃ φ1 : View,j1 x1 = some r ∧ View.le nov φ1 ∧ Sx w [O] φ1 [.blk O [Aa,iV x1] 25] [] 16 a w') ?_ ?_
 ·refine wp_block (Hs (fun (m1 : Nat) a w'=>∃ x1 : Int,∃ x2 : Int,∃ φ1 : View,Ky Aq Bu j1 m1 x1 x2 = some r ∧ View.le nov φ1 ∧ Sx w [O] φ1 [.blk O [Aa,iV x1] 25] [(0,.pointer (some ⟨O,0,none⟩)),(1,iV Bu),(6,iV x2)] 16 a w') id 7 ⟨Al,0,nov,h,View.le_refl _,S.nf [true] rfl (subR rfl)⟩ ?_)
  clear S h;rintro m1 a w1 ⟨x1,x2,φ1,h,hl1,S⟩
  cases m1 with
  | zero=>rw [Ky.eq_1] at h;cases h
  | succ m1 =>
   rw [Ky.eq_2] at h
   refine Fr (Vq S Fp rfl rfl rfl fun a S=>Dl (Fs (Fc h (S.tm rfl) (fun hb1 h=>?_) (fun hb1 h=>?_))))
   ·refine wp_skip (Tn (Fs (wp_block (Fr (Vm S rfl rfl fun a S=>Vm S rfl rfl ?_)))));clear S;intro a S
    obtain ⟨r1,hr1,h⟩:=Ga h
    have hz1:=S.keep.size
    refine Ir 0 S (b:=O) rfl rfl (fun _=>.blk O [Aa,iV r1.2] 25) (fun _=>Ei (vs:=[.pointer (some ⟨O,0,none⟩),iV Bu]) ⟨(S.tm rfl),(S.tm rfl),trivial⟩ call17) (IR _ O Aa Aq (Ap.mono (S.le_arg (Jr (i:=0) (e:=.blk O [Aa,iV x1] 25) rfl))) x1 (S.holds _ (List.mem_of_getElem? (i:=0) rfl)) Bu _ hr1) rfl (fun _ _ _ h=>⟨h.1,fun _ hc=>by cases hc;rfl⟩) ?_;clear S;intro v1 a w3 hv1 hk1 hn1 S
    replace hv1:=hv1.2
    obtain ⟨φ2,hl2,hm1,S⟩:=S.see' hn1 hz1
    have hs1:=hv1.mono hm1
    refine Va S rfl rfl fun a S=>Dz (Vm S rfl rfl ?_);clear S;intro a S
    obtain ⟨r2,hr2,h⟩:=Ga h
    refine Er S (fun _=>Ei (vs:=[v1]) ⟨(S.tm rfl),trivial⟩ call18) (BY _ v1 r1.1 ((Hn Eg.enc_ok hs1).mono (S.le_new Ez)) _ hr2) rfl ?_;clear S;intro v2 a w4 hv2 hk2 hn2 S
    subst hv2
    refine Vq S Jn rfl rfl rfl fun a S=>Dl (Fc h (S.tm rfl) (fun hb2 h=>?_) (fun hb2 h=>?_))
    ·refine Fr (Vm S rfl rfl fun a S=>Va S rfl rfl fun a S=>Dl (wp_ret (Gg (Ek (Ek (Gg ?_))))))
     refine Ek (Ek ?_)
     obtain rfl:=Option.some.inj h
     exact Fd S results5 rfl ⟨(S.holds _ (List.mem_of_getElem? (i:=0) rfl)),((hs1).mono S.le_newer)⟩
    ·exact wp_skip (Im (Tn (Fg (Vq S Gw rfl rfl rfl fun a S=>Vm S rfl rfl fun a S=>Dl (⟨m1,⟨r1.2,W (x2 + 1),φ2,h,(View.le_trans hl1 hl2),S.nf [true] rfl ⟨rfl,rfl,rfl,trivial⟩⟩,Nat.lt_succ_self _⟩)))))
   ·exact wp_exit (Ew (Ew (Hl (Tn (⟨x1,φ1,h,hl1,S.nf [true] rfl trivial⟩)))))
 clear S h;rintro a w2 ⟨x1,φ1,h,hl1,S⟩;rw [hj1] at h;clear hj1 j1
 refine Tn (Fr (Vk S rfl rfl fun a S=>Dl (wp_ret ?_)))
 obtain rfl:=Option.some.inj h
 exact Fd S results5 rfl ⟨(S.holds _ (List.mem_of_getElem? (i:=0) rfl)),(Ug _ _ _)⟩
theorem IS (w : World) (s c : ByteArray) (r : ByteArray) (h : Xo s c = some r) : Calls prog 136 [.string s,.string c].toArray w (Ret w [] fun _ v _=>v = .string r):=by
  unfold Xo at h
  obtain ⟨h1,h⟩:=Jc h
  obtain ⟨h2,h⟩:=Jc h
  obtain ⟨h3,h⟩:=Jc h
  obtain rfl:=Option.some.inj h
  exact NN (Any.strings_Trim_laid Tryz.lays160 (by kernel_rfl) s c w (by simpa using h1) (by simpa using h2) (fun j b hb=>by simpa using List.all_eq_true.1 h3 b (List.mem_of_getElem? hb)))
theorem Jp (w : World) (Aw : ByteArray) (r : Bool) (h : Gy Aw = some r) :
    Calls prog 107 [sV Aw].toArray w (Ret w [] fun _ v _=>v = bV r):=by
 refine Fe func107 rfl ntmps107 rfl fun a S=>?_
 unfold Gy at h
 replace S:=S.k1 0 rfl
 refine Fr (Vk S rfl rfl fun a S=>Dz (Vm S rfl rfl fun a S=>Vu S (BL underlying9) rfl rfl fun a S=>Vq S Re rfl rfl rfl fun a S=>Vm S rfl rfl ?_));clear S;intro a S
 refine Io 4 (fun a w'=>Keep [] w w' ∧ Sx w [] nov [] [(0,sV Aw),(10,bV ((decide (1 ≤ (Aw.size : Int))) && (decide ((Aw.size : Int) ≤ 40))))] 26 a w') ?_ ?_
 ·rcases Bool.eq_false_or_eq_true (decide (1 ≤ (Aw.size : Int))) with hb1 | hb1
  ·exact Em S rfl rfl rfl hb1 (Vm S rfl rfl fun a S=>Em S rfl rfl rfl hb1 (Vu S (BL underlying9) rfl rfl fun a S=>Em S rfl rfl rfl hb1 (Vq S Vd rfl rfl rfl fun a S=>lv S (Ii hb1 (S.tm rfl) (S.tm rfl)) rfl fun a S=>Dl (⟨Keep.refl _ _,S.nf [] rfl (subR rfl)⟩))))
  ·iterate 3 (refine Hk S rfl rfl rfl (Ka hb1) rfl ?_ rfl;clear S;intro a S)
   exact lv S (Ij (decide ((Aw.size : Int) ≤ 40)) hb1 (S.tm rfl) rfl) rfl fun a S=>Dl (⟨Keep.refl _ _,S.nf [] rfl (subR rfl)⟩)
 clear S;rintro a w1 ⟨hk1,S⟩
 refine Vm S rfl rfl ?_;clear S;intro a S
 obtain ⟨j1,hj1,h⟩:=Fk h
 refine Io 4 (fun a w'=>∃ c1,j1 c1 = some r ∧ Keep [] w1 w' ∧ Sx w [] nov [] [(0,sV Aw),(15,bV c1)] 26 a w') ?_ ?_
 ·rcases Bool.eq_false_or_eq_true ((decide (1 ≤ (Aw.size : Int))) && (decide ((Aw.size : Int) ≤ 40))) with hb2 | hb2
  ·replace h:=Rz h hb2
   refine Em S rfl rfl rfl hb2 (Vm S rfl rfl fun a S=>Em S rfl rfl rfl hb2 ?_)
   obtain ⟨hc1,h⟩:=Jc h
   exact lv S (Zl underlying9 (S.tm rfl) rfl hc1) rfl fun a S=>Em S rfl rfl rfl hb2 (Vq S Re rfl rfl rfl fun a S=>lv S (Ii hb2 (S.tm rfl) (S.tm rfl)) rfl fun a S=>Dl (⟨_,h,Keep.refl _ _,S.nf [] rfl (subR rfl)⟩))
  ·replace h:=Sa h hb2
   iterate 3 (refine Hk S rfl rfl rfl (Ka hb2) rfl ?_ rfl;clear S;intro a S)
   exact Vq S (Ij true hb2) rfl rfl rfl fun a S=>Dl (⟨_,h,Keep.refl _ _,S.nf [] rfl (subR rfl)⟩)
 clear S h;rintro a w2 ⟨c1,h,hk2,S⟩;rw [hj1] at h;clear hj1 j1
 refine Vm S rfl rfl ?_;clear S;intro a S
 obtain ⟨j2,hj2,h⟩:=Fk h
 refine Io 4 (fun a w'=>∃ c2,j2 c2 = some r ∧ Keep [] w2 w' ∧ Sx w [] nov [] [(0,sV Aw),(20,bV c2)] 26 a w') ?_ ?_
 ·rcases Bool.eq_false_or_eq_true c1 with hb3 | hb3
  ·replace h:=Rz h hb3
   refine Em S rfl rfl rfl hb3 (Vm S rfl rfl fun a S=>Em S rfl rfl rfl hb3 ?_)
   obtain ⟨hc2,h⟩:=Jc h
   exact lv S (Zl underlying9 (S.tm rfl) rfl hc2) rfl fun a S=>Em S rfl rfl rfl hb3 (Vq S Vd rfl rfl rfl fun a S=>lv S (Ii hb3 (S.tm rfl) (S.tm rfl)) rfl fun a S=>Dl (⟨_,h,Keep.refl _ _,S.nf [] rfl (subR rfl)⟩))
  ·replace h:=Sa h hb3
   iterate 3 (refine Hk S rfl rfl rfl (Ka hb3) rfl ?_ rfl;clear S;intro a S)
   exact Vq S (Ij true hb3) rfl rfl rfl fun a S=>Dl (⟨_,h,Keep.refl _ _,S.nf [] rfl (subR rfl)⟩)
 clear S h;rintro a w3 ⟨c2,h,hk3,S⟩;rw [hj2] at h;clear hj2 j2
 refine Vm S rfl rfl ?_;clear S;intro a S
 obtain ⟨j3,hj3,h⟩:=Fk h
 refine Io 4 (fun a w'=>∃ c3,j3 c3 = some r ∧ Keep [] w3 w' ∧ Sx w [] nov [] [(25,bV c3)] 26 a w') ?_ ?_
 ·rcases Bool.eq_false_or_eq_true c2 with hb4 | hb4
  ·replace h:=Rz h hb4
   refine Em S rfl rfl rfl hb4 (Vm S rfl rfl fun a S=>Em S rfl rfl rfl hb4 ?_)
   obtain ⟨r1,hr1,h⟩:=Ga h
   refine Er S (fun _=>Ei (vs:=[sV Aw,sV Je]) ⟨(S.tm rfl),rfl,trivial⟩ call136) (IS _ Aw Je _ hr1) rfl ?_;clear S;intro v1 a w5 hv1 hk4 hn1 S
   subst hv1
   exact Em S rfl rfl rfl hb4 (Vq S Wv rfl rfl rfl fun a S=>lv S (Ii hb4 (S.tm rfl) (S.tm rfl)) rfl fun a S=>Dl (⟨_,h,hk4,S.nf [] rfl ⟨rfl,trivial⟩⟩))
  ·replace h:=Sa h hb4
   iterate 3 (refine Hk S rfl rfl rfl (Ka hb4) rfl ?_ rfl;clear S;intro a S)
   exact Vq S (Ij true hb4) rfl rfl rfl fun a S=>Dl (⟨_,h,Keep.refl _ _,S.nf [] rfl ⟨rfl,trivial⟩⟩)
 clear S h;rintro a w4 ⟨c3,h,hk5,S⟩;rw [hj3] at h;clear hj3 j3
 refine Va S rfl rfl fun a S=>Dl (wp_ret ?_)
 obtain rfl:=Option.some.inj h
 exact Fd S results107 rfl rfl
theorem Gl (w : World) (Bb : Int) (Bt : Int) (Bk : Int) (r : Bool) (h : El Bb Bt Bk = r) :
    Calls prog 65 [iV Bb,iV Bt,iV Bk].toArray w (Ret w [] fun _ v _=>v = bV r):=by
 refine Fe func65 rfl ntmps65 rfl fun a S=>?_
 unfold El at h
 replace S:=S.k3 0 1 2 rfl
 refine Fr (Vk S rfl rfl fun a S=>Dz (Vm S rfl rfl fun a S=>Vm S rfl rfl fun a S=>Vb S Re rfl rfl rfl fun a S=>Vm S rfl rfl ?_));clear S;intro a S
 refine Io 4 (fun a w'=>Keep [] w w' ∧ Sx w [] nov [] [(14,bV ((decide (Bt ≤ Bb)) && (decide (Bb ≤ Bk))))] 15 a w') ?_ ?_
 ·rcases Bool.eq_false_or_eq_true (decide (Bt ≤ Bb)) with hb1 | hb1
  ·exact Em S rfl rfl rfl hb1 (Vm S rfl rfl fun a S=>Em S rfl rfl rfl hb1 (Vm S rfl rfl fun a S=>Em S rfl rfl rfl hb1 (Vb S Vd rfl rfl rfl fun a S=>lv S (Ii hb1 (S.tm rfl) (S.tm rfl)) rfl fun a S=>Dl (⟨Keep.refl _ _,S.nf [] rfl ⟨rfl,trivial⟩⟩))))
  ·iterate 3 (refine Hk S rfl rfl rfl (Ka hb1) rfl ?_ rfl;clear S;intro a S)
   exact lv S (Ij (decide (Bb ≤ Bk)) hb1 (S.tm rfl) rfl) rfl fun a S=>Dl (⟨Keep.refl _ _,S.nf [] rfl ⟨rfl,trivial⟩⟩)
 clear S;rintro a w1 ⟨hk1,S⟩
 refine Va S rfl rfl fun a S=>Dl (wp_ret ?_)
 subst h
 exact Fd S results65 rfl rfl
theorem EP (w : World) (Ar : Eu) (r : Int) (h : Pe Ar = some r) :
    Calls prog 113 [.agg (Eu.enc Ar).toArray].toArray w (Ret w [] fun _ v _=>v = iV r):=by
 refine Fe func113 rfl ntmps113 rfl fun a S=>?_
 unfold Pe at h
 replace S:=S.k1 0 rfl
 refine Fr (Mk S (S.tm rfl) (cs:=(Eu.enc Ar)) rfl rfl ?_);clear S;intro a w1 b1 hz1 hk1 S
 refine Vk S rfl rfl fun a S=>Dl (Fs (wp_block (Fr (Vf Yj S rfl rfl fun a S=>Vl isAgg9 0 S rfl rfl rfl rfl ?_))));clear S;intro a S
 obtain ⟨r1,hr1,h⟩:=Ga h
 refine Er S (fun _=>Ei (vs:=[sV Ar.Key]) ⟨(S.tm rfl),trivial⟩ call107) (Jp _ Ar.Key _ hr1) rfl ?_;clear S;intro v1 a w2 hv1 hk2 hn1 S
 subst hv1
 refine Vu S Ig rfl rfl fun a S=>Va S rfl rfl fun a S=>Dl (Fc h (S.tm rfl) (fun hb1 h=>?_) (fun hb1 h=>?_))
 ·refine Fr (Vk S rfl rfl fun a S=>Dl (wp_ret (Gg (Ek ?_))))
  obtain rfl:=Option.some.inj h
  exact Fd S results113 rfl rfl
 ·refine Fr (Vf NY S rfl rfl fun a S=>Vl isAgg3 0 S rfl rfl rfl rfl fun a S=>Er S (fun _=>Ei (vs:=[iV Ar.Stroke,iV 1,iV 5]) ⟨(S.tm rfl),rfl,rfl,trivial⟩ call65) (Gl _ Ar.Stroke 1 5 _ rfl) rfl ?_);clear S;intro v2 a w3 hv2 hk3 hn2 S
  subst hv2
  refine Vu S Ig rfl rfl fun a S=>Vm S rfl rfl fun a S=>Io 5 (fun a w'=>Keep [] w3 w' ∧ Sx w [] nov [.blk b1 (Eu.enc Ar) 38] [(1,.pointer (some ⟨b1,0,none⟩)),(18,bV ((!(El Ar.Stroke 1 5)) || (!(El Ar.Sex 0 2))))] 95 a w') ?_ ?_
  ·rcases Bool.eq_false_or_eq_true (!(El Ar.Stroke 1 5)) with hb2 | hb2
   ·iterate 4 (refine Hk S rfl rfl rfl (Ng hb2) rfl ?_ rfl;clear S;intro a S)
    exact lv S (Lk (!(El Ar.Sex 0 2)) hb2 (S.tm rfl) rfl) rfl fun a S=>Dl (⟨Keep.refl _ _,S.nf [true] rfl (subR rfl)⟩)
   ·refine Em S rfl rfl rfl hb2 (Vf fa_38_5 S rfl rfl fun a S=>Em S rfl rfl rfl hb2 (Vl isAgg3 0 S rfl rfl rfl rfl fun a S=>Em S rfl rfl rfl hb2 (Er S (fun _=>Ei (vs:=[iV Ar.Sex,iV 0,iV 2]) ⟨(S.tm rfl),rfl,rfl,trivial⟩ call65) (Gl _ Ar.Sex 0 2 _ rfl) rfl ?_)));clear S;intro v3 a w5 hv3 hk4 hn3 S
    subst hv3
    exact Em S rfl rfl rfl hb2 (Vu S Ig rfl rfl fun a S=>lv S (Ll hb2 (S.tm rfl) (S.tm rfl)) rfl fun a S=>Dl (⟨hk4,S.nf [true] rfl (subR rfl)⟩))
  clear S;rintro a w4 ⟨hk5,S⟩
  refine Va S rfl rfl fun a S=>Dl (Fc h (S.tm rfl) (fun hb3 h=>?_) (fun hb3 h=>?_))
  ·refine Fr (Vk S rfl rfl fun a S=>Dl (wp_ret (Gg (Ek ?_))))
   obtain rfl:=Option.some.inj h
   exact Fd S results113 rfl rfl
  ·refine Fr (Vf JG S rfl rfl fun a S=>Vl isAgg3 0 S rfl rfl rfl rfl fun a S=>Vq S Nt rfl rfl rfl fun a S=>Vm S rfl rfl fun a S=>Io 4 (fun a w'=>Keep [] w4 w' ∧ Sx w [] nov [.blk b1 (Eu.enc Ar) 38] [(1,.pointer (some ⟨b1,0,none⟩)),(27,bV ((!decide (Ar.Course = 25)) && (!decide (Ar.Course = 50))))] 95 a w') ?_ ?_)
   ·rcases Bool.eq_false_or_eq_true (!decide (Ar.Course = 25)) with hb4 | hb4
    ·exact Em S rfl rfl rfl hb4 (Vf JG S rfl rfl fun a S=>Em S rfl rfl rfl hb4 (Vl isAgg3 0 S rfl rfl rfl rfl fun a S=>Em S rfl rfl rfl hb4 (Vq S Nt rfl rfl rfl fun a S=>lv S (Ii hb4 (S.tm rfl) (S.tm rfl)) rfl fun a S=>Dl (⟨Keep.refl _ _,S.nf [true] rfl (subR rfl)⟩))))
    ·iterate 3 (refine Hk S rfl rfl rfl (Ka hb4) rfl ?_ rfl;clear S;intro a S)
     exact lv S (Ij (!decide (Ar.Course = 50)) hb4 (S.tm rfl) rfl) rfl fun a S=>Dl (⟨Keep.refl _ _,S.nf [true] rfl (subR rfl)⟩)
   clear S;rintro a w6 ⟨hk6,S⟩
   refine Vm S rfl rfl fun a S=>Io 5 (fun a w'=>Keep [] w6 w' ∧ Sx w [] nov [.blk b1 (Eu.enc Ar) 38] [(1,.pointer (some ⟨b1,0,none⟩)),(33,bV (((!decide (Ar.Course = 25)) && (!decide (Ar.Course = 50))) || (!(El Ar.Legs 1 4))))] 95 a w') ?_ ?_
   ·rcases Bool.eq_false_or_eq_true ((!decide (Ar.Course = 25)) && (!decide (Ar.Course = 50))) with hb5 | hb5
    ·iterate 4 (refine Hk S rfl rfl rfl (Ng hb5) rfl ?_ rfl;clear S;intro a S)
     exact lv S (Lk (!(El Ar.Legs 1 4)) hb5 (S.tm rfl) rfl) rfl fun a S=>Dl (⟨Keep.refl _ _,S.nf [true] rfl (subR rfl)⟩)
    ·refine Em S rfl rfl rfl hb5 (Vf GD S rfl rfl fun a S=>Em S rfl rfl rfl hb5 (Vl isAgg3 0 S rfl rfl rfl rfl fun a S=>Em S rfl rfl rfl hb5 (Er S (fun _=>Ei (vs:=[iV Ar.Legs,iV 1,iV 4]) ⟨(S.tm rfl),rfl,rfl,trivial⟩ call65) (Gl _ Ar.Legs 1 4 _ rfl) rfl ?_)));clear S;intro v4 a w8 hv4 hk7 hn4 S
     subst hv4
     exact Em S rfl rfl rfl hb5 (Vu S Ig rfl rfl fun a S=>lv S (Ll hb5 (S.tm rfl) (S.tm rfl)) rfl fun a S=>Dl (⟨hk7,S.nf [true] rfl (subR rfl)⟩))
   clear S;rintro a w7 ⟨hk8,S⟩
   refine Vm S rfl rfl fun a S=>Io 5 (fun a w'=>Keep [] w7 w' ∧ Sx w [] nov [.blk b1 (Eu.enc Ar) 38] [(1,.pointer (some ⟨b1,0,none⟩)),(39,bV ((((!decide (Ar.Course = 25)) && (!decide (Ar.Course = 50))) || (!(El Ar.Legs 1 4))) || (!(El Ar.Metres 25 1500))))] 95 a w') ?_ ?_
   ·rcases Bool.eq_false_or_eq_true (((!decide (Ar.Course = 25)) && (!decide (Ar.Course = 50))) || (!(El Ar.Legs 1 4))) with hb6 | hb6
    ·iterate 4 (refine Hk S rfl rfl rfl (Ng hb6) rfl ?_ rfl;clear S;intro a S)
     exact lv S (Lk (!(El Ar.Metres 25 1500)) hb6 (S.tm rfl) rfl) rfl fun a S=>Dl (⟨Keep.refl _ _,S.nf [true] rfl (subR rfl)⟩)
    ·refine Em S rfl rfl rfl hb6 (Vf NX S rfl rfl fun a S=>Em S rfl rfl rfl hb6 (Vl isAgg3 0 S rfl rfl rfl rfl fun a S=>Em S rfl rfl rfl hb6 (Er S (fun _=>Ei (vs:=[iV Ar.Metres,iV 25,iV 1500]) ⟨(S.tm rfl),rfl,rfl,trivial⟩ call65) (Gl _ Ar.Metres 25 1500 _ rfl) rfl ?_)));clear S;intro v5 a w10 hv5 hk9 hn5 S
     subst hv5
     exact Em S rfl rfl rfl hb6 (Vu S Ig rfl rfl fun a S=>lv S (Ll hb6 (S.tm rfl) (S.tm rfl)) rfl fun a S=>Dl (⟨hk9,S.nf [true] rfl (subR rfl)⟩))
   clear S;rintro a w9 ⟨hk10,S⟩
   refine Vm S rfl rfl fun a S=>Io 4 (fun a w'=>Keep [] w9 w' ∧ Sx w [] nov [.blk b1 (Eu.enc Ar) 38] [(1,.pointer (some ⟨b1,0,none⟩)),(44,bV (((((!decide (Ar.Course = 25)) && (!decide (Ar.Course = 50))) || (!(El Ar.Legs 1 4))) || (!(El Ar.Metres 25 1500))) || (decide (Ar.Young < 0))))] 95 a w') ?_ ?_
   ·rcases Bool.eq_false_or_eq_true ((((!decide (Ar.Course = 25)) && (!decide (Ar.Course = 50))) || (!(El Ar.Legs 1 4))) || (!(El Ar.Metres 25 1500))) with hb7 | hb7
    ·iterate 3 (refine Hk S rfl rfl rfl (Ng hb7) rfl ?_ rfl;clear S;intro a S)
     exact lv S (Lk (decide (Ar.Young < 0)) hb7 (S.tm rfl) rfl) rfl fun a S=>Dl (⟨Keep.refl _ _,S.nf [true] rfl (subR rfl)⟩)
    ·exact Em S rfl rfl rfl hb7 (Vf NZ S rfl rfl fun a S=>Em S rfl rfl rfl hb7 (Vl isAgg3 0 S rfl rfl rfl rfl fun a S=>Em S rfl rfl rfl hb7 (Vq S Fp rfl rfl rfl fun a S=>lv S (Ll hb7 (S.tm rfl) (S.tm rfl)) rfl fun a S=>Dl (⟨Keep.refl _ _,S.nf [true] rfl (subR rfl)⟩))))
   clear S;rintro a w11 ⟨hk11,S⟩
   refine Vm S rfl rfl fun a S=>Io 6 (fun a w'=>Keep [] w11 w' ∧ Sx w [] nov [.blk b1 (Eu.enc Ar) 38] [(1,.pointer (some ⟨b1,0,none⟩)),(51,bV ((((((!decide (Ar.Course = 25)) && (!decide (Ar.Course = 50))) || (!(El Ar.Legs 1 4))) || (!(El Ar.Metres 25 1500))) || (decide (Ar.Young < 0))) || (decide (Ar.Old < Ar.Young))))] 95 a w') ?_ ?_
   ·rcases Bool.eq_false_or_eq_true (((((!decide (Ar.Course = 25)) && (!decide (Ar.Course = 50))) || (!(El Ar.Legs 1 4))) || (!(El Ar.Metres 25 1500))) || (decide (Ar.Young < 0))) with hb8 | hb8
    ·iterate 5 (refine Hk S rfl rfl rfl (Ng hb8) rfl ?_ rfl;clear S;intro a S)
     exact lv S (Lk (decide (Ar.Old < Ar.Young)) hb8 (S.tm rfl) rfl) rfl fun a S=>Dl (⟨Keep.refl _ _,S.nf [true] rfl (subR rfl)⟩)
    ·refine Em S rfl rfl rfl hb8 (Vf NZ S rfl rfl fun a S=>Em S rfl rfl rfl hb8 (Vl isAgg3 0 S rfl rfl rfl rfl fun a S=>Em S rfl rfl rfl hb8 (Vf OA S rfl rfl fun a S=>Em S rfl rfl rfl hb8 (Vl isAgg3 0 S rfl rfl rfl rfl fun a S=>Em S rfl rfl rfl hb8 (Vb S Jz rfl rfl rfl fun a S=>lv S (Ll hb8 (S.tm rfl) (S.tm rfl)) rfl ?_)))));clear S;intro a S
     exact Dl (⟨Keep.refl _ _,S.nf [true] rfl (subR rfl)⟩)
   clear S;rintro a w12 ⟨hk12,S⟩
   refine Vm S rfl rfl fun a S=>Io 4 (fun a w'=>Keep [] w12 w' ∧ Sx w [] nov [.blk b1 (Eu.enc Ar) 38] [(1,.pointer (some ⟨b1,0,none⟩)),(56,bV (((((((!decide (Ar.Course = 25)) && (!decide (Ar.Course = 50))) || (!(El Ar.Legs 1 4))) || (!(El Ar.Metres 25 1500))) || (decide (Ar.Young < 0))) || (decide (Ar.Old < Ar.Young))) || (decide (120 < Ar.Old))))] 95 a w') ?_ ?_
   ·rcases Bool.eq_false_or_eq_true ((((((!decide (Ar.Course = 25)) && (!decide (Ar.Course = 50))) || (!(El Ar.Legs 1 4))) || (!(El Ar.Metres 25 1500))) || (decide (Ar.Young < 0))) || (decide (Ar.Old < Ar.Young))) with hb9 | hb9
    ·iterate 3 (refine Hk S rfl rfl rfl (Ng hb9) rfl ?_ rfl;clear S;intro a S)
     exact lv S (Lk (decide (120 < Ar.Old)) hb9 (S.tm rfl) rfl) rfl fun a S=>Dl (⟨Keep.refl _ _,S.nf [true] rfl (subR rfl)⟩)
    ·exact Em S rfl rfl rfl hb9 (Vf OA S rfl rfl fun a S=>Em S rfl rfl rfl hb9 (Vl isAgg3 0 S rfl rfl rfl rfl fun a S=>Em S rfl rfl rfl hb9 (Vq S Jz rfl rfl rfl fun a S=>lv S (Ll hb9 (S.tm rfl) (S.tm rfl)) rfl fun a S=>Dl (⟨Keep.refl _ _,S.nf [true] rfl (subR rfl)⟩))))
   clear S;rintro a w13 ⟨hk13,S⟩
   refine Va S rfl rfl fun a S=>Dl (Fc h (S.tm rfl) (fun hb10 h=>?_) (fun hb10 h=>?_))
   ·refine Fr (Vk S rfl rfl fun a S=>Dl (wp_ret (Gg (Ek ?_))))
    obtain rfl:=Option.some.inj h
    exact Fd S results113 rfl rfl
   ·refine Fr (Vf NX S rfl rfl fun a S=>Vl isAgg3 0 S rfl rfl rfl rfl fun a S=>Vf JG S rfl rfl fun a S=>Vl isAgg3 0 S rfl rfl rfl rfl ?_);clear S;intro a S
    obtain ⟨hc1,h⟩:=Jc h
    refine lv S (CP (S.tm rfl) (S.tm rfl) (Wg hc1)) rfl fun a S=>Vq S Nt rfl rfl rfl fun a S=>Va S rfl rfl fun a S=>Dl (Fc h (S.tm rfl) (fun hb11 h=>?_) (fun hb11 h=>?_))
    ·refine Fr (Vk S rfl rfl fun a S=>Dl (wp_ret (Gg (Ek ?_))))
     obtain rfl:=Option.some.inj h
     exact Fd S results113 rfl rfl
    ·refine Fs (Fr (Vf NY S rfl rfl fun a S=>Vl isAgg3 0 S rfl rfl rfl rfl fun a S=>Vq S Jn rfl rfl rfl fun a S=>Vm S rfl rfl fun a S=>Io 4 (fun a w'=>Keep [] w13 w' ∧ Sx w [] nov [.blk b1 (Eu.enc Ar) 38] [(1,.pointer (some ⟨b1,0,none⟩)),(72,bV ((decide (Ar.Stroke = 5)) && (decide (Ar.Legs = 1))))] 95 a w') ?_ ?_))
     ·rcases Bool.eq_false_or_eq_true (decide (Ar.Stroke = 5)) with hb12 | hb12
      ·exact Em S rfl rfl rfl hb12 (Vf GD S rfl rfl fun a S=>Em S rfl rfl rfl hb12 (Vl isAgg3 0 S rfl rfl rfl rfl fun a S=>Em S rfl rfl rfl hb12 (Vq S Jn rfl rfl rfl fun a S=>lv S (Ii hb12 (S.tm rfl) (S.tm rfl)) rfl fun a S=>Dl (⟨Keep.refl _ _,S.nf [true] rfl (subR rfl)⟩))))
      ·iterate 3 (refine Hk S rfl rfl rfl (Ka hb12) rfl ?_ rfl;clear S;intro a S)
       exact lv S (Ij (decide (Ar.Legs = 1)) hb12 (S.tm rfl) rfl) rfl fun a S=>Dl (⟨Keep.refl _ _,S.nf [true] rfl (subR rfl)⟩)
     clear S;rintro a w14 ⟨hk14,S⟩
     refine Vm S rfl rfl ?_;clear S;intro a S
     obtain ⟨j1,hj1,h⟩:=Fk h
     refine Io 8 (fun a w'=>∃ c1,j1 c1 = some r ∧ Keep [] w14 w' ∧ Sx w [] nov [.blk b1 (Eu.enc Ar) 38] [(1,.pointer (some ⟨b1,0,none⟩)),(81,bV c1)] 95 a w') ?_ ?_
     ·rcases Bool.eq_false_or_eq_true ((decide (Ar.Stroke = 5)) && (decide (Ar.Legs = 1))) with hb13 | hb13
      ·replace h:=Rz h hb13
       refine Em S rfl rfl rfl hb13 (Vf NX S rfl rfl fun a S=>Em S rfl rfl rfl hb13 (Vl isAgg3 0 S rfl rfl rfl rfl fun a S=>Em S rfl rfl rfl hb13 (Vf JG S rfl rfl fun a S=>Em S rfl rfl rfl hb13 (Vl isAgg3 0 S rfl rfl rfl rfl fun a S=>Em S rfl rfl rfl hb13 (Vu S (AI rfl) rfl rfl fun a S=>Em S rfl rfl rfl hb13 ?_)))))
       obtain ⟨hc2,h⟩:=Jc h
       exact lv S (CP (S.tm rfl) (S.tm rfl) (Wg hc2)) rfl fun a S=>Em S rfl rfl rfl hb13 (Vq S Nt rfl rfl rfl fun a S=>lv S (Ii hb13 (S.tm rfl) (S.tm rfl)) rfl fun a S=>Dl (⟨_,h,Keep.refl _ _,S.nf [true] rfl (subR rfl)⟩))
      ·replace h:=Sa h hb13
       iterate 7 (refine Hk S rfl rfl rfl (Ka hb13) rfl ?_ rfl;clear S;intro a S)
       exact Vq S (Ij true hb13) rfl rfl rfl fun a S=>Dl (⟨_,h,Keep.refl _ _,S.nf [true] rfl (subR rfl)⟩)
     clear S h;rintro a w15 ⟨c1,h,hk15,S⟩;rw [hj1] at h;clear hj1 j1
     refine Va S rfl rfl fun a S=>Dl ?_
     obtain ⟨j2,hj2,h⟩:=Fk h
     refine Fa (fun a w'=>∃ x1 : Bool,j2 x1 = some r ∧ Sx w [] nov [.blk b1 (Eu.enc Ar) 38] [(64,bV x1)] 95 a w') ?_ ?_
     ·refine Fc h (S.tm rfl) (fun hb14 h=>?_) (fun hb14 h=>?_)
      ·exact wp_skip (Tn (⟨c1,h,S.nf [true] rfl ⟨rfl,trivial⟩⟩))
      ·refine Fg (Vf NY S rfl rfl fun a S=>Vl isAgg3 0 S rfl rfl rfl rfl fun a S=>Vq S Jn rfl rfl rfl fun a S=>Vm S rfl rfl fun a S=>Io 4 (fun a w'=>Keep [] w15 w' ∧ Sx w [] nov [.blk b1 (Eu.enc Ar) 38] [(1,.pointer (some ⟨b1,0,none⟩)),(89,bV ((decide (Ar.Stroke = 5)) && (decide (1 < Ar.Legs))))] 95 a w') ?_ ?_)
       ·rcases Bool.eq_false_or_eq_true (decide (Ar.Stroke = 5)) with hb15 | hb15
        ·exact Em S rfl rfl rfl hb15 (Vf GD S rfl rfl fun a S=>Em S rfl rfl rfl hb15 (Vl isAgg3 0 S rfl rfl rfl rfl fun a S=>Em S rfl rfl rfl hb15 (Vq S Jz rfl rfl rfl fun a S=>lv S (Ii hb15 (S.tm rfl) (S.tm rfl)) rfl fun a S=>Dl (⟨Keep.refl _ _,S.nf [true] rfl (subR rfl)⟩))))
        ·iterate 3 (refine Hk S rfl rfl rfl (Ka hb15) rfl ?_ rfl;clear S;intro a S)
         exact lv S (Ij (decide (1 < Ar.Legs)) hb15 (S.tm rfl) rfl) rfl fun a S=>Dl (⟨Keep.refl _ _,S.nf [true] rfl (subR rfl)⟩)
       clear S;rintro a w17 ⟨hk16,S⟩
       refine Vm S rfl rfl fun a S=>Io 4 (fun a w'=>Keep [] w17 w' ∧ Sx w [] nov [.blk b1 (Eu.enc Ar) 38] [(94,bV (((decide (Ar.Stroke = 5)) && (decide (1 < Ar.Legs))) && (!decide (Ar.Legs = 4))))] 95 a w') ?_ ?_
       ·rcases Bool.eq_false_or_eq_true ((decide (Ar.Stroke = 5)) && (decide (1 < Ar.Legs))) with hb16 | hb16
        ·exact Em S rfl rfl rfl hb16 (Vf GD S rfl rfl fun a S=>Em S rfl rfl rfl hb16 (Vl isAgg3 0 S rfl rfl rfl rfl fun a S=>Em S rfl rfl rfl hb16 (Vq S Nt rfl rfl rfl fun a S=>lv S (Ii hb16 (S.tm rfl) (S.tm rfl)) rfl fun a S=>Dl (⟨Keep.refl _ _,S.nf [true] rfl ⟨rfl,trivial⟩⟩))))
        ·iterate 3 (refine Hk S rfl rfl rfl (Ka hb16) rfl ?_ rfl;clear S;intro a S)
         exact lv S (Ij (!decide (Ar.Legs = 4)) hb16 (S.tm rfl) rfl) rfl fun a S=>Dl (⟨Keep.refl _ _,S.nf [true] rfl ⟨rfl,trivial⟩⟩)
       clear S;rintro a w18 ⟨hk17,S⟩
       exact Va S rfl rfl fun a S=>Dl (⟨(((decide (Ar.Stroke = 5)) && (decide (1 < Ar.Legs))) && (!decide (Ar.Legs = 4))),h,S.nf [true] rfl ⟨rfl,trivial⟩⟩)
     clear S h;rintro a w16 ⟨x1,h,S⟩;rw [hj2] at h;clear hj2 j2
     refine Tn (Fc h (S.tm rfl) (fun hb17 h=>?_) (fun hb17 h=>?_))
     ·refine Fr (Vk S rfl rfl fun a S=>Dl (wp_ret (Gg (Ek ?_))))
      obtain rfl:=Option.some.inj h
      exact Fd S results113 rfl rfl
     ·refine wp_skip (Im (Tn (Fr (Vk S rfl rfl fun a S=>Dl (wp_ret ?_)))))
      obtain rfl:=Option.some.inj h
      exact Fd S results113 rfl rfl
theorem DN (w : World) (Ac : Eu) (Bz : Nat) (Bj : Eu) (Ca : (view w []) Bz = some (.cells [sV Bj.Key,iV Bj.Metres,iV Bj.Stroke,iV Bj.Course,iV Bj.Legs,iV Bj.Sex,iV Bj.Young,iV Bj.Old].toArray 38 (0,0))) (r : Bool) (h : Ux Ac Bj = r) :
    Calls prog 115 [.agg (Eu.enc Ac).toArray,.pointer (some ⟨Bz,0,none⟩)].toArray w (Ret w [] fun _ v _=>v = bV r):=by
 refine Fe func115 rfl ntmps115 rfl fun a S=>?_
 unfold Ux at h
 replace S:=S.k2 0 1 rfl
 refine Fr (Mk S (S.tm rfl) (cs:=(Eu.enc Ac)) rfl rfl ?_);clear S;intro a w1 b1 hz1 hk1 S
 refine Vk S rfl rfl fun a S=>Dz (Vf Yj S rfl rfl fun a S=>Vl isAgg9 0 S rfl rfl rfl rfl fun a S=>Vf Yj S rfl rfl fun a S=>lv S (Hw isAgg9 (off:=0) (o:=0) (S.tm rfl) ((Pl Ca).at S.emb0) rfl) rfl fun a S=>Vb S Wv rfl rfl rfl fun a S=>Va S rfl rfl ?_);clear S;intro a S
 refine Dl (wp_ret ?_)
 subst h
 exact Fd S results115 rfl rfl
theorem Ub (w : World) (Au : Value) (Aw : List Eu) (Be : Slc (view w []) 8 Au (Aw.map Eu.enc)) (Ay : Nat) (Av : Eu) (Bg : (view w []) Ay = some (.cells [sV Av.Key,iV Av.Metres,iV Av.Stroke,iV Av.Course,iV Av.Legs,iV Av.Sex,iV Av.Young,iV Av.Old].toArray 38 (0,0))) (r : Int) (h : Lt Aw Av = r) :
    Calls prog 84 [Au,.func (.func 115) #[] #[.pointer (some ⟨Ay,0,none⟩)]].toArray w (Ret w [] fun _ v _=>v = iV r):=by
 refine Fe func84 rfl ntmps84 rfl fun a S=>?_
 unfold Lt at h
 replace S:=S.k2 0 1 rfl
 refine Fr (Vk S rfl rfl fun a S=>Dl (Fs (Fr (Vm S rfl rfl fun a S=>lv S (Gn Yq (S.tm rfl) (Gk Be)) rfl fun a S=>lv S (Rm rfl) rfl ?_))));clear S;intro a S
 refine Dl ?_
 replace S:=S.k4 0 1 7 8 rfl
 obtain ⟨j1,hj1,h⟩:=Fk h
 refine Fa (fun a w'=>j1 = r ∧ Sx w [] nov [] [] 19 a w') ?_ ?_
 ·refine wp_block (Hs (fun (ys1 : List Eu) a w'=>∃ i1 : Nat,(∃ dn,Aw = dn ++ ys1 ∧ dn.length = i1) ∧ Gu Av j1 ys1 i1 = r ∧ Sx w [] nov [] [(0,Au),(1,.func (.func 115) #[] #[.pointer (some ⟨Ay,0,none⟩)]),(7,iV (Aw.length : Int)),(8,iV (i1 : Int))] 19 a w') List.length Aw ⟨0,⟨[],rfl,rfl⟩,h,S.nf [] rfl (subR rfl)⟩ ?_)
  clear S h;rintro ys1 a w1 ⟨i1,⟨dn,hd1,hi1⟩,h,S⟩
  cases ys1 with
  | nil =>
   rw [Gu.eq_1] at h
   refine Fr (Vb S Fp rfl rfl rfl fun a S=>Ld ?_)
   replace S:=S.k5 0 1 7 8 9 rfl
   exact Tn (Fs (wp_cond_false ((S.tm rfl).trans (congrArg Value.bool (Jq hd1 hi1))) (wp_exit (Ew (Ew (Hl (Tn (⟨h,S.nf [] rfl trivial⟩))))))))
  | cons y1 ys1 =>
   rw [Gu.eq_2] at h
   refine Fr (Vb S Fp rfl rfl rfl fun a S=>Ld ?_)
   replace S:=S.k5 0 1 7 8 9 rfl
   refine Tn (Fs (wp_cond_true ((S.tm rfl).trans (congrArg Value.bool (Iv hd1 hi1))) (wp_skip (Tn (Fs (wp_block (Fr (Vm S rfl rfl fun a S=>Va S rfl rfl ?_))))))));clear S;intro a S
   refine Dl (Fs (Fg ?_))
   iterate 3 (refine Vm S rfl rfl ?_;clear S;intro a S)
   obtain ⟨b1,o1,hm1,hr1⟩:=Fv (a:=a) (x:=.tmp 12) (y:=.tmp 13) (ty:=0) Yq Be (Js hd1 hi1) rfl (S.tm rfl) (S.tm rfl)
   refine lv S (hr1 _) rfl ?_;clear S;intro a S
   clear hr1
   refine lv S (Gh isAgg38 sizeOf38 (off:=o1) (o:=0) (part:=(Eu.enc y1)) rfl rfl (S.tm rfl) (hm1.at S.emb0)) rfl fun a S=>Er S (fun _=>Te (cap:=[.pointer (some ⟨Ay,0,none⟩)]) (S.tm rfl) (vs:=[.agg (Eu.enc y1).toArray]) ⟨(S.tm rfl),trivial⟩ call115) (DN _ y1 Ay Av ((S.le_arg Ez) _ _ Bg) _ rfl) rfl ?_;clear S;intro v1 a w3 hv1 hk1 hn1 S
   subst hv1
   refine Dl (Fc h (S.tm rfl) (fun hb1 h=>?_) (fun hb1 h=>?_))
   ·refine Fr (Vm S rfl rfl fun a S=>Va S rfl rfl fun a S=>Ld ?_)
    replace S:=S.k1 4 rfl
    refine Tn (wp_ret (Gg (Ek (Ek (Gg (Ek (Ek ?_)))))))
    subst h
    exact Fd S results84 rfl rfl
   ·exact wp_skip (Im (Tn (Fg (Vq S Gw rfl rfl rfl fun a S=>Vm S rfl rfl fun a S=>Dl (⟨ys1,⟨i1 + 1,⟨_,(hd1).trans (List.append_cons _ _ _),by simp [hi1]⟩,h,S.nf [] rfl ⟨rfl,rfl,rfl,(congrArg (fun z=>some (Value.int .i64 z)) (Iw hd1 hi1 (Kh Be))),trivial⟩⟩,Nat.lt_succ_self _⟩)))))
 clear S h;rintro a w2 ⟨h,S⟩;rw [hj1] at h;clear hj1 j1
 refine Tn (Fr (Vk S rfl rfl fun a S=>Dl (wp_ret ?_)))
 subst h
 exact Fd S results84 rfl rfl
theorem Sy (w : World) (Au : Value) (Aw : List Eu) (Be : Slc (view w []) 8 Au (Aw.map Eu.enc)) (Ay : Nat) (Av : Eu) (Bg : (view w []) Ay = some (.cells [sV Av.Key,iV Av.Metres,iV Av.Stroke,iV Av.Course,iV Av.Legs,iV Av.Sex,iV Av.Young,iV Av.Old].toArray 38 (0,0))) (r : Bool) (h : Jw Aw Av = r) :
    Calls prog 114 [Au,.func (.func 115) #[] #[.pointer (some ⟨Ay,0,none⟩)]].toArray w (Ret w [] fun _ v _=>v = bV r):=by
 refine Fe func114 rfl ntmps114 rfl fun a S=>?_
 unfold Jw at h
 replace S:=S.k2 0 1 rfl
 refine Fr (Vk S rfl rfl fun a S=>Dz (Vm S rfl rfl fun a S=>Vm S rfl rfl fun a S=>Er S (fun _=>Ei (vs:=[Au,.func (.func 115) #[] #[.pointer (some ⟨Ay,0,none⟩)]]) ⟨(S.tm rfl),(S.tm rfl),trivial⟩ call84) (Ub _ Au Aw (Be.mono (S.le_arg Ez)) Ay Av ((S.le_arg Ez) _ _ Bg) _ rfl) rfl ?_));clear S;intro v1 a w1 hv1 hk1 hn1 S
 subst hv1
 refine Vq S Re rfl rfl rfl fun a S=>Va S rfl rfl fun a S=>Dl (wp_ret ?_)
 subst h
 exact Fd S results114 rfl rfl
theorem Yu (w : World) (Ax : Nh) (Cl : R28) (Ct : Zp (view w []) Ax Cl) (r : Int) (h : Pu Ax = some r) :
    Calls prog 116 [.agg (R28.enc Cl).toArray].toArray w (Ret w [] fun _ v _=>v = iV r):=by
 obtain ⟨u1,rfl,hs1⟩:=Ct
 refine Fe func116 rfl ntmps116 rfl fun a S=>?_
 unfold Pu at h
 replace S:=S.k1 0 rfl
 refine Fr (Mk S (S.tm rfl) (cs:=[u1.val,iV Ax.Relay,iV Ax.Most]) rfl rfl ?_);clear S;intro a w1 b1 hz1 hk1 S
 refine Vk S rfl rfl fun a S=>Dl (Fs (Fr (Vf BV S rfl rfl fun a S=>Vl isAgg22 0 S rfl rfl rfl rfl fun a S=>lv S (Gn Qh (S.tm rfl) (Gk hs1)) rfl fun a S=>Vq S Jz rfl rfl rfl fun a S=>Ld ?_)))
 refine Tn (Fc h (S.tm rfl) (fun hb1 h=>?_) (fun hb1 h=>?_))
 ·refine Fr (Vk S rfl rfl fun a S=>Dl (wp_ret (Ek ?_)))
  obtain rfl:=Option.some.inj h
  exact Fd S results116 rfl rfl
 ·refine wp_skip (Tn (Fs (Fr (Vf BV S rfl rfl fun a S=>Vl isAgg22 0 S rfl rfl rfl rfl fun a S=>lv S (Gn Qh (S.tm rfl) (Gk hs1)) rfl fun a S=>lv S (Rm rfl) rfl fun a S=>Dl ?_))))
  replace S:=(S.nl [.blk b1 [u1.val,iV Ax.Relay,iV Ax.Most] 28] [true] rfl).k4 1 10 11 12 rfl
  obtain ⟨j1,hj1,h⟩:=Fk h
  refine Fa (fun a w'=>j1 = some r ∧ Sx w [] nov [.blk b1 [u1.val,iV Ax.Relay,iV Ax.Most] 28] [(1,.pointer (some ⟨b1,0,none⟩))] 43 a w') ?_ ?_
  ·refine wp_block (Hs (fun (ys1 : List Int) a w'=>∃ i1 : Nat,(∃ dn,Ax.Points = dn ++ ys1 ∧ dn.length = i1) ∧ Kz Ax j1 ys1 i1 = some r ∧ Sx w [] nov [.blk b1 [u1.val,iV Ax.Relay,iV Ax.Most] 28] [(1,.pointer (some ⟨b1,0,none⟩)),(10,u1.val),(11,iV (Ax.Points.length : Int)),(12,iV (i1 : Int))] 43 a w') List.length Ax.Points ⟨0,⟨[],rfl,rfl⟩,h,S.nf [true] rfl (subR rfl)⟩ ?_)
   clear S h;rintro ys1 a w2 ⟨i1,⟨dn,hd1,hi1⟩,h,S⟩
   cases ys1 with
   | nil =>
    rw [Kz.eq_1] at h
    refine Fr (Vb S Fp rfl rfl rfl fun a S=>Ld ?_)
    replace S:=S.k5 1 10 11 12 13 rfl
    exact Tn (Fs (wp_cond_false ((S.tm rfl).trans (congrArg Value.bool (Jq hd1 hi1))) (wp_exit (Ew (Ew (Hl (Tn (⟨h,S.nf [true] rfl ⟨rfl,trivial⟩⟩))))))))
   | cons y1 ys1 =>
    rw [Kz.eq_2] at h
    refine Fr (Vb S Fp rfl rfl rfl fun a S=>Ld ?_)
    replace S:=S.k5 1 10 11 12 13 rfl
    refine Tn (Fs (wp_cond_true ((S.tm rfl).trans (congrArg Value.bool (Iv hd1 hi1))) (wp_skip (Tn (Fs (wp_block (Fr (Vm S rfl rfl ?_))))))));clear S;intro a S
    obtain ⟨b2,o1,hm1,hr1⟩:=Fv (a:=a) (x:=.tmp 10) (y:=.tmp 12) (ty:=0) Qh hs1 (Js hd1 hi1) rfl (S.tm rfl) (S.tm rfl)
    refine lv S (hr1 _) rfl ?_;clear S;intro a S
    clear hr1
    refine lv S (Hw isAgg3 (off:=o1) (o:=0) (S.tm rfl) (hm1.at S.emb0) rfl) rfl fun a S=>Va S rfl rfl fun a S=>Va S rfl rfl fun a S=>Dl (Fs (Fr (Vm S rfl rfl fun a S=>Er S (fun _=>Ei (vs:=[iV y1,iV 0,iV 10000]) ⟨(S.tm rfl),rfl,rfl,trivial⟩ call65) (Gl _ y1 0 10000 _ rfl) rfl ?_)));clear S;intro v1 a w4 hv1 hk2 hn1 S
    subst hv1
    refine Vu S Ig rfl rfl fun a S=>Dl (Fc h (S.tm rfl) (fun hb2 h=>?_) (fun hb2 h=>?_))
    ·refine Fr (Vk S rfl rfl fun a S=>Dl (wp_ret (Ek (Gg (Ek (Ek (Gg ?_)))))))
     refine Ek (Ek ?_)
     obtain rfl:=Option.some.inj h
     exact Fd S results116 rfl rfl
    ·refine wp_skip (Tn (Fr (Vm S rfl rfl fun a S=>Vq S Jz rfl rfl rfl fun a S=>Vm S rfl rfl ?_)));clear S;intro a S
     obtain ⟨j2,hj2,h⟩:=Fk h
     refine Io 9 (fun a w'=>∃ c1,j2 c1 = some r ∧ Keep [] w4 w' ∧ Sx w [] nov [.blk b1 [u1.val,iV Ax.Relay,iV Ax.Most] 28] [(1,.pointer (some ⟨b1,0,none⟩)),(10,u1.val),(11,iV (Ax.Points.length : Int)),(12,iV (i1 : Int)),(31,bV c1)] 43 a w') ?_ ?_
     ·rcases Bool.eq_false_or_eq_true (decide (0 < (i1 : Int))) with hb3 | hb3
      ·replace h:=Rz h hb3
       refine Em S rfl rfl rfl hb3 (Vm S rfl rfl fun a S=>Em S rfl rfl rfl hb3 (Vf BV S rfl rfl fun a S=>Em S rfl rfl rfl hb3 (Vl isAgg22 0 S rfl rfl rfl rfl fun a S=>Em S rfl rfl rfl hb3 (Vm S rfl rfl fun a S=>Em S rfl rfl rfl hb3 (Vq S Jt rfl rfl rfl fun a S=>Em S rfl rfl rfl hb3 ?_)))))
       obtain ⟨hc1,h⟩:=Jc h
       obtain ⟨b3,o2,hm2,hr2⟩:=Fv (a:=a) (x:=.tmp 25) (y:=.tmp 27) (ty:=0) Qh hs1 (Es hc1).1 (Es hc1).2 (S.tm rfl) (S.tm rfl)
       refine lv S (hr2 _) rfl ?_;clear S;intro a S
       clear hr2
       exact Em S rfl rfl rfl hb3 (lv S (Hw isAgg3 (off:=o2) (o:=0) (S.tm rfl) (hm2.at S.emb0) rfl) rfl fun a S=>Em S rfl rfl rfl hb3 (Vb S Jz rfl rfl rfl fun a S=>lv S (Ii hb3 (S.tm rfl) (S.tm rfl)) rfl fun a S=>Dl (⟨_,h,Keep.refl _ _,S.nf [true] rfl (subR rfl)⟩)))
      ·replace h:=Sa h hb3
       iterate 8 (refine Hk S rfl rfl rfl (Ka hb3) rfl ?_ rfl;clear S;intro a S)
       exact Vq S (Ij true hb3) rfl rfl rfl fun a S=>Dl (⟨_,h,Keep.refl _ _,S.nf [true] rfl (subR rfl)⟩)
     clear S h;rintro a w5 ⟨c1,h,hk3,S⟩;rw [hj2] at h;clear hj2 j2
     refine Dl (Fc h (S.tm rfl) (fun hb4 h=>?_) (fun hb4 h=>?_))
     ·refine Fr (Vk S rfl rfl fun a S=>Dl (wp_ret (Gg (Ek (Ek (Gg (Ek ?_)))))))
      refine Ek ?_
      obtain rfl:=Option.some.inj h
      exact Fd S results116 rfl rfl
     ·exact wp_skip (Im (Tn (Fg (Vq S Gw rfl rfl rfl fun a S=>Vm S rfl rfl fun a S=>Dl (⟨ys1,⟨i1 + 1,⟨_,(hd1).trans (List.append_cons _ _ _),by simp [hi1]⟩,h,S.nf [true] rfl ⟨rfl,rfl,rfl,(congrArg (fun z=>some (Value.int .i64 z)) (Iw hd1 hi1 (Kh hs1))),trivial⟩⟩,Nat.lt_succ_self _⟩)))))
  clear S h;rintro a w3 ⟨h,S⟩;rw [hj1] at h;clear hj1 j1
  refine Tn (Fs (Fr (Vf SY S rfl rfl fun a S=>Vl isAgg3 0 S rfl rfl rfl rfl fun a S=>Er S (fun _=>Ei (vs:=[iV Ax.Relay,iV 1,iV 10]) ⟨(S.tm rfl),rfl,rfl,trivial⟩ call65) (Gl _ Ax.Relay 1 10 _ rfl) rfl ?_)));clear S;intro v2 a w6 hv2 hk4 hn2 S
  subst hv2
  refine Vu S Ig rfl rfl fun a S=>Vm S rfl rfl fun a S=>Io 5 (fun a w'=>Keep [] w6 w' ∧ Sx w [] nov [.blk b1 [u1.val,iV Ax.Relay,iV Ax.Most] 28] [(42,bV ((!(El Ax.Relay 1 10)) || (!(El Ax.Most 0 10))))] 43 a w') ?_ ?_
  ·rcases Bool.eq_false_or_eq_true (!(El Ax.Relay 1 10)) with hb5 | hb5
   ·iterate 4 (refine Hk S rfl rfl rfl (Ng hb5) rfl ?_ rfl;clear S;intro a S)
    exact lv S (Lk (!(El Ax.Most 0 10)) hb5 (S.tm rfl) rfl) rfl fun a S=>Dl (⟨Keep.refl _ _,S.nf [true] rfl ⟨rfl,trivial⟩⟩)
   ·refine Em S rfl rfl rfl hb5 (Vf NW S rfl rfl fun a S=>Em S rfl rfl rfl hb5 (Vl isAgg3 0 S rfl rfl rfl rfl fun a S=>Em S rfl rfl rfl hb5 (Er S (fun _=>Ei (vs:=[iV Ax.Most,iV 0,iV 10]) ⟨(S.tm rfl),rfl,rfl,trivial⟩ call65) (Gl _ Ax.Most 0 10 _ rfl) rfl ?_)));clear S;intro v3 a w8 hv3 hk5 hn3 S
    subst hv3
    exact Em S rfl rfl rfl hb5 (Vu S Ig rfl rfl fun a S=>lv S (Ll hb5 (S.tm rfl) (S.tm rfl)) rfl fun a S=>Dl (⟨hk5,S.nf [true] rfl ⟨rfl,trivial⟩⟩))
  clear S;rintro a w7 ⟨hk6,S⟩
  refine Dl (Fc h (S.tm rfl) (fun hb6 h=>?_) (fun hb6 h=>?_))
  ·refine Fr (Vk S rfl rfl fun a S=>Dl (wp_ret (Ek ?_)))
   obtain rfl:=Option.some.inj h
   exact Fd S results116 rfl rfl
  ·refine wp_skip (Tn (Fr (Vk S rfl rfl fun a S=>Dl (wp_ret ?_))))
   obtain rfl:=Option.some.inj h
   exact Fd S results116 rfl rfl
theorem FL (w : World) (Cp : Uu) (r : Int) (h : Sg Cp = r) :
    Calls prog 117 [.agg (Uu.enc Cp).toArray].toArray w (Ret w [] fun _ v _=>v = iV r):=by
 refine Fe func117 rfl ntmps117 rfl fun a S=>?_
 unfold Sg at h
 replace S:=S.k1 0 rfl
 refine Fr (Mk S (S.tm rfl) (cs:=(Uu.enc Cp)) rfl rfl ?_);clear S;intro a w1 b1 hz1 hk1 S
 refine Vk S rfl rfl fun a S=>Dl (Fs (Fr (Vf fa_30_0 S rfl rfl fun a S=>Vl isAgg3 0 S rfl rfl rfl rfl fun a S=>Er S (fun _=>Ei (vs:=[iV Cp.Size,iV 1,iV 10]) ⟨(S.tm rfl),rfl,rfl,trivial⟩ call65) (Gl _ Cp.Size 1 10 _ rfl) rfl ?_)));clear S;intro v1 a w2 hv1 hk2 hn1 S
 subst hv1
 refine Vu S Ig rfl rfl fun a S=>Vm S rfl rfl fun a S=>Io 5 (fun a w'=>Keep [] w2 w' ∧ Sx w [] nov [.blk b1 (Uu.enc Cp) 30] [(1,.pointer (some ⟨b1,0,none⟩)),(12,bV ((!(El Cp.Size 1 10)) || (!(El Cp.Many 1 5))))] 19 a w') ?_ ?_
 ·rcases Bool.eq_false_or_eq_true (!(El Cp.Size 1 10)) with hb1 | hb1
  ·iterate 4 (refine Hk S rfl rfl rfl (Ng hb1) rfl ?_ rfl;clear S;intro a S)
   exact lv S (Lk (!(El Cp.Many 1 5)) hb1 (S.tm rfl) rfl) rfl fun a S=>Dl (⟨Keep.refl _ _,S.nf [true] rfl (subR rfl)⟩)
  ·refine Em S rfl rfl rfl hb1 (Vf fa_30_1 S rfl rfl fun a S=>Em S rfl rfl rfl hb1 (Vl isAgg3 0 S rfl rfl rfl rfl fun a S=>Em S rfl rfl rfl hb1 (Er S (fun _=>Ei (vs:=[iV Cp.Many,iV 1,iV 5]) ⟨(S.tm rfl),rfl,rfl,trivial⟩ call65) (Gl _ Cp.Many 1 5 _ rfl) rfl ?_)));clear S;intro v2 a w4 hv2 hk3 hn2 S
   subst hv2
   exact Em S rfl rfl rfl hb1 (Vu S Ig rfl rfl fun a S=>lv S (Ll hb1 (S.tm rfl) (S.tm rfl)) rfl fun a S=>Dl (⟨hk3,S.nf [true] rfl (subR rfl)⟩))
 clear S;rintro a w3 ⟨hk4,S⟩
 refine Vm S rfl rfl fun a S=>Io 5 (fun a w'=>Keep [] w3 w' ∧ Sx w [] nov [.blk b1 (Uu.enc Cp) 30] [(18,bV (((!(El Cp.Size 1 10)) || (!(El Cp.Many 1 5))) || (!(El Cp.Reserves 0 10))))] 19 a w') ?_ ?_
 ·rcases Bool.eq_false_or_eq_true ((!(El Cp.Size 1 10)) || (!(El Cp.Many 1 5))) with hb2 | hb2
  ·iterate 4 (refine Hk S rfl rfl rfl (Ng hb2) rfl ?_ rfl;clear S;intro a S)
   exact lv S (Lk (!(El Cp.Reserves 0 10)) hb2 (S.tm rfl) rfl) rfl fun a S=>Dl (⟨Keep.refl _ _,S.nf [true] rfl ⟨rfl,trivial⟩⟩)
  ·refine Em S rfl rfl rfl hb2 (Vf fa_30_2 S rfl rfl fun a S=>Em S rfl rfl rfl hb2 (Vl isAgg3 0 S rfl rfl rfl rfl fun a S=>Em S rfl rfl rfl hb2 (Er S (fun _=>Ei (vs:=[iV Cp.Reserves,iV 0,iV 10]) ⟨(S.tm rfl),rfl,rfl,trivial⟩ call65) (Gl _ Cp.Reserves 0 10 _ rfl) rfl ?_)));clear S;intro v3 a w6 hv3 hk5 hn3 S
   subst hv3
   exact Em S rfl rfl rfl hb2 (Vu S Ig rfl rfl fun a S=>lv S (Ll hb2 (S.tm rfl) (S.tm rfl)) rfl fun a S=>Dl (⟨hk5,S.nf [true] rfl ⟨rfl,trivial⟩⟩))
 clear S;rintro a w5 ⟨hk6,S⟩
 refine Dl (Fc h (S.tm rfl) (fun hb3 h=>?_) (fun hb3 h=>?_))
 ·refine Fr (Vk S rfl rfl fun a S=>Dl (wp_ret (Ek ?_)))
  subst h
  exact Fd S results117 rfl rfl
 ·refine wp_skip (Tn (Fr (Vk S rfl rfl fun a S=>Dl (wp_ret ?_))))
  subst h
  exact Fd S results117 rfl rfl
theorem GL (w : World) (Ag : Ni) (Cm : R32) (Cu : Wm (view w []) Ag Cm) (r : Int) (h : Vj Ag = some r) :
    Calls prog 81 [.agg (R32.enc Cm).toArray].toArray w (Ret w [] fun _ v _=>v = iV r):=by
 obtain ⟨u1,u2,rfl,hs1,⟨u3,rfl,hs2⟩⟩:=Cu
 refine Fe func81 rfl ntmps81 rfl fun a S=>?_
 unfold Vj at h
 replace S:=S.k1 0 rfl
 refine Fr (Mk S (S.tm rfl) (cs:=[u1.val,u3.val,iV Ag.Table.Relay,iV Ag.Table.Most,iV Ag.Final.Size,iV Ag.Final.Many,iV Ag.Final.Reserves]) rfl rfl ?_);clear S;intro a w1 b1 hz1 hk1 S
 refine Vk S rfl rfl fun a S=>Dl (Fs (Fr (Vf BW S rfl rfl fun a S=>Vl isAgg26 0 S rfl rfl rfl rfl fun a S=>lv S (Gn Yq (S.tm rfl) (Gk hs1)) rfl fun a S=>Vq S Jz rfl rfl rfl fun a S=>Ld ?_)))
 refine Tn (Fc h (S.tm rfl) (fun hb1 h=>?_) (fun hb1 h=>?_))
 ·refine Fr (Vk S rfl rfl fun a S=>Dl (wp_ret (Ek ?_)))
  obtain rfl:=Option.some.inj h
  exact Fd S results81 rfl rfl
 ·refine wp_skip (Tn (Fs (Fr (Vf BW S rfl rfl fun a S=>Vl isAgg26 0 S rfl rfl rfl rfl fun a S=>lv S (Gn Yq (S.tm rfl) (Gk hs1)) rfl fun a S=>lv S (Rm rfl) rfl fun a S=>Dl ?_))))
  replace S:=(S.nl [.blk b1 [u1.val,u3.val,iV Ag.Table.Relay,iV Ag.Table.Most,iV Ag.Final.Size,iV Ag.Final.Many,iV Ag.Final.Reserves] 32] [true] rfl).k4 1 12 13 14 rfl
  obtain ⟨j1,hj1,h⟩:=Fk h
  refine Fa (fun a w'=>j1 = some r ∧ Sx w [] nov [.blk b1 [u1.val,u3.val,iV Ag.Table.Relay,iV Ag.Table.Most,iV Ag.Final.Size,iV Ag.Final.Many,iV Ag.Final.Reserves] 32] [(1,.pointer (some ⟨b1,0,none⟩))] 40 a w') ?_ ?_
  ·refine wp_block (Hs (fun (ys1 : List Eu) a w'=>∃ i1 : Nat,(∃ dn,Ag.Races = dn ++ ys1 ∧ dn.length = i1) ∧ Ms Ag j1 ys1 i1 = some r ∧ Sx w [] nov [.blk b1 [u1.val,u3.val,iV Ag.Table.Relay,iV Ag.Table.Most,iV Ag.Final.Size,iV Ag.Final.Many,iV Ag.Final.Reserves] 32] [(1,.pointer (some ⟨b1,0,none⟩)),(12,u1.val),(13,iV (Ag.Races.length : Int)),(14,iV (i1 : Int))] 40 a w') List.length Ag.Races ⟨0,⟨[],rfl,rfl⟩,h,S.nf [true] rfl (subR rfl)⟩ ?_)
   clear S h;rintro ys1 a w2 ⟨i1,⟨dn,hd1,hi1⟩,h,S⟩
   cases ys1 with
   | nil =>
    rw [Ms.eq_1] at h
    refine Fr (Vb S Fp rfl rfl rfl fun a S=>Ld ?_)
    replace S:=S.k5 1 12 13 14 15 rfl
    exact Tn (Fs (wp_cond_false ((S.tm rfl).trans (congrArg Value.bool (Jq hd1 hi1))) (wp_exit (Ew (Ew (Hl (Tn (⟨h,S.nf [true] rfl ⟨rfl,trivial⟩⟩))))))))
   | cons y1 ys1 =>
    rw [Ms.eq_2] at h
    refine Fr (Vb S Fp rfl rfl rfl fun a S=>Ld ?_)
    replace S:=S.k5 1 12 13 14 15 rfl
    refine Tn (Fs (wp_cond_true ((S.tm rfl).trans (congrArg Value.bool (Iv hd1 hi1))) (wp_skip (Tn (Fs (wp_block (Fr (Vm S rfl rfl ?_))))))));clear S;intro a S
    obtain ⟨b2,o1,hm1,hr1⟩:=Fv (a:=a) (x:=.tmp 12) (y:=.tmp 14) (ty:=0) Yq hs1 (Js hd1 hi1) rfl (S.tm rfl) (S.tm rfl)
    refine lv S (hr1 _) rfl ?_;clear S;intro a S
    clear hr1
    refine lv S (Gh isAgg38 sizeOf38 (off:=o1) (o:=0) (part:=(Eu.enc y1)) rfl rfl (S.tm rfl) (hm1.at S.emb0)) rfl fun a S=>Iz S zeroValue38 (cs:=[sV An,iV 0,iV 0,iV 0,iV 0,iV 0,iV 0,iV 0]) rfl rfl ?_;clear S;intro a w4 b3 hz2 hk2 S
    refine Va S rfl rfl fun a S=>Ft S (S.tm rfl) (S.tm rfl) (i:=0) (off:=0) rfl sizeOf38 (vs:=(Eu.enc y1)) rfl rfl rfl rfl ?_;clear S;intro w5 hk3 S
    refine Dl (Fs (Fr (lv S (Gh isAgg38 sizeOf38 (off:=0) (o:=0) (part:=(Eu.enc y1)) rfl rfl (S.tm rfl) (S.cellsAt (i:=0) rfl)) rfl ?_)));clear S;intro a S
    obtain ⟨r1,hr2,h⟩:=Ga h
    refine Er S (fun _=>Ei (vs:=[.agg (Eu.enc y1).toArray]) ⟨(S.tm rfl),trivial⟩ call113) (EP _ y1 _ hr2) rfl ?_;clear S;intro v1 a w6 hv1 hk4 hn1 S
    subst hv1
    refine Va S rfl rfl fun a S=>Dz (Vm S rfl rfl fun a S=>Vq S Nt rfl rfl rfl fun a S=>Ld ?_)
    replace S:=(S.nl [.blk b3 (Eu.enc y1) 38,.blk b1 [u1.val,u3.val,iV Ag.Table.Relay,iV Ag.Table.Most,iV Ag.Final.Size,iV Ag.Final.Many,iV Ag.Final.Reserves] 32] [true,true] rfl).k8 1 3 4 5 12 13 14 22 rfl
    refine Tn (Fc h (S.tm rfl) (fun hb2 h=>?_) (fun hb2 h=>?_))
    ·refine Fr (Vm S rfl rfl fun a S=>Va S rfl rfl fun a S=>Dl (wp_ret (Ek (Gg (Ek (Ek ?_))))))
     refine Gg (Ek (Ek ?_))
     obtain rfl:=Option.some.inj h
     exact Fd S results81 rfl rfl
    ·refine wp_skip (Tn (Fr (Vf BW S rfl rfl fun a S=>Vl isAgg26 1 S rfl rfl rfl rfl fun a S=>Vm S rfl rfl ?_)));clear S;intro a S
     obtain ⟨hc1,h⟩:=Jc h
     obtain ⟨v2,hs3,hr3⟩:=PC (a:=a) (x:=.tmp 25) (y':=.tmp 26) (ty:=26) Yq hs1 (S.tm rfl) (S.tm rfl) hc1
     refine lv S (hr3 _) rfl ?_;clear S;intro a S
     clear hr3
     refine lv S (Tr (us:=#[]) (xs:=[].toArray) (ys:=[.tmp 4].toArray) (by simp) (evA ⟨(S.tm rfl),trivial⟩ (vs:=[.pointer (some ⟨b3,0,none⟩)]))) rfl fun a S=>Er S (fun _=>Ei (vs:=[v2,.func (.func 115) #[] #[.pointer (some ⟨b3,0,none⟩)]]) ⟨(S.tm rfl),(S.tm rfl),trivial⟩ call114) (Sy _ v2 (cut Ag.Races 0 (i1 : Int)) (hs3.mono (S.le_arg Ez)) b3 y1 (S.blk_view (i:=0) rfl ((Ik (e':=.blk b3 (Eu.enc y1) 38)) _ rfl)) _ rfl) rfl ?_;clear S;intro v3 a w7 hv2 hk5 hn2 S
     subst hv2
     refine Dl (Fc h (S.tm rfl) (fun hb3 h=>?_) (fun hb3 h=>?_))
     ·refine Fr (Vk S rfl rfl fun a S=>Ld ?_)
      replace S:=S.n0.k1 2 rfl
      refine Tn (wp_ret (Gg (Ek (Ek (Gg (Ek (Ek ?_)))))))
      obtain rfl:=Option.some.inj h
      exact Fd S results81 rfl rfl
     ·refine wp_skip (Im (Tn (Fg (Vq S Gw rfl rfl rfl fun a S=>Vm S rfl rfl fun a S=>Ld ?_))))
      replace S:=S.d0.k4 1 12 13 14 rfl
      exact Tn (⟨ys1,⟨i1 + 1,⟨_,(hd1).trans (List.append_cons _ _ _),by simp [hi1]⟩,h,S.nf [true] rfl ⟨rfl,rfl,rfl,(congrArg (fun z=>some (Value.int .i64 z)) (Iw hd1 hi1 (Kh hs1))),trivial⟩⟩,Nat.lt_succ_self _⟩)
  clear S h;rintro a w3 ⟨h,S⟩;rw [hj1] at h;clear hj1 j1
  refine Tn (Fs (Fr (Vf SZ S rfl rfl fun a S=>lv S (Gh isAgg28 sizeOf28 (off:=0) (o:=1) (part:=[u3.val,iV Ag.Table.Relay,iV Ag.Table.Most]) rfl rfl (S.tm rfl) (S.cellsAt (i:=0) rfl)) rfl ?_)));clear S;intro a S
  obtain ⟨r2,hr4,h⟩:=Ga h
  refine Er S (fun _=>Ei (vs:=[.agg (R28.enc (R28.mk u3 Ag.Table.Relay Ag.Table.Most)).toArray]) ⟨(S.tm rfl),trivial⟩ call116) (Yu _ Ag.Table (R28.mk u3 Ag.Table.Relay Ag.Table.Most) ⟨u3,rfl,(hs2.mono (S.le_arg Ez))⟩ _ hr4) rfl ?_;clear S;intro v4 a w8 hv3 hk6 hn3 S
  subst hv3
  refine Va S rfl rfl fun a S=>Dz (Vm S rfl rfl fun a S=>Vq S Nt rfl rfl rfl fun a S=>Dl (Fc h (S.tm rfl) (fun hb4 h=>?_) (fun hb4 h=>?_)))
  ·refine Fr (Vm S rfl rfl fun a S=>Va S rfl rfl fun a S=>Dl (wp_ret (Ek ?_)))
   obtain rfl:=Option.some.inj h
   exact Fd S results81 rfl rfl
  ·refine wp_skip (Tn (Fr (Vf fa_32_2 S rfl rfl fun a S=>lv S (Gh isAgg30 sizeOf30 (off:=0) (o:=4) (part:=(Uu.enc Ag.Final)) rfl rfl (S.tm rfl) (S.cellsAt (i:=0) rfl)) rfl fun a S=>Er S (fun _=>Ei (vs:=[.agg (Uu.enc Ag.Final).toArray]) ⟨(S.tm rfl),trivial⟩ call117) (FL _ Ag.Final _ rfl) rfl ?_)));clear S;intro v5 a w9 hv4 hk7 hn4 S
   subst hv4
   refine Va S rfl rfl fun a S=>Dl (wp_ret ?_)
   obtain rfl:=Option.some.inj h
   exact Fd S results81 rfl rfl
theorem Sq (w : World) (Bb : Int) (r : Bool) (h : Ji Bb = r) :
    Calls prog 62 [iV Bb].toArray w (Ret w [] fun _ v _=>v = bV r):=by
 refine Fe func62 rfl ntmps62 rfl fun a S=>?_
 unfold Ji at h
 replace S:=S.k1 0 rfl
 refine Fr (Vk S rfl rfl fun a S=>Dz (Vm S rfl rfl fun a S=>Vq S Re rfl rfl rfl fun a S=>Vm S rfl rfl fun a S=>Io 3 (fun a w'=>Keep [] w w' ∧ Sx w [] nov [] [(8,bV ((decide (0 ≤ Bb)) && (decide (Bb < 345686400000))))] 9 a w') ?_ ?_))
 ·rcases Bool.eq_false_or_eq_true (decide (0 ≤ Bb)) with hb1 | hb1
  ·exact Em S rfl rfl rfl hb1 (Vm S rfl rfl fun a S=>Em S rfl rfl rfl hb1 (Vq S Fp rfl rfl rfl fun a S=>lv S (Ii hb1 (S.tm rfl) (S.tm rfl)) rfl fun a S=>Dl (⟨Keep.refl _ _,S.nf [] rfl ⟨rfl,trivial⟩⟩)))
  ·exact Hk S rfl rfl rfl (Ka hb1) rfl (fun a S=>Hk S rfl rfl rfl (Ka hb1) rfl (fun a S=>lv S (Ij (decide (Bb < 345686400000)) hb1 (S.tm rfl) rfl) rfl fun a S=>Dl (⟨Keep.refl _ _,S.nf [] rfl ⟨rfl,trivial⟩⟩)) rfl) rfl
 clear S;rintro a w1 ⟨hk1,S⟩
 refine Va S rfl rfl fun a S=>Dl (wp_ret ?_)
 subst h
 exact Fd S results62 rfl rfl
end Go.Proofs.YtjofndbcioknfaaGreatDoor
