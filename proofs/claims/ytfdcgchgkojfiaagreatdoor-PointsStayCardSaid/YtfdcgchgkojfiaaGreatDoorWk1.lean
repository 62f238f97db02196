/- Each Go function computes its plain twin,by program. -/
import Derived.Test.YtfdcgchgkojfiaaGreatDoorTab
import Derived.Test.YtfdcgchgkojfiaaGreatDoorLay
namespace Go.Proofs.YtfdcgchgkojfiaaGreatDoor
open Go
open Go.Proofs.Tryz
theorem Pg (w : World) (Al : Int) (Ay : Int) (r : Int) (h : Lq Al Ay = some r) :
    Calls prog 65 [iV Al,iV Ay].toArray w (Ret w [] fun _ v _=>v = iV r):=by
 refine Fe func65 rfl ntmps65 rfl fun a S=>?_
 unfold Lq at h
 replace S:=S.k2 0 1 rfl
 refine Fr (Vk S rfl rfl fun a S=>Dl (Fs (Fr (Vm S rfl rfl fun a S=>Vq S Dt rfl rfl rfl fun a S=>Ld ?_))))
 refine Tn (Fc h (S.tm rfl) (fun hb1 h=>?_) (fun hb1 h=>?_))
 ·refine Fr (Vk S rfl rfl fun a S=>Dl (wp_ret (Cx ?_)))
  obtain rfl:=Option.some.inj h
  exact Dx S results65 rfl rfl
 ·refine wp_skip (Tn (Fr (Vm S rfl rfl fun a S=>Vm S rfl rfl ?_)));clear S;intro a S
  obtain ⟨hc1,h⟩:=Hl h
  refine lv S (Tj (S.tm rfl) (S.tm rfl) (Ro hc1)) rfl fun a S=>Va S rfl rfl fun a S=>Dl (Fs (Fr (Vm S rfl rfl fun a S=>Vq S Dt rfl rfl rfl fun a S=>Dl ?_)))
  obtain ⟨j1,hj1,h⟩:=Ec h
  refine Ds (fun a w'=>∃ x1 : Int,j1 x1 = some r ∧ Sx w [] nov [] [(0,iV x1)] 16 a w') ?_ ?_
  ·refine Fc h (S.tm rfl) (fun hb2 h=>?_) (fun hb2 h=>?_)
   ·exact Fg (Vm S rfl rfl fun a S=>Vm S rfl rfl fun a S=>Vb S Ek rfl rfl rfl fun a S=>Va S rfl rfl fun a S=>Dl (⟨W ((Int.tmod Al Ay) + Ay),h,S.nf [] rfl ⟨rfl,trivial⟩⟩))
   ·exact wp_skip (Tn (⟨Int.tmod Al Ay,h,S.nf [] rfl ⟨rfl,trivial⟩⟩))
  clear S h;rintro a w1 ⟨x1,h,S⟩;rw [hj1] at h;clear hj1 j1
  refine Tn (Fr (Vm S rfl rfl fun a S=>Va S rfl rfl fun a S=>Dl (wp_ret ?_)))
  obtain rfl:=Option.some.inj h
  exact Dx S results65 rfl rfl
set_option maxRecDepth 20000 in
theorem Ph (w : World) (O : Nat) (U : Value) (Aj : List Int) (Ak : Slc (view w [O]) 1 U (Aj.map eInt)) (Af : Int) (Au : (LEnt.blk O [U,iV Af] 25).holds w) (Ay : Int) (r : Int × Int) (h : Nb Aj Af Ay = some r) :
    Calls prog 38 [.pointer (some ⟨O,0,none⟩),iV Ay].toArray w (Ret w [O] fun _ v w'=>(LEnt.blk O [U,iV r.2] 25).holds w' ∧ v = iV r.1):=by
 refine Kv [O] [.blk O [U,iV Af] 25] func38 rfl ntmps38 rfl (fun e he=>by simp only [List.mem_singleton] at he;subst he;exact Au) (by simp [fps,LEnt.fp]) (by simp [fps,LEnt.fp]) fun a S=>?_
 unfold Nb at h
 replace S:=(S.nl [.blk O [U,iV Af] 25] [true] rfl).k2 0 1 rfl
 refine Fr (Vk S rfl rfl fun a S=>Dz (Vm S rfl rfl fun a S=>Vu S Me rfl rfl fun a S=>Vf Wg S rfl rfl fun a S=>Vl isAgg3 0 S rfl rfl rfl rfl ?_));clear S;intro a S
 refine Vq S Ek rfl rfl rfl fun a S=>Vu S Me rfl rfl fun a S=>Vf Wg S rfl rfl fun a S=>Gl S (S.tm rfl) (S.tm rfl) (i:=0) (off:=1) rfl sizeOf3 (vs:=[iV (W (Af + 1))]) rfl rfl rfl rfl ?_;clear S;intro w1 hk1 S
 refine Dl (Fs (Fr (Vm S rfl rfl fun a S=>Vu S Me rfl rfl fun a S=>Vf Yf S rfl rfl fun a S=>Vl isAgg22 0 S rfl rfl rfl rfl fun a S=>lv S (Ee Ka (S.tm rfl) (Ej Ak)) rfl fun a S=>Vq S Jz rfl rfl rfl ?_)));clear S;intro a S
 refine Ld ?_
 replace S:=(S.nl [.blk O [U,iV (W (Af + 1))] 25] [true] rfl).k3 0 1 19 rfl
 refine Tn (Fc h (S.tm rfl) (fun hb1 h=>?_) (fun hb1 h=>?_))
 ·refine Fr (Vm S rfl rfl fun a S=>Vu S Me rfl rfl fun a S=>Vf Wg S rfl rfl fun a S=>Vl isAgg3 0 S rfl rfl rfl rfl fun a S=>Vq S Vg rfl rfl rfl fun a S=>Vm S rfl rfl ?_);clear S;intro a S
  obtain ⟨r1,hr1,h⟩:=Eg h
  refine Dc S (fun _=>Cw (vs:=[iV (W ((W (Af + 1)) * 7919)),iV Ay]) ⟨(S.tm rfl),(S.tm rfl),trivial⟩ call65) (Pg _ (W ((W (Af + 1)) * 7919)) Ay _ hr1) rfl ?_;clear S;intro v1 a w2 hv1 hk2 hn1 S
  subst hv1
  refine Va S rfl rfl fun a S=>Dl (wp_ret (Cx ?_))
  obtain rfl:=Option.some.inj h
  exact Dx S results38 rfl ⟨(S.holds _ (List.mem_of_getElem? (i:=0) rfl)),rfl⟩
 ·refine wp_skip (Tn (Fs (Fw [] ([]) Tryz.mixed S rfl (by kernel_rfl) ?_)));clear S;intro w3 hk3 hsel S
  refine Kc [0,1,2,3,4,5,6,7,8,9,10,11] hsel (by kernel_rfl) rfl ?_
  clear hsel
  refine En S rfl (Rm (S.tm rfl)) rfl fun a S=>En S rfl (Me (S.tm rfl)) rfl fun a S=>En S rfl (Fk Wg (S.tm rfl)) rfl fun a S=>En S rfl (Oh isAgg3 (S.tm rfl) (S.cell (i:=0) rfl rfl)) rfl fun a S=>En S rfl (Jb (S.tm rfl) rfl) rfl fun a S=>En S rfl (Rm (S.tm rfl)) rfl fun a S=>En S rfl (Me (S.tm rfl)) rfl fun a S=>En S rfl (Fk Yf (S.tm rfl)) rfl fun a S=>En S rfl (Oh isAgg22 (S.tm rfl) (S.cell (i:=0) rfl rfl)) rfl fun a S=>En S rfl (Ee Ka (S.tm rfl) (Ej Ak)) rfl ?_;clear S;intro a S
  obtain ⟨hc1,h⟩:=Hl h
  refine En S rfl (Tj (S.tm rfl) (S.tm rfl) (Ro hc1)) rfl fun a S=>En S rfl (Ra (S.tm rfl)) rfl fun a S=>Hk ?_
  replace S:=S.k3 0 1 5 rfl
  refine Tn (Fs (Fw [] ([]) Tryz.mixed S rfl (by kernel_rfl) ?_));clear S;intro w4 hk4 hsel S
  refine Kc [0,1,2,3,4,5,6,7,8,9,10,11] hsel (by kernel_rfl) rfl ?_
  clear hsel
  refine En S rfl (Rm (S.tm rfl)) rfl fun a S=>En S rfl (Me (S.tm rfl)) rfl fun a S=>En S rfl (Fk Wg (S.tm rfl)) rfl fun a S=>En S rfl (Oh isAgg3 (S.tm rfl) (S.cell (i:=0) rfl rfl)) rfl fun a S=>En S rfl (Jb (S.tm rfl) rfl) rfl fun a S=>En S rfl (Rm (S.tm rfl)) rfl fun a S=>En S rfl (Me (S.tm rfl)) rfl fun a S=>En S rfl (Fk Yf (S.tm rfl)) rfl fun a S=>En S rfl (Oh isAgg22 (S.tm rfl) (S.cell (i:=0) rfl rfl)) rfl fun a S=>En S rfl (Ee Ka (S.tm rfl) (Ej Ak)) rfl ?_;clear S;intro a S
  obtain ⟨hc2,h⟩:=Hl h
  refine En S rfl (AV (S.tm rfl) (S.tm rfl) (Ro hc2)) rfl fun a S=>En S rfl (Ra (S.tm rfl)) rfl fun a S=>Hk ?_
  replace S:=S.k4 0 1 5 6 rfl
  refine Tn (Fr (Vm S rfl rfl fun a S=>Vu S Me rfl rfl fun a S=>Vf Yf S rfl rfl fun a S=>Vl isAgg22 0 S rfl rfl rfl rfl fun a S=>Vm S rfl rfl ?_));clear S;intro a S
  obtain ⟨hc3,h⟩:=Hl h
  obtain ⟨b1,o1,hm1,hr2⟩:=Eb (a:=a) (x:=.tmp 52) (y:=.tmp 53) (ty:=0) Ka Ak (Db hc3).1 (Db hc3).2 (S.tm rfl) (S.tm rfl)
  refine lv S (hr2 _) rfl ?_;clear S;intro a S
  clear hr2
  refine lv S (Gk isAgg3 (off:=o1) (o:=0) (S.tm rfl) (hm1.at S.emb0) rfl) rfl ?_;clear S;intro a S
  obtain ⟨r2,hr3,h⟩:=Eg h
  refine Dc S (fun _=>Cw (vs:=[iV (nth Aj (Int.tmod (W ((W (Af + 1)) - 1)) (Aj.length : Int))),iV 1073741824]) ⟨(S.tm rfl),rfl,trivial⟩ call65) (Pg _ (nth Aj (Int.tmod (W ((W (Af + 1)) - 1)) (Aj.length : Int))) 1073741824 _ hr3) rfl ?_;clear S;intro v2 a w5 hv2 hk5 hn2 S
  subst hv2
  refine Vm S rfl rfl fun a S=>Vm S rfl rfl fun a S=>Vu S (Ek rfl) rfl rfl fun a S=>Vb S Vg rfl rfl rfl fun a S=>Vb S Ek rfl rfl rfl fun a S=>Vm S rfl rfl ?_;clear S;intro a S
  obtain ⟨r3,hr4,h⟩:=Eg h
  refine Dc S (fun _=>Cw (vs:=[iV (W (r2 + (W ((W (Int.tdiv (W ((W (Af + 1)) - 1)) (Aj.length : Int))) * (W (7919 + (Int.tmod (W ((W (Af + 1)) - 1)) (Aj.length : Int)))))))),iV Ay]) ⟨(S.tm rfl),(S.tm rfl),trivial⟩ call65) (Pg _ (W (r2 + (W ((W (Int.tdiv (W ((W (Af + 1)) - 1)) (Aj.length : Int))) * (W (7919 + (Int.tmod (W ((W (Af + 1)) - 1)) (Aj.length : Int)))))))) Ay _ hr4) rfl ?_;clear S;intro v3 a w6 hv3 hk6 hn3 S
  subst hv3
  refine Va S rfl rfl fun a S=>Ld ?_
  replace S:=S.k1 4 rfl
  refine Tn (wp_ret ?_)
  obtain rfl:=Option.some.inj h
  exact Dx S results38 rfl ⟨(S.holds _ (List.mem_of_getElem? (i:=0) rfl)),rfl⟩
theorem Lv (w : World) (O : Nat) (U : Value) (Aj : List Int) (Ak : Slc (view w [O]) 1 U (Aj.map eInt)) (Af : Int) (Au : (LEnt.blk O [U,iV Af] 25).holds w) (Ab : Value) (Ad : List Int) (Ac : Slc (view w [O]) 1 Ab (Ad.map eInt)) (r : Int × Int) (h : Ki Aj Af Ad = some r) :
    Calls prog 15 [.pointer (some ⟨O,0,none⟩),Ab].toArray w (Ret w [O] fun _ v w'=>(LEnt.blk O [U,iV r.2] 25).holds w' ∧ v = iV r.1):=by
 refine Kv [O] [.blk O [U,iV Af] 25] func15 rfl ntmps15 rfl (fun e he=>by simp only [List.mem_singleton] at he;subst he;exact Au) (by simp [fps,LEnt.fp]) (by simp [fps,LEnt.fp]) fun a S=>?_
 unfold Ki at h
 replace S:=(S.nl [.blk O [U,iV Af] 25] [true] rfl).k2 0 1 rfl
 refine Fr (Vk S rfl rfl fun a S=>Dl (Fs (Fg ?_)))
 iterate 3 (refine Vm S rfl rfl ?_;clear S;intro a S)
 refine lv S (Ee Ka (S.tm rfl) (Ej Ac)) rfl ?_;clear S;intro a S
 obtain ⟨r1,hr1,h⟩:=Eg h
 refine Ga 0 S (b:=O) rfl rfl (fun _=>.blk O [U,iV r1.2] 25) (fun _=>Cw (vs:=[.pointer (some ⟨O,0,none⟩),iV (Ad.length : Int)]) ⟨(S.tm rfl),(S.tm rfl),trivial⟩ call38) (Ph _ O U Aj (Ak.mono (S.le_arg (Ix (i:=0) (e:=.blk O [U,iV Af] 25) rfl))) Af (S.holds _ (List.mem_of_getElem? (i:=0) rfl)) (Ad.length : Int) _ hr1) rfl (fun _ _ _ h=>⟨h.1,fun _ hc=>by cases hc;rfl⟩) ?_;clear S;intro v1 a w1 hv1 hk1 hn1 S
 replace hv1:=hv1.2
 subst hv1
 obtain ⟨hc1,h⟩:=Hl h
 obtain ⟨b1,o1,hm1,hr2⟩:=Eb (a:=a) (x:=.tmp 5) (y:=.tmp 9) (ty:=0) Ka Ac (Db hc1).1 (Db hc1).2 (S.tm rfl) (S.tm rfl)
 refine lv S (hr2 _) rfl ?_;clear S;intro a S
 clear hr2
 refine lv S (Gk isAgg3 (off:=o1) (o:=0) (S.tm rfl) (hm1.at S.emb0) rfl) rfl fun a S=>Va S rfl rfl fun a S=>Dl (wp_ret ?_)
 obtain rfl:=Option.some.inj h
 exact Dx S results15 rfl ⟨(S.holds _ (List.mem_of_getElem? (i:=0) rfl)),rfl⟩
theorem Qf (w : World) (O : Nat) (U : Value) (Aj : List Int) (Ak : Slc (view w [O]) 1 U (Aj.map eInt)) (Af : Int) (Au : (LEnt.blk O [U,iV Af] 25).holds w) (Bb : Int) (Ax : Int) (r : Int × Int) (h : Mh Aj Af Bb Ax = some r) :
    Calls prog 16 [.pointer (some ⟨O,0,none⟩),iV Bb,iV Ax].toArray w (Ret w [O] fun _ v w'=>(LEnt.blk O [U,iV r.2] 25).holds w' ∧ v = iV r.1):=by
 refine Kv [O] [.blk O [U,iV Af] 25] func16 rfl ntmps16 rfl (fun e he=>by simp only [List.mem_singleton] at he;subst he;exact Au) (by simp [fps,LEnt.fp]) (by simp [fps,LEnt.fp]) fun a S=>?_
 unfold Mh at h
 replace S:=(S.nl [.blk O [U,iV Af] 25] [true] rfl).k3 0 1 2 rfl
 refine Fr (Vk S rfl rfl fun a S=>Dl (Fs (Fr (Vm S rfl rfl fun a S=>Vm S rfl rfl fun a S=>Vb S Dt rfl rfl rfl ?_))));clear S;intro a S
 refine Dl (Fc h (S.tm rfl) (fun hb1 h=>?_) (fun hb1 h=>?_))
 ·refine Fr (Vm S rfl rfl fun a S=>Va S rfl rfl fun a S=>Dl (wp_ret (Cx ?_)))
  obtain rfl:=Option.some.inj h
  exact Dx S results16 rfl ⟨(S.holds _ (List.mem_of_getElem? (i:=0) rfl)),rfl⟩
 ·refine wp_skip (Tn (Fs (Fg ?_)))
  iterate 4 (refine Vm S rfl rfl ?_;clear S;intro a S)
  refine Vb S Jb rfl rfl rfl fun a S=>Vq S Ek rfl rfl rfl ?_;clear S;intro a S
  obtain ⟨r1,hr1,h⟩:=Eg h
  refine Ga 0 S (b:=O) rfl rfl (fun _=>.blk O [U,iV r1.2] 25) (fun _=>Cw (vs:=[.pointer (some ⟨O,0,none⟩),iV (W ((W (Ax - Bb)) + 1))]) ⟨(S.tm rfl),(S.tm rfl),trivial⟩ call38) (Ph _ O U Aj (Ak.mono (S.le_arg (Ix (i:=0) (e:=.blk O [U,iV Af] 25) rfl))) Af (S.holds _ (List.mem_of_getElem? (i:=0) rfl)) (W ((W (Ax - Bb)) + 1)) _ hr1) rfl (fun _ _ _ h=>⟨h.1,fun _ hc=>by cases hc;rfl⟩) ?_;clear S;intro v1 a w1 hv1 hk1 hn1 S
  replace hv1:=hv1.2
  subst hv1
  refine Vb S Ek rfl rfl rfl fun a S=>Va S rfl rfl fun a S=>Ld ?_
  replace S:=(S.nl [.blk O [U,iV r1.2] 25] [true] rfl).k1 6 rfl
  refine Tn (wp_ret ?_)
  obtain rfl:=Option.some.inj h
  exact Dx S results16 rfl ⟨(S.holds _ (List.mem_of_getElem? (i:=0) rfl)),rfl⟩
theorem Qa (w : World) (O : Nat) (U : Value) (Aj : List Int) (Ak : Slc (view w [O]) 1 U (Aj.map eInt)) (Af : Int) (Au : (LEnt.blk O [U,iV Af] 25).holds w) (r : Hx × Int) (h : Kw Aj Af = some r) :
    Calls prog 4 [.pointer (some ⟨O,0,none⟩)].toArray w (Ret w [O] fun τ v w'=>(LEnt.blk O [U,iV r.2] 25).holds w' ∧ ∃ q : R27,v = .agg (R27.enc q).toArray ∧ Qe τ r.1 q):=by
 refine Kv [O] [.blk O [U,iV Af] 25] func4 rfl ntmps4 rfl (fun e he=>by simp only [List.mem_singleton] at he;subst he;exact Au) (by simp [fps,LEnt.fp]) (by simp [fps,LEnt.fp]) fun a S=>?_
 unfold Kw at h
 replace S:=(S.nl [.blk O [U,iV Af] 25] [true] rfl).k1 0 rfl
 refine Fr (It S zeroValue27 (cs:=[.slice none 0 0,iV 0,iV 0]) rfl rfl ?_);clear S;intro a w1 b1 hz1 hk1 S
 replace S:=S.nil 3 1
 refine Dz (Vm S rfl rfl fun a S=>Ed S underlying22 sizeOf3 zeroValue3 rfl rfl (pv:=[(0,iV 1),(1,iV 2)]) ⟨rfl,rfl,rfl,rfl,trivial⟩ (cs:=[iV 1,iV 2]) (by kernel_rfl) rfl ?_);clear S;intro a w2 b2 hz2 hk2 S
 obtain ⟨r1,hr1,h⟩:=Eg h
 refine Ga 3 S (b:=O) rfl rfl (fun _=>.blk O [U,iV r1.2] 25) (fun _=>Cw (vs:=[.pointer (some ⟨O,0,none⟩),.slice (some ⟨b2,0,none⟩) 2 2]) ⟨(S.tm rfl),(S.tm rfl),trivial⟩ call15) (Lv _ O U Aj (Ak.mono (S.le_arg (Ix (i:=3) (e:=.blk O [U,iV Af] 25) rfl))) Af (S.holds _ (List.mem_of_getElem? (i:=3) rfl)) (.slice (some ⟨b2,0,none⟩) 2 2) [1,2] (Jm Hj S (i:=0) rfl rfl rfl rfl ((Ns (i:=3) (j:=0) (e:=.blk O [U,iV Af] 25) (e':=.blk b2 [iV 1,iV 2] 3) S rfl rfl rfl) _ rfl)) _ hr1) rfl (fun _ _ _ h=>⟨h.1,fun _ hc=>by cases hc;rfl⟩) ?_;clear S;intro v1 a w3 hv1 hk3 hn1 S
 replace hv1:=hv1.2
 subst hv1
 refine Vm S rfl rfl fun a S=>Ed S underlying22 sizeOf3 zeroValue3 rfl rfl (pv:=[(0,iV 0),(1,iV 0),(2,iV 1),(3,iV 2)]) ⟨rfl,rfl,rfl,rfl,rfl,rfl,rfl,rfl,trivial⟩ (cs:=[iV 0,iV 0,iV 1,iV 2]) (by kernel_rfl) rfl ?_;clear S;intro a w4 b3 hz3 hk4 S
 obtain ⟨r2,hr2,h⟩:=Eg h
 refine Ga 4 S (b:=O) rfl rfl (fun _=>.blk O [U,iV r2.2] 25) (fun _=>Cw (vs:=[.pointer (some ⟨O,0,none⟩),.slice (some ⟨b3,0,none⟩) 4 4]) ⟨(S.tm rfl),(S.tm rfl),trivial⟩ call15) (Lv _ O U Aj (Ak.mono (S.le_arg (Ix (i:=4) (e:=.blk O [U,iV r1.2] 25) rfl))) r1.2 (S.holds _ (List.mem_of_getElem? (i:=4) rfl)) (.slice (some ⟨b3,0,none⟩) 4 4) [0,0,1,2] (Jm Hj S (i:=0) rfl rfl rfl rfl ((Ns (i:=4) (j:=0) (e:=.blk O [U,iV r1.2] 25) (e':=.blk b3 [iV 0,iV 0,iV 1,iV 2] 3) S rfl rfl rfl) _ rfl)) _ hr2) rfl (fun _ _ _ h=>⟨h.1,fun _ hc=>by cases hc;rfl⟩) ?_;clear S;intro v2 a w5 hv2 hk5 hn2 S
 replace hv2:=hv2.2
 subst hv2
 refine lv S (Lp bt_27 (pv:=[(1,iV r1.1),(2,iV r2.1)]) ⟨rfl,(S.tm rfl),rfl,(S.tm rfl),trivial⟩ (cs:=[.slice none 0 0,iV r1.1,iV r2.1]) (by kernel_rfl)) rfl fun a S=>It S zeroValue27 (cs:=[.slice none 0 0,iV 0,iV 0]) rfl rfl ?_;clear S;intro a w6 b4 hz4 hk6 S
 replace S:=S.nil 3 1
 refine Gl S (S.tm rfl) (S.tm rfl) (i:=1) (off:=0) rfl sizeOf27 (vs:=[.slice none 0 0,iV r1.1,iV r2.1]) rfl rfl rfl rfl ?_;clear S;intro w7 hk7 S
 replace S:=S.nil 3 1
 refine Ld ?_
 replace S:=(S.nl [.own (.slice none 0 0) 3 1 ([] : List Int).length (([] : List Int).flatMap eInt),.blk b4 [(.slice none 0 0),iV r1.1,iV r2.1] 27,.own (.slice none 0 0) 3 1 ([] : List Int).length (([] : List Int).flatMap eInt),.blk b1 [(.slice none 0 0),iV 0,iV 0] 27,.blk O [U,iV r2.2] 25] [true,false,true,false,false,true,true,true] rfl).k3 0 2 3 rfl
 refine Tn (Fr (Vm S rfl rfl fun a S=>Ed S underlying22 sizeOf3 zeroValue3 rfl rfl (pv:=[(0,iV 10),(1,iV 9),(2,iV 7),(3,iV 5)]) ⟨rfl,rfl,rfl,rfl,rfl,rfl,rfl,rfl,trivial⟩ (cs:=[iV 10,iV 9,iV 7,iV 5]) (by kernel_rfl) rfl ?_));clear S;intro a w8 b5 hz5 hk8 S
 obtain ⟨r3,hr3,h⟩:=Eg h
 refine Ga 5 S (b:=O) rfl rfl (fun _=>.blk O [U,iV r3.2] 25) (fun _=>Cw (vs:=[.pointer (some ⟨O,0,none⟩),.slice (some ⟨b5,0,none⟩) 4 4]) ⟨(S.tm rfl),(S.tm rfl),trivial⟩ call15) (Lv _ O U Aj (Ak.mono (S.le_arg (Ix (i:=5) (e:=.blk O [U,iV r2.2] 25) rfl))) r2.2 (S.holds _ (List.mem_of_getElem? (i:=5) rfl)) (.slice (some ⟨b5,0,none⟩) 4 4) [10,9,7,5] (Jm Hj S (i:=0) rfl rfl rfl rfl ((Ns (i:=5) (j:=0) (e:=.blk O [U,iV r2.2] 25) (e':=.blk b5 [iV 10,iV 9,iV 7,iV 5] 3) S rfl rfl rfl) _ rfl)) _ hr3) rfl (fun _ _ _ h=>⟨h.1,fun _ hc=>by cases hc;rfl⟩) ?_;clear S;intro v3 a w9 hv3 hk9 hn3 S
 replace hv3:=hv3.2
 subst hv3
 refine Va S rfl rfl fun a S=>Ld ?_
 replace S:=(S.nl [.own (.slice none 0 0) 3 1 ([] : List Int).length (([] : List Int).flatMap eInt),.blk b4 [(.slice none 0 0),iV r1.1,iV r2.1] 27,.own (.slice none 0 0) 3 1 ([] : List Int).length (([] : List Int).flatMap eInt),.blk b1 [(.slice none 0 0),iV 0,iV 0] 27,.blk O [U,iV r3.2] 25] [false,true,true,true,true,true] rfl).k4 0 2 3 4 rfl
 refine Tn (Fs (Fr (Vm S rfl rfl ?_)));clear S;intro a S
 obtain ⟨r4,hr4,h⟩:=Eg h
 refine Ga 4 S (b:=O) rfl rfl (fun _=>.blk O [U,iV r4.2] 25) (fun _=>Cw (vs:=[.pointer (some ⟨O,0,none⟩),iV 0,iV 5]) ⟨(S.tm rfl),rfl,rfl,trivial⟩ call16) (Qf _ O U Aj (Ak.mono (S.le_arg (Ix (i:=4) (e:=.blk O [U,iV r3.2] 25) rfl))) r3.2 (S.holds _ (List.mem_of_getElem? (i:=4) rfl)) 0 5 _ hr4) rfl (fun _ _ _ h=>⟨h.1,fun _ hc=>by cases hc;rfl⟩) ?_;clear S;intro v4 a w10 hv4 hk10 hn4 S
 replace hv4:=hv4.2
 subst hv4
 refine lv S (Rm rfl) rfl fun a S=>Dl ?_
 replace S:=(S.nl [.own (.slice none 0 0) 3 1 ([] : List Int).length (([] : List Int).flatMap eInt),.blk b4 [(.slice none 0 0),iV r1.1,iV r2.1] 27,.own (.slice none 0 0) 3 1 ([] : List Int).length (([] : List Int).flatMap eInt),.blk b1 [(.slice none 0 0),iV 0,iV 0] 27,.blk O [U,iV r4.2] 25] [true,true,true,true,true] rfl).k6 0 2 3 4 16 17 rfl
 obtain ⟨j1,hj1,h⟩:=Ec h
 refine Ds (fun a w'=>∃ x1 : List Int,∃ x2 : Int,∃ v5 : Value,j1 x1 x2 = some r ∧ Sx w [O] nov [.own v5 3 1 x1.length (x1.flatMap eInt),.blk b4 [v5,iV r1.1,iV r2.1] 27,.own (.slice none 0 0) 3 1 ([] : List Int).length (([] : List Int).flatMap eInt),.blk b1 [(.slice none 0 0),iV 0,iV 0] 27,.blk O [U,iV x2] 25] [(2,.pointer (some ⟨b1,0,none⟩)),(3,.pointer (some ⟨b4,0,none⟩))] 33 a w') ?_ ?_
 ·refine wp_block (Fi (fun (m1 : Nat) a w'=>∃ x1 : List Int,∃ x2 : Int,∃ x3 : Int,∃ x4 : Int,∃ v5 : Value,Gy r4 Aj j1 m1 x1 x2 x3 x4 = some r ∧ Sx w [O] nov [.own v5 3 1 x1.length (x1.flatMap eInt),.blk b4 [v5,iV r1.1,iV r2.1] 27,.own (.slice none 0 0) 3 1 ([] : List Int).length (([] : List Int).flatMap eInt),.blk b1 [(.slice none 0 0),iV 0,iV 0] 27,.blk O [U,iV x2] 25] [(0,.pointer (some ⟨O,0,none⟩)),(2,.pointer (some ⟨b1,0,none⟩)),(3,.pointer (some ⟨b4,0,none⟩)),(4,iV x3),(16,iV r4.1),(17,iV x4)] 33 a w') id ((r4.1 - 0).toNat + 2) ⟨([] : List Int),r4.2,r3.1,0,(.slice none 0 0),h,S.nf [true,true,true,true,true] rfl (subR rfl)⟩ ?_)
  clear S h;rintro m1 a w11 ⟨x1,x2,x3,x4,v5,h,S⟩
  cases m1 with
  | zero=>rw [Gy.eq_1] at h;cases h
  | succ m1 =>
   rw [Gy.eq_2] at h
   refine Fr (Vb S Dt rfl rfl rfl fun a S=>Dl (Fs (Fc h (S.tm rfl) (fun hb1 h=>?_) (fun hb1 h=>?_))))
   ·refine wp_skip (Tn (Fs (wp_block (Fr (Vf Qo S rfl rfl fun a S=>Vl isAgg22 1 S rfl rfl rfl rfl fun a S=>Vm S rfl rfl fun a S=>Ed S underlying22 sizeOf3 zeroValue3 rfl rfl (pv:=[(0,iV x3)]) ⟨rfl,(S.tm rfl),trivial⟩ (cs:=[iV x3]) (by kernel_rfl) rfl ?_)))));clear S;intro a w13 b6 hz6 hk11 S
    obtain ⟨hc1,h⟩:=Hl h
    refine Mx Ka Hj S (S.tm rfl) (i:=1) rfl (S.tm rfl) (j:=0) rfl (ys:=[x3]) rfl rfl rfl rfl (by have:=Nd hc1;omega) rfl ?_;clear S;intro v6 a w14 hk12 S
    refine Vf Qo S rfl rfl fun a S=>Gl S (S.tm rfl) (S.tm rfl) (i:=2) (off:=0) rfl sizeOf22 (vs:=[v6]) (Kl.cells (Nn (S.own_at (i:=1) rfl))) rfl rfl (Rq (Kl.one (Nn (S.own_at (i:=1) rfl))) rfl) ?_;clear S;intro w15 hk13 S
    refine Ld ?_
    replace S:=(S.nl [.own v6 3 1 (x1 ++ [x3]).length ((x1 ++ [x3]).flatMap eInt),.blk b4 [v6,iV r1.1,iV r2.1] 27,.own (.slice none 0 0) 3 1 ([] : List Int).length (([] : List Int).flatMap eInt),.blk b1 [(.slice none 0 0),iV 0,iV 0] 27,.blk O [U,iV x2] 25] [false,true,true,true,true,true] rfl).k6 0 2 3 4 16 17 rfl
    refine Tn (Fg (Vm S rfl rfl fun a S=>Vm S rfl rfl fun a S=>Ed S underlying22 sizeOf3 zeroValue3 rfl rfl (pv:=[(0,iV 0),(1,iV 1),(2,iV 2),(3,iV 3)]) ⟨rfl,rfl,rfl,rfl,rfl,rfl,rfl,rfl,trivial⟩ (cs:=[iV 0,iV 1,iV 2,iV 3]) (by kernel_rfl) rfl ?_));clear S;intro a w16 b7 hz7 hk14 S
    obtain ⟨r5,hr5,h⟩:=Eg h
    refine Ga 5 S (b:=O) rfl rfl (fun _=>.blk O [U,iV r5.2] 25) (fun _=>Cw (vs:=[.pointer (some ⟨O,0,none⟩),.slice (some ⟨b7,0,none⟩) 4 4]) ⟨(S.tm rfl),(S.tm rfl),trivial⟩ call15) (Lv _ O U Aj (Ak.mono (S.le_arg (Ix (i:=5) (e:=.blk O [U,iV x2] 25) rfl))) x2 (S.holds _ (List.mem_of_getElem? (i:=5) rfl)) (.slice (some ⟨b7,0,none⟩) 4 4) [0,1,2,3] (Jm Hj S (i:=0) rfl rfl rfl rfl ((Ns (i:=5) (j:=0) (e:=.blk O [U,iV x2] 25) (e':=.blk b7 [iV 0,iV 1,iV 2,iV 3] 3) S rfl rfl rfl) _ rfl)) _ hr5) rfl (fun _ _ _ h=>⟨h.1,fun _ hc=>by cases hc;rfl⟩) ?_;clear S;intro v7 a w17 hv5 hk15 hn5 S
    replace hv5:=hv5.2
    subst hv5
    refine Vb S Jb rfl rfl rfl fun a S=>Vu S (EE rfl) rfl rfl fun a S=>Va S rfl rfl fun a S=>Ld ?_
    replace S:=(S.nl [.own v6 3 1 (x1 ++ [x3]).length ((x1 ++ [x3]).flatMap eInt),.blk b4 [v6,iV r1.1,iV r2.1] 27,.own (.slice none 0 0) 3 1 ([] : List Int).length (([] : List Int).flatMap eInt),.blk b1 [(.slice none 0 0),iV 0,iV 0] 27,.blk O [U,iV r5.2] 25] [false,true,true,true,true,true] rfl).k6 0 2 3 4 16 17 rfl
    exact Gx (Tn (Fg (Vq S Ek rfl rfl rfl fun a S=>Vm S rfl rfl fun a S=>Dl (⟨m1,⟨(x1 ++ [x3]),r5.2,Vt 0 (W (x3 - r5.1)),W (x4 + 1),v6,h,S.nf [true,true,true,true,true] rfl ⟨rfl,rfl,rfl,rfl,rfl,rfl,trivial⟩⟩,Nat.lt_succ_self _⟩))))
   ·exact wp_exit (Dj (Dj (Fj (Tn (⟨x1,x2,v5,h,S.nf [true,true,true,true,true] rfl (subR rfl)⟩)))))
 clear S h;rintro a w12 ⟨x1,x2,v5,h,S⟩;rw [hj1] at h;clear hj1 j1
 refine Tn (Fr (lv S (Fp isAgg27 sizeOf27 (off:=0) (o:=0) (part:=[v5,iV r1.1,iV r2.1]) rfl rfl (S.tm rfl) (S.cellsAt (i:=1) rfl)) rfl fun a S=>Gl S (S.tm rfl) (S.tm rfl) (i:=3) (off:=0) rfl sizeOf27 (vs:=[v5,iV r1.1,iV r2.1]) rfl rfl rfl (Rq (Kl.one (Nn (S.own_at (i:=0) rfl))) (Rq rfl (Rq rfl rfl))) ?_));clear S;intro w18 hk16 S
 refine Dl (wp_ret ?_)
 obtain ⟨φ1,hl1,hs1,S⟩:=S.freezeT (xs:=x1) (enc:=eInt) (i:=0) rfl (fun c hc hh=>Ul S (i:=4) rfl rfl (j:=0) rfl rfl (by simp at hc;subst hc;exact hh))
 replace S:=S.nk [.blk b4 [v5,iV r1.1,iV r2.1] 27,.own (.slice none 0 0) 3 1 ([] : List Int).length (([] : List Int).flatMap eInt),.blk b1 [v5,iV r1.1,iV r2.1] 27,.blk O [U,iV x2] 25] [(2,.pointer (some ⟨b1,0,none⟩)),(3,.pointer (some ⟨b4,0,none⟩)),(32,.agg #[v5,iV r1.1,iV r2.1])] [] rfl (subR rfl)
 obtain rfl:=Option.some.inj h
 exact BG S (rs:=[.cell 2 27]) (vs:=[.agg (R27.enc (R27.mk ⟨v5,Kl.one (Ej (Ha Hj hs1))⟩ r1.1 r2.1)).toArray]) results4 ⟨(Wc (off:=0) S rfl isAgg27 sizeOf27 rfl (S.cellsAt (i:=2) rfl)),trivial⟩ rfl ⟨(S.holds _ (List.mem_of_getElem? (i:=3) rfl)),⟨(R27.mk ⟨v5,Kl.one (Ej (Ha Hj hs1))⟩ r1.1 r2.1),rfl,Rh S.le_newer _ _ ⟨⟨v5,Kl.one (Ej (Ha Hj hs1))⟩,rfl,(Ha Hj hs1)⟩⟩⟩
theorem Pi (w : World) (O : Nat) (U : Value) (Aj : List Int) (Ak : Slc (view w [O]) 1 U (Aj.map eInt)) (Af : Int) (Au : (LEnt.blk O [U,iV Af] 25).holds w) (Ay : Int) (r : Bool × Int) (h : Mi Aj Af Ay = some r) :
    Calls prog 17 [.pointer (some ⟨O,0,none⟩),iV Ay].toArray w (Ret w [O] fun _ v w'=>(LEnt.blk O [U,iV r.2] 25).holds w' ∧ v = bV r.1):=by
 refine Kv [O] [.blk O [U,iV Af] 25] func17 rfl ntmps17 rfl (fun e he=>by simp only [List.mem_singleton] at he;subst he;exact Au) (by simp [fps,LEnt.fp]) (by simp [fps,LEnt.fp]) fun a S=>?_
 unfold Mi at h
 replace S:=(S.nl [.blk O [U,iV Af] 25] [true] rfl).k2 0 1 rfl
 refine Fr (Vk S rfl rfl fun a S=>Dz (Vm S rfl rfl fun a S=>Vm S rfl rfl ?_));clear S;intro a S
 obtain ⟨r1,hr1,h⟩:=Eg h
 refine Ga 0 S (b:=O) rfl rfl (fun _=>.blk O [U,iV r1.2] 25) (fun _=>Cw (vs:=[.pointer (some ⟨O,0,none⟩),iV Ay]) ⟨(S.tm rfl),(S.tm rfl),trivial⟩ call38) (Ph _ O U Aj (Ak.mono (S.le_arg (Ix (i:=0) (e:=.blk O [U,iV Af] 25) rfl))) Af (S.holds _ (List.mem_of_getElem? (i:=0) rfl)) Ay _ hr1) rfl (fun _ _ _ h=>⟨h.1,fun _ hc=>by cases hc;rfl⟩) ?_;clear S;intro v1 a w1 hv1 hk1 hn1 S
 replace hv1:=hv1.2
 subst hv1
 refine Vq S Jz rfl rfl rfl fun a S=>Va S rfl rfl fun a S=>Dl (wp_ret ?_)
 obtain rfl:=Option.some.inj h
 exact Dx S results17 rfl ⟨(S.holds _ (List.mem_of_getElem? (i:=0) rfl)),rfl⟩
theorem Kf (w : World) (O : Nat) (U : Value) (Aj : List Int) (Ak : Slc (view w [O]) 1 U (Aj.map eInt)) (Af : Int) (Au : (LEnt.blk O [U,iV Af] 25).holds w) (Ab : Value) (Ad : List ByteArray) (Ac : Slc (view w [O]) 1 Ab (Ad.map Tp)) (r : ByteArray × Int) (h : Mj Aj Af Ad = some r) :
    Calls prog 18 [.pointer (some ⟨O,0,none⟩),Ab].toArray w (Ret w [O] fun _ v w'=>(LEnt.blk O [U,iV r.2] 25).holds w' ∧ v = sV r.1):=by
 refine Kv [O] [.blk O [U,iV Af] 25] func18 rfl ntmps18 rfl (fun e he=>by simp only [List.mem_singleton] at he;subst he;exact Au) (by simp [fps,LEnt.fp]) (by simp [fps,LEnt.fp]) fun a S=>?_
 unfold Mj at h
 replace S:=(S.nl [.blk O [U,iV Af] 25] [true] rfl).k2 0 1 rfl
 refine Fr (Vk S rfl rfl fun a S=>Dl (Fs (Fg ?_)))
 iterate 3 (refine Vm S rfl rfl ?_;clear S;intro a S)
 refine lv S (Ee Rb (S.tm rfl) (Ej Ac)) rfl ?_;clear S;intro a S
 obtain ⟨r1,hr1,h⟩:=Eg h
 refine Ga 0 S (b:=O) rfl rfl (fun _=>.blk O [U,iV r1.2] 25) (fun _=>Cw (vs:=[.pointer (some ⟨O,0,none⟩),iV (Ad.length : Int)]) ⟨(S.tm rfl),(S.tm rfl),trivial⟩ call38) (Ph _ O U Aj (Ak.mono (S.le_arg (Ix (i:=0) (e:=.blk O [U,iV Af] 25) rfl))) Af (S.holds _ (List.mem_of_getElem? (i:=0) rfl)) (Ad.length : Int) _ hr1) rfl (fun _ _ _ h=>⟨h.1,fun _ hc=>by cases hc;rfl⟩) ?_;clear S;intro v1 a w1 hv1 hk1 hn1 S
 replace hv1:=hv1.2
 subst hv1
 obtain ⟨hc1,h⟩:=Hl h
 obtain ⟨b1,o1,hm1,hr2⟩:=Eb (a:=a) (x:=.tmp 5) (y:=.tmp 9) (ty:=0) Rb Ac (Db hc1).1 (Db hc1).2 (S.tm rfl) (S.tm rfl)
 refine lv S (hr2 _) rfl ?_;clear S;intro a S
 clear hr2
 refine lv S (Gk isAgg9 (off:=o1) (o:=0) (S.tm rfl) (hm1.at S.emb0) rfl) rfl fun a S=>Va S rfl rfl fun a S=>Dl (wp_ret ?_)
 obtain rfl:=Option.some.inj h
 exact Dx S results18 rfl ⟨(S.holds _ (List.mem_of_getElem? (i:=0) rfl)),rfl⟩
set_option maxRecDepth 20000 in
theorem Zn (w : World) (Al : Int) (r : Int) (h : Vi Al = some r) :
    Calls prog 74 [.int .u32 Al].toArray w (Ret w [] fun _ v _=>v = iV r):=by
 refine Fe func74 rfl ntmps74 rfl fun a S=>?_
 unfold Vi at h
 replace S:=S.k1 0 rfl
 refine Fr (Vk S rfl rfl fun a S=>Dl (Fs (Fr (Vm S rfl rfl fun a S=>Vq S Nr rfl rfl rfl fun a S=>Ld ?_))))
 refine Tn ?_
 obtain ⟨j1,hj1,h⟩:=Ec h
 refine Ds (fun a w'=>∃ x1 : Int,∃ x2 : Int,j1 x1 x2 = some r ∧ Sx w [] nov [] [(0,.int .u32 x1),(2,iV x2)] 19 a w') ?_ ?_
 ·refine Fc h (S.tm rfl) (fun hb1 h=>?_) (fun hb1 h=>?_)
  ·refine Fr (Vm S rfl rfl fun a S=>lv S (Ox (S.tm rfl) rfl (by decide)) rfl fun a S=>Va S rfl rfl fun a S=>Dl (Fg (Vk S rfl rfl fun a S=>Dl ?_)))
   exact ⟨Dw .u32 Al 16,16,h,S.nf [] rfl (subR rfl)⟩
  ·exact wp_skip (Tn (⟨Al,0,h,S.nf [] rfl (subR rfl)⟩))
 clear S h;rintro a w1 ⟨x1,x2,h,S⟩;rw [hj1] at h;clear hj1 j1
 refine Tn (Fs (Fr (Vm S rfl rfl fun a S=>Vq S Nr rfl rfl rfl fun a S=>Dl ?_)))
 obtain ⟨j2,hj2,h⟩:=Ec h
 refine Ds (fun a w'=>∃ x3 : Int,∃ x4 : Int,j2 x3 x4 = some r ∧ Sx w [] nov [] [(0,.int .u32 x3),(2,iV x4)] 19 a w') ?_ ?_
 ·refine Fc h (S.tm rfl) (fun hb2 h=>?_) (fun hb2 h=>?_)
  ·refine Fr (Vm S rfl rfl fun a S=>lv S (Ox (S.tm rfl) rfl (by decide)) rfl fun a S=>Va S rfl rfl fun a S=>Dl (Fg (Vm S rfl rfl fun a S=>Vq S Ek rfl rfl rfl fun a S=>Va S rfl rfl ?_)));clear S;intro a S
   exact Dl (⟨Dw .u32 x1 8,W (x2 + 8),h,S.nf [] rfl (subR rfl)⟩)
  ·exact wp_skip (Tn (⟨x1,x2,h,S.nf [] rfl (subR rfl)⟩))
 clear S h;rintro a w2 ⟨x3,x4,h,S⟩;rw [hj2] at h;clear hj2 j2
 refine Tn (Fr (Vm S rfl rfl fun a S=>Vm S rfl rfl fun a S=>Vu S (Og underlying133 underlying5) rfl rfl ?_));clear S;intro a S
 obtain ⟨hc1,h⟩:=Hl h
 refine lv S (Sl underlying9 rfl (S.tm rfl) hc1) rfl fun a S=>Vu S (Og underlying5 underlying3) rfl rfl fun a S=>Vb S Ek rfl rfl rfl fun a S=>Va S rfl rfl fun a S=>Dl (wp_ret ?_)
 obtain rfl:=Option.some.inj h
 exact Dx S results74 rfl rfl
set_option maxRecDepth 20000 in
theorem Ve (w : World) (Al : Int) (r : Int) (h : So Al = some r) :
    Calls prog 75 [.int .u64 Al].toArray w (Ret w [] fun _ v _=>v = iV r):=by
 refine Fe func75 rfl ntmps75 rfl fun a S=>?_
 unfold So at h
 replace S:=S.k1 0 rfl
 refine Fr (Vk S rfl rfl fun a S=>Dl (Fs (Fr (Vm S rfl rfl fun a S=>Vq S Nr rfl rfl rfl fun a S=>Ld ?_))))
 refine Tn ?_
 obtain ⟨j1,hj1,h⟩:=Ec h
 refine Ds (fun a w'=>∃ x1 : Int,∃ x2 : Int,j1 x1 x2 = some r ∧ Sx w [] nov [] [(0,.int .u64 x1),(2,iV x2)] 25 a w') ?_ ?_
 ·refine Fc h (S.tm rfl) (fun hb1 h=>?_) (fun hb1 h=>?_)
  ·refine Fr (Vm S rfl rfl fun a S=>lv S (Ox (S.tm rfl) rfl (by decide)) rfl fun a S=>Va S rfl rfl fun a S=>Dl (Fg (Vk S rfl rfl fun a S=>Dl ?_)))
   exact ⟨Dw .u64 Al 32,32,h,S.nf [] rfl (subR rfl)⟩
  ·exact wp_skip (Tn (⟨Al,0,h,S.nf [] rfl (subR rfl)⟩))
 clear S h;rintro a w1 ⟨x1,x2,h,S⟩;rw [hj1] at h;clear hj1 j1
 refine Tn (Fs (Fr (Vm S rfl rfl fun a S=>Vq S Nr rfl rfl rfl fun a S=>Dl ?_)))
 obtain ⟨j2,hj2,h⟩:=Ec h
 refine Ds (fun a w'=>∃ x3 : Int,∃ x4 : Int,j2 x3 x4 = some r ∧ Sx w [] nov [] [(0,.int .u64 x3),(2,iV x4)] 25 a w') ?_ ?_
 ·refine Fc h (S.tm rfl) (fun hb2 h=>?_) (fun hb2 h=>?_)
  ·refine Fr (Vm S rfl rfl fun a S=>lv S (Ox (S.tm rfl) rfl (by decide)) rfl fun a S=>Va S rfl rfl fun a S=>Dl (Fg (Vm S rfl rfl fun a S=>Vq S Ek rfl rfl rfl fun a S=>Va S rfl rfl ?_)));clear S;intro a S
   exact Dl (⟨Dw .u64 x1 16,W (x2 + 16),h,S.nf [] rfl (subR rfl)⟩)
  ·exact wp_skip (Tn (⟨x1,x2,h,S.nf [] rfl (subR rfl)⟩))
 clear S h;rintro a w2 ⟨x3,x4,h,S⟩;rw [hj2] at h;clear hj2 j2
 refine Tn (Fs (Fr (Vm S rfl rfl fun a S=>Vq S Nr rfl rfl rfl fun a S=>Dl ?_)))
 obtain ⟨j3,hj3,h⟩:=Ec h
 refine Ds (fun a w'=>∃ x5 : Int,∃ x6 : Int,j3 x5 x6 = some r ∧ Sx w [] nov [] [(0,.int .u64 x5),(2,iV x6)] 25 a w') ?_ ?_
 ·refine Fc h (S.tm rfl) (fun hb3 h=>?_) (fun hb3 h=>?_)
  ·refine Fr (Vm S rfl rfl fun a S=>lv S (Ox (S.tm rfl) rfl (by decide)) rfl fun a S=>Va S rfl rfl fun a S=>Dl (Fg (Vm S rfl rfl fun a S=>Vq S Ek rfl rfl rfl fun a S=>Va S rfl rfl ?_)));clear S;intro a S
   exact Dl (⟨Dw .u64 x3 8,W (x4 + 8),h,S.nf [] rfl (subR rfl)⟩)
  ·exact wp_skip (Tn (⟨x3,x4,h,S.nf [] rfl (subR rfl)⟩))
 clear S h;rintro a w3 ⟨x5,x6,h,S⟩;rw [hj3] at h;clear hj3 j3
 refine Tn (Fr (Vm S rfl rfl fun a S=>Vm S rfl rfl fun a S=>Vu S (Og underlying111 underlying5) rfl rfl ?_));clear S;intro a S
 obtain ⟨hc1,h⟩:=Hl h
 refine lv S (Sl underlying9 rfl (S.tm rfl) hc1) rfl fun a S=>Vu S (Og underlying5 underlying3) rfl rfl fun a S=>Vb S Ek rfl rfl rfl fun a S=>Va S rfl rfl fun a S=>Dl (wp_ret ?_)
 obtain rfl:=Option.some.inj h
 exact Dx S results75 rfl rfl
theorem Tx (w : World) (Al : Int) (r : Int) (h : Ry Al = some r) :
    Calls prog 40 [.int .u64 Al].toArray w (Ret w [] fun _ v _=>v = iV r):=by
 refine Fe func40 rfl ntmps40 rfl fun a S=>?_
 unfold Ry at h
 replace S:=S.k1 0 rfl
 refine Fr (Vk S rfl rfl fun a S=>Dl (Fs (Fc h rfl (fun hb1 h=>?_) (fun hb1 h=>?_))))
 ·refine Fr (Vm S rfl rfl fun a S=>Vu S (Og underlying99 underlying133) rfl rfl ?_);clear S;intro a S
  obtain ⟨r1,hr1,h⟩:=Eg h
  refine Dc S (fun _=>Cw (vs:=[.int .u32 (IntKind.wrap .u32 Al)]) ⟨(S.tm rfl),trivial⟩ call74) (Zn _ (IntKind.wrap .u32 Al) _ hr1) rfl ?_;clear S;intro v1 a w1 hv1 hk1 hn1 S
  subst hv1
  refine Va S rfl rfl fun a S=>Dl (wp_ret (Cx ?_))
  obtain rfl:=Option.some.inj h
  exact Dx S results40 rfl rfl
 ·refine wp_skip (Tn (Fr (Vm S rfl rfl ?_)));clear S;intro a S
  obtain ⟨r2,hr2,h⟩:=Eg h
  refine Dc S (fun _=>Cw (vs:=[.int .u64 Al]) ⟨(S.tm rfl),trivial⟩ call75) (Ve _ Al _ hr2) rfl ?_;clear S;intro v2 a w2 hv2 hk2 hn2 S
  subst hv2
  refine Va S rfl rfl fun a S=>Dl (wp_ret ?_)
  obtain rfl:=Option.some.inj h
  exact Dx S results40 rfl rfl
theorem Lw (w : World) (s t : ByteArray) (r : Int) (h : Fl s t = r) : Calls prog 42 [.string s,.string t].toArray w (Ret w [] fun _ v _=>v = .int .i64 r):=by
  subst h
  exact CJ (Any.strings_Compare Tryz.lays106 s t w)
theorem Kg (w : World) (Am : An) (r : Int) (h : Ew Am = r) :
    Calls prog 41 [.agg (An.enc Am).toArray].toArray w (Ret w [] fun _ v _=>v = iV r):=by
 refine Fe func41 rfl ntmps41 rfl fun a S=>?_
 unfold Ew at h
 replace S:=S.k1 0 rfl
 refine Fr (Nj S (S.tm rfl) (cs:=(An.enc Am)) rfl rfl ?_);clear S;intro a w1 b1 hz1 hk1 S
 refine Vk S rfl rfl fun a S=>Dl (Fs (Fr (Vf Jy S rfl rfl fun a S=>Vl isAgg3 0 S rfl rfl rfl rfl fun a S=>Vq S Jz rfl rfl rfl fun a S=>Dl ?_)))
 refine Fc h (S.tm rfl) (fun hb1 h=>?_) (fun hb1 h=>?_)
 ·refine Fr (Vk S rfl rfl fun a S=>Dl (wp_ret (Cx ?_)))
  subst h
  exact Dx S results41 rfl rfl
 ·refine wp_skip (Tn (Fr (Vf Jy S rfl rfl fun a S=>Vl isAgg3 0 S rfl rfl rfl rfl fun a S=>Va S rfl rfl fun a S=>Dl (wp_ret ?_))))
  subst h
  exact Dx S results41 rfl rfl
theorem Xa (w : World) (Ay : Int) (r : Int) (h : Oe Ay = r) :
    Calls prog 43 [iV Ay].toArray w (Ret w [] fun _ v _=>v = iV r):=by
 refine Fe func43 rfl ntmps43 rfl fun a S=>?_
 unfold Oe at h
 replace S:=S.k1 0 rfl
 refine Fr (Vk S rfl rfl fun a S=>Dl (Fs (wp_block (Fr (Vm S rfl rfl fun a S=>Vq S Dt rfl rfl rfl ?_)))));clear S;intro a S
 refine Va S rfl rfl fun a S=>Dl (Fc h (S.tm rfl) (fun hb1 h=>?_) (fun hb1 h=>?_))
 ·refine Fr (Vk S rfl rfl fun a S=>Dl (wp_ret (Em (Cx ?_))))
  subst h
  exact Dx S results43 rfl rfl
 ·refine Fr (Vm S rfl rfl fun a S=>Vq S Ji rfl rfl rfl fun a S=>Va S rfl rfl fun a S=>Dl (Fc h (S.tm rfl) (fun hb2 h=>?_) (fun hb2 h=>?_)))
  ·refine Fr (Vk S rfl rfl fun a S=>Dl (wp_ret (Em (Cx ?_))))
   subst h
   exact Dx S results43 rfl rfl
  ·refine wp_skip (Gx (Tn (Fr (Vk S rfl rfl fun a S=>Dl (wp_ret ?_)))))
   subst h
   exact Dx S results43 rfl rfl
set_option maxRecDepth 20000 in
theorem Rz (w : World) (Ag : An) (Ah : An) (r : Int) (h : Ey Ag Ah = r) :
    Calls prog 20 [.agg (An.enc Ag).toArray,.agg (An.enc Ah).toArray].toArray w (Ret w [] fun _ v _=>v = iV r):=by
 refine Fe func20 rfl ntmps20 rfl fun a S=>?_
 unfold Ey at h
 replace S:=S.k2 0 1 rfl
 refine Fr (Nj S (S.tm rfl) (cs:=(An.enc Ag)) rfl rfl ?_);clear S;intro a w1 b1 hz1 hk1 S
 refine Nj S (S.tm rfl) (cs:=(An.enc Ah)) rfl rfl ?_;clear S;intro a w2 b2 hz2 hk2 S
 refine Vk S rfl rfl fun a S=>Dz (Vk S rfl rfl fun a S=>Dl (Fs (wp_block (Fs ?_))))
 refine Fg (Vf Ol S rfl rfl fun a S=>Vl isAgg9 1 S rfl rfl rfl rfl fun a S=>Vf Ol S rfl rfl fun a S=>Vl isAgg9 0 S rfl rfl rfl rfl fun a S=>Vb S Xz rfl rfl rfl fun a S=>Va S rfl rfl fun a S=>Dl (Fc h (S.tm rfl) (fun hb1 h=>?_) (fun hb1 h=>?_)))
 ·refine Fr (Vf Ol S rfl rfl fun a S=>Vl isAgg9 1 S rfl rfl rfl rfl fun a S=>Vf Ol S rfl rfl fun a S=>Vl isAgg9 0 S rfl rfl rfl rfl fun a S=>Dc S (fun _=>Cw (vs:=[sV Ag.Race,sV Ah.Race]) ⟨(S.tm rfl),(S.tm rfl),trivial⟩ call42) (Lw _ Ag.Race Ah.Race _ rfl) rfl ?_);clear S;intro v1 a w3 hv1 hk3 hn1 S
  subst hv1
  refine Va S rfl rfl fun a S=>Ld ?_
  replace S:=S.n0.k1 4 rfl
  refine Tn (wp_ret (Em (Cx ?_)))
  subst h
  exact Dx S results20 rfl rfl
 ·refine Fs (Fw [] ([]) Tryz.mixed S rfl (by kernel_rfl) ?_);clear S;intro w6 hk6 hsel S
  refine Dk 0 S hsel rfl rfl rfl (by kernel_rfl) (by kernel_rfl) rfl (fun _ hw=>(Rm (S.tm rfl))) fun a S=>Dk 1 S hsel rfl rfl rfl (by kernel_rfl) (by kernel_rfl) rfl (fun _ hw=>(Fp isAgg49 sizeOf49 (off:=0) (o:=0) (part:=(An.enc Ag)) rfl rfl (S.tm rfl) ((S.blk_mem (i:=1) (cells:=(An.enc Ag)) (b:=b1) (T:=49) rfl (Gn (e':=.blk b1 (An.enc Ag) 49))).kept hw))) fun a S=>Dk 3 S hsel rfl rfl rfl (by kernel_rfl) (by kernel_rfl) rfl (fun _ hw=>(Rm (S.tm rfl))) fun a S=>Dk 4 S hsel rfl rfl rfl (by kernel_rfl) (by kernel_rfl) rfl (fun _ hw=>(Fp isAgg49 sizeOf49 (off:=0) (o:=0) (part:=(An.enc Ah)) rfl rfl (S.tm rfl) ((S.blk_mem (i:=0) (cells:=(An.enc Ah)) (b:=b2) (T:=49) rfl (Gn (e':=.blk b2 (An.enc Ah) 49))).kept hw))) fun a S=>Ex 2 (by kernel_rfl) rfl (Dc S (fun _=>Oq (cap:=[]) (S.tm rfl) (vs:=[.agg (An.enc Ag).toArray]) ⟨(S.tm rfl),trivial⟩ call41) (Kg _ Ag _ rfl) rfl ?_);clear S;intro v4 a w7 hv4 hk7 hn4 S
  subst hv4
  refine Ld (Fx hk7 (Ex 5 (by kernel_rfl) rfl (Dc S (fun _=>Oq (cap:=[]) (S.tm rfl) (vs:=[.agg (An.enc Ah).toArray]) ⟨(S.tm rfl),trivial⟩ call41) (Kg _ Ah _ rfl) rfl ?_)));clear S;intro v5 a w8 hv5 hk8 hn5 S
  subst hv5
  refine Ld (Fx hk8 (Kc [6,7] hsel (by kernel_rfl) rfl ?_))
  clear hsel
  refine En S rfl (Lo (S.tm rfl) (S.tm rfl)) rfl fun a S=>En S rfl (Ra (S.tm rfl)) rfl fun a S=>Hk ?_
  replace S:=(S.nl [.blk b2 (An.enc Ah) 49,.blk b1 (An.enc Ag) 49] [true,true] rfl).k4 2 3 5 17 rfl
  refine Tn (Fc h (S.tm rfl) (fun hb2 h=>?_) (fun hb2 h=>?_))
  ·refine Fs (Fw [] ([]) Tryz.mixed S rfl (by kernel_rfl) ?_);clear S;intro w12 hk12 hsel S
   refine Dk 0 S hsel rfl rfl rfl (by kernel_rfl) (by kernel_rfl) rfl (fun _ hw=>(Rm (S.tm rfl))) fun a S=>Dk 1 S hsel rfl rfl rfl (by kernel_rfl) (by kernel_rfl) rfl (fun _ hw=>(Fp isAgg49 sizeOf49 (off:=0) (o:=0) (part:=(An.enc Ag)) rfl rfl (S.tm rfl) ((S.blk_mem (i:=1) (cells:=(An.enc Ag)) (b:=b1) (T:=49) rfl (Gn (e':=.blk b1 (An.enc Ag) 49))).kept hw))) fun a S=>Dk 3 S hsel rfl rfl rfl (by kernel_rfl) (by kernel_rfl) rfl (fun _ hw=>(Rm (S.tm rfl))) fun a S=>Dk 4 S hsel rfl rfl rfl (by kernel_rfl) (by kernel_rfl) rfl (fun _ hw=>(Fp isAgg49 sizeOf49 (off:=0) (o:=0) (part:=(An.enc Ah)) rfl rfl (S.tm rfl) ((S.blk_mem (i:=0) (cells:=(An.enc Ah)) (b:=b2) (T:=49) rfl (Gn (e':=.blk b2 (An.enc Ah) 49))).kept hw))) fun a S=>Ex 2 (by kernel_rfl) rfl (Dc S (fun _=>Oq (cap:=[]) (S.tm rfl) (vs:=[.agg (An.enc Ag).toArray]) ⟨(S.tm rfl),trivial⟩ call41) (Kg _ Ag _ rfl) rfl ?_);clear S;intro v9 a w13 hv9 hk13 hn9 S
   subst hv9
   refine Ld (Fx hk13 (Ex 5 (by kernel_rfl) rfl (Dc S (fun _=>Oq (cap:=[]) (S.tm rfl) (vs:=[.agg (An.enc Ah).toArray]) ⟨(S.tm rfl),trivial⟩ call41) (Kg _ Ah _ rfl) rfl ?_)));clear S;intro v10 a w14 hv10 hk14 hn10 S
   subst hv10
   refine Ld (Fx hk14 (Dk 6 S hsel rfl rfl rfl (by kernel_rfl) (by kernel_rfl) rfl (fun _ hw=>(Jb (S.tm rfl) (S.tm rfl))) fun a S=>Ex 7 (by kernel_rfl) rfl (Dc S (fun _=>Cw (vs:=[iV (W ((Ew Ag) - (Ew Ah)))]) ⟨(S.tm rfl),trivial⟩ call43) (Xa _ (W ((Ew Ag) - (Ew Ah))) _ rfl) rfl ?_)));clear S;intro v11 a w15 hv11 hk15 hn11 S
   subst hv11
   refine Ld (Fx hk15 (Kc [8] hsel (by kernel_rfl) rfl ?_))
   clear hsel
   refine En S rfl (Ra (S.tm rfl)) rfl fun a S=>Hk ?_
   replace S:=S.n0.k1 4 rfl
   refine Tn (wp_ret (Em (Cx ?_)))
   subst h
   exact Dx S results20 rfl rfl
  ·refine wp_skip (Gx (Tn (Fr (Vf Ri S rfl rfl fun a S=>Vl isAgg9 1 S rfl rfl rfl rfl fun a S=>Vf Ri S rfl rfl fun a S=>Vl isAgg9 0 S rfl rfl rfl rfl fun a S=>Dc S (fun _=>Cw (vs:=[sV Ag.Who,sV Ah.Who]) ⟨(S.tm rfl),(S.tm rfl),trivial⟩ call42) (Lw _ Ag.Who Ah.Who _ rfl) rfl ?_))));clear S;intro v12 a w16 hv12 hk16 hn12 S
   subst hv12
   refine Va S rfl rfl fun a S=>Dl (wp_ret ?_)
   subst h
   exact Dx S results20 rfl rfl
set_option maxRecDepth 20000 in
theorem Kn (w : World) (Aa : Value) (Ai : List An) (Bc : (LEnt.own Aa 49 5 Ai.length (Ai.flatMap An.enc)).holds w) (Ag : Int) (Ah : Int) (r : (List An)) (h : Ei Ai Ag Ah = some r) :
    Calls prog 66 [Aa,iV Ag,iV Ah,.func (.func 20) #[] #[]].toArray w (Ret w (Aa.ownBlock.toList) fun _ v w'=>(LEnt.own Aa 49 5 r.length (r.flatMap An.enc)).holds w' ∧ v = .tuple #[]):=by
 refine Kv (Aa.ownBlock.toList) [.own Aa 49 5 Ai.length (Ai.flatMap An.enc)] func66 rfl ntmps66 rfl (fun e he=>by simp only [List.mem_singleton] at he;subst he;exact Bc) (Kb _) (Lc _) fun a S=>?_
 unfold Ei at h
 replace S:=(S.nl [.own Aa 49 5 Ai.length (Ai.flatMap An.enc)] [true] rfl).k4 0 1 2 3 rfl
 refine Fr (Vm S rfl rfl fun a S=>Vq S Ek rfl rfl rfl fun a S=>Va S rfl rfl fun a S=>Dl ?_)
 replace S:=S.k5 0 1 2 3 8 rfl
 obtain ⟨j1,hj1,h⟩:=Ec h
 refine Ds (fun a w'=>∃ x1 : List An,j1 x1 = some r ∧ Sx w (Aa.ownBlock.toList) nov [.own Aa 49 5 x1.length (x1.flatMap An.enc)] [] 53 a w') ?_ ?_
 ·refine wp_block (Fi (fun (m1 : Nat) a w'=>∃ x1 : List An,∃ x2 : Int,Dg Ah Ag j1 m1 x1 x2 = some r ∧ Sx w (Aa.ownBlock.toList) nov [.own Aa 49 5 x1.length (x1.flatMap An.enc)] [(0,Aa),(1,iV Ag),(2,iV Ah),(3,.func (.func 20) #[] #[]),(8,iV x2)] 53 a w') id ((Ah - (W (Ag + 1))).toNat + 2) ⟨Ai,W (Ag + 1),h,S.nf [true] rfl (subR rfl)⟩ ?_)
  clear S h;rintro m1 a w1 ⟨x1,x2,h,S⟩
  cases m1 with
  | zero=>rw [Dg.eq_1] at h;cases h
  | succ m1 =>
   rw [Dg.eq_2] at h
   refine Fs (Fr (Vm S rfl rfl fun a S=>Vm S rfl rfl fun a S=>Vb S Dt rfl rfl rfl fun a S=>Dl (Fc h (S.tm rfl) (fun hb1 h=>?_) (fun hb1 h=>?_))))
   ·refine wp_skip (Tn (Fs (wp_block (Fr (Vm S rfl rfl fun a S=>Va S rfl rfl fun a S=>Dl ?_)))))
    replace S:=S.k6 0 1 2 3 8 9 rfl
    obtain ⟨j2,hj2,h⟩:=Ec h
    refine Ds (fun a w'=>∃ x3 : List An,j2 x3 = some r ∧ Sx w (Aa.ownBlock.toList) nov [.own Aa 49 5 x3.length (x3.flatMap An.enc)] [(0,Aa),(1,iV Ag),(2,iV Ah),(3,.func (.func 20) #[] #[]),(8,iV x2)] 53 a w') ?_ ?_
    ·refine wp_block (Fi (fun (m2 : Nat) a w'=>∃ x3 : List An,∃ x4 : Int,Da Ag j2 m2 x3 x4 = some r ∧ Sx w (Aa.ownBlock.toList) nov [.own Aa 49 5 x3.length (x3.flatMap An.enc)] [(0,Aa),(1,iV Ag),(2,iV Ah),(3,.func (.func 20) #[] #[]),(8,iV x2),(9,iV x4)] 53 a w') id ((x2 - Ag).toNat + 2) ⟨x1,x2,h,S.nf [true] rfl (subR rfl)⟩ ?_)
     clear S h;rintro m2 a w3 ⟨x3,x4,h,S⟩
     cases m2 with
     | zero=>rw [Da.eq_1] at h;cases h
     | succ m2 =>
      rw [Da.eq_2] at h
      refine Fs (Fs ?_)
      obtain ⟨j3,hj3,h⟩:=Ec h
      refine Ds (fun a w'=>∃ x5 : Bool,j3 x5 = some r ∧ Sx w (Aa.ownBlock.toList) nov [.own Aa 49 5 x3.length (x3.flatMap An.enc)] [(0,Aa),(1,iV Ag),(2,iV Ah),(3,.func (.func 20) #[] #[]),(8,iV x2),(9,iV x4),(34,bV x5)] 53 a w') ?_ ?_
      ·rcases Bool.eq_false_or_eq_true (decide (Ag < x4)) with hb2 | hb2
       ·replace h:=Om h hb2
        obtain ⟨hc1,h⟩:=Hl h
        obtain ⟨hc2,h⟩:=Hl h
        refine Fw [] ([]) Tryz.mixed S rfl (by kernel_rfl) ?_;clear S;intro w7 hk2 hsel S
        refine Dk 0 S hsel rfl rfl rfl (by kernel_rfl) (by kernel_rfl) rfl (fun _ hw=>(Rm (S.tm rfl))) fun a S=>Dk 1 S hsel rfl rfl rfl (by kernel_rfl) (by kernel_rfl) rfl (fun _ hw=>(Rm (S.tm rfl))) fun a S=>Dk 2 S hsel rfl rfl rfl (by kernel_rfl) (by kernel_rfl) rfl (fun _ hw=>(Ji (S.tm rfl) (S.tm rfl))) fun a S=>Dk 3 S hsel rfl rfl rfl (by kernel_rfl) (by kernel_rfl) rfl (fun _ hw=>(Rm (S.tm rfl))) fun a S=>Dy 4 S hsel rfl rfl rfl rfl hb2 rfl rfl (by kernel_rfl) (by kernel_rfl) rfl (fun _ hw=>(Rm (S.tm rfl))) fun a S=>Dy 5 S hsel rfl rfl rfl rfl hb2 rfl rfl (by kernel_rfl) (by kernel_rfl) rfl (fun _ hw=>(Rm (S.tm rfl))) fun a S=>Dy 6 S hsel rfl rfl rfl rfl hb2 rfl rfl (by kernel_rfl) (by kernel_rfl) rfl (fun _ hw=>(Rm (S.tm rfl))) ?_;clear S;intro a S
        obtain ⟨b3,hg3,hr3⟩:=Gf (a:=a) (x:=.tmp 23) (y:=.tmp 24) (ty:=0) Ja An.enc_ok S (i:=0) rfl (Db hc1).1 (Db hc1).2 (S.tm rfl) (S.tm rfl)
        refine Dy 7 S hsel rfl rfl rfl rfl hb2 rfl rfl (by kernel_rfl) (by kernel_rfl) rfl (fun _ hw=>(hr3 _)) ?_;clear S;intro a S
        clear hr3
        refine Dy 8 S hsel rfl rfl rfl rfl hb2 rfl rfl (by kernel_rfl) (by kernel_rfl) rfl (fun _ hw=>(Fp isAgg49 sizeOf49 (off:=x4.toNat * 5) (o:=0) (part:=(An.enc (nth x3 x4))) rfl rfl (S.tm rfl) ((Oj An.enc_ok S (i:=0) rfl hg3 (Db hc1).1 (Gn (e':=.own Aa 49 5 x3.length (x3.flatMap An.enc)))).kept hw))) fun a S=>Dy 9 S hsel rfl rfl rfl rfl hb2 rfl rfl (by kernel_rfl) (by kernel_rfl) rfl (fun _ hw=>(Rm (S.tm rfl))) fun a S=>Dy 10 S hsel rfl rfl rfl rfl hb2 rfl rfl (by kernel_rfl) (by kernel_rfl) rfl (fun _ hw=>(Rm (S.tm rfl))) fun a S=>Dy 11 S hsel rfl rfl rfl rfl hb2 rfl rfl (by kernel_rfl) (by kernel_rfl) rfl (fun _ hw=>(Jb (S.tm rfl) rfl)) ?_;clear S;intro a S
        obtain ⟨b4,hg4,hr4⟩:=Gf (a:=a) (x:=.tmp 27) (y:=.tmp 29) (ty:=0) Ja An.enc_ok S (i:=0) rfl (Db hc2).1 (Db hc2).2 (S.tm rfl) (S.tm rfl)
        refine Dy 12 S hsel rfl rfl rfl rfl hb2 rfl rfl (by kernel_rfl) (by kernel_rfl) rfl (fun _ hw=>(hr4 _)) ?_;clear S;intro a S
        clear hr4
        refine Dy 13 S hsel rfl rfl rfl rfl hb2 rfl rfl (by kernel_rfl) (by kernel_rfl) rfl (fun _ hw=>(Fp isAgg49 sizeOf49 (off:=((W (x4 - 1)).toNat) * 5) (o:=0) (part:=(An.enc (nth x3 (W (x4 - 1))))) rfl rfl (S.tm rfl) ((Oj An.enc_ok S (i:=0) rfl hg4 (Db hc2).1 (Gn (e':=.own Aa 49 5 x3.length (x3.flatMap An.enc)))).kept hw))) fun a S=>Ex 14 (by kernel_rfl) rfl (Cz S rfl rfl rfl hb2 (Dc S (fun _=>Oq (cap:=[]) (S.tm rfl) (vs:=[.agg (An.enc (nth x3 x4)).toArray,.agg (An.enc (nth x3 (W (x4 - 1)))).toArray]) ⟨(S.tm rfl),(S.tm rfl),trivial⟩ call20) (Rz _ (nth x3 x4) (nth x3 (W (x4 - 1))) _ rfl) rfl ?_));clear S;intro v2 a w8 hv2 hk3 hn2 S
        subst hv2
        refine Ld (Fx hk3 (Kc [15,16] hsel (by kernel_rfl) rfl ?_))
        clear hsel
        refine Ef S rfl rfl rfl rfl hb2 (Fa S (Dt (S.tm rfl) rfl) rfl fun a S=>En S rfl (Ot hb2 (S.tm rfl) (S.tm rfl)) rfl fun a S=>Hk ?_)
        replace S:=S.nk [.own Aa 49 5 x3.length (x3.flatMap An.enc)] [(0,Aa),(1,iV Ag),(2,iV Ah),(3,.func (.func 20) #[] #[]),(8,iV x2),(9,iV x4),(22,.func (.func 20) #[] #[]),(23,Aa),(24,iV x4),(25,.pointer (some ⟨b3,x4.toNat * 5,none⟩)),(26,.agg (An.enc (nth x3 x4)).toArray),(27,Aa),(28,iV x4),(29,iV (W (x4 - 1))),(30,.pointer (some ⟨b4,((W (x4 - 1)).toNat) * 5,none⟩)),(31,.agg (An.enc (nth x3 (W (x4 - 1)))).toArray),(32,iV (Ey (nth x3 x4) (nth x3 (W (x4 - 1))))),(33,bV (decide ((Ey (nth x3 x4) (nth x3 (W (x4 - 1)))) < 0))),(34,bV (decide ((Ey (nth x3 x4) (nth x3 (W (x4 - 1)))) < 0)))] [true] rfl (subR rfl)
        exact Tn (⟨decide ((Ey (nth x3 x4) (nth x3 (W (x4 - 1)))) < 0),h,S.nf [true] rfl (subR rfl)⟩)
       ·replace h:=On h hb2
        refine Fw [] ([]) Tryz.mixed S rfl (by kernel_rfl) ?_;clear S;intro w9 hk4 hsel S
        refine Kc [0,1,2,3,4,5,6,7,8,9,10,11,12,13,14,15,16] hsel (by kernel_rfl) rfl ?_
        clear hsel
        refine En S rfl (Rm (S.tm rfl)) rfl fun a S=>En S rfl (Rm (S.tm rfl)) rfl fun a S=>En S rfl (Ji (S.tm rfl) (S.tm rfl)) rfl fun a S=>En S rfl (Rm (S.tm rfl)) rfl ?_;clear S;intro a S
        iterate 12 (refine Nx S rfl rfl rfl rfl (Jt hb2) rfl ?_ rfl;clear S;intro a S)
        refine En S rfl (Ou hb2 (S.tm rfl) rfl) rfl fun a S=>Hk ?_
        replace S:=S.k7 0 1 2 3 8 9 34 rfl
        exact Tn (⟨false,h,S.nf [true] rfl (subR rfl)⟩)
      clear S h;rintro a w5 ⟨x5,h,S⟩;rw [hj3] at h;clear hj3 j3
      refine Tn (Fc h (S.tm rfl) (fun hb3 h=>?_) (fun hb3 h=>?_))
      ·refine wp_skip (Tn (Fs (wp_block ?_)))
       obtain ⟨hc3,h⟩:=Hl h
       obtain ⟨hc4,h⟩:=Hl h
       obtain ⟨hc5,h⟩:=Hl h
       obtain ⟨hc6,h⟩:=Hl h
       refine Fw [15,17] ([]) Tryz.mixed S rfl (by kernel_rfl) ?_;clear S;intro w14 hk9 hsel S
       refine Fd 0 S hsel rfl rfl (by kernel_rfl) (by kernel_rfl) rfl (fun _=>(Rm (S.tm rfl))) fun a S=>Fd 1 S hsel rfl rfl (by kernel_rfl) (by kernel_rfl) rfl (fun _=>(Rm (S.tm rfl))) fun a S=>Fd 2 S hsel rfl rfl (by kernel_rfl) (by kernel_rfl) rfl (fun _=>(Rm (S.tm rfl))) fun a S=>Fd 3 S hsel rfl rfl (by kernel_rfl) (by kernel_rfl) rfl (fun _=>(Rm (S.tm rfl))) fun a S=>Fd 4 S hsel rfl rfl (by kernel_rfl) (by kernel_rfl) rfl (fun _=>(Jb (S.tm rfl) rfl)) fun a S=>Fd 5 S hsel rfl rfl (by kernel_rfl) (by kernel_rfl) rfl (fun _=>(Rm (S.tm rfl))) fun a S=>Fd 6 S hsel rfl rfl (by kernel_rfl) (by kernel_rfl) rfl (fun _=>(Rm (S.tm rfl))) fun a S=>Fd 7 S hsel rfl rfl (by kernel_rfl) (by kernel_rfl) rfl (fun _=>(Jb (S.tm rfl) rfl)) ?_;clear S;intro a S
       obtain ⟨b9,hg9,hr9⟩:=Gf (a:=a) (x:=.tmp 42) (y:=.tmp 44) (ty:=0) Ja An.enc_ok S (i:=0) rfl (Db hc3).1 (Db hc3).2 (S.tm rfl) (S.tm rfl)
       refine Fd 8 S hsel rfl rfl (by kernel_rfl) (by kernel_rfl) rfl (fun _=>(hr9 _)) ?_;clear S;intro a S
       clear hr9
       refine Dk 9 S hsel rfl (by kernel_rfl) (by kernel_rfl) (by kernel_rfl) (by kernel_rfl) rfl (fun _ hw=>(Fp isAgg49 sizeOf49 (off:=((W (x4 - 1)).toNat) * 5) (o:=0) (part:=(An.enc (nth x3 (W (x4 - 1))))) rfl rfl (S.tm rfl) ((Oj An.enc_ok S (i:=0) rfl hg9 (Db hc3).1 (Gn (e':=.own Aa 49 5 x3.length (x3.flatMap An.enc)))).kept hw))) fun a S=>Fd 10 S hsel rfl rfl (by kernel_rfl) (by kernel_rfl) rfl (fun _=>(Rm (S.tm rfl))) fun a S=>Fd 11 S hsel rfl rfl (by kernel_rfl) (by kernel_rfl) rfl (fun _=>(Rm (S.tm rfl))) ?_;clear S;intro a S
       obtain ⟨b10,hg10,hr10⟩:=Gf (a:=a) (x:=.tmp 47) (y:=.tmp 48) (ty:=0) Ja An.enc_ok S (i:=0) rfl (Db hc4).1 (Db hc4).2 (S.tm rfl) (S.tm rfl)
       refine Fd 12 S hsel rfl rfl (by kernel_rfl) (by kernel_rfl) rfl (fun _=>(hr10 _)) ?_;clear S;intro a S
       clear hr10
       refine Dk 13 S hsel rfl (by kernel_rfl) (by kernel_rfl) (by kernel_rfl) (by kernel_rfl) rfl (fun _ hw=>(Fp isAgg49 sizeOf49 (off:=x4.toNat * 5) (o:=0) (part:=(An.enc (nth x3 x4))) rfl rfl (S.tm rfl) ((Oj An.enc_ok S (i:=0) rfl hg10 (Db hc4).1 (Gn (e':=.own Aa 49 5 x3.length (x3.flatMap An.enc)))).kept hw))) ?_;clear S;intro a S
       obtain ⟨b11,hg11,hr11⟩:=Gf (a:=a) (x:=.tmp 37) (y:=.tmp 38) (ty:=0) Ja An.enc_ok S (i:=0) rfl (Db hc5).1 (Db hc5).2 (S.tm rfl) (S.tm rfl)
       refine Fd 14 S hsel rfl rfl (by kernel_rfl) (by kernel_rfl) rfl (fun _=>(hr11 _)) ?_;clear S;intro a S
       clear hr11
       refine Qk 15 (Aa.ownBlock.toList) rfl (by kernel_rfl) rfl (Oc (c:=0) (j:=x4.toNat) (nth x3 (W (x4 - 1))) An.enc_ok S (S.tm rfl) (S.tm rfl) (i:=0) rfl hg11 (Db hc5).1 sizeOf49 (vs:=[sV ((nth x3 (W (x4 - 1))).Race),sV ((nth x3 (W (x4 - 1))).Who),sV ((nth x3 (W (x4 - 1))).Club),iV ((nth x3 (W (x4 - 1))).Rank),bV ((nth x3 (W (x4 - 1))).Relay)]) rfl rfl rfl rfl rfl ?_);clear S;intro w16 hk11 S
       refine Ld (Ql ?_)
       obtain ⟨b12,hg12,hr12⟩:=Gf (a:=a) (x:=.tmp 39) (y:=.tmp 41) (ty:=0) Ja An.enc_ok S (i:=0) rfl (Db hc6).1 (Db hc6).2 (S.tm rfl) (S.tm rfl)
       refine Dk 16 S hsel rfl rfl rfl (by kernel_rfl) (by kernel_rfl) rfl (fun _ hw=>(hr12 _)) ?_;clear S;intro a S
       clear hr12
       refine Ex 17 (by kernel_rfl) rfl (Oc (c:=0) (j:=(W (x4 - 1)).toNat) (nth x3 x4) An.enc_ok S (S.tm rfl) (S.tm rfl) (i:=0) rfl hg12 (Db hc6).1 sizeOf49 (vs:=[sV ((nth x3 x4).Race),sV ((nth x3 x4).Who),sV ((nth x3 x4).Club),iV ((nth x3 x4).Rank),bV ((nth x3 x4).Relay)]) rfl rfl rfl rfl rfl ?_);clear S;intro w18 hk13 S
       refine Ld (Fx hk13 (Tl (by kernel_rfl) ?_))
       clear hsel
       replace S:=(S.nl [.own Aa 49 5 ((x3.set x4.toNat (nth x3 (W (x4 - 1)))).set ((W (x4 - 1)).toNat) (nth x3 x4)).length (((x3.set x4.toNat (nth x3 (W (x4 - 1)))).set ((W (x4 - 1)).toNat) (nth x3 x4)).flatMap An.enc)] [true] rfl).k6 0 1 2 3 8 9 rfl
       exact Gx (Tn (Fg (Vm S rfl rfl fun a S=>Vq S Jb rfl rfl rfl fun a S=>Va S rfl rfl fun a S=>Dl (⟨m2,⟨((x3.set x4.toNat (nth x3 (W (x4 - 1)))).set ((W (x4 - 1)).toNat) (nth x3 x4)),W (x4 - 1),h,S.nf [true] rfl ⟨rfl,rfl,rfl,rfl,rfl,rfl,trivial⟩⟩,Nat.lt_succ_self _⟩))))
      ·exact wp_exit (Dj (Dj (Fj (Tn (⟨x3,h,S.nf [true] rfl (subR rfl)⟩)))))
    clear S h;rintro a w4 ⟨x3,h,S⟩;rw [hj2] at h;clear hj2 j2
    exact Gx (Tn (Fg (Vm S rfl rfl fun a S=>Vq S Ek rfl rfl rfl fun a S=>Va S rfl rfl fun a S=>Dl (⟨m1,⟨x3,W (x2 + 1),h,S.nf [true] rfl ⟨rfl,rfl,rfl,rfl,rfl,trivial⟩⟩,Nat.lt_succ_self _⟩))))
   ·exact wp_exit (Dj (Dj (Fj (Tn (⟨x1,h,S.nf [true] rfl trivial⟩)))))
 clear S h;rintro a w2 ⟨x1,h,S⟩;rw [hj1] at h;clear hj1 j1
 obtain rfl:=Option.some.inj h
 exact Rp S results66 ⟨(S.holds _ (List.mem_of_getElem? (i:=0) rfl)),rfl⟩
theorem Lb (w : World) (Aa : Value) (Ai : List An) (Bc : (LEnt.own Aa 49 5 Ai.length (Ai.flatMap An.enc)).holds w) (Ag : Int) (Ah : Int) (Bh : Int) (r : (List An)) (h : Fv Ai Ag Ah Bh = some r) :
    Calls prog 39 [Aa,iV Ag,iV Ah,iV Bh,.func (.func 20) #[] #[]].toArray w (Ret w (Aa.ownBlock.toList) fun _ v w'=>(LEnt.own Aa 49 5 r.length (r.flatMap An.enc)).holds w' ∧ v = .tuple #[]):=by
 refine Kv (Aa.ownBlock.toList) [.own Aa 49 5 Ai.length (Ai.flatMap An.enc)] func39 rfl ntmps39 rfl (fun e he=>by simp only [List.mem_singleton] at he;subst he;exact Bc) (Kb _) (Lc _) fun a S=>?_
 unfold Fv at h
 replace S:=(S.nl [.own Aa 49 5 Ai.length (Ai.flatMap An.enc)] [true] rfl).k5 0 1 2 3 4 rfl
 refine Fr (Vk S rfl rfl fun a S=>Dz (Vk S rfl rfl fun a S=>Dl ?_))
 replace S:=S.k6 0 1 2 3 4 10 rfl
 refine Ds (fun a w'=>False) ?_ ?_
 ·refine wp_block (Fi (fun (m1 : Nat) a w'=>∃ x1 : Int,∃ x2 : Int,∃ x3 : Int,∃ x4 : Bool,Dq Ai m1 x1 x2 x3 x4 = some r ∧ Sx w (Aa.ownBlock.toList) nov [.own Aa 49 5 Ai.length (Ai.flatMap An.enc)] [(0,Aa),(1,iV x1),(2,iV x2),(3,iV x3),(4,.func (.func 20) #[] #[]),(10,bV x4)] 148 a w') id 4611686018427387904 ⟨Ag,Ah,Bh,true,h,S.nf [true] rfl (subR rfl)⟩ ?_)
  clear S h;rintro m1 a w1 ⟨x1,x2,x3,x4,h,S⟩
  cases m1 with
  | zero=>rw [Dq.eq_1] at h;cases h
  | succ m1 =>
   rw [Dq.eq_2] at h
   refine wp_block (Fr (Vm S rfl rfl fun a S=>Vm S rfl rfl fun a S=>Vb S Jb rfl rfl rfl fun a S=>Va S rfl rfl fun a S=>Dl (Fs (Fs ?_))))
   refine Fg (Vm S rfl rfl fun a S=>Vq S Sj rfl rfl rfl fun a S=>Dl (Fc h (S.tm rfl) (fun hb1 h=>?_) (fun hb1 h=>?_)))
   ·refine Fs (Fg ?_)
    iterate 4 (refine Vm S rfl rfl ?_;clear S;intro a S)
    obtain ⟨r1,hr1,h⟩:=Eg h
    refine Nl 0 S rfl (fun _=>.own Aa 49 5 r1.length (r1.flatMap An.enc)) (fun _=>Cw (vs:=[Aa,iV x1,iV x2,.func (.func 20) #[] #[]]) ⟨(S.tm rfl),(S.tm rfl),(S.tm rfl),(S.tm rfl),trivial⟩ call66) (Kn _ Aa Ai (S.holds _ (List.mem_of_getElem? (i:=0) rfl)) x1 x2 _ hr1) rfl (fun _ _ _ h=>⟨h.1,fun _ hc=>hc⟩) ?_;clear S;intro v1 a w3 hv1 hk1 hn1 S
    replace hv1:=hv1.2
    subst hv1
    refine Ld ?_
    replace S:=(S.nl [.own Aa 49 5 r1.length (r1.flatMap An.enc)] [true] rfl).k0
    refine Tn (wp_ret (Cx (Em (Cx (Em (Cx ?_))))))
    obtain rfl:=Option.some.inj h
    exact Rp S results39 ⟨(S.holds _ (List.mem_of_getElem? (i:=0) rfl)),rfl⟩
   ·refine wp_skip (Tn (Fs (Fr (Vm S rfl rfl fun a S=>Vq S Jz rfl rfl rfl fun a S=>Dl (Fc h (S.tm rfl) (fun hb2 h=>?_) (fun hb2 h=>?_))))))
    ·refine Fs ?_
     cases h
    ·refine wp_skip (Tn (Fs (Fr (Vm S rfl rfl fun a S=>Vu S Hp rfl rfl fun a S=>Ld ?_))))
     replace S:=S.k1 39 rfl
     refine Tn (Fc h (S.tm rfl) (fun hb3 h=>?_) (fun hb3 h=>?_))
     ·refine Fs ?_
      cases h
     ·refine wp_skip (Tn (Fs ?_))
      cases h
 exact fun _ _ h=>h.elim
theorem Mp (w : World) (Aq : Value) (Al : List An) (Ca : (LEnt.own Aq 49 5 Al.length (Al.flatMap An.enc)).holds w) (r : (List An)) (h : Ea Al = some r) :
    Calls prog 19 [Aq,.func (.func 20) #[] #[]].toArray w (Ret w (Aq.ownBlock.toList) fun _ v w'=>(LEnt.own Aq 49 5 r.length (r.flatMap An.enc)).holds w' ∧ v = .tuple #[]):=by
 refine Kv (Aq.ownBlock.toList) [.own Aq 49 5 Al.length (Al.flatMap An.enc)] func19 rfl ntmps19 rfl (fun e he=>by simp only [List.mem_singleton] at he;subst he;exact Ca) (Kb _) (Lc _) fun a S=>?_
 unfold Ea at h
 replace S:=(S.nl [.own Aq 49 5 Al.length (Al.flatMap An.enc)] [true] rfl).k2 0 1 rfl
 refine Fr (Vm S rfl rfl fun a S=>lv S (Ee Ja (S.tm rfl) (Nn (S.own_at (i:=0) rfl))) rfl fun a S=>Va S rfl rfl fun a S=>Dl (Fg ?_))
 iterate 3 (refine Vm S rfl rfl ?_;clear S;intro a S)
 refine Vu S (Og underlying3 underlying99) rfl rfl ?_;clear S;intro a S
 obtain ⟨r1,hr1,h⟩:=Eg h
 refine Dc S (fun _=>Cw (vs:=[.int .u64 (IntKind.wrap .u64 (Al.length : Int))]) ⟨(S.tm rfl),trivial⟩ call40) (Tx _ (IntKind.wrap .u64 (Al.length : Int)) _ hr1) rfl ?_;clear S;intro v1 a w1 hv1 hk1 hn1 S
 subst hv1
 refine Vm S rfl rfl ?_;clear S;intro a S
 obtain ⟨r2,hr2,h⟩:=Eg h
 refine Nl 0 S rfl (fun _=>.own Aq 49 5 r2.length (r2.flatMap An.enc)) (fun _=>Cw (vs:=[Aq,iV 0,iV (Al.length : Int),iV r1,.func (.func 20) #[] #[]]) ⟨(S.tm rfl),rfl,(S.tm rfl),(S.tm rfl),(S.tm rfl),trivial⟩ call39) (Lb _ Aq Al (S.holds _ (List.mem_of_getElem? (i:=0) rfl)) 0 (Al.length : Int) r1 _ hr2) rfl (fun _ _ _ h=>⟨h.1,fun _ hc=>hc⟩) ?_;clear S;intro v2 a w2 hv2 hk2 hn2 S
 replace hv2:=hv2.2
 subst hv2
 refine Ld ?_
 obtain rfl:=Option.some.inj h
 exact Rp S results19 ⟨(S.holds _ (List.mem_of_getElem? (i:=0) rfl)),rfl⟩
theorem Pk (w : World) (O : Nat) (U : Value) (Aj : List Int) (Ak : Slc (view w [O]) 1 U (Aj.map eInt)) (Af : Int) (Au : (LEnt.blk O [U,iV Af] 25).holds w) (r : (List An) × Int) (h : Km Aj Af = some r) :
    Calls prog 5 [.pointer (some ⟨O,0,none⟩)].toArray w (Ret w [O] fun τ v w'=>(LEnt.blk O [U,iV r.2] 25).holds w' ∧ Pu τ 49 5 v r.1.length (r.1.flatMap An.enc)):=by
 refine Kv [O] [.blk O [U,iV Af] 25] func5 rfl ntmps5 rfl (fun e he=>by simp only [List.mem_singleton] at he;subst he;exact Au) (by simp [fps,LEnt.fp]) (by simp [fps,LEnt.fp]) fun a S=>?_
 unfold Km at h
 replace S:=(S.nl [.blk O [U,iV Af] 25] [true] rfl).k1 0 rfl
 refine Fr (Vk S rfl rfl fun a S=>Dz (Vk S rfl rfl ?_));clear S;intro a S
 replace S:=S.nil 49 5
 refine Dl (Fs (Fr (Ed S underlying57 sizeOf9 zeroValue9 rfl rfl (pv:=[(0,sV Ke),(1,sV Lz),(2,sV Ma)]) ⟨rfl,rfl,rfl,rfl,rfl,rfl,trivial⟩ (cs:=[sV Ke,sV Lz,sV Ma]) (by kernel_rfl) rfl ?_)));clear S;intro a w1 b1 hz1 hk1 S
 refine lv S (Ee Rb (S.tm rfl) ⟨_,_,rfl⟩) rfl fun a S=>lv S (Rm rfl) rfl fun a S=>Dl ?_
 replace S:=(S.nl [.blk b1 [sV Ke,sV Lz,sV Ma] 9,.own (.slice none 0 0) 49 5 ([] : List An).length (([] : List An).flatMap An.enc),.blk O [U,iV Af] 25] [true,true,true] rfl).k5 0 3 16 17 18 rfl
 replace S:=S.litOwn (i:=0) (xs:=[Ke,Lz,Ma]) rfl Mf rfl rfl rfl
 replace S:=S.nk [.own (.slice (some ⟨b1,0,none⟩) 3 3) 9 1 ([Ke,Lz,Ma] : List ByteArray).length (([Ke,Lz,Ma] : List ByteArray).flatMap Tp),.own (.slice none 0 0) 49 5 ([] : List An).length (([] : List An).flatMap An.enc),.blk O [U,iV Af] 25] [(0,.pointer (some ⟨O,0,none⟩)),(3,(.slice none 0 0)),(16,(.slice (some ⟨b1,0,none⟩) 3 3)),(17,iV (([Ke,Lz,Ma] : List ByteArray).length : Int)),(18,iV 0)] [] rfl (subR rfl)
 obtain ⟨φ1,hl1,hs1,S⟩:=S.freezeT (xs:=([Ke,Lz,Ma] : List ByteArray)) (enc:=Tp) (i:=0) rfl (fun c hc hh=>Ul S (i:=2) rfl rfl (j:=0) rfl rfl (by simp at hc;subst hc;exact hh))
 replace S:=S.nk [.own (.slice none 0 0) 49 5 ([] : List An).length (([] : List An).flatMap An.enc),.blk O [U,iV Af] 25] [(0,.pointer (some ⟨O,0,none⟩)),(3,(.slice none 0 0)),(16,(.slice (some ⟨b1,0,none⟩) 3 3)),(17,iV (([Ke,Lz,Ma] : List ByteArray).length : Int)),(18,iV 0)] [] rfl (subR rfl)
 obtain ⟨j1,hj1,h⟩:=Ec h
 refine Ds (fun a w'=>∃ x1 : List An,∃ x2 : Int,∃ φ2 : View,∃ v1 : Value,j1 x1 x2 = some r ∧ View.le φ1 φ2 ∧ Sx w [O] φ2 [.own v1 49 5 x1.length (x1.flatMap An.enc),.blk O [U,iV x2] 25] [(3,v1)] 114 a w') ?_ ?_
 ·refine wp_block (Fi (fun (ys1 : List ByteArray) a w'=>∃ i1 : Nat,∃ x1 : List An,∃ x2 : Int,∃ φ2 : View,∃ v1 : Value,(∃ dn,([Ke,Lz,Ma] : List ByteArray) = dn ++ ys1 ∧ dn.length = i1) ∧ Ep Aj j1 ys1 i1 x1 x2 = some r ∧ View.le φ1 φ2 ∧ Sx w [O] φ2 [.own v1 49 5 x1.length (x1.flatMap An.enc),.blk O [U,iV x2] 25] [(0,.pointer (some ⟨O,0,none⟩)),(3,v1),(16,(.slice (some ⟨b1,0,none⟩) 3 3)),(17,iV (([Ke,Lz,Ma] : List ByteArray).length : Int)),(18,iV (i1 : Int))] 114 a w') List.length ([Ke,Lz,Ma] : List ByteArray) ⟨0,([] : List An),Af,φ1,(.slice none 0 0),⟨[],rfl,rfl⟩,h,View.le_refl _,S.nf [true,true] rfl (subR rfl)⟩ ?_)
  clear S h;rintro ys1 a w2 ⟨i1,x1,x2,φ2,v1,⟨dn,hd1,hi1⟩,h,hl2,S⟩
  cases ys1 with
  | nil =>
   rw [Ep.eq_1] at h
   refine Fr (Vb S Dt rfl rfl rfl fun a S=>Ld ?_)
   replace S:=S.k6 0 3 16 17 18 19 rfl
   exact Tn (Fs (wp_cond_false ((S.tm rfl).trans (congrArg Value.bool (Hq hd1 hi1))) (wp_exit (Dj (Dj (Fj (Tn (⟨x1,x2,φ2,v1,h,hl2,S.nf [true,true] rfl ⟨rfl,trivial⟩⟩))))))))
  | cons y1 ys1 =>
   rw [Ep.eq_2] at h
   refine Fr (Vb S Dt rfl rfl rfl fun a S=>Ld ?_)
   replace S:=S.k6 0 3 16 17 18 19 rfl
   refine Tn (Fs (wp_cond_true ((S.tm rfl).trans (congrArg Value.bool (Gb hd1 hi1))) (wp_skip (Tn (Fs (wp_block (Fs (Fg ?_))))))))
   obtain ⟨b2,o1,hm1,hr1⟩:=Eb (a:=a) (x:=.tmp 16) (y:=.tmp 18) (ty:=0) Rb (Ha Mf hs1) (Hz hd1 hi1) rfl (S.tm rfl) (S.tm rfl)
   refine lv S (hr1 _) rfl ?_;clear S;intro a S
   clear hr1
   refine lv S (Gk isAgg9 (off:=o1) (o:=0) (S.tm rfl) ((hm1.mono hl2).at S.emb) rfl) rfl fun a S=>Va S rfl rfl fun a S=>Dz (Vm S rfl rfl ?_);clear S;intro a S
   obtain ⟨r1,hr2,h⟩:=Eg h
   refine Ga 1 S (b:=O) rfl rfl (fun _=>.blk O [U,iV r1.2] 25) (fun _=>Cw (vs:=[.pointer (some ⟨O,0,none⟩),iV 3]) ⟨(S.tm rfl),rfl,trivial⟩ call17) (Pi _ O U Aj (Ak.mono (S.le_arg (Ix (i:=1) (e:=.blk O [U,iV x2] 25) rfl))) x2 (S.holds _ (List.mem_of_getElem? (i:=1) rfl)) 3 _ hr2) rfl (fun _ _ _ h=>⟨h.1,fun _ hc=>by cases hc;rfl⟩) ?_;clear S;intro v2 a w4 hv1 hk2 hn1 S
   replace hv1:=hv1.2
   subst hv1
   refine Va S rfl rfl fun a S=>Dz (Vk S rfl rfl ?_);clear S;intro a S
   replace S:=S.nil 49 5
   refine Dl (Fs (Fr (Ed S underlying57 sizeOf9 zeroValue9 rfl rfl (pv:=[(0,sV Kx),(1,sV My),(2,sV Pv),(3,sV Pw),(4,sV Px)]) ⟨rfl,rfl,rfl,rfl,rfl,rfl,rfl,rfl,rfl,rfl,trivial⟩ (cs:=[sV Kx,sV My,sV Pv,sV Pw,sV Px]) (by kernel_rfl) rfl ?_)));clear S;intro a w5 b3 hz2 hk3 S
   refine lv S (Ee Rb (S.tm rfl) ⟨_,_,rfl⟩) rfl fun a S=>lv S (Rm rfl) rfl fun a S=>Ld ?_
   replace S:=(S.nl [.blk b3 [sV Kx,sV My,sV Pv,sV Pw,sV Px] 9,.own (.slice none 0 0) 49 5 ([] : List An).length (([] : List An).flatMap An.enc),.own v1 49 5 x1.length (x1.flatMap An.enc),.blk O [U,iV r1.2] 25] [true,true,true,true] rfl).k11 0 3 5 6 7 16 17 18 24 25 26 rfl
   refine Tn ?_
   replace S:=S.litOwn (i:=0) (xs:=[Kx,My,Pv,Pw,Px]) rfl Mf rfl rfl rfl
   replace S:=S.nk [.own (.slice (some ⟨b3,0,none⟩) 5 5) 9 1 ([Kx,My,Pv,Pw,Px] : List ByteArray).length (([Kx,My,Pv,Pw,Px] : List ByteArray).flatMap Tp),.own (.slice none 0 0) 49 5 ([] : List An).length (([] : List An).flatMap An.enc),.own v1 49 5 x1.length (x1.flatMap An.enc),.blk O [U,iV r1.2] 25] [(0,.pointer (some ⟨O,0,none⟩)),(3,v1),(5,sV y1),(6,bV r1.1),(7,(.slice none 0 0)),(16,(.slice (some ⟨b1,0,none⟩) 3 3)),(17,iV (([Ke,Lz,Ma] : List ByteArray).length : Int)),(18,iV (i1 : Int)),(24,(.slice (some ⟨b3,0,none⟩) 5 5)),(25,iV (([Kx,My,Pv,Pw,Px] : List ByteArray).length : Int)),(26,iV 0)] [] rfl (subR rfl)
   obtain ⟨φ3,hl3,hs2,S⟩:=S.freezeT (xs:=([Kx,My,Pv,Pw,Px] : List ByteArray)) (enc:=Tp) (i:=0) rfl (fun c hc hh=>Ul S (i:=3) rfl rfl (j:=0) rfl rfl (by simp at hc;subst hc;exact hh))
   replace S:=S.nk [.own (.slice none 0 0) 49 5 ([] : List An).length (([] : List An).flatMap An.enc),.own v1 49 5 x1.length (x1.flatMap An.enc),.blk O [U,iV r1.2] 25] [(0,.pointer (some ⟨O,0,none⟩)),(3,v1),(5,sV y1),(6,bV r1.1),(7,(.slice none 0 0)),(16,(.slice (some ⟨b1,0,none⟩) 3 3)),(17,iV (([Ke,Lz,Ma] : List ByteArray).length : Int)),(18,iV (i1 : Int)),(24,(.slice (some ⟨b3,0,none⟩) 5 5)),(25,iV (([Kx,My,Pv,Pw,Px] : List ByteArray).length : Int)),(26,iV 0)] [] rfl (subR rfl)
   obtain ⟨j2,hj2,h⟩:=Ec h
   refine Ds (fun a w'=>∃ x3 : List An,∃ x4 : Int,∃ v3 : Value,j2 x3 x4 = some r ∧ Sx w [O] φ3 [.own v3 49 5 x3.length (x3.flatMap An.enc),.own v1 49 5 x1.length (x1.flatMap An.enc),.blk O [U,iV x4] 25] [(0,.pointer (some ⟨O,0,none⟩)),(3,v1),(7,v3),(16,(.slice (some ⟨b1,0,none⟩) 3 3)),(17,iV (([Ke,Lz,Ma] : List ByteArray).length : Int)),(18,iV (i1 : Int))] 114 a w') ?_ ?_
   ·refine wp_block (Fi (fun (ys2 : List ByteArray) a w'=>∃ i2 : Nat,∃ x3 : List An,∃ x4 : Int,∃ v3 : Value,(∃ dn,([Kx,My,Pv,Pw,Px] : List ByteArray) = dn ++ ys2 ∧ dn.length = i2) ∧ Gh Aj y1 r1 j2 ys2 i2 x3 x4 = some r ∧ Sx w [O] φ3 [.own v3 49 5 x3.length (x3.flatMap An.enc),.own v1 49 5 x1.length (x1.flatMap An.enc),.blk O [U,iV x4] 25] [(0,.pointer (some ⟨O,0,none⟩)),(3,v1),(5,sV y1),(6,bV r1.1),(7,v3),(16,(.slice (some ⟨b1,0,none⟩) 3 3)),(17,iV (([Ke,Lz,Ma] : List ByteArray).length : Int)),(18,iV (i1 : Int)),(24,(.slice (some ⟨b3,0,none⟩) 5 5)),(25,iV (([Kx,My,Pv,Pw,Px] : List ByteArray).length : Int)),(26,iV (i2 : Int))] 114 a w') List.length ([Kx,My,Pv,Pw,Px] : List ByteArray) ⟨0,([] : List An),r1.2,(.slice none 0 0),⟨[],rfl,rfl⟩,h,S.nf [true,true,true] rfl (subR rfl)⟩ ?_)
    clear S h;rintro ys2 a w6 ⟨i2,x3,x4,v3,⟨dn,hd2,hi2⟩,h,S⟩
    cases ys2 with
    | nil =>
     rw [Gh.eq_1] at h
     refine Fr (Vb S Dt rfl rfl rfl fun a S=>Ld ?_)
     replace S:=S.k12 0 3 5 6 7 16 17 18 24 25 26 27 rfl
     exact Tn (Fs (wp_cond_false ((S.tm rfl).trans (congrArg Value.bool (Hq hd2 hi2))) (wp_exit (Dj (Dj (Fj (Tn (⟨x3,x4,v3,h,S.nf [true,true,true] rfl (subR rfl)⟩))))))))
    | cons y2 ys2 =>
     rw [Gh.eq_2] at h
     refine Fr (Vb S Dt rfl rfl rfl fun a S=>Ld ?_)
     replace S:=S.k12 0 3 5 6 7 16 17 18 24 25 26 27 rfl
     refine Tn (Fs (wp_cond_true ((S.tm rfl).trans (congrArg Value.bool (Gb hd2 hi2))) (wp_skip (Tn (Fs ?_)))))
     obtain ⟨j3,hj3,h⟩:=Ec h
     refine Ds (fun a w'=>∃ x5 : List An,∃ x6 : Int,∃ v4 : Value,j3 x5 x6 = some r ∧ Sx w [O] φ3 [.own v4 49 5 x5.length (x5.flatMap An.enc),.own v1 49 5 x1.length (x1.flatMap An.enc),.blk O [U,iV x6] 25] [(0,.pointer (some ⟨O,0,none⟩)),(3,v1),(5,sV y1),(6,bV r1.1),(7,v4),(16,(.slice (some ⟨b1,0,none⟩) 3 3)),(17,iV (([Ke,Lz,Ma] : List ByteArray).length : Int)),(18,iV (i1 : Int)),(24,(.slice (some ⟨b3,0,none⟩) 5 5)),(25,iV (([Kx,My,Pv,Pw,Px] : List ByteArray).length : Int)),(26,iV (i2 : Int))] 114 a w') ?_ ?_
     ·refine wp_block (Fs (Fg ?_))
      obtain ⟨b4,o2,hm2,hr3⟩:=Eb (a:=a) (x:=.tmp 24) (y:=.tmp 26) (ty:=0) Rb (Ha Mf hs2) (Hz hd2 hi2) rfl (S.tm rfl) (S.tm rfl)
      refine lv S (hr3 _) rfl ?_;clear S;intro a S
      clear hr3
      refine lv S (Gk isAgg9 (off:=o2) (o:=0) (S.tm rfl) (hm2.at S.emb) rfl) rfl fun a S=>Va S rfl rfl fun a S=>Ld ?_
      replace S:=S.k12 0 3 5 6 7 9 16 17 18 24 25 26 rfl
      refine Tn (Fr (Vm S rfl rfl ?_));clear S;intro a S
      obtain ⟨r2,hr4,h⟩:=Eg h
      refine Ga 2 S (b:=O) rfl rfl (fun _=>.blk O [U,iV r2.2] 25) (fun _=>Cw (vs:=[.pointer (some ⟨O,0,none⟩),iV 4]) ⟨(S.tm rfl),rfl,trivial⟩ call17) (Pi _ O U Aj (Ak.mono (S.le_arg (Ix (i:=2) (e:=.blk O [U,iV x4] 25) rfl))) x4 (S.holds _ (List.mem_of_getElem? (i:=2) rfl)) 4 _ hr4) rfl (fun _ _ _ h=>⟨h.1,fun _ hc=>by cases hc;rfl⟩) ?_;clear S;intro v5 a w9 hv2 hk4 hn2 S
      replace hv2:=hv2.2
      subst hv2
      refine Vu S Hp rfl rfl fun a S=>Ld ?_
      replace S:=(S.nl [.own v3 49 5 x3.length (x3.flatMap An.enc),.own v1 49 5 x1.length (x1.flatMap An.enc),.blk O [U,iV r2.2] 25] [true,true,true] rfl).k13 0 3 5 6 7 9 16 17 18 24 25 26 32 rfl
      refine Tn ?_
      obtain ⟨j4,hj4,h⟩:=Ec h
      refine Ds (fun a w'=>∃ x7 : List An,∃ x8 : Int,∃ v6 : Value,j4 x7 x8 = some r ∧ Sx w [O] φ3 [.own v6 49 5 x7.length (x7.flatMap An.enc),.own v1 49 5 x1.length (x1.flatMap An.enc),.blk O [U,iV x8] 25] [(0,.pointer (some ⟨O,0,none⟩)),(3,v1),(5,sV y1),(6,bV r1.1),(7,v6),(16,(.slice (some ⟨b1,0,none⟩) 3 3)),(17,iV (([Ke,Lz,Ma] : List ByteArray).length : Int)),(18,iV (i1 : Int)),(24,(.slice (some ⟨b3,0,none⟩) 5 5)),(25,iV (([Kx,My,Pv,Pw,Px] : List ByteArray).length : Int)),(26,iV (i2 : Int))] 114 a w') ?_ ?_
      ·refine Fc h (S.tm rfl) (fun hb1 h=>?_) (fun hb1 h=>?_)
       ·refine Fg ?_
        iterate 4 (refine Vm S rfl rfl ?_;clear S;intro a S)
        refine Ed S underlying57 sizeOf9 zeroValue9 rfl rfl (pv:=[(0,sV Oz),(1,sV Oz),(2,sV Yw),(3,sV Vh),(4,sV Cy)]) ⟨rfl,rfl,rfl,rfl,rfl,rfl,rfl,rfl,rfl,rfl,trivial⟩ (cs:=[sV Oz,sV Oz,sV Yw,sV Vh,sV Cy]) (by kernel_rfl) rfl ?_;clear S;intro a w11 b5 hz3 hk5 S
        obtain ⟨r3,hr5,h⟩:=Eg h
        refine Ga 3 S (b:=O) rfl rfl (fun _=>.blk O [U,iV r3.2] 25) (fun _=>Cw (vs:=[.pointer (some ⟨O,0,none⟩),.slice (some ⟨b5,0,none⟩) 5 5]) ⟨(S.tm rfl),(S.tm rfl),trivial⟩ call18) (Kf _ O U Aj (Ak.mono (S.le_arg (Ix (i:=3) (e:=.blk O [U,iV r2.2] 25) rfl))) r2.2 (S.holds _ (List.mem_of_getElem? (i:=3) rfl)) (.slice (some ⟨b5,0,none⟩) 5 5) [Oz,Oz,Yw,Vh,Cy] (Jm Mf S (i:=0) rfl rfl rfl rfl ((Ns (i:=3) (j:=0) (e:=.blk O [U,iV r2.2] 25) (e':=.blk b5 [sV Oz,sV Oz,sV Yw,sV Vh,sV Cy] 9) S rfl rfl rfl) _ rfl)) _ hr5) rfl (fun _ _ _ h=>⟨h.1,fun _ hc=>by cases hc;rfl⟩) ?_;clear S;intro v7 a w12 hv3 hk6 hn3 S
        replace hv3:=hv3.2
        subst hv3
        refine Vm S rfl rfl fun a S=>Ed S underlying22 sizeOf3 zeroValue3 rfl rfl (pv:=[(0,iV 0),(1,iV 1),(2,iV 2),(3,iV 2),(4,iV 3),(5,iV 4)]) ⟨rfl,rfl,rfl,rfl,rfl,rfl,rfl,rfl,rfl,rfl,rfl,rfl,trivial⟩ (cs:=[iV 0,iV 1,iV 2,iV 2,iV 3,iV 4]) (by kernel_rfl) rfl ?_;clear S;intro a w13 b6 hz4 hk7 S
        obtain ⟨r4,hr6,h⟩:=Eg h
        refine Ga 4 S (b:=O) rfl rfl (fun _=>.blk O [U,iV r4.2] 25) (fun _=>Cw (vs:=[.pointer (some ⟨O,0,none⟩),.slice (some ⟨b6,0,none⟩) 6 6]) ⟨(S.tm rfl),(S.tm rfl),trivial⟩ call15) (Lv _ O U Aj (Ak.mono (S.le_arg (Ix (i:=4) (e:=.blk O [U,iV r3.2] 25) rfl))) r3.2 (S.holds _ (List.mem_of_getElem? (i:=4) rfl)) (.slice (some ⟨b6,0,none⟩) 6 6) [0,1,2,2,3,4] (Jm Hj S (i:=0) rfl rfl rfl rfl ((Ns (i:=4) (j:=0) (e:=.blk O [U,iV r3.2] 25) (e':=.blk b6 [iV 0,iV 1,iV 2,iV 2,iV 3,iV 4] 3) S rfl rfl rfl) _ rfl)) _ hr6) rfl (fun _ _ _ h=>⟨h.1,fun _ hc=>by cases hc;rfl⟩) ?_;clear S;intro v8 a w14 hv4 hk8 hn4 S
        replace hv4:=hv4.2
        subst hv4
        refine Vm S rfl rfl fun a S=>lv S (Lp bt_49 (pv:=[(0,sV y1),(1,sV y2),(2,sV r3.1),(3,iV r4.1),(4,bV r1.1)]) ⟨rfl,(S.tm rfl),rfl,(S.tm rfl),rfl,(S.tm rfl),rfl,(S.tm rfl),rfl,(S.tm rfl),trivial⟩ (cs:=[sV y1,sV y2,sV r3.1,iV r4.1,bV r1.1]) (by kernel_rfl)) rfl fun a S=>Ed S underlying29 sizeOf49 zeroValue49 rfl rfl (pv:=[(0,.agg #[sV y1,sV y2,sV r3.1,iV r4.1,bV r1.1])]) ⟨rfl,(S.tm rfl),trivial⟩ (cs:=[sV y1,sV y2,sV r3.1,iV r4.1,bV r1.1]) (by kernel_rfl) rfl ?_;clear S;intro a w15 b7 hz5 hk9 S
        obtain ⟨hc1,h⟩:=Hl h
        refine Mx Ja An.enc_ok S (S.tm rfl) (i:=3) rfl (S.tm rfl) (j:=0) rfl (ys:=[(An.mk y1 y2 r3.1 r4.1 r1.1)]) rfl rfl rfl rfl (by have:=Nd hc1;omega) rfl ?_;clear S;intro v9 a w16 hk10 S
        refine Va S rfl rfl fun a S=>Ld ?_
        replace S:=(S.nl [.own v9 49 5 (x3 ++ [(An.mk y1 y2 r3.1 r4.1 r1.1)]).length ((x3 ++ [(An.mk y1 y2 r3.1 r4.1 r1.1)]).flatMap An.enc),.own v1 49 5 x1.length (x1.flatMap An.enc),.blk O [U,iV r4.2] 25] [false,false,false,true,true,true] rfl).k11 0 3 5 6 7 16 17 18 24 25 26 rfl
        exact Tn (⟨(x3 ++ [(An.mk y1 y2 r3.1 r4.1 r1.1)]),r4.2,v9,h,S.nf [true,true,true] rfl (subR rfl)⟩)
       ·exact wp_skip (Tn (⟨x3,r2.2,v3,h,S.nf [true,true,true] rfl (subR rfl)⟩))
      clear S h;rintro a w10 ⟨x7,x8,v6,h,S⟩;rw [hj4] at h;clear hj4 j4
      exact Gx (Tn (⟨x7,x8,v6,h,S.nf [true,true,true] rfl (subR rfl)⟩))
     clear S h;rintro a w8 ⟨x5,x6,v4,h,S⟩;rw [hj3] at h;clear hj3 j3
     exact Tn (Fg (Vq S Ek rfl rfl rfl fun a S=>Vm S rfl rfl fun a S=>Dl (⟨ys2,⟨i2 + 1,x5,x6,v4,⟨_,(hd2).trans (List.append_cons _ _ _),by simp [hi2]⟩,h,S.nf [true,true,true] rfl ⟨rfl,rfl,rfl,rfl,rfl,rfl,rfl,rfl,rfl,rfl,(congrArg (fun z=>some (Value.int .i64 z)) (Gc hd2 hi2 (Jk (Ha Mf hs2)))),trivial⟩⟩,Nat.lt_succ_self _⟩)))
   clear S h;rintro a w7 ⟨x3,x4,v3,h,S⟩;rw [hj2] at h;clear hj2 j2
   refine Tn (Fs (Fr (Vm S rfl rfl fun a S=>lv S (Ee Ja (S.tm rfl) (Nn (S.own_at (i:=0) rfl))) rfl fun a S=>lv S (Rm rfl) rfl fun a S=>Dl ?_)))
   replace S:=S.k9 0 3 7 16 17 18 47 48 49 rfl
   have hm3:=Wb (S.own_at (i:=0) rfl)
   obtain ⟨j5,hj5,h⟩:=Ec h
   refine Ds (fun a w'=>∃ x9 : List An,∃ v10 : Value,j5 x9 = some r ∧ Sx w [O] φ3 [.own v10 49 5 x9.length (x9.flatMap An.enc),.own v1 49 5 x1.length (x1.flatMap An.enc),.blk O [U,iV x4] 25] [(0,.pointer (some ⟨O,0,none⟩)),(3,v1),(7,v10),(16,(.slice (some ⟨b1,0,none⟩) 3 3)),(17,iV (([Ke,Lz,Ma] : List ByteArray).length : Int)),(18,iV (i1 : Int))] 114 a w') ?_ ?_
   ·refine wp_block (Fi (fun (ys3 : List An) a w'=>∃ i3 : Nat,∃ x9 : List An,∃ v10 : Value,(∃ dn,x3 = dn ++ ys3 ∧ dn.length = i3) ∧ Fm j5 ys3 i3 x9 = some r ∧ Sx w [O] φ3 [.own v10 49 5 x9.length (x9.flatMap An.enc),.own v1 49 5 x1.length (x1.flatMap An.enc),.blk O [U,iV x4] 25] [(0,.pointer (some ⟨O,0,none⟩)),(3,v1),(7,v10),(16,(.slice (some ⟨b1,0,none⟩) 3 3)),(17,iV (([Ke,Lz,Ma] : List ByteArray).length : Int)),(18,iV (i1 : Int)),(47,v10),(48,iV (x3.length : Int)),(49,iV (i3 : Int))] 114 a w') List.length x3 ⟨0,x3,v3,⟨[],rfl,rfl⟩,h,S.nf [true,true,true] rfl (subR rfl)⟩ ?_)
    clear S h;rintro ys3 a w17 ⟨i3,x9,v10,⟨dn,hd3,hi3⟩,h,S⟩
    cases ys3 with
    | nil =>
     rw [Fm.eq_1] at h
     refine Fr (Vb S Dt rfl rfl rfl fun a S=>Ld ?_)
     replace S:=S.k10 0 3 7 16 17 18 47 48 49 50 rfl
     exact Tn (Fs (wp_cond_false ((S.tm rfl).trans (congrArg Value.bool (Hq hd3 hi3))) (wp_exit (Dj (Dj (Fj (Tn (⟨x9,v10,h,S.nf [true,true,true] rfl (subR rfl)⟩))))))))
    | cons y3 ys3 =>
     rw [Fm.eq_2] at h
     refine Fr (Vb S Dt rfl rfl rfl fun a S=>Ld ?_)
     replace S:=S.k10 0 3 7 16 17 18 47 48 49 50 rfl
     refine Tn (Fs (wp_cond_true ((S.tm rfl).trans (congrArg Value.bool (Gb hd3 hi3))) (wp_skip (Tn (Fs ?_)))))
     obtain ⟨j6,hj6,h⟩:=Ec h
     refine Ds (fun a w'=>∃ x10 : List An,j6 x10 = some r ∧ Sx w [O] φ3 [.own v10 49 5 x10.length (x10.flatMap An.enc),.own v1 49 5 x1.length (x1.flatMap An.enc),.blk O [U,iV x4] 25] [(0,.pointer (some ⟨O,0,none⟩)),(3,v1),(7,v10),(16,(.slice (some ⟨b1,0,none⟩) 3 3)),(17,iV (([Ke,Lz,Ma] : List ByteArray).length : Int)),(18,iV (i1 : Int)),(47,v10),(48,iV (x3.length : Int)),(49,iV (i3 : Int))] 114 a w') ?_ ?_
     ·refine wp_block (Fr (Vm S rfl rfl ?_));clear S;intro a S
      obtain ⟨hc2,h⟩:=Hl h
      obtain ⟨b8,hg1,hr7⟩:=Gf (a:=a) (x:=.tmp 47) (y:=.tmp 49) (ty:=0) Ja An.enc_ok S (i:=0) rfl (Db hc2).1 (Db hc2).2 (S.tm rfl) (S.tm rfl)
      refine lv S (hr7 _) rfl ?_;clear S;intro a S
      clear hr7
      refine lv S (Fp isAgg49 sizeOf49 (off:=((i3 : Int).toNat) * 5) (o:=0) (part:=(An.enc (nth x9 (i3 : Int)))) rfl rfl (S.tm rfl) (Nm An.enc_ok S (i:=0) rfl hg1 (Db hc2).1)) rfl fun a S=>It S zeroValue49 (cs:=[sV Cy,sV Cy,sV Cy,iV 0,bV false]) rfl rfl ?_;clear S;intro a w20 b9 hz6 hk11 S
      refine Va S rfl rfl fun a S=>Gl S (S.tm rfl) (S.tm rfl) (i:=0) (off:=0) rfl sizeOf49 (vs:=(An.enc (nth x9 (i3 : Int)))) rfl rfl rfl rfl ?_;clear S;intro w21 hk12 S
      refine Ld ?_
      replace S:=(S.nl [.blk b9 (An.enc (nth x9 (i3 : Int))) 49,.own v10 49 5 x9.length (x9.flatMap An.enc),.own v1 49 5 x1.length (x1.flatMap An.enc),.blk O [U,iV x4] 25] [true,true,true,true] rfl).k11 0 3 7 10 11 16 17 18 47 48 49 rfl
      refine Tn (Fr (Vk S rfl rfl fun a S=>Dl (Fs (Fr (Vm S rfl rfl fun a S=>lv S (Ee Ja (S.tm rfl) (Nn (S.own_at (i:=1) rfl))) rfl ?_)))));clear S;intro a S
      refine lv S (Rm rfl) rfl fun a S=>Ld ?_
      replace S:=S.k15 0 3 7 10 11 12 16 17 18 47 48 49 54 55 56 rfl
      refine Tn ?_
      have hm5:=Wb (S.own_at (i:=1) rfl)
      obtain ⟨j7,hj7,h⟩:=Ec h
      refine Ds (fun a w'=>∃ x11 : Int,j7 x11 = some r ∧ Sx w [O] φ3 [.blk b9 (An.enc (nth x9 (i3 : Int))) 49,.own v10 49 5 x9.length (x9.flatMap An.enc),.own v1 49 5 x1.length (x1.flatMap An.enc),.blk O [U,iV x4] 25] [(0,.pointer (some ⟨O,0,none⟩)),(3,v1),(7,v10),(10,iV (i3 : Int)),(11,.pointer (some ⟨b9,0,none⟩)),(12,iV x11),(16,(.slice (some ⟨b1,0,none⟩) 3 3)),(17,iV (([Ke,Lz,Ma] : List ByteArray).length : Int)),(18,iV (i1 : Int)),(47,v10),(48,iV (x3.length : Int)),(49,iV (i3 : Int))] 114 a w') ?_ ?_
      ·refine wp_block (Fi (fun (ys4 : List An) a w'=>∃ i4 : Nat,∃ x11 : Int,(∃ dn,x9 = dn ++ ys4 ∧ dn.length = i4) ∧ Fz x9 i3 j7 ys4 i4 x11 = some r ∧ Sx w [O] φ3 [.blk b9 (An.enc (nth x9 (i3 : Int))) 49,.own v10 49 5 x9.length (x9.flatMap An.enc),.own v1 49 5 x1.length (x1.flatMap An.enc),.blk O [U,iV x4] 25] [(0,.pointer (some ⟨O,0,none⟩)),(3,v1),(7,v10),(10,iV (i3 : Int)),(11,.pointer (some ⟨b9,0,none⟩)),(12,iV x11),(16,(.slice (some ⟨b1,0,none⟩) 3 3)),(17,iV (([Ke,Lz,Ma] : List ByteArray).length : Int)),(18,iV (i1 : Int)),(47,v10),(48,iV (x3.length : Int)),(49,iV (i3 : Int)),(54,v10),(55,iV (x9.length : Int)),(56,iV (i4 : Int))] 114 a w') List.length x9 ⟨0,1,⟨[],rfl,rfl⟩,h,S.nf [true,true,true,true] rfl (subR rfl)⟩ ?_)
       clear S h;rintro ys4 a w22 ⟨i4,x11,⟨dn,hd4,hi4⟩,h,S⟩
       cases ys4 with
       | nil =>
        rw [Fz.eq_1] at h
        refine Fr (Vb S Dt rfl rfl rfl fun a S=>Ld ?_)
        replace S:=S.k16 0 3 7 10 11 12 16 17 18 47 48 49 54 55 56 57 rfl
        exact Tn (Fs (wp_cond_false ((S.tm rfl).trans (congrArg Value.bool (Hq hd4 hi4))) (wp_exit (Dj (Dj (Fj (Tn (⟨x11,h,S.nf [true,true,true,true] rfl (subR rfl)⟩))))))))
       | cons y4 ys4 =>
        rw [Fz.eq_2] at h
        refine Fr (Vb S Dt rfl rfl rfl fun a S=>Ld ?_)
        replace S:=S.k16 0 3 7 10 11 12 16 17 18 47 48 49 54 55 56 57 rfl
        refine Tn (Fs (wp_cond_true ((S.tm rfl).trans (congrArg Value.bool (Gb hd4 hi4))) (wp_skip (Tn (Fs ?_)))))
        obtain ⟨j8,hj8,h⟩:=Ec h
        refine Ds (fun a w'=>∃ x12 : Int,j8 x12 = some r ∧ Sx w [O] φ3 [.blk b9 (An.enc (nth x9 (i3 : Int))) 49,.own v10 49 5 x9.length (x9.flatMap An.enc),.own v1 49 5 x1.length (x1.flatMap An.enc),.blk O [U,iV x4] 25] [(0,.pointer (some ⟨O,0,none⟩)),(3,v1),(7,v10),(10,iV (i3 : Int)),(11,.pointer (some ⟨b9,0,none⟩)),(12,iV x12),(16,(.slice (some ⟨b1,0,none⟩) 3 3)),(17,iV (([Ke,Lz,Ma] : List ByteArray).length : Int)),(18,iV (i1 : Int)),(47,v10),(48,iV (x3.length : Int)),(49,iV (i3 : Int)),(54,v10),(55,iV (x9.length : Int)),(56,iV (i4 : Int))] 114 a w') ?_ ?_
        ·refine wp_block (Fs (Fg ?_))
         obtain ⟨b10,hg2,hr8⟩:=Gf (a:=a) (x:=.tmp 54) (y:=.tmp 56) (ty:=0) Ja An.enc_ok S (i:=1) rfl (Hz hd4 hi4) rfl (S.tm rfl) (S.tm rfl)
         refine lv S (hr8 _) rfl ?_;clear S;intro a S
         clear hr8
         refine lv S (Fp isAgg49 sizeOf49 (off:=i4 * 5) (o:=0) (part:=(An.enc y4)) rfl rfl (S.tm rfl) (Nm An.enc_ok S (i:=1) rfl hg2 (Hz hd4 hi4))) rfl fun a S=>It S zeroValue49 (cs:=[sV Cy,sV Cy,sV Cy,iV 0,bV false]) rfl rfl ?_;clear S;intro a w25 b11 hz7 hk13 S
         refine Gl S (S.tm rfl) (S.tm rfl) (i:=0) (off:=0) rfl sizeOf49 (vs:=(An.enc y4)) rfl rfl rfl rfl ?_;clear S;intro w26 hk14 S
         refine Ld ?_
         replace S:=(S.nl [.blk b11 (An.enc y4) 49,.blk b9 (An.enc (nth x9 (i3 : Int))) 49,.own v10 49 5 x9.length (x9.flatMap An.enc),.own v1 49 5 x1.length (x1.flatMap An.enc),.blk O [U,iV x4] 25] [true,true,true,true,true] rfl).k16 0 3 7 10 11 12 14 16 17 18 47 48 49 54 55 56 rfl
         refine Tn (Fr (Vf Jy S rfl rfl fun a S=>Vl isAgg3 0 S rfl rfl rfl rfl fun a S=>Vq S Ji rfl rfl rfl fun a S=>Vm S rfl rfl fun a S=>Hw 8 (fun a w'=>Keep [] w26 w' ∧ Sx w [O] φ3 [.blk b11 (An.enc y4) 49,.blk b9 (An.enc (nth x9 (i3 : Int))) 49,.own v10 49 5 x9.length (x9.flatMap An.enc),.own v1 49 5 x1.length (x1.flatMap An.enc),.blk O [U,iV x4] 25] [(0,.pointer (some ⟨O,0,none⟩)),(3,v1),(7,v10),(10,iV (i3 : Int)),(11,.pointer (some ⟨b9,0,none⟩)),(12,iV x11),(16,(.slice (some ⟨b1,0,none⟩) 3 3)),(17,iV (([Ke,Lz,Ma] : List ByteArray).length : Int)),(18,iV (i1 : Int)),(47,v10),(48,iV (x3.length : Int)),(49,iV (i3 : Int)),(54,v10),(55,iV (x9.length : Int)),(56,iV (i4 : Int)),(71,bV ((decide (0 < y4.Rank)) && (decide ((Int.tmod y4.Rank 10) < (Int.tmod ((nth x9 (i3 : Int)).Rank) 10)))))] 114 a w') ?_ ?_))
         ·rcases Bool.eq_false_or_eq_true (decide (0 < y4.Rank)) with hb2 | hb2
          ·refine Cz S rfl rfl rfl hb2 (Vf Jy S rfl rfl fun a S=>Cz S rfl rfl rfl hb2 (Vl isAgg3 0 S rfl rfl rfl rfl fun a S=>Cz S rfl rfl rfl hb2 (lv S (Tj (S.tm rfl) rfl (by decide)) rfl fun a S=>Cz S rfl rfl rfl hb2 (Vf Jy S rfl rfl fun a S=>Cz S rfl rfl rfl hb2 (Vl isAgg3 1 S rfl rfl rfl rfl fun a S=>Cz S rfl rfl rfl hb2 ?_)))))
           exact lv S (Tj (S.tm rfl) rfl (by decide)) rfl fun a S=>Cz S rfl rfl rfl hb2 (Vb S Dt rfl rfl rfl fun a S=>lv S (Hg hb2 (S.tm rfl) (S.tm rfl)) rfl fun a S=>Dl (⟨Keep.refl _ _,S.nf [true,true,true,true,true] rfl (subR rfl)⟩))
          ·iterate 7 (refine Gm S rfl rfl rfl (Jt hb2) rfl ?_ rfl;clear S;intro a S)
           exact lv S (Hh (decide ((Int.tmod y4.Rank 10) < (Int.tmod ((nth x9 (i3 : Int)).Rank) 10))) hb2 (S.tm rfl) rfl) rfl fun a S=>Dl (⟨Keep.refl _ _,S.nf [true,true,true,true,true] rfl (subR rfl)⟩)
         clear S;rintro a w27 ⟨hk15,S⟩
         refine Vm S rfl rfl fun a S=>Hw 4 (fun a w'=>Keep [] w27 w' ∧ Sx w [O] φ3 [.blk b11 (An.enc y4) 49,.blk b9 (An.enc (nth x9 (i3 : Int))) 49,.own v10 49 5 x9.length (x9.flatMap An.enc),.own v1 49 5 x1.length (x1.flatMap An.enc),.blk O [U,iV x4] 25] [(0,.pointer (some ⟨O,0,none⟩)),(3,v1),(7,v10),(10,iV (i3 : Int)),(11,.pointer (some ⟨b9,0,none⟩)),(12,iV x11),(16,(.slice (some ⟨b1,0,none⟩) 3 3)),(17,iV (([Ke,Lz,Ma] : List ByteArray).length : Int)),(18,iV (i1 : Int)),(47,v10),(48,iV (x3.length : Int)),(49,iV (i3 : Int)),(54,v10),(55,iV (x9.length : Int)),(56,iV (i4 : Int)),(76,bV (((decide (0 < y4.Rank)) && (decide ((Int.tmod y4.Rank 10) < (Int.tmod ((nth x9 (i3 : Int)).Rank) 10)))) && (decide (0 < ((nth x9 (i3 : Int)).Rank)))))] 114 a w') ?_ ?_
         ·rcases Bool.eq_false_or_eq_true ((decide (0 < y4.Rank)) && (decide ((Int.tmod y4.Rank 10) < (Int.tmod ((nth x9 (i3 : Int)).Rank) 10)))) with hb3 | hb3
          ·exact Cz S rfl rfl rfl hb3 (Vf Jy S rfl rfl fun a S=>Cz S rfl rfl rfl hb3 (Vl isAgg3 1 S rfl rfl rfl rfl fun a S=>Cz S rfl rfl rfl hb3 (Vq S Ji rfl rfl rfl fun a S=>lv S (Hg hb3 (S.tm rfl) (S.tm rfl)) rfl fun a S=>Dl (⟨Keep.refl _ _,S.nf [true,true,true,true,true] rfl (subR rfl)⟩))))
          ·iterate 3 (refine Gm S rfl rfl rfl (Jt hb3) rfl ?_ rfl;clear S;intro a S)
           exact lv S (Hh (decide (0 < ((nth x9 (i3 : Int)).Rank))) hb3 (S.tm rfl) rfl) rfl fun a S=>Dl (⟨Keep.refl _ _,S.nf [true,true,true,true,true] rfl (subR rfl)⟩)
         clear S;rintro a w28 ⟨hk16,S⟩
         refine Ld ?_
         replace S:=S.d0.k16 0 3 7 10 11 12 16 17 18 47 48 49 54 55 56 76 rfl
         refine Tn ?_
         obtain ⟨j9,hj9,h⟩:=Ec h
         refine Ds (fun a w'=>∃ x13 : Int,j9 x13 = some r ∧ Sx w [O] φ3 [.blk b9 (An.enc (nth x9 (i3 : Int))) 49,.own v10 49 5 x9.length (x9.flatMap An.enc),.own v1 49 5 x1.length (x1.flatMap An.enc),.blk O [U,iV x4] 25] [(0,.pointer (some ⟨O,0,none⟩)),(3,v1),(7,v10),(10,iV (i3 : Int)),(11,.pointer (some ⟨b9,0,none⟩)),(12,iV x13),(16,(.slice (some ⟨b1,0,none⟩) 3 3)),(17,iV (([Ke,Lz,Ma] : List ByteArray).length : Int)),(18,iV (i1 : Int)),(47,v10),(48,iV (x3.length : Int)),(49,iV (i3 : Int)),(54,v10),(55,iV (x9.length : Int)),(56,iV (i4 : Int))] 114 a w') ?_ ?_
         ·refine Fc h (S.tm rfl) (fun hb4 h=>?_) (fun hb4 h=>?_)
          ·refine Fg (Vm S rfl rfl fun a S=>Vq S Ek rfl rfl rfl fun a S=>Va S rfl rfl fun a S=>Ld ?_)
           replace S:=S.k15 0 3 7 10 11 12 16 17 18 47 48 49 54 55 56 rfl
           exact Tn (⟨W (x11 + 1),h,S.nf [true,true,true,true] rfl (subR rfl)⟩)
          ·exact wp_skip (Tn (⟨x11,h,S.nf [true,true,true,true] rfl (subR rfl)⟩))
         clear S h;rintro a w29 ⟨x13,h,S⟩;rw [hj9] at h;clear hj9 j9
         exact Gx (Tn (⟨x13,h,S.nf [true,true,true,true] rfl (subR rfl)⟩))
        clear S h;rintro a w24 ⟨x12,h,S⟩;rw [hj8] at h;clear hj8 j8
        refine Tn (Fg (Vq S Ek rfl rfl rfl fun a S=>Vm S rfl rfl fun a S=>Ld ?_))
        replace S:=S.k15 0 3 7 10 11 12 16 17 18 47 48 49 54 55 56 rfl
        exact Tn (⟨ys4,⟨i4 + 1,x12,⟨_,(hd4).trans (List.append_cons _ _ _),by simp [hi4]⟩,h,S.nf [true,true,true,true] rfl ⟨rfl,rfl,rfl,rfl,rfl,rfl,rfl,rfl,rfl,rfl,rfl,rfl,rfl,rfl,(congrArg (fun z=>some (Value.int .i64 z)) (Gc hd4 hi4 hm5)),trivial⟩⟩,Nat.lt_succ_self _⟩)
      clear S h;rintro a w23 ⟨x11,h,S⟩;rw [hj7] at h;clear hj7 j7
      refine Tn (Fr (Vf Jy S rfl rfl fun a S=>Vl isAgg3 0 S rfl rfl rfl rfl fun a S=>Vq S Ji rfl rfl rfl fun a S=>Ld ?_))
      replace S:=S.k13 0 3 7 10 11 12 16 17 18 47 48 49 82 rfl
      refine Tn ?_
      obtain ⟨j10,hj10,h⟩:=Ec h
      refine Ds (fun a w'=>∃ x14 : List An,j10 x14 = some r ∧ Sx w [O] φ3 [.own v10 49 5 x14.length (x14.flatMap An.enc),.own v1 49 5 x1.length (x1.flatMap An.enc),.blk O [U,iV x4] 25] [(0,.pointer (some ⟨O,0,none⟩)),(3,v1),(7,v10),(16,(.slice (some ⟨b1,0,none⟩) 3 3)),(17,iV (([Ke,Lz,Ma] : List ByteArray).length : Int)),(18,iV (i1 : Int)),(47,v10),(48,iV (x3.length : Int)),(49,iV (i3 : Int))] 114 a w') ?_ ?_
      ·refine Fc h (S.tm rfl) (fun hb5 h=>?_) (fun hb5 h=>?_)
       ·refine Fg (Vm S rfl rfl fun a S=>Vm S rfl rfl fun a S=>Vf Jy S rfl rfl fun a S=>Vl isAgg3 0 S rfl rfl rfl rfl fun a S=>Vm S rfl rfl fun a S=>Vu S (Vg rfl) rfl rfl fun a S=>Vb S Ek rfl rfl rfl ?_);clear S;intro a S
        obtain ⟨hc3,h⟩:=Hl h
        obtain ⟨b12,hg3,hr9⟩:=Gf (a:=a) (x:=.tmp 83) (y:=.tmp 84) (ty:=0) Ja An.enc_ok S (i:=1) rfl (Db hc3).1 (Db hc3).2 (S.tm rfl) (S.tm rfl)
        refine lv S (hr9 _) rfl ?_;clear S;intro a S
        clear hr9
        refine Vf Jy S rfl rfl fun a S=>Oc (c:=3) (j:=(i3 : Int).toNat) (An.mk ((nth x9 (i3 : Int)).Race) ((nth x9 (i3 : Int)).Who) ((nth x9 (i3 : Int)).Club) (W (((nth x9 (i3 : Int)).Rank) + (W (10 * x11)))) ((nth x9 (i3 : Int)).Relay)) An.enc_ok S (S.tm rfl) (S.tm rfl) (i:=1) rfl hg3 (Db hc3).1 sizeOf3 (vs:=[iV (W (((nth x9 (i3 : Int)).Rank) + (W (10 * x11))))]) rfl rfl rfl rfl rfl ?_;clear S;intro w32 hk18 S
        refine Ld ?_
        replace S:=(S.nl [.own v10 49 5 (x9.set ((i3 : Int).toNat) (An.mk ((nth x9 (i3 : Int)).Race) ((nth x9 (i3 : Int)).Who) ((nth x9 (i3 : Int)).Club) (W (((nth x9 (i3 : Int)).Rank) + (W (10 * x11)))) ((nth x9 (i3 : Int)).Relay))).length ((x9.set ((i3 : Int).toNat) (An.mk ((nth x9 (i3 : Int)).Race) ((nth x9 (i3 : Int)).Who) ((nth x9 (i3 : Int)).Club) (W (((nth x9 (i3 : Int)).Rank) + (W (10 * x11)))) ((nth x9 (i3 : Int)).Relay))).flatMap An.enc),.own v1 49 5 x1.length (x1.flatMap An.enc),.blk O [U,iV x4] 25] [false,true,true,true] rfl).k9 0 3 7 16 17 18 47 48 49 rfl
        exact Tn (⟨(x9.set ((i3 : Int).toNat) (An.mk ((nth x9 (i3 : Int)).Race) ((nth x9 (i3 : Int)).Who) ((nth x9 (i3 : Int)).Club) (W (((nth x9 (i3 : Int)).Rank) + (W (10 * x11)))) ((nth x9 (i3 : Int)).Relay))),h,S.nf [true,true,true] rfl (subR rfl)⟩)
       ·exact wp_skip (Tn (⟨x9,h,S.nf [false,true,true,true] rfl (subR rfl)⟩))
      clear S h;rintro a w30 ⟨x14,h,S⟩;rw [hj10] at h;clear hj10 j10
      exact Gx (Tn (⟨x14,h,S.nf [true,true,true] rfl (subR rfl)⟩))
     clear S h;rintro a w19 ⟨x10,h,S⟩;rw [hj6] at h;clear hj6 j6
     exact Tn (Fg (Vq S Ek rfl rfl rfl fun a S=>Vm S rfl rfl fun a S=>Dl (⟨ys3,⟨i3 + 1,x10,v10,⟨_,(hd3).trans (List.append_cons _ _ _),by simp [hi3]⟩,h,S.nf [true,true,true] rfl ⟨rfl,rfl,rfl,rfl,rfl,rfl,rfl,rfl,(congrArg (fun z=>some (Value.int .i64 z)) (Gc hd3 hi3 hm3)),trivial⟩⟩,Nat.lt_succ_self _⟩)))
   clear S h;rintro a w18 ⟨x9,v10,h,S⟩;rw [hj5] at h;clear hj5 j5
   refine Tn (Fs (Fr (Vm S rfl rfl fun a S=>lv S (Ee Ja (S.tm rfl) (Nn (S.own_at (i:=0) rfl))) rfl fun a S=>lv S (Rm rfl) rfl fun a S=>Dl ?_)))
   replace S:=S.k8 0 3 7 16 17 18 94 95 rfl
   have hm8:=Wb (S.own_at (i:=0) rfl)
   obtain ⟨j11,hj11,h⟩:=Ec h
   refine Ds (fun a w'=>∃ x15 : List An,∃ v11 : Value,j11 x15 = some r ∧ Sx w [O] φ3 [.own v11 49 5 x15.length (x15.flatMap An.enc),.own v1 49 5 x1.length (x1.flatMap An.enc),.blk O [U,iV x4] 25] [(0,.pointer (some ⟨O,0,none⟩)),(3,v1),(7,v11),(16,(.slice (some ⟨b1,0,none⟩) 3 3)),(17,iV (([Ke,Lz,Ma] : List ByteArray).length : Int)),(18,iV (i1 : Int))] 114 a w') ?_ ?_
   ·refine wp_block (Fi (fun (ys5 : List An) a w'=>∃ i5 : Nat,∃ x15 : List An,∃ v11 : Value,(∃ dn,x9 = dn ++ ys5 ∧ dn.length = i5) ∧ Ez j11 ys5 i5 x15 = some r ∧ Sx w [O] φ3 [.own v11 49 5 x15.length (x15.flatMap An.enc),.own v1 49 5 x1.length (x1.flatMap An.enc),.blk O [U,iV x4] 25] [(0,.pointer (some ⟨O,0,none⟩)),(3,v1),(7,v11),(16,(.slice (some ⟨b1,0,none⟩) 3 3)),(17,iV (([Ke,Lz,Ma] : List ByteArray).length : Int)),(18,iV (i1 : Int)),(94,iV (x9.length : Int)),(95,iV (i5 : Int))] 114 a w') List.length x9 ⟨0,x9,v10,⟨[],rfl,rfl⟩,h,S.nf [true,true,true] rfl (subR rfl)⟩ ?_)
    clear S h;rintro ys5 a w33 ⟨i5,x15,v11,⟨dn,hd5,hi5⟩,h,S⟩
    cases ys5 with
    | nil =>
     rw [Ez.eq_1] at h
     refine Fr (Vb S Dt rfl rfl rfl fun a S=>Ld ?_)
     replace S:=S.k9 0 3 7 16 17 18 94 95 96 rfl
     exact Tn (Fs (wp_cond_false ((S.tm rfl).trans (congrArg Value.bool (Hq hd5 hi5))) (wp_exit (Dj (Dj (Fj (Tn (⟨x15,v11,h,S.nf [true,true,true] rfl (subR rfl)⟩))))))))
    | cons y5 ys5 =>
     rw [Ez.eq_2] at h
     refine Fr (Vb S Dt rfl rfl rfl fun a S=>Ld ?_)
     replace S:=S.k9 0 3 7 16 17 18 94 95 96 rfl
     refine Tn (Fs (wp_cond_true ((S.tm rfl).trans (congrArg Value.bool (Gb hd5 hi5))) (wp_skip (Tn (Fs (wp_block (Fr (Vm S rfl rfl fun a S=>Va S rfl rfl ?_))))))));clear S;intro a S
     refine Dl (Fg (Vm S rfl rfl fun a S=>Vm S rfl rfl ?_));clear S;intro a S
     obtain ⟨hc4,h⟩:=Hl h
     obtain ⟨b13,hg4,hr10⟩:=Gf (a:=a) (x:=.tmp 98) (y:=.tmp 99) (ty:=0) Ja An.enc_ok S (i:=0) rfl (Db hc4).1 (Db hc4).2 (S.tm rfl) (S.tm rfl)
     refine lv S (hr10 _) rfl ?_;clear S;intro a S
     clear hr10
     refine Vf Jy S rfl rfl fun a S=>lv S (Gk isAgg3 (off:=((i5 : Int).toNat) * 5) (o:=3) (S.tm rfl) (Nm An.enc_ok S (i:=0) rfl hg4 (Db hc4).1) rfl) rfl fun a S=>lv S (AV (S.tm rfl) rfl (by decide)) rfl ?_;clear S;intro a S
     obtain ⟨hc5,h⟩:=Hl h
     obtain ⟨b14,hg5,hr11⟩:=Gf (a:=a) (x:=.tmp 98) (y:=.tmp 99) (ty:=0) Ja An.enc_ok S (i:=0) rfl (Db hc5).1 (Db hc5).2 (S.tm rfl) (S.tm rfl)
     refine lv S (hr11 _) rfl ?_;clear S;intro a S
     clear hr11
     refine Vf Jy S rfl rfl fun a S=>Oc (c:=3) (j:=(i5 : Int).toNat) (An.mk ((nth x15 (i5 : Int)).Race) ((nth x15 (i5 : Int)).Who) ((nth x15 (i5 : Int)).Club) (W (Int.tdiv ((nth x15 (i5 : Int)).Rank) 10)) ((nth x15 (i5 : Int)).Relay)) An.enc_ok S (S.tm rfl) (S.tm rfl) (i:=0) rfl hg5 (Db hc5).1 sizeOf3 (vs:=[iV (W (Int.tdiv ((nth x15 (i5 : Int)).Rank) 10))]) rfl rfl rfl rfl rfl ?_;clear S;intro w36 hk20 S
     refine Ld ?_
     replace S:=(S.nl [.own v11 49 5 (x15.set ((i5 : Int).toNat) (An.mk ((nth x15 (i5 : Int)).Race) ((nth x15 (i5 : Int)).Who) ((nth x15 (i5 : Int)).Club) (W (Int.tdiv ((nth x15 (i5 : Int)).Rank) 10)) ((nth x15 (i5 : Int)).Relay))).length ((x15.set ((i5 : Int).toNat) (An.mk ((nth x15 (i5 : Int)).Race) ((nth x15 (i5 : Int)).Who) ((nth x15 (i5 : Int)).Club) (W (Int.tdiv ((nth x15 (i5 : Int)).Rank) 10)) ((nth x15 (i5 : Int)).Relay))).flatMap An.enc),.own v1 49 5 x1.length (x1.flatMap An.enc),.blk O [U,iV x4] 25] [true,true,true] rfl).k8 0 3 7 16 17 18 94 95 rfl
     exact Gx (Tn (Fg (Vq S Ek rfl rfl rfl fun a S=>Vm S rfl rfl fun a S=>Dl (⟨ys5,⟨i5 + 1,(x15.set ((i5 : Int).toNat) (An.mk ((nth x15 (i5 : Int)).Race) ((nth x15 (i5 : Int)).Who) ((nth x15 (i5 : Int)).Club) (W (Int.tdiv ((nth x15 (i5 : Int)).Rank) 10)) ((nth x15 (i5 : Int)).Relay))),v11,⟨_,(hd5).trans (List.append_cons _ _ _),by simp [hi5]⟩,h,S.nf [true,true,true] rfl ⟨rfl,rfl,rfl,rfl,rfl,rfl,rfl,(congrArg (fun z=>some (Value.int .i64 z)) (Gc hd5 hi5 hm8)),trivial⟩⟩,Nat.lt_succ_self _⟩))))
   clear S h;rintro a w34 ⟨x15,v11,h,S⟩;rw [hj11] at h;clear hj11 j11
   refine Tn (Fr (Vm S rfl rfl ?_));clear S;intro a S
   obtain ⟨r5,hr12,h⟩:=Eg h
   refine Nl 0 S rfl (fun _=>.own v11 49 5 r5.length (r5.flatMap An.enc)) (fun _=>Cw (vs:=[v11,.func (.func 20) #[] #[]]) ⟨(S.tm rfl),rfl,trivial⟩ call19) (Mp _ v11 x15 (S.holds _ (List.mem_of_getElem? (i:=0) rfl)) _ hr12) rfl (fun _ _ _ h=>⟨h.1,fun _ hc=>hc⟩) ?_;clear S;intro v12 a w37 hv5 hk21 hn5 S
   replace hv5:=hv5.2
   subst hv5
   refine Dl (Fg (Vm S rfl rfl fun a S=>Vm S rfl rfl ?_));clear S;intro a S
   obtain ⟨hc6,h⟩:=Hl h
   refine Zz (Y:=[]) Ja An.enc_ok S (S.tm rfl) (i:=1) rfl (S.tm rfl) (CH An.enc_ok S (i:=0) rfl (fun _ _ h=>by cases h)) rfl rfl (by have:=Nd hc6;omega) rfl ?_;clear S;intro v13 a w38 hk22 S
   exact Va S rfl rfl fun a S=>Ld (Gx (Tn (Fg (Vq S Ek rfl rfl rfl fun a S=>Vm S rfl rfl fun a S=>Dl (⟨ys1,⟨i1 + 1,(x1 ++ r5),x4,φ3,v13,⟨_,(hd1).trans (List.append_cons _ _ _),by simp [hi1]⟩,h,(View.le_trans hl2 hl3),S.nf [false,true,true] rfl ⟨rfl,rfl,rfl,rfl,(congrArg (fun z=>some (Value.int .i64 z)) (Gc hd1 hi1 (Jk (Ha Mf hs1)))),trivial⟩⟩,Nat.lt_succ_self _⟩)))))
 clear S h;rintro a w3 ⟨x1,x2,φ2,v1,h,hl2,S⟩;rw [hj1] at h;clear hj1 j1
 refine Tn (Fr (Vm S rfl rfl fun a S=>Va S rfl rfl fun a S=>Dl (wp_ret ?_)))
 obtain rfl:=Option.some.inj h
 exact Dx S results5 rfl ⟨(S.holds _ (List.mem_of_getElem? (i:=1) rfl)),(CI S (i:=0) rfl (fun c hc hh=>Ul S (i:=1) rfl rfl (j:=0) rfl rfl (by simp at hc;subst hc;exact hh)))⟩
theorem Rv (w : World) (O : Nat) (U : Value) (Aj : List Int) (Ak : Slc (view w [O]) 1 U (Aj.map eInt)) (Af : Int) (Au : (LEnt.blk O [U,iV Af] 25).holds w) (Bb : Int) (Ax : Int) (r : Int × Int) (h : Qw Aj Af Bb Ax = some r) :
    Calls prog 21 [.pointer (some ⟨O,0,none⟩),iV Bb,iV Ax].toArray w (Ret w [O] fun _ v w'=>(LEnt.blk O [U,iV r.2] 25).holds w' ∧ v = iV r.1):=by
 refine Kv [O] [.blk O [U,iV Af] 25] func21 rfl ntmps21 rfl (fun e he=>by simp only [List.mem_singleton] at he;subst he;exact Au) (by simp [fps,LEnt.fp]) (by simp [fps,LEnt.fp]) fun a S=>?_
 unfold Qw at h
 replace S:=(S.nl [.blk O [U,iV Af] 25] [true] rfl).k3 0 1 2 rfl
 refine Fr (Vk S rfl rfl fun a S=>Dl (Fs (Fr (Vm S rfl rfl ?_))));clear S;intro a S
 obtain ⟨r1,hr1,h⟩:=Eg h
 refine Ga 0 S (b:=O) rfl rfl (fun _=>.blk O [U,iV r1.2] 25) (fun _=>Cw (vs:=[.pointer (some ⟨O,0,none⟩),iV 12]) ⟨(S.tm rfl),rfl,trivial⟩ call17) (Pi _ O U Aj (Ak.mono (S.le_arg (Ix (i:=0) (e:=.blk O [U,iV Af] 25) rfl))) Af (S.holds _ (List.mem_of_getElem? (i:=0) rfl)) 12 _ hr1) rfl (fun _ _ _ h=>⟨h.1,fun _ hc=>by cases hc;rfl⟩) ?_;clear S;intro v1 a w1 hv1 hk1 hn1 S
 replace hv1:=hv1.2
 subst hv1
 refine Dl (Fc h (S.tm rfl) (fun hb1 h=>?_) (fun hb1 h=>?_))
 ·refine Fr (Vm S rfl rfl fun a S=>Vm S rfl rfl fun a S=>Vq S Jb rfl rfl rfl fun a S=>Vm S rfl rfl fun a S=>Vq S Ek rfl rfl rfl fun a S=>Vm S rfl rfl fun a S=>Vm S rfl rfl fun a S=>Ed S underlying22 sizeOf3 zeroValue3 rfl rfl (pv:=[(0,iV (W (Bb - 1))),(1,iV (W (Ax + 1))),(2,iV Bb),(3,iV Ax),(4,iV (-1099511627776)),(5,iV 1099511627776)]) ⟨rfl,(S.tm rfl),rfl,(S.tm rfl),rfl,(S.tm rfl),rfl,(S.tm rfl),rfl,rfl,rfl,rfl,trivial⟩ (cs:=[iV (W (Bb - 1)),iV (W (Ax + 1)),iV Bb,iV Ax,iV (-1099511627776),iV 1099511627776]) (by kernel_rfl) rfl ?_);clear S;intro a w2 b1 hz1 hk2 S
  obtain ⟨r2,hr2,h⟩:=Eg h
  refine Ga 1 S (b:=O) rfl rfl (fun _=>.blk O [U,iV r2.2] 25) (fun _=>Cw (vs:=[.pointer (some ⟨O,0,none⟩),.slice (some ⟨b1,0,none⟩) 6 6]) ⟨(S.tm rfl),(S.tm rfl),trivial⟩ call15) (Lv _ O U Aj (Ak.mono (S.le_arg (Ix (i:=1) (e:=.blk O [U,iV r1.2] 25) rfl))) r1.2 (S.holds _ (List.mem_of_getElem? (i:=1) rfl)) (.slice (some ⟨b1,0,none⟩) 6 6) [W (Bb - 1),W (Ax + 1),Bb,Ax,(-1099511627776),1099511627776] (Jm Hj S (i:=0) rfl rfl rfl rfl ((Ns (i:=1) (j:=0) (e:=.blk O [U,iV r1.2] 25) (e':=.blk b1 [iV (W (Bb - 1)),iV (W (Ax + 1)),iV Bb,iV Ax,iV (-1099511627776),iV 1099511627776] 3) S rfl rfl rfl) _ rfl)) _ hr2) rfl (fun _ _ _ h=>⟨h.1,fun _ hc=>by cases hc;rfl⟩) ?_;clear S;intro v2 a w3 hv2 hk3 hn2 S
  replace hv2:=hv2.2
  subst hv2
  refine Va S rfl rfl fun a S=>Ld ?_
  replace S:=(S.nl [.blk O [U,iV r2.2] 25] [false,true] rfl).k1 6 rfl
  refine Tn (wp_ret (Cx ?_))
  obtain rfl:=Option.some.inj h
  exact Dx S results21 rfl ⟨(S.holds _ (List.mem_of_getElem? (i:=0) rfl)),rfl⟩
 ·refine wp_skip (Tn (Fs (Fg ?_)))
  iterate 3 (refine Vm S rfl rfl ?_;clear S;intro a S)
  obtain ⟨r3,hr3,h⟩:=Eg h
  refine Ga 0 S (b:=O) rfl rfl (fun _=>.blk O [U,iV r3.2] 25) (fun _=>Cw (vs:=[.pointer (some ⟨O,0,none⟩),iV Bb,iV Ax]) ⟨(S.tm rfl),(S.tm rfl),(S.tm rfl),trivial⟩ call16) (Qf _ O U Aj (Ak.mono (S.le_arg (Ix (i:=0) (e:=.blk O [U,iV r1.2] 25) rfl))) r1.2 (S.holds _ (List.mem_of_getElem? (i:=0) rfl)) Bb Ax _ hr3) rfl (fun _ _ _ h=>⟨h.1,fun _ hc=>by cases hc;rfl⟩) ?_;clear S;intro v3 a w4 hv3 hk4 hn3 S
  replace hv3:=hv3.2
  subst hv3
  refine Va S rfl rfl fun a S=>Dl (wp_ret ?_)
  obtain rfl:=Option.some.inj h
  exact Dx S results21 rfl ⟨(S.holds _ (List.mem_of_getElem? (i:=0) rfl)),rfl⟩
theorem Td (w : World) (O : Nat) (U : Value) (Aj : List Int) (Ak : Slc (view w [O]) 1 U (Aj.map eInt)) (Af : Int) (Au : (LEnt.blk O [U,iV Af] 25).holds w) (r : (List Dn) × Int) (h : Nv Aj Af = some r) :
    Calls prog 6 [.pointer (some ⟨O,0,none⟩)].toArray w (Ret w [O] fun τ v w'=>(LEnt.blk O [U,iV r.2] 25).holds w' ∧ Pu τ 52 3 v r.1.length (r.1.flatMap Dn.enc)):=by
 refine Kv [O] [.blk O [U,iV Af] 25] func6 rfl ntmps6 rfl (fun e he=>by simp only [List.mem_singleton] at he;subst he;exact Au) (by simp [fps,LEnt.fp]) (by simp [fps,LEnt.fp]) fun a S=>?_
 unfold Nv at h
 replace S:=(S.nl [.blk O [U,iV Af] 25] [true] rfl).k1 0 rfl
 refine Fr (Vk S rfl rfl fun a S=>Dz (Vk S rfl rfl ?_));clear S;intro a S
 replace S:=S.nil 52 3
 refine Dl (Fs (Fr (Vm S rfl rfl ?_)));clear S;intro a S
 obtain ⟨r1,hr1,h⟩:=Eg h
 refine Ga 1 S (b:=O) rfl rfl (fun _=>.blk O [U,iV r1.2] 25) (fun _=>Cw (vs:=[.pointer (some ⟨O,0,none⟩),iV 0,iV 8]) ⟨(S.tm rfl),rfl,rfl,trivial⟩ call16) (Qf _ O U Aj (Ak.mono (S.le_arg (Ix (i:=1) (e:=.blk O [U,iV Af] 25) rfl))) Af (S.holds _ (List.mem_of_getElem? (i:=1) rfl)) 0 8 _ hr1) rfl (fun _ _ _ h=>⟨h.1,fun _ hc=>by cases hc;rfl⟩) ?_;clear S;intro v1 a w1 hv1 hk1 hn1 S
 replace hv1:=hv1.2
 subst hv1
 refine lv S (Rm rfl) rfl fun a S=>Dl ?_
 replace S:=(S.nl [.own (.slice none 0 0) 52 3 ([] : List Dn).length (([] : List Dn).flatMap Dn.enc),.blk O [U,iV r1.2] 25] [true,true] rfl).k4 0 3 6 7 rfl
 obtain ⟨j1,hj1,h⟩:=Ec h
 refine Ds (fun a w'=>∃ x1 : List Dn,∃ x2 : Int,∃ v2 : Value,j1 x1 x2 = some r ∧ Sx w [O] nov [.own v2 52 3 x1.length (x1.flatMap Dn.enc),.blk O [U,iV x2] 25] [(3,v2)] 42 a w') ?_ ?_
 ·refine wp_block (Fi (fun (m1 : Nat) a w'=>∃ x1 : List Dn,∃ x2 : Int,∃ x3 : Int,∃ v2 : Value,Ip r1 Aj j1 m1 x1 x2 x3 = some r ∧ Sx w [O] nov [.own v2 52 3 x1.length (x1.flatMap Dn.enc),.blk O [U,iV x2] 25] [(0,.pointer (some ⟨O,0,none⟩)),(3,v2),(6,iV r1.1),(7,iV x3)] 42 a w') id ((r1.1 - 0).toNat + 2) ⟨([] : List Dn),r1.2,0,(.slice none 0 0),h,S.nf [true,true] rfl (subR rfl)⟩ ?_)
  clear S h;rintro m1 a w2 ⟨x1,x2,x3,v2,h,S⟩
  cases m1 with
  | zero=>rw [Ip.eq_1] at h;cases h
  | succ m1 =>
   rw [Ip.eq_2] at h
   refine Fr (Vb S Dt rfl rfl rfl fun a S=>Dl (Fs (Fc h (S.tm rfl) (fun hb1 h=>?_) (fun hb1 h=>?_))))
   ·refine wp_skip (Tn (Fs (wp_block (Fr (Vm S rfl rfl fun a S=>Ed S underlying57 sizeOf9 zeroValue9 rfl rfl (pv:=[(0,sV Ke),(1,sV Lz),(2,sV Ma),(3,sV Zm)]) ⟨rfl,rfl,rfl,rfl,rfl,rfl,rfl,rfl,trivial⟩ (cs:=[sV Ke,sV Lz,sV Ma,sV Zm]) (by kernel_rfl) rfl ?_)))));clear S;intro a w4 b1 hz1 hk2 S
    obtain ⟨r2,hr2,h⟩:=Eg h
    refine Ga 2 S (b:=O) rfl rfl (fun _=>.blk O [U,iV r2.2] 25) (fun _=>Cw (vs:=[.pointer (some ⟨O,0,none⟩),.slice (some ⟨b1,0,none⟩) 4 4]) ⟨(S.tm rfl),(S.tm rfl),trivial⟩ call18) (Kf _ O U Aj (Ak.mono (S.le_arg (Ix (i:=2) (e:=.blk O [U,iV x2] 25) rfl))) x2 (S.holds _ (List.mem_of_getElem? (i:=2) rfl)) (.slice (some ⟨b1,0,none⟩) 4 4) [Ke,Lz,Ma,Zm] (Jm Mf S (i:=0) rfl rfl rfl rfl ((Ns (i:=2) (j:=0) (e:=.blk O [U,iV x2] 25) (e':=.blk b1 [sV Ke,sV Lz,sV Ma,sV Zm] 9) S rfl rfl rfl) _ rfl)) _ hr2) rfl (fun _ _ _ h=>⟨h.1,fun _ hc=>by cases hc;rfl⟩) ?_;clear S;intro v3 a w5 hv2 hk3 hn2 S
    replace hv2:=hv2.2
    subst hv2
    refine Vm S rfl rfl fun a S=>Ed S underlying57 sizeOf9 zeroValue9 rfl rfl (pv:=[(0,sV Kx),(1,sV Kx),(2,sV My)]) ⟨rfl,rfl,rfl,rfl,rfl,rfl,trivial⟩ (cs:=[sV Kx,sV Kx,sV My]) (by kernel_rfl) rfl ?_;clear S;intro a w6 b2 hz2 hk4 S
    obtain ⟨r3,hr3,h⟩:=Eg h
    refine Ga 3 S (b:=O) rfl rfl (fun _=>.blk O [U,iV r3.2] 25) (fun _=>Cw (vs:=[.pointer (some ⟨O,0,none⟩),.slice (some ⟨b2,0,none⟩) 3 3]) ⟨(S.tm rfl),(S.tm rfl),trivial⟩ call18) (Kf _ O U Aj (Ak.mono (S.le_arg (Ix (i:=3) (e:=.blk O [U,iV r2.2] 25) rfl))) r2.2 (S.holds _ (List.mem_of_getElem? (i:=3) rfl)) (.slice (some ⟨b2,0,none⟩) 3 3) [Kx,Kx,My] (Jm Mf S (i:=0) rfl rfl rfl rfl ((Ns (i:=3) (j:=0) (e:=.blk O [U,iV r2.2] 25) (e':=.blk b2 [sV Kx,sV Kx,sV My] 9) S rfl rfl rfl) _ rfl)) _ hr3) rfl (fun _ _ _ h=>⟨h.1,fun _ hc=>by cases hc;rfl⟩) ?_;clear S;intro v4 a w7 hv3 hk5 hn3 S
    replace hv3:=hv3.2
    subst hv3
    refine Vm S rfl rfl fun a S=>Ed S underlying22 sizeOf3 zeroValue3 rfl rfl (pv:=[(0,iV 0),(1,iV 1),(2,iV 2000),(3,iV 3000),(4,iV 4567),(5,iV 9000)]) ⟨rfl,rfl,rfl,rfl,rfl,rfl,rfl,rfl,rfl,rfl,rfl,rfl,trivial⟩ (cs:=[iV 0,iV 1,iV 2000,iV 3000,iV 4567,iV 9000]) (by kernel_rfl) rfl ?_;clear S;intro a w8 b3 hz3 hk6 S
    obtain ⟨r4,hr4,h⟩:=Eg h
    refine Ga 4 S (b:=O) rfl rfl (fun _=>.blk O [U,iV r4.2] 25) (fun _=>Cw (vs:=[.pointer (some ⟨O,0,none⟩),.slice (some ⟨b3,0,none⟩) 6 6]) ⟨(S.tm rfl),(S.tm rfl),trivial⟩ call15) (Lv _ O U Aj (Ak.mono (S.le_arg (Ix (i:=4) (e:=.blk O [U,iV r3.2] 25) rfl))) r3.2 (S.holds _ (List.mem_of_getElem? (i:=4) rfl)) (.slice (some ⟨b3,0,none⟩) 6 6) [0,1,2000,3000,4567,9000] (Jm Hj S (i:=0) rfl rfl rfl rfl ((Ns (i:=4) (j:=0) (e:=.blk O [U,iV r3.2] 25) (e':=.blk b3 [iV 0,iV 1,iV 2000,iV 3000,iV 4567,iV 9000] 3) S rfl rfl rfl) _ rfl)) _ hr4) rfl (fun _ _ _ h=>⟨h.1,fun _ hc=>by cases hc;rfl⟩) ?_;clear S;intro v5 a w9 hv4 hk7 hn4 S
    replace hv4:=hv4.2
    subst hv4
    refine lv S (Lp bt_52 (pv:=[(0,sV r2.1),(1,sV r3.1),(2,iV r4.1)]) ⟨rfl,(S.tm rfl),rfl,(S.tm rfl),rfl,(S.tm rfl),trivial⟩ (cs:=[sV r2.1,sV r3.1,iV r4.1]) (by kernel_rfl)) rfl fun a S=>It S zeroValue52 (cs:=[sV Cy,sV Cy,iV 0]) rfl rfl ?_;clear S;intro a w10 b4 hz4 hk8 S
    refine Gl S (S.tm rfl) (S.tm rfl) (i:=0) (off:=0) rfl sizeOf52 (vs:=[sV r2.1,sV r3.1,iV r4.1]) rfl rfl rfl rfl ?_;clear S;intro w11 hk9 S
    refine Ld ?_
    replace S:=(S.nl [.blk b4 [sV r2.1,sV r3.1,iV r4.1] 52,.own v2 52 3 x1.length (x1.flatMap Dn.enc),.blk O [U,iV r4.2] 25] [true,false,false,false,true,true] rfl).k5 0 3 4 6 7 rfl
    refine Tn (Fs (Fr (Vm S rfl rfl ?_)));clear S;intro a S
    obtain ⟨r5,hr5,h⟩:=Eg h
    refine Ga 2 S (b:=O) rfl rfl (fun _=>.blk O [U,iV r5.2] 25) (fun _=>Cw (vs:=[.pointer (some ⟨O,0,none⟩),iV 80]) ⟨(S.tm rfl),rfl,trivial⟩ call17) (Pi _ O U Aj (Ak.mono (S.le_arg (Ix (i:=2) (e:=.blk O [U,iV r4.2] 25) rfl))) r4.2 (S.holds _ (List.mem_of_getElem? (i:=2) rfl)) 80 _ hr5) rfl (fun _ _ _ h=>⟨h.1,fun _ hc=>by cases hc;rfl⟩) ?_;clear S;intro v6 a w12 hv5 hk10 hn5 S
    replace hv5:=hv5.2
    subst hv5
    refine Dl ?_
    obtain ⟨j2,hj2,h⟩:=Ec h
    refine Ds (fun a w'=>∃ x4 : ByteArray,∃ x5 : ByteArray,∃ x6 : Int,∃ x7 : Int,j2 x4 x5 x6 x7 = some r ∧ Sx w [O] nov [.blk b4 [sV x4,sV x5,iV x6] 52,.own v2 52 3 x1.length (x1.flatMap Dn.enc),.blk O [U,iV x7] 25] [(0,.pointer (some ⟨O,0,none⟩)),(3,v2),(4,.pointer (some ⟨b4,0,none⟩)),(6,iV r1.1),(7,iV x3)] 42 a w') ?_ ?_
    ·refine Fc h (S.tm rfl) (fun hb2 h=>?_) (fun hb2 h=>?_)
     ·obtain ⟨j3,hj3,h⟩:=Ec h
      refine Ds (fun a w'=>∃ x8 : ByteArray,∃ x9 : ByteArray,∃ x10 : Int,∃ x11 : Int,j3 x8 x9 x10 x11 = some r ∧ Sx w [O] nov [.blk b4 [sV x8,sV x9,iV x10] 52,.own v2 52 3 x1.length (x1.flatMap Dn.enc),.blk O [U,iV x11] 25] [(0,.pointer (some ⟨O,0,none⟩)),(3,v2),(4,.pointer (some ⟨b4,0,none⟩)),(6,iV r1.1),(7,iV x3)] 42 a w') ?_ ?_
      ·obtain ⟨r6,hr6,h⟩:=Eg h
       obtain ⟨r7,hr7,h⟩:=Eg h
       obtain ⟨r8,hr8,h⟩:=Eg h
       refine Fw [13,15,17] ([O]) Tryz.mixed S rfl (by kernel_rfl) ?_;clear S;intro w23 hk19 hsel S
       refine Fd 0 S hsel rfl rfl (by kernel_rfl) (by kernel_rfl) rfl (fun _=>(Rm (S.tm rfl))) fun a S=>Fd 1 S hsel rfl rfl (by kernel_rfl) (by kernel_rfl) rfl (fun _=>(Fk St (S.tm rfl))) fun a S=>Dk 2 S hsel rfl (by kernel_rfl) (by kernel_rfl) (by kernel_rfl) (by kernel_rfl) rfl (fun _ hw=>(Gk isAgg9 (off:=0) (o:=0) (S.tm rfl) ((S.blk_mem (i:=0) (cells:=[sV r2.1,sV r3.1,iV r4.1]) (b:=b4) (T:=52) rfl (Ns (i:=2) (j:=0) (e:=.blk O [U,iV r5.2] 25) (e':=.blk b4 [sV r2.1,sV r3.1,iV r4.1] 52) S rfl rfl rfl)).kept hw) rfl)) fun a S=>Fd 5 S hsel rfl rfl (by kernel_rfl) (by kernel_rfl) rfl (fun _=>(Rm (S.tm rfl))) fun a S=>Fd 6 S hsel rfl rfl (by kernel_rfl) (by kernel_rfl) rfl (fun _=>(Fk Su (S.tm rfl))) fun a S=>Dk 7 S hsel rfl (by kernel_rfl) (by kernel_rfl) (by kernel_rfl) (by kernel_rfl) rfl (fun _ hw=>(Gk isAgg9 (off:=0) (o:=1) (S.tm rfl) ((S.blk_mem (i:=0) (cells:=[sV r2.1,sV r3.1,iV r4.1]) (b:=b4) (T:=52) rfl (Ns (i:=2) (j:=0) (e:=.blk O [U,iV r5.2] 25) (e':=.blk b4 [sV r2.1,sV r3.1,iV r4.1] 52) S rfl rfl rfl)).kept hw) rfl)) fun a S=>Fd 10 S hsel rfl rfl (by kernel_rfl) (by kernel_rfl) rfl (fun _=>(Rm (S.tm rfl))) fun a S=>EK 3 8 (by kernel_rfl) rfl rfl ?_ ?_
       ·refine Ed S underlying57 sizeOf9 zeroValue9 rfl rfl (pv:=[(0,sV r2.1),(1,sV Cy)]) ⟨rfl,(S.tm rfl),rfl,rfl,trivial⟩ (cs:=[sV r2.1,sV Cy]) (by kernel_rfl) rfl ?_;clear S;intro a w24 b7 hz7 hk20 S
        refine Ld (Fx (Keep.none hk20) (EK 4 8 (by kernel_rfl) rfl rfl ?_ ?_))
        ·refine Ga 3 S (b:=O) rfl rfl (fun _=>.blk O [U,iV r6.2] 25) (fun _=>Cw (vs:=[.pointer (some ⟨O,0,none⟩),.slice (some ⟨b7,0,none⟩) 2 2]) ⟨(S.tm rfl),(S.tm rfl),trivial⟩ call18) (Kf _ O U Aj (Ak.mono (S.le_arg (Ix (i:=3) (e:=.blk O [U,iV r5.2] 25) rfl))) r5.2 (S.holds _ (List.mem_of_getElem? (i:=3) rfl)) (.slice (some ⟨b7,0,none⟩) 2 2) [r2.1,Cy] (Jm Mf S (i:=0) rfl rfl rfl rfl ((Ns (i:=3) (j:=0) (e:=.blk O [U,iV r5.2] 25) (e':=.blk b7 [sV r2.1,sV Cy] 9) S rfl rfl rfl) _ rfl)) _ hr6) rfl (fun _ _ _ h=>⟨h.1,fun _ hc=>by cases hc;rfl⟩) ?_;clear S;intro v10 a w25 hv9 hk21 hn9 S
         replace hv9:=hv9.2
         subst hv9
         refine Ld (Fx hk21 (Fd 12 S hsel rfl rfl (by kernel_rfl) (by kernel_rfl) rfl (fun _=>(Fk St (S.tm rfl))) fun a S=>Ex 8 (by kernel_rfl) rfl (Ed S underlying57 sizeOf9 zeroValue9 rfl rfl (pv:=[(0,sV r3.1),(1,sV k_A)]) ⟨rfl,(S.tm rfl),rfl,rfl,trivial⟩ (cs:=[sV r3.1,sV k_A]) (by kernel_rfl) rfl ?_)));clear S;intro a w26 b8 hz8 hk22 S
         refine Ld (Fx (Keep.none hk22) (Ex 9 (by kernel_rfl) rfl ?_))
         refine Ga 4 S (b:=O) rfl rfl (fun _=>.blk O [U,iV r7.2] 25) (fun _=>Cw (vs:=[.pointer (some ⟨O,0,none⟩),.slice (some ⟨b8,0,none⟩) 2 2]) ⟨(S.tm rfl),(S.tm rfl),trivial⟩ call18) (Kf _ O U Aj (Ak.mono (S.le_arg (Ix (i:=4) (e:=.blk O [U,iV r6.2] 25) rfl))) r6.2 (S.holds _ (List.mem_of_getElem? (i:=4) rfl)) (.slice (some ⟨b8,0,none⟩) 2 2) [r3.1,k_A] (Jm Mf S (i:=0) rfl rfl rfl rfl ((Ns (i:=4) (j:=0) (e:=.blk O [U,iV r6.2] 25) (e':=.blk b8 [sV r3.1,sV k_A] 9) S rfl rfl rfl) _ rfl)) _ hr7) rfl (fun _ _ _ h=>⟨h.1,fun _ hc=>by cases hc;rfl⟩) ?_;clear S;intro v11 a w27 hv10 hk23 hn10 S
         replace hv10:=hv10.2
         subst hv10
         refine Ld (Fx hk23 (Ex 11 (by kernel_rfl) rfl ?_))
         refine Ga 4 S (b:=O) rfl rfl (fun _=>.blk O [U,iV r8.2] 25) (fun _=>Cw (vs:=[.pointer (some ⟨O,0,none⟩),iV 0,iV 360000]) ⟨(S.tm rfl),rfl,rfl,trivial⟩ call21) (Rv _ O U Aj (Ak.mono (S.le_arg (Ix (i:=4) (e:=.blk O [U,iV r7.2] 25) rfl))) r7.2 (S.holds _ (List.mem_of_getElem? (i:=4) rfl)) 0 360000 _ hr8) rfl (fun _ _ _ h=>⟨h.1,fun _ hc=>by cases hc;rfl⟩) ?_;clear S;intro v12 a w28 hv11 hk24 hn11 S
         replace hv11:=hv11.2
         subst hv11
         refine Ld (Fx hk24 (Qk 13 ([O] ++ [b4]) rfl (by kernel_rfl) rfl (Gl S (S.tm rfl) (S.tm rfl) (i:=2) (off:=0) rfl sizeOf9 (vs:=[sV r6.1]) rfl rfl rfl rfl ?_)));clear S;intro w29 hk25 S
         refine Ld (Ql (Dk 14 S hsel rfl rfl rfl (by kernel_rfl) (by kernel_rfl) rfl (fun _ hw=>(Fk Su (S.tm rfl))) fun a S=>Ex 15 (by kernel_rfl) rfl (Gl S (S.tm rfl) (S.tm rfl) (i:=2) (off:=1) rfl sizeOf9 (vs:=[sV r7.1]) rfl rfl rfl rfl ?_)));clear S;intro w30 hk26 S
         refine Ld ?_
         refine Fx (hk26.sub (by intro y hy;simp at hy ⊢;simp [hy])) ?_
         refine Dk 16 S hsel rfl rfl rfl (by kernel_rfl) (by kernel_rfl) rfl (fun _ hw=>(Fk Up (S.tm rfl))) fun a S=>Ex 17 (by kernel_rfl) rfl (Gl S (S.tm rfl) (S.tm rfl) (i:=2) (off:=2) rfl sizeOf3 (vs:=[iV r8.1]) rfl rfl rfl rfl ?_);clear S;intro w31 hk27 S
         refine Ld ?_
         refine Fx (hk27.sub (by intro y hy;simp at hy ⊢;simp [hy])) ?_
         refine Tl (by kernel_rfl) ?_
         clear hsel
         replace S:=(S.nl [.blk b4 [sV r6.1,sV r7.1,iV r8.1] 52,.own v2 52 3 x1.length (x1.flatMap Dn.enc),.blk O [U,iV r8.2] 25] [false,false,true,true,true] rfl).k5 0 3 4 6 7 rfl
         exact Tn (⟨r6.1,r7.1,r8.1,r8.2,h,S.nf [true,true,true] rfl (subR rfl)⟩)
        ·refine Ed S underlying57 sizeOf9 zeroValue9 rfl rfl (pv:=[(0,sV r3.1),(1,sV k_A)]) ⟨rfl,(S.tm rfl),rfl,rfl,trivial⟩ (cs:=[sV r3.1,sV k_A]) (by kernel_rfl) rfl ?_;clear S;intro a w32 b9 hz9 hk28 S
         refine Ld (Fx (Keep.none hk28) (Ex 4 (by kernel_rfl) rfl ?_))
         refine Ga 4 S (b:=O) rfl rfl (fun _=>.blk O [U,iV r6.2] 25) (fun _=>Cw (vs:=[.pointer (some ⟨O,0,none⟩),.slice (some ⟨b7,0,none⟩) 2 2]) ⟨(S.tm rfl),(S.tm rfl),trivial⟩ call18) (Kf _ O U Aj (Ak.mono (S.le_arg (Ix (i:=4) (e:=.blk O [U,iV r5.2] 25) rfl))) r5.2 (S.holds _ (List.mem_of_getElem? (i:=4) rfl)) (.slice (some ⟨b7,0,none⟩) 2 2) [r2.1,Cy] (Jm Mf S (i:=1) rfl rfl rfl rfl ((Ns (i:=4) (j:=1) (e:=.blk O [U,iV r5.2] 25) (e':=.blk b7 [sV r2.1,sV Cy] 9) S rfl rfl rfl) _ rfl)) _ hr6) rfl (fun _ _ _ h=>⟨h.1,fun _ hc=>by cases hc;rfl⟩) ?_;clear S;intro v13 a w33 hv12 hk29 hn12 S
         replace hv12:=hv12.2
         subst hv12
         refine Ld (Fx hk29 (Fd 12 S hsel rfl rfl (by kernel_rfl) (by kernel_rfl) rfl (fun _=>(Fk St (S.tm rfl))) fun a S=>Ex 9 (by kernel_rfl) rfl ?_))
         refine Ga 4 S (b:=O) rfl rfl (fun _=>.blk O [U,iV r7.2] 25) (fun _=>Cw (vs:=[.pointer (some ⟨O,0,none⟩),.slice (some ⟨b9,0,none⟩) 2 2]) ⟨(S.tm rfl),(S.tm rfl),trivial⟩ call18) (Kf _ O U Aj (Ak.mono (S.le_arg (Ix (i:=4) (e:=.blk O [U,iV r6.2] 25) rfl))) r6.2 (S.holds _ (List.mem_of_getElem? (i:=4) rfl)) (.slice (some ⟨b9,0,none⟩) 2 2) [r3.1,k_A] (Jm Mf S (i:=0) rfl rfl rfl rfl ((Ns (i:=4) (j:=0) (e:=.blk O [U,iV r6.2] 25) (e':=.blk b9 [sV r3.1,sV k_A] 9) S rfl rfl rfl) _ rfl)) _ hr7) rfl (fun _ _ _ h=>⟨h.1,fun _ hc=>by cases hc;rfl⟩) ?_;clear S;intro v14 a w34 hv13 hk30 hn13 S
         replace hv13:=hv13.2
         subst hv13
         refine Ld (Fx hk30 (Ex 11 (by kernel_rfl) rfl ?_))
         refine Ga 4 S (b:=O) rfl rfl (fun _=>.blk O [U,iV r8.2] 25) (fun _=>Cw (vs:=[.pointer (some ⟨O,0,none⟩),iV 0,iV 360000]) ⟨(S.tm rfl),rfl,rfl,trivial⟩ call21) (Rv _ O U Aj (Ak.mono (S.le_arg (Ix (i:=4) (e:=.blk O [U,iV r7.2] 25) rfl))) r7.2 (S.holds _ (List.mem_of_getElem? (i:=4) rfl)) 0 360000 _ hr8) rfl (fun _ _ _ h=>⟨h.1,fun _ hc=>by cases hc;rfl⟩) ?_;clear S;intro v15 a w35 hv14 hk31 hn14 S
         replace hv14:=hv14.2
         subst hv14
         refine Ld (Fx hk31 (Qk 13 ([O] ++ [b4]) rfl (by kernel_rfl) rfl (Gl S (S.tm rfl) (S.tm rfl) (i:=2) (off:=0) rfl sizeOf9 (vs:=[sV r6.1]) rfl rfl rfl rfl ?_)));clear S;intro w36 hk32 S
         refine Ld (Ql (Dk 14 S hsel rfl rfl rfl (by kernel_rfl) (by kernel_rfl) rfl (fun _ hw=>(Fk Su (S.tm rfl))) fun a S=>Ex 15 (by kernel_rfl) rfl (Gl S (S.tm rfl) (S.tm rfl) (i:=2) (off:=1) rfl sizeOf9 (vs:=[sV r7.1]) rfl rfl rfl rfl ?_)));clear S;intro w37 hk33 S
         refine Ld ?_
         refine Fx (hk33.sub (by intro y hy;simp at hy ⊢;simp [hy])) ?_
         refine Dk 16 S hsel rfl rfl rfl (by kernel_rfl) (by kernel_rfl) rfl (fun _ hw=>(Fk Up (S.tm rfl))) fun a S=>Ex 17 (by kernel_rfl) rfl (Gl S (S.tm rfl) (S.tm rfl) (i:=2) (off:=2) rfl sizeOf3 (vs:=[iV r8.1]) rfl rfl rfl rfl ?_);clear S;intro w38 hk34 S
         refine Ld ?_
         refine Fx (hk34.sub (by intro y hy;simp at hy ⊢;simp [hy])) ?_
         refine Tl (by kernel_rfl) ?_
         clear hsel
         replace S:=(S.nl [.blk b4 [sV r6.1,sV r7.1,iV r8.1] 52,.own v2 52 3 x1.length (x1.flatMap Dn.enc),.blk O [U,iV r8.2] 25] [false,false,true,true,true] rfl).k5 0 3 4 6 7 rfl
         exact Tn (⟨r6.1,r7.1,r8.1,r8.2,h,S.nf [true,true,true] rfl (subR rfl)⟩)
       ·refine Ed S underlying57 sizeOf9 zeroValue9 rfl rfl (pv:=[(0,sV r3.1),(1,sV k_A)]) ⟨rfl,(S.tm rfl),rfl,rfl,trivial⟩ (cs:=[sV r3.1,sV k_A]) (by kernel_rfl) rfl ?_;clear S;intro a w39 b10 hz10 hk35 S
        refine Ld (Fx (Keep.none hk35) (Ex 3 (by kernel_rfl) rfl (Ed S underlying57 sizeOf9 zeroValue9 rfl rfl (pv:=[(0,sV r2.1),(1,sV Cy)]) ⟨rfl,(S.tm rfl),rfl,rfl,trivial⟩ (cs:=[sV r2.1,sV Cy]) (by kernel_rfl) rfl ?_)));clear S;intro a w40 b11 hz11 hk36 S
        refine Ld (Fx (Keep.none hk36) (Ex 4 (by kernel_rfl) rfl ?_))
        refine Ga 4 S (b:=O) rfl rfl (fun _=>.blk O [U,iV r6.2] 25) (fun _=>Cw (vs:=[.pointer (some ⟨O,0,none⟩),.slice (some ⟨b11,0,none⟩) 2 2]) ⟨(S.tm rfl),(S.tm rfl),trivial⟩ call18) (Kf _ O U Aj (Ak.mono (S.le_arg (Ix (i:=4) (e:=.blk O [U,iV r5.2] 25) rfl))) r5.2 (S.holds _ (List.mem_of_getElem? (i:=4) rfl)) (.slice (some ⟨b11,0,none⟩) 2 2) [r2.1,Cy] (Jm Mf S (i:=0) rfl rfl rfl rfl ((Ns (i:=4) (j:=0) (e:=.blk O [U,iV r5.2] 25) (e':=.blk b11 [sV r2.1,sV Cy] 9) S rfl rfl rfl) _ rfl)) _ hr6) rfl (fun _ _ _ h=>⟨h.1,fun _ hc=>by cases hc;rfl⟩) ?_;clear S;intro v16 a w41 hv15 hk37 hn15 S
        replace hv15:=hv15.2
        subst hv15
        refine Ld (Fx hk37 (Fd 12 S hsel rfl rfl (by kernel_rfl) (by kernel_rfl) rfl (fun _=>(Fk St (S.tm rfl))) fun a S=>Ex 9 (by kernel_rfl) rfl ?_))
        refine Ga 4 S (b:=O) rfl rfl (fun _=>.blk O [U,iV r7.2] 25) (fun _=>Cw (vs:=[.pointer (some ⟨O,0,none⟩),.slice (some ⟨b10,0,none⟩) 2 2]) ⟨(S.tm rfl),(S.tm rfl),trivial⟩ call18) (Kf _ O U Aj (Ak.mono (S.le_arg (Ix (i:=4) (e:=.blk O [U,iV r6.2] 25) rfl))) r6.2 (S.holds _ (List.mem_of_getElem? (i:=4) rfl)) (.slice (some ⟨b10,0,none⟩) 2 2) [r3.1,k_A] (Jm Mf S (i:=1) rfl rfl rfl rfl ((Ns (i:=4) (j:=1) (e:=.blk O [U,iV r6.2] 25) (e':=.blk b10 [sV r3.1,sV k_A] 9) S rfl rfl rfl) _ rfl)) _ hr7) rfl (fun _ _ _ h=>⟨h.1,fun _ hc=>by cases hc;rfl⟩) ?_;clear S;intro v17 a w42 hv16 hk38 hn16 S
        replace hv16:=hv16.2
        subst hv16
        refine Ld (Fx hk38 (Ex 11 (by kernel_rfl) rfl ?_))
        refine Ga 4 S (b:=O) rfl rfl (fun _=>.blk O [U,iV r8.2] 25) (fun _=>Cw (vs:=[.pointer (some ⟨O,0,none⟩),iV 0,iV 360000]) ⟨(S.tm rfl),rfl,rfl,trivial⟩ call21) (Rv _ O U Aj (Ak.mono (S.le_arg (Ix (i:=4) (e:=.blk O [U,iV r7.2] 25) rfl))) r7.2 (S.holds _ (List.mem_of_getElem? (i:=4) rfl)) 0 360000 _ hr8) rfl (fun _ _ _ h=>⟨h.1,fun _ hc=>by cases hc;rfl⟩) ?_;clear S;intro v18 a w43 hv17 hk39 hn17 S
        replace hv17:=hv17.2
        subst hv17
        refine Ld (Fx hk39 (Qk 13 ([O] ++ [b4]) rfl (by kernel_rfl) rfl (Gl S (S.tm rfl) (S.tm rfl) (i:=2) (off:=0) rfl sizeOf9 (vs:=[sV r6.1]) rfl rfl rfl rfl ?_)));clear S;intro w44 hk40 S
        refine Ld (Ql (Dk 14 S hsel rfl rfl rfl (by kernel_rfl) (by kernel_rfl) rfl (fun _ hw=>(Fk Su (S.tm rfl))) fun a S=>Ex 15 (by kernel_rfl) rfl (Gl S (S.tm rfl) (S.tm rfl) (i:=2) (off:=1) rfl sizeOf9 (vs:=[sV r7.1]) rfl rfl rfl rfl ?_)));clear S;intro w45 hk41 S
        refine Ld ?_
        refine Fx (hk41.sub (by intro y hy;simp at hy ⊢;simp [hy])) ?_
        refine Dk 16 S hsel rfl rfl rfl (by kernel_rfl) (by kernel_rfl) rfl (fun _ hw=>(Fk Up (S.tm rfl))) fun a S=>Ex 17 (by kernel_rfl) rfl (Gl S (S.tm rfl) (S.tm rfl) (i:=2) (off:=2) rfl sizeOf3 (vs:=[iV r8.1]) rfl rfl rfl rfl ?_);clear S;intro w46 hk42 S
        refine Ld ?_
        refine Fx (hk42.sub (by intro y hy;simp at hy ⊢;simp [hy])) ?_
        refine Tl (by kernel_rfl) ?_
        clear hsel
        replace S:=(S.nl [.blk b4 [sV r6.1,sV r7.1,iV r8.1] 52,.own v2 52 3 x1.length (x1.flatMap Dn.enc),.blk O [U,iV r8.2] 25] [false,false,true,true,true] rfl).k5 0 3 4 6 7 rfl
        exact Tn (⟨r6.1,r7.1,r8.1,r8.2,h,S.nf [true,true,true] rfl (subR rfl)⟩)
      clear S h;rintro a w14 ⟨x8,x9,x10,x11,h,S⟩;rw [hj3] at h;clear hj3 j3
      exact Tn (⟨x8,x9,x10,x11,h,S.nf [true,true,true] rfl (subR rfl)⟩)
     ·exact wp_skip (Tn (⟨r2.1,r3.1,r4.1,r5.2,h,S.nf [true,true,true] rfl (subR rfl)⟩))
    clear S h;rintro a w13 ⟨x4,x5,x6,x7,h,S⟩;rw [hj2] at h;clear hj2 j2
    refine Tn (Fg (Vm S rfl rfl fun a S=>lv S (Fp isAgg52 sizeOf52 (off:=0) (o:=0) (part:=[sV x4,sV x5,iV x6]) rfl rfl (S.tm rfl) (S.cellsAt (i:=0) rfl)) rfl fun a S=>Ed S underlying31 sizeOf52 zeroValue52 rfl rfl (pv:=[(0,.agg #[sV x4,sV x5,iV x6])]) ⟨rfl,(S.tm rfl),trivial⟩ (cs:=[sV x4,sV x5,iV x6]) (by kernel_rfl) rfl ?_));clear S;intro a w47 b12 hz12 hk43 S
    obtain ⟨hc1,h⟩:=Hl h
    refine Mx Tv Dn.enc_ok S (S.tm rfl) (i:=2) rfl (S.tm rfl) (j:=0) rfl (ys:=[(Dn.mk x4 x5 x6)]) rfl rfl rfl rfl (by have:=Nd hc1;omega) rfl ?_;clear S;intro v19 a w48 hk44 S
    exact Va S rfl rfl fun a S=>Ld (Gx (Tn (Fg (Vq S Ek rfl rfl rfl fun a S=>Vm S rfl rfl fun a S=>Dl (⟨m1,⟨(x1 ++ [(Dn.mk x4 x5 x6)]),x7,W (x3 + 1),v19,h,S.nf [false,false,true,true] rfl ⟨rfl,rfl,rfl,rfl,trivial⟩⟩,Nat.lt_succ_self _⟩)))))
   ·exact wp_exit (Dj (Dj (Fj (Tn (⟨x1,x2,v2,h,S.nf [true,true] rfl ⟨rfl,trivial⟩⟩)))))
 clear S h;rintro a w3 ⟨x1,x2,v2,h,S⟩;rw [hj1] at h;clear hj1 j1
 refine Tn (Fr (Vm S rfl rfl fun a S=>Va S rfl rfl fun a S=>Dl (wp_ret ?_)))
 obtain rfl:=Option.some.inj h
 exact Dx S results6 rfl ⟨(S.holds _ (List.mem_of_getElem? (i:=1) rfl)),(CI S (i:=0) rfl (fun c hc hh=>Ul S (i:=1) rfl rfl (j:=0) rfl rfl (by simp at hc;subst hc;exact hh)))⟩
theorem El (w : World) (Ay : Int) (Bb : Int) (Ax : Int) (r : Bool) (h : Dd Ay Bb Ax = r) :
    Calls prog 28 [iV Ay,iV Bb,iV Ax].toArray w (Ret w [] fun _ v _=>v = bV r):=by
 refine Fe func28 rfl ntmps28 rfl fun a S=>?_
 unfold Dd at h
 replace S:=S.k3 0 1 2 rfl
 refine Fr (Vk S rfl rfl fun a S=>Dz (Vm S rfl rfl fun a S=>Vm S rfl rfl fun a S=>Vb S Nr rfl rfl rfl fun a S=>Vm S rfl rfl ?_));clear S;intro a S
 refine Hw 4 (fun a w'=>Keep [] w w' ∧ Sx w [] nov [] [(14,bV ((decide (Bb ≤ Ay)) && (decide (Ay ≤ Ax))))] 15 a w') ?_ ?_
 ·rcases Bool.eq_false_or_eq_true (decide (Bb ≤ Ay)) with hb1 | hb1
  ·exact Cz S rfl rfl rfl hb1 (Vm S rfl rfl fun a S=>Cz S rfl rfl rfl hb1 (Vm S rfl rfl fun a S=>Cz S rfl rfl rfl hb1 (Vb S Sj rfl rfl rfl fun a S=>lv S (Hg hb1 (S.tm rfl) (S.tm rfl)) rfl fun a S=>Dl (⟨Keep.refl _ _,S.nf [] rfl ⟨rfl,trivial⟩⟩))))
  ·iterate 3 (refine Gm S rfl rfl rfl (Jt hb1) rfl ?_ rfl;clear S;intro a S)
   exact lv S (Hh (decide (Ay ≤ Ax)) hb1 (S.tm rfl) rfl) rfl fun a S=>Dl (⟨Keep.refl _ _,S.nf [] rfl ⟨rfl,trivial⟩⟩)
 clear S;rintro a w1 ⟨hk1,S⟩
 refine Va S rfl rfl fun a S=>Dl (wp_ret ?_)
 subst h
 exact Dx S results28 rfl rfl
theorem Ty (w : World) (Ae : Hx) (Bd : R27) (Bi : Qe (view w []) Ae Bd) (r : Int) (h : Mk Ae = some r) :
    Calls prog 44 [.agg (R27.enc Bd).toArray].toArray w (Ret w [] fun _ v _=>v = iV r):=by
 obtain ⟨u1,rfl,hs1⟩:=Bi
 refine Fe func44 rfl ntmps44 rfl fun a S=>?_
 unfold Mk at h
 replace S:=S.k1 0 rfl
 refine Fr (Nj S (S.tm rfl) (cs:=[u1.val,iV Ae.Relay,iV Ae.Most]) rfl rfl ?_);clear S;intro a w1 b1 hz1 hk1 S
 refine Vk S rfl rfl fun a S=>Dl (Fs (Fr (Vf Qo S rfl rfl fun a S=>Vl isAgg22 0 S rfl rfl rfl rfl fun a S=>lv S (Ee Ka (S.tm rfl) (Ej hs1)) rfl fun a S=>Vq S Ji rfl rfl rfl fun a S=>Ld ?_)))
 refine Tn (Fc h (S.tm rfl) (fun hb1 h=>?_) (fun hb1 h=>?_))
 ·refine Fr (Vk S rfl rfl fun a S=>Dl (wp_ret (Cx ?_)))
  obtain rfl:=Option.some.inj h
  exact Dx S results44 rfl rfl
 ·refine wp_skip (Tn (Fs (Fr (Vf Qo S rfl rfl fun a S=>Vl isAgg22 0 S rfl rfl rfl rfl fun a S=>lv S (Ee Ka (S.tm rfl) (Ej hs1)) rfl fun a S=>lv S (Rm rfl) rfl fun a S=>Dl ?_))))
  replace S:=(S.nl [.blk b1 [u1.val,iV Ae.Relay,iV Ae.Most] 27] [true] rfl).k4 1 10 11 12 rfl
  obtain ⟨j1,hj1,h⟩:=Ec h
  refine Ds (fun a w'=>j1 = some r ∧ Sx w [] nov [.blk b1 [u1.val,iV Ae.Relay,iV Ae.Most] 27] [(1,.pointer (some ⟨b1,0,none⟩))] 43 a w') ?_ ?_
  ·refine wp_block (Fi (fun (ys1 : List Int) a w'=>∃ i1 : Nat,(∃ dn,Ae.Points = dn ++ ys1 ∧ dn.length = i1) ∧ Gz Ae j1 ys1 i1 = some r ∧ Sx w [] nov [.blk b1 [u1.val,iV Ae.Relay,iV Ae.Most] 27] [(1,.pointer (some ⟨b1,0,none⟩)),(10,u1.val),(11,iV (Ae.Points.length : Int)),(12,iV (i1 : Int))] 43 a w') List.length Ae.Points ⟨0,⟨[],rfl,rfl⟩,h,S.nf [true] rfl (subR rfl)⟩ ?_)
   clear S h;rintro ys1 a w2 ⟨i1,⟨dn,hd1,hi1⟩,h,S⟩
   cases ys1 with
   | nil =>
    rw [Gz.eq_1] at h
    refine Fr (Vb S Dt rfl rfl rfl fun a S=>Ld ?_)
    replace S:=S.k5 1 10 11 12 13 rfl
    exact Tn (Fs (wp_cond_false ((S.tm rfl).trans (congrArg Value.bool (Hq hd1 hi1))) (wp_exit (Dj (Dj (Fj (Tn (⟨h,S.nf [true] rfl ⟨rfl,trivial⟩⟩))))))))
   | cons y1 ys1 =>
    rw [Gz.eq_2] at h
    refine Fr (Vb S Dt rfl rfl rfl fun a S=>Ld ?_)
    replace S:=S.k5 1 10 11 12 13 rfl
    refine Tn (Fs (wp_cond_true ((S.tm rfl).trans (congrArg Value.bool (Gb hd1 hi1))) (wp_skip (Tn (Fs (wp_block (Fr (Vm S rfl rfl ?_))))))));clear S;intro a S
    obtain ⟨b2,o1,hm1,hr1⟩:=Eb (a:=a) (x:=.tmp 10) (y:=.tmp 12) (ty:=0) Ka hs1 (Hz hd1 hi1) rfl (S.tm rfl) (S.tm rfl)
    refine lv S (hr1 _) rfl ?_;clear S;intro a S
    clear hr1
    refine lv S (Gk isAgg3 (off:=o1) (o:=0) (S.tm rfl) (hm1.at S.emb0) rfl) rfl fun a S=>Va S rfl rfl fun a S=>Va S rfl rfl fun a S=>Dl (Fs (Fr (Vm S rfl rfl fun a S=>Dc S (fun _=>Cw (vs:=[iV y1,iV 0,iV 10000]) ⟨(S.tm rfl),rfl,rfl,trivial⟩ call28) (El _ y1 0 10000 _ rfl) rfl ?_)));clear S;intro v1 a w4 hv1 hk2 hn1 S
    subst hv1
    refine Vu S Hp rfl rfl fun a S=>Dl (Fc h (S.tm rfl) (fun hb2 h=>?_) (fun hb2 h=>?_))
    ·refine Fr (Vk S rfl rfl fun a S=>Dl (wp_ret (Cx (Em (Cx (Cx (Em ?_)))))))
     refine Cx (Cx ?_)
     obtain rfl:=Option.some.inj h
     exact Dx S results44 rfl rfl
    ·refine wp_skip (Tn (Fr (Vm S rfl rfl fun a S=>Vq S Ji rfl rfl rfl fun a S=>Vm S rfl rfl ?_)));clear S;intro a S
     obtain ⟨j2,hj2,h⟩:=Ec h
     refine Hw 9 (fun a w'=>∃ c1,j2 c1 = some r ∧ Keep [] w4 w' ∧ Sx w [] nov [.blk b1 [u1.val,iV Ae.Relay,iV Ae.Most] 27] [(1,.pointer (some ⟨b1,0,none⟩)),(10,u1.val),(11,iV (Ae.Points.length : Int)),(12,iV (i1 : Int)),(31,bV c1)] 43 a w') ?_ ?_
     ·rcases Bool.eq_false_or_eq_true (decide (0 < (i1 : Int))) with hb3 | hb3
      ·replace h:=Om h hb3
       refine Cz S rfl rfl rfl hb3 (Vm S rfl rfl fun a S=>Cz S rfl rfl rfl hb3 (Vf Qo S rfl rfl fun a S=>Cz S rfl rfl rfl hb3 (Vl isAgg22 0 S rfl rfl rfl rfl fun a S=>Cz S rfl rfl rfl hb3 (Vm S rfl rfl fun a S=>Cz S rfl rfl rfl hb3 (Vq S Jb rfl rfl rfl fun a S=>Cz S rfl rfl rfl hb3 ?_)))))
       obtain ⟨hc1,h⟩:=Hl h
       obtain ⟨b3,o2,hm2,hr2⟩:=Eb (a:=a) (x:=.tmp 25) (y:=.tmp 27) (ty:=0) Ka hs1 (Db hc1).1 (Db hc1).2 (S.tm rfl) (S.tm rfl)
       refine lv S (hr2 _) rfl ?_;clear S;intro a S
       clear hr2
       exact Cz S rfl rfl rfl hb3 (lv S (Gk isAgg3 (off:=o2) (o:=0) (S.tm rfl) (hm2.at S.emb0) rfl) rfl fun a S=>Cz S rfl rfl rfl hb3 (Vb S Ji rfl rfl rfl fun a S=>lv S (Hg hb3 (S.tm rfl) (S.tm rfl)) rfl fun a S=>Dl (⟨_,h,Keep.refl _ _,S.nf [true] rfl (subR rfl)⟩)))
      ·replace h:=On h hb3
       iterate 8 (refine Gm S rfl rfl rfl (Jt hb3) rfl ?_ rfl;clear S;intro a S)
       exact Vq S (Hh true hb3) rfl rfl rfl fun a S=>Dl (⟨_,h,Keep.refl _ _,S.nf [true] rfl (subR rfl)⟩)
     clear S h;rintro a w5 ⟨c1,h,hk3,S⟩;rw [hj2] at h;clear hj2 j2
     refine Dl (Fc h (S.tm rfl) (fun hb4 h=>?_) (fun hb4 h=>?_))
     ·refine Fr (Vk S rfl rfl fun a S=>Dl (wp_ret (Em (Cx (Cx (Em (Cx ?_)))))))
      refine Cx ?_
      obtain rfl:=Option.some.inj h
      exact Dx S results44 rfl rfl
     ·exact wp_skip (Gx (Tn (Fg (Vq S Ek rfl rfl rfl fun a S=>Vm S rfl rfl fun a S=>Dl (⟨ys1,⟨i1 + 1,⟨_,(hd1).trans (List.append_cons _ _ _),by simp [hi1]⟩,h,S.nf [true] rfl ⟨rfl,rfl,rfl,(congrArg (fun z=>some (Value.int .i64 z)) (Gc hd1 hi1 (Jk hs1))),trivial⟩⟩,Nat.lt_succ_self _⟩)))))
  clear S h;rintro a w3 ⟨h,S⟩;rw [hj1] at h;clear hj1 j1
  refine Tn (Fs (Fr (Vf EQ S rfl rfl fun a S=>Vl isAgg3 0 S rfl rfl rfl rfl fun a S=>Dc S (fun _=>Cw (vs:=[iV Ae.Relay,iV 1,iV 10]) ⟨(S.tm rfl),rfl,rfl,trivial⟩ call28) (El _ Ae.Relay 1 10 _ rfl) rfl ?_)));clear S;intro v2 a w6 hv2 hk4 hn2 S
  subst hv2
  refine Vu S Hp rfl rfl fun a S=>Vm S rfl rfl fun a S=>Hw 5 (fun a w'=>Keep [] w6 w' ∧ Sx w [] nov [.blk b1 [u1.val,iV Ae.Relay,iV Ae.Most] 27] [(42,bV ((!(Dd Ae.Relay 1 10)) || (!(Dd Ae.Most 0 10))))] 43 a w') ?_ ?_
  ·rcases Bool.eq_false_or_eq_true (!(Dd Ae.Relay 1 10)) with hb5 | hb5
   ·iterate 4 (refine Gm S rfl rfl rfl (Md hb5) rfl ?_ rfl;clear S;intro a S)
    exact lv S (Kt (!(Dd Ae.Most 0 10)) hb5 (S.tm rfl) rfl) rfl fun a S=>Dl (⟨Keep.refl _ _,S.nf [true] rfl ⟨rfl,trivial⟩⟩)
   ·refine Cz S rfl rfl rfl hb5 (Vf BM S rfl rfl fun a S=>Cz S rfl rfl rfl hb5 (Vl isAgg3 0 S rfl rfl rfl rfl fun a S=>Cz S rfl rfl rfl hb5 (Dc S (fun _=>Cw (vs:=[iV Ae.Most,iV 0,iV 10]) ⟨(S.tm rfl),rfl,rfl,trivial⟩ call28) (El _ Ae.Most 0 10 _ rfl) rfl ?_)));clear S;intro v3 a w8 hv3 hk5 hn3 S
    subst hv3
    exact Cz S rfl rfl rfl hb5 (Vu S Hp rfl rfl fun a S=>lv S (Ku hb5 (S.tm rfl) (S.tm rfl)) rfl fun a S=>Dl (⟨hk5,S.nf [true] rfl ⟨rfl,trivial⟩⟩))
  clear S;rintro a w7 ⟨hk6,S⟩
  refine Dl (Fc h (S.tm rfl) (fun hb6 h=>?_) (fun hb6 h=>?_))
  ·refine Fr (Vk S rfl rfl fun a S=>Dl (wp_ret (Cx ?_)))
   obtain rfl:=Option.some.inj h
   exact Dx S results44 rfl rfl
  ·refine wp_skip (Tn (Fr (Vk S rfl rfl fun a S=>Dl (wp_ret ?_))))
   obtain rfl:=Option.some.inj h
   exact Dx S results44 rfl rfl
theorem Xs (w : World) (s c : ByteArray) (r : ByteArray) (h : Sp s c = some r) : Calls prog 81 [.string s,.string c].toArray w (Ret w [] fun _ v _=>v = .string r):=by
  unfold Sp at h
  obtain ⟨h1,h⟩:=Hl h
  obtain ⟨h2,h⟩:=Hl h
  obtain ⟨h3,h⟩:=Hl h
  obtain rfl:=Option.some.inj h
  exact BE (Any.strings_Trim_laid Tryz.lays160 (by kernel_rfl) s c w (by simpa using h1) (by simpa using h2) (fun j b hb=>by simpa using List.all_eq_true.1 h3 b (List.mem_of_getElem? hb)))
theorem Ht (w : World) (Am : ByteArray) (r : Bool) (h : Hf Am = some r) :
    Calls prog 52 [sV Am].toArray w (Ret w [] fun _ v _=>v = bV r):=by
 refine Fe func52 rfl ntmps52 rfl fun a S=>?_
 unfold Hf at h
 replace S:=S.k1 0 rfl
 refine Fr (Vk S rfl rfl fun a S=>Dz (Vm S rfl rfl fun a S=>Vu S (Yr underlying9) rfl rfl fun a S=>Vq S Nr rfl rfl rfl fun a S=>Vm S rfl rfl ?_));clear S;intro a S
 refine Hw 4 (fun a w'=>Keep [] w w' ∧ Sx w [] nov [] [(0,sV Am),(10,bV ((decide (1 ≤ (Am.size : Int))) && (decide ((Am.size : Int) ≤ 40))))] 26 a w') ?_ ?_
 ·rcases Bool.eq_false_or_eq_true (decide (1 ≤ (Am.size : Int))) with hb1 | hb1
  ·exact Cz S rfl rfl rfl hb1 (Vm S rfl rfl fun a S=>Cz S rfl rfl rfl hb1 (Vu S (Yr underlying9) rfl rfl fun a S=>Cz S rfl rfl rfl hb1 (Vq S Sj rfl rfl rfl fun a S=>lv S (Hg hb1 (S.tm rfl) (S.tm rfl)) rfl fun a S=>Dl (⟨Keep.refl _ _,S.nf [] rfl (subR rfl)⟩))))
  ·iterate 3 (refine Gm S rfl rfl rfl (Jt hb1) rfl ?_ rfl;clear S;intro a S)
   exact lv S (Hh (decide ((Am.size : Int) ≤ 40)) hb1 (S.tm rfl) rfl) rfl fun a S=>Dl (⟨Keep.refl _ _,S.nf [] rfl (subR rfl)⟩)
 clear S;rintro a w1 ⟨hk1,S⟩
 refine Vm S rfl rfl ?_;clear S;intro a S
 obtain ⟨j1,hj1,h⟩:=Ec h
 refine Hw 4 (fun a w'=>∃ c1,j1 c1 = some r ∧ Keep [] w1 w' ∧ Sx w [] nov [] [(0,sV Am),(15,bV c1)] 26 a w') ?_ ?_
 ·rcases Bool.eq_false_or_eq_true ((decide (1 ≤ (Am.size : Int))) && (decide ((Am.size : Int) ≤ 40))) with hb2 | hb2
  ·replace h:=Om h hb2
   refine Cz S rfl rfl rfl hb2 (Vm S rfl rfl fun a S=>Cz S rfl rfl rfl hb2 ?_)
   obtain ⟨hc1,h⟩:=Hl h
   exact lv S (Sl underlying9 (S.tm rfl) rfl hc1) rfl fun a S=>Cz S rfl rfl rfl hb2 (Vq S Nr rfl rfl rfl fun a S=>lv S (Hg hb2 (S.tm rfl) (S.tm rfl)) rfl fun a S=>Dl (⟨_,h,Keep.refl _ _,S.nf [] rfl (subR rfl)⟩))
  ·replace h:=On h hb2
   iterate 3 (refine Gm S rfl rfl rfl (Jt hb2) rfl ?_ rfl;clear S;intro a S)
   exact Vq S (Hh true hb2) rfl rfl rfl fun a S=>Dl (⟨_,h,Keep.refl _ _,S.nf [] rfl (subR rfl)⟩)
 clear S h;rintro a w2 ⟨c1,h,hk2,S⟩;rw [hj1] at h;clear hj1 j1
 refine Vm S rfl rfl ?_;clear S;intro a S
 obtain ⟨j2,hj2,h⟩:=Ec h
 refine Hw 4 (fun a w'=>∃ c2,j2 c2 = some r ∧ Keep [] w2 w' ∧ Sx w [] nov [] [(0,sV Am),(20,bV c2)] 26 a w') ?_ ?_
 ·rcases Bool.eq_false_or_eq_true c1 with hb3 | hb3
  ·replace h:=Om h hb3
   refine Cz S rfl rfl rfl hb3 (Vm S rfl rfl fun a S=>Cz S rfl rfl rfl hb3 ?_)
   obtain ⟨hc2,h⟩:=Hl h
   exact lv S (Sl underlying9 (S.tm rfl) rfl hc2) rfl fun a S=>Cz S rfl rfl rfl hb3 (Vq S Sj rfl rfl rfl fun a S=>lv S (Hg hb3 (S.tm rfl) (S.tm rfl)) rfl fun a S=>Dl (⟨_,h,Keep.refl _ _,S.nf [] rfl (subR rfl)⟩))
  ·replace h:=On h hb3
   iterate 3 (refine Gm S rfl rfl rfl (Jt hb3) rfl ?_ rfl;clear S;intro a S)
   exact Vq S (Hh true hb3) rfl rfl rfl fun a S=>Dl (⟨_,h,Keep.refl _ _,S.nf [] rfl (subR rfl)⟩)
 clear S h;rintro a w3 ⟨c2,h,hk3,S⟩;rw [hj2] at h;clear hj2 j2
 refine Vm S rfl rfl ?_;clear S;intro a S
 obtain ⟨j3,hj3,h⟩:=Ec h
 refine Hw 4 (fun a w'=>∃ c3,j3 c3 = some r ∧ Keep [] w3 w' ∧ Sx w [] nov [] [(25,bV c3)] 26 a w') ?_ ?_
 ·rcases Bool.eq_false_or_eq_true c2 with hb4 | hb4
  ·replace h:=Om h hb4
   refine Cz S rfl rfl rfl hb4 (Vm S rfl rfl fun a S=>Cz S rfl rfl rfl hb4 ?_)
   obtain ⟨r1,hr1,h⟩:=Eg h
   refine Dc S (fun _=>Cw (vs:=[sV Am,sV Nf]) ⟨(S.tm rfl),rfl,trivial⟩ call81) (Xs _ Am Nf _ hr1) rfl ?_;clear S;intro v1 a w5 hv1 hk4 hn1 S
   subst hv1
   exact Cz S rfl rfl rfl hb4 (Vq S Uk rfl rfl rfl fun a S=>lv S (Hg hb4 (S.tm rfl) (S.tm rfl)) rfl fun a S=>Dl (⟨_,h,hk4,S.nf [] rfl ⟨rfl,trivial⟩⟩))
  ·replace h:=On h hb4
   iterate 3 (refine Gm S rfl rfl rfl (Jt hb4) rfl ?_ rfl;clear S;intro a S)
   exact Vq S (Hh true hb4) rfl rfl rfl fun a S=>Dl (⟨_,h,Keep.refl _ _,S.nf [] rfl ⟨rfl,trivial⟩⟩)
 clear S h;rintro a w4 ⟨c3,h,hk5,S⟩;rw [hj3] at h;clear hj3 j3
 refine Va S rfl rfl fun a S=>Dl (wp_ret ?_)
 obtain rfl:=Option.some.inj h
 exact Dx S results52 rfl rfl
theorem Sv (w : World) (Ag : Int) (Ah : Int) (r : Int) (h : Ia Ag Ah = r) :
    Calls prog 103 [iV Ag,iV Ah].toArray w (Ret w [] fun _ v _=>v = iV r):=by
 refine Fe func103 rfl ntmps103 rfl fun a S=>?_
 unfold Ia at h
 replace S:=S.k2 0 1 rfl
 refine Fr (Vk S rfl rfl fun a S=>Dl (Fs (Fr (Vm S rfl rfl fun a S=>Vq S Jz rfl rfl rfl fun a S=>Ld ?_))))
 refine Tn ?_
 obtain ⟨j1,hj1,h⟩:=Ec h
 refine Ds (fun a w'=>∃ x1 : Int,j1 x1 = r ∧ Sx w [] nov [] [(0,iV x1),(1,iV Ah)] 12 a w') ?_ ?_
 ·refine Fc h (S.tm rfl) (fun hb1 h=>?_) (fun hb1 h=>?_)
  ·exact Fg (Vk S rfl rfl fun a S=>Dl (⟨301,h,S.nf [] rfl (subR rfl)⟩))
  ·exact wp_skip (Tn (⟨Ag,h,S.nf [] rfl (subR rfl)⟩))
 clear S h;rintro a w1 ⟨x1,h,S⟩;rw [hj1] at h;clear hj1 j1
 refine Tn (Fs (Fr (Vm S rfl rfl fun a S=>Vq S Jz rfl rfl rfl fun a S=>Dl ?_)))
 obtain ⟨j2,hj2,h⟩:=Ec h
 refine Ds (fun a w'=>∃ x2 : Int,j2 x2 = r ∧ Sx w [] nov [] [(0,iV x1),(1,iV x2)] 12 a w') ?_ ?_
 ·refine Fc h (S.tm rfl) (fun hb2 h=>?_) (fun hb2 h=>?_)
  ·exact Fg (Vk S rfl rfl fun a S=>Dl (⟨301,h,S.nf [] rfl (subR rfl)⟩))
  ·exact wp_skip (Tn (⟨Ah,h,S.nf [] rfl (subR rfl)⟩))
 clear S h;rintro a w2 ⟨x2,h,S⟩;rw [hj2] at h;clear hj2 j2
 refine Tn (Fr (Vm S rfl rfl fun a S=>Vm S rfl rfl fun a S=>Vb S Jb rfl rfl rfl fun a S=>Va S rfl rfl fun a S=>Dl (wp_ret ?_)))
 subst h
 exact Dx S results103 rfl rfl
theorem Zo (w : World) (Cd : Value) (Cb : List Int) (Cc : Slc (view w []) 1 Cd (Cb.map eInt)) (r : Int) (h : Qx Cb = r) :
    Calls prog 102 [Cd].toArray w (Ret w [] fun _ v _=>v = iV r):=by
 refine Fe func102 rfl ntmps102 rfl fun a S=>?_
 unfold Qx at h
 replace S:=S.k1 0 rfl
 refine Fr (Vk S rfl rfl fun a S=>Dz (Vk S rfl rfl fun a S=>Dl (Fs ?_)))
 refine Fr (Vm S rfl rfl fun a S=>lv S (Ee Ka (S.tm rfl) (Ej Cc)) rfl fun a S=>lv S (Rm rfl) rfl fun a S=>Dl ?_)
 replace S:=S.k4 3 6 7 8 rfl
 obtain ⟨j1,hj1,h⟩:=Ec h
 refine Ds (fun a w'=>j1 = r ∧ Sx w [] nov [] [(3,iV 0)] 18 a w') ?_ ?_
 ·refine wp_block (Fi (fun (ys1 : List Int) a w'=>∃ i1 : Nat,(∃ dn,Cb = dn ++ ys1 ∧ dn.length = i1) ∧ Jf j1 ys1 i1 = r ∧ Sx w [] nov [] [(3,iV 0),(6,Cd),(7,iV (Cb.length : Int)),(8,iV (i1 : Int))] 18 a w') List.length Cb ⟨0,⟨[],rfl,rfl⟩,h,S.nf [] rfl (subR rfl)⟩ ?_)
  clear S h;rintro ys1 a w1 ⟨i1,⟨dn,hd1,hi1⟩,h,S⟩
  cases ys1 with
  | nil =>
   rw [Jf.eq_1] at h
   refine Fr (Vb S Dt rfl rfl rfl fun a S=>Ld ?_)
   replace S:=S.k5 3 6 7 8 9 rfl
   exact Tn (Fs (wp_cond_false ((S.tm rfl).trans (congrArg Value.bool (Hq hd1 hi1))) (wp_exit (Dj (Dj (Fj (Tn (⟨h,S.nf [] rfl ⟨rfl,trivial⟩⟩))))))))
  | cons y1 ys1 =>
   rw [Jf.eq_2] at h
   refine Fr (Vb S Dt rfl rfl rfl fun a S=>Ld ?_)
   replace S:=S.k5 3 6 7 8 9 rfl
   refine Tn (Fs (wp_cond_true ((S.tm rfl).trans (congrArg Value.bool (Gb hd1 hi1))) (wp_skip (Tn (Fs (wp_block (Fs (Fg ?_))))))))
   obtain ⟨b1,o1,hm1,hr1⟩:=Eb (a:=a) (x:=.tmp 6) (y:=.tmp 8) (ty:=0) Ka Cc (Hz hd1 hi1) rfl (S.tm rfl) (S.tm rfl)
   refine lv S (hr1 _) rfl ?_;clear S;intro a S
   clear hr1
   refine lv S (Gk isAgg3 (off:=o1) (o:=0) (S.tm rfl) (hm1.at S.emb0) rfl) rfl fun a S=>Va S rfl rfl fun a S=>Dz (Vm S rfl rfl fun a S=>Vm S rfl rfl fun a S=>Vb S Lo rfl rfl rfl fun a S=>Dl ?_)
   refine Fc h (S.tm rfl) (fun hb1 h=>?_) (fun hb1 h=>?_)
   ·refine Fr (Vm S rfl rfl fun a S=>Va S rfl rfl fun a S=>Dl (wp_ret (Em (Cx (Cx (Em ?_))))))
    refine Cx (Cx ?_)
    subst h
    exact Dx S results102 rfl rfl
   ·exact wp_skip (Gx (Tn (Fg (Vq S Ek rfl rfl rfl fun a S=>Vm S rfl rfl fun a S=>Dl (⟨ys1,⟨i1 + 1,⟨_,(hd1).trans (List.append_cons _ _ _),by simp [hi1]⟩,h,S.nf [] rfl ⟨rfl,rfl,rfl,(congrArg (fun z=>some (Value.int .i64 z)) (Gc hd1 hi1 (Jk Cc))),trivial⟩⟩,Nat.lt_succ_self _⟩)))))
 clear S h;rintro a w2 ⟨h,S⟩;rw [hj1] at h;clear hj1 j1
 refine Tn (Fr (Vm S rfl rfl fun a S=>Va S rfl rfl fun a S=>Dl (wp_ret ?_)))
 subst h
 exact Dx S results102 rfl rfl
set_option maxRecDepth 20000 in
theorem Wj (w : World) (Ag : An) (Ah : An) (r : Int) (h : Mz Ag Ah = r) :
    Calls prog 77 [.agg (An.enc Ag).toArray,.agg (An.enc Ah).toArray].toArray w (Ret w [] fun _ v _=>v = iV r):=by
 refine Fe func77 rfl ntmps77 rfl fun a S=>?_
 unfold Mz at h
 replace S:=S.k2 0 1 rfl
 refine Fr (Nj S (S.tm rfl) (cs:=(An.enc Ag)) rfl rfl ?_);clear S;intro a w1 b1 hz1 hk1 S
 refine Nj S (S.tm rfl) (cs:=(An.enc Ah)) rfl rfl ?_;clear S;intro a w2 b2 hz2 hk2 S
 refine Vk S rfl rfl fun a S=>Dl (Fs (Fw [] ([]) Tryz.mixed S rfl (by kernel_rfl) ?_));clear S;intro w8 hk8 hsel S
 refine Dk 0 S hsel rfl rfl rfl (by kernel_rfl) (by kernel_rfl) rfl (fun _ hw=>(Fk Ol (S.tm rfl))) fun a S=>Dk 1 S hsel rfl rfl rfl (by kernel_rfl) (by kernel_rfl) rfl (fun _ hw=>(Gk isAgg9 (off:=0) (o:=0) (S.tm rfl) ((S.blk_mem (i:=1) (cells:=(An.enc Ag)) (b:=b1) (T:=49) rfl (Gn (e':=.blk b1 (An.enc Ag) 49))).kept hw) rfl)) fun a S=>Dk 2 S hsel rfl rfl rfl (by kernel_rfl) (by kernel_rfl) rfl (fun _ hw=>(Fk Ol (S.tm rfl))) fun a S=>Dk 3 S hsel rfl rfl rfl (by kernel_rfl) (by kernel_rfl) rfl (fun _ hw=>(Gk isAgg9 (off:=0) (o:=0) (S.tm rfl) ((S.blk_mem (i:=0) (cells:=(An.enc Ah)) (b:=b2) (T:=49) rfl (Gn (e':=.blk b2 (An.enc Ah) 49))).kept hw) rfl)) fun a S=>Dk 5 S hsel rfl rfl rfl (by kernel_rfl) (by kernel_rfl) rfl (fun _ hw=>(Fk Jy (S.tm rfl))) fun a S=>Dk 6 S hsel rfl rfl rfl (by kernel_rfl) (by kernel_rfl) rfl (fun _ hw=>(Gk isAgg3 (off:=0) (o:=3) (S.tm rfl) ((S.blk_mem (i:=1) (cells:=(An.enc Ag)) (b:=b1) (T:=49) rfl (Gn (e':=.blk b1 (An.enc Ag) 49))).kept hw) rfl)) fun a S=>Dk 7 S hsel rfl rfl rfl (by kernel_rfl) (by kernel_rfl) rfl (fun _ hw=>(Fk Jy (S.tm rfl))) fun a S=>Dk 8 S hsel rfl rfl rfl (by kernel_rfl) (by kernel_rfl) rfl (fun _ hw=>(Gk isAgg3 (off:=0) (o:=3) (S.tm rfl) ((S.blk_mem (i:=0) (cells:=(An.enc Ah)) (b:=b2) (T:=49) rfl (Gn (e':=.blk b2 (An.enc Ah) 49))).kept hw) rfl)) fun a S=>Dk 10 S hsel rfl rfl rfl (by kernel_rfl) (by kernel_rfl) rfl (fun _ hw=>(Fk Ri (S.tm rfl))) fun a S=>Dk 11 S hsel rfl rfl rfl (by kernel_rfl) (by kernel_rfl) rfl (fun _ hw=>(Gk isAgg9 (off:=0) (o:=1) (S.tm rfl) ((S.blk_mem (i:=1) (cells:=(An.enc Ag)) (b:=b1) (T:=49) rfl (Gn (e':=.blk b1 (An.enc Ag) 49))).kept hw) rfl)) ?_;clear S;intro a S
 refine Dk 12 S hsel rfl rfl rfl (by kernel_rfl) (by kernel_rfl) rfl (fun _ hw=>(Fk Ri (S.tm rfl))) fun a S=>Dk 13 S hsel rfl rfl rfl (by kernel_rfl) (by kernel_rfl) rfl (fun _ hw=>(Gk isAgg9 (off:=0) (o:=1) (S.tm rfl) ((S.blk_mem (i:=0) (cells:=(An.enc Ah)) (b:=b2) (T:=49) rfl (Gn (e':=.blk b2 (An.enc Ah) 49))).kept hw) rfl)) fun a S=>Ex 4 (by kernel_rfl) rfl (Dc S (fun _=>Cw (vs:=[sV Ag.Race,sV Ah.Race]) ⟨(S.tm rfl),(S.tm rfl),trivial⟩ call42) (Lw _ Ag.Race Ah.Race _ rfl) rfl ?_);clear S;intro v5 a w9 hv5 hk9 hn5 S
 subst hv5
 refine Ld (Fx hk9 (Ex 9 (by kernel_rfl) rfl (Dc S (fun _=>Cw (vs:=[iV Ag.Rank,iV Ah.Rank]) ⟨(S.tm rfl),(S.tm rfl),trivial⟩ call103) (Sv _ Ag.Rank Ah.Rank _ rfl) rfl ?_)));clear S;intro v6 a w10 hv6 hk10 hn6 S
 subst hv6
 refine Ld (Fx hk10 (Ex 14 (by kernel_rfl) rfl (Dc S (fun _=>Cw (vs:=[sV Ag.Who,sV Ah.Who]) ⟨(S.tm rfl),(S.tm rfl),trivial⟩ call42) (Lw _ Ag.Who Ah.Who _ rfl) rfl ?_)));clear S;intro v7 a w11 hv7 hk11 hn7 S
 subst hv7
 refine Ld (Fx hk11 (Ex 15 (by kernel_rfl) rfl (Ed S underlying22 sizeOf3 zeroValue3 rfl rfl (pv:=[(0,iV (Fl Ag.Race Ah.Race)),(1,iV (Ia Ag.Rank Ah.Rank)),(2,iV (Fl Ag.Who Ah.Who))]) ⟨rfl,(S.tm rfl),rfl,(S.tm rfl),rfl,(S.tm rfl),trivial⟩ (cs:=[iV (Fl Ag.Race Ah.Race),iV (Ia Ag.Rank Ah.Rank),iV (Fl Ag.Who Ah.Who)]) (by kernel_rfl) rfl ?_)));clear S;intro a w12 b4 hz4 hk12 S
 refine Ld (Fx hk12 (Ex 16 (by kernel_rfl) rfl (Dc S (fun _=>Cw (vs:=[.slice (some ⟨b4,0,none⟩) 3 3]) ⟨(S.tm rfl),trivial⟩ call102) (Zo _ (.slice (some ⟨b4,0,none⟩) 3 3) [(Fl Ag.Race Ah.Race),(Ia Ag.Rank Ah.Rank),(Fl Ag.Who Ah.Who)] (Jm Hj S (i:=0) rfl rfl rfl rfl ((Gn (e':=.blk b4 [iV (Fl Ag.Race Ah.Race),iV (Ia Ag.Rank Ah.Rank),iV (Fl Ag.Who Ah.Who)] 3)) _ rfl)) _ rfl) rfl ?_)));clear S;intro v8 a w13 hv8 hk13 hn8 S
 subst hv8
 refine Ld (Fx hk13 (Kc [17] hsel (by kernel_rfl) rfl ?_))
 clear hsel
 refine En S rfl (Ra (S.tm rfl)) rfl fun a S=>Hk ?_
 replace S:=S.n0.k1 4 rfl
 refine Tn (wp_ret ?_)
 subst h
 exact Dx S results77 rfl rfl
set_option maxRecDepth 20000 in
theorem Te (w : World) (ψ : View) (hψ : View.le ψ (view w [])) (Ab : Value) (Ad : List An) (Ac : Slc ψ 5 Ab (Ad.map An.enc)) (r : (List (List An))) (h : Ng Ad = some r) :
    Calls prog 46 [Ab].toArray w (Ret w [] fun τ v _=>SlcD (join ψ τ) 1 RS.enc Tt v r):=by
 refine Fe func46 rfl ntmps46 rfl fun a S=>?_
 unfold Ng at h
 replace S:=S.k1 0 rfl
 refine Fr (Vk S rfl rfl fun a S=>Dz (Vk S rfl rfl ?_));clear S;intro a S
 replace S:=S.nil 29 1
 refine Dl (Fs (Fr (Vk S rfl rfl fun a S=>Dl ?_)))
 replace S:=(S.nl [.own (.slice none 0 0) 29 1 ([] : List RS).length (([] : List RS).flatMap RS.enc)] [true] rfl).k3 0 3 4 rfl
 obtain ⟨j1,hj1,h⟩:=Ec h
 refine Ds (fun a w'=>∃ x1 : List (List An),∃ v1 : Value,∃ rs1 : List RS,j1 x1 = some r ∧ Kd (Tt (join ψ nov)) x1 rs1 ∧ Sx w [] nov [.own v1 29 1 rs1.length (rs1.flatMap RS.enc)] [(3,v1)] 41 a w') ?_ ?_
 ·refine wp_block (Fi (fun (m1 : Nat) a w'=>∃ x1 : List (List An),∃ x2 : Int,∃ v1 : Value,∃ rs1 : List RS,Ic Ad j1 m1 x1 x2 = some r ∧ Kd (Tt (join ψ nov)) x1 rs1 ∧ Sx w [] nov [.own v1 29 1 rs1.length (rs1.flatMap RS.enc)] [(0,Ab),(3,v1),(4,iV x2)] 41 a w') id (((Ad.length : Int) - 0).toNat + 2) ⟨([] : List (List An)),0,(.slice none 0 0),([] : List RS),h,.nil,S.nf [true] rfl (subR rfl)⟩ ?_)
  clear S h;rintro m1 a w1 ⟨x1,x2,v1,rs1,h,hr1,S⟩
  cases m1 with
  | zero=>rw [Ic.eq_1] at h;cases h
  | succ m1 =>
   rw [Ic.eq_2] at h
   refine Fs (Fr (Vm S rfl rfl fun a S=>Vm S rfl rfl fun a S=>lv S (Ee Ja (S.tm rfl) (Ej Ac)) rfl fun a S=>Vb S Dt rfl rfl rfl fun a S=>Dl (Fc h (S.tm rfl) (fun hb1 h=>?_) (fun hb1 h=>?_))))
   ·refine wp_skip (Tn (wp_block (Fr (Vm S rfl rfl fun a S=>Vq S Ek rfl rfl rfl fun a S=>Va S rfl rfl fun a S=>Dl (Fs ?_)))))
    replace S:=S.k4 0 3 4 5 rfl
    obtain ⟨j2,hj2,h⟩:=Ec h
    refine Ds (fun a w'=>∃ x3 : Int,j2 x3 = some r ∧ Sx w [] nov [.own v1 29 1 rs1.length (rs1.flatMap RS.enc)] [(0,Ab),(3,v1),(4,iV x2),(5,iV x3)] 41 a w') ?_ ?_
    ·refine wp_block (Fi (fun (m2 : Nat) a w'=>∃ x3 : Int,Jg Ad x2 j2 m2 x3 = some r ∧ Sx w [] nov [.own v1 29 1 rs1.length (rs1.flatMap RS.enc)] [(0,Ab),(3,v1),(4,iV x2),(5,iV x3)] 41 a w') id (((Ad.length : Int) - (W (x2 + 1))).toNat + 2) ⟨W (x2 + 1),h,S.nf [true] rfl (subR rfl)⟩ ?_)
     clear S h;rintro m2 a w3 ⟨x3,h,S⟩
     cases m2 with
     | zero=>rw [Jg.eq_1] at h;cases h
     | succ m2 =>
      rw [Jg.eq_2] at h
      refine Fs (Fs (Fw [] ([]) Tryz.mixed S rfl (by kernel_rfl) ?_));clear S;intro w5 hk1 hsel S
      refine Kc [0,1,2,3,4,5,6,7,8,9,10,11,12,13,14,15,16] hsel (by kernel_rfl) rfl ?_
      clear hsel
      refine En S rfl (Rm (S.tm rfl)) rfl fun a S=>En S rfl (Rm (S.tm rfl)) rfl fun a S=>En S rfl (Ee Ja (S.tm rfl) (Ej Ac)) rfl fun a S=>En S rfl (Dt (S.tm rfl) (S.tm rfl)) rfl fun a S=>En S rfl (Rm (S.tm rfl)) rfl ?_;clear S;intro a S
      obtain ⟨j3,hj3,h⟩:=Ec h
      refine Ts 12 (fun a w'=>∃ c1,j3 c1 = some r ∧ Keep [] w5 w' ∧ Sx w [] nov [.own v1 29 1 rs1.length (rs1.flatMap RS.enc)] [(0,Ab),(3,v1),(4,iV x2),(5,iV x3),(28,bV c1)] 41 a w') ?_ ?_
      ·rcases Bool.eq_false_or_eq_true (decide (x3 < (Ad.length : Int))) with hb2 | hb2
       ·replace h:=Om h hb2
        refine Ef S rfl rfl rfl rfl hb2 (Fa S (Rm (S.tm rfl)) rfl fun a S=>Ef S rfl rfl rfl rfl hb2 (Fa S (Rm (S.tm rfl)) rfl fun a S=>Ef S rfl rfl rfl rfl hb2 ?_))
        obtain ⟨hc1,h⟩:=Hl h
        obtain ⟨b1,o1,hm1,hr2⟩:=Eb (a:=a) (x:=.tmp 17) (y:=.tmp 18) (ty:=0) Ja Ac (Db hc1).1 (Db hc1).2 (S.tm rfl) (S.tm rfl)
        refine Fa S (hr2 _) rfl ?_;clear S;intro a S
        clear hr2
        refine Ef S rfl rfl rfl rfl hb2 (Fa S (Fk Ol (S.tm rfl)) rfl fun a S=>Ef S rfl rfl rfl rfl hb2 (Fa S (Gk isAgg9 (off:=o1) (o:=0) (S.tm rfl) (hm1.at (HX hψ S.emb0)) rfl) rfl fun a S=>Ef S rfl rfl rfl rfl hb2 (Fa S (Rm (S.tm rfl)) rfl fun a S=>Ef S rfl rfl rfl rfl hb2 (Fa S (Rm (S.tm rfl)) rfl fun a S=>Ef S rfl rfl rfl rfl hb2 ?_))))
        obtain ⟨hc2,h⟩:=Hl h
        obtain ⟨b2,o2,hm2,hr3⟩:=Eb (a:=a) (x:=.tmp 22) (y:=.tmp 23) (ty:=0) Ja Ac (Db hc2).1 (Db hc2).2 (S.tm rfl) (S.tm rfl)
        refine Fa S (hr3 _) rfl ?_;clear S;intro a S
        clear hr3
        exact Ef S rfl rfl rfl rfl hb2 (Fa S (Fk Ol (S.tm rfl)) rfl fun a S=>Ef S rfl rfl rfl rfl hb2 (Fa S (Gk isAgg9 (off:=o2) (o:=0) (S.tm rfl) (hm2.at (HX hψ S.emb0)) rfl) rfl fun a S=>Ef S rfl rfl rfl rfl hb2 (Fa S (Uk (S.tm rfl) (S.tm rfl)) rfl fun a S=>En S rfl (Hg hb2 (S.tm rfl) (S.tm rfl)) rfl fun a S=>Hk (⟨_,h,Keep.refl _ _,S.nf [true] rfl (subR rfl)⟩))))
       ·replace h:=On h hb2
        iterate 11 (refine Nx S rfl rfl rfl rfl (Jt hb2) rfl ?_ rfl;clear S;intro a S)
        exact En S rfl (Hh true hb2 (S.tm rfl) rfl) rfl fun a S=>Hk (⟨_,h,Keep.refl _ _,S.nf [true] rfl (subR rfl)⟩)
      clear S h;rintro a w6 ⟨c1,h,hk2,S⟩;rw [hj3] at h;clear hj3 j3
      refine Hk ?_
      replace S:=S.k5 0 3 4 5 28 rfl
      refine Tn (Fc h (S.tm rfl) (fun hb3 h=>?_) (fun hb3 h=>?_))
      ·exact wp_skip (Tn (wp_block (Fg (Vm S rfl rfl fun a S=>Vq S Ek rfl rfl rfl fun a S=>Va S rfl rfl fun a S=>Ld (Gx (Tn (⟨m2,⟨W (x3 + 1),h,S.nf [true] rfl ⟨rfl,rfl,rfl,rfl,trivial⟩⟩,Nat.lt_succ_self _⟩)))))))
      ·exact wp_exit (Dj (Dj (Fj (Tn (⟨x3,h,S.nf [true] rfl (subR rfl)⟩)))))
    clear S h;rintro a w4 ⟨x3,h,S⟩;rw [hj2] at h;clear hj2 j2
    refine Tn (Fs (Fg ?_))
    iterate 5 (refine Vm S rfl rfl ?_;clear S;intro a S)
    obtain ⟨hc3,h⟩:=Hl h
    obtain ⟨v2,hs1,hr4⟩:=HL (y2:=.tmp 35) (a:=a) (x:=.tmp 32) (y:=.tmp 33) (y':=.tmp 34) (ty:=29) Ja Ac (S.tm rfl) (S.tm rfl) (S.tm rfl) (S.tm rfl) hc3
    refine lv S (hr4 _) rfl ?_;clear S;intro a S
    clear hr4
    refine Ed S underlying104 sizeOf29 zeroValue29 rfl rfl (pv:=[(0,v2)]) ⟨rfl,(S.tm rfl),trivial⟩ (cs:=[v2]) (HK hs1) rfl ?_;clear S;intro a w7 b3 hz1 hk3 S
    obtain ⟨hc4,h⟩:=Hl h
    have hr5 : Kd (Tt (join ψ nov)) (x1 ++ [cut Ad x2 x3]) (rs1 ++ [⟨v2,Kl.one (Ej hs1)⟩]):=Kd.app hr1 (Kd.cons (hs1.mono (le_join_left _ _)) Kd.nil)
    refine Mx Ss RS.enc_ok S (S.tm rfl) (i:=1) rfl (S.tm rfl) (j:=0) rfl (ys:=[⟨v2,Kl.one (Ej hs1)⟩]) rfl rfl rfl rfl (by have:=Nd hc4;have:=Kd.len hr1;simp at this ⊢;omega) rfl ?_;clear S;intro v3 a w8 hk4 S
    exact Va S rfl rfl fun a S=>Dl (Fg (Vm S rfl rfl fun a S=>Va S rfl rfl fun a S=>Ld (Gx (Tn (⟨m1,⟨(x1 ++ [cut Ad x2 x3]),x3,v3,(rs1 ++ [⟨v2,Kl.one (Ej hs1)⟩]),h,hr5,S.nf [false,true] rfl ⟨rfl,rfl,rfl,trivial⟩⟩,Nat.lt_succ_self _⟩)))))
   ·exact wp_exit (Dj (Dj (Fj (Tn (⟨x1,v1,rs1,h,hr1,S.nf [true] rfl ⟨rfl,trivial⟩⟩)))))
 clear S h;rintro a w2 ⟨x1,v1,rs1,h,hr1,S⟩;rw [hj1] at h;clear hj1 j1
 refine Tn (Fr (Vm S rfl rfl fun a S=>Va S rfl rfl fun a S=>Dl (wp_ret ?_)))
 obtain ⟨φ1,hl1,hs2,S⟩:=S.freezeT (xs:=rs1) (enc:=RS.enc) (i:=0) rfl (fun _ h=>by cases h)
 have hr6:=(Ye (Yv hl1) hr1)
 have hs3:=(Ha RS.enc_ok hs2).mono (S.all_right hψ)
 replace S:=S.nk [] [(2,v1),(3,v1),(40,v1)] [] rfl (subR rfl)
 obtain rfl:=Option.some.inj h
 exact Dx S results46 rfl ⟨_,(hs3.mono (EN hψ S.le_newer)),Ye (EN hψ S.le_newer) hr6⟩
set_option maxRecDepth 20000 in
theorem Tg (w : World) (Al : An) (Ck : Nat) (Cl : Value) (Cp : List An) (Co : Slc (view w []) 5 Cl (Cp.map An.enc)) (Cm : (view w []) Ck = some (.cells [Cl].toArray 29 (0,0))) (r : Bool) (h : Nh Al Cp = some r) :
    Calls prog 105 [.agg (An.enc Al).toArray,.pointer (some ⟨Ck,0,none⟩)].toArray w (Ret w [] fun _ v _=>v = bV r):=by
 refine Fe func105 rfl ntmps105 rfl fun a S=>?_
 unfold Nh at h
 replace S:=S.k2 0 1 rfl
 refine Fr (Nj S (S.tm rfl) (cs:=(An.enc Al)) rfl rfl ?_);clear S;intro a w1 b1 hz1 hk1 S
 refine Vk S rfl rfl fun a S=>Dl (Fs (Fw [] ([]) Tryz.mixed S rfl (by kernel_rfl) ?_));clear S;intro w2 hk2 hsel S
 refine Kc [0,1,2,3,4,5,6,7] hsel (by kernel_rfl) rfl ?_
 clear hsel
 refine En S rfl (Fk BN (S.tm rfl)) rfl fun a S=>En S rfl (Oh isAgg4 (S.tm rfl) (S.cell (i:=0) rfl rfl)) rfl fun a S=>En S rfl (Gk isAgg29 (off:=0) (o:=0) (S.tm rfl) ((EJ Cm).at S.emb0) rfl) rfl ?_;clear S;intro a S
 obtain ⟨hc1,h⟩:=Hl h
 obtain ⟨b2,o1,hm1,hr1⟩:=Eb (a:=a) (x:=.tmp 6) (y:=.const (iV 0)) (ty:=0) Ja Co (Db hc1).1 (Db hc1).2 (S.tm rfl) rfl
 refine En S rfl (hr1 _) rfl ?_;clear S;intro a S
 clear hr1
 refine En S rfl (Fk BN (S.tm rfl)) rfl fun a S=>En S rfl (Gk isAgg4 (off:=o1) (o:=4) (S.tm rfl) (hm1.at S.emb0) rfl) rfl fun a S=>En S rfl (rn_bneq underlying4 (S.tm rfl) (S.tm rfl)) rfl fun a S=>En S rfl (Ra (S.tm rfl)) rfl fun a S=>Hk ?_
 replace S:=S.n0.k1 3 rfl
 refine Tn (wp_ret ?_)
 obtain rfl:=Option.some.inj h
 exact Dx S results105 rfl rfl
theorem Ms (w : World) (Bg : Value) (Am : List An) (Bk : Slc (view w []) 5 Bg (Am.map An.enc)) (Bj : Nat) (Bu : Value) (Bx : List An) (Ce : Slc (view w []) 5 Bu (Bx.map An.enc)) (Bz : (view w []) Bj = some (.cells [Bu].toArray 29 (0,0))) (r : Int) (h : Gq Am Bx = some r) :
    Calls prog 128 [Bg,.func (.func 105) #[] #[.pointer (some ⟨Bj,0,none⟩)]].toArray w (Ret w [] fun _ v _=>v = iV r):=by
 refine Fe func128 rfl ntmps128 rfl fun a S=>?_
 unfold Gq at h
 replace S:=S.k2 0 1 rfl
 refine Fr (Vk S rfl rfl fun a S=>Dl (Fs (Fr (Vm S rfl rfl fun a S=>lv S (Ee Ja (S.tm rfl) (Ej Bk)) rfl fun a S=>lv S (Rm rfl) rfl ?_))));clear S;intro a S
 refine Dl ?_
 replace S:=S.k4 0 1 7 8 rfl
 obtain ⟨j1,hj1,h⟩:=Ec h
 refine Ds (fun a w'=>j1 = some r ∧ Sx w [] nov [] [] 19 a w') ?_ ?_
 ·refine wp_block (Fi (fun (ys1 : List An) a w'=>∃ i1 : Nat,(∃ dn,Am = dn ++ ys1 ∧ dn.length = i1) ∧ Dm Bx j1 ys1 i1 = some r ∧ Sx w [] nov [] [(0,Bg),(1,.func (.func 105) #[] #[.pointer (some ⟨Bj,0,none⟩)]),(7,iV (Am.length : Int)),(8,iV (i1 : Int))] 19 a w') List.length Am ⟨0,⟨[],rfl,rfl⟩,h,S.nf [] rfl (subR rfl)⟩ ?_)
  clear S h;rintro ys1 a w1 ⟨i1,⟨dn,hd1,hi1⟩,h,S⟩
  cases ys1 with
  | nil =>
   rw [Dm.eq_1] at h
   refine Fr (Vb S Dt rfl rfl rfl fun a S=>Ld ?_)
   replace S:=S.k5 0 1 7 8 9 rfl
   exact Tn (Fs (wp_cond_false ((S.tm rfl).trans (congrArg Value.bool (Hq hd1 hi1))) (wp_exit (Dj (Dj (Fj (Tn (⟨h,S.nf [] rfl trivial⟩))))))))
  | cons y1 ys1 =>
   rw [Dm.eq_2] at h
   refine Fr (Vb S Dt rfl rfl rfl fun a S=>Ld ?_)
   replace S:=S.k5 0 1 7 8 9 rfl
   refine Tn (Fs (wp_cond_true ((S.tm rfl).trans (congrArg Value.bool (Gb hd1 hi1))) (wp_skip (Tn (Fs (wp_block (Fr (Vm S rfl rfl fun a S=>Va S rfl rfl ?_))))))));clear S;intro a S
   refine Dl (Fs (Fg ?_))
   iterate 3 (refine Vm S rfl rfl ?_;clear S;intro a S)
   obtain ⟨b1,o1,hm1,hr1⟩:=Eb (a:=a) (x:=.tmp 12) (y:=.tmp 13) (ty:=0) Ja Bk (Hz hd1 hi1) rfl (S.tm rfl) (S.tm rfl)
   refine lv S (hr1 _) rfl ?_;clear S;intro a S
   clear hr1
   refine lv S (Fp isAgg49 sizeOf49 (off:=o1) (o:=0) (part:=(An.enc y1)) rfl rfl (S.tm rfl) (hm1.at S.emb0)) rfl ?_;clear S;intro a S
   obtain ⟨r1,hr2,h⟩:=Eg h
   refine Dc S (fun _=>Oq (cap:=[.pointer (some ⟨Bj,0,none⟩)]) (S.tm rfl) (vs:=[.agg (An.enc y1).toArray]) ⟨(S.tm rfl),trivial⟩ call105) (Tg _ y1 Bj Bu Bx (Ce.mono (S.le_arg Eo)) ((S.le_arg Eo) _ _ Bz) _ hr2) rfl ?_;clear S;intro v1 a w3 hv1 hk1 hn1 S
   subst hv1
   refine Dl (Fc h (S.tm rfl) (fun hb1 h=>?_) (fun hb1 h=>?_))
   ·refine Fr (Vm S rfl rfl fun a S=>Va S rfl rfl fun a S=>Ld ?_)
    replace S:=S.k1 4 rfl
    refine Tn (wp_ret (Em (Cx (Cx (Em (Cx (Cx ?_)))))))
    obtain rfl:=Option.some.inj h
    exact Dx S results128 rfl rfl
   ·exact wp_skip (Gx (Tn (Fg (Vq S Ek rfl rfl rfl fun a S=>Vm S rfl rfl fun a S=>Dl (⟨ys1,⟨i1 + 1,⟨_,(hd1).trans (List.append_cons _ _ _),by simp [hi1]⟩,h,S.nf [] rfl ⟨rfl,rfl,rfl,(congrArg (fun z=>some (Value.int .i64 z)) (Gc hd1 hi1 (Jk Bk))),trivial⟩⟩,Nat.lt_succ_self _⟩)))))
 clear S h;rintro a w2 ⟨h,S⟩;rw [hj1] at h;clear hj1 j1
 refine Tn (Fr (Vk S rfl rfl fun a S=>Dl (wp_ret ?_)))
 obtain rfl:=Option.some.inj h
 exact Dx S results128 rfl rfl
theorem Mb (w : World) (Bg : Value) (Am : List An) (Bk : Slc (view w []) 5 Bg (Am.map An.enc)) (Bj : Nat) (Bu : Value) (Bx : List An) (Ce : Slc (view w []) 5 Bu (Bx.map An.enc)) (Bz : (view w []) Bj = some (.cells [Bu].toArray 29 (0,0))) (r : Bool) (h : Ge Am Bx = some r) :
    Calls prog 104 [Bg,.func (.func 105) #[] #[.pointer (some ⟨Bj,0,none⟩)]].toArray w (Ret w [] fun _ v _=>v = bV r):=by
 refine Fe func104 rfl ntmps104 rfl fun a S=>?_
 unfold Ge at h
 replace S:=S.k2 0 1 rfl
 refine Fr (Vk S rfl rfl fun a S=>Dz (Vm S rfl rfl fun a S=>Vm S rfl rfl ?_));clear S;intro a S
 obtain ⟨r1,hr1,h⟩:=Eg h
 refine Dc S (fun _=>Cw (vs:=[Bg,.func (.func 105) #[] #[.pointer (some ⟨Bj,0,none⟩)]]) ⟨(S.tm rfl),(S.tm rfl),trivial⟩ call128) (Ms _ Bg Am (Bk.mono (S.le_arg Eo)) Bj Bu Bx (Ce.mono (S.le_arg Eo)) ((S.le_arg Eo) _ _ Bz) _ hr1) rfl ?_;clear S;intro v1 a w1 hv1 hk1 hn1 S
 subst hv1
 refine Vq S Nr rfl rfl rfl fun a S=>Va S rfl rfl fun a S=>Dl (wp_ret ?_)
 obtain rfl:=Option.some.inj h
 exact Dx S results104 rfl rfl
set_option maxRecDepth 20000 in
theorem Vn (w : World) (Ab : Value) (Ad : List An) (Ac : Slc (view w []) 5 Ab (Ad.map An.enc)) (r : Int) (h : Mc Ad = some r) :
    Calls prog 78 [Ab].toArray w (Ret w [] fun _ v _=>v = iV r):=by
 refine Fe func78 rfl ntmps78 rfl fun a S=>?_
 unfold Mc at h
 replace S:=S.k1 0 rfl
 refine Fr (Vk S rfl rfl fun a S=>Dz (Pl (κ:=Ct) (ν:=Bool) S rfl (fun x=>Value.agg (Ct.enc x).toArray) Value.bool ?_));clear S;intro a w1 b1 hz1 hk1 S
 refine Va S rfl rfl fun a S=>Dl (Fs (Fr (Vm S rfl rfl fun a S=>lv S (Ee Ja (S.tm rfl) (Ej Ac)) rfl fun a S=>lv S (Rm rfl) rfl fun a S=>Dl ?_)))
 replace S:=(S.nl [.map b1 (Eh (fun x=>Value.agg (Ct.enc x).toArray) Value.bool ([] : List (Ct × Bool))) ([] : List (Ct × Bool)).length] [true] rfl).k5 0 3 17 18 19 rfl
 obtain ⟨j1,hj1,h⟩:=Ec h
 refine Ds (fun a w'=>∃ x1 : List (Ct × Bool),j1 x1 = some r ∧ Sx w [] nov [.map b1 (Eh (fun x=>Value.agg (Ct.enc x).toArray) Value.bool x1) x1.length] [(0,Ab)] 122 a w') ?_ ?_
 ·refine wp_block (Fi (fun (ys1 : List An) a w'=>∃ i1 : Nat,∃ x1 : List (Ct × Bool),(∃ dn,Ad = dn ++ ys1 ∧ dn.length = i1) ∧ Hu j1 ys1 i1 x1 = some r ∧ Sx w [] nov [.map b1 (Eh (fun x=>Value.agg (Ct.enc x).toArray) Value.bool x1) x1.length] [(0,Ab),(3,.map (some b1)),(17,Ab),(18,iV (Ad.length : Int)),(19,iV (i1 : Int))] 122 a w') List.length Ad ⟨0,([] : List (Ct × Bool)),⟨[],rfl,rfl⟩,h,S.nf [true] rfl (subR rfl)⟩ ?_)
  clear S h;rintro ys1 a w2 ⟨i1,x1,⟨dn,hd1,hi1⟩,h,S⟩
  cases ys1 with
  | nil =>
   rw [Hu.eq_1] at h
   refine Fr (Vb S Dt rfl rfl rfl fun a S=>Ld ?_)
   replace S:=S.k6 0 3 17 18 19 20 rfl
   exact Tn (Fs (wp_cond_false ((S.tm rfl).trans (congrArg Value.bool (Hq hd1 hi1))) (wp_exit (Dj (Dj (Fj (Tn (⟨x1,h,S.nf [true] rfl ⟨rfl,trivial⟩⟩))))))))
  | cons y1 ys1 =>
   rw [Hu.eq_2] at h
   refine Fr (Vb S Dt rfl rfl rfl fun a S=>Ld ?_)
   replace S:=S.k6 0 3 17 18 19 20 rfl
   refine Tn (Fs (wp_cond_true ((S.tm rfl).trans (congrArg Value.bool (Gb hd1 hi1))) (wp_skip (Tn (Fs (wp_block (Fs (Fg ?_))))))))
   obtain ⟨b2,o1,hm1,hr1⟩:=Eb (a:=a) (x:=.tmp 17) (y:=.tmp 19) (ty:=0) Ja Ac (Hz hd1 hi1) rfl (S.tm rfl) (S.tm rfl)
   refine lv S (hr1 _) rfl ?_;clear S;intro a S
   clear hr1
   refine lv S (Fp isAgg49 sizeOf49 (off:=o1) (o:=0) (part:=(An.enc y1)) rfl rfl (S.tm rfl) (hm1.at S.emb0)) rfl fun a S=>It S zeroValue49 (cs:=[sV Cy,sV Cy,sV Cy,iV 0,bV false]) rfl rfl ?_;clear S;intro a w4 b3 hz2 hk2 S
   refine Gl S (S.tm rfl) (S.tm rfl) (i:=0) (off:=0) rfl sizeOf49 (vs:=(An.enc y1)) rfl rfl rfl rfl ?_;clear S;intro w5 hk3 S
   refine Dl (Fs (Fr (Vm S rfl rfl fun a S=>Vf Ol S rfl rfl fun a S=>Vl isAgg9 0 S rfl rfl rfl rfl fun a S=>Vf Ri S rfl rfl fun a S=>Vl isAgg9 0 S rfl rfl rfl rfl fun a S=>lv S (Lp IG (pv:=[(0,sV y1.Race),(1,sV y1.Who)]) ⟨rfl,(S.tm rfl),rfl,(S.tm rfl),trivial⟩ (cs:=[sV y1.Race,sV y1.Who]) (by kernel_rfl)) rfl ?_)));clear S;intro a S
   refine lv S (Pm (kv:=(fun x=>Value.agg (Ct.enc x).toArray)) (vv:=Value.bool) (m:=x1) (key:=(Ct.mk y1.Race y1.Who)) (z:=false) (S.map_at (i:=1) rfl) underlying158 Yl zeroValue4 (S.tm rfl) (S.tm rfl)) rfl fun a S=>Ld ?_
   replace S:=(S.nl [.blk b3 (An.enc y1) 49,.map b1 (Eh (fun x=>Value.agg (Ct.enc x).toArray) Value.bool x1) x1.length] [true,true] rfl).k7 0 3 5 17 18 19 29 rfl
   refine Tn (Fc h (S.tm rfl) (fun hb1 h=>?_) (fun hb1 h=>?_))
   ·refine Fr (Vk S rfl rfl fun a S=>Dl (wp_ret (Cx (Em (Cx (Cx (Em ?_)))))))
    refine Cx (Cx ?_)
    obtain rfl:=Option.some.inj h
    exact Dx S results78 rfl rfl
   ·refine wp_skip (Tn (Fg (Vm S rfl rfl fun a S=>Vf Ol S rfl rfl fun a S=>Vl isAgg9 0 S rfl rfl rfl rfl fun a S=>Vf Ri S rfl rfl fun a S=>Vl isAgg9 0 S rfl rfl rfl rfl fun a S=>lv S (Lp IG (pv:=[(0,sV y1.Race),(1,sV y1.Who)]) ⟨rfl,(S.tm rfl),rfl,(S.tm rfl),trivial⟩ (cs:=[sV y1.Race,sV y1.Who]) (by kernel_rfl)) rfl fun a S=>Mg (kv:=(fun x=>Value.agg (Ct.enc x).toArray)) (vv:=Value.bool) (m:=x1) (key:=(Ct.mk y1.Race y1.Who)) (val:=true) S (i:=1) rfl underlying158 Yl (S.tm rfl) (S.tm rfl) rfl ?_)));clear S;intro w6 hk4 S
    exact Ld (Gx (Tn (Fg (Vq S Ek rfl rfl rfl fun a S=>Vm S rfl rfl fun a S=>Dl (⟨ys1,⟨i1 + 1,(Es x1 (Ct.mk y1.Race y1.Who) true),⟨_,(hd1).trans (List.append_cons _ _ _),by simp [hi1]⟩,h,S.nf [false,true] rfl ⟨rfl,rfl,rfl,rfl,(congrArg (fun z=>some (Value.int .i64 z)) (Gc hd1 hi1 (Jk Ac))),trivial⟩⟩,Nat.lt_succ_self _⟩)))))
 clear S h;rintro a w3 ⟨x1,h,S⟩;rw [hj1] at h;clear hj1 j1
 refine Tn (Fr (Vm S rfl rfl ?_));clear S;intro a S
 obtain ⟨r1,hr2,h⟩:=Eg h
 have hz3:=S.keep.size
 refine Dc S (fun _=>Cw (vs:=[Ab]) ⟨(S.tm rfl),trivial⟩ call46) (Te _ (join (view w []) nov) (We (S.le_arg Eo) (S.le_new Eo)) Ab Ad (Ac.mono (le_join_left _ _)) _ hr2) rfl ?_;clear S;intro v1 a w7 hv1 hk5 hn1 S
 obtain ⟨φ1,hl1,hm2,S⟩:=S.see' hn1 hz3
 obtain ⟨rs1,ho2,hr3⟩:=hv1
 have hs1:=ho2.mono (Wf hl1 hm2)
 have hr4:=Ye (Wf hl1 hm2) hr3
 refine Va S rfl rfl fun a S=>Dl (Fs (Fr (Vm S rfl rfl fun a S=>lv S (Ee Ss (S.tm rfl) (Qv hs1 hr4)) rfl fun a S=>lv S (Rm rfl) rfl fun a S=>Dl ?_)))
 replace S:=S.n0.k4 6 39 40 41 rfl
 obtain ⟨j2,hj2,h⟩:=Ec h
 refine Ds (fun a w'=>j2 = some r ∧ Sx w [] φ1 [] [(6,v1)] 122 a w') ?_ ?_
 ·refine wp_block (Fi (fun (ys2 : List (List An)) a w'=>∃ i2 : Nat,(∃ dn,r1 = dn ++ ys2 ∧ dn.length = i2) ∧ Hb j2 ys2 i2 = some r ∧ Sx w [] φ1 [] [(6,v1),(39,v1),(40,iV (r1.length : Int)),(41,iV (i2 : Int))] 122 a w') List.length r1 ⟨0,⟨[],rfl,rfl⟩,h,S.nf [] rfl (subR rfl)⟩ ?_)
  clear S h;rintro ys2 a w8 ⟨i2,⟨dn,hd2,hi2⟩,h,S⟩
  cases ys2 with
  | nil =>
   rw [Hb.eq_1] at h
   refine Fr (Vb S Dt rfl rfl rfl fun a S=>Ld ?_)
   replace S:=S.k5 6 39 40 41 42 rfl
   exact Tn (Fs (wp_cond_false ((S.tm rfl).trans (congrArg Value.bool (Hq hd2 hi2))) (wp_exit (Dj (Dj (Fj (Tn (⟨h,S.nf [] rfl ⟨rfl,trivial⟩⟩))))))))
  | cons y2 ys2 =>
   rw [Hb.eq_2] at h
   refine Fr (Vb S Dt rfl rfl rfl fun a S=>Ld ?_)
   replace S:=S.k5 6 39 40 41 42 rfl
   refine Tn (Fs (wp_cond_true ((S.tm rfl).trans (congrArg Value.bool (Gb hd2 hi2))) (wp_skip (Tn (Fs (wp_block (Fs (Fg ?_))))))))
   obtain ⟨r2,hg1,hl2⟩:=Kd.at hr4 (Hz hd2 hi2)
   have hs2:=hl2
   obtain ⟨b4,o2,hm3,hr5⟩:=Eb (a:=a) (x:=.tmp 39) (y:=.tmp 41) (ty:=0) Ss hs1 hg1 rfl (S.tm rfl) (S.tm rfl)
   refine lv S (hr5 _) rfl ?_;clear S;intro a S
   clear hr5
   refine lv S (Gk isAgg29 (off:=o2) (o:=0) (S.tm rfl) (hm3.at (Oy S.emb0 S.emb)) rfl) rfl fun a S=>It S zeroValue29 (cs:=[.slice none 0 0]) rfl rfl ?_;clear S;intro a w10 b5 hz4 hk6 S
   refine Gl S (S.tm rfl) (S.tm rfl) (i:=0) (off:=0) rfl sizeOf29 (vs:=[r2.val]) (Kl.cells (Ej hs2)) rfl rfl (Rq (Kl.one (Ej hs2)) rfl) ?_;clear S;intro w11 hk7 S
   refine Dz (Vl isAgg29 0 S rfl rfl rfl rfl fun a S=>lv S (CF (us:=#[]) (xs:=[].toArray) (ys:=[.tmp 8].toArray) (by simp) (evA ⟨(S.tm rfl),trivial⟩ (vs:=[.pointer (some ⟨b5,0,none⟩)]))) rfl ?_);clear S;intro a S
   obtain ⟨r3,hr6,h⟩:=Eg h
   refine Dc S (fun _=>Cw (vs:=[r2.val,.func (.func 105) #[] #[.pointer (some ⟨b5,0,none⟩)]]) ⟨(S.tm rfl),(S.tm rfl),trivial⟩ call104) (Mb _ r2.val y2 (hs2.mono (We (S.le_arg Eo) (S.le_new Eo))) b5 r2.val y2 (hs2.mono (We (S.le_arg Eo) (S.le_new Eo))) (S.blk_view (i:=0) rfl ((Gn (e':=.blk b5 [r2.val] 29)) _ rfl)) _ hr6) rfl ?_;clear S;intro v2 a w12 hv2 hk8 hn2 S
   subst hv2
   refine Dl (Fc h (S.tm rfl) (fun hb2 h=>?_) (fun hb2 h=>?_))
   ·refine Fr (Vk S rfl rfl fun a S=>Dl (wp_ret (Em (Cx (Cx (Em (Cx ?_)))))))
    refine Cx ?_
    obtain rfl:=Option.some.inj h
    exact Dx S results78 rfl rfl
   ·exact wp_skip (Gx (Tn (Fg (Vq S Ek rfl rfl rfl fun a S=>Vm S rfl rfl fun a S=>Dl (⟨ys2,⟨i2 + 1,⟨_,(hd2).trans (List.append_cons _ _ _),by simp [hi2]⟩,h,S.nf [false] rfl ⟨rfl,rfl,rfl,(congrArg (fun z=>some (Value.int .i64 z)) (Gc hd2 hi2 (Rx hs1 hr4))),trivial⟩⟩,Nat.lt_succ_self _⟩)))))
 clear S h;rintro a w9 ⟨h,S⟩;rw [hj2] at h;clear hj2 j2
 refine Tn (Fs (Fr (Vm S rfl rfl fun a S=>lv S (Ee Ss (S.tm rfl) (Qv hs1 hr4)) rfl fun a S=>lv S (Rm rfl) rfl fun a S=>Dl ?_)))
 replace S:=S.k4 6 49 50 51 rfl
 obtain ⟨j3,hj3,h⟩:=Ec h
 refine Ds (fun a w'=>j3 = some r ∧ Sx w [] φ1 [] [(6,v1)] 122 a w') ?_ ?_
 ·refine wp_block (Fi (fun (ys3 : List (List An)) a w'=>∃ i3 : Nat,(∃ dn,r1 = dn ++ ys3 ∧ dn.length = i3) ∧ Gj j3 ys3 i3 = some r ∧ Sx w [] φ1 [] [(6,v1),(49,v1),(50,iV (r1.length : Int)),(51,iV (i3 : Int))] 122 a w') List.length r1 ⟨0,⟨[],rfl,rfl⟩,h,S.nf [] rfl (subR rfl)⟩ ?_)
  clear S h;rintro ys3 a w13 ⟨i3,⟨dn,hd3,hi3⟩,h,S⟩
  cases ys3 with
  | nil =>
   rw [Gj.eq_1] at h
   refine Fr (Vb S Dt rfl rfl rfl fun a S=>Ld ?_)
   replace S:=S.k5 6 49 50 51 52 rfl
   exact Tn (Fs (wp_cond_false ((S.tm rfl).trans (congrArg Value.bool (Hq hd3 hi3))) (wp_exit (Dj (Dj (Fj (Tn (⟨h,S.nf [] rfl ⟨rfl,trivial⟩⟩))))))))
  | cons y3 ys3 =>
   rw [Gj.eq_2] at h
   refine Fr (Vb S Dt rfl rfl rfl fun a S=>Ld ?_)
   replace S:=S.k5 6 49 50 51 52 rfl
   refine Tn (Fs (wp_cond_true ((S.tm rfl).trans (congrArg Value.bool (Gb hd3 hi3))) (wp_skip (Tn (Fs (wp_block (Fs (Fg ?_))))))))
   obtain ⟨r4,hg2,hl3⟩:=Kd.at hr4 (Hz hd3 hi3)
   have hs3:=hl3
   obtain ⟨b6,o3,hm4,hr7⟩:=Eb (a:=a) (x:=.tmp 49) (y:=.tmp 51) (ty:=0) Ss hs1 hg2 rfl (S.tm rfl) (S.tm rfl)
   refine lv S (hr7 _) rfl ?_;clear S;intro a S
   clear hr7
   refine lv S (Gk isAgg29 (off:=o3) (o:=0) (S.tm rfl) (hm4.at (Oy S.emb0 S.emb)) rfl) rfl fun a S=>Va S rfl rfl fun a S=>Dz (Vm S rfl rfl fun a S=>lv S (Ee Ja (S.tm rfl) (Ej hs3)) rfl fun a S=>lv S (Rm rfl) rfl fun a S=>Dl ?_)
   replace S:=S.k8 6 10 49 50 51 55 56 57 rfl
   obtain ⟨j4,hj4,h⟩:=Ec h
   refine Ds (fun a w'=>j4 = some r ∧ Sx w [] φ1 [] [(6,v1),(49,v1),(50,iV (r1.length : Int)),(51,iV (i3 : Int))] 122 a w') ?_ ?_
   ·refine wp_block (Fi (fun (ys4 : List An) a w'=>∃ i4 : Nat,(∃ dn,y3 = dn ++ ys4 ∧ dn.length = i4) ∧ Hv y3 j4 ys4 i4 = some r ∧ Sx w [] φ1 [] [(6,v1),(10,r4.val),(49,v1),(50,iV (r1.length : Int)),(51,iV (i3 : Int)),(55,r4.val),(56,iV (y3.length : Int)),(57,iV (i4 : Int))] 122 a w') List.length y3 ⟨0,⟨[],rfl,rfl⟩,h,S.nf [] rfl (subR rfl)⟩ ?_)
    clear S h;rintro ys4 a w15 ⟨i4,⟨dn,hd4,hi4⟩,h,S⟩
    cases ys4 with
    | nil =>
     rw [Hv.eq_1] at h
     refine Fr (Vb S Dt rfl rfl rfl fun a S=>Ld ?_)
     replace S:=S.k9 6 10 49 50 51 55 56 57 58 rfl
     exact Tn (Fs (wp_cond_false ((S.tm rfl).trans (congrArg Value.bool (Hq hd4 hi4))) (wp_exit (Dj (Dj (Fj (Tn (⟨h,S.nf [] rfl (subR rfl)⟩))))))))
    | cons y4 ys4 =>
     rw [Hv.eq_2] at h
     refine Fr (Vb S Dt rfl rfl rfl fun a S=>Ld ?_)
     replace S:=S.k9 6 10 49 50 51 55 56 57 58 rfl
     refine Tn (Fs (wp_cond_true ((S.tm rfl).trans (congrArg Value.bool (Gb hd4 hi4))) (wp_skip (Tn (Fs (wp_block (Fr (Vm S rfl rfl ?_))))))));clear S;intro a S
     obtain ⟨b7,o4,hm5,hr8⟩:=Eb (a:=a) (x:=.tmp 55) (y:=.tmp 57) (ty:=0) Ja hs3 (Hz hd4 hi4) rfl (S.tm rfl) (S.tm rfl)
     refine lv S (hr8 _) rfl ?_;clear S;intro a S
     clear hr8
     refine lv S (Fp isAgg49 sizeOf49 (off:=o4) (o:=0) (part:=(An.enc y4)) rfl rfl (S.tm rfl) (hm5.at (Oy S.emb0 S.emb))) rfl fun a S=>It S zeroValue49 (cs:=[sV Cy,sV Cy,sV Cy,iV 0,bV false]) rfl rfl ?_;clear S;intro a w17 b8 hz5 hk9 S
     refine Va S rfl rfl fun a S=>Gl S (S.tm rfl) (S.tm rfl) (i:=0) (off:=0) rfl sizeOf49 (vs:=(An.enc y4)) rfl rfl rfl rfl ?_;clear S;intro w18 hk10 S
     refine Dl (Fs (Fw [] ([]) Tryz.mixed S rfl (by kernel_rfl) ?_));clear S;intro w19 hk11 hsel S
     refine Kc [0,1,2,3,4,5,6,7,8,9,10,11,12,13,14,15,16,17,18,19,20,21,22,23,24] hsel (by kernel_rfl) rfl ?_
     clear hsel
     refine En S rfl (Fk Jy (S.tm rfl)) rfl fun a S=>En S rfl (Oh isAgg3 (S.tm rfl) (S.cell (i:=0) rfl rfl)) rfl fun a S=>En S rfl (Ji (S.tm rfl) rfl) rfl fun a S=>En S rfl (Rm (S.tm rfl)) rfl fun a S=>Ts 6 (fun a w'=>Keep [] w19 w' ∧ Sx w [] φ1 [.blk b8 (An.enc y4) 49] [(6,v1),(10,r4.val),(11,iV (i4 : Int)),(12,.pointer (some ⟨b8,0,none⟩)),(49,v1),(50,iV (r1.length : Int)),(51,iV (i3 : Int)),(55,r4.val),(56,iV (y3.length : Int)),(57,iV (i4 : Int)),(71,bV ((decide (0 < y4.Rank)) && (!decide (y4.Rank = (W ((i4 : Int) + 1))))))] 122 a w') ?_ ?_
     ·rcases Bool.eq_false_or_eq_true (decide (0 < y4.Rank)) with hb3 | hb3
      ·refine Ef S rfl rfl rfl rfl hb3 (Fa S (Fk Jy (S.tm rfl)) rfl fun a S=>Ef S rfl rfl rfl rfl hb3 (Fa S (Oh isAgg3 (S.tm rfl) (S.cell (i:=0) rfl rfl)) rfl fun a S=>Ef S rfl rfl rfl rfl hb3 (Fa S (Rm (S.tm rfl)) rfl fun a S=>Ef S rfl rfl rfl rfl hb3 (Fa S (Ek (S.tm rfl) rfl) rfl fun a S=>Ef S rfl rfl rfl rfl hb3 (Fa S (Lo (S.tm rfl) (S.tm rfl)) rfl fun a S=>En S rfl (Hg hb3 (S.tm rfl) (S.tm rfl)) rfl ?_)))));clear S;intro a S
       exact Hk (⟨Keep.refl _ _,S.nf [true] rfl (subR rfl)⟩)
      ·iterate 5 (refine Nx S rfl rfl rfl rfl (Jt hb3) rfl ?_ rfl;clear S;intro a S)
       exact En S rfl (Hh (!decide (y4.Rank = (W ((i4 : Int) + 1)))) hb3 (S.tm rfl) rfl) rfl fun a S=>Hk (⟨Keep.refl _ _,S.nf [true] rfl (subR rfl)⟩)
     clear S;rintro a w20 ⟨hk12,S⟩
     refine En S rfl (Rm (S.tm rfl)) rfl ?_;clear S;intro a S
     obtain ⟨j5,hj5,h⟩:=Ec h
     refine Ts 14 (fun a w'=>∃ c1,j5 c1 = some r ∧ Keep [] w20 w' ∧ Sx w [] φ1 [.blk b8 (An.enc y4) 49] [(6,v1),(10,r4.val),(49,v1),(50,iV (r1.length : Int)),(51,iV (i3 : Int)),(55,r4.val),(56,iV (y3.length : Int)),(57,iV (i4 : Int)),(86,bV c1)] 122 a w') ?_ ?_
     ·rcases Bool.eq_false_or_eq_true ((decide (0 < y4.Rank)) && (!decide (y4.Rank = (W ((i4 : Int) + 1))))) with hb4 | hb4
      ·replace h:=Om h hb4
       refine Ef S rfl rfl rfl rfl hb4 (Fa S (Rm (S.tm rfl)) rfl fun a S=>Ef S rfl rfl rfl rfl hb4 (Fa S (Jz (S.tm rfl) rfl) rfl fun a S=>Ef S rfl rfl rfl rfl hb4 (Fa S (Rm (S.tm rfl)) rfl ?_)));clear S;intro a S
       obtain ⟨j6,hj6,h⟩:=Ec h
       refine Ts 10 (fun a w'=>∃ c2,j6 c2 = some r ∧ Keep [] w20 w' ∧ Sx w [] φ1 [.blk b8 (An.enc y4) 49] [(6,v1),(10,r4.val),(49,v1),(50,iV (r1.length : Int)),(51,iV (i3 : Int)),(55,r4.val),(56,iV (y3.length : Int)),(57,iV (i4 : Int)),(72,bV ((decide (0 < y4.Rank)) && (!decide (y4.Rank = (W ((i4 : Int) + 1)))))),(73,iV (i4 : Int)),(74,bV (decide ((i4 : Int) = 0))),(75,bV (decide ((i4 : Int) = 0))),(85,bV c2)] 122 a w') ?_ ?_
       ·rcases Bool.eq_false_or_eq_true (decide ((i4 : Int) = 0)) with hb5 | hb5
        ·replace h:=Om h hb5
         iterate 9 (refine Nx S rfl rfl rfl rfl (Md hb5) rfl ?_ rfl;clear S;intro a S)
         exact Ef S rfl rfl rfl rfl hb4 (Fa S (Kt true hb5 (S.tm rfl) rfl) rfl fun a S=>Hk (⟨_,h,Keep.refl _ _,S.nf [true] rfl (subR rfl)⟩))
        ·replace h:=On h hb5
         refine Ef S rfl rfl rfl rfl hb5 (Fa S (Fk Jy (S.tm rfl)) rfl fun a S=>Ef S rfl rfl rfl rfl hb5 (Fa S (Oh isAgg3 (S.tm rfl) (S.cell (i:=0) rfl rfl)) rfl fun a S=>Ef S rfl rfl rfl rfl hb5 (Fa S (Rm (S.tm rfl)) rfl fun a S=>Ef S rfl rfl rfl rfl hb5 (Fa S (Rm (S.tm rfl)) rfl fun a S=>Ef S rfl rfl rfl rfl hb5 (Fa S (Jb (S.tm rfl) rfl) rfl fun a S=>Ef S rfl rfl rfl rfl hb5 ?_)))))
         obtain ⟨hc1,h⟩:=Hl h
         obtain ⟨b9,o5,hm6,hr9⟩:=Eb (a:=a) (x:=.tmp 78) (y:=.tmp 80) (ty:=0) Ja hs3 (Db hc1).1 (Db hc1).2 (S.tm rfl) (S.tm rfl)
         refine Fa S (hr9 _) rfl ?_;clear S;intro a S
         clear hr9
         exact Ef S rfl rfl rfl rfl hb5 (Fa S (Fk Jy (S.tm rfl)) rfl fun a S=>Ef S rfl rfl rfl rfl hb5 (Fa S (Gk isAgg3 (off:=o5) (o:=3) (S.tm rfl) (hm6.at (Oy S.emb0 S.emb)) rfl) rfl fun a S=>Ef S rfl rfl rfl rfl hb5 (Fa S (Lo (S.tm rfl) (S.tm rfl)) rfl fun a S=>Ef S rfl rfl rfl rfl hb4 (Fa S (Ku hb5 (S.tm rfl) (S.tm rfl)) rfl fun a S=>Hk (⟨_,h,Keep.refl _ _,S.nf [true] rfl (subR rfl)⟩)))))
       clear S h;rintro a w22 ⟨c2,h,hk13,S⟩;rw [hj6] at h;clear hj6 j6
       exact En S rfl (Hg hb4 (S.tm rfl) (S.tm rfl)) rfl fun a S=>Hk (⟨_,h,hk13,S.nf [true] rfl (subR rfl)⟩)
      ·replace h:=On h hb4
       iterate 3 (refine Nx S rfl rfl rfl rfl (Jt hb4) rfl ?_ rfl;clear S;intro a S)
       iterate 9 (refine s_skipU S rfl rfl rfl rfl rfl ?_;clear S;intro a S)
       exact Nx S rfl rfl rfl rfl (Jt hb4) rfl (fun a S=>En S rfl (Hh true hb4 (S.tm rfl) rfl) rfl fun a S=>Hk (⟨_,h,Keep.refl _ _,S.nf [true] rfl (subR rfl)⟩)) rfl
     clear S h;rintro a w21 ⟨c1,h,hk14,S⟩;rw [hj5] at h;clear hj5 j5
     refine Hk ?_
     replace S:=S.n0.k9 6 10 49 50 51 55 56 57 86 rfl
     refine Tn (Fc h (S.tm rfl) (fun hb6 h=>?_) (fun hb6 h=>?_))
     ·refine Fr (Vk S rfl rfl fun a S=>Dl (wp_ret (Em (Cx (Cx (Em (Cx ?_)))))))
      refine Em (Cx (Cx (Em (Cx (Cx ?_)))))
      obtain rfl:=Option.some.inj h
      exact Dx S results78 rfl rfl
     ·exact wp_skip (Gx (Tn (Fg (Vq S Ek rfl rfl rfl fun a S=>Vm S rfl rfl fun a S=>Dl (⟨ys4,⟨i4 + 1,⟨_,(hd4).trans (List.append_cons _ _ _),by simp [hi4]⟩,h,S.nf [] rfl ⟨rfl,rfl,rfl,rfl,rfl,rfl,rfl,(congrArg (fun z=>some (Value.int .i64 z)) (Gc hd4 hi4 (Jk hs3))),trivial⟩⟩,Nat.lt_succ_self _⟩)))))
   clear S h;rintro a w16 ⟨h,S⟩;rw [hj4] at h;clear hj4 j4
   exact Gx (Tn (Fg (Vq S Ek rfl rfl rfl fun a S=>Vm S rfl rfl fun a S=>Dl (⟨ys3,⟨i3 + 1,⟨_,(hd3).trans (List.append_cons _ _ _),by simp [hi3]⟩,h,S.nf [] rfl ⟨rfl,rfl,rfl,(congrArg (fun z=>some (Value.int .i64 z)) (Gc hd3 hi3 (Rx hs1 hr4))),trivial⟩⟩,Nat.lt_succ_self _⟩))))
 clear S h;rintro a w14 ⟨h,S⟩;rw [hj3] at h;clear hj3 j3
 refine Tn (Fs (Fr (Vm S rfl rfl fun a S=>lv S (Ee Ss (S.tm rfl) (Qv hs1 hr4)) rfl fun a S=>lv S (Rm rfl) rfl fun a S=>Dl ?_)))
 replace S:=S.k3 89 90 91 rfl
 obtain ⟨j7,hj7,h⟩:=Ec h
 refine Ds (fun a w'=>j7 = some r ∧ Sx w [] φ1 [] [] 122 a w') ?_ ?_
 ·refine wp_block (Fi (fun (ys5 : List (List An)) a w'=>∃ i5 : Nat,(∃ dn,r1 = dn ++ ys5 ∧ dn.length = i5) ∧ Hc j7 ys5 i5 = some r ∧ Sx w [] φ1 [] [(89,v1),(90,iV (r1.length : Int)),(91,iV (i5 : Int))] 122 a w') List.length r1 ⟨0,⟨[],rfl,rfl⟩,h,S.nf [] rfl (subR rfl)⟩ ?_)
  clear S h;rintro ys5 a w23 ⟨i5,⟨dn,hd5,hi5⟩,h,S⟩
  cases ys5 with
  | nil =>
   rw [Hc.eq_1] at h
   refine Fr (Vb S Dt rfl rfl rfl fun a S=>Ld ?_)
   replace S:=S.k4 89 90 91 92 rfl
   exact Tn (Fs (wp_cond_false ((S.tm rfl).trans (congrArg Value.bool (Hq hd5 hi5))) (wp_exit (Dj (Dj (Fj (Tn (⟨h,S.nf [] rfl trivial⟩))))))))
  | cons y5 ys5 =>
   rw [Hc.eq_2] at h
   refine Fr (Vb S Dt rfl rfl rfl fun a S=>Ld ?_)
   replace S:=S.k4 89 90 91 92 rfl
   refine Tn (Fs (wp_cond_true ((S.tm rfl).trans (congrArg Value.bool (Gb hd5 hi5))) (wp_skip (Tn (Fs (wp_block (Fs (Fg ?_))))))))
   obtain ⟨r5,hg3,hl4⟩:=Kd.at hr4 (Hz hd5 hi5)
   have hs4:=hl4
   obtain ⟨b10,o6,hm7,hr10⟩:=Eb (a:=a) (x:=.tmp 89) (y:=.tmp 91) (ty:=0) Ss hs1 hg3 rfl (S.tm rfl) (S.tm rfl)
   refine lv S (hr10 _) rfl ?_;clear S;intro a S
   clear hr10
   refine lv S (Gk isAgg29 (off:=o6) (o:=0) (S.tm rfl) (hm7.at (Oy S.emb0 S.emb)) rfl) rfl fun a S=>Va S rfl rfl fun a S=>Dz (Vk S rfl rfl fun a S=>Dl ?_)
   replace S:=S.k5 14 15 89 90 91 rfl
   obtain ⟨j8,hj8,h⟩:=Ec h
   refine Ds (fun a w'=>j8 = some r ∧ Sx w [] φ1 [] [(89,v1),(90,iV (r1.length : Int)),(91,iV (i5 : Int))] 122 a w') ?_ ?_
   ·refine wp_block (Fi (fun (m1 : Nat) a w'=>∃ x2 : Int,Io y5 j8 m1 x2 = some r ∧ Sx w [] φ1 [] [(14,r5.val),(15,iV x2),(89,v1),(90,iV (r1.length : Int)),(91,iV (i5 : Int))] 122 a w') id (((y5.length : Int) - 10).toNat + 2) ⟨10,h,S.nf [] rfl (subR rfl)⟩ ?_)
    clear S h;rintro m1 a w25 ⟨x2,h,S⟩
    cases m1 with
    | zero=>rw [Io.eq_1] at h;cases h
    | succ m1 =>
     rw [Io.eq_2] at h
     refine Fs (Fr (Vm S rfl rfl fun a S=>Vm S rfl rfl fun a S=>lv S (Ee Ja (S.tm rfl) (Ej hs4)) rfl fun a S=>Vb S Dt rfl rfl rfl fun a S=>Dl (Fc h (S.tm rfl) (fun hb7 h=>?_) (fun hb7 h=>?_))))
     ·refine wp_skip (Tn (Fs (wp_block (Fs (Fw [] ([]) Tryz.mixed S rfl (by kernel_rfl) ?_)))));clear S;intro w27 hk15 hsel S
      refine Kc [0,1,2,3,4,5,6,7,8,9,10,11,12,13,14,15,16,17,18,19] hsel (by kernel_rfl) rfl ?_
      clear hsel
      refine En S rfl (Rm (S.tm rfl)) rfl fun a S=>En S rfl (Rm (S.tm rfl)) rfl ?_;clear S;intro a S
      obtain ⟨hc2,h⟩:=Hl h
      obtain ⟨b11,o7,hm8,hr11⟩:=Eb (a:=a) (x:=.tmp 101) (y:=.tmp 102) (ty:=0) Ja hs4 (Db hc2).1 (Db hc2).2 (S.tm rfl) (S.tm rfl)
      refine En S rfl (hr11 _) rfl ?_;clear S;intro a S
      clear hr11
      refine En S rfl (Fk Jy (S.tm rfl)) rfl fun a S=>En S rfl (Gk isAgg3 (off:=o7) (o:=3) (S.tm rfl) (hm8.at (Oy S.emb0 S.emb)) rfl) rfl fun a S=>En S rfl (Ji (S.tm rfl) rfl) rfl fun a S=>En S rfl (Rm (S.tm rfl)) rfl ?_;clear S;intro a S
      obtain ⟨j9,hj9,h⟩:=Ec h
      refine Ts 13 (fun a w'=>∃ c3,j9 c3 = some r ∧ Keep [] w27 w' ∧ Sx w [] φ1 [] [(14,r5.val),(15,iV x2),(89,v1),(90,iV (r1.length : Int)),(91,iV (i5 : Int)),(120,bV c3)] 122 a w') ?_ ?_
      ·rcases Bool.eq_false_or_eq_true (decide (0 < ((nth y5 x2).Rank))) with hb8 | hb8
       ·replace h:=Om h hb8
        refine Ef S rfl rfl rfl rfl hb8 (Fa S (Rm (S.tm rfl)) rfl fun a S=>Ef S rfl rfl rfl rfl hb8 (Fa S (Rm (S.tm rfl)) rfl fun a S=>Ef S rfl rfl rfl rfl hb8 ?_))
        obtain ⟨hc3,h⟩:=Hl h
        obtain ⟨b12,o8,hm9,hr12⟩:=Eb (a:=a) (x:=.tmp 108) (y:=.tmp 109) (ty:=0) Ja hs4 (Db hc3).1 (Db hc3).2 (S.tm rfl) (S.tm rfl)
        refine Fa S (hr12 _) rfl ?_;clear S;intro a S
        clear hr12
        refine Ef S rfl rfl rfl rfl hb8 (Fa S (Fk Jy (S.tm rfl)) rfl fun a S=>Ef S rfl rfl rfl rfl hb8 (Fa S (Gk isAgg3 (off:=o8) (o:=3) (S.tm rfl) (hm9.at (Oy S.emb0 S.emb)) rfl) rfl fun a S=>Ef S rfl rfl rfl rfl hb8 (Fa S (Rm (S.tm rfl)) rfl fun a S=>Ef S rfl rfl rfl rfl hb8 (Fa S (Rm (S.tm rfl)) rfl fun a S=>Ef S rfl rfl rfl rfl hb8 (Fa S (Jb (S.tm rfl) rfl) rfl fun a S=>Ef S rfl rfl rfl rfl hb8 ?_)))))
        obtain ⟨hc4,h⟩:=Hl h
        obtain ⟨b13,o9,hm10,hr13⟩:=Eb (a:=a) (x:=.tmp 113) (y:=.tmp 115) (ty:=0) Ja hs4 (Db hc4).1 (Db hc4).2 (S.tm rfl) (S.tm rfl)
        refine Fa S (hr13 _) rfl ?_;clear S;intro a S
        clear hr13
        exact Ef S rfl rfl rfl rfl hb8 (Fa S (Fk Jy (S.tm rfl)) rfl fun a S=>Ef S rfl rfl rfl rfl hb8 (Fa S (Gk isAgg3 (off:=o9) (o:=3) (S.tm rfl) (hm10.at (Oy S.emb0 S.emb)) rfl) rfl fun a S=>Ef S rfl rfl rfl rfl hb8 (Fa S (Jz (S.tm rfl) (S.tm rfl)) rfl fun a S=>En S rfl (Hg hb8 (S.tm rfl) (S.tm rfl)) rfl fun a S=>Hk (⟨_,h,Keep.refl _ _,S.nf [] rfl (subR rfl)⟩))))
       ·replace h:=On h hb8
        iterate 12 (refine Nx S rfl rfl rfl rfl (Jt hb8) rfl ?_ rfl;clear S;intro a S)
        exact En S rfl (Hh true hb8 (S.tm rfl) rfl) rfl fun a S=>Hk (⟨_,h,Keep.refl _ _,S.nf [] rfl (subR rfl)⟩)
      clear S h;rintro a w28 ⟨c3,h,hk16,S⟩;rw [hj9] at h;clear hj9 j9
      refine Hk ?_
      replace S:=S.k6 14 15 89 90 91 120 rfl
      refine Tn (Fc h (S.tm rfl) (fun hb9 h=>?_) (fun hb9 h=>?_))
      ·refine Fr (Vk S rfl rfl fun a S=>Dl (wp_ret (Em (Cx (Cx (Em (Cx ?_)))))))
       refine Em (Cx (Cx (Em (Cx (Cx ?_)))))
       obtain rfl:=Option.some.inj h
       exact Dx S results78 rfl rfl
      ·exact wp_skip (Gx (Tn (Fg (Vm S rfl rfl fun a S=>Vq S Ek rfl rfl rfl fun a S=>Va S rfl rfl fun a S=>Dl (⟨m1,⟨W (x2 + 1),h,S.nf [] rfl ⟨rfl,rfl,rfl,rfl,rfl,trivial⟩⟩,Nat.lt_succ_self _⟩)))))
     ·exact wp_exit (Dj (Dj (Fj (Tn (⟨h,S.nf [] rfl (subR rfl)⟩)))))
   clear S h;rintro a w26 ⟨h,S⟩;rw [hj8] at h;clear hj8 j8
   exact Gx (Tn (Fg (Vq S Ek rfl rfl rfl fun a S=>Vm S rfl rfl fun a S=>Dl (⟨ys5,⟨i5 + 1,⟨_,(hd5).trans (List.append_cons _ _ _),by simp [hi5]⟩,h,S.nf [] rfl ⟨rfl,rfl,(congrArg (fun z=>some (Value.int .i64 z)) (Gc hd5 hi5 (Rx hs1 hr4))),trivial⟩⟩,Nat.lt_succ_self _⟩))))
 clear S h;rintro a w24 ⟨h,S⟩;rw [hj7] at h;clear hj7 j7
 refine Tn (Fr (Vk S rfl rfl fun a S=>Dl (wp_ret ?_)))
 obtain rfl:=Option.some.inj h
 exact Dx S results78 rfl rfl
set_option maxRecDepth 20000 in
theorem Th (w : World) (Ab : Value) (Ad : List An) (Ac : Slc (view w []) 5 Ab (Ad.map An.enc)) (r : Int) (h : Lt Ad = some r) :
    Calls prog 45 [Ab].toArray w (Ret w [] fun _ v _=>v = iV r):=by
 refine Fe func45 rfl ntmps45 rfl fun a S=>?_
 unfold Lt at h
 replace S:=S.k1 0 rfl
 refine Fr (Vk S rfl rfl fun a S=>Dl (Fs (Fr (Vm S rfl rfl fun a S=>lv S (Ee Ja (S.tm rfl) (Ej Ac)) rfl fun a S=>Vq S Ji rfl rfl rfl ?_))));clear S;intro a S
 refine Dl (Fc h (S.tm rfl) (fun hb1 h=>?_) (fun hb1 h=>?_))
 ·refine Fr (Vk S rfl rfl fun a S=>Dl (wp_ret (Cx ?_)))
  obtain rfl:=Option.some.inj h
  exact Dx S results45 rfl rfl
 ·refine wp_skip (Tn (Fs (Fr (Vm S rfl rfl fun a S=>lv S (Ee Ja (S.tm rfl) (Ej Ac)) rfl fun a S=>lv S (Rm rfl) rfl fun a S=>Dl ?_))))
  replace S:=S.k4 0 8 9 10 rfl
  obtain ⟨j1,hj1,h⟩:=Ec h
  refine Ds (fun a w'=>j1 = some r ∧ Sx w [] nov [] [(0,Ab)] 58 a w') ?_ ?_
  ·refine wp_block (Fi (fun (ys1 : List An) a w'=>∃ i1 : Nat,(∃ dn,Ad = dn ++ ys1 ∧ dn.length = i1) ∧ Gi Ad j1 ys1 i1 = some r ∧ Sx w [] nov [] [(0,Ab),(8,Ab),(9,iV (Ad.length : Int)),(10,iV (i1 : Int))] 58 a w') List.length Ad ⟨0,⟨[],rfl,rfl⟩,h,S.nf [] rfl (subR rfl)⟩ ?_)
   clear S h;rintro ys1 a w1 ⟨i1,⟨dn,hd1,hi1⟩,h,S⟩
   cases ys1 with
   | nil =>
    rw [Gi.eq_1] at h
    refine Fr (Vb S Dt rfl rfl rfl fun a S=>Ld ?_)
    replace S:=S.k5 0 8 9 10 11 rfl
    exact Tn (Fs (wp_cond_false ((S.tm rfl).trans (congrArg Value.bool (Hq hd1 hi1))) (wp_exit (Dj (Dj (Fj (Tn (⟨h,S.nf [] rfl ⟨rfl,trivial⟩⟩))))))))
   | cons y1 ys1 =>
    rw [Gi.eq_2] at h
    refine Fr (Vb S Dt rfl rfl rfl fun a S=>Ld ?_)
    replace S:=S.k5 0 8 9 10 11 rfl
    refine Tn (Fs (wp_cond_true ((S.tm rfl).trans (congrArg Value.bool (Gb hd1 hi1))) (wp_skip (Tn (Fs (wp_block (Fr (Vm S rfl rfl ?_))))))));clear S;intro a S
    obtain ⟨b1,o1,hm1,hr1⟩:=Eb (a:=a) (x:=.tmp 8) (y:=.tmp 10) (ty:=0) Ja Ac (Hz hd1 hi1) rfl (S.tm rfl) (S.tm rfl)
    refine lv S (hr1 _) rfl ?_;clear S;intro a S
    clear hr1
    refine lv S (Fp isAgg49 sizeOf49 (off:=o1) (o:=0) (part:=(An.enc y1)) rfl rfl (S.tm rfl) (hm1.at S.emb0)) rfl fun a S=>It S zeroValue49 (cs:=[sV Cy,sV Cy,sV Cy,iV 0,bV false]) rfl rfl ?_;clear S;intro a w3 b2 hz1 hk1 S
    refine Va S rfl rfl fun a S=>Gl S (S.tm rfl) (S.tm rfl) (i:=0) (off:=0) rfl sizeOf49 (vs:=(An.enc y1)) rfl rfl rfl rfl ?_;clear S;intro w4 hk2 S
    refine Dl (wp_block (Fr (Vf Ol S rfl rfl fun a S=>Vl isAgg9 0 S rfl rfl rfl rfl ?_)));clear S;intro a S
    obtain ⟨r1,hr2,h⟩:=Eg h
    refine Dc S (fun _=>Cw (vs:=[sV y1.Race]) ⟨(S.tm rfl),trivial⟩ call52) (Ht _ y1.Race _ hr2) rfl ?_;clear S;intro v1 a w5 hv1 hk3 hn1 S
    subst hv1
    refine Vu S Hp rfl rfl fun a S=>Vm S rfl rfl ?_;clear S;intro a S
    obtain ⟨j2,hj2,h⟩:=Ec h
    refine Hw 5 (fun a w'=>∃ c1,j2 c1 = some r ∧ Keep [] w5 w' ∧ Sx w [] nov [.blk b2 (An.enc y1) 49] [(0,Ab),(3,iV (i1 : Int)),(4,.pointer (some ⟨b2,0,none⟩)),(8,Ab),(9,iV (Ad.length : Int)),(10,iV (i1 : Int)),(25,bV c1)] 58 a w') ?_ ?_
    ·rcases Bool.eq_false_or_eq_true (!r1) with hb2 | hb2
     ·replace h:=Om h hb2
      iterate 4 (refine Gm S rfl rfl rfl (Md hb2) rfl ?_ rfl;clear S;intro a S)
      exact Vq S (Kt true hb2) rfl rfl rfl fun a S=>Dl (⟨_,h,Keep.refl _ _,S.nf [true] rfl (subR rfl)⟩)
     ·replace h:=On h hb2
      refine Cz S rfl rfl rfl hb2 (Vf Ri S rfl rfl fun a S=>Cz S rfl rfl rfl hb2 (Vl isAgg9 0 S rfl rfl rfl rfl fun a S=>Cz S rfl rfl rfl hb2 ?_))
      obtain ⟨r2,hr3,h⟩:=Eg h
      refine Dc S (fun _=>Cw (vs:=[sV y1.Who]) ⟨(S.tm rfl),trivial⟩ call52) (Ht _ y1.Who _ hr3) rfl ?_;clear S;intro v2 a w7 hv2 hk4 hn2 S
      subst hv2
      exact Cz S rfl rfl rfl hb2 (Vu S Hp rfl rfl fun a S=>lv S (Ku hb2 (S.tm rfl) (S.tm rfl)) rfl fun a S=>Dl (⟨_,h,hk4,S.nf [true] rfl (subR rfl)⟩))
    clear S h;rintro a w6 ⟨c1,h,hk5,S⟩;rw [hj2] at h;clear hj2 j2
    refine Vm S rfl rfl ?_;clear S;intro a S
    obtain ⟨j3,hj3,h⟩:=Ec h
    refine Hw 10 (fun a w'=>∃ c2,j3 c2 = some r ∧ Keep [] w6 w' ∧ Sx w [] nov [.blk b2 (An.enc y1) 49] [(0,Ab),(3,iV (i1 : Int)),(4,.pointer (some ⟨b2,0,none⟩)),(8,Ab),(9,iV (Ad.length : Int)),(10,iV (i1 : Int)),(36,bV c2)] 58 a w') ?_ ?_
    ·rcases Bool.eq_false_or_eq_true c1 with hb3 | hb3
     ·replace h:=Om h hb3
      iterate 4 (refine Gm S rfl rfl rfl (Md hb3) rfl ?_ rfl;clear S;intro a S)
      iterate 4 (refine Ya S rfl rfl rfl rfl ?_;clear S;intro a S)
      exact Gm S rfl rfl rfl (Md hb3) rfl (fun a S=>Vq S (Kt true hb3) rfl rfl rfl fun a S=>Dl (⟨_,h,Keep.refl _ _,S.nf [true] rfl (subR rfl)⟩)) rfl
     ·replace h:=On h hb3
      refine Cz S rfl rfl rfl hb3 (Vf Qp S rfl rfl fun a S=>Cz S rfl rfl rfl hb3 (Vl isAgg9 0 S rfl rfl rfl rfl fun a S=>Cz S rfl rfl rfl hb3 (Vq S Xz rfl rfl rfl fun a S=>Cz S rfl rfl rfl hb3 (Vm S rfl rfl ?_))));clear S;intro a S
      obtain ⟨j4,hj4,h⟩:=Ec h
      refine Hw 5 (fun a w'=>∃ c3,j4 c3 = some r ∧ Keep [] w6 w' ∧ Sx w [] nov [.blk b2 (An.enc y1) 49] [(0,Ab),(3,iV (i1 : Int)),(4,.pointer (some ⟨b2,0,none⟩)),(8,Ab),(9,iV (Ad.length : Int)),(10,iV (i1 : Int)),(26,bV c1),(27,.pointer (some ⟨b2,2,none⟩)),(28,sV y1.Club),(29,bV (!decide (y1.Club = Cy))),(30,bV (!decide (y1.Club = Cy))),(35,bV c3)] 58 a w') ?_ ?_
      ·rcases Bool.eq_false_or_eq_true (!decide (y1.Club = Cy)) with hb4 | hb4
       ·replace h:=Om h hb4
        refine Cz S rfl rfl rfl hb4 (Vf Qp S rfl rfl fun a S=>Cz S rfl rfl rfl hb4 (Vl isAgg9 0 S rfl rfl rfl rfl fun a S=>Cz S rfl rfl rfl hb4 ?_))
        obtain ⟨r3,hr4,h⟩:=Eg h
        refine Dc S (fun _=>Cw (vs:=[sV y1.Club]) ⟨(S.tm rfl),trivial⟩ call52) (Ht _ y1.Club _ hr4) rfl ?_;clear S;intro v3 a w10 hv3 hk6 hn3 S
        subst hv3
        exact Cz S rfl rfl rfl hb4 (Vu S Hp rfl rfl fun a S=>Cz S rfl rfl rfl hb3 (lv S (Hg hb4 (S.tm rfl) (S.tm rfl)) rfl fun a S=>Dl (⟨_,h,hk6,S.nf [true] rfl (subR rfl)⟩)))
       ·replace h:=On h hb4
        iterate 4 (refine Gm S rfl rfl rfl (Jt hb4) rfl ?_ rfl;clear S;intro a S)
        exact Cz S rfl rfl rfl hb3 (Vq S (Hh true hb4) rfl rfl rfl fun a S=>Dl (⟨_,h,Keep.refl _ _,S.nf [true] rfl (subR rfl)⟩))
      clear S h;rintro a w9 ⟨c3,h,hk7,S⟩;rw [hj4] at h;clear hj4 j4
      exact lv S (Ku hb3 (S.tm rfl) (S.tm rfl)) rfl fun a S=>Dl (⟨_,h,hk7,S.nf [true] rfl (subR rfl)⟩)
    clear S h;rintro a w8 ⟨c2,h,hk8,S⟩;rw [hj3] at h;clear hj3 j3
    refine Va S rfl rfl fun a S=>Dl (Fc h (S.tm rfl) (fun hb5 h=>?_) (fun hb5 h=>?_))
    ·refine Fr (Vk S rfl rfl fun a S=>Dl (wp_ret (Em (Em (Cx (Cx (Em ?_)))))))
     refine Cx (Cx ?_)
     obtain rfl:=Option.some.inj h
     exact Dx S results45 rfl rfl
    ·refine Fr (Vf Jy S rfl rfl fun a S=>Vl isAgg3 0 S rfl rfl rfl rfl fun a S=>Dc S (fun _=>Cw (vs:=[iV y1.Rank,iV 0,iV 300]) ⟨(S.tm rfl),rfl,rfl,trivial⟩ call28) (El _ y1.Rank 0 300 _ rfl) rfl ?_);clear S;intro v4 a w11 hv4 hk9 hn4 S
     subst hv4
     refine Vu S Hp rfl rfl fun a S=>Va S rfl rfl fun a S=>Dl (Fc h (S.tm rfl) (fun hb6 h=>?_) (fun hb6 h=>?_))
     ·refine Fr (Vk S rfl rfl fun a S=>Dl (wp_ret (Em (Em (Cx (Cx (Em ?_)))))))
      refine Cx (Cx ?_)
      obtain rfl:=Option.some.inj h
      exact Dx S results45 rfl rfl
     ·refine Fs ?_
      obtain ⟨j5,hj5,h⟩:=Ec h
      refine Ds (fun a w'=>∃ x1 : Bool,j5 x1 = some r ∧ Sx w [] nov [] [(0,Ab),(8,Ab),(9,iV (Ad.length : Int)),(10,iV (i1 : Int)),(42,bV x1)] 58 a w') ?_ ?_
      ·rcases Bool.eq_false_or_eq_true (decide (0 < (i1 : Int))) with hb7 | hb7
       ·replace h:=Om h hb7
        obtain ⟨hc1,h⟩:=Hl h
        refine Fw [] ([]) Tryz.mixed S rfl (by kernel_rfl) ?_;clear S;intro w14 hk11 hsel S
        refine Dk 0 S hsel rfl rfl rfl (by kernel_rfl) (by kernel_rfl) rfl (fun _ hw=>(Rm (S.tm rfl))) fun a S=>Dk 1 S hsel rfl rfl rfl (by kernel_rfl) (by kernel_rfl) rfl (fun _ hw=>(Ji (S.tm rfl) rfl)) fun a S=>Dk 2 S hsel rfl rfl rfl (by kernel_rfl) (by kernel_rfl) rfl (fun _ hw=>(Rm (S.tm rfl))) fun a S=>Dy 3 S hsel rfl rfl rfl rfl hb7 rfl rfl (by kernel_rfl) (by kernel_rfl) rfl (fun _ hw=>(Rm (S.tm rfl))) fun a S=>Dy 4 S hsel rfl rfl rfl rfl hb7 rfl rfl (by kernel_rfl) (by kernel_rfl) rfl (fun _ hw=>(Rm (S.tm rfl))) fun a S=>Dy 5 S hsel rfl rfl rfl rfl hb7 rfl rfl (by kernel_rfl) (by kernel_rfl) rfl (fun _ hw=>(Jb (S.tm rfl) rfl)) ?_;clear S;intro a S
        obtain ⟨b4,o3,hm3,hr6⟩:=Eb (a:=a) (x:=.tmp 46) (y:=.tmp 48) (ty:=0) Ja (Ac.mono (S.le_arg Eo)) (Db hc1).1 (Db hc1).2 (S.tm rfl) (S.tm rfl)
        refine Dy 6 S hsel rfl rfl rfl rfl hb7 rfl rfl (by kernel_rfl) (by kernel_rfl) rfl (fun _ hw=>hr6 _) ?_;clear S;intro a S
        clear hr6
        refine Dy 7 S hsel rfl rfl rfl rfl hb7 rfl rfl (by kernel_rfl) (by kernel_rfl) rfl (fun _ hw=>(Fp isAgg49 sizeOf49 (off:=o3) (o:=0) (part:=(An.enc (nth Ad (W ((i1 : Int) - 1))))) rfl rfl (S.tm rfl) (hm3.kept hw))) fun a S=>Dy 8 S hsel rfl rfl rfl rfl hb7 rfl rfl (by kernel_rfl) (by kernel_rfl) rfl (fun _ hw=>(Fp isAgg49 sizeOf49 (off:=0) (o:=0) (part:=(An.enc y1)) rfl rfl (S.tm rfl) ((S.blk_mem (i:=0) (cells:=(An.enc y1)) (b:=b2) (T:=49) rfl (Gn (e':=.blk b2 (An.enc y1) 49))).kept hw))) fun a S=>Ex 9 (by kernel_rfl) rfl (Cz S rfl rfl rfl hb7 (Dc S (fun _=>Cw (vs:=[.agg (An.enc (nth Ad (W ((i1 : Int) - 1)))).toArray,.agg (An.enc y1).toArray]) ⟨(S.tm rfl),(S.tm rfl),trivial⟩ call77) (Wj _ (nth Ad (W ((i1 : Int) - 1))) y1 _ rfl) rfl ?_));clear S;intro v6 a w15 hv6 hk12 hn6 S
        subst hv6
        refine Ld (Fx hk12 (Kc [10,11,12] hsel (by kernel_rfl) rfl ?_))
        clear hsel
        refine Ef S rfl rfl rfl rfl hb7 (Fa S (Nr (S.tm rfl) rfl) rfl fun a S=>En S rfl (Ot hb7 (S.tm rfl) (S.tm rfl)) rfl fun a S=>En S rfl (Ra (S.tm rfl)) rfl fun a S=>Hk ?_)
        replace S:=S.n0.k13 0 8 9 10 42 46 47 48 49 50 51 52 53 rfl
        exact Tn (⟨decide (0 ≤ (Mz (nth Ad (W ((i1 : Int) - 1))) y1)),h,S.nf [] rfl (subR rfl)⟩)
       ·replace h:=On h hb7
        refine Fw [] ([]) Tryz.mixed S rfl (by kernel_rfl) ?_;clear S;intro w16 hk13 hsel S
        refine Kc [0,1,2,3,4,5,6,7,8,9,10,11,12] hsel (by kernel_rfl) rfl ?_
        clear hsel
        refine En S rfl (Rm (S.tm rfl)) rfl fun a S=>En S rfl (Ji (S.tm rfl) rfl) rfl fun a S=>En S rfl (Rm (S.tm rfl)) rfl ?_;clear S;intro a S
        iterate 8 (refine Nx S rfl rfl rfl rfl (Jt hb7) rfl ?_ rfl;clear S;intro a S)
        refine En S rfl (Ou hb7 (S.tm rfl) rfl) rfl fun a S=>En S rfl (Ra (S.tm rfl)) rfl fun a S=>Hk ?_
        replace S:=S.n0.k5 0 8 9 10 42 rfl
        exact Tn (⟨false,h,S.nf [] rfl (subR rfl)⟩)
      clear S h;rintro a w12 ⟨x1,h,S⟩;rw [hj5] at h;clear hj5 j5
      refine Tn (Fc h (S.tm rfl) (fun hb8 h=>?_) (fun hb8 h=>?_))
      ·refine Fr (Vk S rfl rfl fun a S=>Dl (wp_ret (Em (Em (Cx (Cx (Em ?_)))))))
       refine Cx (Cx ?_)
       obtain rfl:=Option.some.inj h
       exact Dx S results45 rfl rfl
      ·exact wp_skip (Gx (Gx (Tn (Fg (Vq S Ek rfl rfl rfl fun a S=>Vm S rfl rfl fun a S=>Dl (⟨ys1,⟨i1 + 1,⟨_,(hd1).trans (List.append_cons _ _ _),by simp [hi1]⟩,h,S.nf [] rfl ⟨rfl,rfl,rfl,(congrArg (fun z=>some (Value.int .i64 z)) (Gc hd1 hi1 (Jk Ac))),trivial⟩⟩,Nat.lt_succ_self _⟩))))))
  clear S h;rintro a w2 ⟨h,S⟩;rw [hj1] at h;clear hj1 j1
  refine Tn (Fr (Vm S rfl rfl ?_));clear S;intro a S
  obtain ⟨r4,hr7,h⟩:=Eg h
  refine Dc S (fun _=>Cw (vs:=[Ab]) ⟨(S.tm rfl),trivial⟩ call78) (Vn _ Ab Ad (Ac.mono (S.le_arg Eo)) _ hr7) rfl ?_;clear S;intro v7 a w17 hv7 hk14 hn7 S
  subst hv7
  refine Va S rfl rfl fun a S=>Dl (wp_ret ?_)
  obtain rfl:=Option.some.inj h
  exact Dx S results45 rfl rfl
theorem Qh (w : World) (Ae : Hx) (Bd : R27) (Bi : Qe (view w []) Ae Bd) (Ab : Value) (Ad : List An) (Ac : Slc (view w []) 5 Ab (Ad.map An.enc)) (r : Int) (h : Lj Ae Ad = some r) :
    Calls prog 22 [.agg (R27.enc Bd).toArray,Ab].toArray w (Ret w [] fun _ v _=>v = iV r):=by
 obtain ⟨u1,rfl,hs1⟩:=Bi
 refine Fe func22 rfl ntmps22 rfl fun a S=>?_
 unfold Lj at h
 replace S:=S.k2 0 1 rfl
 refine Fr (Nj S (S.tm rfl) (cs:=[u1.val,iV Ae.Relay,iV Ae.Most]) rfl rfl ?_);clear S;intro a w1 b1 hz1 hk1 S
 refine Vk S rfl rfl fun a S=>Dl (Fs (Fr (lv S (Fp isAgg27 sizeOf27 (off:=0) (o:=0) (part:=[u1.val,iV Ae.Relay,iV Ae.Most]) rfl rfl (S.tm rfl) (S.cellsAt (i:=0) rfl)) rfl ?_)));clear S;intro a S
 obtain ⟨r1,hr1,h⟩:=Eg h
 refine Dc S (fun _=>Cw (vs:=[.agg (R27.enc (R27.mk u1 Ae.Relay Ae.Most)).toArray]) ⟨(S.tm rfl),trivial⟩ call44) (Ty _ Ae (R27.mk u1 Ae.Relay Ae.Most) ⟨u1,rfl,(hs1.mono (S.le_arg Eo))⟩ _ hr1) rfl ?_;clear S;intro v1 a w2 hv1 hk2 hn1 S
 subst hv1
 refine Va S rfl rfl fun a S=>Dz (Vm S rfl rfl fun a S=>Vq S Lo rfl rfl rfl fun a S=>Dl (Fc h (S.tm rfl) (fun hb1 h=>?_) (fun hb1 h=>?_)))
 ·refine Fr (Vm S rfl rfl fun a S=>Va S rfl rfl fun a S=>Dl (wp_ret (Cx ?_)))
  obtain rfl:=Option.some.inj h
  exact Dx S results22 rfl rfl
 ·refine wp_skip (Tn (Fr (Vm S rfl rfl ?_)));clear S;intro a S
  obtain ⟨r2,hr2,h⟩:=Eg h
  refine Dc S (fun _=>Cw (vs:=[Ab]) ⟨(S.tm rfl),trivial⟩ call45) (Th _ Ab Ad (Ac.mono (S.le_arg Eo)) _ hr2) rfl ?_;clear S;intro v2 a w3 hv2 hk3 hn2 S
  subst hv2
  refine Va S rfl rfl fun a S=>Dl (wp_ret ?_)
  obtain rfl:=Option.some.inj h
  exact Dx S results22 rfl rfl
theorem Tz (w : World) (r : Cu) (h : Gd = r) :
    Calls prog 50 [].toArray w (Ret w [] fun _ v _=>v = .agg (Cu.enc r).toArray):=by
 refine Fe func50 rfl ntmps50 rfl fun a S=>?_
 unfold Gd at h
 replace S:=S.k0
 refine Fr (It S zeroValue39 (cs:=[iV 0,iV 0]) rfl rfl ?_);clear S;intro a w1 b1 hz1 hk1 S
 refine Dz (lv S (Lp IF (pv:=[(0,iV 0),(1,iV 1)]) ⟨rfl,rfl,rfl,rfl,trivial⟩ (cs:=[iV 0,iV 1]) (by kernel_rfl)) rfl fun a S=>Gl S (S.tm rfl) (S.tm rfl) (i:=0) (off:=0) rfl sizeOf39 (vs:=[iV 0,iV 1]) rfl rfl rfl rfl ?_);clear S;intro w2 hk2 S
 refine Dl (wp_ret ?_)
 subst h
 exact BG S (rs:=[.cell 0 39]) (vs:=[.agg #[iV 0,iV 1]]) results50 ⟨(Wc (off:=0) S rfl isAgg39 sizeOf39 rfl (S.cellsAt (i:=0) rfl)),trivial⟩ rfl rfl
theorem Rj (w : World) (Ag : Int) (Ah : Int) (r : Cu) (h : Kp Ag Ah = some r) :
    Calls prog 79 [iV Ag,iV Ah].toArray w (Ret w [] fun _ v _=>v = .agg (Cu.enc r).toArray):=by
 refine Fe func79 rfl ntmps79 rfl fun a S=>?_
 unfold Kp at h
 replace S:=S.k2 0 1 rfl
 refine Fr (It S zeroValue39 (cs:=[iV 0,iV 0]) rfl rfl ?_);clear S;intro a w1 b1 hz1 hk1 S
 refine Dz (Vm S rfl rfl fun a S=>Vm S rfl rfl fun a S=>Va S rfl rfl fun a S=>Va S rfl rfl fun a S=>Dl (Fs ?_))
 replace S:=(S.nl [.blk b1 [iV 0,iV 0] 39] [true] rfl).k5 0 1 4 5 6 rfl
 obtain ⟨j1,hj1,h⟩:=Ec h
 refine Ds (fun a w'=>∃ x2 : Int,j1 x2 = some r ∧ Sx w [] nov [.blk b1 [iV 0,iV 0] 39] [(0,iV Ag),(1,iV Ah),(4,.pointer (some ⟨b1,0,none⟩)),(6,iV x2)] 22 a w') ?_ ?_
 ·refine wp_block (Fi (fun (m1 : Nat) a w'=>∃ x1 : Int,∃ x2 : Int,Ii j1 m1 x1 x2 = some r ∧ Sx w [] nov [.blk b1 [iV 0,iV 0] 39] [(0,iV Ag),(1,iV Ah),(4,.pointer (some ⟨b1,0,none⟩)),(5,iV x1),(6,iV x2)] 22 a w') id ((Ag - 0).toNat + 2) ⟨Ag,Ah,h,S.nf [true] rfl (subR rfl)⟩ ?_)
  clear S h;rintro m1 a w2 ⟨x1,x2,h,S⟩
  cases m1 with
  | zero=>rw [Ii.eq_1] at h;cases h
  | succ m1 =>
   rw [Ii.eq_2] at h
   refine Fs (Fr (Vm S rfl rfl fun a S=>Vq S Ji rfl rfl rfl fun a S=>Dl (Fc h (S.tm rfl) (fun hb1 h=>?_) (fun hb1 h=>?_))))
   ·refine wp_skip (Tn (wp_block (Fg (Vm S rfl rfl fun a S=>Vm S rfl rfl ?_))));clear S;intro a S
    obtain ⟨hc1,h⟩:=Hl h
    exact lv S (Tj (S.tm rfl) (S.tm rfl) (Ro hc1)) rfl fun a S=>Vm S rfl rfl fun a S=>Va S rfl rfl fun a S=>Va S rfl rfl fun a S=>Ld (Gx (Tn (⟨m1,⟨Int.tmod x2 x1,x1,h,S.nf [true] rfl ⟨rfl,rfl,rfl,rfl,rfl,trivial⟩⟩,Nat.lt_succ_self _⟩)))
   ·exact wp_exit (Dj (Dj (Fj (Tn (⟨x2,h,S.nf [true] rfl (subR rfl)⟩)))))
 clear S h;rintro a w3 ⟨x2,h,S⟩;rw [hj1] at h;clear hj1 j1
 refine Tn (Fs ?_)
 obtain ⟨hc2,h⟩:=Hl h
 obtain ⟨hc3,h⟩:=Hl h
 refine Fw [] ([b1]) Tryz.mixed S rfl (by kernel_rfl) ?_;clear S;intro w5 hk3 hsel S
 refine Dk 0 S hsel rfl rfl rfl (by kernel_rfl) (by kernel_rfl) rfl (fun _ hw=>(Rm (S.tm rfl))) fun a S=>Dk 1 S hsel rfl rfl rfl (by kernel_rfl) (by kernel_rfl) rfl (fun _ hw=>(Rm (S.tm rfl))) fun a S=>Dk 2 S hsel rfl rfl rfl (by kernel_rfl) (by kernel_rfl) rfl (fun _ hw=>(AV (S.tm rfl) (S.tm rfl) (Ro hc2))) fun a S=>Dk 3 S hsel rfl rfl rfl (by kernel_rfl) (by kernel_rfl) rfl (fun _ hw=>(Rm (S.tm rfl))) fun a S=>Dk 4 S hsel rfl rfl rfl (by kernel_rfl) (by kernel_rfl) rfl (fun _ hw=>(Rm (S.tm rfl))) fun a S=>Dk 5 S hsel rfl rfl rfl (by kernel_rfl) (by kernel_rfl) rfl (fun _ hw=>(AV (S.tm rfl) (S.tm rfl) (Ro hc3))) fun a S=>Dk 6 S hsel rfl rfl rfl (by kernel_rfl) (by kernel_rfl) rfl (fun _ hw=>(Lp IF (pv:=[(0,iV (W (Int.tdiv Ag x2))),(1,iV (W (Int.tdiv Ah x2)))]) ⟨rfl,(S.tm rfl),rfl,(S.tm rfl),trivial⟩ (cs:=[iV (W (Int.tdiv Ag x2)),iV (W (Int.tdiv Ah x2))]) (by kernel_rfl))) fun a S=>Ex 7 (by kernel_rfl) rfl (Gl S (S.tm rfl) (S.tm rfl) (i:=0) (off:=0) rfl sizeOf39 (vs:=[iV (W (Int.tdiv Ag x2)),iV (W (Int.tdiv Ah x2))]) rfl rfl rfl rfl ?_);clear S;intro w6 hk4 S
 refine Ld (Fx hk4 (Tl (by kernel_rfl) ?_))
 clear hsel
 replace S:=(S.nl [.blk b1 [iV (W (Int.tdiv Ag x2)),iV (W (Int.tdiv Ah x2))] 39] [true] rfl).k1 4 rfl
 refine Tn (wp_ret ?_)
 obtain rfl:=Option.some.inj h
 exact BG S (rs:=[.cell 4 39]) (vs:=[.agg #[iV (W (Int.tdiv Ag x2)),iV (W (Int.tdiv Ah x2))]]) results79 ⟨(Wc (off:=0) S rfl isAgg39 sizeOf39 rfl (S.cellsAt (i:=0) rfl)),trivial⟩ rfl rfl
set_option maxRecDepth 20000 in
theorem Yx (w : World) (Ae : Hx) (Bd : R27) (Bi : Qe (view w []) Ae Bd) (Ab : Value) (Ad : List An) (Ac : Slc (view w []) 5 Ab (Ad.map An.enc)) (r : (List Cs)) (h : Pz Ae Ad = some r) :
    Calls prog 47 [.agg (R27.enc Bd).toArray,Ab].toArray w (Ret w [] fun τ v _=>Pu τ 66 7 v r.length (r.flatMap Cs.enc)):=by
 obtain ⟨u1,rfl,hs1⟩:=Bi
 refine Fe func47 rfl ntmps47 rfl fun a S=>?_
 unfold Pz at h
 replace S:=S.k2 0 1 rfl
 refine Fr (Nj S (S.tm rfl) (cs:=[u1.val,iV Ae.Relay,iV Ae.Most]) rfl rfl ?_);clear S;intro a w1 b1 hz1 hk1 S
 refine Vk S rfl rfl fun a S=>Dz (Vk S rfl rfl ?_);clear S;intro a S
 replace S:=S.nil 66 7
 refine Dz (Vk S rfl rfl ?_);clear S;intro a S
 replace S:=S.nil 3 1
 refine Dz (Pl (κ:=ByteArray) (ν:=Int) S rfl Value.string (Value.int .i64) ?_);clear S;intro a w2 b2 hz2 hk2 S
 refine Va S rfl rfl fun a S=>Dl (Fs (Fr (Vm S rfl rfl fun a S=>lv S (Ee Ja (S.tm rfl) (Ej Ac)) rfl fun a S=>lv S (Rm rfl) rfl fun a S=>Dl ?_)))
 replace S:=(S.nl [.map b2 (Eh Value.string (Value.int .i64) ([] : List (ByteArray × Int))) ([] : List (ByteArray × Int)).length,.own (.slice none 0 0) 3 1 ([] : List Int).length (([] : List Int).flatMap eInt),.own (.slice none 0 0) 66 7 ([] : List Cs).length (([] : List Cs).flatMap Cs.enc),.blk b1 [u1.val,iV Ae.Relay,iV Ae.Most] 27] [true,true,true,true] rfl).k8 1 2 5 6 7 16 17 18 rfl
 obtain ⟨j1,hj1,h⟩:=Ec h
 refine Ds (fun a w'=>∃ x1 : List (ByteArray × Int),∃ x2 : List Int,∃ x3 : List Cs,∃ v1 : Value,∃ v2 : Value,j1 x1 x2 x3 = some r ∧ Sx w [] nov [.map b2 (Eh Value.string (Value.int .i64) x1) x1.length,.own v1 3 1 x2.length (x2.flatMap eInt),.own v2 66 7 x3.length (x3.flatMap Cs.enc),.blk b1 [u1.val,iV Ae.Relay,iV Ae.Most] 27] [(1,Ab),(2,.pointer (some ⟨b1,0,none⟩)),(5,v2),(6,v1)] 132 a w') ?_ ?_
 ·refine wp_block (Fi (fun (ys1 : List An) a w'=>∃ i1 : Nat,∃ x1 : List (ByteArray × Int),∃ x2 : List Int,∃ x3 : List Cs,∃ v1 : Value,∃ v2 : Value,(∃ dn,Ad = dn ++ ys1 ∧ dn.length = i1) ∧ Jc Ae j1 ys1 i1 x1 x2 x3 = some r ∧ Sx w [] nov [.map b2 (Eh Value.string (Value.int .i64) x1) x1.length,.own v1 3 1 x2.length (x2.flatMap eInt),.own v2 66 7 x3.length (x3.flatMap Cs.enc),.blk b1 [u1.val,iV Ae.Relay,iV Ae.Most] 27] [(1,Ab),(2,.pointer (some ⟨b1,0,none⟩)),(5,v2),(6,v1),(7,.map (some b2)),(16,Ab),(17,iV (Ad.length : Int)),(18,iV (i1 : Int))] 132 a w') List.length Ad ⟨0,([] : List (ByteArray × Int)),([] : List Int),([] : List Cs),(.slice none 0 0),(.slice none 0 0),⟨[],rfl,rfl⟩,h,S.nf [true,true,true,true] rfl (subR rfl)⟩ ?_)
  clear S h;rintro ys1 a w3 ⟨i1,x1,x2,x3,v1,v2,⟨dn,hd1,hi1⟩,h,S⟩
  cases ys1 with
  | nil =>
   rw [Jc.eq_1] at h
   refine Fr (Vb S Dt rfl rfl rfl fun a S=>Ld ?_)
   replace S:=S.k9 1 2 5 6 7 16 17 18 19 rfl
   exact Tn (Fs (wp_cond_false ((S.tm rfl).trans (congrArg Value.bool (Hq hd1 hi1))) (wp_exit (Dj (Dj (Fj (Tn (⟨x1,x2,x3,v1,v2,h,S.nf [true,true,true,true] rfl (subR rfl)⟩))))))))
  | cons y1 ys1 =>
   rw [Jc.eq_2] at h
   refine Fr (Vb S Dt rfl rfl rfl fun a S=>Ld ?_)
   replace S:=S.k9 1 2 5 6 7 16 17 18 19 rfl
   refine Tn (Fs (wp_cond_true ((S.tm rfl).trans (congrArg Value.bool (Gb hd1 hi1))) (wp_skip (Tn (Fs ?_)))))
   obtain ⟨j2,hj2,h⟩:=Ec h
   refine Ds (fun a w'=>∃ x4 : List (ByteArray × Int),∃ x5 : List Int,∃ x6 : List Cs,∃ v3 : Value,∃ v4 : Value,j2 x4 x5 x6 = some r ∧ Sx w [] nov [.map b2 (Eh Value.string (Value.int .i64) x4) x4.length,.own v3 3 1 x5.length (x5.flatMap eInt),.own v4 66 7 x6.length (x6.flatMap Cs.enc),.blk b1 [u1.val,iV Ae.Relay,iV Ae.Most] 27] [(1,Ab),(2,.pointer (some ⟨b1,0,none⟩)),(5,v4),(6,v3),(7,.map (some b2)),(16,Ab),(17,iV (Ad.length : Int)),(18,iV (i1 : Int))] 132 a w') ?_ ?_
   ·refine wp_block (Fs (Fg ?_))
    obtain ⟨b3,o1,hm1,hr1⟩:=Eb (a:=a) (x:=.tmp 16) (y:=.tmp 18) (ty:=0) Ja Ac (Hz hd1 hi1) rfl (S.tm rfl) (S.tm rfl)
    refine lv S (hr1 _) rfl ?_;clear S;intro a S
    clear hr1
    refine lv S (Fp isAgg49 sizeOf49 (off:=o1) (o:=0) (part:=(An.enc y1)) rfl rfl (S.tm rfl) (hm1.at S.emb0)) rfl fun a S=>It S zeroValue49 (cs:=[sV Cy,sV Cy,sV Cy,iV 0,bV false]) rfl rfl ?_;clear S;intro a w6 b4 hz3 hk3 S
    refine Gl S (S.tm rfl) (S.tm rfl) (i:=0) (off:=0) rfl sizeOf49 (vs:=(An.enc y1)) rfl rfl rfl rfl ?_;clear S;intro w7 hk4 S
    refine Dl (Fs (Fr (Vf Jy S rfl rfl fun a S=>Vl isAgg3 0 S rfl rfl rfl rfl fun a S=>Vq S Jz rfl rfl rfl fun a S=>Vm S rfl rfl fun a S=>Hw 4 (fun a w'=>Keep [] w7 w' ∧ Sx w [] nov [.blk b4 (An.enc y1) 49,.map b2 (Eh Value.string (Value.int .i64) x1) x1.length,.own v1 3 1 x2.length (x2.flatMap eInt),.own v2 66 7 x3.length (x3.flatMap Cs.enc),.blk b1 [u1.val,iV Ae.Relay,iV Ae.Most] 27] [(1,Ab),(2,.pointer (some ⟨b1,0,none⟩)),(5,v2),(6,v1),(7,.map (some b2)),(9,.pointer (some ⟨b4,0,none⟩)),(16,Ab),(17,iV (Ad.length : Int)),(18,iV (i1 : Int)),(29,bV ((decide (y1.Rank = 0)) || (decide (y1.Club = Cy))))] 132 a w') ?_ ?_)))
    ·rcases Bool.eq_false_or_eq_true (decide (y1.Rank = 0)) with hb1 | hb1
     ·iterate 3 (refine Gm S rfl rfl rfl (Md hb1) rfl ?_ rfl;clear S;intro a S)
      exact lv S (Kt (decide (y1.Club = Cy)) hb1 (S.tm rfl) rfl) rfl fun a S=>Dl (⟨Keep.refl _ _,S.nf [true,true,true,true,true] rfl (subR rfl)⟩)
     ·exact Cz S rfl rfl rfl hb1 (Vf Qp S rfl rfl fun a S=>Cz S rfl rfl rfl hb1 (Vl isAgg9 0 S rfl rfl rfl rfl fun a S=>Cz S rfl rfl rfl hb1 (Vq S Uk rfl rfl rfl fun a S=>lv S (Ku hb1 (S.tm rfl) (S.tm rfl)) rfl fun a S=>Dl (⟨Keep.refl _ _,S.nf [true,true,true,true,true] rfl (subR rfl)⟩))))
    clear S;rintro a w8 ⟨hk5,S⟩
    refine Dl (Fc h (S.tm rfl) (fun hb2 h=>?_) (fun hb2 h=>?_))
    ·exact wp_exit (Dj (Fj (Tn (⟨x1,x2,x3,v1,v2,h,S.nf [false,true,true,true,true] rfl (subR rfl)⟩))))
    ·refine wp_skip (Tn (Fs (Fr (Vm S rfl rfl fun a S=>Vf Qp S rfl rfl fun a S=>Vl isAgg9 0 S rfl rfl rfl rfl fun a S=>lv S (Pm (kv:=Value.string) (vv:=(Value.int .i64)) (m:=x1) (key:=y1.Club) (z:=0) (S.map_at (i:=1) rfl) underlying135 (Nk underlying9) zeroValue3 (S.tm rfl) (S.tm rfl)) rfl fun a S=>Vq S Ek rfl rfl rfl fun a S=>Mg (kv:=Value.string) (vv:=(Value.int .i64)) (m:=x1) (key:=y1.Club) (val:=W ((Ff x1 y1.Club 0) + 1)) S (i:=1) rfl underlying135 (Nk underlying9) (S.tm rfl) (S.tm rfl) (S.tm rfl) ?_))));clear S;intro w9 hk6 S
     refine Ld ?_
     replace S:=(S.nl [.blk b4 (An.enc y1) 49,.map b2 (Eh Value.string (Value.int .i64) (Es x1 y1.Club (W ((Ff x1 y1.Club 0) + 1)))) (Es x1 y1.Club (W ((Ff x1 y1.Club 0) + 1))).length,.own v1 3 1 x2.length (x2.flatMap eInt),.own v2 66 7 x3.length (x3.flatMap Cs.enc),.blk b1 [u1.val,iV Ae.Relay,iV Ae.Most] 27] [true,true,true,true,true] rfl).k9 1 2 5 6 7 9 16 17 18 rfl
     refine Tn (Fr (Vf BM S rfl rfl fun a S=>Vl isAgg3 4 S rfl rfl rfl rfl fun a S=>Vq S Jz rfl rfl rfl fun a S=>Vm S rfl rfl fun a S=>Hw 8 (fun a w'=>Keep [] w9 w' ∧ Sx w [] nov [.blk b4 (An.enc y1) 49,.map b2 (Eh Value.string (Value.int .i64) (Es x1 y1.Club (W ((Ff x1 y1.Club 0) + 1)))) (Es x1 y1.Club (W ((Ff x1 y1.Club 0) + 1))).length,.own v1 3 1 x2.length (x2.flatMap eInt),.own v2 66 7 x3.length (x3.flatMap Cs.enc),.blk b1 [u1.val,iV Ae.Relay,iV Ae.Most] 27] [(1,Ab),(2,.pointer (some ⟨b1,0,none⟩)),(5,v2),(6,v1),(7,.map (some b2)),(9,.pointer (some ⟨b4,0,none⟩)),(16,Ab),(17,iV (Ad.length : Int)),(18,iV (i1 : Int)),(46,bV ((decide (Ae.Most = 0)) || (decide ((Ff (Es x1 y1.Club (W ((Ff x1 y1.Club 0) + 1))) y1.Club 0) ≤ Ae.Most))))] 132 a w') ?_ ?_))
     ·rcases Bool.eq_false_or_eq_true (decide (Ae.Most = 0)) with hb3 | hb3
      ·iterate 7 (refine Gm S rfl rfl rfl (Md hb3) rfl ?_ rfl;clear S;intro a S)
       exact lv S (Kt (decide ((Ff (Es x1 y1.Club (W ((Ff x1 y1.Club 0) + 1))) y1.Club 0) ≤ Ae.Most)) hb3 (S.tm rfl) rfl) rfl fun a S=>Dl (⟨Keep.refl _ _,S.nf [true,true,true,true,true] rfl (subR rfl)⟩)
      ·refine Cz S rfl rfl rfl hb3 (Vm S rfl rfl fun a S=>Cz S rfl rfl rfl hb3 (Vf Qp S rfl rfl fun a S=>Cz S rfl rfl rfl hb3 (Vl isAgg9 0 S rfl rfl rfl rfl fun a S=>Cz S rfl rfl rfl hb3 (lv S (Pm (kv:=Value.string) (vv:=(Value.int .i64)) (m:=(Es x1 y1.Club (W ((Ff x1 y1.Club 0) + 1)))) (key:=y1.Club) (z:=0) (S.map_at (i:=1) rfl) underlying135 (Nk underlying9) zeroValue3 (S.tm rfl) (S.tm rfl)) rfl fun a S=>Cz S rfl rfl rfl hb3 (Vf BM S rfl rfl fun a S=>Cz S rfl rfl rfl hb3 ?_)))))
       exact Vl isAgg3 4 S rfl rfl rfl rfl fun a S=>Cz S rfl rfl rfl hb3 (Vb S Sj rfl rfl rfl fun a S=>lv S (Ku hb3 (S.tm rfl) (S.tm rfl)) rfl fun a S=>Dl (⟨Keep.refl _ _,S.nf [true,true,true,true,true] rfl (subR rfl)⟩))
     clear S;rintro a w10 ⟨hk7,S⟩
     refine Dl ?_
     obtain ⟨j3,hj3,h⟩:=Ec h
     refine Ds (fun a w'=>∃ x7 : List Int,∃ v5 : Value,j3 x7 = some r ∧ Sx w [] nov [.blk b4 (An.enc y1) 49,.map b2 (Eh Value.string (Value.int .i64) (Es x1 y1.Club (W ((Ff x1 y1.Club 0) + 1)))) (Es x1 y1.Club (W ((Ff x1 y1.Club 0) + 1))).length,.own v5 3 1 x7.length (x7.flatMap eInt),.own v2 66 7 x3.length (x3.flatMap Cs.enc),.blk b1 [u1.val,iV Ae.Relay,iV Ae.Most] 27] [(1,Ab),(2,.pointer (some ⟨b1,0,none⟩)),(5,v2),(6,v5),(7,.map (some b2)),(9,.pointer (some ⟨b4,0,none⟩)),(16,Ab),(17,iV (Ad.length : Int)),(18,iV (i1 : Int))] 132 a w') ?_ ?_
     ·refine Fc h (S.tm rfl) (fun hb4 h=>?_) (fun hb4 h=>?_)
      ·refine Fg (Vm S rfl rfl fun a S=>Vm S rfl rfl fun a S=>lv S (Ee Vd (S.tm rfl) (Nn (S.own_at (i:=3) rfl))) rfl fun a S=>Ed S underlying22 sizeOf3 zeroValue3 rfl rfl (pv:=[(0,iV (x3.length : Int))]) ⟨rfl,(S.tm rfl),trivial⟩ (cs:=[iV (x3.length : Int)]) (by kernel_rfl) rfl ?_);clear S;intro a w12 b5 hz4 hk8 S
       obtain ⟨hc1,h⟩:=Hl h
       refine Mx Ka Hj S (S.tm rfl) (i:=3) rfl (S.tm rfl) (j:=0) rfl (ys:=[(x3.length : Int)]) rfl rfl rfl rfl (by have:=Nd hc1;omega) rfl ?_;clear S;intro v6 a w13 hk9 S
       refine Va S rfl rfl fun a S=>Ld ?_
       replace S:=(S.nl [.blk b4 (An.enc y1) 49,.map b2 (Eh Value.string (Value.int .i64) (Es x1 y1.Club (W ((Ff x1 y1.Club 0) + 1)))) (Es x1 y1.Club (W ((Ff x1 y1.Club 0) + 1))).length,.own v6 3 1 (x2 ++ [(x3.length : Int)]).length ((x2 ++ [(x3.length : Int)]).flatMap eInt),.own v2 66 7 x3.length (x3.flatMap Cs.enc),.blk b1 [u1.val,iV Ae.Relay,iV Ae.Most] 27] [false,true,true,true,true,true] rfl).k9 1 2 5 6 7 9 16 17 18 rfl
       exact Tn (⟨(x2 ++ [(x3.length : Int)]),v6,h,S.nf [true,true,true,true,true] rfl (subR rfl)⟩)
      ·exact wp_skip (Tn (⟨x2,v1,h,S.nf [true,true,true,true,true] rfl (subR rfl)⟩))
     clear S h;rintro a w11 ⟨x7,v5,h,S⟩;rw [hj3] at h;clear hj3 j3
     refine Tn ?_
     obtain ⟨hc2,h⟩:=Hl h
     refine Fw [] (v2.ownBlock.toList) Tryz.mixed S rfl (by kernel_rfl) ?_;clear S;intro w17 hk13 hsel S
     refine Dk 0 S hsel rfl rfl rfl (by kernel_rfl) (by kernel_rfl) rfl (fun _ hw=>(Rm (S.tm rfl))) fun a S=>Dk 1 S hsel rfl rfl rfl (by kernel_rfl) (by kernel_rfl) rfl (fun _ hw=>(Fp isAgg49 sizeOf49 (off:=0) (o:=0) (part:=(An.enc y1)) rfl rfl (S.tm rfl) ((S.blk_mem (i:=0) (cells:=(An.enc y1)) (b:=b4) (T:=49) rfl (Ns (i:=3) (j:=0) (e:=.own v2 66 7 x3.length (x3.flatMap Cs.enc)) (e':=.blk b4 (An.enc y1) 49) S rfl rfl rfl)).kept hw))) fun a S=>Ex 2 (by kernel_rfl) rfl (Dc S (fun _=>Cw (vs:=[]) trivial call50) (Tz _ _ rfl) rfl ?_);clear S;intro v9 a w18 hv2 hk14 hn2 S
     subst hv2
     refine Ld (Fx (Keep.none hk14) (Dk 3 S hsel rfl rfl rfl (by kernel_rfl) (by kernel_rfl) rfl (fun _ hw=>(Lp bt_66 (pv:=[(0,.agg (An.enc y1).toArray),(1,.agg (Cu.enc Gd).toArray)]) ⟨rfl,(S.tm rfl),rfl,(S.tm rfl),trivial⟩ (cs:=[sV y1.Race,sV y1.Who,sV y1.Club,iV y1.Rank,bV y1.Relay,iV Gd.Num,iV Gd.Den]) (by kernel_rfl))) fun a S=>Ex 4 (by kernel_rfl) rfl (Ed S underlying63 sizeOf66 zeroValue66 rfl rfl (pv:=[(0,.agg (Cs.enc (Cs.mk y1 Gd)).toArray)]) ⟨rfl,(S.tm rfl),trivial⟩ (cs:=[sV y1.Race,sV y1.Who,sV y1.Club,iV y1.Rank,bV y1.Relay,iV Gd.Num,iV Gd.Den]) (by kernel_rfl) rfl ?_)));clear S;intro a w19 b7 hz6 hk15 S
     refine Ld (Fx (Keep.none hk15) (Ex 5 (by kernel_rfl) rfl ?_))
     refine Mx Vd Cs.enc_ok S (S.tm rfl) (i:=4) rfl (S.tm rfl) (j:=0) rfl (ys:=[(Cs.mk y1 Gd)]) rfl rfl rfl rfl (by have:=Nd hc2;omega) rfl ?_;clear S;intro v10 a w20 hk16 S
     refine Ld (Fx hk16 (Kc [6] hsel (by kernel_rfl) rfl ?_))
     clear hsel
     refine En S rfl (Ra (S.tm rfl)) rfl fun a S=>Hk ?_
     replace S:=(S.nl [.map b2 (Eh Value.string (Value.int .i64) (Es x1 y1.Club (W ((Ff x1 y1.Club 0) + 1)))) (Es x1 y1.Club (W ((Ff x1 y1.Club 0) + 1))).length,.own v5 3 1 x7.length (x7.flatMap eInt),.own v10 66 7 (x3 ++ [(Cs.mk y1 Gd)]).length ((x3 ++ [(Cs.mk y1 Gd)]).flatMap Cs.enc),.blk b1 [u1.val,iV Ae.Relay,iV Ae.Most] 27] [false,false,true,true,true,true] rfl).k8 1 2 5 6 7 16 17 18 rfl
     exact Gx (Tn (⟨(Es x1 y1.Club (W ((Ff x1 y1.Club 0) + 1))),x7,(x3 ++ [(Cs.mk y1 Gd)]),v5,v10,h,S.nf [true,true,true,true] rfl (subR rfl)⟩))
   clear S h;rintro a w5 ⟨x4,x5,x6,v3,v4,h,S⟩;rw [hj2] at h;clear hj2 j2
   exact Tn (Fg (Vq S Ek rfl rfl rfl fun a S=>Vm S rfl rfl fun a S=>Dl (⟨ys1,⟨i1 + 1,x4,x5,x6,v3,v4,⟨_,(hd1).trans (List.append_cons _ _ _),by simp [hi1]⟩,h,S.nf [true,true,true,true] rfl ⟨rfl,rfl,rfl,rfl,rfl,rfl,rfl,(congrArg (fun z=>some (Value.int .i64 z)) (Gc hd1 hi1 (Jk Ac))),trivial⟩⟩,Nat.lt_succ_self _⟩)))
 clear S h;rintro a w4 ⟨x1,x2,x3,v1,v2,h,S⟩;rw [hj1] at h;clear hj1 j1
 refine Tn (Fs (Fr (Vk S rfl rfl fun a S=>Dl ?_)))
 replace S:=S.d0.k5 1 2 5 6 10 rfl
 obtain ⟨j4,hj4,h⟩:=Ec h
 refine Ds (fun a w'=>∃ x8 : List Cs,∃ v11 : Value,j4 x8 = some r ∧ Sx w [] nov [.own v1 3 1 x2.length (x2.flatMap eInt),.own v11 66 7 x8.length (x8.flatMap Cs.enc),.blk b1 [u1.val,iV Ae.Relay,iV Ae.Most] 27] [(5,v11)] 132 a w') ?_ ?_
 ·refine wp_block (Fi (fun (m1 : Nat) a w'=>∃ x8 : List Cs,∃ x9 : Int,∃ v11 : Value,Hd x2 Ad Ae j4 m1 x8 x9 = some r ∧ Sx w [] nov [.own v1 3 1 x2.length (x2.flatMap eInt),.own v11 66 7 x8.length (x8.flatMap Cs.enc),.blk b1 [u1.val,iV Ae.Relay,iV Ae.Most] 27] [(1,Ab),(2,.pointer (some ⟨b1,0,none⟩)),(5,v11),(6,v1),(10,iV x9)] 132 a w') id (((x2.length : Int) - 0).toNat + 2) ⟨x3,0,v2,h,S.nf [true,true,true] rfl (subR rfl)⟩ ?_)
  clear S h;rintro m1 a w21 ⟨x8,x9,v11,h,S⟩
  cases m1 with
  | zero=>rw [Hd.eq_1] at h;cases h
  | succ m1 =>
   rw [Hd.eq_2] at h
   refine Fs (Fr (Vm S rfl rfl fun a S=>Vm S rfl rfl fun a S=>lv S (Ee Ka (S.tm rfl) (Nn (S.own_at (i:=0) rfl))) rfl fun a S=>Vb S Dt rfl rfl rfl fun a S=>Dl (Fc h (S.tm rfl) (fun hb5 h=>?_) (fun hb5 h=>?_))))
   ·refine wp_skip (Tn (wp_block (Fr (Vm S rfl rfl fun a S=>Va S rfl rfl fun a S=>Vk S rfl rfl fun a S=>Dl (Fs ?_)))))
    replace S:=S.k7 1 2 5 6 10 11 12 rfl
    obtain ⟨j5,hj5,h⟩:=Ec h
    refine Ds (fun a w'=>∃ x10 : Int,∃ x11 : Int,j5 x10 x11 = some r ∧ Sx w [] nov [.own v1 3 1 x2.length (x2.flatMap eInt),.own v11 66 7 x8.length (x8.flatMap Cs.enc),.blk b1 [u1.val,iV Ae.Relay,iV Ae.Most] 27] [(1,Ab),(2,.pointer (some ⟨b1,0,none⟩)),(5,v11),(6,v1),(10,iV x9),(11,iV x10),(12,iV x11)] 132 a w') ?_ ?_
    ·refine wp_block (Fi (fun (m2 : Nat) a w'=>∃ x10 : Int,∃ x11 : Int,Jd Ae x2 x8 x9 j5 m2 x10 x11 = some r ∧ Sx w [] nov [.own v1 3 1 x2.length (x2.flatMap eInt),.own v11 66 7 x8.length (x8.flatMap Cs.enc),.blk b1 [u1.val,iV Ae.Relay,iV Ae.Most] 27] [(1,Ab),(2,.pointer (some ⟨b1,0,none⟩)),(5,v11),(6,v1),(10,iV x9),(11,iV x10),(12,iV x11)] 132 a w') id (((x2.length : Int) - x9).toNat + 2) ⟨x9,0,h,S.nf [true,true,true] rfl (subR rfl)⟩ ?_)
     clear S h;rintro m2 a w23 ⟨x10,x11,h,S⟩
     cases m2 with
     | zero=>rw [Jd.eq_1] at h;cases h
     | succ m2 =>
      rw [Jd.eq_2] at h
      refine Fs (Fs (Fw [] ([]) Tryz.mixed S rfl (by kernel_rfl) ?_));clear S;intro w25 hk17 hsel S
      refine Kc [0,1,2,3,4,5,6,7,8,9,10,11,12,13,14,15,16,17,18,19,20,21,22,23,24] hsel (by kernel_rfl) rfl ?_
      clear hsel
      refine En S rfl (Rm (S.tm rfl)) rfl fun a S=>En S rfl (Rm (S.tm rfl)) rfl fun a S=>En S rfl (Ee Ka (S.tm rfl) (Nn (S.own_at (i:=0) rfl))) rfl fun a S=>En S rfl (Dt (S.tm rfl) (S.tm rfl)) rfl fun a S=>En S rfl (Rm (S.tm rfl)) rfl ?_;clear S;intro a S
      obtain ⟨j6,hj6,h⟩:=Ec h
      refine Ts 20 (fun a w'=>∃ c1,j6 c1 = some r ∧ Keep [] w25 w' ∧ Sx w [] nov [.own v1 3 1 x2.length (x2.flatMap eInt),.own v11 66 7 x8.length (x8.flatMap Cs.enc),.blk b1 [u1.val,iV Ae.Relay,iV Ae.Most] 27] [(1,Ab),(2,.pointer (some ⟨b1,0,none⟩)),(5,v11),(6,v1),(10,iV x9),(11,iV x10),(12,iV x11),(88,bV c1)] 132 a w') ?_ ?_
      ·rcases Bool.eq_false_or_eq_true (decide (x10 < (x2.length : Int))) with hb6 | hb6
       ·replace h:=Om h hb6
        refine Ef S rfl rfl rfl rfl hb6 (Fa S (Rm (S.tm rfl)) rfl fun a S=>Ef S rfl rfl rfl rfl hb6 (Fa S (Rm (S.tm rfl)) rfl fun a S=>Ef S rfl rfl rfl rfl hb6 (Fa S (Rm (S.tm rfl)) rfl fun a S=>Ef S rfl rfl rfl rfl hb6 ?_)))
        obtain ⟨hc3,h⟩:=Hl h
        obtain ⟨b8,hg1,hr2⟩:=Gf (a:=a) (x:=.tmp 70) (y:=.tmp 71) (ty:=0) Ka Hj S (i:=0) rfl (Db hc3).1 (Db hc3).2 (S.tm rfl) (S.tm rfl)
        refine Fa S (hr2 _) rfl ?_;clear S;intro a S
        clear hr2
        refine Ef S rfl rfl rfl rfl hb6 (Fa S (Gk isAgg3 (off:=x10.toNat * 1) (o:=0) (S.tm rfl) (Nm Hj S (i:=0) rfl hg1 (Db hc3).1) rfl) rfl fun a S=>Ef S rfl rfl rfl rfl hb6 ?_)
        obtain ⟨hc4,h⟩:=Hl h
        obtain ⟨b9,hg2,hr3⟩:=Gf (a:=a) (x:=.tmp 69) (y:=.tmp 73) (ty:=0) Vd Cs.enc_ok S (i:=1) rfl (Db hc4).1 (Db hc4).2 (S.tm rfl) (S.tm rfl)
        refine Fa S (hr3 _) rfl ?_;clear S;intro a S
        clear hr3
        refine Ef S rfl rfl rfl rfl hb6 (Fa S (Fk Uq (S.tm rfl)) rfl fun a S=>Ef S rfl rfl rfl rfl hb6 (Fa S (Fk Jy (S.tm rfl)) rfl fun a S=>Ef S rfl rfl rfl rfl hb6 (Fa S (Gk isAgg3 (off:=((nth x2 x10).toNat) * 7) (o:=3) (S.tm rfl) (Nm Cs.enc_ok S (i:=1) rfl hg2 (Db hc4).1) rfl) rfl fun a S=>Ef S rfl rfl rfl rfl hb6 (Fa S (Rm (S.tm rfl)) rfl fun a S=>Ef S rfl rfl rfl rfl hb6 (Fa S (Rm (S.tm rfl)) rfl fun a S=>Ef S rfl rfl rfl rfl hb6 ?_)))))
        refine Fa S (Rm (S.tm rfl)) rfl fun a S=>Ef S rfl rfl rfl rfl hb6 ?_
        obtain ⟨hc5,h⟩:=Hl h
        obtain ⟨b10,hg3,hr4⟩:=Gf (a:=a) (x:=.tmp 79) (y:=.tmp 80) (ty:=0) Ka Hj S (i:=0) rfl (Db hc5).1 (Db hc5).2 (S.tm rfl) (S.tm rfl)
        refine Fa S (hr4 _) rfl ?_;clear S;intro a S
        clear hr4
        refine Ef S rfl rfl rfl rfl hb6 (Fa S (Gk isAgg3 (off:=x9.toNat * 1) (o:=0) (S.tm rfl) (Nm Hj S (i:=0) rfl hg3 (Db hc5).1) rfl) rfl fun a S=>Ef S rfl rfl rfl rfl hb6 ?_)
        obtain ⟨hc6,h⟩:=Hl h
        obtain ⟨b11,hg4,hr5⟩:=Gf (a:=a) (x:=.tmp 78) (y:=.tmp 82) (ty:=0) Vd Cs.enc_ok S (i:=1) rfl (Db hc6).1 (Db hc6).2 (S.tm rfl) (S.tm rfl)
        refine Fa S (hr5 _) rfl ?_;clear S;intro a S
        clear hr5
        exact Ef S rfl rfl rfl rfl hb6 (Fa S (Fk Uq (S.tm rfl)) rfl fun a S=>Ef S rfl rfl rfl rfl hb6 (Fa S (Fk Jy (S.tm rfl)) rfl fun a S=>Ef S rfl rfl rfl rfl hb6 (Fa S (Gk isAgg3 (off:=((nth x2 x9).toNat) * 7) (o:=3) (S.tm rfl) (Nm Cs.enc_ok S (i:=1) rfl hg4 (Db hc6).1) rfl) rfl fun a S=>Ef S rfl rfl rfl rfl hb6 (Fa S (Jz (S.tm rfl) (S.tm rfl)) rfl fun a S=>En S rfl (Hg hb6 (S.tm rfl) (S.tm rfl)) rfl fun a S=>Hk (⟨_,h,Keep.refl _ _,S.nf [true,true,true] rfl (subR rfl)⟩)))))
       ·replace h:=On h hb6
        iterate 19 (refine Nx S rfl rfl rfl rfl (Jt hb6) rfl ?_ rfl;clear S;intro a S)
        exact En S rfl (Hh true hb6 (S.tm rfl) rfl) rfl fun a S=>Hk (⟨_,h,Keep.refl _ _,S.nf [true,true,true] rfl (subR rfl)⟩)
      clear S h;rintro a w26 ⟨c1,h,hk18,S⟩;rw [hj6] at h;clear hj6 j6
      refine Hk ?_
      replace S:=S.k8 1 2 5 6 10 11 12 88 rfl
      refine Tn (Fc h (S.tm rfl) (fun hb7 h=>?_) (fun hb7 h=>?_))
      ·refine wp_skip (Tn (Fs ?_))
       obtain ⟨j7,hj7,h⟩:=Ec h
       refine Ds (fun a w'=>∃ x12 : Int,j7 x12 = some r ∧ Sx w [] nov [.own v1 3 1 x2.length (x2.flatMap eInt),.own v11 66 7 x8.length (x8.flatMap Cs.enc),.blk b1 [u1.val,iV Ae.Relay,iV Ae.Most] 27] [(1,Ab),(2,.pointer (some ⟨b1,0,none⟩)),(5,v11),(6,v1),(10,iV x9),(11,iV x10),(12,iV x12)] 132 a w') ?_ ?_
       ·refine wp_block (Fr (Vm S rfl rfl fun a S=>Vf Qo S rfl rfl fun a S=>Vl isAgg22 2 S rfl rfl rfl rfl fun a S=>lv S (Ee Ka (S.tm rfl) (Ej hs1)) rfl fun a S=>Vb S Dt rfl rfl rfl fun a S=>Dl ?_))
        obtain ⟨j8,hj8,h⟩:=Ec h
        refine Ds (fun a w'=>∃ x13 : Int,j8 x13 = some r ∧ Sx w [] nov [.own v1 3 1 x2.length (x2.flatMap eInt),.own v11 66 7 x8.length (x8.flatMap Cs.enc),.blk b1 [u1.val,iV Ae.Relay,iV Ae.Most] 27] [(1,Ab),(2,.pointer (some ⟨b1,0,none⟩)),(5,v11),(6,v1),(10,iV x9),(11,iV x10),(12,iV x13)] 132 a w') ?_ ?_
        ·refine Fc h (S.tm rfl) (fun hb8 h=>?_) (fun hb8 h=>?_)
         ·refine Fg (Vm S rfl rfl fun a S=>Vf Qo S rfl rfl fun a S=>Vl isAgg22 2 S rfl rfl rfl rfl fun a S=>Vm S rfl rfl ?_);clear S;intro a S
          obtain ⟨hc7,h⟩:=Hl h
          obtain ⟨b12,o6,hm6,hr6⟩:=Eb (a:=a) (x:=.tmp 98) (y:=.tmp 99) (ty:=0) Ka hs1 (Db hc7).1 (Db hc7).2 (S.tm rfl) (S.tm rfl)
          refine lv S (hr6 _) rfl ?_;clear S;intro a S
          clear hr6
          refine lv S (Gk isAgg3 (off:=o6) (o:=0) (S.tm rfl) (hm6.at S.emb0) rfl) rfl fun a S=>Vb S Ek rfl rfl rfl fun a S=>Va S rfl rfl fun a S=>Ld ?_
          replace S:=S.k7 1 2 5 6 10 11 12 rfl
          exact Tn (⟨W (x11 + (nth Ae.Points x10)),h,S.nf [true,true,true] rfl (subR rfl)⟩)
         ·exact wp_skip (Tn (⟨x11,h,S.nf [true,true,true] rfl (subR rfl)⟩))
        clear S h;rintro a w28 ⟨x13,h,S⟩;rw [hj8] at h;clear hj8 j8
        exact Gx (Tn (⟨x13,h,S.nf [true,true,true] rfl (subR rfl)⟩))
       clear S h;rintro a w27 ⟨x12,h,S⟩;rw [hj7] at h;clear hj7 j7
       exact Tn (Fg (Vm S rfl rfl fun a S=>Vq S Ek rfl rfl rfl fun a S=>Va S rfl rfl fun a S=>Dl (⟨m2,⟨W (x10 + 1),x12,h,S.nf [true,true,true] rfl ⟨rfl,rfl,rfl,rfl,rfl,rfl,rfl,trivial⟩⟩,Nat.lt_succ_self _⟩)))
      ·exact wp_exit (Dj (Dj (Fj (Tn (⟨x10,x11,h,S.nf [true,true,true] rfl (subR rfl)⟩)))))
    clear S h;rintro a w24 ⟨x10,x11,h,S⟩;rw [hj5] at h;clear hj5 j5
    refine Tn (Fs (Fr (Vm S rfl rfl ?_)));clear S;intro a S
    obtain ⟨hc8,h⟩:=Hl h
    obtain ⟨b13,o7,hm7,hr7⟩:=Eb (a:=a) (x:=.tmp 103) (y:=.const (iV 0)) (ty:=0) Ja Ac (Db hc8).1 (Db hc8).2 (S.tm rfl) rfl
    refine lv S (hr7 _) rfl ?_;clear S;intro a S
    clear hr7
    refine Vf BN S rfl rfl fun a S=>lv S (Gk isAgg4 (off:=o7) (o:=4) (S.tm rfl) (hm7.at S.emb0) rfl) rfl fun a S=>Dl ?_
    obtain ⟨j9,hj9,h⟩:=Ec h
    refine Ds (fun a w'=>∃ x14 : Int,j9 x14 = some r ∧ Sx w [] nov [.own v1 3 1 x2.length (x2.flatMap eInt),.own v11 66 7 x8.length (x8.flatMap Cs.enc),.blk b1 [u1.val,iV Ae.Relay,iV Ae.Most] 27] [(1,Ab),(2,.pointer (some ⟨b1,0,none⟩)),(5,v11),(6,v1),(10,iV x9),(11,iV x10),(12,iV x14)] 132 a w') ?_ ?_
    ·refine Fc h (S.tm rfl) (fun hb9 h=>?_) (fun hb9 h=>?_)
     ·refine Fg (Vm S rfl rfl fun a S=>Vf EQ S rfl rfl fun a S=>Vl isAgg3 2 S rfl rfl rfl rfl fun a S=>Vb S Vg rfl rfl rfl fun a S=>Va S rfl rfl fun a S=>Ld ?_)
      replace S:=S.k7 1 2 5 6 10 11 12 rfl
      exact Tn (⟨W (x11 * Ae.Relay),h,S.nf [true,true,true] rfl (subR rfl)⟩)
     ·exact wp_skip (Tn (⟨x11,h,S.nf [true,true,true] rfl (subR rfl)⟩))
    clear S h;rintro a w29 ⟨x14,h,S⟩;rw [hj9] at h;clear hj9 j9
    refine Tn (Fs (Fs (Fg ?_)))
    iterate 3 (refine Vm S rfl rfl ?_;clear S;intro a S)
    obtain ⟨hc9,h⟩:=Hl h
    obtain ⟨u2,hu1,hr8⟩:=rn_sub2 (a:=a) (x:=.tmp 111) (y:=.tmp 112) (y':=.tmp 113) (ty:=22) Ka S (i:=0) rfl (S.tm rfl) (S.tm rfl) (S.tm rfl) hc9
    refine lv S (hr8 _) rfl ?_;clear S;intro a S
    clear hr8
    refine lv S (Ee Ka (S.tm rfl) (HT hu1)) rfl fun a S=>lv S (Rm rfl) rfl fun a S=>Dl ?_
    replace S:=S.k10 1 2 5 6 10 11 12 114 115 116 rfl
    obtain ⟨j10,hj10,h⟩:=Ec h
    refine Ds (fun a w'=>∃ x15 : List Cs,∃ v12 : Value,j10 x15 = some r ∧ Sx w [] nov [.own v1 3 1 x2.length (x2.flatMap eInt),.own v12 66 7 x15.length (x15.flatMap Cs.enc),.blk b1 [u1.val,iV Ae.Relay,iV Ae.Most] 27] [(1,Ab),(2,.pointer (some ⟨b1,0,none⟩)),(5,v12),(6,v1),(11,iV x10)] 132 a w') ?_ ?_
    ·refine wp_block (Fi (fun (m3 : Nat) a w'=>∃ x15 : List Cs,∃ x16 : Int,∃ v12 : Value,Ie x10 x9 x14 x2 j10 m3 x15 x16 = some r ∧ Sx w [] nov [.own v1 3 1 x2.length (x2.flatMap eInt),.own v12 66 7 x15.length (x15.flatMap Cs.enc),.blk b1 [u1.val,iV Ae.Relay,iV Ae.Most] 27] [(1,Ab),(2,.pointer (some ⟨b1,0,none⟩)),(5,v12),(6,v1),(10,iV x9),(11,iV x10),(12,iV x14),(114,u2),(115,iV ((x10.toNat - x9.toNat : Nat) : Int)),(116,iV x16)] 132 a w') id ((((x10.toNat - x9.toNat : Nat) : Int) - 0).toNat + 2) ⟨x8,0,v11,h,S.nf [true,true,true] rfl (subR rfl)⟩ ?_)
     clear S h;rintro m3 a w30 ⟨x15,x16,v12,h,S⟩
     cases m3 with
     | zero=>rw [Ie.eq_1] at h;cases h
     | succ m3 =>
      rw [Ie.eq_2] at h
      refine Fr (Vb S Dt rfl rfl rfl fun a S=>Dl (Fs (Fc h (S.tm rfl) (fun hb10 h=>?_) (fun hb10 h=>?_))))
      ·refine wp_skip (Tn (Fs (wp_block (Fs (Fg ?_)))))
       obtain ⟨hc10,h⟩:=Hl h
       have hj11:=(sub_get (HU S (i:=0) rfl hu1) hc10).1
       obtain ⟨b14,hg5,hr9⟩:=Xl (a:=a) (x:=.tmp 114) (y:=.tmp 116) (ty:=0) Ka Hj S (i:=0) rfl hu1 hc10 (S.tm rfl) (S.tm rfl)
       refine lv S (hr9 _) rfl ?_;clear S;intro a S
       clear hr9
       refine lv S (Gk isAgg3 (off:=(x9.toNat + x16.toNat) * 1) (o:=0) (S.tm rfl) (Nm Hj S (i:=0) rfl hg5 hj11) rfl) rfl fun a S=>Va S rfl rfl fun a S=>Dl (Fg ?_)
       iterate 5 (refine Vm S rfl rfl ?_;clear S;intro a S)
       refine Vb S Jb rfl rfl rfl ?_;clear S;intro a S
       obtain ⟨r1,hr10,h⟩:=Eg h
       refine Dc S (fun _=>Cw (vs:=[iV x14,iV (W (x10 - x9))]) ⟨(S.tm rfl),(S.tm rfl),trivial⟩ call79) (Rj _ x14 (W (x10 - x9)) _ hr10) rfl ?_;clear S;intro v13 a w32 hv3 hk19 hn3 S
       subst hv3
       obtain ⟨hc11,h⟩:=Hl h
       obtain ⟨b15,hg6,hr11⟩:=Gf (a:=a) (x:=.tmp 120) (y:=.tmp 121) (ty:=0) Vd Cs.enc_ok S (i:=1) rfl (Db hc11).1 (Db hc11).2 (S.tm rfl) (S.tm rfl)
       refine lv S (hr11 _) rfl ?_;clear S;intro a S
       clear hr11
       refine Vf BO S rfl rfl fun a S=>Oc (c:=5) (j:=(nth (cut x2 x9 x10) x16).toNat) (Cs.mk ((nth x15 (nth (cut x2 x9 x10) x16)).x_) r1) Cs.enc_ok S (S.tm rfl) (S.tm rfl) (i:=1) rfl hg6 (Db hc11).1 sizeOf39 (vs:=[iV r1.Num,iV r1.Den]) rfl rfl rfl rfl rfl ?_;clear S;intro w34 hk21 S
       refine Ld ?_
       replace S:=(S.nl [.own v1 3 1 x2.length (x2.flatMap eInt),.own v12 66 7 (x15.set ((nth (cut x2 x9 x10) x16).toNat) (Cs.mk ((nth x15 (nth (cut x2 x9 x10) x16)).x_) r1)).length ((x15.set ((nth (cut x2 x9 x10) x16).toNat) (Cs.mk ((nth x15 (nth (cut x2 x9 x10) x16)).x_) r1)).flatMap Cs.enc),.blk b1 [u1.val,iV Ae.Relay,iV Ae.Most] 27] [true,true,true] rfl).k10 1 2 5 6 10 11 12 114 115 116 rfl
       exact Gx (Tn (Fg (Vq S Ek rfl rfl rfl fun a S=>Vm S rfl rfl fun a S=>Dl (⟨m3,⟨(x15.set ((nth (cut x2 x9 x10) x16).toNat) (Cs.mk ((nth x15 (nth (cut x2 x9 x10) x16)).x_) r1)),W (x16 + 1),v12,h,S.nf [true,true,true] rfl ⟨rfl,rfl,rfl,rfl,rfl,rfl,rfl,rfl,rfl,rfl,trivial⟩⟩,Nat.lt_succ_self _⟩))))
      ·exact wp_exit (Dj (Dj (Fj (Tn (⟨x15,v12,h,S.nf [true,true,true] rfl (subR rfl)⟩)))))
    clear S h;rintro a w31 ⟨x15,v12,h,S⟩;rw [hj10] at h;clear hj10 j10
    exact Tn (Fg (Vm S rfl rfl fun a S=>Va S rfl rfl fun a S=>Ld (Gx (Tn (⟨m1,⟨x15,x10,v12,h,S.nf [true,true,true] rfl ⟨rfl,rfl,rfl,rfl,rfl,trivial⟩⟩,Nat.lt_succ_self _⟩)))))
   ·exact wp_exit (Dj (Dj (Fj (Tn (⟨x8,v11,h,S.nf [true,true,true] rfl ⟨rfl,trivial⟩⟩)))))
 clear S h;rintro a w22 ⟨x8,v11,h,S⟩;rw [hj4] at h;clear hj4 j4
 refine Tn (Fr (Vm S rfl rfl fun a S=>Va S rfl rfl fun a S=>Dl (wp_ret ?_)))
 obtain rfl:=Option.some.inj h
 exact Dx S results47 rfl (Qu S (i:=1) rfl rfl)
theorem Ua (w : World) (Ae : Hx) (Bd : R27) (Bi : Qe (view w []) Ae Bd) (Ab : Value) (Ad : List An) (Ac : Slc (view w []) 5 Ab (Ad.map An.enc)) (r : (List Cs)) (h : Nc Ae Ad = some r) :
    Calls prog 23 [.agg (R27.enc Bd).toArray,Ab].toArray w (Ret w [] fun τ v _=>Pu τ 66 7 v r.length (r.flatMap Cs.enc)):=by
 obtain ⟨u1,rfl,hs1⟩:=Bi
 refine Fe func23 rfl ntmps23 rfl fun a S=>?_
 unfold Nc at h
 replace S:=S.k2 0 1 rfl
 refine Fr (Nj S (S.tm rfl) (cs:=[u1.val,iV Ae.Relay,iV Ae.Most]) rfl rfl ?_);clear S;intro a w1 b1 hz1 hk1 S
 refine Vk S rfl rfl fun a S=>Dz (Vk S rfl rfl ?_);clear S;intro a S
 replace S:=S.nil 66 7
 refine Dl (Fs (Fr (Vm S rfl rfl ?_)));clear S;intro a S
 obtain ⟨r1,hr1,h⟩:=Eg h
 have hz2:=S.keep.size
 refine Dc S (fun _=>Cw (vs:=[Ab]) ⟨(S.tm rfl),trivial⟩ call46) (Te _ (join (view w []) nov) (We (S.le_arg Eo) (S.le_new Eo)) Ab Ad (Ac.mono (le_join_left _ _)) _ hr1) rfl ?_;clear S;intro v1 a w2 hv1 hk2 hn1 S
 obtain ⟨φ1,hl1,hm1,S⟩:=S.see' hn1 hz2
 obtain ⟨rs1,ho2,hr2⟩:=hv1
 have hs2:=ho2.mono (Wf hl1 hm1)
 have hr3:=Ye (Wf hl1 hm1) hr2
 refine lv S (Ee Ss (S.tm rfl) (Qv hs2 hr3)) rfl fun a S=>lv S (Rm rfl) rfl fun a S=>Dl ?_
 replace S:=(S.nl [.own (.slice none 0 0) 66 7 ([] : List Cs).length (([] : List Cs).flatMap Cs.enc),.blk b1 [u1.val,iV Ae.Relay,iV Ae.Most] 27] [true,true] rfl).k5 2 5 9 10 11 rfl
 obtain ⟨j1,hj1,h⟩:=Ec h
 refine Ds (fun a w'=>∃ x1 : List Cs,∃ φ2 : View,∃ v2 : Value,j1 x1 = some r ∧ View.le φ1 φ2 ∧ Sx w [] φ2 [.own v2 66 7 x1.length (x1.flatMap Cs.enc),.blk b1 [u1.val,iV Ae.Relay,iV Ae.Most] 27] [(5,v2)] 22 a w') ?_ ?_
 ·refine wp_block (Fi (fun (ys1 : List (List An)) a w'=>∃ i1 : Nat,∃ x1 : List Cs,∃ φ2 : View,∃ v2 : Value,(∃ dn,r1 = dn ++ ys1 ∧ dn.length = i1) ∧ Jo Ae j1 ys1 i1 x1 = some r ∧ View.le φ1 φ2 ∧ Sx w [] φ2 [.own v2 66 7 x1.length (x1.flatMap Cs.enc),.blk b1 [u1.val,iV Ae.Relay,iV Ae.Most] 27] [(2,.pointer (some ⟨b1,0,none⟩)),(5,v2),(9,v1),(10,iV (r1.length : Int)),(11,iV (i1 : Int))] 22 a w') List.length r1 ⟨0,([] : List Cs),φ1,(.slice none 0 0),⟨[],rfl,rfl⟩,h,View.le_refl _,S.nf [true,true] rfl (subR rfl)⟩ ?_)
  clear S h;rintro ys1 a w3 ⟨i1,x1,φ2,v2,⟨dn,hd1,hi1⟩,h,hl2,S⟩
  cases ys1 with
  | nil =>
   rw [Jo.eq_1] at h
   refine Fr (Vb S Dt rfl rfl rfl fun a S=>Ld ?_)
   replace S:=S.k6 2 5 9 10 11 12 rfl
   exact Tn (Fs (wp_cond_false ((S.tm rfl).trans (congrArg Value.bool (Hq hd1 hi1))) (wp_exit (Dj (Dj (Fj (Tn (⟨x1,φ2,v2,h,hl2,S.nf [true,true] rfl ⟨rfl,trivial⟩⟩))))))))
  | cons y1 ys1 =>
   rw [Jo.eq_2] at h
   refine Fr (Vb S Dt rfl rfl rfl fun a S=>Ld ?_)
   replace S:=S.k6 2 5 9 10 11 12 rfl
   refine Tn (Fs (wp_cond_true ((S.tm rfl).trans (congrArg Value.bool (Gb hd1 hi1))) (wp_skip (Tn (Fs (wp_block (Fs (Fg ?_))))))))
   obtain ⟨r2,hg1,hl3⟩:=Kd.at hr3 (Hz hd1 hi1)
   have hs3:=hl3
   obtain ⟨b2,o1,hm2,hr4⟩:=Eb (a:=a) (x:=.tmp 9) (y:=.tmp 11) (ty:=0) Ss hs2 hg1 rfl (S.tm rfl) (S.tm rfl)
   refine lv S (hr4 _) rfl ?_;clear S;intro a S
   clear hr4
   refine lv S (Gk isAgg29 (off:=o1) (o:=0) (S.tm rfl) ((hm2.mono (Yv hl2)).at (Oy S.emb0 S.emb)) rfl) rfl fun a S=>Va S rfl rfl fun a S=>Dl (Fg (Vm S rfl rfl fun a S=>lv S (Fp isAgg27 sizeOf27 (off:=0) (o:=0) (part:=[u1.val,iV Ae.Relay,iV Ae.Most]) rfl rfl (S.tm rfl) (S.cellsAt (i:=1) rfl)) rfl fun a S=>Vm S rfl rfl ?_));clear S;intro a S
   obtain ⟨r3,hr5,h⟩:=Eg h
   have hz3:=S.keep.size
   refine Dc S (fun _=>Cw (vs:=[.agg (R27.enc (R27.mk u1 Ae.Relay Ae.Most)).toArray,r2.val]) ⟨(S.tm rfl),(S.tm rfl),trivial⟩ call47) (Yx _ Ae (R27.mk u1 Ae.Relay Ae.Most) ⟨u1,rfl,(hs1.mono (S.le_arg Eo))⟩ r2.val y1 (hs3.mono (We (S.le_arg Eo) (View.le_trans hl2 (S.le_new Eo)))) _ hr5) rfl ?_;clear S;intro v3 a w5 hv2 hk3 hn2 S
   obtain ⟨φ3,hl4,hm3,S⟩:=S.see' hn2 hz3
   have hs4:=hv2.mono hm3
   obtain ⟨hc1,h⟩:=Hl h
   refine Zz (Y:=[]) Vd Cs.enc_ok S (S.tm rfl) (i:=0) rfl (S.tm rfl) ((Ha Cs.enc_ok hs4).mono (S.le_new (fun _ h=>by cases h))) rfl rfl (by have:=Nd hc1;omega) rfl ?_;clear S;intro v4 a w6 hk4 S
   refine Va S rfl rfl fun a S=>Ld (Gx (Tn (Fg (Vq S Ek rfl rfl rfl fun a S=>Vm S rfl rfl fun a S=>Ld ?_))))
   replace S:=(S.nl [.own v4 66 7 (x1 ++ r3).length ((x1 ++ r3).flatMap Cs.enc),.blk b1 [u1.val,iV Ae.Relay,iV Ae.Most] 27] [true,true] rfl).k5 2 5 9 10 11 rfl
   exact Tn (⟨ys1,⟨i1 + 1,(x1 ++ r3),φ3,v4,⟨_,(hd1).trans (List.append_cons _ _ _),by simp [hi1]⟩,h,(View.le_trans hl2 hl4),S.nf [true,true] rfl ⟨rfl,rfl,rfl,rfl,(congrArg (fun z=>some (Value.int .i64 z)) (Gc hd1 hi1 (Rx hs2 hr3))),trivial⟩⟩,Nat.lt_succ_self _⟩)
 clear S h;rintro a w4 ⟨x1,φ2,v2,h,hl2,S⟩;rw [hj1] at h;clear hj1 j1
 refine Tn (Fr (Vm S rfl rfl fun a S=>Va S rfl rfl fun a S=>Dl (wp_ret ?_)))
 obtain rfl:=Option.some.inj h
 exact Dx S results23 rfl (Qu S (i:=0) rfl rfl)
end Go.Proofs.YtfdcgchgkojfiaaGreatDoor
