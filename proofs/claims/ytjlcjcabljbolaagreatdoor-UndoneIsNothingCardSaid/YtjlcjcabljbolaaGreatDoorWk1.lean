/- Each Go function computes its plain twin,by program. -/
import Derived.Test.YtjlcjcabljbolaaGreatDoorTab
import Derived.Test.YtjlcjcabljbolaaGreatDoorLay
import Derived.Test.YtjlcjcabljbolaaGreatDoorSeq
namespace Go.Proofs.YtjlcjcabljbolaaGreatDoor
open Go
open Go.Proofs.Tryz
theorem Vp (w : World) (Ab : Int) (Az : Int) (r : Int) (h : Pw Ab Az = some r) :
    Calls prog 37 [iV Ab,iV Az].toArray w (Ret w [] fun _ v _=>v = iV r):=by
 refine Fe func37 rfl ntmps37 rfl fun a S=>?_
 unfold Pw at h
 replace S:=S.k2 0 1 rfl
 refine Fr (Vk S rfl rfl fun a S=>Dl (Fs (Fr (Vm S rfl rfl fun a S=>Vq S Ex rfl rfl rfl fun a S=>Ld ?_))))
 refine Tn (Fc h (S.tm rfl) (fun hb1 h=>?_) (fun hb1 h=>?_))
 ·refine Fr (Vk S rfl rfl fun a S=>Dl (wp_ret (Dy ?_)))
  obtain rfl:=Option.some.inj h
  exact Eo S results37 rfl rfl
 ·refine wp_skip (Tn (Fr (Vm S rfl rfl fun a S=>Vm S rfl rfl ?_)));clear S;intro a S
  obtain ⟨hc1,h⟩:=Ia h
  refine lv S (AI (S.tm rfl) (S.tm rfl) (Tr hc1)) rfl fun a S=>Va S rfl rfl fun a S=>Dl (Fs (Fr (Vm S rfl rfl fun a S=>Vq S Ex rfl rfl rfl fun a S=>Dl ?_)))
  obtain ⟨j1,hj1,h⟩:=Eu h
  refine En (fun a w'=>∃ x1 : Int,j1 x1 = some r ∧ Sx w [] nov [] [(0,iV x1)] 16 a w') ?_ ?_
  ·refine Fc h (S.tm rfl) (fun hb2 h=>?_) (fun hb2 h=>?_)
   ·exact Fg (Vm S rfl rfl fun a S=>Vm S rfl rfl fun a S=>Vb S Gf rfl rfl rfl fun a S=>Va S rfl rfl fun a S=>Dl (⟨W ((Int.tmod Ab Az) + Az),h,S.nf [] rfl ⟨rfl,trivial⟩⟩))
   ·exact wp_skip (Tn (⟨Int.tmod Ab Az,h,S.nf [] rfl ⟨rfl,trivial⟩⟩))
  clear S h;rintro a w1 ⟨x1,h,S⟩;rw [hj1] at h;clear hj1 j1
  refine Tn (Fr (Vm S rfl rfl fun a S=>Va S rfl rfl fun a S=>Dl (wp_ret ?_)))
  obtain rfl:=Option.some.inj h
  exact Eo S results37 rfl rfl
set_option maxRecDepth 20000 in
theorem Tb (w : World) (O : Nat) (U : Value) (Am : List Int) (Ak : Slc (view w [O]) 1 U (Am.map eInt)) (Aj : Int) (As : (LEnt.blk O [U,iV Aj] 25).holds w) (Az : Int) (r : Int × Int) (h : Po Am Aj Az = some r) :
    Calls prog 16 [.pointer (some ⟨O,0,none⟩),iV Az].toArray w (Ret w [O] fun _ v w'=>(LEnt.blk O [U,iV r.2] 25).holds w' ∧ v = iV r.1):=by
 refine Mo [O] [.blk O [U,iV Aj] 25] func16 rfl ntmps16 rfl (fun e he=>by simp only [List.mem_singleton] at he;subst he;exact As) (by simp [fps,LEnt.fp]) (by simp [fps,LEnt.fp]) fun a S=>?_
 unfold Po at h
 replace S:=(S.nl [.blk O [U,iV Aj] 25] [true] rfl).k2 0 1 rfl
 refine Fr (Vk S rfl rfl fun a S=>Dz (Vm S rfl rfl fun a S=>Vu S Ll rfl rfl fun a S=>Vf DV S rfl rfl fun a S=>Vl isAgg3 0 S rfl rfl rfl rfl ?_));clear S;intro a S
 refine Vq S Gf rfl rfl rfl fun a S=>Vu S Ll rfl rfl fun a S=>Vf DV S rfl rfl fun a S=>Fh S (S.tm rfl) (S.tm rfl) (i:=0) (off:=1) rfl sizeOf3 (vs:=[iV (W (Aj + 1))]) rfl rfl rfl rfl ?_;clear S;intro w1 hk1 S
 refine Dl (Fs (Fr (Vm S rfl rfl fun a S=>Vu S Ll rfl rfl fun a S=>Vf GK S rfl rfl fun a S=>Vl isAgg22 0 S rfl rfl rfl rfl fun a S=>lv S (Fz Oz (S.tm rfl) (Fl Ak)) rfl fun a S=>Vq S Im rfl rfl rfl ?_)));clear S;intro a S
 refine Ld ?_
 replace S:=(S.nl [.blk O [U,iV (W (Aj + 1))] 25] [true] rfl).k3 0 1 19 rfl
 refine Tn (Fc h (S.tm rfl) (fun hb1 h=>?_) (fun hb1 h=>?_))
 ·refine Fr (Vm S rfl rfl fun a S=>Vu S Ll rfl rfl fun a S=>Vf DV S rfl rfl fun a S=>Vl isAgg3 0 S rfl rfl rfl rfl fun a S=>Vq S Yk rfl rfl rfl fun a S=>Vm S rfl rfl ?_);clear S;intro a S
  obtain ⟨r1,hr1,h⟩:=Fb h
  refine Ec S (fun _=>Dv (vs:=[iV (W ((W (Aj + 1)) * 7919)),iV Az]) ⟨(S.tm rfl),(S.tm rfl),trivial⟩ call37) (Vp _ (W ((W (Aj + 1)) * 7919)) Az _ hr1) rfl ?_;clear S;intro v1 a w2 hv1 hk2 hn1 S
  subst hv1
  refine Va S rfl rfl fun a S=>Dl (wp_ret (Dy ?_))
  obtain rfl:=Option.some.inj h
  exact Eo S results16 rfl ⟨(S.holds _ (List.mem_of_getElem? (i:=0) rfl)),rfl⟩
 ·refine wp_skip (Tn (Fs (Hd [] ([]) Tryz.mixed S rfl (by kernel_rfl) ?_)));clear S;intro w3 hk3 hsel S
  refine Kz [0,1,2,3,4,5,6,7,8,9,10,11] hsel (by kernel_rfl) rfl ?_
  clear hsel
  refine Gk S rfl (Rm (S.tm rfl)) rfl fun a S=>Gk S rfl (Ll (S.tm rfl)) rfl fun a S=>Gk S rfl (Ge DV (S.tm rfl)) rfl fun a S=>Gk S rfl (Mi isAgg3 (S.tm rfl) (S.cell (i:=0) rfl rfl)) rfl fun a S=>Gk S rfl (Ja (S.tm rfl) rfl) rfl fun a S=>Gk S rfl (Rm (S.tm rfl)) rfl fun a S=>Gk S rfl (Ll (S.tm rfl)) rfl fun a S=>Gk S rfl (Ge GK (S.tm rfl)) rfl fun a S=>Gk S rfl (Mi isAgg22 (S.tm rfl) (S.cell (i:=0) rfl rfl)) rfl fun a S=>Gk S rfl (Fz Oz (S.tm rfl) (Fl Ak)) rfl ?_;clear S;intro a S
  obtain ⟨hc1,h⟩:=Ia h
  refine Gk S rfl (AI (S.tm rfl) (S.tm rfl) (Tr hc1)) rfl fun a S=>Gk S rfl (Ra (S.tm rfl)) rfl fun a S=>Ig ?_
  replace S:=S.k3 0 1 5 rfl
  refine Tn (Fs (Hd [] ([]) Tryz.mixed S rfl (by kernel_rfl) ?_));clear S;intro w4 hk4 hsel S
  refine Kz [0,1,2,3,4,5,6,7,8,9,10,11] hsel (by kernel_rfl) rfl ?_
  clear hsel
  refine Gk S rfl (Rm (S.tm rfl)) rfl fun a S=>Gk S rfl (Ll (S.tm rfl)) rfl fun a S=>Gk S rfl (Ge DV (S.tm rfl)) rfl fun a S=>Gk S rfl (Mi isAgg3 (S.tm rfl) (S.cell (i:=0) rfl rfl)) rfl fun a S=>Gk S rfl (Ja (S.tm rfl) rfl) rfl fun a S=>Gk S rfl (Rm (S.tm rfl)) rfl fun a S=>Gk S rfl (Ll (S.tm rfl)) rfl fun a S=>Gk S rfl (Ge GK (S.tm rfl)) rfl fun a S=>Gk S rfl (Mi isAgg22 (S.tm rfl) (S.cell (i:=0) rfl rfl)) rfl fun a S=>Gk S rfl (Fz Oz (S.tm rfl) (Fl Ak)) rfl ?_;clear S;intro a S
  obtain ⟨hc2,h⟩:=Ia h
  refine Gk S rfl (CS (S.tm rfl) (S.tm rfl) (Tr hc2)) rfl fun a S=>Gk S rfl (Ra (S.tm rfl)) rfl fun a S=>Ig ?_
  replace S:=S.k4 0 1 5 6 rfl
  refine Tn (Fr (Vm S rfl rfl fun a S=>Vu S Ll rfl rfl fun a S=>Vf GK S rfl rfl fun a S=>Vl isAgg22 0 S rfl rfl rfl rfl fun a S=>Vm S rfl rfl ?_));clear S;intro a S
  obtain ⟨hc3,h⟩:=Ia h
  obtain ⟨b1,o1,hm1,hr2⟩:=Fd (a:=a) (x:=.tmp 52) (y:=.tmp 53) (ty:=0) Oz Ak (Ed hc3).1 (Ed hc3).2 (S.tm rfl) (S.tm rfl)
  refine lv S (hr2 _) rfl ?_;clear S;intro a S
  clear hr2
  refine lv S (Hp isAgg3 (off:=o1) (o:=0) (S.tm rfl) (hm1.at S.emb0) rfl) rfl ?_;clear S;intro a S
  obtain ⟨r2,hr3,h⟩:=Fb h
  refine Ec S (fun _=>Dv (vs:=[iV (nth Am (Int.tmod (W ((W (Aj + 1)) - 1)) (Am.length : Int))),iV 1073741824]) ⟨(S.tm rfl),rfl,trivial⟩ call37) (Vp _ (nth Am (Int.tmod (W ((W (Aj + 1)) - 1)) (Am.length : Int))) 1073741824 _ hr3) rfl ?_;clear S;intro v2 a w5 hv2 hk5 hn2 S
  subst hv2
  refine Vm S rfl rfl fun a S=>Vm S rfl rfl fun a S=>Vu S (Gf rfl) rfl rfl fun a S=>Vb S Yk rfl rfl rfl fun a S=>Vb S Gf rfl rfl rfl fun a S=>Vm S rfl rfl ?_;clear S;intro a S
  obtain ⟨r3,hr4,h⟩:=Fb h
  refine Ec S (fun _=>Dv (vs:=[iV (W (r2 + (W ((W (Int.tdiv (W ((W (Aj + 1)) - 1)) (Am.length : Int))) * (W (7919 + (Int.tmod (W ((W (Aj + 1)) - 1)) (Am.length : Int)))))))),iV Az]) ⟨(S.tm rfl),(S.tm rfl),trivial⟩ call37) (Vp _ (W (r2 + (W ((W (Int.tdiv (W ((W (Aj + 1)) - 1)) (Am.length : Int))) * (W (7919 + (Int.tmod (W ((W (Aj + 1)) - 1)) (Am.length : Int)))))))) Az _ hr4) rfl ?_;clear S;intro v3 a w6 hv3 hk6 hn3 S
  subst hv3
  refine Va S rfl rfl fun a S=>Ld ?_
  replace S:=S.k1 4 rfl
  refine Tn (wp_ret ?_)
  obtain rfl:=Option.some.inj h
  exact Eo S results16 rfl ⟨(S.holds _ (List.mem_of_getElem? (i:=0) rfl)),rfl⟩
theorem Xo (w : World) (O : Nat) (U : Value) (Am : List Int) (Ak : Slc (view w [O]) 1 U (Am.map eInt)) (Aj : Int) (As : (LEnt.blk O [U,iV Aj] 25).holds w) (Az : Int) (r : Bool × Int) (h : Ru Am Aj Az = some r) :
    Calls prog 26 [.pointer (some ⟨O,0,none⟩),iV Az].toArray w (Ret w [O] fun _ v w'=>(LEnt.blk O [U,iV r.2] 25).holds w' ∧ v = bV r.1):=by
 refine Mo [O] [.blk O [U,iV Aj] 25] func26 rfl ntmps26 rfl (fun e he=>by simp only [List.mem_singleton] at he;subst he;exact As) (by simp [fps,LEnt.fp]) (by simp [fps,LEnt.fp]) fun a S=>?_
 unfold Ru at h
 replace S:=(S.nl [.blk O [U,iV Aj] 25] [true] rfl).k2 0 1 rfl
 refine Fr (Vk S rfl rfl fun a S=>Dz (Vm S rfl rfl fun a S=>Vm S rfl rfl ?_));clear S;intro a S
 obtain ⟨r1,hr1,h⟩:=Fb h
 refine Hg 0 S (b:=O) rfl rfl (fun _=>.blk O [U,iV r1.2] 25) (fun _=>Dv (vs:=[.pointer (some ⟨O,0,none⟩),iV Az]) ⟨(S.tm rfl),(S.tm rfl),trivial⟩ call16) (Tb _ O U Am (Ak.mono (S.le_arg (Ip (i:=0) (e:=.blk O [U,iV Aj] 25) rfl))) Aj (S.holds _ (List.mem_of_getElem? (i:=0) rfl)) Az _ hr1) rfl (fun _ _ _ h=>⟨h.1,fun _ hc=>by cases hc;rfl⟩) ?_;clear S;intro v1 a w1 hv1 hk1 hn1 S
 replace hv1:=hv1.2
 subst hv1
 refine Vq S Im rfl rfl rfl fun a S=>Va S rfl rfl fun a S=>Dl (wp_ret ?_)
 obtain rfl:=Option.some.inj h
 exact Eo S results26 rfl ⟨(S.holds _ (List.mem_of_getElem? (i:=0) rfl)),rfl⟩
theorem Iy (w : World) (O : Nat) (U : Value) (Am : List Int) (Ak : Slc (view w [O]) 1 U (Am.map eInt)) (Aj : Int) (As : (LEnt.blk O [U,iV Aj] 25).holds w) (Ac : Value) (Ag : List Int) (Ae : Slc (view w [O]) 1 Ac (Ag.map eInt)) (r : Int × Int) (h : Jl Am Aj Ag = some r) :
    Calls prog 28 [.pointer (some ⟨O,0,none⟩),Ac].toArray w (Ret w [O] fun _ v w'=>(LEnt.blk O [U,iV r.2] 25).holds w' ∧ v = iV r.1):=by
 refine Mo [O] [.blk O [U,iV Aj] 25] func28 rfl ntmps28 rfl (fun e he=>by simp only [List.mem_singleton] at he;subst he;exact As) (by simp [fps,LEnt.fp]) (by simp [fps,LEnt.fp]) fun a S=>?_
 unfold Jl at h
 replace S:=(S.nl [.blk O [U,iV Aj] 25] [true] rfl).k2 0 1 rfl
 refine Fr (Vk S rfl rfl fun a S=>Dl (Fs (Fg ?_)))
 iterate 3 (refine Vm S rfl rfl ?_;clear S;intro a S)
 refine lv S (Fz Oz (S.tm rfl) (Fl Ae)) rfl ?_;clear S;intro a S
 obtain ⟨r1,hr1,h⟩:=Fb h
 refine Hg 0 S (b:=O) rfl rfl (fun _=>.blk O [U,iV r1.2] 25) (fun _=>Dv (vs:=[.pointer (some ⟨O,0,none⟩),iV (Ag.length : Int)]) ⟨(S.tm rfl),(S.tm rfl),trivial⟩ call16) (Tb _ O U Am (Ak.mono (S.le_arg (Ip (i:=0) (e:=.blk O [U,iV Aj] 25) rfl))) Aj (S.holds _ (List.mem_of_getElem? (i:=0) rfl)) (Ag.length : Int) _ hr1) rfl (fun _ _ _ h=>⟨h.1,fun _ hc=>by cases hc;rfl⟩) ?_;clear S;intro v1 a w1 hv1 hk1 hn1 S
 replace hv1:=hv1.2
 subst hv1
 obtain ⟨hc1,h⟩:=Ia h
 obtain ⟨b1,o1,hm1,hr2⟩:=Fd (a:=a) (x:=.tmp 5) (y:=.tmp 9) (ty:=0) Oz Ae (Ed hc1).1 (Ed hc1).2 (S.tm rfl) (S.tm rfl)
 refine lv S (hr2 _) rfl ?_;clear S;intro a S
 clear hr2
 refine lv S (Hp isAgg3 (off:=o1) (o:=0) (S.tm rfl) (hm1.at S.emb0) rfl) rfl fun a S=>Va S rfl rfl fun a S=>Dl (wp_ret ?_)
 obtain rfl:=Option.some.inj h
 exact Eo S results28 rfl ⟨(S.holds _ (List.mem_of_getElem? (i:=0) rfl)),rfl⟩
theorem CX (w : World) (O : Nat) (U : Value) (Am : List Int) (Ak : Slc (view w [O]) 1 U (Am.map eInt)) (Aj : Int) (As : (LEnt.blk O [U,iV Aj] 25).holds w) (Bp : ByteArray) (r : Eh × Int) (h : Sd Am Aj Bp = some r) :
    Calls prog 27 [.pointer (some ⟨O,0,none⟩),sV Bp].toArray w (Ret w [O] fun _ v w'=>(LEnt.blk O [U,iV r.2] 25).holds w' ∧ v = .agg (Eh.enc r.1).toArray):=by
 refine Mo [O] [.blk O [U,iV Aj] 25] func27 rfl ntmps27 rfl (fun e he=>by simp only [List.mem_singleton] at he;subst he;exact As) (by simp [fps,LEnt.fp]) (by simp [fps,LEnt.fp]) fun a S=>?_
 unfold Sd at h
 replace S:=(S.nl [.blk O [U,iV Aj] 25] [true] rfl).k2 0 1 rfl
 refine Fr (Hz S zeroValue51 (cs:=[sV An,iV 0,iV 0,iV 0,iV 0,iV 0,iV 0,iV 0]) rfl rfl ?_);clear S;intro a w1 b1 hz1 hk1 S
 refine Dz (Vm S rfl rfl fun a S=>Vm S rfl rfl fun a S=>Et S underlying22 sizeOf3 zeroValue3 rfl rfl (pv:=[(0,iV 50),(1,iV 100),(2,iV 200)]) ⟨rfl,rfl,rfl,rfl,rfl,rfl,trivial⟩ (cs:=[iV 50,iV 100,iV 200]) (by kernel_rfl) rfl ?_);clear S;intro a w2 b2 hz2 hk2 S
 obtain ⟨r1,hr1,h⟩:=Fb h
 refine Hg 2 S (b:=O) rfl rfl (fun _=>.blk O [U,iV r1.2] 25) (fun _=>Dv (vs:=[.pointer (some ⟨O,0,none⟩),.slice (some ⟨b2,0,none⟩) 3 3]) ⟨(S.tm rfl),(S.tm rfl),trivial⟩ call28) (Iy _ O U Am (Ak.mono (S.le_arg (Ip (i:=2) (e:=.blk O [U,iV Aj] 25) rfl))) Aj (S.holds _ (List.mem_of_getElem? (i:=2) rfl)) (.slice (some ⟨b2,0,none⟩) 3 3) [50,100,200] (Jr Ih S (i:=0) rfl rfl rfl rfl ((Mk (i:=2) (j:=0) (e:=.blk O [U,iV Aj] 25) (e':=.blk b2 [iV 50,iV 100,iV 200] 3) S rfl rfl rfl) _ rfl)) _ hr1) rfl (fun _ _ _ h=>⟨h.1,fun _ hc=>by cases hc;rfl⟩) ?_;clear S;intro v1 a w3 hv1 hk3 hn1 S
 replace hv1:=hv1.2
 subst hv1
 refine Vm S rfl rfl fun a S=>Et S underlying22 sizeOf3 zeroValue3 rfl rfl (pv:=[(0,iV 1),(1,iV 2),(2,iV 3),(3,iV 4)]) ⟨rfl,rfl,rfl,rfl,rfl,rfl,rfl,rfl,trivial⟩ (cs:=[iV 1,iV 2,iV 3,iV 4]) (by kernel_rfl) rfl ?_;clear S;intro a w4 b3 hz3 hk4 S
 obtain ⟨r2,hr2,h⟩:=Fb h
 refine Hg 3 S (b:=O) rfl rfl (fun _=>.blk O [U,iV r2.2] 25) (fun _=>Dv (vs:=[.pointer (some ⟨O,0,none⟩),.slice (some ⟨b3,0,none⟩) 4 4]) ⟨(S.tm rfl),(S.tm rfl),trivial⟩ call28) (Iy _ O U Am (Ak.mono (S.le_arg (Ip (i:=3) (e:=.blk O [U,iV r1.2] 25) rfl))) r1.2 (S.holds _ (List.mem_of_getElem? (i:=3) rfl)) (.slice (some ⟨b3,0,none⟩) 4 4) [1,2,3,4] (Jr Ih S (i:=0) rfl rfl rfl rfl ((Mk (i:=3) (j:=0) (e:=.blk O [U,iV r1.2] 25) (e':=.blk b3 [iV 1,iV 2,iV 3,iV 4] 3) S rfl rfl rfl) _ rfl)) _ hr2) rfl (fun _ _ _ h=>⟨h.1,fun _ hc=>by cases hc;rfl⟩) ?_;clear S;intro v2 a w5 hv2 hk5 hn2 S
 replace hv2:=hv2.2
 subst hv2
 refine Vm S rfl rfl fun a S=>Et S underlying22 sizeOf3 zeroValue3 rfl rfl (pv:=[(0,iV 25),(1,iV 50)]) ⟨rfl,rfl,rfl,rfl,trivial⟩ (cs:=[iV 25,iV 50]) (by kernel_rfl) rfl ?_;clear S;intro a w6 b4 hz4 hk6 S
 obtain ⟨r3,hr3,h⟩:=Fb h
 refine Hg 4 S (b:=O) rfl rfl (fun _=>.blk O [U,iV r3.2] 25) (fun _=>Dv (vs:=[.pointer (some ⟨O,0,none⟩),.slice (some ⟨b4,0,none⟩) 2 2]) ⟨(S.tm rfl),(S.tm rfl),trivial⟩ call28) (Iy _ O U Am (Ak.mono (S.le_arg (Ip (i:=4) (e:=.blk O [U,iV r2.2] 25) rfl))) r2.2 (S.holds _ (List.mem_of_getElem? (i:=4) rfl)) (.slice (some ⟨b4,0,none⟩) 2 2) [25,50] (Jr Ih S (i:=0) rfl rfl rfl rfl ((Mk (i:=4) (j:=0) (e:=.blk O [U,iV r2.2] 25) (e':=.blk b4 [iV 25,iV 50] 3) S rfl rfl rfl) _ rfl)) _ hr3) rfl (fun _ _ _ h=>⟨h.1,fun _ hc=>by cases hc;rfl⟩) ?_;clear S;intro v3 a w7 hv3 hk7 hn3 S
 replace hv3:=hv3.2
 subst hv3
 refine Vm S rfl rfl fun a S=>Et S underlying22 sizeOf3 zeroValue3 rfl rfl (pv:=[(0,iV 1),(1,iV 1),(2,iV 1),(3,iV 4)]) ⟨rfl,rfl,rfl,rfl,rfl,rfl,rfl,rfl,trivial⟩ (cs:=[iV 1,iV 1,iV 1,iV 4]) (by kernel_rfl) rfl ?_;clear S;intro a w8 b5 hz5 hk8 S
 obtain ⟨r4,hr4,h⟩:=Fb h
 refine Hg 5 S (b:=O) rfl rfl (fun _=>.blk O [U,iV r4.2] 25) (fun _=>Dv (vs:=[.pointer (some ⟨O,0,none⟩),.slice (some ⟨b5,0,none⟩) 4 4]) ⟨(S.tm rfl),(S.tm rfl),trivial⟩ call28) (Iy _ O U Am (Ak.mono (S.le_arg (Ip (i:=5) (e:=.blk O [U,iV r3.2] 25) rfl))) r3.2 (S.holds _ (List.mem_of_getElem? (i:=5) rfl)) (.slice (some ⟨b5,0,none⟩) 4 4) [1,1,1,4] (Jr Ih S (i:=0) rfl rfl rfl rfl ((Mk (i:=5) (j:=0) (e:=.blk O [U,iV r3.2] 25) (e':=.blk b5 [iV 1,iV 1,iV 1,iV 4] 3) S rfl rfl rfl) _ rfl)) _ hr4) rfl (fun _ _ _ h=>⟨h.1,fun _ hc=>by cases hc;rfl⟩) ?_;clear S;intro v4 a w9 hv4 hk9 hn4 S
 replace hv4:=hv4.2
 subst hv4
 refine Vm S rfl rfl fun a S=>Et S underlying22 sizeOf3 zeroValue3 rfl rfl (pv:=[(0,iV 0),(1,iV 1),(2,iV 2)]) ⟨rfl,rfl,rfl,rfl,rfl,rfl,trivial⟩ (cs:=[iV 0,iV 1,iV 2]) (by kernel_rfl) rfl ?_;clear S;intro a w10 b6 hz6 hk10 S
 obtain ⟨r5,hr5,h⟩:=Fb h
 refine Hg 6 S (b:=O) rfl rfl (fun _=>.blk O [U,iV r5.2] 25) (fun _=>Dv (vs:=[.pointer (some ⟨O,0,none⟩),.slice (some ⟨b6,0,none⟩) 3 3]) ⟨(S.tm rfl),(S.tm rfl),trivial⟩ call28) (Iy _ O U Am (Ak.mono (S.le_arg (Ip (i:=6) (e:=.blk O [U,iV r4.2] 25) rfl))) r4.2 (S.holds _ (List.mem_of_getElem? (i:=6) rfl)) (.slice (some ⟨b6,0,none⟩) 3 3) [0,1,2] (Jr Ih S (i:=0) rfl rfl rfl rfl ((Mk (i:=6) (j:=0) (e:=.blk O [U,iV r4.2] 25) (e':=.blk b6 [iV 0,iV 1,iV 2] 3) S rfl rfl rfl) _ rfl)) _ hr5) rfl (fun _ _ _ h=>⟨h.1,fun _ hc=>by cases hc;rfl⟩) ?_;clear S;intro v5 a w11 hv5 hk11 hn5 S
 replace hv5:=hv5.2
 subst hv5
 refine Vm S rfl rfl fun a S=>Et S underlying22 sizeOf3 zeroValue3 rfl rfl (pv:=[(0,iV 0),(1,iV 0),(2,iV 5),(3,iV 10)]) ⟨rfl,rfl,rfl,rfl,rfl,rfl,rfl,rfl,trivial⟩ (cs:=[iV 0,iV 0,iV 5,iV 10]) (by kernel_rfl) rfl ?_;clear S;intro a w12 b7 hz7 hk12 S
 obtain ⟨r6,hr6,h⟩:=Fb h
 refine Hg 7 S (b:=O) rfl rfl (fun _=>.blk O [U,iV r6.2] 25) (fun _=>Dv (vs:=[.pointer (some ⟨O,0,none⟩),.slice (some ⟨b7,0,none⟩) 4 4]) ⟨(S.tm rfl),(S.tm rfl),trivial⟩ call28) (Iy _ O U Am (Ak.mono (S.le_arg (Ip (i:=7) (e:=.blk O [U,iV r5.2] 25) rfl))) r5.2 (S.holds _ (List.mem_of_getElem? (i:=7) rfl)) (.slice (some ⟨b7,0,none⟩) 4 4) [0,0,5,10] (Jr Ih S (i:=0) rfl rfl rfl rfl ((Mk (i:=7) (j:=0) (e:=.blk O [U,iV r5.2] 25) (e':=.blk b7 [iV 0,iV 0,iV 5,iV 10] 3) S rfl rfl rfl) _ rfl)) _ hr6) rfl (fun _ _ _ h=>⟨h.1,fun _ hc=>by cases hc;rfl⟩) ?_;clear S;intro v6 a w13 hv6 hk13 hn6 S
 replace hv6:=hv6.2
 subst hv6
 refine lv S (Mj TK (pv:=[(0,sV Bp),(1,iV r1.1),(2,iV r2.1),(3,iV r3.1),(4,iV r4.1),(5,iV r5.1),(6,iV r6.1)]) ⟨rfl,(S.tm rfl),rfl,(S.tm rfl),rfl,(S.tm rfl),rfl,(S.tm rfl),rfl,(S.tm rfl),rfl,(S.tm rfl),rfl,(S.tm rfl),trivial⟩ (cs:=[sV Bp,iV r1.1,iV r2.1,iV r3.1,iV r4.1,iV r5.1,iV r6.1,iV 0]) (by kernel_rfl)) rfl fun a S=>Hz S zeroValue51 (cs:=[sV An,iV 0,iV 0,iV 0,iV 0,iV 0,iV 0,iV 0]) rfl rfl ?_;clear S;intro a w14 b8 hz8 hk14 S
 refine Fh S (S.tm rfl) (S.tm rfl) (i:=0) (off:=0) rfl sizeOf51 (vs:=(Eh.enc (Eh.mk Bp r1.1 r2.1 r3.1 r4.1 r5.1 r6.1 0))) rfl rfl rfl rfl ?_;clear S;intro w15 hk15 S
 refine Ld ?_
 replace S:=(S.nl [.blk b8 (Eh.enc (Eh.mk Bp r1.1 r2.1 r3.1 r4.1 r5.1 r6.1 0)) 51,.blk b1 (Eh.enc (Eh.mk An 0 0 0 0 0 0 0)) 51,.blk O [U,iV r6.2] 25] [true,false,false,false,false,false,false,true,true] rfl).k3 0 4 5 rfl
 refine Tn (Fs ?_)
 obtain ⟨r7,hr7,h⟩:=Fb h
 refine Hd [7] ([O]) Tryz.mixed S rfl (by kernel_rfl) ?_;clear S;intro w19 hk19 hsel S
 refine Gu 0 S hsel rfl rfl (by kernel_rfl) (by kernel_rfl) rfl (fun _=>(Ge KS (S.tm rfl))) fun a S=>Ef 1 S hsel rfl (by kernel_rfl) (by kernel_rfl) (by kernel_rfl) (by kernel_rfl) rfl (fun _ hw=>(Hp isAgg3 (off:=0) (o:=6) (S.tm rfl) ((S.blk_mem (i:=0) (cells:=(Eh.enc (Eh.mk Bp r1.1 r2.1 r3.1 r4.1 r5.1 r6.1 0))) (b:=b8) (T:=51) rfl (Mk (i:=2) (j:=0) (e:=.blk O [U,iV r6.2] 25) (e':=.blk b8 (Eh.enc (Eh.mk Bp r1.1 r2.1 r3.1 r4.1 r5.1 r6.1 0)) 51) S rfl rfl rfl)).kept hw) rfl)) fun a S=>Gu 2 S hsel rfl rfl (by kernel_rfl) (by kernel_rfl) rfl (fun _=>(Rm (S.tm rfl))) fun a S=>Gw 3 (by kernel_rfl) rfl (Et S underlying22 sizeOf3 zeroValue3 rfl rfl (pv:=[(0,iV 0),(1,iV 5),(2,iV 90)]) ⟨rfl,rfl,rfl,rfl,rfl,rfl,trivial⟩ (cs:=[iV 0,iV 5,iV 90]) (by kernel_rfl) rfl ?_);clear S;intro a w20 b10 hz10 hk20 S
 refine Ld (Hx (Keep.none hk20) (Gw 4 (by kernel_rfl) rfl ?_))
 refine Hg 3 S (b:=O) rfl rfl (fun _=>.blk O [U,iV r7.2] 25) (fun _=>Dv (vs:=[.pointer (some ⟨O,0,none⟩),.slice (some ⟨b10,0,none⟩) 3 3]) ⟨(S.tm rfl),(S.tm rfl),trivial⟩ call28) (Iy _ O U Am (Ak.mono (S.le_arg (Ip (i:=3) (e:=.blk O [U,iV r6.2] 25) rfl))) r6.2 (S.holds _ (List.mem_of_getElem? (i:=3) rfl)) (.slice (some ⟨b10,0,none⟩) 3 3) [0,5,90] (Jr Ih S (i:=0) rfl rfl rfl rfl ((Mk (i:=3) (j:=0) (e:=.blk O [U,iV r6.2] 25) (e':=.blk b10 [iV 0,iV 5,iV 90] 3) S rfl rfl rfl) _ rfl)) _ hr7) rfl (fun _ _ _ h=>⟨h.1,fun _ hc=>by cases hc;rfl⟩) ?_;clear S;intro v8 a w21 hv8 hk21 hn8 S
 replace hv8:=hv8.2
 subst hv8
 refine Ld (Hx hk21 (Gu 5 S hsel rfl rfl (by kernel_rfl) (by kernel_rfl) rfl (fun _=>(Gf (S.tm rfl) (S.tm rfl))) fun a S=>Gu 6 S hsel rfl rfl (by kernel_rfl) (by kernel_rfl) rfl (fun _=>(Ge KT (S.tm rfl))) fun a S=>Xz 7 ([O] ++ [b8]) rfl (by kernel_rfl) rfl (Fh S (S.tm rfl) (S.tm rfl) (i:=1) (off:=7) rfl sizeOf3 (vs:=[iV (W (r6.1 + r7.1))]) rfl rfl rfl rfl ?_)));clear S;intro w22 hk22 S
 refine Ld (Ya (Wu (by kernel_rfl) ?_))
 clear hsel
 replace S:=(S.nl [.blk b8 (Eh.enc (Eh.mk Bp r1.1 r2.1 r3.1 r4.1 r5.1 r6.1 (W (r6.1 + r7.1)))) 51,.blk b1 (Eh.enc (Eh.mk An 0 0 0 0 0 0 0)) 51,.blk O [U,iV r7.2] 25] [false,true,true,true] rfl).k2 4 5 rfl
 refine Tn (Fr (lv S (Fx isAgg51 sizeOf51 (off:=0) (o:=0) (part:=(Eh.enc (Eh.mk Bp r1.1 r2.1 r3.1 r4.1 r5.1 r6.1 (W (r6.1 + r7.1))))) rfl rfl (S.tm rfl) (S.cellsAt (i:=0) rfl)) rfl fun a S=>Fh S (S.tm rfl) (S.tm rfl) (i:=1) (off:=0) rfl sizeOf51 (vs:=(Eh.enc (Eh.mk Bp r1.1 r2.1 r3.1 r4.1 r5.1 r6.1 (W (r6.1 + r7.1))))) rfl rfl rfl rfl ?_));clear S;intro w23 hk23 S
 refine Dl (wp_ret ?_)
 obtain rfl:=Option.some.inj h
 exact Zh S (rs:=[.cell 4 51]) (vs:=[.agg (Eh.enc (Eh.mk Bp r1.1 r2.1 r3.1 r4.1 r5.1 r6.1 (W (r6.1 + r7.1)))).toArray]) results27 ⟨(Uw (off:=0) S rfl isAgg51 sizeOf51 rfl (S.cellsAt (i:=1) rfl)),trivial⟩ rfl ⟨(S.holds _ (List.mem_of_getElem? (i:=2) rfl)),rfl⟩
theorem CD (w : World) (O : Nat) (U : Value) (Am : List Int) (Ak : Slc (view w [O]) 1 U (Am.map eInt)) (Aj : Int) (As : (LEnt.blk O [U,iV Aj] 25).holds w) (r : (List Eh) × Int) (h : Th Am Aj = some r) :
    Calls prog 11 [.pointer (some ⟨O,0,none⟩)].toArray w (Ret w [O] fun τ v w'=>(LEnt.blk O [U,iV r.2] 25).holds w' ∧ Td τ 51 8 v r.1.length (r.1.flatMap Eh.enc)):=by
 refine Mo [O] [.blk O [U,iV Aj] 25] func11 rfl ntmps11 rfl (fun e he=>by simp only [List.mem_singleton] at he;subst he;exact As) (by simp [fps,LEnt.fp]) (by simp [fps,LEnt.fp]) fun a S=>?_
 unfold Th at h
 replace S:=(S.nl [.blk O [U,iV Aj] 25] [true] rfl).k1 0 rfl
 refine Fr (Vk S rfl rfl fun a S=>Dz (Vk S rfl rfl ?_));clear S;intro a S
 replace S:=S.nil 51 8
 refine Dl (Fs (Fr (Et S underlying40 sizeOf9 zeroValue9 rfl rfl (pv:=[(0,sV Mv),(1,sV Su),(2,sV Uy)]) ⟨rfl,rfl,rfl,rfl,rfl,rfl,trivial⟩ (cs:=[sV Mv,sV Su,sV Uy]) (by kernel_rfl) rfl ?_)));clear S;intro a w1 b1 hz1 hk1 S
 refine lv S (Fz Wv (S.tm rfl) ⟨_,_,rfl⟩) rfl fun a S=>lv S (Rm rfl) rfl fun a S=>Dl ?_
 replace S:=(S.nl [.blk b1 [sV Mv,sV Su,sV Uy] 9,.own (.slice none 0 0) 51 8 ([] : List Eh).length (([] : List Eh).flatMap Eh.enc),.blk O [U,iV Aj] 25] [true,true,true] rfl).k5 0 3 6 7 8 rfl
 replace S:=S.litOwn (i:=0) (xs:=[Mv,Su,Uy]) rfl Qm rfl rfl rfl
 replace S:=S.nk [.own (.slice (some ⟨b1,0,none⟩) 3 3) 9 1 ([Mv,Su,Uy] : List ByteArray).length (([Mv,Su,Uy] : List ByteArray).flatMap Xh),.own (.slice none 0 0) 51 8 ([] : List Eh).length (([] : List Eh).flatMap Eh.enc),.blk O [U,iV Aj] 25] [(0,.pointer (some ⟨O,0,none⟩)),(3,(.slice none 0 0)),(6,(.slice (some ⟨b1,0,none⟩) 3 3)),(7,iV (([Mv,Su,Uy] : List ByteArray).length : Int)),(8,iV 0)] [] rfl (subR rfl)
 obtain ⟨φ1,hl1,hs1,S⟩:=S.freezeT (xs:=([Mv,Su,Uy] : List ByteArray)) (enc:=Xh) (i:=0) rfl (fun c hc hh=>BN S (i:=2) rfl rfl (j:=0) rfl rfl (by simp at hc;subst hc;exact hh))
 replace S:=S.nk [.own (.slice none 0 0) 51 8 ([] : List Eh).length (([] : List Eh).flatMap Eh.enc),.blk O [U,iV Aj] 25] [(0,.pointer (some ⟨O,0,none⟩)),(3,(.slice none 0 0)),(6,(.slice (some ⟨b1,0,none⟩) 3 3)),(7,iV (([Mv,Su,Uy] : List ByteArray).length : Int)),(8,iV 0)] [] rfl (subR rfl)
 obtain ⟨j1,hj1,h⟩:=Eu h
 refine En (fun a w'=>∃ x1 : List Eh,∃ x2 : Int,∃ v1 : Value,j1 x1 x2 = some r ∧ Sx w [O] φ1 [.own v1 51 8 x1.length (x1.flatMap Eh.enc),.blk O [U,iV x2] 25] [(3,v1)] 23 a w') ?_ ?_
 ·refine wp_block (Hb (fun (ys1 : List ByteArray) a w'=>∃ i1 : Nat,∃ x1 : List Eh,∃ x2 : Int,∃ v1 : Value,(∃ dn,([Mv,Su,Uy] : List ByteArray) = dn ++ ys1 ∧ dn.length = i1) ∧ Kf Am j1 ys1 i1 x1 x2 = some r ∧ Sx w [O] φ1 [.own v1 51 8 x1.length (x1.flatMap Eh.enc),.blk O [U,iV x2] 25] [(0,.pointer (some ⟨O,0,none⟩)),(3,v1),(6,(.slice (some ⟨b1,0,none⟩) 3 3)),(7,iV (([Mv,Su,Uy] : List ByteArray).length : Int)),(8,iV (i1 : Int))] 23 a w') List.length ([Mv,Su,Uy] : List ByteArray) ⟨0,([] : List Eh),Aj,(.slice none 0 0),⟨[],rfl,rfl⟩,h,S.nf [true,true] rfl (subR rfl)⟩ ?_)
  clear S h;rintro ys1 a w2 ⟨i1,x1,x2,v1,⟨dn,hd1,hi1⟩,h,S⟩
  cases ys1 with
  | nil =>
   rw [Kf.eq_1] at h
   refine Fr (Vb S Ex rfl rfl rfl fun a S=>Ld ?_)
   replace S:=S.k6 0 3 6 7 8 9 rfl
   exact Tn (Fs (wp_cond_false ((S.tm rfl).trans (congrArg Value.bool (Io hd1 hi1))) (wp_exit (Ei (Ei (Gp (Tn (⟨x1,x2,v1,h,S.nf [true,true] rfl ⟨rfl,trivial⟩⟩))))))))
  | cons y1 ys1 =>
   rw [Kf.eq_2] at h
   refine Fr (Vb S Ex rfl rfl rfl fun a S=>Ld ?_)
   replace S:=S.k6 0 3 6 7 8 9 rfl
   refine Tn (Fs (wp_cond_true ((S.tm rfl).trans (congrArg Value.bool (Hv hd1 hi1))) (wp_skip (Tn (Fs ?_)))))
   obtain ⟨j2,hj2,h⟩:=Eu h
   refine En (fun a w'=>∃ x3 : List Eh,∃ x4 : Int,∃ v2 : Value,j2 x3 x4 = some r ∧ Sx w [O] φ1 [.own v2 51 8 x3.length (x3.flatMap Eh.enc),.blk O [U,iV x4] 25] [(0,.pointer (some ⟨O,0,none⟩)),(3,v2),(6,(.slice (some ⟨b1,0,none⟩) 3 3)),(7,iV (([Mv,Su,Uy] : List ByteArray).length : Int)),(8,iV (i1 : Int))] 23 a w') ?_ ?_
   ·refine wp_block (Fs (Fg ?_))
    obtain ⟨b2,o1,hm1,hr1⟩:=Fd (a:=a) (x:=.tmp 6) (y:=.tmp 8) (ty:=0) Wv (He Qm hs1) (Iq hd1 hi1) rfl (S.tm rfl) (S.tm rfl)
    refine lv S (hr1 _) rfl ?_;clear S;intro a S
    clear hr1
    refine lv S (Hp isAgg9 (off:=o1) (o:=0) (S.tm rfl) (hm1.at S.emb) rfl) rfl fun a S=>Va S rfl rfl fun a S=>Dz (Vm S rfl rfl ?_);clear S;intro a S
    obtain ⟨r1,hr2,h⟩:=Fb h
    refine Hg 1 S (b:=O) rfl rfl (fun _=>.blk O [U,iV r1.2] 25) (fun _=>Dv (vs:=[.pointer (some ⟨O,0,none⟩),iV 6]) ⟨(S.tm rfl),rfl,trivial⟩ call26) (Xo _ O U Am (Ak.mono (S.le_arg (Ip (i:=1) (e:=.blk O [U,iV x2] 25) rfl))) x2 (S.holds _ (List.mem_of_getElem? (i:=1) rfl)) 6 _ hr2) rfl (fun _ _ _ h=>⟨h.1,fun _ hc=>by cases hc;rfl⟩) ?_;clear S;intro v3 a w5 hv1 hk2 hn1 S
    replace hv1:=hv1.2
    subst hv1
    refine Vu S Hh rfl rfl fun a S=>Dl ?_
    obtain ⟨j3,hj3,h⟩:=Eu h
    refine En (fun a w'=>∃ x5 : List Eh,∃ x6 : Int,∃ v4 : Value,j3 x5 x6 = some r ∧ Sx w [O] φ1 [.own v4 51 8 x5.length (x5.flatMap Eh.enc),.blk O [U,iV x6] 25] [(0,.pointer (some ⟨O,0,none⟩)),(3,v4),(6,(.slice (some ⟨b1,0,none⟩) 3 3)),(7,iV (([Mv,Su,Uy] : List ByteArray).length : Int)),(8,iV (i1 : Int))] 23 a w') ?_ ?_
    ·refine Fc h (S.tm rfl) (fun hb1 h=>?_) (fun hb1 h=>?_)
     ·refine Fg ?_
      iterate 3 (refine Vm S rfl rfl ?_;clear S;intro a S)
      obtain ⟨r2,hr3,h⟩:=Fb h
      refine Hg 1 S (b:=O) rfl rfl (fun _=>.blk O [U,iV r2.2] 25) (fun _=>Dv (vs:=[.pointer (some ⟨O,0,none⟩),sV y1]) ⟨(S.tm rfl),(S.tm rfl),trivial⟩ call27) (CX _ O U Am (Ak.mono (S.le_arg (Ip (i:=1) (e:=.blk O [U,iV r1.2] 25) rfl))) r1.2 (S.holds _ (List.mem_of_getElem? (i:=1) rfl)) y1 _ hr3) rfl (fun _ _ _ h=>⟨h.1,fun _ hc=>by cases hc;rfl⟩) ?_;clear S;intro v5 a w7 hv2 hk3 hn2 S
      replace hv2:=hv2.2
      subst hv2
      refine Et S underlying26 sizeOf51 zeroValue51 rfl rfl (pv:=[(0,.agg (Eh.enc r2.1).toArray)]) ⟨rfl,(S.tm rfl),trivial⟩ (cs:=[sV r2.1.Key,iV r2.1.Metres,iV r2.1.Stroke,iV r2.1.Course,iV r2.1.Legs,iV r2.1.Sex,iV r2.1.Young,iV r2.1.Old]) (by kernel_rfl) rfl ?_;clear S;intro a w8 b3 hz2 hk4 S
      obtain ⟨hc1,h⟩:=Ia h
      refine Mb Vi Eh.enc_ok S (S.tm rfl) (i:=1) rfl (S.tm rfl) (j:=0) rfl (ys:=[r2.1]) rfl rfl rfl rfl (by have:=Mn hc1;omega) rfl ?_;clear S;intro v6 a w9 hk5 S
      refine Va S rfl rfl fun a S=>Ld ?_
      replace S:=(S.nl [.own v6 51 8 (x1 ++ [r2.1]).length ((x1 ++ [r2.1]).flatMap Eh.enc),.blk O [U,iV r2.2] 25] [false,true,true] rfl).k5 0 3 6 7 8 rfl
      exact Tn (⟨(x1 ++ [r2.1]),r2.2,v6,h,S.nf [true,true] rfl (subR rfl)⟩)
     ·exact wp_skip (Tn (⟨x1,r1.2,v1,h,S.nf [true,true] rfl (subR rfl)⟩))
    clear S h;rintro a w6 ⟨x5,x6,v4,h,S⟩;rw [hj3] at h;clear hj3 j3
    exact Ho (Tn (⟨x5,x6,v4,h,S.nf [true,true] rfl (subR rfl)⟩))
   clear S h;rintro a w4 ⟨x3,x4,v2,h,S⟩;rw [hj2] at h;clear hj2 j2
   exact Tn (Fg (Vq S Gf rfl rfl rfl fun a S=>Vm S rfl rfl fun a S=>Dl (⟨ys1,⟨i1 + 1,x3,x4,v2,⟨_,(hd1).trans (List.append_cons _ _ _),by simp [hi1]⟩,h,S.nf [true,true] rfl ⟨rfl,rfl,rfl,rfl,(congrArg (fun z=>some (Value.int .i64 z)) (Hw hd1 hi1 (Jn (He Qm hs1)))),trivial⟩⟩,Nat.lt_succ_self _⟩)))
 clear S h;rintro a w3 ⟨x1,x2,v1,h,S⟩;rw [hj1] at h;clear hj1 j1
 refine Tn (Fr (Vm S rfl rfl fun a S=>Va S rfl rfl fun a S=>Dl (wp_ret ?_)))
 obtain rfl:=Option.some.inj h
 exact Eo S results11 rfl ⟨(S.holds _ (List.mem_of_getElem? (i:=1) rfl)),(LR S (i:=0) rfl (fun c hc hh=>BN S (i:=1) rfl rfl (j:=0) rfl rfl (by simp at hc;subst hc;exact hh)))⟩
theorem Ph (w : World) (O : Nat) (U : Value) (Am : List Int) (Ak : Slc (view w [O]) 1 U (Am.map eInt)) (Aj : Int) (As : (LEnt.blk O [U,iV Aj] 25).holds w) (Bl : Int) (Bg : Int) (r : Int × Int) (h : Nl Am Aj Bl Bg = some r) :
    Calls prog 6 [.pointer (some ⟨O,0,none⟩),iV Bl,iV Bg].toArray w (Ret w [O] fun _ v w'=>(LEnt.blk O [U,iV r.2] 25).holds w' ∧ v = iV r.1):=by
 refine Mo [O] [.blk O [U,iV Aj] 25] func6 rfl ntmps6 rfl (fun e he=>by simp only [List.mem_singleton] at he;subst he;exact As) (by simp [fps,LEnt.fp]) (by simp [fps,LEnt.fp]) fun a S=>?_
 unfold Nl at h
 replace S:=(S.nl [.blk O [U,iV Aj] 25] [true] rfl).k3 0 1 2 rfl
 refine Fr (Vk S rfl rfl fun a S=>Dl (Fs (Fr (Vm S rfl rfl fun a S=>Vm S rfl rfl fun a S=>Vb S Ex rfl rfl rfl ?_))));clear S;intro a S
 refine Dl (Fc h (S.tm rfl) (fun hb1 h=>?_) (fun hb1 h=>?_))
 ·refine Fr (Vm S rfl rfl fun a S=>Va S rfl rfl fun a S=>Dl (wp_ret (Dy ?_)))
  obtain rfl:=Option.some.inj h
  exact Eo S results6 rfl ⟨(S.holds _ (List.mem_of_getElem? (i:=0) rfl)),rfl⟩
 ·refine wp_skip (Tn (Fs (Fg ?_)))
  iterate 4 (refine Vm S rfl rfl ?_;clear S;intro a S)
  refine Vb S Ja rfl rfl rfl fun a S=>Vq S Gf rfl rfl rfl ?_;clear S;intro a S
  obtain ⟨r1,hr1,h⟩:=Fb h
  refine Hg 0 S (b:=O) rfl rfl (fun _=>.blk O [U,iV r1.2] 25) (fun _=>Dv (vs:=[.pointer (some ⟨O,0,none⟩),iV (W ((W (Bg - Bl)) + 1))]) ⟨(S.tm rfl),(S.tm rfl),trivial⟩ call16) (Tb _ O U Am (Ak.mono (S.le_arg (Ip (i:=0) (e:=.blk O [U,iV Aj] 25) rfl))) Aj (S.holds _ (List.mem_of_getElem? (i:=0) rfl)) (W ((W (Bg - Bl)) + 1)) _ hr1) rfl (fun _ _ _ h=>⟨h.1,fun _ hc=>by cases hc;rfl⟩) ?_;clear S;intro v1 a w1 hv1 hk1 hn1 S
  replace hv1:=hv1.2
  subst hv1
  refine Vb S Gf rfl rfl rfl fun a S=>Va S rfl rfl fun a S=>Ld ?_
  replace S:=(S.nl [.blk O [U,iV r1.2] 25] [true] rfl).k1 6 rfl
  refine Tn (wp_ret ?_)
  obtain rfl:=Option.some.inj h
  exact Eo S results6 rfl ⟨(S.holds _ (List.mem_of_getElem? (i:=0) rfl)),rfl⟩
theorem AZ (w : World) (O : Nat) (U : Value) (Am : List Int) (Ak : Slc (view w [O]) 1 U (Am.map eInt)) (Aj : Int) (As : (LEnt.blk O [U,iV Aj] 25).holds w) (r : Lu × Int) (h : Qo Am Aj = some r) :
    Calls prog 12 [.pointer (some ⟨O,0,none⟩)].toArray w (Ret w [O] fun τ v w'=>(LEnt.blk O [U,iV r.2] 25).holds w' ∧ ∃ q : R28,v = .agg (R28.enc q).toArray ∧ Xm τ r.1 q):=by
 refine Mo [O] [.blk O [U,iV Aj] 25] func12 rfl ntmps12 rfl (fun e he=>by simp only [List.mem_singleton] at he;subst he;exact As) (by simp [fps,LEnt.fp]) (by simp [fps,LEnt.fp]) fun a S=>?_
 unfold Qo at h
 replace S:=(S.nl [.blk O [U,iV Aj] 25] [true] rfl).k1 0 rfl
 refine Fr (Hz S zeroValue28 (cs:=[.slice none 0 0,iV 0,iV 0]) rfl rfl ?_);clear S;intro a w1 b1 hz1 hk1 S
 replace S:=S.nil 3 1
 refine Dz (Vm S rfl rfl fun a S=>Et S underlying22 sizeOf3 zeroValue3 rfl rfl (pv:=[(0,iV 1),(1,iV 2)]) ⟨rfl,rfl,rfl,rfl,trivial⟩ (cs:=[iV 1,iV 2]) (by kernel_rfl) rfl ?_);clear S;intro a w2 b2 hz2 hk2 S
 obtain ⟨r1,hr1,h⟩:=Fb h
 refine Hg 3 S (b:=O) rfl rfl (fun _=>.blk O [U,iV r1.2] 25) (fun _=>Dv (vs:=[.pointer (some ⟨O,0,none⟩),.slice (some ⟨b2,0,none⟩) 2 2]) ⟨(S.tm rfl),(S.tm rfl),trivial⟩ call28) (Iy _ O U Am (Ak.mono (S.le_arg (Ip (i:=3) (e:=.blk O [U,iV Aj] 25) rfl))) Aj (S.holds _ (List.mem_of_getElem? (i:=3) rfl)) (.slice (some ⟨b2,0,none⟩) 2 2) [1,2] (Jr Ih S (i:=0) rfl rfl rfl rfl ((Mk (i:=3) (j:=0) (e:=.blk O [U,iV Aj] 25) (e':=.blk b2 [iV 1,iV 2] 3) S rfl rfl rfl) _ rfl)) _ hr1) rfl (fun _ _ _ h=>⟨h.1,fun _ hc=>by cases hc;rfl⟩) ?_;clear S;intro v1 a w3 hv1 hk3 hn1 S
 replace hv1:=hv1.2
 subst hv1
 refine Vm S rfl rfl fun a S=>Et S underlying22 sizeOf3 zeroValue3 rfl rfl (pv:=[(0,iV 0),(1,iV 0),(2,iV 1),(3,iV 2)]) ⟨rfl,rfl,rfl,rfl,rfl,rfl,rfl,rfl,trivial⟩ (cs:=[iV 0,iV 0,iV 1,iV 2]) (by kernel_rfl) rfl ?_;clear S;intro a w4 b3 hz3 hk4 S
 obtain ⟨r2,hr2,h⟩:=Fb h
 refine Hg 4 S (b:=O) rfl rfl (fun _=>.blk O [U,iV r2.2] 25) (fun _=>Dv (vs:=[.pointer (some ⟨O,0,none⟩),.slice (some ⟨b3,0,none⟩) 4 4]) ⟨(S.tm rfl),(S.tm rfl),trivial⟩ call28) (Iy _ O U Am (Ak.mono (S.le_arg (Ip (i:=4) (e:=.blk O [U,iV r1.2] 25) rfl))) r1.2 (S.holds _ (List.mem_of_getElem? (i:=4) rfl)) (.slice (some ⟨b3,0,none⟩) 4 4) [0,0,1,2] (Jr Ih S (i:=0) rfl rfl rfl rfl ((Mk (i:=4) (j:=0) (e:=.blk O [U,iV r1.2] 25) (e':=.blk b3 [iV 0,iV 0,iV 1,iV 2] 3) S rfl rfl rfl) _ rfl)) _ hr2) rfl (fun _ _ _ h=>⟨h.1,fun _ hc=>by cases hc;rfl⟩) ?_;clear S;intro v2 a w5 hv2 hk5 hn2 S
 replace hv2:=hv2.2
 subst hv2
 refine lv S (Mj bt_28 (pv:=[(1,iV r1.1),(2,iV r2.1)]) ⟨rfl,(S.tm rfl),rfl,(S.tm rfl),trivial⟩ (cs:=[.slice none 0 0,iV r1.1,iV r2.1]) (by kernel_rfl)) rfl fun a S=>Hz S zeroValue28 (cs:=[.slice none 0 0,iV 0,iV 0]) rfl rfl ?_;clear S;intro a w6 b4 hz4 hk6 S
 replace S:=S.nil 3 1
 refine Fh S (S.tm rfl) (S.tm rfl) (i:=1) (off:=0) rfl sizeOf28 (vs:=[.slice none 0 0,iV r1.1,iV r2.1]) rfl rfl rfl rfl ?_;clear S;intro w7 hk7 S
 replace S:=S.nil 3 1
 refine Ld ?_
 replace S:=(S.nl [.own (.slice none 0 0) 3 1 ([] : List Int).length (([] : List Int).flatMap eInt),.blk b4 [(.slice none 0 0),iV r1.1,iV r2.1] 28,.own (.slice none 0 0) 3 1 ([] : List Int).length (([] : List Int).flatMap eInt),.blk b1 [(.slice none 0 0),iV 0,iV 0] 28,.blk O [U,iV r2.2] 25] [true,false,true,false,false,true,true,true] rfl).k3 0 2 3 rfl
 refine Tn (Fr (Vm S rfl rfl fun a S=>Et S underlying22 sizeOf3 zeroValue3 rfl rfl (pv:=[(0,iV 10),(1,iV 9),(2,iV 7),(3,iV 5)]) ⟨rfl,rfl,rfl,rfl,rfl,rfl,rfl,rfl,trivial⟩ (cs:=[iV 10,iV 9,iV 7,iV 5]) (by kernel_rfl) rfl ?_));clear S;intro a w8 b5 hz5 hk8 S
 obtain ⟨r3,hr3,h⟩:=Fb h
 refine Hg 5 S (b:=O) rfl rfl (fun _=>.blk O [U,iV r3.2] 25) (fun _=>Dv (vs:=[.pointer (some ⟨O,0,none⟩),.slice (some ⟨b5,0,none⟩) 4 4]) ⟨(S.tm rfl),(S.tm rfl),trivial⟩ call28) (Iy _ O U Am (Ak.mono (S.le_arg (Ip (i:=5) (e:=.blk O [U,iV r2.2] 25) rfl))) r2.2 (S.holds _ (List.mem_of_getElem? (i:=5) rfl)) (.slice (some ⟨b5,0,none⟩) 4 4) [10,9,7,5] (Jr Ih S (i:=0) rfl rfl rfl rfl ((Mk (i:=5) (j:=0) (e:=.blk O [U,iV r2.2] 25) (e':=.blk b5 [iV 10,iV 9,iV 7,iV 5] 3) S rfl rfl rfl) _ rfl)) _ hr3) rfl (fun _ _ _ h=>⟨h.1,fun _ hc=>by cases hc;rfl⟩) ?_;clear S;intro v3 a w9 hv3 hk9 hn3 S
 replace hv3:=hv3.2
 subst hv3
 refine Va S rfl rfl fun a S=>Ld ?_
 replace S:=(S.nl [.own (.slice none 0 0) 3 1 ([] : List Int).length (([] : List Int).flatMap eInt),.blk b4 [(.slice none 0 0),iV r1.1,iV r2.1] 28,.own (.slice none 0 0) 3 1 ([] : List Int).length (([] : List Int).flatMap eInt),.blk b1 [(.slice none 0 0),iV 0,iV 0] 28,.blk O [U,iV r3.2] 25] [false,true,true,true,true,true] rfl).k4 0 2 3 4 rfl
 refine Tn (Fs (Fr (Vm S rfl rfl ?_)));clear S;intro a S
 obtain ⟨r4,hr4,h⟩:=Fb h
 refine Hg 4 S (b:=O) rfl rfl (fun _=>.blk O [U,iV r4.2] 25) (fun _=>Dv (vs:=[.pointer (some ⟨O,0,none⟩),iV 0,iV 5]) ⟨(S.tm rfl),rfl,rfl,trivial⟩ call6) (Ph _ O U Am (Ak.mono (S.le_arg (Ip (i:=4) (e:=.blk O [U,iV r3.2] 25) rfl))) r3.2 (S.holds _ (List.mem_of_getElem? (i:=4) rfl)) 0 5 _ hr4) rfl (fun _ _ _ h=>⟨h.1,fun _ hc=>by cases hc;rfl⟩) ?_;clear S;intro v4 a w10 hv4 hk10 hn4 S
 replace hv4:=hv4.2
 subst hv4
 refine lv S (Rm rfl) rfl fun a S=>Dl ?_
 replace S:=(S.nl [.own (.slice none 0 0) 3 1 ([] : List Int).length (([] : List Int).flatMap eInt),.blk b4 [(.slice none 0 0),iV r1.1,iV r2.1] 28,.own (.slice none 0 0) 3 1 ([] : List Int).length (([] : List Int).flatMap eInt),.blk b1 [(.slice none 0 0),iV 0,iV 0] 28,.blk O [U,iV r4.2] 25] [true,true,true,true,true] rfl).k6 0 2 3 4 16 17 rfl
 obtain ⟨j1,hj1,h⟩:=Eu h
 refine En (fun a w'=>∃ x1 : List Int,∃ x2 : Int,∃ v5 : Value,j1 x1 x2 = some r ∧ Sx w [O] nov [.own v5 3 1 x1.length (x1.flatMap eInt),.blk b4 [v5,iV r1.1,iV r2.1] 28,.own (.slice none 0 0) 3 1 ([] : List Int).length (([] : List Int).flatMap eInt),.blk b1 [(.slice none 0 0),iV 0,iV 0] 28,.blk O [U,iV x2] 25] [(2,.pointer (some ⟨b1,0,none⟩)),(3,.pointer (some ⟨b4,0,none⟩))] 33 a w') ?_ ?_
 ·refine wp_block (Hb (fun (m1 : Nat) a w'=>∃ x1 : List Int,∃ x2 : Int,∃ x3 : Int,∃ x4 : Int,∃ v5 : Value,Js r4 Am j1 m1 x1 x2 x3 x4 = some r ∧ Sx w [O] nov [.own v5 3 1 x1.length (x1.flatMap eInt),.blk b4 [v5,iV r1.1,iV r2.1] 28,.own (.slice none 0 0) 3 1 ([] : List Int).length (([] : List Int).flatMap eInt),.blk b1 [(.slice none 0 0),iV 0,iV 0] 28,.blk O [U,iV x2] 25] [(0,.pointer (some ⟨O,0,none⟩)),(2,.pointer (some ⟨b1,0,none⟩)),(3,.pointer (some ⟨b4,0,none⟩)),(4,iV x3),(16,iV r4.1),(17,iV x4)] 33 a w') id ((r4.1 - 0).toNat + 2) ⟨([] : List Int),r4.2,r3.1,0,(.slice none 0 0),h,S.nf [true,true,true,true,true] rfl (subR rfl)⟩ ?_)
  clear S h;rintro m1 a w11 ⟨x1,x2,x3,x4,v5,h,S⟩
  cases m1 with
  | zero=>rw [Js.eq_1] at h;cases h
  | succ m1 =>
   rw [Js.eq_2] at h
   refine Fr (Vb S Ex rfl rfl rfl fun a S=>Dl (Fs (Fc h (S.tm rfl) (fun hb1 h=>?_) (fun hb1 h=>?_))))
   ·refine wp_skip (Tn (Fs (wp_block (Fr (Vf Zp S rfl rfl fun a S=>Vl isAgg22 1 S rfl rfl rfl rfl fun a S=>Vm S rfl rfl fun a S=>Et S underlying22 sizeOf3 zeroValue3 rfl rfl (pv:=[(0,iV x3)]) ⟨rfl,(S.tm rfl),trivial⟩ (cs:=[iV x3]) (by kernel_rfl) rfl ?_)))));clear S;intro a w13 b6 hz6 hk11 S
    obtain ⟨hc1,h⟩:=Ia h
    refine Mb Oz Ih S (S.tm rfl) (i:=1) rfl (S.tm rfl) (j:=0) rfl (ys:=[x3]) rfl rfl rfl rfl (by have:=Mn hc1;omega) rfl ?_;clear S;intro v6 a w14 hk12 S
    refine Vf Zp S rfl rfl fun a S=>Fh S (S.tm rfl) (S.tm rfl) (i:=2) (off:=0) rfl sizeOf22 (vs:=[v6]) (Kk.cells (Pb (S.own_at (i:=1) rfl))) rfl rfl (Qn (Kk.one (Pb (S.own_at (i:=1) rfl))) rfl) ?_;clear S;intro w15 hk13 S
    refine Ld ?_
    replace S:=(S.nl [.own v6 3 1 (x1 ++ [x3]).length ((x1 ++ [x3]).flatMap eInt),.blk b4 [v6,iV r1.1,iV r2.1] 28,.own (.slice none 0 0) 3 1 ([] : List Int).length (([] : List Int).flatMap eInt),.blk b1 [(.slice none 0 0),iV 0,iV 0] 28,.blk O [U,iV x2] 25] [false,true,true,true,true,true] rfl).k6 0 2 3 4 16 17 rfl
    refine Tn (Fg (Vm S rfl rfl fun a S=>Vm S rfl rfl fun a S=>Et S underlying22 sizeOf3 zeroValue3 rfl rfl (pv:=[(0,iV 0),(1,iV 1),(2,iV 2),(3,iV 3)]) ⟨rfl,rfl,rfl,rfl,rfl,rfl,rfl,rfl,trivial⟩ (cs:=[iV 0,iV 1,iV 2,iV 3]) (by kernel_rfl) rfl ?_));clear S;intro a w16 b7 hz7 hk14 S
    obtain ⟨r5,hr5,h⟩:=Fb h
    refine Hg 5 S (b:=O) rfl rfl (fun _=>.blk O [U,iV r5.2] 25) (fun _=>Dv (vs:=[.pointer (some ⟨O,0,none⟩),.slice (some ⟨b7,0,none⟩) 4 4]) ⟨(S.tm rfl),(S.tm rfl),trivial⟩ call28) (Iy _ O U Am (Ak.mono (S.le_arg (Ip (i:=5) (e:=.blk O [U,iV x2] 25) rfl))) x2 (S.holds _ (List.mem_of_getElem? (i:=5) rfl)) (.slice (some ⟨b7,0,none⟩) 4 4) [0,1,2,3] (Jr Ih S (i:=0) rfl rfl rfl rfl ((Mk (i:=5) (j:=0) (e:=.blk O [U,iV x2] 25) (e':=.blk b7 [iV 0,iV 1,iV 2,iV 3] 3) S rfl rfl rfl) _ rfl)) _ hr5) rfl (fun _ _ _ h=>⟨h.1,fun _ hc=>by cases hc;rfl⟩) ?_;clear S;intro v7 a w17 hv5 hk15 hn5 S
    replace hv5:=hv5.2
    subst hv5
    refine Vb S Ja rfl rfl rfl fun a S=>Vu S (OW rfl) rfl rfl fun a S=>Va S rfl rfl fun a S=>Ld ?_
    replace S:=(S.nl [.own v6 3 1 (x1 ++ [x3]).length ((x1 ++ [x3]).flatMap eInt),.blk b4 [v6,iV r1.1,iV r2.1] 28,.own (.slice none 0 0) 3 1 ([] : List Int).length (([] : List Int).flatMap eInt),.blk b1 [(.slice none 0 0),iV 0,iV 0] 28,.blk O [U,iV r5.2] 25] [false,true,true,true,true,true] rfl).k6 0 2 3 4 16 17 rfl
    exact Ho (Tn (Fg (Vq S Gf rfl rfl rfl fun a S=>Vm S rfl rfl fun a S=>Dl (⟨m1,⟨(x1 ++ [x3]),r5.2,EP 0 (W (x3 - r5.1)),W (x4 + 1),v6,h,S.nf [true,true,true,true,true] rfl ⟨rfl,rfl,rfl,rfl,rfl,rfl,trivial⟩⟩,Nat.lt_succ_self _⟩))))
   ·exact wp_exit (Ei (Ei (Gp (Tn (⟨x1,x2,v5,h,S.nf [true,true,true,true,true] rfl (subR rfl)⟩)))))
 clear S h;rintro a w12 ⟨x1,x2,v5,h,S⟩;rw [hj1] at h;clear hj1 j1
 refine Tn (Fr (lv S (Fx isAgg28 sizeOf28 (off:=0) (o:=0) (part:=[v5,iV r1.1,iV r2.1]) rfl rfl (S.tm rfl) (S.cellsAt (i:=1) rfl)) rfl fun a S=>Fh S (S.tm rfl) (S.tm rfl) (i:=3) (off:=0) rfl sizeOf28 (vs:=[v5,iV r1.1,iV r2.1]) rfl rfl rfl (Qn (Kk.one (Pb (S.own_at (i:=0) rfl))) (Qn rfl (Qn rfl rfl))) ?_));clear S;intro w18 hk16 S
 refine Dl (wp_ret ?_)
 obtain ⟨φ1,hl1,hs1,S⟩:=S.freezeT (xs:=x1) (enc:=eInt) (i:=0) rfl (fun c hc hh=>BN S (i:=4) rfl rfl (j:=0) rfl rfl (by simp at hc;subst hc;exact hh))
 replace S:=S.nk [.blk b4 [v5,iV r1.1,iV r2.1] 28,.own (.slice none 0 0) 3 1 ([] : List Int).length (([] : List Int).flatMap eInt),.blk b1 [v5,iV r1.1,iV r2.1] 28,.blk O [U,iV x2] 25] [(2,.pointer (some ⟨b1,0,none⟩)),(3,.pointer (some ⟨b4,0,none⟩)),(32,.agg #[v5,iV r1.1,iV r2.1])] [] rfl (subR rfl)
 obtain rfl:=Option.some.inj h
 exact Zh S (rs:=[.cell 2 28]) (vs:=[.agg (R28.enc (R28.mk ⟨v5,Kk.one (Fl (He Ih hs1))⟩ r1.1 r2.1)).toArray]) results12 ⟨(Uw (off:=0) S rfl isAgg28 sizeOf28 rfl (S.cellsAt (i:=2) rfl)),trivial⟩ rfl ⟨(S.holds _ (List.mem_of_getElem? (i:=3) rfl)),⟨(R28.mk ⟨v5,Kk.one (Fl (He Ih hs1))⟩ r1.1 r2.1),rfl,Yc S.le_newer _ _ ⟨⟨v5,Kk.one (Fl (He Ih hs1))⟩,rfl,(He Ih hs1)⟩⟩⟩
theorem Zq (w : World) (Aw : Value) (Ap : List Eh) (De : (LEnt.own Aw 51 8 Ap.length (Ap.flatMap Eh.enc)).holds w) (r : (List Eh)) (h : Pi Ap = some r) :
    Calls prog 13 [Aw].toArray w (Ret w (Aw.ownBlock.toList) fun _ v w'=>(LEnt.own Aw 51 8 r.length (r.flatMap Eh.enc)).holds w' ∧ v = .tuple #[]):=by
 refine Mo (Aw.ownBlock.toList) [.own Aw 51 8 Ap.length (Ap.flatMap Eh.enc)] func13 rfl ntmps13 rfl (fun e he=>by simp only [List.mem_singleton] at he;subst he;exact De) (Li _) (Nb _) fun a S=>?_
 unfold Pi at h
 replace S:=(S.nl [.own Aw 51 8 Ap.length (Ap.flatMap Eh.enc)] [true] rfl).k1 0 rfl
 refine Fr (Vm S rfl rfl fun a S=>lv S (Fz Vi (S.tm rfl) (Pb (S.own_at (i:=0) rfl))) rfl fun a S=>Vq S Ja rfl rfl rfl fun a S=>Vk S rfl rfl fun a S=>Va S rfl rfl fun a S=>Dl ?_)
 replace S:=S.k3 0 2 3 rfl
 obtain ⟨j1,hj1,h⟩:=Eu h
 refine En (fun a w'=>∃ x1 : List Eh,j1 x1 = some r ∧ Sx w (Aw.ownBlock.toList) nov [.own Aw 51 8 x1.length (x1.flatMap Eh.enc)] [] 28 a w') ?_ ?_
 ·refine wp_block (Hb (fun (m1 : Nat) a w'=>∃ x1 : List Eh,∃ x2 : Int,∃ x3 : Int,It j1 m1 x1 x2 x3 = some r ∧ Sx w (Aw.ownBlock.toList) nov [.own Aw 51 8 x1.length (x1.flatMap Eh.enc)] [(0,Aw),(2,iV x2),(3,iV x3)] 28 a w') id (((W ((Ap.length : Int) - 1)) - 0).toNat + 2) ⟨Ap,0,W ((Ap.length : Int) - 1),h,S.nf [true] rfl (subR rfl)⟩ ?_)
  clear S h;rintro m1 a w1 ⟨x1,x2,x3,h,S⟩
  cases m1 with
  | zero=>rw [It.eq_1] at h;cases h
  | succ m1 =>
   rw [It.eq_2] at h
   refine Fs (Fr (Vm S rfl rfl fun a S=>Vm S rfl rfl fun a S=>Vb S Ex rfl rfl rfl fun a S=>Dl (Fc h (S.tm rfl) (fun hb1 h=>?_) (fun hb1 h=>?_))))
   ·refine wp_skip (Tn (Fs (wp_block ?_)))
    obtain ⟨hc1,h⟩:=Ia h
    obtain ⟨hc2,h⟩:=Ia h
    obtain ⟨hc3,h⟩:=Ia h
    obtain ⟨hc4,h⟩:=Ia h
    refine Hd [13,15] ([]) Tryz.mixed S rfl (by kernel_rfl) ?_;clear S;intro w7 hk5 hsel S
    refine Gu 0 S hsel rfl rfl (by kernel_rfl) (by kernel_rfl) rfl (fun _=>(Rm (S.tm rfl))) fun a S=>Gu 1 S hsel rfl rfl (by kernel_rfl) (by kernel_rfl) rfl (fun _=>(Rm (S.tm rfl))) fun a S=>Gu 2 S hsel rfl rfl (by kernel_rfl) (by kernel_rfl) rfl (fun _=>(Rm (S.tm rfl))) fun a S=>Gu 3 S hsel rfl rfl (by kernel_rfl) (by kernel_rfl) rfl (fun _=>(Rm (S.tm rfl))) fun a S=>Gu 4 S hsel rfl rfl (by kernel_rfl) (by kernel_rfl) rfl (fun _=>(Rm (S.tm rfl))) fun a S=>Gu 5 S hsel rfl rfl (by kernel_rfl) (by kernel_rfl) rfl (fun _=>(Rm (S.tm rfl))) ?_;clear S;intro a S
    obtain ⟨b5,hg5,hr5⟩:=Hk (a:=a) (x:=.tmp 18) (y:=.tmp 19) (ty:=0) Vi Eh.enc_ok S (i:=0) rfl (Ed hc1).1 (Ed hc1).2 (S.tm rfl) (S.tm rfl)
    refine Gu 6 S hsel rfl rfl (by kernel_rfl) (by kernel_rfl) rfl (fun _=>(hr5 _)) ?_;clear S;intro a S
    clear hr5
    refine Ef 7 S hsel rfl (by kernel_rfl) (by kernel_rfl) (by kernel_rfl) (by kernel_rfl) rfl (fun _ hw=>(Fx isAgg51 sizeOf51 (off:=x3.toNat * 8) (o:=0) (part:=(Eh.enc (nth x1 x3))) rfl rfl (S.tm rfl) ((Pc Eh.enc_ok S (i:=0) rfl hg5 (Ed hc1).1 (Hr (e':=.own Aw 51 8 x1.length (x1.flatMap Eh.enc)))).kept hw))) fun a S=>Gu 8 S hsel rfl rfl (by kernel_rfl) (by kernel_rfl) rfl (fun _=>(Rm (S.tm rfl))) fun a S=>Gu 9 S hsel rfl rfl (by kernel_rfl) (by kernel_rfl) rfl (fun _=>(Rm (S.tm rfl))) ?_;clear S;intro a S
    obtain ⟨b6,hg6,hr6⟩:=Hk (a:=a) (x:=.tmp 22) (y:=.tmp 23) (ty:=0) Vi Eh.enc_ok S (i:=0) rfl (Ed hc2).1 (Ed hc2).2 (S.tm rfl) (S.tm rfl)
    refine Gu 10 S hsel rfl rfl (by kernel_rfl) (by kernel_rfl) rfl (fun _=>(hr6 _)) ?_;clear S;intro a S
    clear hr6
    refine Ef 11 S hsel rfl (by kernel_rfl) (by kernel_rfl) (by kernel_rfl) (by kernel_rfl) rfl (fun _ hw=>(Fx isAgg51 sizeOf51 (off:=x2.toNat * 8) (o:=0) (part:=(Eh.enc (nth x1 x2))) rfl rfl (S.tm rfl) ((Pc Eh.enc_ok S (i:=0) rfl hg6 (Ed hc2).1 (Hr (e':=.own Aw 51 8 x1.length (x1.flatMap Eh.enc)))).kept hw))) ?_;clear S;intro a S
    obtain ⟨b7,hg7,hr7⟩:=Hk (a:=a) (x:=.tmp 14) (y:=.tmp 15) (ty:=0) Vi Eh.enc_ok S (i:=0) rfl (Ed hc3).1 (Ed hc3).2 (S.tm rfl) (S.tm rfl)
    refine Gu 12 S hsel rfl rfl (by kernel_rfl) (by kernel_rfl) rfl (fun _=>(hr7 _)) ?_;clear S;intro a S
    clear hr7
    refine Xz 13 (Aw.ownBlock.toList) rfl (by kernel_rfl) rfl (Pv (c:=0) (j:=x2.toNat) (nth x1 x3) Eh.enc_ok S (S.tm rfl) (S.tm rfl) (i:=0) rfl hg7 (Ed hc3).1 sizeOf51 (vs:=[sV ((nth x1 x3).Key),iV ((nth x1 x3).Metres),iV ((nth x1 x3).Stroke),iV ((nth x1 x3).Course),iV ((nth x1 x3).Legs),iV ((nth x1 x3).Sex),iV ((nth x1 x3).Young),iV ((nth x1 x3).Old)]) rfl rfl rfl rfl rfl ?_);clear S;intro w9 hk7 S
    refine Ld (Ya ?_)
    obtain ⟨b8,hg8,hr8⟩:=Hk (a:=a) (x:=.tmp 16) (y:=.tmp 17) (ty:=0) Vi Eh.enc_ok S (i:=0) rfl (Ed hc4).1 (Ed hc4).2 (S.tm rfl) (S.tm rfl)
    refine Ef 14 S hsel rfl rfl rfl (by kernel_rfl) (by kernel_rfl) rfl (fun _ hw=>(hr8 _)) ?_;clear S;intro a S
    clear hr8
    refine Gw 15 (by kernel_rfl) rfl (Pv (c:=0) (j:=x3.toNat) (nth x1 x2) Eh.enc_ok S (S.tm rfl) (S.tm rfl) (i:=0) rfl hg8 (Ed hc4).1 sizeOf51 (vs:=[sV ((nth x1 x2).Key),iV ((nth x1 x2).Metres),iV ((nth x1 x2).Stroke),iV ((nth x1 x2).Course),iV ((nth x1 x2).Legs),iV ((nth x1 x2).Sex),iV ((nth x1 x2).Young),iV ((nth x1 x2).Old)]) rfl rfl rfl rfl rfl ?_);clear S;intro w11 hk9 S
    refine Ld (Hx hk9 (Wu (by kernel_rfl) ?_))
    clear hsel
    replace S:=(S.nl [.own Aw 51 8 ((x1.set x2.toNat (nth x1 x3)).set x3.toNat (nth x1 x2)).length (((x1.set x2.toNat (nth x1 x3)).set x3.toNat (nth x1 x2)).flatMap Eh.enc)] [true] rfl).k3 0 2 3 rfl
    refine Ho (Tn (Fg (Vm S rfl rfl fun a S=>Vq S Gf rfl rfl rfl fun a S=>Vm S rfl rfl fun a S=>Vq S Ja rfl rfl rfl fun a S=>Va S rfl rfl fun a S=>Va S rfl rfl fun a S=>Dl ?_)))
    exact ⟨m1,⟨((x1.set x2.toNat (nth x1 x3)).set x3.toNat (nth x1 x2)),W (x2 + 1),W (x3 - 1),h,S.nf [true] rfl ⟨rfl,rfl,rfl,trivial⟩⟩,Nat.lt_succ_self _⟩
   ·exact wp_exit (Ei (Ei (Gp (Tn (⟨x1,h,S.nf [true] rfl trivial⟩)))))
 clear S h;rintro a w2 ⟨x1,h,S⟩;rw [hj1] at h;clear hj1 j1
 obtain rfl:=Option.some.inj h
 exact Uv S results13 ⟨(S.holds _ (List.mem_of_getElem? (i:=0) rfl)),rfl⟩
theorem CE (w : World) (O : Nat) (U : Value) (Am : List Int) (Ak : Slc (view w [O]) 1 U (Am.map eInt)) (Aj : Int) (As : (LEnt.blk O [U,iV Aj] 25).holds w) (r : Mp × Int) (h : Rl Am Aj = some r) :
    Calls prog 4 [.pointer (some ⟨O,0,none⟩)].toArray w (Ret w [O] fun τ v w'=>(LEnt.blk O [U,iV r.2] 25).holds w' ∧ ∃ q : R32,v = .agg (R32.enc q).toArray ∧ Tv τ r.1 q):=by
 refine Mo [O] [.blk O [U,iV Aj] 25] func4 rfl ntmps4 rfl (fun e he=>by simp only [List.mem_singleton] at he;subst he;exact As) (by simp [fps,LEnt.fp]) (by simp [fps,LEnt.fp]) fun a S=>?_
 unfold Rl at h
 replace S:=(S.nl [.blk O [U,iV Aj] 25] [true] rfl).k1 0 rfl
 refine Fr (Hz S zeroValue32 (cs:=[.slice none 0 0,.slice none 0 0,iV 0,iV 0,iV 0,iV 0,iV 0]) rfl rfl ?_);clear S;intro a w1 b1 hz1 hk1 S
 refine Dz (Vm S rfl rfl ?_);clear S;intro a S
 obtain ⟨r1,hr1,h⟩:=Fb h
 have hz2:=S.keep.size
 refine Hg 1 S (b:=O) rfl rfl (fun _=>.blk O [U,iV r1.2] 25) (fun _=>Dv (vs:=[.pointer (some ⟨O,0,none⟩)]) ⟨(S.tm rfl),trivial⟩ call11) (CD _ O U Am (Ak.mono (S.le_arg (Ip (i:=1) (e:=.blk O [U,iV Aj] 25) rfl))) Aj (S.holds _ (List.mem_of_getElem? (i:=1) rfl)) _ hr1) rfl (fun _ _ _ h=>⟨h.1,fun _ hc=>by cases hc;rfl⟩) ?_;clear S;intro v1 a w2 hv1 hk2 hn1 S
 replace hv1:=hv1.2
 replace S:=S.take hn1 hz2 hv1
 refine Vm S rfl rfl ?_;clear S;intro a S
 obtain ⟨r2,hr2,h⟩:=Fb h
 have hz3:=S.keep.size
 refine Hg 2 S (b:=O) rfl rfl (fun _=>.blk O [U,iV r2.2] 25) (fun _=>Dv (vs:=[.pointer (some ⟨O,0,none⟩)]) ⟨(S.tm rfl),trivial⟩ call12) (AZ _ O U Am (Ak.mono (S.le_arg (Ip (i:=2) (e:=.blk O [U,iV r1.2] 25) rfl))) r1.2 (S.holds _ (List.mem_of_getElem? (i:=2) rfl)) _ hr2) rfl (fun _ _ _ h=>⟨h.1,fun _ hc=>by cases hc;rfl⟩) ?_;clear S;intro v2 a w3 hv2 hk3 hn2 S
 replace hv2:=hv2.2
 obtain ⟨q1,rfl,hq1⟩:=hv2
 obtain ⟨φ1,hl1,hm1,S⟩:=S.see' hn2 hz3
 obtain ⟨u3,rfl,hs1⟩:=Yc hm1 _ _ hq1
 refine Vm S rfl rfl ?_;clear S;intro a S
 obtain ⟨r3,hr3,h⟩:=Fb h
 refine Hg 2 S (b:=O) rfl rfl (fun _=>.blk O [U,iV r3.2] 25) (fun _=>Dv (vs:=[.pointer (some ⟨O,0,none⟩),iV 1,iV 3]) ⟨(S.tm rfl),rfl,rfl,trivial⟩ call6) (Ph _ O U Am (Ak.mono (S.le_arg (Ip (i:=2) (e:=.blk O [U,iV r2.2] 25) rfl))) r2.2 (S.holds _ (List.mem_of_getElem? (i:=2) rfl)) 1 3 _ hr3) rfl (fun _ _ _ h=>⟨h.1,fun _ hc=>by cases hc;rfl⟩) ?_;clear S;intro v3 a w4 hv3 hk4 hn3 S
 replace hv3:=hv3.2
 subst hv3
 refine Vm S rfl rfl ?_;clear S;intro a S
 obtain ⟨r4,hr4,h⟩:=Fb h
 refine Hg 2 S (b:=O) rfl rfl (fun _=>.blk O [U,iV r4.2] 25) (fun _=>Dv (vs:=[.pointer (some ⟨O,0,none⟩),iV 1,iV 2]) ⟨(S.tm rfl),rfl,rfl,trivial⟩ call6) (Ph _ O U Am (Ak.mono (S.le_arg (Ip (i:=2) (e:=.blk O [U,iV r3.2] 25) rfl))) r3.2 (S.holds _ (List.mem_of_getElem? (i:=2) rfl)) 1 2 _ hr4) rfl (fun _ _ _ h=>⟨h.1,fun _ hc=>by cases hc;rfl⟩) ?_;clear S;intro v4 a w5 hv4 hk5 hn4 S
 replace hv4:=hv4.2
 subst hv4
 refine Vm S rfl rfl ?_;clear S;intro a S
 obtain ⟨r5,hr5,h⟩:=Fb h
 refine Hg 2 S (b:=O) rfl rfl (fun _=>.blk O [U,iV r5.2] 25) (fun _=>Dv (vs:=[.pointer (some ⟨O,0,none⟩),iV 0,iV 2]) ⟨(S.tm rfl),rfl,rfl,trivial⟩ call6) (Ph _ O U Am (Ak.mono (S.le_arg (Ip (i:=2) (e:=.blk O [U,iV r4.2] 25) rfl))) r4.2 (S.holds _ (List.mem_of_getElem? (i:=2) rfl)) 0 2 _ hr5) rfl (fun _ _ _ h=>⟨h.1,fun _ hc=>by cases hc;rfl⟩) ?_;clear S;intro v5 a w6 hv5 hk6 hn5 S
 replace hv5:=hv5.2
 subst hv5
 refine lv S (Mj bt_30 (pv:=[(0,iV r3.1),(1,iV r4.1),(2,iV r5.1)]) ⟨rfl,(S.tm rfl),rfl,(S.tm rfl),rfl,(S.tm rfl),trivial⟩ (cs:=[iV r3.1,iV r4.1,iV r5.1]) (by kernel_rfl)) rfl ?_;clear S;intro a S
 refine lv S (Mj bt_32 (pv:=[(0,v1),(1,.agg #[u3.val,iV r2.1.Relay,iV r2.1.Most]),(2,.agg #[iV r3.1,iV r4.1,iV r5.1])]) ⟨rfl,(S.tm rfl),rfl,(S.tm rfl),rfl,(S.tm rfl),trivial⟩ (cs:=[v1,u3.val,iV r2.1.Relay,iV r2.1.Most,iV r3.1,iV r4.1,iV r5.1]) (by obtain ⟨_,_,hv⟩:=(Pb (S.own_at (i:=0) rfl));rw [hv];clear hv;obtain ⟨_,_,hv⟩:=(Fl hs1);rw [hv];clear hv;kernel_rfl)) rfl ?_;clear S;intro a S
 refine Hz S zeroValue32 (cs:=[.slice none 0 0,.slice none 0 0,iV 0,iV 0,iV 0,iV 0,iV 0]) rfl rfl ?_;clear S;intro a w7 b2 hz4 hk7 S
 refine Fh S (S.tm rfl) (S.tm rfl) (i:=0) (off:=0) rfl sizeOf32 (vs:=[v1,u3.val,iV r2.1.Relay,iV r2.1.Most,iV r3.1,iV r4.1,iV r5.1]) rfl rfl rfl (Qn (Kk.one (Pb (S.own_at (i:=1) rfl))) (Qn (Kk.one (Fl hs1)) (Qn rfl (Qn rfl (Qn rfl (Qn rfl (Qn rfl rfl))))))) ?_;clear S;intro w8 hk8 S
 refine Ld ?_
 replace S:=(S.nl [.blk b2 [v1,u3.val,iV r2.1.Relay,iV r2.1.Most,iV r3.1,iV r4.1,iV r5.1] 32,.own v1 51 8 r1.1.length (r1.1.flatMap Eh.enc),.blk b1 [.slice none 0 0,.slice none 0 0,iV 0,iV 0,iV 0,iV 0,iV 0] 32,.blk O [U,iV r5.2] 25] [true,true,true,true] rfl).k2 2 3 rfl
 refine Tn (Fr (Vf Yf S rfl rfl fun a S=>Vl isAgg26 0 S rfl rfl rfl rfl ?_));clear S;intro a S
 obtain ⟨r6,hr6,h⟩:=Fb h
 refine Oy 1 S rfl (fun _=>.own v1 51 8 r6.length (r6.flatMap Eh.enc)) (fun _=>Dv (vs:=[v1]) ⟨(S.tm rfl),trivial⟩ call13) (Zq _ v1 r1.1 (S.holds _ (List.mem_of_getElem? (i:=1) rfl)) _ hr6) rfl (fun _ _ _ h=>⟨h.1,fun _ hc=>hc⟩) ?_;clear S;intro v6 a w9 hv6 hk9 hn6 S
 replace hv6:=hv6.2
 subst hv6
 refine Dz (lv S (Fx isAgg32 sizeOf32 (off:=0) (o:=0) (part:=[v1,u3.val,iV r2.1.Relay,iV r2.1.Most,iV r3.1,iV r4.1,iV r5.1]) rfl rfl (S.tm rfl) (S.cellsAt (i:=0) rfl)) rfl fun a S=>Fh S (S.tm rfl) (S.tm rfl) (i:=2) (off:=0) rfl sizeOf32 (vs:=[v1,u3.val,iV r2.1.Relay,iV r2.1.Most,iV r3.1,iV r4.1,iV r5.1]) rfl rfl rfl (Qn (Kk.one (Pb (S.own_at (i:=1) rfl))) (Qn (Kk.one (Fl hs1)) (Qn rfl (Qn rfl (Qn rfl (Qn rfl (Qn rfl rfl))))))) ?_);clear S;intro w10 hk10 S
 refine Dl (wp_ret ?_)
 obtain ⟨φ2,hl2,hs2,S⟩:=S.freezeT (xs:=r6) (enc:=Eh.enc) (i:=1) rfl (fun c hc hh=>BN S (i:=3) rfl rfl (j:=1) rfl rfl (by simp at hc;subst hc;exact hh))
 replace S:=S.nk [.blk b2 [v1,u3.val,iV r2.1.Relay,iV r2.1.Most,iV r3.1,iV r4.1,iV r5.1] 32,.blk b1 [v1,u3.val,iV r2.1.Relay,iV r2.1.Most,iV r3.1,iV r4.1,iV r5.1] 32,.blk O [U,iV r5.2] 25] [(2,.pointer (some ⟨b1,0,none⟩)),(3,.pointer (some ⟨b2,0,none⟩)),(16,.pointer (some ⟨b2,0,none⟩)),(17,v1),(19,.agg #[v1,u3.val,iV r2.1.Relay,iV r2.1.Most,iV r3.1,iV r4.1,iV r5.1])] [] rfl (subR rfl)
 obtain rfl:=Option.some.inj h
 exact Zh S (rs:=[.cell 2 32]) (vs:=[.agg (R32.enc (R32.mk ⟨v1,Kk.one (Fl (He Eh.enc_ok hs2))⟩ (R28.mk u3 r2.1.Relay r2.1.Most) (Sk.mk r3.1 r4.1 r5.1))).toArray]) results4 ⟨(Uw (off:=0) S rfl isAgg32 sizeOf32 rfl (S.cellsAt (i:=1) rfl)),trivial⟩ rfl ⟨(S.holds _ (List.mem_of_getElem? (i:=2) rfl)),⟨(R32.mk ⟨v1,Kk.one (Fl (He Eh.enc_ok hs2))⟩ (R28.mk u3 r2.1.Relay r2.1.Most) (Sk.mk r3.1 r4.1 r5.1)),rfl,Yd S.le_newer _ _ ⟨⟨v1,Kk.one (Fl (He Eh.enc_ok hs2))⟩,(R28.mk u3 r2.1.Relay r2.1.Most),rfl,(He Eh.enc_ok hs2),⟨u3,rfl,(hs1.mono hl2)⟩⟩⟩⟩
theorem Oj (w : World) (O : Nat) (U : Value) (Am : List Int) (Ak : Slc (view w [O]) 1 U (Am.map eInt)) (Aj : Int) (As : (LEnt.blk O [U,iV Aj] 25).holds w) (Ac : Value) (Ag : List ByteArray) (Ae : Slc (view w [O]) 1 Ac (Ag.map Xh)) (r : ByteArray × Int) (h : Nq Am Aj Ag = some r) :
    Calls prog 29 [.pointer (some ⟨O,0,none⟩),Ac].toArray w (Ret w [O] fun _ v w'=>(LEnt.blk O [U,iV r.2] 25).holds w' ∧ v = sV r.1):=by
 refine Mo [O] [.blk O [U,iV Aj] 25] func29 rfl ntmps29 rfl (fun e he=>by simp only [List.mem_singleton] at he;subst he;exact As) (by simp [fps,LEnt.fp]) (by simp [fps,LEnt.fp]) fun a S=>?_
 unfold Nq at h
 replace S:=(S.nl [.blk O [U,iV Aj] 25] [true] rfl).k2 0 1 rfl
 refine Fr (Vk S rfl rfl fun a S=>Dl (Fs (Fg ?_)))
 iterate 3 (refine Vm S rfl rfl ?_;clear S;intro a S)
 refine lv S (Fz Wv (S.tm rfl) (Fl Ae)) rfl ?_;clear S;intro a S
 obtain ⟨r1,hr1,h⟩:=Fb h
 refine Hg 0 S (b:=O) rfl rfl (fun _=>.blk O [U,iV r1.2] 25) (fun _=>Dv (vs:=[.pointer (some ⟨O,0,none⟩),iV (Ag.length : Int)]) ⟨(S.tm rfl),(S.tm rfl),trivial⟩ call16) (Tb _ O U Am (Ak.mono (S.le_arg (Ip (i:=0) (e:=.blk O [U,iV Aj] 25) rfl))) Aj (S.holds _ (List.mem_of_getElem? (i:=0) rfl)) (Ag.length : Int) _ hr1) rfl (fun _ _ _ h=>⟨h.1,fun _ hc=>by cases hc;rfl⟩) ?_;clear S;intro v1 a w1 hv1 hk1 hn1 S
 replace hv1:=hv1.2
 subst hv1
 obtain ⟨hc1,h⟩:=Ia h
 obtain ⟨b1,o1,hm1,hr2⟩:=Fd (a:=a) (x:=.tmp 5) (y:=.tmp 9) (ty:=0) Wv Ae (Ed hc1).1 (Ed hc1).2 (S.tm rfl) (S.tm rfl)
 refine lv S (hr2 _) rfl ?_;clear S;intro a S
 clear hr2
 refine lv S (Hp isAgg9 (off:=o1) (o:=0) (S.tm rfl) (hm1.at S.emb0) rfl) rfl fun a S=>Va S rfl rfl fun a S=>Dl (wp_ret ?_)
 obtain rfl:=Option.some.inj h
 exact Eo S results29 rfl ⟨(S.holds _ (List.mem_of_getElem? (i:=0) rfl)),rfl⟩
theorem Uc (w : World) (O : Nat) (U : Value) (Am : List Int) (Ak : Slc (view w [O]) 1 U (Am.map eInt)) (Aj : Int) (As : (LEnt.blk O [U,iV Aj] 25).holds w) (Bl : Int) (Bg : Int) (r : Int × Int) (h : Rw Am Aj Bl Bg = some r) :
    Calls prog 30 [.pointer (some ⟨O,0,none⟩),iV Bl,iV Bg].toArray w (Ret w [O] fun _ v w'=>(LEnt.blk O [U,iV r.2] 25).holds w' ∧ v = iV r.1):=by
 refine Mo [O] [.blk O [U,iV Aj] 25] func30 rfl ntmps30 rfl (fun e he=>by simp only [List.mem_singleton] at he;subst he;exact As) (by simp [fps,LEnt.fp]) (by simp [fps,LEnt.fp]) fun a S=>?_
 unfold Rw at h
 replace S:=(S.nl [.blk O [U,iV Aj] 25] [true] rfl).k3 0 1 2 rfl
 refine Fr (Vk S rfl rfl fun a S=>Dl (Fs (Fr (Vm S rfl rfl ?_))));clear S;intro a S
 obtain ⟨r1,hr1,h⟩:=Fb h
 refine Hg 0 S (b:=O) rfl rfl (fun _=>.blk O [U,iV r1.2] 25) (fun _=>Dv (vs:=[.pointer (some ⟨O,0,none⟩),iV 12]) ⟨(S.tm rfl),rfl,trivial⟩ call26) (Xo _ O U Am (Ak.mono (S.le_arg (Ip (i:=0) (e:=.blk O [U,iV Aj] 25) rfl))) Aj (S.holds _ (List.mem_of_getElem? (i:=0) rfl)) 12 _ hr1) rfl (fun _ _ _ h=>⟨h.1,fun _ hc=>by cases hc;rfl⟩) ?_;clear S;intro v1 a w1 hv1 hk1 hn1 S
 replace hv1:=hv1.2
 subst hv1
 refine Dl (Fc h (S.tm rfl) (fun hb1 h=>?_) (fun hb1 h=>?_))
 ·refine Fr (Vm S rfl rfl fun a S=>Vm S rfl rfl fun a S=>Vq S Ja rfl rfl rfl fun a S=>Vm S rfl rfl fun a S=>Vq S Gf rfl rfl rfl fun a S=>Vm S rfl rfl fun a S=>Vm S rfl rfl fun a S=>Et S underlying22 sizeOf3 zeroValue3 rfl rfl (pv:=[(0,iV (W (Bl - 1))),(1,iV (W (Bg + 1))),(2,iV Bl),(3,iV Bg),(4,iV (-1099511627776)),(5,iV 1099511627776)]) ⟨rfl,(S.tm rfl),rfl,(S.tm rfl),rfl,(S.tm rfl),rfl,(S.tm rfl),rfl,rfl,rfl,rfl,trivial⟩ (cs:=[iV (W (Bl - 1)),iV (W (Bg + 1)),iV Bl,iV Bg,iV (-1099511627776),iV 1099511627776]) (by kernel_rfl) rfl ?_);clear S;intro a w2 b1 hz1 hk2 S
  obtain ⟨r2,hr2,h⟩:=Fb h
  refine Hg 1 S (b:=O) rfl rfl (fun _=>.blk O [U,iV r2.2] 25) (fun _=>Dv (vs:=[.pointer (some ⟨O,0,none⟩),.slice (some ⟨b1,0,none⟩) 6 6]) ⟨(S.tm rfl),(S.tm rfl),trivial⟩ call28) (Iy _ O U Am (Ak.mono (S.le_arg (Ip (i:=1) (e:=.blk O [U,iV r1.2] 25) rfl))) r1.2 (S.holds _ (List.mem_of_getElem? (i:=1) rfl)) (.slice (some ⟨b1,0,none⟩) 6 6) [W (Bl - 1),W (Bg + 1),Bl,Bg,(-1099511627776),1099511627776] (Jr Ih S (i:=0) rfl rfl rfl rfl ((Mk (i:=1) (j:=0) (e:=.blk O [U,iV r1.2] 25) (e':=.blk b1 [iV (W (Bl - 1)),iV (W (Bg + 1)),iV Bl,iV Bg,iV (-1099511627776),iV 1099511627776] 3) S rfl rfl rfl) _ rfl)) _ hr2) rfl (fun _ _ _ h=>⟨h.1,fun _ hc=>by cases hc;rfl⟩) ?_;clear S;intro v2 a w3 hv2 hk3 hn2 S
  replace hv2:=hv2.2
  subst hv2
  refine Va S rfl rfl fun a S=>Ld ?_
  replace S:=(S.nl [.blk O [U,iV r2.2] 25] [false,true] rfl).k1 6 rfl
  refine Tn (wp_ret (Dy ?_))
  obtain rfl:=Option.some.inj h
  exact Eo S results30 rfl ⟨(S.holds _ (List.mem_of_getElem? (i:=0) rfl)),rfl⟩
 ·refine wp_skip (Tn (Fs (Fg ?_)))
  iterate 3 (refine Vm S rfl rfl ?_;clear S;intro a S)
  obtain ⟨r3,hr3,h⟩:=Fb h
  refine Hg 0 S (b:=O) rfl rfl (fun _=>.blk O [U,iV r3.2] 25) (fun _=>Dv (vs:=[.pointer (some ⟨O,0,none⟩),iV Bl,iV Bg]) ⟨(S.tm rfl),(S.tm rfl),(S.tm rfl),trivial⟩ call6) (Ph _ O U Am (Ak.mono (S.le_arg (Ip (i:=0) (e:=.blk O [U,iV r1.2] 25) rfl))) r1.2 (S.holds _ (List.mem_of_getElem? (i:=0) rfl)) Bl Bg _ hr3) rfl (fun _ _ _ h=>⟨h.1,fun _ hc=>by cases hc;rfl⟩) ?_;clear S;intro v3 a w4 hv3 hk4 hn3 S
  replace hv3:=hv3.2
  subst hv3
  refine Va S rfl rfl fun a S=>Dl (wp_ret ?_)
  obtain rfl:=Option.some.inj h
  exact Eo S results30 rfl ⟨(S.holds _ (List.mem_of_getElem? (i:=0) rfl)),rfl⟩
theorem Yt (w : World) (Az : Int) (r : Int) (h : Ua Az = r) :
    Calls prog 62 [iV Az].toArray w (Ret w [] fun _ v _=>v = iV r):=by
 refine Fe func62 rfl ntmps62 rfl fun a S=>?_
 unfold Ua at h
 replace S:=S.k1 0 rfl
 refine Fr (Vk S rfl rfl fun a S=>Dl (Fs (wp_block (Fr (Vm S rfl rfl fun a S=>Vq S Ex rfl rfl rfl ?_)))));clear S;intro a S
 refine Va S rfl rfl fun a S=>Dl (Fc h (S.tm rfl) (fun hb1 h=>?_) (fun hb1 h=>?_))
 ·refine Fr (Vk S rfl rfl fun a S=>Dl (wp_ret (Fq (Dy ?_))))
  subst h
  exact Eo S results62 rfl rfl
 ·refine Fr (Vm S rfl rfl fun a S=>Vq S Jh rfl rfl rfl fun a S=>Va S rfl rfl fun a S=>Dl (Fc h (S.tm rfl) (fun hb2 h=>?_) (fun hb2 h=>?_)))
  ·refine Fr (Vk S rfl rfl fun a S=>Dl (wp_ret (Fq (Dy ?_))))
   subst h
   exact Eo S results62 rfl rfl
  ·refine wp_skip (Ho (Tn (Fr (Vk S rfl rfl fun a S=>Dl (wp_ret ?_)))))
   subst h
   exact Eo S results62 rfl rfl
theorem On (w : World) (s t : ByteArray) (r : Int) (h : Hi s t = r) : Calls prog 46 [.string s,.string t].toArray w (Ret w [] fun _ v _=>v = .int .i64 r):=by
  subst h
  exact FN (Any.strings_Compare Tryz.lays106 s t w)
theorem Vt (w : World) (Al : Dt) (Aq : Dt) (r : Int) (h : Ji Al Aq = r) :
    Calls prog 32 [.agg (Dt.enc Al).toArray,.agg (Dt.enc Aq).toArray].toArray w (Ret w [] fun _ v _=>v = iV r):=by
 refine Fe func32 rfl ntmps32 rfl fun a S=>?_
 unfold Ji at h
 replace S:=S.k2 0 1 rfl
 refine Fr (My S (S.tm rfl) (cs:=(Dt.enc Al)) rfl rfl ?_);clear S;intro a w1 b1 hz1 hk1 S
 refine My S (S.tm rfl) (cs:=(Dt.enc Aq)) rfl rfl ?_;clear S;intro a w2 b2 hz2 hk2 S
 refine Vk S rfl rfl fun a S=>Dl (Fs (wp_block (Fr (Vf Ui S rfl rfl fun a S=>Vl isAgg3 1 S rfl rfl rfl rfl fun a S=>Vf Ui S rfl rfl fun a S=>Vl isAgg3 0 S rfl rfl rfl rfl ?_))));clear S;intro a S
 refine Vb S Ky rfl rfl rfl fun a S=>Va S rfl rfl fun a S=>Dl (Fc h (S.tm rfl) (fun hb1 h=>?_) (fun hb1 h=>?_))
 ·refine Fr (Vf Ui S rfl rfl fun a S=>Vl isAgg3 1 S rfl rfl rfl rfl fun a S=>Vf Ui S rfl rfl fun a S=>Vl isAgg3 0 S rfl rfl rfl rfl fun a S=>Vb S Ja rfl rfl rfl fun a S=>Ec S (fun _=>Dv (vs:=[iV (W (Al.At - Aq.At))]) ⟨(S.tm rfl),trivial⟩ call62) (Yt _ (W (Al.At - Aq.At)) _ rfl) rfl ?_);clear S;intro v1 a w3 hv1 hk3 hn1 S
  subst hv1
  refine Va S rfl rfl fun a S=>Ld ?_
  replace S:=S.n0.k1 4 rfl
  refine Tn (wp_ret (Fq (Dy ?_)))
  subst h
  exact Eo S results32 rfl rfl
 ·refine Fr (Vf Ri S rfl rfl fun a S=>Vl isAgg9 1 S rfl rfl rfl rfl fun a S=>Vf Ri S rfl rfl fun a S=>Vl isAgg9 0 S rfl rfl rfl rfl fun a S=>Vb S BM rfl rfl rfl fun a S=>Va S rfl rfl fun a S=>Ld ?_)
  replace S:=(S.nl [.blk b2 (Dt.enc Aq) 38,.blk b1 (Dt.enc Al) 38] [true,true] rfl).k3 2 3 17 rfl
  refine Tn (Fc h (S.tm rfl) (fun hb2 h=>?_) (fun hb2 h=>?_))
  ·refine Fr (Vf Ri S rfl rfl fun a S=>Vl isAgg9 1 S rfl rfl rfl rfl fun a S=>Vf Ri S rfl rfl fun a S=>Vl isAgg9 0 S rfl rfl rfl rfl fun a S=>Ec S (fun _=>Dv (vs:=[sV Al.Site,sV Aq.Site]) ⟨(S.tm rfl),(S.tm rfl),trivial⟩ call46) (On _ Al.Site Aq.Site _ rfl) rfl ?_);clear S;intro v2 a w4 hv2 hk4 hn2 S
   subst hv2
   refine Va S rfl rfl fun a S=>Dl (wp_ret (Fq (Dy ?_)))
   subst h
   exact Eo S results32 rfl rfl
  ·refine wp_skip (Ho (Tn (Fr (Vf Tk S rfl rfl fun a S=>Vl isAgg3 1 S rfl rfl rfl rfl fun a S=>Vf Tk S rfl rfl fun a S=>Vl isAgg3 0 S rfl rfl rfl rfl fun a S=>Vb S Ja rfl rfl rfl fun a S=>Ec S (fun _=>Dv (vs:=[iV (W (Al.No - Aq.No))]) ⟨(S.tm rfl),trivial⟩ call62) (Yt _ (W (Al.No - Aq.No)) _ rfl) rfl ?_))));clear S;intro v3 a w5 hv3 hk5 hn3 S
   subst hv3
   refine Va S rfl rfl fun a S=>Dl (wp_ret ?_)
   subst h
   exact Eo S results32 rfl rfl
set_option maxRecDepth 20000 in
theorem Ly (w : World) (Aa : Value) (Ar : List Dt) (Bj : (LEnt.own Aa 38 11 Ar.length (Ar.flatMap Dt.enc)).holds w) (Al : Int) (Aq : Int) (r : (List Dt)) (h : Gz Ar Al Aq = some r) :
    Calls prog 94 [Aa,iV Al,iV Aq,.func (.func 32) #[] #[]].toArray w (Ret w (Aa.ownBlock.toList) fun _ v w'=>(LEnt.own Aa 38 11 r.length (r.flatMap Dt.enc)).holds w' ∧ v = .tuple #[]):=by
 refine Mo (Aa.ownBlock.toList) [.own Aa 38 11 Ar.length (Ar.flatMap Dt.enc)] func94 rfl ntmps94 rfl (fun e he=>by simp only [List.mem_singleton] at he;subst he;exact Bj) (Li _) (Nb _) fun a S=>?_
 unfold Gz at h
 replace S:=(S.nl [.own Aa 38 11 Ar.length (Ar.flatMap Dt.enc)] [true] rfl).k4 0 1 2 3 rfl
 refine Fr (Vm S rfl rfl fun a S=>Vq S Gf rfl rfl rfl fun a S=>Va S rfl rfl fun a S=>Dl ?_)
 replace S:=S.k5 0 1 2 3 8 rfl
 obtain ⟨j1,hj1,h⟩:=Eu h
 refine En (fun a w'=>∃ x1 : List Dt,j1 x1 = some r ∧ Sx w (Aa.ownBlock.toList) nov [.own Aa 38 11 x1.length (x1.flatMap Dt.enc)] [] 53 a w') ?_ ?_
 ·refine wp_block (Hb (fun (m1 : Nat) a w'=>∃ x1 : List Dt,∃ x2 : Int,Ey Aq Al j1 m1 x1 x2 = some r ∧ Sx w (Aa.ownBlock.toList) nov [.own Aa 38 11 x1.length (x1.flatMap Dt.enc)] [(0,Aa),(1,iV Al),(2,iV Aq),(3,.func (.func 32) #[] #[]),(8,iV x2)] 53 a w') id ((Aq - (W (Al + 1))).toNat + 2) ⟨Ar,W (Al + 1),h,S.nf [true] rfl (subR rfl)⟩ ?_)
  clear S h;rintro m1 a w1 ⟨x1,x2,h,S⟩
  cases m1 with
  | zero=>rw [Ey.eq_1] at h;cases h
  | succ m1 =>
   rw [Ey.eq_2] at h
   refine Fs (Fr (Vm S rfl rfl fun a S=>Vm S rfl rfl fun a S=>Vb S Ex rfl rfl rfl fun a S=>Dl (Fc h (S.tm rfl) (fun hb1 h=>?_) (fun hb1 h=>?_))))
   ·refine wp_skip (Tn (Fs (wp_block (Fr (Vm S rfl rfl fun a S=>Va S rfl rfl fun a S=>Dl ?_)))))
    replace S:=S.k6 0 1 2 3 8 9 rfl
    obtain ⟨j2,hj2,h⟩:=Eu h
    refine En (fun a w'=>∃ x3 : List Dt,j2 x3 = some r ∧ Sx w (Aa.ownBlock.toList) nov [.own Aa 38 11 x3.length (x3.flatMap Dt.enc)] [(0,Aa),(1,iV Al),(2,iV Aq),(3,.func (.func 32) #[] #[]),(8,iV x2)] 53 a w') ?_ ?_
    ·refine wp_block (Hb (fun (m2 : Nat) a w'=>∃ x3 : List Dt,∃ x4 : Int,El Al j2 m2 x3 x4 = some r ∧ Sx w (Aa.ownBlock.toList) nov [.own Aa 38 11 x3.length (x3.flatMap Dt.enc)] [(0,Aa),(1,iV Al),(2,iV Aq),(3,.func (.func 32) #[] #[]),(8,iV x2),(9,iV x4)] 53 a w') id ((x2 - Al).toNat + 2) ⟨x1,x2,h,S.nf [true] rfl (subR rfl)⟩ ?_)
     clear S h;rintro m2 a w3 ⟨x3,x4,h,S⟩
     cases m2 with
     | zero=>rw [El.eq_1] at h;cases h
     | succ m2 =>
      rw [El.eq_2] at h
      refine Fs (Fs ?_)
      obtain ⟨j3,hj3,h⟩:=Eu h
      refine En (fun a w'=>∃ x5 : Bool,j3 x5 = some r ∧ Sx w (Aa.ownBlock.toList) nov [.own Aa 38 11 x3.length (x3.flatMap Dt.enc)] [(0,Aa),(1,iV Al),(2,iV Aq),(3,.func (.func 32) #[] #[]),(8,iV x2),(9,iV x4),(34,bV x5)] 53 a w') ?_ ?_
      ·rcases Bool.eq_false_or_eq_true (decide (Al < x4)) with hb2 | hb2
       ·replace h:=Qw h hb2
        obtain ⟨hc1,h⟩:=Ia h
        obtain ⟨hc2,h⟩:=Ia h
        refine Hd [] ([]) Tryz.mixed S rfl (by kernel_rfl) ?_;clear S;intro w7 hk2 hsel S
        refine Ef 0 S hsel rfl rfl rfl (by kernel_rfl) (by kernel_rfl) rfl (fun _ hw=>(Rm (S.tm rfl))) fun a S=>Ef 1 S hsel rfl rfl rfl (by kernel_rfl) (by kernel_rfl) rfl (fun _ hw=>(Rm (S.tm rfl))) fun a S=>Ef 2 S hsel rfl rfl rfl (by kernel_rfl) (by kernel_rfl) rfl (fun _ hw=>(Jh (S.tm rfl) (S.tm rfl))) fun a S=>Ef 3 S hsel rfl rfl rfl (by kernel_rfl) (by kernel_rfl) rfl (fun _ hw=>(Rm (S.tm rfl))) fun a S=>Ev 4 S hsel rfl rfl rfl rfl hb2 rfl rfl (by kernel_rfl) (by kernel_rfl) rfl (fun _ hw=>(Rm (S.tm rfl))) fun a S=>Ev 5 S hsel rfl rfl rfl rfl hb2 rfl rfl (by kernel_rfl) (by kernel_rfl) rfl (fun _ hw=>(Rm (S.tm rfl))) fun a S=>Ev 6 S hsel rfl rfl rfl rfl hb2 rfl rfl (by kernel_rfl) (by kernel_rfl) rfl (fun _ hw=>(Rm (S.tm rfl))) ?_;clear S;intro a S
        obtain ⟨b3,hg3,hr3⟩:=Hk (a:=a) (x:=.tmp 23) (y:=.tmp 24) (ty:=0) Ni Dt.enc_ok S (i:=0) rfl (Ed hc1).1 (Ed hc1).2 (S.tm rfl) (S.tm rfl)
        refine Ev 7 S hsel rfl rfl rfl rfl hb2 rfl rfl (by kernel_rfl) (by kernel_rfl) rfl (fun _ hw=>(hr3 _)) ?_;clear S;intro a S
        clear hr3
        refine Ev 8 S hsel rfl rfl rfl rfl hb2 rfl rfl (by kernel_rfl) (by kernel_rfl) rfl (fun _ hw=>(Fx isAgg38 sizeOf38 (off:=x4.toNat * 11) (o:=0) (part:=(Dt.enc (nth x3 x4))) rfl rfl (S.tm rfl) ((Pc Dt.enc_ok S (i:=0) rfl hg3 (Ed hc1).1 (Hr (e':=.own Aa 38 11 x3.length (x3.flatMap Dt.enc)))).kept hw))) fun a S=>Ev 9 S hsel rfl rfl rfl rfl hb2 rfl rfl (by kernel_rfl) (by kernel_rfl) rfl (fun _ hw=>(Rm (S.tm rfl))) fun a S=>Ev 10 S hsel rfl rfl rfl rfl hb2 rfl rfl (by kernel_rfl) (by kernel_rfl) rfl (fun _ hw=>(Rm (S.tm rfl))) fun a S=>Ev 11 S hsel rfl rfl rfl rfl hb2 rfl rfl (by kernel_rfl) (by kernel_rfl) rfl (fun _ hw=>(Ja (S.tm rfl) rfl)) ?_;clear S;intro a S
        obtain ⟨b4,hg4,hr4⟩:=Hk (a:=a) (x:=.tmp 27) (y:=.tmp 29) (ty:=0) Ni Dt.enc_ok S (i:=0) rfl (Ed hc2).1 (Ed hc2).2 (S.tm rfl) (S.tm rfl)
        refine Ev 12 S hsel rfl rfl rfl rfl hb2 rfl rfl (by kernel_rfl) (by kernel_rfl) rfl (fun _ hw=>(hr4 _)) ?_;clear S;intro a S
        clear hr4
        refine Ev 13 S hsel rfl rfl rfl rfl hb2 rfl rfl (by kernel_rfl) (by kernel_rfl) rfl (fun _ hw=>(Fx isAgg38 sizeOf38 (off:=((W (x4 - 1)).toNat) * 11) (o:=0) (part:=(Dt.enc (nth x3 (W (x4 - 1))))) rfl rfl (S.tm rfl) ((Pc Dt.enc_ok S (i:=0) rfl hg4 (Ed hc2).1 (Hr (e':=.own Aa 38 11 x3.length (x3.flatMap Dt.enc)))).kept hw))) fun a S=>Gw 14 (by kernel_rfl) rfl (Ea S rfl rfl rfl hb2 (Ec S (fun _=>Un (cap:=[]) (S.tm rfl) (vs:=[.agg (Dt.enc (nth x3 x4)).toArray,.agg (Dt.enc (nth x3 (W (x4 - 1)))).toArray]) ⟨(S.tm rfl),(S.tm rfl),trivial⟩ call32) (Vt _ (nth x3 x4) (nth x3 (W (x4 - 1))) _ rfl) rfl ?_));clear S;intro v2 a w8 hv2 hk3 hn2 S
        subst hv2
        refine Ld (Hx hk3 (Kz [15,16] hsel (by kernel_rfl) rfl ?_))
        clear hsel
        refine Fm S rfl rfl rfl rfl hb2 (Gv S (Ex (S.tm rfl) rfl) rfl fun a S=>Gk S rfl (Qi hb2 (S.tm rfl) (S.tm rfl)) rfl fun a S=>Ig ?_)
        replace S:=S.nk [.own Aa 38 11 x3.length (x3.flatMap Dt.enc)] [(0,Aa),(1,iV Al),(2,iV Aq),(3,.func (.func 32) #[] #[]),(8,iV x2),(9,iV x4),(22,.func (.func 32) #[] #[]),(23,Aa),(24,iV x4),(25,.pointer (some ⟨b3,x4.toNat * 11,none⟩)),(26,.agg (Dt.enc (nth x3 x4)).toArray),(27,Aa),(28,iV x4),(29,iV (W (x4 - 1))),(30,.pointer (some ⟨b4,((W (x4 - 1)).toNat) * 11,none⟩)),(31,.agg (Dt.enc (nth x3 (W (x4 - 1)))).toArray),(32,iV (Ji (nth x3 x4) (nth x3 (W (x4 - 1))))),(33,bV (decide ((Ji (nth x3 x4) (nth x3 (W (x4 - 1)))) < 0))),(34,bV (decide ((Ji (nth x3 x4) (nth x3 (W (x4 - 1)))) < 0)))] [true] rfl (subR rfl)
        exact Tn (⟨decide ((Ji (nth x3 x4) (nth x3 (W (x4 - 1)))) < 0),h,S.nf [true] rfl (subR rfl)⟩)
       ·replace h:=Qx h hb2
        refine Hd [] ([]) Tryz.mixed S rfl (by kernel_rfl) ?_;clear S;intro w9 hk4 hsel S
        refine Kz [0,1,2,3,4,5,6,7,8,9,10,11,12,13,14,15,16] hsel (by kernel_rfl) rfl ?_
        clear hsel
        refine Gk S rfl (Rm (S.tm rfl)) rfl fun a S=>Gk S rfl (Rm (S.tm rfl)) rfl fun a S=>Gk S rfl (Jh (S.tm rfl) (S.tm rfl)) rfl fun a S=>Gk S rfl (Rm (S.tm rfl)) rfl ?_;clear S;intro a S
        iterate 12 (refine Qe S rfl rfl rfl rfl (Jq hb2) rfl ?_ rfl;clear S;intro a S)
        refine Gk S rfl (Qj hb2 (S.tm rfl) rfl) rfl fun a S=>Ig ?_
        replace S:=S.k7 0 1 2 3 8 9 34 rfl
        exact Tn (⟨false,h,S.nf [true] rfl (subR rfl)⟩)
      clear S h;rintro a w5 ⟨x5,h,S⟩;rw [hj3] at h;clear hj3 j3
      refine Tn (Fc h (S.tm rfl) (fun hb3 h=>?_) (fun hb3 h=>?_))
      ·refine wp_skip (Tn (Fs (wp_block ?_)))
       obtain ⟨hc3,h⟩:=Ia h
       obtain ⟨hc4,h⟩:=Ia h
       obtain ⟨hc5,h⟩:=Ia h
       obtain ⟨hc6,h⟩:=Ia h
       refine Hd [15,17] ([]) Tryz.mixed S rfl (by kernel_rfl) ?_;clear S;intro w14 hk9 hsel S
       refine Gu 0 S hsel rfl rfl (by kernel_rfl) (by kernel_rfl) rfl (fun _=>(Rm (S.tm rfl))) fun a S=>Gu 1 S hsel rfl rfl (by kernel_rfl) (by kernel_rfl) rfl (fun _=>(Rm (S.tm rfl))) fun a S=>Gu 2 S hsel rfl rfl (by kernel_rfl) (by kernel_rfl) rfl (fun _=>(Rm (S.tm rfl))) fun a S=>Gu 3 S hsel rfl rfl (by kernel_rfl) (by kernel_rfl) rfl (fun _=>(Rm (S.tm rfl))) fun a S=>Gu 4 S hsel rfl rfl (by kernel_rfl) (by kernel_rfl) rfl (fun _=>(Ja (S.tm rfl) rfl)) fun a S=>Gu 5 S hsel rfl rfl (by kernel_rfl) (by kernel_rfl) rfl (fun _=>(Rm (S.tm rfl))) fun a S=>Gu 6 S hsel rfl rfl (by kernel_rfl) (by kernel_rfl) rfl (fun _=>(Rm (S.tm rfl))) fun a S=>Gu 7 S hsel rfl rfl (by kernel_rfl) (by kernel_rfl) rfl (fun _=>(Ja (S.tm rfl) rfl)) ?_;clear S;intro a S
       obtain ⟨b9,hg9,hr9⟩:=Hk (a:=a) (x:=.tmp 42) (y:=.tmp 44) (ty:=0) Ni Dt.enc_ok S (i:=0) rfl (Ed hc3).1 (Ed hc3).2 (S.tm rfl) (S.tm rfl)
       refine Gu 8 S hsel rfl rfl (by kernel_rfl) (by kernel_rfl) rfl (fun _=>(hr9 _)) ?_;clear S;intro a S
       clear hr9
       refine Ef 9 S hsel rfl (by kernel_rfl) (by kernel_rfl) (by kernel_rfl) (by kernel_rfl) rfl (fun _ hw=>(Fx isAgg38 sizeOf38 (off:=((W (x4 - 1)).toNat) * 11) (o:=0) (part:=(Dt.enc (nth x3 (W (x4 - 1))))) rfl rfl (S.tm rfl) ((Pc Dt.enc_ok S (i:=0) rfl hg9 (Ed hc3).1 (Hr (e':=.own Aa 38 11 x3.length (x3.flatMap Dt.enc)))).kept hw))) fun a S=>Gu 10 S hsel rfl rfl (by kernel_rfl) (by kernel_rfl) rfl (fun _=>(Rm (S.tm rfl))) fun a S=>Gu 11 S hsel rfl rfl (by kernel_rfl) (by kernel_rfl) rfl (fun _=>(Rm (S.tm rfl))) ?_;clear S;intro a S
       obtain ⟨b10,hg10,hr10⟩:=Hk (a:=a) (x:=.tmp 47) (y:=.tmp 48) (ty:=0) Ni Dt.enc_ok S (i:=0) rfl (Ed hc4).1 (Ed hc4).2 (S.tm rfl) (S.tm rfl)
       refine Gu 12 S hsel rfl rfl (by kernel_rfl) (by kernel_rfl) rfl (fun _=>(hr10 _)) ?_;clear S;intro a S
       clear hr10
       refine Ef 13 S hsel rfl (by kernel_rfl) (by kernel_rfl) (by kernel_rfl) (by kernel_rfl) rfl (fun _ hw=>(Fx isAgg38 sizeOf38 (off:=x4.toNat * 11) (o:=0) (part:=(Dt.enc (nth x3 x4))) rfl rfl (S.tm rfl) ((Pc Dt.enc_ok S (i:=0) rfl hg10 (Ed hc4).1 (Hr (e':=.own Aa 38 11 x3.length (x3.flatMap Dt.enc)))).kept hw))) ?_;clear S;intro a S
       obtain ⟨b11,hg11,hr11⟩:=Hk (a:=a) (x:=.tmp 37) (y:=.tmp 38) (ty:=0) Ni Dt.enc_ok S (i:=0) rfl (Ed hc5).1 (Ed hc5).2 (S.tm rfl) (S.tm rfl)
       refine Gu 14 S hsel rfl rfl (by kernel_rfl) (by kernel_rfl) rfl (fun _=>(hr11 _)) ?_;clear S;intro a S
       clear hr11
       refine Xz 15 (Aa.ownBlock.toList) rfl (by kernel_rfl) rfl (Pv (c:=0) (j:=x4.toNat) (nth x3 (W (x4 - 1))) Dt.enc_ok S (S.tm rfl) (S.tm rfl) (i:=0) rfl hg11 (Ed hc5).1 sizeOf38 (vs:=[sV ((nth x3 (W (x4 - 1))).Site),iV ((nth x3 (W (x4 - 1))).No),iV ((nth x3 (W (x4 - 1))).At),iV ((nth x3 (W (x4 - 1))).Kind),sV ((nth x3 (W (x4 - 1))).Who),sV ((nth x3 (W (x4 - 1))).Club),sV ((nth x3 (W (x4 - 1))).Race),iV ((nth x3 (W (x4 - 1))).Time),iV ((nth x3 (W (x4 - 1))).Fault),sV ((nth x3 (W (x4 - 1))).Of),iV ((nth x3 (W (x4 - 1))).Other)]) rfl rfl rfl rfl rfl ?_);clear S;intro w16 hk11 S
       refine Ld (Ya ?_)
       obtain ⟨b12,hg12,hr12⟩:=Hk (a:=a) (x:=.tmp 39) (y:=.tmp 41) (ty:=0) Ni Dt.enc_ok S (i:=0) rfl (Ed hc6).1 (Ed hc6).2 (S.tm rfl) (S.tm rfl)
       refine Ef 16 S hsel rfl rfl rfl (by kernel_rfl) (by kernel_rfl) rfl (fun _ hw=>(hr12 _)) ?_;clear S;intro a S
       clear hr12
       refine Gw 17 (by kernel_rfl) rfl (Pv (c:=0) (j:=(W (x4 - 1)).toNat) (nth x3 x4) Dt.enc_ok S (S.tm rfl) (S.tm rfl) (i:=0) rfl hg12 (Ed hc6).1 sizeOf38 (vs:=[sV ((nth x3 x4).Site),iV ((nth x3 x4).No),iV ((nth x3 x4).At),iV ((nth x3 x4).Kind),sV ((nth x3 x4).Who),sV ((nth x3 x4).Club),sV ((nth x3 x4).Race),iV ((nth x3 x4).Time),iV ((nth x3 x4).Fault),sV ((nth x3 x4).Of),iV ((nth x3 x4).Other)]) rfl rfl rfl rfl rfl ?_);clear S;intro w18 hk13 S
       refine Ld (Hx hk13 (Wu (by kernel_rfl) ?_))
       clear hsel
       replace S:=(S.nl [.own Aa 38 11 ((x3.set x4.toNat (nth x3 (W (x4 - 1)))).set ((W (x4 - 1)).toNat) (nth x3 x4)).length (((x3.set x4.toNat (nth x3 (W (x4 - 1)))).set ((W (x4 - 1)).toNat) (nth x3 x4)).flatMap Dt.enc)] [true] rfl).k6 0 1 2 3 8 9 rfl
       exact Ho (Tn (Fg (Vm S rfl rfl fun a S=>Vq S Ja rfl rfl rfl fun a S=>Va S rfl rfl fun a S=>Dl (⟨m2,⟨((x3.set x4.toNat (nth x3 (W (x4 - 1)))).set ((W (x4 - 1)).toNat) (nth x3 x4)),W (x4 - 1),h,S.nf [true] rfl ⟨rfl,rfl,rfl,rfl,rfl,rfl,trivial⟩⟩,Nat.lt_succ_self _⟩))))
      ·exact wp_exit (Ei (Ei (Gp (Tn (⟨x3,h,S.nf [true] rfl (subR rfl)⟩)))))
    clear S h;rintro a w4 ⟨x3,h,S⟩;rw [hj2] at h;clear hj2 j2
    exact Ho (Tn (Fg (Vm S rfl rfl fun a S=>Vq S Gf rfl rfl rfl fun a S=>Va S rfl rfl fun a S=>Dl (⟨m1,⟨x3,W (x2 + 1),h,S.nf [true] rfl ⟨rfl,rfl,rfl,rfl,rfl,trivial⟩⟩,Nat.lt_succ_self _⟩))))
   ·exact wp_exit (Ei (Ei (Gp (Tn (⟨x1,h,S.nf [true] rfl trivial⟩)))))
 clear S h;rintro a w2 ⟨x1,h,S⟩;rw [hj1] at h;clear hj1 j1
 obtain rfl:=Option.some.inj h
 exact Uv S results94 ⟨(S.holds _ (List.mem_of_getElem? (i:=0) rfl)),rfl⟩
theorem Qt (w : World) (Aa : Value) (Ar : List Dt) (Bj : (LEnt.own Aa 38 11 Ar.length (Ar.flatMap Dt.enc)).holds w) (Az : Int) (r : (List Dt)) (h : Jc Ar Az = some r) :
    Calls prog 61 [Aa,iV Az,.func (.func 32) #[] #[]].toArray w (Ret w (Aa.ownBlock.toList) fun _ v w'=>(LEnt.own Aa 38 11 r.length (r.flatMap Dt.enc)).holds w' ∧ v = .tuple #[]):=by
 refine Mo (Aa.ownBlock.toList) [.own Aa 38 11 Ar.length (Ar.flatMap Dt.enc)] func61 rfl ntmps61 rfl (fun e he=>by simp only [List.mem_singleton] at he;subst he;exact Bj) (Li _) (Nb _) fun a S=>?_
 unfold Jc at h
 replace S:=(S.nl [.own Aa 38 11 Ar.length (Ar.flatMap Dt.enc)] [true] rfl).k3 0 1 2 rfl
 refine Fr (Vk S rfl rfl fun a S=>Dz (Vm S rfl rfl fun a S=>Vk S rfl rfl fun a S=>Va S rfl rfl fun a S=>Ld ?_))
 refine Tn (Fs ?_)
 replace S:=S.k6 0 1 2 6 7 8 rfl
 obtain ⟨j1,hj1,h⟩:=Eu h
 refine En (fun a w'=>∃ x1 : List Dt,∃ x2 : Int,j1 x1 x2 = some r ∧ Sx w (Aa.ownBlock.toList) nov [.own Aa 38 11 x1.length (x1.flatMap Dt.enc)] [(0,Aa),(1,iV Az),(2,.func (.func 32) #[] #[]),(6,iV 20),(7,iV x2)] 63 a w') ?_ ?_
 ·refine wp_block (Hb (fun (m1 : Nat) a w'=>∃ x1 : List Dt,∃ x2 : Int,∃ x3 : Int,Ft Az j1 m1 x1 x2 x3 = some r ∧ Sx w (Aa.ownBlock.toList) nov [.own Aa 38 11 x1.length (x1.flatMap Dt.enc)] [(0,Aa),(1,iV Az),(2,.func (.func 32) #[] #[]),(6,iV 20),(7,iV x2),(8,iV x3)] 63 a w') id ((Az - 20).toNat + 2) ⟨Ar,0,20,h,S.nf [true] rfl (subR rfl)⟩ ?_)
  clear S h;rintro m1 a w1 ⟨x1,x2,x3,h,S⟩
  cases m1 with
  | zero=>rw [Ft.eq_1] at h;cases h
  | succ m1 =>
   rw [Ft.eq_2] at h
   refine Fs (Fr (Vm S rfl rfl fun a S=>Vm S rfl rfl fun a S=>Vb S Uk rfl rfl rfl fun a S=>Dl (Fc h (S.tm rfl) (fun hb1 h=>?_) (fun hb1 h=>?_))))
   ·refine wp_skip (Tn (wp_block (Fs (Fg ?_))))
    iterate 4 (refine Vm S rfl rfl ?_;clear S;intro a S)
    obtain ⟨r1,hr1,h⟩:=Fb h
    refine Oy 0 S rfl (fun _=>.own Aa 38 11 r1.length (r1.flatMap Dt.enc)) (fun _=>Dv (vs:=[Aa,iV x2,iV x3,.func (.func 32) #[] #[]]) ⟨(S.tm rfl),(S.tm rfl),(S.tm rfl),(S.tm rfl),trivial⟩ call94) (Ly _ Aa x1 (S.holds _ (List.mem_of_getElem? (i:=0) rfl)) x2 x3 _ hr1) rfl (fun _ _ _ h=>⟨h.1,fun _ hc=>hc⟩) ?_;clear S;intro v1 a w3 hv1 hk1 hn1 S
    replace hv1:=hv1.2
    subst hv1
    refine Dz (Vm S rfl rfl fun a S=>Va S rfl rfl fun a S=>Ld ?_)
    replace S:=(S.nl [.own Aa 38 11 r1.length (r1.flatMap Dt.enc)] [true] rfl).k6 0 1 2 6 7 8 rfl
    exact Tn (Fg (Vm S rfl rfl fun a S=>Vm S rfl rfl fun a S=>Vb S Gf rfl rfl rfl fun a S=>Va S rfl rfl fun a S=>Ld (Ho (Tn (⟨m1,⟨r1,x3,W (x3 + 20),h,S.nf [true] rfl ⟨rfl,rfl,rfl,rfl,rfl,rfl,trivial⟩⟩,Nat.lt_succ_self _⟩)))))
   ·exact wp_exit (Ei (Ei (Gp (Tn (⟨x1,x2,h,S.nf [true] rfl (subR rfl)⟩)))))
 clear S h;rintro a w2 ⟨x1,x2,h,S⟩;rw [hj1] at h;clear hj1 j1
 refine Tn (Fs (Fg ?_))
 iterate 4 (refine Vm S rfl rfl ?_;clear S;intro a S)
 obtain ⟨r2,hr2,h⟩:=Fb h
 refine Oy 0 S rfl (fun _=>.own Aa 38 11 r2.length (r2.flatMap Dt.enc)) (fun _=>Dv (vs:=[Aa,iV x2,iV Az,.func (.func 32) #[] #[]]) ⟨(S.tm rfl),(S.tm rfl),(S.tm rfl),(S.tm rfl),trivial⟩ call94) (Ly _ Aa x1 (S.holds _ (List.mem_of_getElem? (i:=0) rfl)) x2 Az _ hr2) rfl (fun _ _ _ h=>⟨h.1,fun _ hc=>hc⟩) ?_;clear S;intro v2 a w4 hv2 hk2 hn2 S
 replace hv2:=hv2.2
 subst hv2
 refine Dl ?_
 replace S:=(S.nl [.own Aa 38 11 r2.length (r2.flatMap Dt.enc)] [true] rfl).k2 1 6 rfl
 obtain ⟨j2,hj2,h⟩:=Eu h
 refine En (fun a w'=>j2 = some r ∧ Sx w (Aa.ownBlock.toList) nov [.own Aa 38 11 r2.length (r2.flatMap Dt.enc)] [] 63 a w') ?_ ?_
 ·refine wp_block (Hb (fun (m2 : Nat) a w'=>∃ x4 : Int,Fu Az j2 m2 x4 = some r ∧ Sx w (Aa.ownBlock.toList) nov [.own Aa 38 11 r2.length (r2.flatMap Dt.enc)] [(1,iV Az),(6,iV x4)] 63 a w') id ((Az - 20).toNat + 2) ⟨20,h,S.nf [true] rfl (subR rfl)⟩ ?_)
  clear S h;rintro m2 a w5 ⟨x4,h,S⟩
  cases m2 with
  | zero=>rw [Fu.eq_1] at h;cases h
  | succ m2 =>
   rw [Fu.eq_2] at h
   refine Fs (Fr (Vm S rfl rfl fun a S=>Vm S rfl rfl fun a S=>Vb S Ex rfl rfl rfl fun a S=>Dl (Fc h (S.tm rfl) (fun hb2 h=>?_) (fun hb2 h=>?_))))
   ·refine wp_skip (Tn (wp_block (Fr (Vm S rfl rfl fun a S=>Vu S (Yk rfl) rfl rfl fun a S=>Vk S rfl rfl fun a S=>Va S rfl rfl fun a S=>Dl ?_))))
    refine Fs ?_
    replace S:=S.k4 1 6 7 8 rfl
    obtain ⟨j3,hj3,h⟩:=Eu h
    refine En (fun a w'=>∃ x5 : Int,j3 x5 = some r ∧ Sx w (Aa.ownBlock.toList) nov [.own Aa 38 11 r2.length (r2.flatMap Dt.enc)] [(1,iV Az),(6,iV x4),(7,iV x5)] 63 a w') ?_ ?_
    ·refine wp_block (Hb (fun (m3 : Nat) a w'=>∃ x5 : Int,∃ x6 : Int,Gq Az j3 m3 x5 x6 = some r ∧ Sx w (Aa.ownBlock.toList) nov [.own Aa 38 11 r2.length (r2.flatMap Dt.enc)] [(1,iV Az),(6,iV x4),(7,iV x5),(8,iV x6)] 63 a w') id ((Az - (W (2 * x4))).toNat + 2) ⟨0,W (2 * x4),h,S.nf [true] rfl (subR rfl)⟩ ?_)
     clear S h;rintro m3 a w7 ⟨x5,x6,h,S⟩
     cases m3 with
     | zero=>rw [Gq.eq_1] at h;cases h
     | succ m3 =>
      rw [Gq.eq_2] at h
      refine Fs (Fr (Vm S rfl rfl fun a S=>Vm S rfl rfl fun a S=>Vb S Uk rfl rfl rfl fun a S=>Dl (Fc h (S.tm rfl) (fun hb3 h=>?_) (fun hb3 h=>?_))))
      ·refine wp_skip (Tn (wp_block (Fs ?_)))
       cases h
      ·exact wp_exit (Ei (Ei (Gp (Tn (⟨x5,h,S.nf [true] rfl (subR rfl)⟩)))))
    clear S h;rintro a w8 ⟨x5,h,S⟩;rw [hj3] at h;clear hj3 j3
    refine Tn (Fs (Fr (Vm S rfl rfl fun a S=>Vm S rfl rfl fun a S=>Vb S Gf rfl rfl rfl fun a S=>Va S rfl rfl fun a S=>Dl (Fs ?_))))
    refine Fg (Vm S rfl rfl fun a S=>Vm S rfl rfl fun a S=>Vb S Ex rfl rfl rfl fun a S=>Dl (Fc h (S.tm rfl) (fun hb4 h=>?_) (fun hb4 h=>?_)))
    ·cases h
    ·exact wp_skip (Tn (Fg (Vm S rfl rfl fun a S=>Vq S Yk rfl rfl rfl fun a S=>Va S rfl rfl fun a S=>Ld (Ho (Tn (⟨m2,⟨W (x4 * 2),h,S.nf [true] rfl ⟨rfl,rfl,trivial⟩⟩,Nat.lt_succ_self _⟩))))))
   ·exact wp_exit (Ei (Ei (Gp (Tn (⟨h,S.nf [true] rfl trivial⟩)))))
 clear S h;rintro a w6 ⟨h,S⟩;rw [hj2] at h;clear hj2 j2
 obtain rfl:=Option.some.inj h
 exact Uv S results61 ⟨(S.holds _ (List.mem_of_getElem? (i:=0) rfl)),rfl⟩
theorem Qf (w : World) (Bc : Value) (Ab : List Dt) (Cr : (LEnt.own Bc 38 11 Ab.length (Ab.flatMap Dt.enc)).holds w) (r : (List Dt)) (h : Hl Ab = some r) :
    Calls prog 31 [Bc,.func (.func 32) #[] #[]].toArray w (Ret w (Bc.ownBlock.toList) fun _ v w'=>(LEnt.own Bc 38 11 r.length (r.flatMap Dt.enc)).holds w' ∧ v = .tuple #[]):=by
 refine Mo (Bc.ownBlock.toList) [.own Bc 38 11 Ab.length (Ab.flatMap Dt.enc)] func31 rfl ntmps31 rfl (fun e he=>by simp only [List.mem_singleton] at he;subst he;exact Cr) (Li _) (Nb _) fun a S=>?_
 unfold Hl at h
 replace S:=(S.nl [.own Bc 38 11 Ab.length (Ab.flatMap Dt.enc)] [true] rfl).k2 0 1 rfl
 refine Fg (Vm S rfl rfl fun a S=>Vm S rfl rfl fun a S=>lv S (Fz Ni (S.tm rfl) (Pb (S.own_at (i:=0) rfl))) rfl fun a S=>Vm S rfl rfl ?_);clear S;intro a S
 obtain ⟨r1,hr1,h⟩:=Fb h
 refine Oy 0 S rfl (fun _=>.own Bc 38 11 r1.length (r1.flatMap Dt.enc)) (fun _=>Dv (vs:=[Bc,iV (Ab.length : Int),.func (.func 32) #[] #[]]) ⟨(S.tm rfl),(S.tm rfl),(S.tm rfl),trivial⟩ call61) (Qt _ Bc Ab (S.holds _ (List.mem_of_getElem? (i:=0) rfl)) (Ab.length : Int) _ hr1) rfl (fun _ _ _ h=>⟨h.1,fun _ hc=>hc⟩) ?_;clear S;intro v1 a w1 hv1 hk1 hn1 S
 replace hv1:=hv1.2
 subst hv1
 refine Ld ?_
 obtain rfl:=Option.some.inj h
 exact Uv S results31 ⟨(S.holds _ (List.mem_of_getElem? (i:=0) rfl)),rfl⟩
theorem GA (w : World) (O : Nat) (U : Value) (Am : List Int) (Ak : Slc (view w [O]) 1 U (Am.map eInt)) (Aj : Int) (As : (LEnt.blk O [U,iV Aj] 25).holds w) (Bn : Int) (r : (List Dt) × Int) (h : Uz Am Aj Bn = some r) :
    Calls prog 14 [.pointer (some ⟨O,0,none⟩),iV Bn].toArray w (Ret w [O] fun τ v w'=>(LEnt.blk O [U,iV r.2] 25).holds w' ∧ Td τ 38 11 v r.1.length (r.1.flatMap Dt.enc)):=by
 refine Mo [O] [.blk O [U,iV Aj] 25] func14 rfl ntmps14 rfl (fun e he=>by simp only [List.mem_singleton] at he;subst he;exact As) (by simp [fps,LEnt.fp]) (by simp [fps,LEnt.fp]) fun a S=>?_
 unfold Uz at h
 replace S:=(S.nl [.blk O [U,iV Aj] 25] [true] rfl).k2 0 1 rfl
 refine Fr (Vk S rfl rfl fun a S=>Dz (Vk S rfl rfl ?_));clear S;intro a S
 replace S:=S.nil 38 11
 refine Dz (Vk S rfl rfl fun a S=>Dz (Rk (κ:=ByteArray) (ν:=Int) S rfl Value.string (Value.int .i64) ?_));clear S;intro a w1 b1 hz1 hk1 S
 refine Va S rfl rfl fun a S=>Dl (Fs (Fr (Vm S rfl rfl fun a S=>lv S (Rm rfl) rfl fun a S=>Dl ?_)))
 replace S:=(S.nl [.map b1 (Gn Value.string (Value.int .i64) ([] : List (ByteArray × Int))) ([] : List (ByteArray × Int)).length,.own (.slice none 0 0) 38 11 ([] : List Dt).length (([] : List Dt).flatMap Dt.enc),.blk O [U,iV Aj] 25] [true,true,true] rfl).k6 0 5 6 7 10 11 rfl
 obtain ⟨j1,hj1,h⟩:=Eu h
 refine En (fun a w'=>∃ x1 : List (ByteArray × Int),∃ x2 : List Dt,∃ x3 : Int,∃ v1 : Value,j1 x1 x2 x3 = some r ∧ Sx w [O] nov [.map b1 (Gn Value.string (Value.int .i64) x1) x1.length,.own v1 38 11 x2.length (x2.flatMap Dt.enc),.blk O [U,iV x3] 25] [(5,v1)] 130 a w') ?_ ?_
 ·refine wp_block (Hb (fun (m1 : Nat) a w'=>∃ x1 : List (ByteArray × Int),∃ x2 : List Dt,∃ x3 : Int,∃ x4 : Int,∃ x5 : Int,∃ v1 : Value,Ms Bn Am j1 m1 x1 x2 x3 x4 x5 = some r ∧ Sx w [O] nov [.map b1 (Gn Value.string (Value.int .i64) x1) x1.length,.own v1 38 11 x2.length (x2.flatMap Dt.enc),.blk O [U,iV x3] 25] [(0,.pointer (some ⟨O,0,none⟩)),(5,v1),(6,iV x4),(7,.map (some b1)),(10,iV Bn),(11,iV x5)] 130 a w') id ((Bn - 0).toNat + 2) ⟨([] : List (ByteArray × Int)),([] : List Dt),Aj,0,0,(.slice none 0 0),h,S.nf [true,true,true] rfl (subR rfl)⟩ ?_)
  clear S h;rintro m1 a w2 ⟨x1,x2,x3,x4,x5,v1,h,S⟩
  cases m1 with
  | zero=>rw [Ms.eq_1] at h;cases h
  | succ m1 =>
   rw [Ms.eq_2] at h
   refine Fr (Vb S Ex rfl rfl rfl fun a S=>Dl (Fs (Fc h (S.tm rfl) (fun hb1 h=>?_) (fun hb1 h=>?_))))
   ·refine wp_skip (Tn (Fs (wp_block (Fr (Vm S rfl rfl fun a S=>Vm S rfl rfl fun a S=>Et S underlying22 sizeOf3 zeroValue3 rfl rfl (pv:=[(0,iV 0),(1,iV 1),(2,iV 5)]) ⟨rfl,rfl,rfl,rfl,rfl,rfl,trivial⟩ (cs:=[iV 0,iV 1,iV 5]) (by kernel_rfl) rfl ?_)))));clear S;intro a w4 b2 hz2 hk2 S
    obtain ⟨r1,hr1,h⟩:=Fb h
    refine Hg 3 S (b:=O) rfl rfl (fun _=>.blk O [U,iV r1.2] 25) (fun _=>Dv (vs:=[.pointer (some ⟨O,0,none⟩),.slice (some ⟨b2,0,none⟩) 3 3]) ⟨(S.tm rfl),(S.tm rfl),trivial⟩ call28) (Iy _ O U Am (Ak.mono (S.le_arg (Ip (i:=3) (e:=.blk O [U,iV x3] 25) rfl))) x3 (S.holds _ (List.mem_of_getElem? (i:=3) rfl)) (.slice (some ⟨b2,0,none⟩) 3 3) [0,1,5] (Jr Ih S (i:=0) rfl rfl rfl rfl ((Mk (i:=3) (j:=0) (e:=.blk O [U,iV x3] 25) (e':=.blk b2 [iV 0,iV 1,iV 5] 3) S rfl rfl rfl) _ rfl)) _ hr1) rfl (fun _ _ _ h=>⟨h.1,fun _ hc=>by cases hc;rfl⟩) ?_;clear S;intro v2 a w5 hv1 hk3 hn1 S
    replace hv1:=hv1.2
    subst hv1
    refine Vb S Gf rfl rfl rfl fun a S=>Va S rfl rfl fun a S=>Dz (Vm S rfl rfl fun a S=>Et S underlying40 sizeOf9 zeroValue9 rfl rfl (pv:=[(0,sV Sc),(1,sV Sc),(2,sV EW)]) ⟨rfl,rfl,rfl,rfl,rfl,rfl,trivial⟩ (cs:=[sV Sc,sV Sc,sV EW]) (by kernel_rfl) rfl ?_);clear S;intro a w6 b3 hz3 hk4 S
    obtain ⟨r2,hr2,h⟩:=Fb h
    refine Hg 4 S (b:=O) rfl rfl (fun _=>.blk O [U,iV r2.2] 25) (fun _=>Dv (vs:=[.pointer (some ⟨O,0,none⟩),.slice (some ⟨b3,0,none⟩) 3 3]) ⟨(S.tm rfl),(S.tm rfl),trivial⟩ call29) (Oj _ O U Am (Ak.mono (S.le_arg (Ip (i:=4) (e:=.blk O [U,iV r1.2] 25) rfl))) r1.2 (S.holds _ (List.mem_of_getElem? (i:=4) rfl)) (.slice (some ⟨b3,0,none⟩) 3 3) [Sc,Sc,EW] (Jr Qm S (i:=0) rfl rfl rfl rfl ((Mk (i:=4) (j:=0) (e:=.blk O [U,iV r1.2] 25) (e':=.blk b3 [sV Sc,sV Sc,sV EW] 9) S rfl rfl rfl) _ rfl)) _ hr2) rfl (fun _ _ _ h=>⟨h.1,fun _ hc=>by cases hc;rfl⟩) ?_;clear S;intro v3 a w7 hv2 hk5 hn2 S
    replace hv2:=hv2.2
    subst hv2
    refine Vm S rfl rfl fun a S=>Vm S rfl rfl fun a S=>Et S underlying22 sizeOf3 zeroValue3 rfl rfl (pv:=[(0,iV 1),(1,iV 1),(2,iV 1),(3,iV 3),(4,iV 3),(5,iV 3),(6,iV 2),(7,iV 4)]) ⟨rfl,rfl,rfl,rfl,rfl,rfl,rfl,rfl,rfl,rfl,rfl,rfl,rfl,rfl,rfl,rfl,trivial⟩ (cs:=[iV 1,iV 1,iV 1,iV 3,iV 3,iV 3,iV 2,iV 4]) (by kernel_rfl) rfl ?_;clear S;intro a w8 b4 hz4 hk6 S
    obtain ⟨r3,hr3,h⟩:=Fb h
    refine Hg 5 S (b:=O) rfl rfl (fun _=>.blk O [U,iV r3.2] 25) (fun _=>Dv (vs:=[.pointer (some ⟨O,0,none⟩),.slice (some ⟨b4,0,none⟩) 8 8]) ⟨(S.tm rfl),(S.tm rfl),trivial⟩ call28) (Iy _ O U Am (Ak.mono (S.le_arg (Ip (i:=5) (e:=.blk O [U,iV r2.2] 25) rfl))) r2.2 (S.holds _ (List.mem_of_getElem? (i:=5) rfl)) (.slice (some ⟨b4,0,none⟩) 8 8) [1,1,1,3,3,3,2,4] (Jr Ih S (i:=0) rfl rfl rfl rfl ((Mk (i:=5) (j:=0) (e:=.blk O [U,iV r2.2] 25) (e':=.blk b4 [iV 1,iV 1,iV 1,iV 3,iV 3,iV 3,iV 2,iV 4] 3) S rfl rfl rfl) _ rfl)) _ hr3) rfl (fun _ _ _ h=>⟨h.1,fun _ hc=>by cases hc;rfl⟩) ?_;clear S;intro v4 a w9 hv3 hk7 hn3 S
    replace hv3:=hv3.2
    subst hv3
    refine lv S (Mj JL (pv:=[(0,sV r2.1),(2,iV (W (x4 + r1.1))),(3,iV r3.1)]) ⟨rfl,(S.tm rfl),rfl,(S.tm rfl),rfl,(S.tm rfl),trivial⟩ (cs:=[sV r2.1,iV 0,iV (W (x4 + r1.1)),iV r3.1,sV An,sV An,sV An,iV 0,iV 0,sV An,iV 0]) (by kernel_rfl)) rfl fun a S=>Hz S zeroValue38 (cs:=[sV An,iV 0,iV 0,iV 0,sV An,sV An,sV An,iV 0,iV 0,sV An,iV 0]) rfl rfl ?_;clear S;intro a w10 b5 hz5 hk8 S
    refine Fh S (S.tm rfl) (S.tm rfl) (i:=0) (off:=0) rfl sizeOf38 (vs:=(Dt.enc (Dt.mk r2.1 0 (W (x4 + r1.1)) r3.1 An An An 0 0 An 0))) rfl rfl rfl rfl ?_;clear S;intro w11 hk9 S
    refine Ld ?_
    replace S:=(S.nl [.blk b5 (Dt.enc (Dt.mk r2.1 0 (W (x4 + r1.1)) r3.1 An An An 0 0 An 0)) 38,.map b1 (Gn Value.string (Value.int .i64) x1) x1.length,.own v1 38 11 x2.length (x2.flatMap Dt.enc),.blk O [U,iV r3.2] 25] [true,false,false,false,true,true,true] rfl).k7 0 5 6 7 8 10 11 rfl
    refine Tn (Fr (Vm S rfl rfl fun a S=>Vf Ri S rfl rfl fun a S=>Vl isAgg9 0 S rfl rfl rfl rfl fun a S=>lv S (Pt (kv:=Value.string) (vv:=(Value.int .i64)) (m:=x1) (key:=r2.1) (z:=0) (S.map_at (i:=1) rfl) underlying89 (Mz underlying9) zeroValue3 (S.tm rfl) (S.tm rfl)) rfl fun a S=>Vq S Gf rfl rfl rfl fun a S=>Ox (kv:=Value.string) (vv:=(Value.int .i64)) (m:=x1) (key:=r2.1) (val:=W ((Ee x1 r2.1 0) + 1)) S (i:=1) rfl underlying89 (Mz underlying9) (S.tm rfl) (S.tm rfl) (S.tm rfl) ?_));clear S;intro w12 hk10 S
    refine Dz (Vm S rfl rfl fun a S=>Vf Ri S rfl rfl fun a S=>Vl isAgg9 0 S rfl rfl rfl rfl fun a S=>lv S (Pt (kv:=Value.string) (vv:=(Value.int .i64)) (m:=(Gj x1 r2.1 (W ((Ee x1 r2.1 0) + 1)))) (key:=r2.1) (z:=0) (S.map_at (i:=1) rfl) underlying89 (Mz underlying9) zeroValue3 (S.tm rfl) (S.tm rfl)) rfl fun a S=>Vf Tk S rfl rfl fun a S=>Fh S (S.tm rfl) (S.tm rfl) (i:=0) (off:=1) rfl sizeOf3 (vs:=[iV (Ee (Gj x1 r2.1 (W ((Ee x1 r2.1 0) + 1))) r2.1 0)]) rfl rfl rfl rfl ?_);clear S;intro w13 hk11 S
    refine Ld ?_
    replace S:=(S.nl [.blk b5 (Dt.enc (Dt.mk r2.1 (Ee (Gj x1 r2.1 (W ((Ee x1 r2.1 0) + 1))) r2.1 0) (W (x4 + r1.1)) r3.1 An An An 0 0 An 0)) 38,.map b1 (Gn Value.string (Value.int .i64) (Gj x1 r2.1 (W ((Ee x1 r2.1 0) + 1)))) (Gj x1 r2.1 (W ((Ee x1 r2.1 0) + 1))).length,.own v1 38 11 x2.length (x2.flatMap Dt.enc),.blk O [U,iV r3.2] 25] [true,true,true,true] rfl).k7 0 5 6 7 8 10 11 rfl
    refine Tn (Fs (Fr (Vf Pm S rfl rfl fun a S=>Vl isAgg3 0 S rfl rfl rfl rfl fun a S=>Vq S Ky rfl rfl rfl fun a S=>Dl ?_)))
    obtain ⟨j2,hj2,h⟩:=Eu h
    refine En (fun a w'=>∃ x6 : ByteArray,∃ x7 : ByteArray,∃ x8 : Int,j2 x6 x7 x8 = some r ∧ Sx w [O] nov [.blk b5 (Dt.enc (Dt.mk r2.1 (Ee (Gj x1 r2.1 (W ((Ee x1 r2.1 0) + 1))) r2.1 0) (W (x4 + r1.1)) r3.1 x6 An x7 0 0 An 0)) 38,.map b1 (Gn Value.string (Value.int .i64) (Gj x1 r2.1 (W ((Ee x1 r2.1 0) + 1)))) (Gj x1 r2.1 (W ((Ee x1 r2.1 0) + 1))).length,.own v1 38 11 x2.length (x2.flatMap Dt.enc),.blk O [U,iV x8] 25] [(0,.pointer (some ⟨O,0,none⟩)),(5,v1),(6,iV (W (x4 + r1.1))),(7,.map (some b1)),(8,.pointer (some ⟨b5,0,none⟩)),(10,iV Bn),(11,iV x5)] 130 a w') ?_ ?_
    ·refine Fc h (S.tm rfl) (fun hb2 h=>?_) (fun hb2 h=>?_)
     ·refine Fg (Vm S rfl rfl fun a S=>Et S underlying40 sizeOf9 zeroValue9 rfl rfl (pv:=[(0,sV Ok),(1,sV AO),(2,sV AP),(3,sV AQ)]) ⟨rfl,rfl,rfl,rfl,rfl,rfl,rfl,rfl,trivial⟩ (cs:=[sV Ok,sV AO,sV AP,sV AQ]) (by kernel_rfl) rfl ?_);clear S;intro a w15 b6 hz6 hk12 S
      obtain ⟨r4,hr4,h⟩:=Fb h
      refine Hg 4 S (b:=O) rfl rfl (fun _=>.blk O [U,iV r4.2] 25) (fun _=>Dv (vs:=[.pointer (some ⟨O,0,none⟩),.slice (some ⟨b6,0,none⟩) 4 4]) ⟨(S.tm rfl),(S.tm rfl),trivial⟩ call29) (Oj _ O U Am (Ak.mono (S.le_arg (Ip (i:=4) (e:=.blk O [U,iV r3.2] 25) rfl))) r3.2 (S.holds _ (List.mem_of_getElem? (i:=4) rfl)) (.slice (some ⟨b6,0,none⟩) 4 4) [Ok,AO,AP,AQ] (Jr Qm S (i:=0) rfl rfl rfl rfl ((Mk (i:=4) (j:=0) (e:=.blk O [U,iV r3.2] 25) (e':=.blk b6 [sV Ok,sV AO,sV AP,sV AQ] 9) S rfl rfl rfl) _ rfl)) _ hr4) rfl (fun _ _ _ h=>⟨h.1,fun _ hc=>by cases hc;rfl⟩) ?_;clear S;intro v5 a w16 hv4 hk13 hn4 S
      replace hv4:=hv4.2
      subst hv4
      refine Vm S rfl rfl fun a S=>Et S underlying40 sizeOf9 zeroValue9 rfl rfl (pv:=[(0,sV Mv),(1,sV Mv),(2,sV Su),(3,sV NW)]) ⟨rfl,rfl,rfl,rfl,rfl,rfl,rfl,rfl,trivial⟩ (cs:=[sV Mv,sV Mv,sV Su,sV NW]) (by kernel_rfl) rfl ?_;clear S;intro a w17 b7 hz7 hk14 S
      obtain ⟨r5,hr5,h⟩:=Fb h
      refine Hg 5 S (b:=O) rfl rfl (fun _=>.blk O [U,iV r5.2] 25) (fun _=>Dv (vs:=[.pointer (some ⟨O,0,none⟩),.slice (some ⟨b7,0,none⟩) 4 4]) ⟨(S.tm rfl),(S.tm rfl),trivial⟩ call29) (Oj _ O U Am (Ak.mono (S.le_arg (Ip (i:=5) (e:=.blk O [U,iV r4.2] 25) rfl))) r4.2 (S.holds _ (List.mem_of_getElem? (i:=5) rfl)) (.slice (some ⟨b7,0,none⟩) 4 4) [Mv,Mv,Su,NW] (Jr Qm S (i:=0) rfl rfl rfl rfl ((Mk (i:=5) (j:=0) (e:=.blk O [U,iV r4.2] 25) (e':=.blk b7 [sV Mv,sV Mv,sV Su,sV NW] 9) S rfl rfl rfl) _ rfl)) _ hr5) rfl (fun _ _ _ h=>⟨h.1,fun _ hc=>by cases hc;rfl⟩) ?_;clear S;intro v6 a w18 hv5 hk15 hn5 S
      replace hv5:=hv5.2
      subst hv5
      refine Vf Ou S rfl rfl fun a S=>Fh S (S.tm rfl) (S.tm rfl) (i:=2) (off:=4) rfl sizeOf9 (vs:=[sV r4.1]) rfl rfl rfl rfl ?_;clear S;intro w19 hk16 S
      refine Vf Sr S rfl rfl fun a S=>Fh S (S.tm rfl) (S.tm rfl) (i:=2) (off:=6) rfl sizeOf9 (vs:=[sV r5.1]) rfl rfl rfl rfl ?_;clear S;intro w20 hk17 S
      refine Ld ?_
      replace S:=(S.nl [.blk b5 (Dt.enc (Dt.mk r2.1 (Ee (Gj x1 r2.1 (W ((Ee x1 r2.1 0) + 1))) r2.1 0) (W (x4 + r1.1)) r3.1 r4.1 An r5.1 0 0 An 0)) 38,.map b1 (Gn Value.string (Value.int .i64) (Gj x1 r2.1 (W ((Ee x1 r2.1 0) + 1)))) (Gj x1 r2.1 (W ((Ee x1 r2.1 0) + 1))).length,.own v1 38 11 x2.length (x2.flatMap Dt.enc),.blk O [U,iV r5.2] 25] [false,false,true,true,true,true] rfl).k7 0 5 6 7 8 10 11 rfl
      exact Tn (⟨r4.1,r5.1,r5.2,h,S.nf [true,true,true,true] rfl (subR rfl)⟩)
     ·exact wp_skip (Tn (⟨An,An,r3.2,h,S.nf [true,true,true,true] rfl (subR rfl)⟩))
    clear S h;rintro a w14 ⟨x6,x7,x8,h,S⟩;rw [hj2] at h;clear hj2 j2
    refine Tn (Fs (Fr (Vf Pm S rfl rfl fun a S=>Vl isAgg3 0 S rfl rfl rfl rfl fun a S=>Dl ?_)))
    obtain ⟨j3,hj3,h⟩:=Eu h
    refine En (fun a w'=>∃ x9 : ByteArray,∃ x10 : Int,∃ x11 : Int,∃ x12 : ByteArray,∃ x13 : Int,∃ x14 : Int,j3 x9 x10 x11 x12 x13 x14 = some r ∧ Sx w [O] nov [.blk b5 (Dt.enc (Dt.mk r2.1 (Ee (Gj x1 r2.1 (W ((Ee x1 r2.1 0) + 1))) r2.1 0) (W (x4 + r1.1)) r3.1 x6 x9 x7 x10 x11 x12 x13)) 38,.map b1 (Gn Value.string (Value.int .i64) (Gj x1 r2.1 (W ((Ee x1 r2.1 0) + 1)))) (Gj x1 r2.1 (W ((Ee x1 r2.1 0) + 1))).length,.own v1 38 11 x2.length (x2.flatMap Dt.enc),.blk O [U,iV x14] 25] [(0,.pointer (some ⟨O,0,none⟩)),(5,v1),(6,iV (W (x4 + r1.1))),(7,.map (some b1)),(8,.pointer (some ⟨b5,0,none⟩)),(10,iV Bn),(11,iV x5)] 130 a w') ?_ ?_
    ·refine wp_block (Fr (Vq S Im rfl rfl rfl fun a S=>Va S rfl rfl fun a S=>Dl ?_))
     obtain ⟨j4,hj4,h⟩:=Eu h
     refine En (fun a w'=>∃ x15 : ByteArray,∃ x16 : Int,∃ x17 : Int,∃ x18 : ByteArray,∃ x19 : Int,∃ x20 : Int,j4 x15 x16 x17 x18 x19 x20 = some r ∧ Sx w [O] nov [.blk b5 (Dt.enc (Dt.mk r2.1 (Ee (Gj x1 r2.1 (W ((Ee x1 r2.1 0) + 1))) r2.1 0) (W (x4 + r1.1)) r3.1 x6 x15 x7 x16 x17 x18 x19)) 38,.map b1 (Gn Value.string (Value.int .i64) (Gj x1 r2.1 (W ((Ee x1 r2.1 0) + 1)))) (Gj x1 r2.1 (W ((Ee x1 r2.1 0) + 1))).length,.own v1 38 11 x2.length (x2.flatMap Dt.enc),.blk O [U,iV x20] 25] [(0,.pointer (some ⟨O,0,none⟩)),(5,v1),(6,iV (W (x4 + r1.1))),(7,.map (some b1)),(8,.pointer (some ⟨b5,0,none⟩)),(10,iV Bn),(11,iV x5)] 130 a w') ?_ ?_
     ·refine Fc h (S.tm rfl) (fun hb3 h=>?_) (fun hb3 h=>?_)
      ·refine Fg (Vm S rfl rfl fun a S=>Et S underlying40 sizeOf9 zeroValue9 rfl rfl (pv:=[(0,sV Ts),(1,sV DS),(2,sV An)]) ⟨rfl,rfl,rfl,rfl,rfl,rfl,trivial⟩ (cs:=[sV Ts,sV DS,sV An]) (by kernel_rfl) rfl ?_);clear S;intro a w23 b8 hz8 hk18 S
       obtain ⟨r6,hr6,h⟩:=Fb h
       refine Hg 4 S (b:=O) rfl rfl (fun _=>.blk O [U,iV r6.2] 25) (fun _=>Dv (vs:=[.pointer (some ⟨O,0,none⟩),.slice (some ⟨b8,0,none⟩) 3 3]) ⟨(S.tm rfl),(S.tm rfl),trivial⟩ call29) (Oj _ O U Am (Ak.mono (S.le_arg (Ip (i:=4) (e:=.blk O [U,iV x8] 25) rfl))) x8 (S.holds _ (List.mem_of_getElem? (i:=4) rfl)) (.slice (some ⟨b8,0,none⟩) 3 3) [Ts,DS,An] (Jr Qm S (i:=0) rfl rfl rfl rfl ((Mk (i:=4) (j:=0) (e:=.blk O [U,iV x8] 25) (e':=.blk b8 [sV Ts,sV DS,sV An] 9) S rfl rfl rfl) _ rfl)) _ hr6) rfl (fun _ _ _ h=>⟨h.1,fun _ hc=>by cases hc;rfl⟩) ?_;clear S;intro v7 a w24 hv6 hk19 hn6 S
       replace hv6:=hv6.2
       subst hv6
       refine Vm S rfl rfl fun a S=>Et S underlying22 sizeOf3 zeroValue3 rfl rfl (pv:=[(0,iV 0),(1,iV 5900),(2,iV 6000),(3,iV 7000)]) ⟨rfl,rfl,rfl,rfl,rfl,rfl,rfl,rfl,trivial⟩ (cs:=[iV 0,iV 5900,iV 6000,iV 7000]) (by kernel_rfl) rfl ?_;clear S;intro a w25 b9 hz9 hk20 S
       obtain ⟨r7,hr7,h⟩:=Fb h
       refine Hg 5 S (b:=O) rfl rfl (fun _=>.blk O [U,iV r7.2] 25) (fun _=>Dv (vs:=[.pointer (some ⟨O,0,none⟩),.slice (some ⟨b9,0,none⟩) 4 4]) ⟨(S.tm rfl),(S.tm rfl),trivial⟩ call28) (Iy _ O U Am (Ak.mono (S.le_arg (Ip (i:=5) (e:=.blk O [U,iV r6.2] 25) rfl))) r6.2 (S.holds _ (List.mem_of_getElem? (i:=5) rfl)) (.slice (some ⟨b9,0,none⟩) 4 4) [0,5900,6000,7000] (Jr Ih S (i:=0) rfl rfl rfl rfl ((Mk (i:=5) (j:=0) (e:=.blk O [U,iV r6.2] 25) (e':=.blk b9 [iV 0,iV 5900,iV 6000,iV 7000] 3) S rfl rfl rfl) _ rfl)) _ hr7) rfl (fun _ _ _ h=>⟨h.1,fun _ hc=>by cases hc;rfl⟩) ?_;clear S;intro v8 a w26 hv7 hk21 hn7 S
       replace hv7:=hv7.2
       subst hv7
       refine Vf Vj S rfl rfl fun a S=>Fh S (S.tm rfl) (S.tm rfl) (i:=2) (off:=5) rfl sizeOf9 (vs:=[sV r6.1]) rfl rfl rfl rfl ?_;clear S;intro w27 hk22 S
       refine Vf Uj S rfl rfl fun a S=>Fh S (S.tm rfl) (S.tm rfl) (i:=2) (off:=7) rfl sizeOf3 (vs:=[iV r7.1]) rfl rfl rfl rfl ?_;clear S;intro w28 hk23 S
       refine Ld ?_
       replace S:=(S.nl [.blk b5 (Dt.enc (Dt.mk r2.1 (Ee (Gj x1 r2.1 (W ((Ee x1 r2.1 0) + 1))) r2.1 0) (W (x4 + r1.1)) r3.1 x6 r6.1 x7 r7.1 0 An 0)) 38,.map b1 (Gn Value.string (Value.int .i64) (Gj x1 r2.1 (W ((Ee x1 r2.1 0) + 1)))) (Gj x1 r2.1 (W ((Ee x1 r2.1 0) + 1))).length,.own v1 38 11 x2.length (x2.flatMap Dt.enc),.blk O [U,iV r7.2] 25] [false,false,true,true,true,true] rfl).k7 0 5 6 7 8 10 11 rfl
       exact Tn (⟨r6.1,r7.1,0,An,0,r7.2,h,S.nf [true,true,true,true] rfl (subR rfl)⟩)
      ·refine Fr (Vq S Im rfl rfl rfl fun a S=>Va S rfl rfl fun a S=>Dl ?_)
       obtain ⟨j5,hj5,h⟩:=Eu h
       refine En (fun a w'=>∃ x21 : Int,∃ x22 : Int,∃ x23 : ByteArray,∃ x24 : Int,∃ x25 : Int,j5 x21 x22 x23 x24 x25 = some r ∧ Sx w [O] nov [.blk b5 (Dt.enc (Dt.mk r2.1 (Ee (Gj x1 r2.1 (W ((Ee x1 r2.1 0) + 1))) r2.1 0) (W (x4 + r1.1)) r3.1 x6 An x7 x21 x22 x23 x24)) 38,.map b1 (Gn Value.string (Value.int .i64) (Gj x1 r2.1 (W ((Ee x1 r2.1 0) + 1)))) (Gj x1 r2.1 (W ((Ee x1 r2.1 0) + 1))).length,.own v1 38 11 x2.length (x2.flatMap Dt.enc),.blk O [U,iV x25] 25] [(0,.pointer (some ⟨O,0,none⟩)),(5,v1),(6,iV (W (x4 + r1.1))),(7,.map (some b1)),(8,.pointer (some ⟨b5,0,none⟩)),(10,iV Bn),(11,iV x5)] 130 a w') ?_ ?_
       ·refine Fc h (S.tm rfl) (fun hb4 h=>?_) (fun hb4 h=>?_)
        ·refine Fg (Vm S rfl rfl fun a S=>Et S underlying22 sizeOf3 zeroValue3 rfl rfl (pv:=[(0,iV 0),(1,iV 5900),(2,iV 5900),(3,iV 6000),(4,iV 6100)]) ⟨rfl,rfl,rfl,rfl,rfl,rfl,rfl,rfl,rfl,rfl,trivial⟩ (cs:=[iV 0,iV 5900,iV 5900,iV 6000,iV 6100]) (by kernel_rfl) rfl ?_);clear S;intro a w30 b10 hz10 hk24 S
         obtain ⟨r8,hr8,h⟩:=Fb h
         refine Hg 4 S (b:=O) rfl rfl (fun _=>.blk O [U,iV r8.2] 25) (fun _=>Dv (vs:=[.pointer (some ⟨O,0,none⟩),.slice (some ⟨b10,0,none⟩) 5 5]) ⟨(S.tm rfl),(S.tm rfl),trivial⟩ call28) (Iy _ O U Am (Ak.mono (S.le_arg (Ip (i:=4) (e:=.blk O [U,iV x8] 25) rfl))) x8 (S.holds _ (List.mem_of_getElem? (i:=4) rfl)) (.slice (some ⟨b10,0,none⟩) 5 5) [0,5900,5900,6000,6100] (Jr Ih S (i:=0) rfl rfl rfl rfl ((Mk (i:=4) (j:=0) (e:=.blk O [U,iV x8] 25) (e':=.blk b10 [iV 0,iV 5900,iV 5900,iV 6000,iV 6100] 3) S rfl rfl rfl) _ rfl)) _ hr8) rfl (fun _ _ _ h=>⟨h.1,fun _ hc=>by cases hc;rfl⟩) ?_;clear S;intro v9 a w31 hv8 hk25 hn8 S
         replace hv8:=hv8.2
         subst hv8
         refine Vm S rfl rfl fun a S=>Et S underlying22 sizeOf3 zeroValue3 rfl rfl (pv:=[(0,iV 0),(1,iV 0),(2,iV 0),(3,iV 0),(4,iV 3)]) ⟨rfl,rfl,rfl,rfl,rfl,rfl,rfl,rfl,rfl,rfl,trivial⟩ (cs:=[iV 0,iV 0,iV 0,iV 0,iV 3]) (by kernel_rfl) rfl ?_;clear S;intro a w32 b11 hz11 hk26 S
         obtain ⟨r9,hr9,h⟩:=Fb h
         refine Hg 5 S (b:=O) rfl rfl (fun _=>.blk O [U,iV r9.2] 25) (fun _=>Dv (vs:=[.pointer (some ⟨O,0,none⟩),.slice (some ⟨b11,0,none⟩) 5 5]) ⟨(S.tm rfl),(S.tm rfl),trivial⟩ call28) (Iy _ O U Am (Ak.mono (S.le_arg (Ip (i:=5) (e:=.blk O [U,iV r8.2] 25) rfl))) r8.2 (S.holds _ (List.mem_of_getElem? (i:=5) rfl)) (.slice (some ⟨b11,0,none⟩) 5 5) [0,0,0,0,3] (Jr Ih S (i:=0) rfl rfl rfl rfl ((Mk (i:=5) (j:=0) (e:=.blk O [U,iV r8.2] 25) (e':=.blk b11 [iV 0,iV 0,iV 0,iV 0,iV 3] 3) S rfl rfl rfl) _ rfl)) _ hr9) rfl (fun _ _ _ h=>⟨h.1,fun _ hc=>by cases hc;rfl⟩) ?_;clear S;intro v10 a w33 hv9 hk27 hn9 S
         replace hv9:=hv9.2
         subst hv9
         refine Vf Uj S rfl rfl fun a S=>Fh S (S.tm rfl) (S.tm rfl) (i:=2) (off:=7) rfl sizeOf3 (vs:=[iV r8.1]) rfl rfl rfl rfl ?_;clear S;intro w34 hk28 S
         refine Vf Wf S rfl rfl fun a S=>Fh S (S.tm rfl) (S.tm rfl) (i:=2) (off:=8) rfl sizeOf3 (vs:=[iV r9.1]) rfl rfl rfl rfl ?_;clear S;intro w35 hk29 S
         refine Ld ?_
         replace S:=(S.nl [.blk b5 (Dt.enc (Dt.mk r2.1 (Ee (Gj x1 r2.1 (W ((Ee x1 r2.1 0) + 1))) r2.1 0) (W (x4 + r1.1)) r3.1 x6 An x7 r8.1 r9.1 An 0)) 38,.map b1 (Gn Value.string (Value.int .i64) (Gj x1 r2.1 (W ((Ee x1 r2.1 0) + 1)))) (Gj x1 r2.1 (W ((Ee x1 r2.1 0) + 1))).length,.own v1 38 11 x2.length (x2.flatMap Dt.enc),.blk O [U,iV r9.2] 25] [false,false,true,true,true,true] rfl).k7 0 5 6 7 8 10 11 rfl
         exact Tn (⟨r8.1,r9.1,An,0,r9.2,h,S.nf [true,true,true,true] rfl (subR rfl)⟩)
        ·refine Fr (Vq S Im rfl rfl rfl fun a S=>Va S rfl rfl fun a S=>Ld ?_)
         replace S:=S.k8 0 5 6 7 8 10 11 69 rfl
         refine Tn ?_
         obtain ⟨j6,hj6,h⟩:=Eu h
         refine En (fun a w'=>∃ x26 : ByteArray,∃ x27 : Int,∃ x28 : Int,j6 x26 x27 x28 = some r ∧ Sx w [O] nov [.blk b5 (Dt.enc (Dt.mk r2.1 (Ee (Gj x1 r2.1 (W ((Ee x1 r2.1 0) + 1))) r2.1 0) (W (x4 + r1.1)) r3.1 x6 An x7 0 0 x26 x27)) 38,.map b1 (Gn Value.string (Value.int .i64) (Gj x1 r2.1 (W ((Ee x1 r2.1 0) + 1)))) (Gj x1 r2.1 (W ((Ee x1 r2.1 0) + 1))).length,.own v1 38 11 x2.length (x2.flatMap Dt.enc),.blk O [U,iV x28] 25] [(0,.pointer (some ⟨O,0,none⟩)),(5,v1),(6,iV (W (x4 + r1.1))),(7,.map (some b1)),(8,.pointer (some ⟨b5,0,none⟩)),(10,iV Bn),(11,iV x5)] 130 a w') ?_ ?_
         ·refine Fc h (S.tm rfl) (fun hb5 h=>?_) (fun hb5 h=>?_)
          ·obtain ⟨r10,hr10,h⟩:=Fb h
           obtain ⟨r11,hr11,h⟩:=Fb h
           refine Hd [] ([O] ++ [b5]) Tryz.mixed S rfl (by kernel_rfl) ?_;clear S;intro w42 hk35 hsel S
           refine Ef 0 S hsel rfl rfl rfl (by kernel_rfl) (by kernel_rfl) rfl (fun _ hw=>(Rm (S.tm rfl))) fun a S=>Ef 3 S hsel rfl rfl rfl (by kernel_rfl) (by kernel_rfl) rfl (fun _ hw=>(Rm (S.tm rfl))) fun a S=>Ef 4 S hsel rfl rfl rfl (by kernel_rfl) (by kernel_rfl) rfl (fun _ hw=>(Rm (S.tm rfl))) fun a S=>Ef 5 S hsel rfl rfl rfl (by kernel_rfl) (by kernel_rfl) rfl (fun _ hw=>(Pt (kv:=Value.string) (vv:=(Value.int .i64)) (m:=(Gj x1 r2.1 (W ((Ee x1 r2.1 0) + 1)))) (key:=Sc) (z:=0) (S.map_kept (i:=1) rfl (ne_app (Mk (i:=3) (j:=1) (e:=.blk O [U,iV x8] 25) (e':=.map b1 (Gn Value.string (Value.int .i64) (Gj x1 r2.1 (W ((Ee x1 r2.1 0) + 1)))) (Gj x1 r2.1 (W ((Ee x1 r2.1 0) + 1))).length) S rfl rfl rfl) (Mk (i:=0) (j:=1) (e:=.blk b5 (Dt.enc (Dt.mk r2.1 (Ee (Gj x1 r2.1 (W ((Ee x1 r2.1 0) + 1))) r2.1 0) (W (x4 + r1.1)) r3.1 x6 An x7 0 0 An 0)) 38) (e':=.map b1 (Gn Value.string (Value.int .i64) (Gj x1 r2.1 (W ((Ee x1 r2.1 0) + 1)))) (Gj x1 r2.1 (W ((Ee x1 r2.1 0) + 1))).length) S rfl rfl rfl)) hw) underlying89 (Mz underlying9) zeroValue3 (S.tm rfl) rfl)) fun a S=>Ef 6 S hsel rfl rfl rfl (by kernel_rfl) (by kernel_rfl) rfl (fun _ hw=>(OW rfl (S.tm rfl))) fun a S=>Gw 1 (by kernel_rfl) rfl (Et S underlying40 sizeOf9 zeroValue9 rfl rfl (pv:=[(0,sV Sc),(1,sV Sc),(2,sV EW)]) ⟨rfl,rfl,rfl,rfl,rfl,rfl,trivial⟩ (cs:=[sV Sc,sV Sc,sV EW]) (by kernel_rfl) rfl ?_);clear S;intro a w43 b13 hz13 hk36 S
           refine Ld (Hx (Keep.none hk36) (Gw 2 (by kernel_rfl) rfl ?_))
           refine Hg 4 S (b:=O) rfl rfl (fun _=>.blk O [U,iV r10.2] 25) (fun _=>Dv (vs:=[.pointer (some ⟨O,0,none⟩),.slice (some ⟨b13,0,none⟩) 3 3]) ⟨(S.tm rfl),(S.tm rfl),trivial⟩ call29) (Oj _ O U Am (Ak.mono (S.le_arg (Ip (i:=4) (e:=.blk O [U,iV x8] 25) rfl))) x8 (S.holds _ (List.mem_of_getElem? (i:=4) rfl)) (.slice (some ⟨b13,0,none⟩) 3 3) [Sc,Sc,EW] (Jr Qm S (i:=0) rfl rfl rfl rfl ((Mk (i:=4) (j:=0) (e:=.blk O [U,iV x8] 25) (e':=.blk b13 [sV Sc,sV Sc,sV EW] 9) S rfl rfl rfl) _ rfl)) _ hr10) rfl (fun _ _ _ h=>⟨h.1,fun _ hc=>by cases hc;rfl⟩) ?_;clear S;intro v13 a w44 hv12 hk37 hn12 S
           replace hv12:=hv12.2
           subst hv12
           refine Ld ?_
           refine Hx (hk37.sub (by intro y hy;simp at hy ⊢;simp [hy])) ?_
           refine Ef 8 S hsel rfl rfl rfl (by kernel_rfl) (by kernel_rfl) rfl (fun _ hw=>(Ge Yg (S.tm rfl))) fun a S=>Gw 7 (by kernel_rfl) rfl ?_
           refine Hg 4 S (b:=O) rfl rfl (fun _=>.blk O [U,iV r11.2] 25) (fun _=>Dv (vs:=[.pointer (some ⟨O,0,none⟩),iV 1,iV (EP 1 (Ee (Gj x1 r2.1 (W ((Ee x1 r2.1 0) + 1))) Sc 0))]) ⟨(S.tm rfl),rfl,(S.tm rfl),trivial⟩ call6) (Ph _ O U Am (Ak.mono (S.le_arg (Ip (i:=4) (e:=.blk O [U,iV r10.2] 25) rfl))) r10.2 (S.holds _ (List.mem_of_getElem? (i:=4) rfl)) 1 (EP 1 (Ee (Gj x1 r2.1 (W ((Ee x1 r2.1 0) + 1))) Sc 0)) _ hr11) rfl (fun _ _ _ h=>⟨h.1,fun _ hc=>by cases hc;rfl⟩) ?_;clear S;intro v14 a w45 hv13 hk38 hn13 S
           replace hv13:=hv13.2
           subst hv13
           refine Ld ?_
           refine Hx (hk38.sub (by intro y hy;simp at hy ⊢;simp [hy])) ?_
           refine Gw 9 (by kernel_rfl) rfl (Fh S (S.tm rfl) (S.tm rfl) (i:=1) (off:=9) rfl sizeOf9 (vs:=[sV r10.1]) rfl rfl rfl rfl ?_);clear S;intro w46 hk39 S
           refine Ld ?_
           refine Hx (hk39.sub (by intro y hy;simp at hy ⊢;simp [hy])) ?_
           refine Ef 10 S hsel rfl rfl rfl (by kernel_rfl) (by kernel_rfl) rfl (fun _ hw=>(Ge Vn (S.tm rfl))) fun a S=>Gw 11 (by kernel_rfl) rfl (Fh S (S.tm rfl) (S.tm rfl) (i:=1) (off:=10) rfl sizeOf3 (vs:=[iV r11.1]) rfl rfl rfl rfl ?_);clear S;intro w47 hk40 S
           refine Ld ?_
           refine Hx (hk40.sub (by intro y hy;simp at hy ⊢;simp [hy])) ?_
           refine Wu (by kernel_rfl) ?_
           clear hsel
           replace S:=(S.nl [.blk b5 (Dt.enc (Dt.mk r2.1 (Ee (Gj x1 r2.1 (W ((Ee x1 r2.1 0) + 1))) r2.1 0) (W (x4 + r1.1)) r3.1 x6 An x7 0 0 r10.1 r11.1)) 38,.map b1 (Gn Value.string (Value.int .i64) (Gj x1 r2.1 (W ((Ee x1 r2.1 0) + 1)))) (Gj x1 r2.1 (W ((Ee x1 r2.1 0) + 1))).length,.own v1 38 11 x2.length (x2.flatMap Dt.enc),.blk O [U,iV r11.2] 25] [false,true,true,true,true] rfl).k7 0 5 6 7 8 10 11 rfl
           exact Tn (⟨r10.1,r11.1,r11.2,h,S.nf [true,true,true,true] rfl (subR rfl)⟩)
          ·exact wp_skip (Tn (⟨An,0,x8,h,S.nf [true,true,true,true] rfl (subR rfl)⟩))
         clear S h;rintro a w36 ⟨x26,x27,x28,h,S⟩;rw [hj6] at h;clear hj6 j6
         exact Tn (⟨0,0,x26,x27,x28,h,S.nf [true,true,true,true] rfl (subR rfl)⟩)
       clear S h;rintro a w29 ⟨x21,x22,x23,x24,x25,h,S⟩;rw [hj5] at h;clear hj5 j5
       exact Tn (⟨An,x21,x22,x23,x24,x25,h,S.nf [true,true,true,true] rfl (subR rfl)⟩)
     clear S h;rintro a w22 ⟨x15,x16,x17,x18,x19,x20,h,S⟩;rw [hj4] at h;clear hj4 j4
     exact Ho (Tn (⟨x15,x16,x17,x18,x19,x20,h,S.nf [true,true,true,true] rfl (subR rfl)⟩))
    clear S h;rintro a w21 ⟨x9,x10,x11,x12,x13,x14,h,S⟩;rw [hj3] at h;clear hj3 j3
    refine Tn (Fs (Fr (Vm S rfl rfl ?_)));clear S;intro a S
    obtain ⟨r12,hr12,h⟩:=Fb h
    refine Hg 3 S (b:=O) rfl rfl (fun _=>.blk O [U,iV r12.2] 25) (fun _=>Dv (vs:=[.pointer (some ⟨O,0,none⟩),iV 100]) ⟨(S.tm rfl),rfl,trivial⟩ call26) (Xo _ O U Am (Ak.mono (S.le_arg (Ip (i:=3) (e:=.blk O [U,iV x14] 25) rfl))) x14 (S.holds _ (List.mem_of_getElem? (i:=3) rfl)) 100 _ hr12) rfl (fun _ _ _ h=>⟨h.1,fun _ hc=>by cases hc;rfl⟩) ?_;clear S;intro v15 a w48 hv14 hk41 hn14 S
    replace hv14:=hv14.2
    subst hv14
    refine Dl ?_
    obtain ⟨j7,hj7,h⟩:=Eu h
    refine En (fun a w'=>∃ x29 : ByteArray,∃ x30 : Int,∃ x31 : Int,∃ x32 : ByteArray,∃ x33 : ByteArray,∃ x34 : ByteArray,∃ x35 : Int,∃ x36 : Int,∃ x37 : Int,∃ x38 : Int,j7 x29 x30 x31 x32 x33 x34 x35 x36 x37 x38 = some r ∧ Sx w [O] nov [.blk b5 (Dt.enc (Dt.mk x29 x30 (W (x4 + r1.1)) x31 x32 x33 x34 x35 x36 x12 x37)) 38,.map b1 (Gn Value.string (Value.int .i64) (Gj x1 r2.1 (W ((Ee x1 r2.1 0) + 1)))) (Gj x1 r2.1 (W ((Ee x1 r2.1 0) + 1))).length,.own v1 38 11 x2.length (x2.flatMap Dt.enc),.blk O [U,iV x38] 25] [(0,.pointer (some ⟨O,0,none⟩)),(5,v1),(6,iV (W (x4 + r1.1))),(7,.map (some b1)),(8,.pointer (some ⟨b5,0,none⟩)),(10,iV Bn),(11,iV x5)] 130 a w') ?_ ?_
    ·refine Fc h (S.tm rfl) (fun hb6 h=>?_) (fun hb6 h=>?_)
     ·refine Fr (Vm S rfl rfl ?_);clear S;intro a S
      obtain ⟨r13,hr13,h⟩:=Fb h
      refine Hg 3 S (b:=O) rfl rfl (fun _=>.blk O [U,iV r13.2] 25) (fun _=>Dv (vs:=[.pointer (some ⟨O,0,none⟩),iV 4]) ⟨(S.tm rfl),rfl,trivial⟩ call16) (Tb _ O U Am (Ak.mono (S.le_arg (Ip (i:=3) (e:=.blk O [U,iV r12.2] 25) rfl))) r12.2 (S.holds _ (List.mem_of_getElem? (i:=3) rfl)) 4 _ hr13) rfl (fun _ _ _ h=>⟨h.1,fun _ hc=>by cases hc;rfl⟩) ?_;clear S;intro v16 a w50 hv15 hk42 hn15 S
      replace hv15:=hv15.2
      subst hv15
      refine Dl ?_
      obtain ⟨j8,hj8,h⟩:=Eu h
      refine En (fun a w'=>∃ x39 : ByteArray,∃ x40 : Int,∃ x41 : Int,∃ x42 : ByteArray,∃ x43 : ByteArray,∃ x44 : ByteArray,∃ x45 : Int,∃ x46 : Int,∃ x47 : Int,∃ x48 : Int,j8 x39 x40 x41 x42 x43 x44 x45 x46 x47 x48 = some r ∧ Sx w [O] nov [.blk b5 (Dt.enc (Dt.mk x39 x40 (W (x4 + r1.1)) x41 x42 x43 x44 x45 x46 x12 x47)) 38,.map b1 (Gn Value.string (Value.int .i64) (Gj x1 r2.1 (W ((Ee x1 r2.1 0) + 1)))) (Gj x1 r2.1 (W ((Ee x1 r2.1 0) + 1))).length,.own v1 38 11 x2.length (x2.flatMap Dt.enc),.blk O [U,iV x48] 25] [(0,.pointer (some ⟨O,0,none⟩)),(5,v1),(6,iV (W (x4 + r1.1))),(7,.map (some b1)),(8,.pointer (some ⟨b5,0,none⟩)),(10,iV Bn),(11,iV x5)] 130 a w') ?_ ?_
      ·refine wp_block (Fr (Vq S Im rfl rfl rfl fun a S=>Va S rfl rfl fun a S=>Dl ?_))
       obtain ⟨j9,hj9,h⟩:=Eu h
       refine En (fun a w'=>∃ x49 : ByteArray,∃ x50 : Int,∃ x51 : Int,∃ x52 : ByteArray,∃ x53 : ByteArray,∃ x54 : ByteArray,∃ x55 : Int,∃ x56 : Int,∃ x57 : Int,∃ x58 : Int,j9 x49 x50 x51 x52 x53 x54 x55 x56 x57 x58 = some r ∧ Sx w [O] nov [.blk b5 (Dt.enc (Dt.mk x49 x50 (W (x4 + r1.1)) x51 x52 x53 x54 x55 x56 x12 x57)) 38,.map b1 (Gn Value.string (Value.int .i64) (Gj x1 r2.1 (W ((Ee x1 r2.1 0) + 1)))) (Gj x1 r2.1 (W ((Ee x1 r2.1 0) + 1))).length,.own v1 38 11 x2.length (x2.flatMap Dt.enc),.blk O [U,iV x58] 25] [(0,.pointer (some ⟨O,0,none⟩)),(5,v1),(6,iV (W (x4 + r1.1))),(7,.map (some b1)),(8,.pointer (some ⟨b5,0,none⟩)),(10,iV Bn),(11,iV x5)] 130 a w') ?_ ?_
       ·refine Fc h (S.tm rfl) (fun hb7 h=>?_) (fun hb7 h=>?_)
        ·refine Fg (Vm S rfl rfl fun a S=>Et S underlying40 sizeOf9 zeroValue9 rfl rfl (pv:=[(0,sV An),(1,sV Sc)]) ⟨rfl,rfl,rfl,rfl,trivial⟩ (cs:=[sV An,sV Sc]) (by kernel_rfl) rfl ?_);clear S;intro a w53 b14 hz14 hk43 S
         obtain ⟨r14,hr14,h⟩:=Fb h
         refine Hg 4 S (b:=O) rfl rfl (fun _=>.blk O [U,iV r14.2] 25) (fun _=>Dv (vs:=[.pointer (some ⟨O,0,none⟩),.slice (some ⟨b14,0,none⟩) 2 2]) ⟨(S.tm rfl),(S.tm rfl),trivial⟩ call29) (Oj _ O U Am (Ak.mono (S.le_arg (Ip (i:=4) (e:=.blk O [U,iV r13.2] 25) rfl))) r13.2 (S.holds _ (List.mem_of_getElem? (i:=4) rfl)) (.slice (some ⟨b14,0,none⟩) 2 2) [An,Sc] (Jr Qm S (i:=0) rfl rfl rfl rfl ((Mk (i:=4) (j:=0) (e:=.blk O [U,iV r13.2] 25) (e':=.blk b14 [sV An,sV Sc] 9) S rfl rfl rfl) _ rfl)) _ hr14) rfl (fun _ _ _ h=>⟨h.1,fun _ hc=>by cases hc;rfl⟩) ?_;clear S;intro v17 a w54 hv16 hk44 hn16 S
         replace hv16:=hv16.2
         subst hv16
         refine Vm S rfl rfl ?_;clear S;intro a S
         obtain ⟨r15,hr15,h⟩:=Fb h
         refine Hg 4 S (b:=O) rfl rfl (fun _=>.blk O [U,iV r15.2] 25) (fun _=>Dv (vs:=[.pointer (some ⟨O,0,none⟩),iV 1,iV 9]) ⟨(S.tm rfl),rfl,rfl,trivial⟩ call30) (Uc _ O U Am (Ak.mono (S.le_arg (Ip (i:=4) (e:=.blk O [U,iV r14.2] 25) rfl))) r14.2 (S.holds _ (List.mem_of_getElem? (i:=4) rfl)) 1 9 _ hr15) rfl (fun _ _ _ h=>⟨h.1,fun _ hc=>by cases hc;rfl⟩) ?_;clear S;intro v18 a w55 hv17 hk45 hn17 S
         replace hv17:=hv17.2
         subst hv17
         refine Vf Ri S rfl rfl fun a S=>Fh S (S.tm rfl) (S.tm rfl) (i:=1) (off:=0) rfl sizeOf9 (vs:=[sV r14.1]) rfl rfl rfl rfl ?_;clear S;intro w56 hk46 S
         refine Vf Tk S rfl rfl fun a S=>Fh S (S.tm rfl) (S.tm rfl) (i:=1) (off:=1) rfl sizeOf3 (vs:=[iV r15.1]) rfl rfl rfl rfl ?_;clear S;intro w57 hk47 S
         refine Ld ?_
         replace S:=(S.nl [.blk b5 (Dt.enc (Dt.mk r14.1 r15.1 (W (x4 + r1.1)) r3.1 x6 x9 x7 x10 x11 x12 x13)) 38,.map b1 (Gn Value.string (Value.int .i64) (Gj x1 r2.1 (W ((Ee x1 r2.1 0) + 1)))) (Gj x1 r2.1 (W ((Ee x1 r2.1 0) + 1))).length,.own v1 38 11 x2.length (x2.flatMap Dt.enc),.blk O [U,iV r15.2] 25] [false,true,true,true,true] rfl).k7 0 5 6 7 8 10 11 rfl
         exact Tn (⟨r14.1,r15.1,r3.1,x6,x9,x7,x10,x11,x13,r15.2,h,S.nf [true,true,true,true] rfl (subR rfl)⟩)
        ·refine Fr (Vq S Im rfl rfl rfl fun a S=>Va S rfl rfl fun a S=>Ld ?_)
         replace S:=(S.nl [.blk b5 (Dt.enc (Dt.mk r2.1 (Ee (Gj x1 r2.1 (W ((Ee x1 r2.1 0) + 1))) r2.1 0) (W (x4 + r1.1)) r3.1 x6 x9 x7 x10 x11 x12 x13)) 38,.map b1 (Gn Value.string (Value.int .i64) (Gj x1 r2.1 (W ((Ee x1 r2.1 0) + 1)))) (Gj x1 r2.1 (W ((Ee x1 r2.1 0) + 1))).length,.own v1 38 11 x2.length (x2.flatMap Dt.enc),.blk O [U,iV r13.2] 25] [true,true,true,true] rfl).k9 0 5 6 7 8 10 11 84 103 rfl
         refine Tn ?_
         obtain ⟨j10,hj10,h⟩:=Eu h
         refine En (fun a w'=>∃ x59 : Int,∃ x60 : ByteArray,∃ x61 : ByteArray,∃ x62 : ByteArray,∃ x63 : Int,∃ x64 : Int,∃ x65 : Int,∃ x66 : Int,j10 x59 x60 x61 x62 x63 x64 x65 x66 = some r ∧ Sx w [O] nov [.blk b5 (Dt.enc (Dt.mk r2.1 (Ee (Gj x1 r2.1 (W ((Ee x1 r2.1 0) + 1))) r2.1 0) (W (x4 + r1.1)) x59 x60 x61 x62 x63 x64 x12 x65)) 38,.map b1 (Gn Value.string (Value.int .i64) (Gj x1 r2.1 (W ((Ee x1 r2.1 0) + 1)))) (Gj x1 r2.1 (W ((Ee x1 r2.1 0) + 1))).length,.own v1 38 11 x2.length (x2.flatMap Dt.enc),.blk O [U,iV x66] 25] [(0,.pointer (some ⟨O,0,none⟩)),(5,v1),(6,iV (W (x4 + r1.1))),(7,.map (some b1)),(8,.pointer (some ⟨b5,0,none⟩)),(10,iV Bn),(11,iV x5)] 130 a w') ?_ ?_
         ·refine Fc h (S.tm rfl) (fun hb8 h=>?_) (fun hb8 h=>?_)
          ·refine Fg (Vm S rfl rfl ?_);clear S;intro a S
           obtain ⟨r16,hr16,h⟩:=Fb h
           refine Hg 3 S (b:=O) rfl rfl (fun _=>.blk O [U,iV r16.2] 25) (fun _=>Dv (vs:=[.pointer (some ⟨O,0,none⟩),iV 1,iV 4]) ⟨(S.tm rfl),rfl,rfl,trivial⟩ call30) (Uc _ O U Am (Ak.mono (S.le_arg (Ip (i:=3) (e:=.blk O [U,iV r13.2] 25) rfl))) r13.2 (S.holds _ (List.mem_of_getElem? (i:=3) rfl)) 1 4 _ hr16) rfl (fun _ _ _ h=>⟨h.1,fun _ hc=>by cases hc;rfl⟩) ?_;clear S;intro v19 a w59 hv18 hk48 hn18 S
           replace hv18:=hv18.2
           subst hv18
           refine Vf Pm S rfl rfl fun a S=>Fh S (S.tm rfl) (S.tm rfl) (i:=0) (off:=3) rfl sizeOf3 (vs:=[iV r16.1]) rfl rfl rfl rfl ?_;clear S;intro w60 hk49 S
           exact Dl (⟨r16.1,x6,x9,x7,x10,x11,x13,r16.2,h,S.nf [true,true,true,true] rfl (subR rfl)⟩)
          ·refine Fr (Vq S Im rfl rfl rfl fun a S=>Va S rfl rfl fun a S=>Dl ?_)
           obtain ⟨j11,hj11,h⟩:=Eu h
           refine En (fun a w'=>∃ x67 : ByteArray,∃ x68 : ByteArray,∃ x69 : ByteArray,∃ x70 : Int,∃ x71 : Int,∃ x72 : Int,∃ x73 : Int,j11 x67 x68 x69 x70 x71 x72 x73 = some r ∧ Sx w [O] nov [.blk b5 (Dt.enc (Dt.mk r2.1 (Ee (Gj x1 r2.1 (W ((Ee x1 r2.1 0) + 1))) r2.1 0) (W (x4 + r1.1)) r3.1 x67 x68 x69 x70 x71 x12 x72)) 38,.map b1 (Gn Value.string (Value.int .i64) (Gj x1 r2.1 (W ((Ee x1 r2.1 0) + 1)))) (Gj x1 r2.1 (W ((Ee x1 r2.1 0) + 1))).length,.own v1 38 11 x2.length (x2.flatMap Dt.enc),.blk O [U,iV x73] 25] [(0,.pointer (some ⟨O,0,none⟩)),(5,v1),(6,iV (W (x4 + r1.1))),(7,.map (some b1)),(8,.pointer (some ⟨b5,0,none⟩)),(10,iV Bn),(11,iV x5)] 130 a w') ?_ ?_
           ·refine Fc h (S.tm rfl) (fun hb9 h=>?_) (fun hb9 h=>?_)
            ·refine Fg (Vm S rfl rfl fun a S=>Et S underlying40 sizeOf9 zeroValue9 rfl rfl (pv:=[(0,sV An),(1,sV Ok)]) ⟨rfl,rfl,rfl,rfl,trivial⟩ (cs:=[sV An,sV Ok]) (by kernel_rfl) rfl ?_);clear S;intro a w62 b15 hz15 hk50 S
             obtain ⟨r17,hr17,h⟩:=Fb h
             refine Hg 4 S (b:=O) rfl rfl (fun _=>.blk O [U,iV r17.2] 25) (fun _=>Dv (vs:=[.pointer (some ⟨O,0,none⟩),.slice (some ⟨b15,0,none⟩) 2 2]) ⟨(S.tm rfl),(S.tm rfl),trivial⟩ call29) (Oj _ O U Am (Ak.mono (S.le_arg (Ip (i:=4) (e:=.blk O [U,iV r13.2] 25) rfl))) r13.2 (S.holds _ (List.mem_of_getElem? (i:=4) rfl)) (.slice (some ⟨b15,0,none⟩) 2 2) [An,Ok] (Jr Qm S (i:=0) rfl rfl rfl rfl ((Mk (i:=4) (j:=0) (e:=.blk O [U,iV r13.2] 25) (e':=.blk b15 [sV An,sV Ok] 9) S rfl rfl rfl) _ rfl)) _ hr17) rfl (fun _ _ _ h=>⟨h.1,fun _ hc=>by cases hc;rfl⟩) ?_;clear S;intro v20 a w63 hv19 hk51 hn19 S
             replace hv19:=hv19.2
             subst hv19
             refine Vm S rfl rfl fun a S=>Et S underlying40 sizeOf9 zeroValue9 rfl rfl (pv:=[(0,sV k_A),(1,sV Ts)]) ⟨rfl,rfl,rfl,rfl,trivial⟩ (cs:=[sV k_A,sV Ts]) (by kernel_rfl) rfl ?_;clear S;intro a w64 b16 hz16 hk52 S
             obtain ⟨r18,hr18,h⟩:=Fb h
             refine Hg 5 S (b:=O) rfl rfl (fun _=>.blk O [U,iV r18.2] 25) (fun _=>Dv (vs:=[.pointer (some ⟨O,0,none⟩),.slice (some ⟨b16,0,none⟩) 2 2]) ⟨(S.tm rfl),(S.tm rfl),trivial⟩ call29) (Oj _ O U Am (Ak.mono (S.le_arg (Ip (i:=5) (e:=.blk O [U,iV r17.2] 25) rfl))) r17.2 (S.holds _ (List.mem_of_getElem? (i:=5) rfl)) (.slice (some ⟨b16,0,none⟩) 2 2) [k_A,Ts] (Jr Qm S (i:=0) rfl rfl rfl rfl ((Mk (i:=5) (j:=0) (e:=.blk O [U,iV r17.2] 25) (e':=.blk b16 [sV k_A,sV Ts] 9) S rfl rfl rfl) _ rfl)) _ hr18) rfl (fun _ _ _ h=>⟨h.1,fun _ hc=>by cases hc;rfl⟩) ?_;clear S;intro v21 a w65 hv20 hk53 hn20 S
             replace hv20:=hv20.2
             subst hv20
             refine Vm S rfl rfl fun a S=>Et S underlying40 sizeOf9 zeroValue9 rfl rfl (pv:=[(0,sV An),(1,sV Mv)]) ⟨rfl,rfl,rfl,rfl,trivial⟩ (cs:=[sV An,sV Mv]) (by kernel_rfl) rfl ?_;clear S;intro a w66 b17 hz17 hk54 S
             obtain ⟨r19,hr19,h⟩:=Fb h
             refine Hg 6 S (b:=O) rfl rfl (fun _=>.blk O [U,iV r19.2] 25) (fun _=>Dv (vs:=[.pointer (some ⟨O,0,none⟩),.slice (some ⟨b17,0,none⟩) 2 2]) ⟨(S.tm rfl),(S.tm rfl),trivial⟩ call29) (Oj _ O U Am (Ak.mono (S.le_arg (Ip (i:=6) (e:=.blk O [U,iV r18.2] 25) rfl))) r18.2 (S.holds _ (List.mem_of_getElem? (i:=6) rfl)) (.slice (some ⟨b17,0,none⟩) 2 2) [An,Mv] (Jr Qm S (i:=0) rfl rfl rfl rfl ((Mk (i:=6) (j:=0) (e:=.blk O [U,iV r18.2] 25) (e':=.blk b17 [sV An,sV Mv] 9) S rfl rfl rfl) _ rfl)) _ hr19) rfl (fun _ _ _ h=>⟨h.1,fun _ hc=>by cases hc;rfl⟩) ?_;clear S;intro v22 a w67 hv21 hk55 hn21 S
             replace hv21:=hv21.2
             subst hv21
             refine Vf Ou S rfl rfl fun a S=>Fh S (S.tm rfl) (S.tm rfl) (i:=3) (off:=4) rfl sizeOf9 (vs:=[sV r17.1]) rfl rfl rfl rfl ?_;clear S;intro w68 hk56 S
             refine Vf Vj S rfl rfl fun a S=>Fh S (S.tm rfl) (S.tm rfl) (i:=3) (off:=5) rfl sizeOf9 (vs:=[sV r18.1]) rfl rfl rfl rfl ?_;clear S;intro w69 hk57 S
             refine Vf Sr S rfl rfl fun a S=>Fh S (S.tm rfl) (S.tm rfl) (i:=3) (off:=6) rfl sizeOf9 (vs:=[sV r19.1]) rfl rfl rfl rfl ?_;clear S;intro w70 hk58 S
             refine Ld ?_
             replace S:=(S.nl [.blk b5 (Dt.enc (Dt.mk r2.1 (Ee (Gj x1 r2.1 (W ((Ee x1 r2.1 0) + 1))) r2.1 0) (W (x4 + r1.1)) r3.1 r17.1 r18.1 r19.1 x10 x11 x12 x13)) 38,.map b1 (Gn Value.string (Value.int .i64) (Gj x1 r2.1 (W ((Ee x1 r2.1 0) + 1)))) (Gj x1 r2.1 (W ((Ee x1 r2.1 0) + 1))).length,.own v1 38 11 x2.length (x2.flatMap Dt.enc),.blk O [U,iV r19.2] 25] [false,false,false,true,true,true,true] rfl).k7 0 5 6 7 8 10 11 rfl
             exact Tn (⟨r17.1,r18.1,r19.1,x10,x11,x13,r19.2,h,S.nf [true,true,true,true] rfl (subR rfl)⟩)
            ·refine Fg (Vm S rfl rfl ?_);clear S;intro a S
             obtain ⟨r20,hr20,h⟩:=Fb h
             refine Hg 3 S (b:=O) rfl rfl (fun _=>.blk O [U,iV r20.2] 25) (fun _=>Dv (vs:=[.pointer (some ⟨O,0,none⟩),iV 0,iV 360000]) ⟨(S.tm rfl),rfl,rfl,trivial⟩ call30) (Uc _ O U Am (Ak.mono (S.le_arg (Ip (i:=3) (e:=.blk O [U,iV r13.2] 25) rfl))) r13.2 (S.holds _ (List.mem_of_getElem? (i:=3) rfl)) 0 360000 _ hr20) rfl (fun _ _ _ h=>⟨h.1,fun _ hc=>by cases hc;rfl⟩) ?_;clear S;intro v23 a w71 hv22 hk59 hn22 S
             replace hv22:=hv22.2
             subst hv22
             refine Vm S rfl rfl ?_;clear S;intro a S
             obtain ⟨r21,hr21,h⟩:=Fb h
             refine Hg 3 S (b:=O) rfl rfl (fun _=>.blk O [U,iV r21.2] 25) (fun _=>Dv (vs:=[.pointer (some ⟨O,0,none⟩),iV 0,iV 8]) ⟨(S.tm rfl),rfl,rfl,trivial⟩ call30) (Uc _ O U Am (Ak.mono (S.le_arg (Ip (i:=3) (e:=.blk O [U,iV r20.2] 25) rfl))) r20.2 (S.holds _ (List.mem_of_getElem? (i:=3) rfl)) 0 8 _ hr21) rfl (fun _ _ _ h=>⟨h.1,fun _ hc=>by cases hc;rfl⟩) ?_;clear S;intro v24 a w72 hv23 hk60 hn23 S
             replace hv23:=hv23.2
             subst hv23
             refine Vm S rfl rfl ?_;clear S;intro a S
             obtain ⟨r22,hr22,h⟩:=Fb h
             refine Hg 3 S (b:=O) rfl rfl (fun _=>.blk O [U,iV r22.2] 25) (fun _=>Dv (vs:=[.pointer (some ⟨O,0,none⟩),iV 0,iV 5]) ⟨(S.tm rfl),rfl,rfl,trivial⟩ call30) (Uc _ O U Am (Ak.mono (S.le_arg (Ip (i:=3) (e:=.blk O [U,iV r21.2] 25) rfl))) r21.2 (S.holds _ (List.mem_of_getElem? (i:=3) rfl)) 0 5 _ hr22) rfl (fun _ _ _ h=>⟨h.1,fun _ hc=>by cases hc;rfl⟩) ?_;clear S;intro v25 a w73 hv24 hk61 hn24 S
             replace hv24:=hv24.2
             subst hv24
             refine Vf Uj S rfl rfl fun a S=>Fh S (S.tm rfl) (S.tm rfl) (i:=0) (off:=7) rfl sizeOf3 (vs:=[iV r20.1]) rfl rfl rfl rfl ?_;clear S;intro w74 hk62 S
             refine Vf Wf S rfl rfl fun a S=>Fh S (S.tm rfl) (S.tm rfl) (i:=0) (off:=8) rfl sizeOf3 (vs:=[iV r21.1]) rfl rfl rfl rfl ?_;clear S;intro w75 hk63 S
             refine Vf Vn S rfl rfl fun a S=>Fh S (S.tm rfl) (S.tm rfl) (i:=0) (off:=10) rfl sizeOf3 (vs:=[iV r22.1]) rfl rfl rfl rfl ?_;clear S;intro w76 hk64 S
             refine Ld ?_
             replace S:=(S.nl [.blk b5 (Dt.enc (Dt.mk r2.1 (Ee (Gj x1 r2.1 (W ((Ee x1 r2.1 0) + 1))) r2.1 0) (W (x4 + r1.1)) r3.1 x6 x9 x7 r20.1 r21.1 x12 r22.1)) 38,.map b1 (Gn Value.string (Value.int .i64) (Gj x1 r2.1 (W ((Ee x1 r2.1 0) + 1)))) (Gj x1 r2.1 (W ((Ee x1 r2.1 0) + 1))).length,.own v1 38 11 x2.length (x2.flatMap Dt.enc),.blk O [U,iV r22.2] 25] [true,true,true,true] rfl).k7 0 5 6 7 8 10 11 rfl
             exact Tn (⟨x6,x9,x7,r20.1,r21.1,r22.1,r22.2,h,S.nf [true,true,true,true] rfl (subR rfl)⟩)
           clear S h;rintro a w61 ⟨x67,x68,x69,x70,x71,x72,x73,h,S⟩;rw [hj11] at h;clear hj11 j11
           exact Tn (⟨r3.1,x67,x68,x69,x70,x71,x72,x73,h,S.nf [true,true,true,true] rfl (subR rfl)⟩)
         clear S h;rintro a w58 ⟨x59,x60,x61,x62,x63,x64,x65,x66,h,S⟩;rw [hj10] at h;clear hj10 j10
         exact Tn (⟨r2.1,Ee (Gj x1 r2.1 (W ((Ee x1 r2.1 0) + 1))) r2.1 0,x59,x60,x61,x62,x63,x64,x65,x66,h,S.nf [true,true,true,true] rfl (subR rfl)⟩)
       clear S h;rintro a w52 ⟨x49,x50,x51,x52,x53,x54,x55,x56,x57,x58,h,S⟩;rw [hj9] at h;clear hj9 j9
       exact Ho (Tn (⟨x49,x50,x51,x52,x53,x54,x55,x56,x57,x58,h,S.nf [true,true,true,true] rfl (subR rfl)⟩))
      clear S h;rintro a w51 ⟨x39,x40,x41,x42,x43,x44,x45,x46,x47,x48,h,S⟩;rw [hj8] at h;clear hj8 j8
      exact Tn (⟨x39,x40,x41,x42,x43,x44,x45,x46,x47,x48,h,S.nf [true,true,true,true] rfl (subR rfl)⟩)
     ·exact wp_skip (Tn (⟨r2.1,Ee (Gj x1 r2.1 (W ((Ee x1 r2.1 0) + 1))) r2.1 0,r3.1,x6,x9,x7,x10,x11,x13,r12.2,h,S.nf [true,true,true,true] rfl (subR rfl)⟩))
    clear S h;rintro a w49 ⟨x29,x30,x31,x32,x33,x34,x35,x36,x37,x38,h,S⟩;rw [hj7] at h;clear hj7 j7
    refine Tn (Fg (Vm S rfl rfl fun a S=>lv S (Fx isAgg38 sizeOf38 (off:=0) (o:=0) (part:=(Dt.enc (Dt.mk x29 x30 (W (x4 + r1.1)) x31 x32 x33 x34 x35 x36 x12 x37))) rfl rfl (S.tm rfl) (S.cellsAt (i:=0) rfl)) rfl fun a S=>Et S underlying34 sizeOf38 zeroValue38 rfl rfl (pv:=[(0,.agg (Dt.enc (Dt.mk x29 x30 (W (x4 + r1.1)) x31 x32 x33 x34 x35 x36 x12 x37)).toArray)]) ⟨rfl,(S.tm rfl),trivial⟩ (cs:=[sV x29,iV x30,iV (W (x4 + r1.1)),iV x31,sV x32,sV x33,sV x34,iV x35,iV x36,sV x12,iV x37]) (by kernel_rfl) rfl ?_));clear S;intro a w77 b18 hz18 hk65 S
    obtain ⟨hc1,h⟩:=Ia h
    refine Mb Ni Dt.enc_ok S (S.tm rfl) (i:=3) rfl (S.tm rfl) (j:=0) rfl (ys:=[(Dt.mk x29 x30 (W (x4 + r1.1)) x31 x32 x33 x34 x35 x36 x12 x37)]) rfl rfl rfl rfl (by have:=Mn hc1;omega) rfl ?_;clear S;intro v26 a w78 hk66 S
    exact Va S rfl rfl fun a S=>Ld (Ho (Tn (Fg (Vq S Gf rfl rfl rfl fun a S=>Vm S rfl rfl fun a S=>Dl (⟨m1,⟨(Gj x1 r2.1 (W ((Ee x1 r2.1 0) + 1))),(x2 ++ [(Dt.mk x29 x30 (W (x4 + r1.1)) x31 x32 x33 x34 x35 x36 x12 x37)]),x38,W (x4 + r1.1),W (x5 + 1),v26,h,S.nf [false,false,true,true,true] rfl ⟨rfl,rfl,rfl,rfl,rfl,rfl,trivial⟩⟩,Nat.lt_succ_self _⟩)))))
   ·exact wp_exit (Ei (Ei (Gp (Tn (⟨x1,x2,x3,v1,h,S.nf [true,true,true] rfl ⟨rfl,trivial⟩⟩)))))
 clear S h;rintro a w3 ⟨x1,x2,x3,v1,h,S⟩;rw [hj1] at h;clear hj1 j1
 refine Tn (Fr (Vm S rfl rfl ?_));clear S;intro a S
 obtain ⟨r23,hr23,h⟩:=Fb h
 refine Oy 1 S rfl (fun _=>.own v1 38 11 r23.length (r23.flatMap Dt.enc)) (fun _=>Dv (vs:=[v1,.func (.func 32) #[] #[]]) ⟨(S.tm rfl),rfl,trivial⟩ call31) (Qf _ v1 x2 (S.holds _ (List.mem_of_getElem? (i:=1) rfl)) _ hr23) rfl (fun _ _ _ h=>⟨h.1,fun _ hc=>hc⟩) ?_;clear S;intro v27 a w79 hv25 hk67 hn25 S
 replace hv25:=hv25.2
 subst hv25
 refine Dz (Vm S rfl rfl fun a S=>Va S rfl rfl fun a S=>Dl (wp_ret ?_))
 obtain rfl:=Option.some.inj h
 exact Eo S results14 rfl ⟨(S.holds _ (List.mem_of_getElem? (i:=2) rfl)),(LR S (i:=1) rfl (fun c hc hh=>BN S (i:=2) rfl rfl (j:=1) rfl rfl (by simp at hc;subst hc;exact hh)))⟩
theorem Qa (w : World) (Az : Int) (Bl : Int) (Bg : Int) (r : Bool) (h : Ke Az Bl Bg = r) :
    Calls prog 64 [iV Az,iV Bl,iV Bg].toArray w (Ret w [] fun _ v _=>v = bV r):=by
 refine Fe func64 rfl ntmps64 rfl fun a S=>?_
 unfold Ke at h
 replace S:=S.k3 0 1 2 rfl
 refine Fr (Vk S rfl rfl fun a S=>Dz (Vm S rfl rfl fun a S=>Vm S rfl rfl fun a S=>Vb S Uk rfl rfl rfl fun a S=>Vm S rfl rfl ?_));clear S;intro a S
 refine Hj 4 (fun a w'=>Keep [] w w' ∧ Sx w [] nov [] [(14,bV ((decide (Bl ≤ Az)) && (decide (Az ≤ Bg))))] 15 a w') ?_ ?_
 ·rcases Bool.eq_false_or_eq_true (decide (Bl ≤ Az)) with hb1 | hb1
  ·exact Ea S rfl rfl rfl hb1 (Vm S rfl rfl fun a S=>Ea S rfl rfl rfl hb1 (Vm S rfl rfl fun a S=>Ea S rfl rfl rfl hb1 (Vb S Uk rfl rfl rfl fun a S=>lv S (Hm hb1 (S.tm rfl) (S.tm rfl)) rfl fun a S=>Dl (⟨Keep.refl _ _,S.nf [] rfl ⟨rfl,trivial⟩⟩))))
  ·iterate 3 (refine Gt S rfl rfl rfl (Jq hb1) rfl ?_ rfl;clear S;intro a S)
   exact lv S (Hn (decide (Az ≤ Bg)) hb1 (S.tm rfl) rfl) rfl fun a S=>Dl (⟨Keep.refl _ _,S.nf [] rfl ⟨rfl,trivial⟩⟩)
 clear S;rintro a w1 ⟨hk1,S⟩
 refine Va S rfl rfl fun a S=>Dl (wp_ret ?_)
 subst h
 exact Eo S results64 rfl rfl
theorem BA (w : World) (s : ByteArray) (c : Int) (r : Int) (h : So s c = r) : Calls prog 114 [.string s,.int .u8 c].toArray w (Ret w [] fun _ v _=>v = .int .i64 r):=by
  subst h
  exact FN (Any.strings_IndexByte Tryz.lays137 s c w)
theorem Yu (w : World) (Ap : ByteArray) (Ct : ByteArray) (r : Bool) (h : Sh Ap Ct = some r) :
    Calls prog 96 [sV Ap,sV Ct].toArray w (Ret w [] fun _ v _=>v = bV r):=by
 refine Fe func96 rfl ntmps96 rfl fun a S=>?_
 unfold Sh at h
 replace S:=S.k2 0 1 rfl
 refine Fr (Vk S rfl rfl fun a S=>Dl (Fs (Fr (Vm S rfl rfl fun a S=>Vu S (Zf underlying9) rfl rfl fun a S=>lv S (Rm rfl) rfl ?_))));clear S;intro a S
 refine Dl ?_
 replace S:=S.k4 0 1 7 8 rfl
 obtain ⟨j1,hj1,h⟩:=Eu h
 refine En (fun a w'=>j1 = some r ∧ Sx w [] nov [] [] 18 a w') ?_ ?_
 ·refine wp_block (Hb (fun (m1 : Nat) a w'=>∃ x1 : Int,Lb Ap Ct j1 m1 x1 = some r ∧ Sx w [] nov [] [(0,sV Ap),(1,sV Ct),(7,iV (Ap.size : Int)),(8,iV x1)] 18 a w') id (((Ap.size : Int) - 0).toNat + 2) ⟨0,h,S.nf [] rfl (subR rfl)⟩ ?_)
  clear S h;rintro m1 a w1 ⟨x1,h,S⟩
  cases m1 with
  | zero=>rw [Lb.eq_1] at h;cases h
  | succ m1 =>
   rw [Lb.eq_2] at h
   refine Fr (Vb S Ex rfl rfl rfl fun a S=>Dl (Fs (Fc h (S.tm rfl) (fun hb1 h=>?_) (fun hb1 h=>?_))))
   ·refine wp_skip (Tn (Fs (wp_block (Fr (Vm S rfl rfl fun a S=>Va S rfl rfl fun a S=>Dl (Fs ?_))))))
    refine Fg ?_
    iterate 3 (refine Vm S rfl rfl ?_;clear S;intro a S)
    obtain ⟨hc1,h⟩:=Ia h
    refine lv S (Xj underlying9 (S.tm rfl) (S.tm rfl) hc1) rfl fun a S=>Ec S (fun _=>Dv (vs:=[sV Ct,.int .u8 (Xx Ap x1)]) ⟨(S.tm rfl),(S.tm rfl),trivial⟩ call114) (BA _ Ct (Xx Ap x1) _ rfl) rfl ?_;clear S;intro v1 a w3 hv1 hk1 hn1 S
    subst hv1
    refine Vq S Ex rfl rfl rfl fun a S=>Dl (Fc h (S.tm rfl) (fun hb2 h=>?_) (fun hb2 h=>?_))
    ·refine Fr (Vk S rfl rfl fun a S=>Dl (wp_ret (Fq (Dy (Dy (Fq (Dy ?_)))))))
     refine Dy ?_
     obtain rfl:=Option.some.inj h
     exact Eo S results96 rfl rfl
    ·exact wp_skip (Ho (Tn (Fg (Vq S Gf rfl rfl rfl fun a S=>Vm S rfl rfl fun a S=>Dl (⟨m1,⟨W (x1 + 1),h,S.nf [] rfl ⟨rfl,rfl,rfl,rfl,trivial⟩⟩,Nat.lt_succ_self _⟩)))))
   ·exact wp_exit (Ei (Ei (Gp (Tn (⟨h,S.nf [] rfl trivial⟩)))))
 clear S h;rintro a w2 ⟨h,S⟩;rw [hj1] at h;clear hj1 j1
 refine Tn (Fr (Vk S rfl rfl fun a S=>Dl (wp_ret ?_)))
 obtain rfl:=Option.some.inj h
 exact Eo S results96 rfl rfl
theorem Sg (w : World) (Ap : ByteArray) (r : Bool) (h : Oo Ap = some r) :
    Calls prog 63 [sV Ap].toArray w (Ret w [] fun _ v _=>v = bV r):=by
 refine Fe func63 rfl ntmps63 rfl fun a S=>?_
 unfold Oo at h
 replace S:=S.k1 0 rfl
 refine Fr (Vk S rfl rfl fun a S=>Dz (Vm S rfl rfl fun a S=>Vu S (Zf underlying9) rfl rfl fun a S=>Ec S (fun _=>Dv (vs:=[iV (Ap.size : Int),iV 1,iV 40]) ⟨(S.tm rfl),rfl,rfl,trivial⟩ call64) (Qa _ (Ap.size : Int) 1 40 _ rfl) rfl ?_));clear S;intro v1 a w1 hv1 hk1 hn1 S
 subst hv1
 refine Vm S rfl rfl ?_;clear S;intro a S
 obtain ⟨j1,hj1,h⟩:=Eu h
 refine Hj 4 (fun a w'=>∃ c1,j1 c1 = some r ∧ Keep [] w1 w' ∧ Sx w [] nov [] [(0,sV Ap),(10,bV c1)] 15 a w') ?_ ?_
 ·rcases Bool.eq_false_or_eq_true (Ke (Ap.size : Int) 1 40) with hb1 | hb1
  ·replace h:=Qw h hb1
   refine Ea S rfl rfl rfl hb1 (Vm S rfl rfl fun a S=>Ea S rfl rfl rfl hb1 ?_)
   obtain ⟨hc1,h⟩:=Ia h
   refine lv S (RC underlying9 (S.tm rfl) rfl hc1) rfl fun a S=>Ea S rfl rfl rfl hb1 ?_
   obtain ⟨r1,hr1,h⟩:=Fb h
   refine Ec S (fun _=>Dv (vs:=[sV (LN Ap 0 1),sV Kl]) ⟨(S.tm rfl),rfl,trivial⟩ call96) (Yu _ (LN Ap 0 1) Kl _ hr1) rfl ?_;clear S;intro v2 a w3 hv2 hk2 hn2 S
   subst hv2
   exact lv S (Hm hb1 (S.tm rfl) (S.tm rfl)) rfl fun a S=>Dl (⟨_,h,hk2,S.nf [] rfl (subR rfl)⟩)
  ·replace h:=Qx h hb1
   iterate 3 (refine Gt S rfl rfl rfl (Jq hb1) rfl ?_ rfl;clear S;intro a S)
   exact Vq S (Hn true hb1) rfl rfl rfl fun a S=>Dl (⟨_,h,Keep.refl _ _,S.nf [] rfl (subR rfl)⟩)
 clear S h;rintro a w2 ⟨c1,h,hk3,S⟩;rw [hj1] at h;clear hj1 j1
 refine Vm S rfl rfl ?_;clear S;intro a S
 obtain ⟨j2,hj2,h⟩:=Eu h
 refine Hj 3 (fun a w'=>∃ c2,j2 c2 = some r ∧ Keep [] w2 w' ∧ Sx w [] nov [] [(14,bV c2)] 15 a w') ?_ ?_
 ·rcases Bool.eq_false_or_eq_true c1 with hb2 | hb2
  ·replace h:=Qw h hb2
   refine Ea S rfl rfl rfl hb2 (Vm S rfl rfl fun a S=>Ea S rfl rfl rfl hb2 ?_)
   obtain ⟨r2,hr2,h⟩:=Fb h
   refine Ec S (fun _=>Dv (vs:=[sV Ap,sV Ht]) ⟨(S.tm rfl),rfl,trivial⟩ call96) (Yu _ Ap Ht _ hr2) rfl ?_;clear S;intro v3 a w5 hv3 hk4 hn3 S
   subst hv3
   exact lv S (Hm hb2 (S.tm rfl) (S.tm rfl)) rfl fun a S=>Dl (⟨_,h,hk4,S.nf [] rfl ⟨rfl,trivial⟩⟩)
  ·replace h:=Qx h hb2
   exact Gt S rfl rfl rfl (Jq hb2) rfl (fun a S=>Gt S rfl rfl rfl (Jq hb2) rfl (fun a S=>Vq S (Hn true hb2) rfl rfl rfl fun a S=>Dl (⟨_,h,Keep.refl _ _,S.nf [] rfl ⟨rfl,trivial⟩⟩)) rfl) rfl
 clear S h;rintro a w4 ⟨c2,h,hk5,S⟩;rw [hj2] at h;clear hj2 j2
 refine Va S rfl rfl fun a S=>Dl (wp_ret ?_)
 obtain rfl:=Option.some.inj h
 exact Eo S results63 rfl rfl
theorem CY (w : World) (Cb : Int) (r : Bool) (h : Pf Cb = r) :
    Calls prog 65 [iV Cb].toArray w (Ret w [] fun _ v _=>v = bV r):=by
 refine Fe func65 rfl ntmps65 rfl fun a S=>?_
 unfold Pf at h
 replace S:=S.k1 0 rfl
 refine Fr (Vk S rfl rfl fun a S=>Dz (Vm S rfl rfl fun a S=>Ec S (fun _=>Dv (vs:=[iV Cb,iV 0,iV 345686399999]) ⟨(S.tm rfl),rfl,rfl,trivial⟩ call64) (Qa _ Cb 0 345686399999 _ rfl) rfl ?_));clear S;intro v1 a w1 hv1 hk1 hn1 S
 subst hv1
 refine Va S rfl rfl fun a S=>Dl (wp_ret ?_)
 subst h
 exact Eo S results65 rfl rfl
theorem AD (w : World) (Ad : Dt) (r : Int) (h : Px Ad = some r) :
    Calls prog 33 [.agg (Dt.enc Ad).toArray].toArray w (Ret w [] fun _ v _=>v = iV r):=by
 refine Fe func33 rfl ntmps33 rfl fun a S=>?_
 unfold Px at h
 replace S:=S.k1 0 rfl
 refine Fr (My S (S.tm rfl) (cs:=(Dt.enc Ad)) rfl rfl ?_);clear S;intro a w1 b1 hz1 hk1 S
 refine Vk S rfl rfl fun a S=>Dl (Fs (wp_block (Fr (Vf Ri S rfl rfl fun a S=>Vl isAgg9 0 S rfl rfl rfl rfl ?_))));clear S;intro a S
 obtain ⟨r1,hr1,h⟩:=Fb h
 refine Ec S (fun _=>Dv (vs:=[sV Ad.Site]) ⟨(S.tm rfl),trivial⟩ call63) (Sg _ Ad.Site _ hr1) rfl ?_;clear S;intro v1 a w2 hv1 hk2 hn1 S
 subst hv1
 refine Vu S Hh rfl rfl fun a S=>Va S rfl rfl fun a S=>Dl (Fc h (S.tm rfl) (fun hb1 h=>?_) (fun hb1 h=>?_))
 ·refine Fr (Vk S rfl rfl fun a S=>Dl (wp_ret (Fq (Dy ?_))))
  obtain rfl:=Option.some.inj h
  exact Eo S results33 rfl rfl
 ·refine Fr (Vf Tk S rfl rfl fun a S=>Vl isAgg3 0 S rfl rfl rfl rfl fun a S=>Ec S (fun _=>Dv (vs:=[iV Ad.No,iV 1,iV 1000000]) ⟨(S.tm rfl),rfl,rfl,trivial⟩ call64) (Qa _ Ad.No 1 1000000 _ rfl) rfl ?_);clear S;intro v2 a w3 hv2 hk3 hn2 S
  subst hv2
  refine Vu S Hh rfl rfl fun a S=>Vm S rfl rfl fun a S=>Hj 5 (fun a w'=>Keep [] w3 w' ∧ Sx w [] nov [.blk b1 (Dt.enc Ad) 38] [(1,.pointer (some ⟨b1,0,none⟩)),(19,bV ((!(Ke Ad.No 1 1000000)) || (!(Pf Ad.At))))] 117 a w') ?_ ?_
  ·rcases Bool.eq_false_or_eq_true (!(Ke Ad.No 1 1000000)) with hb2 | hb2
   ·iterate 4 (refine Gt S rfl rfl rfl (Mh hb2) rfl ?_ rfl;clear S;intro a S)
    exact lv S (Kh (!(Pf Ad.At)) hb2 (S.tm rfl) rfl) rfl fun a S=>Dl (⟨Keep.refl _ _,S.nf [true] rfl (subR rfl)⟩)
   ·refine Ea S rfl rfl rfl hb2 (Vf Ui S rfl rfl fun a S=>Ea S rfl rfl rfl hb2 (Vl isAgg3 0 S rfl rfl rfl rfl fun a S=>Ea S rfl rfl rfl hb2 (Ec S (fun _=>Dv (vs:=[iV Ad.At]) ⟨(S.tm rfl),trivial⟩ call65) (CY _ Ad.At _ rfl) rfl ?_)));clear S;intro v3 a w5 hv3 hk4 hn3 S
    subst hv3
    exact Ea S rfl rfl rfl hb2 (Vu S Hh rfl rfl fun a S=>lv S (Ki hb2 (S.tm rfl) (S.tm rfl)) rfl fun a S=>Dl (⟨hk4,S.nf [true] rfl (subR rfl)⟩))
  clear S;rintro a w4 ⟨hk5,S⟩
  refine Va S rfl rfl fun a S=>Dl (Fc h (S.tm rfl) (fun hb3 h=>?_) (fun hb3 h=>?_))
  ·refine Fr (Vk S rfl rfl fun a S=>Dl (wp_ret (Fq (Dy ?_))))
   obtain rfl:=Option.some.inj h
   exact Eo S results33 rfl rfl
  ·refine Fr (Vf Pm S rfl rfl fun a S=>Vl isAgg3 0 S rfl rfl rfl rfl fun a S=>Ec S (fun _=>Dv (vs:=[iV Ad.Kind,iV 1,iV 4]) ⟨(S.tm rfl),rfl,rfl,trivial⟩ call64) (Qa _ Ad.Kind 1 4 _ rfl) rfl ?_);clear S;intro v4 a w6 hv4 hk6 hn4 S
   subst hv4
   refine Vu S Hh rfl rfl fun a S=>Va S rfl rfl fun a S=>Dl (Fc h (S.tm rfl) (fun hb4 h=>?_) (fun hb4 h=>?_))
   ·refine Fr (Vk S rfl rfl fun a S=>Dl (wp_ret (Fq (Dy ?_))))
    obtain rfl:=Option.some.inj h
    exact Eo S results33 rfl rfl
   ·refine wp_skip (Ho (Tn (Fr (Vf Ri S rfl rfl fun a S=>Vl isAgg9 0 S rfl rfl rfl rfl fun a S=>Vf Tk S rfl rfl fun a S=>Vl isAgg3 0 S rfl rfl rfl rfl fun a S=>Vf Ui S rfl rfl fun a S=>Vl isAgg3 0 S rfl rfl rfl rfl ?_))));clear S;intro a S
    refine Vf Pm S rfl rfl fun a S=>Vl isAgg3 0 S rfl rfl rfl rfl fun a S=>lv S (Mj JL (pv:=[(0,sV Ad.Site),(1,iV Ad.No),(2,iV Ad.At),(3,iV Ad.Kind)]) ⟨rfl,(S.tm rfl),rfl,(S.tm rfl),rfl,(S.tm rfl),rfl,(S.tm rfl),trivial⟩ (cs:=[sV Ad.Site,iV Ad.No,iV Ad.At,iV Ad.Kind,sV An,sV An,sV An,iV 0,iV 0,sV An,iV 0]) (by kernel_rfl)) rfl fun a S=>Hz S zeroValue38 (cs:=[sV An,iV 0,iV 0,iV 0,sV An,sV An,sV An,iV 0,iV 0,sV An,iV 0]) rfl rfl ?_;clear S;intro a w7 b2 hz2 hk7 S
    refine Fh S (S.tm rfl) (S.tm rfl) (i:=0) (off:=0) rfl sizeOf38 (vs:=(Dt.enc (Dt.mk Ad.Site Ad.No Ad.At Ad.Kind An An An 0 0 An 0))) rfl rfl rfl rfl ?_;clear S;intro w8 hk8 S
    refine Ld ?_
    replace S:=(S.nl [.blk b2 (Dt.enc (Dt.mk Ad.Site Ad.No Ad.At Ad.Kind An An An 0 0 An 0)) 38,.blk b1 (Dt.enc Ad) 38] [true,true] rfl).k2 1 3 rfl
    refine Tn (Fs (Fr (Vf Pm S rfl rfl fun a S=>Vl isAgg3 1 S rfl rfl rfl rfl fun a S=>Vq S Im rfl rfl rfl fun a S=>Dl ?_)))
    obtain ⟨j1,hj1,h⟩:=Eu h
    refine En (fun a w'=>∃ x1 : ByteArray,∃ x2 : ByteArray,∃ x3 : ByteArray,∃ x4 : Int,j1 x1 x2 x3 x4 = some r ∧ Sx w [] nov [.blk b2 (Dt.enc (Dt.mk Ad.Site Ad.No Ad.At Ad.Kind x1 An x2 0 0 x3 x4)) 38,.blk b1 (Dt.enc Ad) 38] [(1,.pointer (some ⟨b1,0,none⟩)),(3,.pointer (some ⟨b2,0,none⟩))] 117 a w') ?_ ?_
    ·refine Fc h (S.tm rfl) (fun hb5 h=>?_) (fun hb5 h=>?_)
     ·refine Fs (Hd [] ([b2]) Tryz.mixed S rfl (by kernel_rfl) ?_);clear S;intro w12 hk11 hsel S
      refine Ef 0 S hsel rfl rfl rfl (by kernel_rfl) (by kernel_rfl) rfl (fun _ hw=>(Ge Yg (S.tm rfl))) fun a S=>Ef 1 S hsel rfl rfl rfl (by kernel_rfl) (by kernel_rfl) rfl (fun _ hw=>(Hp isAgg9 (off:=0) (o:=9) (S.tm rfl) ((S.blk_mem (i:=1) (cells:=(Dt.enc Ad)) (b:=b1) (T:=38) rfl (Mk (i:=0) (j:=1) (e:=.blk b2 (Dt.enc (Dt.mk Ad.Site Ad.No Ad.At Ad.Kind An An An 0 0 An 0)) 38) (e':=.blk b1 (Dt.enc Ad) 38) S rfl rfl rfl)).kept hw) rfl)) fun a S=>Ef 2 S hsel rfl rfl rfl (by kernel_rfl) (by kernel_rfl) rfl (fun _ hw=>(Ge Vn (S.tm rfl))) fun a S=>Ef 3 S hsel rfl rfl rfl (by kernel_rfl) (by kernel_rfl) rfl (fun _ hw=>(Hp isAgg3 (off:=0) (o:=10) (S.tm rfl) ((S.blk_mem (i:=1) (cells:=(Dt.enc Ad)) (b:=b1) (T:=38) rfl (Mk (i:=0) (j:=1) (e:=.blk b2 (Dt.enc (Dt.mk Ad.Site Ad.No Ad.At Ad.Kind An An An 0 0 An 0)) 38) (e':=.blk b1 (Dt.enc Ad) 38) S rfl rfl rfl)).kept hw) rfl)) fun a S=>Ef 4 S hsel rfl rfl rfl (by kernel_rfl) (by kernel_rfl) rfl (fun _ hw=>(Ge Yg (S.tm rfl))) fun a S=>Gw 5 (by kernel_rfl) rfl (Fh S (S.tm rfl) (S.tm rfl) (i:=0) (off:=9) rfl sizeOf9 (vs:=[sV Ad.Of]) rfl rfl rfl rfl ?_);clear S;intro w13 hk12 S
      refine Ld (Hx hk12 (Ef 6 S hsel rfl rfl rfl (by kernel_rfl) (by kernel_rfl) rfl (fun _ hw=>(Ge Vn (S.tm rfl))) fun a S=>Gw 7 (by kernel_rfl) rfl (Fh S (S.tm rfl) (S.tm rfl) (i:=0) (off:=10) rfl sizeOf3 (vs:=[iV Ad.Other]) rfl rfl rfl rfl ?_)));clear S;intro w14 hk13 S
      refine Ld (Hx hk13 (Wu (by kernel_rfl) ?_))
      clear hsel
      replace S:=(S.nl [.blk b2 (Dt.enc (Dt.mk Ad.Site Ad.No Ad.At Ad.Kind An An An 0 0 Ad.Of Ad.Other)) 38,.blk b1 (Dt.enc Ad) 38] [true,true] rfl).k2 1 3 rfl
      refine Tn (Fs (Fr (Vf Yg S rfl rfl fun a S=>Vl isAgg9 1 S rfl rfl rfl rfl ?_)));clear S;intro a S
      obtain ⟨r2,hr2,h⟩:=Fb h
      refine Ec S (fun _=>Dv (vs:=[sV Ad.Of]) ⟨(S.tm rfl),trivial⟩ call63) (Sg _ Ad.Of _ hr2) rfl ?_;clear S;intro v5 a w15 hv5 hk14 hn5 S
      subst hv5
      refine Vu S Hh rfl rfl fun a S=>Dl (Fc h (S.tm rfl) (fun hb6 h=>?_) (fun hb6 h=>?_))
      ·refine Fr (Vk S rfl rfl fun a S=>Dl (wp_ret ?_))
       iterate 3 (refine Dy ?_)
       obtain rfl:=Option.some.inj h
       exact Eo S results33 rfl rfl
      ·refine wp_skip (Tn (Fr (Vf Vn S rfl rfl fun a S=>Vl isAgg3 1 S rfl rfl rfl rfl fun a S=>Ec S (fun _=>Dv (vs:=[iV Ad.Other,iV 1,iV 1000000]) ⟨(S.tm rfl),rfl,rfl,trivial⟩ call64) (Qa _ Ad.Other 1 1000000 _ rfl) rfl ?_)));clear S;intro v6 a w16 hv6 hk15 hn6 S
       subst hv6
       refine Vu S Hh rfl rfl fun a S=>Dl (Fc h (S.tm rfl) (fun hb7 h=>?_) (fun hb7 h=>?_))
       ·refine Fr (Vk S rfl rfl fun a S=>Dl (wp_ret (Dy (Dy ?_))))
        obtain rfl:=Option.some.inj h
        exact Eo S results33 rfl rfl
       ·exact wp_skip (Tn (⟨An,An,Ad.Of,Ad.Other,h,S.nf [true,true] rfl (subR rfl)⟩))
     ·refine Fs (Hd [] ([b2]) Tryz.mixed S rfl (by kernel_rfl) ?_);clear S;intro w19 hk18 hsel S
      refine Ef 0 S hsel rfl rfl rfl (by kernel_rfl) (by kernel_rfl) rfl (fun _ hw=>(Ge Ou (S.tm rfl))) fun a S=>Ef 1 S hsel rfl rfl rfl (by kernel_rfl) (by kernel_rfl) rfl (fun _ hw=>(Hp isAgg9 (off:=0) (o:=4) (S.tm rfl) ((S.blk_mem (i:=1) (cells:=(Dt.enc Ad)) (b:=b1) (T:=38) rfl (Mk (i:=0) (j:=1) (e:=.blk b2 (Dt.enc (Dt.mk Ad.Site Ad.No Ad.At Ad.Kind An An An 0 0 An 0)) 38) (e':=.blk b1 (Dt.enc Ad) 38) S rfl rfl rfl)).kept hw) rfl)) fun a S=>Ef 2 S hsel rfl rfl rfl (by kernel_rfl) (by kernel_rfl) rfl (fun _ hw=>(Ge Sr (S.tm rfl))) fun a S=>Ef 3 S hsel rfl rfl rfl (by kernel_rfl) (by kernel_rfl) rfl (fun _ hw=>(Hp isAgg9 (off:=0) (o:=6) (S.tm rfl) ((S.blk_mem (i:=1) (cells:=(Dt.enc Ad)) (b:=b1) (T:=38) rfl (Mk (i:=0) (j:=1) (e:=.blk b2 (Dt.enc (Dt.mk Ad.Site Ad.No Ad.At Ad.Kind An An An 0 0 An 0)) 38) (e':=.blk b1 (Dt.enc Ad) 38) S rfl rfl rfl)).kept hw) rfl)) fun a S=>Ef 4 S hsel rfl rfl rfl (by kernel_rfl) (by kernel_rfl) rfl (fun _ hw=>(Ge Ou (S.tm rfl))) fun a S=>Gw 5 (by kernel_rfl) rfl (Fh S (S.tm rfl) (S.tm rfl) (i:=0) (off:=4) rfl sizeOf9 (vs:=[sV Ad.Who]) rfl rfl rfl rfl ?_);clear S;intro w20 hk19 S
      refine Ld (Hx hk19 (Ef 6 S hsel rfl rfl rfl (by kernel_rfl) (by kernel_rfl) rfl (fun _ hw=>(Ge Sr (S.tm rfl))) fun a S=>Gw 7 (by kernel_rfl) rfl (Fh S (S.tm rfl) (S.tm rfl) (i:=0) (off:=6) rfl sizeOf9 (vs:=[sV Ad.Race]) rfl rfl rfl rfl ?_)));clear S;intro w21 hk20 S
      refine Ld (Hx hk20 (Wu (by kernel_rfl) ?_))
      clear hsel
      replace S:=(S.nl [.blk b2 (Dt.enc (Dt.mk Ad.Site Ad.No Ad.At Ad.Kind Ad.Who An Ad.Race 0 0 An 0)) 38,.blk b1 (Dt.enc Ad) 38] [true,true] rfl).k2 1 3 rfl
      refine Tn (Fr (Vf Ou S rfl rfl fun a S=>Vl isAgg9 1 S rfl rfl rfl rfl ?_));clear S;intro a S
      obtain ⟨r3,hr3,h⟩:=Fb h
      refine Ec S (fun _=>Dv (vs:=[sV Ad.Who]) ⟨(S.tm rfl),trivial⟩ call63) (Sg _ Ad.Who _ hr3) rfl ?_;clear S;intro v7 a w22 hv7 hk21 hn7 S
      subst hv7
      refine Vu S Hh rfl rfl fun a S=>Vm S rfl rfl ?_;clear S;intro a S
      obtain ⟨j2,hj2,h⟩:=Eu h
      refine Hj 5 (fun a w'=>∃ c1,j2 c1 = some r ∧ Keep [] w22 w' ∧ Sx w [] nov [.blk b2 (Dt.enc (Dt.mk Ad.Site Ad.No Ad.At Ad.Kind Ad.Who An Ad.Race 0 0 An 0)) 38,.blk b1 (Dt.enc Ad) 38] [(1,.pointer (some ⟨b1,0,none⟩)),(3,.pointer (some ⟨b2,0,none⟩)),(66,bV c1)] 117 a w') ?_ ?_
      ·rcases Bool.eq_false_or_eq_true (!r3) with hb8 | hb8
       ·replace h:=Qw h hb8
        iterate 4 (refine Gt S rfl rfl rfl (Mh hb8) rfl ?_ rfl;clear S;intro a S)
        exact Vq S (Kh true hb8) rfl rfl rfl fun a S=>Dl (⟨_,h,Keep.refl _ _,S.nf [true,true] rfl (subR rfl)⟩)
       ·replace h:=Qx h hb8
        refine Ea S rfl rfl rfl hb8 (Vf Sr S rfl rfl fun a S=>Ea S rfl rfl rfl hb8 (Vl isAgg9 1 S rfl rfl rfl rfl fun a S=>Ea S rfl rfl rfl hb8 ?_))
        obtain ⟨r4,hr4,h⟩:=Fb h
        refine Ec S (fun _=>Dv (vs:=[sV Ad.Race]) ⟨(S.tm rfl),trivial⟩ call63) (Sg _ Ad.Race _ hr4) rfl ?_;clear S;intro v8 a w24 hv8 hk22 hn8 S
        subst hv8
        exact Ea S rfl rfl rfl hb8 (Vu S Hh rfl rfl fun a S=>lv S (Ki hb8 (S.tm rfl) (S.tm rfl)) rfl fun a S=>Dl (⟨_,h,hk22,S.nf [true,true] rfl (subR rfl)⟩))
      clear S h;rintro a w23 ⟨c1,h,hk23,S⟩;rw [hj2] at h;clear hj2 j2
      refine Vm S rfl rfl ?_;clear S;intro a S
      obtain ⟨j3,hj3,h⟩:=Eu h
      refine Hj 15 (fun a w'=>∃ c2,j3 c2 = some r ∧ Keep [] w23 w' ∧ Sx w [] nov [.blk b2 (Dt.enc (Dt.mk Ad.Site Ad.No Ad.At Ad.Kind Ad.Who An Ad.Race 0 0 An 0)) 38,.blk b1 (Dt.enc Ad) 38] [(1,.pointer (some ⟨b1,0,none⟩)),(3,.pointer (some ⟨b2,0,none⟩)),(82,bV c2)] 117 a w') ?_ ?_
      ·rcases Bool.eq_false_or_eq_true c1 with hb9 | hb9
       ·replace h:=Qw h hb9
        iterate 4 (refine Gt S rfl rfl rfl (Mh hb9) rfl ?_ rfl;clear S;intro a S)
        iterate 3 (refine Zg S rfl rfl rfl rfl ?_;clear S;intro a S)
        refine Gt S rfl rfl rfl (Mh hb9) rfl (fun a S=>Gt S rfl rfl rfl (Mh hb9) rfl ?_ rfl) rfl;clear S;intro a S
        iterate 4 (refine Zg S rfl rfl rfl rfl ?_;clear S;intro a S)
        exact Gt S rfl rfl rfl (Mh hb9) rfl (fun a S=>Vq S (Kh true hb9) rfl rfl rfl fun a S=>Dl (⟨_,h,Keep.refl _ _,S.nf [true,true] rfl (subR rfl)⟩)) rfl
       ·replace h:=Qx h hb9
        refine Ea S rfl rfl rfl hb9 (Vf Pm S rfl rfl fun a S=>Ea S rfl rfl rfl hb9 (Vl isAgg3 1 S rfl rfl rfl rfl fun a S=>Ea S rfl rfl rfl hb9 (Vq S Im rfl rfl rfl fun a S=>Ea S rfl rfl rfl hb9 (Vm S rfl rfl fun a S=>Hj 4 (fun a w'=>Keep [] w23 w' ∧ Sx w [] nov [.blk b2 (Dt.enc (Dt.mk Ad.Site Ad.No Ad.At Ad.Kind Ad.Who An Ad.Race 0 0 An 0)) 38,.blk b1 (Dt.enc Ad) 38] [(1,.pointer (some ⟨b1,0,none⟩)),(3,.pointer (some ⟨b2,0,none⟩)),(67,bV c1),(75,bV ((decide (Ad.Kind = 1)) && (!decide (Ad.Club = An))))] 117 a w') ?_ ?_))))
        ·rcases Bool.eq_false_or_eq_true (decide (Ad.Kind = 1)) with hb10 | hb10
         ·exact Ea S rfl rfl rfl hb10 (Vf Vj S rfl rfl fun a S=>Ea S rfl rfl rfl hb10 (Vl isAgg9 1 S rfl rfl rfl rfl fun a S=>Ea S rfl rfl rfl hb10 (Vq S BM rfl rfl rfl fun a S=>Ea S rfl rfl rfl hb9 (lv S (Hm hb10 (S.tm rfl) (S.tm rfl)) rfl fun a S=>Dl (⟨Keep.refl _ _,S.nf [true,true] rfl (subR rfl)⟩)))))
         ·iterate 3 (refine Gt S rfl rfl rfl (Jq hb10) rfl ?_ rfl;clear S;intro a S)
          exact Ea S rfl rfl rfl hb9 (lv S (Hn (!decide (Ad.Club = An)) hb10 (S.tm rfl) rfl) rfl fun a S=>Dl (⟨Keep.refl _ _,S.nf [true,true] rfl (subR rfl)⟩))
        clear S;rintro a w26 ⟨hk24,S⟩
        refine Ea S rfl rfl rfl hb9 (Vm S rfl rfl ?_);clear S;intro a S
        obtain ⟨j4,hj4,h⟩:=Eu h
        refine Hj 5 (fun a w'=>∃ c3,j4 c3 = some r ∧ Keep [] w26 w' ∧ Sx w [] nov [.blk b2 (Dt.enc (Dt.mk Ad.Site Ad.No Ad.At Ad.Kind Ad.Who An Ad.Race 0 0 An 0)) 38,.blk b1 (Dt.enc Ad) 38] [(1,.pointer (some ⟨b1,0,none⟩)),(3,.pointer (some ⟨b2,0,none⟩)),(67,bV c1),(81,bV c3)] 117 a w') ?_ ?_
        ·rcases Bool.eq_false_or_eq_true ((decide (Ad.Kind = 1)) && (!decide (Ad.Club = An))) with hb11 | hb11
         ·replace h:=Qw h hb11
          refine Ea S rfl rfl rfl hb11 (Vf Vj S rfl rfl fun a S=>Ea S rfl rfl rfl hb11 (Vl isAgg9 1 S rfl rfl rfl rfl fun a S=>Ea S rfl rfl rfl hb11 ?_))
          obtain ⟨r5,hr5,h⟩:=Fb h
          refine Ec S (fun _=>Dv (vs:=[sV Ad.Club]) ⟨(S.tm rfl),trivial⟩ call63) (Sg _ Ad.Club _ hr5) rfl ?_;clear S;intro v9 a w28 hv9 hk25 hn9 S
          subst hv9
          exact Ea S rfl rfl rfl hb11 (Vu S Hh rfl rfl fun a S=>Ea S rfl rfl rfl hb9 (lv S (Hm hb11 (S.tm rfl) (S.tm rfl)) rfl fun a S=>Dl (⟨_,h,hk25,S.nf [true,true] rfl (subR rfl)⟩)))
         ·replace h:=Qx h hb11
          iterate 4 (refine Gt S rfl rfl rfl (Jq hb11) rfl ?_ rfl;clear S;intro a S)
          exact Ea S rfl rfl rfl hb9 (Vq S (Hn true hb11) rfl rfl rfl fun a S=>Dl (⟨_,h,Keep.refl _ _,S.nf [true,true] rfl (subR rfl)⟩))
        clear S h;rintro a w27 ⟨c3,h,hk26,S⟩;rw [hj4] at h;clear hj4 j4
        exact lv S (Ki hb9 (S.tm rfl) (S.tm rfl)) rfl fun a S=>Dl (⟨_,h,(hk24).trans hk26,S.nf [true,true] rfl (subR rfl)⟩)
      clear S h;rintro a w25 ⟨c2,h,hk27,S⟩;rw [hj3] at h;clear hj3 j3
      refine Dl (Fc h (S.tm rfl) (fun hb12 h=>?_) (fun hb12 h=>?_))
      ·refine Fr (Vk S rfl rfl fun a S=>Dl (wp_ret (Dy (Dy ?_))))
       obtain rfl:=Option.some.inj h
       exact Eo S results33 rfl rfl
      ·exact wp_skip (Tn (⟨Ad.Who,Ad.Race,An,0,h,S.nf [true,true] rfl (subR rfl)⟩))
    clear S h;rintro a w9 ⟨x1,x2,x3,x4,h,S⟩;rw [hj1] at h;clear hj1 j1
    refine Tn (Fs (Fr (Vf Pm S rfl rfl fun a S=>Vl isAgg3 1 S rfl rfl rfl rfl fun a S=>Vq S Im rfl rfl rfl fun a S=>Dl ?_)))
    obtain ⟨j5,hj5,h⟩:=Eu h
    refine En (fun a w'=>∃ x5 : ByteArray,j5 x5 = some r ∧ Sx w [] nov [.blk b2 (Dt.enc (Dt.mk Ad.Site Ad.No Ad.At Ad.Kind x1 x5 x2 0 0 x3 x4)) 38,.blk b1 (Dt.enc Ad) 38] [(1,.pointer (some ⟨b1,0,none⟩)),(3,.pointer (some ⟨b2,0,none⟩))] 117 a w') ?_ ?_
    ·refine Fc h (S.tm rfl) (fun hb13 h=>?_) (fun hb13 h=>?_)
     ·refine Fg (Vf Vj S rfl rfl fun a S=>Vl isAgg9 1 S rfl rfl rfl rfl fun a S=>Vf Vj S rfl rfl fun a S=>Fh S (S.tm rfl) (S.tm rfl) (i:=0) (off:=5) rfl sizeOf9 (vs:=[sV Ad.Club]) rfl rfl rfl rfl ?_);clear S;intro w30 hk28 S
      exact Dl (⟨Ad.Club,h,S.nf [true,true] rfl (subR rfl)⟩)
     ·exact wp_skip (Tn (⟨An,h,S.nf [true,true] rfl (subR rfl)⟩))
    clear S h;rintro a w29 ⟨x5,h,S⟩;rw [hj5] at h;clear hj5 j5
    refine Tn (Fs (Fr (Vf Pm S rfl rfl fun a S=>Vl isAgg3 1 S rfl rfl rfl rfl fun a S=>Vq S Im rfl rfl rfl fun a S=>Vm S rfl rfl fun a S=>Hj 4 (fun a w'=>Keep [] w29 w' ∧ Sx w [] nov [.blk b2 (Dt.enc (Dt.mk Ad.Site Ad.No Ad.At Ad.Kind x1 x5 x2 0 0 x3 x4)) 38,.blk b1 (Dt.enc Ad) 38] [(1,.pointer (some ⟨b1,0,none⟩)),(3,.pointer (some ⟨b2,0,none⟩)),(96,bV ((decide (Ad.Kind = 1)) || (decide (Ad.Kind = 3))))] 117 a w') ?_ ?_)))
    ·rcases Bool.eq_false_or_eq_true (decide (Ad.Kind = 1)) with hb14 | hb14
     ·iterate 3 (refine Gt S rfl rfl rfl (Mh hb14) rfl ?_ rfl;clear S;intro a S)
      exact lv S (Kh (decide (Ad.Kind = 3)) hb14 (S.tm rfl) rfl) rfl fun a S=>Dl (⟨Keep.refl _ _,S.nf [true,true] rfl (subR rfl)⟩)
     ·exact Ea S rfl rfl rfl hb14 (Vf Pm S rfl rfl fun a S=>Ea S rfl rfl rfl hb14 (Vl isAgg3 1 S rfl rfl rfl rfl fun a S=>Ea S rfl rfl rfl hb14 (Vq S Im rfl rfl rfl fun a S=>lv S (Ki hb14 (S.tm rfl) (S.tm rfl)) rfl fun a S=>Dl (⟨Keep.refl _ _,S.nf [true,true] rfl (subR rfl)⟩))))
    clear S;rintro a w31 ⟨hk29,S⟩
    refine Dl ?_
    obtain ⟨j6,hj6,h⟩:=Eu h
    refine En (fun a w'=>∃ x6 : Int,j6 x6 = some r ∧ Sx w [] nov [.blk b2 (Dt.enc (Dt.mk Ad.Site Ad.No Ad.At Ad.Kind x1 x5 x2 x6 0 x3 x4)) 38,.blk b1 (Dt.enc Ad) 38] [(1,.pointer (some ⟨b1,0,none⟩)),(3,.pointer (some ⟨b2,0,none⟩))] 117 a w') ?_ ?_
    ·refine Fc h (S.tm rfl) (fun hb15 h=>?_) (fun hb15 h=>?_)
     ·refine Fr (Vf Uj S rfl rfl fun a S=>Vl isAgg3 1 S rfl rfl rfl rfl fun a S=>Vf Uj S rfl rfl fun a S=>Fh S (S.tm rfl) (S.tm rfl) (i:=0) (off:=7) rfl sizeOf3 (vs:=[iV Ad.Time]) rfl rfl rfl rfl ?_);clear S;intro w33 hk30 S
      refine Dz (Vf Uj S rfl rfl fun a S=>Vl isAgg3 1 S rfl rfl rfl rfl fun a S=>Ec S (fun _=>Dv (vs:=[iV Ad.Time,iV 0,iV 360000]) ⟨(S.tm rfl),rfl,rfl,trivial⟩ call64) (Qa _ Ad.Time 0 360000 _ rfl) rfl ?_);clear S;intro v10 a w34 hv10 hk31 hn10 S
      subst hv10
      refine Vu S Hh rfl rfl fun a S=>Dl (Fc h (S.tm rfl) (fun hb16 h=>?_) (fun hb16 h=>?_))
      ·refine Fr (Vk S rfl rfl fun a S=>Dl (wp_ret (Dy (Dy ?_))))
       obtain rfl:=Option.some.inj h
       exact Eo S results33 rfl rfl
      ·exact wp_skip (Tn (⟨Ad.Time,h,S.nf [true,true] rfl (subR rfl)⟩))
     ·exact wp_skip (Tn (⟨0,h,S.nf [true,true] rfl (subR rfl)⟩))
    clear S h;rintro a w32 ⟨x6,h,S⟩;rw [hj6] at h;clear hj6 j6
    refine Tn (Fs (Fr (Vf Pm S rfl rfl fun a S=>Vl isAgg3 1 S rfl rfl rfl rfl fun a S=>Vq S Im rfl rfl rfl fun a S=>Dl ?_)))
    obtain ⟨j7,hj7,h⟩:=Eu h
    refine En (fun a w'=>∃ x7 : Int,j7 x7 = some r ∧ Sx w [] nov [.blk b2 (Dt.enc (Dt.mk Ad.Site Ad.No Ad.At Ad.Kind x1 x5 x2 x6 x7 x3 x4)) 38,.blk b1 (Dt.enc Ad) 38] [(1,.pointer (some ⟨b1,0,none⟩)),(3,.pointer (some ⟨b2,0,none⟩))] 117 a w') ?_ ?_
    ·refine Fc h (S.tm rfl) (fun hb17 h=>?_) (fun hb17 h=>?_)
     ·refine Fr (Vf Wf S rfl rfl fun a S=>Vl isAgg3 1 S rfl rfl rfl rfl fun a S=>Vf Wf S rfl rfl fun a S=>Fh S (S.tm rfl) (S.tm rfl) (i:=0) (off:=8) rfl sizeOf3 (vs:=[iV Ad.Fault]) rfl rfl rfl rfl ?_);clear S;intro w36 hk32 S
      refine Dz (Vf Wf S rfl rfl fun a S=>Vl isAgg3 1 S rfl rfl rfl rfl fun a S=>Ec S (fun _=>Dv (vs:=[iV Ad.Fault,iV 0,iV 8]) ⟨(S.tm rfl),rfl,rfl,trivial⟩ call64) (Qa _ Ad.Fault 0 8 _ rfl) rfl ?_);clear S;intro v11 a w37 hv11 hk33 hn11 S
      subst hv11
      refine Vu S Hh rfl rfl fun a S=>Dl (Fc h (S.tm rfl) (fun hb18 h=>?_) (fun hb18 h=>?_))
      ·refine Fr (Vk S rfl rfl fun a S=>Dl (wp_ret (Dy (Dy ?_))))
       obtain rfl:=Option.some.inj h
       exact Eo S results33 rfl rfl
      ·exact wp_skip (Tn (⟨Ad.Fault,h,S.nf [true,true] rfl (subR rfl)⟩))
     ·exact wp_skip (Tn (⟨0,h,S.nf [true,true] rfl (subR rfl)⟩))
    clear S h;rintro a w35 ⟨x7,h,S⟩;rw [hj7] at h;clear hj7 j7
    refine Tn (Fs (Fr (lv S (Fx isAgg38 sizeOf38 (off:=0) (o:=0) (part:=(Dt.enc Ad)) rfl rfl (S.tm rfl) (S.cellsAt (i:=1) rfl)) rfl fun a S=>lv S (Fx isAgg38 sizeOf38 (off:=0) (o:=0) (part:=(Dt.enc (Dt.mk Ad.Site Ad.No Ad.At Ad.Kind x1 x5 x2 x6 x7 x3 x4))) rfl rfl (S.tm rfl) (S.cellsAt (i:=0) rfl)) rfl fun a S=>lv S (JK (m:=Ad) (n:=(Dt.mk Ad.Site Ad.No Ad.At Ad.Kind x1 x5 x2 x6 x7 x3 x4)) (S.tm rfl) (S.tm rfl)) rfl fun a S=>Dl (Fc h (S.tm rfl) (fun hb19 h=>?_) (fun hb19 h=>?_)))))
    ·refine Fr (Vk S rfl rfl fun a S=>Dl (wp_ret (Dy ?_)))
     obtain rfl:=Option.some.inj h
     exact Eo S results33 rfl rfl
    ·refine wp_skip (Tn (Fr (Vk S rfl rfl fun a S=>Dl (wp_ret ?_))))
     obtain rfl:=Option.some.inj h
     exact Eo S results33 rfl rfl
theorem CZ (w : World) (Al : Dt) (Aq : Dt) (r : Bool) (h : Uf Al Aq = r) :
    Calls prog 36 [.agg (Dt.enc Al).toArray,.agg (Dt.enc Aq).toArray].toArray w (Ret w [] fun _ v _=>v = bV r):=by
 refine Fe func36 rfl ntmps36 rfl fun a S=>?_
 unfold Uf at h
 replace S:=S.k2 0 1 rfl
 refine Fr (My S (S.tm rfl) (cs:=(Dt.enc Al)) rfl rfl ?_);clear S;intro a w1 b1 hz1 hk1 S
 refine My S (S.tm rfl) (cs:=(Dt.enc Aq)) rfl rfl ?_;clear S;intro a w2 b2 hz2 hk2 S
 refine Vk S rfl rfl fun a S=>Dz (Vf Ri S rfl rfl fun a S=>Vl isAgg9 1 S rfl rfl rfl rfl fun a S=>Vf Ri S rfl rfl fun a S=>Vl isAgg9 0 S rfl rfl rfl rfl fun a S=>Vb S Wb rfl rfl rfl fun a S=>Vm S rfl rfl ?_);clear S;intro a S
 refine Hj 6 (fun a w'=>Keep [] w2 w' ∧ Sx w [] nov [.blk b2 (Dt.enc Aq) 38,.blk b1 (Dt.enc Al) 38] [(16,bV ((decide (Al.Site = Aq.Site)) && (decide (Al.No = Aq.No))))] 17 a w') ?_ ?_
 ·rcases Bool.eq_false_or_eq_true (decide (Al.Site = Aq.Site)) with hb1 | hb1
  ·refine Ea S rfl rfl rfl hb1 (Vf Tk S rfl rfl fun a S=>Ea S rfl rfl rfl hb1 (Vl isAgg3 1 S rfl rfl rfl rfl fun a S=>Ea S rfl rfl rfl hb1 (Vf Tk S rfl rfl fun a S=>Ea S rfl rfl rfl hb1 (Vl isAgg3 0 S rfl rfl rfl rfl fun a S=>Ea S rfl rfl rfl hb1 (Vb S Im rfl rfl rfl fun a S=>lv S (Hm hb1 (S.tm rfl) (S.tm rfl)) rfl ?_)))));clear S;intro a S
   exact Dl (⟨Keep.refl _ _,S.nf [true,true] rfl ⟨rfl,trivial⟩⟩)
  ·iterate 5 (refine Gt S rfl rfl rfl (Jq hb1) rfl ?_ rfl;clear S;intro a S)
   exact lv S (Hn (decide (Al.No = Aq.No)) hb1 (S.tm rfl) rfl) rfl fun a S=>Dl (⟨Keep.refl _ _,S.nf [true,true] rfl ⟨rfl,trivial⟩⟩)
 clear S;rintro a w3 ⟨hk3,S⟩
 refine Va S rfl rfl fun a S=>Dl (wp_ret ?_)
 subst h
 exact Eo S results36 rfl rfl
theorem Xu (w : World) (Di : Dt) (Cf : Nat) (Bq : Dt) (Cg : (view w []) Cf = some (.cells [sV Bq.Site,iV Bq.No,iV Bq.At,iV Bq.Kind,sV Bq.Who,sV Bq.Club,sV Bq.Race,iV Bq.Time,iV Bq.Fault,sV Bq.Of,iV Bq.Other].toArray 38 (0,0))) (r : Bool) (h : Oh Di Bq = r) :
    Calls prog 35 [.agg (Dt.enc Di).toArray,.pointer (some ⟨Cf,0,none⟩)].toArray w (Ret w [] fun _ v _=>v = bV r):=by
 refine Fe func35 rfl ntmps35 rfl fun a S=>?_
 unfold Oh at h
 replace S:=S.k2 0 1 rfl
 refine Fr (My S (S.tm rfl) (cs:=(Dt.enc Di)) rfl rfl ?_);clear S;intro a w1 b1 hz1 hk1 S
 refine Vk S rfl rfl fun a S=>Dz (lv S (Fx isAgg38 sizeOf38 (off:=0) (o:=0) (part:=(Dt.enc Di)) rfl rfl (S.tm rfl) (S.cellsAt (i:=0) rfl)) rfl fun a S=>lv S (Fx isAgg38 sizeOf38 (off:=0) (o:=0) (part:=(Dt.enc Bq)) rfl rfl (S.tm rfl) ((Sn Cg).at S.emb0)) rfl fun a S=>Ec S (fun _=>Dv (vs:=[.agg (Dt.enc Di).toArray,.agg (Dt.enc Bq).toArray]) ⟨(S.tm rfl),(S.tm rfl),trivial⟩ call36) (CZ _ Di Bq _ rfl) rfl ?_);clear S;intro v1 a w2 hv1 hk2 hn1 S
 subst hv1
 refine Va S rfl rfl fun a S=>Dl (wp_ret ?_)
 subst h
 exact Eo S results35 rfl rfl
theorem Qu (w : World) (Aw : Value) (Ap : List Dt) (Bf : Slc (view w []) 11 Aw (Ap.map Dt.enc)) (Ba : Nat) (Ay : Dt) (Bm : (view w []) Ba = some (.cells [sV Ay.Site,iV Ay.No,iV Ay.At,iV Ay.Kind,sV Ay.Who,sV Ay.Club,sV Ay.Race,iV Ay.Time,iV Ay.Fault,sV Ay.Of,iV Ay.Other].toArray 38 (0,0))) (r : Int) (h : Lc Ap Ay = r) :
    Calls prog 66 [Aw,.func (.func 35) #[] #[.pointer (some ⟨Ba,0,none⟩)]].toArray w (Ret w [] fun _ v _=>v = iV r):=by
 refine Fe func66 rfl ntmps66 rfl fun a S=>?_
 unfold Lc at h
 replace S:=S.k2 0 1 rfl
 refine Fr (Vk S rfl rfl fun a S=>Dl (Fs (Fr (Vm S rfl rfl fun a S=>lv S (Fz Ni (S.tm rfl) (Fl Bf)) rfl fun a S=>lv S (Rm rfl) rfl ?_))));clear S;intro a S
 refine Dl ?_
 replace S:=S.k4 0 1 7 8 rfl
 obtain ⟨j1,hj1,h⟩:=Eu h
 refine En (fun a w'=>j1 = r ∧ Sx w [] nov [] [] 19 a w') ?_ ?_
 ·refine wp_block (Hb (fun (ys1 : List Dt) a w'=>∃ i1 : Nat,(∃ dn,Ap = dn ++ ys1 ∧ dn.length = i1) ∧ Ew Ay j1 ys1 i1 = r ∧ Sx w [] nov [] [(0,Aw),(1,.func (.func 35) #[] #[.pointer (some ⟨Ba,0,none⟩)]),(7,iV (Ap.length : Int)),(8,iV (i1 : Int))] 19 a w') List.length Ap ⟨0,⟨[],rfl,rfl⟩,h,S.nf [] rfl (subR rfl)⟩ ?_)
  clear S h;rintro ys1 a w1 ⟨i1,⟨dn,hd1,hi1⟩,h,S⟩
  cases ys1 with
  | nil =>
   rw [Ew.eq_1] at h
   refine Fr (Vb S Ex rfl rfl rfl fun a S=>Ld ?_)
   replace S:=S.k5 0 1 7 8 9 rfl
   exact Tn (Fs (wp_cond_false ((S.tm rfl).trans (congrArg Value.bool (Io hd1 hi1))) (wp_exit (Ei (Ei (Gp (Tn (⟨h,S.nf [] rfl trivial⟩))))))))
  | cons y1 ys1 =>
   rw [Ew.eq_2] at h
   refine Fr (Vb S Ex rfl rfl rfl fun a S=>Ld ?_)
   replace S:=S.k5 0 1 7 8 9 rfl
   refine Tn (Fs (wp_cond_true ((S.tm rfl).trans (congrArg Value.bool (Hv hd1 hi1))) (wp_skip (Tn (Fs (wp_block (Fr (Vm S rfl rfl fun a S=>Va S rfl rfl ?_))))))));clear S;intro a S
   refine Dl (Fs (Fg ?_))
   iterate 3 (refine Vm S rfl rfl ?_;clear S;intro a S)
   obtain ⟨b1,o1,hm1,hr1⟩:=Fd (a:=a) (x:=.tmp 12) (y:=.tmp 13) (ty:=0) Ni Bf (Iq hd1 hi1) rfl (S.tm rfl) (S.tm rfl)
   refine lv S (hr1 _) rfl ?_;clear S;intro a S
   clear hr1
   refine lv S (Fx isAgg38 sizeOf38 (off:=o1) (o:=0) (part:=(Dt.enc y1)) rfl rfl (S.tm rfl) (hm1.at S.emb0)) rfl fun a S=>Ec S (fun _=>Un (cap:=[.pointer (some ⟨Ba,0,none⟩)]) (S.tm rfl) (vs:=[.agg (Dt.enc y1).toArray]) ⟨(S.tm rfl),trivial⟩ call35) (Xu _ y1 Ba Ay ((S.le_arg Ej) _ _ Bm) _ rfl) rfl ?_;clear S;intro v1 a w3 hv1 hk1 hn1 S
   subst hv1
   refine Dl (Fc h (S.tm rfl) (fun hb1 h=>?_) (fun hb1 h=>?_))
   ·refine Fr (Vm S rfl rfl fun a S=>Va S rfl rfl fun a S=>Ld ?_)
    replace S:=S.k1 4 rfl
    refine Tn (wp_ret (Fq (Dy (Dy (Fq (Dy (Dy ?_)))))))
    subst h
    exact Eo S results66 rfl rfl
   ·exact wp_skip (Ho (Tn (Fg (Vq S Gf rfl rfl rfl fun a S=>Vm S rfl rfl fun a S=>Dl (⟨ys1,⟨i1 + 1,⟨_,(hd1).trans (List.append_cons _ _ _),by simp [hi1]⟩,h,S.nf [] rfl ⟨rfl,rfl,rfl,(congrArg (fun z=>some (Value.int .i64 z)) (Hw hd1 hi1 (Jn Bf))),trivial⟩⟩,Nat.lt_succ_self _⟩)))))
 clear S h;rintro a w2 ⟨h,S⟩;rw [hj1] at h;clear hj1 j1
 refine Tn (Fr (Vk S rfl rfl fun a S=>Dl (wp_ret ?_)))
 subst h
 exact Eo S results66 rfl rfl
theorem Qb (w : World) (Aw : Value) (Ap : List Dt) (Bf : Slc (view w []) 11 Aw (Ap.map Dt.enc)) (Ba : Nat) (Ay : Dt) (Bm : (view w []) Ba = some (.cells [sV Ay.Site,iV Ay.No,iV Ay.At,iV Ay.Kind,sV Ay.Who,sV Ay.Club,sV Ay.Race,iV Ay.Time,iV Ay.Fault,sV Ay.Of,iV Ay.Other].toArray 38 (0,0))) (r : Bool) (h : Ir Ap Ay = r) :
    Calls prog 34 [Aw,.func (.func 35) #[] #[.pointer (some ⟨Ba,0,none⟩)]].toArray w (Ret w [] fun _ v _=>v = bV r):=by
 refine Fe func34 rfl ntmps34 rfl fun a S=>?_
 unfold Ir at h
 replace S:=S.k2 0 1 rfl
 refine Fr (Vk S rfl rfl fun a S=>Dz (Vm S rfl rfl fun a S=>Vm S rfl rfl fun a S=>Ec S (fun _=>Dv (vs:=[Aw,.func (.func 35) #[] #[.pointer (some ⟨Ba,0,none⟩)]]) ⟨(S.tm rfl),(S.tm rfl),trivial⟩ call66) (Qu _ Aw Ap (Bf.mono (S.le_arg Ej)) Ba Ay ((S.le_arg Ej) _ _ Bm) _ rfl) rfl ?_));clear S;intro v1 a w1 hv1 hk1 hn1 S
 subst hv1
 refine Vq S Qd rfl rfl rfl fun a S=>Va S rfl rfl fun a S=>Dl (wp_ret ?_)
 subst h
 exact Eo S results34 rfl rfl
set_option maxRecDepth 20000 in
theorem Zr (w : World) (Ac : Value) (Ag : List Dt) (Ae : Slc (view w []) 11 Ac (Ag.map Dt.enc)) (r : Int) (h : Pj Ag = some r) :
    Calls prog 15 [Ac].toArray w (Ret w [] fun _ v _=>v = iV r):=by
 refine Fe func15 rfl ntmps15 rfl fun a S=>?_
 unfold Pj at h
 replace S:=S.k1 0 rfl
 refine Fr (Vk S rfl rfl fun a S=>Dl (Fs (Fr (Vm S rfl rfl fun a S=>lv S (Fz Ni (S.tm rfl) (Fl Ae)) rfl fun a S=>Vq S Jh rfl rfl rfl ?_))));clear S;intro a S
 refine Dl (Fc h (S.tm rfl) (fun hb1 h=>?_) (fun hb1 h=>?_))
 ·refine Fr (Vk S rfl rfl fun a S=>Dl (wp_ret (Dy ?_)))
  obtain rfl:=Option.some.inj h
  exact Eo S results15 rfl rfl
 ·refine wp_skip (Tn (Fs (Fr (Vm S rfl rfl fun a S=>lv S (Fz Ni (S.tm rfl) (Fl Ae)) rfl fun a S=>lv S (Rm rfl) rfl fun a S=>Dl ?_))))
  replace S:=S.k4 0 11 12 13 rfl
  obtain ⟨j1,hj1,h⟩:=Eu h
  refine En (fun a w'=>j1 = some r ∧ Sx w [] nov [] [(0,Ac)] 49 a w') ?_ ?_
  ·refine wp_block (Hb (fun (ys1 : List Dt) a w'=>∃ i1 : Nat,(∃ dn,Ag = dn ++ ys1 ∧ dn.length = i1) ∧ Hu Ag j1 ys1 i1 = some r ∧ Sx w [] nov [] [(0,Ac),(11,Ac),(12,iV (Ag.length : Int)),(13,iV (i1 : Int))] 49 a w') List.length Ag ⟨0,⟨[],rfl,rfl⟩,h,S.nf [] rfl (subR rfl)⟩ ?_)
   clear S h;rintro ys1 a w1 ⟨i1,⟨dn,hd1,hi1⟩,h,S⟩
   cases ys1 with
   | nil =>
    rw [Hu.eq_1] at h
    refine Fr (Vb S Ex rfl rfl rfl fun a S=>Ld ?_)
    replace S:=S.k5 0 11 12 13 14 rfl
    exact Tn (Fs (wp_cond_false ((S.tm rfl).trans (congrArg Value.bool (Io hd1 hi1))) (wp_exit (Ei (Ei (Gp (Tn (⟨h,S.nf [] rfl ⟨rfl,trivial⟩⟩))))))))
   | cons y1 ys1 =>
    rw [Hu.eq_2] at h
    refine Fr (Vb S Ex rfl rfl rfl fun a S=>Ld ?_)
    replace S:=S.k5 0 11 12 13 14 rfl
    refine Tn (Fs (wp_cond_true ((S.tm rfl).trans (congrArg Value.bool (Hv hd1 hi1))) (wp_skip (Tn (Fs (wp_block (Fr (Vm S rfl rfl ?_))))))));clear S;intro a S
    obtain ⟨b1,o1,hm1,hr1⟩:=Fd (a:=a) (x:=.tmp 11) (y:=.tmp 13) (ty:=0) Ni Ae (Iq hd1 hi1) rfl (S.tm rfl) (S.tm rfl)
    refine lv S (hr1 _) rfl ?_;clear S;intro a S
    clear hr1
    refine lv S (Fx isAgg38 sizeOf38 (off:=o1) (o:=0) (part:=(Dt.enc y1)) rfl rfl (S.tm rfl) (hm1.at S.emb0)) rfl fun a S=>Hz S zeroValue38 (cs:=[sV An,iV 0,iV 0,iV 0,sV An,sV An,sV An,iV 0,iV 0,sV An,iV 0]) rfl rfl ?_;clear S;intro a w3 b2 hz1 hk1 S
    refine Va S rfl rfl fun a S=>Fh S (S.tm rfl) (S.tm rfl) (i:=0) (off:=0) rfl sizeOf38 (vs:=(Dt.enc y1)) rfl rfl rfl rfl ?_;clear S;intro w4 hk2 S
    refine Dl (Fs (Fr (lv S (Fx isAgg38 sizeOf38 (off:=0) (o:=0) (part:=(Dt.enc y1)) rfl rfl (S.tm rfl) (S.cellsAt (i:=0) rfl)) rfl ?_)));clear S;intro a S
    obtain ⟨r1,hr2,h⟩:=Fb h
    refine Ec S (fun _=>Dv (vs:=[.agg (Dt.enc y1).toArray]) ⟨(S.tm rfl),trivial⟩ call33) (AD _ y1 _ hr2) rfl ?_;clear S;intro v1 a w5 hv1 hk3 hn1 S
    subst hv1
    refine Va S rfl rfl fun a S=>Dz (Vm S rfl rfl fun a S=>Vq S Ky rfl rfl rfl fun a S=>Ld ?_)
    replace S:=(S.nl [.blk b2 (Dt.enc y1) 38] [true] rfl).k8 0 3 4 5 11 12 13 21 rfl
    refine Tn (Fc h (S.tm rfl) (fun hb2 h=>?_) (fun hb2 h=>?_))
    ·refine Fr (Vm S rfl rfl fun a S=>Va S rfl rfl fun a S=>Dl (wp_ret (Dy (Fq (Dy (Dy ?_))))))
     refine Fq (Dy (Dy ?_))
     obtain rfl:=Option.some.inj h
     exact Eo S results15 rfl rfl
    ·refine wp_skip (Tn (Fs ?_))
     obtain ⟨j2,hj2,h⟩:=Eu h
     refine En (fun a w'=>∃ x1 : Bool,j2 x1 = some r ∧ Sx w [] nov [] [(0,Ac),(11,Ac),(12,iV (Ag.length : Int)),(13,iV (i1 : Int)),(34,bV x1)] 49 a w') ?_ ?_
     ·rcases Bool.eq_false_or_eq_true (decide (0 < (i1 : Int))) with hb3 | hb3
      ·replace h:=Qw h hb3
       obtain ⟨hc1,h⟩:=Ia h
       refine Hd [] ([]) Tryz.mixed S rfl (by kernel_rfl) ?_;clear S;intro w8 hk5 hsel S
       refine Ef 0 S hsel rfl rfl rfl (by kernel_rfl) (by kernel_rfl) rfl (fun _ hw=>(Rm (S.tm rfl))) fun a S=>Ef 1 S hsel rfl rfl rfl (by kernel_rfl) (by kernel_rfl) rfl (fun _ hw=>(Jh (S.tm rfl) rfl)) fun a S=>Ef 2 S hsel rfl rfl rfl (by kernel_rfl) (by kernel_rfl) rfl (fun _ hw=>(Rm (S.tm rfl))) fun a S=>Ev 3 S hsel rfl rfl rfl rfl hb3 rfl rfl (by kernel_rfl) (by kernel_rfl) rfl (fun _ hw=>(Rm (S.tm rfl))) fun a S=>Ev 4 S hsel rfl rfl rfl rfl hb3 rfl rfl (by kernel_rfl) (by kernel_rfl) rfl (fun _ hw=>(Rm (S.tm rfl))) fun a S=>Ev 5 S hsel rfl rfl rfl rfl hb3 rfl rfl (by kernel_rfl) (by kernel_rfl) rfl (fun _ hw=>(Ja (S.tm rfl) rfl)) ?_;clear S;intro a S
       obtain ⟨b4,o3,hm3,hr4⟩:=Fd (a:=a) (x:=.tmp 26) (y:=.tmp 28) (ty:=0) Ni (Ae.mono (S.le_arg Ej)) (Ed hc1).1 (Ed hc1).2 (S.tm rfl) (S.tm rfl)
       refine Ev 6 S hsel rfl rfl rfl rfl hb3 rfl rfl (by kernel_rfl) (by kernel_rfl) rfl (fun _ hw=>hr4 _) ?_;clear S;intro a S
       clear hr4
       refine Ev 7 S hsel rfl rfl rfl rfl hb3 rfl rfl (by kernel_rfl) (by kernel_rfl) rfl (fun _ hw=>(Fx isAgg38 sizeOf38 (off:=o3) (o:=0) (part:=(Dt.enc (nth Ag (W ((i1 : Int) - 1))))) rfl rfl (S.tm rfl) (hm3.kept hw))) fun a S=>Ev 8 S hsel rfl rfl rfl rfl hb3 rfl rfl (by kernel_rfl) (by kernel_rfl) rfl (fun _ hw=>(Fx isAgg38 sizeOf38 (off:=0) (o:=0) (part:=(Dt.enc y1)) rfl rfl (S.tm rfl) ((S.blk_mem (i:=0) (cells:=(Dt.enc y1)) (b:=b2) (T:=38) rfl (Hr (e':=.blk b2 (Dt.enc y1) 38))).kept hw))) fun a S=>Gw 9 (by kernel_rfl) rfl (Ea S rfl rfl rfl hb3 (Ec S (fun _=>Dv (vs:=[.agg (Dt.enc (nth Ag (W ((i1 : Int) - 1)))).toArray,.agg (Dt.enc y1).toArray]) ⟨(S.tm rfl),(S.tm rfl),trivial⟩ call32) (Vt _ (nth Ag (W ((i1 : Int) - 1))) y1 _ rfl) rfl ?_));clear S;intro v3 a w9 hv3 hk6 hn3 S
       subst hv3
       refine Ld (Hx hk6 (Kz [10,11] hsel (by kernel_rfl) rfl ?_))
       clear hsel
       refine Fm S rfl rfl rfl rfl hb3 (Gv S (Qd (S.tm rfl) rfl) rfl fun a S=>Gk S rfl (Qi hb3 (S.tm rfl) (S.tm rfl)) rfl fun a S=>Ig ?_)
       replace S:=S.n0.k13 0 11 12 13 26 27 28 29 30 31 32 33 34 rfl
       exact Tn (⟨decide (0 ≤ (Ji (nth Ag (W ((i1 : Int) - 1))) y1)),h,S.nf [] rfl (subR rfl)⟩)
      ·replace h:=Qx h hb3
       refine Hd [] ([]) Tryz.mixed S rfl (by kernel_rfl) ?_;clear S;intro w10 hk7 hsel S
       refine Kz [0,1,2,3,4,5,6,7,8,9,10,11] hsel (by kernel_rfl) rfl ?_
       clear hsel
       refine Gk S rfl (Rm (S.tm rfl)) rfl fun a S=>Gk S rfl (Jh (S.tm rfl) rfl) rfl fun a S=>Gk S rfl (Rm (S.tm rfl)) rfl ?_;clear S;intro a S
       iterate 8 (refine Qe S rfl rfl rfl rfl (Jq hb3) rfl ?_ rfl;clear S;intro a S)
       refine Gk S rfl (Qj hb3 (S.tm rfl) rfl) rfl fun a S=>Ig ?_
       replace S:=S.n0.k5 0 11 12 13 34 rfl
       exact Tn (⟨false,h,S.nf [] rfl (subR rfl)⟩)
     clear S h;rintro a w6 ⟨x1,h,S⟩;rw [hj2] at h;clear hj2 j2
     refine Tn (Fc h (S.tm rfl) (fun hb4 h=>?_) (fun hb4 h=>?_))
     ·refine Fr (Vk S rfl rfl fun a S=>Dl (wp_ret (Fq (Dy (Dy (Fq (Dy ?_)))))))
      refine Dy ?_
      obtain rfl:=Option.some.inj h
      exact Eo S results15 rfl rfl
     ·exact wp_skip (Ho (Tn (Fg (Vq S Gf rfl rfl rfl fun a S=>Vm S rfl rfl fun a S=>Dl (⟨ys1,⟨i1 + 1,⟨_,(hd1).trans (List.append_cons _ _ _),by simp [hi1]⟩,h,S.nf [] rfl ⟨rfl,rfl,rfl,(congrArg (fun z=>some (Value.int .i64 z)) (Hw hd1 hi1 (Jn Ae))),trivial⟩⟩,Nat.lt_succ_self _⟩)))))
  clear S h;rintro a w2 ⟨h,S⟩;rw [hj1] at h;clear hj1 j1
  refine Tn (Fs (Fr (Vm S rfl rfl fun a S=>lv S (Fz Ni (S.tm rfl) (Fl Ae)) rfl fun a S=>lv S (Rm rfl) rfl fun a S=>Dl ?_)))
  replace S:=S.k4 0 36 37 38 rfl
  obtain ⟨j3,hj3,h⟩:=Eu h
  refine En (fun a w'=>j3 = some r ∧ Sx w [] nov [] [] 49 a w') ?_ ?_
  ·refine wp_block (Hb (fun (ys2 : List Dt) a w'=>∃ i2 : Nat,(∃ dn,Ag = dn ++ ys2 ∧ dn.length = i2) ∧ Ii Ag j3 ys2 i2 = some r ∧ Sx w [] nov [] [(0,Ac),(36,Ac),(37,iV (Ag.length : Int)),(38,iV (i2 : Int))] 49 a w') List.length Ag ⟨0,⟨[],rfl,rfl⟩,h,S.nf [] rfl (subR rfl)⟩ ?_)
   clear S h;rintro ys2 a w11 ⟨i2,⟨dn,hd2,hi2⟩,h,S⟩
   cases ys2 with
   | nil =>
    rw [Ii.eq_1] at h
    refine Fr (Vb S Ex rfl rfl rfl fun a S=>Ld ?_)
    replace S:=S.k5 0 36 37 38 39 rfl
    exact Tn (Fs (wp_cond_false ((S.tm rfl).trans (congrArg Value.bool (Io hd2 hi2))) (wp_exit (Ei (Ei (Gp (Tn (⟨h,S.nf [] rfl trivial⟩))))))))
   | cons y2 ys2 =>
    rw [Ii.eq_2] at h
    refine Fr (Vb S Ex rfl rfl rfl fun a S=>Ld ?_)
    replace S:=S.k5 0 36 37 38 39 rfl
    refine Tn (Fs (wp_cond_true ((S.tm rfl).trans (congrArg Value.bool (Hv hd2 hi2))) (wp_skip (Tn (Fs (wp_block (Fr (Vm S rfl rfl ?_))))))));clear S;intro a S
    obtain ⟨b5,o4,hm4,hr5⟩:=Fd (a:=a) (x:=.tmp 36) (y:=.tmp 38) (ty:=0) Ni Ae (Iq hd2 hi2) rfl (S.tm rfl) (S.tm rfl)
    refine lv S (hr5 _) rfl ?_;clear S;intro a S
    clear hr5
    refine lv S (Fx isAgg38 sizeOf38 (off:=o4) (o:=0) (part:=(Dt.enc y2)) rfl rfl (S.tm rfl) (hm4.at S.emb0)) rfl fun a S=>Hz S zeroValue38 (cs:=[sV An,iV 0,iV 0,iV 0,sV An,sV An,sV An,iV 0,iV 0,sV An,iV 0]) rfl rfl ?_;clear S;intro a w13 b6 hz2 hk8 S
    refine Va S rfl rfl fun a S=>Fh S (S.tm rfl) (S.tm rfl) (i:=0) (off:=0) rfl sizeOf38 (vs:=(Dt.enc y2)) rfl rfl rfl rfl ?_;clear S;intro w14 hk9 S
    refine Dz (Vm S rfl rfl fun a S=>Vm S rfl rfl ?_);clear S;intro a S
    obtain ⟨hc2,h⟩:=Ia h
    obtain ⟨v4,hs1,hr6⟩:=LS (a:=a) (x:=.tmp 43) (y':=.tmp 44) (ty:=34) Ni Ae (S.tm rfl) (S.tm rfl) hc2
    refine lv S (hr6 _) rfl ?_;clear S;intro a S
    clear hr6
    refine lv S (Um (us:=#[]) (xs:=[].toArray) (ys:=[.tmp 7].toArray) (by simp) (evA ⟨(S.tm rfl),trivial⟩ (vs:=[.pointer (some ⟨b6,0,none⟩)]))) rfl fun a S=>Ec S (fun _=>Dv (vs:=[v4,.func (.func 35) #[] #[.pointer (some ⟨b6,0,none⟩)]]) ⟨(S.tm rfl),(S.tm rfl),trivial⟩ call34) (Qb _ v4 (cut Ag 0 (i2 : Int)) (hs1.mono (S.le_arg Ej)) b6 y2 (S.blk_view (i:=0) rfl ((Hr (e':=.blk b6 (Dt.enc y2) 38)) _ rfl)) _ rfl) rfl ?_;clear S;intro v5 a w15 hv4 hk10 hn4 S
    subst hv4
    refine Ld ?_
    replace S:=S.n0.k5 0 36 37 38 47 rfl
    refine Tn (Fc h (S.tm rfl) (fun hb5 h=>?_) (fun hb5 h=>?_))
    ·refine Fr (Vk S rfl rfl fun a S=>Dl (wp_ret (Fq (Dy (Dy (Fq (Dy ?_)))))))
     refine Dy ?_
     obtain rfl:=Option.some.inj h
     exact Eo S results15 rfl rfl
    ·exact wp_skip (Ho (Tn (Fg (Vq S Gf rfl rfl rfl fun a S=>Vm S rfl rfl fun a S=>Dl (⟨ys2,⟨i2 + 1,⟨_,(hd2).trans (List.append_cons _ _ _),by simp [hi2]⟩,h,S.nf [] rfl ⟨rfl,rfl,rfl,(congrArg (fun z=>some (Value.int .i64 z)) (Hw hd2 hi2 (Jn Ae))),trivial⟩⟩,Nat.lt_succ_self _⟩)))))
  clear S h;rintro a w12 ⟨h,S⟩;rw [hj3] at h;clear hj3 j3
  refine Tn (Fr (Vk S rfl rfl fun a S=>Dl (wp_ret ?_)))
  obtain rfl:=Option.some.inj h
  exact Eo S results15 rfl rfl
theorem BB (w : World) (O : Nat) (U : Value) (Am : List Int) (Ak : Slc (view w [O]) 1 U (Am.map eInt)) (Aj : Int) (As : (LEnt.blk O [U,iV Aj] 25).holds w) (Bn : Int) (r : (List Dt) × Int) (h : Qp Am Aj Bn = some r) :
    Calls prog 5 [.pointer (some ⟨O,0,none⟩),iV Bn].toArray w (Ret w [O] fun τ v w'=>(LEnt.blk O [U,iV r.2] 25).holds w' ∧ Td τ 38 11 v r.1.length (r.1.flatMap Dt.enc)):=by
 refine Mo [O] [.blk O [U,iV Aj] 25] func5 rfl ntmps5 rfl (fun e he=>by simp only [List.mem_singleton] at he;subst he;exact As) (by simp [fps,LEnt.fp]) (by simp [fps,LEnt.fp]) fun a S=>?_
 unfold Qp at h
 replace S:=(S.nl [.blk O [U,iV Aj] 25] [true] rfl).k2 0 1 rfl
 refine Fr (Vk S rfl rfl fun a S=>Dl (Fs (Fr (lv S (Rm rfl) rfl fun a S=>Dl ?_))))
 replace S:=S.k3 0 1 6 rfl
 obtain ⟨j1,hj1,h⟩:=Eu h
 refine En (fun a w'=>∃ x1 : Int,∃ φ1 : View,j1 x1 = some r ∧ View.le nov φ1 ∧ Sx w [O] φ1 [.blk O [U,iV x1] 25] [] 16 a w') ?_ ?_
 ·refine wp_block (Hb (fun (m1 : Nat) a w'=>∃ x1 : Int,∃ x2 : Int,∃ φ1 : View,Jt Am Bn j1 m1 x1 x2 = some r ∧ View.le nov φ1 ∧ Sx w [O] φ1 [.blk O [U,iV x1] 25] [(0,.pointer (some ⟨O,0,none⟩)),(1,iV Bn),(6,iV x2)] 16 a w') id 7 ⟨Aj,0,nov,h,View.le_refl _,S.nf [true] rfl (subR rfl)⟩ ?_)
  clear S h;rintro m1 a w1 ⟨x1,x2,φ1,h,hl1,S⟩
  cases m1 with
  | zero=>rw [Jt.eq_1] at h;cases h
  | succ m1 =>
   rw [Jt.eq_2] at h
   refine Fr (Vq S Ex rfl rfl rfl fun a S=>Dl (Fs (Fc h (S.tm rfl) (fun hb1 h=>?_) (fun hb1 h=>?_))))
   ·refine wp_skip (Tn (Fs (wp_block (Fr (Vm S rfl rfl fun a S=>Vm S rfl rfl ?_)))));clear S;intro a S
    obtain ⟨r1,hr1,h⟩:=Fb h
    have hz1:=S.keep.size
    refine Hg 0 S (b:=O) rfl rfl (fun _=>.blk O [U,iV r1.2] 25) (fun _=>Dv (vs:=[.pointer (some ⟨O,0,none⟩),iV Bn]) ⟨(S.tm rfl),(S.tm rfl),trivial⟩ call14) (GA _ O U Am (Ak.mono (S.le_arg (Ip (i:=0) (e:=.blk O [U,iV x1] 25) rfl))) x1 (S.holds _ (List.mem_of_getElem? (i:=0) rfl)) Bn _ hr1) rfl (fun _ _ _ h=>⟨h.1,fun _ hc=>by cases hc;rfl⟩) ?_;clear S;intro v1 a w3 hv1 hk1 hn1 S
    replace hv1:=hv1.2
    obtain ⟨φ2,hl2,hm1,S⟩:=S.see' hn1 hz1
    have hs1:=hv1.mono hm1
    refine Va S rfl rfl fun a S=>Dz (Vm S rfl rfl ?_);clear S;intro a S
    obtain ⟨r2,hr2,h⟩:=Fb h
    refine Ec S (fun _=>Dv (vs:=[v1]) ⟨(S.tm rfl),trivial⟩ call15) (Zr _ v1 r1.1 ((He Dt.enc_ok hs1).mono (S.le_new Ej)) _ hr2) rfl ?_;clear S;intro v2 a w4 hv2 hk2 hn2 S
    subst hv2
    refine Vq S Im rfl rfl rfl fun a S=>Dl (Fc h (S.tm rfl) (fun hb2 h=>?_) (fun hb2 h=>?_))
    ·refine Fr (Vm S rfl rfl fun a S=>Va S rfl rfl fun a S=>Dl (wp_ret (Fq (Dy (Dy (Fq ?_))))))
     refine Dy (Dy ?_)
     obtain rfl:=Option.some.inj h
     exact Eo S results5 rfl ⟨(S.holds _ (List.mem_of_getElem? (i:=0) rfl)),((hs1).mono S.le_newer)⟩
    ·exact wp_skip (Ho (Tn (Fg (Vq S Gf rfl rfl rfl fun a S=>Vm S rfl rfl fun a S=>Dl (⟨m1,⟨r1.2,W (x2 + 1),φ2,h,(View.le_trans hl1 hl2),S.nf [true] rfl ⟨rfl,rfl,rfl,trivial⟩⟩,Nat.lt_succ_self _⟩)))))
   ·exact wp_exit (Ei (Ei (Gp (Tn (⟨x1,φ1,h,hl1,S.nf [true] rfl trivial⟩)))))
 clear S h;rintro a w2 ⟨x1,φ1,h,hl1,S⟩;rw [hj1] at h;clear hj1 j1
 refine Tn (Fr (Vk S rfl rfl fun a S=>Dl (wp_ret ?_)))
 obtain rfl:=Option.some.inj h
 exact Eo S results5 rfl ⟨(S.holds _ (List.mem_of_getElem? (i:=0) rfl)),(Ow _ _ _)⟩
theorem Wn (w : World) (Aw : Value) (Ap : List Dt) (Bf : Slc (view w []) 11 Aw (Ap.map Dt.enc)) (r : (List Dt)) (h : Sp Ap = some r) :
    Calls prog 7 [Aw].toArray w (Ret w [] fun τ v _=>Td τ 38 11 v r.length (r.flatMap Dt.enc)):=by
 refine Fe func7 rfl ntmps7 rfl fun a S=>?_
 unfold Sp at h
 replace S:=S.k1 0 rfl
 refine Fr (Vk S rfl rfl fun a S=>Dl (Fs (Fr (Vm S rfl rfl fun a S=>lv S (SY underlying34 (Fl Bf) (S.tm rfl) rfl) rfl fun a S=>Ld ?_))))
 refine Tn (SP (S.tm rfl) (fun hb1=>?_) (fun hb1=>?_))
 ·have hx1:=SX Bf hb1
  subst hx1
  replace h : some ([] : List Dt) = some r:=h
  refine Fr (Vk S rfl rfl fun a S=>Dl (wp_ret (Dy ?_)))
  obtain rfl:=Option.some.inj h
  exact Eo S results7 rfl (Ow _ _ _)
 ·refine wp_skip (Tn (Fr (IE S underlying34 sizeOf38 rfl ?_)));clear S;intro a w1 b1 hz1 hk1 S
  refine Vm S rfl rfl ?_;clear S;intro a S
  replace S:=S.litOwn (i:=0) (xs:=([] : List Dt)) rfl Dt.enc_ok rfl rfl rfl
  replace S:=S.nk [.own (.slice (some ⟨b1,0,none⟩) 0 0) 38 11 (([] : List Dt) : List Dt).length ((([] : List Dt) : List Dt).flatMap Dt.enc)] [(0,Aw),(2,.slice none 0 0),(3,Aw),(4,bV (nilB Aw)),(5,(.slice (some ⟨b1,0,none⟩) 0 0)),(6,Aw)] [] rfl (subR rfl)
  obtain ⟨hc1,h⟩:=Ia h
  refine ET (Y:=[]) Ni Dt.enc_ok S (S.tm rfl) (i:=0) rfl (S.tm rfl) (Bf.mono (S.le_arg (fun _ h=>by cases h))) rfl rfl (by have:=Mn hc1;omega) rfl ?_;clear S;intro v1 a w2 hk2 S
  refine Va S rfl rfl fun a S=>Dl (wp_ret ?_)
  obtain rfl:=Option.some.inj h
  exact Eo S results7 rfl (Sw S (i:=0) rfl rfl)
theorem GB (w : World) (s c : ByteArray) (r : ByteArray) (h : Vc s c = some r) : Calls prog 110 [.string s,.string c].toArray w (Ret w [] fun _ v _=>v = .string r):=by
  unfold Vc at h
  obtain ⟨h1,h⟩:=Ia h
  obtain ⟨h2,h⟩:=Ia h
  obtain ⟨h3,h⟩:=Ia h
  obtain rfl:=Option.some.inj h
  exact KH (Any.strings_Trim_laid Tryz.lays160 (by kernel_rfl) s c w (by simpa using h1) (by simpa using h2) (fun j b hb=>by simpa using List.all_eq_true.1 h3 b (List.mem_of_getElem? hb)))
theorem Ie (w : World) (Ap : ByteArray) (r : Bool) (h : Gd Ap = some r) :
    Calls prog 89 [sV Ap].toArray w (Ret w [] fun _ v _=>v = bV r):=by
 refine Fe func89 rfl ntmps89 rfl fun a S=>?_
 unfold Gd at h
 replace S:=S.k1 0 rfl
 refine Fr (Vk S rfl rfl fun a S=>Dz (Vm S rfl rfl fun a S=>Vu S (Zf underlying9) rfl rfl fun a S=>Vq S Qd rfl rfl rfl fun a S=>Vm S rfl rfl ?_));clear S;intro a S
 refine Hj 4 (fun a w'=>Keep [] w w' ∧ Sx w [] nov [] [(0,sV Ap),(10,bV ((decide (1 ≤ (Ap.size : Int))) && (decide ((Ap.size : Int) ≤ 40))))] 26 a w') ?_ ?_
 ·rcases Bool.eq_false_or_eq_true (decide (1 ≤ (Ap.size : Int))) with hb1 | hb1
  ·exact Ea S rfl rfl rfl hb1 (Vm S rfl rfl fun a S=>Ea S rfl rfl rfl hb1 (Vu S (Zf underlying9) rfl rfl fun a S=>Ea S rfl rfl rfl hb1 (Vq S Uk rfl rfl rfl fun a S=>lv S (Hm hb1 (S.tm rfl) (S.tm rfl)) rfl fun a S=>Dl (⟨Keep.refl _ _,S.nf [] rfl (subR rfl)⟩))))
  ·iterate 3 (refine Gt S rfl rfl rfl (Jq hb1) rfl ?_ rfl;clear S;intro a S)
   exact lv S (Hn (decide ((Ap.size : Int) ≤ 40)) hb1 (S.tm rfl) rfl) rfl fun a S=>Dl (⟨Keep.refl _ _,S.nf [] rfl (subR rfl)⟩)
 clear S;rintro a w1 ⟨hk1,S⟩
 refine Vm S rfl rfl ?_;clear S;intro a S
 obtain ⟨j1,hj1,h⟩:=Eu h
 refine Hj 4 (fun a w'=>∃ c1,j1 c1 = some r ∧ Keep [] w1 w' ∧ Sx w [] nov [] [(0,sV Ap),(15,bV c1)] 26 a w') ?_ ?_
 ·rcases Bool.eq_false_or_eq_true ((decide (1 ≤ (Ap.size : Int))) && (decide ((Ap.size : Int) ≤ 40))) with hb2 | hb2
  ·replace h:=Qw h hb2
   refine Ea S rfl rfl rfl hb2 (Vm S rfl rfl fun a S=>Ea S rfl rfl rfl hb2 ?_)
   obtain ⟨hc1,h⟩:=Ia h
   exact lv S (Xj underlying9 (S.tm rfl) rfl hc1) rfl fun a S=>Ea S rfl rfl rfl hb2 (Vq S Qd rfl rfl rfl fun a S=>lv S (Hm hb2 (S.tm rfl) (S.tm rfl)) rfl fun a S=>Dl (⟨_,h,Keep.refl _ _,S.nf [] rfl (subR rfl)⟩))
  ·replace h:=Qx h hb2
   iterate 3 (refine Gt S rfl rfl rfl (Jq hb2) rfl ?_ rfl;clear S;intro a S)
   exact Vq S (Hn true hb2) rfl rfl rfl fun a S=>Dl (⟨_,h,Keep.refl _ _,S.nf [] rfl (subR rfl)⟩)
 clear S h;rintro a w2 ⟨c1,h,hk2,S⟩;rw [hj1] at h;clear hj1 j1
 refine Vm S rfl rfl ?_;clear S;intro a S
 obtain ⟨j2,hj2,h⟩:=Eu h
 refine Hj 4 (fun a w'=>∃ c2,j2 c2 = some r ∧ Keep [] w2 w' ∧ Sx w [] nov [] [(0,sV Ap),(20,bV c2)] 26 a w') ?_ ?_
 ·rcases Bool.eq_false_or_eq_true c1 with hb3 | hb3
  ·replace h:=Qw h hb3
   refine Ea S rfl rfl rfl hb3 (Vm S rfl rfl fun a S=>Ea S rfl rfl rfl hb3 ?_)
   obtain ⟨hc2,h⟩:=Ia h
   exact lv S (Xj underlying9 (S.tm rfl) rfl hc2) rfl fun a S=>Ea S rfl rfl rfl hb3 (Vq S Uk rfl rfl rfl fun a S=>lv S (Hm hb3 (S.tm rfl) (S.tm rfl)) rfl fun a S=>Dl (⟨_,h,Keep.refl _ _,S.nf [] rfl (subR rfl)⟩))
  ·replace h:=Qx h hb3
   iterate 3 (refine Gt S rfl rfl rfl (Jq hb3) rfl ?_ rfl;clear S;intro a S)
   exact Vq S (Hn true hb3) rfl rfl rfl fun a S=>Dl (⟨_,h,Keep.refl _ _,S.nf [] rfl (subR rfl)⟩)
 clear S h;rintro a w3 ⟨c2,h,hk3,S⟩;rw [hj2] at h;clear hj2 j2
 refine Vm S rfl rfl ?_;clear S;intro a S
 obtain ⟨j3,hj3,h⟩:=Eu h
 refine Hj 4 (fun a w'=>∃ c3,j3 c3 = some r ∧ Keep [] w3 w' ∧ Sx w [] nov [] [(25,bV c3)] 26 a w') ?_ ?_
 ·rcases Bool.eq_false_or_eq_true c2 with hb4 | hb4
  ·replace h:=Qw h hb4
   refine Ea S rfl rfl rfl hb4 (Vm S rfl rfl fun a S=>Ea S rfl rfl rfl hb4 ?_)
   obtain ⟨r1,hr1,h⟩:=Fb h
   refine Ec S (fun _=>Dv (vs:=[sV Ap,sV Ht]) ⟨(S.tm rfl),rfl,trivial⟩ call110) (GB _ Ap Ht _ hr1) rfl ?_;clear S;intro v1 a w5 hv1 hk4 hn1 S
   subst hv1
   exact Ea S rfl rfl rfl hb4 (Vq S Wb rfl rfl rfl fun a S=>lv S (Hm hb4 (S.tm rfl) (S.tm rfl)) rfl fun a S=>Dl (⟨_,h,hk4,S.nf [] rfl ⟨rfl,trivial⟩⟩))
  ·replace h:=Qx h hb4
   iterate 3 (refine Gt S rfl rfl rfl (Jq hb4) rfl ?_ rfl;clear S;intro a S)
   exact Vq S (Hn true hb4) rfl rfl rfl fun a S=>Dl (⟨_,h,Keep.refl _ _,S.nf [] rfl ⟨rfl,trivial⟩⟩)
 clear S h;rintro a w4 ⟨c3,h,hk5,S⟩;rw [hj3] at h;clear hj3 j3
 refine Va S rfl rfl fun a S=>Dl (wp_ret ?_)
 obtain rfl:=Option.some.inj h
 exact Eo S results89 rfl rfl
theorem Fk (w : World) (Az : Int) (Bl : Int) (Bg : Int) (r : Bool) (h : Dx Az Bl Bg = r) :
    Calls prog 48 [iV Az,iV Bl,iV Bg].toArray w (Ret w [] fun _ v _=>v = bV r):=by
 refine Fe func48 rfl ntmps48 rfl fun a S=>?_
 unfold Dx at h
 replace S:=S.k3 0 1 2 rfl
 refine Fr (Vk S rfl rfl fun a S=>Dz (Vm S rfl rfl fun a S=>Vm S rfl rfl fun a S=>Vb S Qd rfl rfl rfl fun a S=>Vm S rfl rfl ?_));clear S;intro a S
 refine Hj 4 (fun a w'=>Keep [] w w' ∧ Sx w [] nov [] [(14,bV ((decide (Bl ≤ Az)) && (decide (Az ≤ Bg))))] 15 a w') ?_ ?_
 ·rcases Bool.eq_false_or_eq_true (decide (Bl ≤ Az)) with hb1 | hb1
  ·exact Ea S rfl rfl rfl hb1 (Vm S rfl rfl fun a S=>Ea S rfl rfl rfl hb1 (Vm S rfl rfl fun a S=>Ea S rfl rfl rfl hb1 (Vb S Uk rfl rfl rfl fun a S=>lv S (Hm hb1 (S.tm rfl) (S.tm rfl)) rfl fun a S=>Dl (⟨Keep.refl _ _,S.nf [] rfl ⟨rfl,trivial⟩⟩))))
  ·iterate 3 (refine Gt S rfl rfl rfl (Jq hb1) rfl ?_ rfl;clear S;intro a S)
   exact lv S (Hn (decide (Az ≤ Bg)) hb1 (S.tm rfl) rfl) rfl fun a S=>Dl (⟨Keep.refl _ _,S.nf [] rfl ⟨rfl,trivial⟩⟩)
 clear S;rintro a w1 ⟨hk1,S⟩
 refine Va S rfl rfl fun a S=>Dl (wp_ret ?_)
 subst h
 exact Eo S results48 rfl rfl
theorem CF (w : World) (Ao : Eh) (r : Int) (h : Nr Ao = some r) :
    Calls prog 67 [.agg (Eh.enc Ao).toArray].toArray w (Ret w [] fun _ v _=>v = iV r):=by
 refine Fe func67 rfl ntmps67 rfl fun a S=>?_
 unfold Nr at h
 replace S:=S.k1 0 rfl
 refine Fr (My S (S.tm rfl) (cs:=(Eh.enc Ao)) rfl rfl ?_);clear S;intro a w1 b1 hz1 hk1 S
 refine Vk S rfl rfl fun a S=>Dl (Fs (wp_block (Fr (Vf Xa S rfl rfl fun a S=>Vl isAgg9 0 S rfl rfl rfl rfl ?_))));clear S;intro a S
 obtain ⟨r1,hr1,h⟩:=Fb h
 refine Ec S (fun _=>Dv (vs:=[sV Ao.Key]) ⟨(S.tm rfl),trivial⟩ call89) (Ie _ Ao.Key _ hr1) rfl ?_;clear S;intro v1 a w2 hv1 hk2 hn1 S
 subst hv1
 refine Vu S Hh rfl rfl fun a S=>Va S rfl rfl fun a S=>Dl (Fc h (S.tm rfl) (fun hb1 h=>?_) (fun hb1 h=>?_))
 ·refine Fr (Vk S rfl rfl fun a S=>Dl (wp_ret (Fq (Dy ?_))))
  obtain rfl:=Option.some.inj h
  exact Eo S results67 rfl rfl
 ·refine Fr (Vf KR S rfl rfl fun a S=>Vl isAgg3 0 S rfl rfl rfl rfl fun a S=>Ec S (fun _=>Dv (vs:=[iV Ao.Stroke,iV 1,iV 5]) ⟨(S.tm rfl),rfl,rfl,trivial⟩ call48) (Fk _ Ao.Stroke 1 5 _ rfl) rfl ?_);clear S;intro v2 a w3 hv2 hk3 hn2 S
  subst hv2
  refine Vu S Hh rfl rfl fun a S=>Vm S rfl rfl fun a S=>Hj 5 (fun a w'=>Keep [] w3 w' ∧ Sx w [] nov [.blk b1 (Eh.enc Ao) 51] [(1,.pointer (some ⟨b1,0,none⟩)),(18,bV ((!(Dx Ao.Stroke 1 5)) || (!(Dx Ao.Sex 0 2))))] 95 a w') ?_ ?_
  ·rcases Bool.eq_false_or_eq_true (!(Dx Ao.Stroke 1 5)) with hb2 | hb2
   ·iterate 4 (refine Gt S rfl rfl rfl (Mh hb2) rfl ?_ rfl;clear S;intro a S)
    exact lv S (Kh (!(Dx Ao.Sex 0 2)) hb2 (S.tm rfl) rfl) rfl fun a S=>Dl (⟨Keep.refl _ _,S.nf [true] rfl (subR rfl)⟩)
   ·refine Ea S rfl rfl rfl hb2 (Vf fa_51_5 S rfl rfl fun a S=>Ea S rfl rfl rfl hb2 (Vl isAgg3 0 S rfl rfl rfl rfl fun a S=>Ea S rfl rfl rfl hb2 (Ec S (fun _=>Dv (vs:=[iV Ao.Sex,iV 0,iV 2]) ⟨(S.tm rfl),rfl,rfl,trivial⟩ call48) (Fk _ Ao.Sex 0 2 _ rfl) rfl ?_)));clear S;intro v3 a w5 hv3 hk4 hn3 S
    subst hv3
    exact Ea S rfl rfl rfl hb2 (Vu S Hh rfl rfl fun a S=>lv S (Ki hb2 (S.tm rfl) (S.tm rfl)) rfl fun a S=>Dl (⟨hk4,S.nf [true] rfl (subR rfl)⟩))
  clear S;rintro a w4 ⟨hk5,S⟩
  refine Va S rfl rfl fun a S=>Dl (Fc h (S.tm rfl) (fun hb3 h=>?_) (fun hb3 h=>?_))
  ·refine Fr (Vk S rfl rfl fun a S=>Dl (wp_ret (Fq (Dy ?_))))
   obtain rfl:=Option.some.inj h
   exact Eo S results67 rfl rfl
  ·refine Fr (Vf GL S rfl rfl fun a S=>Vl isAgg3 0 S rfl rfl rfl rfl fun a S=>Vq S Ky rfl rfl rfl fun a S=>Vm S rfl rfl fun a S=>Hj 4 (fun a w'=>Keep [] w4 w' ∧ Sx w [] nov [.blk b1 (Eh.enc Ao) 51] [(1,.pointer (some ⟨b1,0,none⟩)),(27,bV ((!decide (Ao.Course = 25)) && (!decide (Ao.Course = 50))))] 95 a w') ?_ ?_)
   ·rcases Bool.eq_false_or_eq_true (!decide (Ao.Course = 25)) with hb4 | hb4
    ·exact Ea S rfl rfl rfl hb4 (Vf GL S rfl rfl fun a S=>Ea S rfl rfl rfl hb4 (Vl isAgg3 0 S rfl rfl rfl rfl fun a S=>Ea S rfl rfl rfl hb4 (Vq S Ky rfl rfl rfl fun a S=>lv S (Hm hb4 (S.tm rfl) (S.tm rfl)) rfl fun a S=>Dl (⟨Keep.refl _ _,S.nf [true] rfl (subR rfl)⟩))))
    ·iterate 3 (refine Gt S rfl rfl rfl (Jq hb4) rfl ?_ rfl;clear S;intro a S)
     exact lv S (Hn (!decide (Ao.Course = 50)) hb4 (S.tm rfl) rfl) rfl fun a S=>Dl (⟨Keep.refl _ _,S.nf [true] rfl (subR rfl)⟩)
   clear S;rintro a w6 ⟨hk6,S⟩
   refine Vm S rfl rfl fun a S=>Hj 5 (fun a w'=>Keep [] w6 w' ∧ Sx w [] nov [.blk b1 (Eh.enc Ao) 51] [(1,.pointer (some ⟨b1,0,none⟩)),(33,bV (((!decide (Ao.Course = 25)) && (!decide (Ao.Course = 50))) || (!(Dx Ao.Legs 1 4))))] 95 a w') ?_ ?_
   ·rcases Bool.eq_false_or_eq_true ((!decide (Ao.Course = 25)) && (!decide (Ao.Course = 50))) with hb5 | hb5
    ·iterate 4 (refine Gt S rfl rfl rfl (Mh hb5) rfl ?_ rfl;clear S;intro a S)
     exact lv S (Kh (!(Dx Ao.Legs 1 4)) hb5 (S.tm rfl) rfl) rfl fun a S=>Dl (⟨Keep.refl _ _,S.nf [true] rfl (subR rfl)⟩)
    ·refine Ea S rfl rfl rfl hb5 (Vf DW S rfl rfl fun a S=>Ea S rfl rfl rfl hb5 (Vl isAgg3 0 S rfl rfl rfl rfl fun a S=>Ea S rfl rfl rfl hb5 (Ec S (fun _=>Dv (vs:=[iV Ao.Legs,iV 1,iV 4]) ⟨(S.tm rfl),rfl,rfl,trivial⟩ call48) (Fk _ Ao.Legs 1 4 _ rfl) rfl ?_)));clear S;intro v4 a w8 hv4 hk7 hn4 S
     subst hv4
     exact Ea S rfl rfl rfl hb5 (Vu S Hh rfl rfl fun a S=>lv S (Ki hb5 (S.tm rfl) (S.tm rfl)) rfl fun a S=>Dl (⟨hk7,S.nf [true] rfl (subR rfl)⟩))
   clear S;rintro a w7 ⟨hk8,S⟩
   refine Vm S rfl rfl fun a S=>Hj 5 (fun a w'=>Keep [] w7 w' ∧ Sx w [] nov [.blk b1 (Eh.enc Ao) 51] [(1,.pointer (some ⟨b1,0,none⟩)),(39,bV ((((!decide (Ao.Course = 25)) && (!decide (Ao.Course = 50))) || (!(Dx Ao.Legs 1 4))) || (!(Dx Ao.Metres 25 1500))))] 95 a w') ?_ ?_
   ·rcases Bool.eq_false_or_eq_true (((!decide (Ao.Course = 25)) && (!decide (Ao.Course = 50))) || (!(Dx Ao.Legs 1 4))) with hb6 | hb6
    ·iterate 4 (refine Gt S rfl rfl rfl (Mh hb6) rfl ?_ rfl;clear S;intro a S)
     exact lv S (Kh (!(Dx Ao.Metres 25 1500)) hb6 (S.tm rfl) rfl) rfl fun a S=>Dl (⟨Keep.refl _ _,S.nf [true] rfl (subR rfl)⟩)
    ·refine Ea S rfl rfl rfl hb6 (Vf KQ S rfl rfl fun a S=>Ea S rfl rfl rfl hb6 (Vl isAgg3 0 S rfl rfl rfl rfl fun a S=>Ea S rfl rfl rfl hb6 (Ec S (fun _=>Dv (vs:=[iV Ao.Metres,iV 25,iV 1500]) ⟨(S.tm rfl),rfl,rfl,trivial⟩ call48) (Fk _ Ao.Metres 25 1500 _ rfl) rfl ?_)));clear S;intro v5 a w10 hv5 hk9 hn5 S
     subst hv5
     exact Ea S rfl rfl rfl hb6 (Vu S Hh rfl rfl fun a S=>lv S (Ki hb6 (S.tm rfl) (S.tm rfl)) rfl fun a S=>Dl (⟨hk9,S.nf [true] rfl (subR rfl)⟩))
   clear S;rintro a w9 ⟨hk10,S⟩
   refine Vm S rfl rfl fun a S=>Hj 4 (fun a w'=>Keep [] w9 w' ∧ Sx w [] nov [.blk b1 (Eh.enc Ao) 51] [(1,.pointer (some ⟨b1,0,none⟩)),(44,bV (((((!decide (Ao.Course = 25)) && (!decide (Ao.Course = 50))) || (!(Dx Ao.Legs 1 4))) || (!(Dx Ao.Metres 25 1500))) || (decide (Ao.Young < 0))))] 95 a w') ?_ ?_
   ·rcases Bool.eq_false_or_eq_true ((((!decide (Ao.Course = 25)) && (!decide (Ao.Course = 50))) || (!(Dx Ao.Legs 1 4))) || (!(Dx Ao.Metres 25 1500))) with hb7 | hb7
    ·iterate 3 (refine Gt S rfl rfl rfl (Mh hb7) rfl ?_ rfl;clear S;intro a S)
     exact lv S (Kh (decide (Ao.Young < 0)) hb7 (S.tm rfl) rfl) rfl fun a S=>Dl (⟨Keep.refl _ _,S.nf [true] rfl (subR rfl)⟩)
    ·exact Ea S rfl rfl rfl hb7 (Vf KS S rfl rfl fun a S=>Ea S rfl rfl rfl hb7 (Vl isAgg3 0 S rfl rfl rfl rfl fun a S=>Ea S rfl rfl rfl hb7 (Vq S Ex rfl rfl rfl fun a S=>lv S (Ki hb7 (S.tm rfl) (S.tm rfl)) rfl fun a S=>Dl (⟨Keep.refl _ _,S.nf [true] rfl (subR rfl)⟩))))
   clear S;rintro a w11 ⟨hk11,S⟩
   refine Vm S rfl rfl fun a S=>Hj 6 (fun a w'=>Keep [] w11 w' ∧ Sx w [] nov [.blk b1 (Eh.enc Ao) 51] [(1,.pointer (some ⟨b1,0,none⟩)),(51,bV ((((((!decide (Ao.Course = 25)) && (!decide (Ao.Course = 50))) || (!(Dx Ao.Legs 1 4))) || (!(Dx Ao.Metres 25 1500))) || (decide (Ao.Young < 0))) || (decide (Ao.Old < Ao.Young))))] 95 a w') ?_ ?_
   ·rcases Bool.eq_false_or_eq_true (((((!decide (Ao.Course = 25)) && (!decide (Ao.Course = 50))) || (!(Dx Ao.Legs 1 4))) || (!(Dx Ao.Metres 25 1500))) || (decide (Ao.Young < 0))) with hb8 | hb8
    ·iterate 5 (refine Gt S rfl rfl rfl (Mh hb8) rfl ?_ rfl;clear S;intro a S)
     exact lv S (Kh (decide (Ao.Old < Ao.Young)) hb8 (S.tm rfl) rfl) rfl fun a S=>Dl (⟨Keep.refl _ _,S.nf [true] rfl (subR rfl)⟩)
    ·refine Ea S rfl rfl rfl hb8 (Vf KS S rfl rfl fun a S=>Ea S rfl rfl rfl hb8 (Vl isAgg3 0 S rfl rfl rfl rfl fun a S=>Ea S rfl rfl rfl hb8 (Vf KT S rfl rfl fun a S=>Ea S rfl rfl rfl hb8 (Vl isAgg3 0 S rfl rfl rfl rfl fun a S=>Ea S rfl rfl rfl hb8 (Vb S Jh rfl rfl rfl fun a S=>lv S (Ki hb8 (S.tm rfl) (S.tm rfl)) rfl ?_)))));clear S;intro a S
     exact Dl (⟨Keep.refl _ _,S.nf [true] rfl (subR rfl)⟩)
   clear S;rintro a w12 ⟨hk12,S⟩
   refine Vm S rfl rfl fun a S=>Hj 4 (fun a w'=>Keep [] w12 w' ∧ Sx w [] nov [.blk b1 (Eh.enc Ao) 51] [(1,.pointer (some ⟨b1,0,none⟩)),(56,bV (((((((!decide (Ao.Course = 25)) && (!decide (Ao.Course = 50))) || (!(Dx Ao.Legs 1 4))) || (!(Dx Ao.Metres 25 1500))) || (decide (Ao.Young < 0))) || (decide (Ao.Old < Ao.Young))) || (decide (120 < Ao.Old))))] 95 a w') ?_ ?_
   ·rcases Bool.eq_false_or_eq_true ((((((!decide (Ao.Course = 25)) && (!decide (Ao.Course = 50))) || (!(Dx Ao.Legs 1 4))) || (!(Dx Ao.Metres 25 1500))) || (decide (Ao.Young < 0))) || (decide (Ao.Old < Ao.Young))) with hb9 | hb9
    ·iterate 3 (refine Gt S rfl rfl rfl (Mh hb9) rfl ?_ rfl;clear S;intro a S)
     exact lv S (Kh (decide (120 < Ao.Old)) hb9 (S.tm rfl) rfl) rfl fun a S=>Dl (⟨Keep.refl _ _,S.nf [true] rfl (subR rfl)⟩)
    ·exact Ea S rfl rfl rfl hb9 (Vf KT S rfl rfl fun a S=>Ea S rfl rfl rfl hb9 (Vl isAgg3 0 S rfl rfl rfl rfl fun a S=>Ea S rfl rfl rfl hb9 (Vq S Jh rfl rfl rfl fun a S=>lv S (Ki hb9 (S.tm rfl) (S.tm rfl)) rfl fun a S=>Dl (⟨Keep.refl _ _,S.nf [true] rfl (subR rfl)⟩))))
   clear S;rintro a w13 ⟨hk13,S⟩
   refine Va S rfl rfl fun a S=>Dl (Fc h (S.tm rfl) (fun hb10 h=>?_) (fun hb10 h=>?_))
   ·refine Fr (Vk S rfl rfl fun a S=>Dl (wp_ret (Fq (Dy ?_))))
    obtain rfl:=Option.some.inj h
    exact Eo S results67 rfl rfl
   ·refine Fr (Vf KQ S rfl rfl fun a S=>Vl isAgg3 0 S rfl rfl rfl rfl fun a S=>Vf GL S rfl rfl fun a S=>Vl isAgg3 0 S rfl rfl rfl rfl ?_);clear S;intro a S
    obtain ⟨hc1,h⟩:=Ia h
    refine lv S (AI (S.tm rfl) (S.tm rfl) (Tr hc1)) rfl fun a S=>Vq S Ky rfl rfl rfl fun a S=>Va S rfl rfl fun a S=>Dl (Fc h (S.tm rfl) (fun hb11 h=>?_) (fun hb11 h=>?_))
    ·refine Fr (Vk S rfl rfl fun a S=>Dl (wp_ret (Fq (Dy ?_))))
     obtain rfl:=Option.some.inj h
     exact Eo S results67 rfl rfl
    ·refine Fs (Fr (Vf KR S rfl rfl fun a S=>Vl isAgg3 0 S rfl rfl rfl rfl fun a S=>Vq S Im rfl rfl rfl fun a S=>Vm S rfl rfl fun a S=>Hj 4 (fun a w'=>Keep [] w13 w' ∧ Sx w [] nov [.blk b1 (Eh.enc Ao) 51] [(1,.pointer (some ⟨b1,0,none⟩)),(72,bV ((decide (Ao.Stroke = 5)) && (decide (Ao.Legs = 1))))] 95 a w') ?_ ?_))
     ·rcases Bool.eq_false_or_eq_true (decide (Ao.Stroke = 5)) with hb12 | hb12
      ·exact Ea S rfl rfl rfl hb12 (Vf DW S rfl rfl fun a S=>Ea S rfl rfl rfl hb12 (Vl isAgg3 0 S rfl rfl rfl rfl fun a S=>Ea S rfl rfl rfl hb12 (Vq S Im rfl rfl rfl fun a S=>lv S (Hm hb12 (S.tm rfl) (S.tm rfl)) rfl fun a S=>Dl (⟨Keep.refl _ _,S.nf [true] rfl (subR rfl)⟩))))
      ·iterate 3 (refine Gt S rfl rfl rfl (Jq hb12) rfl ?_ rfl;clear S;intro a S)
       exact lv S (Hn (decide (Ao.Legs = 1)) hb12 (S.tm rfl) rfl) rfl fun a S=>Dl (⟨Keep.refl _ _,S.nf [true] rfl (subR rfl)⟩)
     clear S;rintro a w14 ⟨hk14,S⟩
     refine Vm S rfl rfl ?_;clear S;intro a S
     obtain ⟨j1,hj1,h⟩:=Eu h
     refine Hj 8 (fun a w'=>∃ c1,j1 c1 = some r ∧ Keep [] w14 w' ∧ Sx w [] nov [.blk b1 (Eh.enc Ao) 51] [(1,.pointer (some ⟨b1,0,none⟩)),(81,bV c1)] 95 a w') ?_ ?_
     ·rcases Bool.eq_false_or_eq_true ((decide (Ao.Stroke = 5)) && (decide (Ao.Legs = 1))) with hb13 | hb13
      ·replace h:=Qw h hb13
       refine Ea S rfl rfl rfl hb13 (Vf KQ S rfl rfl fun a S=>Ea S rfl rfl rfl hb13 (Vl isAgg3 0 S rfl rfl rfl rfl fun a S=>Ea S rfl rfl rfl hb13 (Vf GL S rfl rfl fun a S=>Ea S rfl rfl rfl hb13 (Vl isAgg3 0 S rfl rfl rfl rfl fun a S=>Ea S rfl rfl rfl hb13 (Vu S (Yk rfl) rfl rfl fun a S=>Ea S rfl rfl rfl hb13 ?_)))))
       obtain ⟨hc2,h⟩:=Ia h
       exact lv S (AI (S.tm rfl) (S.tm rfl) (Tr hc2)) rfl fun a S=>Ea S rfl rfl rfl hb13 (Vq S Ky rfl rfl rfl fun a S=>lv S (Hm hb13 (S.tm rfl) (S.tm rfl)) rfl fun a S=>Dl (⟨_,h,Keep.refl _ _,S.nf [true] rfl (subR rfl)⟩))
      ·replace h:=Qx h hb13
       iterate 7 (refine Gt S rfl rfl rfl (Jq hb13) rfl ?_ rfl;clear S;intro a S)
       exact Vq S (Hn true hb13) rfl rfl rfl fun a S=>Dl (⟨_,h,Keep.refl _ _,S.nf [true] rfl (subR rfl)⟩)
     clear S h;rintro a w15 ⟨c1,h,hk15,S⟩;rw [hj1] at h;clear hj1 j1
     refine Va S rfl rfl fun a S=>Dl ?_
     obtain ⟨j2,hj2,h⟩:=Eu h
     refine En (fun a w'=>∃ x1 : Bool,j2 x1 = some r ∧ Sx w [] nov [.blk b1 (Eh.enc Ao) 51] [(64,bV x1)] 95 a w') ?_ ?_
     ·refine Fc h (S.tm rfl) (fun hb14 h=>?_) (fun hb14 h=>?_)
      ·exact wp_skip (Tn (⟨c1,h,S.nf [true] rfl ⟨rfl,trivial⟩⟩))
      ·refine Fg (Vf KR S rfl rfl fun a S=>Vl isAgg3 0 S rfl rfl rfl rfl fun a S=>Vq S Im rfl rfl rfl fun a S=>Vm S rfl rfl fun a S=>Hj 4 (fun a w'=>Keep [] w15 w' ∧ Sx w [] nov [.blk b1 (Eh.enc Ao) 51] [(1,.pointer (some ⟨b1,0,none⟩)),(89,bV ((decide (Ao.Stroke = 5)) && (decide (1 < Ao.Legs))))] 95 a w') ?_ ?_)
       ·rcases Bool.eq_false_or_eq_true (decide (Ao.Stroke = 5)) with hb15 | hb15
        ·exact Ea S rfl rfl rfl hb15 (Vf DW S rfl rfl fun a S=>Ea S rfl rfl rfl hb15 (Vl isAgg3 0 S rfl rfl rfl rfl fun a S=>Ea S rfl rfl rfl hb15 (Vq S Jh rfl rfl rfl fun a S=>lv S (Hm hb15 (S.tm rfl) (S.tm rfl)) rfl fun a S=>Dl (⟨Keep.refl _ _,S.nf [true] rfl (subR rfl)⟩))))
        ·iterate 3 (refine Gt S rfl rfl rfl (Jq hb15) rfl ?_ rfl;clear S;intro a S)
         exact lv S (Hn (decide (1 < Ao.Legs)) hb15 (S.tm rfl) rfl) rfl fun a S=>Dl (⟨Keep.refl _ _,S.nf [true] rfl (subR rfl)⟩)
       clear S;rintro a w17 ⟨hk16,S⟩
       refine Vm S rfl rfl fun a S=>Hj 4 (fun a w'=>Keep [] w17 w' ∧ Sx w [] nov [.blk b1 (Eh.enc Ao) 51] [(94,bV (((decide (Ao.Stroke = 5)) && (decide (1 < Ao.Legs))) && (!decide (Ao.Legs = 4))))] 95 a w') ?_ ?_
       ·rcases Bool.eq_false_or_eq_true ((decide (Ao.Stroke = 5)) && (decide (1 < Ao.Legs))) with hb16 | hb16
        ·exact Ea S rfl rfl rfl hb16 (Vf DW S rfl rfl fun a S=>Ea S rfl rfl rfl hb16 (Vl isAgg3 0 S rfl rfl rfl rfl fun a S=>Ea S rfl rfl rfl hb16 (Vq S Ky rfl rfl rfl fun a S=>lv S (Hm hb16 (S.tm rfl) (S.tm rfl)) rfl fun a S=>Dl (⟨Keep.refl _ _,S.nf [true] rfl ⟨rfl,trivial⟩⟩))))
        ·iterate 3 (refine Gt S rfl rfl rfl (Jq hb16) rfl ?_ rfl;clear S;intro a S)
         exact lv S (Hn (!decide (Ao.Legs = 4)) hb16 (S.tm rfl) rfl) rfl fun a S=>Dl (⟨Keep.refl _ _,S.nf [true] rfl ⟨rfl,trivial⟩⟩)
       clear S;rintro a w18 ⟨hk17,S⟩
       exact Va S rfl rfl fun a S=>Dl (⟨(((decide (Ao.Stroke = 5)) && (decide (1 < Ao.Legs))) && (!decide (Ao.Legs = 4))),h,S.nf [true] rfl ⟨rfl,trivial⟩⟩)
     clear S h;rintro a w16 ⟨x1,h,S⟩;rw [hj2] at h;clear hj2 j2
     refine Tn (Fc h (S.tm rfl) (fun hb17 h=>?_) (fun hb17 h=>?_))
     ·refine Fr (Vk S rfl rfl fun a S=>Dl (wp_ret (Fq (Dy ?_))))
      obtain rfl:=Option.some.inj h
      exact Eo S results67 rfl rfl
     ·refine wp_skip (Ho (Tn (Fr (Vk S rfl rfl fun a S=>Dl (wp_ret ?_)))))
      obtain rfl:=Option.some.inj h
      exact Eo S results67 rfl rfl
theorem BC (w : World) (Ab : Eh) (Cf : Nat) (Bq : Eh) (Cg : (view w []) Cf = some (.cells [sV Bq.Key,iV Bq.Metres,iV Bq.Stroke,iV Bq.Course,iV Bq.Legs,iV Bq.Sex,iV Bq.Young,iV Bq.Old].toArray 51 (0,0))) (r : Bool) (h : Sq Ab Bq = r) :
    Calls prog 69 [.agg (Eh.enc Ab).toArray,.pointer (some ⟨Cf,0,none⟩)].toArray w (Ret w [] fun _ v _=>v = bV r):=by
 refine Fe func69 rfl ntmps69 rfl fun a S=>?_
 unfold Sq at h
 replace S:=S.k2 0 1 rfl
 refine Fr (My S (S.tm rfl) (cs:=(Eh.enc Ab)) rfl rfl ?_);clear S;intro a w1 b1 hz1 hk1 S
 refine Vk S rfl rfl fun a S=>Dz (Vf Xa S rfl rfl fun a S=>Vl isAgg9 0 S rfl rfl rfl rfl fun a S=>Vf Xa S rfl rfl fun a S=>lv S (Hp isAgg9 (off:=0) (o:=0) (S.tm rfl) ((Sn Cg).at S.emb0) rfl) rfl fun a S=>Vb S Wb rfl rfl rfl fun a S=>Va S rfl rfl ?_);clear S;intro a S
 refine Dl (wp_ret ?_)
 subst h
 exact Eo S results69 rfl rfl
theorem Sa (w : World) (Aw : Value) (Ap : List Eh) (Bf : Slc (view w []) 8 Aw (Ap.map Eh.enc)) (Ba : Nat) (Ay : Eh) (Bm : (view w []) Ba = some (.cells [sV Ay.Key,iV Ay.Metres,iV Ay.Stroke,iV Ay.Course,iV Ay.Legs,iV Ay.Sex,iV Ay.Young,iV Ay.Old].toArray 51 (0,0))) (r : Int) (h : Kj Ap Ay = r) :
    Calls prog 77 [Aw,.func (.func 69) #[] #[.pointer (some ⟨Ba,0,none⟩)]].toArray w (Ret w [] fun _ v _=>v = iV r):=by
 refine Fe func77 rfl ntmps77 rfl fun a S=>?_
 unfold Kj at h
 replace S:=S.k2 0 1 rfl
 refine Fr (Vk S rfl rfl fun a S=>Dl (Fs (Fr (Vm S rfl rfl fun a S=>lv S (Fz Vi (S.tm rfl) (Fl Bf)) rfl fun a S=>lv S (Rm rfl) rfl ?_))));clear S;intro a S
 refine Dl ?_
 replace S:=S.k4 0 1 7 8 rfl
 obtain ⟨j1,hj1,h⟩:=Eu h
 refine En (fun a w'=>j1 = r ∧ Sx w [] nov [] [] 19 a w') ?_ ?_
 ·refine wp_block (Hb (fun (ys1 : List Eh) a w'=>∃ i1 : Nat,(∃ dn,Ap = dn ++ ys1 ∧ dn.length = i1) ∧ Fy Ay j1 ys1 i1 = r ∧ Sx w [] nov [] [(0,Aw),(1,.func (.func 69) #[] #[.pointer (some ⟨Ba,0,none⟩)]),(7,iV (Ap.length : Int)),(8,iV (i1 : Int))] 19 a w') List.length Ap ⟨0,⟨[],rfl,rfl⟩,h,S.nf [] rfl (subR rfl)⟩ ?_)
  clear S h;rintro ys1 a w1 ⟨i1,⟨dn,hd1,hi1⟩,h,S⟩
  cases ys1 with
  | nil =>
   rw [Fy.eq_1] at h
   refine Fr (Vb S Ex rfl rfl rfl fun a S=>Ld ?_)
   replace S:=S.k5 0 1 7 8 9 rfl
   exact Tn (Fs (wp_cond_false ((S.tm rfl).trans (congrArg Value.bool (Io hd1 hi1))) (wp_exit (Ei (Ei (Gp (Tn (⟨h,S.nf [] rfl trivial⟩))))))))
  | cons y1 ys1 =>
   rw [Fy.eq_2] at h
   refine Fr (Vb S Ex rfl rfl rfl fun a S=>Ld ?_)
   replace S:=S.k5 0 1 7 8 9 rfl
   refine Tn (Fs (wp_cond_true ((S.tm rfl).trans (congrArg Value.bool (Hv hd1 hi1))) (wp_skip (Tn (Fs (wp_block (Fr (Vm S rfl rfl fun a S=>Va S rfl rfl ?_))))))));clear S;intro a S
   refine Dl (Fs (Fg ?_))
   iterate 3 (refine Vm S rfl rfl ?_;clear S;intro a S)
   obtain ⟨b1,o1,hm1,hr1⟩:=Fd (a:=a) (x:=.tmp 12) (y:=.tmp 13) (ty:=0) Vi Bf (Iq hd1 hi1) rfl (S.tm rfl) (S.tm rfl)
   refine lv S (hr1 _) rfl ?_;clear S;intro a S
   clear hr1
   refine lv S (Fx isAgg51 sizeOf51 (off:=o1) (o:=0) (part:=(Eh.enc y1)) rfl rfl (S.tm rfl) (hm1.at S.emb0)) rfl fun a S=>Ec S (fun _=>Un (cap:=[.pointer (some ⟨Ba,0,none⟩)]) (S.tm rfl) (vs:=[.agg (Eh.enc y1).toArray]) ⟨(S.tm rfl),trivial⟩ call69) (BC _ y1 Ba Ay ((S.le_arg Ej) _ _ Bm) _ rfl) rfl ?_;clear S;intro v1 a w3 hv1 hk1 hn1 S
   subst hv1
   refine Dl (Fc h (S.tm rfl) (fun hb1 h=>?_) (fun hb1 h=>?_))
   ·refine Fr (Vm S rfl rfl fun a S=>Va S rfl rfl fun a S=>Ld ?_)
    replace S:=S.k1 4 rfl
    refine Tn (wp_ret (Fq (Dy (Dy (Fq (Dy (Dy ?_)))))))
    subst h
    exact Eo S results77 rfl rfl
   ·exact wp_skip (Ho (Tn (Fg (Vq S Gf rfl rfl rfl fun a S=>Vm S rfl rfl fun a S=>Dl (⟨ys1,⟨i1 + 1,⟨_,(hd1).trans (List.append_cons _ _ _),by simp [hi1]⟩,h,S.nf [] rfl ⟨rfl,rfl,rfl,(congrArg (fun z=>some (Value.int .i64 z)) (Hw hd1 hi1 (Jn Bf))),trivial⟩⟩,Nat.lt_succ_self _⟩)))))
 clear S h;rintro a w2 ⟨h,S⟩;rw [hj1] at h;clear hj1 j1
 refine Tn (Fr (Vk S rfl rfl fun a S=>Dl (wp_ret ?_)))
 subst h
 exact Eo S results77 rfl rfl
theorem Re (w : World) (Aw : Value) (Ap : List Eh) (Bf : Slc (view w []) 8 Aw (Ap.map Eh.enc)) (Ba : Nat) (Ay : Eh) (Bm : (view w []) Ba = some (.cells [sV Ay.Key,iV Ay.Metres,iV Ay.Stroke,iV Ay.Course,iV Ay.Legs,iV Ay.Sex,iV Ay.Young,iV Ay.Old].toArray 51 (0,0))) (r : Bool) (h : Ij Ap Ay = r) :
    Calls prog 68 [Aw,.func (.func 69) #[] #[.pointer (some ⟨Ba,0,none⟩)]].toArray w (Ret w [] fun _ v _=>v = bV r):=by
 refine Fe func68 rfl ntmps68 rfl fun a S=>?_
 unfold Ij at h
 replace S:=S.k2 0 1 rfl
 refine Fr (Vk S rfl rfl fun a S=>Dz (Vm S rfl rfl fun a S=>Vm S rfl rfl fun a S=>Ec S (fun _=>Dv (vs:=[Aw,.func (.func 69) #[] #[.pointer (some ⟨Ba,0,none⟩)]]) ⟨(S.tm rfl),(S.tm rfl),trivial⟩ call77) (Sa _ Aw Ap (Bf.mono (S.le_arg Ej)) Ba Ay ((S.le_arg Ej) _ _ Bm) _ rfl) rfl ?_));clear S;intro v1 a w1 hv1 hk1 hn1 S
 subst hv1
 refine Vq S Qd rfl rfl rfl fun a S=>Va S rfl rfl fun a S=>Dl (wp_ret ?_)
 subst h
 exact Eo S results68 rfl rfl
theorem Wo (w : World) (Av : Lu) (Ce : R28) (Cm : Xm (view w []) Av Ce) (r : Int) (h : Oi Av = some r) :
    Calls prog 70 [.agg (R28.enc Ce).toArray].toArray w (Ret w [] fun _ v _=>v = iV r):=by
 obtain ⟨u1,rfl,hs1⟩:=Cm
 refine Fe func70 rfl ntmps70 rfl fun a S=>?_
 unfold Oi at h
 replace S:=S.k1 0 rfl
 refine Fr (My S (S.tm rfl) (cs:=[u1.val,iV Av.Relay,iV Av.Most]) rfl rfl ?_);clear S;intro a w1 b1 hz1 hk1 S
 refine Vk S rfl rfl fun a S=>Dl (Fs (Fr (Vf Zp S rfl rfl fun a S=>Vl isAgg22 0 S rfl rfl rfl rfl fun a S=>lv S (Fz Oz (S.tm rfl) (Fl hs1)) rfl fun a S=>Vq S Jh rfl rfl rfl fun a S=>Ld ?_)))
 refine Tn (Fc h (S.tm rfl) (fun hb1 h=>?_) (fun hb1 h=>?_))
 ·refine Fr (Vk S rfl rfl fun a S=>Dl (wp_ret (Dy ?_)))
  obtain rfl:=Option.some.inj h
  exact Eo S results70 rfl rfl
 ·refine wp_skip (Tn (Fs (Fr (Vf Zp S rfl rfl fun a S=>Vl isAgg22 0 S rfl rfl rfl rfl fun a S=>lv S (Fz Oz (S.tm rfl) (Fl hs1)) rfl fun a S=>lv S (Rm rfl) rfl fun a S=>Dl ?_))))
  replace S:=(S.nl [.blk b1 [u1.val,iV Av.Relay,iV Av.Most] 28] [true] rfl).k4 1 10 11 12 rfl
  obtain ⟨j1,hj1,h⟩:=Eu h
  refine En (fun a w'=>j1 = some r ∧ Sx w [] nov [.blk b1 [u1.val,iV Av.Relay,iV Av.Most] 28] [(1,.pointer (some ⟨b1,0,none⟩))] 43 a w') ?_ ?_
  ·refine wp_block (Hb (fun (ys1 : List Int) a w'=>∃ i1 : Nat,(∃ dn,Av.Points = dn ++ ys1 ∧ dn.length = i1) ∧ Ju Av j1 ys1 i1 = some r ∧ Sx w [] nov [.blk b1 [u1.val,iV Av.Relay,iV Av.Most] 28] [(1,.pointer (some ⟨b1,0,none⟩)),(10,u1.val),(11,iV (Av.Points.length : Int)),(12,iV (i1 : Int))] 43 a w') List.length Av.Points ⟨0,⟨[],rfl,rfl⟩,h,S.nf [true] rfl (subR rfl)⟩ ?_)
   clear S h;rintro ys1 a w2 ⟨i1,⟨dn,hd1,hi1⟩,h,S⟩
   cases ys1 with
   | nil =>
    rw [Ju.eq_1] at h
    refine Fr (Vb S Ex rfl rfl rfl fun a S=>Ld ?_)
    replace S:=S.k5 1 10 11 12 13 rfl
    exact Tn (Fs (wp_cond_false ((S.tm rfl).trans (congrArg Value.bool (Io hd1 hi1))) (wp_exit (Ei (Ei (Gp (Tn (⟨h,S.nf [true] rfl ⟨rfl,trivial⟩⟩))))))))
   | cons y1 ys1 =>
    rw [Ju.eq_2] at h
    refine Fr (Vb S Ex rfl rfl rfl fun a S=>Ld ?_)
    replace S:=S.k5 1 10 11 12 13 rfl
    refine Tn (Fs (wp_cond_true ((S.tm rfl).trans (congrArg Value.bool (Hv hd1 hi1))) (wp_skip (Tn (Fs (wp_block (Fr (Vm S rfl rfl ?_))))))));clear S;intro a S
    obtain ⟨b2,o1,hm1,hr1⟩:=Fd (a:=a) (x:=.tmp 10) (y:=.tmp 12) (ty:=0) Oz hs1 (Iq hd1 hi1) rfl (S.tm rfl) (S.tm rfl)
    refine lv S (hr1 _) rfl ?_;clear S;intro a S
    clear hr1
    refine lv S (Hp isAgg3 (off:=o1) (o:=0) (S.tm rfl) (hm1.at S.emb0) rfl) rfl fun a S=>Va S rfl rfl fun a S=>Va S rfl rfl fun a S=>Dl (Fs (Fr (Vm S rfl rfl fun a S=>Ec S (fun _=>Dv (vs:=[iV y1,iV 0,iV 10000]) ⟨(S.tm rfl),rfl,rfl,trivial⟩ call48) (Fk _ y1 0 10000 _ rfl) rfl ?_)));clear S;intro v1 a w4 hv1 hk2 hn1 S
    subst hv1
    refine Vu S Hh rfl rfl fun a S=>Dl (Fc h (S.tm rfl) (fun hb2 h=>?_) (fun hb2 h=>?_))
    ·refine Fr (Vk S rfl rfl fun a S=>Dl (wp_ret (Dy (Fq (Dy (Dy (Fq ?_)))))))
     refine Dy (Dy ?_)
     obtain rfl:=Option.some.inj h
     exact Eo S results70 rfl rfl
    ·refine wp_skip (Tn (Fr (Vm S rfl rfl fun a S=>Vq S Jh rfl rfl rfl fun a S=>Vm S rfl rfl ?_)));clear S;intro a S
     obtain ⟨j2,hj2,h⟩:=Eu h
     refine Hj 9 (fun a w'=>∃ c1,j2 c1 = some r ∧ Keep [] w4 w' ∧ Sx w [] nov [.blk b1 [u1.val,iV Av.Relay,iV Av.Most] 28] [(1,.pointer (some ⟨b1,0,none⟩)),(10,u1.val),(11,iV (Av.Points.length : Int)),(12,iV (i1 : Int)),(31,bV c1)] 43 a w') ?_ ?_
     ·rcases Bool.eq_false_or_eq_true (decide (0 < (i1 : Int))) with hb3 | hb3
      ·replace h:=Qw h hb3
       refine Ea S rfl rfl rfl hb3 (Vm S rfl rfl fun a S=>Ea S rfl rfl rfl hb3 (Vf Zp S rfl rfl fun a S=>Ea S rfl rfl rfl hb3 (Vl isAgg22 0 S rfl rfl rfl rfl fun a S=>Ea S rfl rfl rfl hb3 (Vm S rfl rfl fun a S=>Ea S rfl rfl rfl hb3 (Vq S Ja rfl rfl rfl fun a S=>Ea S rfl rfl rfl hb3 ?_)))))
       obtain ⟨hc1,h⟩:=Ia h
       obtain ⟨b3,o2,hm2,hr2⟩:=Fd (a:=a) (x:=.tmp 25) (y:=.tmp 27) (ty:=0) Oz hs1 (Ed hc1).1 (Ed hc1).2 (S.tm rfl) (S.tm rfl)
       refine lv S (hr2 _) rfl ?_;clear S;intro a S
       clear hr2
       exact Ea S rfl rfl rfl hb3 (lv S (Hp isAgg3 (off:=o2) (o:=0) (S.tm rfl) (hm2.at S.emb0) rfl) rfl fun a S=>Ea S rfl rfl rfl hb3 (Vb S Jh rfl rfl rfl fun a S=>lv S (Hm hb3 (S.tm rfl) (S.tm rfl)) rfl fun a S=>Dl (⟨_,h,Keep.refl _ _,S.nf [true] rfl (subR rfl)⟩)))
      ·replace h:=Qx h hb3
       iterate 8 (refine Gt S rfl rfl rfl (Jq hb3) rfl ?_ rfl;clear S;intro a S)
       exact Vq S (Hn true hb3) rfl rfl rfl fun a S=>Dl (⟨_,h,Keep.refl _ _,S.nf [true] rfl (subR rfl)⟩)
     clear S h;rintro a w5 ⟨c1,h,hk3,S⟩;rw [hj2] at h;clear hj2 j2
     refine Dl (Fc h (S.tm rfl) (fun hb4 h=>?_) (fun hb4 h=>?_))
     ·refine Fr (Vk S rfl rfl fun a S=>Dl (wp_ret (Fq (Dy (Dy (Fq (Dy ?_)))))))
      refine Dy ?_
      obtain rfl:=Option.some.inj h
      exact Eo S results70 rfl rfl
     ·exact wp_skip (Ho (Tn (Fg (Vq S Gf rfl rfl rfl fun a S=>Vm S rfl rfl fun a S=>Dl (⟨ys1,⟨i1 + 1,⟨_,(hd1).trans (List.append_cons _ _ _),by simp [hi1]⟩,h,S.nf [true] rfl ⟨rfl,rfl,rfl,(congrArg (fun z=>some (Value.int .i64 z)) (Hw hd1 hi1 (Jn hs1))),trivial⟩⟩,Nat.lt_succ_self _⟩)))))
  clear S h;rintro a w3 ⟨h,S⟩;rw [hj1] at h;clear hj1 j1
  refine Tn (Fs (Fr (Vf PG S rfl rfl fun a S=>Vl isAgg3 0 S rfl rfl rfl rfl fun a S=>Ec S (fun _=>Dv (vs:=[iV Av.Relay,iV 1,iV 10]) ⟨(S.tm rfl),rfl,rfl,trivial⟩ call48) (Fk _ Av.Relay 1 10 _ rfl) rfl ?_)));clear S;intro v2 a w6 hv2 hk4 hn2 S
  subst hv2
  refine Vu S Hh rfl rfl fun a S=>Vm S rfl rfl fun a S=>Hj 5 (fun a w'=>Keep [] w6 w' ∧ Sx w [] nov [.blk b1 [u1.val,iV Av.Relay,iV Av.Most] 28] [(42,bV ((!(Dx Av.Relay 1 10)) || (!(Dx Av.Most 0 10))))] 43 a w') ?_ ?_
  ·rcases Bool.eq_false_or_eq_true (!(Dx Av.Relay 1 10)) with hb5 | hb5
   ·iterate 4 (refine Gt S rfl rfl rfl (Mh hb5) rfl ?_ rfl;clear S;intro a S)
    exact lv S (Kh (!(Dx Av.Most 0 10)) hb5 (S.tm rfl) rfl) rfl fun a S=>Dl (⟨Keep.refl _ _,S.nf [true] rfl ⟨rfl,trivial⟩⟩)
   ·refine Ea S rfl rfl rfl hb5 (Vf KP S rfl rfl fun a S=>Ea S rfl rfl rfl hb5 (Vl isAgg3 0 S rfl rfl rfl rfl fun a S=>Ea S rfl rfl rfl hb5 (Ec S (fun _=>Dv (vs:=[iV Av.Most,iV 0,iV 10]) ⟨(S.tm rfl),rfl,rfl,trivial⟩ call48) (Fk _ Av.Most 0 10 _ rfl) rfl ?_)));clear S;intro v3 a w8 hv3 hk5 hn3 S
    subst hv3
    exact Ea S rfl rfl rfl hb5 (Vu S Hh rfl rfl fun a S=>lv S (Ki hb5 (S.tm rfl) (S.tm rfl)) rfl fun a S=>Dl (⟨hk5,S.nf [true] rfl ⟨rfl,trivial⟩⟩))
  clear S;rintro a w7 ⟨hk6,S⟩
  refine Dl (Fc h (S.tm rfl) (fun hb6 h=>?_) (fun hb6 h=>?_))
  ·refine Fr (Vk S rfl rfl fun a S=>Dl (wp_ret (Dy ?_)))
   obtain rfl:=Option.some.inj h
   exact Eo S results70 rfl rfl
  ·refine wp_skip (Tn (Fr (Vk S rfl rfl fun a S=>Dl (wp_ret ?_))))
   obtain rfl:=Option.some.inj h
   exact Eo S results70 rfl rfl
theorem DA (w : World) (Ci : Sk) (r : Int) (h : Qk Ci = r) :
    Calls prog 71 [.agg (Sk.enc Ci).toArray].toArray w (Ret w [] fun _ v _=>v = iV r):=by
 refine Fe func71 rfl ntmps71 rfl fun a S=>?_
 unfold Qk at h
 replace S:=S.k1 0 rfl
 refine Fr (My S (S.tm rfl) (cs:=(Sk.enc Ci)) rfl rfl ?_);clear S;intro a w1 b1 hz1 hk1 S
 refine Vk S rfl rfl fun a S=>Dl (Fs (Fr (Vf fa_30_0 S rfl rfl fun a S=>Vl isAgg3 0 S rfl rfl rfl rfl fun a S=>Ec S (fun _=>Dv (vs:=[iV Ci.Size,iV 1,iV 10]) ⟨(S.tm rfl),rfl,rfl,trivial⟩ call48) (Fk _ Ci.Size 1 10 _ rfl) rfl ?_)));clear S;intro v1 a w2 hv1 hk2 hn1 S
 subst hv1
 refine Vu S Hh rfl rfl fun a S=>Vm S rfl rfl fun a S=>Hj 5 (fun a w'=>Keep [] w2 w' ∧ Sx w [] nov [.blk b1 (Sk.enc Ci) 30] [(1,.pointer (some ⟨b1,0,none⟩)),(12,bV ((!(Dx Ci.Size 1 10)) || (!(Dx Ci.Many 1 5))))] 19 a w') ?_ ?_
 ·rcases Bool.eq_false_or_eq_true (!(Dx Ci.Size 1 10)) with hb1 | hb1
  ·iterate 4 (refine Gt S rfl rfl rfl (Mh hb1) rfl ?_ rfl;clear S;intro a S)
   exact lv S (Kh (!(Dx Ci.Many 1 5)) hb1 (S.tm rfl) rfl) rfl fun a S=>Dl (⟨Keep.refl _ _,S.nf [true] rfl (subR rfl)⟩)
  ·refine Ea S rfl rfl rfl hb1 (Vf fa_30_1 S rfl rfl fun a S=>Ea S rfl rfl rfl hb1 (Vl isAgg3 0 S rfl rfl rfl rfl fun a S=>Ea S rfl rfl rfl hb1 (Ec S (fun _=>Dv (vs:=[iV Ci.Many,iV 1,iV 5]) ⟨(S.tm rfl),rfl,rfl,trivial⟩ call48) (Fk _ Ci.Many 1 5 _ rfl) rfl ?_)));clear S;intro v2 a w4 hv2 hk3 hn2 S
   subst hv2
   exact Ea S rfl rfl rfl hb1 (Vu S Hh rfl rfl fun a S=>lv S (Ki hb1 (S.tm rfl) (S.tm rfl)) rfl fun a S=>Dl (⟨hk3,S.nf [true] rfl (subR rfl)⟩))
 clear S;rintro a w3 ⟨hk4,S⟩
 refine Vm S rfl rfl fun a S=>Hj 5 (fun a w'=>Keep [] w3 w' ∧ Sx w [] nov [.blk b1 (Sk.enc Ci) 30] [(18,bV (((!(Dx Ci.Size 1 10)) || (!(Dx Ci.Many 1 5))) || (!(Dx Ci.Reserves 0 10))))] 19 a w') ?_ ?_
 ·rcases Bool.eq_false_or_eq_true ((!(Dx Ci.Size 1 10)) || (!(Dx Ci.Many 1 5))) with hb2 | hb2
  ·iterate 4 (refine Gt S rfl rfl rfl (Mh hb2) rfl ?_ rfl;clear S;intro a S)
   exact lv S (Kh (!(Dx Ci.Reserves 0 10)) hb2 (S.tm rfl) rfl) rfl fun a S=>Dl (⟨Keep.refl _ _,S.nf [true] rfl ⟨rfl,trivial⟩⟩)
  ·refine Ea S rfl rfl rfl hb2 (Vf fa_30_2 S rfl rfl fun a S=>Ea S rfl rfl rfl hb2 (Vl isAgg3 0 S rfl rfl rfl rfl fun a S=>Ea S rfl rfl rfl hb2 (Ec S (fun _=>Dv (vs:=[iV Ci.Reserves,iV 0,iV 10]) ⟨(S.tm rfl),rfl,rfl,trivial⟩ call48) (Fk _ Ci.Reserves 0 10 _ rfl) rfl ?_)));clear S;intro v3 a w6 hv3 hk5 hn3 S
   subst hv3
   exact Ea S rfl rfl rfl hb2 (Vu S Hh rfl rfl fun a S=>lv S (Ki hb2 (S.tm rfl) (S.tm rfl)) rfl fun a S=>Dl (⟨hk5,S.nf [true] rfl ⟨rfl,trivial⟩⟩))
 clear S;rintro a w5 ⟨hk6,S⟩
 refine Dl (Fc h (S.tm rfl) (fun hb3 h=>?_) (fun hb3 h=>?_))
 ·refine Fr (Vk S rfl rfl fun a S=>Dl (wp_ret (Dy ?_)))
  subst h
  exact Eo S results71 rfl rfl
 ·refine wp_skip (Tn (Fr (Vk S rfl rfl fun a S=>Dl (wp_ret ?_))))
  subst h
  exact Eo S results71 rfl rfl
theorem EC (w : World) (Af : Mp) (Cn : R32) (Cs : Tv (view w []) Af Cn) (r : Int) (h : Sy Af = some r) :
    Calls prog 38 [.agg (R32.enc Cn).toArray].toArray w (Ret w [] fun _ v _=>v = iV r):=by
 obtain ⟨u1,u2,rfl,hs1,⟨u3,rfl,hs2⟩⟩:=Cs
 refine Fe func38 rfl ntmps38 rfl fun a S=>?_
 unfold Sy at h
 replace S:=S.k1 0 rfl
 refine Fr (My S (S.tm rfl) (cs:=[u1.val,u3.val,iV Af.Table.Relay,iV Af.Table.Most,iV Af.Final.Size,iV Af.Final.Many,iV Af.Final.Reserves]) rfl rfl ?_);clear S;intro a w1 b1 hz1 hk1 S
 refine Vk S rfl rfl fun a S=>Dl (Fs (Fr (Vf Yf S rfl rfl fun a S=>Vl isAgg26 0 S rfl rfl rfl rfl fun a S=>lv S (Fz Vi (S.tm rfl) (Fl hs1)) rfl fun a S=>Vq S Jh rfl rfl rfl fun a S=>Ld ?_)))
 refine Tn (Fc h (S.tm rfl) (fun hb1 h=>?_) (fun hb1 h=>?_))
 ·refine Fr (Vk S rfl rfl fun a S=>Dl (wp_ret (Dy ?_)))
  obtain rfl:=Option.some.inj h
  exact Eo S results38 rfl rfl
 ·refine wp_skip (Tn (Fs (Fr (Vf Yf S rfl rfl fun a S=>Vl isAgg26 0 S rfl rfl rfl rfl fun a S=>lv S (Fz Vi (S.tm rfl) (Fl hs1)) rfl fun a S=>lv S (Rm rfl) rfl fun a S=>Dl ?_))))
  replace S:=(S.nl [.blk b1 [u1.val,u3.val,iV Af.Table.Relay,iV Af.Table.Most,iV Af.Final.Size,iV Af.Final.Many,iV Af.Final.Reserves] 32] [true] rfl).k4 1 12 13 14 rfl
  obtain ⟨j1,hj1,h⟩:=Eu h
  refine En (fun a w'=>j1 = some r ∧ Sx w [] nov [.blk b1 [u1.val,u3.val,iV Af.Table.Relay,iV Af.Table.Most,iV Af.Final.Size,iV Af.Final.Many,iV Af.Final.Reserves] 32] [(1,.pointer (some ⟨b1,0,none⟩))] 40 a w') ?_ ?_
  ·refine wp_block (Hb (fun (ys1 : List Eh) a w'=>∃ i1 : Nat,(∃ dn,Af.Races = dn ++ ys1 ∧ dn.length = i1) ∧ Lj Af j1 ys1 i1 = some r ∧ Sx w [] nov [.blk b1 [u1.val,u3.val,iV Af.Table.Relay,iV Af.Table.Most,iV Af.Final.Size,iV Af.Final.Many,iV Af.Final.Reserves] 32] [(1,.pointer (some ⟨b1,0,none⟩)),(12,u1.val),(13,iV (Af.Races.length : Int)),(14,iV (i1 : Int))] 40 a w') List.length Af.Races ⟨0,⟨[],rfl,rfl⟩,h,S.nf [true] rfl (subR rfl)⟩ ?_)
   clear S h;rintro ys1 a w2 ⟨i1,⟨dn,hd1,hi1⟩,h,S⟩
   cases ys1 with
   | nil =>
    rw [Lj.eq_1] at h
    refine Fr (Vb S Ex rfl rfl rfl fun a S=>Ld ?_)
    replace S:=S.k5 1 12 13 14 15 rfl
    exact Tn (Fs (wp_cond_false ((S.tm rfl).trans (congrArg Value.bool (Io hd1 hi1))) (wp_exit (Ei (Ei (Gp (Tn (⟨h,S.nf [true] rfl ⟨rfl,trivial⟩⟩))))))))
   | cons y1 ys1 =>
    rw [Lj.eq_2] at h
    refine Fr (Vb S Ex rfl rfl rfl fun a S=>Ld ?_)
    replace S:=S.k5 1 12 13 14 15 rfl
    refine Tn (Fs (wp_cond_true ((S.tm rfl).trans (congrArg Value.bool (Hv hd1 hi1))) (wp_skip (Tn (Fs (wp_block (Fr (Vm S rfl rfl ?_))))))));clear S;intro a S
    obtain ⟨b2,o1,hm1,hr1⟩:=Fd (a:=a) (x:=.tmp 12) (y:=.tmp 14) (ty:=0) Vi hs1 (Iq hd1 hi1) rfl (S.tm rfl) (S.tm rfl)
    refine lv S (hr1 _) rfl ?_;clear S;intro a S
    clear hr1
    refine lv S (Fx isAgg51 sizeOf51 (off:=o1) (o:=0) (part:=(Eh.enc y1)) rfl rfl (S.tm rfl) (hm1.at S.emb0)) rfl fun a S=>Hz S zeroValue51 (cs:=[sV An,iV 0,iV 0,iV 0,iV 0,iV 0,iV 0,iV 0]) rfl rfl ?_;clear S;intro a w4 b3 hz2 hk2 S
    refine Va S rfl rfl fun a S=>Fh S (S.tm rfl) (S.tm rfl) (i:=0) (off:=0) rfl sizeOf51 (vs:=(Eh.enc y1)) rfl rfl rfl rfl ?_;clear S;intro w5 hk3 S
    refine Dl (Fs (Fr (lv S (Fx isAgg51 sizeOf51 (off:=0) (o:=0) (part:=(Eh.enc y1)) rfl rfl (S.tm rfl) (S.cellsAt (i:=0) rfl)) rfl ?_)));clear S;intro a S
    obtain ⟨r1,hr2,h⟩:=Fb h
    refine Ec S (fun _=>Dv (vs:=[.agg (Eh.enc y1).toArray]) ⟨(S.tm rfl),trivial⟩ call67) (CF _ y1 _ hr2) rfl ?_;clear S;intro v1 a w6 hv1 hk4 hn1 S
    subst hv1
    refine Va S rfl rfl fun a S=>Dz (Vm S rfl rfl fun a S=>Vq S Ky rfl rfl rfl fun a S=>Ld ?_)
    replace S:=(S.nl [.blk b3 (Eh.enc y1) 51,.blk b1 [u1.val,u3.val,iV Af.Table.Relay,iV Af.Table.Most,iV Af.Final.Size,iV Af.Final.Many,iV Af.Final.Reserves] 32] [true,true] rfl).k8 1 3 4 5 12 13 14 22 rfl
    refine Tn (Fc h (S.tm rfl) (fun hb2 h=>?_) (fun hb2 h=>?_))
    ·refine Fr (Vm S rfl rfl fun a S=>Va S rfl rfl fun a S=>Dl (wp_ret (Dy (Fq (Dy (Dy ?_))))))
     refine Fq (Dy (Dy ?_))
     obtain rfl:=Option.some.inj h
     exact Eo S results38 rfl rfl
    ·refine wp_skip (Tn (Fr (Vf Yf S rfl rfl fun a S=>Vl isAgg26 1 S rfl rfl rfl rfl fun a S=>Vm S rfl rfl ?_)));clear S;intro a S
     obtain ⟨hc1,h⟩:=Ia h
     obtain ⟨v2,hs3,hr3⟩:=LS (a:=a) (x:=.tmp 25) (y':=.tmp 26) (ty:=26) Vi hs1 (S.tm rfl) (S.tm rfl) hc1
     refine lv S (hr3 _) rfl ?_;clear S;intro a S
     clear hr3
     refine lv S (Um (us:=#[]) (xs:=[].toArray) (ys:=[.tmp 4].toArray) (by simp) (evA ⟨(S.tm rfl),trivial⟩ (vs:=[.pointer (some ⟨b3,0,none⟩)]))) rfl fun a S=>Ec S (fun _=>Dv (vs:=[v2,.func (.func 69) #[] #[.pointer (some ⟨b3,0,none⟩)]]) ⟨(S.tm rfl),(S.tm rfl),trivial⟩ call68) (Re _ v2 (cut Af.Races 0 (i1 : Int)) (hs3.mono (S.le_arg Ej)) b3 y1 (S.blk_view (i:=0) rfl ((Hr (e':=.blk b3 (Eh.enc y1) 51)) _ rfl)) _ rfl) rfl ?_;clear S;intro v3 a w7 hv2 hk5 hn2 S
     subst hv2
     refine Dl (Fc h (S.tm rfl) (fun hb3 h=>?_) (fun hb3 h=>?_))
     ·refine Fr (Vk S rfl rfl fun a S=>Ld ?_)
      replace S:=S.n0.k1 2 rfl
      refine Tn (wp_ret (Fq (Dy (Dy (Fq (Dy (Dy ?_)))))))
      obtain rfl:=Option.some.inj h
      exact Eo S results38 rfl rfl
     ·refine wp_skip (Ho (Tn (Fg (Vq S Gf rfl rfl rfl fun a S=>Vm S rfl rfl fun a S=>Ld ?_))))
      replace S:=S.d0.k4 1 12 13 14 rfl
      exact Tn (⟨ys1,⟨i1 + 1,⟨_,(hd1).trans (List.append_cons _ _ _),by simp [hi1]⟩,h,S.nf [true] rfl ⟨rfl,rfl,rfl,(congrArg (fun z=>some (Value.int .i64 z)) (Hw hd1 hi1 (Jn hs1))),trivial⟩⟩,Nat.lt_succ_self _⟩)
  clear S h;rintro a w3 ⟨h,S⟩;rw [hj1] at h;clear hj1 j1
  refine Tn (Fs (Fr (Vf PH S rfl rfl fun a S=>lv S (Fx isAgg28 sizeOf28 (off:=0) (o:=1) (part:=[u3.val,iV Af.Table.Relay,iV Af.Table.Most]) rfl rfl (S.tm rfl) (S.cellsAt (i:=0) rfl)) rfl ?_)));clear S;intro a S
  obtain ⟨r2,hr4,h⟩:=Fb h
  refine Ec S (fun _=>Dv (vs:=[.agg (R28.enc (R28.mk u3 Af.Table.Relay Af.Table.Most)).toArray]) ⟨(S.tm rfl),trivial⟩ call70) (Wo _ Af.Table (R28.mk u3 Af.Table.Relay Af.Table.Most) ⟨u3,rfl,(hs2.mono (S.le_arg Ej))⟩ _ hr4) rfl ?_;clear S;intro v4 a w8 hv3 hk6 hn3 S
  subst hv3
  refine Va S rfl rfl fun a S=>Dz (Vm S rfl rfl fun a S=>Vq S Ky rfl rfl rfl fun a S=>Dl (Fc h (S.tm rfl) (fun hb4 h=>?_) (fun hb4 h=>?_)))
  ·refine Fr (Vm S rfl rfl fun a S=>Va S rfl rfl fun a S=>Dl (wp_ret (Dy ?_)))
   obtain rfl:=Option.some.inj h
   exact Eo S results38 rfl rfl
  ·refine wp_skip (Tn (Fr (Vf fa_32_2 S rfl rfl fun a S=>lv S (Fx isAgg30 sizeOf30 (off:=0) (o:=4) (part:=(Sk.enc Af.Final)) rfl rfl (S.tm rfl) (S.cellsAt (i:=0) rfl)) rfl fun a S=>Ec S (fun _=>Dv (vs:=[.agg (Sk.enc Af.Final).toArray]) ⟨(S.tm rfl),trivial⟩ call71) (DA _ Af.Final _ rfl) rfl ?_)));clear S;intro v5 a w9 hv4 hk7 hn4 S
   subst hv4
   refine Va S rfl rfl fun a S=>Dl (wp_ret ?_)
   obtain rfl:=Option.some.inj h
   exact Eo S results38 rfl rfl
theorem Ss (w : World) (Az : Int) (r : Bool) (h : Ik Az = r) :
    Calls prog 40 [iV Az].toArray w (Ret w [] fun _ v _=>v = bV r):=by
 refine Fe func40 rfl ntmps40 rfl fun a S=>?_
 unfold Ik at h
 replace S:=S.k1 0 rfl
 refine Fr (Vk S rfl rfl fun a S=>Dz (Vm S rfl rfl fun a S=>Vq S Qd rfl rfl rfl fun a S=>Vm S rfl rfl fun a S=>Hj 3 (fun a w'=>Keep [] w w' ∧ Sx w [] nov [] [(8,bV ((decide (0 ≤ Az)) && (decide (Az < 345686400000))))] 9 a w') ?_ ?_))
 ·rcases Bool.eq_false_or_eq_true (decide (0 ≤ Az)) with hb1 | hb1
  ·exact Ea S rfl rfl rfl hb1 (Vm S rfl rfl fun a S=>Ea S rfl rfl rfl hb1 (Vq S Ex rfl rfl rfl fun a S=>lv S (Hm hb1 (S.tm rfl) (S.tm rfl)) rfl fun a S=>Dl (⟨Keep.refl _ _,S.nf [] rfl ⟨rfl,trivial⟩⟩)))
  ·exact Gt S rfl rfl rfl (Jq hb1) rfl (fun a S=>Gt S rfl rfl rfl (Jq hb1) rfl (fun a S=>lv S (Hn (decide (Az < 345686400000)) hb1 (S.tm rfl) rfl) rfl fun a S=>Dl (⟨Keep.refl _ _,S.nf [] rfl ⟨rfl,trivial⟩⟩)) rfl) rfl
 clear S;rintro a w1 ⟨hk1,S⟩
 refine Va S rfl rfl fun a S=>Dl (wp_ret ?_)
 subst h
 exact Eo S results40 rfl rfl
end Go.Proofs.YtjlcjcabljbolaaGreatDoor
