/- Each Go function computes its plain twin,by program. -/
import Derived.Test.YtdndpbbimcilpaaGreatDoorTab
import Derived.Test.YtdndpbbimcilpaaGreatDoorLay
import Derived.Test.YtdndpbbimcilpaaGreatDoorSeq
namespace Go.Proofs.YtdndpbbimcilpaaGreatDoor
open Go
open Go.Proofs.Tryz
theorem Rx (w : World) (Ab : Int) (Av : Int) (r : Int) (h : My Ab Av = some r) :
    Calls prog 43 [iV Ab,iV Av].toArray w (Ret w [] fun _ v _=>v = iV r):=by
 refine Fe func43 rfl ntmps43 rfl fun a S=>?_
 unfold My at h
 replace S:=S.k2 0 1 rfl
 refine Fr (Vk S rfl rfl fun a S=>Dl (Fs (Fr (Vm S rfl rfl fun a S=>Vq S Ev rfl rfl rfl fun a S=>Ld ?_))))
 refine Tn (Fc h (S.tm rfl) (fun hb1 h=>?_) (fun hb1 h=>?_))
 ·refine Fr (Vk S rfl rfl fun a S=>Dl (wp_ret (Db ?_)))
  obtain rfl:=Option.some.inj h
  exact Ds S results43 rfl rfl
 ·refine wp_skip (Tn (Fr (Vm S rfl rfl fun a S=>Vm S rfl rfl ?_)));clear S;intro a S
  obtain ⟨hc1,h⟩:=Gu h
  refine lv S (Yu (S.tm rfl) (S.tm rfl) (Un hc1)) rfl fun a S=>Va S rfl rfl fun a S=>Dl (Fs (Fr (Vm S rfl rfl fun a S=>Vq S Ev rfl rfl rfl fun a S=>Dl ?_)))
  obtain ⟨j1,hj1,h⟩:=Eo h
  refine Dy (fun a w'=>∃ x1 : Int,j1 x1 = some r ∧ Sx w [] nov [] [(0,iV x1)] 16 a w') ?_ ?_
  ·refine Fc h (S.tm rfl) (fun hb2 h=>?_) (fun hb2 h=>?_)
   ·exact Fg (Vm S rfl rfl fun a S=>Vm S rfl rfl fun a S=>Vb S Fa rfl rfl rfl fun a S=>Va S rfl rfl fun a S=>Dl (⟨W ((Int.tmod Ab Av) + Av),h,S.nf [] rfl ⟨rfl,trivial⟩⟩))
   ·exact wp_skip (Tn (⟨Int.tmod Ab Av,h,S.nf [] rfl ⟨rfl,trivial⟩⟩))
  clear S h;rintro a w1 ⟨x1,h,S⟩;rw [hj1] at h;clear hj1 j1
  refine Tn (Fr (Vm S rfl rfl fun a S=>Va S rfl rfl fun a S=>Dl (wp_ret ?_)))
  obtain rfl:=Option.some.inj h
  exact Ds S results43 rfl rfl
set_option maxRecDepth 20000 in
theorem Pv (w : World) (O : Nat) (V : Value) (Ak : List Int) (Ai : Slc (view w [O]) 1 V (Ak.map eInt)) (Ag : Int) (Ar : (LEnt.blk O [V,iV Ag] 25).holds w) (Av : Int) (r : Int × Int) (h : Mo Ak Ag Av = some r) :
    Calls prog 18 [.pointer (some ⟨O,0,none⟩),iV Av].toArray w (Ret w [O] fun _ v w'=>(LEnt.blk O [V,iV r.2] 25).holds w' ∧ v = iV r.1):=by
 refine Iy [O] [.blk O [V,iV Ag] 25] func18 rfl ntmps18 rfl (fun e he=>by simp only [List.mem_singleton] at he;subst he;exact Ar) (by simp [fps,LEnt.fp]) (by simp [fps,LEnt.fp]) fun a S=>?_
 unfold Mo at h
 replace S:=(S.nl [.blk O [V,iV Ag] 25] [true] rfl).k2 0 1 rfl
 refine Fr (Vk S rfl rfl fun a S=>Dz (Vm S rfl rfl fun a S=>Vu S Kj rfl rfl fun a S=>Vf Zu S rfl rfl fun a S=>Vl isAgg3 0 S rfl rfl rfl rfl ?_));clear S;intro a S
 refine Vq S Fa rfl rfl rfl fun a S=>Vu S Kj rfl rfl fun a S=>Vf Zu S rfl rfl fun a S=>Ep S (S.tm rfl) (S.tm rfl) (i:=0) (off:=1) rfl sizeOf3 (vs:=[iV (W (Ag + 1))]) rfl rfl rfl rfl ?_;clear S;intro w1 hk1 S
 refine Dl (Fs (Fr (Vm S rfl rfl fun a S=>Vu S Kj rfl rfl fun a S=>Vf BT S rfl rfl fun a S=>Vl isAgg22 0 S rfl rfl rfl rfl fun a S=>lv S (Fi Jr (S.tm rfl) (Fm Ai)) rfl fun a S=>Vq S Hj rfl rfl rfl ?_)));clear S;intro a S
 refine Ld ?_
 replace S:=(S.nl [.blk O [V,iV (W (Ag + 1))] 25] [true] rfl).k3 0 1 19 rfl
 refine Tn (Fc h (S.tm rfl) (fun hb1 h=>?_) (fun hb1 h=>?_))
 ·refine Fr (Vm S rfl rfl fun a S=>Vu S Kj rfl rfl fun a S=>Vf Zu S rfl rfl fun a S=>Vl isAgg3 0 S rfl rfl rfl rfl fun a S=>Vq S Wo rfl rfl rfl fun a S=>Vm S rfl rfl ?_);clear S;intro a S
  obtain ⟨r1,hr1,h⟩:=Ej h
  refine Dd S (fun _=>Cz (vs:=[iV (W ((W (Ag + 1)) * 7919)),iV Av]) ⟨(S.tm rfl),(S.tm rfl),trivial⟩ call43) (Rx _ (W ((W (Ag + 1)) * 7919)) Av _ hr1) rfl ?_;clear S;intro v1 a w2 hv1 hk2 hn1 S
  subst hv1
  refine Va S rfl rfl fun a S=>Dl (wp_ret (Db ?_))
  obtain rfl:=Option.some.inj h
  exact Ds S results18 rfl ⟨(S.holds _ (List.mem_of_getElem? (i:=0) rfl)),rfl⟩
 ·refine wp_skip (Tn (Fs (Fo [] ([]) Tryz.mixed S rfl (by kernel_rfl) ?_)));clear S;intro w3 hk3 hsel S
  refine Js [0,1,2,3,4,5,6,7,8,9,10,11] hsel (by kernel_rfl) rfl ?_
  clear hsel
  refine Fj S rfl (Rm (S.tm rfl)) rfl fun a S=>Fj S rfl (Kj (S.tm rfl)) rfl fun a S=>Fj S rfl (Fp Zu (S.tm rfl)) rfl fun a S=>Fj S rfl (Lm isAgg3 (S.tm rfl) (S.cell (i:=0) rfl rfl)) rfl fun a S=>Fj S rfl (Gp (S.tm rfl) rfl) rfl fun a S=>Fj S rfl (Rm (S.tm rfl)) rfl fun a S=>Fj S rfl (Kj (S.tm rfl)) rfl fun a S=>Fj S rfl (Fp BT (S.tm rfl)) rfl fun a S=>Fj S rfl (Lm isAgg22 (S.tm rfl) (S.cell (i:=0) rfl rfl)) rfl fun a S=>Fj S rfl (Fi Jr (S.tm rfl) (Fm Ai)) rfl ?_;clear S;intro a S
  obtain ⟨hc1,h⟩:=Gu h
  refine Fj S rfl (Yu (S.tm rfl) (S.tm rfl) (Un hc1)) rfl fun a S=>Fj S rfl (Ra (S.tm rfl)) rfl fun a S=>Jc ?_
  replace S:=S.k3 0 1 5 rfl
  refine Tn (Fs (Fo [] ([]) Tryz.mixed S rfl (by kernel_rfl) ?_));clear S;intro w4 hk4 hsel S
  refine Js [0,1,2,3,4,5,6,7,8,9,10,11] hsel (by kernel_rfl) rfl ?_
  clear hsel
  refine Fj S rfl (Rm (S.tm rfl)) rfl fun a S=>Fj S rfl (Kj (S.tm rfl)) rfl fun a S=>Fj S rfl (Fp Zu (S.tm rfl)) rfl fun a S=>Fj S rfl (Lm isAgg3 (S.tm rfl) (S.cell (i:=0) rfl rfl)) rfl fun a S=>Fj S rfl (Gp (S.tm rfl) rfl) rfl fun a S=>Fj S rfl (Rm (S.tm rfl)) rfl fun a S=>Fj S rfl (Kj (S.tm rfl)) rfl fun a S=>Fj S rfl (Fp BT (S.tm rfl)) rfl fun a S=>Fj S rfl (Lm isAgg22 (S.tm rfl) (S.cell (i:=0) rfl rfl)) rfl fun a S=>Fj S rfl (Fi Jr (S.tm rfl) (Fm Ai)) rfl ?_;clear S;intro a S
  obtain ⟨hc2,h⟩:=Gu h
  refine Fj S rfl (HK (S.tm rfl) (S.tm rfl) (Un hc2)) rfl fun a S=>Fj S rfl (Ra (S.tm rfl)) rfl fun a S=>Jc ?_
  replace S:=S.k4 0 1 5 6 rfl
  refine Tn (Fr (Vm S rfl rfl fun a S=>Vu S Kj rfl rfl fun a S=>Vf BT S rfl rfl fun a S=>Vl isAgg22 0 S rfl rfl rfl rfl fun a S=>Vm S rfl rfl ?_));clear S;intro a S
  obtain ⟨hc3,h⟩:=Gu h
  obtain ⟨b1,o1,hm1,hr2⟩:=Fu (a:=a) (x:=.tmp 52) (y:=.tmp 53) (ty:=0) Jr Ai (Dc hc3).1 (Dc hc3).2 (S.tm rfl) (S.tm rfl)
  refine lv S (hr2 _) rfl ?_;clear S;intro a S
  clear hr2
  refine lv S (Gj isAgg3 (off:=o1) (o:=0) (S.tm rfl) (hm1.at S.emb0) rfl) rfl ?_;clear S;intro a S
  obtain ⟨r2,hr3,h⟩:=Ej h
  refine Dd S (fun _=>Cz (vs:=[iV (nth Ak (Int.tmod (W ((W (Ag + 1)) - 1)) (Ak.length : Int))),iV 1073741824]) ⟨(S.tm rfl),rfl,trivial⟩ call43) (Rx _ (nth Ak (Int.tmod (W ((W (Ag + 1)) - 1)) (Ak.length : Int))) 1073741824 _ hr3) rfl ?_;clear S;intro v2 a w5 hv2 hk5 hn2 S
  subst hv2
  refine Vm S rfl rfl fun a S=>Vm S rfl rfl fun a S=>Vu S (Fa rfl) rfl rfl fun a S=>Vb S Wo rfl rfl rfl fun a S=>Vb S Fa rfl rfl rfl fun a S=>Vm S rfl rfl ?_;clear S;intro a S
  obtain ⟨r3,hr4,h⟩:=Ej h
  refine Dd S (fun _=>Cz (vs:=[iV (W (r2 + (W ((W (Int.tdiv (W ((W (Ag + 1)) - 1)) (Ak.length : Int))) * (W (7919 + (Int.tmod (W ((W (Ag + 1)) - 1)) (Ak.length : Int)))))))),iV Av]) ⟨(S.tm rfl),(S.tm rfl),trivial⟩ call43) (Rx _ (W (r2 + (W ((W (Int.tdiv (W ((W (Ag + 1)) - 1)) (Ak.length : Int))) * (W (7919 + (Int.tmod (W ((W (Ag + 1)) - 1)) (Ak.length : Int)))))))) Av _ hr4) rfl ?_;clear S;intro v3 a w6 hv3 hk6 hn3 S
  subst hv3
  refine Va S rfl rfl fun a S=>Ld ?_
  replace S:=S.k1 4 rfl
  refine Tn (wp_ret ?_)
  obtain rfl:=Option.some.inj h
  exact Ds S results18 rfl ⟨(S.holds _ (List.mem_of_getElem? (i:=0) rfl)),rfl⟩
theorem Tx (w : World) (O : Nat) (V : Value) (Ak : List Int) (Ai : Slc (view w [O]) 1 V (Ak.map eInt)) (Ag : Int) (Ar : (LEnt.blk O [V,iV Ag] 25).holds w) (Av : Int) (r : Bool × Int) (h : Ot Ak Ag Av = some r) :
    Calls prog 32 [.pointer (some ⟨O,0,none⟩),iV Av].toArray w (Ret w [O] fun _ v w'=>(LEnt.blk O [V,iV r.2] 25).holds w' ∧ v = bV r.1):=by
 refine Iy [O] [.blk O [V,iV Ag] 25] func32 rfl ntmps32 rfl (fun e he=>by simp only [List.mem_singleton] at he;subst he;exact Ar) (by simp [fps,LEnt.fp]) (by simp [fps,LEnt.fp]) fun a S=>?_
 unfold Ot at h
 replace S:=(S.nl [.blk O [V,iV Ag] 25] [true] rfl).k2 0 1 rfl
 refine Fr (Vk S rfl rfl fun a S=>Dz (Vm S rfl rfl fun a S=>Vm S rfl rfl ?_));clear S;intro a S
 obtain ⟨r1,hr1,h⟩:=Ej h
 refine Ft 0 S (b:=O) rfl rfl (fun _=>.blk O [V,iV r1.2] 25) (fun _=>Cz (vs:=[.pointer (some ⟨O,0,none⟩),iV Av]) ⟨(S.tm rfl),(S.tm rfl),trivial⟩ call18) (Pv _ O V Ak (Ai.mono (S.le_arg (Hd (i:=0) (e:=.blk O [V,iV Ag] 25) rfl))) Ag (S.holds _ (List.mem_of_getElem? (i:=0) rfl)) Av _ hr1) rfl (fun _ _ _ h=>⟨h.1,fun _ hc=>by cases hc;rfl⟩) ?_;clear S;intro v1 a w1 hv1 hk1 hn1 S
 replace hv1:=hv1.2
 subst hv1
 refine Vq S Hj rfl rfl rfl fun a S=>Va S rfl rfl fun a S=>Dl (wp_ret ?_)
 obtain rfl:=Option.some.inj h
 exact Ds S results32 rfl ⟨(S.holds _ (List.mem_of_getElem? (i:=0) rfl)),rfl⟩
theorem Hh (w : World) (O : Nat) (V : Value) (Ak : List Int) (Ai : Slc (view w [O]) 1 V (Ak.map eInt)) (Ag : Int) (Ar : (LEnt.blk O [V,iV Ag] 25).holds w) (Ac : Value) (Ae : List Int) (Ah : Slc (view w [O]) 1 Ac (Ae.map eInt)) (r : Int × Int) (h : Hq Ak Ag Ae = some r) :
    Calls prog 34 [.pointer (some ⟨O,0,none⟩),Ac].toArray w (Ret w [O] fun _ v w'=>(LEnt.blk O [V,iV r.2] 25).holds w' ∧ v = iV r.1):=by
 refine Iy [O] [.blk O [V,iV Ag] 25] func34 rfl ntmps34 rfl (fun e he=>by simp only [List.mem_singleton] at he;subst he;exact Ar) (by simp [fps,LEnt.fp]) (by simp [fps,LEnt.fp]) fun a S=>?_
 unfold Hq at h
 replace S:=(S.nl [.blk O [V,iV Ag] 25] [true] rfl).k2 0 1 rfl
 refine Fr (Vk S rfl rfl fun a S=>Dl (Fs (Fg ?_)))
 iterate 3 (refine Vm S rfl rfl ?_;clear S;intro a S)
 refine lv S (Fi Jr (S.tm rfl) (Fm Ah)) rfl ?_;clear S;intro a S
 obtain ⟨r1,hr1,h⟩:=Ej h
 refine Ft 0 S (b:=O) rfl rfl (fun _=>.blk O [V,iV r1.2] 25) (fun _=>Cz (vs:=[.pointer (some ⟨O,0,none⟩),iV (Ae.length : Int)]) ⟨(S.tm rfl),(S.tm rfl),trivial⟩ call18) (Pv _ O V Ak (Ai.mono (S.le_arg (Hd (i:=0) (e:=.blk O [V,iV Ag] 25) rfl))) Ag (S.holds _ (List.mem_of_getElem? (i:=0) rfl)) (Ae.length : Int) _ hr1) rfl (fun _ _ _ h=>⟨h.1,fun _ hc=>by cases hc;rfl⟩) ?_;clear S;intro v1 a w1 hv1 hk1 hn1 S
 replace hv1:=hv1.2
 subst hv1
 obtain ⟨hc1,h⟩:=Gu h
 obtain ⟨b1,o1,hm1,hr2⟩:=Fu (a:=a) (x:=.tmp 5) (y:=.tmp 9) (ty:=0) Jr Ah (Dc hc1).1 (Dc hc1).2 (S.tm rfl) (S.tm rfl)
 refine lv S (hr2 _) rfl ?_;clear S;intro a S
 clear hr2
 refine lv S (Gj isAgg3 (off:=o1) (o:=0) (S.tm rfl) (hm1.at S.emb0) rfl) rfl fun a S=>Va S rfl rfl fun a S=>Dl (wp_ret ?_)
 obtain rfl:=Option.some.inj h
 exact Ds S results34 rfl ⟨(S.holds _ (List.mem_of_getElem? (i:=0) rfl)),rfl⟩
theorem Yz (w : World) (O : Nat) (V : Value) (Ak : List Int) (Ai : Slc (view w [O]) 1 V (Ak.map eInt)) (Ag : Int) (Ar : (LEnt.blk O [V,iV Ag] 25).holds w) (Bj : ByteArray) (r : Dg × Int) (h : Pb Ak Ag Bj = some r) :
    Calls prog 33 [.pointer (some ⟨O,0,none⟩),sV Bj].toArray w (Ret w [O] fun _ v w'=>(LEnt.blk O [V,iV r.2] 25).holds w' ∧ v = .agg (Dg.enc r.1).toArray):=by
 refine Iy [O] [.blk O [V,iV Ag] 25] func33 rfl ntmps33 rfl (fun e he=>by simp only [List.mem_singleton] at he;subst he;exact Ar) (by simp [fps,LEnt.fp]) (by simp [fps,LEnt.fp]) fun a S=>?_
 unfold Pb at h
 replace S:=(S.nl [.blk O [V,iV Ag] 25] [true] rfl).k2 0 1 rfl
 refine Fr (Ic S zeroValue40 (cs:=[sV Cx,iV 0,iV 0,iV 0,iV 0,iV 0,iV 0,iV 0]) rfl rfl ?_);clear S;intro a w1 b1 hz1 hk1 S
 refine Dz (Vm S rfl rfl fun a S=>Vm S rfl rfl fun a S=>Dv S underlying22 sizeOf3 zeroValue3 rfl rfl (pv:=[(0,iV 50),(1,iV 100),(2,iV 200)]) ⟨rfl,rfl,rfl,rfl,rfl,rfl,trivial⟩ (cs:=[iV 50,iV 100,iV 200]) (by kernel_rfl) rfl ?_);clear S;intro a w2 b2 hz2 hk2 S
 obtain ⟨r1,hr1,h⟩:=Ej h
 refine Ft 2 S (b:=O) rfl rfl (fun _=>.blk O [V,iV r1.2] 25) (fun _=>Cz (vs:=[.pointer (some ⟨O,0,none⟩),.slice (some ⟨b2,0,none⟩) 3 3]) ⟨(S.tm rfl),(S.tm rfl),trivial⟩ call34) (Hh _ O V Ak (Ai.mono (S.le_arg (Hd (i:=2) (e:=.blk O [V,iV Ag] 25) rfl))) Ag (S.holds _ (List.mem_of_getElem? (i:=2) rfl)) (.slice (some ⟨b2,0,none⟩) 3 3) [50,100,200] (Ib Fd S (i:=0) rfl rfl rfl rfl ((Jl (i:=2) (j:=0) (e:=.blk O [V,iV Ag] 25) (e':=.blk b2 [iV 50,iV 100,iV 200] 3) S rfl rfl rfl) _ rfl)) _ hr1) rfl (fun _ _ _ h=>⟨h.1,fun _ hc=>by cases hc;rfl⟩) ?_;clear S;intro v1 a w3 hv1 hk3 hn1 S
 replace hv1:=hv1.2
 subst hv1
 refine Vm S rfl rfl fun a S=>Dv S underlying22 sizeOf3 zeroValue3 rfl rfl (pv:=[(0,iV 1),(1,iV 2),(2,iV 3),(3,iV 4)]) ⟨rfl,rfl,rfl,rfl,rfl,rfl,rfl,rfl,trivial⟩ (cs:=[iV 1,iV 2,iV 3,iV 4]) (by kernel_rfl) rfl ?_;clear S;intro a w4 b3 hz3 hk4 S
 obtain ⟨r2,hr2,h⟩:=Ej h
 refine Ft 3 S (b:=O) rfl rfl (fun _=>.blk O [V,iV r2.2] 25) (fun _=>Cz (vs:=[.pointer (some ⟨O,0,none⟩),.slice (some ⟨b3,0,none⟩) 4 4]) ⟨(S.tm rfl),(S.tm rfl),trivial⟩ call34) (Hh _ O V Ak (Ai.mono (S.le_arg (Hd (i:=3) (e:=.blk O [V,iV r1.2] 25) rfl))) r1.2 (S.holds _ (List.mem_of_getElem? (i:=3) rfl)) (.slice (some ⟨b3,0,none⟩) 4 4) [1,2,3,4] (Ib Fd S (i:=0) rfl rfl rfl rfl ((Jl (i:=3) (j:=0) (e:=.blk O [V,iV r1.2] 25) (e':=.blk b3 [iV 1,iV 2,iV 3,iV 4] 3) S rfl rfl rfl) _ rfl)) _ hr2) rfl (fun _ _ _ h=>⟨h.1,fun _ hc=>by cases hc;rfl⟩) ?_;clear S;intro v2 a w5 hv2 hk5 hn2 S
 replace hv2:=hv2.2
 subst hv2
 refine Vm S rfl rfl fun a S=>Dv S underlying22 sizeOf3 zeroValue3 rfl rfl (pv:=[(0,iV 25),(1,iV 50)]) ⟨rfl,rfl,rfl,rfl,trivial⟩ (cs:=[iV 25,iV 50]) (by kernel_rfl) rfl ?_;clear S;intro a w6 b4 hz4 hk6 S
 obtain ⟨r3,hr3,h⟩:=Ej h
 refine Ft 4 S (b:=O) rfl rfl (fun _=>.blk O [V,iV r3.2] 25) (fun _=>Cz (vs:=[.pointer (some ⟨O,0,none⟩),.slice (some ⟨b4,0,none⟩) 2 2]) ⟨(S.tm rfl),(S.tm rfl),trivial⟩ call34) (Hh _ O V Ak (Ai.mono (S.le_arg (Hd (i:=4) (e:=.blk O [V,iV r2.2] 25) rfl))) r2.2 (S.holds _ (List.mem_of_getElem? (i:=4) rfl)) (.slice (some ⟨b4,0,none⟩) 2 2) [25,50] (Ib Fd S (i:=0) rfl rfl rfl rfl ((Jl (i:=4) (j:=0) (e:=.blk O [V,iV r2.2] 25) (e':=.blk b4 [iV 25,iV 50] 3) S rfl rfl rfl) _ rfl)) _ hr3) rfl (fun _ _ _ h=>⟨h.1,fun _ hc=>by cases hc;rfl⟩) ?_;clear S;intro v3 a w7 hv3 hk7 hn3 S
 replace hv3:=hv3.2
 subst hv3
 refine Vm S rfl rfl fun a S=>Dv S underlying22 sizeOf3 zeroValue3 rfl rfl (pv:=[(0,iV 1),(1,iV 1),(2,iV 1),(3,iV 4)]) ⟨rfl,rfl,rfl,rfl,rfl,rfl,rfl,rfl,trivial⟩ (cs:=[iV 1,iV 1,iV 1,iV 4]) (by kernel_rfl) rfl ?_;clear S;intro a w8 b5 hz5 hk8 S
 obtain ⟨r4,hr4,h⟩:=Ej h
 refine Ft 5 S (b:=O) rfl rfl (fun _=>.blk O [V,iV r4.2] 25) (fun _=>Cz (vs:=[.pointer (some ⟨O,0,none⟩),.slice (some ⟨b5,0,none⟩) 4 4]) ⟨(S.tm rfl),(S.tm rfl),trivial⟩ call34) (Hh _ O V Ak (Ai.mono (S.le_arg (Hd (i:=5) (e:=.blk O [V,iV r3.2] 25) rfl))) r3.2 (S.holds _ (List.mem_of_getElem? (i:=5) rfl)) (.slice (some ⟨b5,0,none⟩) 4 4) [1,1,1,4] (Ib Fd S (i:=0) rfl rfl rfl rfl ((Jl (i:=5) (j:=0) (e:=.blk O [V,iV r3.2] 25) (e':=.blk b5 [iV 1,iV 1,iV 1,iV 4] 3) S rfl rfl rfl) _ rfl)) _ hr4) rfl (fun _ _ _ h=>⟨h.1,fun _ hc=>by cases hc;rfl⟩) ?_;clear S;intro v4 a w9 hv4 hk9 hn4 S
 replace hv4:=hv4.2
 subst hv4
 refine Vm S rfl rfl fun a S=>Dv S underlying22 sizeOf3 zeroValue3 rfl rfl (pv:=[(0,iV 0),(1,iV 1),(2,iV 2)]) ⟨rfl,rfl,rfl,rfl,rfl,rfl,trivial⟩ (cs:=[iV 0,iV 1,iV 2]) (by kernel_rfl) rfl ?_;clear S;intro a w10 b6 hz6 hk10 S
 obtain ⟨r5,hr5,h⟩:=Ej h
 refine Ft 6 S (b:=O) rfl rfl (fun _=>.blk O [V,iV r5.2] 25) (fun _=>Cz (vs:=[.pointer (some ⟨O,0,none⟩),.slice (some ⟨b6,0,none⟩) 3 3]) ⟨(S.tm rfl),(S.tm rfl),trivial⟩ call34) (Hh _ O V Ak (Ai.mono (S.le_arg (Hd (i:=6) (e:=.blk O [V,iV r4.2] 25) rfl))) r4.2 (S.holds _ (List.mem_of_getElem? (i:=6) rfl)) (.slice (some ⟨b6,0,none⟩) 3 3) [0,1,2] (Ib Fd S (i:=0) rfl rfl rfl rfl ((Jl (i:=6) (j:=0) (e:=.blk O [V,iV r4.2] 25) (e':=.blk b6 [iV 0,iV 1,iV 2] 3) S rfl rfl rfl) _ rfl)) _ hr5) rfl (fun _ _ _ h=>⟨h.1,fun _ hc=>by cases hc;rfl⟩) ?_;clear S;intro v5 a w11 hv5 hk11 hn5 S
 replace hv5:=hv5.2
 subst hv5
 refine Vm S rfl rfl fun a S=>Dv S underlying22 sizeOf3 zeroValue3 rfl rfl (pv:=[(0,iV 0),(1,iV 0),(2,iV 5),(3,iV 10)]) ⟨rfl,rfl,rfl,rfl,rfl,rfl,rfl,rfl,trivial⟩ (cs:=[iV 0,iV 0,iV 5,iV 10]) (by kernel_rfl) rfl ?_;clear S;intro a w12 b7 hz7 hk12 S
 obtain ⟨r6,hr6,h⟩:=Ej h
 refine Ft 7 S (b:=O) rfl rfl (fun _=>.blk O [V,iV r6.2] 25) (fun _=>Cz (vs:=[.pointer (some ⟨O,0,none⟩),.slice (some ⟨b7,0,none⟩) 4 4]) ⟨(S.tm rfl),(S.tm rfl),trivial⟩ call34) (Hh _ O V Ak (Ai.mono (S.le_arg (Hd (i:=7) (e:=.blk O [V,iV r5.2] 25) rfl))) r5.2 (S.holds _ (List.mem_of_getElem? (i:=7) rfl)) (.slice (some ⟨b7,0,none⟩) 4 4) [0,0,5,10] (Ib Fd S (i:=0) rfl rfl rfl rfl ((Jl (i:=7) (j:=0) (e:=.blk O [V,iV r5.2] 25) (e':=.blk b7 [iV 0,iV 0,iV 5,iV 10] 3) S rfl rfl rfl) _ rfl)) _ hr6) rfl (fun _ _ _ h=>⟨h.1,fun _ hc=>by cases hc;rfl⟩) ?_;clear S;intro v6 a w13 hv6 hk13 hn6 S
 replace hv6:=hv6.2
 subst hv6
 refine lv S (Mw JB (pv:=[(0,sV Bj),(1,iV r1.1),(2,iV r2.1),(3,iV r3.1),(4,iV r4.1),(5,iV r5.1),(6,iV r6.1)]) ⟨rfl,(S.tm rfl),rfl,(S.tm rfl),rfl,(S.tm rfl),rfl,(S.tm rfl),rfl,(S.tm rfl),rfl,(S.tm rfl),rfl,(S.tm rfl),trivial⟩ (cs:=[sV Bj,iV r1.1,iV r2.1,iV r3.1,iV r4.1,iV r5.1,iV r6.1,iV 0]) (by kernel_rfl)) rfl fun a S=>Ic S zeroValue40 (cs:=[sV Cx,iV 0,iV 0,iV 0,iV 0,iV 0,iV 0,iV 0]) rfl rfl ?_;clear S;intro a w14 b8 hz8 hk14 S
 refine Ep S (S.tm rfl) (S.tm rfl) (i:=0) (off:=0) rfl sizeOf40 (vs:=(Dg.enc (Dg.mk Bj r1.1 r2.1 r3.1 r4.1 r5.1 r6.1 0))) rfl rfl rfl rfl ?_;clear S;intro w15 hk15 S
 refine Ld ?_
 replace S:=(S.nl [.blk b8 (Dg.enc (Dg.mk Bj r1.1 r2.1 r3.1 r4.1 r5.1 r6.1 0)) 40,.blk b1 (Dg.enc (Dg.mk Cx 0 0 0 0 0 0 0)) 40,.blk O [V,iV r6.2] 25] [true,false,false,false,false,false,false,true,true] rfl).k3 0 4 5 rfl
 refine Tn (Fs ?_)
 obtain ⟨r7,hr7,h⟩:=Ej h
 refine Fo [7] ([O]) Tryz.mixed S rfl (by kernel_rfl) ?_;clear S;intro w19 hk19 hsel S
 refine Ee 0 S hsel rfl rfl (by kernel_rfl) (by kernel_rfl) rfl (fun _=>(Fp FN (S.tm rfl))) fun a S=>De 1 S hsel rfl (by kernel_rfl) (by kernel_rfl) (by kernel_rfl) (by kernel_rfl) rfl (fun _ hw=>(Gj isAgg3 (off:=0) (o:=6) (S.tm rfl) ((S.blk_mem (i:=0) (cells:=(Dg.enc (Dg.mk Bj r1.1 r2.1 r3.1 r4.1 r5.1 r6.1 0))) (b:=b8) (T:=40) rfl (Jl (i:=2) (j:=0) (e:=.blk O [V,iV r6.2] 25) (e':=.blk b8 (Dg.enc (Dg.mk Bj r1.1 r2.1 r3.1 r4.1 r5.1 r6.1 0)) 40) S rfl rfl rfl)).kept hw) rfl)) fun a S=>Ee 2 S hsel rfl rfl (by kernel_rfl) (by kernel_rfl) rfl (fun _=>(Rm (S.tm rfl))) fun a S=>Ff 3 (by kernel_rfl) rfl (Dv S underlying22 sizeOf3 zeroValue3 rfl rfl (pv:=[(0,iV 0),(1,iV 5),(2,iV 90)]) ⟨rfl,rfl,rfl,rfl,rfl,rfl,trivial⟩ (cs:=[iV 0,iV 5,iV 90]) (by kernel_rfl) rfl ?_);clear S;intro a w20 b10 hz10 hk20 S
 refine Ld (Gl (Keep.none hk20) (Ff 4 (by kernel_rfl) rfl ?_))
 refine Ft 3 S (b:=O) rfl rfl (fun _=>.blk O [V,iV r7.2] 25) (fun _=>Cz (vs:=[.pointer (some ⟨O,0,none⟩),.slice (some ⟨b10,0,none⟩) 3 3]) ⟨(S.tm rfl),(S.tm rfl),trivial⟩ call34) (Hh _ O V Ak (Ai.mono (S.le_arg (Hd (i:=3) (e:=.blk O [V,iV r6.2] 25) rfl))) r6.2 (S.holds _ (List.mem_of_getElem? (i:=3) rfl)) (.slice (some ⟨b10,0,none⟩) 3 3) [0,5,90] (Ib Fd S (i:=0) rfl rfl rfl rfl ((Jl (i:=3) (j:=0) (e:=.blk O [V,iV r6.2] 25) (e':=.blk b10 [iV 0,iV 5,iV 90] 3) S rfl rfl rfl) _ rfl)) _ hr7) rfl (fun _ _ _ h=>⟨h.1,fun _ hc=>by cases hc;rfl⟩) ?_;clear S;intro v8 a w21 hv8 hk21 hn8 S
 replace hv8:=hv8.2
 subst hv8
 refine Ld (Gl hk21 (Ee 5 S hsel rfl rfl (by kernel_rfl) (by kernel_rfl) rfl (fun _=>(Fa (S.tm rfl) (S.tm rfl))) fun a S=>Ee 6 S hsel rfl rfl (by kernel_rfl) (by kernel_rfl) rfl (fun _=>(Fp FO (S.tm rfl))) fun a S=>Rf 7 ([O] ++ [b8]) rfl (by kernel_rfl) rfl (Ep S (S.tm rfl) (S.tm rfl) (i:=1) (off:=7) rfl sizeOf3 (vs:=[iV (W (r6.1 + r7.1))]) rfl rfl rfl rfl ?_)));clear S;intro w22 hk22 S
 refine Ld (Rh (Se (by kernel_rfl) ?_))
 clear hsel
 replace S:=(S.nl [.blk b8 (Dg.enc (Dg.mk Bj r1.1 r2.1 r3.1 r4.1 r5.1 r6.1 (W (r6.1 + r7.1)))) 40,.blk b1 (Dg.enc (Dg.mk Cx 0 0 0 0 0 0 0)) 40,.blk O [V,iV r7.2] 25] [false,true,true,true] rfl).k2 4 5 rfl
 refine Tn (Fr (lv S (Fb isAgg40 sizeOf40 (off:=0) (o:=0) (part:=(Dg.enc (Dg.mk Bj r1.1 r2.1 r3.1 r4.1 r5.1 r6.1 (W (r6.1 + r7.1))))) rfl rfl (S.tm rfl) (S.cellsAt (i:=0) rfl)) rfl fun a S=>Ep S (S.tm rfl) (S.tm rfl) (i:=1) (off:=0) rfl sizeOf40 (vs:=(Dg.enc (Dg.mk Bj r1.1 r2.1 r3.1 r4.1 r5.1 r6.1 (W (r6.1 + r7.1))))) rfl rfl rfl rfl ?_));clear S;intro w23 hk23 S
 refine Dl (wp_ret ?_)
 obtain rfl:=Option.some.inj h
 exact Vt S (rs:=[.cell 4 40]) (vs:=[.agg (Dg.enc (Dg.mk Bj r1.1 r2.1 r3.1 r4.1 r5.1 r6.1 (W (r6.1 + r7.1)))).toArray]) results33 ⟨(Ri (off:=0) S rfl isAgg40 sizeOf40 rfl (S.cellsAt (i:=1) rfl)),trivial⟩ rfl ⟨(S.holds _ (List.mem_of_getElem? (i:=2) rfl)),rfl⟩
theorem Yg (w : World) (O : Nat) (V : Value) (Ak : List Int) (Ai : Slc (view w [O]) 1 V (Ak.map eInt)) (Ag : Int) (Ar : (LEnt.blk O [V,iV Ag] 25).holds w) (r : (List Dg) × Int) (h : Pz Ak Ag = some r) :
    Calls prog 13 [.pointer (some ⟨O,0,none⟩)].toArray w (Ret w [O] fun τ v w'=>(LEnt.blk O [V,iV r.2] 25).holds w' ∧ Pq τ 40 8 v r.1.length (r.1.flatMap Dg.enc)):=by
 refine Iy [O] [.blk O [V,iV Ag] 25] func13 rfl ntmps13 rfl (fun e he=>by simp only [List.mem_singleton] at he;subst he;exact Ar) (by simp [fps,LEnt.fp]) (by simp [fps,LEnt.fp]) fun a S=>?_
 unfold Pz at h
 replace S:=(S.nl [.blk O [V,iV Ag] 25] [true] rfl).k1 0 rfl
 refine Fr (Vk S rfl rfl fun a S=>Dz (Vk S rfl rfl ?_));clear S;intro a S
 replace S:=S.nil 40 8
 refine Dl (Fs (Fr (Dv S underlying45 sizeOf9 zeroValue9 rfl rfl (pv:=[(0,sV Np),(1,sV Qi),(2,sV Sz)]) ⟨rfl,rfl,rfl,rfl,rfl,rfl,trivial⟩ (cs:=[sV Np,sV Qi,sV Sz]) (by kernel_rfl) rfl ?_)));clear S;intro a w1 b1 hz1 hk1 S
 refine lv S (Fi Nc (S.tm rfl) ⟨_,_,rfl⟩) rfl fun a S=>lv S (Rm rfl) rfl fun a S=>Dl ?_
 replace S:=(S.nl [.blk b1 [sV Np,sV Qi,sV Sz] 9,.own (.slice none 0 0) 40 8 ([] : List Dg).length (([] : List Dg).flatMap Dg.enc),.blk O [V,iV Ag] 25] [true,true,true] rfl).k5 0 3 6 7 8 rfl
 replace S:=S.litOwn (i:=0) (xs:=[Np,Qi,Sz]) rfl Hi rfl rfl rfl
 replace S:=S.nk [.own (.slice (some ⟨b1,0,none⟩) 3 3) 9 1 ([Np,Qi,Sz] : List ByteArray).length (([Np,Qi,Sz] : List ByteArray).flatMap Jw),.own (.slice none 0 0) 40 8 ([] : List Dg).length (([] : List Dg).flatMap Dg.enc),.blk O [V,iV Ag] 25] [(0,.pointer (some ⟨O,0,none⟩)),(3,(.slice none 0 0)),(6,(.slice (some ⟨b1,0,none⟩) 3 3)),(7,iV (([Np,Qi,Sz] : List ByteArray).length : Int)),(8,iV 0)] [] rfl (subR rfl)
 obtain ⟨φ1,hl1,hs1,S⟩:=S.freezeT (xs:=([Np,Qi,Sz] : List ByteArray)) (enc:=Jw) (i:=0) rfl (fun c hc hh=>Xq S (i:=2) rfl rfl (j:=0) rfl rfl (by simp at hc;subst hc;exact hh))
 replace S:=S.nk [.own (.slice none 0 0) 40 8 ([] : List Dg).length (([] : List Dg).flatMap Dg.enc),.blk O [V,iV Ag] 25] [(0,.pointer (some ⟨O,0,none⟩)),(3,(.slice none 0 0)),(6,(.slice (some ⟨b1,0,none⟩) 3 3)),(7,iV (([Np,Qi,Sz] : List ByteArray).length : Int)),(8,iV 0)] [] rfl (subR rfl)
 obtain ⟨j1,hj1,h⟩:=Eo h
 refine Dy (fun a w'=>∃ x1 : List Dg,∃ x2 : Int,∃ v1 : Value,j1 x1 x2 = some r ∧ Sx w [O] φ1 [.own v1 40 8 x1.length (x1.flatMap Dg.enc),.blk O [V,iV x2] 25] [(3,v1)] 23 a w') ?_ ?_
 ·refine wp_block (Gs (fun (ys1 : List ByteArray) a w'=>∃ i1 : Nat,∃ x1 : List Dg,∃ x2 : Int,∃ v1 : Value,(∃ dn,([Np,Qi,Sz] : List ByteArray) = dn ++ ys1 ∧ dn.length = i1) ∧ Ih Ak j1 ys1 i1 x1 x2 = some r ∧ Sx w [O] φ1 [.own v1 40 8 x1.length (x1.flatMap Dg.enc),.blk O [V,iV x2] 25] [(0,.pointer (some ⟨O,0,none⟩)),(3,v1),(6,(.slice (some ⟨b1,0,none⟩) 3 3)),(7,iV (([Np,Qi,Sz] : List ByteArray).length : Int)),(8,iV (i1 : Int))] 23 a w') List.length ([Np,Qi,Sz] : List ByteArray) ⟨0,([] : List Dg),Ag,(.slice none 0 0),⟨[],rfl,rfl⟩,h,S.nf [true,true] rfl (subR rfl)⟩ ?_)
  clear S h;rintro ys1 a w2 ⟨i1,x1,x2,v1,⟨dn,hd1,hi1⟩,h,S⟩
  cases ys1 with
  | nil =>
   rw [Ih.eq_1] at h
   refine Fr (Vb S Ev rfl rfl rfl fun a S=>Ld ?_)
   replace S:=S.k6 0 3 6 7 8 9 rfl
   exact Tn (Fs (wp_cond_false ((S.tm rfl).trans (congrArg Value.bool (Ke hd1 hi1))) (wp_exit (Dt (Dt (Gh (Tn (⟨x1,x2,v1,h,S.nf [true,true] rfl ⟨rfl,trivial⟩⟩))))))))
  | cons y1 ys1 =>
   rw [Ih.eq_2] at h
   refine Fr (Vb S Ev rfl rfl rfl fun a S=>Ld ?_)
   replace S:=S.k6 0 3 6 7 8 9 rfl
   refine Tn (Fs (wp_cond_true ((S.tm rfl).trans (congrArg Value.bool (Ja hd1 hi1))) (wp_skip (Tn (Fs ?_)))))
   obtain ⟨j2,hj2,h⟩:=Eo h
   refine Dy (fun a w'=>∃ x3 : List Dg,∃ x4 : Int,∃ v2 : Value,j2 x3 x4 = some r ∧ Sx w [O] φ1 [.own v2 40 8 x3.length (x3.flatMap Dg.enc),.blk O [V,iV x4] 25] [(0,.pointer (some ⟨O,0,none⟩)),(3,v2),(6,(.slice (some ⟨b1,0,none⟩) 3 3)),(7,iV (([Np,Qi,Sz] : List ByteArray).length : Int)),(8,iV (i1 : Int))] 23 a w') ?_ ?_
   ·refine wp_block (Fs (Fg ?_))
    obtain ⟨b2,o1,hm1,hr1⟩:=Fu (a:=a) (x:=.tmp 6) (y:=.tmp 8) (ty:=0) Nc (Fv Hi hs1) (Jx hd1 hi1) rfl (S.tm rfl) (S.tm rfl)
    refine lv S (hr1 _) rfl ?_;clear S;intro a S
    clear hr1
    refine lv S (Gj isAgg9 (off:=o1) (o:=0) (S.tm rfl) (hm1.at S.emb) rfl) rfl fun a S=>Va S rfl rfl fun a S=>Dz (Vm S rfl rfl ?_);clear S;intro a S
    obtain ⟨r1,hr2,h⟩:=Ej h
    refine Ft 1 S (b:=O) rfl rfl (fun _=>.blk O [V,iV r1.2] 25) (fun _=>Cz (vs:=[.pointer (some ⟨O,0,none⟩),iV 6]) ⟨(S.tm rfl),rfl,trivial⟩ call32) (Tx _ O V Ak (Ai.mono (S.le_arg (Hd (i:=1) (e:=.blk O [V,iV x2] 25) rfl))) x2 (S.holds _ (List.mem_of_getElem? (i:=1) rfl)) 6 _ hr2) rfl (fun _ _ _ h=>⟨h.1,fun _ hc=>by cases hc;rfl⟩) ?_;clear S;intro v3 a w5 hv1 hk2 hn1 S
    replace hv1:=hv1.2
    subst hv1
    refine Vu S Gk rfl rfl fun a S=>Dl ?_
    obtain ⟨j3,hj3,h⟩:=Eo h
    refine Dy (fun a w'=>∃ x5 : List Dg,∃ x6 : Int,∃ v4 : Value,j3 x5 x6 = some r ∧ Sx w [O] φ1 [.own v4 40 8 x5.length (x5.flatMap Dg.enc),.blk O [V,iV x6] 25] [(0,.pointer (some ⟨O,0,none⟩)),(3,v4),(6,(.slice (some ⟨b1,0,none⟩) 3 3)),(7,iV (([Np,Qi,Sz] : List ByteArray).length : Int)),(8,iV (i1 : Int))] 23 a w') ?_ ?_
    ·refine Fc h (S.tm rfl) (fun hb1 h=>?_) (fun hb1 h=>?_)
     ·refine Fg ?_
      iterate 3 (refine Vm S rfl rfl ?_;clear S;intro a S)
      obtain ⟨r2,hr3,h⟩:=Ej h
      refine Ft 1 S (b:=O) rfl rfl (fun _=>.blk O [V,iV r2.2] 25) (fun _=>Cz (vs:=[.pointer (some ⟨O,0,none⟩),sV y1]) ⟨(S.tm rfl),(S.tm rfl),trivial⟩ call33) (Yz _ O V Ak (Ai.mono (S.le_arg (Hd (i:=1) (e:=.blk O [V,iV r1.2] 25) rfl))) r1.2 (S.holds _ (List.mem_of_getElem? (i:=1) rfl)) y1 _ hr3) rfl (fun _ _ _ h=>⟨h.1,fun _ hc=>by cases hc;rfl⟩) ?_;clear S;intro v5 a w7 hv2 hk3 hn2 S
      replace hv2:=hv2.2
      subst hv2
      refine Dv S underlying26 sizeOf40 zeroValue40 rfl rfl (pv:=[(0,.agg (Dg.enc r2.1).toArray)]) ⟨rfl,(S.tm rfl),trivial⟩ (cs:=[sV r2.1.Key,iV r2.1.Metres,iV r2.1.Stroke,iV r2.1.Course,iV r2.1.Legs,iV r2.1.Sex,iV r2.1.Young,iV r2.1.Old]) (by kernel_rfl) rfl ?_;clear S;intro a w8 b3 hz2 hk4 S
      obtain ⟨hc1,h⟩:=Gu h
      refine Lq Sw Dg.enc_ok S (S.tm rfl) (i:=1) rfl (S.tm rfl) (j:=0) rfl (ys:=[r2.1]) rfl rfl rfl rfl (by have:=Nm hc1;omega) rfl ?_;clear S;intro v6 a w9 hk5 S
      refine Va S rfl rfl fun a S=>Ld ?_
      replace S:=(S.nl [.own v6 40 8 (x1 ++ [r2.1]).length ((x1 ++ [r2.1]).flatMap Dg.enc),.blk O [V,iV r2.2] 25] [false,true,true] rfl).k5 0 3 6 7 8 rfl
      exact Tn (⟨(x1 ++ [r2.1]),r2.2,v6,h,S.nf [true,true] rfl (subR rfl)⟩)
     ·exact wp_skip (Tn (⟨x1,r1.2,v1,h,S.nf [true,true] rfl (subR rfl)⟩))
    clear S h;rintro a w6 ⟨x5,x6,v4,h,S⟩;rw [hj3] at h;clear hj3 j3
    exact Gy (Tn (⟨x5,x6,v4,h,S.nf [true,true] rfl (subR rfl)⟩))
   clear S h;rintro a w4 ⟨x3,x4,v2,h,S⟩;rw [hj2] at h;clear hj2 j2
   exact Tn (Fg (Vq S Fa rfl rfl rfl fun a S=>Vm S rfl rfl fun a S=>Dl (⟨ys1,⟨i1 + 1,x3,x4,v2,⟨_,(hd1).trans (List.append_cons _ _ _),by simp [hi1]⟩,h,S.nf [true,true] rfl ⟨rfl,rfl,rfl,rfl,(congrArg (fun z=>some (Value.int .i64 z)) (Jb hd1 hi1 (Jy (Fv Hi hs1)))),trivial⟩⟩,Nat.lt_succ_self _⟩)))
 clear S h;rintro a w3 ⟨x1,x2,v1,h,S⟩;rw [hj1] at h;clear hj1 j1
 refine Tn (Fr (Vm S rfl rfl fun a S=>Va S rfl rfl fun a S=>Dl (wp_ret ?_)))
 obtain rfl:=Option.some.inj h
 exact Ds S results13 rfl ⟨(S.holds _ (List.mem_of_getElem? (i:=1) rfl)),(CF S (i:=0) rfl (fun c hc hh=>Xq S (i:=1) rfl rfl (j:=0) rfl rfl (by simp at hc;subst hc;exact hh)))⟩
theorem Mi (w : World) (O : Nat) (V : Value) (Ak : List Int) (Ai : Slc (view w [O]) 1 V (Ak.map eInt)) (Ag : Int) (Ar : (LEnt.blk O [V,iV Ag] 25).holds w) (Bi : Int) (Bc : Int) (r : Int × Int) (h : Kq Ak Ag Bi Bc = some r) :
    Calls prog 6 [.pointer (some ⟨O,0,none⟩),iV Bi,iV Bc].toArray w (Ret w [O] fun _ v w'=>(LEnt.blk O [V,iV r.2] 25).holds w' ∧ v = iV r.1):=by
 refine Iy [O] [.blk O [V,iV Ag] 25] func6 rfl ntmps6 rfl (fun e he=>by simp only [List.mem_singleton] at he;subst he;exact Ar) (by simp [fps,LEnt.fp]) (by simp [fps,LEnt.fp]) fun a S=>?_
 unfold Kq at h
 replace S:=(S.nl [.blk O [V,iV Ag] 25] [true] rfl).k3 0 1 2 rfl
 refine Fr (Vk S rfl rfl fun a S=>Dl (Fs (Fr (Vm S rfl rfl fun a S=>Vm S rfl rfl fun a S=>Vb S Ev rfl rfl rfl ?_))));clear S;intro a S
 refine Dl (Fc h (S.tm rfl) (fun hb1 h=>?_) (fun hb1 h=>?_))
 ·refine Fr (Vm S rfl rfl fun a S=>Va S rfl rfl fun a S=>Dl (wp_ret (Db ?_)))
  obtain rfl:=Option.some.inj h
  exact Ds S results6 rfl ⟨(S.holds _ (List.mem_of_getElem? (i:=0) rfl)),rfl⟩
 ·refine wp_skip (Tn (Fs (Fg ?_)))
  iterate 4 (refine Vm S rfl rfl ?_;clear S;intro a S)
  refine Vb S Gp rfl rfl rfl fun a S=>Vq S Fa rfl rfl rfl ?_;clear S;intro a S
  obtain ⟨r1,hr1,h⟩:=Ej h
  refine Ft 0 S (b:=O) rfl rfl (fun _=>.blk O [V,iV r1.2] 25) (fun _=>Cz (vs:=[.pointer (some ⟨O,0,none⟩),iV (W ((W (Bc - Bi)) + 1))]) ⟨(S.tm rfl),(S.tm rfl),trivial⟩ call18) (Pv _ O V Ak (Ai.mono (S.le_arg (Hd (i:=0) (e:=.blk O [V,iV Ag] 25) rfl))) Ag (S.holds _ (List.mem_of_getElem? (i:=0) rfl)) (W ((W (Bc - Bi)) + 1)) _ hr1) rfl (fun _ _ _ h=>⟨h.1,fun _ hc=>by cases hc;rfl⟩) ?_;clear S;intro v1 a w1 hv1 hk1 hn1 S
  replace hv1:=hv1.2
  subst hv1
  refine Vb S Fa rfl rfl rfl fun a S=>Va S rfl rfl fun a S=>Ld ?_
  replace S:=(S.nl [.blk O [V,iV r1.2] 25] [true] rfl).k1 6 rfl
  refine Tn (wp_ret ?_)
  obtain rfl:=Option.some.inj h
  exact Ds S results6 rfl ⟨(S.holds _ (List.mem_of_getElem? (i:=0) rfl)),rfl⟩
theorem Xa (w : World) (O : Nat) (V : Value) (Ak : List Int) (Ai : Slc (view w [O]) 1 V (Ak.map eInt)) (Ag : Int) (Ar : (LEnt.blk O [V,iV Ag] 25).holds w) (r : Pi × Int) (h : Nq Ak Ag = some r) :
    Calls prog 14 [.pointer (some ⟨O,0,none⟩)].toArray w (Ret w [O] fun τ v w'=>(LEnt.blk O [V,iV r.2] 25).holds w' ∧ ∃ q : R28,v = .agg (R28.enc q).toArray ∧ Yy τ r.1 q):=by
 refine Iy [O] [.blk O [V,iV Ag] 25] func14 rfl ntmps14 rfl (fun e he=>by simp only [List.mem_singleton] at he;subst he;exact Ar) (by simp [fps,LEnt.fp]) (by simp [fps,LEnt.fp]) fun a S=>?_
 unfold Nq at h
 replace S:=(S.nl [.blk O [V,iV Ag] 25] [true] rfl).k1 0 rfl
 refine Fr (Ic S zeroValue28 (cs:=[.slice none 0 0,iV 0,iV 0]) rfl rfl ?_);clear S;intro a w1 b1 hz1 hk1 S
 replace S:=S.nil 3 1
 refine Dz (Vm S rfl rfl fun a S=>Dv S underlying22 sizeOf3 zeroValue3 rfl rfl (pv:=[(0,iV 1),(1,iV 2)]) ⟨rfl,rfl,rfl,rfl,trivial⟩ (cs:=[iV 1,iV 2]) (by kernel_rfl) rfl ?_);clear S;intro a w2 b2 hz2 hk2 S
 obtain ⟨r1,hr1,h⟩:=Ej h
 refine Ft 3 S (b:=O) rfl rfl (fun _=>.blk O [V,iV r1.2] 25) (fun _=>Cz (vs:=[.pointer (some ⟨O,0,none⟩),.slice (some ⟨b2,0,none⟩) 2 2]) ⟨(S.tm rfl),(S.tm rfl),trivial⟩ call34) (Hh _ O V Ak (Ai.mono (S.le_arg (Hd (i:=3) (e:=.blk O [V,iV Ag] 25) rfl))) Ag (S.holds _ (List.mem_of_getElem? (i:=3) rfl)) (.slice (some ⟨b2,0,none⟩) 2 2) [1,2] (Ib Fd S (i:=0) rfl rfl rfl rfl ((Jl (i:=3) (j:=0) (e:=.blk O [V,iV Ag] 25) (e':=.blk b2 [iV 1,iV 2] 3) S rfl rfl rfl) _ rfl)) _ hr1) rfl (fun _ _ _ h=>⟨h.1,fun _ hc=>by cases hc;rfl⟩) ?_;clear S;intro v1 a w3 hv1 hk3 hn1 S
 replace hv1:=hv1.2
 subst hv1
 refine Vm S rfl rfl fun a S=>Dv S underlying22 sizeOf3 zeroValue3 rfl rfl (pv:=[(0,iV 0),(1,iV 0),(2,iV 1),(3,iV 2)]) ⟨rfl,rfl,rfl,rfl,rfl,rfl,rfl,rfl,trivial⟩ (cs:=[iV 0,iV 0,iV 1,iV 2]) (by kernel_rfl) rfl ?_;clear S;intro a w4 b3 hz3 hk4 S
 obtain ⟨r2,hr2,h⟩:=Ej h
 refine Ft 4 S (b:=O) rfl rfl (fun _=>.blk O [V,iV r2.2] 25) (fun _=>Cz (vs:=[.pointer (some ⟨O,0,none⟩),.slice (some ⟨b3,0,none⟩) 4 4]) ⟨(S.tm rfl),(S.tm rfl),trivial⟩ call34) (Hh _ O V Ak (Ai.mono (S.le_arg (Hd (i:=4) (e:=.blk O [V,iV r1.2] 25) rfl))) r1.2 (S.holds _ (List.mem_of_getElem? (i:=4) rfl)) (.slice (some ⟨b3,0,none⟩) 4 4) [0,0,1,2] (Ib Fd S (i:=0) rfl rfl rfl rfl ((Jl (i:=4) (j:=0) (e:=.blk O [V,iV r1.2] 25) (e':=.blk b3 [iV 0,iV 0,iV 1,iV 2] 3) S rfl rfl rfl) _ rfl)) _ hr2) rfl (fun _ _ _ h=>⟨h.1,fun _ hc=>by cases hc;rfl⟩) ?_;clear S;intro v2 a w5 hv2 hk5 hn2 S
 replace hv2:=hv2.2
 subst hv2
 refine lv S (Mw bt_28 (pv:=[(1,iV r1.1),(2,iV r2.1)]) ⟨rfl,(S.tm rfl),rfl,(S.tm rfl),trivial⟩ (cs:=[.slice none 0 0,iV r1.1,iV r2.1]) (by kernel_rfl)) rfl fun a S=>Ic S zeroValue28 (cs:=[.slice none 0 0,iV 0,iV 0]) rfl rfl ?_;clear S;intro a w6 b4 hz4 hk6 S
 replace S:=S.nil 3 1
 refine Ep S (S.tm rfl) (S.tm rfl) (i:=1) (off:=0) rfl sizeOf28 (vs:=[.slice none 0 0,iV r1.1,iV r2.1]) rfl rfl rfl rfl ?_;clear S;intro w7 hk7 S
 replace S:=S.nil 3 1
 refine Ld ?_
 replace S:=(S.nl [.own (.slice none 0 0) 3 1 ([] : List Int).length (([] : List Int).flatMap eInt),.blk b4 [(.slice none 0 0),iV r1.1,iV r2.1] 28,.own (.slice none 0 0) 3 1 ([] : List Int).length (([] : List Int).flatMap eInt),.blk b1 [(.slice none 0 0),iV 0,iV 0] 28,.blk O [V,iV r2.2] 25] [true,false,true,false,false,true,true,true] rfl).k3 0 2 3 rfl
 refine Tn (Fr (Vm S rfl rfl fun a S=>Dv S underlying22 sizeOf3 zeroValue3 rfl rfl (pv:=[(0,iV 10),(1,iV 9),(2,iV 7),(3,iV 5)]) ⟨rfl,rfl,rfl,rfl,rfl,rfl,rfl,rfl,trivial⟩ (cs:=[iV 10,iV 9,iV 7,iV 5]) (by kernel_rfl) rfl ?_));clear S;intro a w8 b5 hz5 hk8 S
 obtain ⟨r3,hr3,h⟩:=Ej h
 refine Ft 5 S (b:=O) rfl rfl (fun _=>.blk O [V,iV r3.2] 25) (fun _=>Cz (vs:=[.pointer (some ⟨O,0,none⟩),.slice (some ⟨b5,0,none⟩) 4 4]) ⟨(S.tm rfl),(S.tm rfl),trivial⟩ call34) (Hh _ O V Ak (Ai.mono (S.le_arg (Hd (i:=5) (e:=.blk O [V,iV r2.2] 25) rfl))) r2.2 (S.holds _ (List.mem_of_getElem? (i:=5) rfl)) (.slice (some ⟨b5,0,none⟩) 4 4) [10,9,7,5] (Ib Fd S (i:=0) rfl rfl rfl rfl ((Jl (i:=5) (j:=0) (e:=.blk O [V,iV r2.2] 25) (e':=.blk b5 [iV 10,iV 9,iV 7,iV 5] 3) S rfl rfl rfl) _ rfl)) _ hr3) rfl (fun _ _ _ h=>⟨h.1,fun _ hc=>by cases hc;rfl⟩) ?_;clear S;intro v3 a w9 hv3 hk9 hn3 S
 replace hv3:=hv3.2
 subst hv3
 refine Va S rfl rfl fun a S=>Ld ?_
 replace S:=(S.nl [.own (.slice none 0 0) 3 1 ([] : List Int).length (([] : List Int).flatMap eInt),.blk b4 [(.slice none 0 0),iV r1.1,iV r2.1] 28,.own (.slice none 0 0) 3 1 ([] : List Int).length (([] : List Int).flatMap eInt),.blk b1 [(.slice none 0 0),iV 0,iV 0] 28,.blk O [V,iV r3.2] 25] [false,true,true,true,true,true] rfl).k4 0 2 3 4 rfl
 refine Tn (Fs (Fr (Vm S rfl rfl ?_)));clear S;intro a S
 obtain ⟨r4,hr4,h⟩:=Ej h
 refine Ft 4 S (b:=O) rfl rfl (fun _=>.blk O [V,iV r4.2] 25) (fun _=>Cz (vs:=[.pointer (some ⟨O,0,none⟩),iV 0,iV 5]) ⟨(S.tm rfl),rfl,rfl,trivial⟩ call6) (Mi _ O V Ak (Ai.mono (S.le_arg (Hd (i:=4) (e:=.blk O [V,iV r3.2] 25) rfl))) r3.2 (S.holds _ (List.mem_of_getElem? (i:=4) rfl)) 0 5 _ hr4) rfl (fun _ _ _ h=>⟨h.1,fun _ hc=>by cases hc;rfl⟩) ?_;clear S;intro v4 a w10 hv4 hk10 hn4 S
 replace hv4:=hv4.2
 subst hv4
 refine lv S (Rm rfl) rfl fun a S=>Dl ?_
 replace S:=(S.nl [.own (.slice none 0 0) 3 1 ([] : List Int).length (([] : List Int).flatMap eInt),.blk b4 [(.slice none 0 0),iV r1.1,iV r2.1] 28,.own (.slice none 0 0) 3 1 ([] : List Int).length (([] : List Int).flatMap eInt),.blk b1 [(.slice none 0 0),iV 0,iV 0] 28,.blk O [V,iV r4.2] 25] [true,true,true,true,true] rfl).k6 0 2 3 4 16 17 rfl
 obtain ⟨j1,hj1,h⟩:=Eo h
 refine Dy (fun a w'=>∃ x1 : List Int,∃ x2 : Int,∃ v5 : Value,j1 x1 x2 = some r ∧ Sx w [O] nov [.own v5 3 1 x1.length (x1.flatMap eInt),.blk b4 [v5,iV r1.1,iV r2.1] 28,.own (.slice none 0 0) 3 1 ([] : List Int).length (([] : List Int).flatMap eInt),.blk b1 [(.slice none 0 0),iV 0,iV 0] 28,.blk O [V,iV x2] 25] [(2,.pointer (some ⟨b1,0,none⟩)),(3,.pointer (some ⟨b4,0,none⟩))] 33 a w') ?_ ?_
 ·refine wp_block (Gs (fun (m1 : Nat) a w'=>∃ x1 : List Int,∃ x2 : Int,∃ x3 : Int,∃ x4 : Int,∃ v5 : Value,Hu r4 Ak j1 m1 x1 x2 x3 x4 = some r ∧ Sx w [O] nov [.own v5 3 1 x1.length (x1.flatMap eInt),.blk b4 [v5,iV r1.1,iV r2.1] 28,.own (.slice none 0 0) 3 1 ([] : List Int).length (([] : List Int).flatMap eInt),.blk b1 [(.slice none 0 0),iV 0,iV 0] 28,.blk O [V,iV x2] 25] [(0,.pointer (some ⟨O,0,none⟩)),(2,.pointer (some ⟨b1,0,none⟩)),(3,.pointer (some ⟨b4,0,none⟩)),(4,iV x3),(16,iV r4.1),(17,iV x4)] 33 a w') id ((r4.1 - 0).toNat + 2) ⟨([] : List Int),r4.2,r3.1,0,(.slice none 0 0),h,S.nf [true,true,true,true,true] rfl (subR rfl)⟩ ?_)
  clear S h;rintro m1 a w11 ⟨x1,x2,x3,x4,v5,h,S⟩
  cases m1 with
  | zero=>rw [Hu.eq_1] at h;cases h
  | succ m1 =>
   rw [Hu.eq_2] at h
   refine Fr (Vb S Ev rfl rfl rfl fun a S=>Dl (Fs (Fc h (S.tm rfl) (fun hb1 h=>?_) (fun hb1 h=>?_))))
   ·refine wp_skip (Tn (Fs (wp_block (Fr (Vf Zv S rfl rfl fun a S=>Vl isAgg22 1 S rfl rfl rfl rfl fun a S=>Vm S rfl rfl fun a S=>Dv S underlying22 sizeOf3 zeroValue3 rfl rfl (pv:=[(0,iV x3)]) ⟨rfl,(S.tm rfl),trivial⟩ (cs:=[iV x3]) (by kernel_rfl) rfl ?_)))));clear S;intro a w13 b6 hz6 hk11 S
    obtain ⟨hc1,h⟩:=Gu h
    refine Lq Jr Fd S (S.tm rfl) (i:=1) rfl (S.tm rfl) (j:=0) rfl (ys:=[x3]) rfl rfl rfl rfl (by have:=Nm hc1;omega) rfl ?_;clear S;intro v6 a w14 hk12 S
    refine Vf Zv S rfl rfl fun a S=>Ep S (S.tm rfl) (S.tm rfl) (i:=2) (off:=0) rfl sizeOf22 (vs:=[v6]) (Iu.cells (Iz (S.own_at (i:=1) rfl))) rfl rfl (Rk (Iu.one (Iz (S.own_at (i:=1) rfl))) rfl) ?_;clear S;intro w15 hk13 S
    refine Ld ?_
    replace S:=(S.nl [.own v6 3 1 (x1 ++ [x3]).length ((x1 ++ [x3]).flatMap eInt),.blk b4 [v6,iV r1.1,iV r2.1] 28,.own (.slice none 0 0) 3 1 ([] : List Int).length (([] : List Int).flatMap eInt),.blk b1 [(.slice none 0 0),iV 0,iV 0] 28,.blk O [V,iV x2] 25] [false,true,true,true,true,true] rfl).k6 0 2 3 4 16 17 rfl
    refine Tn (Fg (Vm S rfl rfl fun a S=>Vm S rfl rfl fun a S=>Dv S underlying22 sizeOf3 zeroValue3 rfl rfl (pv:=[(0,iV 0),(1,iV 1),(2,iV 2),(3,iV 3)]) ⟨rfl,rfl,rfl,rfl,rfl,rfl,rfl,rfl,trivial⟩ (cs:=[iV 0,iV 1,iV 2,iV 3]) (by kernel_rfl) rfl ?_));clear S;intro a w16 b7 hz7 hk14 S
    obtain ⟨r5,hr5,h⟩:=Ej h
    refine Ft 5 S (b:=O) rfl rfl (fun _=>.blk O [V,iV r5.2] 25) (fun _=>Cz (vs:=[.pointer (some ⟨O,0,none⟩),.slice (some ⟨b7,0,none⟩) 4 4]) ⟨(S.tm rfl),(S.tm rfl),trivial⟩ call34) (Hh _ O V Ak (Ai.mono (S.le_arg (Hd (i:=5) (e:=.blk O [V,iV x2] 25) rfl))) x2 (S.holds _ (List.mem_of_getElem? (i:=5) rfl)) (.slice (some ⟨b7,0,none⟩) 4 4) [0,1,2,3] (Ib Fd S (i:=0) rfl rfl rfl rfl ((Jl (i:=5) (j:=0) (e:=.blk O [V,iV x2] 25) (e':=.blk b7 [iV 0,iV 1,iV 2,iV 3] 3) S rfl rfl rfl) _ rfl)) _ hr5) rfl (fun _ _ _ h=>⟨h.1,fun _ hc=>by cases hc;rfl⟩) ?_;clear S;intro v7 a w17 hv5 hk15 hn5 S
    replace hv5:=hv5.2
    subst hv5
    refine Vb S Gp rfl rfl rfl fun a S=>Vu S (EZ rfl) rfl rfl fun a S=>Va S rfl rfl fun a S=>Ld ?_
    replace S:=(S.nl [.own v6 3 1 (x1 ++ [x3]).length ((x1 ++ [x3]).flatMap eInt),.blk b4 [v6,iV r1.1,iV r2.1] 28,.own (.slice none 0 0) 3 1 ([] : List Int).length (([] : List Int).flatMap eInt),.blk b1 [(.slice none 0 0),iV 0,iV 0] 28,.blk O [V,iV r5.2] 25] [false,true,true,true,true,true] rfl).k6 0 2 3 4 16 17 rfl
    exact Gy (Tn (Fg (Vq S Fa rfl rfl rfl fun a S=>Vm S rfl rfl fun a S=>Dl (⟨m1,⟨(x1 ++ [x3]),r5.2,Yc 0 (W (x3 - r5.1)),W (x4 + 1),v6,h,S.nf [true,true,true,true,true] rfl ⟨rfl,rfl,rfl,rfl,rfl,rfl,trivial⟩⟩,Nat.lt_succ_self _⟩))))
   ·exact wp_exit (Dt (Dt (Gh (Tn (⟨x1,x2,v5,h,S.nf [true,true,true,true,true] rfl (subR rfl)⟩)))))
 clear S h;rintro a w12 ⟨x1,x2,v5,h,S⟩;rw [hj1] at h;clear hj1 j1
 refine Tn (Fr (lv S (Fb isAgg28 sizeOf28 (off:=0) (o:=0) (part:=[v5,iV r1.1,iV r2.1]) rfl rfl (S.tm rfl) (S.cellsAt (i:=1) rfl)) rfl fun a S=>Ep S (S.tm rfl) (S.tm rfl) (i:=3) (off:=0) rfl sizeOf28 (vs:=[v5,iV r1.1,iV r2.1]) rfl rfl rfl (Rk (Iu.one (Iz (S.own_at (i:=0) rfl))) (Rk rfl (Rk rfl rfl))) ?_));clear S;intro w18 hk16 S
 refine Dl (wp_ret ?_)
 obtain ⟨φ1,hl1,hs1,S⟩:=S.freezeT (xs:=x1) (enc:=eInt) (i:=0) rfl (fun c hc hh=>Xq S (i:=4) rfl rfl (j:=0) rfl rfl (by simp at hc;subst hc;exact hh))
 replace S:=S.nk [.blk b4 [v5,iV r1.1,iV r2.1] 28,.own (.slice none 0 0) 3 1 ([] : List Int).length (([] : List Int).flatMap eInt),.blk b1 [v5,iV r1.1,iV r2.1] 28,.blk O [V,iV x2] 25] [(2,.pointer (some ⟨b1,0,none⟩)),(3,.pointer (some ⟨b4,0,none⟩)),(32,.agg #[v5,iV r1.1,iV r2.1])] [] rfl (subR rfl)
 obtain rfl:=Option.some.inj h
 exact Vt S (rs:=[.cell 2 28]) (vs:=[.agg (R28.enc (R28.mk ⟨v5,Iu.one (Fm (Fv Fd hs1))⟩ r1.1 r2.1)).toArray]) results14 ⟨(Ri (off:=0) S rfl isAgg28 sizeOf28 rfl (S.cellsAt (i:=2) rfl)),trivial⟩ rfl ⟨(S.holds _ (List.mem_of_getElem? (i:=3) rfl)),⟨(R28.mk ⟨v5,Iu.one (Fm (Fv Fd hs1))⟩ r1.1 r2.1),rfl,Ug S.le_newer _ _ ⟨⟨v5,Iu.one (Fm (Fv Fd hs1))⟩,rfl,(Fv Fd hs1)⟩⟩⟩
theorem Wb (w : World) (Al : Value) (Ap : List Dg) (Cl : (LEnt.own Al 40 8 Ap.length (Ap.flatMap Dg.enc)).holds w) (r : (List Dg)) (h : Mj Ap = some r) :
    Calls prog 15 [Al].toArray w (Ret w (Al.ownBlock.toList) fun _ v w'=>(LEnt.own Al 40 8 r.length (r.flatMap Dg.enc)).holds w' ∧ v = .tuple #[]):=by
 refine Iy (Al.ownBlock.toList) [.own Al 40 8 Ap.length (Ap.flatMap Dg.enc)] func15 rfl ntmps15 rfl (fun e he=>by simp only [List.mem_singleton] at he;subst he;exact Cl) (Hb _) (Ip _) fun a S=>?_
 unfold Mj at h
 replace S:=(S.nl [.own Al 40 8 Ap.length (Ap.flatMap Dg.enc)] [true] rfl).k1 0 rfl
 refine Fr (Vm S rfl rfl fun a S=>lv S (Fi Sw (S.tm rfl) (Iz (S.own_at (i:=0) rfl))) rfl fun a S=>Vq S Gp rfl rfl rfl fun a S=>Vk S rfl rfl fun a S=>Va S rfl rfl fun a S=>Dl ?_)
 replace S:=S.k3 0 2 3 rfl
 obtain ⟨j1,hj1,h⟩:=Eo h
 refine Dy (fun a w'=>∃ x1 : List Dg,j1 x1 = some r ∧ Sx w (Al.ownBlock.toList) nov [.own Al 40 8 x1.length (x1.flatMap Dg.enc)] [] 28 a w') ?_ ?_
 ·refine wp_block (Gs (fun (m1 : Nat) a w'=>∃ x1 : List Dg,∃ x2 : Int,∃ x3 : Int,Hc j1 m1 x1 x2 x3 = some r ∧ Sx w (Al.ownBlock.toList) nov [.own Al 40 8 x1.length (x1.flatMap Dg.enc)] [(0,Al),(2,iV x2),(3,iV x3)] 28 a w') id (((W ((Ap.length : Int) - 1)) - 0).toNat + 2) ⟨Ap,0,W ((Ap.length : Int) - 1),h,S.nf [true] rfl (subR rfl)⟩ ?_)
  clear S h;rintro m1 a w1 ⟨x1,x2,x3,h,S⟩
  cases m1 with
  | zero=>rw [Hc.eq_1] at h;cases h
  | succ m1 =>
   rw [Hc.eq_2] at h
   refine Fs (Fr (Vm S rfl rfl fun a S=>Vm S rfl rfl fun a S=>Vb S Ev rfl rfl rfl fun a S=>Dl (Fc h (S.tm rfl) (fun hb1 h=>?_) (fun hb1 h=>?_))))
   ·refine wp_skip (Tn (Fs (wp_block ?_)))
    obtain ⟨hc1,h⟩:=Gu h
    obtain ⟨hc2,h⟩:=Gu h
    obtain ⟨hc3,h⟩:=Gu h
    obtain ⟨hc4,h⟩:=Gu h
    refine Fo [13,15] ([]) Tryz.mixed S rfl (by kernel_rfl) ?_;clear S;intro w7 hk5 hsel S
    refine Ee 0 S hsel rfl rfl (by kernel_rfl) (by kernel_rfl) rfl (fun _=>(Rm (S.tm rfl))) fun a S=>Ee 1 S hsel rfl rfl (by kernel_rfl) (by kernel_rfl) rfl (fun _=>(Rm (S.tm rfl))) fun a S=>Ee 2 S hsel rfl rfl (by kernel_rfl) (by kernel_rfl) rfl (fun _=>(Rm (S.tm rfl))) fun a S=>Ee 3 S hsel rfl rfl (by kernel_rfl) (by kernel_rfl) rfl (fun _=>(Rm (S.tm rfl))) fun a S=>Ee 4 S hsel rfl rfl (by kernel_rfl) (by kernel_rfl) rfl (fun _=>(Rm (S.tm rfl))) fun a S=>Ee 5 S hsel rfl rfl (by kernel_rfl) (by kernel_rfl) rfl (fun _=>(Rm (S.tm rfl))) ?_;clear S;intro a S
    obtain ⟨b5,hg5,hr5⟩:=Eu (a:=a) (x:=.tmp 18) (y:=.tmp 19) (ty:=0) Sw Dg.enc_ok S (i:=0) rfl (Dc hc1).1 (Dc hc1).2 (S.tm rfl) (S.tm rfl)
    refine Ee 6 S hsel rfl rfl (by kernel_rfl) (by kernel_rfl) rfl (fun _=>(hr5 _)) ?_;clear S;intro a S
    clear hr5
    refine De 7 S hsel rfl (by kernel_rfl) (by kernel_rfl) (by kernel_rfl) (by kernel_rfl) rfl (fun _ hw=>(Fb isAgg40 sizeOf40 (off:=x3.toNat * 8) (o:=0) (part:=(Dg.enc (nth x1 x3))) rfl rfl (S.tm rfl) ((Kk Dg.enc_ok S (i:=0) rfl hg5 (Dc hc1).1 (Gt (e':=.own Al 40 8 x1.length (x1.flatMap Dg.enc)))).kept hw))) fun a S=>Ee 8 S hsel rfl rfl (by kernel_rfl) (by kernel_rfl) rfl (fun _=>(Rm (S.tm rfl))) fun a S=>Ee 9 S hsel rfl rfl (by kernel_rfl) (by kernel_rfl) rfl (fun _=>(Rm (S.tm rfl))) ?_;clear S;intro a S
    obtain ⟨b6,hg6,hr6⟩:=Eu (a:=a) (x:=.tmp 22) (y:=.tmp 23) (ty:=0) Sw Dg.enc_ok S (i:=0) rfl (Dc hc2).1 (Dc hc2).2 (S.tm rfl) (S.tm rfl)
    refine Ee 10 S hsel rfl rfl (by kernel_rfl) (by kernel_rfl) rfl (fun _=>(hr6 _)) ?_;clear S;intro a S
    clear hr6
    refine De 11 S hsel rfl (by kernel_rfl) (by kernel_rfl) (by kernel_rfl) (by kernel_rfl) rfl (fun _ hw=>(Fb isAgg40 sizeOf40 (off:=x2.toNat * 8) (o:=0) (part:=(Dg.enc (nth x1 x2))) rfl rfl (S.tm rfl) ((Kk Dg.enc_ok S (i:=0) rfl hg6 (Dc hc2).1 (Gt (e':=.own Al 40 8 x1.length (x1.flatMap Dg.enc)))).kept hw))) ?_;clear S;intro a S
    obtain ⟨b7,hg7,hr7⟩:=Eu (a:=a) (x:=.tmp 14) (y:=.tmp 15) (ty:=0) Sw Dg.enc_ok S (i:=0) rfl (Dc hc3).1 (Dc hc3).2 (S.tm rfl) (S.tm rfl)
    refine Ee 12 S hsel rfl rfl (by kernel_rfl) (by kernel_rfl) rfl (fun _=>(hr7 _)) ?_;clear S;intro a S
    clear hr7
    refine Rf 13 (Al.ownBlock.toList) rfl (by kernel_rfl) rfl (Le (c:=0) (j:=x2.toNat) (nth x1 x3) Dg.enc_ok S (S.tm rfl) (S.tm rfl) (i:=0) rfl hg7 (Dc hc3).1 sizeOf40 (vs:=[sV ((nth x1 x3).Key),iV ((nth x1 x3).Metres),iV ((nth x1 x3).Stroke),iV ((nth x1 x3).Course),iV ((nth x1 x3).Legs),iV ((nth x1 x3).Sex),iV ((nth x1 x3).Young),iV ((nth x1 x3).Old)]) rfl rfl rfl rfl rfl ?_);clear S;intro w9 hk7 S
    refine Ld (Rh ?_)
    obtain ⟨b8,hg8,hr8⟩:=Eu (a:=a) (x:=.tmp 16) (y:=.tmp 17) (ty:=0) Sw Dg.enc_ok S (i:=0) rfl (Dc hc4).1 (Dc hc4).2 (S.tm rfl) (S.tm rfl)
    refine De 14 S hsel rfl rfl rfl (by kernel_rfl) (by kernel_rfl) rfl (fun _ hw=>(hr8 _)) ?_;clear S;intro a S
    clear hr8
    refine Ff 15 (by kernel_rfl) rfl (Le (c:=0) (j:=x3.toNat) (nth x1 x2) Dg.enc_ok S (S.tm rfl) (S.tm rfl) (i:=0) rfl hg8 (Dc hc4).1 sizeOf40 (vs:=[sV ((nth x1 x2).Key),iV ((nth x1 x2).Metres),iV ((nth x1 x2).Stroke),iV ((nth x1 x2).Course),iV ((nth x1 x2).Legs),iV ((nth x1 x2).Sex),iV ((nth x1 x2).Young),iV ((nth x1 x2).Old)]) rfl rfl rfl rfl rfl ?_);clear S;intro w11 hk9 S
    refine Ld (Gl hk9 (Se (by kernel_rfl) ?_))
    clear hsel
    replace S:=(S.nl [.own Al 40 8 ((x1.set x2.toNat (nth x1 x3)).set x3.toNat (nth x1 x2)).length (((x1.set x2.toNat (nth x1 x3)).set x3.toNat (nth x1 x2)).flatMap Dg.enc)] [true] rfl).k3 0 2 3 rfl
    refine Gy (Tn (Fg (Vm S rfl rfl fun a S=>Vq S Fa rfl rfl rfl fun a S=>Vm S rfl rfl fun a S=>Vq S Gp rfl rfl rfl fun a S=>Va S rfl rfl fun a S=>Va S rfl rfl fun a S=>Dl ?_)))
    exact ⟨m1,⟨((x1.set x2.toNat (nth x1 x3)).set x3.toNat (nth x1 x2)),W (x2 + 1),W (x3 - 1),h,S.nf [true] rfl ⟨rfl,rfl,rfl,trivial⟩⟩,Nat.lt_succ_self _⟩
   ·exact wp_exit (Dt (Dt (Gh (Tn (⟨x1,h,S.nf [true] rfl trivial⟩)))))
 clear S h;rintro a w2 ⟨x1,h,S⟩;rw [hj1] at h;clear hj1 j1
 obtain rfl:=Option.some.inj h
 exact Ph S results15 ⟨(S.holds _ (List.mem_of_getElem? (i:=0) rfl)),rfl⟩
theorem Yh (w : World) (O : Nat) (V : Value) (Ak : List Int) (Ai : Slc (view w [O]) 1 V (Ak.map eInt)) (Ag : Int) (Ar : (LEnt.blk O [V,iV Ag] 25).holds w) (r : Ln × Int) (h : Ol Ak Ag = some r) :
    Calls prog 4 [.pointer (some ⟨O,0,none⟩)].toArray w (Ret w [O] fun τ v w'=>(LEnt.blk O [V,iV r.2] 25).holds w' ∧ ∃ (q : R32) (z : RS),v = .agg (R32.enc { q with Races:=z }).toArray ∧ Pq τ 40 8 z.val r.1.Races.length (r.1.Races.flatMap Dg.enc) ∧ Ru (DI τ z.val) { r.1 with Races:=[] } q):=by
 refine Iy [O] [.blk O [V,iV Ag] 25] func4 rfl ntmps4 rfl (fun e he=>by simp only [List.mem_singleton] at he;subst he;exact Ar) (by simp [fps,LEnt.fp]) (by simp [fps,LEnt.fp]) fun a S=>?_
 unfold Ol at h
 replace S:=(S.nl [.blk O [V,iV Ag] 25] [true] rfl).k1 0 rfl
 refine Fr (Ic S zeroValue32 (cs:=[.slice none 0 0,.slice none 0 0,iV 0,iV 0,iV 0,iV 0,iV 0]) rfl rfl ?_);clear S;intro a w1 b1 hz1 hk1 S
 refine Dz (Vm S rfl rfl ?_);clear S;intro a S
 obtain ⟨r1,hr1,h⟩:=Ej h
 have hz2:=S.keep.size
 refine Ft 1 S (b:=O) rfl rfl (fun _=>.blk O [V,iV r1.2] 25) (fun _=>Cz (vs:=[.pointer (some ⟨O,0,none⟩)]) ⟨(S.tm rfl),trivial⟩ call13) (Yg _ O V Ak (Ai.mono (S.le_arg (Hd (i:=1) (e:=.blk O [V,iV Ag] 25) rfl))) Ag (S.holds _ (List.mem_of_getElem? (i:=1) rfl)) _ hr1) rfl (fun _ _ _ h=>⟨h.1,fun _ hc=>by cases hc;rfl⟩) ?_;clear S;intro v1 a w2 hv1 hk2 hn1 S
 replace hv1:=hv1.2
 replace S:=S.take hn1 hz2 hv1
 refine Vm S rfl rfl ?_;clear S;intro a S
 obtain ⟨r2,hr2,h⟩:=Ej h
 have hz3:=S.keep.size
 refine Ft 2 S (b:=O) rfl rfl (fun _=>.blk O [V,iV r2.2] 25) (fun _=>Cz (vs:=[.pointer (some ⟨O,0,none⟩)]) ⟨(S.tm rfl),trivial⟩ call14) (Xa _ O V Ak (Ai.mono (S.le_arg (Hd (i:=2) (e:=.blk O [V,iV r1.2] 25) rfl))) r1.2 (S.holds _ (List.mem_of_getElem? (i:=2) rfl)) _ hr2) rfl (fun _ _ _ h=>⟨h.1,fun _ hc=>by cases hc;rfl⟩) ?_;clear S;intro v2 a w3 hv2 hk3 hn2 S
 replace hv2:=hv2.2
 obtain ⟨q1,rfl,hq1⟩:=hv2
 obtain ⟨φ1,hl1,hm1,S⟩:=S.see' hn2 hz3
 obtain ⟨u3,rfl,hs1⟩:=Ug hm1 _ _ hq1
 refine Vm S rfl rfl ?_;clear S;intro a S
 obtain ⟨r3,hr3,h⟩:=Ej h
 refine Ft 2 S (b:=O) rfl rfl (fun _=>.blk O [V,iV r3.2] 25) (fun _=>Cz (vs:=[.pointer (some ⟨O,0,none⟩),iV 1,iV 3]) ⟨(S.tm rfl),rfl,rfl,trivial⟩ call6) (Mi _ O V Ak (Ai.mono (S.le_arg (Hd (i:=2) (e:=.blk O [V,iV r2.2] 25) rfl))) r2.2 (S.holds _ (List.mem_of_getElem? (i:=2) rfl)) 1 3 _ hr3) rfl (fun _ _ _ h=>⟨h.1,fun _ hc=>by cases hc;rfl⟩) ?_;clear S;intro v3 a w4 hv3 hk4 hn3 S
 replace hv3:=hv3.2
 subst hv3
 refine Vm S rfl rfl ?_;clear S;intro a S
 obtain ⟨r4,hr4,h⟩:=Ej h
 refine Ft 2 S (b:=O) rfl rfl (fun _=>.blk O [V,iV r4.2] 25) (fun _=>Cz (vs:=[.pointer (some ⟨O,0,none⟩),iV 1,iV 2]) ⟨(S.tm rfl),rfl,rfl,trivial⟩ call6) (Mi _ O V Ak (Ai.mono (S.le_arg (Hd (i:=2) (e:=.blk O [V,iV r3.2] 25) rfl))) r3.2 (S.holds _ (List.mem_of_getElem? (i:=2) rfl)) 1 2 _ hr4) rfl (fun _ _ _ h=>⟨h.1,fun _ hc=>by cases hc;rfl⟩) ?_;clear S;intro v4 a w5 hv4 hk5 hn4 S
 replace hv4:=hv4.2
 subst hv4
 refine Vm S rfl rfl ?_;clear S;intro a S
 obtain ⟨r5,hr5,h⟩:=Ej h
 refine Ft 2 S (b:=O) rfl rfl (fun _=>.blk O [V,iV r5.2] 25) (fun _=>Cz (vs:=[.pointer (some ⟨O,0,none⟩),iV 0,iV 2]) ⟨(S.tm rfl),rfl,rfl,trivial⟩ call6) (Mi _ O V Ak (Ai.mono (S.le_arg (Hd (i:=2) (e:=.blk O [V,iV r4.2] 25) rfl))) r4.2 (S.holds _ (List.mem_of_getElem? (i:=2) rfl)) 0 2 _ hr5) rfl (fun _ _ _ h=>⟨h.1,fun _ hc=>by cases hc;rfl⟩) ?_;clear S;intro v5 a w6 hv5 hk6 hn5 S
 replace hv5:=hv5.2
 subst hv5
 refine lv S (Mw bt_30 (pv:=[(0,iV r3.1),(1,iV r4.1),(2,iV r5.1)]) ⟨rfl,(S.tm rfl),rfl,(S.tm rfl),rfl,(S.tm rfl),trivial⟩ (cs:=[iV r3.1,iV r4.1,iV r5.1]) (by kernel_rfl)) rfl ?_;clear S;intro a S
 refine lv S (Mw bt_32 (pv:=[(0,v1),(1,.agg #[u3.val,iV r2.1.Relay,iV r2.1.Most]),(2,.agg #[iV r3.1,iV r4.1,iV r5.1])]) ⟨rfl,(S.tm rfl),rfl,(S.tm rfl),rfl,(S.tm rfl),trivial⟩ (cs:=[v1,u3.val,iV r2.1.Relay,iV r2.1.Most,iV r3.1,iV r4.1,iV r5.1]) (by obtain ⟨_,_,hv⟩:=(Iz (S.own_at (i:=0) rfl));rw [hv];clear hv;obtain ⟨_,_,hv⟩:=(Fm hs1);rw [hv];clear hv;kernel_rfl)) rfl ?_;clear S;intro a S
 refine Ic S zeroValue32 (cs:=[.slice none 0 0,.slice none 0 0,iV 0,iV 0,iV 0,iV 0,iV 0]) rfl rfl ?_;clear S;intro a w7 b2 hz4 hk7 S
 refine Ep S (S.tm rfl) (S.tm rfl) (i:=0) (off:=0) rfl sizeOf32 (vs:=[v1,u3.val,iV r2.1.Relay,iV r2.1.Most,iV r3.1,iV r4.1,iV r5.1]) rfl rfl rfl (Rk (Iu.one (Iz (S.own_at (i:=1) rfl))) (Rk (Iu.one (Fm hs1)) (Rk rfl (Rk rfl (Rk rfl (Rk rfl (Rk rfl rfl))))))) ?_;clear S;intro w8 hk8 S
 refine Ld ?_
 replace S:=(S.nl [.blk b2 [v1,u3.val,iV r2.1.Relay,iV r2.1.Most,iV r3.1,iV r4.1,iV r5.1] 32,.own v1 40 8 r1.1.length (r1.1.flatMap Dg.enc),.blk b1 [.slice none 0 0,.slice none 0 0,iV 0,iV 0,iV 0,iV 0,iV 0] 32,.blk O [V,iV r5.2] 25] [true,true,true,true] rfl).k2 2 3 rfl
 refine Tn (Fr (Vf Vz S rfl rfl fun a S=>Vl isAgg26 0 S rfl rfl rfl rfl ?_));clear S;intro a S
 obtain ⟨r6,hr6,h⟩:=Ej h
 refine Km 1 S rfl (fun _=>.own v1 40 8 r6.length (r6.flatMap Dg.enc)) (fun _=>Cz (vs:=[v1]) ⟨(S.tm rfl),trivial⟩ call15) (Wb _ v1 r1.1 (S.holds _ (List.mem_of_getElem? (i:=1) rfl)) _ hr6) rfl (fun _ _ _ h=>⟨h.1,fun _ hc=>hc⟩) ?_;clear S;intro v6 a w9 hv6 hk9 hn6 S
 replace hv6:=hv6.2
 subst hv6
 refine Dz (lv S (Fb isAgg32 sizeOf32 (off:=0) (o:=0) (part:=[v1,u3.val,iV r2.1.Relay,iV r2.1.Most,iV r3.1,iV r4.1,iV r5.1]) rfl rfl (S.tm rfl) (S.cellsAt (i:=0) rfl)) rfl fun a S=>Ep S (S.tm rfl) (S.tm rfl) (i:=2) (off:=0) rfl sizeOf32 (vs:=[v1,u3.val,iV r2.1.Relay,iV r2.1.Most,iV r3.1,iV r4.1,iV r5.1]) rfl rfl rfl (Rk (Iu.one (Iz (S.own_at (i:=1) rfl))) (Rk (Iu.one (Fm hs1)) (Rk rfl (Rk rfl (Rk rfl (Rk rfl (Rk rfl rfl))))))) ?_);clear S;intro w10 hk10 S
 refine Dl (wp_ret ?_)
 obtain rfl:=Option.some.inj h
 exact Vt S (rs:=[.cell 2 32]) (vs:=[.agg (R32.enc { (R32.mk ⟨.slice none 0 0,rfl⟩ (R28.mk u3 r2.1.Relay r2.1.Most) (Pj.mk r3.1 r4.1 r5.1)) with Races:=⟨v1,Iu.one (Iz (S.own_at (i:=1) rfl))⟩ }).toArray]) results4 ⟨(Ri (off:=0) S rfl isAgg32 sizeOf32 rfl (S.cellsAt (i:=2) rfl)),trivial⟩ rfl ⟨(S.holds _ (List.mem_of_getElem? (i:=3) rfl)),⟨(R32.mk ⟨.slice none 0 0,rfl⟩ (R28.mk u3 r2.1.Relay r2.1.Most) (Pj.mk r3.1 r4.1 r5.1)),⟨v1,Iu.one (Iz (S.own_at (i:=1) rfl))⟩,rfl,(CF S (i:=1) rfl (fun c hc hh=>Xq S (i:=3) rfl rfl (j:=1) rfl rfl (by simp at hc;subst hc;exact hh))),Uh (S.le_hide (i:=1) rfl) _ _ ⟨⟨.slice none 0 0,rfl⟩,(R28.mk u3 r2.1.Relay r2.1.Most),rfl,(FB _ _),⟨u3,rfl,hs1⟩⟩⟩⟩
theorem Li (w : World) (O : Nat) (V : Value) (Ak : List Int) (Ai : Slc (view w [O]) 1 V (Ak.map eInt)) (Ag : Int) (Ar : (LEnt.blk O [V,iV Ag] 25).holds w) (Ac : Value) (Ae : List ByteArray) (Ah : Slc (view w [O]) 1 Ac (Ae.map Jw)) (r : ByteArray × Int) (h : Kw Ak Ag Ae = some r) :
    Calls prog 35 [.pointer (some ⟨O,0,none⟩),Ac].toArray w (Ret w [O] fun _ v w'=>(LEnt.blk O [V,iV r.2] 25).holds w' ∧ v = sV r.1):=by
 refine Iy [O] [.blk O [V,iV Ag] 25] func35 rfl ntmps35 rfl (fun e he=>by simp only [List.mem_singleton] at he;subst he;exact Ar) (by simp [fps,LEnt.fp]) (by simp [fps,LEnt.fp]) fun a S=>?_
 unfold Kw at h
 replace S:=(S.nl [.blk O [V,iV Ag] 25] [true] rfl).k2 0 1 rfl
 refine Fr (Vk S rfl rfl fun a S=>Dl (Fs (Fg ?_)))
 iterate 3 (refine Vm S rfl rfl ?_;clear S;intro a S)
 refine lv S (Fi Nc (S.tm rfl) (Fm Ah)) rfl ?_;clear S;intro a S
 obtain ⟨r1,hr1,h⟩:=Ej h
 refine Ft 0 S (b:=O) rfl rfl (fun _=>.blk O [V,iV r1.2] 25) (fun _=>Cz (vs:=[.pointer (some ⟨O,0,none⟩),iV (Ae.length : Int)]) ⟨(S.tm rfl),(S.tm rfl),trivial⟩ call18) (Pv _ O V Ak (Ai.mono (S.le_arg (Hd (i:=0) (e:=.blk O [V,iV Ag] 25) rfl))) Ag (S.holds _ (List.mem_of_getElem? (i:=0) rfl)) (Ae.length : Int) _ hr1) rfl (fun _ _ _ h=>⟨h.1,fun _ hc=>by cases hc;rfl⟩) ?_;clear S;intro v1 a w1 hv1 hk1 hn1 S
 replace hv1:=hv1.2
 subst hv1
 obtain ⟨hc1,h⟩:=Gu h
 obtain ⟨b1,o1,hm1,hr2⟩:=Fu (a:=a) (x:=.tmp 5) (y:=.tmp 9) (ty:=0) Nc Ah (Dc hc1).1 (Dc hc1).2 (S.tm rfl) (S.tm rfl)
 refine lv S (hr2 _) rfl ?_;clear S;intro a S
 clear hr2
 refine lv S (Gj isAgg9 (off:=o1) (o:=0) (S.tm rfl) (hm1.at S.emb0) rfl) rfl fun a S=>Va S rfl rfl fun a S=>Dl (wp_ret ?_)
 obtain rfl:=Option.some.inj h
 exact Ds S results35 rfl ⟨(S.holds _ (List.mem_of_getElem? (i:=0) rfl)),rfl⟩
theorem Ql (w : World) (O : Nat) (V : Value) (Ak : List Int) (Ai : Slc (view w [O]) 1 V (Ak.map eInt)) (Ag : Int) (Ar : (LEnt.blk O [V,iV Ag] 25).holds w) (Bi : Int) (Bc : Int) (r : Int × Int) (h : Ou Ak Ag Bi Bc = some r) :
    Calls prog 36 [.pointer (some ⟨O,0,none⟩),iV Bi,iV Bc].toArray w (Ret w [O] fun _ v w'=>(LEnt.blk O [V,iV r.2] 25).holds w' ∧ v = iV r.1):=by
 refine Iy [O] [.blk O [V,iV Ag] 25] func36 rfl ntmps36 rfl (fun e he=>by simp only [List.mem_singleton] at he;subst he;exact Ar) (by simp [fps,LEnt.fp]) (by simp [fps,LEnt.fp]) fun a S=>?_
 unfold Ou at h
 replace S:=(S.nl [.blk O [V,iV Ag] 25] [true] rfl).k3 0 1 2 rfl
 refine Fr (Vk S rfl rfl fun a S=>Dl (Fs (Fr (Vm S rfl rfl ?_))));clear S;intro a S
 obtain ⟨r1,hr1,h⟩:=Ej h
 refine Ft 0 S (b:=O) rfl rfl (fun _=>.blk O [V,iV r1.2] 25) (fun _=>Cz (vs:=[.pointer (some ⟨O,0,none⟩),iV 12]) ⟨(S.tm rfl),rfl,trivial⟩ call32) (Tx _ O V Ak (Ai.mono (S.le_arg (Hd (i:=0) (e:=.blk O [V,iV Ag] 25) rfl))) Ag (S.holds _ (List.mem_of_getElem? (i:=0) rfl)) 12 _ hr1) rfl (fun _ _ _ h=>⟨h.1,fun _ hc=>by cases hc;rfl⟩) ?_;clear S;intro v1 a w1 hv1 hk1 hn1 S
 replace hv1:=hv1.2
 subst hv1
 refine Dl (Fc h (S.tm rfl) (fun hb1 h=>?_) (fun hb1 h=>?_))
 ·refine Fr (Vm S rfl rfl fun a S=>Vm S rfl rfl fun a S=>Vq S Gp rfl rfl rfl fun a S=>Vm S rfl rfl fun a S=>Vq S Fa rfl rfl rfl fun a S=>Vm S rfl rfl fun a S=>Vm S rfl rfl fun a S=>Dv S underlying22 sizeOf3 zeroValue3 rfl rfl (pv:=[(0,iV (W (Bi - 1))),(1,iV (W (Bc + 1))),(2,iV Bi),(3,iV Bc),(4,iV (-1099511627776)),(5,iV 1099511627776)]) ⟨rfl,(S.tm rfl),rfl,(S.tm rfl),rfl,(S.tm rfl),rfl,(S.tm rfl),rfl,rfl,rfl,rfl,trivial⟩ (cs:=[iV (W (Bi - 1)),iV (W (Bc + 1)),iV Bi,iV Bc,iV (-1099511627776),iV 1099511627776]) (by kernel_rfl) rfl ?_);clear S;intro a w2 b1 hz1 hk2 S
  obtain ⟨r2,hr2,h⟩:=Ej h
  refine Ft 1 S (b:=O) rfl rfl (fun _=>.blk O [V,iV r2.2] 25) (fun _=>Cz (vs:=[.pointer (some ⟨O,0,none⟩),.slice (some ⟨b1,0,none⟩) 6 6]) ⟨(S.tm rfl),(S.tm rfl),trivial⟩ call34) (Hh _ O V Ak (Ai.mono (S.le_arg (Hd (i:=1) (e:=.blk O [V,iV r1.2] 25) rfl))) r1.2 (S.holds _ (List.mem_of_getElem? (i:=1) rfl)) (.slice (some ⟨b1,0,none⟩) 6 6) [W (Bi - 1),W (Bc + 1),Bi,Bc,(-1099511627776),1099511627776] (Ib Fd S (i:=0) rfl rfl rfl rfl ((Jl (i:=1) (j:=0) (e:=.blk O [V,iV r1.2] 25) (e':=.blk b1 [iV (W (Bi - 1)),iV (W (Bc + 1)),iV Bi,iV Bc,iV (-1099511627776),iV 1099511627776] 3) S rfl rfl rfl) _ rfl)) _ hr2) rfl (fun _ _ _ h=>⟨h.1,fun _ hc=>by cases hc;rfl⟩) ?_;clear S;intro v2 a w3 hv2 hk3 hn2 S
  replace hv2:=hv2.2
  subst hv2
  refine Va S rfl rfl fun a S=>Ld ?_
  replace S:=(S.nl [.blk O [V,iV r2.2] 25] [false,true] rfl).k1 6 rfl
  refine Tn (wp_ret (Db ?_))
  obtain rfl:=Option.some.inj h
  exact Ds S results36 rfl ⟨(S.holds _ (List.mem_of_getElem? (i:=0) rfl)),rfl⟩
 ·refine wp_skip (Tn (Fs (Fg ?_)))
  iterate 3 (refine Vm S rfl rfl ?_;clear S;intro a S)
  obtain ⟨r3,hr3,h⟩:=Ej h
  refine Ft 0 S (b:=O) rfl rfl (fun _=>.blk O [V,iV r3.2] 25) (fun _=>Cz (vs:=[.pointer (some ⟨O,0,none⟩),iV Bi,iV Bc]) ⟨(S.tm rfl),(S.tm rfl),(S.tm rfl),trivial⟩ call6) (Mi _ O V Ak (Ai.mono (S.le_arg (Hd (i:=0) (e:=.blk O [V,iV r1.2] 25) rfl))) r1.2 (S.holds _ (List.mem_of_getElem? (i:=0) rfl)) Bi Bc _ hr3) rfl (fun _ _ _ h=>⟨h.1,fun _ hc=>by cases hc;rfl⟩) ?_;clear S;intro v3 a w4 hv3 hk4 hn3 S
  replace hv3:=hv3.2
  subst hv3
  refine Va S rfl rfl fun a S=>Dl (wp_ret ?_)
  obtain rfl:=Option.some.inj h
  exact Ds S results36 rfl ⟨(S.holds _ (List.mem_of_getElem? (i:=0) rfl)),rfl⟩
theorem Vc (w : World) (Av : Int) (r : Int) (h : Qj Av = r) :
    Calls prog 79 [iV Av].toArray w (Ret w [] fun _ v _=>v = iV r):=by
 refine Fe func79 rfl ntmps79 rfl fun a S=>?_
 unfold Qj at h
 replace S:=S.k1 0 rfl
 refine Fr (Vk S rfl rfl fun a S=>Dl (Fs (wp_block (Fr (Vm S rfl rfl fun a S=>Vq S Ev rfl rfl rfl ?_)))));clear S;intro a S
 refine Va S rfl rfl fun a S=>Dl (Fc h (S.tm rfl) (fun hb1 h=>?_) (fun hb1 h=>?_))
 ·refine Fr (Vk S rfl rfl fun a S=>Dl (wp_ret (Gc (Db ?_))))
  subst h
  exact Ds S results79 rfl rfl
 ·refine Fr (Vm S rfl rfl fun a S=>Vq S It rfl rfl rfl fun a S=>Va S rfl rfl fun a S=>Dl (Fc h (S.tm rfl) (fun hb2 h=>?_) (fun hb2 h=>?_)))
  ·refine Fr (Vk S rfl rfl fun a S=>Dl (wp_ret (Gc (Db ?_))))
   subst h
   exact Ds S results79 rfl rfl
  ·refine wp_skip (Gy (Tn (Fr (Vk S rfl rfl fun a S=>Dl (wp_ret ?_)))))
   subst h
   exact Ds S results79 rfl rfl
theorem Qv (w : World) (s t : ByteArray) (r : Int) (h : Kc s t = r) : Calls prog 80 [.string s,.string t].toArray w (Ret w [] fun _ v _=>v = .int .i64 r):=by
  subst h
  exact BA (Any.strings_Compare Tryz.lays106 s t w)
theorem Sf (w : World) (Aj : An) (Am : An) (r : Int) (h : Hp Aj Am = r) :
    Calls prog 38 [.agg (An.enc Aj).toArray,.agg (An.enc Am).toArray].toArray w (Ret w [] fun _ v _=>v = iV r):=by
 refine Fe func38 rfl ntmps38 rfl fun a S=>?_
 unfold Hp at h
 replace S:=S.k2 0 1 rfl
 refine Fr (Ks S (S.tm rfl) (cs:=(An.enc Aj)) rfl rfl ?_);clear S;intro a w1 b1 hz1 hk1 S
 refine Ks S (S.tm rfl) (cs:=(An.enc Am)) rfl rfl ?_;clear S;intro a w2 b2 hz2 hk2 S
 refine Vk S rfl rfl fun a S=>Dl (Fs (wp_block (Fr (Vf Qr S rfl rfl fun a S=>Vl isAgg3 1 S rfl rfl rfl rfl fun a S=>Vf Qr S rfl rfl fun a S=>Vl isAgg3 0 S rfl rfl rfl rfl ?_))));clear S;intro a S
 refine Vb S Kg rfl rfl rfl fun a S=>Va S rfl rfl fun a S=>Dl (Fc h (S.tm rfl) (fun hb1 h=>?_) (fun hb1 h=>?_))
 ·refine Fr (Vf Qr S rfl rfl fun a S=>Vl isAgg3 1 S rfl rfl rfl rfl fun a S=>Vf Qr S rfl rfl fun a S=>Vl isAgg3 0 S rfl rfl rfl rfl fun a S=>Vb S Gp rfl rfl rfl fun a S=>Dd S (fun _=>Cz (vs:=[iV (W (Aj.At - Am.At))]) ⟨(S.tm rfl),trivial⟩ call79) (Vc _ (W (Aj.At - Am.At)) _ rfl) rfl ?_);clear S;intro v1 a w3 hv1 hk3 hn1 S
  subst hv1
  refine Va S rfl rfl fun a S=>Ld ?_
  replace S:=S.n0.k1 4 rfl
  refine Tn (wp_ret (Gc (Db ?_)))
  subst h
  exact Ds S results38 rfl rfl
 ·refine Fr (Vf Oh S rfl rfl fun a S=>Vl isAgg9 1 S rfl rfl rfl rfl fun a S=>Vf Oh S rfl rfl fun a S=>Vl isAgg9 0 S rfl rfl rfl rfl fun a S=>Vb S Xo rfl rfl rfl fun a S=>Va S rfl rfl fun a S=>Ld ?_)
  replace S:=(S.nl [.blk b2 (An.enc Am) 93,.blk b1 (An.enc Aj) 93] [true,true] rfl).k3 2 3 17 rfl
  refine Tn (Fc h (S.tm rfl) (fun hb2 h=>?_) (fun hb2 h=>?_))
  ·refine Fr (Vf Oh S rfl rfl fun a S=>Vl isAgg9 1 S rfl rfl rfl rfl fun a S=>Vf Oh S rfl rfl fun a S=>Vl isAgg9 0 S rfl rfl rfl rfl fun a S=>Dd S (fun _=>Cz (vs:=[sV Aj.Site,sV Am.Site]) ⟨(S.tm rfl),(S.tm rfl),trivial⟩ call80) (Qv _ Aj.Site Am.Site _ rfl) rfl ?_);clear S;intro v2 a w4 hv2 hk4 hn2 S
   subst hv2
   refine Va S rfl rfl fun a S=>Dl (wp_ret (Gc (Db ?_)))
   subst h
   exact Ds S results38 rfl rfl
  ·refine wp_skip (Gy (Tn (Fr (Vf Qc S rfl rfl fun a S=>Vl isAgg3 1 S rfl rfl rfl rfl fun a S=>Vf Qc S rfl rfl fun a S=>Vl isAgg3 0 S rfl rfl rfl rfl fun a S=>Vb S Gp rfl rfl rfl fun a S=>Dd S (fun _=>Cz (vs:=[iV (W (Aj.No - Am.No))]) ⟨(S.tm rfl),trivial⟩ call79) (Vc _ (W (Aj.No - Am.No)) _ rfl) rfl ?_))));clear S;intro v3 a w5 hv3 hk5 hn3 S
   subst hv3
   refine Va S rfl rfl fun a S=>Dl (wp_ret ?_)
   subst h
   exact Ds S results38 rfl rfl
set_option maxRecDepth 20000 in
theorem Jn (w : World) (U : Value) (Af : List An) (Bb : (LEnt.own U 93 11 Af.length (Af.flatMap An.enc)).holds w) (Aj : Int) (Am : Int) (r : (List An)) (h : Fh Af Aj Am = some r) :
    Calls prog 108 [U,iV Aj,iV Am,.func (.func 38) #[] #[]].toArray w (Ret w (U.ownBlock.toList) fun _ v w'=>(LEnt.own U 93 11 r.length (r.flatMap An.enc)).holds w' ∧ v = .tuple #[]):=by
 refine Iy (U.ownBlock.toList) [.own U 93 11 Af.length (Af.flatMap An.enc)] func108 rfl ntmps108 rfl (fun e he=>by simp only [List.mem_singleton] at he;subst he;exact Bb) (Hb _) (Ip _) fun a S=>?_
 unfold Fh at h
 replace S:=(S.nl [.own U 93 11 Af.length (Af.flatMap An.enc)] [true] rfl).k4 0 1 2 3 rfl
 refine Fr (Vm S rfl rfl fun a S=>Vq S Fa rfl rfl rfl fun a S=>Va S rfl rfl fun a S=>Dl ?_)
 replace S:=S.k5 0 1 2 3 8 rfl
 obtain ⟨j1,hj1,h⟩:=Eo h
 refine Dy (fun a w'=>∃ x1 : List An,j1 x1 = some r ∧ Sx w (U.ownBlock.toList) nov [.own U 93 11 x1.length (x1.flatMap An.enc)] [] 53 a w') ?_ ?_
 ·refine wp_block (Gs (fun (m1 : Nat) a w'=>∃ x1 : List An,∃ x2 : Int,Du Am Aj j1 m1 x1 x2 = some r ∧ Sx w (U.ownBlock.toList) nov [.own U 93 11 x1.length (x1.flatMap An.enc)] [(0,U),(1,iV Aj),(2,iV Am),(3,.func (.func 38) #[] #[]),(8,iV x2)] 53 a w') id ((Am - (W (Aj + 1))).toNat + 2) ⟨Af,W (Aj + 1),h,S.nf [true] rfl (subR rfl)⟩ ?_)
  clear S h;rintro m1 a w1 ⟨x1,x2,h,S⟩
  cases m1 with
  | zero=>rw [Du.eq_1] at h;cases h
  | succ m1 =>
   rw [Du.eq_2] at h
   refine Fs (Fr (Vm S rfl rfl fun a S=>Vm S rfl rfl fun a S=>Vb S Ev rfl rfl rfl fun a S=>Dl (Fc h (S.tm rfl) (fun hb1 h=>?_) (fun hb1 h=>?_))))
   ·refine wp_skip (Tn (Fs (wp_block (Fr (Vm S rfl rfl fun a S=>Va S rfl rfl fun a S=>Dl ?_)))))
    replace S:=S.k6 0 1 2 3 8 9 rfl
    obtain ⟨j2,hj2,h⟩:=Eo h
    refine Dy (fun a w'=>∃ x3 : List An,j2 x3 = some r ∧ Sx w (U.ownBlock.toList) nov [.own U 93 11 x3.length (x3.flatMap An.enc)] [(0,U),(1,iV Aj),(2,iV Am),(3,.func (.func 38) #[] #[]),(8,iV x2)] 53 a w') ?_ ?_
    ·refine wp_block (Gs (fun (m2 : Nat) a w'=>∃ x3 : List An,∃ x4 : Int,Di Aj j2 m2 x3 x4 = some r ∧ Sx w (U.ownBlock.toList) nov [.own U 93 11 x3.length (x3.flatMap An.enc)] [(0,U),(1,iV Aj),(2,iV Am),(3,.func (.func 38) #[] #[]),(8,iV x2),(9,iV x4)] 53 a w') id ((x2 - Aj).toNat + 2) ⟨x1,x2,h,S.nf [true] rfl (subR rfl)⟩ ?_)
     clear S h;rintro m2 a w3 ⟨x3,x4,h,S⟩
     cases m2 with
     | zero=>rw [Di.eq_1] at h;cases h
     | succ m2 =>
      rw [Di.eq_2] at h
      refine Fs (Fs ?_)
      obtain ⟨j3,hj3,h⟩:=Eo h
      refine Dy (fun a w'=>∃ x5 : Bool,j3 x5 = some r ∧ Sx w (U.ownBlock.toList) nov [.own U 93 11 x3.length (x3.flatMap An.enc)] [(0,U),(1,iV Aj),(2,iV Am),(3,.func (.func 38) #[] #[]),(8,iV x2),(9,iV x4),(34,bV x5)] 53 a w') ?_ ?_
      ·rcases Bool.eq_false_or_eq_true (decide (Aj < x4)) with hb2 | hb2
       ·replace h:=Rb h hb2
        obtain ⟨hc1,h⟩:=Gu h
        obtain ⟨hc2,h⟩:=Gu h
        refine Fo [] ([]) Tryz.mixed S rfl (by kernel_rfl) ?_;clear S;intro w7 hk2 hsel S
        refine De 0 S hsel rfl rfl rfl (by kernel_rfl) (by kernel_rfl) rfl (fun _ hw=>(Rm (S.tm rfl))) fun a S=>De 1 S hsel rfl rfl rfl (by kernel_rfl) (by kernel_rfl) rfl (fun _ hw=>(Rm (S.tm rfl))) fun a S=>De 2 S hsel rfl rfl rfl (by kernel_rfl) (by kernel_rfl) rfl (fun _ hw=>(It (S.tm rfl) (S.tm rfl))) fun a S=>De 3 S hsel rfl rfl rfl (by kernel_rfl) (by kernel_rfl) rfl (fun _ hw=>(Rm (S.tm rfl))) fun a S=>Dj 4 S hsel rfl rfl rfl rfl hb2 rfl rfl (by kernel_rfl) (by kernel_rfl) rfl (fun _ hw=>(Rm (S.tm rfl))) fun a S=>Dj 5 S hsel rfl rfl rfl rfl hb2 rfl rfl (by kernel_rfl) (by kernel_rfl) rfl (fun _ hw=>(Rm (S.tm rfl))) fun a S=>Dj 6 S hsel rfl rfl rfl rfl hb2 rfl rfl (by kernel_rfl) (by kernel_rfl) rfl (fun _ hw=>(Rm (S.tm rfl))) ?_;clear S;intro a S
        obtain ⟨b3,hg3,hr3⟩:=Eu (a:=a) (x:=.tmp 23) (y:=.tmp 24) (ty:=0) Ll An.enc_ok S (i:=0) rfl (Dc hc1).1 (Dc hc1).2 (S.tm rfl) (S.tm rfl)
        refine Dj 7 S hsel rfl rfl rfl rfl hb2 rfl rfl (by kernel_rfl) (by kernel_rfl) rfl (fun _ hw=>(hr3 _)) ?_;clear S;intro a S
        clear hr3
        refine Dj 8 S hsel rfl rfl rfl rfl hb2 rfl rfl (by kernel_rfl) (by kernel_rfl) rfl (fun _ hw=>(Fb isAgg93 sizeOf93 (off:=x4.toNat * 11) (o:=0) (part:=(An.enc (nth x3 x4))) rfl rfl (S.tm rfl) ((Kk An.enc_ok S (i:=0) rfl hg3 (Dc hc1).1 (Gt (e':=.own U 93 11 x3.length (x3.flatMap An.enc)))).kept hw))) fun a S=>Dj 9 S hsel rfl rfl rfl rfl hb2 rfl rfl (by kernel_rfl) (by kernel_rfl) rfl (fun _ hw=>(Rm (S.tm rfl))) fun a S=>Dj 10 S hsel rfl rfl rfl rfl hb2 rfl rfl (by kernel_rfl) (by kernel_rfl) rfl (fun _ hw=>(Rm (S.tm rfl))) fun a S=>Dj 11 S hsel rfl rfl rfl rfl hb2 rfl rfl (by kernel_rfl) (by kernel_rfl) rfl (fun _ hw=>(Gp (S.tm rfl) rfl)) ?_;clear S;intro a S
        obtain ⟨b4,hg4,hr4⟩:=Eu (a:=a) (x:=.tmp 27) (y:=.tmp 29) (ty:=0) Ll An.enc_ok S (i:=0) rfl (Dc hc2).1 (Dc hc2).2 (S.tm rfl) (S.tm rfl)
        refine Dj 12 S hsel rfl rfl rfl rfl hb2 rfl rfl (by kernel_rfl) (by kernel_rfl) rfl (fun _ hw=>(hr4 _)) ?_;clear S;intro a S
        clear hr4
        refine Dj 13 S hsel rfl rfl rfl rfl hb2 rfl rfl (by kernel_rfl) (by kernel_rfl) rfl (fun _ hw=>(Fb isAgg93 sizeOf93 (off:=((W (x4 - 1)).toNat) * 11) (o:=0) (part:=(An.enc (nth x3 (W (x4 - 1))))) rfl rfl (S.tm rfl) ((Kk An.enc_ok S (i:=0) rfl hg4 (Dc hc2).1 (Gt (e':=.own U 93 11 x3.length (x3.flatMap An.enc)))).kept hw))) fun a S=>Ff 14 (by kernel_rfl) rfl (Da S rfl rfl rfl hb2 (Dd S (fun _=>Si (cap:=[]) (S.tm rfl) (vs:=[.agg (An.enc (nth x3 x4)).toArray,.agg (An.enc (nth x3 (W (x4 - 1)))).toArray]) ⟨(S.tm rfl),(S.tm rfl),trivial⟩ call38) (Sf _ (nth x3 x4) (nth x3 (W (x4 - 1))) _ rfl) rfl ?_));clear S;intro v2 a w8 hv2 hk3 hn2 S
        subst hv2
        refine Ld (Gl hk3 (Js [15,16] hsel (by kernel_rfl) rfl ?_))
        clear hsel
        refine Lx S rfl rfl rfl rfl hb2 (Ok S (Ev (S.tm rfl) rfl) rfl fun a S=>Fj S rfl (Ms hb2 (S.tm rfl) (S.tm rfl)) rfl fun a S=>Jc ?_)
        replace S:=S.nk [.own U 93 11 x3.length (x3.flatMap An.enc)] [(0,U),(1,iV Aj),(2,iV Am),(3,.func (.func 38) #[] #[]),(8,iV x2),(9,iV x4),(22,.func (.func 38) #[] #[]),(23,U),(24,iV x4),(25,.pointer (some ⟨b3,x4.toNat * 11,none⟩)),(26,.agg (An.enc (nth x3 x4)).toArray),(27,U),(28,iV x4),(29,iV (W (x4 - 1))),(30,.pointer (some ⟨b4,((W (x4 - 1)).toNat) * 11,none⟩)),(31,.agg (An.enc (nth x3 (W (x4 - 1)))).toArray),(32,iV (Hp (nth x3 x4) (nth x3 (W (x4 - 1))))),(33,bV (decide ((Hp (nth x3 x4) (nth x3 (W (x4 - 1)))) < 0))),(34,bV (decide ((Hp (nth x3 x4) (nth x3 (W (x4 - 1)))) < 0)))] [true] rfl (subR rfl)
        exact Tn (⟨decide ((Hp (nth x3 x4) (nth x3 (W (x4 - 1)))) < 0),h,S.nf [true] rfl (subR rfl)⟩)
       ·replace h:=Rc h hb2
        refine Fo [] ([]) Tryz.mixed S rfl (by kernel_rfl) ?_;clear S;intro w9 hk4 hsel S
        refine Js [0,1,2,3,4,5,6,7,8,9,10,11,12,13,14,15,16] hsel (by kernel_rfl) rfl ?_
        clear hsel
        refine Fj S rfl (Rm (S.tm rfl)) rfl fun a S=>Fj S rfl (Rm (S.tm rfl)) rfl fun a S=>Fj S rfl (It (S.tm rfl) (S.tm rfl)) rfl fun a S=>Fj S rfl (Rm (S.tm rfl)) rfl ?_;clear S;intro a S
        iterate 12 (refine Rj S rfl rfl rfl rfl (Jk hb2) rfl ?_ rfl;clear S;intro a S)
        refine Fj S rfl (Mt hb2 (S.tm rfl) rfl) rfl fun a S=>Jc ?_
        replace S:=S.k7 0 1 2 3 8 9 34 rfl
        exact Tn (⟨false,h,S.nf [true] rfl (subR rfl)⟩)
      clear S h;rintro a w5 ⟨x5,h,S⟩;rw [hj3] at h;clear hj3 j3
      refine Tn (Fc h (S.tm rfl) (fun hb3 h=>?_) (fun hb3 h=>?_))
      ·refine wp_skip (Tn (Fs (wp_block ?_)))
       obtain ⟨hc3,h⟩:=Gu h
       obtain ⟨hc4,h⟩:=Gu h
       obtain ⟨hc5,h⟩:=Gu h
       obtain ⟨hc6,h⟩:=Gu h
       refine Fo [15,17] ([]) Tryz.mixed S rfl (by kernel_rfl) ?_;clear S;intro w14 hk9 hsel S
       refine Ee 0 S hsel rfl rfl (by kernel_rfl) (by kernel_rfl) rfl (fun _=>(Rm (S.tm rfl))) fun a S=>Ee 1 S hsel rfl rfl (by kernel_rfl) (by kernel_rfl) rfl (fun _=>(Rm (S.tm rfl))) fun a S=>Ee 2 S hsel rfl rfl (by kernel_rfl) (by kernel_rfl) rfl (fun _=>(Rm (S.tm rfl))) fun a S=>Ee 3 S hsel rfl rfl (by kernel_rfl) (by kernel_rfl) rfl (fun _=>(Rm (S.tm rfl))) fun a S=>Ee 4 S hsel rfl rfl (by kernel_rfl) (by kernel_rfl) rfl (fun _=>(Gp (S.tm rfl) rfl)) fun a S=>Ee 5 S hsel rfl rfl (by kernel_rfl) (by kernel_rfl) rfl (fun _=>(Rm (S.tm rfl))) fun a S=>Ee 6 S hsel rfl rfl (by kernel_rfl) (by kernel_rfl) rfl (fun _=>(Rm (S.tm rfl))) fun a S=>Ee 7 S hsel rfl rfl (by kernel_rfl) (by kernel_rfl) rfl (fun _=>(Gp (S.tm rfl) rfl)) ?_;clear S;intro a S
       obtain ⟨b9,hg9,hr9⟩:=Eu (a:=a) (x:=.tmp 42) (y:=.tmp 44) (ty:=0) Ll An.enc_ok S (i:=0) rfl (Dc hc3).1 (Dc hc3).2 (S.tm rfl) (S.tm rfl)
       refine Ee 8 S hsel rfl rfl (by kernel_rfl) (by kernel_rfl) rfl (fun _=>(hr9 _)) ?_;clear S;intro a S
       clear hr9
       refine De 9 S hsel rfl (by kernel_rfl) (by kernel_rfl) (by kernel_rfl) (by kernel_rfl) rfl (fun _ hw=>(Fb isAgg93 sizeOf93 (off:=((W (x4 - 1)).toNat) * 11) (o:=0) (part:=(An.enc (nth x3 (W (x4 - 1))))) rfl rfl (S.tm rfl) ((Kk An.enc_ok S (i:=0) rfl hg9 (Dc hc3).1 (Gt (e':=.own U 93 11 x3.length (x3.flatMap An.enc)))).kept hw))) fun a S=>Ee 10 S hsel rfl rfl (by kernel_rfl) (by kernel_rfl) rfl (fun _=>(Rm (S.tm rfl))) fun a S=>Ee 11 S hsel rfl rfl (by kernel_rfl) (by kernel_rfl) rfl (fun _=>(Rm (S.tm rfl))) ?_;clear S;intro a S
       obtain ⟨b10,hg10,hr10⟩:=Eu (a:=a) (x:=.tmp 47) (y:=.tmp 48) (ty:=0) Ll An.enc_ok S (i:=0) rfl (Dc hc4).1 (Dc hc4).2 (S.tm rfl) (S.tm rfl)
       refine Ee 12 S hsel rfl rfl (by kernel_rfl) (by kernel_rfl) rfl (fun _=>(hr10 _)) ?_;clear S;intro a S
       clear hr10
       refine De 13 S hsel rfl (by kernel_rfl) (by kernel_rfl) (by kernel_rfl) (by kernel_rfl) rfl (fun _ hw=>(Fb isAgg93 sizeOf93 (off:=x4.toNat * 11) (o:=0) (part:=(An.enc (nth x3 x4))) rfl rfl (S.tm rfl) ((Kk An.enc_ok S (i:=0) rfl hg10 (Dc hc4).1 (Gt (e':=.own U 93 11 x3.length (x3.flatMap An.enc)))).kept hw))) ?_;clear S;intro a S
       obtain ⟨b11,hg11,hr11⟩:=Eu (a:=a) (x:=.tmp 37) (y:=.tmp 38) (ty:=0) Ll An.enc_ok S (i:=0) rfl (Dc hc5).1 (Dc hc5).2 (S.tm rfl) (S.tm rfl)
       refine Ee 14 S hsel rfl rfl (by kernel_rfl) (by kernel_rfl) rfl (fun _=>(hr11 _)) ?_;clear S;intro a S
       clear hr11
       refine Rf 15 (U.ownBlock.toList) rfl (by kernel_rfl) rfl (Le (c:=0) (j:=x4.toNat) (nth x3 (W (x4 - 1))) An.enc_ok S (S.tm rfl) (S.tm rfl) (i:=0) rfl hg11 (Dc hc5).1 sizeOf93 (vs:=[sV ((nth x3 (W (x4 - 1))).Site),iV ((nth x3 (W (x4 - 1))).No),iV ((nth x3 (W (x4 - 1))).At),iV ((nth x3 (W (x4 - 1))).Kind),sV ((nth x3 (W (x4 - 1))).Who),sV ((nth x3 (W (x4 - 1))).Club),sV ((nth x3 (W (x4 - 1))).Race),iV ((nth x3 (W (x4 - 1))).Time),iV ((nth x3 (W (x4 - 1))).Fault),sV ((nth x3 (W (x4 - 1))).Of),iV ((nth x3 (W (x4 - 1))).Other)]) rfl rfl rfl rfl rfl ?_);clear S;intro w16 hk11 S
       refine Ld (Rh ?_)
       obtain ⟨b12,hg12,hr12⟩:=Eu (a:=a) (x:=.tmp 39) (y:=.tmp 41) (ty:=0) Ll An.enc_ok S (i:=0) rfl (Dc hc6).1 (Dc hc6).2 (S.tm rfl) (S.tm rfl)
       refine De 16 S hsel rfl rfl rfl (by kernel_rfl) (by kernel_rfl) rfl (fun _ hw=>(hr12 _)) ?_;clear S;intro a S
       clear hr12
       refine Ff 17 (by kernel_rfl) rfl (Le (c:=0) (j:=(W (x4 - 1)).toNat) (nth x3 x4) An.enc_ok S (S.tm rfl) (S.tm rfl) (i:=0) rfl hg12 (Dc hc6).1 sizeOf93 (vs:=[sV ((nth x3 x4).Site),iV ((nth x3 x4).No),iV ((nth x3 x4).At),iV ((nth x3 x4).Kind),sV ((nth x3 x4).Who),sV ((nth x3 x4).Club),sV ((nth x3 x4).Race),iV ((nth x3 x4).Time),iV ((nth x3 x4).Fault),sV ((nth x3 x4).Of),iV ((nth x3 x4).Other)]) rfl rfl rfl rfl rfl ?_);clear S;intro w18 hk13 S
       refine Ld (Gl hk13 (Se (by kernel_rfl) ?_))
       clear hsel
       replace S:=(S.nl [.own U 93 11 ((x3.set x4.toNat (nth x3 (W (x4 - 1)))).set ((W (x4 - 1)).toNat) (nth x3 x4)).length (((x3.set x4.toNat (nth x3 (W (x4 - 1)))).set ((W (x4 - 1)).toNat) (nth x3 x4)).flatMap An.enc)] [true] rfl).k6 0 1 2 3 8 9 rfl
       exact Gy (Tn (Fg (Vm S rfl rfl fun a S=>Vq S Gp rfl rfl rfl fun a S=>Va S rfl rfl fun a S=>Dl (⟨m2,⟨((x3.set x4.toNat (nth x3 (W (x4 - 1)))).set ((W (x4 - 1)).toNat) (nth x3 x4)),W (x4 - 1),h,S.nf [true] rfl ⟨rfl,rfl,rfl,rfl,rfl,rfl,trivial⟩⟩,Nat.lt_succ_self _⟩))))
      ·exact wp_exit (Dt (Dt (Gh (Tn (⟨x3,h,S.nf [true] rfl (subR rfl)⟩)))))
    clear S h;rintro a w4 ⟨x3,h,S⟩;rw [hj2] at h;clear hj2 j2
    exact Gy (Tn (Fg (Vm S rfl rfl fun a S=>Vq S Fa rfl rfl rfl fun a S=>Va S rfl rfl fun a S=>Dl (⟨m1,⟨x3,W (x2 + 1),h,S.nf [true] rfl ⟨rfl,rfl,rfl,rfl,rfl,trivial⟩⟩,Nat.lt_succ_self _⟩))))
   ·exact wp_exit (Dt (Dt (Gh (Tn (⟨x1,h,S.nf [true] rfl trivial⟩)))))
 clear S h;rintro a w2 ⟨x1,h,S⟩;rw [hj1] at h;clear hj1 j1
 obtain rfl:=Option.some.inj h
 exact Ph S results108 ⟨(S.holds _ (List.mem_of_getElem? (i:=0) rfl)),rfl⟩
theorem Nz (w : World) (U : Value) (Af : List An) (Bb : (LEnt.own U 93 11 Af.length (Af.flatMap An.enc)).holds w) (Av : Int) (r : (List An)) (h : Hm Af Av = some r) :
    Calls prog 78 [U,iV Av,.func (.func 38) #[] #[]].toArray w (Ret w (U.ownBlock.toList) fun _ v w'=>(LEnt.own U 93 11 r.length (r.flatMap An.enc)).holds w' ∧ v = .tuple #[]):=by
 refine Iy (U.ownBlock.toList) [.own U 93 11 Af.length (Af.flatMap An.enc)] func78 rfl ntmps78 rfl (fun e he=>by simp only [List.mem_singleton] at he;subst he;exact Bb) (Hb _) (Ip _) fun a S=>?_
 unfold Hm at h
 replace S:=(S.nl [.own U 93 11 Af.length (Af.flatMap An.enc)] [true] rfl).k3 0 1 2 rfl
 refine Fr (Vk S rfl rfl fun a S=>Dz (Vm S rfl rfl fun a S=>Vk S rfl rfl fun a S=>Va S rfl rfl fun a S=>Ld ?_))
 refine Tn (Fs ?_)
 replace S:=S.k6 0 1 2 6 7 8 rfl
 obtain ⟨j1,hj1,h⟩:=Eo h
 refine Dy (fun a w'=>∃ x1 : List An,∃ x2 : Int,j1 x1 x2 = some r ∧ Sx w (U.ownBlock.toList) nov [.own U 93 11 x1.length (x1.flatMap An.enc)] [(0,U),(1,iV Av),(2,.func (.func 38) #[] #[]),(6,iV 20),(7,iV x2)] 63 a w') ?_ ?_
 ·refine wp_block (Gs (fun (m1 : Nat) a w'=>∃ x1 : List An,∃ x2 : Int,∃ x3 : Int,Eg Av j1 m1 x1 x2 x3 = some r ∧ Sx w (U.ownBlock.toList) nov [.own U 93 11 x1.length (x1.flatMap An.enc)] [(0,U),(1,iV Av),(2,.func (.func 38) #[] #[]),(6,iV 20),(7,iV x2),(8,iV x3)] 63 a w') id ((Av - 20).toNat + 2) ⟨Af,0,20,h,S.nf [true] rfl (subR rfl)⟩ ?_)
  clear S h;rintro m1 a w1 ⟨x1,x2,x3,h,S⟩
  cases m1 with
  | zero=>rw [Eg.eq_1] at h;cases h
  | succ m1 =>
   rw [Eg.eq_2] at h
   refine Fs (Fr (Vm S rfl rfl fun a S=>Vm S rfl rfl fun a S=>Vb S Qt rfl rfl rfl fun a S=>Dl (Fc h (S.tm rfl) (fun hb1 h=>?_) (fun hb1 h=>?_))))
   ·refine wp_skip (Tn (wp_block (Fs (Fg ?_))))
    iterate 4 (refine Vm S rfl rfl ?_;clear S;intro a S)
    obtain ⟨r1,hr1,h⟩:=Ej h
    refine Km 0 S rfl (fun _=>.own U 93 11 r1.length (r1.flatMap An.enc)) (fun _=>Cz (vs:=[U,iV x2,iV x3,.func (.func 38) #[] #[]]) ⟨(S.tm rfl),(S.tm rfl),(S.tm rfl),(S.tm rfl),trivial⟩ call108) (Jn _ U x1 (S.holds _ (List.mem_of_getElem? (i:=0) rfl)) x2 x3 _ hr1) rfl (fun _ _ _ h=>⟨h.1,fun _ hc=>hc⟩) ?_;clear S;intro v1 a w3 hv1 hk1 hn1 S
    replace hv1:=hv1.2
    subst hv1
    refine Dz (Vm S rfl rfl fun a S=>Va S rfl rfl fun a S=>Ld ?_)
    replace S:=(S.nl [.own U 93 11 r1.length (r1.flatMap An.enc)] [true] rfl).k6 0 1 2 6 7 8 rfl
    exact Tn (Fg (Vm S rfl rfl fun a S=>Vm S rfl rfl fun a S=>Vb S Fa rfl rfl rfl fun a S=>Va S rfl rfl fun a S=>Ld (Gy (Tn (⟨m1,⟨r1,x3,W (x3 + 20),h,S.nf [true] rfl ⟨rfl,rfl,rfl,rfl,rfl,rfl,trivial⟩⟩,Nat.lt_succ_self _⟩)))))
   ·exact wp_exit (Dt (Dt (Gh (Tn (⟨x1,x2,h,S.nf [true] rfl (subR rfl)⟩)))))
 clear S h;rintro a w2 ⟨x1,x2,h,S⟩;rw [hj1] at h;clear hj1 j1
 refine Tn (Fs (Fg ?_))
 iterate 4 (refine Vm S rfl rfl ?_;clear S;intro a S)
 obtain ⟨r2,hr2,h⟩:=Ej h
 refine Km 0 S rfl (fun _=>.own U 93 11 r2.length (r2.flatMap An.enc)) (fun _=>Cz (vs:=[U,iV x2,iV Av,.func (.func 38) #[] #[]]) ⟨(S.tm rfl),(S.tm rfl),(S.tm rfl),(S.tm rfl),trivial⟩ call108) (Jn _ U x1 (S.holds _ (List.mem_of_getElem? (i:=0) rfl)) x2 Av _ hr2) rfl (fun _ _ _ h=>⟨h.1,fun _ hc=>hc⟩) ?_;clear S;intro v2 a w4 hv2 hk2 hn2 S
 replace hv2:=hv2.2
 subst hv2
 refine Dl ?_
 replace S:=(S.nl [.own U 93 11 r2.length (r2.flatMap An.enc)] [true] rfl).k2 1 6 rfl
 obtain ⟨j2,hj2,h⟩:=Eo h
 refine Dy (fun a w'=>j2 = some r ∧ Sx w (U.ownBlock.toList) nov [.own U 93 11 r2.length (r2.flatMap An.enc)] [] 63 a w') ?_ ?_
 ·refine wp_block (Gs (fun (m2 : Nat) a w'=>∃ x4 : Int,Eh Av j2 m2 x4 = some r ∧ Sx w (U.ownBlock.toList) nov [.own U 93 11 r2.length (r2.flatMap An.enc)] [(1,iV Av),(6,iV x4)] 63 a w') id ((Av - 20).toNat + 2) ⟨20,h,S.nf [true] rfl (subR rfl)⟩ ?_)
  clear S h;rintro m2 a w5 ⟨x4,h,S⟩
  cases m2 with
  | zero=>rw [Eh.eq_1] at h;cases h
  | succ m2 =>
   rw [Eh.eq_2] at h
   refine Fs (Fr (Vm S rfl rfl fun a S=>Vm S rfl rfl fun a S=>Vb S Ev rfl rfl rfl fun a S=>Dl (Fc h (S.tm rfl) (fun hb2 h=>?_) (fun hb2 h=>?_))))
   ·refine wp_skip (Tn (wp_block (Fr (Vm S rfl rfl fun a S=>Vu S (Wo rfl) rfl rfl fun a S=>Vk S rfl rfl fun a S=>Va S rfl rfl fun a S=>Dl ?_))))
    refine Fs ?_
    replace S:=S.k4 1 6 7 8 rfl
    obtain ⟨j3,hj3,h⟩:=Eo h
    refine Dy (fun a w'=>∃ x5 : Int,j3 x5 = some r ∧ Sx w (U.ownBlock.toList) nov [.own U 93 11 r2.length (r2.flatMap An.enc)] [(1,iV Av),(6,iV x4),(7,iV x5)] 63 a w') ?_ ?_
    ·refine wp_block (Gs (fun (m3 : Nat) a w'=>∃ x5 : Int,∃ x6 : Int,Ez Av j3 m3 x5 x6 = some r ∧ Sx w (U.ownBlock.toList) nov [.own U 93 11 r2.length (r2.flatMap An.enc)] [(1,iV Av),(6,iV x4),(7,iV x5),(8,iV x6)] 63 a w') id ((Av - (W (2 * x4))).toNat + 2) ⟨0,W (2 * x4),h,S.nf [true] rfl (subR rfl)⟩ ?_)
     clear S h;rintro m3 a w7 ⟨x5,x6,h,S⟩
     cases m3 with
     | zero=>rw [Ez.eq_1] at h;cases h
     | succ m3 =>
      rw [Ez.eq_2] at h
      refine Fs (Fr (Vm S rfl rfl fun a S=>Vm S rfl rfl fun a S=>Vb S Qt rfl rfl rfl fun a S=>Dl (Fc h (S.tm rfl) (fun hb3 h=>?_) (fun hb3 h=>?_))))
      ·refine wp_skip (Tn (wp_block (Fs ?_)))
       cases h
      ·exact wp_exit (Dt (Dt (Gh (Tn (⟨x5,h,S.nf [true] rfl (subR rfl)⟩)))))
    clear S h;rintro a w8 ⟨x5,h,S⟩;rw [hj3] at h;clear hj3 j3
    refine Tn (Fs (Fr (Vm S rfl rfl fun a S=>Vm S rfl rfl fun a S=>Vb S Fa rfl rfl rfl fun a S=>Va S rfl rfl fun a S=>Dl (Fs ?_))))
    refine Fg (Vm S rfl rfl fun a S=>Vm S rfl rfl fun a S=>Vb S Ev rfl rfl rfl fun a S=>Dl (Fc h (S.tm rfl) (fun hb4 h=>?_) (fun hb4 h=>?_)))
    ·cases h
    ·exact wp_skip (Tn (Fg (Vm S rfl rfl fun a S=>Vq S Wo rfl rfl rfl fun a S=>Va S rfl rfl fun a S=>Ld (Gy (Tn (⟨m2,⟨W (x4 * 2),h,S.nf [true] rfl ⟨rfl,rfl,trivial⟩⟩,Nat.lt_succ_self _⟩))))))
   ·exact wp_exit (Dt (Dt (Gh (Tn (⟨h,S.nf [true] rfl trivial⟩)))))
 clear S h;rintro a w6 ⟨h,S⟩;rw [hj2] at h;clear hj2 j2
 obtain rfl:=Option.some.inj h
 exact Ph S results78 ⟨(S.holds _ (List.mem_of_getElem? (i:=0) rfl)),rfl⟩
theorem Nk (w : World) (Au : Value) (Ab : List An) (By : (LEnt.own Au 93 11 Ab.length (Ab.flatMap An.enc)).holds w) (r : (List An)) (h : Ga Ab = some r) :
    Calls prog 37 [Au,.func (.func 38) #[] #[]].toArray w (Ret w (Au.ownBlock.toList) fun _ v w'=>(LEnt.own Au 93 11 r.length (r.flatMap An.enc)).holds w' ∧ v = .tuple #[]):=by
 refine Iy (Au.ownBlock.toList) [.own Au 93 11 Ab.length (Ab.flatMap An.enc)] func37 rfl ntmps37 rfl (fun e he=>by simp only [List.mem_singleton] at he;subst he;exact By) (Hb _) (Ip _) fun a S=>?_
 unfold Ga at h
 replace S:=(S.nl [.own Au 93 11 Ab.length (Ab.flatMap An.enc)] [true] rfl).k2 0 1 rfl
 refine Fg (Vm S rfl rfl fun a S=>Vm S rfl rfl fun a S=>lv S (Fi Ll (S.tm rfl) (Iz (S.own_at (i:=0) rfl))) rfl fun a S=>Vm S rfl rfl ?_);clear S;intro a S
 obtain ⟨r1,hr1,h⟩:=Ej h
 refine Km 0 S rfl (fun _=>.own Au 93 11 r1.length (r1.flatMap An.enc)) (fun _=>Cz (vs:=[Au,iV (Ab.length : Int),.func (.func 38) #[] #[]]) ⟨(S.tm rfl),(S.tm rfl),(S.tm rfl),trivial⟩ call78) (Nz _ Au Ab (S.holds _ (List.mem_of_getElem? (i:=0) rfl)) (Ab.length : Int) _ hr1) rfl (fun _ _ _ h=>⟨h.1,fun _ hc=>hc⟩) ?_;clear S;intro v1 a w1 hv1 hk1 hn1 S
 replace hv1:=hv1.2
 subst hv1
 refine Ld ?_
 obtain rfl:=Option.some.inj h
 exact Ph S results37 ⟨(S.holds _ (List.mem_of_getElem? (i:=0) rfl)),rfl⟩
theorem BJ (w : World) (O : Nat) (V : Value) (Ak : List Int) (Ai : Slc (view w [O]) 1 V (Ak.map eInt)) (Ag : Int) (Ar : (LEnt.blk O [V,iV Ag] 25).holds w) (Aq : Int) (r : (List An) × Int) (h : Ro Ak Ag Aq = some r) :
    Calls prog 16 [.pointer (some ⟨O,0,none⟩),iV Aq].toArray w (Ret w [O] fun τ v w'=>(LEnt.blk O [V,iV r.2] 25).holds w' ∧ Pq τ 93 11 v r.1.length (r.1.flatMap An.enc)):=by
 refine Iy [O] [.blk O [V,iV Ag] 25] func16 rfl ntmps16 rfl (fun e he=>by simp only [List.mem_singleton] at he;subst he;exact Ar) (by simp [fps,LEnt.fp]) (by simp [fps,LEnt.fp]) fun a S=>?_
 unfold Ro at h
 replace S:=(S.nl [.blk O [V,iV Ag] 25] [true] rfl).k2 0 1 rfl
 refine Fr (Vk S rfl rfl fun a S=>Dz (Vk S rfl rfl ?_));clear S;intro a S
 replace S:=S.nil 93 11
 refine Dz (Vk S rfl rfl fun a S=>Dz (Tr (κ:=ByteArray) (ν:=Int) S rfl Value.string (Value.int .i64) ?_));clear S;intro a w1 b1 hz1 hk1 S
 refine Va S rfl rfl fun a S=>Dl (Fs (Fr (Vm S rfl rfl fun a S=>lv S (Rm rfl) rfl fun a S=>Dl ?_)))
 replace S:=(S.nl [.map b1 (He Value.string (Value.int .i64) ([] : List (ByteArray × Int))) ([] : List (ByteArray × Int)).length,.own (.slice none 0 0) 93 11 ([] : List An).length (([] : List An).flatMap An.enc),.blk O [V,iV Ag] 25] [true,true,true] rfl).k6 0 5 6 7 10 11 rfl
 obtain ⟨j1,hj1,h⟩:=Eo h
 refine Dy (fun a w'=>∃ x1 : List (ByteArray × Int),∃ x2 : List An,∃ x3 : Int,∃ v1 : Value,j1 x1 x2 x3 = some r ∧ Sx w [O] nov [.map b1 (He Value.string (Value.int .i64) x1) x1.length,.own v1 93 11 x2.length (x2.flatMap An.enc),.blk O [V,iV x3] 25] [(5,v1)] 130 a w') ?_ ?_
 ·refine wp_block (Gs (fun (m1 : Nat) a w'=>∃ x1 : List (ByteArray × Int),∃ x2 : List An,∃ x3 : Int,∃ x4 : Int,∃ x5 : Int,∃ v1 : Value,Kd Aq Ak j1 m1 x1 x2 x3 x4 x5 = some r ∧ Sx w [O] nov [.map b1 (He Value.string (Value.int .i64) x1) x1.length,.own v1 93 11 x2.length (x2.flatMap An.enc),.blk O [V,iV x3] 25] [(0,.pointer (some ⟨O,0,none⟩)),(5,v1),(6,iV x4),(7,.map (some b1)),(10,iV Aq),(11,iV x5)] 130 a w') id ((Aq - 0).toNat + 2) ⟨([] : List (ByteArray × Int)),([] : List An),Ag,0,0,(.slice none 0 0),h,S.nf [true,true,true] rfl (subR rfl)⟩ ?_)
  clear S h;rintro m1 a w2 ⟨x1,x2,x3,x4,x5,v1,h,S⟩
  cases m1 with
  | zero=>rw [Kd.eq_1] at h;cases h
  | succ m1 =>
   rw [Kd.eq_2] at h
   refine Fr (Vb S Ev rfl rfl rfl fun a S=>Dl (Fs (Fc h (S.tm rfl) (fun hb1 h=>?_) (fun hb1 h=>?_))))
   ·refine wp_skip (Tn (Fs (wp_block (Fr (Vm S rfl rfl fun a S=>Vm S rfl rfl fun a S=>Dv S underlying22 sizeOf3 zeroValue3 rfl rfl (pv:=[(0,iV 0),(1,iV 1),(2,iV 5)]) ⟨rfl,rfl,rfl,rfl,rfl,rfl,trivial⟩ (cs:=[iV 0,iV 1,iV 5]) (by kernel_rfl) rfl ?_)))));clear S;intro a w4 b2 hz2 hk2 S
    obtain ⟨r1,hr1,h⟩:=Ej h
    refine Ft 3 S (b:=O) rfl rfl (fun _=>.blk O [V,iV r1.2] 25) (fun _=>Cz (vs:=[.pointer (some ⟨O,0,none⟩),.slice (some ⟨b2,0,none⟩) 3 3]) ⟨(S.tm rfl),(S.tm rfl),trivial⟩ call34) (Hh _ O V Ak (Ai.mono (S.le_arg (Hd (i:=3) (e:=.blk O [V,iV x3] 25) rfl))) x3 (S.holds _ (List.mem_of_getElem? (i:=3) rfl)) (.slice (some ⟨b2,0,none⟩) 3 3) [0,1,5] (Ib Fd S (i:=0) rfl rfl rfl rfl ((Jl (i:=3) (j:=0) (e:=.blk O [V,iV x3] 25) (e':=.blk b2 [iV 0,iV 1,iV 5] 3) S rfl rfl rfl) _ rfl)) _ hr1) rfl (fun _ _ _ h=>⟨h.1,fun _ hc=>by cases hc;rfl⟩) ?_;clear S;intro v2 a w5 hv1 hk3 hn1 S
    replace hv1:=hv1.2
    subst hv1
    refine Vb S Fa rfl rfl rfl fun a S=>Va S rfl rfl fun a S=>Dz (Vm S rfl rfl fun a S=>Dv S underlying45 sizeOf9 zeroValue9 rfl rfl (pv:=[(0,sV Pa),(1,sV Pa),(2,sV AJ)]) ⟨rfl,rfl,rfl,rfl,rfl,rfl,trivial⟩ (cs:=[sV Pa,sV Pa,sV AJ]) (by kernel_rfl) rfl ?_);clear S;intro a w6 b3 hz3 hk4 S
    obtain ⟨r2,hr2,h⟩:=Ej h
    refine Ft 4 S (b:=O) rfl rfl (fun _=>.blk O [V,iV r2.2] 25) (fun _=>Cz (vs:=[.pointer (some ⟨O,0,none⟩),.slice (some ⟨b3,0,none⟩) 3 3]) ⟨(S.tm rfl),(S.tm rfl),trivial⟩ call35) (Li _ O V Ak (Ai.mono (S.le_arg (Hd (i:=4) (e:=.blk O [V,iV r1.2] 25) rfl))) r1.2 (S.holds _ (List.mem_of_getElem? (i:=4) rfl)) (.slice (some ⟨b3,0,none⟩) 3 3) [Pa,Pa,AJ] (Ib Hi S (i:=0) rfl rfl rfl rfl ((Jl (i:=4) (j:=0) (e:=.blk O [V,iV r1.2] 25) (e':=.blk b3 [sV Pa,sV Pa,sV AJ] 9) S rfl rfl rfl) _ rfl)) _ hr2) rfl (fun _ _ _ h=>⟨h.1,fun _ hc=>by cases hc;rfl⟩) ?_;clear S;intro v3 a w7 hv2 hk5 hn2 S
    replace hv2:=hv2.2
    subst hv2
    refine Vm S rfl rfl fun a S=>Vm S rfl rfl fun a S=>Dv S underlying22 sizeOf3 zeroValue3 rfl rfl (pv:=[(0,iV 1),(1,iV 1),(2,iV 1),(3,iV 3),(4,iV 3),(5,iV 3),(6,iV 2),(7,iV 4)]) ⟨rfl,rfl,rfl,rfl,rfl,rfl,rfl,rfl,rfl,rfl,rfl,rfl,rfl,rfl,rfl,rfl,trivial⟩ (cs:=[iV 1,iV 1,iV 1,iV 3,iV 3,iV 3,iV 2,iV 4]) (by kernel_rfl) rfl ?_;clear S;intro a w8 b4 hz4 hk6 S
    obtain ⟨r3,hr3,h⟩:=Ej h
    refine Ft 5 S (b:=O) rfl rfl (fun _=>.blk O [V,iV r3.2] 25) (fun _=>Cz (vs:=[.pointer (some ⟨O,0,none⟩),.slice (some ⟨b4,0,none⟩) 8 8]) ⟨(S.tm rfl),(S.tm rfl),trivial⟩ call34) (Hh _ O V Ak (Ai.mono (S.le_arg (Hd (i:=5) (e:=.blk O [V,iV r2.2] 25) rfl))) r2.2 (S.holds _ (List.mem_of_getElem? (i:=5) rfl)) (.slice (some ⟨b4,0,none⟩) 8 8) [1,1,1,3,3,3,2,4] (Ib Fd S (i:=0) rfl rfl rfl rfl ((Jl (i:=5) (j:=0) (e:=.blk O [V,iV r2.2] 25) (e':=.blk b4 [iV 1,iV 1,iV 1,iV 3,iV 3,iV 3,iV 2,iV 4] 3) S rfl rfl rfl) _ rfl)) _ hr3) rfl (fun _ _ _ h=>⟨h.1,fun _ hc=>by cases hc;rfl⟩) ?_;clear S;intro v4 a w9 hv3 hk7 hn3 S
    replace hv3:=hv3.2
    subst hv3
    refine lv S (Mw LY (pv:=[(0,sV r2.1),(2,iV (W (x4 + r1.1))),(3,iV r3.1)]) ⟨rfl,(S.tm rfl),rfl,(S.tm rfl),rfl,(S.tm rfl),trivial⟩ (cs:=[sV r2.1,iV 0,iV (W (x4 + r1.1)),iV r3.1,sV Cx,sV Cx,sV Cx,iV 0,iV 0,sV Cx,iV 0]) (by kernel_rfl)) rfl fun a S=>Ic S zeroValue93 (cs:=[sV Cx,iV 0,iV 0,iV 0,sV Cx,sV Cx,sV Cx,iV 0,iV 0,sV Cx,iV 0]) rfl rfl ?_;clear S;intro a w10 b5 hz5 hk8 S
    refine Ep S (S.tm rfl) (S.tm rfl) (i:=0) (off:=0) rfl sizeOf93 (vs:=(An.enc (An.mk r2.1 0 (W (x4 + r1.1)) r3.1 Cx Cx Cx 0 0 Cx 0))) rfl rfl rfl rfl ?_;clear S;intro w11 hk9 S
    refine Ld ?_
    replace S:=(S.nl [.blk b5 (An.enc (An.mk r2.1 0 (W (x4 + r1.1)) r3.1 Cx Cx Cx 0 0 Cx 0)) 93,.map b1 (He Value.string (Value.int .i64) x1) x1.length,.own v1 93 11 x2.length (x2.flatMap An.enc),.blk O [V,iV r3.2] 25] [true,false,false,false,true,true,true] rfl).k7 0 5 6 7 8 10 11 rfl
    refine Tn (Fr (Vm S rfl rfl fun a S=>Vf Oh S rfl rfl fun a S=>Vl isAgg9 0 S rfl rfl rfl rfl fun a S=>lv S (Qx (kv:=Value.string) (vv:=(Value.int .i64)) (m:=x1) (key:=r2.1) (z:=0) (S.map_at (i:=1) rfl) underlying90 (Oz underlying9) zeroValue3 (S.tm rfl) (S.tm rfl)) rfl fun a S=>Vq S Fa rfl rfl rfl fun a S=>Qy (kv:=Value.string) (vv:=(Value.int .i64)) (m:=x1) (key:=r2.1) (val:=W ((Ek x1 r2.1 0) + 1)) S (i:=1) rfl underlying90 (Oz underlying9) (S.tm rfl) (S.tm rfl) (S.tm rfl) ?_));clear S;intro w12 hk10 S
    refine Dz (Vm S rfl rfl fun a S=>Vf Oh S rfl rfl fun a S=>Vl isAgg9 0 S rfl rfl rfl rfl fun a S=>lv S (Qx (kv:=Value.string) (vv:=(Value.int .i64)) (m:=(Fz x1 r2.1 (W ((Ek x1 r2.1 0) + 1)))) (key:=r2.1) (z:=0) (S.map_at (i:=1) rfl) underlying90 (Oz underlying9) zeroValue3 (S.tm rfl) (S.tm rfl)) rfl fun a S=>Vf Qc S rfl rfl fun a S=>Ep S (S.tm rfl) (S.tm rfl) (i:=0) (off:=1) rfl sizeOf3 (vs:=[iV (Ek (Fz x1 r2.1 (W ((Ek x1 r2.1 0) + 1))) r2.1 0)]) rfl rfl rfl rfl ?_);clear S;intro w13 hk11 S
    refine Ld ?_
    replace S:=(S.nl [.blk b5 (An.enc (An.mk r2.1 (Ek (Fz x1 r2.1 (W ((Ek x1 r2.1 0) + 1))) r2.1 0) (W (x4 + r1.1)) r3.1 Cx Cx Cx 0 0 Cx 0)) 93,.map b1 (He Value.string (Value.int .i64) (Fz x1 r2.1 (W ((Ek x1 r2.1 0) + 1)))) (Fz x1 r2.1 (W ((Ek x1 r2.1 0) + 1))).length,.own v1 93 11 x2.length (x2.flatMap An.enc),.blk O [V,iV r3.2] 25] [true,true,true,true] rfl).k7 0 5 6 7 8 10 11 rfl
    refine Tn (Fs (Fr (Vf Nh S rfl rfl fun a S=>Vl isAgg3 0 S rfl rfl rfl rfl fun a S=>Vq S Kg rfl rfl rfl fun a S=>Dl ?_)))
    obtain ⟨j2,hj2,h⟩:=Eo h
    refine Dy (fun a w'=>∃ x6 : ByteArray,∃ x7 : ByteArray,∃ x8 : Int,j2 x6 x7 x8 = some r ∧ Sx w [O] nov [.blk b5 (An.enc (An.mk r2.1 (Ek (Fz x1 r2.1 (W ((Ek x1 r2.1 0) + 1))) r2.1 0) (W (x4 + r1.1)) r3.1 x6 Cx x7 0 0 Cx 0)) 93,.map b1 (He Value.string (Value.int .i64) (Fz x1 r2.1 (W ((Ek x1 r2.1 0) + 1)))) (Fz x1 r2.1 (W ((Ek x1 r2.1 0) + 1))).length,.own v1 93 11 x2.length (x2.flatMap An.enc),.blk O [V,iV x8] 25] [(0,.pointer (some ⟨O,0,none⟩)),(5,v1),(6,iV (W (x4 + r1.1))),(7,.map (some b1)),(8,.pointer (some ⟨b5,0,none⟩)),(10,iV Aq),(11,iV x5)] 130 a w') ?_ ?_
    ·refine Fc h (S.tm rfl) (fun hb2 h=>?_) (fun hb2 h=>?_)
     ·refine Fg (Vm S rfl rfl fun a S=>Dv S underlying45 sizeOf9 zeroValue9 rfl rfl (pv:=[(0,sV Te),(1,sV Yo),(2,sV Yp),(3,sV Yq)]) ⟨rfl,rfl,rfl,rfl,rfl,rfl,rfl,rfl,trivial⟩ (cs:=[sV Te,sV Yo,sV Yp,sV Yq]) (by kernel_rfl) rfl ?_);clear S;intro a w15 b6 hz6 hk12 S
      obtain ⟨r4,hr4,h⟩:=Ej h
      refine Ft 4 S (b:=O) rfl rfl (fun _=>.blk O [V,iV r4.2] 25) (fun _=>Cz (vs:=[.pointer (some ⟨O,0,none⟩),.slice (some ⟨b6,0,none⟩) 4 4]) ⟨(S.tm rfl),(S.tm rfl),trivial⟩ call35) (Li _ O V Ak (Ai.mono (S.le_arg (Hd (i:=4) (e:=.blk O [V,iV r3.2] 25) rfl))) r3.2 (S.holds _ (List.mem_of_getElem? (i:=4) rfl)) (.slice (some ⟨b6,0,none⟩) 4 4) [Te,Yo,Yp,Yq] (Ib Hi S (i:=0) rfl rfl rfl rfl ((Jl (i:=4) (j:=0) (e:=.blk O [V,iV r3.2] 25) (e':=.blk b6 [sV Te,sV Yo,sV Yp,sV Yq] 9) S rfl rfl rfl) _ rfl)) _ hr4) rfl (fun _ _ _ h=>⟨h.1,fun _ hc=>by cases hc;rfl⟩) ?_;clear S;intro v5 a w16 hv4 hk13 hn4 S
      replace hv4:=hv4.2
      subst hv4
      refine Vm S rfl rfl fun a S=>Dv S underlying45 sizeOf9 zeroValue9 rfl rfl (pv:=[(0,sV Np),(1,sV Np),(2,sV Qi),(3,sV HU)]) ⟨rfl,rfl,rfl,rfl,rfl,rfl,rfl,rfl,trivial⟩ (cs:=[sV Np,sV Np,sV Qi,sV HU]) (by kernel_rfl) rfl ?_;clear S;intro a w17 b7 hz7 hk14 S
      obtain ⟨r5,hr5,h⟩:=Ej h
      refine Ft 5 S (b:=O) rfl rfl (fun _=>.blk O [V,iV r5.2] 25) (fun _=>Cz (vs:=[.pointer (some ⟨O,0,none⟩),.slice (some ⟨b7,0,none⟩) 4 4]) ⟨(S.tm rfl),(S.tm rfl),trivial⟩ call35) (Li _ O V Ak (Ai.mono (S.le_arg (Hd (i:=5) (e:=.blk O [V,iV r4.2] 25) rfl))) r4.2 (S.holds _ (List.mem_of_getElem? (i:=5) rfl)) (.slice (some ⟨b7,0,none⟩) 4 4) [Np,Np,Qi,HU] (Ib Hi S (i:=0) rfl rfl rfl rfl ((Jl (i:=5) (j:=0) (e:=.blk O [V,iV r4.2] 25) (e':=.blk b7 [sV Np,sV Np,sV Qi,sV HU] 9) S rfl rfl rfl) _ rfl)) _ hr5) rfl (fun _ _ _ h=>⟨h.1,fun _ hc=>by cases hc;rfl⟩) ?_;clear S;intro v6 a w18 hv5 hk15 hn5 S
      replace hv5:=hv5.2
      subst hv5
      refine Vf Nx S rfl rfl fun a S=>Ep S (S.tm rfl) (S.tm rfl) (i:=2) (off:=4) rfl sizeOf9 (vs:=[sV r4.1]) rfl rfl rfl rfl ?_;clear S;intro w19 hk16 S
      refine Vf Qd S rfl rfl fun a S=>Ep S (S.tm rfl) (S.tm rfl) (i:=2) (off:=6) rfl sizeOf9 (vs:=[sV r5.1]) rfl rfl rfl rfl ?_;clear S;intro w20 hk17 S
      refine Ld ?_
      replace S:=(S.nl [.blk b5 (An.enc (An.mk r2.1 (Ek (Fz x1 r2.1 (W ((Ek x1 r2.1 0) + 1))) r2.1 0) (W (x4 + r1.1)) r3.1 r4.1 Cx r5.1 0 0 Cx 0)) 93,.map b1 (He Value.string (Value.int .i64) (Fz x1 r2.1 (W ((Ek x1 r2.1 0) + 1)))) (Fz x1 r2.1 (W ((Ek x1 r2.1 0) + 1))).length,.own v1 93 11 x2.length (x2.flatMap An.enc),.blk O [V,iV r5.2] 25] [false,false,true,true,true,true] rfl).k7 0 5 6 7 8 10 11 rfl
      exact Tn (⟨r4.1,r5.1,r5.2,h,S.nf [true,true,true,true] rfl (subR rfl)⟩)
     ·exact wp_skip (Tn (⟨Cx,Cx,r3.2,h,S.nf [true,true,true,true] rfl (subR rfl)⟩))
    clear S h;rintro a w14 ⟨x6,x7,x8,h,S⟩;rw [hj2] at h;clear hj2 j2
    refine Tn (Fs (Fr (Vf Nh S rfl rfl fun a S=>Vl isAgg3 0 S rfl rfl rfl rfl fun a S=>Dl ?_)))
    obtain ⟨j3,hj3,h⟩:=Eo h
    refine Dy (fun a w'=>∃ x9 : ByteArray,∃ x10 : Int,∃ x11 : Int,∃ x12 : ByteArray,∃ x13 : Int,∃ x14 : Int,j3 x9 x10 x11 x12 x13 x14 = some r ∧ Sx w [O] nov [.blk b5 (An.enc (An.mk r2.1 (Ek (Fz x1 r2.1 (W ((Ek x1 r2.1 0) + 1))) r2.1 0) (W (x4 + r1.1)) r3.1 x6 x9 x7 x10 x11 x12 x13)) 93,.map b1 (He Value.string (Value.int .i64) (Fz x1 r2.1 (W ((Ek x1 r2.1 0) + 1)))) (Fz x1 r2.1 (W ((Ek x1 r2.1 0) + 1))).length,.own v1 93 11 x2.length (x2.flatMap An.enc),.blk O [V,iV x14] 25] [(0,.pointer (some ⟨O,0,none⟩)),(5,v1),(6,iV (W (x4 + r1.1))),(7,.map (some b1)),(8,.pointer (some ⟨b5,0,none⟩)),(10,iV Aq),(11,iV x5)] 130 a w') ?_ ?_
    ·refine wp_block (Fr (Vq S Hj rfl rfl rfl fun a S=>Va S rfl rfl fun a S=>Dl ?_))
     obtain ⟨j4,hj4,h⟩:=Eo h
     refine Dy (fun a w'=>∃ x15 : ByteArray,∃ x16 : Int,∃ x17 : Int,∃ x18 : ByteArray,∃ x19 : Int,∃ x20 : Int,j4 x15 x16 x17 x18 x19 x20 = some r ∧ Sx w [O] nov [.blk b5 (An.enc (An.mk r2.1 (Ek (Fz x1 r2.1 (W ((Ek x1 r2.1 0) + 1))) r2.1 0) (W (x4 + r1.1)) r3.1 x6 x15 x7 x16 x17 x18 x19)) 93,.map b1 (He Value.string (Value.int .i64) (Fz x1 r2.1 (W ((Ek x1 r2.1 0) + 1)))) (Fz x1 r2.1 (W ((Ek x1 r2.1 0) + 1))).length,.own v1 93 11 x2.length (x2.flatMap An.enc),.blk O [V,iV x20] 25] [(0,.pointer (some ⟨O,0,none⟩)),(5,v1),(6,iV (W (x4 + r1.1))),(7,.map (some b1)),(8,.pointer (some ⟨b5,0,none⟩)),(10,iV Aq),(11,iV x5)] 130 a w') ?_ ?_
     ·refine Fc h (S.tm rfl) (fun hb3 h=>?_) (fun hb3 h=>?_)
      ·refine Fg (Vm S rfl rfl fun a S=>Dv S underlying45 sizeOf9 zeroValue9 rfl rfl (pv:=[(0,sV Sj),(1,sV CK),(2,sV Cx)]) ⟨rfl,rfl,rfl,rfl,rfl,rfl,trivial⟩ (cs:=[sV Sj,sV CK,sV Cx]) (by kernel_rfl) rfl ?_);clear S;intro a w23 b8 hz8 hk18 S
       obtain ⟨r6,hr6,h⟩:=Ej h
       refine Ft 4 S (b:=O) rfl rfl (fun _=>.blk O [V,iV r6.2] 25) (fun _=>Cz (vs:=[.pointer (some ⟨O,0,none⟩),.slice (some ⟨b8,0,none⟩) 3 3]) ⟨(S.tm rfl),(S.tm rfl),trivial⟩ call35) (Li _ O V Ak (Ai.mono (S.le_arg (Hd (i:=4) (e:=.blk O [V,iV x8] 25) rfl))) x8 (S.holds _ (List.mem_of_getElem? (i:=4) rfl)) (.slice (some ⟨b8,0,none⟩) 3 3) [Sj,CK,Cx] (Ib Hi S (i:=0) rfl rfl rfl rfl ((Jl (i:=4) (j:=0) (e:=.blk O [V,iV x8] 25) (e':=.blk b8 [sV Sj,sV CK,sV Cx] 9) S rfl rfl rfl) _ rfl)) _ hr6) rfl (fun _ _ _ h=>⟨h.1,fun _ hc=>by cases hc;rfl⟩) ?_;clear S;intro v7 a w24 hv6 hk19 hn6 S
       replace hv6:=hv6.2
       subst hv6
       refine Vm S rfl rfl fun a S=>Dv S underlying22 sizeOf3 zeroValue3 rfl rfl (pv:=[(0,iV 0),(1,iV 5900),(2,iV 6000),(3,iV 7000)]) ⟨rfl,rfl,rfl,rfl,rfl,rfl,rfl,rfl,trivial⟩ (cs:=[iV 0,iV 5900,iV 6000,iV 7000]) (by kernel_rfl) rfl ?_;clear S;intro a w25 b9 hz9 hk20 S
       obtain ⟨r7,hr7,h⟩:=Ej h
       refine Ft 5 S (b:=O) rfl rfl (fun _=>.blk O [V,iV r7.2] 25) (fun _=>Cz (vs:=[.pointer (some ⟨O,0,none⟩),.slice (some ⟨b9,0,none⟩) 4 4]) ⟨(S.tm rfl),(S.tm rfl),trivial⟩ call34) (Hh _ O V Ak (Ai.mono (S.le_arg (Hd (i:=5) (e:=.blk O [V,iV r6.2] 25) rfl))) r6.2 (S.holds _ (List.mem_of_getElem? (i:=5) rfl)) (.slice (some ⟨b9,0,none⟩) 4 4) [0,5900,6000,7000] (Ib Fd S (i:=0) rfl rfl rfl rfl ((Jl (i:=5) (j:=0) (e:=.blk O [V,iV r6.2] 25) (e':=.blk b9 [iV 0,iV 5900,iV 6000,iV 7000] 3) S rfl rfl rfl) _ rfl)) _ hr7) rfl (fun _ _ _ h=>⟨h.1,fun _ hc=>by cases hc;rfl⟩) ?_;clear S;intro v8 a w26 hv7 hk21 hn7 S
       replace hv7:=hv7.2
       subst hv7
       refine Vf Sq S rfl rfl fun a S=>Ep S (S.tm rfl) (S.tm rfl) (i:=2) (off:=5) rfl sizeOf9 (vs:=[sV r6.1]) rfl rfl rfl rfl ?_;clear S;intro w27 hk22 S
       refine Vf Qs S rfl rfl fun a S=>Ep S (S.tm rfl) (S.tm rfl) (i:=2) (off:=7) rfl sizeOf3 (vs:=[iV r7.1]) rfl rfl rfl rfl ?_;clear S;intro w28 hk23 S
       refine Ld ?_
       replace S:=(S.nl [.blk b5 (An.enc (An.mk r2.1 (Ek (Fz x1 r2.1 (W ((Ek x1 r2.1 0) + 1))) r2.1 0) (W (x4 + r1.1)) r3.1 x6 r6.1 x7 r7.1 0 Cx 0)) 93,.map b1 (He Value.string (Value.int .i64) (Fz x1 r2.1 (W ((Ek x1 r2.1 0) + 1)))) (Fz x1 r2.1 (W ((Ek x1 r2.1 0) + 1))).length,.own v1 93 11 x2.length (x2.flatMap An.enc),.blk O [V,iV r7.2] 25] [false,false,true,true,true,true] rfl).k7 0 5 6 7 8 10 11 rfl
       exact Tn (⟨r6.1,r7.1,0,Cx,0,r7.2,h,S.nf [true,true,true,true] rfl (subR rfl)⟩)
      ·refine Fr (Vq S Hj rfl rfl rfl fun a S=>Va S rfl rfl fun a S=>Dl ?_)
       obtain ⟨j5,hj5,h⟩:=Eo h
       refine Dy (fun a w'=>∃ x21 : Int,∃ x22 : Int,∃ x23 : ByteArray,∃ x24 : Int,∃ x25 : Int,j5 x21 x22 x23 x24 x25 = some r ∧ Sx w [O] nov [.blk b5 (An.enc (An.mk r2.1 (Ek (Fz x1 r2.1 (W ((Ek x1 r2.1 0) + 1))) r2.1 0) (W (x4 + r1.1)) r3.1 x6 Cx x7 x21 x22 x23 x24)) 93,.map b1 (He Value.string (Value.int .i64) (Fz x1 r2.1 (W ((Ek x1 r2.1 0) + 1)))) (Fz x1 r2.1 (W ((Ek x1 r2.1 0) + 1))).length,.own v1 93 11 x2.length (x2.flatMap An.enc),.blk O [V,iV x25] 25] [(0,.pointer (some ⟨O,0,none⟩)),(5,v1),(6,iV (W (x4 + r1.1))),(7,.map (some b1)),(8,.pointer (some ⟨b5,0,none⟩)),(10,iV Aq),(11,iV x5)] 130 a w') ?_ ?_
       ·refine Fc h (S.tm rfl) (fun hb4 h=>?_) (fun hb4 h=>?_)
        ·refine Fg (Vm S rfl rfl fun a S=>Dv S underlying22 sizeOf3 zeroValue3 rfl rfl (pv:=[(0,iV 0),(1,iV 5900),(2,iV 5900),(3,iV 6000),(4,iV 6100)]) ⟨rfl,rfl,rfl,rfl,rfl,rfl,rfl,rfl,rfl,rfl,trivial⟩ (cs:=[iV 0,iV 5900,iV 5900,iV 6000,iV 6100]) (by kernel_rfl) rfl ?_);clear S;intro a w30 b10 hz10 hk24 S
         obtain ⟨r8,hr8,h⟩:=Ej h
         refine Ft 4 S (b:=O) rfl rfl (fun _=>.blk O [V,iV r8.2] 25) (fun _=>Cz (vs:=[.pointer (some ⟨O,0,none⟩),.slice (some ⟨b10,0,none⟩) 5 5]) ⟨(S.tm rfl),(S.tm rfl),trivial⟩ call34) (Hh _ O V Ak (Ai.mono (S.le_arg (Hd (i:=4) (e:=.blk O [V,iV x8] 25) rfl))) x8 (S.holds _ (List.mem_of_getElem? (i:=4) rfl)) (.slice (some ⟨b10,0,none⟩) 5 5) [0,5900,5900,6000,6100] (Ib Fd S (i:=0) rfl rfl rfl rfl ((Jl (i:=4) (j:=0) (e:=.blk O [V,iV x8] 25) (e':=.blk b10 [iV 0,iV 5900,iV 5900,iV 6000,iV 6100] 3) S rfl rfl rfl) _ rfl)) _ hr8) rfl (fun _ _ _ h=>⟨h.1,fun _ hc=>by cases hc;rfl⟩) ?_;clear S;intro v9 a w31 hv8 hk25 hn8 S
         replace hv8:=hv8.2
         subst hv8
         refine Vm S rfl rfl fun a S=>Dv S underlying22 sizeOf3 zeroValue3 rfl rfl (pv:=[(0,iV 0),(1,iV 0),(2,iV 0),(3,iV 0),(4,iV 3)]) ⟨rfl,rfl,rfl,rfl,rfl,rfl,rfl,rfl,rfl,rfl,trivial⟩ (cs:=[iV 0,iV 0,iV 0,iV 0,iV 3]) (by kernel_rfl) rfl ?_;clear S;intro a w32 b11 hz11 hk26 S
         obtain ⟨r9,hr9,h⟩:=Ej h
         refine Ft 5 S (b:=O) rfl rfl (fun _=>.blk O [V,iV r9.2] 25) (fun _=>Cz (vs:=[.pointer (some ⟨O,0,none⟩),.slice (some ⟨b11,0,none⟩) 5 5]) ⟨(S.tm rfl),(S.tm rfl),trivial⟩ call34) (Hh _ O V Ak (Ai.mono (S.le_arg (Hd (i:=5) (e:=.blk O [V,iV r8.2] 25) rfl))) r8.2 (S.holds _ (List.mem_of_getElem? (i:=5) rfl)) (.slice (some ⟨b11,0,none⟩) 5 5) [0,0,0,0,3] (Ib Fd S (i:=0) rfl rfl rfl rfl ((Jl (i:=5) (j:=0) (e:=.blk O [V,iV r8.2] 25) (e':=.blk b11 [iV 0,iV 0,iV 0,iV 0,iV 3] 3) S rfl rfl rfl) _ rfl)) _ hr9) rfl (fun _ _ _ h=>⟨h.1,fun _ hc=>by cases hc;rfl⟩) ?_;clear S;intro v10 a w33 hv9 hk27 hn9 S
         replace hv9:=hv9.2
         subst hv9
         refine Vf Qs S rfl rfl fun a S=>Ep S (S.tm rfl) (S.tm rfl) (i:=2) (off:=7) rfl sizeOf3 (vs:=[iV r8.1]) rfl rfl rfl rfl ?_;clear S;intro w34 hk28 S
         refine Vf Uj S rfl rfl fun a S=>Ep S (S.tm rfl) (S.tm rfl) (i:=2) (off:=8) rfl sizeOf3 (vs:=[iV r9.1]) rfl rfl rfl rfl ?_;clear S;intro w35 hk29 S
         refine Ld ?_
         replace S:=(S.nl [.blk b5 (An.enc (An.mk r2.1 (Ek (Fz x1 r2.1 (W ((Ek x1 r2.1 0) + 1))) r2.1 0) (W (x4 + r1.1)) r3.1 x6 Cx x7 r8.1 r9.1 Cx 0)) 93,.map b1 (He Value.string (Value.int .i64) (Fz x1 r2.1 (W ((Ek x1 r2.1 0) + 1)))) (Fz x1 r2.1 (W ((Ek x1 r2.1 0) + 1))).length,.own v1 93 11 x2.length (x2.flatMap An.enc),.blk O [V,iV r9.2] 25] [false,false,true,true,true,true] rfl).k7 0 5 6 7 8 10 11 rfl
         exact Tn (⟨r8.1,r9.1,Cx,0,r9.2,h,S.nf [true,true,true,true] rfl (subR rfl)⟩)
        ·refine Fr (Vq S Hj rfl rfl rfl fun a S=>Va S rfl rfl fun a S=>Ld ?_)
         replace S:=S.k8 0 5 6 7 8 10 11 69 rfl
         refine Tn ?_
         obtain ⟨j6,hj6,h⟩:=Eo h
         refine Dy (fun a w'=>∃ x26 : ByteArray,∃ x27 : Int,∃ x28 : Int,j6 x26 x27 x28 = some r ∧ Sx w [O] nov [.blk b5 (An.enc (An.mk r2.1 (Ek (Fz x1 r2.1 (W ((Ek x1 r2.1 0) + 1))) r2.1 0) (W (x4 + r1.1)) r3.1 x6 Cx x7 0 0 x26 x27)) 93,.map b1 (He Value.string (Value.int .i64) (Fz x1 r2.1 (W ((Ek x1 r2.1 0) + 1)))) (Fz x1 r2.1 (W ((Ek x1 r2.1 0) + 1))).length,.own v1 93 11 x2.length (x2.flatMap An.enc),.blk O [V,iV x28] 25] [(0,.pointer (some ⟨O,0,none⟩)),(5,v1),(6,iV (W (x4 + r1.1))),(7,.map (some b1)),(8,.pointer (some ⟨b5,0,none⟩)),(10,iV Aq),(11,iV x5)] 130 a w') ?_ ?_
         ·refine Fc h (S.tm rfl) (fun hb5 h=>?_) (fun hb5 h=>?_)
          ·obtain ⟨r10,hr10,h⟩:=Ej h
           obtain ⟨r11,hr11,h⟩:=Ej h
           refine Fo [] ([O] ++ [b5]) Tryz.mixed S rfl (by kernel_rfl) ?_;clear S;intro w42 hk35 hsel S
           refine De 0 S hsel rfl rfl rfl (by kernel_rfl) (by kernel_rfl) rfl (fun _ hw=>(Rm (S.tm rfl))) fun a S=>De 3 S hsel rfl rfl rfl (by kernel_rfl) (by kernel_rfl) rfl (fun _ hw=>(Rm (S.tm rfl))) fun a S=>De 4 S hsel rfl rfl rfl (by kernel_rfl) (by kernel_rfl) rfl (fun _ hw=>(Rm (S.tm rfl))) fun a S=>De 5 S hsel rfl rfl rfl (by kernel_rfl) (by kernel_rfl) rfl (fun _ hw=>(Qx (kv:=Value.string) (vv:=(Value.int .i64)) (m:=(Fz x1 r2.1 (W ((Ek x1 r2.1 0) + 1)))) (key:=Pa) (z:=0) (S.map_kept (i:=1) rfl (ne_app (Jl (i:=3) (j:=1) (e:=.blk O [V,iV x8] 25) (e':=.map b1 (He Value.string (Value.int .i64) (Fz x1 r2.1 (W ((Ek x1 r2.1 0) + 1)))) (Fz x1 r2.1 (W ((Ek x1 r2.1 0) + 1))).length) S rfl rfl rfl) (Jl (i:=0) (j:=1) (e:=.blk b5 (An.enc (An.mk r2.1 (Ek (Fz x1 r2.1 (W ((Ek x1 r2.1 0) + 1))) r2.1 0) (W (x4 + r1.1)) r3.1 x6 Cx x7 0 0 Cx 0)) 93) (e':=.map b1 (He Value.string (Value.int .i64) (Fz x1 r2.1 (W ((Ek x1 r2.1 0) + 1)))) (Fz x1 r2.1 (W ((Ek x1 r2.1 0) + 1))).length) S rfl rfl rfl)) hw) underlying90 (Oz underlying9) zeroValue3 (S.tm rfl) rfl)) fun a S=>De 6 S hsel rfl rfl rfl (by kernel_rfl) (by kernel_rfl) rfl (fun _ hw=>(EZ rfl (S.tm rfl))) fun a S=>Ff 1 (by kernel_rfl) rfl (Dv S underlying45 sizeOf9 zeroValue9 rfl rfl (pv:=[(0,sV Pa),(1,sV Pa),(2,sV AJ)]) ⟨rfl,rfl,rfl,rfl,rfl,rfl,trivial⟩ (cs:=[sV Pa,sV Pa,sV AJ]) (by kernel_rfl) rfl ?_);clear S;intro a w43 b13 hz13 hk36 S
           refine Ld (Gl (Keep.none hk36) (Ff 2 (by kernel_rfl) rfl ?_))
           refine Ft 4 S (b:=O) rfl rfl (fun _=>.blk O [V,iV r10.2] 25) (fun _=>Cz (vs:=[.pointer (some ⟨O,0,none⟩),.slice (some ⟨b13,0,none⟩) 3 3]) ⟨(S.tm rfl),(S.tm rfl),trivial⟩ call35) (Li _ O V Ak (Ai.mono (S.le_arg (Hd (i:=4) (e:=.blk O [V,iV x8] 25) rfl))) x8 (S.holds _ (List.mem_of_getElem? (i:=4) rfl)) (.slice (some ⟨b13,0,none⟩) 3 3) [Pa,Pa,AJ] (Ib Hi S (i:=0) rfl rfl rfl rfl ((Jl (i:=4) (j:=0) (e:=.blk O [V,iV x8] 25) (e':=.blk b13 [sV Pa,sV Pa,sV AJ] 9) S rfl rfl rfl) _ rfl)) _ hr10) rfl (fun _ _ _ h=>⟨h.1,fun _ hc=>by cases hc;rfl⟩) ?_;clear S;intro v13 a w44 hv12 hk37 hn12 S
           replace hv12:=hv12.2
           subst hv12
           refine Ld ?_
           refine Gl (hk37.sub (by intro y hy;simp at hy ⊢;simp [hy])) ?_
           refine De 8 S hsel rfl rfl rfl (by kernel_rfl) (by kernel_rfl) rfl (fun _ hw=>(Fp Uk (S.tm rfl))) fun a S=>Ff 7 (by kernel_rfl) rfl ?_
           refine Ft 4 S (b:=O) rfl rfl (fun _=>.blk O [V,iV r11.2] 25) (fun _=>Cz (vs:=[.pointer (some ⟨O,0,none⟩),iV 1,iV (Yc 1 (Ek (Fz x1 r2.1 (W ((Ek x1 r2.1 0) + 1))) Pa 0))]) ⟨(S.tm rfl),rfl,(S.tm rfl),trivial⟩ call6) (Mi _ O V Ak (Ai.mono (S.le_arg (Hd (i:=4) (e:=.blk O [V,iV r10.2] 25) rfl))) r10.2 (S.holds _ (List.mem_of_getElem? (i:=4) rfl)) 1 (Yc 1 (Ek (Fz x1 r2.1 (W ((Ek x1 r2.1 0) + 1))) Pa 0)) _ hr11) rfl (fun _ _ _ h=>⟨h.1,fun _ hc=>by cases hc;rfl⟩) ?_;clear S;intro v14 a w45 hv13 hk38 hn13 S
           replace hv13:=hv13.2
           subst hv13
           refine Ld ?_
           refine Gl (hk38.sub (by intro y hy;simp at hy ⊢;simp [hy])) ?_
           refine Ff 9 (by kernel_rfl) rfl (Ep S (S.tm rfl) (S.tm rfl) (i:=1) (off:=9) rfl sizeOf9 (vs:=[sV r10.1]) rfl rfl rfl rfl ?_);clear S;intro w46 hk39 S
           refine Ld ?_
           refine Gl (hk39.sub (by intro y hy;simp at hy ⊢;simp [hy])) ?_
           refine De 10 S hsel rfl rfl rfl (by kernel_rfl) (by kernel_rfl) rfl (fun _ hw=>(Fp Rv (S.tm rfl))) fun a S=>Ff 11 (by kernel_rfl) rfl (Ep S (S.tm rfl) (S.tm rfl) (i:=1) (off:=10) rfl sizeOf3 (vs:=[iV r11.1]) rfl rfl rfl rfl ?_);clear S;intro w47 hk40 S
           refine Ld ?_
           refine Gl (hk40.sub (by intro y hy;simp at hy ⊢;simp [hy])) ?_
           refine Se (by kernel_rfl) ?_
           clear hsel
           replace S:=(S.nl [.blk b5 (An.enc (An.mk r2.1 (Ek (Fz x1 r2.1 (W ((Ek x1 r2.1 0) + 1))) r2.1 0) (W (x4 + r1.1)) r3.1 x6 Cx x7 0 0 r10.1 r11.1)) 93,.map b1 (He Value.string (Value.int .i64) (Fz x1 r2.1 (W ((Ek x1 r2.1 0) + 1)))) (Fz x1 r2.1 (W ((Ek x1 r2.1 0) + 1))).length,.own v1 93 11 x2.length (x2.flatMap An.enc),.blk O [V,iV r11.2] 25] [false,true,true,true,true] rfl).k7 0 5 6 7 8 10 11 rfl
           exact Tn (⟨r10.1,r11.1,r11.2,h,S.nf [true,true,true,true] rfl (subR rfl)⟩)
          ·exact wp_skip (Tn (⟨Cx,0,x8,h,S.nf [true,true,true,true] rfl (subR rfl)⟩))
         clear S h;rintro a w36 ⟨x26,x27,x28,h,S⟩;rw [hj6] at h;clear hj6 j6
         exact Tn (⟨0,0,x26,x27,x28,h,S.nf [true,true,true,true] rfl (subR rfl)⟩)
       clear S h;rintro a w29 ⟨x21,x22,x23,x24,x25,h,S⟩;rw [hj5] at h;clear hj5 j5
       exact Tn (⟨Cx,x21,x22,x23,x24,x25,h,S.nf [true,true,true,true] rfl (subR rfl)⟩)
     clear S h;rintro a w22 ⟨x15,x16,x17,x18,x19,x20,h,S⟩;rw [hj4] at h;clear hj4 j4
     exact Gy (Tn (⟨x15,x16,x17,x18,x19,x20,h,S.nf [true,true,true,true] rfl (subR rfl)⟩))
    clear S h;rintro a w21 ⟨x9,x10,x11,x12,x13,x14,h,S⟩;rw [hj3] at h;clear hj3 j3
    refine Tn (Fs (Fr (Vm S rfl rfl ?_)));clear S;intro a S
    obtain ⟨r12,hr12,h⟩:=Ej h
    refine Ft 3 S (b:=O) rfl rfl (fun _=>.blk O [V,iV r12.2] 25) (fun _=>Cz (vs:=[.pointer (some ⟨O,0,none⟩),iV 100]) ⟨(S.tm rfl),rfl,trivial⟩ call32) (Tx _ O V Ak (Ai.mono (S.le_arg (Hd (i:=3) (e:=.blk O [V,iV x14] 25) rfl))) x14 (S.holds _ (List.mem_of_getElem? (i:=3) rfl)) 100 _ hr12) rfl (fun _ _ _ h=>⟨h.1,fun _ hc=>by cases hc;rfl⟩) ?_;clear S;intro v15 a w48 hv14 hk41 hn14 S
    replace hv14:=hv14.2
    subst hv14
    refine Dl ?_
    obtain ⟨j7,hj7,h⟩:=Eo h
    refine Dy (fun a w'=>∃ x29 : ByteArray,∃ x30 : Int,∃ x31 : Int,∃ x32 : ByteArray,∃ x33 : ByteArray,∃ x34 : ByteArray,∃ x35 : Int,∃ x36 : Int,∃ x37 : Int,∃ x38 : Int,j7 x29 x30 x31 x32 x33 x34 x35 x36 x37 x38 = some r ∧ Sx w [O] nov [.blk b5 (An.enc (An.mk x29 x30 (W (x4 + r1.1)) x31 x32 x33 x34 x35 x36 x12 x37)) 93,.map b1 (He Value.string (Value.int .i64) (Fz x1 r2.1 (W ((Ek x1 r2.1 0) + 1)))) (Fz x1 r2.1 (W ((Ek x1 r2.1 0) + 1))).length,.own v1 93 11 x2.length (x2.flatMap An.enc),.blk O [V,iV x38] 25] [(0,.pointer (some ⟨O,0,none⟩)),(5,v1),(6,iV (W (x4 + r1.1))),(7,.map (some b1)),(8,.pointer (some ⟨b5,0,none⟩)),(10,iV Aq),(11,iV x5)] 130 a w') ?_ ?_
    ·refine Fc h (S.tm rfl) (fun hb6 h=>?_) (fun hb6 h=>?_)
     ·refine Fr (Vm S rfl rfl ?_);clear S;intro a S
      obtain ⟨r13,hr13,h⟩:=Ej h
      refine Ft 3 S (b:=O) rfl rfl (fun _=>.blk O [V,iV r13.2] 25) (fun _=>Cz (vs:=[.pointer (some ⟨O,0,none⟩),iV 4]) ⟨(S.tm rfl),rfl,trivial⟩ call18) (Pv _ O V Ak (Ai.mono (S.le_arg (Hd (i:=3) (e:=.blk O [V,iV r12.2] 25) rfl))) r12.2 (S.holds _ (List.mem_of_getElem? (i:=3) rfl)) 4 _ hr13) rfl (fun _ _ _ h=>⟨h.1,fun _ hc=>by cases hc;rfl⟩) ?_;clear S;intro v16 a w50 hv15 hk42 hn15 S
      replace hv15:=hv15.2
      subst hv15
      refine Dl ?_
      obtain ⟨j8,hj8,h⟩:=Eo h
      refine Dy (fun a w'=>∃ x39 : ByteArray,∃ x40 : Int,∃ x41 : Int,∃ x42 : ByteArray,∃ x43 : ByteArray,∃ x44 : ByteArray,∃ x45 : Int,∃ x46 : Int,∃ x47 : Int,∃ x48 : Int,j8 x39 x40 x41 x42 x43 x44 x45 x46 x47 x48 = some r ∧ Sx w [O] nov [.blk b5 (An.enc (An.mk x39 x40 (W (x4 + r1.1)) x41 x42 x43 x44 x45 x46 x12 x47)) 93,.map b1 (He Value.string (Value.int .i64) (Fz x1 r2.1 (W ((Ek x1 r2.1 0) + 1)))) (Fz x1 r2.1 (W ((Ek x1 r2.1 0) + 1))).length,.own v1 93 11 x2.length (x2.flatMap An.enc),.blk O [V,iV x48] 25] [(0,.pointer (some ⟨O,0,none⟩)),(5,v1),(6,iV (W (x4 + r1.1))),(7,.map (some b1)),(8,.pointer (some ⟨b5,0,none⟩)),(10,iV Aq),(11,iV x5)] 130 a w') ?_ ?_
      ·refine wp_block (Fr (Vq S Hj rfl rfl rfl fun a S=>Va S rfl rfl fun a S=>Dl ?_))
       obtain ⟨j9,hj9,h⟩:=Eo h
       refine Dy (fun a w'=>∃ x49 : ByteArray,∃ x50 : Int,∃ x51 : Int,∃ x52 : ByteArray,∃ x53 : ByteArray,∃ x54 : ByteArray,∃ x55 : Int,∃ x56 : Int,∃ x57 : Int,∃ x58 : Int,j9 x49 x50 x51 x52 x53 x54 x55 x56 x57 x58 = some r ∧ Sx w [O] nov [.blk b5 (An.enc (An.mk x49 x50 (W (x4 + r1.1)) x51 x52 x53 x54 x55 x56 x12 x57)) 93,.map b1 (He Value.string (Value.int .i64) (Fz x1 r2.1 (W ((Ek x1 r2.1 0) + 1)))) (Fz x1 r2.1 (W ((Ek x1 r2.1 0) + 1))).length,.own v1 93 11 x2.length (x2.flatMap An.enc),.blk O [V,iV x58] 25] [(0,.pointer (some ⟨O,0,none⟩)),(5,v1),(6,iV (W (x4 + r1.1))),(7,.map (some b1)),(8,.pointer (some ⟨b5,0,none⟩)),(10,iV Aq),(11,iV x5)] 130 a w') ?_ ?_
       ·refine Fc h (S.tm rfl) (fun hb7 h=>?_) (fun hb7 h=>?_)
        ·refine Fg (Vm S rfl rfl fun a S=>Dv S underlying45 sizeOf9 zeroValue9 rfl rfl (pv:=[(0,sV Cx),(1,sV Pa)]) ⟨rfl,rfl,rfl,rfl,trivial⟩ (cs:=[sV Cx,sV Pa]) (by kernel_rfl) rfl ?_);clear S;intro a w53 b14 hz14 hk43 S
         obtain ⟨r14,hr14,h⟩:=Ej h
         refine Ft 4 S (b:=O) rfl rfl (fun _=>.blk O [V,iV r14.2] 25) (fun _=>Cz (vs:=[.pointer (some ⟨O,0,none⟩),.slice (some ⟨b14,0,none⟩) 2 2]) ⟨(S.tm rfl),(S.tm rfl),trivial⟩ call35) (Li _ O V Ak (Ai.mono (S.le_arg (Hd (i:=4) (e:=.blk O [V,iV r13.2] 25) rfl))) r13.2 (S.holds _ (List.mem_of_getElem? (i:=4) rfl)) (.slice (some ⟨b14,0,none⟩) 2 2) [Cx,Pa] (Ib Hi S (i:=0) rfl rfl rfl rfl ((Jl (i:=4) (j:=0) (e:=.blk O [V,iV r13.2] 25) (e':=.blk b14 [sV Cx,sV Pa] 9) S rfl rfl rfl) _ rfl)) _ hr14) rfl (fun _ _ _ h=>⟨h.1,fun _ hc=>by cases hc;rfl⟩) ?_;clear S;intro v17 a w54 hv16 hk44 hn16 S
         replace hv16:=hv16.2
         subst hv16
         refine Vm S rfl rfl ?_;clear S;intro a S
         obtain ⟨r15,hr15,h⟩:=Ej h
         refine Ft 4 S (b:=O) rfl rfl (fun _=>.blk O [V,iV r15.2] 25) (fun _=>Cz (vs:=[.pointer (some ⟨O,0,none⟩),iV 1,iV 9]) ⟨(S.tm rfl),rfl,rfl,trivial⟩ call36) (Ql _ O V Ak (Ai.mono (S.le_arg (Hd (i:=4) (e:=.blk O [V,iV r14.2] 25) rfl))) r14.2 (S.holds _ (List.mem_of_getElem? (i:=4) rfl)) 1 9 _ hr15) rfl (fun _ _ _ h=>⟨h.1,fun _ hc=>by cases hc;rfl⟩) ?_;clear S;intro v18 a w55 hv17 hk45 hn17 S
         replace hv17:=hv17.2
         subst hv17
         refine Vf Oh S rfl rfl fun a S=>Ep S (S.tm rfl) (S.tm rfl) (i:=1) (off:=0) rfl sizeOf9 (vs:=[sV r14.1]) rfl rfl rfl rfl ?_;clear S;intro w56 hk46 S
         refine Vf Qc S rfl rfl fun a S=>Ep S (S.tm rfl) (S.tm rfl) (i:=1) (off:=1) rfl sizeOf3 (vs:=[iV r15.1]) rfl rfl rfl rfl ?_;clear S;intro w57 hk47 S
         refine Ld ?_
         replace S:=(S.nl [.blk b5 (An.enc (An.mk r14.1 r15.1 (W (x4 + r1.1)) r3.1 x6 x9 x7 x10 x11 x12 x13)) 93,.map b1 (He Value.string (Value.int .i64) (Fz x1 r2.1 (W ((Ek x1 r2.1 0) + 1)))) (Fz x1 r2.1 (W ((Ek x1 r2.1 0) + 1))).length,.own v1 93 11 x2.length (x2.flatMap An.enc),.blk O [V,iV r15.2] 25] [false,true,true,true,true] rfl).k7 0 5 6 7 8 10 11 rfl
         exact Tn (⟨r14.1,r15.1,r3.1,x6,x9,x7,x10,x11,x13,r15.2,h,S.nf [true,true,true,true] rfl (subR rfl)⟩)
        ·refine Fr (Vq S Hj rfl rfl rfl fun a S=>Va S rfl rfl fun a S=>Ld ?_)
         replace S:=(S.nl [.blk b5 (An.enc (An.mk r2.1 (Ek (Fz x1 r2.1 (W ((Ek x1 r2.1 0) + 1))) r2.1 0) (W (x4 + r1.1)) r3.1 x6 x9 x7 x10 x11 x12 x13)) 93,.map b1 (He Value.string (Value.int .i64) (Fz x1 r2.1 (W ((Ek x1 r2.1 0) + 1)))) (Fz x1 r2.1 (W ((Ek x1 r2.1 0) + 1))).length,.own v1 93 11 x2.length (x2.flatMap An.enc),.blk O [V,iV r13.2] 25] [true,true,true,true] rfl).k9 0 5 6 7 8 10 11 84 103 rfl
         refine Tn ?_
         obtain ⟨j10,hj10,h⟩:=Eo h
         refine Dy (fun a w'=>∃ x59 : Int,∃ x60 : ByteArray,∃ x61 : ByteArray,∃ x62 : ByteArray,∃ x63 : Int,∃ x64 : Int,∃ x65 : Int,∃ x66 : Int,j10 x59 x60 x61 x62 x63 x64 x65 x66 = some r ∧ Sx w [O] nov [.blk b5 (An.enc (An.mk r2.1 (Ek (Fz x1 r2.1 (W ((Ek x1 r2.1 0) + 1))) r2.1 0) (W (x4 + r1.1)) x59 x60 x61 x62 x63 x64 x12 x65)) 93,.map b1 (He Value.string (Value.int .i64) (Fz x1 r2.1 (W ((Ek x1 r2.1 0) + 1)))) (Fz x1 r2.1 (W ((Ek x1 r2.1 0) + 1))).length,.own v1 93 11 x2.length (x2.flatMap An.enc),.blk O [V,iV x66] 25] [(0,.pointer (some ⟨O,0,none⟩)),(5,v1),(6,iV (W (x4 + r1.1))),(7,.map (some b1)),(8,.pointer (some ⟨b5,0,none⟩)),(10,iV Aq),(11,iV x5)] 130 a w') ?_ ?_
         ·refine Fc h (S.tm rfl) (fun hb8 h=>?_) (fun hb8 h=>?_)
          ·refine Fg (Vm S rfl rfl ?_);clear S;intro a S
           obtain ⟨r16,hr16,h⟩:=Ej h
           refine Ft 3 S (b:=O) rfl rfl (fun _=>.blk O [V,iV r16.2] 25) (fun _=>Cz (vs:=[.pointer (some ⟨O,0,none⟩),iV 1,iV 4]) ⟨(S.tm rfl),rfl,rfl,trivial⟩ call36) (Ql _ O V Ak (Ai.mono (S.le_arg (Hd (i:=3) (e:=.blk O [V,iV r13.2] 25) rfl))) r13.2 (S.holds _ (List.mem_of_getElem? (i:=3) rfl)) 1 4 _ hr16) rfl (fun _ _ _ h=>⟨h.1,fun _ hc=>by cases hc;rfl⟩) ?_;clear S;intro v19 a w59 hv18 hk48 hn18 S
           replace hv18:=hv18.2
           subst hv18
           refine Vf Nh S rfl rfl fun a S=>Ep S (S.tm rfl) (S.tm rfl) (i:=0) (off:=3) rfl sizeOf3 (vs:=[iV r16.1]) rfl rfl rfl rfl ?_;clear S;intro w60 hk49 S
           exact Dl (⟨r16.1,x6,x9,x7,x10,x11,x13,r16.2,h,S.nf [true,true,true,true] rfl (subR rfl)⟩)
          ·refine Fr (Vq S Hj rfl rfl rfl fun a S=>Va S rfl rfl fun a S=>Dl ?_)
           obtain ⟨j11,hj11,h⟩:=Eo h
           refine Dy (fun a w'=>∃ x67 : ByteArray,∃ x68 : ByteArray,∃ x69 : ByteArray,∃ x70 : Int,∃ x71 : Int,∃ x72 : Int,∃ x73 : Int,j11 x67 x68 x69 x70 x71 x72 x73 = some r ∧ Sx w [O] nov [.blk b5 (An.enc (An.mk r2.1 (Ek (Fz x1 r2.1 (W ((Ek x1 r2.1 0) + 1))) r2.1 0) (W (x4 + r1.1)) r3.1 x67 x68 x69 x70 x71 x12 x72)) 93,.map b1 (He Value.string (Value.int .i64) (Fz x1 r2.1 (W ((Ek x1 r2.1 0) + 1)))) (Fz x1 r2.1 (W ((Ek x1 r2.1 0) + 1))).length,.own v1 93 11 x2.length (x2.flatMap An.enc),.blk O [V,iV x73] 25] [(0,.pointer (some ⟨O,0,none⟩)),(5,v1),(6,iV (W (x4 + r1.1))),(7,.map (some b1)),(8,.pointer (some ⟨b5,0,none⟩)),(10,iV Aq),(11,iV x5)] 130 a w') ?_ ?_
           ·refine Fc h (S.tm rfl) (fun hb9 h=>?_) (fun hb9 h=>?_)
            ·refine Fg (Vm S rfl rfl fun a S=>Dv S underlying45 sizeOf9 zeroValue9 rfl rfl (pv:=[(0,sV Cx),(1,sV Te)]) ⟨rfl,rfl,rfl,rfl,trivial⟩ (cs:=[sV Cx,sV Te]) (by kernel_rfl) rfl ?_);clear S;intro a w62 b15 hz15 hk50 S
             obtain ⟨r17,hr17,h⟩:=Ej h
             refine Ft 4 S (b:=O) rfl rfl (fun _=>.blk O [V,iV r17.2] 25) (fun _=>Cz (vs:=[.pointer (some ⟨O,0,none⟩),.slice (some ⟨b15,0,none⟩) 2 2]) ⟨(S.tm rfl),(S.tm rfl),trivial⟩ call35) (Li _ O V Ak (Ai.mono (S.le_arg (Hd (i:=4) (e:=.blk O [V,iV r13.2] 25) rfl))) r13.2 (S.holds _ (List.mem_of_getElem? (i:=4) rfl)) (.slice (some ⟨b15,0,none⟩) 2 2) [Cx,Te] (Ib Hi S (i:=0) rfl rfl rfl rfl ((Jl (i:=4) (j:=0) (e:=.blk O [V,iV r13.2] 25) (e':=.blk b15 [sV Cx,sV Te] 9) S rfl rfl rfl) _ rfl)) _ hr17) rfl (fun _ _ _ h=>⟨h.1,fun _ hc=>by cases hc;rfl⟩) ?_;clear S;intro v20 a w63 hv19 hk51 hn19 S
             replace hv19:=hv19.2
             subst hv19
             refine Vm S rfl rfl fun a S=>Dv S underlying45 sizeOf9 zeroValue9 rfl rfl (pv:=[(0,sV k_A),(1,sV Sj)]) ⟨rfl,rfl,rfl,rfl,trivial⟩ (cs:=[sV k_A,sV Sj]) (by kernel_rfl) rfl ?_;clear S;intro a w64 b16 hz16 hk52 S
             obtain ⟨r18,hr18,h⟩:=Ej h
             refine Ft 5 S (b:=O) rfl rfl (fun _=>.blk O [V,iV r18.2] 25) (fun _=>Cz (vs:=[.pointer (some ⟨O,0,none⟩),.slice (some ⟨b16,0,none⟩) 2 2]) ⟨(S.tm rfl),(S.tm rfl),trivial⟩ call35) (Li _ O V Ak (Ai.mono (S.le_arg (Hd (i:=5) (e:=.blk O [V,iV r17.2] 25) rfl))) r17.2 (S.holds _ (List.mem_of_getElem? (i:=5) rfl)) (.slice (some ⟨b16,0,none⟩) 2 2) [k_A,Sj] (Ib Hi S (i:=0) rfl rfl rfl rfl ((Jl (i:=5) (j:=0) (e:=.blk O [V,iV r17.2] 25) (e':=.blk b16 [sV k_A,sV Sj] 9) S rfl rfl rfl) _ rfl)) _ hr18) rfl (fun _ _ _ h=>⟨h.1,fun _ hc=>by cases hc;rfl⟩) ?_;clear S;intro v21 a w65 hv20 hk53 hn20 S
             replace hv20:=hv20.2
             subst hv20
             refine Vm S rfl rfl fun a S=>Dv S underlying45 sizeOf9 zeroValue9 rfl rfl (pv:=[(0,sV Cx),(1,sV Np)]) ⟨rfl,rfl,rfl,rfl,trivial⟩ (cs:=[sV Cx,sV Np]) (by kernel_rfl) rfl ?_;clear S;intro a w66 b17 hz17 hk54 S
             obtain ⟨r19,hr19,h⟩:=Ej h
             refine Ft 6 S (b:=O) rfl rfl (fun _=>.blk O [V,iV r19.2] 25) (fun _=>Cz (vs:=[.pointer (some ⟨O,0,none⟩),.slice (some ⟨b17,0,none⟩) 2 2]) ⟨(S.tm rfl),(S.tm rfl),trivial⟩ call35) (Li _ O V Ak (Ai.mono (S.le_arg (Hd (i:=6) (e:=.blk O [V,iV r18.2] 25) rfl))) r18.2 (S.holds _ (List.mem_of_getElem? (i:=6) rfl)) (.slice (some ⟨b17,0,none⟩) 2 2) [Cx,Np] (Ib Hi S (i:=0) rfl rfl rfl rfl ((Jl (i:=6) (j:=0) (e:=.blk O [V,iV r18.2] 25) (e':=.blk b17 [sV Cx,sV Np] 9) S rfl rfl rfl) _ rfl)) _ hr19) rfl (fun _ _ _ h=>⟨h.1,fun _ hc=>by cases hc;rfl⟩) ?_;clear S;intro v22 a w67 hv21 hk55 hn21 S
             replace hv21:=hv21.2
             subst hv21
             refine Vf Nx S rfl rfl fun a S=>Ep S (S.tm rfl) (S.tm rfl) (i:=3) (off:=4) rfl sizeOf9 (vs:=[sV r17.1]) rfl rfl rfl rfl ?_;clear S;intro w68 hk56 S
             refine Vf Sq S rfl rfl fun a S=>Ep S (S.tm rfl) (S.tm rfl) (i:=3) (off:=5) rfl sizeOf9 (vs:=[sV r18.1]) rfl rfl rfl rfl ?_;clear S;intro w69 hk57 S
             refine Vf Qd S rfl rfl fun a S=>Ep S (S.tm rfl) (S.tm rfl) (i:=3) (off:=6) rfl sizeOf9 (vs:=[sV r19.1]) rfl rfl rfl rfl ?_;clear S;intro w70 hk58 S
             refine Ld ?_
             replace S:=(S.nl [.blk b5 (An.enc (An.mk r2.1 (Ek (Fz x1 r2.1 (W ((Ek x1 r2.1 0) + 1))) r2.1 0) (W (x4 + r1.1)) r3.1 r17.1 r18.1 r19.1 x10 x11 x12 x13)) 93,.map b1 (He Value.string (Value.int .i64) (Fz x1 r2.1 (W ((Ek x1 r2.1 0) + 1)))) (Fz x1 r2.1 (W ((Ek x1 r2.1 0) + 1))).length,.own v1 93 11 x2.length (x2.flatMap An.enc),.blk O [V,iV r19.2] 25] [false,false,false,true,true,true,true] rfl).k7 0 5 6 7 8 10 11 rfl
             exact Tn (⟨r17.1,r18.1,r19.1,x10,x11,x13,r19.2,h,S.nf [true,true,true,true] rfl (subR rfl)⟩)
            ·refine Fg (Vm S rfl rfl ?_);clear S;intro a S
             obtain ⟨r20,hr20,h⟩:=Ej h
             refine Ft 3 S (b:=O) rfl rfl (fun _=>.blk O [V,iV r20.2] 25) (fun _=>Cz (vs:=[.pointer (some ⟨O,0,none⟩),iV 0,iV 360000]) ⟨(S.tm rfl),rfl,rfl,trivial⟩ call36) (Ql _ O V Ak (Ai.mono (S.le_arg (Hd (i:=3) (e:=.blk O [V,iV r13.2] 25) rfl))) r13.2 (S.holds _ (List.mem_of_getElem? (i:=3) rfl)) 0 360000 _ hr20) rfl (fun _ _ _ h=>⟨h.1,fun _ hc=>by cases hc;rfl⟩) ?_;clear S;intro v23 a w71 hv22 hk59 hn22 S
             replace hv22:=hv22.2
             subst hv22
             refine Vm S rfl rfl ?_;clear S;intro a S
             obtain ⟨r21,hr21,h⟩:=Ej h
             refine Ft 3 S (b:=O) rfl rfl (fun _=>.blk O [V,iV r21.2] 25) (fun _=>Cz (vs:=[.pointer (some ⟨O,0,none⟩),iV 0,iV 8]) ⟨(S.tm rfl),rfl,rfl,trivial⟩ call36) (Ql _ O V Ak (Ai.mono (S.le_arg (Hd (i:=3) (e:=.blk O [V,iV r20.2] 25) rfl))) r20.2 (S.holds _ (List.mem_of_getElem? (i:=3) rfl)) 0 8 _ hr21) rfl (fun _ _ _ h=>⟨h.1,fun _ hc=>by cases hc;rfl⟩) ?_;clear S;intro v24 a w72 hv23 hk60 hn23 S
             replace hv23:=hv23.2
             subst hv23
             refine Vm S rfl rfl ?_;clear S;intro a S
             obtain ⟨r22,hr22,h⟩:=Ej h
             refine Ft 3 S (b:=O) rfl rfl (fun _=>.blk O [V,iV r22.2] 25) (fun _=>Cz (vs:=[.pointer (some ⟨O,0,none⟩),iV 0,iV 5]) ⟨(S.tm rfl),rfl,rfl,trivial⟩ call36) (Ql _ O V Ak (Ai.mono (S.le_arg (Hd (i:=3) (e:=.blk O [V,iV r21.2] 25) rfl))) r21.2 (S.holds _ (List.mem_of_getElem? (i:=3) rfl)) 0 5 _ hr22) rfl (fun _ _ _ h=>⟨h.1,fun _ hc=>by cases hc;rfl⟩) ?_;clear S;intro v25 a w73 hv24 hk61 hn24 S
             replace hv24:=hv24.2
             subst hv24
             refine Vf Qs S rfl rfl fun a S=>Ep S (S.tm rfl) (S.tm rfl) (i:=0) (off:=7) rfl sizeOf3 (vs:=[iV r20.1]) rfl rfl rfl rfl ?_;clear S;intro w74 hk62 S
             refine Vf Uj S rfl rfl fun a S=>Ep S (S.tm rfl) (S.tm rfl) (i:=0) (off:=8) rfl sizeOf3 (vs:=[iV r21.1]) rfl rfl rfl rfl ?_;clear S;intro w75 hk63 S
             refine Vf Rv S rfl rfl fun a S=>Ep S (S.tm rfl) (S.tm rfl) (i:=0) (off:=10) rfl sizeOf3 (vs:=[iV r22.1]) rfl rfl rfl rfl ?_;clear S;intro w76 hk64 S
             refine Ld ?_
             replace S:=(S.nl [.blk b5 (An.enc (An.mk r2.1 (Ek (Fz x1 r2.1 (W ((Ek x1 r2.1 0) + 1))) r2.1 0) (W (x4 + r1.1)) r3.1 x6 x9 x7 r20.1 r21.1 x12 r22.1)) 93,.map b1 (He Value.string (Value.int .i64) (Fz x1 r2.1 (W ((Ek x1 r2.1 0) + 1)))) (Fz x1 r2.1 (W ((Ek x1 r2.1 0) + 1))).length,.own v1 93 11 x2.length (x2.flatMap An.enc),.blk O [V,iV r22.2] 25] [true,true,true,true] rfl).k7 0 5 6 7 8 10 11 rfl
             exact Tn (⟨x6,x9,x7,r20.1,r21.1,r22.1,r22.2,h,S.nf [true,true,true,true] rfl (subR rfl)⟩)
           clear S h;rintro a w61 ⟨x67,x68,x69,x70,x71,x72,x73,h,S⟩;rw [hj11] at h;clear hj11 j11
           exact Tn (⟨r3.1,x67,x68,x69,x70,x71,x72,x73,h,S.nf [true,true,true,true] rfl (subR rfl)⟩)
         clear S h;rintro a w58 ⟨x59,x60,x61,x62,x63,x64,x65,x66,h,S⟩;rw [hj10] at h;clear hj10 j10
         exact Tn (⟨r2.1,Ek (Fz x1 r2.1 (W ((Ek x1 r2.1 0) + 1))) r2.1 0,x59,x60,x61,x62,x63,x64,x65,x66,h,S.nf [true,true,true,true] rfl (subR rfl)⟩)
       clear S h;rintro a w52 ⟨x49,x50,x51,x52,x53,x54,x55,x56,x57,x58,h,S⟩;rw [hj9] at h;clear hj9 j9
       exact Gy (Tn (⟨x49,x50,x51,x52,x53,x54,x55,x56,x57,x58,h,S.nf [true,true,true,true] rfl (subR rfl)⟩))
      clear S h;rintro a w51 ⟨x39,x40,x41,x42,x43,x44,x45,x46,x47,x48,h,S⟩;rw [hj8] at h;clear hj8 j8
      exact Tn (⟨x39,x40,x41,x42,x43,x44,x45,x46,x47,x48,h,S.nf [true,true,true,true] rfl (subR rfl)⟩)
     ·exact wp_skip (Tn (⟨r2.1,Ek (Fz x1 r2.1 (W ((Ek x1 r2.1 0) + 1))) r2.1 0,r3.1,x6,x9,x7,x10,x11,x13,r12.2,h,S.nf [true,true,true,true] rfl (subR rfl)⟩))
    clear S h;rintro a w49 ⟨x29,x30,x31,x32,x33,x34,x35,x36,x37,x38,h,S⟩;rw [hj7] at h;clear hj7 j7
    refine Tn (Fg (Vm S rfl rfl fun a S=>lv S (Fb isAgg93 sizeOf93 (off:=0) (o:=0) (part:=(An.enc (An.mk x29 x30 (W (x4 + r1.1)) x31 x32 x33 x34 x35 x36 x12 x37))) rfl rfl (S.tm rfl) (S.cellsAt (i:=0) rfl)) rfl fun a S=>Dv S underlying34 sizeOf93 zeroValue93 rfl rfl (pv:=[(0,.agg (An.enc (An.mk x29 x30 (W (x4 + r1.1)) x31 x32 x33 x34 x35 x36 x12 x37)).toArray)]) ⟨rfl,(S.tm rfl),trivial⟩ (cs:=[sV x29,iV x30,iV (W (x4 + r1.1)),iV x31,sV x32,sV x33,sV x34,iV x35,iV x36,sV x12,iV x37]) (by kernel_rfl) rfl ?_));clear S;intro a w77 b18 hz18 hk65 S
    obtain ⟨hc1,h⟩:=Gu h
    refine Lq Ll An.enc_ok S (S.tm rfl) (i:=3) rfl (S.tm rfl) (j:=0) rfl (ys:=[(An.mk x29 x30 (W (x4 + r1.1)) x31 x32 x33 x34 x35 x36 x12 x37)]) rfl rfl rfl rfl (by have:=Nm hc1;omega) rfl ?_;clear S;intro v26 a w78 hk66 S
    exact Va S rfl rfl fun a S=>Ld (Gy (Tn (Fg (Vq S Fa rfl rfl rfl fun a S=>Vm S rfl rfl fun a S=>Dl (⟨m1,⟨(Fz x1 r2.1 (W ((Ek x1 r2.1 0) + 1))),(x2 ++ [(An.mk x29 x30 (W (x4 + r1.1)) x31 x32 x33 x34 x35 x36 x12 x37)]),x38,W (x4 + r1.1),W (x5 + 1),v26,h,S.nf [false,false,true,true,true] rfl ⟨rfl,rfl,rfl,rfl,rfl,rfl,trivial⟩⟩,Nat.lt_succ_self _⟩)))))
   ·exact wp_exit (Dt (Dt (Gh (Tn (⟨x1,x2,x3,v1,h,S.nf [true,true,true] rfl ⟨rfl,trivial⟩⟩)))))
 clear S h;rintro a w3 ⟨x1,x2,x3,v1,h,S⟩;rw [hj1] at h;clear hj1 j1
 refine Tn (Fr (Vm S rfl rfl ?_));clear S;intro a S
 obtain ⟨r23,hr23,h⟩:=Ej h
 refine Km 1 S rfl (fun _=>.own v1 93 11 r23.length (r23.flatMap An.enc)) (fun _=>Cz (vs:=[v1,.func (.func 38) #[] #[]]) ⟨(S.tm rfl),rfl,trivial⟩ call37) (Nk _ v1 x2 (S.holds _ (List.mem_of_getElem? (i:=1) rfl)) _ hr23) rfl (fun _ _ _ h=>⟨h.1,fun _ hc=>hc⟩) ?_;clear S;intro v27 a w79 hv25 hk67 hn25 S
 replace hv25:=hv25.2
 subst hv25
 refine Dz (Vm S rfl rfl fun a S=>Va S rfl rfl fun a S=>Dl (wp_ret ?_))
 obtain rfl:=Option.some.inj h
 exact Ds S results16 rfl ⟨(S.holds _ (List.mem_of_getElem? (i:=2) rfl)),(CF S (i:=1) rfl (fun c hc hh=>Xq S (i:=2) rfl rfl (j:=1) rfl rfl (by simp at hc;subst hc;exact hh)))⟩
theorem Nd (w : World) (Av : Int) (Bi : Int) (Bc : Int) (r : Bool) (h : Ig Av Bi Bc = r) :
    Calls prog 82 [iV Av,iV Bi,iV Bc].toArray w (Ret w [] fun _ v _=>v = bV r):=by
 refine Fe func82 rfl ntmps82 rfl fun a S=>?_
 unfold Ig at h
 replace S:=S.k3 0 1 2 rfl
 refine Fr (Vk S rfl rfl fun a S=>Dz (Vm S rfl rfl fun a S=>Vm S rfl rfl fun a S=>Vb S Qt rfl rfl rfl fun a S=>Vm S rfl rfl ?_));clear S;intro a S
 refine Gr 4 (fun a w'=>Keep [] w w' ∧ Sx w [] nov [] [(14,bV ((decide (Bi ≤ Av)) && (decide (Av ≤ Bc))))] 15 a w') ?_ ?_
 ·rcases Bool.eq_false_or_eq_true (decide (Bi ≤ Av)) with hb1 | hb1
  ·exact Da S rfl rfl rfl hb1 (Vm S rfl rfl fun a S=>Da S rfl rfl rfl hb1 (Vm S rfl rfl fun a S=>Da S rfl rfl rfl hb1 (Vb S Qt rfl rfl rfl fun a S=>lv S (Hk hb1 (S.tm rfl) (S.tm rfl)) rfl fun a S=>Dl (⟨Keep.refl _ _,S.nf [] rfl ⟨rfl,trivial⟩⟩))))
  ·iterate 3 (refine Fy S rfl rfl rfl (Jk hb1) rfl ?_ rfl;clear S;intro a S)
   exact lv S (Hl (decide (Av ≤ Bc)) hb1 (S.tm rfl) rfl) rfl fun a S=>Dl (⟨Keep.refl _ _,S.nf [] rfl ⟨rfl,trivial⟩⟩)
 clear S;rintro a w1 ⟨hk1,S⟩
 refine Va S rfl rfl fun a S=>Dl (wp_ret ?_)
 subst h
 exact Ds S results82 rfl rfl
theorem Xb (w : World) (s : ByteArray) (c : Int) (r : Int) (h : Pl s c = r) : Calls prog 135 [.string s,.int .u8 c].toArray w (Ret w [] fun _ v _=>v = .int .i64 r):=by
  subst h
  exact BA (Any.strings_IndexByte Tryz.lays137 s c w)
theorem Vd (w : World) (Ap : ByteArray) (Cg : ByteArray) (r : Bool) (h : Pe Ap Cg = some r) :
    Calls prog 111 [sV Ap,sV Cg].toArray w (Ret w [] fun _ v _=>v = bV r):=by
 refine Fe func111 rfl ntmps111 rfl fun a S=>?_
 unfold Pe at h
 replace S:=S.k2 0 1 rfl
 refine Fr (Vk S rfl rfl fun a S=>Dl (Fs (Fr (Vm S rfl rfl fun a S=>Vu S (Vr underlying9) rfl rfl fun a S=>lv S (Rm rfl) rfl ?_))));clear S;intro a S
 refine Dl ?_
 replace S:=S.k4 0 1 7 8 rfl
 obtain ⟨j1,hj1,h⟩:=Eo h
 refine Dy (fun a w'=>j1 = some r ∧ Sx w [] nov [] [] 18 a w') ?_ ?_
 ·refine wp_block (Gs (fun (m1 : Nat) a w'=>∃ x1 : Int,Jd Ap Cg j1 m1 x1 = some r ∧ Sx w [] nov [] [(0,sV Ap),(1,sV Cg),(7,iV (Ap.size : Int)),(8,iV x1)] 18 a w') id (((Ap.size : Int) - 0).toNat + 2) ⟨0,h,S.nf [] rfl (subR rfl)⟩ ?_)
  clear S h;rintro m1 a w1 ⟨x1,h,S⟩
  cases m1 with
  | zero=>rw [Jd.eq_1] at h;cases h
  | succ m1 =>
   rw [Jd.eq_2] at h
   refine Fr (Vb S Ev rfl rfl rfl fun a S=>Dl (Fs (Fc h (S.tm rfl) (fun hb1 h=>?_) (fun hb1 h=>?_))))
   ·refine wp_skip (Tn (Fs (wp_block (Fr (Vm S rfl rfl fun a S=>Va S rfl rfl fun a S=>Dl (Fs ?_))))))
    refine Fg ?_
    iterate 3 (refine Vm S rfl rfl ?_;clear S;intro a S)
    obtain ⟨hc1,h⟩:=Gu h
    refine lv S (Tt underlying9 (S.tm rfl) (S.tm rfl) hc1) rfl fun a S=>Dd S (fun _=>Cz (vs:=[sV Cg,.int .u8 (Ub Ap x1)]) ⟨(S.tm rfl),(S.tm rfl),trivial⟩ call135) (Xb _ Cg (Ub Ap x1) _ rfl) rfl ?_;clear S;intro v1 a w3 hv1 hk1 hn1 S
    subst hv1
    refine Vq S Ev rfl rfl rfl fun a S=>Dl (Fc h (S.tm rfl) (fun hb2 h=>?_) (fun hb2 h=>?_))
    ·refine Fr (Vk S rfl rfl fun a S=>Dl (wp_ret (Gc (Db (Db (Gc (Db ?_)))))))
     refine Db ?_
     obtain rfl:=Option.some.inj h
     exact Ds S results111 rfl rfl
    ·exact wp_skip (Gy (Tn (Fg (Vq S Fa rfl rfl rfl fun a S=>Vm S rfl rfl fun a S=>Dl (⟨m1,⟨W (x1 + 1),h,S.nf [] rfl ⟨rfl,rfl,rfl,rfl,trivial⟩⟩,Nat.lt_succ_self _⟩)))))
   ·exact wp_exit (Dt (Dt (Gh (Tn (⟨h,S.nf [] rfl trivial⟩)))))
 clear S h;rintro a w2 ⟨h,S⟩;rw [hj1] at h;clear hj1 j1
 refine Tn (Fr (Vk S rfl rfl fun a S=>Dl (wp_ret ?_)))
 obtain rfl:=Option.some.inj h
 exact Ds S results111 rfl rfl
theorem Pd (w : World) (Ap : ByteArray) (r : Bool) (h : Ls Ap = some r) :
    Calls prog 81 [sV Ap].toArray w (Ret w [] fun _ v _=>v = bV r):=by
 refine Fe func81 rfl ntmps81 rfl fun a S=>?_
 unfold Ls at h
 replace S:=S.k1 0 rfl
 refine Fr (Vk S rfl rfl fun a S=>Dz (Vm S rfl rfl fun a S=>Vu S (Vr underlying9) rfl rfl fun a S=>Dd S (fun _=>Cz (vs:=[iV (Ap.size : Int),iV 1,iV 40]) ⟨(S.tm rfl),rfl,rfl,trivial⟩ call82) (Nd _ (Ap.size : Int) 1 40 _ rfl) rfl ?_));clear S;intro v1 a w1 hv1 hk1 hn1 S
 subst hv1
 refine Vm S rfl rfl ?_;clear S;intro a S
 obtain ⟨j1,hj1,h⟩:=Eo h
 refine Gr 4 (fun a w'=>∃ c1,j1 c1 = some r ∧ Keep [] w1 w' ∧ Sx w [] nov [] [(0,sV Ap),(10,bV c1)] 15 a w') ?_ ?_
 ·rcases Bool.eq_false_or_eq_true (Ig (Ap.size : Int) 1 40) with hb1 | hb1
  ·replace h:=Rb h hb1
   refine Da S rfl rfl rfl hb1 (Vm S rfl rfl fun a S=>Da S rfl rfl rfl hb1 ?_)
   obtain ⟨hc1,h⟩:=Gu h
   refine lv S (KA underlying9 (S.tm rfl) rfl hc1) rfl fun a S=>Da S rfl rfl rfl hb1 ?_
   obtain ⟨r1,hr1,h⟩:=Ej h
   refine Dd S (fun _=>Cz (vs:=[sV (GD Ap 0 1),sV Il]) ⟨(S.tm rfl),rfl,trivial⟩ call111) (Vd _ (GD Ap 0 1) Il _ hr1) rfl ?_;clear S;intro v2 a w3 hv2 hk2 hn2 S
   subst hv2
   exact lv S (Hk hb1 (S.tm rfl) (S.tm rfl)) rfl fun a S=>Dl (⟨_,h,hk2,S.nf [] rfl (subR rfl)⟩)
  ·replace h:=Rc h hb1
   iterate 3 (refine Fy S rfl rfl rfl (Jk hb1) rfl ?_ rfl;clear S;intro a S)
   exact Vq S (Hl true hb1) rfl rfl rfl fun a S=>Dl (⟨_,h,Keep.refl _ _,S.nf [] rfl (subR rfl)⟩)
 clear S h;rintro a w2 ⟨c1,h,hk3,S⟩;rw [hj1] at h;clear hj1 j1
 refine Vm S rfl rfl ?_;clear S;intro a S
 obtain ⟨j2,hj2,h⟩:=Eo h
 refine Gr 3 (fun a w'=>∃ c2,j2 c2 = some r ∧ Keep [] w2 w' ∧ Sx w [] nov [] [(14,bV c2)] 15 a w') ?_ ?_
 ·rcases Bool.eq_false_or_eq_true c1 with hb2 | hb2
  ·replace h:=Rb h hb2
   refine Da S rfl rfl rfl hb2 (Vm S rfl rfl fun a S=>Da S rfl rfl rfl hb2 ?_)
   obtain ⟨r2,hr2,h⟩:=Ej h
   refine Dd S (fun _=>Cz (vs:=[sV Ap,sV Gf]) ⟨(S.tm rfl),rfl,trivial⟩ call111) (Vd _ Ap Gf _ hr2) rfl ?_;clear S;intro v3 a w5 hv3 hk4 hn3 S
   subst hv3
   exact lv S (Hk hb2 (S.tm rfl) (S.tm rfl)) rfl fun a S=>Dl (⟨_,h,hk4,S.nf [] rfl ⟨rfl,trivial⟩⟩)
  ·replace h:=Rc h hb2
   exact Fy S rfl rfl rfl (Jk hb2) rfl (fun a S=>Fy S rfl rfl rfl (Jk hb2) rfl (fun a S=>Vq S (Hl true hb2) rfl rfl rfl fun a S=>Dl (⟨_,h,Keep.refl _ _,S.nf [] rfl ⟨rfl,trivial⟩⟩)) rfl) rfl
 clear S h;rintro a w4 ⟨c2,h,hk5,S⟩;rw [hj2] at h;clear hj2 j2
 refine Va S rfl rfl fun a S=>Dl (wp_ret ?_)
 obtain rfl:=Option.some.inj h
 exact Ds S results81 rfl rfl
theorem Za (w : World) (Bd : Int) (r : Bool) (h : Mf Bd = r) :
    Calls prog 83 [iV Bd].toArray w (Ret w [] fun _ v _=>v = bV r):=by
 refine Fe func83 rfl ntmps83 rfl fun a S=>?_
 unfold Mf at h
 replace S:=S.k1 0 rfl
 refine Fr (Vk S rfl rfl fun a S=>Dz (Vm S rfl rfl fun a S=>Dd S (fun _=>Cz (vs:=[iV Bd,iV 0,iV 345686399999]) ⟨(S.tm rfl),rfl,rfl,trivial⟩ call82) (Nd _ Bd 0 345686399999 _ rfl) rfl ?_));clear S;intro v1 a w1 hv1 hk1 hn1 S
 subst hv1
 refine Va S rfl rfl fun a S=>Dl (wp_ret ?_)
 subst h
 exact Ds S results83 rfl rfl
theorem Wk (w : World) (Ad : An) (r : Int) (h : Mz Ad = some r) :
    Calls prog 39 [.agg (An.enc Ad).toArray].toArray w (Ret w [] fun _ v _=>v = iV r):=by
 refine Fe func39 rfl ntmps39 rfl fun a S=>?_
 unfold Mz at h
 replace S:=S.k1 0 rfl
 refine Fr (Ks S (S.tm rfl) (cs:=(An.enc Ad)) rfl rfl ?_);clear S;intro a w1 b1 hz1 hk1 S
 refine Vk S rfl rfl fun a S=>Dl (Fs (wp_block (Fr (Vf Oh S rfl rfl fun a S=>Vl isAgg9 0 S rfl rfl rfl rfl ?_))));clear S;intro a S
 obtain ⟨r1,hr1,h⟩:=Ej h
 refine Dd S (fun _=>Cz (vs:=[sV Ad.Site]) ⟨(S.tm rfl),trivial⟩ call81) (Pd _ Ad.Site _ hr1) rfl ?_;clear S;intro v1 a w2 hv1 hk2 hn1 S
 subst hv1
 refine Vu S Gk rfl rfl fun a S=>Va S rfl rfl fun a S=>Dl (Fc h (S.tm rfl) (fun hb1 h=>?_) (fun hb1 h=>?_))
 ·refine Fr (Vk S rfl rfl fun a S=>Dl (wp_ret (Gc (Db ?_))))
  obtain rfl:=Option.some.inj h
  exact Ds S results39 rfl rfl
 ·refine Fr (Vf Qc S rfl rfl fun a S=>Vl isAgg3 0 S rfl rfl rfl rfl fun a S=>Dd S (fun _=>Cz (vs:=[iV Ad.No,iV 1,iV 1000000]) ⟨(S.tm rfl),rfl,rfl,trivial⟩ call82) (Nd _ Ad.No 1 1000000 _ rfl) rfl ?_);clear S;intro v2 a w3 hv2 hk3 hn2 S
  subst hv2
  refine Vu S Gk rfl rfl fun a S=>Vm S rfl rfl fun a S=>Gr 5 (fun a w'=>Keep [] w3 w' ∧ Sx w [] nov [.blk b1 (An.enc Ad) 93] [(1,.pointer (some ⟨b1,0,none⟩)),(19,bV ((!(Ig Ad.No 1 1000000)) || (!(Mf Ad.At))))] 117 a w') ?_ ?_
  ·rcases Bool.eq_false_or_eq_true (!(Ig Ad.No 1 1000000)) with hb2 | hb2
   ·iterate 4 (refine Fy S rfl rfl rfl (Ki hb2) rfl ?_ rfl;clear S;intro a S)
    exact lv S (Iw (!(Mf Ad.At)) hb2 (S.tm rfl) rfl) rfl fun a S=>Dl (⟨Keep.refl _ _,S.nf [true] rfl (subR rfl)⟩)
   ·refine Da S rfl rfl rfl hb2 (Vf Qr S rfl rfl fun a S=>Da S rfl rfl rfl hb2 (Vl isAgg3 0 S rfl rfl rfl rfl fun a S=>Da S rfl rfl rfl hb2 (Dd S (fun _=>Cz (vs:=[iV Ad.At]) ⟨(S.tm rfl),trivial⟩ call83) (Za _ Ad.At _ rfl) rfl ?_)));clear S;intro v3 a w5 hv3 hk4 hn3 S
    subst hv3
    exact Da S rfl rfl rfl hb2 (Vu S Gk rfl rfl fun a S=>lv S (Ix hb2 (S.tm rfl) (S.tm rfl)) rfl fun a S=>Dl (⟨hk4,S.nf [true] rfl (subR rfl)⟩))
  clear S;rintro a w4 ⟨hk5,S⟩
  refine Va S rfl rfl fun a S=>Dl (Fc h (S.tm rfl) (fun hb3 h=>?_) (fun hb3 h=>?_))
  ·refine Fr (Vk S rfl rfl fun a S=>Dl (wp_ret (Gc (Db ?_))))
   obtain rfl:=Option.some.inj h
   exact Ds S results39 rfl rfl
  ·refine Fr (Vf Nh S rfl rfl fun a S=>Vl isAgg3 0 S rfl rfl rfl rfl fun a S=>Dd S (fun _=>Cz (vs:=[iV Ad.Kind,iV 1,iV 4]) ⟨(S.tm rfl),rfl,rfl,trivial⟩ call82) (Nd _ Ad.Kind 1 4 _ rfl) rfl ?_);clear S;intro v4 a w6 hv4 hk6 hn4 S
   subst hv4
   refine Vu S Gk rfl rfl fun a S=>Va S rfl rfl fun a S=>Dl (Fc h (S.tm rfl) (fun hb4 h=>?_) (fun hb4 h=>?_))
   ·refine Fr (Vk S rfl rfl fun a S=>Dl (wp_ret (Gc (Db ?_))))
    obtain rfl:=Option.some.inj h
    exact Ds S results39 rfl rfl
   ·refine wp_skip (Gy (Tn (Fr (Vf Oh S rfl rfl fun a S=>Vl isAgg9 0 S rfl rfl rfl rfl fun a S=>Vf Qc S rfl rfl fun a S=>Vl isAgg3 0 S rfl rfl rfl rfl fun a S=>Vf Qr S rfl rfl fun a S=>Vl isAgg3 0 S rfl rfl rfl rfl ?_))));clear S;intro a S
    refine Vf Nh S rfl rfl fun a S=>Vl isAgg3 0 S rfl rfl rfl rfl fun a S=>lv S (Mw LY (pv:=[(0,sV Ad.Site),(1,iV Ad.No),(2,iV Ad.At),(3,iV Ad.Kind)]) ⟨rfl,(S.tm rfl),rfl,(S.tm rfl),rfl,(S.tm rfl),rfl,(S.tm rfl),trivial⟩ (cs:=[sV Ad.Site,iV Ad.No,iV Ad.At,iV Ad.Kind,sV Cx,sV Cx,sV Cx,iV 0,iV 0,sV Cx,iV 0]) (by kernel_rfl)) rfl fun a S=>Ic S zeroValue93 (cs:=[sV Cx,iV 0,iV 0,iV 0,sV Cx,sV Cx,sV Cx,iV 0,iV 0,sV Cx,iV 0]) rfl rfl ?_;clear S;intro a w7 b2 hz2 hk7 S
    refine Ep S (S.tm rfl) (S.tm rfl) (i:=0) (off:=0) rfl sizeOf93 (vs:=(An.enc (An.mk Ad.Site Ad.No Ad.At Ad.Kind Cx Cx Cx 0 0 Cx 0))) rfl rfl rfl rfl ?_;clear S;intro w8 hk8 S
    refine Ld ?_
    replace S:=(S.nl [.blk b2 (An.enc (An.mk Ad.Site Ad.No Ad.At Ad.Kind Cx Cx Cx 0 0 Cx 0)) 93,.blk b1 (An.enc Ad) 93] [true,true] rfl).k2 1 3 rfl
    refine Tn (Fs (Fr (Vf Nh S rfl rfl fun a S=>Vl isAgg3 1 S rfl rfl rfl rfl fun a S=>Vq S Hj rfl rfl rfl fun a S=>Dl ?_)))
    obtain ⟨j1,hj1,h⟩:=Eo h
    refine Dy (fun a w'=>∃ x1 : ByteArray,∃ x2 : ByteArray,∃ x3 : ByteArray,∃ x4 : Int,j1 x1 x2 x3 x4 = some r ∧ Sx w [] nov [.blk b2 (An.enc (An.mk Ad.Site Ad.No Ad.At Ad.Kind x1 Cx x2 0 0 x3 x4)) 93,.blk b1 (An.enc Ad) 93] [(1,.pointer (some ⟨b1,0,none⟩)),(3,.pointer (some ⟨b2,0,none⟩))] 117 a w') ?_ ?_
    ·refine Fc h (S.tm rfl) (fun hb5 h=>?_) (fun hb5 h=>?_)
     ·refine Fs (Fo [] ([b2]) Tryz.mixed S rfl (by kernel_rfl) ?_);clear S;intro w12 hk11 hsel S
      refine De 0 S hsel rfl rfl rfl (by kernel_rfl) (by kernel_rfl) rfl (fun _ hw=>(Fp Uk (S.tm rfl))) fun a S=>De 1 S hsel rfl rfl rfl (by kernel_rfl) (by kernel_rfl) rfl (fun _ hw=>(Gj isAgg9 (off:=0) (o:=9) (S.tm rfl) ((S.blk_mem (i:=1) (cells:=(An.enc Ad)) (b:=b1) (T:=93) rfl (Jl (i:=0) (j:=1) (e:=.blk b2 (An.enc (An.mk Ad.Site Ad.No Ad.At Ad.Kind Cx Cx Cx 0 0 Cx 0)) 93) (e':=.blk b1 (An.enc Ad) 93) S rfl rfl rfl)).kept hw) rfl)) fun a S=>De 2 S hsel rfl rfl rfl (by kernel_rfl) (by kernel_rfl) rfl (fun _ hw=>(Fp Rv (S.tm rfl))) fun a S=>De 3 S hsel rfl rfl rfl (by kernel_rfl) (by kernel_rfl) rfl (fun _ hw=>(Gj isAgg3 (off:=0) (o:=10) (S.tm rfl) ((S.blk_mem (i:=1) (cells:=(An.enc Ad)) (b:=b1) (T:=93) rfl (Jl (i:=0) (j:=1) (e:=.blk b2 (An.enc (An.mk Ad.Site Ad.No Ad.At Ad.Kind Cx Cx Cx 0 0 Cx 0)) 93) (e':=.blk b1 (An.enc Ad) 93) S rfl rfl rfl)).kept hw) rfl)) fun a S=>De 4 S hsel rfl rfl rfl (by kernel_rfl) (by kernel_rfl) rfl (fun _ hw=>(Fp Uk (S.tm rfl))) fun a S=>Ff 5 (by kernel_rfl) rfl (Ep S (S.tm rfl) (S.tm rfl) (i:=0) (off:=9) rfl sizeOf9 (vs:=[sV Ad.Of]) rfl rfl rfl rfl ?_);clear S;intro w13 hk12 S
      refine Ld (Gl hk12 (De 6 S hsel rfl rfl rfl (by kernel_rfl) (by kernel_rfl) rfl (fun _ hw=>(Fp Rv (S.tm rfl))) fun a S=>Ff 7 (by kernel_rfl) rfl (Ep S (S.tm rfl) (S.tm rfl) (i:=0) (off:=10) rfl sizeOf3 (vs:=[iV Ad.Other]) rfl rfl rfl rfl ?_)));clear S;intro w14 hk13 S
      refine Ld (Gl hk13 (Se (by kernel_rfl) ?_))
      clear hsel
      replace S:=(S.nl [.blk b2 (An.enc (An.mk Ad.Site Ad.No Ad.At Ad.Kind Cx Cx Cx 0 0 Ad.Of Ad.Other)) 93,.blk b1 (An.enc Ad) 93] [true,true] rfl).k2 1 3 rfl
      refine Tn (Fs (Fr (Vf Uk S rfl rfl fun a S=>Vl isAgg9 1 S rfl rfl rfl rfl ?_)));clear S;intro a S
      obtain ⟨r2,hr2,h⟩:=Ej h
      refine Dd S (fun _=>Cz (vs:=[sV Ad.Of]) ⟨(S.tm rfl),trivial⟩ call81) (Pd _ Ad.Of _ hr2) rfl ?_;clear S;intro v5 a w15 hv5 hk14 hn5 S
      subst hv5
      refine Vu S Gk rfl rfl fun a S=>Dl (Fc h (S.tm rfl) (fun hb6 h=>?_) (fun hb6 h=>?_))
      ·refine Fr (Vk S rfl rfl fun a S=>Dl (wp_ret ?_))
       iterate 3 (refine Db ?_)
       obtain rfl:=Option.some.inj h
       exact Ds S results39 rfl rfl
      ·refine wp_skip (Tn (Fr (Vf Rv S rfl rfl fun a S=>Vl isAgg3 1 S rfl rfl rfl rfl fun a S=>Dd S (fun _=>Cz (vs:=[iV Ad.Other,iV 1,iV 1000000]) ⟨(S.tm rfl),rfl,rfl,trivial⟩ call82) (Nd _ Ad.Other 1 1000000 _ rfl) rfl ?_)));clear S;intro v6 a w16 hv6 hk15 hn6 S
       subst hv6
       refine Vu S Gk rfl rfl fun a S=>Dl (Fc h (S.tm rfl) (fun hb7 h=>?_) (fun hb7 h=>?_))
       ·refine Fr (Vk S rfl rfl fun a S=>Dl (wp_ret (Db (Db ?_))))
        obtain rfl:=Option.some.inj h
        exact Ds S results39 rfl rfl
       ·exact wp_skip (Tn (⟨Cx,Cx,Ad.Of,Ad.Other,h,S.nf [true,true] rfl (subR rfl)⟩))
     ·refine Fs (Fo [] ([b2]) Tryz.mixed S rfl (by kernel_rfl) ?_);clear S;intro w19 hk18 hsel S
      refine De 0 S hsel rfl rfl rfl (by kernel_rfl) (by kernel_rfl) rfl (fun _ hw=>(Fp Nx (S.tm rfl))) fun a S=>De 1 S hsel rfl rfl rfl (by kernel_rfl) (by kernel_rfl) rfl (fun _ hw=>(Gj isAgg9 (off:=0) (o:=4) (S.tm rfl) ((S.blk_mem (i:=1) (cells:=(An.enc Ad)) (b:=b1) (T:=93) rfl (Jl (i:=0) (j:=1) (e:=.blk b2 (An.enc (An.mk Ad.Site Ad.No Ad.At Ad.Kind Cx Cx Cx 0 0 Cx 0)) 93) (e':=.blk b1 (An.enc Ad) 93) S rfl rfl rfl)).kept hw) rfl)) fun a S=>De 2 S hsel rfl rfl rfl (by kernel_rfl) (by kernel_rfl) rfl (fun _ hw=>(Fp Qd (S.tm rfl))) fun a S=>De 3 S hsel rfl rfl rfl (by kernel_rfl) (by kernel_rfl) rfl (fun _ hw=>(Gj isAgg9 (off:=0) (o:=6) (S.tm rfl) ((S.blk_mem (i:=1) (cells:=(An.enc Ad)) (b:=b1) (T:=93) rfl (Jl (i:=0) (j:=1) (e:=.blk b2 (An.enc (An.mk Ad.Site Ad.No Ad.At Ad.Kind Cx Cx Cx 0 0 Cx 0)) 93) (e':=.blk b1 (An.enc Ad) 93) S rfl rfl rfl)).kept hw) rfl)) fun a S=>De 4 S hsel rfl rfl rfl (by kernel_rfl) (by kernel_rfl) rfl (fun _ hw=>(Fp Nx (S.tm rfl))) fun a S=>Ff 5 (by kernel_rfl) rfl (Ep S (S.tm rfl) (S.tm rfl) (i:=0) (off:=4) rfl sizeOf9 (vs:=[sV Ad.Who]) rfl rfl rfl rfl ?_);clear S;intro w20 hk19 S
      refine Ld (Gl hk19 (De 6 S hsel rfl rfl rfl (by kernel_rfl) (by kernel_rfl) rfl (fun _ hw=>(Fp Qd (S.tm rfl))) fun a S=>Ff 7 (by kernel_rfl) rfl (Ep S (S.tm rfl) (S.tm rfl) (i:=0) (off:=6) rfl sizeOf9 (vs:=[sV Ad.Race]) rfl rfl rfl rfl ?_)));clear S;intro w21 hk20 S
      refine Ld (Gl hk20 (Se (by kernel_rfl) ?_))
      clear hsel
      replace S:=(S.nl [.blk b2 (An.enc (An.mk Ad.Site Ad.No Ad.At Ad.Kind Ad.Who Cx Ad.Race 0 0 Cx 0)) 93,.blk b1 (An.enc Ad) 93] [true,true] rfl).k2 1 3 rfl
      refine Tn (Fr (Vf Nx S rfl rfl fun a S=>Vl isAgg9 1 S rfl rfl rfl rfl ?_));clear S;intro a S
      obtain ⟨r3,hr3,h⟩:=Ej h
      refine Dd S (fun _=>Cz (vs:=[sV Ad.Who]) ⟨(S.tm rfl),trivial⟩ call81) (Pd _ Ad.Who _ hr3) rfl ?_;clear S;intro v7 a w22 hv7 hk21 hn7 S
      subst hv7
      refine Vu S Gk rfl rfl fun a S=>Vm S rfl rfl ?_;clear S;intro a S
      obtain ⟨j2,hj2,h⟩:=Eo h
      refine Gr 5 (fun a w'=>∃ c1,j2 c1 = some r ∧ Keep [] w22 w' ∧ Sx w [] nov [.blk b2 (An.enc (An.mk Ad.Site Ad.No Ad.At Ad.Kind Ad.Who Cx Ad.Race 0 0 Cx 0)) 93,.blk b1 (An.enc Ad) 93] [(1,.pointer (some ⟨b1,0,none⟩)),(3,.pointer (some ⟨b2,0,none⟩)),(66,bV c1)] 117 a w') ?_ ?_
      ·rcases Bool.eq_false_or_eq_true (!r3) with hb8 | hb8
       ·replace h:=Rb h hb8
        iterate 4 (refine Fy S rfl rfl rfl (Ki hb8) rfl ?_ rfl;clear S;intro a S)
        exact Vq S (Iw true hb8) rfl rfl rfl fun a S=>Dl (⟨_,h,Keep.refl _ _,S.nf [true,true] rfl (subR rfl)⟩)
       ·replace h:=Rc h hb8
        refine Da S rfl rfl rfl hb8 (Vf Qd S rfl rfl fun a S=>Da S rfl rfl rfl hb8 (Vl isAgg9 1 S rfl rfl rfl rfl fun a S=>Da S rfl rfl rfl hb8 ?_))
        obtain ⟨r4,hr4,h⟩:=Ej h
        refine Dd S (fun _=>Cz (vs:=[sV Ad.Race]) ⟨(S.tm rfl),trivial⟩ call81) (Pd _ Ad.Race _ hr4) rfl ?_;clear S;intro v8 a w24 hv8 hk22 hn8 S
        subst hv8
        exact Da S rfl rfl rfl hb8 (Vu S Gk rfl rfl fun a S=>lv S (Ix hb8 (S.tm rfl) (S.tm rfl)) rfl fun a S=>Dl (⟨_,h,hk22,S.nf [true,true] rfl (subR rfl)⟩))
      clear S h;rintro a w23 ⟨c1,h,hk23,S⟩;rw [hj2] at h;clear hj2 j2
      refine Vm S rfl rfl ?_;clear S;intro a S
      obtain ⟨j3,hj3,h⟩:=Eo h
      refine Gr 15 (fun a w'=>∃ c2,j3 c2 = some r ∧ Keep [] w23 w' ∧ Sx w [] nov [.blk b2 (An.enc (An.mk Ad.Site Ad.No Ad.At Ad.Kind Ad.Who Cx Ad.Race 0 0 Cx 0)) 93,.blk b1 (An.enc Ad) 93] [(1,.pointer (some ⟨b1,0,none⟩)),(3,.pointer (some ⟨b2,0,none⟩)),(82,bV c2)] 117 a w') ?_ ?_
      ·rcases Bool.eq_false_or_eq_true c1 with hb9 | hb9
       ·replace h:=Rb h hb9
        iterate 4 (refine Fy S rfl rfl rfl (Ki hb9) rfl ?_ rfl;clear S;intro a S)
        iterate 3 (refine BR S rfl rfl rfl rfl ?_;clear S;intro a S)
        refine Fy S rfl rfl rfl (Ki hb9) rfl (fun a S=>Fy S rfl rfl rfl (Ki hb9) rfl ?_ rfl) rfl;clear S;intro a S
        iterate 4 (refine BR S rfl rfl rfl rfl ?_;clear S;intro a S)
        exact Fy S rfl rfl rfl (Ki hb9) rfl (fun a S=>Vq S (Iw true hb9) rfl rfl rfl fun a S=>Dl (⟨_,h,Keep.refl _ _,S.nf [true,true] rfl (subR rfl)⟩)) rfl
       ·replace h:=Rc h hb9
        refine Da S rfl rfl rfl hb9 (Vf Nh S rfl rfl fun a S=>Da S rfl rfl rfl hb9 (Vl isAgg3 1 S rfl rfl rfl rfl fun a S=>Da S rfl rfl rfl hb9 (Vq S Hj rfl rfl rfl fun a S=>Da S rfl rfl rfl hb9 (Vm S rfl rfl fun a S=>Gr 4 (fun a w'=>Keep [] w23 w' ∧ Sx w [] nov [.blk b2 (An.enc (An.mk Ad.Site Ad.No Ad.At Ad.Kind Ad.Who Cx Ad.Race 0 0 Cx 0)) 93,.blk b1 (An.enc Ad) 93] [(1,.pointer (some ⟨b1,0,none⟩)),(3,.pointer (some ⟨b2,0,none⟩)),(67,bV c1),(75,bV ((decide (Ad.Kind = 1)) && (!decide (Ad.Club = Cx))))] 117 a w') ?_ ?_))))
        ·rcases Bool.eq_false_or_eq_true (decide (Ad.Kind = 1)) with hb10 | hb10
         ·exact Da S rfl rfl rfl hb10 (Vf Sq S rfl rfl fun a S=>Da S rfl rfl rfl hb10 (Vl isAgg9 1 S rfl rfl rfl rfl fun a S=>Da S rfl rfl rfl hb10 (Vq S Xo rfl rfl rfl fun a S=>Da S rfl rfl rfl hb9 (lv S (Hk hb10 (S.tm rfl) (S.tm rfl)) rfl fun a S=>Dl (⟨Keep.refl _ _,S.nf [true,true] rfl (subR rfl)⟩)))))
         ·iterate 3 (refine Fy S rfl rfl rfl (Jk hb10) rfl ?_ rfl;clear S;intro a S)
          exact Da S rfl rfl rfl hb9 (lv S (Hl (!decide (Ad.Club = Cx)) hb10 (S.tm rfl) rfl) rfl fun a S=>Dl (⟨Keep.refl _ _,S.nf [true,true] rfl (subR rfl)⟩))
        clear S;rintro a w26 ⟨hk24,S⟩
        refine Da S rfl rfl rfl hb9 (Vm S rfl rfl ?_);clear S;intro a S
        obtain ⟨j4,hj4,h⟩:=Eo h
        refine Gr 5 (fun a w'=>∃ c3,j4 c3 = some r ∧ Keep [] w26 w' ∧ Sx w [] nov [.blk b2 (An.enc (An.mk Ad.Site Ad.No Ad.At Ad.Kind Ad.Who Cx Ad.Race 0 0 Cx 0)) 93,.blk b1 (An.enc Ad) 93] [(1,.pointer (some ⟨b1,0,none⟩)),(3,.pointer (some ⟨b2,0,none⟩)),(67,bV c1),(81,bV c3)] 117 a w') ?_ ?_
        ·rcases Bool.eq_false_or_eq_true ((decide (Ad.Kind = 1)) && (!decide (Ad.Club = Cx))) with hb11 | hb11
         ·replace h:=Rb h hb11
          refine Da S rfl rfl rfl hb11 (Vf Sq S rfl rfl fun a S=>Da S rfl rfl rfl hb11 (Vl isAgg9 1 S rfl rfl rfl rfl fun a S=>Da S rfl rfl rfl hb11 ?_))
          obtain ⟨r5,hr5,h⟩:=Ej h
          refine Dd S (fun _=>Cz (vs:=[sV Ad.Club]) ⟨(S.tm rfl),trivial⟩ call81) (Pd _ Ad.Club _ hr5) rfl ?_;clear S;intro v9 a w28 hv9 hk25 hn9 S
          subst hv9
          exact Da S rfl rfl rfl hb11 (Vu S Gk rfl rfl fun a S=>Da S rfl rfl rfl hb9 (lv S (Hk hb11 (S.tm rfl) (S.tm rfl)) rfl fun a S=>Dl (⟨_,h,hk25,S.nf [true,true] rfl (subR rfl)⟩)))
         ·replace h:=Rc h hb11
          iterate 4 (refine Fy S rfl rfl rfl (Jk hb11) rfl ?_ rfl;clear S;intro a S)
          exact Da S rfl rfl rfl hb9 (Vq S (Hl true hb11) rfl rfl rfl fun a S=>Dl (⟨_,h,Keep.refl _ _,S.nf [true,true] rfl (subR rfl)⟩))
        clear S h;rintro a w27 ⟨c3,h,hk26,S⟩;rw [hj4] at h;clear hj4 j4
        exact lv S (Ix hb9 (S.tm rfl) (S.tm rfl)) rfl fun a S=>Dl (⟨_,h,(hk24).trans hk26,S.nf [true,true] rfl (subR rfl)⟩)
      clear S h;rintro a w25 ⟨c2,h,hk27,S⟩;rw [hj3] at h;clear hj3 j3
      refine Dl (Fc h (S.tm rfl) (fun hb12 h=>?_) (fun hb12 h=>?_))
      ·refine Fr (Vk S rfl rfl fun a S=>Dl (wp_ret (Db (Db ?_))))
       obtain rfl:=Option.some.inj h
       exact Ds S results39 rfl rfl
      ·exact wp_skip (Tn (⟨Ad.Who,Ad.Race,Cx,0,h,S.nf [true,true] rfl (subR rfl)⟩))
    clear S h;rintro a w9 ⟨x1,x2,x3,x4,h,S⟩;rw [hj1] at h;clear hj1 j1
    refine Tn (Fs (Fr (Vf Nh S rfl rfl fun a S=>Vl isAgg3 1 S rfl rfl rfl rfl fun a S=>Vq S Hj rfl rfl rfl fun a S=>Dl ?_)))
    obtain ⟨j5,hj5,h⟩:=Eo h
    refine Dy (fun a w'=>∃ x5 : ByteArray,j5 x5 = some r ∧ Sx w [] nov [.blk b2 (An.enc (An.mk Ad.Site Ad.No Ad.At Ad.Kind x1 x5 x2 0 0 x3 x4)) 93,.blk b1 (An.enc Ad) 93] [(1,.pointer (some ⟨b1,0,none⟩)),(3,.pointer (some ⟨b2,0,none⟩))] 117 a w') ?_ ?_
    ·refine Fc h (S.tm rfl) (fun hb13 h=>?_) (fun hb13 h=>?_)
     ·refine Fg (Vf Sq S rfl rfl fun a S=>Vl isAgg9 1 S rfl rfl rfl rfl fun a S=>Vf Sq S rfl rfl fun a S=>Ep S (S.tm rfl) (S.tm rfl) (i:=0) (off:=5) rfl sizeOf9 (vs:=[sV Ad.Club]) rfl rfl rfl rfl ?_);clear S;intro w30 hk28 S
      exact Dl (⟨Ad.Club,h,S.nf [true,true] rfl (subR rfl)⟩)
     ·exact wp_skip (Tn (⟨Cx,h,S.nf [true,true] rfl (subR rfl)⟩))
    clear S h;rintro a w29 ⟨x5,h,S⟩;rw [hj5] at h;clear hj5 j5
    refine Tn (Fs (Fr (Vf Nh S rfl rfl fun a S=>Vl isAgg3 1 S rfl rfl rfl rfl fun a S=>Vq S Hj rfl rfl rfl fun a S=>Vm S rfl rfl fun a S=>Gr 4 (fun a w'=>Keep [] w29 w' ∧ Sx w [] nov [.blk b2 (An.enc (An.mk Ad.Site Ad.No Ad.At Ad.Kind x1 x5 x2 0 0 x3 x4)) 93,.blk b1 (An.enc Ad) 93] [(1,.pointer (some ⟨b1,0,none⟩)),(3,.pointer (some ⟨b2,0,none⟩)),(96,bV ((decide (Ad.Kind = 1)) || (decide (Ad.Kind = 3))))] 117 a w') ?_ ?_)))
    ·rcases Bool.eq_false_or_eq_true (decide (Ad.Kind = 1)) with hb14 | hb14
     ·iterate 3 (refine Fy S rfl rfl rfl (Ki hb14) rfl ?_ rfl;clear S;intro a S)
      exact lv S (Iw (decide (Ad.Kind = 3)) hb14 (S.tm rfl) rfl) rfl fun a S=>Dl (⟨Keep.refl _ _,S.nf [true,true] rfl (subR rfl)⟩)
     ·exact Da S rfl rfl rfl hb14 (Vf Nh S rfl rfl fun a S=>Da S rfl rfl rfl hb14 (Vl isAgg3 1 S rfl rfl rfl rfl fun a S=>Da S rfl rfl rfl hb14 (Vq S Hj rfl rfl rfl fun a S=>lv S (Ix hb14 (S.tm rfl) (S.tm rfl)) rfl fun a S=>Dl (⟨Keep.refl _ _,S.nf [true,true] rfl (subR rfl)⟩))))
    clear S;rintro a w31 ⟨hk29,S⟩
    refine Dl ?_
    obtain ⟨j6,hj6,h⟩:=Eo h
    refine Dy (fun a w'=>∃ x6 : Int,j6 x6 = some r ∧ Sx w [] nov [.blk b2 (An.enc (An.mk Ad.Site Ad.No Ad.At Ad.Kind x1 x5 x2 x6 0 x3 x4)) 93,.blk b1 (An.enc Ad) 93] [(1,.pointer (some ⟨b1,0,none⟩)),(3,.pointer (some ⟨b2,0,none⟩))] 117 a w') ?_ ?_
    ·refine Fc h (S.tm rfl) (fun hb15 h=>?_) (fun hb15 h=>?_)
     ·refine Fr (Vf Qs S rfl rfl fun a S=>Vl isAgg3 1 S rfl rfl rfl rfl fun a S=>Vf Qs S rfl rfl fun a S=>Ep S (S.tm rfl) (S.tm rfl) (i:=0) (off:=7) rfl sizeOf3 (vs:=[iV Ad.Time]) rfl rfl rfl rfl ?_);clear S;intro w33 hk30 S
      refine Dz (Vf Qs S rfl rfl fun a S=>Vl isAgg3 1 S rfl rfl rfl rfl fun a S=>Dd S (fun _=>Cz (vs:=[iV Ad.Time,iV 0,iV 360000]) ⟨(S.tm rfl),rfl,rfl,trivial⟩ call82) (Nd _ Ad.Time 0 360000 _ rfl) rfl ?_);clear S;intro v10 a w34 hv10 hk31 hn10 S
      subst hv10
      refine Vu S Gk rfl rfl fun a S=>Dl (Fc h (S.tm rfl) (fun hb16 h=>?_) (fun hb16 h=>?_))
      ·refine Fr (Vk S rfl rfl fun a S=>Dl (wp_ret (Db (Db ?_))))
       obtain rfl:=Option.some.inj h
       exact Ds S results39 rfl rfl
      ·exact wp_skip (Tn (⟨Ad.Time,h,S.nf [true,true] rfl (subR rfl)⟩))
     ·exact wp_skip (Tn (⟨0,h,S.nf [true,true] rfl (subR rfl)⟩))
    clear S h;rintro a w32 ⟨x6,h,S⟩;rw [hj6] at h;clear hj6 j6
    refine Tn (Fs (Fr (Vf Nh S rfl rfl fun a S=>Vl isAgg3 1 S rfl rfl rfl rfl fun a S=>Vq S Hj rfl rfl rfl fun a S=>Dl ?_)))
    obtain ⟨j7,hj7,h⟩:=Eo h
    refine Dy (fun a w'=>∃ x7 : Int,j7 x7 = some r ∧ Sx w [] nov [.blk b2 (An.enc (An.mk Ad.Site Ad.No Ad.At Ad.Kind x1 x5 x2 x6 x7 x3 x4)) 93,.blk b1 (An.enc Ad) 93] [(1,.pointer (some ⟨b1,0,none⟩)),(3,.pointer (some ⟨b2,0,none⟩))] 117 a w') ?_ ?_
    ·refine Fc h (S.tm rfl) (fun hb17 h=>?_) (fun hb17 h=>?_)
     ·refine Fr (Vf Uj S rfl rfl fun a S=>Vl isAgg3 1 S rfl rfl rfl rfl fun a S=>Vf Uj S rfl rfl fun a S=>Ep S (S.tm rfl) (S.tm rfl) (i:=0) (off:=8) rfl sizeOf3 (vs:=[iV Ad.Fault]) rfl rfl rfl rfl ?_);clear S;intro w36 hk32 S
      refine Dz (Vf Uj S rfl rfl fun a S=>Vl isAgg3 1 S rfl rfl rfl rfl fun a S=>Dd S (fun _=>Cz (vs:=[iV Ad.Fault,iV 0,iV 8]) ⟨(S.tm rfl),rfl,rfl,trivial⟩ call82) (Nd _ Ad.Fault 0 8 _ rfl) rfl ?_);clear S;intro v11 a w37 hv11 hk33 hn11 S
      subst hv11
      refine Vu S Gk rfl rfl fun a S=>Dl (Fc h (S.tm rfl) (fun hb18 h=>?_) (fun hb18 h=>?_))
      ·refine Fr (Vk S rfl rfl fun a S=>Dl (wp_ret (Db (Db ?_))))
       obtain rfl:=Option.some.inj h
       exact Ds S results39 rfl rfl
      ·exact wp_skip (Tn (⟨Ad.Fault,h,S.nf [true,true] rfl (subR rfl)⟩))
     ·exact wp_skip (Tn (⟨0,h,S.nf [true,true] rfl (subR rfl)⟩))
    clear S h;rintro a w35 ⟨x7,h,S⟩;rw [hj7] at h;clear hj7 j7
    refine Tn (Fs (Fr (lv S (Fb isAgg93 sizeOf93 (off:=0) (o:=0) (part:=(An.enc Ad)) rfl rfl (S.tm rfl) (S.cellsAt (i:=1) rfl)) rfl fun a S=>lv S (Fb isAgg93 sizeOf93 (off:=0) (o:=0) (part:=(An.enc (An.mk Ad.Site Ad.No Ad.At Ad.Kind x1 x5 x2 x6 x7 x3 x4))) rfl rfl (S.tm rfl) (S.cellsAt (i:=0) rfl)) rfl fun a S=>lv S (EK (m:=Ad) (n:=(An.mk Ad.Site Ad.No Ad.At Ad.Kind x1 x5 x2 x6 x7 x3 x4)) (S.tm rfl) (S.tm rfl)) rfl fun a S=>Dl (Fc h (S.tm rfl) (fun hb19 h=>?_) (fun hb19 h=>?_)))))
    ·refine Fr (Vk S rfl rfl fun a S=>Dl (wp_ret (Db ?_)))
     obtain rfl:=Option.some.inj h
     exact Ds S results39 rfl rfl
    ·refine wp_skip (Tn (Fr (Vk S rfl rfl fun a S=>Dl (wp_ret ?_))))
     obtain rfl:=Option.some.inj h
     exact Ds S results39 rfl rfl
theorem Zb (w : World) (Aj : An) (Am : An) (r : Bool) (h : Qp Aj Am = r) :
    Calls prog 42 [.agg (An.enc Aj).toArray,.agg (An.enc Am).toArray].toArray w (Ret w [] fun _ v _=>v = bV r):=by
 refine Fe func42 rfl ntmps42 rfl fun a S=>?_
 unfold Qp at h
 replace S:=S.k2 0 1 rfl
 refine Fr (Ks S (S.tm rfl) (cs:=(An.enc Aj)) rfl rfl ?_);clear S;intro a w1 b1 hz1 hk1 S
 refine Ks S (S.tm rfl) (cs:=(An.enc Am)) rfl rfl ?_;clear S;intro a w2 b2 hz2 hk2 S
 refine Vk S rfl rfl fun a S=>Dz (Vf Oh S rfl rfl fun a S=>Vl isAgg9 1 S rfl rfl rfl rfl fun a S=>Vf Oh S rfl rfl fun a S=>Vl isAgg9 0 S rfl rfl rfl rfl fun a S=>Vb S Xn rfl rfl rfl fun a S=>Vm S rfl rfl ?_);clear S;intro a S
 refine Gr 6 (fun a w'=>Keep [] w2 w' ∧ Sx w [] nov [.blk b2 (An.enc Am) 93,.blk b1 (An.enc Aj) 93] [(16,bV ((decide (Aj.Site = Am.Site)) && (decide (Aj.No = Am.No))))] 17 a w') ?_ ?_
 ·rcases Bool.eq_false_or_eq_true (decide (Aj.Site = Am.Site)) with hb1 | hb1
  ·refine Da S rfl rfl rfl hb1 (Vf Qc S rfl rfl fun a S=>Da S rfl rfl rfl hb1 (Vl isAgg3 1 S rfl rfl rfl rfl fun a S=>Da S rfl rfl rfl hb1 (Vf Qc S rfl rfl fun a S=>Da S rfl rfl rfl hb1 (Vl isAgg3 0 S rfl rfl rfl rfl fun a S=>Da S rfl rfl rfl hb1 (Vb S Hj rfl rfl rfl fun a S=>lv S (Hk hb1 (S.tm rfl) (S.tm rfl)) rfl ?_)))));clear S;intro a S
   exact Dl (⟨Keep.refl _ _,S.nf [true,true] rfl ⟨rfl,trivial⟩⟩)
  ·iterate 5 (refine Fy S rfl rfl rfl (Jk hb1) rfl ?_ rfl;clear S;intro a S)
   exact lv S (Hl (decide (Aj.No = Am.No)) hb1 (S.tm rfl) rfl) rfl fun a S=>Dl (⟨Keep.refl _ _,S.nf [true,true] rfl ⟨rfl,trivial⟩⟩)
 clear S;rintro a w3 ⟨hk3,S⟩
 refine Va S rfl rfl fun a S=>Dl (wp_ret ?_)
 subst h
 exact Ds S results42 rfl rfl
theorem Ua (w : World) (Cr : An) (Cb : Nat) (Bm : An) (Cc : (view w []) Cb = some (.cells [sV Bm.Site,iV Bm.No,iV Bm.At,iV Bm.Kind,sV Bm.Who,sV Bm.Club,sV Bm.Race,iV Bm.Time,iV Bm.Fault,sV Bm.Of,iV Bm.Other].toArray 93 (0,0))) (r : Bool) (h : Lg Cr Bm = r) :
    Calls prog 41 [.agg (An.enc Cr).toArray,.pointer (some ⟨Cb,0,none⟩)].toArray w (Ret w [] fun _ v _=>v = bV r):=by
 refine Fe func41 rfl ntmps41 rfl fun a S=>?_
 unfold Lg at h
 replace S:=S.k2 0 1 rfl
 refine Fr (Ks S (S.tm rfl) (cs:=(An.enc Cr)) rfl rfl ?_);clear S;intro a w1 b1 hz1 hk1 S
 refine Vk S rfl rfl fun a S=>Dz (lv S (Fb isAgg93 sizeOf93 (off:=0) (o:=0) (part:=(An.enc Cr)) rfl rfl (S.tm rfl) (S.cellsAt (i:=0) rfl)) rfl fun a S=>lv S (Fb isAgg93 sizeOf93 (off:=0) (o:=0) (part:=(An.enc Bm)) rfl rfl (S.tm rfl) ((Ue Cc).at S.emb0)) rfl fun a S=>Dd S (fun _=>Cz (vs:=[.agg (An.enc Cr).toArray,.agg (An.enc Bm).toArray]) ⟨(S.tm rfl),(S.tm rfl),trivial⟩ call42) (Zb _ Cr Bm _ rfl) rfl ?_);clear S;intro v1 a w2 hv1 hk2 hn1 S
 subst hv1
 refine Va S rfl rfl fun a S=>Dl (wp_ret ?_)
 subst h
 exact Ds S results41 rfl rfl
theorem Oa (w : World) (Al : Value) (Ap : List An) (Bl : Slc (view w []) 11 Al (Ap.map An.enc)) (Az : Nat) (As : An) (Bn : (view w []) Az = some (.cells [sV As.Site,iV As.No,iV As.At,iV As.Kind,sV As.Who,sV As.Club,sV As.Race,iV As.Time,iV As.Fault,sV As.Of,iV As.Other].toArray 93 (0,0))) (r : Int) (h : Je Ap As = r) :
    Calls prog 84 [Al,.func (.func 41) #[] #[.pointer (some ⟨Az,0,none⟩)]].toArray w (Ret w [] fun _ v _=>v = iV r):=by
 refine Fe func84 rfl ntmps84 rfl fun a S=>?_
 unfold Je at h
 replace S:=S.k2 0 1 rfl
 refine Fr (Vk S rfl rfl fun a S=>Dl (Fs (Fr (Vm S rfl rfl fun a S=>lv S (Fi Ll (S.tm rfl) (Fm Bl)) rfl fun a S=>lv S (Rm rfl) rfl ?_))));clear S;intro a S
 refine Dl ?_
 replace S:=S.k4 0 1 7 8 rfl
 obtain ⟨j1,hj1,h⟩:=Eo h
 refine Dy (fun a w'=>j1 = r ∧ Sx w [] nov [] [] 19 a w') ?_ ?_
 ·refine wp_block (Gs (fun (ys1 : List An) a w'=>∃ i1 : Nat,(∃ dn,Ap = dn ++ ys1 ∧ dn.length = i1) ∧ Dq As j1 ys1 i1 = r ∧ Sx w [] nov [] [(0,Al),(1,.func (.func 41) #[] #[.pointer (some ⟨Az,0,none⟩)]),(7,iV (Ap.length : Int)),(8,iV (i1 : Int))] 19 a w') List.length Ap ⟨0,⟨[],rfl,rfl⟩,h,S.nf [] rfl (subR rfl)⟩ ?_)
  clear S h;rintro ys1 a w1 ⟨i1,⟨dn,hd1,hi1⟩,h,S⟩
  cases ys1 with
  | nil =>
   rw [Dq.eq_1] at h
   refine Fr (Vb S Ev rfl rfl rfl fun a S=>Ld ?_)
   replace S:=S.k5 0 1 7 8 9 rfl
   exact Tn (Fs (wp_cond_false ((S.tm rfl).trans (congrArg Value.bool (Ke hd1 hi1))) (wp_exit (Dt (Dt (Gh (Tn (⟨h,S.nf [] rfl trivial⟩))))))))
  | cons y1 ys1 =>
   rw [Dq.eq_2] at h
   refine Fr (Vb S Ev rfl rfl rfl fun a S=>Ld ?_)
   replace S:=S.k5 0 1 7 8 9 rfl
   refine Tn (Fs (wp_cond_true ((S.tm rfl).trans (congrArg Value.bool (Ja hd1 hi1))) (wp_skip (Tn (Fs (wp_block (Fr (Vm S rfl rfl fun a S=>Va S rfl rfl ?_))))))));clear S;intro a S
   refine Dl (Fs (Fg ?_))
   iterate 3 (refine Vm S rfl rfl ?_;clear S;intro a S)
   obtain ⟨b1,o1,hm1,hr1⟩:=Fu (a:=a) (x:=.tmp 12) (y:=.tmp 13) (ty:=0) Ll Bl (Jx hd1 hi1) rfl (S.tm rfl) (S.tm rfl)
   refine lv S (hr1 _) rfl ?_;clear S;intro a S
   clear hr1
   refine lv S (Fb isAgg93 sizeOf93 (off:=o1) (o:=0) (part:=(An.enc y1)) rfl rfl (S.tm rfl) (hm1.at S.emb0)) rfl fun a S=>Dd S (fun _=>Si (cap:=[.pointer (some ⟨Az,0,none⟩)]) (S.tm rfl) (vs:=[.agg (An.enc y1).toArray]) ⟨(S.tm rfl),trivial⟩ call41) (Ua _ y1 Az As ((S.le_arg Ey) _ _ Bn) _ rfl) rfl ?_;clear S;intro v1 a w3 hv1 hk1 hn1 S
   subst hv1
   refine Dl (Fc h (S.tm rfl) (fun hb1 h=>?_) (fun hb1 h=>?_))
   ·refine Fr (Vm S rfl rfl fun a S=>Va S rfl rfl fun a S=>Ld ?_)
    replace S:=S.k1 4 rfl
    refine Tn (wp_ret (Gc (Db (Db (Gc (Db (Db ?_)))))))
    subst h
    exact Ds S results84 rfl rfl
   ·exact wp_skip (Gy (Tn (Fg (Vq S Fa rfl rfl rfl fun a S=>Vm S rfl rfl fun a S=>Dl (⟨ys1,⟨i1 + 1,⟨_,(hd1).trans (List.append_cons _ _ _),by simp [hi1]⟩,h,S.nf [] rfl ⟨rfl,rfl,rfl,(congrArg (fun z=>some (Value.int .i64 z)) (Jb hd1 hi1 (Jy Bl))),trivial⟩⟩,Nat.lt_succ_self _⟩)))))
 clear S h;rintro a w2 ⟨h,S⟩;rw [hj1] at h;clear hj1 j1
 refine Tn (Fr (Vk S rfl rfl fun a S=>Dl (wp_ret ?_)))
 subst h
 exact Ds S results84 rfl rfl
theorem Nf (w : World) (Al : Value) (Ap : List An) (Bl : Slc (view w []) 11 Al (Ap.map An.enc)) (Az : Nat) (As : An) (Bn : (view w []) Az = some (.cells [sV As.Site,iV As.No,iV As.At,iV As.Kind,sV As.Who,sV As.Club,sV As.Race,iV As.Time,iV As.Fault,sV As.Of,iV As.Other].toArray 93 (0,0))) (r : Bool) (h : Ha Ap As = r) :
    Calls prog 40 [Al,.func (.func 41) #[] #[.pointer (some ⟨Az,0,none⟩)]].toArray w (Ret w [] fun _ v _=>v = bV r):=by
 refine Fe func40 rfl ntmps40 rfl fun a S=>?_
 unfold Ha at h
 replace S:=S.k2 0 1 rfl
 refine Fr (Vk S rfl rfl fun a S=>Dz (Vm S rfl rfl fun a S=>Vm S rfl rfl fun a S=>Dd S (fun _=>Cz (vs:=[Al,.func (.func 41) #[] #[.pointer (some ⟨Az,0,none⟩)]]) ⟨(S.tm rfl),(S.tm rfl),trivial⟩ call84) (Oa _ Al Ap (Bl.mono (S.le_arg Ey)) Az As ((S.le_arg Ey) _ _ Bn) _ rfl) rfl ?_));clear S;intro v1 a w1 hv1 hk1 hn1 S
 subst hv1
 refine Vq S Nj rfl rfl rfl fun a S=>Va S rfl rfl fun a S=>Dl (wp_ret ?_)
 subst h
 exact Ds S results40 rfl rfl
set_option maxRecDepth 20000 in
theorem Wc (w : World) (Ac : Value) (Ae : List An) (Ah : Slc (view w []) 11 Ac (Ae.map An.enc)) (r : Int) (h : Mk Ae = some r) :
    Calls prog 17 [Ac].toArray w (Ret w [] fun _ v _=>v = iV r):=by
 refine Fe func17 rfl ntmps17 rfl fun a S=>?_
 unfold Mk at h
 replace S:=S.k1 0 rfl
 refine Fr (Vk S rfl rfl fun a S=>Dl (Fs (Fr (Vm S rfl rfl fun a S=>lv S (Fi Ll (S.tm rfl) (Fm Ah)) rfl fun a S=>Vq S It rfl rfl rfl ?_))));clear S;intro a S
 refine Dl (Fc h (S.tm rfl) (fun hb1 h=>?_) (fun hb1 h=>?_))
 ·refine Fr (Vk S rfl rfl fun a S=>Dl (wp_ret (Db ?_)))
  obtain rfl:=Option.some.inj h
  exact Ds S results17 rfl rfl
 ·refine wp_skip (Tn (Fs (Fr (Vm S rfl rfl fun a S=>lv S (Fi Ll (S.tm rfl) (Fm Ah)) rfl fun a S=>lv S (Rm rfl) rfl fun a S=>Dl ?_))))
  replace S:=S.k4 0 11 12 13 rfl
  obtain ⟨j1,hj1,h⟩:=Eo h
  refine Dy (fun a w'=>j1 = some r ∧ Sx w [] nov [] [(0,Ac)] 49 a w') ?_ ?_
  ·refine wp_block (Gs (fun (ys1 : List An) a w'=>∃ i1 : Nat,(∃ dn,Ae = dn ++ ys1 ∧ dn.length = i1) ∧ Gg Ae j1 ys1 i1 = some r ∧ Sx w [] nov [] [(0,Ac),(11,Ac),(12,iV (Ae.length : Int)),(13,iV (i1 : Int))] 49 a w') List.length Ae ⟨0,⟨[],rfl,rfl⟩,h,S.nf [] rfl (subR rfl)⟩ ?_)
   clear S h;rintro ys1 a w1 ⟨i1,⟨dn,hd1,hi1⟩,h,S⟩
   cases ys1 with
   | nil =>
    rw [Gg.eq_1] at h
    refine Fr (Vb S Ev rfl rfl rfl fun a S=>Ld ?_)
    replace S:=S.k5 0 11 12 13 14 rfl
    exact Tn (Fs (wp_cond_false ((S.tm rfl).trans (congrArg Value.bool (Ke hd1 hi1))) (wp_exit (Dt (Dt (Gh (Tn (⟨h,S.nf [] rfl ⟨rfl,trivial⟩⟩))))))))
   | cons y1 ys1 =>
    rw [Gg.eq_2] at h
    refine Fr (Vb S Ev rfl rfl rfl fun a S=>Ld ?_)
    replace S:=S.k5 0 11 12 13 14 rfl
    refine Tn (Fs (wp_cond_true ((S.tm rfl).trans (congrArg Value.bool (Ja hd1 hi1))) (wp_skip (Tn (Fs (wp_block (Fr (Vm S rfl rfl ?_))))))));clear S;intro a S
    obtain ⟨b1,o1,hm1,hr1⟩:=Fu (a:=a) (x:=.tmp 11) (y:=.tmp 13) (ty:=0) Ll Ah (Jx hd1 hi1) rfl (S.tm rfl) (S.tm rfl)
    refine lv S (hr1 _) rfl ?_;clear S;intro a S
    clear hr1
    refine lv S (Fb isAgg93 sizeOf93 (off:=o1) (o:=0) (part:=(An.enc y1)) rfl rfl (S.tm rfl) (hm1.at S.emb0)) rfl fun a S=>Ic S zeroValue93 (cs:=[sV Cx,iV 0,iV 0,iV 0,sV Cx,sV Cx,sV Cx,iV 0,iV 0,sV Cx,iV 0]) rfl rfl ?_;clear S;intro a w3 b2 hz1 hk1 S
    refine Va S rfl rfl fun a S=>Ep S (S.tm rfl) (S.tm rfl) (i:=0) (off:=0) rfl sizeOf93 (vs:=(An.enc y1)) rfl rfl rfl rfl ?_;clear S;intro w4 hk2 S
    refine Dl (Fs (Fr (lv S (Fb isAgg93 sizeOf93 (off:=0) (o:=0) (part:=(An.enc y1)) rfl rfl (S.tm rfl) (S.cellsAt (i:=0) rfl)) rfl ?_)));clear S;intro a S
    obtain ⟨r1,hr2,h⟩:=Ej h
    refine Dd S (fun _=>Cz (vs:=[.agg (An.enc y1).toArray]) ⟨(S.tm rfl),trivial⟩ call39) (Wk _ y1 _ hr2) rfl ?_;clear S;intro v1 a w5 hv1 hk3 hn1 S
    subst hv1
    refine Va S rfl rfl fun a S=>Dz (Vm S rfl rfl fun a S=>Vq S Kg rfl rfl rfl fun a S=>Ld ?_)
    replace S:=(S.nl [.blk b2 (An.enc y1) 93] [true] rfl).k8 0 3 4 5 11 12 13 21 rfl
    refine Tn (Fc h (S.tm rfl) (fun hb2 h=>?_) (fun hb2 h=>?_))
    ·refine Fr (Vm S rfl rfl fun a S=>Va S rfl rfl fun a S=>Dl (wp_ret (Db (Gc (Db (Db ?_))))))
     refine Gc (Db (Db ?_))
     obtain rfl:=Option.some.inj h
     exact Ds S results17 rfl rfl
    ·refine wp_skip (Tn (Fs ?_))
     obtain ⟨j2,hj2,h⟩:=Eo h
     refine Dy (fun a w'=>∃ x1 : Bool,j2 x1 = some r ∧ Sx w [] nov [] [(0,Ac),(11,Ac),(12,iV (Ae.length : Int)),(13,iV (i1 : Int)),(34,bV x1)] 49 a w') ?_ ?_
     ·rcases Bool.eq_false_or_eq_true (decide (0 < (i1 : Int))) with hb3 | hb3
      ·replace h:=Rb h hb3
       obtain ⟨hc1,h⟩:=Gu h
       refine Fo [] ([]) Tryz.mixed S rfl (by kernel_rfl) ?_;clear S;intro w8 hk5 hsel S
       refine De 0 S hsel rfl rfl rfl (by kernel_rfl) (by kernel_rfl) rfl (fun _ hw=>(Rm (S.tm rfl))) fun a S=>De 1 S hsel rfl rfl rfl (by kernel_rfl) (by kernel_rfl) rfl (fun _ hw=>(It (S.tm rfl) rfl)) fun a S=>De 2 S hsel rfl rfl rfl (by kernel_rfl) (by kernel_rfl) rfl (fun _ hw=>(Rm (S.tm rfl))) fun a S=>Dj 3 S hsel rfl rfl rfl rfl hb3 rfl rfl (by kernel_rfl) (by kernel_rfl) rfl (fun _ hw=>(Rm (S.tm rfl))) fun a S=>Dj 4 S hsel rfl rfl rfl rfl hb3 rfl rfl (by kernel_rfl) (by kernel_rfl) rfl (fun _ hw=>(Rm (S.tm rfl))) fun a S=>Dj 5 S hsel rfl rfl rfl rfl hb3 rfl rfl (by kernel_rfl) (by kernel_rfl) rfl (fun _ hw=>(Gp (S.tm rfl) rfl)) ?_;clear S;intro a S
       obtain ⟨b4,o3,hm3,hr4⟩:=Fu (a:=a) (x:=.tmp 26) (y:=.tmp 28) (ty:=0) Ll (Ah.mono (S.le_arg Ey)) (Dc hc1).1 (Dc hc1).2 (S.tm rfl) (S.tm rfl)
       refine Dj 6 S hsel rfl rfl rfl rfl hb3 rfl rfl (by kernel_rfl) (by kernel_rfl) rfl (fun _ hw=>hr4 _) ?_;clear S;intro a S
       clear hr4
       refine Dj 7 S hsel rfl rfl rfl rfl hb3 rfl rfl (by kernel_rfl) (by kernel_rfl) rfl (fun _ hw=>(Fb isAgg93 sizeOf93 (off:=o3) (o:=0) (part:=(An.enc (nth Ae (W ((i1 : Int) - 1))))) rfl rfl (S.tm rfl) (hm3.kept hw))) fun a S=>Dj 8 S hsel rfl rfl rfl rfl hb3 rfl rfl (by kernel_rfl) (by kernel_rfl) rfl (fun _ hw=>(Fb isAgg93 sizeOf93 (off:=0) (o:=0) (part:=(An.enc y1)) rfl rfl (S.tm rfl) ((S.blk_mem (i:=0) (cells:=(An.enc y1)) (b:=b2) (T:=93) rfl (Gt (e':=.blk b2 (An.enc y1) 93))).kept hw))) fun a S=>Ff 9 (by kernel_rfl) rfl (Da S rfl rfl rfl hb3 (Dd S (fun _=>Cz (vs:=[.agg (An.enc (nth Ae (W ((i1 : Int) - 1)))).toArray,.agg (An.enc y1).toArray]) ⟨(S.tm rfl),(S.tm rfl),trivial⟩ call38) (Sf _ (nth Ae (W ((i1 : Int) - 1))) y1 _ rfl) rfl ?_));clear S;intro v3 a w9 hv3 hk6 hn3 S
       subst hv3
       refine Ld (Gl hk6 (Js [10,11] hsel (by kernel_rfl) rfl ?_))
       clear hsel
       refine Lx S rfl rfl rfl rfl hb3 (Ok S (Nj (S.tm rfl) rfl) rfl fun a S=>Fj S rfl (Ms hb3 (S.tm rfl) (S.tm rfl)) rfl fun a S=>Jc ?_)
       replace S:=S.n0.k13 0 11 12 13 26 27 28 29 30 31 32 33 34 rfl
       exact Tn (⟨decide (0 ≤ (Hp (nth Ae (W ((i1 : Int) - 1))) y1)),h,S.nf [] rfl (subR rfl)⟩)
      ·replace h:=Rc h hb3
       refine Fo [] ([]) Tryz.mixed S rfl (by kernel_rfl) ?_;clear S;intro w10 hk7 hsel S
       refine Js [0,1,2,3,4,5,6,7,8,9,10,11] hsel (by kernel_rfl) rfl ?_
       clear hsel
       refine Fj S rfl (Rm (S.tm rfl)) rfl fun a S=>Fj S rfl (It (S.tm rfl) rfl) rfl fun a S=>Fj S rfl (Rm (S.tm rfl)) rfl ?_;clear S;intro a S
       iterate 8 (refine Rj S rfl rfl rfl rfl (Jk hb3) rfl ?_ rfl;clear S;intro a S)
       refine Fj S rfl (Mt hb3 (S.tm rfl) rfl) rfl fun a S=>Jc ?_
       replace S:=S.n0.k5 0 11 12 13 34 rfl
       exact Tn (⟨false,h,S.nf [] rfl (subR rfl)⟩)
     clear S h;rintro a w6 ⟨x1,h,S⟩;rw [hj2] at h;clear hj2 j2
     refine Tn (Fc h (S.tm rfl) (fun hb4 h=>?_) (fun hb4 h=>?_))
     ·refine Fr (Vk S rfl rfl fun a S=>Dl (wp_ret (Gc (Db (Db (Gc (Db ?_)))))))
      refine Db ?_
      obtain rfl:=Option.some.inj h
      exact Ds S results17 rfl rfl
     ·exact wp_skip (Gy (Tn (Fg (Vq S Fa rfl rfl rfl fun a S=>Vm S rfl rfl fun a S=>Dl (⟨ys1,⟨i1 + 1,⟨_,(hd1).trans (List.append_cons _ _ _),by simp [hi1]⟩,h,S.nf [] rfl ⟨rfl,rfl,rfl,(congrArg (fun z=>some (Value.int .i64 z)) (Jb hd1 hi1 (Jy Ah))),trivial⟩⟩,Nat.lt_succ_self _⟩)))))
  clear S h;rintro a w2 ⟨h,S⟩;rw [hj1] at h;clear hj1 j1
  refine Tn (Fs (Fr (Vm S rfl rfl fun a S=>lv S (Fi Ll (S.tm rfl) (Fm Ah)) rfl fun a S=>lv S (Rm rfl) rfl fun a S=>Dl ?_)))
  replace S:=S.k4 0 36 37 38 rfl
  obtain ⟨j3,hj3,h⟩:=Eo h
  refine Dy (fun a w'=>j3 = some r ∧ Sx w [] nov [] [] 49 a w') ?_ ?_
  ·refine wp_block (Gs (fun (ys2 : List An) a w'=>∃ i2 : Nat,(∃ dn,Ae = dn ++ ys2 ∧ dn.length = i2) ∧ Gv Ae j3 ys2 i2 = some r ∧ Sx w [] nov [] [(0,Ac),(36,Ac),(37,iV (Ae.length : Int)),(38,iV (i2 : Int))] 49 a w') List.length Ae ⟨0,⟨[],rfl,rfl⟩,h,S.nf [] rfl (subR rfl)⟩ ?_)
   clear S h;rintro ys2 a w11 ⟨i2,⟨dn,hd2,hi2⟩,h,S⟩
   cases ys2 with
   | nil =>
    rw [Gv.eq_1] at h
    refine Fr (Vb S Ev rfl rfl rfl fun a S=>Ld ?_)
    replace S:=S.k5 0 36 37 38 39 rfl
    exact Tn (Fs (wp_cond_false ((S.tm rfl).trans (congrArg Value.bool (Ke hd2 hi2))) (wp_exit (Dt (Dt (Gh (Tn (⟨h,S.nf [] rfl trivial⟩))))))))
   | cons y2 ys2 =>
    rw [Gv.eq_2] at h
    refine Fr (Vb S Ev rfl rfl rfl fun a S=>Ld ?_)
    replace S:=S.k5 0 36 37 38 39 rfl
    refine Tn (Fs (wp_cond_true ((S.tm rfl).trans (congrArg Value.bool (Ja hd2 hi2))) (wp_skip (Tn (Fs (wp_block (Fr (Vm S rfl rfl ?_))))))));clear S;intro a S
    obtain ⟨b5,o4,hm4,hr5⟩:=Fu (a:=a) (x:=.tmp 36) (y:=.tmp 38) (ty:=0) Ll Ah (Jx hd2 hi2) rfl (S.tm rfl) (S.tm rfl)
    refine lv S (hr5 _) rfl ?_;clear S;intro a S
    clear hr5
    refine lv S (Fb isAgg93 sizeOf93 (off:=o4) (o:=0) (part:=(An.enc y2)) rfl rfl (S.tm rfl) (hm4.at S.emb0)) rfl fun a S=>Ic S zeroValue93 (cs:=[sV Cx,iV 0,iV 0,iV 0,sV Cx,sV Cx,sV Cx,iV 0,iV 0,sV Cx,iV 0]) rfl rfl ?_;clear S;intro a w13 b6 hz2 hk8 S
    refine Va S rfl rfl fun a S=>Ep S (S.tm rfl) (S.tm rfl) (i:=0) (off:=0) rfl sizeOf93 (vs:=(An.enc y2)) rfl rfl rfl rfl ?_;clear S;intro w14 hk9 S
    refine Dz (Vm S rfl rfl fun a S=>Vm S rfl rfl ?_);clear S;intro a S
    obtain ⟨hc2,h⟩:=Gu h
    obtain ⟨v4,hs1,hr6⟩:=Zo (a:=a) (x:=.tmp 43) (y':=.tmp 44) (ty:=34) Ll Ah (S.tm rfl) (S.tm rfl) hc2
    refine lv S (hr6 _) rfl ?_;clear S;intro a S
    clear hr6
    refine lv S (Uc (us:=#[]) (xs:=[].toArray) (ys:=[.tmp 7].toArray) (by simp) (evA ⟨(S.tm rfl),trivial⟩ (vs:=[.pointer (some ⟨b6,0,none⟩)]))) rfl fun a S=>Dd S (fun _=>Cz (vs:=[v4,.func (.func 41) #[] #[.pointer (some ⟨b6,0,none⟩)]]) ⟨(S.tm rfl),(S.tm rfl),trivial⟩ call40) (Nf _ v4 (cut Ae 0 (i2 : Int)) (hs1.mono (S.le_arg Ey)) b6 y2 (S.blk_view (i:=0) rfl ((Gt (e':=.blk b6 (An.enc y2) 93)) _ rfl)) _ rfl) rfl ?_;clear S;intro v5 a w15 hv4 hk10 hn4 S
    subst hv4
    refine Ld ?_
    replace S:=S.n0.k5 0 36 37 38 47 rfl
    refine Tn (Fc h (S.tm rfl) (fun hb5 h=>?_) (fun hb5 h=>?_))
    ·refine Fr (Vk S rfl rfl fun a S=>Dl (wp_ret (Gc (Db (Db (Gc (Db ?_)))))))
     refine Db ?_
     obtain rfl:=Option.some.inj h
     exact Ds S results17 rfl rfl
    ·exact wp_skip (Gy (Tn (Fg (Vq S Fa rfl rfl rfl fun a S=>Vm S rfl rfl fun a S=>Dl (⟨ys2,⟨i2 + 1,⟨_,(hd2).trans (List.append_cons _ _ _),by simp [hi2]⟩,h,S.nf [] rfl ⟨rfl,rfl,rfl,(congrArg (fun z=>some (Value.int .i64 z)) (Jb hd2 hi2 (Jy Ah))),trivial⟩⟩,Nat.lt_succ_self _⟩)))))
  clear S h;rintro a w12 ⟨h,S⟩;rw [hj3] at h;clear hj3 j3
  refine Tn (Fr (Vk S rfl rfl fun a S=>Dl (wp_ret ?_)))
  obtain rfl:=Option.some.inj h
  exact Ds S results17 rfl rfl
theorem Xc (w : World) (O : Nat) (V : Value) (Ak : List Int) (Ai : Slc (view w [O]) 1 V (Ak.map eInt)) (Ag : Int) (Ar : (LEnt.blk O [V,iV Ag] 25).holds w) (Aq : Int) (r : (List An) × Int) (h : Nr Ak Ag Aq = some r) :
    Calls prog 5 [.pointer (some ⟨O,0,none⟩),iV Aq].toArray w (Ret w [O] fun τ v w'=>(LEnt.blk O [V,iV r.2] 25).holds w' ∧ Pq τ 93 11 v r.1.length (r.1.flatMap An.enc)):=by
 refine Iy [O] [.blk O [V,iV Ag] 25] func5 rfl ntmps5 rfl (fun e he=>by simp only [List.mem_singleton] at he;subst he;exact Ar) (by simp [fps,LEnt.fp]) (by simp [fps,LEnt.fp]) fun a S=>?_
 unfold Nr at h
 replace S:=(S.nl [.blk O [V,iV Ag] 25] [true] rfl).k2 0 1 rfl
 refine Fr (Vk S rfl rfl fun a S=>Dl (Fs (Fr (lv S (Rm rfl) rfl fun a S=>Dl ?_))))
 replace S:=S.k3 0 1 6 rfl
 obtain ⟨j1,hj1,h⟩:=Eo h
 refine Dy (fun a w'=>∃ x1 : Int,∃ φ1 : View,j1 x1 = some r ∧ View.le nov φ1 ∧ Sx w [O] φ1 [.blk O [V,iV x1] 25] [] 16 a w') ?_ ?_
 ·refine wp_block (Gs (fun (m1 : Nat) a w'=>∃ x1 : Int,∃ x2 : Int,∃ φ1 : View,Hv Ak Aq j1 m1 x1 x2 = some r ∧ View.le nov φ1 ∧ Sx w [O] φ1 [.blk O [V,iV x1] 25] [(0,.pointer (some ⟨O,0,none⟩)),(1,iV Aq),(6,iV x2)] 16 a w') id 7 ⟨Ag,0,nov,h,View.le_refl _,S.nf [true] rfl (subR rfl)⟩ ?_)
  clear S h;rintro m1 a w1 ⟨x1,x2,φ1,h,hl1,S⟩
  cases m1 with
  | zero=>rw [Hv.eq_1] at h;cases h
  | succ m1 =>
   rw [Hv.eq_2] at h
   refine Fr (Vq S Ev rfl rfl rfl fun a S=>Dl (Fs (Fc h (S.tm rfl) (fun hb1 h=>?_) (fun hb1 h=>?_))))
   ·refine wp_skip (Tn (Fs (wp_block (Fr (Vm S rfl rfl fun a S=>Vm S rfl rfl ?_)))));clear S;intro a S
    obtain ⟨r1,hr1,h⟩:=Ej h
    have hz1:=S.keep.size
    refine Ft 0 S (b:=O) rfl rfl (fun _=>.blk O [V,iV r1.2] 25) (fun _=>Cz (vs:=[.pointer (some ⟨O,0,none⟩),iV Aq]) ⟨(S.tm rfl),(S.tm rfl),trivial⟩ call16) (BJ _ O V Ak (Ai.mono (S.le_arg (Hd (i:=0) (e:=.blk O [V,iV x1] 25) rfl))) x1 (S.holds _ (List.mem_of_getElem? (i:=0) rfl)) Aq _ hr1) rfl (fun _ _ _ h=>⟨h.1,fun _ hc=>by cases hc;rfl⟩) ?_;clear S;intro v1 a w3 hv1 hk1 hn1 S
    replace hv1:=hv1.2
    obtain ⟨φ2,hl2,hm1,S⟩:=S.see' hn1 hz1
    have hs1:=hv1.mono hm1
    refine Va S rfl rfl fun a S=>Dz (Vm S rfl rfl ?_);clear S;intro a S
    obtain ⟨r2,hr2,h⟩:=Ej h
    refine Dd S (fun _=>Cz (vs:=[v1]) ⟨(S.tm rfl),trivial⟩ call17) (Wc _ v1 r1.1 ((Fv An.enc_ok hs1).mono (S.le_new Ey)) _ hr2) rfl ?_;clear S;intro v2 a w4 hv2 hk2 hn2 S
    subst hv2
    refine Vq S Hj rfl rfl rfl fun a S=>Dl (Fc h (S.tm rfl) (fun hb2 h=>?_) (fun hb2 h=>?_))
    ·refine Fr (Vm S rfl rfl fun a S=>Va S rfl rfl fun a S=>Dl (wp_ret (Gc (Db (Db (Gc ?_))))))
     refine Db (Db ?_)
     obtain rfl:=Option.some.inj h
     exact Ds S results5 rfl ⟨(S.holds _ (List.mem_of_getElem? (i:=0) rfl)),((hs1).mono S.le_newer)⟩
    ·exact wp_skip (Gy (Tn (Fg (Vq S Fa rfl rfl rfl fun a S=>Vm S rfl rfl fun a S=>Dl (⟨m1,⟨r1.2,W (x2 + 1),φ2,h,(View.le_trans hl1 hl2),S.nf [true] rfl ⟨rfl,rfl,rfl,trivial⟩⟩,Nat.lt_succ_self _⟩)))))
   ·exact wp_exit (Dt (Dt (Gh (Tn (⟨x1,φ1,h,hl1,S.nf [true] rfl trivial⟩)))))
 clear S h;rintro a w2 ⟨x1,φ1,h,hl1,S⟩;rw [hj1] at h;clear hj1 j1
 refine Tn (Fr (Vk S rfl rfl fun a S=>Dl (wp_ret ?_)))
 obtain rfl:=Option.some.inj h
 exact Ds S results5 rfl ⟨(S.holds _ (List.mem_of_getElem? (i:=0) rfl)),(Ps _ _ _)⟩
theorem BK (w : World) (s c : ByteArray) (r : ByteArray) (h : Rp s c = some r) : Calls prog 96 [.string s,.string c].toArray w (Ret w [] fun _ v _=>v = .string r):=by
  unfold Rp at h
  obtain ⟨h1,h⟩:=Gu h
  obtain ⟨h2,h⟩:=Gu h
  obtain ⟨h3,h⟩:=Gu h
  obtain rfl:=Option.some.inj h
  exact FF (Any.strings_Trim_laid Tryz.lays160 (by kernel_rfl) s c w (by simpa using h1) (by simpa using h2) (fun j b hb=>by simpa using List.all_eq_true.1 h3 b (List.mem_of_getElem? hb)))
theorem Ko (w : World) (Ap : ByteArray) (r : Bool) (h : Gn Ap = some r) :
    Calls prog 55 [sV Ap].toArray w (Ret w [] fun _ v _=>v = bV r):=by
 refine Fe func55 rfl ntmps55 rfl fun a S=>?_
 unfold Gn at h
 replace S:=S.k1 0 rfl
 refine Fr (Vk S rfl rfl fun a S=>Dz (Vm S rfl rfl fun a S=>Vu S (Vr underlying9) rfl rfl fun a S=>Vq S Nj rfl rfl rfl fun a S=>Vm S rfl rfl ?_));clear S;intro a S
 refine Gr 4 (fun a w'=>Keep [] w w' ∧ Sx w [] nov [] [(0,sV Ap),(10,bV ((decide (1 ≤ (Ap.size : Int))) && (decide ((Ap.size : Int) ≤ 40))))] 26 a w') ?_ ?_
 ·rcases Bool.eq_false_or_eq_true (decide (1 ≤ (Ap.size : Int))) with hb1 | hb1
  ·exact Da S rfl rfl rfl hb1 (Vm S rfl rfl fun a S=>Da S rfl rfl rfl hb1 (Vu S (Vr underlying9) rfl rfl fun a S=>Da S rfl rfl rfl hb1 (Vq S Qt rfl rfl rfl fun a S=>lv S (Hk hb1 (S.tm rfl) (S.tm rfl)) rfl fun a S=>Dl (⟨Keep.refl _ _,S.nf [] rfl (subR rfl)⟩))))
  ·iterate 3 (refine Fy S rfl rfl rfl (Jk hb1) rfl ?_ rfl;clear S;intro a S)
   exact lv S (Hl (decide ((Ap.size : Int) ≤ 40)) hb1 (S.tm rfl) rfl) rfl fun a S=>Dl (⟨Keep.refl _ _,S.nf [] rfl (subR rfl)⟩)
 clear S;rintro a w1 ⟨hk1,S⟩
 refine Vm S rfl rfl ?_;clear S;intro a S
 obtain ⟨j1,hj1,h⟩:=Eo h
 refine Gr 4 (fun a w'=>∃ c1,j1 c1 = some r ∧ Keep [] w1 w' ∧ Sx w [] nov [] [(0,sV Ap),(15,bV c1)] 26 a w') ?_ ?_
 ·rcases Bool.eq_false_or_eq_true ((decide (1 ≤ (Ap.size : Int))) && (decide ((Ap.size : Int) ≤ 40))) with hb2 | hb2
  ·replace h:=Rb h hb2
   refine Da S rfl rfl rfl hb2 (Vm S rfl rfl fun a S=>Da S rfl rfl rfl hb2 ?_)
   obtain ⟨hc1,h⟩:=Gu h
   exact lv S (Tt underlying9 (S.tm rfl) rfl hc1) rfl fun a S=>Da S rfl rfl rfl hb2 (Vq S Nj rfl rfl rfl fun a S=>lv S (Hk hb2 (S.tm rfl) (S.tm rfl)) rfl fun a S=>Dl (⟨_,h,Keep.refl _ _,S.nf [] rfl (subR rfl)⟩))
  ·replace h:=Rc h hb2
   iterate 3 (refine Fy S rfl rfl rfl (Jk hb2) rfl ?_ rfl;clear S;intro a S)
   exact Vq S (Hl true hb2) rfl rfl rfl fun a S=>Dl (⟨_,h,Keep.refl _ _,S.nf [] rfl (subR rfl)⟩)
 clear S h;rintro a w2 ⟨c1,h,hk2,S⟩;rw [hj1] at h;clear hj1 j1
 refine Vm S rfl rfl ?_;clear S;intro a S
 obtain ⟨j2,hj2,h⟩:=Eo h
 refine Gr 4 (fun a w'=>∃ c2,j2 c2 = some r ∧ Keep [] w2 w' ∧ Sx w [] nov [] [(0,sV Ap),(20,bV c2)] 26 a w') ?_ ?_
 ·rcases Bool.eq_false_or_eq_true c1 with hb3 | hb3
  ·replace h:=Rb h hb3
   refine Da S rfl rfl rfl hb3 (Vm S rfl rfl fun a S=>Da S rfl rfl rfl hb3 ?_)
   obtain ⟨hc2,h⟩:=Gu h
   exact lv S (Tt underlying9 (S.tm rfl) rfl hc2) rfl fun a S=>Da S rfl rfl rfl hb3 (Vq S Qt rfl rfl rfl fun a S=>lv S (Hk hb3 (S.tm rfl) (S.tm rfl)) rfl fun a S=>Dl (⟨_,h,Keep.refl _ _,S.nf [] rfl (subR rfl)⟩))
  ·replace h:=Rc h hb3
   iterate 3 (refine Fy S rfl rfl rfl (Jk hb3) rfl ?_ rfl;clear S;intro a S)
   exact Vq S (Hl true hb3) rfl rfl rfl fun a S=>Dl (⟨_,h,Keep.refl _ _,S.nf [] rfl (subR rfl)⟩)
 clear S h;rintro a w3 ⟨c2,h,hk3,S⟩;rw [hj2] at h;clear hj2 j2
 refine Vm S rfl rfl ?_;clear S;intro a S
 obtain ⟨j3,hj3,h⟩:=Eo h
 refine Gr 4 (fun a w'=>∃ c3,j3 c3 = some r ∧ Keep [] w3 w' ∧ Sx w [] nov [] [(25,bV c3)] 26 a w') ?_ ?_
 ·rcases Bool.eq_false_or_eq_true c2 with hb4 | hb4
  ·replace h:=Rb h hb4
   refine Da S rfl rfl rfl hb4 (Vm S rfl rfl fun a S=>Da S rfl rfl rfl hb4 ?_)
   obtain ⟨r1,hr1,h⟩:=Ej h
   refine Dd S (fun _=>Cz (vs:=[sV Ap,sV Gf]) ⟨(S.tm rfl),rfl,trivial⟩ call96) (BK _ Ap Gf _ hr1) rfl ?_;clear S;intro v1 a w5 hv1 hk4 hn1 S
   subst hv1
   exact Da S rfl rfl rfl hb4 (Vq S Xn rfl rfl rfl fun a S=>lv S (Hk hb4 (S.tm rfl) (S.tm rfl)) rfl fun a S=>Dl (⟨_,h,hk4,S.nf [] rfl ⟨rfl,trivial⟩⟩))
  ·replace h:=Rc h hb4
   iterate 3 (refine Fy S rfl rfl rfl (Jk hb4) rfl ?_ rfl;clear S;intro a S)
   exact Vq S (Hl true hb4) rfl rfl rfl fun a S=>Dl (⟨_,h,Keep.refl _ _,S.nf [] rfl ⟨rfl,trivial⟩⟩)
 clear S h;rintro a w4 ⟨c3,h,hk5,S⟩;rw [hj3] at h;clear hj3 j3
 refine Va S rfl rfl fun a S=>Dl (wp_ret ?_)
 obtain rfl:=Option.some.inj h
 exact Ds S results55 rfl rfl
theorem Ed (w : World) (Av : Int) (Bi : Int) (Bc : Int) (r : Bool) (h : Cy Av Bi Bc = r) :
    Calls prog 49 [iV Av,iV Bi,iV Bc].toArray w (Ret w [] fun _ v _=>v = bV r):=by
 refine Fe func49 rfl ntmps49 rfl fun a S=>?_
 unfold Cy at h
 replace S:=S.k3 0 1 2 rfl
 refine Fr (Vk S rfl rfl fun a S=>Dz (Vm S rfl rfl fun a S=>Vm S rfl rfl fun a S=>Vb S Nj rfl rfl rfl fun a S=>Vm S rfl rfl ?_));clear S;intro a S
 refine Gr 4 (fun a w'=>Keep [] w w' ∧ Sx w [] nov [] [(14,bV ((decide (Bi ≤ Av)) && (decide (Av ≤ Bc))))] 15 a w') ?_ ?_
 ·rcases Bool.eq_false_or_eq_true (decide (Bi ≤ Av)) with hb1 | hb1
  ·exact Da S rfl rfl rfl hb1 (Vm S rfl rfl fun a S=>Da S rfl rfl rfl hb1 (Vm S rfl rfl fun a S=>Da S rfl rfl rfl hb1 (Vb S Qt rfl rfl rfl fun a S=>lv S (Hk hb1 (S.tm rfl) (S.tm rfl)) rfl fun a S=>Dl (⟨Keep.refl _ _,S.nf [] rfl ⟨rfl,trivial⟩⟩))))
  ·iterate 3 (refine Fy S rfl rfl rfl (Jk hb1) rfl ?_ rfl;clear S;intro a S)
   exact lv S (Hl (decide (Av ≤ Bc)) hb1 (S.tm rfl) rfl) rfl fun a S=>Dl (⟨Keep.refl _ _,S.nf [] rfl ⟨rfl,trivial⟩⟩)
 clear S;rintro a w1 ⟨hk1,S⟩
 refine Va S rfl rfl fun a S=>Dl (wp_ret ?_)
 subst h
 exact Ds S results49 rfl rfl
theorem Yi (w : World) (Ao : Dg) (r : Int) (h : Kx Ao = some r) :
    Calls prog 44 [.agg (Dg.enc Ao).toArray].toArray w (Ret w [] fun _ v _=>v = iV r):=by
 refine Fe func44 rfl ntmps44 rfl fun a S=>?_
 unfold Kx at h
 replace S:=S.k1 0 rfl
 refine Fr (Ks S (S.tm rfl) (cs:=(Dg.enc Ao)) rfl rfl ?_);clear S;intro a w1 b1 hz1 hk1 S
 refine Vk S rfl rfl fun a S=>Dl (Fs (wp_block (Fr (Vf Xw S rfl rfl fun a S=>Vl isAgg9 0 S rfl rfl rfl rfl ?_))));clear S;intro a S
 obtain ⟨r1,hr1,h⟩:=Ej h
 refine Dd S (fun _=>Cz (vs:=[sV Ao.Key]) ⟨(S.tm rfl),trivial⟩ call55) (Ko _ Ao.Key _ hr1) rfl ?_;clear S;intro v1 a w2 hv1 hk2 hn1 S
 subst hv1
 refine Vu S Gk rfl rfl fun a S=>Va S rfl rfl fun a S=>Dl (Fc h (S.tm rfl) (fun hb1 h=>?_) (fun hb1 h=>?_))
 ·refine Fr (Vk S rfl rfl fun a S=>Dl (wp_ret (Gc (Db ?_))))
  obtain rfl:=Option.some.inj h
  exact Ds S results44 rfl rfl
 ·refine Fr (Vf FM S rfl rfl fun a S=>Vl isAgg3 0 S rfl rfl rfl rfl fun a S=>Dd S (fun _=>Cz (vs:=[iV Ao.Stroke,iV 1,iV 5]) ⟨(S.tm rfl),rfl,rfl,trivial⟩ call49) (Ed _ Ao.Stroke 1 5 _ rfl) rfl ?_);clear S;intro v2 a w3 hv2 hk3 hn2 S
  subst hv2
  refine Vu S Gk rfl rfl fun a S=>Vm S rfl rfl fun a S=>Gr 5 (fun a w'=>Keep [] w3 w' ∧ Sx w [] nov [.blk b1 (Dg.enc Ao) 40] [(1,.pointer (some ⟨b1,0,none⟩)),(18,bV ((!(Cy Ao.Stroke 1 5)) || (!(Cy Ao.Sex 0 2))))] 95 a w') ?_ ?_
  ·rcases Bool.eq_false_or_eq_true (!(Cy Ao.Stroke 1 5)) with hb2 | hb2
   ·iterate 4 (refine Fy S rfl rfl rfl (Ki hb2) rfl ?_ rfl;clear S;intro a S)
    exact lv S (Iw (!(Cy Ao.Sex 0 2)) hb2 (S.tm rfl) rfl) rfl fun a S=>Dl (⟨Keep.refl _ _,S.nf [true] rfl (subR rfl)⟩)
   ·refine Da S rfl rfl rfl hb2 (Vf fa_40_5 S rfl rfl fun a S=>Da S rfl rfl rfl hb2 (Vl isAgg3 0 S rfl rfl rfl rfl fun a S=>Da S rfl rfl rfl hb2 (Dd S (fun _=>Cz (vs:=[iV Ao.Sex,iV 0,iV 2]) ⟨(S.tm rfl),rfl,rfl,trivial⟩ call49) (Ed _ Ao.Sex 0 2 _ rfl) rfl ?_)));clear S;intro v3 a w5 hv3 hk4 hn3 S
    subst hv3
    exact Da S rfl rfl rfl hb2 (Vu S Gk rfl rfl fun a S=>lv S (Ix hb2 (S.tm rfl) (S.tm rfl)) rfl fun a S=>Dl (⟨hk4,S.nf [true] rfl (subR rfl)⟩))
  clear S;rintro a w4 ⟨hk5,S⟩
  refine Va S rfl rfl fun a S=>Dl (Fc h (S.tm rfl) (fun hb3 h=>?_) (fun hb3 h=>?_))
  ·refine Fr (Vk S rfl rfl fun a S=>Dl (wp_ret (Gc (Db ?_))))
   obtain rfl:=Option.some.inj h
   exact Ds S results44 rfl rfl
  ·refine Fr (Vf BV S rfl rfl fun a S=>Vl isAgg3 0 S rfl rfl rfl rfl fun a S=>Vq S Kg rfl rfl rfl fun a S=>Vm S rfl rfl fun a S=>Gr 4 (fun a w'=>Keep [] w4 w' ∧ Sx w [] nov [.blk b1 (Dg.enc Ao) 40] [(1,.pointer (some ⟨b1,0,none⟩)),(27,bV ((!decide (Ao.Course = 25)) && (!decide (Ao.Course = 50))))] 95 a w') ?_ ?_)
   ·rcases Bool.eq_false_or_eq_true (!decide (Ao.Course = 25)) with hb4 | hb4
    ·exact Da S rfl rfl rfl hb4 (Vf BV S rfl rfl fun a S=>Da S rfl rfl rfl hb4 (Vl isAgg3 0 S rfl rfl rfl rfl fun a S=>Da S rfl rfl rfl hb4 (Vq S Kg rfl rfl rfl fun a S=>lv S (Hk hb4 (S.tm rfl) (S.tm rfl)) rfl fun a S=>Dl (⟨Keep.refl _ _,S.nf [true] rfl (subR rfl)⟩))))
    ·iterate 3 (refine Fy S rfl rfl rfl (Jk hb4) rfl ?_ rfl;clear S;intro a S)
     exact lv S (Hl (!decide (Ao.Course = 50)) hb4 (S.tm rfl) rfl) rfl fun a S=>Dl (⟨Keep.refl _ _,S.nf [true] rfl (subR rfl)⟩)
   clear S;rintro a w6 ⟨hk6,S⟩
   refine Vm S rfl rfl fun a S=>Gr 5 (fun a w'=>Keep [] w6 w' ∧ Sx w [] nov [.blk b1 (Dg.enc Ao) 40] [(1,.pointer (some ⟨b1,0,none⟩)),(33,bV (((!decide (Ao.Course = 25)) && (!decide (Ao.Course = 50))) || (!(Cy Ao.Legs 1 4))))] 95 a w') ?_ ?_
   ·rcases Bool.eq_false_or_eq_true ((!decide (Ao.Course = 25)) && (!decide (Ao.Course = 50))) with hb5 | hb5
    ·iterate 4 (refine Fy S rfl rfl rfl (Ki hb5) rfl ?_ rfl;clear S;intro a S)
     exact lv S (Iw (!(Cy Ao.Legs 1 4)) hb5 (S.tm rfl) rfl) rfl fun a S=>Dl (⟨Keep.refl _ _,S.nf [true] rfl (subR rfl)⟩)
    ·refine Da S rfl rfl rfl hb5 (Vf BW S rfl rfl fun a S=>Da S rfl rfl rfl hb5 (Vl isAgg3 0 S rfl rfl rfl rfl fun a S=>Da S rfl rfl rfl hb5 (Dd S (fun _=>Cz (vs:=[iV Ao.Legs,iV 1,iV 4]) ⟨(S.tm rfl),rfl,rfl,trivial⟩ call49) (Ed _ Ao.Legs 1 4 _ rfl) rfl ?_)));clear S;intro v4 a w8 hv4 hk7 hn4 S
     subst hv4
     exact Da S rfl rfl rfl hb5 (Vu S Gk rfl rfl fun a S=>lv S (Ix hb5 (S.tm rfl) (S.tm rfl)) rfl fun a S=>Dl (⟨hk7,S.nf [true] rfl (subR rfl)⟩))
   clear S;rintro a w7 ⟨hk8,S⟩
   refine Vm S rfl rfl fun a S=>Gr 5 (fun a w'=>Keep [] w7 w' ∧ Sx w [] nov [.blk b1 (Dg.enc Ao) 40] [(1,.pointer (some ⟨b1,0,none⟩)),(39,bV ((((!decide (Ao.Course = 25)) && (!decide (Ao.Course = 50))) || (!(Cy Ao.Legs 1 4))) || (!(Cy Ao.Metres 25 1500))))] 95 a w') ?_ ?_
   ·rcases Bool.eq_false_or_eq_true (((!decide (Ao.Course = 25)) && (!decide (Ao.Course = 50))) || (!(Cy Ao.Legs 1 4))) with hb6 | hb6
    ·iterate 4 (refine Fy S rfl rfl rfl (Ki hb6) rfl ?_ rfl;clear S;intro a S)
     exact lv S (Iw (!(Cy Ao.Metres 25 1500)) hb6 (S.tm rfl) rfl) rfl fun a S=>Dl (⟨Keep.refl _ _,S.nf [true] rfl (subR rfl)⟩)
    ·refine Da S rfl rfl rfl hb6 (Vf FL S rfl rfl fun a S=>Da S rfl rfl rfl hb6 (Vl isAgg3 0 S rfl rfl rfl rfl fun a S=>Da S rfl rfl rfl hb6 (Dd S (fun _=>Cz (vs:=[iV Ao.Metres,iV 25,iV 1500]) ⟨(S.tm rfl),rfl,rfl,trivial⟩ call49) (Ed _ Ao.Metres 25 1500 _ rfl) rfl ?_)));clear S;intro v5 a w10 hv5 hk9 hn5 S
     subst hv5
     exact Da S rfl rfl rfl hb6 (Vu S Gk rfl rfl fun a S=>lv S (Ix hb6 (S.tm rfl) (S.tm rfl)) rfl fun a S=>Dl (⟨hk9,S.nf [true] rfl (subR rfl)⟩))
   clear S;rintro a w9 ⟨hk10,S⟩
   refine Vm S rfl rfl fun a S=>Gr 4 (fun a w'=>Keep [] w9 w' ∧ Sx w [] nov [.blk b1 (Dg.enc Ao) 40] [(1,.pointer (some ⟨b1,0,none⟩)),(44,bV (((((!decide (Ao.Course = 25)) && (!decide (Ao.Course = 50))) || (!(Cy Ao.Legs 1 4))) || (!(Cy Ao.Metres 25 1500))) || (decide (Ao.Young < 0))))] 95 a w') ?_ ?_
   ·rcases Bool.eq_false_or_eq_true ((((!decide (Ao.Course = 25)) && (!decide (Ao.Course = 50))) || (!(Cy Ao.Legs 1 4))) || (!(Cy Ao.Metres 25 1500))) with hb7 | hb7
    ·iterate 3 (refine Fy S rfl rfl rfl (Ki hb7) rfl ?_ rfl;clear S;intro a S)
     exact lv S (Iw (decide (Ao.Young < 0)) hb7 (S.tm rfl) rfl) rfl fun a S=>Dl (⟨Keep.refl _ _,S.nf [true] rfl (subR rfl)⟩)
    ·exact Da S rfl rfl rfl hb7 (Vf FN S rfl rfl fun a S=>Da S rfl rfl rfl hb7 (Vl isAgg3 0 S rfl rfl rfl rfl fun a S=>Da S rfl rfl rfl hb7 (Vq S Ev rfl rfl rfl fun a S=>lv S (Ix hb7 (S.tm rfl) (S.tm rfl)) rfl fun a S=>Dl (⟨Keep.refl _ _,S.nf [true] rfl (subR rfl)⟩))))
   clear S;rintro a w11 ⟨hk11,S⟩
   refine Vm S rfl rfl fun a S=>Gr 6 (fun a w'=>Keep [] w11 w' ∧ Sx w [] nov [.blk b1 (Dg.enc Ao) 40] [(1,.pointer (some ⟨b1,0,none⟩)),(51,bV ((((((!decide (Ao.Course = 25)) && (!decide (Ao.Course = 50))) || (!(Cy Ao.Legs 1 4))) || (!(Cy Ao.Metres 25 1500))) || (decide (Ao.Young < 0))) || (decide (Ao.Old < Ao.Young))))] 95 a w') ?_ ?_
   ·rcases Bool.eq_false_or_eq_true (((((!decide (Ao.Course = 25)) && (!decide (Ao.Course = 50))) || (!(Cy Ao.Legs 1 4))) || (!(Cy Ao.Metres 25 1500))) || (decide (Ao.Young < 0))) with hb8 | hb8
    ·iterate 5 (refine Fy S rfl rfl rfl (Ki hb8) rfl ?_ rfl;clear S;intro a S)
     exact lv S (Iw (decide (Ao.Old < Ao.Young)) hb8 (S.tm rfl) rfl) rfl fun a S=>Dl (⟨Keep.refl _ _,S.nf [true] rfl (subR rfl)⟩)
    ·refine Da S rfl rfl rfl hb8 (Vf FN S rfl rfl fun a S=>Da S rfl rfl rfl hb8 (Vl isAgg3 0 S rfl rfl rfl rfl fun a S=>Da S rfl rfl rfl hb8 (Vf FO S rfl rfl fun a S=>Da S rfl rfl rfl hb8 (Vl isAgg3 0 S rfl rfl rfl rfl fun a S=>Da S rfl rfl rfl hb8 (Vb S It rfl rfl rfl fun a S=>lv S (Ix hb8 (S.tm rfl) (S.tm rfl)) rfl ?_)))));clear S;intro a S
     exact Dl (⟨Keep.refl _ _,S.nf [true] rfl (subR rfl)⟩)
   clear S;rintro a w12 ⟨hk12,S⟩
   refine Vm S rfl rfl fun a S=>Gr 4 (fun a w'=>Keep [] w12 w' ∧ Sx w [] nov [.blk b1 (Dg.enc Ao) 40] [(1,.pointer (some ⟨b1,0,none⟩)),(56,bV (((((((!decide (Ao.Course = 25)) && (!decide (Ao.Course = 50))) || (!(Cy Ao.Legs 1 4))) || (!(Cy Ao.Metres 25 1500))) || (decide (Ao.Young < 0))) || (decide (Ao.Old < Ao.Young))) || (decide (120 < Ao.Old))))] 95 a w') ?_ ?_
   ·rcases Bool.eq_false_or_eq_true ((((((!decide (Ao.Course = 25)) && (!decide (Ao.Course = 50))) || (!(Cy Ao.Legs 1 4))) || (!(Cy Ao.Metres 25 1500))) || (decide (Ao.Young < 0))) || (decide (Ao.Old < Ao.Young))) with hb9 | hb9
    ·iterate 3 (refine Fy S rfl rfl rfl (Ki hb9) rfl ?_ rfl;clear S;intro a S)
     exact lv S (Iw (decide (120 < Ao.Old)) hb9 (S.tm rfl) rfl) rfl fun a S=>Dl (⟨Keep.refl _ _,S.nf [true] rfl (subR rfl)⟩)
    ·exact Da S rfl rfl rfl hb9 (Vf FO S rfl rfl fun a S=>Da S rfl rfl rfl hb9 (Vl isAgg3 0 S rfl rfl rfl rfl fun a S=>Da S rfl rfl rfl hb9 (Vq S It rfl rfl rfl fun a S=>lv S (Ix hb9 (S.tm rfl) (S.tm rfl)) rfl fun a S=>Dl (⟨Keep.refl _ _,S.nf [true] rfl (subR rfl)⟩))))
   clear S;rintro a w13 ⟨hk13,S⟩
   refine Va S rfl rfl fun a S=>Dl (Fc h (S.tm rfl) (fun hb10 h=>?_) (fun hb10 h=>?_))
   ·refine Fr (Vk S rfl rfl fun a S=>Dl (wp_ret (Gc (Db ?_))))
    obtain rfl:=Option.some.inj h
    exact Ds S results44 rfl rfl
   ·refine Fr (Vf FL S rfl rfl fun a S=>Vl isAgg3 0 S rfl rfl rfl rfl fun a S=>Vf BV S rfl rfl fun a S=>Vl isAgg3 0 S rfl rfl rfl rfl ?_);clear S;intro a S
    obtain ⟨hc1,h⟩:=Gu h
    refine lv S (Yu (S.tm rfl) (S.tm rfl) (Un hc1)) rfl fun a S=>Vq S Kg rfl rfl rfl fun a S=>Va S rfl rfl fun a S=>Dl (Fc h (S.tm rfl) (fun hb11 h=>?_) (fun hb11 h=>?_))
    ·refine Fr (Vk S rfl rfl fun a S=>Dl (wp_ret (Gc (Db ?_))))
     obtain rfl:=Option.some.inj h
     exact Ds S results44 rfl rfl
    ·refine Fs (Fr (Vf FM S rfl rfl fun a S=>Vl isAgg3 0 S rfl rfl rfl rfl fun a S=>Vq S Hj rfl rfl rfl fun a S=>Vm S rfl rfl fun a S=>Gr 4 (fun a w'=>Keep [] w13 w' ∧ Sx w [] nov [.blk b1 (Dg.enc Ao) 40] [(1,.pointer (some ⟨b1,0,none⟩)),(72,bV ((decide (Ao.Stroke = 5)) && (decide (Ao.Legs = 1))))] 95 a w') ?_ ?_))
     ·rcases Bool.eq_false_or_eq_true (decide (Ao.Stroke = 5)) with hb12 | hb12
      ·exact Da S rfl rfl rfl hb12 (Vf BW S rfl rfl fun a S=>Da S rfl rfl rfl hb12 (Vl isAgg3 0 S rfl rfl rfl rfl fun a S=>Da S rfl rfl rfl hb12 (Vq S Hj rfl rfl rfl fun a S=>lv S (Hk hb12 (S.tm rfl) (S.tm rfl)) rfl fun a S=>Dl (⟨Keep.refl _ _,S.nf [true] rfl (subR rfl)⟩))))
      ·iterate 3 (refine Fy S rfl rfl rfl (Jk hb12) rfl ?_ rfl;clear S;intro a S)
       exact lv S (Hl (decide (Ao.Legs = 1)) hb12 (S.tm rfl) rfl) rfl fun a S=>Dl (⟨Keep.refl _ _,S.nf [true] rfl (subR rfl)⟩)
     clear S;rintro a w14 ⟨hk14,S⟩
     refine Vm S rfl rfl ?_;clear S;intro a S
     obtain ⟨j1,hj1,h⟩:=Eo h
     refine Gr 8 (fun a w'=>∃ c1,j1 c1 = some r ∧ Keep [] w14 w' ∧ Sx w [] nov [.blk b1 (Dg.enc Ao) 40] [(1,.pointer (some ⟨b1,0,none⟩)),(81,bV c1)] 95 a w') ?_ ?_
     ·rcases Bool.eq_false_or_eq_true ((decide (Ao.Stroke = 5)) && (decide (Ao.Legs = 1))) with hb13 | hb13
      ·replace h:=Rb h hb13
       refine Da S rfl rfl rfl hb13 (Vf FL S rfl rfl fun a S=>Da S rfl rfl rfl hb13 (Vl isAgg3 0 S rfl rfl rfl rfl fun a S=>Da S rfl rfl rfl hb13 (Vf BV S rfl rfl fun a S=>Da S rfl rfl rfl hb13 (Vl isAgg3 0 S rfl rfl rfl rfl fun a S=>Da S rfl rfl rfl hb13 (Vu S (Wo rfl) rfl rfl fun a S=>Da S rfl rfl rfl hb13 ?_)))))
       obtain ⟨hc2,h⟩:=Gu h
       exact lv S (Yu (S.tm rfl) (S.tm rfl) (Un hc2)) rfl fun a S=>Da S rfl rfl rfl hb13 (Vq S Kg rfl rfl rfl fun a S=>lv S (Hk hb13 (S.tm rfl) (S.tm rfl)) rfl fun a S=>Dl (⟨_,h,Keep.refl _ _,S.nf [true] rfl (subR rfl)⟩))
      ·replace h:=Rc h hb13
       iterate 7 (refine Fy S rfl rfl rfl (Jk hb13) rfl ?_ rfl;clear S;intro a S)
       exact Vq S (Hl true hb13) rfl rfl rfl fun a S=>Dl (⟨_,h,Keep.refl _ _,S.nf [true] rfl (subR rfl)⟩)
     clear S h;rintro a w15 ⟨c1,h,hk15,S⟩;rw [hj1] at h;clear hj1 j1
     refine Va S rfl rfl fun a S=>Dl ?_
     obtain ⟨j2,hj2,h⟩:=Eo h
     refine Dy (fun a w'=>∃ x1 : Bool,j2 x1 = some r ∧ Sx w [] nov [.blk b1 (Dg.enc Ao) 40] [(64,bV x1)] 95 a w') ?_ ?_
     ·refine Fc h (S.tm rfl) (fun hb14 h=>?_) (fun hb14 h=>?_)
      ·exact wp_skip (Tn (⟨c1,h,S.nf [true] rfl ⟨rfl,trivial⟩⟩))
      ·refine Fg (Vf FM S rfl rfl fun a S=>Vl isAgg3 0 S rfl rfl rfl rfl fun a S=>Vq S Hj rfl rfl rfl fun a S=>Vm S rfl rfl fun a S=>Gr 4 (fun a w'=>Keep [] w15 w' ∧ Sx w [] nov [.blk b1 (Dg.enc Ao) 40] [(1,.pointer (some ⟨b1,0,none⟩)),(89,bV ((decide (Ao.Stroke = 5)) && (decide (1 < Ao.Legs))))] 95 a w') ?_ ?_)
       ·rcases Bool.eq_false_or_eq_true (decide (Ao.Stroke = 5)) with hb15 | hb15
        ·exact Da S rfl rfl rfl hb15 (Vf BW S rfl rfl fun a S=>Da S rfl rfl rfl hb15 (Vl isAgg3 0 S rfl rfl rfl rfl fun a S=>Da S rfl rfl rfl hb15 (Vq S It rfl rfl rfl fun a S=>lv S (Hk hb15 (S.tm rfl) (S.tm rfl)) rfl fun a S=>Dl (⟨Keep.refl _ _,S.nf [true] rfl (subR rfl)⟩))))
        ·iterate 3 (refine Fy S rfl rfl rfl (Jk hb15) rfl ?_ rfl;clear S;intro a S)
         exact lv S (Hl (decide (1 < Ao.Legs)) hb15 (S.tm rfl) rfl) rfl fun a S=>Dl (⟨Keep.refl _ _,S.nf [true] rfl (subR rfl)⟩)
       clear S;rintro a w17 ⟨hk16,S⟩
       refine Vm S rfl rfl fun a S=>Gr 4 (fun a w'=>Keep [] w17 w' ∧ Sx w [] nov [.blk b1 (Dg.enc Ao) 40] [(94,bV (((decide (Ao.Stroke = 5)) && (decide (1 < Ao.Legs))) && (!decide (Ao.Legs = 4))))] 95 a w') ?_ ?_
       ·rcases Bool.eq_false_or_eq_true ((decide (Ao.Stroke = 5)) && (decide (1 < Ao.Legs))) with hb16 | hb16
        ·exact Da S rfl rfl rfl hb16 (Vf BW S rfl rfl fun a S=>Da S rfl rfl rfl hb16 (Vl isAgg3 0 S rfl rfl rfl rfl fun a S=>Da S rfl rfl rfl hb16 (Vq S Kg rfl rfl rfl fun a S=>lv S (Hk hb16 (S.tm rfl) (S.tm rfl)) rfl fun a S=>Dl (⟨Keep.refl _ _,S.nf [true] rfl ⟨rfl,trivial⟩⟩))))
        ·iterate 3 (refine Fy S rfl rfl rfl (Jk hb16) rfl ?_ rfl;clear S;intro a S)
         exact lv S (Hl (!decide (Ao.Legs = 4)) hb16 (S.tm rfl) rfl) rfl fun a S=>Dl (⟨Keep.refl _ _,S.nf [true] rfl ⟨rfl,trivial⟩⟩)
       clear S;rintro a w18 ⟨hk17,S⟩
       exact Va S rfl rfl fun a S=>Dl (⟨(((decide (Ao.Stroke = 5)) && (decide (1 < Ao.Legs))) && (!decide (Ao.Legs = 4))),h,S.nf [true] rfl ⟨rfl,trivial⟩⟩)
     clear S h;rintro a w16 ⟨x1,h,S⟩;rw [hj2] at h;clear hj2 j2
     refine Tn (Fc h (S.tm rfl) (fun hb17 h=>?_) (fun hb17 h=>?_))
     ·refine Fr (Vk S rfl rfl fun a S=>Dl (wp_ret (Gc (Db ?_))))
      obtain rfl:=Option.some.inj h
      exact Ds S results44 rfl rfl
     ·refine wp_skip (Gy (Tn (Fr (Vk S rfl rfl fun a S=>Dl (wp_ret ?_)))))
      obtain rfl:=Option.some.inj h
      exact Ds S results44 rfl rfl
theorem Xd (w : World) (Ab : Dg) (Cb : Nat) (Bm : Dg) (Cc : (view w []) Cb = some (.cells [sV Bm.Key,iV Bm.Metres,iV Bm.Stroke,iV Bm.Course,iV Bm.Legs,iV Bm.Sex,iV Bm.Young,iV Bm.Old].toArray 40 (0,0))) (r : Bool) (h : Pm Ab Bm = r) :
    Calls prog 46 [.agg (Dg.enc Ab).toArray,.pointer (some ⟨Cb,0,none⟩)].toArray w (Ret w [] fun _ v _=>v = bV r):=by
 refine Fe func46 rfl ntmps46 rfl fun a S=>?_
 unfold Pm at h
 replace S:=S.k2 0 1 rfl
 refine Fr (Ks S (S.tm rfl) (cs:=(Dg.enc Ab)) rfl rfl ?_);clear S;intro a w1 b1 hz1 hk1 S
 refine Vk S rfl rfl fun a S=>Dz (Vf Xw S rfl rfl fun a S=>Vl isAgg9 0 S rfl rfl rfl rfl fun a S=>Vf Xw S rfl rfl fun a S=>lv S (Gj isAgg9 (off:=0) (o:=0) (S.tm rfl) ((Ue Cc).at S.emb0) rfl) rfl fun a S=>Vb S Xn rfl rfl rfl fun a S=>Va S rfl rfl ?_);clear S;intro a S
 refine Dl (wp_ret ?_)
 subst h
 exact Ds S results46 rfl rfl
theorem Ox (w : World) (Al : Value) (Ap : List Dg) (Bl : Slc (view w []) 8 Al (Ap.map Dg.enc)) (Az : Nat) (As : Dg) (Bn : (view w []) Az = some (.cells [sV As.Key,iV As.Metres,iV As.Stroke,iV As.Course,iV As.Legs,iV As.Sex,iV As.Young,iV As.Old].toArray 40 (0,0))) (r : Int) (h : Ii Ap As = r) :
    Calls prog 85 [Al,.func (.func 46) #[] #[.pointer (some ⟨Az,0,none⟩)]].toArray w (Ret w [] fun _ v _=>v = iV r):=by
 refine Fe func85 rfl ntmps85 rfl fun a S=>?_
 unfold Ii at h
 replace S:=S.k2 0 1 rfl
 refine Fr (Vk S rfl rfl fun a S=>Dl (Fs (Fr (Vm S rfl rfl fun a S=>lv S (Fi Sw (S.tm rfl) (Fm Bl)) rfl fun a S=>lv S (Rm rfl) rfl ?_))));clear S;intro a S
 refine Dl ?_
 replace S:=S.k4 0 1 7 8 rfl
 obtain ⟨j1,hj1,h⟩:=Eo h
 refine Dy (fun a w'=>j1 = r ∧ Sx w [] nov [] [] 19 a w') ?_ ?_
 ·refine wp_block (Gs (fun (ys1 : List Dg) a w'=>∃ i1 : Nat,(∃ dn,Ap = dn ++ ys1 ∧ dn.length = i1) ∧ Ei As j1 ys1 i1 = r ∧ Sx w [] nov [] [(0,Al),(1,.func (.func 46) #[] #[.pointer (some ⟨Az,0,none⟩)]),(7,iV (Ap.length : Int)),(8,iV (i1 : Int))] 19 a w') List.length Ap ⟨0,⟨[],rfl,rfl⟩,h,S.nf [] rfl (subR rfl)⟩ ?_)
  clear S h;rintro ys1 a w1 ⟨i1,⟨dn,hd1,hi1⟩,h,S⟩
  cases ys1 with
  | nil =>
   rw [Ei.eq_1] at h
   refine Fr (Vb S Ev rfl rfl rfl fun a S=>Ld ?_)
   replace S:=S.k5 0 1 7 8 9 rfl
   exact Tn (Fs (wp_cond_false ((S.tm rfl).trans (congrArg Value.bool (Ke hd1 hi1))) (wp_exit (Dt (Dt (Gh (Tn (⟨h,S.nf [] rfl trivial⟩))))))))
  | cons y1 ys1 =>
   rw [Ei.eq_2] at h
   refine Fr (Vb S Ev rfl rfl rfl fun a S=>Ld ?_)
   replace S:=S.k5 0 1 7 8 9 rfl
   refine Tn (Fs (wp_cond_true ((S.tm rfl).trans (congrArg Value.bool (Ja hd1 hi1))) (wp_skip (Tn (Fs (wp_block (Fr (Vm S rfl rfl fun a S=>Va S rfl rfl ?_))))))));clear S;intro a S
   refine Dl (Fs (Fg ?_))
   iterate 3 (refine Vm S rfl rfl ?_;clear S;intro a S)
   obtain ⟨b1,o1,hm1,hr1⟩:=Fu (a:=a) (x:=.tmp 12) (y:=.tmp 13) (ty:=0) Sw Bl (Jx hd1 hi1) rfl (S.tm rfl) (S.tm rfl)
   refine lv S (hr1 _) rfl ?_;clear S;intro a S
   clear hr1
   refine lv S (Fb isAgg40 sizeOf40 (off:=o1) (o:=0) (part:=(Dg.enc y1)) rfl rfl (S.tm rfl) (hm1.at S.emb0)) rfl fun a S=>Dd S (fun _=>Si (cap:=[.pointer (some ⟨Az,0,none⟩)]) (S.tm rfl) (vs:=[.agg (Dg.enc y1).toArray]) ⟨(S.tm rfl),trivial⟩ call46) (Xd _ y1 Az As ((S.le_arg Ey) _ _ Bn) _ rfl) rfl ?_;clear S;intro v1 a w3 hv1 hk1 hn1 S
   subst hv1
   refine Dl (Fc h (S.tm rfl) (fun hb1 h=>?_) (fun hb1 h=>?_))
   ·refine Fr (Vm S rfl rfl fun a S=>Va S rfl rfl fun a S=>Ld ?_)
    replace S:=S.k1 4 rfl
    refine Tn (wp_ret (Gc (Db (Db (Gc (Db (Db ?_)))))))
    subst h
    exact Ds S results85 rfl rfl
   ·exact wp_skip (Gy (Tn (Fg (Vq S Fa rfl rfl rfl fun a S=>Vm S rfl rfl fun a S=>Dl (⟨ys1,⟨i1 + 1,⟨_,(hd1).trans (List.append_cons _ _ _),by simp [hi1]⟩,h,S.nf [] rfl ⟨rfl,rfl,rfl,(congrArg (fun z=>some (Value.int .i64 z)) (Jb hd1 hi1 (Jy Bl))),trivial⟩⟩,Nat.lt_succ_self _⟩)))))
 clear S h;rintro a w2 ⟨h,S⟩;rw [hj1] at h;clear hj1 j1
 refine Tn (Fr (Vk S rfl rfl fun a S=>Dl (wp_ret ?_)))
 subst h
 exact Ds S results85 rfl rfl
theorem Oe (w : World) (Al : Value) (Ap : List Dg) (Bl : Slc (view w []) 8 Al (Ap.map Dg.enc)) (Az : Nat) (As : Dg) (Bn : (view w []) Az = some (.cells [sV As.Key,iV As.Metres,iV As.Stroke,iV As.Course,iV As.Legs,iV As.Sex,iV As.Young,iV As.Old].toArray 40 (0,0))) (r : Bool) (h : Gw Ap As = r) :
    Calls prog 45 [Al,.func (.func 46) #[] #[.pointer (some ⟨Az,0,none⟩)]].toArray w (Ret w [] fun _ v _=>v = bV r):=by
 refine Fe func45 rfl ntmps45 rfl fun a S=>?_
 unfold Gw at h
 replace S:=S.k2 0 1 rfl
 refine Fr (Vk S rfl rfl fun a S=>Dz (Vm S rfl rfl fun a S=>Vm S rfl rfl fun a S=>Dd S (fun _=>Cz (vs:=[Al,.func (.func 46) #[] #[.pointer (some ⟨Az,0,none⟩)]]) ⟨(S.tm rfl),(S.tm rfl),trivial⟩ call85) (Ox _ Al Ap (Bl.mono (S.le_arg Ey)) Az As ((S.le_arg Ey) _ _ Bn) _ rfl) rfl ?_));clear S;intro v1 a w1 hv1 hk1 hn1 S
 subst hv1
 refine Vq S Nj rfl rfl rfl fun a S=>Va S rfl rfl fun a S=>Dl (wp_ret ?_)
 subst h
 exact Ds S results45 rfl rfl
theorem Xe (w : World) (Br : Pi) (Ct : R28) (Cv : Yy (view w []) Br Ct) (r : Int) (h : Mc Br = some r) :
    Calls prog 47 [.agg (R28.enc Ct).toArray].toArray w (Ret w [] fun _ v _=>v = iV r):=by
 obtain ⟨u1,rfl,hs1⟩:=Cv
 refine Fe func47 rfl ntmps47 rfl fun a S=>?_
 unfold Mc at h
 replace S:=S.k1 0 rfl
 refine Fr (Ks S (S.tm rfl) (cs:=[u1.val,iV Br.Relay,iV Br.Most]) rfl rfl ?_);clear S;intro a w1 b1 hz1 hk1 S
 refine Vk S rfl rfl fun a S=>Dl (Fs (Fr (Vf Zv S rfl rfl fun a S=>Vl isAgg22 0 S rfl rfl rfl rfl fun a S=>lv S (Fi Jr (S.tm rfl) (Fm hs1)) rfl fun a S=>Vq S It rfl rfl rfl fun a S=>Ld ?_)))
 refine Tn (Fc h (S.tm rfl) (fun hb1 h=>?_) (fun hb1 h=>?_))
 ·refine Fr (Vk S rfl rfl fun a S=>Dl (wp_ret (Db ?_)))
  obtain rfl:=Option.some.inj h
  exact Ds S results47 rfl rfl
 ·refine wp_skip (Tn (Fs (Fr (Vf Zv S rfl rfl fun a S=>Vl isAgg22 0 S rfl rfl rfl rfl fun a S=>lv S (Fi Jr (S.tm rfl) (Fm hs1)) rfl fun a S=>lv S (Rm rfl) rfl fun a S=>Dl ?_))))
  replace S:=(S.nl [.blk b1 [u1.val,iV Br.Relay,iV Br.Most] 28] [true] rfl).k4 1 10 11 12 rfl
  obtain ⟨j1,hj1,h⟩:=Eo h
  refine Dy (fun a w'=>j1 = some r ∧ Sx w [] nov [.blk b1 [u1.val,iV Br.Relay,iV Br.Most] 28] [(1,.pointer (some ⟨b1,0,none⟩))] 43 a w') ?_ ?_
  ·refine wp_block (Gs (fun (ys1 : List Int) a w'=>∃ i1 : Nat,(∃ dn,Br.Points = dn ++ ys1 ∧ dn.length = i1) ∧ Hw Br j1 ys1 i1 = some r ∧ Sx w [] nov [.blk b1 [u1.val,iV Br.Relay,iV Br.Most] 28] [(1,.pointer (some ⟨b1,0,none⟩)),(10,u1.val),(11,iV (Br.Points.length : Int)),(12,iV (i1 : Int))] 43 a w') List.length Br.Points ⟨0,⟨[],rfl,rfl⟩,h,S.nf [true] rfl (subR rfl)⟩ ?_)
   clear S h;rintro ys1 a w2 ⟨i1,⟨dn,hd1,hi1⟩,h,S⟩
   cases ys1 with
   | nil =>
    rw [Hw.eq_1] at h
    refine Fr (Vb S Ev rfl rfl rfl fun a S=>Ld ?_)
    replace S:=S.k5 1 10 11 12 13 rfl
    exact Tn (Fs (wp_cond_false ((S.tm rfl).trans (congrArg Value.bool (Ke hd1 hi1))) (wp_exit (Dt (Dt (Gh (Tn (⟨h,S.nf [true] rfl ⟨rfl,trivial⟩⟩))))))))
   | cons y1 ys1 =>
    rw [Hw.eq_2] at h
    refine Fr (Vb S Ev rfl rfl rfl fun a S=>Ld ?_)
    replace S:=S.k5 1 10 11 12 13 rfl
    refine Tn (Fs (wp_cond_true ((S.tm rfl).trans (congrArg Value.bool (Ja hd1 hi1))) (wp_skip (Tn (Fs (wp_block (Fr (Vm S rfl rfl ?_))))))));clear S;intro a S
    obtain ⟨b2,o1,hm1,hr1⟩:=Fu (a:=a) (x:=.tmp 10) (y:=.tmp 12) (ty:=0) Jr hs1 (Jx hd1 hi1) rfl (S.tm rfl) (S.tm rfl)
    refine lv S (hr1 _) rfl ?_;clear S;intro a S
    clear hr1
    refine lv S (Gj isAgg3 (off:=o1) (o:=0) (S.tm rfl) (hm1.at S.emb0) rfl) rfl fun a S=>Va S rfl rfl fun a S=>Va S rfl rfl fun a S=>Dl (Fs (Fr (Vm S rfl rfl fun a S=>Dd S (fun _=>Cz (vs:=[iV y1,iV 0,iV 10000]) ⟨(S.tm rfl),rfl,rfl,trivial⟩ call49) (Ed _ y1 0 10000 _ rfl) rfl ?_)));clear S;intro v1 a w4 hv1 hk2 hn1 S
    subst hv1
    refine Vu S Gk rfl rfl fun a S=>Dl (Fc h (S.tm rfl) (fun hb2 h=>?_) (fun hb2 h=>?_))
    ·refine Fr (Vk S rfl rfl fun a S=>Dl (wp_ret (Db (Gc (Db (Db (Gc ?_)))))))
     refine Db (Db ?_)
     obtain rfl:=Option.some.inj h
     exact Ds S results47 rfl rfl
    ·refine wp_skip (Tn (Fr (Vm S rfl rfl fun a S=>Vq S It rfl rfl rfl fun a S=>Vm S rfl rfl ?_)));clear S;intro a S
     obtain ⟨j2,hj2,h⟩:=Eo h
     refine Gr 9 (fun a w'=>∃ c1,j2 c1 = some r ∧ Keep [] w4 w' ∧ Sx w [] nov [.blk b1 [u1.val,iV Br.Relay,iV Br.Most] 28] [(1,.pointer (some ⟨b1,0,none⟩)),(10,u1.val),(11,iV (Br.Points.length : Int)),(12,iV (i1 : Int)),(31,bV c1)] 43 a w') ?_ ?_
     ·rcases Bool.eq_false_or_eq_true (decide (0 < (i1 : Int))) with hb3 | hb3
      ·replace h:=Rb h hb3
       refine Da S rfl rfl rfl hb3 (Vm S rfl rfl fun a S=>Da S rfl rfl rfl hb3 (Vf Zv S rfl rfl fun a S=>Da S rfl rfl rfl hb3 (Vl isAgg22 0 S rfl rfl rfl rfl fun a S=>Da S rfl rfl rfl hb3 (Vm S rfl rfl fun a S=>Da S rfl rfl rfl hb3 (Vq S Gp rfl rfl rfl fun a S=>Da S rfl rfl rfl hb3 ?_)))))
       obtain ⟨hc1,h⟩:=Gu h
       obtain ⟨b3,o2,hm2,hr2⟩:=Fu (a:=a) (x:=.tmp 25) (y:=.tmp 27) (ty:=0) Jr hs1 (Dc hc1).1 (Dc hc1).2 (S.tm rfl) (S.tm rfl)
       refine lv S (hr2 _) rfl ?_;clear S;intro a S
       clear hr2
       exact Da S rfl rfl rfl hb3 (lv S (Gj isAgg3 (off:=o2) (o:=0) (S.tm rfl) (hm2.at S.emb0) rfl) rfl fun a S=>Da S rfl rfl rfl hb3 (Vb S It rfl rfl rfl fun a S=>lv S (Hk hb3 (S.tm rfl) (S.tm rfl)) rfl fun a S=>Dl (⟨_,h,Keep.refl _ _,S.nf [true] rfl (subR rfl)⟩)))
      ·replace h:=Rc h hb3
       iterate 8 (refine Fy S rfl rfl rfl (Jk hb3) rfl ?_ rfl;clear S;intro a S)
       exact Vq S (Hl true hb3) rfl rfl rfl fun a S=>Dl (⟨_,h,Keep.refl _ _,S.nf [true] rfl (subR rfl)⟩)
     clear S h;rintro a w5 ⟨c1,h,hk3,S⟩;rw [hj2] at h;clear hj2 j2
     refine Dl (Fc h (S.tm rfl) (fun hb4 h=>?_) (fun hb4 h=>?_))
     ·refine Fr (Vk S rfl rfl fun a S=>Dl (wp_ret (Gc (Db (Db (Gc (Db ?_)))))))
      refine Db ?_
      obtain rfl:=Option.some.inj h
      exact Ds S results47 rfl rfl
     ·exact wp_skip (Gy (Tn (Fg (Vq S Fa rfl rfl rfl fun a S=>Vm S rfl rfl fun a S=>Dl (⟨ys1,⟨i1 + 1,⟨_,(hd1).trans (List.append_cons _ _ _),by simp [hi1]⟩,h,S.nf [true] rfl ⟨rfl,rfl,rfl,(congrArg (fun z=>some (Value.int .i64 z)) (Jb hd1 hi1 (Jy hs1))),trivial⟩⟩,Nat.lt_succ_self _⟩)))))
  clear S h;rintro a w3 ⟨h,S⟩;rw [hj1] at h;clear hj1 j1
  refine Tn (Fs (Fr (Vf fa_28_1 S rfl rfl fun a S=>Vl isAgg3 0 S rfl rfl rfl rfl fun a S=>Dd S (fun _=>Cz (vs:=[iV Br.Relay,iV 1,iV 10]) ⟨(S.tm rfl),rfl,rfl,trivial⟩ call49) (Ed _ Br.Relay 1 10 _ rfl) rfl ?_)));clear S;intro v2 a w6 hv2 hk4 hn2 S
  subst hv2
  refine Vu S Gk rfl rfl fun a S=>Vm S rfl rfl fun a S=>Gr 5 (fun a w'=>Keep [] w6 w' ∧ Sx w [] nov [.blk b1 [u1.val,iV Br.Relay,iV Br.Most] 28] [(42,bV ((!(Cy Br.Relay 1 10)) || (!(Cy Br.Most 0 10))))] 43 a w') ?_ ?_
  ·rcases Bool.eq_false_or_eq_true (!(Cy Br.Relay 1 10)) with hb5 | hb5
   ·iterate 4 (refine Fy S rfl rfl rfl (Ki hb5) rfl ?_ rfl;clear S;intro a S)
    exact lv S (Iw (!(Cy Br.Most 0 10)) hb5 (S.tm rfl) rfl) rfl fun a S=>Dl (⟨Keep.refl _ _,S.nf [true] rfl ⟨rfl,trivial⟩⟩)
   ·refine Da S rfl rfl rfl hb5 (Vf fa_28_2 S rfl rfl fun a S=>Da S rfl rfl rfl hb5 (Vl isAgg3 0 S rfl rfl rfl rfl fun a S=>Da S rfl rfl rfl hb5 (Dd S (fun _=>Cz (vs:=[iV Br.Most,iV 0,iV 10]) ⟨(S.tm rfl),rfl,rfl,trivial⟩ call49) (Ed _ Br.Most 0 10 _ rfl) rfl ?_)));clear S;intro v3 a w8 hv3 hk5 hn3 S
    subst hv3
    exact Da S rfl rfl rfl hb5 (Vu S Gk rfl rfl fun a S=>lv S (Ix hb5 (S.tm rfl) (S.tm rfl)) rfl fun a S=>Dl (⟨hk5,S.nf [true] rfl ⟨rfl,trivial⟩⟩))
  clear S;rintro a w7 ⟨hk6,S⟩
  refine Dl (Fc h (S.tm rfl) (fun hb6 h=>?_) (fun hb6 h=>?_))
  ·refine Fr (Vk S rfl rfl fun a S=>Dl (wp_ret (Db ?_)))
   obtain rfl:=Option.some.inj h
   exact Ds S results47 rfl rfl
  ·refine wp_skip (Tn (Fr (Vk S rfl rfl fun a S=>Dl (wp_ret ?_))))
   obtain rfl:=Option.some.inj h
   exact Ds S results47 rfl rfl
theorem Zc (w : World) (Bw : Pj) (r : Int) (h : Nl Bw = r) :
    Calls prog 48 [.agg (Pj.enc Bw).toArray].toArray w (Ret w [] fun _ v _=>v = iV r):=by
 refine Fe func48 rfl ntmps48 rfl fun a S=>?_
 unfold Nl at h
 replace S:=S.k1 0 rfl
 refine Fr (Ks S (S.tm rfl) (cs:=(Pj.enc Bw)) rfl rfl ?_);clear S;intro a w1 b1 hz1 hk1 S
 refine Vk S rfl rfl fun a S=>Dl (Fs (Fr (Vf fa_30_0 S rfl rfl fun a S=>Vl isAgg3 0 S rfl rfl rfl rfl fun a S=>Dd S (fun _=>Cz (vs:=[iV Bw.Size,iV 1,iV 10]) ⟨(S.tm rfl),rfl,rfl,trivial⟩ call49) (Ed _ Bw.Size 1 10 _ rfl) rfl ?_)));clear S;intro v1 a w2 hv1 hk2 hn1 S
 subst hv1
 refine Vu S Gk rfl rfl fun a S=>Vm S rfl rfl fun a S=>Gr 5 (fun a w'=>Keep [] w2 w' ∧ Sx w [] nov [.blk b1 (Pj.enc Bw) 30] [(1,.pointer (some ⟨b1,0,none⟩)),(12,bV ((!(Cy Bw.Size 1 10)) || (!(Cy Bw.Many 1 5))))] 19 a w') ?_ ?_
 ·rcases Bool.eq_false_or_eq_true (!(Cy Bw.Size 1 10)) with hb1 | hb1
  ·iterate 4 (refine Fy S rfl rfl rfl (Ki hb1) rfl ?_ rfl;clear S;intro a S)
   exact lv S (Iw (!(Cy Bw.Many 1 5)) hb1 (S.tm rfl) rfl) rfl fun a S=>Dl (⟨Keep.refl _ _,S.nf [true] rfl (subR rfl)⟩)
  ·refine Da S rfl rfl rfl hb1 (Vf fa_30_1 S rfl rfl fun a S=>Da S rfl rfl rfl hb1 (Vl isAgg3 0 S rfl rfl rfl rfl fun a S=>Da S rfl rfl rfl hb1 (Dd S (fun _=>Cz (vs:=[iV Bw.Many,iV 1,iV 5]) ⟨(S.tm rfl),rfl,rfl,trivial⟩ call49) (Ed _ Bw.Many 1 5 _ rfl) rfl ?_)));clear S;intro v2 a w4 hv2 hk3 hn2 S
   subst hv2
   exact Da S rfl rfl rfl hb1 (Vu S Gk rfl rfl fun a S=>lv S (Ix hb1 (S.tm rfl) (S.tm rfl)) rfl fun a S=>Dl (⟨hk3,S.nf [true] rfl (subR rfl)⟩))
 clear S;rintro a w3 ⟨hk4,S⟩
 refine Vm S rfl rfl fun a S=>Gr 5 (fun a w'=>Keep [] w3 w' ∧ Sx w [] nov [.blk b1 (Pj.enc Bw) 30] [(18,bV (((!(Cy Bw.Size 1 10)) || (!(Cy Bw.Many 1 5))) || (!(Cy Bw.Reserves 0 10))))] 19 a w') ?_ ?_
 ·rcases Bool.eq_false_or_eq_true ((!(Cy Bw.Size 1 10)) || (!(Cy Bw.Many 1 5))) with hb2 | hb2
  ·iterate 4 (refine Fy S rfl rfl rfl (Ki hb2) rfl ?_ rfl;clear S;intro a S)
   exact lv S (Iw (!(Cy Bw.Reserves 0 10)) hb2 (S.tm rfl) rfl) rfl fun a S=>Dl (⟨Keep.refl _ _,S.nf [true] rfl ⟨rfl,trivial⟩⟩)
  ·refine Da S rfl rfl rfl hb2 (Vf fa_30_2 S rfl rfl fun a S=>Da S rfl rfl rfl hb2 (Vl isAgg3 0 S rfl rfl rfl rfl fun a S=>Da S rfl rfl rfl hb2 (Dd S (fun _=>Cz (vs:=[iV Bw.Reserves,iV 0,iV 10]) ⟨(S.tm rfl),rfl,rfl,trivial⟩ call49) (Ed _ Bw.Reserves 0 10 _ rfl) rfl ?_)));clear S;intro v3 a w6 hv3 hk5 hn3 S
   subst hv3
   exact Da S rfl rfl rfl hb2 (Vu S Gk rfl rfl fun a S=>lv S (Ix hb2 (S.tm rfl) (S.tm rfl)) rfl fun a S=>Dl (⟨hk5,S.nf [true] rfl ⟨rfl,trivial⟩⟩))
 clear S;rintro a w5 ⟨hk6,S⟩
 refine Dl (Fc h (S.tm rfl) (fun hb3 h=>?_) (fun hb3 h=>?_))
 ·refine Fr (Vk S rfl rfl fun a S=>Dl (wp_ret (Db ?_)))
  subst h
  exact Ds S results48 rfl rfl
 ·refine wp_skip (Tn (Fr (Vk S rfl rfl fun a S=>Dl (wp_ret ?_))))
  subst h
  exact Ds S results48 rfl rfl
theorem Ul (w : World) (Aa : Ln) (Bu : R32) (Bz : Ru (view w []) Aa Bu) (r : Int) (h : Om Aa = some r) :
    Calls prog 19 [.agg (R32.enc Bu).toArray].toArray w (Ret w [] fun _ v _=>v = iV r):=by
 obtain ⟨u1,u2,rfl,hs1,⟨u3,rfl,hs2⟩⟩:=Bz
 refine Fe func19 rfl ntmps19 rfl fun a S=>?_
 unfold Om at h
 replace S:=S.k1 0 rfl
 refine Fr (Ks S (S.tm rfl) (cs:=[u1.val,u3.val,iV Aa.Table.Relay,iV Aa.Table.Most,iV Aa.Final.Size,iV Aa.Final.Many,iV Aa.Final.Reserves]) rfl rfl ?_);clear S;intro a w1 b1 hz1 hk1 S
 refine Vk S rfl rfl fun a S=>Dl (Fs (Fr (Vf Vz S rfl rfl fun a S=>Vl isAgg26 0 S rfl rfl rfl rfl fun a S=>lv S (Fi Sw (S.tm rfl) (Fm hs1)) rfl fun a S=>Vq S It rfl rfl rfl fun a S=>Ld ?_)))
 refine Tn (Fc h (S.tm rfl) (fun hb1 h=>?_) (fun hb1 h=>?_))
 ·refine Fr (Vk S rfl rfl fun a S=>Dl (wp_ret (Db ?_)))
  obtain rfl:=Option.some.inj h
  exact Ds S results19 rfl rfl
 ·refine wp_skip (Tn (Fs (Fr (Vf Vz S rfl rfl fun a S=>Vl isAgg26 0 S rfl rfl rfl rfl fun a S=>lv S (Fi Sw (S.tm rfl) (Fm hs1)) rfl fun a S=>lv S (Rm rfl) rfl fun a S=>Dl ?_))))
  replace S:=(S.nl [.blk b1 [u1.val,u3.val,iV Aa.Table.Relay,iV Aa.Table.Most,iV Aa.Final.Size,iV Aa.Final.Many,iV Aa.Final.Reserves] 32] [true] rfl).k4 1 12 13 14 rfl
  obtain ⟨j1,hj1,h⟩:=Eo h
  refine Dy (fun a w'=>j1 = some r ∧ Sx w [] nov [.blk b1 [u1.val,u3.val,iV Aa.Table.Relay,iV Aa.Table.Most,iV Aa.Final.Size,iV Aa.Final.Many,iV Aa.Final.Reserves] 32] [(1,.pointer (some ⟨b1,0,none⟩))] 40 a w') ?_ ?_
  ·refine wp_block (Gs (fun (ys1 : List Dg) a w'=>∃ i1 : Nat,(∃ dn,Aa.Races = dn ++ ys1 ∧ dn.length = i1) ∧ Jg Aa j1 ys1 i1 = some r ∧ Sx w [] nov [.blk b1 [u1.val,u3.val,iV Aa.Table.Relay,iV Aa.Table.Most,iV Aa.Final.Size,iV Aa.Final.Many,iV Aa.Final.Reserves] 32] [(1,.pointer (some ⟨b1,0,none⟩)),(12,u1.val),(13,iV (Aa.Races.length : Int)),(14,iV (i1 : Int))] 40 a w') List.length Aa.Races ⟨0,⟨[],rfl,rfl⟩,h,S.nf [true] rfl (subR rfl)⟩ ?_)
   clear S h;rintro ys1 a w2 ⟨i1,⟨dn,hd1,hi1⟩,h,S⟩
   cases ys1 with
   | nil =>
    rw [Jg.eq_1] at h
    refine Fr (Vb S Ev rfl rfl rfl fun a S=>Ld ?_)
    replace S:=S.k5 1 12 13 14 15 rfl
    exact Tn (Fs (wp_cond_false ((S.tm rfl).trans (congrArg Value.bool (Ke hd1 hi1))) (wp_exit (Dt (Dt (Gh (Tn (⟨h,S.nf [true] rfl ⟨rfl,trivial⟩⟩))))))))
   | cons y1 ys1 =>
    rw [Jg.eq_2] at h
    refine Fr (Vb S Ev rfl rfl rfl fun a S=>Ld ?_)
    replace S:=S.k5 1 12 13 14 15 rfl
    refine Tn (Fs (wp_cond_true ((S.tm rfl).trans (congrArg Value.bool (Ja hd1 hi1))) (wp_skip (Tn (Fs (wp_block (Fr (Vm S rfl rfl ?_))))))));clear S;intro a S
    obtain ⟨b2,o1,hm1,hr1⟩:=Fu (a:=a) (x:=.tmp 12) (y:=.tmp 14) (ty:=0) Sw hs1 (Jx hd1 hi1) rfl (S.tm rfl) (S.tm rfl)
    refine lv S (hr1 _) rfl ?_;clear S;intro a S
    clear hr1
    refine lv S (Fb isAgg40 sizeOf40 (off:=o1) (o:=0) (part:=(Dg.enc y1)) rfl rfl (S.tm rfl) (hm1.at S.emb0)) rfl fun a S=>Ic S zeroValue40 (cs:=[sV Cx,iV 0,iV 0,iV 0,iV 0,iV 0,iV 0,iV 0]) rfl rfl ?_;clear S;intro a w4 b3 hz2 hk2 S
    refine Va S rfl rfl fun a S=>Ep S (S.tm rfl) (S.tm rfl) (i:=0) (off:=0) rfl sizeOf40 (vs:=(Dg.enc y1)) rfl rfl rfl rfl ?_;clear S;intro w5 hk3 S
    refine Dl (Fs (Fr (lv S (Fb isAgg40 sizeOf40 (off:=0) (o:=0) (part:=(Dg.enc y1)) rfl rfl (S.tm rfl) (S.cellsAt (i:=0) rfl)) rfl ?_)));clear S;intro a S
    obtain ⟨r1,hr2,h⟩:=Ej h
    refine Dd S (fun _=>Cz (vs:=[.agg (Dg.enc y1).toArray]) ⟨(S.tm rfl),trivial⟩ call44) (Yi _ y1 _ hr2) rfl ?_;clear S;intro v1 a w6 hv1 hk4 hn1 S
    subst hv1
    refine Va S rfl rfl fun a S=>Dz (Vm S rfl rfl fun a S=>Vq S Kg rfl rfl rfl fun a S=>Ld ?_)
    replace S:=(S.nl [.blk b3 (Dg.enc y1) 40,.blk b1 [u1.val,u3.val,iV Aa.Table.Relay,iV Aa.Table.Most,iV Aa.Final.Size,iV Aa.Final.Many,iV Aa.Final.Reserves] 32] [true,true] rfl).k8 1 3 4 5 12 13 14 22 rfl
    refine Tn (Fc h (S.tm rfl) (fun hb2 h=>?_) (fun hb2 h=>?_))
    ·refine Fr (Vm S rfl rfl fun a S=>Va S rfl rfl fun a S=>Dl (wp_ret (Db (Gc (Db (Db ?_))))))
     refine Gc (Db (Db ?_))
     obtain rfl:=Option.some.inj h
     exact Ds S results19 rfl rfl
    ·refine wp_skip (Tn (Fr (Vf Vz S rfl rfl fun a S=>Vl isAgg26 1 S rfl rfl rfl rfl fun a S=>Vm S rfl rfl ?_)));clear S;intro a S
     obtain ⟨hc1,h⟩:=Gu h
     obtain ⟨v2,hs3,hr3⟩:=Zo (a:=a) (x:=.tmp 25) (y':=.tmp 26) (ty:=26) Sw hs1 (S.tm rfl) (S.tm rfl) hc1
     refine lv S (hr3 _) rfl ?_;clear S;intro a S
     clear hr3
     refine lv S (Uc (us:=#[]) (xs:=[].toArray) (ys:=[.tmp 4].toArray) (by simp) (evA ⟨(S.tm rfl),trivial⟩ (vs:=[.pointer (some ⟨b3,0,none⟩)]))) rfl fun a S=>Dd S (fun _=>Cz (vs:=[v2,.func (.func 46) #[] #[.pointer (some ⟨b3,0,none⟩)]]) ⟨(S.tm rfl),(S.tm rfl),trivial⟩ call45) (Oe _ v2 (cut Aa.Races 0 (i1 : Int)) (hs3.mono (S.le_arg Ey)) b3 y1 (S.blk_view (i:=0) rfl ((Gt (e':=.blk b3 (Dg.enc y1) 40)) _ rfl)) _ rfl) rfl ?_;clear S;intro v3 a w7 hv2 hk5 hn2 S
     subst hv2
     refine Dl (Fc h (S.tm rfl) (fun hb3 h=>?_) (fun hb3 h=>?_))
     ·refine Fr (Vk S rfl rfl fun a S=>Ld ?_)
      replace S:=S.n0.k1 2 rfl
      refine Tn (wp_ret (Gc (Db (Db (Gc (Db (Db ?_)))))))
      obtain rfl:=Option.some.inj h
      exact Ds S results19 rfl rfl
     ·refine wp_skip (Gy (Tn (Fg (Vq S Fa rfl rfl rfl fun a S=>Vm S rfl rfl fun a S=>Ld ?_))))
      replace S:=S.d0.k4 1 12 13 14 rfl
      exact Tn (⟨ys1,⟨i1 + 1,⟨_,(hd1).trans (List.append_cons _ _ _),by simp [hi1]⟩,h,S.nf [true] rfl ⟨rfl,rfl,rfl,(congrArg (fun z=>some (Value.int .i64 z)) (Jb hd1 hi1 (Jy hs1))),trivial⟩⟩,Nat.lt_succ_self _⟩)
  clear S h;rintro a w3 ⟨h,S⟩;rw [hj1] at h;clear hj1 j1
  refine Tn (Fs (Fr (Vf fa_32_1 S rfl rfl fun a S=>lv S (Fb isAgg28 sizeOf28 (off:=0) (o:=1) (part:=[u3.val,iV Aa.Table.Relay,iV Aa.Table.Most]) rfl rfl (S.tm rfl) (S.cellsAt (i:=0) rfl)) rfl ?_)));clear S;intro a S
  obtain ⟨r2,hr4,h⟩:=Ej h
  refine Dd S (fun _=>Cz (vs:=[.agg (R28.enc (R28.mk u3 Aa.Table.Relay Aa.Table.Most)).toArray]) ⟨(S.tm rfl),trivial⟩ call47) (Xe _ Aa.Table (R28.mk u3 Aa.Table.Relay Aa.Table.Most) ⟨u3,rfl,(hs2.mono (S.le_arg Ey))⟩ _ hr4) rfl ?_;clear S;intro v4 a w8 hv3 hk6 hn3 S
  subst hv3
  refine Va S rfl rfl fun a S=>Dz (Vm S rfl rfl fun a S=>Vq S Kg rfl rfl rfl fun a S=>Dl (Fc h (S.tm rfl) (fun hb4 h=>?_) (fun hb4 h=>?_)))
  ·refine Fr (Vm S rfl rfl fun a S=>Va S rfl rfl fun a S=>Dl (wp_ret (Db ?_)))
   obtain rfl:=Option.some.inj h
   exact Ds S results19 rfl rfl
  ·refine wp_skip (Tn (Fr (Vf fa_32_2 S rfl rfl fun a S=>lv S (Fb isAgg30 sizeOf30 (off:=0) (o:=4) (part:=(Pj.enc Aa.Final)) rfl rfl (S.tm rfl) (S.cellsAt (i:=0) rfl)) rfl fun a S=>Dd S (fun _=>Cz (vs:=[.agg (Pj.enc Aa.Final).toArray]) ⟨(S.tm rfl),trivial⟩ call48) (Zc _ Aa.Final _ rfl) rfl ?_)));clear S;intro v5 a w9 hv4 hk7 hn4 S
   subst hv4
   refine Va S rfl rfl fun a S=>Dl (wp_ret ?_)
   obtain rfl:=Option.some.inj h
   exact Ds S results19 rfl rfl
theorem Ry (w : World) (Aa : El) (r : Int) (h : Kn Aa = r) :
    Calls prog 20 [.agg (El.enc Aa).toArray].toArray w (Ret w [] fun _ v _=>v = iV r):=by
 refine Fe func20 rfl ntmps20 rfl fun a S=>?_
 unfold Kn at h
 replace S:=S.k1 0 rfl
 refine Fr (Ks S (S.tm rfl) (cs:=(El.enc Aa)) rfl rfl ?_);clear S;intro a w1 b1 hz1 hk1 S
 refine Vk S rfl rfl fun a S=>Dl (Fs (Fr (Vf Ui S rfl rfl fun a S=>Vl isAgg3 0 S rfl rfl rfl rfl fun a S=>Vq S It rfl rfl rfl fun a S=>Vm S rfl rfl fun a S=>Gr 7 (fun a w'=>Keep [] w1 w' ∧ Sx w [] nov [.blk b1 (El.enc Aa) 38] [(1,.pointer (some ⟨b1,0,none⟩)),(13,bV ((decide (10 < Aa.High)) || (!(Cy Aa.Low 1 Aa.High))))] 32 a w') ?_ ?_)))
 ·rcases Bool.eq_false_or_eq_true (decide (10 < Aa.High)) with hb1 | hb1
  ·iterate 6 (refine Fy S rfl rfl rfl (Ki hb1) rfl ?_ rfl;clear S;intro a S)
   exact lv S (Iw (!(Cy Aa.Low 1 Aa.High)) hb1 (S.tm rfl) rfl) rfl fun a S=>Dl (⟨Keep.refl _ _,S.nf [true] rfl (subR rfl)⟩)
  ·refine Da S rfl rfl rfl hb1 (Vf Wa S rfl rfl fun a S=>Da S rfl rfl rfl hb1 (Vl isAgg3 0 S rfl rfl rfl rfl fun a S=>Da S rfl rfl rfl hb1 (Vf Ui S rfl rfl fun a S=>Da S rfl rfl rfl hb1 (Vl isAgg3 0 S rfl rfl rfl rfl fun a S=>Da S rfl rfl rfl hb1 (Dd S (fun _=>Cz (vs:=[iV Aa.Low,iV 1,iV Aa.High]) ⟨(S.tm rfl),rfl,(S.tm rfl),trivial⟩ call49) (Ed _ Aa.Low 1 Aa.High _ rfl) rfl ?_)))));clear S;intro v1 a w3 hv1 hk2 hn1 S
   subst hv1
   exact Da S rfl rfl rfl hb1 (Vu S Gk rfl rfl fun a S=>lv S (Ix hb1 (S.tm rfl) (S.tm rfl)) rfl fun a S=>Dl (⟨hk2,S.nf [true] rfl (subR rfl)⟩))
 clear S;rintro a w2 ⟨hk3,S⟩
 refine Vm S rfl rfl fun a S=>Gr 11 (fun a w'=>Keep [] w2 w' ∧ Sx w [] nov [.blk b1 (El.enc Aa) 38] [(1,.pointer (some ⟨b1,0,none⟩)),(25,bV (((decide (10 < Aa.High)) || (!(Cy Aa.Low 1 Aa.High))) || (!(Cy Aa.Least 1 (W ((W (Aa.High - Aa.Low)) + 1))))))] 32 a w') ?_ ?_
 ·rcases Bool.eq_false_or_eq_true ((decide (10 < Aa.High)) || (!(Cy Aa.Low 1 Aa.High))) with hb2 | hb2
  ·iterate 10 (refine Fy S rfl rfl rfl (Ki hb2) rfl ?_ rfl;clear S;intro a S)
   exact lv S (Iw (!(Cy Aa.Least 1 (W ((W (Aa.High - Aa.Low)) + 1)))) hb2 (S.tm rfl) rfl) rfl fun a S=>Dl (⟨Keep.refl _ _,S.nf [true] rfl (subR rfl)⟩)
  ·refine Da S rfl rfl rfl hb2 (Vf BU S rfl rfl fun a S=>Da S rfl rfl rfl hb2 (Vl isAgg3 0 S rfl rfl rfl rfl fun a S=>Da S rfl rfl rfl hb2 (Vf Ui S rfl rfl fun a S=>Da S rfl rfl rfl hb2 (Vl isAgg3 0 S rfl rfl rfl rfl fun a S=>Da S rfl rfl rfl hb2 (Vf Wa S rfl rfl fun a S=>Da S rfl rfl rfl hb2 ?_)))))
   refine Vl isAgg3 0 S rfl rfl rfl rfl fun a S=>Da S rfl rfl rfl hb2 (Vb S Gp rfl rfl rfl fun a S=>Da S rfl rfl rfl hb2 (Vq S Fa rfl rfl rfl fun a S=>Da S rfl rfl rfl hb2 (Dd S (fun _=>Cz (vs:=[iV Aa.Least,iV 1,iV (W ((W (Aa.High - Aa.Low)) + 1))]) ⟨(S.tm rfl),rfl,(S.tm rfl),trivial⟩ call49) (Ed _ Aa.Least 1 (W ((W (Aa.High - Aa.Low)) + 1)) _ rfl) rfl ?_)));clear S;intro v2 a w5 hv2 hk4 hn2 S
   subst hv2
   exact Da S rfl rfl rfl hb2 (Vu S Gk rfl rfl fun a S=>lv S (Ix hb2 (S.tm rfl) (S.tm rfl)) rfl fun a S=>Dl (⟨hk4,S.nf [true] rfl (subR rfl)⟩))
 clear S;rintro a w4 ⟨hk5,S⟩
 refine Vm S rfl rfl fun a S=>Gr 5 (fun a w'=>Keep [] w4 w' ∧ Sx w [] nov [.blk b1 (El.enc Aa) 38] [(31,bV ((((decide (10 < Aa.High)) || (!(Cy Aa.Low 1 Aa.High))) || (!(Cy Aa.Least 1 (W ((W (Aa.High - Aa.Low)) + 1))))) || (!(Cy Aa.Circles 1 10))))] 32 a w') ?_ ?_
 ·rcases Bool.eq_false_or_eq_true (((decide (10 < Aa.High)) || (!(Cy Aa.Low 1 Aa.High))) || (!(Cy Aa.Least 1 (W ((W (Aa.High - Aa.Low)) + 1))))) with hb3 | hb3
  ·iterate 4 (refine Fy S rfl rfl rfl (Ki hb3) rfl ?_ rfl;clear S;intro a S)
   exact lv S (Iw (!(Cy Aa.Circles 1 10)) hb3 (S.tm rfl) rfl) rfl fun a S=>Dl (⟨Keep.refl _ _,S.nf [true] rfl ⟨rfl,trivial⟩⟩)
  ·refine Da S rfl rfl rfl hb3 (Vf IX S rfl rfl fun a S=>Da S rfl rfl rfl hb3 (Vl isAgg3 0 S rfl rfl rfl rfl fun a S=>Da S rfl rfl rfl hb3 (Dd S (fun _=>Cz (vs:=[iV Aa.Circles,iV 1,iV 10]) ⟨(S.tm rfl),rfl,rfl,trivial⟩ call49) (Ed _ Aa.Circles 1 10 _ rfl) rfl ?_)));clear S;intro v3 a w7 hv3 hk6 hn3 S
   subst hv3
   exact Da S rfl rfl rfl hb3 (Vu S Gk rfl rfl fun a S=>lv S (Ix hb3 (S.tm rfl) (S.tm rfl)) rfl fun a S=>Dl (⟨hk6,S.nf [true] rfl ⟨rfl,trivial⟩⟩))
 clear S;rintro a w6 ⟨hk7,S⟩
 refine Dl (Fc h (S.tm rfl) (fun hb4 h=>?_) (fun hb4 h=>?_))
 ·refine Fr (Vk S rfl rfl fun a S=>Dl (wp_ret (Db ?_)))
  subst h
  exact Ds S results20 rfl rfl
 ·refine wp_skip (Tn (Fr (Vk S rfl rfl fun a S=>Dl (wp_ret ?_))))
  subst h
  exact Ds S results20 rfl rfl
theorem Rz (w : World) (Av : Int) (r : Bool) (h : Hg Av = r) :
    Calls prog 56 [iV Av].toArray w (Ret w [] fun _ v _=>v = bV r):=by
 refine Fe func56 rfl ntmps56 rfl fun a S=>?_
 unfold Hg at h
 replace S:=S.k1 0 rfl
 refine Fr (Vk S rfl rfl fun a S=>Dz (Vm S rfl rfl fun a S=>Vq S Nj rfl rfl rfl fun a S=>Vm S rfl rfl fun a S=>Gr 3 (fun a w'=>Keep [] w w' ∧ Sx w [] nov [] [(8,bV ((decide (0 ≤ Av)) && (decide (Av < 345686400000))))] 9 a w') ?_ ?_))
 ·rcases Bool.eq_false_or_eq_true (decide (0 ≤ Av)) with hb1 | hb1
  ·exact Da S rfl rfl rfl hb1 (Vm S rfl rfl fun a S=>Da S rfl rfl rfl hb1 (Vq S Ev rfl rfl rfl fun a S=>lv S (Hk hb1 (S.tm rfl) (S.tm rfl)) rfl fun a S=>Dl (⟨Keep.refl _ _,S.nf [] rfl ⟨rfl,trivial⟩⟩)))
  ·exact Fy S rfl rfl rfl (Jk hb1) rfl (fun a S=>Fy S rfl rfl rfl (Jk hb1) rfl (fun a S=>lv S (Hl (decide (Av < 345686400000)) hb1 (S.tm rfl) rfl) rfl fun a S=>Dl (⟨Keep.refl _ _,S.nf [] rfl ⟨rfl,trivial⟩⟩)) rfl) rfl
 clear S;rintro a w1 ⟨hk1,S⟩
 refine Va S rfl rfl fun a S=>Dl (wp_ret ?_)
 subst h
 exact Ds S results56 rfl rfl
end Go.Proofs.YtdndpbbimcilpaaGreatDoor
