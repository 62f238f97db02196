/- Each Go function computes its plain twin,by program. -/
import Derived.Test.YtfcmmengcdebnaaGreatDoorTab
import Derived.Test.YtfcmmengcdebnaaGreatDoorLay
import Derived.Test.YtfcmmengcdebnaaGreatDoorSeq
namespace Go.Proofs.YtfcmmengcdebnaaGreatDoor
open Go
open Go.Proofs.Tryz
theorem Vy (w : World) (Ac : Int) (Ba : Int) (r : Int) (h : Qi Ac Ba = some r) :
    Calls prog 41 [iV Ac,iV Ba].toArray w (Ret w [] fun _ v _=>v = iV r):=by
 refine Fe func41 rfl ntmps41 rfl fun a S=>?_
 unfold Qi at h
 replace S:=S.k2 0 1 rfl
 refine Fr (Vk S rfl rfl fun a S=>Dl (Fs (Fr (Vm S rfl rfl fun a S=>Vq S Et rfl rfl rfl fun a S=>Ld ?_))))
 refine Tn (Fc h (S.tm rfl) (fun hb1 h=>?_) (fun hb1 h=>?_))
 ·refine Fr (Vk S rfl rfl fun a S=>Dl (wp_ret (Dt ?_)))
  obtain rfl:=Option.some.inj h
  exact Ej S results41 rfl rfl
 ·refine wp_skip (Tn (Fr (Vm S rfl rfl fun a S=>Vm S rfl rfl ?_)));clear S;intro a S
  obtain ⟨hc1,h⟩:=Ie h
  refine lv S (AX (S.tm rfl) (S.tm rfl) (Ud hc1)) rfl fun a S=>Va S rfl rfl fun a S=>Dl (Fs (Fr (Vm S rfl rfl fun a S=>Vq S Et rfl rfl rfl fun a S=>Dl ?_)))
  obtain ⟨j1,hj1,h⟩:=Ep h
  refine Eg (fun a w'=>∃ x1 : Int,j1 x1 = some r ∧ Sx w [] nov [] [(0,iV x1)] 16 a w') ?_ ?_
  ·refine Fc h (S.tm rfl) (fun hb2 h=>?_) (fun hb2 h=>?_)
   ·exact Fg (Vm S rfl rfl fun a S=>Vm S rfl rfl fun a S=>Vb S Gc rfl rfl rfl fun a S=>Va S rfl rfl fun a S=>Dl (⟨W ((Int.tmod Ac Ba) + Ba),h,S.nf [] rfl ⟨rfl,trivial⟩⟩))
   ·exact wp_skip (Tn (⟨Int.tmod Ac Ba,h,S.nf [] rfl ⟨rfl,trivial⟩⟩))
  clear S h;rintro a w1 ⟨x1,h,S⟩;rw [hj1] at h;clear hj1 j1
  refine Tn (Fr (Vm S rfl rfl fun a S=>Va S rfl rfl fun a S=>Dl (wp_ret ?_)))
  obtain rfl:=Option.some.inj h
  exact Ej S results41 rfl rfl
set_option maxRecDepth 20000 in
theorem Tq (w : World) (O : Nat) (U : Value) (Aq : List Int) (Am : Slc (view w [O]) 1 U (Aq.map eInt)) (Aj : Int) (Ao : (LEnt.blk O [U,iV Aj] 25).holds w) (Ba : Int) (r : Int × Int) (h : Pv Aq Aj Ba = some r) :
    Calls prog 19 [.pointer (some ⟨O,0,none⟩),iV Ba].toArray w (Ret w [O] fun _ v w'=>(LEnt.blk O [U,iV r.2] 25).holds w' ∧ v = iV r.1):=by
 refine Mv [O] [.blk O [U,iV Aj] 25] func19 rfl ntmps19 rfl (fun e he=>by simp only [List.mem_singleton] at he;subst he;exact Ao) (by simp [fps,LEnt.fp]) (by simp [fps,LEnt.fp]) fun a S=>?_
 unfold Pv at h
 replace S:=(S.nl [.blk O [U,iV Aj] 25] [true] rfl).k2 0 1 rfl
 refine Fr (Vk S rfl rfl fun a S=>Dz (Vm S rfl rfl fun a S=>Vu S Lb rfl rfl fun a S=>Vf EO S rfl rfl fun a S=>Vl isAgg3 0 S rfl rfl rfl rfl ?_));clear S;intro a S
 refine Vq S Gc rfl rfl rfl fun a S=>Vu S Lb rfl rfl fun a S=>Vf EO S rfl rfl fun a S=>Ex S (S.tm rfl) (S.tm rfl) (i:=0) (off:=1) rfl sizeOf3 (vs:=[iV (W (Aj + 1))]) rfl rfl rfl rfl ?_;clear S;intro w1 hk1 S
 refine Dl (Fs (Fr (Vm S rfl rfl fun a S=>Vu S Lb rfl rfl fun a S=>Vf HP S rfl rfl fun a S=>Vl isAgg22 0 S rfl rfl rfl rfl fun a S=>lv S (Fq Pf (S.tm rfl) (Fj Am)) rfl fun a S=>Vq S Im rfl rfl rfl ?_)));clear S;intro a S
 refine Ld ?_
 replace S:=(S.nl [.blk O [U,iV (W (Aj + 1))] 25] [true] rfl).k3 0 1 19 rfl
 refine Tn (Fc h (S.tm rfl) (fun hb1 h=>?_) (fun hb1 h=>?_))
 ·refine Fr (Vm S rfl rfl fun a S=>Vu S Lb rfl rfl fun a S=>Vf EO S rfl rfl fun a S=>Vl isAgg3 0 S rfl rfl rfl rfl fun a S=>Vq S Yv rfl rfl rfl fun a S=>Vm S rfl rfl ?_);clear S;intro a S
  obtain ⟨r1,hr1,h⟩:=Fa h
  refine Dw S (fun _=>Dp (vs:=[iV (W ((W (Aj + 1)) * 7919)),iV Ba]) ⟨(S.tm rfl),(S.tm rfl),trivial⟩ call41) (Vy _ (W ((W (Aj + 1)) * 7919)) Ba _ hr1) rfl ?_;clear S;intro v1 a w2 hv1 hk2 hn1 S
  subst hv1
  refine Va S rfl rfl fun a S=>Dl (wp_ret (Dt ?_))
  obtain rfl:=Option.some.inj h
  exact Ej S results19 rfl ⟨(S.holds _ (List.mem_of_getElem? (i:=0) rfl)),rfl⟩
 ·refine wp_skip (Tn (Fs (Hd [] ([]) Tryz.mixed S rfl (by kernel_rfl) ?_)));clear S;intro w3 hk3 hsel S
  refine Lw [0,1,2,3,4,5,6,7,8,9,10,11] hsel (by kernel_rfl) rfl ?_
  clear hsel
  refine Gm S rfl (Rm (S.tm rfl)) rfl fun a S=>Gm S rfl (Lb (S.tm rfl)) rfl fun a S=>Gm S rfl (Fy EO (S.tm rfl)) rfl fun a S=>Gm S rfl (La isAgg3 (S.tm rfl) (S.cell (i:=0) rfl rfl)) rfl fun a S=>Gm S rfl (Iu (S.tm rfl) rfl) rfl fun a S=>Gm S rfl (Rm (S.tm rfl)) rfl fun a S=>Gm S rfl (Lb (S.tm rfl)) rfl fun a S=>Gm S rfl (Fy HP (S.tm rfl)) rfl fun a S=>Gm S rfl (La isAgg22 (S.tm rfl) (S.cell (i:=0) rfl rfl)) rfl fun a S=>Gm S rfl (Fq Pf (S.tm rfl) (Fj Am)) rfl ?_;clear S;intro a S
  obtain ⟨hc1,h⟩:=Ie h
  refine Gm S rfl (AX (S.tm rfl) (S.tm rfl) (Ud hc1)) rfl fun a S=>Gm S rfl (Ra (S.tm rfl)) rfl fun a S=>Hv ?_
  replace S:=S.k3 0 1 5 rfl
  refine Tn (Fs (Hd [] ([]) Tryz.mixed S rfl (by kernel_rfl) ?_));clear S;intro w4 hk4 hsel S
  refine Lw [0,1,2,3,4,5,6,7,8,9,10,11] hsel (by kernel_rfl) rfl ?_
  clear hsel
  refine Gm S rfl (Rm (S.tm rfl)) rfl fun a S=>Gm S rfl (Lb (S.tm rfl)) rfl fun a S=>Gm S rfl (Fy EO (S.tm rfl)) rfl fun a S=>Gm S rfl (La isAgg3 (S.tm rfl) (S.cell (i:=0) rfl rfl)) rfl fun a S=>Gm S rfl (Iu (S.tm rfl) rfl) rfl fun a S=>Gm S rfl (Rm (S.tm rfl)) rfl fun a S=>Gm S rfl (Lb (S.tm rfl)) rfl fun a S=>Gm S rfl (Fy HP (S.tm rfl)) rfl fun a S=>Gm S rfl (La isAgg22 (S.tm rfl) (S.cell (i:=0) rfl rfl)) rfl fun a S=>Gm S rfl (Fq Pf (S.tm rfl) (Fj Am)) rfl ?_;clear S;intro a S
  obtain ⟨hc2,h⟩:=Ie h
  refine Gm S rfl (DL (S.tm rfl) (S.tm rfl) (Ud hc2)) rfl fun a S=>Gm S rfl (Ra (S.tm rfl)) rfl fun a S=>Hv ?_
  replace S:=S.k4 0 1 5 6 rfl
  refine Tn (Fr (Vm S rfl rfl fun a S=>Vu S Lb rfl rfl fun a S=>Vf HP S rfl rfl fun a S=>Vl isAgg22 0 S rfl rfl rfl rfl fun a S=>Vm S rfl rfl ?_));clear S;intro a S
  obtain ⟨hc3,h⟩:=Ie h
  obtain ⟨b1,o1,hm1,hr2⟩:=Ev (a:=a) (x:=.tmp 52) (y:=.tmp 53) (ty:=0) Pf Am (Dx hc3).1 (Dx hc3).2 (S.tm rfl) (S.tm rfl)
  refine lv S (hr2 _) rfl ?_;clear S;intro a S
  clear hr2
  refine lv S (Hm isAgg3 (off:=o1) (o:=0) (S.tm rfl) (hm1.at S.emb0) rfl) rfl ?_;clear S;intro a S
  obtain ⟨r2,hr3,h⟩:=Fa h
  refine Dw S (fun _=>Dp (vs:=[iV (nth Aq (Int.tmod (W ((W (Aj + 1)) - 1)) (Aq.length : Int))),iV 1073741824]) ⟨(S.tm rfl),rfl,trivial⟩ call41) (Vy _ (nth Aq (Int.tmod (W ((W (Aj + 1)) - 1)) (Aq.length : Int))) 1073741824 _ hr3) rfl ?_;clear S;intro v2 a w5 hv2 hk5 hn2 S
  subst hv2
  refine Vm S rfl rfl fun a S=>Vm S rfl rfl fun a S=>Vu S (Gc rfl) rfl rfl fun a S=>Vb S Yv rfl rfl rfl fun a S=>Vb S Gc rfl rfl rfl fun a S=>Vm S rfl rfl ?_;clear S;intro a S
  obtain ⟨r3,hr4,h⟩:=Fa h
  refine Dw S (fun _=>Dp (vs:=[iV (W (r2 + (W ((W (Int.tdiv (W ((W (Aj + 1)) - 1)) (Aq.length : Int))) * (W (7919 + (Int.tmod (W ((W (Aj + 1)) - 1)) (Aq.length : Int)))))))),iV Ba]) ⟨(S.tm rfl),(S.tm rfl),trivial⟩ call41) (Vy _ (W (r2 + (W ((W (Int.tdiv (W ((W (Aj + 1)) - 1)) (Aq.length : Int))) * (W (7919 + (Int.tmod (W ((W (Aj + 1)) - 1)) (Aq.length : Int)))))))) Ba _ hr4) rfl ?_;clear S;intro v3 a w6 hv3 hk6 hn3 S
  subst hv3
  refine Va S rfl rfl fun a S=>Ld ?_
  replace S:=S.k1 4 rfl
  refine Tn (wp_ret ?_)
  obtain rfl:=Option.some.inj h
  exact Ej S results19 rfl ⟨(S.holds _ (List.mem_of_getElem? (i:=0) rfl)),rfl⟩
theorem Ya (w : World) (O : Nat) (U : Value) (Aq : List Int) (Am : Slc (view w [O]) 1 U (Aq.map eInt)) (Aj : Int) (Ao : (LEnt.blk O [U,iV Aj] 25).holds w) (Ba : Int) (r : Bool × Int) (h : Sf Aq Aj Ba = some r) :
    Calls prog 30 [.pointer (some ⟨O,0,none⟩),iV Ba].toArray w (Ret w [O] fun _ v w'=>(LEnt.blk O [U,iV r.2] 25).holds w' ∧ v = bV r.1):=by
 refine Mv [O] [.blk O [U,iV Aj] 25] func30 rfl ntmps30 rfl (fun e he=>by simp only [List.mem_singleton] at he;subst he;exact Ao) (by simp [fps,LEnt.fp]) (by simp [fps,LEnt.fp]) fun a S=>?_
 unfold Sf at h
 replace S:=(S.nl [.blk O [U,iV Aj] 25] [true] rfl).k2 0 1 rfl
 refine Fr (Vk S rfl rfl fun a S=>Dz (Vm S rfl rfl fun a S=>Vm S rfl rfl ?_));clear S;intro a S
 obtain ⟨r1,hr1,h⟩:=Fa h
 refine Hl 0 S (b:=O) rfl rfl (fun _=>.blk O [U,iV r1.2] 25) (fun _=>Dp (vs:=[.pointer (some ⟨O,0,none⟩),iV Ba]) ⟨(S.tm rfl),(S.tm rfl),trivial⟩ call19) (Tq _ O U Aq (Am.mono (S.le_arg (Iv (i:=0) (e:=.blk O [U,iV Aj] 25) rfl))) Aj (S.holds _ (List.mem_of_getElem? (i:=0) rfl)) Ba _ hr1) rfl (fun _ _ _ h=>⟨h.1,fun _ hc=>by cases hc;rfl⟩) ?_;clear S;intro v1 a w1 hv1 hk1 hn1 S
 replace hv1:=hv1.2
 subst hv1
 refine Vq S Im rfl rfl rfl fun a S=>Va S rfl rfl fun a S=>Dl (wp_ret ?_)
 obtain rfl:=Option.some.inj h
 exact Ej S results30 rfl ⟨(S.holds _ (List.mem_of_getElem? (i:=0) rfl)),rfl⟩
theorem Je (w : World) (O : Nat) (U : Value) (Aq : List Int) (Am : Slc (view w [O]) 1 U (Aq.map eInt)) (Aj : Int) (Ao : (LEnt.blk O [U,iV Aj] 25).holds w) (Ab : Value) (Ah : List Int) (Af : Slc (view w [O]) 1 Ab (Ah.map eInt)) (r : Int × Int) (h : Jp Aq Aj Ah = some r) :
    Calls prog 32 [.pointer (some ⟨O,0,none⟩),Ab].toArray w (Ret w [O] fun _ v w'=>(LEnt.blk O [U,iV r.2] 25).holds w' ∧ v = iV r.1):=by
 refine Mv [O] [.blk O [U,iV Aj] 25] func32 rfl ntmps32 rfl (fun e he=>by simp only [List.mem_singleton] at he;subst he;exact Ao) (by simp [fps,LEnt.fp]) (by simp [fps,LEnt.fp]) fun a S=>?_
 unfold Jp at h
 replace S:=(S.nl [.blk O [U,iV Aj] 25] [true] rfl).k2 0 1 rfl
 refine Fr (Vk S rfl rfl fun a S=>Dl (Fs (Fg ?_)))
 iterate 3 (refine Vm S rfl rfl ?_;clear S;intro a S)
 refine lv S (Fq Pf (S.tm rfl) (Fj Af)) rfl ?_;clear S;intro a S
 obtain ⟨r1,hr1,h⟩:=Fa h
 refine Hl 0 S (b:=O) rfl rfl (fun _=>.blk O [U,iV r1.2] 25) (fun _=>Dp (vs:=[.pointer (some ⟨O,0,none⟩),iV (Ah.length : Int)]) ⟨(S.tm rfl),(S.tm rfl),trivial⟩ call19) (Tq _ O U Aq (Am.mono (S.le_arg (Iv (i:=0) (e:=.blk O [U,iV Aj] 25) rfl))) Aj (S.holds _ (List.mem_of_getElem? (i:=0) rfl)) (Ah.length : Int) _ hr1) rfl (fun _ _ _ h=>⟨h.1,fun _ hc=>by cases hc;rfl⟩) ?_;clear S;intro v1 a w1 hv1 hk1 hn1 S
 replace hv1:=hv1.2
 subst hv1
 obtain ⟨hc1,h⟩:=Ie h
 obtain ⟨b1,o1,hm1,hr2⟩:=Ev (a:=a) (x:=.tmp 5) (y:=.tmp 9) (ty:=0) Pf Af (Dx hc1).1 (Dx hc1).2 (S.tm rfl) (S.tm rfl)
 refine lv S (hr2 _) rfl ?_;clear S;intro a S
 clear hr2
 refine lv S (Hm isAgg3 (off:=o1) (o:=0) (S.tm rfl) (hm1.at S.emb0) rfl) rfl fun a S=>Va S rfl rfl fun a S=>Dl (wp_ret ?_)
 obtain rfl:=Option.some.inj h
 exact Ej S results32 rfl ⟨(S.holds _ (List.mem_of_getElem? (i:=0) rfl)),rfl⟩
theorem DR (w : World) (O : Nat) (U : Value) (Aq : List Int) (Am : Slc (view w [O]) 1 U (Aq.map eInt)) (Aj : Int) (Ao : (LEnt.blk O [U,iV Aj] 25).holds w) (Bt : ByteArray) (r : Dy × Int) (h : Sn Aq Aj Bt = some r) :
    Calls prog 31 [.pointer (some ⟨O,0,none⟩),sV Bt].toArray w (Ret w [O] fun _ v w'=>(LEnt.blk O [U,iV r.2] 25).holds w' ∧ v = .agg (Dy.enc r.1).toArray):=by
 refine Mv [O] [.blk O [U,iV Aj] 25] func31 rfl ntmps31 rfl (fun e he=>by simp only [List.mem_singleton] at he;subst he;exact Ao) (by simp [fps,LEnt.fp]) (by simp [fps,LEnt.fp]) fun a S=>?_
 unfold Sn at h
 replace S:=(S.nl [.blk O [U,iV Aj] 25] [true] rfl).k2 0 1 rfl
 refine Fr (Hs S zeroValue42 (cs:=[sV An,iV 0,iV 0,iV 0,iV 0,iV 0,iV 0,iV 0]) rfl rfl ?_);clear S;intro a w1 b1 hz1 hk1 S
 refine Dz (Vm S rfl rfl fun a S=>Vm S rfl rfl fun a S=>Er S underlying22 sizeOf3 zeroValue3 rfl rfl (pv:=[(0,iV 50),(1,iV 100),(2,iV 200)]) ⟨rfl,rfl,rfl,rfl,rfl,rfl,trivial⟩ (cs:=[iV 50,iV 100,iV 200]) (by kernel_rfl) rfl ?_);clear S;intro a w2 b2 hz2 hk2 S
 obtain ⟨r1,hr1,h⟩:=Fa h
 refine Hl 2 S (b:=O) rfl rfl (fun _=>.blk O [U,iV r1.2] 25) (fun _=>Dp (vs:=[.pointer (some ⟨O,0,none⟩),.slice (some ⟨b2,0,none⟩) 3 3]) ⟨(S.tm rfl),(S.tm rfl),trivial⟩ call32) (Je _ O U Aq (Am.mono (S.le_arg (Iv (i:=2) (e:=.blk O [U,iV Aj] 25) rfl))) Aj (S.holds _ (List.mem_of_getElem? (i:=2) rfl)) (.slice (some ⟨b2,0,none⟩) 3 3) [50,100,200] (Jx Ik S (i:=0) rfl rfl rfl rfl ((Mo (i:=2) (j:=0) (e:=.blk O [U,iV Aj] 25) (e':=.blk b2 [iV 50,iV 100,iV 200] 3) S rfl rfl rfl) _ rfl)) _ hr1) rfl (fun _ _ _ h=>⟨h.1,fun _ hc=>by cases hc;rfl⟩) ?_;clear S;intro v1 a w3 hv1 hk3 hn1 S
 replace hv1:=hv1.2
 subst hv1
 refine Vm S rfl rfl fun a S=>Er S underlying22 sizeOf3 zeroValue3 rfl rfl (pv:=[(0,iV 1),(1,iV 2),(2,iV 3),(3,iV 4)]) ⟨rfl,rfl,rfl,rfl,rfl,rfl,rfl,rfl,trivial⟩ (cs:=[iV 1,iV 2,iV 3,iV 4]) (by kernel_rfl) rfl ?_;clear S;intro a w4 b3 hz3 hk4 S
 obtain ⟨r2,hr2,h⟩:=Fa h
 refine Hl 3 S (b:=O) rfl rfl (fun _=>.blk O [U,iV r2.2] 25) (fun _=>Dp (vs:=[.pointer (some ⟨O,0,none⟩),.slice (some ⟨b3,0,none⟩) 4 4]) ⟨(S.tm rfl),(S.tm rfl),trivial⟩ call32) (Je _ O U Aq (Am.mono (S.le_arg (Iv (i:=3) (e:=.blk O [U,iV r1.2] 25) rfl))) r1.2 (S.holds _ (List.mem_of_getElem? (i:=3) rfl)) (.slice (some ⟨b3,0,none⟩) 4 4) [1,2,3,4] (Jx Ik S (i:=0) rfl rfl rfl rfl ((Mo (i:=3) (j:=0) (e:=.blk O [U,iV r1.2] 25) (e':=.blk b3 [iV 1,iV 2,iV 3,iV 4] 3) S rfl rfl rfl) _ rfl)) _ hr2) rfl (fun _ _ _ h=>⟨h.1,fun _ hc=>by cases hc;rfl⟩) ?_;clear S;intro v2 a w5 hv2 hk5 hn2 S
 replace hv2:=hv2.2
 subst hv2
 refine Vm S rfl rfl fun a S=>Er S underlying22 sizeOf3 zeroValue3 rfl rfl (pv:=[(0,iV 25),(1,iV 50)]) ⟨rfl,rfl,rfl,rfl,trivial⟩ (cs:=[iV 25,iV 50]) (by kernel_rfl) rfl ?_;clear S;intro a w6 b4 hz4 hk6 S
 obtain ⟨r3,hr3,h⟩:=Fa h
 refine Hl 4 S (b:=O) rfl rfl (fun _=>.blk O [U,iV r3.2] 25) (fun _=>Dp (vs:=[.pointer (some ⟨O,0,none⟩),.slice (some ⟨b4,0,none⟩) 2 2]) ⟨(S.tm rfl),(S.tm rfl),trivial⟩ call32) (Je _ O U Aq (Am.mono (S.le_arg (Iv (i:=4) (e:=.blk O [U,iV r2.2] 25) rfl))) r2.2 (S.holds _ (List.mem_of_getElem? (i:=4) rfl)) (.slice (some ⟨b4,0,none⟩) 2 2) [25,50] (Jx Ik S (i:=0) rfl rfl rfl rfl ((Mo (i:=4) (j:=0) (e:=.blk O [U,iV r2.2] 25) (e':=.blk b4 [iV 25,iV 50] 3) S rfl rfl rfl) _ rfl)) _ hr3) rfl (fun _ _ _ h=>⟨h.1,fun _ hc=>by cases hc;rfl⟩) ?_;clear S;intro v3 a w7 hv3 hk7 hn3 S
 replace hv3:=hv3.2
 subst hv3
 refine Vm S rfl rfl fun a S=>Er S underlying22 sizeOf3 zeroValue3 rfl rfl (pv:=[(0,iV 1),(1,iV 1),(2,iV 1),(3,iV 4)]) ⟨rfl,rfl,rfl,rfl,rfl,rfl,rfl,rfl,trivial⟩ (cs:=[iV 1,iV 1,iV 1,iV 4]) (by kernel_rfl) rfl ?_;clear S;intro a w8 b5 hz5 hk8 S
 obtain ⟨r4,hr4,h⟩:=Fa h
 refine Hl 5 S (b:=O) rfl rfl (fun _=>.blk O [U,iV r4.2] 25) (fun _=>Dp (vs:=[.pointer (some ⟨O,0,none⟩),.slice (some ⟨b5,0,none⟩) 4 4]) ⟨(S.tm rfl),(S.tm rfl),trivial⟩ call32) (Je _ O U Aq (Am.mono (S.le_arg (Iv (i:=5) (e:=.blk O [U,iV r3.2] 25) rfl))) r3.2 (S.holds _ (List.mem_of_getElem? (i:=5) rfl)) (.slice (some ⟨b5,0,none⟩) 4 4) [1,1,1,4] (Jx Ik S (i:=0) rfl rfl rfl rfl ((Mo (i:=5) (j:=0) (e:=.blk O [U,iV r3.2] 25) (e':=.blk b5 [iV 1,iV 1,iV 1,iV 4] 3) S rfl rfl rfl) _ rfl)) _ hr4) rfl (fun _ _ _ h=>⟨h.1,fun _ hc=>by cases hc;rfl⟩) ?_;clear S;intro v4 a w9 hv4 hk9 hn4 S
 replace hv4:=hv4.2
 subst hv4
 refine Vm S rfl rfl fun a S=>Er S underlying22 sizeOf3 zeroValue3 rfl rfl (pv:=[(0,iV 0),(1,iV 1),(2,iV 2)]) ⟨rfl,rfl,rfl,rfl,rfl,rfl,trivial⟩ (cs:=[iV 0,iV 1,iV 2]) (by kernel_rfl) rfl ?_;clear S;intro a w10 b6 hz6 hk10 S
 obtain ⟨r5,hr5,h⟩:=Fa h
 refine Hl 6 S (b:=O) rfl rfl (fun _=>.blk O [U,iV r5.2] 25) (fun _=>Dp (vs:=[.pointer (some ⟨O,0,none⟩),.slice (some ⟨b6,0,none⟩) 3 3]) ⟨(S.tm rfl),(S.tm rfl),trivial⟩ call32) (Je _ O U Aq (Am.mono (S.le_arg (Iv (i:=6) (e:=.blk O [U,iV r4.2] 25) rfl))) r4.2 (S.holds _ (List.mem_of_getElem? (i:=6) rfl)) (.slice (some ⟨b6,0,none⟩) 3 3) [0,1,2] (Jx Ik S (i:=0) rfl rfl rfl rfl ((Mo (i:=6) (j:=0) (e:=.blk O [U,iV r4.2] 25) (e':=.blk b6 [iV 0,iV 1,iV 2] 3) S rfl rfl rfl) _ rfl)) _ hr5) rfl (fun _ _ _ h=>⟨h.1,fun _ hc=>by cases hc;rfl⟩) ?_;clear S;intro v5 a w11 hv5 hk11 hn5 S
 replace hv5:=hv5.2
 subst hv5
 refine Vm S rfl rfl fun a S=>Er S underlying22 sizeOf3 zeroValue3 rfl rfl (pv:=[(0,iV 0),(1,iV 0),(2,iV 5),(3,iV 10)]) ⟨rfl,rfl,rfl,rfl,rfl,rfl,rfl,rfl,trivial⟩ (cs:=[iV 0,iV 0,iV 5,iV 10]) (by kernel_rfl) rfl ?_;clear S;intro a w12 b7 hz7 hk12 S
 obtain ⟨r6,hr6,h⟩:=Fa h
 refine Hl 7 S (b:=O) rfl rfl (fun _=>.blk O [U,iV r6.2] 25) (fun _=>Dp (vs:=[.pointer (some ⟨O,0,none⟩),.slice (some ⟨b7,0,none⟩) 4 4]) ⟨(S.tm rfl),(S.tm rfl),trivial⟩ call32) (Je _ O U Aq (Am.mono (S.le_arg (Iv (i:=7) (e:=.blk O [U,iV r5.2] 25) rfl))) r5.2 (S.holds _ (List.mem_of_getElem? (i:=7) rfl)) (.slice (some ⟨b7,0,none⟩) 4 4) [0,0,5,10] (Jx Ik S (i:=0) rfl rfl rfl rfl ((Mo (i:=7) (j:=0) (e:=.blk O [U,iV r5.2] 25) (e':=.blk b7 [iV 0,iV 0,iV 5,iV 10] 3) S rfl rfl rfl) _ rfl)) _ hr6) rfl (fun _ _ _ h=>⟨h.1,fun _ hc=>by cases hc;rfl⟩) ?_;clear S;intro v6 a w13 hv6 hk13 hn6 S
 replace hv6:=hv6.2
 subst hv6
 refine lv S (Mr QV (pv:=[(0,sV Bt),(1,iV r1.1),(2,iV r2.1),(3,iV r3.1),(4,iV r4.1),(5,iV r5.1),(6,iV r6.1)]) ⟨rfl,(S.tm rfl),rfl,(S.tm rfl),rfl,(S.tm rfl),rfl,(S.tm rfl),rfl,(S.tm rfl),rfl,(S.tm rfl),rfl,(S.tm rfl),trivial⟩ (cs:=[sV Bt,iV r1.1,iV r2.1,iV r3.1,iV r4.1,iV r5.1,iV r6.1,iV 0]) (by kernel_rfl)) rfl fun a S=>Hs S zeroValue42 (cs:=[sV An,iV 0,iV 0,iV 0,iV 0,iV 0,iV 0,iV 0]) rfl rfl ?_;clear S;intro a w14 b8 hz8 hk14 S
 refine Ex S (S.tm rfl) (S.tm rfl) (i:=0) (off:=0) rfl sizeOf42 (vs:=(Dy.enc (Dy.mk Bt r1.1 r2.1 r3.1 r4.1 r5.1 r6.1 0))) rfl rfl rfl rfl ?_;clear S;intro w15 hk15 S
 refine Ld ?_
 replace S:=(S.nl [.blk b8 (Dy.enc (Dy.mk Bt r1.1 r2.1 r3.1 r4.1 r5.1 r6.1 0)) 42,.blk b1 (Dy.enc (Dy.mk An 0 0 0 0 0 0 0)) 42,.blk O [U,iV r6.2] 25] [true,false,false,false,false,false,false,true,true] rfl).k3 0 4 5 rfl
 refine Tn (Fs ?_)
 obtain ⟨r7,hr7,h⟩:=Fa h
 refine Hd [7] ([O]) Tryz.mixed S rfl (by kernel_rfl) ?_;clear S;intro w19 hk19 hsel S
 refine Gy 0 S hsel rfl rfl (by kernel_rfl) (by kernel_rfl) rfl (fun _=>(Fy LR (S.tm rfl))) fun a S=>Eb 1 S hsel rfl (by kernel_rfl) (by kernel_rfl) (by kernel_rfl) (by kernel_rfl) rfl (fun _ hw=>(Hm isAgg3 (off:=0) (o:=6) (S.tm rfl) ((S.blk_mem (i:=0) (cells:=(Dy.enc (Dy.mk Bt r1.1 r2.1 r3.1 r4.1 r5.1 r6.1 0))) (b:=b8) (T:=42) rfl (Mo (i:=2) (j:=0) (e:=.blk O [U,iV r6.2] 25) (e':=.blk b8 (Dy.enc (Dy.mk Bt r1.1 r2.1 r3.1 r4.1 r5.1 r6.1 0)) 42) S rfl rfl rfl)).kept hw) rfl)) fun a S=>Gy 2 S hsel rfl rfl (by kernel_rfl) (by kernel_rfl) rfl (fun _=>(Rm (S.tm rfl))) fun a S=>He 3 (by kernel_rfl) rfl (Er S underlying22 sizeOf3 zeroValue3 rfl rfl (pv:=[(0,iV 0),(1,iV 5),(2,iV 90)]) ⟨rfl,rfl,rfl,rfl,rfl,rfl,trivial⟩ (cs:=[iV 0,iV 5,iV 90]) (by kernel_rfl) rfl ?_);clear S;intro a w20 b10 hz10 hk20 S
 refine Ld (Ig (Keep.none hk20) (He 4 (by kernel_rfl) rfl ?_))
 refine Hl 3 S (b:=O) rfl rfl (fun _=>.blk O [U,iV r7.2] 25) (fun _=>Dp (vs:=[.pointer (some ⟨O,0,none⟩),.slice (some ⟨b10,0,none⟩) 3 3]) ⟨(S.tm rfl),(S.tm rfl),trivial⟩ call32) (Je _ O U Aq (Am.mono (S.le_arg (Iv (i:=3) (e:=.blk O [U,iV r6.2] 25) rfl))) r6.2 (S.holds _ (List.mem_of_getElem? (i:=3) rfl)) (.slice (some ⟨b10,0,none⟩) 3 3) [0,5,90] (Jx Ik S (i:=0) rfl rfl rfl rfl ((Mo (i:=3) (j:=0) (e:=.blk O [U,iV r6.2] 25) (e':=.blk b10 [iV 0,iV 5,iV 90] 3) S rfl rfl rfl) _ rfl)) _ hr7) rfl (fun _ _ _ h=>⟨h.1,fun _ hc=>by cases hc;rfl⟩) ?_;clear S;intro v8 a w21 hv8 hk21 hn8 S
 replace hv8:=hv8.2
 subst hv8
 refine Ld (Ig hk21 (Gy 5 S hsel rfl rfl (by kernel_rfl) (by kernel_rfl) rfl (fun _=>(Gc (S.tm rfl) (S.tm rfl))) fun a S=>Gy 6 S hsel rfl rfl (by kernel_rfl) (by kernel_rfl) rfl (fun _=>(Fy LS (S.tm rfl))) fun a S=>Ym 7 ([O] ++ [b8]) rfl (by kernel_rfl) rfl (Ex S (S.tm rfl) (S.tm rfl) (i:=1) (off:=7) rfl sizeOf3 (vs:=[iV (W (r6.1 + r7.1))]) rfl rfl rfl rfl ?_)));clear S;intro w22 hk22 S
 refine Ld (Yn (Xi (by kernel_rfl) ?_))
 clear hsel
 replace S:=(S.nl [.blk b8 (Dy.enc (Dy.mk Bt r1.1 r2.1 r3.1 r4.1 r5.1 r6.1 (W (r6.1 + r7.1)))) 42,.blk b1 (Dy.enc (Dy.mk An 0 0 0 0 0 0 0)) 42,.blk O [U,iV r7.2] 25] [false,true,true,true] rfl).k2 4 5 rfl
 refine Tn (Fr (lv S (Fp isAgg42 sizeOf42 (off:=0) (o:=0) (part:=(Dy.enc (Dy.mk Bt r1.1 r2.1 r3.1 r4.1 r5.1 r6.1 (W (r6.1 + r7.1))))) rfl rfl (S.tm rfl) (S.cellsAt (i:=0) rfl)) rfl fun a S=>Ex S (S.tm rfl) (S.tm rfl) (i:=1) (off:=0) rfl sizeOf42 (vs:=(Dy.enc (Dy.mk Bt r1.1 r2.1 r3.1 r4.1 r5.1 r6.1 (W (r6.1 + r7.1))))) rfl rfl rfl rfl ?_));clear S;intro w23 hk23 S
 refine Dl (wp_ret ?_)
 obtain rfl:=Option.some.inj h
 exact Xw S (rs:=[.cell 4 42]) (vs:=[.agg (Dy.enc (Dy.mk Bt r1.1 r2.1 r3.1 r4.1 r5.1 r6.1 (W (r6.1 + r7.1)))).toArray]) results31 ⟨(Ti (off:=0) S rfl isAgg42 sizeOf42 rfl (S.cellsAt (i:=1) rfl)),trivial⟩ rfl ⟨(S.holds _ (List.mem_of_getElem? (i:=2) rfl)),rfl⟩
theorem CT (w : World) (O : Nat) (U : Value) (Aq : List Int) (Am : Slc (view w [O]) 1 U (Aq.map eInt)) (Aj : Int) (Ao : (LEnt.blk O [U,iV Aj] 25).holds w) (r : (List Dy) × Int) (h : Tv Aq Aj = some r) :
    Calls prog 14 [.pointer (some ⟨O,0,none⟩)].toArray w (Ret w [O] fun τ v w'=>(LEnt.blk O [U,iV r.2] 25).holds w' ∧ Tf τ 42 8 v r.1.length (r.1.flatMap Dy.enc)):=by
 refine Mv [O] [.blk O [U,iV Aj] 25] func14 rfl ntmps14 rfl (fun e he=>by simp only [List.mem_singleton] at he;subst he;exact Ao) (by simp [fps,LEnt.fp]) (by simp [fps,LEnt.fp]) fun a S=>?_
 unfold Tv at h
 replace S:=(S.nl [.blk O [U,iV Aj] 25] [true] rfl).k1 0 rfl
 refine Fr (Vk S rfl rfl fun a S=>Dz (Vk S rfl rfl ?_));clear S;intro a S
 replace S:=S.nil 42 8
 refine Dl (Fs (Fr (Er S underlying87 sizeOf9 zeroValue9 rfl rfl (pv:=[(0,sV Qh),(1,sV Tj),(2,sV Wd)]) ⟨rfl,rfl,rfl,rfl,rfl,rfl,trivial⟩ (cs:=[sV Qh,sV Tj,sV Wd]) (by kernel_rfl) rfl ?_)));clear S;intro a w1 b1 hz1 hk1 S
 refine lv S (Fq Zd (S.tm rfl) ⟨_,_,rfl⟩) rfl fun a S=>lv S (Rm rfl) rfl fun a S=>Dl ?_
 replace S:=(S.nl [.blk b1 [sV Qh,sV Tj,sV Wd] 9,.own (.slice none 0 0) 42 8 ([] : List Dy).length (([] : List Dy).flatMap Dy.enc),.blk O [U,iV Aj] 25] [true,true,true] rfl).k5 0 3 6 7 8 rfl
 replace S:=S.litOwn (i:=0) (xs:=[Qh,Tj,Wd]) rfl Ta rfl rfl rfl
 replace S:=S.nk [.own (.slice (some ⟨b1,0,none⟩) 3 3) 9 1 ([Qh,Tj,Wd] : List ByteArray).length (([Qh,Tj,Wd] : List ByteArray).flatMap CS),.own (.slice none 0 0) 42 8 ([] : List Dy).length (([] : List Dy).flatMap Dy.enc),.blk O [U,iV Aj] 25] [(0,.pointer (some ⟨O,0,none⟩)),(3,(.slice none 0 0)),(6,(.slice (some ⟨b1,0,none⟩) 3 3)),(7,iV (([Qh,Tj,Wd] : List ByteArray).length : Int)),(8,iV 0)] [] rfl (subR rfl)
 obtain ⟨φ1,hl1,hs1,S⟩:=S.freezeT (xs:=([Qh,Tj,Wd] : List ByteArray)) (enc:=CS) (i:=0) rfl (fun c hc hh=>CF S (i:=2) rfl rfl (j:=0) rfl rfl (by simp at hc;subst hc;exact hh))
 replace S:=S.nk [.own (.slice none 0 0) 42 8 ([] : List Dy).length (([] : List Dy).flatMap Dy.enc),.blk O [U,iV Aj] 25] [(0,.pointer (some ⟨O,0,none⟩)),(3,(.slice none 0 0)),(6,(.slice (some ⟨b1,0,none⟩) 3 3)),(7,iV (([Qh,Tj,Wd] : List ByteArray).length : Int)),(8,iV 0)] [] rfl (subR rfl)
 obtain ⟨j1,hj1,h⟩:=Ep h
 refine Eg (fun a w'=>∃ x1 : List Dy,∃ x2 : Int,∃ v1 : Value,j1 x1 x2 = some r ∧ Sx w [O] φ1 [.own v1 42 8 x1.length (x1.flatMap Dy.enc),.blk O [U,iV x2] 25] [(3,v1)] 23 a w') ?_ ?_
 ·refine wp_block (Gx (fun (ys1 : List ByteArray) a w'=>∃ i1 : Nat,∃ x1 : List Dy,∃ x2 : Int,∃ v1 : Value,(∃ dn,([Qh,Tj,Wd] : List ByteArray) = dn ++ ys1 ∧ dn.length = i1) ∧ Ki Aq j1 ys1 i1 x1 x2 = some r ∧ Sx w [O] φ1 [.own v1 42 8 x1.length (x1.flatMap Dy.enc),.blk O [U,iV x2] 25] [(0,.pointer (some ⟨O,0,none⟩)),(3,v1),(6,(.slice (some ⟨b1,0,none⟩) 3 3)),(7,iV (([Qh,Tj,Wd] : List ByteArray).length : Int)),(8,iV (i1 : Int))] 23 a w') List.length ([Qh,Tj,Wd] : List ByteArray) ⟨0,([] : List Dy),Aj,(.slice none 0 0),⟨[],rfl,rfl⟩,h,S.nf [true,true] rfl (subR rfl)⟩ ?_)
  clear S h;rintro ys1 a w2 ⟨i1,x1,x2,v1,⟨dn,hd1,hi1⟩,h,S⟩
  cases ys1 with
  | nil =>
   rw [Ki.eq_1] at h
   refine Fr (Vb S Et rfl rfl rfl fun a S=>Ld ?_)
   replace S:=S.k6 0 3 6 7 8 9 rfl
   exact Tn (Fs (wp_cond_false ((S.tm rfl).trans (congrArg Value.bool (Il hd1 hi1))) (wp_exit (Ed (Ed (Gp (Tn (⟨x1,x2,v1,h,S.nf [true,true] rfl ⟨rfl,trivial⟩⟩))))))))
  | cons y1 ys1 =>
   rw [Ki.eq_2] at h
   refine Fr (Vb S Et rfl rfl rfl fun a S=>Ld ?_)
   replace S:=S.k6 0 3 6 7 8 9 rfl
   refine Tn (Fs (wp_cond_true ((S.tm rfl).trans (congrArg Value.bool (Ht hd1 hi1))) (wp_skip (Tn (Fs ?_)))))
   obtain ⟨j2,hj2,h⟩:=Ep h
   refine Eg (fun a w'=>∃ x3 : List Dy,∃ x4 : Int,∃ v2 : Value,j2 x3 x4 = some r ∧ Sx w [O] φ1 [.own v2 42 8 x3.length (x3.flatMap Dy.enc),.blk O [U,iV x4] 25] [(0,.pointer (some ⟨O,0,none⟩)),(3,v2),(6,(.slice (some ⟨b1,0,none⟩) 3 3)),(7,iV (([Qh,Tj,Wd] : List ByteArray).length : Int)),(8,iV (i1 : Int))] 23 a w') ?_ ?_
   ·refine wp_block (Fs (Fg ?_))
    obtain ⟨b2,o1,hm1,hr1⟩:=Ev (a:=a) (x:=.tmp 6) (y:=.tmp 8) (ty:=0) Zd (Ga Ta hs1) (Io hd1 hi1) rfl (S.tm rfl) (S.tm rfl)
    refine lv S (hr1 _) rfl ?_;clear S;intro a S
    clear hr1
    refine lv S (Hm isAgg9 (off:=o1) (o:=0) (S.tm rfl) (hm1.at S.emb) rfl) rfl fun a S=>Va S rfl rfl fun a S=>Dz (Vm S rfl rfl ?_);clear S;intro a S
    obtain ⟨r1,hr2,h⟩:=Fa h
    refine Hl 1 S (b:=O) rfl rfl (fun _=>.blk O [U,iV r1.2] 25) (fun _=>Dp (vs:=[.pointer (some ⟨O,0,none⟩),iV 6]) ⟨(S.tm rfl),rfl,trivial⟩ call30) (Ya _ O U Aq (Am.mono (S.le_arg (Iv (i:=1) (e:=.blk O [U,iV x2] 25) rfl))) x2 (S.holds _ (List.mem_of_getElem? (i:=1) rfl)) 6 _ hr2) rfl (fun _ _ _ h=>⟨h.1,fun _ hc=>by cases hc;rfl⟩) ?_;clear S;intro v3 a w5 hv1 hk2 hn1 S
    replace hv1:=hv1.2
    subst hv1
    refine Vu S Hj rfl rfl fun a S=>Dl ?_
    obtain ⟨j3,hj3,h⟩:=Ep h
    refine Eg (fun a w'=>∃ x5 : List Dy,∃ x6 : Int,∃ v4 : Value,j3 x5 x6 = some r ∧ Sx w [O] φ1 [.own v4 42 8 x5.length (x5.flatMap Dy.enc),.blk O [U,iV x6] 25] [(0,.pointer (some ⟨O,0,none⟩)),(3,v4),(6,(.slice (some ⟨b1,0,none⟩) 3 3)),(7,iV (([Qh,Tj,Wd] : List ByteArray).length : Int)),(8,iV (i1 : Int))] 23 a w') ?_ ?_
    ·refine Fc h (S.tm rfl) (fun hb1 h=>?_) (fun hb1 h=>?_)
     ·refine Fg ?_
      iterate 3 (refine Vm S rfl rfl ?_;clear S;intro a S)
      obtain ⟨r2,hr3,h⟩:=Fa h
      refine Hl 1 S (b:=O) rfl rfl (fun _=>.blk O [U,iV r2.2] 25) (fun _=>Dp (vs:=[.pointer (some ⟨O,0,none⟩),sV y1]) ⟨(S.tm rfl),(S.tm rfl),trivial⟩ call31) (DR _ O U Aq (Am.mono (S.le_arg (Iv (i:=1) (e:=.blk O [U,iV r1.2] 25) rfl))) r1.2 (S.holds _ (List.mem_of_getElem? (i:=1) rfl)) y1 _ hr3) rfl (fun _ _ _ h=>⟨h.1,fun _ hc=>by cases hc;rfl⟩) ?_;clear S;intro v5 a w7 hv2 hk3 hn2 S
      replace hv2:=hv2.2
      subst hv2
      refine Er S underlying26 sizeOf42 zeroValue42 rfl rfl (pv:=[(0,.agg (Dy.enc r2.1).toArray)]) ⟨rfl,(S.tm rfl),trivial⟩ (cs:=[sV r2.1.Key,iV r2.1.Metres,iV r2.1.Stroke,iV r2.1.Course,iV r2.1.Legs,iV r2.1.Sex,iV r2.1.Young,iV r2.1.Old]) (by kernel_rfl) rfl ?_;clear S;intro a w8 b3 hz2 hk4 S
      obtain ⟨hc1,h⟩:=Ie h
      refine Ms Un Dy.enc_ok S (S.tm rfl) (i:=1) rfl (S.tm rfl) (j:=0) rfl (ys:=[r2.1]) rfl rfl rfl rfl (by have:=Nd hc1;omega) rfl ?_;clear S;intro v6 a w9 hk5 S
      refine Va S rfl rfl fun a S=>Ld ?_
      replace S:=(S.nl [.own v6 42 8 (x1 ++ [r2.1]).length ((x1 ++ [r2.1]).flatMap Dy.enc),.blk O [U,iV r2.2] 25] [false,true,true] rfl).k5 0 3 6 7 8 rfl
      exact Tn (⟨(x1 ++ [r2.1]),r2.2,v6,h,S.nf [true,true] rfl (subR rfl)⟩)
     ·exact wp_skip (Tn (⟨x1,r1.2,v1,h,S.nf [true,true] rfl (subR rfl)⟩))
    clear S h;rintro a w6 ⟨x5,x6,v4,h,S⟩;rw [hj3] at h;clear hj3 j3
    exact Ho (Tn (⟨x5,x6,v4,h,S.nf [true,true] rfl (subR rfl)⟩))
   clear S h;rintro a w4 ⟨x3,x4,v2,h,S⟩;rw [hj2] at h;clear hj2 j2
   exact Tn (Fg (Vq S Gc rfl rfl rfl fun a S=>Vm S rfl rfl fun a S=>Dl (⟨ys1,⟨i1 + 1,x3,x4,v2,⟨_,(hd1).trans (List.append_cons _ _ _),by simp [hi1]⟩,h,S.nf [true,true] rfl ⟨rfl,rfl,rfl,rfl,(congrArg (fun z=>some (Value.int .i64 z)) (Hu hd1 hi1 (Iz (Ga Ta hs1)))),trivial⟩⟩,Nat.lt_succ_self _⟩)))
 clear S h;rintro a w3 ⟨x1,x2,v1,h,S⟩;rw [hj1] at h;clear hj1 j1
 refine Tn (Fr (Vm S rfl rfl fun a S=>Va S rfl rfl fun a S=>Dl (wp_ret ?_)))
 obtain rfl:=Option.some.inj h
 exact Ej S results14 rfl ⟨(S.holds _ (List.mem_of_getElem? (i:=1) rfl)),(MS S (i:=0) rfl (fun c hc hh=>CF S (i:=1) rfl rfl (j:=0) rfl rfl (by simp at hc;subst hc;exact hh)))⟩
theorem Pm (w : World) (O : Nat) (U : Value) (Aq : List Int) (Am : Slc (view w [O]) 1 U (Aq.map eInt)) (Aj : Int) (Ao : (LEnt.blk O [U,iV Aj] 25).holds w) (Bp : Int) (Bh : Int) (r : Int × Int) (h : Nq Aq Aj Bp Bh = some r) :
    Calls prog 6 [.pointer (some ⟨O,0,none⟩),iV Bp,iV Bh].toArray w (Ret w [O] fun _ v w'=>(LEnt.blk O [U,iV r.2] 25).holds w' ∧ v = iV r.1):=by
 refine Mv [O] [.blk O [U,iV Aj] 25] func6 rfl ntmps6 rfl (fun e he=>by simp only [List.mem_singleton] at he;subst he;exact Ao) (by simp [fps,LEnt.fp]) (by simp [fps,LEnt.fp]) fun a S=>?_
 unfold Nq at h
 replace S:=(S.nl [.blk O [U,iV Aj] 25] [true] rfl).k3 0 1 2 rfl
 refine Fr (Vk S rfl rfl fun a S=>Dl (Fs (Fr (Vm S rfl rfl fun a S=>Vm S rfl rfl fun a S=>Vb S Et rfl rfl rfl ?_))));clear S;intro a S
 refine Dl (Fc h (S.tm rfl) (fun hb1 h=>?_) (fun hb1 h=>?_))
 ·refine Fr (Vm S rfl rfl fun a S=>Va S rfl rfl fun a S=>Dl (wp_ret (Dt ?_)))
  obtain rfl:=Option.some.inj h
  exact Ej S results6 rfl ⟨(S.holds _ (List.mem_of_getElem? (i:=0) rfl)),rfl⟩
 ·refine wp_skip (Tn (Fs (Fg ?_)))
  iterate 4 (refine Vm S rfl rfl ?_;clear S;intro a S)
  refine Vb S Iu rfl rfl rfl fun a S=>Vq S Gc rfl rfl rfl ?_;clear S;intro a S
  obtain ⟨r1,hr1,h⟩:=Fa h
  refine Hl 0 S (b:=O) rfl rfl (fun _=>.blk O [U,iV r1.2] 25) (fun _=>Dp (vs:=[.pointer (some ⟨O,0,none⟩),iV (W ((W (Bh - Bp)) + 1))]) ⟨(S.tm rfl),(S.tm rfl),trivial⟩ call19) (Tq _ O U Aq (Am.mono (S.le_arg (Iv (i:=0) (e:=.blk O [U,iV Aj] 25) rfl))) Aj (S.holds _ (List.mem_of_getElem? (i:=0) rfl)) (W ((W (Bh - Bp)) + 1)) _ hr1) rfl (fun _ _ _ h=>⟨h.1,fun _ hc=>by cases hc;rfl⟩) ?_;clear S;intro v1 a w1 hv1 hk1 hn1 S
  replace hv1:=hv1.2
  subst hv1
  refine Vb S Gc rfl rfl rfl fun a S=>Va S rfl rfl fun a S=>Ld ?_
  replace S:=(S.nl [.blk O [U,iV r1.2] 25] [true] rfl).k1 6 rfl
  refine Tn (wp_ret ?_)
  obtain rfl:=Option.some.inj h
  exact Ej S results6 rfl ⟨(S.holds _ (List.mem_of_getElem? (i:=0) rfl)),rfl⟩
theorem BO (w : World) (O : Nat) (U : Value) (Aq : List Int) (Am : Slc (view w [O]) 1 U (Aq.map eInt)) (Aj : Int) (Ao : (LEnt.blk O [U,iV Aj] 25).holds w) (r : Kr × Int) (h : Rc Aq Aj = some r) :
    Calls prog 15 [.pointer (some ⟨O,0,none⟩)].toArray w (Ret w [O] fun τ v w'=>(LEnt.blk O [U,iV r.2] 25).holds w' ∧ ∃ q : R28,v = .agg (R28.enc q).toArray ∧ Xy τ r.1 q):=by
 refine Mv [O] [.blk O [U,iV Aj] 25] func15 rfl ntmps15 rfl (fun e he=>by simp only [List.mem_singleton] at he;subst he;exact Ao) (by simp [fps,LEnt.fp]) (by simp [fps,LEnt.fp]) fun a S=>?_
 unfold Rc at h
 replace S:=(S.nl [.blk O [U,iV Aj] 25] [true] rfl).k1 0 rfl
 refine Fr (Hs S zeroValue28 (cs:=[.slice none 0 0,iV 0,iV 0]) rfl rfl ?_);clear S;intro a w1 b1 hz1 hk1 S
 replace S:=S.nil 3 1
 refine Dz (Vm S rfl rfl fun a S=>Er S underlying22 sizeOf3 zeroValue3 rfl rfl (pv:=[(0,iV 1),(1,iV 2)]) ⟨rfl,rfl,rfl,rfl,trivial⟩ (cs:=[iV 1,iV 2]) (by kernel_rfl) rfl ?_);clear S;intro a w2 b2 hz2 hk2 S
 obtain ⟨r1,hr1,h⟩:=Fa h
 refine Hl 3 S (b:=O) rfl rfl (fun _=>.blk O [U,iV r1.2] 25) (fun _=>Dp (vs:=[.pointer (some ⟨O,0,none⟩),.slice (some ⟨b2,0,none⟩) 2 2]) ⟨(S.tm rfl),(S.tm rfl),trivial⟩ call32) (Je _ O U Aq (Am.mono (S.le_arg (Iv (i:=3) (e:=.blk O [U,iV Aj] 25) rfl))) Aj (S.holds _ (List.mem_of_getElem? (i:=3) rfl)) (.slice (some ⟨b2,0,none⟩) 2 2) [1,2] (Jx Ik S (i:=0) rfl rfl rfl rfl ((Mo (i:=3) (j:=0) (e:=.blk O [U,iV Aj] 25) (e':=.blk b2 [iV 1,iV 2] 3) S rfl rfl rfl) _ rfl)) _ hr1) rfl (fun _ _ _ h=>⟨h.1,fun _ hc=>by cases hc;rfl⟩) ?_;clear S;intro v1 a w3 hv1 hk3 hn1 S
 replace hv1:=hv1.2
 subst hv1
 refine Vm S rfl rfl fun a S=>Er S underlying22 sizeOf3 zeroValue3 rfl rfl (pv:=[(0,iV 0),(1,iV 0),(2,iV 1),(3,iV 2)]) ⟨rfl,rfl,rfl,rfl,rfl,rfl,rfl,rfl,trivial⟩ (cs:=[iV 0,iV 0,iV 1,iV 2]) (by kernel_rfl) rfl ?_;clear S;intro a w4 b3 hz3 hk4 S
 obtain ⟨r2,hr2,h⟩:=Fa h
 refine Hl 4 S (b:=O) rfl rfl (fun _=>.blk O [U,iV r2.2] 25) (fun _=>Dp (vs:=[.pointer (some ⟨O,0,none⟩),.slice (some ⟨b3,0,none⟩) 4 4]) ⟨(S.tm rfl),(S.tm rfl),trivial⟩ call32) (Je _ O U Aq (Am.mono (S.le_arg (Iv (i:=4) (e:=.blk O [U,iV r1.2] 25) rfl))) r1.2 (S.holds _ (List.mem_of_getElem? (i:=4) rfl)) (.slice (some ⟨b3,0,none⟩) 4 4) [0,0,1,2] (Jx Ik S (i:=0) rfl rfl rfl rfl ((Mo (i:=4) (j:=0) (e:=.blk O [U,iV r1.2] 25) (e':=.blk b3 [iV 0,iV 0,iV 1,iV 2] 3) S rfl rfl rfl) _ rfl)) _ hr2) rfl (fun _ _ _ h=>⟨h.1,fun _ hc=>by cases hc;rfl⟩) ?_;clear S;intro v2 a w5 hv2 hk5 hn2 S
 replace hv2:=hv2.2
 subst hv2
 refine lv S (Mr bt_28 (pv:=[(1,iV r1.1),(2,iV r2.1)]) ⟨rfl,(S.tm rfl),rfl,(S.tm rfl),trivial⟩ (cs:=[.slice none 0 0,iV r1.1,iV r2.1]) (by kernel_rfl)) rfl fun a S=>Hs S zeroValue28 (cs:=[.slice none 0 0,iV 0,iV 0]) rfl rfl ?_;clear S;intro a w6 b4 hz4 hk6 S
 replace S:=S.nil 3 1
 refine Ex S (S.tm rfl) (S.tm rfl) (i:=1) (off:=0) rfl sizeOf28 (vs:=[.slice none 0 0,iV r1.1,iV r2.1]) rfl rfl rfl rfl ?_;clear S;intro w7 hk7 S
 replace S:=S.nil 3 1
 refine Ld ?_
 replace S:=(S.nl [.own (.slice none 0 0) 3 1 ([] : List Int).length (([] : List Int).flatMap eInt),.blk b4 [(.slice none 0 0),iV r1.1,iV r2.1] 28,.own (.slice none 0 0) 3 1 ([] : List Int).length (([] : List Int).flatMap eInt),.blk b1 [(.slice none 0 0),iV 0,iV 0] 28,.blk O [U,iV r2.2] 25] [true,false,true,false,false,true,true,true] rfl).k3 0 2 3 rfl
 refine Tn (Fr (Vm S rfl rfl fun a S=>Er S underlying22 sizeOf3 zeroValue3 rfl rfl (pv:=[(0,iV 10),(1,iV 9),(2,iV 7),(3,iV 5)]) ⟨rfl,rfl,rfl,rfl,rfl,rfl,rfl,rfl,trivial⟩ (cs:=[iV 10,iV 9,iV 7,iV 5]) (by kernel_rfl) rfl ?_));clear S;intro a w8 b5 hz5 hk8 S
 obtain ⟨r3,hr3,h⟩:=Fa h
 refine Hl 5 S (b:=O) rfl rfl (fun _=>.blk O [U,iV r3.2] 25) (fun _=>Dp (vs:=[.pointer (some ⟨O,0,none⟩),.slice (some ⟨b5,0,none⟩) 4 4]) ⟨(S.tm rfl),(S.tm rfl),trivial⟩ call32) (Je _ O U Aq (Am.mono (S.le_arg (Iv (i:=5) (e:=.blk O [U,iV r2.2] 25) rfl))) r2.2 (S.holds _ (List.mem_of_getElem? (i:=5) rfl)) (.slice (some ⟨b5,0,none⟩) 4 4) [10,9,7,5] (Jx Ik S (i:=0) rfl rfl rfl rfl ((Mo (i:=5) (j:=0) (e:=.blk O [U,iV r2.2] 25) (e':=.blk b5 [iV 10,iV 9,iV 7,iV 5] 3) S rfl rfl rfl) _ rfl)) _ hr3) rfl (fun _ _ _ h=>⟨h.1,fun _ hc=>by cases hc;rfl⟩) ?_;clear S;intro v3 a w9 hv3 hk9 hn3 S
 replace hv3:=hv3.2
 subst hv3
 refine Va S rfl rfl fun a S=>Ld ?_
 replace S:=(S.nl [.own (.slice none 0 0) 3 1 ([] : List Int).length (([] : List Int).flatMap eInt),.blk b4 [(.slice none 0 0),iV r1.1,iV r2.1] 28,.own (.slice none 0 0) 3 1 ([] : List Int).length (([] : List Int).flatMap eInt),.blk b1 [(.slice none 0 0),iV 0,iV 0] 28,.blk O [U,iV r3.2] 25] [false,true,true,true,true,true] rfl).k4 0 2 3 4 rfl
 refine Tn (Fs (Fr (Vm S rfl rfl ?_)));clear S;intro a S
 obtain ⟨r4,hr4,h⟩:=Fa h
 refine Hl 4 S (b:=O) rfl rfl (fun _=>.blk O [U,iV r4.2] 25) (fun _=>Dp (vs:=[.pointer (some ⟨O,0,none⟩),iV 0,iV 5]) ⟨(S.tm rfl),rfl,rfl,trivial⟩ call6) (Pm _ O U Aq (Am.mono (S.le_arg (Iv (i:=4) (e:=.blk O [U,iV r3.2] 25) rfl))) r3.2 (S.holds _ (List.mem_of_getElem? (i:=4) rfl)) 0 5 _ hr4) rfl (fun _ _ _ h=>⟨h.1,fun _ hc=>by cases hc;rfl⟩) ?_;clear S;intro v4 a w10 hv4 hk10 hn4 S
 replace hv4:=hv4.2
 subst hv4
 refine lv S (Rm rfl) rfl fun a S=>Dl ?_
 replace S:=(S.nl [.own (.slice none 0 0) 3 1 ([] : List Int).length (([] : List Int).flatMap eInt),.blk b4 [(.slice none 0 0),iV r1.1,iV r2.1] 28,.own (.slice none 0 0) 3 1 ([] : List Int).length (([] : List Int).flatMap eInt),.blk b1 [(.slice none 0 0),iV 0,iV 0] 28,.blk O [U,iV r4.2] 25] [true,true,true,true,true] rfl).k6 0 2 3 4 16 17 rfl
 obtain ⟨j1,hj1,h⟩:=Ep h
 refine Eg (fun a w'=>∃ x1 : List Int,∃ x2 : Int,∃ v5 : Value,j1 x1 x2 = some r ∧ Sx w [O] nov [.own v5 3 1 x1.length (x1.flatMap eInt),.blk b4 [v5,iV r1.1,iV r2.1] 28,.own (.slice none 0 0) 3 1 ([] : List Int).length (([] : List Int).flatMap eInt),.blk b1 [(.slice none 0 0),iV 0,iV 0] 28,.blk O [U,iV x2] 25] [(2,.pointer (some ⟨b1,0,none⟩)),(3,.pointer (some ⟨b4,0,none⟩))] 33 a w') ?_ ?_
 ·refine wp_block (Gx (fun (m1 : Nat) a w'=>∃ x1 : List Int,∃ x2 : Int,∃ x3 : Int,∃ x4 : Int,∃ v5 : Value,Jy r4 Aq j1 m1 x1 x2 x3 x4 = some r ∧ Sx w [O] nov [.own v5 3 1 x1.length (x1.flatMap eInt),.blk b4 [v5,iV r1.1,iV r2.1] 28,.own (.slice none 0 0) 3 1 ([] : List Int).length (([] : List Int).flatMap eInt),.blk b1 [(.slice none 0 0),iV 0,iV 0] 28,.blk O [U,iV x2] 25] [(0,.pointer (some ⟨O,0,none⟩)),(2,.pointer (some ⟨b1,0,none⟩)),(3,.pointer (some ⟨b4,0,none⟩)),(4,iV x3),(16,iV r4.1),(17,iV x4)] 33 a w') id ((r4.1 - 0).toNat + 2) ⟨([] : List Int),r4.2,r3.1,0,(.slice none 0 0),h,S.nf [true,true,true,true,true] rfl (subR rfl)⟩ ?_)
  clear S h;rintro m1 a w11 ⟨x1,x2,x3,x4,v5,h,S⟩
  cases m1 with
  | zero=>rw [Jy.eq_1] at h;cases h
  | succ m1 =>
   rw [Jy.eq_2] at h
   refine Fr (Vb S Et rfl rfl rfl fun a S=>Dl (Fs (Fc h (S.tm rfl) (fun hb1 h=>?_) (fun hb1 h=>?_))))
   ·refine wp_skip (Tn (Fs (wp_block (Fr (Vf AC S rfl rfl fun a S=>Vl isAgg22 1 S rfl rfl rfl rfl fun a S=>Vm S rfl rfl fun a S=>Er S underlying22 sizeOf3 zeroValue3 rfl rfl (pv:=[(0,iV x3)]) ⟨rfl,(S.tm rfl),trivial⟩ (cs:=[iV x3]) (by kernel_rfl) rfl ?_)))));clear S;intro a w13 b6 hz6 hk11 S
    obtain ⟨hc1,h⟩:=Ie h
    refine Ms Pf Ik S (S.tm rfl) (i:=1) rfl (S.tm rfl) (j:=0) rfl (ys:=[x3]) rfl rfl rfl rfl (by have:=Nd hc1;omega) rfl ?_;clear S;intro v6 a w14 hk12 S
    refine Vf AC S rfl rfl fun a S=>Ex S (S.tm rfl) (S.tm rfl) (i:=2) (off:=0) rfl sizeOf22 (vs:=[v6]) (Kq.cells (Ph (S.own_at (i:=1) rfl))) rfl rfl (Qz (Kq.one (Ph (S.own_at (i:=1) rfl))) rfl) ?_;clear S;intro w15 hk13 S
    refine Ld ?_
    replace S:=(S.nl [.own v6 3 1 (x1 ++ [x3]).length ((x1 ++ [x3]).flatMap eInt),.blk b4 [v6,iV r1.1,iV r2.1] 28,.own (.slice none 0 0) 3 1 ([] : List Int).length (([] : List Int).flatMap eInt),.blk b1 [(.slice none 0 0),iV 0,iV 0] 28,.blk O [U,iV x2] 25] [false,true,true,true,true,true] rfl).k6 0 2 3 4 16 17 rfl
    refine Tn (Fg (Vm S rfl rfl fun a S=>Vm S rfl rfl fun a S=>Er S underlying22 sizeOf3 zeroValue3 rfl rfl (pv:=[(0,iV 0),(1,iV 1),(2,iV 2),(3,iV 3)]) ⟨rfl,rfl,rfl,rfl,rfl,rfl,rfl,rfl,trivial⟩ (cs:=[iV 0,iV 1,iV 2,iV 3]) (by kernel_rfl) rfl ?_));clear S;intro a w16 b7 hz7 hk14 S
    obtain ⟨r5,hr5,h⟩:=Fa h
    refine Hl 5 S (b:=O) rfl rfl (fun _=>.blk O [U,iV r5.2] 25) (fun _=>Dp (vs:=[.pointer (some ⟨O,0,none⟩),.slice (some ⟨b7,0,none⟩) 4 4]) ⟨(S.tm rfl),(S.tm rfl),trivial⟩ call32) (Je _ O U Aq (Am.mono (S.le_arg (Iv (i:=5) (e:=.blk O [U,iV x2] 25) rfl))) x2 (S.holds _ (List.mem_of_getElem? (i:=5) rfl)) (.slice (some ⟨b7,0,none⟩) 4 4) [0,1,2,3] (Jx Ik S (i:=0) rfl rfl rfl rfl ((Mo (i:=5) (j:=0) (e:=.blk O [U,iV x2] 25) (e':=.blk b7 [iV 0,iV 1,iV 2,iV 3] 3) S rfl rfl rfl) _ rfl)) _ hr5) rfl (fun _ _ _ h=>⟨h.1,fun _ hc=>by cases hc;rfl⟩) ?_;clear S;intro v7 a w17 hv5 hk15 hn5 S
    replace hv5:=hv5.2
    subst hv5
    refine Vb S Iu rfl rfl rfl fun a S=>Vu S (QA rfl) rfl rfl fun a S=>Va S rfl rfl fun a S=>Ld ?_
    replace S:=(S.nl [.own v6 3 1 (x1 ++ [x3]).length ((x1 ++ [x3]).flatMap eInt),.blk b4 [v6,iV r1.1,iV r2.1] 28,.own (.slice none 0 0) 3 1 ([] : List Int).length (([] : List Int).flatMap eInt),.blk b1 [(.slice none 0 0),iV 0,iV 0] 28,.blk O [U,iV r5.2] 25] [false,true,true,true,true,true] rfl).k6 0 2 3 4 16 17 rfl
    exact Ho (Tn (Fg (Vq S Gc rfl rfl rfl fun a S=>Vm S rfl rfl fun a S=>Dl (⟨m1,⟨(x1 ++ [x3]),r5.2,FL 0 (W (x3 - r5.1)),W (x4 + 1),v6,h,S.nf [true,true,true,true,true] rfl ⟨rfl,rfl,rfl,rfl,rfl,rfl,trivial⟩⟩,Nat.lt_succ_self _⟩))))
   ·exact wp_exit (Ed (Ed (Gp (Tn (⟨x1,x2,v5,h,S.nf [true,true,true,true,true] rfl (subR rfl)⟩)))))
 clear S h;rintro a w12 ⟨x1,x2,v5,h,S⟩;rw [hj1] at h;clear hj1 j1
 refine Tn (Fr (lv S (Fp isAgg28 sizeOf28 (off:=0) (o:=0) (part:=[v5,iV r1.1,iV r2.1]) rfl rfl (S.tm rfl) (S.cellsAt (i:=1) rfl)) rfl fun a S=>Ex S (S.tm rfl) (S.tm rfl) (i:=3) (off:=0) rfl sizeOf28 (vs:=[v5,iV r1.1,iV r2.1]) rfl rfl rfl (Qz (Kq.one (Ph (S.own_at (i:=0) rfl))) (Qz rfl (Qz rfl rfl))) ?_));clear S;intro w18 hk16 S
 refine Dl (wp_ret ?_)
 obtain ⟨φ1,hl1,hs1,S⟩:=S.freezeT (xs:=x1) (enc:=eInt) (i:=0) rfl (fun c hc hh=>CF S (i:=4) rfl rfl (j:=0) rfl rfl (by simp at hc;subst hc;exact hh))
 replace S:=S.nk [.blk b4 [v5,iV r1.1,iV r2.1] 28,.own (.slice none 0 0) 3 1 ([] : List Int).length (([] : List Int).flatMap eInt),.blk b1 [v5,iV r1.1,iV r2.1] 28,.blk O [U,iV x2] 25] [(2,.pointer (some ⟨b1,0,none⟩)),(3,.pointer (some ⟨b4,0,none⟩)),(32,.agg #[v5,iV r1.1,iV r2.1])] [] rfl (subR rfl)
 obtain rfl:=Option.some.inj h
 exact Xw S (rs:=[.cell 2 28]) (vs:=[.agg (R28.enc (R28.mk ⟨v5,Kq.one (Fj (Ga Ik hs1))⟩ r1.1 r2.1)).toArray]) results15 ⟨(Ti (off:=0) S rfl isAgg28 sizeOf28 rfl (S.cellsAt (i:=2) rfl)),trivial⟩ rfl ⟨(S.holds _ (List.mem_of_getElem? (i:=3) rfl)),⟨(R28.mk ⟨v5,Kq.one (Fj (Ga Ik hs1))⟩ r1.1 r2.1),rfl,Yr S.le_newer _ _ ⟨⟨v5,Kq.one (Fj (Ga Ik hs1))⟩,rfl,(Ga Ik hs1)⟩⟩⟩
theorem AE (w : World) (Ax : Value) (Ar : List Dy) (Db : (LEnt.own Ax 42 8 Ar.length (Ar.flatMap Dy.enc)).holds w) (r : (List Dy)) (h : Pn Ar = some r) :
    Calls prog 16 [Ax].toArray w (Ret w (Ax.ownBlock.toList) fun _ v w'=>(LEnt.own Ax 42 8 r.length (r.flatMap Dy.enc)).holds w' ∧ v = .tuple #[]):=by
 refine Mv (Ax.ownBlock.toList) [.own Ax 42 8 Ar.length (Ar.flatMap Dy.enc)] func16 rfl ntmps16 rfl (fun e he=>by simp only [List.mem_singleton] at he;subst he;exact Db) (Lt _) (Nf _) fun a S=>?_
 unfold Pn at h
 replace S:=(S.nl [.own Ax 42 8 Ar.length (Ar.flatMap Dy.enc)] [true] rfl).k1 0 rfl
 refine Fr (Vm S rfl rfl fun a S=>lv S (Fq Un (S.tm rfl) (Ph (S.own_at (i:=0) rfl))) rfl fun a S=>Vq S Iu rfl rfl rfl fun a S=>Vk S rfl rfl fun a S=>Va S rfl rfl fun a S=>Dl ?_)
 replace S:=S.k3 0 2 3 rfl
 obtain ⟨j1,hj1,h⟩:=Ep h
 refine Eg (fun a w'=>∃ x1 : List Dy,j1 x1 = some r ∧ Sx w (Ax.ownBlock.toList) nov [.own Ax 42 8 x1.length (x1.flatMap Dy.enc)] [] 28 a w') ?_ ?_
 ·refine wp_block (Gx (fun (m1 : Nat) a w'=>∃ x1 : List Dy,∃ x2 : Int,∃ x3 : Int,Ja j1 m1 x1 x2 x3 = some r ∧ Sx w (Ax.ownBlock.toList) nov [.own Ax 42 8 x1.length (x1.flatMap Dy.enc)] [(0,Ax),(2,iV x2),(3,iV x3)] 28 a w') id (((W ((Ar.length : Int) - 1)) - 0).toNat + 2) ⟨Ar,0,W ((Ar.length : Int) - 1),h,S.nf [true] rfl (subR rfl)⟩ ?_)
  clear S h;rintro m1 a w1 ⟨x1,x2,x3,h,S⟩
  cases m1 with
  | zero=>rw [Ja.eq_1] at h;cases h
  | succ m1 =>
   rw [Ja.eq_2] at h
   refine Fs (Fr (Vm S rfl rfl fun a S=>Vm S rfl rfl fun a S=>Vb S Et rfl rfl rfl fun a S=>Dl (Fc h (S.tm rfl) (fun hb1 h=>?_) (fun hb1 h=>?_))))
   ·refine wp_skip (Tn (Fs (wp_block ?_)))
    obtain ⟨hc1,h⟩:=Ie h
    obtain ⟨hc2,h⟩:=Ie h
    obtain ⟨hc3,h⟩:=Ie h
    obtain ⟨hc4,h⟩:=Ie h
    refine Hd [13,15] ([]) Tryz.mixed S rfl (by kernel_rfl) ?_;clear S;intro w7 hk5 hsel S
    refine Gy 0 S hsel rfl rfl (by kernel_rfl) (by kernel_rfl) rfl (fun _=>(Rm (S.tm rfl))) fun a S=>Gy 1 S hsel rfl rfl (by kernel_rfl) (by kernel_rfl) rfl (fun _=>(Rm (S.tm rfl))) fun a S=>Gy 2 S hsel rfl rfl (by kernel_rfl) (by kernel_rfl) rfl (fun _=>(Rm (S.tm rfl))) fun a S=>Gy 3 S hsel rfl rfl (by kernel_rfl) (by kernel_rfl) rfl (fun _=>(Rm (S.tm rfl))) fun a S=>Gy 4 S hsel rfl rfl (by kernel_rfl) (by kernel_rfl) rfl (fun _=>(Rm (S.tm rfl))) fun a S=>Gy 5 S hsel rfl rfl (by kernel_rfl) (by kernel_rfl) rfl (fun _=>(Rm (S.tm rfl))) ?_;clear S;intro a S
    obtain ⟨b5,hg5,hr5⟩:=Hq (a:=a) (x:=.tmp 18) (y:=.tmp 19) (ty:=0) Un Dy.enc_ok S (i:=0) rfl (Dx hc1).1 (Dx hc1).2 (S.tm rfl) (S.tm rfl)
    refine Gy 6 S hsel rfl rfl (by kernel_rfl) (by kernel_rfl) rfl (fun _=>(hr5 _)) ?_;clear S;intro a S
    clear hr5
    refine Eb 7 S hsel rfl (by kernel_rfl) (by kernel_rfl) (by kernel_rfl) (by kernel_rfl) rfl (fun _ hw=>(Fp isAgg42 sizeOf42 (off:=x3.toNat * 8) (o:=0) (part:=(Dy.enc (nth x1 x3))) rfl rfl (S.tm rfl) ((Pi Dy.enc_ok S (i:=0) rfl hg5 (Dx hc1).1 (Ia (e':=.own Ax 42 8 x1.length (x1.flatMap Dy.enc)))).kept hw))) fun a S=>Gy 8 S hsel rfl rfl (by kernel_rfl) (by kernel_rfl) rfl (fun _=>(Rm (S.tm rfl))) fun a S=>Gy 9 S hsel rfl rfl (by kernel_rfl) (by kernel_rfl) rfl (fun _=>(Rm (S.tm rfl))) ?_;clear S;intro a S
    obtain ⟨b6,hg6,hr6⟩:=Hq (a:=a) (x:=.tmp 22) (y:=.tmp 23) (ty:=0) Un Dy.enc_ok S (i:=0) rfl (Dx hc2).1 (Dx hc2).2 (S.tm rfl) (S.tm rfl)
    refine Gy 10 S hsel rfl rfl (by kernel_rfl) (by kernel_rfl) rfl (fun _=>(hr6 _)) ?_;clear S;intro a S
    clear hr6
    refine Eb 11 S hsel rfl (by kernel_rfl) (by kernel_rfl) (by kernel_rfl) (by kernel_rfl) rfl (fun _ hw=>(Fp isAgg42 sizeOf42 (off:=x2.toNat * 8) (o:=0) (part:=(Dy.enc (nth x1 x2))) rfl rfl (S.tm rfl) ((Pi Dy.enc_ok S (i:=0) rfl hg6 (Dx hc2).1 (Ia (e':=.own Ax 42 8 x1.length (x1.flatMap Dy.enc)))).kept hw))) ?_;clear S;intro a S
    obtain ⟨b7,hg7,hr7⟩:=Hq (a:=a) (x:=.tmp 14) (y:=.tmp 15) (ty:=0) Un Dy.enc_ok S (i:=0) rfl (Dx hc3).1 (Dx hc3).2 (S.tm rfl) (S.tm rfl)
    refine Gy 12 S hsel rfl rfl (by kernel_rfl) (by kernel_rfl) rfl (fun _=>(hr7 _)) ?_;clear S;intro a S
    clear hr7
    refine Ym 13 (Ax.ownBlock.toList) rfl (by kernel_rfl) rfl (Qg (c:=0) (j:=x2.toNat) (nth x1 x3) Dy.enc_ok S (S.tm rfl) (S.tm rfl) (i:=0) rfl hg7 (Dx hc3).1 sizeOf42 (vs:=[sV ((nth x1 x3).Key),iV ((nth x1 x3).Metres),iV ((nth x1 x3).Stroke),iV ((nth x1 x3).Course),iV ((nth x1 x3).Legs),iV ((nth x1 x3).Sex),iV ((nth x1 x3).Young),iV ((nth x1 x3).Old)]) rfl rfl rfl rfl rfl ?_);clear S;intro w9 hk7 S
    refine Ld (Yn ?_)
    obtain ⟨b8,hg8,hr8⟩:=Hq (a:=a) (x:=.tmp 16) (y:=.tmp 17) (ty:=0) Un Dy.enc_ok S (i:=0) rfl (Dx hc4).1 (Dx hc4).2 (S.tm rfl) (S.tm rfl)
    refine Eb 14 S hsel rfl rfl rfl (by kernel_rfl) (by kernel_rfl) rfl (fun _ hw=>(hr8 _)) ?_;clear S;intro a S
    clear hr8
    refine He 15 (by kernel_rfl) rfl (Qg (c:=0) (j:=x3.toNat) (nth x1 x2) Dy.enc_ok S (S.tm rfl) (S.tm rfl) (i:=0) rfl hg8 (Dx hc4).1 sizeOf42 (vs:=[sV ((nth x1 x2).Key),iV ((nth x1 x2).Metres),iV ((nth x1 x2).Stroke),iV ((nth x1 x2).Course),iV ((nth x1 x2).Legs),iV ((nth x1 x2).Sex),iV ((nth x1 x2).Young),iV ((nth x1 x2).Old)]) rfl rfl rfl rfl rfl ?_);clear S;intro w11 hk9 S
    refine Ld (Ig hk9 (Xi (by kernel_rfl) ?_))
    clear hsel
    replace S:=(S.nl [.own Ax 42 8 ((x1.set x2.toNat (nth x1 x3)).set x3.toNat (nth x1 x2)).length (((x1.set x2.toNat (nth x1 x3)).set x3.toNat (nth x1 x2)).flatMap Dy.enc)] [true] rfl).k3 0 2 3 rfl
    refine Ho (Tn (Fg (Vm S rfl rfl fun a S=>Vq S Gc rfl rfl rfl fun a S=>Vm S rfl rfl fun a S=>Vq S Iu rfl rfl rfl fun a S=>Va S rfl rfl fun a S=>Va S rfl rfl fun a S=>Dl ?_)))
    exact ⟨m1,⟨((x1.set x2.toNat (nth x1 x3)).set x3.toNat (nth x1 x2)),W (x2 + 1),W (x3 - 1),h,S.nf [true] rfl ⟨rfl,rfl,rfl,trivial⟩⟩,Nat.lt_succ_self _⟩
   ·exact wp_exit (Ed (Ed (Gp (Tn (⟨x1,h,S.nf [true] rfl trivial⟩)))))
 clear S h;rintro a w2 ⟨x1,h,S⟩;rw [hj1] at h;clear hj1 j1
 obtain rfl:=Option.some.inj h
 exact Vg S results16 ⟨(S.holds _ (List.mem_of_getElem? (i:=0) rfl)),rfl⟩
theorem CU (w : World) (O : Nat) (U : Value) (Aq : List Int) (Am : Slc (view w [O]) 1 U (Aq.map eInt)) (Aj : Int) (Ao : (LEnt.blk O [U,iV Aj] 25).holds w) (r : Iw × Int) (h : Ry Aq Aj = some r) :
    Calls prog 4 [.pointer (some ⟨O,0,none⟩)].toArray w (Ret w [O] fun τ v w'=>(LEnt.blk O [U,iV r.2] 25).holds w' ∧ ∃ q : R32,v = .agg (R32.enc q).toArray ∧ Rk τ r.1 q):=by
 refine Mv [O] [.blk O [U,iV Aj] 25] func4 rfl ntmps4 rfl (fun e he=>by simp only [List.mem_singleton] at he;subst he;exact Ao) (by simp [fps,LEnt.fp]) (by simp [fps,LEnt.fp]) fun a S=>?_
 unfold Ry at h
 replace S:=(S.nl [.blk O [U,iV Aj] 25] [true] rfl).k1 0 rfl
 refine Fr (Hs S zeroValue32 (cs:=[.slice none 0 0,.slice none 0 0,iV 0,iV 0,iV 0,iV 0,iV 0]) rfl rfl ?_);clear S;intro a w1 b1 hz1 hk1 S
 refine Dz (Vm S rfl rfl ?_);clear S;intro a S
 obtain ⟨r1,hr1,h⟩:=Fa h
 have hz2:=S.keep.size
 refine Hl 1 S (b:=O) rfl rfl (fun _=>.blk O [U,iV r1.2] 25) (fun _=>Dp (vs:=[.pointer (some ⟨O,0,none⟩)]) ⟨(S.tm rfl),trivial⟩ call14) (CT _ O U Aq (Am.mono (S.le_arg (Iv (i:=1) (e:=.blk O [U,iV Aj] 25) rfl))) Aj (S.holds _ (List.mem_of_getElem? (i:=1) rfl)) _ hr1) rfl (fun _ _ _ h=>⟨h.1,fun _ hc=>by cases hc;rfl⟩) ?_;clear S;intro v1 a w2 hv1 hk2 hn1 S
 replace hv1:=hv1.2
 replace S:=S.take hn1 hz2 hv1
 refine Vm S rfl rfl ?_;clear S;intro a S
 obtain ⟨r2,hr2,h⟩:=Fa h
 have hz3:=S.keep.size
 refine Hl 2 S (b:=O) rfl rfl (fun _=>.blk O [U,iV r2.2] 25) (fun _=>Dp (vs:=[.pointer (some ⟨O,0,none⟩)]) ⟨(S.tm rfl),trivial⟩ call15) (BO _ O U Aq (Am.mono (S.le_arg (Iv (i:=2) (e:=.blk O [U,iV r1.2] 25) rfl))) r1.2 (S.holds _ (List.mem_of_getElem? (i:=2) rfl)) _ hr2) rfl (fun _ _ _ h=>⟨h.1,fun _ hc=>by cases hc;rfl⟩) ?_;clear S;intro v2 a w3 hv2 hk3 hn2 S
 replace hv2:=hv2.2
 obtain ⟨q1,rfl,hq1⟩:=hv2
 obtain ⟨φ1,hl1,hm1,S⟩:=S.see' hn2 hz3
 obtain ⟨u3,rfl,hs1⟩:=Yr hm1 _ _ hq1
 refine Vm S rfl rfl ?_;clear S;intro a S
 obtain ⟨r3,hr3,h⟩:=Fa h
 refine Hl 2 S (b:=O) rfl rfl (fun _=>.blk O [U,iV r3.2] 25) (fun _=>Dp (vs:=[.pointer (some ⟨O,0,none⟩),iV 1,iV 3]) ⟨(S.tm rfl),rfl,rfl,trivial⟩ call6) (Pm _ O U Aq (Am.mono (S.le_arg (Iv (i:=2) (e:=.blk O [U,iV r2.2] 25) rfl))) r2.2 (S.holds _ (List.mem_of_getElem? (i:=2) rfl)) 1 3 _ hr3) rfl (fun _ _ _ h=>⟨h.1,fun _ hc=>by cases hc;rfl⟩) ?_;clear S;intro v3 a w4 hv3 hk4 hn3 S
 replace hv3:=hv3.2
 subst hv3
 refine Vm S rfl rfl ?_;clear S;intro a S
 obtain ⟨r4,hr4,h⟩:=Fa h
 refine Hl 2 S (b:=O) rfl rfl (fun _=>.blk O [U,iV r4.2] 25) (fun _=>Dp (vs:=[.pointer (some ⟨O,0,none⟩),iV 1,iV 2]) ⟨(S.tm rfl),rfl,rfl,trivial⟩ call6) (Pm _ O U Aq (Am.mono (S.le_arg (Iv (i:=2) (e:=.blk O [U,iV r3.2] 25) rfl))) r3.2 (S.holds _ (List.mem_of_getElem? (i:=2) rfl)) 1 2 _ hr4) rfl (fun _ _ _ h=>⟨h.1,fun _ hc=>by cases hc;rfl⟩) ?_;clear S;intro v4 a w5 hv4 hk5 hn4 S
 replace hv4:=hv4.2
 subst hv4
 refine Vm S rfl rfl ?_;clear S;intro a S
 obtain ⟨r5,hr5,h⟩:=Fa h
 refine Hl 2 S (b:=O) rfl rfl (fun _=>.blk O [U,iV r5.2] 25) (fun _=>Dp (vs:=[.pointer (some ⟨O,0,none⟩),iV 0,iV 2]) ⟨(S.tm rfl),rfl,rfl,trivial⟩ call6) (Pm _ O U Aq (Am.mono (S.le_arg (Iv (i:=2) (e:=.blk O [U,iV r4.2] 25) rfl))) r4.2 (S.holds _ (List.mem_of_getElem? (i:=2) rfl)) 0 2 _ hr5) rfl (fun _ _ _ h=>⟨h.1,fun _ hc=>by cases hc;rfl⟩) ?_;clear S;intro v5 a w6 hv5 hk6 hn5 S
 replace hv5:=hv5.2
 subst hv5
 refine lv S (Mr bt_30 (pv:=[(0,iV r3.1),(1,iV r4.1),(2,iV r5.1)]) ⟨rfl,(S.tm rfl),rfl,(S.tm rfl),rfl,(S.tm rfl),trivial⟩ (cs:=[iV r3.1,iV r4.1,iV r5.1]) (by kernel_rfl)) rfl ?_;clear S;intro a S
 refine lv S (Mr bt_32 (pv:=[(0,v1),(1,.agg #[u3.val,iV r2.1.Relay,iV r2.1.Most]),(2,.agg #[iV r3.1,iV r4.1,iV r5.1])]) ⟨rfl,(S.tm rfl),rfl,(S.tm rfl),rfl,(S.tm rfl),trivial⟩ (cs:=[v1,u3.val,iV r2.1.Relay,iV r2.1.Most,iV r3.1,iV r4.1,iV r5.1]) (by obtain ⟨_,_,hv⟩:=(Ph (S.own_at (i:=0) rfl));rw [hv];clear hv;obtain ⟨_,_,hv⟩:=(Fj hs1);rw [hv];clear hv;kernel_rfl)) rfl ?_;clear S;intro a S
 refine Hs S zeroValue32 (cs:=[.slice none 0 0,.slice none 0 0,iV 0,iV 0,iV 0,iV 0,iV 0]) rfl rfl ?_;clear S;intro a w7 b2 hz4 hk7 S
 refine Ex S (S.tm rfl) (S.tm rfl) (i:=0) (off:=0) rfl sizeOf32 (vs:=[v1,u3.val,iV r2.1.Relay,iV r2.1.Most,iV r3.1,iV r4.1,iV r5.1]) rfl rfl rfl (Qz (Kq.one (Ph (S.own_at (i:=1) rfl))) (Qz (Kq.one (Fj hs1)) (Qz rfl (Qz rfl (Qz rfl (Qz rfl (Qz rfl rfl))))))) ?_;clear S;intro w8 hk8 S
 refine Ld ?_
 replace S:=(S.nl [.blk b2 [v1,u3.val,iV r2.1.Relay,iV r2.1.Most,iV r3.1,iV r4.1,iV r5.1] 32,.own v1 42 8 r1.1.length (r1.1.flatMap Dy.enc),.blk b1 [.slice none 0 0,.slice none 0 0,iV 0,iV 0,iV 0,iV 0,iV 0] 32,.blk O [U,iV r5.2] 25] [true,true,true,true] rfl).k2 2 3 rfl
 refine Tn (Fr (Vf Xo S rfl rfl fun a S=>Vl isAgg26 0 S rfl rfl rfl rfl ?_));clear S;intro a S
 obtain ⟨r6,hr6,h⟩:=Fa h
 refine Pd 1 S rfl (fun _=>.own v1 42 8 r6.length (r6.flatMap Dy.enc)) (fun _=>Dp (vs:=[v1]) ⟨(S.tm rfl),trivial⟩ call16) (AE _ v1 r1.1 (S.holds _ (List.mem_of_getElem? (i:=1) rfl)) _ hr6) rfl (fun _ _ _ h=>⟨h.1,fun _ hc=>hc⟩) ?_;clear S;intro v6 a w9 hv6 hk9 hn6 S
 replace hv6:=hv6.2
 subst hv6
 refine Dz (lv S (Fp isAgg32 sizeOf32 (off:=0) (o:=0) (part:=[v1,u3.val,iV r2.1.Relay,iV r2.1.Most,iV r3.1,iV r4.1,iV r5.1]) rfl rfl (S.tm rfl) (S.cellsAt (i:=0) rfl)) rfl fun a S=>Ex S (S.tm rfl) (S.tm rfl) (i:=2) (off:=0) rfl sizeOf32 (vs:=[v1,u3.val,iV r2.1.Relay,iV r2.1.Most,iV r3.1,iV r4.1,iV r5.1]) rfl rfl rfl (Qz (Kq.one (Ph (S.own_at (i:=1) rfl))) (Qz (Kq.one (Fj hs1)) (Qz rfl (Qz rfl (Qz rfl (Qz rfl (Qz rfl rfl))))))) ?_);clear S;intro w10 hk10 S
 refine Dl (wp_ret ?_)
 obtain ⟨φ2,hl2,hs2,S⟩:=S.freezeT (xs:=r6) (enc:=Dy.enc) (i:=1) rfl (fun c hc hh=>CF S (i:=3) rfl rfl (j:=1) rfl rfl (by simp at hc;subst hc;exact hh))
 replace S:=S.nk [.blk b2 [v1,u3.val,iV r2.1.Relay,iV r2.1.Most,iV r3.1,iV r4.1,iV r5.1] 32,.blk b1 [v1,u3.val,iV r2.1.Relay,iV r2.1.Most,iV r3.1,iV r4.1,iV r5.1] 32,.blk O [U,iV r5.2] 25] [(2,.pointer (some ⟨b1,0,none⟩)),(3,.pointer (some ⟨b2,0,none⟩)),(16,.pointer (some ⟨b2,0,none⟩)),(17,v1),(19,.agg #[v1,u3.val,iV r2.1.Relay,iV r2.1.Most,iV r3.1,iV r4.1,iV r5.1])] [] rfl (subR rfl)
 obtain rfl:=Option.some.inj h
 exact Xw S (rs:=[.cell 2 32]) (vs:=[.agg (R32.enc (R32.mk ⟨v1,Kq.one (Fj (Ga Dy.enc_ok hs2))⟩ (R28.mk u3 r2.1.Relay r2.1.Most) (Sy.mk r3.1 r4.1 r5.1))).toArray]) results4 ⟨(Ti (off:=0) S rfl isAgg32 sizeOf32 rfl (S.cellsAt (i:=1) rfl)),trivial⟩ rfl ⟨(S.holds _ (List.mem_of_getElem? (i:=2) rfl)),⟨(R32.mk ⟨v1,Kq.one (Fj (Ga Dy.enc_ok hs2))⟩ (R28.mk u3 r2.1.Relay r2.1.Most) (Sy.mk r3.1 r4.1 r5.1)),rfl,Ys S.le_newer _ _ ⟨⟨v1,Kq.one (Fj (Ga Dy.enc_ok hs2))⟩,(R28.mk u3 r2.1.Relay r2.1.Most),rfl,(Ga Dy.enc_ok hs2),⟨u3,rfl,(hs1.mono hl2)⟩⟩⟩⟩
theorem Ol (w : World) (O : Nat) (U : Value) (Aq : List Int) (Am : Slc (view w [O]) 1 U (Aq.map eInt)) (Aj : Int) (Ao : (LEnt.blk O [U,iV Aj] 25).holds w) (Ab : Value) (Ah : List ByteArray) (Af : Slc (view w [O]) 1 Ab (Ah.map CS)) (r : ByteArray × Int) (h : Nv Aq Aj Ah = some r) :
    Calls prog 33 [.pointer (some ⟨O,0,none⟩),Ab].toArray w (Ret w [O] fun _ v w'=>(LEnt.blk O [U,iV r.2] 25).holds w' ∧ v = sV r.1):=by
 refine Mv [O] [.blk O [U,iV Aj] 25] func33 rfl ntmps33 rfl (fun e he=>by simp only [List.mem_singleton] at he;subst he;exact Ao) (by simp [fps,LEnt.fp]) (by simp [fps,LEnt.fp]) fun a S=>?_
 unfold Nv at h
 replace S:=(S.nl [.blk O [U,iV Aj] 25] [true] rfl).k2 0 1 rfl
 refine Fr (Vk S rfl rfl fun a S=>Dl (Fs (Fg ?_)))
 iterate 3 (refine Vm S rfl rfl ?_;clear S;intro a S)
 refine lv S (Fq Zd (S.tm rfl) (Fj Af)) rfl ?_;clear S;intro a S
 obtain ⟨r1,hr1,h⟩:=Fa h
 refine Hl 0 S (b:=O) rfl rfl (fun _=>.blk O [U,iV r1.2] 25) (fun _=>Dp (vs:=[.pointer (some ⟨O,0,none⟩),iV (Ah.length : Int)]) ⟨(S.tm rfl),(S.tm rfl),trivial⟩ call19) (Tq _ O U Aq (Am.mono (S.le_arg (Iv (i:=0) (e:=.blk O [U,iV Aj] 25) rfl))) Aj (S.holds _ (List.mem_of_getElem? (i:=0) rfl)) (Ah.length : Int) _ hr1) rfl (fun _ _ _ h=>⟨h.1,fun _ hc=>by cases hc;rfl⟩) ?_;clear S;intro v1 a w1 hv1 hk1 hn1 S
 replace hv1:=hv1.2
 subst hv1
 obtain ⟨hc1,h⟩:=Ie h
 obtain ⟨b1,o1,hm1,hr2⟩:=Ev (a:=a) (x:=.tmp 5) (y:=.tmp 9) (ty:=0) Zd Af (Dx hc1).1 (Dx hc1).2 (S.tm rfl) (S.tm rfl)
 refine lv S (hr2 _) rfl ?_;clear S;intro a S
 clear hr2
 refine lv S (Hm isAgg9 (off:=o1) (o:=0) (S.tm rfl) (hm1.at S.emb0) rfl) rfl fun a S=>Va S rfl rfl fun a S=>Dl (wp_ret ?_)
 obtain rfl:=Option.some.inj h
 exact Ej S results33 rfl ⟨(S.holds _ (List.mem_of_getElem? (i:=0) rfl)),rfl⟩
theorem Up (w : World) (O : Nat) (U : Value) (Aq : List Int) (Am : Slc (view w [O]) 1 U (Aq.map eInt)) (Aj : Int) (Ao : (LEnt.blk O [U,iV Aj] 25).holds w) (Bp : Int) (Bh : Int) (r : Int × Int) (h : Sg Aq Aj Bp Bh = some r) :
    Calls prog 34 [.pointer (some ⟨O,0,none⟩),iV Bp,iV Bh].toArray w (Ret w [O] fun _ v w'=>(LEnt.blk O [U,iV r.2] 25).holds w' ∧ v = iV r.1):=by
 refine Mv [O] [.blk O [U,iV Aj] 25] func34 rfl ntmps34 rfl (fun e he=>by simp only [List.mem_singleton] at he;subst he;exact Ao) (by simp [fps,LEnt.fp]) (by simp [fps,LEnt.fp]) fun a S=>?_
 unfold Sg at h
 replace S:=(S.nl [.blk O [U,iV Aj] 25] [true] rfl).k3 0 1 2 rfl
 refine Fr (Vk S rfl rfl fun a S=>Dl (Fs (Fr (Vm S rfl rfl ?_))));clear S;intro a S
 obtain ⟨r1,hr1,h⟩:=Fa h
 refine Hl 0 S (b:=O) rfl rfl (fun _=>.blk O [U,iV r1.2] 25) (fun _=>Dp (vs:=[.pointer (some ⟨O,0,none⟩),iV 12]) ⟨(S.tm rfl),rfl,trivial⟩ call30) (Ya _ O U Aq (Am.mono (S.le_arg (Iv (i:=0) (e:=.blk O [U,iV Aj] 25) rfl))) Aj (S.holds _ (List.mem_of_getElem? (i:=0) rfl)) 12 _ hr1) rfl (fun _ _ _ h=>⟨h.1,fun _ hc=>by cases hc;rfl⟩) ?_;clear S;intro v1 a w1 hv1 hk1 hn1 S
 replace hv1:=hv1.2
 subst hv1
 refine Dl (Fc h (S.tm rfl) (fun hb1 h=>?_) (fun hb1 h=>?_))
 ·refine Fr (Vm S rfl rfl fun a S=>Vm S rfl rfl fun a S=>Vq S Iu rfl rfl rfl fun a S=>Vm S rfl rfl fun a S=>Vq S Gc rfl rfl rfl fun a S=>Vm S rfl rfl fun a S=>Vm S rfl rfl fun a S=>Er S underlying22 sizeOf3 zeroValue3 rfl rfl (pv:=[(0,iV (W (Bp - 1))),(1,iV (W (Bh + 1))),(2,iV Bp),(3,iV Bh),(4,iV (-1099511627776)),(5,iV 1099511627776)]) ⟨rfl,(S.tm rfl),rfl,(S.tm rfl),rfl,(S.tm rfl),rfl,(S.tm rfl),rfl,rfl,rfl,rfl,trivial⟩ (cs:=[iV (W (Bp - 1)),iV (W (Bh + 1)),iV Bp,iV Bh,iV (-1099511627776),iV 1099511627776]) (by kernel_rfl) rfl ?_);clear S;intro a w2 b1 hz1 hk2 S
  obtain ⟨r2,hr2,h⟩:=Fa h
  refine Hl 1 S (b:=O) rfl rfl (fun _=>.blk O [U,iV r2.2] 25) (fun _=>Dp (vs:=[.pointer (some ⟨O,0,none⟩),.slice (some ⟨b1,0,none⟩) 6 6]) ⟨(S.tm rfl),(S.tm rfl),trivial⟩ call32) (Je _ O U Aq (Am.mono (S.le_arg (Iv (i:=1) (e:=.blk O [U,iV r1.2] 25) rfl))) r1.2 (S.holds _ (List.mem_of_getElem? (i:=1) rfl)) (.slice (some ⟨b1,0,none⟩) 6 6) [W (Bp - 1),W (Bh + 1),Bp,Bh,(-1099511627776),1099511627776] (Jx Ik S (i:=0) rfl rfl rfl rfl ((Mo (i:=1) (j:=0) (e:=.blk O [U,iV r1.2] 25) (e':=.blk b1 [iV (W (Bp - 1)),iV (W (Bh + 1)),iV Bp,iV Bh,iV (-1099511627776),iV 1099511627776] 3) S rfl rfl rfl) _ rfl)) _ hr2) rfl (fun _ _ _ h=>⟨h.1,fun _ hc=>by cases hc;rfl⟩) ?_;clear S;intro v2 a w3 hv2 hk3 hn2 S
  replace hv2:=hv2.2
  subst hv2
  refine Va S rfl rfl fun a S=>Ld ?_
  replace S:=(S.nl [.blk O [U,iV r2.2] 25] [false,true] rfl).k1 6 rfl
  refine Tn (wp_ret (Dt ?_))
  obtain rfl:=Option.some.inj h
  exact Ej S results34 rfl ⟨(S.holds _ (List.mem_of_getElem? (i:=0) rfl)),rfl⟩
 ·refine wp_skip (Tn (Fs (Fg ?_)))
  iterate 3 (refine Vm S rfl rfl ?_;clear S;intro a S)
  obtain ⟨r3,hr3,h⟩:=Fa h
  refine Hl 0 S (b:=O) rfl rfl (fun _=>.blk O [U,iV r3.2] 25) (fun _=>Dp (vs:=[.pointer (some ⟨O,0,none⟩),iV Bp,iV Bh]) ⟨(S.tm rfl),(S.tm rfl),(S.tm rfl),trivial⟩ call6) (Pm _ O U Aq (Am.mono (S.le_arg (Iv (i:=0) (e:=.blk O [U,iV r1.2] 25) rfl))) r1.2 (S.holds _ (List.mem_of_getElem? (i:=0) rfl)) Bp Bh _ hr3) rfl (fun _ _ _ h=>⟨h.1,fun _ hc=>by cases hc;rfl⟩) ?_;clear S;intro v3 a w4 hv3 hk4 hn3 S
  replace hv3:=hv3.2
  subst hv3
  refine Va S rfl rfl fun a S=>Dl (wp_ret ?_)
  obtain rfl:=Option.some.inj h
  exact Ej S results34 rfl ⟨(S.holds _ (List.mem_of_getElem? (i:=0) rfl)),rfl⟩
theorem Zf (w : World) (Ba : Int) (r : Int) (h : Ul Ba = r) :
    Calls prog 69 [iV Ba].toArray w (Ret w [] fun _ v _=>v = iV r):=by
 refine Fe func69 rfl ntmps69 rfl fun a S=>?_
 unfold Ul at h
 replace S:=S.k1 0 rfl
 refine Fr (Vk S rfl rfl fun a S=>Dl (Fs (wp_block (Fr (Vm S rfl rfl fun a S=>Vq S Et rfl rfl rfl ?_)))));clear S;intro a S
 refine Va S rfl rfl fun a S=>Dl (Fc h (S.tm rfl) (fun hb1 h=>?_) (fun hb1 h=>?_))
 ·refine Fr (Vk S rfl rfl fun a S=>Dl (wp_ret (Fl (Dt ?_))))
  subst h
  exact Ej S results69 rfl rfl
 ·refine Fr (Vm S rfl rfl fun a S=>Vq S It rfl rfl rfl fun a S=>Va S rfl rfl fun a S=>Dl (Fc h (S.tm rfl) (fun hb2 h=>?_) (fun hb2 h=>?_)))
  ·refine Fr (Vk S rfl rfl fun a S=>Dl (wp_ret (Fl (Dt ?_))))
   subst h
   exact Ej S results69 rfl rfl
  ·refine wp_skip (Ho (Tn (Fr (Vk S rfl rfl fun a S=>Dl (wp_ret ?_)))))
   subst h
   exact Ej S results69 rfl rfl
theorem Ot (w : World) (s t : ByteArray) (r : Int) (h : Hp s t = r) : Calls prog 53 [.string s,.string t].toArray w (Ret w [] fun _ v _=>v = .int .i64 r):=by
  subst h
  exact GH (Any.strings_Compare Tryz.lays106 s t w)
theorem We (w : World) (Ap : Dk) (Au : Dk) (r : Int) (h : Jn Ap Au = r) :
    Calls prog 36 [.agg (Dk.enc Ap).toArray,.agg (Dk.enc Au).toArray].toArray w (Ret w [] fun _ v _=>v = iV r):=by
 refine Fe func36 rfl ntmps36 rfl fun a S=>?_
 unfold Jn at h
 replace S:=S.k2 0 1 rfl
 refine Fr (Mn S (S.tm rfl) (cs:=(Dk.enc Ap)) rfl rfl ?_);clear S;intro a w1 b1 hz1 hk1 S
 refine Mn S (S.tm rfl) (cs:=(Dk.enc Au)) rfl rfl ?_;clear S;intro a w2 b2 hz2 hk2 S
 refine Vk S rfl rfl fun a S=>Dl (Fs (wp_block (Fr (Vf Sr S rfl rfl fun a S=>Vl isAgg3 1 S rfl rfl rfl rfl fun a S=>Vf Sr S rfl rfl fun a S=>Vl isAgg3 0 S rfl rfl rfl rfl ?_))));clear S;intro a S
 refine Vb S Kw rfl rfl rfl fun a S=>Va S rfl rfl fun a S=>Dl (Fc h (S.tm rfl) (fun hb1 h=>?_) (fun hb1 h=>?_))
 ·refine Fr (Vf Sr S rfl rfl fun a S=>Vl isAgg3 1 S rfl rfl rfl rfl fun a S=>Vf Sr S rfl rfl fun a S=>Vl isAgg3 0 S rfl rfl rfl rfl fun a S=>Vb S Iu rfl rfl rfl fun a S=>Dw S (fun _=>Dp (vs:=[iV (W (Ap.At - Au.At))]) ⟨(S.tm rfl),trivial⟩ call69) (Zf _ (W (Ap.At - Au.At)) _ rfl) rfl ?_);clear S;intro v1 a w3 hv1 hk3 hn1 S
  subst hv1
  refine Va S rfl rfl fun a S=>Ld ?_
  replace S:=S.n0.k1 4 rfl
  refine Tn (wp_ret (Fl (Dt ?_)))
  subst h
  exact Ej S results36 rfl rfl
 ·refine Fr (Vf Pq S rfl rfl fun a S=>Vl isAgg9 1 S rfl rfl rfl rfl fun a S=>Vf Pq S rfl rfl fun a S=>Vl isAgg9 0 S rfl rfl rfl rfl fun a S=>Vb S CE rfl rfl rfl fun a S=>Va S rfl rfl fun a S=>Ld ?_)
  replace S:=(S.nl [.blk b2 (Dk.enc Au) 101,.blk b1 (Dk.enc Ap) 101] [true,true] rfl).k3 2 3 17 rfl
  refine Tn (Fc h (S.tm rfl) (fun hb2 h=>?_) (fun hb2 h=>?_))
  ·refine Fr (Vf Pq S rfl rfl fun a S=>Vl isAgg9 1 S rfl rfl rfl rfl fun a S=>Vf Pq S rfl rfl fun a S=>Vl isAgg9 0 S rfl rfl rfl rfl fun a S=>Dw S (fun _=>Dp (vs:=[sV Ap.Site,sV Au.Site]) ⟨(S.tm rfl),(S.tm rfl),trivial⟩ call53) (Ot _ Ap.Site Au.Site _ rfl) rfl ?_);clear S;intro v2 a w4 hv2 hk4 hn2 S
   subst hv2
   refine Va S rfl rfl fun a S=>Dl (wp_ret (Fl (Dt ?_)))
   subst h
   exact Ej S results36 rfl rfl
  ·refine wp_skip (Ho (Tn (Fr (Vf Sc S rfl rfl fun a S=>Vl isAgg3 1 S rfl rfl rfl rfl fun a S=>Vf Sc S rfl rfl fun a S=>Vl isAgg3 0 S rfl rfl rfl rfl fun a S=>Vb S Iu rfl rfl rfl fun a S=>Dw S (fun _=>Dp (vs:=[iV (W (Ap.No - Au.No))]) ⟨(S.tm rfl),trivial⟩ call69) (Zf _ (W (Ap.No - Au.No)) _ rfl) rfl ?_))));clear S;intro v3 a w5 hv3 hk5 hn3 S
   subst hv3
   refine Va S rfl rfl fun a S=>Dl (wp_ret ?_)
   subst h
   exact Ej S results36 rfl rfl
set_option maxRecDepth 20000 in
theorem Mg (w : World) (Aa : Value) (Av : List Dk) (Bn : (LEnt.own Aa 101 11 Av.length (Av.flatMap Dk.enc)).holds w) (Ap : Int) (Au : Int) (r : (List Dk)) (h : Ha Av Ap Au = some r) :
    Calls prog 100 [Aa,iV Ap,iV Au,.func (.func 36) #[] #[]].toArray w (Ret w (Aa.ownBlock.toList) fun _ v w'=>(LEnt.own Aa 101 11 r.length (r.flatMap Dk.enc)).holds w' ∧ v = .tuple #[]):=by
 refine Mv (Aa.ownBlock.toList) [.own Aa 101 11 Av.length (Av.flatMap Dk.enc)] func100 rfl ntmps100 rfl (fun e he=>by simp only [List.mem_singleton] at he;subst he;exact Bn) (Lt _) (Nf _) fun a S=>?_
 unfold Ha at h
 replace S:=(S.nl [.own Aa 101 11 Av.length (Av.flatMap Dk.enc)] [true] rfl).k4 0 1 2 3 rfl
 refine Fr (Vm S rfl rfl fun a S=>Vq S Gc rfl rfl rfl fun a S=>Va S rfl rfl fun a S=>Dl ?_)
 replace S:=S.k5 0 1 2 3 8 rfl
 obtain ⟨j1,hj1,h⟩:=Ep h
 refine Eg (fun a w'=>∃ x1 : List Dk,j1 x1 = some r ∧ Sx w (Aa.ownBlock.toList) nov [.own Aa 101 11 x1.length (x1.flatMap Dk.enc)] [] 53 a w') ?_ ?_
 ·refine wp_block (Gx (fun (m1 : Nat) a w'=>∃ x1 : List Dk,∃ x2 : Int,Ey Au Ap j1 m1 x1 x2 = some r ∧ Sx w (Aa.ownBlock.toList) nov [.own Aa 101 11 x1.length (x1.flatMap Dk.enc)] [(0,Aa),(1,iV Ap),(2,iV Au),(3,.func (.func 36) #[] #[]),(8,iV x2)] 53 a w') id ((Au - (W (Ap + 1))).toNat + 2) ⟨Av,W (Ap + 1),h,S.nf [true] rfl (subR rfl)⟩ ?_)
  clear S h;rintro m1 a w1 ⟨x1,x2,h,S⟩
  cases m1 with
  | zero=>rw [Ey.eq_1] at h;cases h
  | succ m1 =>
   rw [Ey.eq_2] at h
   refine Fs (Fr (Vm S rfl rfl fun a S=>Vm S rfl rfl fun a S=>Vb S Et rfl rfl rfl fun a S=>Dl (Fc h (S.tm rfl) (fun hb1 h=>?_) (fun hb1 h=>?_))))
   ·refine wp_skip (Tn (Fs (wp_block (Fr (Vm S rfl rfl fun a S=>Va S rfl rfl fun a S=>Dl ?_)))))
    replace S:=S.k6 0 1 2 3 8 9 rfl
    obtain ⟨j2,hj2,h⟩:=Ep h
    refine Eg (fun a w'=>∃ x3 : List Dk,j2 x3 = some r ∧ Sx w (Aa.ownBlock.toList) nov [.own Aa 101 11 x3.length (x3.flatMap Dk.enc)] [(0,Aa),(1,iV Ap),(2,iV Au),(3,.func (.func 36) #[] #[]),(8,iV x2)] 53 a w') ?_ ?_
    ·refine wp_block (Gx (fun (m2 : Nat) a w'=>∃ x3 : List Dk,∃ x4 : Int,Eh Ap j2 m2 x3 x4 = some r ∧ Sx w (Aa.ownBlock.toList) nov [.own Aa 101 11 x3.length (x3.flatMap Dk.enc)] [(0,Aa),(1,iV Ap),(2,iV Au),(3,.func (.func 36) #[] #[]),(8,iV x2),(9,iV x4)] 53 a w') id ((x2 - Ap).toNat + 2) ⟨x1,x2,h,S.nf [true] rfl (subR rfl)⟩ ?_)
     clear S h;rintro m2 a w3 ⟨x3,x4,h,S⟩
     cases m2 with
     | zero=>rw [Eh.eq_1] at h;cases h
     | succ m2 =>
      rw [Eh.eq_2] at h
      refine Fs (Fs ?_)
      obtain ⟨j3,hj3,h⟩:=Ep h
      refine Eg (fun a w'=>∃ x5 : Bool,j3 x5 = some r ∧ Sx w (Aa.ownBlock.toList) nov [.own Aa 101 11 x3.length (x3.flatMap Dk.enc)] [(0,Aa),(1,iV Ap),(2,iV Au),(3,.func (.func 36) #[] #[]),(8,iV x2),(9,iV x4),(34,bV x5)] 53 a w') ?_ ?_
      ·rcases Bool.eq_false_or_eq_true (decide (Ap < x4)) with hb2 | hb2
       ·replace h:=Qc h hb2
        obtain ⟨hc1,h⟩:=Ie h
        obtain ⟨hc2,h⟩:=Ie h
        refine Hd [] ([]) Tryz.mixed S rfl (by kernel_rfl) ?_;clear S;intro w7 hk2 hsel S
        refine Eb 0 S hsel rfl rfl rfl (by kernel_rfl) (by kernel_rfl) rfl (fun _ hw=>(Rm (S.tm rfl))) fun a S=>Eb 1 S hsel rfl rfl rfl (by kernel_rfl) (by kernel_rfl) rfl (fun _ hw=>(Rm (S.tm rfl))) fun a S=>Eb 2 S hsel rfl rfl rfl (by kernel_rfl) (by kernel_rfl) rfl (fun _ hw=>(It (S.tm rfl) (S.tm rfl))) fun a S=>Eb 3 S hsel rfl rfl rfl (by kernel_rfl) (by kernel_rfl) rfl (fun _ hw=>(Rm (S.tm rfl))) fun a S=>Eu 4 S hsel rfl rfl rfl rfl hb2 rfl rfl (by kernel_rfl) (by kernel_rfl) rfl (fun _ hw=>(Rm (S.tm rfl))) fun a S=>Eu 5 S hsel rfl rfl rfl rfl hb2 rfl rfl (by kernel_rfl) (by kernel_rfl) rfl (fun _ hw=>(Rm (S.tm rfl))) fun a S=>Eu 6 S hsel rfl rfl rfl rfl hb2 rfl rfl (by kernel_rfl) (by kernel_rfl) rfl (fun _ hw=>(Rm (S.tm rfl))) ?_;clear S;intro a S
        obtain ⟨b3,hg3,hr3⟩:=Hq (a:=a) (x:=.tmp 23) (y:=.tmp 24) (ty:=0) Nj Dk.enc_ok S (i:=0) rfl (Dx hc1).1 (Dx hc1).2 (S.tm rfl) (S.tm rfl)
        refine Eu 7 S hsel rfl rfl rfl rfl hb2 rfl rfl (by kernel_rfl) (by kernel_rfl) rfl (fun _ hw=>(hr3 _)) ?_;clear S;intro a S
        clear hr3
        refine Eu 8 S hsel rfl rfl rfl rfl hb2 rfl rfl (by kernel_rfl) (by kernel_rfl) rfl (fun _ hw=>(Fp isAgg101 sizeOf101 (off:=x4.toNat * 11) (o:=0) (part:=(Dk.enc (nth x3 x4))) rfl rfl (S.tm rfl) ((Pi Dk.enc_ok S (i:=0) rfl hg3 (Dx hc1).1 (Ia (e':=.own Aa 101 11 x3.length (x3.flatMap Dk.enc)))).kept hw))) fun a S=>Eu 9 S hsel rfl rfl rfl rfl hb2 rfl rfl (by kernel_rfl) (by kernel_rfl) rfl (fun _ hw=>(Rm (S.tm rfl))) fun a S=>Eu 10 S hsel rfl rfl rfl rfl hb2 rfl rfl (by kernel_rfl) (by kernel_rfl) rfl (fun _ hw=>(Rm (S.tm rfl))) fun a S=>Eu 11 S hsel rfl rfl rfl rfl hb2 rfl rfl (by kernel_rfl) (by kernel_rfl) rfl (fun _ hw=>(Iu (S.tm rfl) rfl)) ?_;clear S;intro a S
        obtain ⟨b4,hg4,hr4⟩:=Hq (a:=a) (x:=.tmp 27) (y:=.tmp 29) (ty:=0) Nj Dk.enc_ok S (i:=0) rfl (Dx hc2).1 (Dx hc2).2 (S.tm rfl) (S.tm rfl)
        refine Eu 12 S hsel rfl rfl rfl rfl hb2 rfl rfl (by kernel_rfl) (by kernel_rfl) rfl (fun _ hw=>(hr4 _)) ?_;clear S;intro a S
        clear hr4
        refine Eu 13 S hsel rfl rfl rfl rfl hb2 rfl rfl (by kernel_rfl) (by kernel_rfl) rfl (fun _ hw=>(Fp isAgg101 sizeOf101 (off:=((W (x4 - 1)).toNat) * 11) (o:=0) (part:=(Dk.enc (nth x3 (W (x4 - 1))))) rfl rfl (S.tm rfl) ((Pi Dk.enc_ok S (i:=0) rfl hg4 (Dx hc2).1 (Ia (e':=.own Aa 101 11 x3.length (x3.flatMap Dk.enc)))).kept hw))) fun a S=>He 14 (by kernel_rfl) rfl (Du S rfl rfl rfl hb2 (Dw S (fun _=>Ts (cap:=[]) (S.tm rfl) (vs:=[.agg (Dk.enc (nth x3 x4)).toArray,.agg (Dk.enc (nth x3 (W (x4 - 1)))).toArray]) ⟨(S.tm rfl),(S.tm rfl),trivial⟩ call36) (We _ (nth x3 x4) (nth x3 (W (x4 - 1))) _ rfl) rfl ?_));clear S;intro v2 a w8 hv2 hk3 hn2 S
        subst hv2
        refine Ld (Ig hk3 (Lw [15,16] hsel (by kernel_rfl) rfl ?_))
        clear hsel
        refine Ee S rfl rfl rfl rfl hb2 (Fb S (Et (S.tm rfl) rfl) rfl fun a S=>Gm S rfl (Qu hb2 (S.tm rfl) (S.tm rfl)) rfl fun a S=>Hv ?_)
        replace S:=S.nk [.own Aa 101 11 x3.length (x3.flatMap Dk.enc)] [(0,Aa),(1,iV Ap),(2,iV Au),(3,.func (.func 36) #[] #[]),(8,iV x2),(9,iV x4),(22,.func (.func 36) #[] #[]),(23,Aa),(24,iV x4),(25,.pointer (some ⟨b3,x4.toNat * 11,none⟩)),(26,.agg (Dk.enc (nth x3 x4)).toArray),(27,Aa),(28,iV x4),(29,iV (W (x4 - 1))),(30,.pointer (some ⟨b4,((W (x4 - 1)).toNat) * 11,none⟩)),(31,.agg (Dk.enc (nth x3 (W (x4 - 1)))).toArray),(32,iV (Jn (nth x3 x4) (nth x3 (W (x4 - 1))))),(33,bV (decide ((Jn (nth x3 x4) (nth x3 (W (x4 - 1)))) < 0))),(34,bV (decide ((Jn (nth x3 x4) (nth x3 (W (x4 - 1)))) < 0)))] [true] rfl (subR rfl)
        exact Tn (⟨decide ((Jn (nth x3 x4) (nth x3 (W (x4 - 1)))) < 0),h,S.nf [true] rfl (subR rfl)⟩)
       ·replace h:=Qd h hb2
        refine Hd [] ([]) Tryz.mixed S rfl (by kernel_rfl) ?_;clear S;intro w9 hk4 hsel S
        refine Lw [0,1,2,3,4,5,6,7,8,9,10,11,12,13,14,15,16] hsel (by kernel_rfl) rfl ?_
        clear hsel
        refine Gm S rfl (Rm (S.tm rfl)) rfl fun a S=>Gm S rfl (Rm (S.tm rfl)) rfl fun a S=>Gm S rfl (It (S.tm rfl) (S.tm rfl)) rfl fun a S=>Gm S rfl (Rm (S.tm rfl)) rfl ?_;clear S;intro a S
        iterate 12 (refine Nk S rfl rfl rfl rfl (Jh hb2) rfl ?_ rfl;clear S;intro a S)
        refine Gm S rfl (Qv hb2 (S.tm rfl) rfl) rfl fun a S=>Hv ?_
        replace S:=S.k7 0 1 2 3 8 9 34 rfl
        exact Tn (⟨false,h,S.nf [true] rfl (subR rfl)⟩)
      clear S h;rintro a w5 ⟨x5,h,S⟩;rw [hj3] at h;clear hj3 j3
      refine Tn (Fc h (S.tm rfl) (fun hb3 h=>?_) (fun hb3 h=>?_))
      ·refine wp_skip (Tn (Fs (wp_block ?_)))
       obtain ⟨hc3,h⟩:=Ie h
       obtain ⟨hc4,h⟩:=Ie h
       obtain ⟨hc5,h⟩:=Ie h
       obtain ⟨hc6,h⟩:=Ie h
       refine Hd [15,17] ([]) Tryz.mixed S rfl (by kernel_rfl) ?_;clear S;intro w14 hk9 hsel S
       refine Gy 0 S hsel rfl rfl (by kernel_rfl) (by kernel_rfl) rfl (fun _=>(Rm (S.tm rfl))) fun a S=>Gy 1 S hsel rfl rfl (by kernel_rfl) (by kernel_rfl) rfl (fun _=>(Rm (S.tm rfl))) fun a S=>Gy 2 S hsel rfl rfl (by kernel_rfl) (by kernel_rfl) rfl (fun _=>(Rm (S.tm rfl))) fun a S=>Gy 3 S hsel rfl rfl (by kernel_rfl) (by kernel_rfl) rfl (fun _=>(Rm (S.tm rfl))) fun a S=>Gy 4 S hsel rfl rfl (by kernel_rfl) (by kernel_rfl) rfl (fun _=>(Iu (S.tm rfl) rfl)) fun a S=>Gy 5 S hsel rfl rfl (by kernel_rfl) (by kernel_rfl) rfl (fun _=>(Rm (S.tm rfl))) fun a S=>Gy 6 S hsel rfl rfl (by kernel_rfl) (by kernel_rfl) rfl (fun _=>(Rm (S.tm rfl))) fun a S=>Gy 7 S hsel rfl rfl (by kernel_rfl) (by kernel_rfl) rfl (fun _=>(Iu (S.tm rfl) rfl)) ?_;clear S;intro a S
       obtain ⟨b9,hg9,hr9⟩:=Hq (a:=a) (x:=.tmp 42) (y:=.tmp 44) (ty:=0) Nj Dk.enc_ok S (i:=0) rfl (Dx hc3).1 (Dx hc3).2 (S.tm rfl) (S.tm rfl)
       refine Gy 8 S hsel rfl rfl (by kernel_rfl) (by kernel_rfl) rfl (fun _=>(hr9 _)) ?_;clear S;intro a S
       clear hr9
       refine Eb 9 S hsel rfl (by kernel_rfl) (by kernel_rfl) (by kernel_rfl) (by kernel_rfl) rfl (fun _ hw=>(Fp isAgg101 sizeOf101 (off:=((W (x4 - 1)).toNat) * 11) (o:=0) (part:=(Dk.enc (nth x3 (W (x4 - 1))))) rfl rfl (S.tm rfl) ((Pi Dk.enc_ok S (i:=0) rfl hg9 (Dx hc3).1 (Ia (e':=.own Aa 101 11 x3.length (x3.flatMap Dk.enc)))).kept hw))) fun a S=>Gy 10 S hsel rfl rfl (by kernel_rfl) (by kernel_rfl) rfl (fun _=>(Rm (S.tm rfl))) fun a S=>Gy 11 S hsel rfl rfl (by kernel_rfl) (by kernel_rfl) rfl (fun _=>(Rm (S.tm rfl))) ?_;clear S;intro a S
       obtain ⟨b10,hg10,hr10⟩:=Hq (a:=a) (x:=.tmp 47) (y:=.tmp 48) (ty:=0) Nj Dk.enc_ok S (i:=0) rfl (Dx hc4).1 (Dx hc4).2 (S.tm rfl) (S.tm rfl)
       refine Gy 12 S hsel rfl rfl (by kernel_rfl) (by kernel_rfl) rfl (fun _=>(hr10 _)) ?_;clear S;intro a S
       clear hr10
       refine Eb 13 S hsel rfl (by kernel_rfl) (by kernel_rfl) (by kernel_rfl) (by kernel_rfl) rfl (fun _ hw=>(Fp isAgg101 sizeOf101 (off:=x4.toNat * 11) (o:=0) (part:=(Dk.enc (nth x3 x4))) rfl rfl (S.tm rfl) ((Pi Dk.enc_ok S (i:=0) rfl hg10 (Dx hc4).1 (Ia (e':=.own Aa 101 11 x3.length (x3.flatMap Dk.enc)))).kept hw))) ?_;clear S;intro a S
       obtain ⟨b11,hg11,hr11⟩:=Hq (a:=a) (x:=.tmp 37) (y:=.tmp 38) (ty:=0) Nj Dk.enc_ok S (i:=0) rfl (Dx hc5).1 (Dx hc5).2 (S.tm rfl) (S.tm rfl)
       refine Gy 14 S hsel rfl rfl (by kernel_rfl) (by kernel_rfl) rfl (fun _=>(hr11 _)) ?_;clear S;intro a S
       clear hr11
       refine Ym 15 (Aa.ownBlock.toList) rfl (by kernel_rfl) rfl (Qg (c:=0) (j:=x4.toNat) (nth x3 (W (x4 - 1))) Dk.enc_ok S (S.tm rfl) (S.tm rfl) (i:=0) rfl hg11 (Dx hc5).1 sizeOf101 (vs:=[sV ((nth x3 (W (x4 - 1))).Site),iV ((nth x3 (W (x4 - 1))).No),iV ((nth x3 (W (x4 - 1))).At),iV ((nth x3 (W (x4 - 1))).Kind),sV ((nth x3 (W (x4 - 1))).Who),sV ((nth x3 (W (x4 - 1))).Club),sV ((nth x3 (W (x4 - 1))).Race),iV ((nth x3 (W (x4 - 1))).Time),iV ((nth x3 (W (x4 - 1))).Fault),sV ((nth x3 (W (x4 - 1))).Of),iV ((nth x3 (W (x4 - 1))).Other)]) rfl rfl rfl rfl rfl ?_);clear S;intro w16 hk11 S
       refine Ld (Yn ?_)
       obtain ⟨b12,hg12,hr12⟩:=Hq (a:=a) (x:=.tmp 39) (y:=.tmp 41) (ty:=0) Nj Dk.enc_ok S (i:=0) rfl (Dx hc6).1 (Dx hc6).2 (S.tm rfl) (S.tm rfl)
       refine Eb 16 S hsel rfl rfl rfl (by kernel_rfl) (by kernel_rfl) rfl (fun _ hw=>(hr12 _)) ?_;clear S;intro a S
       clear hr12
       refine He 17 (by kernel_rfl) rfl (Qg (c:=0) (j:=(W (x4 - 1)).toNat) (nth x3 x4) Dk.enc_ok S (S.tm rfl) (S.tm rfl) (i:=0) rfl hg12 (Dx hc6).1 sizeOf101 (vs:=[sV ((nth x3 x4).Site),iV ((nth x3 x4).No),iV ((nth x3 x4).At),iV ((nth x3 x4).Kind),sV ((nth x3 x4).Who),sV ((nth x3 x4).Club),sV ((nth x3 x4).Race),iV ((nth x3 x4).Time),iV ((nth x3 x4).Fault),sV ((nth x3 x4).Of),iV ((nth x3 x4).Other)]) rfl rfl rfl rfl rfl ?_);clear S;intro w18 hk13 S
       refine Ld (Ig hk13 (Xi (by kernel_rfl) ?_))
       clear hsel
       replace S:=(S.nl [.own Aa 101 11 ((x3.set x4.toNat (nth x3 (W (x4 - 1)))).set ((W (x4 - 1)).toNat) (nth x3 x4)).length (((x3.set x4.toNat (nth x3 (W (x4 - 1)))).set ((W (x4 - 1)).toNat) (nth x3 x4)).flatMap Dk.enc)] [true] rfl).k6 0 1 2 3 8 9 rfl
       exact Ho (Tn (Fg (Vm S rfl rfl fun a S=>Vq S Iu rfl rfl rfl fun a S=>Va S rfl rfl fun a S=>Dl (⟨m2,⟨((x3.set x4.toNat (nth x3 (W (x4 - 1)))).set ((W (x4 - 1)).toNat) (nth x3 x4)),W (x4 - 1),h,S.nf [true] rfl ⟨rfl,rfl,rfl,rfl,rfl,rfl,trivial⟩⟩,Nat.lt_succ_self _⟩))))
      ·exact wp_exit (Ed (Ed (Gp (Tn (⟨x3,h,S.nf [true] rfl (subR rfl)⟩)))))
    clear S h;rintro a w4 ⟨x3,h,S⟩;rw [hj2] at h;clear hj2 j2
    exact Ho (Tn (Fg (Vm S rfl rfl fun a S=>Vq S Gc rfl rfl rfl fun a S=>Va S rfl rfl fun a S=>Dl (⟨m1,⟨x3,W (x2 + 1),h,S.nf [true] rfl ⟨rfl,rfl,rfl,rfl,rfl,trivial⟩⟩,Nat.lt_succ_self _⟩))))
   ·exact wp_exit (Ed (Ed (Gp (Tn (⟨x1,h,S.nf [true] rfl trivial⟩)))))
 clear S h;rintro a w2 ⟨x1,h,S⟩;rw [hj1] at h;clear hj1 j1
 obtain rfl:=Option.some.inj h
 exact Vg S results100 ⟨(S.holds _ (List.mem_of_getElem? (i:=0) rfl)),rfl⟩
theorem Rg (w : World) (Aa : Value) (Av : List Dk) (Bn : (LEnt.own Aa 101 11 Av.length (Av.flatMap Dk.enc)).holds w) (Ba : Int) (r : (List Dk)) (h : Ji Av Ba = some r) :
    Calls prog 68 [Aa,iV Ba,.func (.func 36) #[] #[]].toArray w (Ret w (Aa.ownBlock.toList) fun _ v w'=>(LEnt.own Aa 101 11 r.length (r.flatMap Dk.enc)).holds w' ∧ v = .tuple #[]):=by
 refine Mv (Aa.ownBlock.toList) [.own Aa 101 11 Av.length (Av.flatMap Dk.enc)] func68 rfl ntmps68 rfl (fun e he=>by simp only [List.mem_singleton] at he;subst he;exact Bn) (Lt _) (Nf _) fun a S=>?_
 unfold Ji at h
 replace S:=(S.nl [.own Aa 101 11 Av.length (Av.flatMap Dk.enc)] [true] rfl).k3 0 1 2 rfl
 refine Fr (Vk S rfl rfl fun a S=>Dz (Vm S rfl rfl fun a S=>Vk S rfl rfl fun a S=>Va S rfl rfl fun a S=>Ld ?_))
 refine Tn (Fs ?_)
 replace S:=S.k6 0 1 2 6 7 8 rfl
 obtain ⟨j1,hj1,h⟩:=Ep h
 refine Eg (fun a w'=>∃ x1 : List Dk,∃ x2 : Int,j1 x1 x2 = some r ∧ Sx w (Aa.ownBlock.toList) nov [.own Aa 101 11 x1.length (x1.flatMap Dk.enc)] [(0,Aa),(1,iV Ba),(2,.func (.func 36) #[] #[]),(6,iV 20),(7,iV x2)] 63 a w') ?_ ?_
 ·refine wp_block (Gx (fun (m1 : Nat) a w'=>∃ x1 : List Dk,∃ x2 : Int,∃ x3 : Int,Ft Ba j1 m1 x1 x2 x3 = some r ∧ Sx w (Aa.ownBlock.toList) nov [.own Aa 101 11 x1.length (x1.flatMap Dk.enc)] [(0,Aa),(1,iV Ba),(2,.func (.func 36) #[] #[]),(6,iV 20),(7,iV x2),(8,iV x3)] 63 a w') id ((Ba - 20).toNat + 2) ⟨Av,0,20,h,S.nf [true] rfl (subR rfl)⟩ ?_)
  clear S h;rintro m1 a w1 ⟨x1,x2,x3,h,S⟩
  cases m1 with
  | zero=>rw [Ft.eq_1] at h;cases h
  | succ m1 =>
   rw [Ft.eq_2] at h
   refine Fs (Fr (Vm S rfl rfl fun a S=>Vm S rfl rfl fun a S=>Vb S Uv rfl rfl rfl fun a S=>Dl (Fc h (S.tm rfl) (fun hb1 h=>?_) (fun hb1 h=>?_))))
   ·refine wp_skip (Tn (wp_block (Fs (Fg ?_))))
    iterate 4 (refine Vm S rfl rfl ?_;clear S;intro a S)
    obtain ⟨r1,hr1,h⟩:=Fa h
    refine Pd 0 S rfl (fun _=>.own Aa 101 11 r1.length (r1.flatMap Dk.enc)) (fun _=>Dp (vs:=[Aa,iV x2,iV x3,.func (.func 36) #[] #[]]) ⟨(S.tm rfl),(S.tm rfl),(S.tm rfl),(S.tm rfl),trivial⟩ call100) (Mg _ Aa x1 (S.holds _ (List.mem_of_getElem? (i:=0) rfl)) x2 x3 _ hr1) rfl (fun _ _ _ h=>⟨h.1,fun _ hc=>hc⟩) ?_;clear S;intro v1 a w3 hv1 hk1 hn1 S
    replace hv1:=hv1.2
    subst hv1
    refine Dz (Vm S rfl rfl fun a S=>Va S rfl rfl fun a S=>Ld ?_)
    replace S:=(S.nl [.own Aa 101 11 r1.length (r1.flatMap Dk.enc)] [true] rfl).k6 0 1 2 6 7 8 rfl
    exact Tn (Fg (Vm S rfl rfl fun a S=>Vm S rfl rfl fun a S=>Vb S Gc rfl rfl rfl fun a S=>Va S rfl rfl fun a S=>Ld (Ho (Tn (⟨m1,⟨r1,x3,W (x3 + 20),h,S.nf [true] rfl ⟨rfl,rfl,rfl,rfl,rfl,rfl,trivial⟩⟩,Nat.lt_succ_self _⟩)))))
   ·exact wp_exit (Ed (Ed (Gp (Tn (⟨x1,x2,h,S.nf [true] rfl (subR rfl)⟩)))))
 clear S h;rintro a w2 ⟨x1,x2,h,S⟩;rw [hj1] at h;clear hj1 j1
 refine Tn (Fs (Fg ?_))
 iterate 4 (refine Vm S rfl rfl ?_;clear S;intro a S)
 obtain ⟨r2,hr2,h⟩:=Fa h
 refine Pd 0 S rfl (fun _=>.own Aa 101 11 r2.length (r2.flatMap Dk.enc)) (fun _=>Dp (vs:=[Aa,iV x2,iV Ba,.func (.func 36) #[] #[]]) ⟨(S.tm rfl),(S.tm rfl),(S.tm rfl),(S.tm rfl),trivial⟩ call100) (Mg _ Aa x1 (S.holds _ (List.mem_of_getElem? (i:=0) rfl)) x2 Ba _ hr2) rfl (fun _ _ _ h=>⟨h.1,fun _ hc=>hc⟩) ?_;clear S;intro v2 a w4 hv2 hk2 hn2 S
 replace hv2:=hv2.2
 subst hv2
 refine Dl ?_
 replace S:=(S.nl [.own Aa 101 11 r2.length (r2.flatMap Dk.enc)] [true] rfl).k2 1 6 rfl
 obtain ⟨j2,hj2,h⟩:=Ep h
 refine Eg (fun a w'=>j2 = some r ∧ Sx w (Aa.ownBlock.toList) nov [.own Aa 101 11 r2.length (r2.flatMap Dk.enc)] [] 63 a w') ?_ ?_
 ·refine wp_block (Gx (fun (m2 : Nat) a w'=>∃ x4 : Int,Fu Ba j2 m2 x4 = some r ∧ Sx w (Aa.ownBlock.toList) nov [.own Aa 101 11 r2.length (r2.flatMap Dk.enc)] [(1,iV Ba),(6,iV x4)] 63 a w') id ((Ba - 20).toNat + 2) ⟨20,h,S.nf [true] rfl (subR rfl)⟩ ?_)
  clear S h;rintro m2 a w5 ⟨x4,h,S⟩
  cases m2 with
  | zero=>rw [Fu.eq_1] at h;cases h
  | succ m2 =>
   rw [Fu.eq_2] at h
   refine Fs (Fr (Vm S rfl rfl fun a S=>Vm S rfl rfl fun a S=>Vb S Et rfl rfl rfl fun a S=>Dl (Fc h (S.tm rfl) (fun hb2 h=>?_) (fun hb2 h=>?_))))
   ·refine wp_skip (Tn (wp_block (Fr (Vm S rfl rfl fun a S=>Vu S (Yv rfl) rfl rfl fun a S=>Vk S rfl rfl fun a S=>Va S rfl rfl fun a S=>Dl ?_))))
    refine Fs ?_
    replace S:=S.k4 1 6 7 8 rfl
    obtain ⟨j3,hj3,h⟩:=Ep h
    refine Eg (fun a w'=>∃ x5 : Int,j3 x5 = some r ∧ Sx w (Aa.ownBlock.toList) nov [.own Aa 101 11 r2.length (r2.flatMap Dk.enc)] [(1,iV Ba),(6,iV x4),(7,iV x5)] 63 a w') ?_ ?_
    ·refine wp_block (Gx (fun (m3 : Nat) a w'=>∃ x5 : Int,∃ x6 : Int,Gu Ba j3 m3 x5 x6 = some r ∧ Sx w (Aa.ownBlock.toList) nov [.own Aa 101 11 r2.length (r2.flatMap Dk.enc)] [(1,iV Ba),(6,iV x4),(7,iV x5),(8,iV x6)] 63 a w') id ((Ba - (W (2 * x4))).toNat + 2) ⟨0,W (2 * x4),h,S.nf [true] rfl (subR rfl)⟩ ?_)
     clear S h;rintro m3 a w7 ⟨x5,x6,h,S⟩
     cases m3 with
     | zero=>rw [Gu.eq_1] at h;cases h
     | succ m3 =>
      rw [Gu.eq_2] at h
      refine Fs (Fr (Vm S rfl rfl fun a S=>Vm S rfl rfl fun a S=>Vb S Uv rfl rfl rfl fun a S=>Dl (Fc h (S.tm rfl) (fun hb3 h=>?_) (fun hb3 h=>?_))))
      ·refine wp_skip (Tn (wp_block (Fs ?_)))
       cases h
      ·exact wp_exit (Ed (Ed (Gp (Tn (⟨x5,h,S.nf [true] rfl (subR rfl)⟩)))))
    clear S h;rintro a w8 ⟨x5,h,S⟩;rw [hj3] at h;clear hj3 j3
    refine Tn (Fs (Fr (Vm S rfl rfl fun a S=>Vm S rfl rfl fun a S=>Vb S Gc rfl rfl rfl fun a S=>Va S rfl rfl fun a S=>Dl (Fs ?_))))
    refine Fg (Vm S rfl rfl fun a S=>Vm S rfl rfl fun a S=>Vb S Et rfl rfl rfl fun a S=>Dl (Fc h (S.tm rfl) (fun hb4 h=>?_) (fun hb4 h=>?_)))
    ·cases h
    ·exact wp_skip (Tn (Fg (Vm S rfl rfl fun a S=>Vq S Yv rfl rfl rfl fun a S=>Va S rfl rfl fun a S=>Ld (Ho (Tn (⟨m2,⟨W (x4 * 2),h,S.nf [true] rfl ⟨rfl,rfl,trivial⟩⟩,Nat.lt_succ_self _⟩))))))
   ·exact wp_exit (Ed (Ed (Gp (Tn (⟨h,S.nf [true] rfl trivial⟩)))))
 clear S h;rintro a w6 ⟨h,S⟩;rw [hj2] at h;clear hj2 j2
 obtain rfl:=Option.some.inj h
 exact Vg S results68 ⟨(S.holds _ (List.mem_of_getElem? (i:=0) rfl)),rfl⟩
theorem Qq (w : World) (Bd : Value) (Ac : List Dk) (Cq : (LEnt.own Bd 101 11 Ac.length (Ac.flatMap Dk.enc)).holds w) (r : (List Dk)) (h : Hr Ac = some r) :
    Calls prog 35 [Bd,.func (.func 36) #[] #[]].toArray w (Ret w (Bd.ownBlock.toList) fun _ v w'=>(LEnt.own Bd 101 11 r.length (r.flatMap Dk.enc)).holds w' ∧ v = .tuple #[]):=by
 refine Mv (Bd.ownBlock.toList) [.own Bd 101 11 Ac.length (Ac.flatMap Dk.enc)] func35 rfl ntmps35 rfl (fun e he=>by simp only [List.mem_singleton] at he;subst he;exact Cq) (Lt _) (Nf _) fun a S=>?_
 unfold Hr at h
 replace S:=(S.nl [.own Bd 101 11 Ac.length (Ac.flatMap Dk.enc)] [true] rfl).k2 0 1 rfl
 refine Fg (Vm S rfl rfl fun a S=>Vm S rfl rfl fun a S=>lv S (Fq Nj (S.tm rfl) (Ph (S.own_at (i:=0) rfl))) rfl fun a S=>Vm S rfl rfl ?_);clear S;intro a S
 obtain ⟨r1,hr1,h⟩:=Fa h
 refine Pd 0 S rfl (fun _=>.own Bd 101 11 r1.length (r1.flatMap Dk.enc)) (fun _=>Dp (vs:=[Bd,iV (Ac.length : Int),.func (.func 36) #[] #[]]) ⟨(S.tm rfl),(S.tm rfl),(S.tm rfl),trivial⟩ call68) (Rg _ Bd Ac (S.holds _ (List.mem_of_getElem? (i:=0) rfl)) (Ac.length : Int) _ hr1) rfl (fun _ _ _ h=>⟨h.1,fun _ hc=>hc⟩) ?_;clear S;intro v1 a w1 hv1 hk1 hn1 S
 replace hv1:=hv1.2
 subst hv1
 refine Ld ?_
 obtain rfl:=Option.some.inj h
 exact Vg S results35 ⟨(S.holds _ (List.mem_of_getElem? (i:=0) rfl)),rfl⟩
theorem GW (w : World) (O : Nat) (U : Value) (Aq : List Int) (Am : Slc (view w [O]) 1 U (Aq.map eInt)) (Aj : Int) (Ao : (LEnt.blk O [U,iV Aj] 25).holds w) (Bq : Int) (r : (List Dk) × Int) (h : Vi Aq Aj Bq = some r) :
    Calls prog 17 [.pointer (some ⟨O,0,none⟩),iV Bq].toArray w (Ret w [O] fun τ v w'=>(LEnt.blk O [U,iV r.2] 25).holds w' ∧ Tf τ 101 11 v r.1.length (r.1.flatMap Dk.enc)):=by
 refine Mv [O] [.blk O [U,iV Aj] 25] func17 rfl ntmps17 rfl (fun e he=>by simp only [List.mem_singleton] at he;subst he;exact Ao) (by simp [fps,LEnt.fp]) (by simp [fps,LEnt.fp]) fun a S=>?_
 unfold Vi at h
 replace S:=(S.nl [.blk O [U,iV Aj] 25] [true] rfl).k2 0 1 rfl
 refine Fr (Vk S rfl rfl fun a S=>Dz (Vk S rfl rfl ?_));clear S;intro a S
 replace S:=S.nil 101 11
 refine Dz (Vk S rfl rfl fun a S=>Dz (Rx (κ:=ByteArray) (ν:=Int) S rfl Value.string (Value.int .i64) ?_));clear S;intro a w1 b1 hz1 hk1 S
 refine Va S rfl rfl fun a S=>Dl (Fs (Fr (Vm S rfl rfl fun a S=>lv S (Rm rfl) rfl fun a S=>Dl ?_)))
 replace S:=(S.nl [.map b1 (Gt Value.string (Value.int .i64) ([] : List (ByteArray × Int))) ([] : List (ByteArray × Int)).length,.own (.slice none 0 0) 101 11 ([] : List Dk).length (([] : List Dk).flatMap Dk.enc),.blk O [U,iV Aj] 25] [true,true,true] rfl).k6 0 5 6 7 10 11 rfl
 obtain ⟨j1,hj1,h⟩:=Ep h
 refine Eg (fun a w'=>∃ x1 : List (ByteArray × Int),∃ x2 : List Dk,∃ x3 : Int,∃ v1 : Value,j1 x1 x2 x3 = some r ∧ Sx w [O] nov [.map b1 (Gt Value.string (Value.int .i64) x1) x1.length,.own v1 101 11 x2.length (x2.flatMap Dk.enc),.blk O [U,iV x3] 25] [(5,v1)] 130 a w') ?_ ?_
 ·refine wp_block (Gx (fun (m1 : Nat) a w'=>∃ x1 : List (ByteArray × Int),∃ x2 : List Dk,∃ x3 : Int,∃ x4 : Int,∃ x5 : Int,∃ v1 : Value,Mz Bq Aq j1 m1 x1 x2 x3 x4 x5 = some r ∧ Sx w [O] nov [.map b1 (Gt Value.string (Value.int .i64) x1) x1.length,.own v1 101 11 x2.length (x2.flatMap Dk.enc),.blk O [U,iV x3] 25] [(0,.pointer (some ⟨O,0,none⟩)),(5,v1),(6,iV x4),(7,.map (some b1)),(10,iV Bq),(11,iV x5)] 130 a w') id ((Bq - 0).toNat + 2) ⟨([] : List (ByteArray × Int)),([] : List Dk),Aj,0,0,(.slice none 0 0),h,S.nf [true,true,true] rfl (subR rfl)⟩ ?_)
  clear S h;rintro m1 a w2 ⟨x1,x2,x3,x4,x5,v1,h,S⟩
  cases m1 with
  | zero=>rw [Mz.eq_1] at h;cases h
  | succ m1 =>
   rw [Mz.eq_2] at h
   refine Fr (Vb S Et rfl rfl rfl fun a S=>Dl (Fs (Fc h (S.tm rfl) (fun hb1 h=>?_) (fun hb1 h=>?_))))
   ·refine wp_skip (Tn (Fs (wp_block (Fr (Vm S rfl rfl fun a S=>Vm S rfl rfl fun a S=>Er S underlying22 sizeOf3 zeroValue3 rfl rfl (pv:=[(0,iV 0),(1,iV 1),(2,iV 5)]) ⟨rfl,rfl,rfl,rfl,rfl,rfl,trivial⟩ (cs:=[iV 0,iV 1,iV 5]) (by kernel_rfl) rfl ?_)))));clear S;intro a w4 b2 hz2 hk2 S
    obtain ⟨r1,hr1,h⟩:=Fa h
    refine Hl 3 S (b:=O) rfl rfl (fun _=>.blk O [U,iV r1.2] 25) (fun _=>Dp (vs:=[.pointer (some ⟨O,0,none⟩),.slice (some ⟨b2,0,none⟩) 3 3]) ⟨(S.tm rfl),(S.tm rfl),trivial⟩ call32) (Je _ O U Aq (Am.mono (S.le_arg (Iv (i:=3) (e:=.blk O [U,iV x3] 25) rfl))) x3 (S.holds _ (List.mem_of_getElem? (i:=3) rfl)) (.slice (some ⟨b2,0,none⟩) 3 3) [0,1,5] (Jx Ik S (i:=0) rfl rfl rfl rfl ((Mo (i:=3) (j:=0) (e:=.blk O [U,iV x3] 25) (e':=.blk b2 [iV 0,iV 1,iV 5] 3) S rfl rfl rfl) _ rfl)) _ hr1) rfl (fun _ _ _ h=>⟨h.1,fun _ hc=>by cases hc;rfl⟩) ?_;clear S;intro v2 a w5 hv1 hk3 hn1 S
    replace hv1:=hv1.2
    subst hv1
    refine Vb S Gc rfl rfl rfl fun a S=>Va S rfl rfl fun a S=>Dz (Vm S rfl rfl fun a S=>Er S underlying87 sizeOf9 zeroValue9 rfl rfl (pv:=[(0,sV Sm),(1,sV Sm),(2,sV FQ)]) ⟨rfl,rfl,rfl,rfl,rfl,rfl,trivial⟩ (cs:=[sV Sm,sV Sm,sV FQ]) (by kernel_rfl) rfl ?_);clear S;intro a w6 b3 hz3 hk4 S
    obtain ⟨r2,hr2,h⟩:=Fa h
    refine Hl 4 S (b:=O) rfl rfl (fun _=>.blk O [U,iV r2.2] 25) (fun _=>Dp (vs:=[.pointer (some ⟨O,0,none⟩),.slice (some ⟨b3,0,none⟩) 3 3]) ⟨(S.tm rfl),(S.tm rfl),trivial⟩ call33) (Ol _ O U Aq (Am.mono (S.le_arg (Iv (i:=4) (e:=.blk O [U,iV r1.2] 25) rfl))) r1.2 (S.holds _ (List.mem_of_getElem? (i:=4) rfl)) (.slice (some ⟨b3,0,none⟩) 3 3) [Sm,Sm,FQ] (Jx Ta S (i:=0) rfl rfl rfl rfl ((Mo (i:=4) (j:=0) (e:=.blk O [U,iV r1.2] 25) (e':=.blk b3 [sV Sm,sV Sm,sV FQ] 9) S rfl rfl rfl) _ rfl)) _ hr2) rfl (fun _ _ _ h=>⟨h.1,fun _ hc=>by cases hc;rfl⟩) ?_;clear S;intro v3 a w7 hv2 hk5 hn2 S
    replace hv2:=hv2.2
    subst hv2
    refine Vm S rfl rfl fun a S=>Vm S rfl rfl fun a S=>Er S underlying22 sizeOf3 zeroValue3 rfl rfl (pv:=[(0,iV 1),(1,iV 1),(2,iV 1),(3,iV 3),(4,iV 3),(5,iV 3),(6,iV 2),(7,iV 4)]) ⟨rfl,rfl,rfl,rfl,rfl,rfl,rfl,rfl,rfl,rfl,rfl,rfl,rfl,rfl,rfl,rfl,trivial⟩ (cs:=[iV 1,iV 1,iV 1,iV 3,iV 3,iV 3,iV 2,iV 4]) (by kernel_rfl) rfl ?_;clear S;intro a w8 b4 hz4 hk6 S
    obtain ⟨r3,hr3,h⟩:=Fa h
    refine Hl 5 S (b:=O) rfl rfl (fun _=>.blk O [U,iV r3.2] 25) (fun _=>Dp (vs:=[.pointer (some ⟨O,0,none⟩),.slice (some ⟨b4,0,none⟩) 8 8]) ⟨(S.tm rfl),(S.tm rfl),trivial⟩ call32) (Je _ O U Aq (Am.mono (S.le_arg (Iv (i:=5) (e:=.blk O [U,iV r2.2] 25) rfl))) r2.2 (S.holds _ (List.mem_of_getElem? (i:=5) rfl)) (.slice (some ⟨b4,0,none⟩) 8 8) [1,1,1,3,3,3,2,4] (Jx Ik S (i:=0) rfl rfl rfl rfl ((Mo (i:=5) (j:=0) (e:=.blk O [U,iV r2.2] 25) (e':=.blk b4 [iV 1,iV 1,iV 1,iV 3,iV 3,iV 3,iV 2,iV 4] 3) S rfl rfl rfl) _ rfl)) _ hr3) rfl (fun _ _ _ h=>⟨h.1,fun _ hc=>by cases hc;rfl⟩) ?_;clear S;intro v4 a w9 hv3 hk7 hn3 S
    replace hv3:=hv3.2
    subst hv3
    refine lv S (Mr PB (pv:=[(0,sV r2.1),(2,iV (W (x4 + r1.1))),(3,iV r3.1)]) ⟨rfl,(S.tm rfl),rfl,(S.tm rfl),rfl,(S.tm rfl),trivial⟩ (cs:=[sV r2.1,iV 0,iV (W (x4 + r1.1)),iV r3.1,sV An,sV An,sV An,iV 0,iV 0,sV An,iV 0]) (by kernel_rfl)) rfl fun a S=>Hs S zeroValue101 (cs:=[sV An,iV 0,iV 0,iV 0,sV An,sV An,sV An,iV 0,iV 0,sV An,iV 0]) rfl rfl ?_;clear S;intro a w10 b5 hz5 hk8 S
    refine Ex S (S.tm rfl) (S.tm rfl) (i:=0) (off:=0) rfl sizeOf101 (vs:=(Dk.enc (Dk.mk r2.1 0 (W (x4 + r1.1)) r3.1 An An An 0 0 An 0))) rfl rfl rfl rfl ?_;clear S;intro w11 hk9 S
    refine Ld ?_
    replace S:=(S.nl [.blk b5 (Dk.enc (Dk.mk r2.1 0 (W (x4 + r1.1)) r3.1 An An An 0 0 An 0)) 101,.map b1 (Gt Value.string (Value.int .i64) x1) x1.length,.own v1 101 11 x2.length (x2.flatMap Dk.enc),.blk O [U,iV r3.2] 25] [true,false,false,false,true,true,true] rfl).k7 0 5 6 7 8 10 11 rfl
    refine Tn (Fr (Vm S rfl rfl fun a S=>Vf Pq S rfl rfl fun a S=>Vl isAgg9 0 S rfl rfl rfl rfl fun a S=>lv S (Qa (kv:=Value.string) (vv:=(Value.int .i64)) (m:=x1) (key:=r2.1) (z:=0) (S.map_at (i:=1) rfl) underlying98 (Mx underlying9) zeroValue3 (S.tm rfl) (S.tm rfl)) rfl fun a S=>Vq S Gc rfl rfl rfl fun a S=>Pc (kv:=Value.string) (vv:=(Value.int .i64)) (m:=x1) (key:=r2.1) (val:=W ((Ea x1 r2.1 0) + 1)) S (i:=1) rfl underlying98 (Mx underlying9) (S.tm rfl) (S.tm rfl) (S.tm rfl) ?_));clear S;intro w12 hk10 S
    refine Dz (Vm S rfl rfl fun a S=>Vf Pq S rfl rfl fun a S=>Vl isAgg9 0 S rfl rfl rfl rfl fun a S=>lv S (Qa (kv:=Value.string) (vv:=(Value.int .i64)) (m:=(Gl x1 r2.1 (W ((Ea x1 r2.1 0) + 1)))) (key:=r2.1) (z:=0) (S.map_at (i:=1) rfl) underlying98 (Mx underlying9) zeroValue3 (S.tm rfl) (S.tm rfl)) rfl fun a S=>Vf Sc S rfl rfl fun a S=>Ex S (S.tm rfl) (S.tm rfl) (i:=0) (off:=1) rfl sizeOf3 (vs:=[iV (Ea (Gl x1 r2.1 (W ((Ea x1 r2.1 0) + 1))) r2.1 0)]) rfl rfl rfl rfl ?_);clear S;intro w13 hk11 S
    refine Ld ?_
    replace S:=(S.nl [.blk b5 (Dk.enc (Dk.mk r2.1 (Ea (Gl x1 r2.1 (W ((Ea x1 r2.1 0) + 1))) r2.1 0) (W (x4 + r1.1)) r3.1 An An An 0 0 An 0)) 101,.map b1 (Gt Value.string (Value.int .i64) (Gl x1 r2.1 (W ((Ea x1 r2.1 0) + 1)))) (Gl x1 r2.1 (W ((Ea x1 r2.1 0) + 1))).length,.own v1 101 11 x2.length (x2.flatMap Dk.enc),.blk O [U,iV r3.2] 25] [true,true,true,true] rfl).k7 0 5 6 7 8 10 11 rfl
    refine Tn (Fs (Fr (Vf Ok S rfl rfl fun a S=>Vl isAgg3 0 S rfl rfl rfl rfl fun a S=>Vq S Kw rfl rfl rfl fun a S=>Dl ?_)))
    obtain ⟨j2,hj2,h⟩:=Ep h
    refine Eg (fun a w'=>∃ x6 : ByteArray,∃ x7 : ByteArray,∃ x8 : Int,j2 x6 x7 x8 = some r ∧ Sx w [O] nov [.blk b5 (Dk.enc (Dk.mk r2.1 (Ea (Gl x1 r2.1 (W ((Ea x1 r2.1 0) + 1))) r2.1 0) (W (x4 + r1.1)) r3.1 x6 An x7 0 0 An 0)) 101,.map b1 (Gt Value.string (Value.int .i64) (Gl x1 r2.1 (W ((Ea x1 r2.1 0) + 1)))) (Gl x1 r2.1 (W ((Ea x1 r2.1 0) + 1))).length,.own v1 101 11 x2.length (x2.flatMap Dk.enc),.blk O [U,iV x8] 25] [(0,.pointer (some ⟨O,0,none⟩)),(5,v1),(6,iV (W (x4 + r1.1))),(7,.map (some b1)),(8,.pointer (some ⟨b5,0,none⟩)),(10,iV Bq),(11,iV x5)] 130 a w') ?_ ?_
    ·refine Fc h (S.tm rfl) (fun hb2 h=>?_) (fun hb2 h=>?_)
     ·refine Fg (Vm S rfl rfl fun a S=>Er S underlying87 sizeOf9 zeroValue9 rfl rfl (pv:=[(0,sV Wz),(1,sV BE),(2,sV BF),(3,sV BG)]) ⟨rfl,rfl,rfl,rfl,rfl,rfl,rfl,rfl,trivial⟩ (cs:=[sV Wz,sV BE,sV BF,sV BG]) (by kernel_rfl) rfl ?_);clear S;intro a w15 b6 hz6 hk12 S
      obtain ⟨r4,hr4,h⟩:=Fa h
      refine Hl 4 S (b:=O) rfl rfl (fun _=>.blk O [U,iV r4.2] 25) (fun _=>Dp (vs:=[.pointer (some ⟨O,0,none⟩),.slice (some ⟨b6,0,none⟩) 4 4]) ⟨(S.tm rfl),(S.tm rfl),trivial⟩ call33) (Ol _ O U Aq (Am.mono (S.le_arg (Iv (i:=4) (e:=.blk O [U,iV r3.2] 25) rfl))) r3.2 (S.holds _ (List.mem_of_getElem? (i:=4) rfl)) (.slice (some ⟨b6,0,none⟩) 4 4) [Wz,BE,BF,BG] (Jx Ta S (i:=0) rfl rfl rfl rfl ((Mo (i:=4) (j:=0) (e:=.blk O [U,iV r3.2] 25) (e':=.blk b6 [sV Wz,sV BE,sV BF,sV BG] 9) S rfl rfl rfl) _ rfl)) _ hr4) rfl (fun _ _ _ h=>⟨h.1,fun _ hc=>by cases hc;rfl⟩) ?_;clear S;intro v5 a w16 hv4 hk13 hn4 S
      replace hv4:=hv4.2
      subst hv4
      refine Vm S rfl rfl fun a S=>Er S underlying87 sizeOf9 zeroValue9 rfl rfl (pv:=[(0,sV Qh),(1,sV Qh),(2,sV Tj),(3,sV OX)]) ⟨rfl,rfl,rfl,rfl,rfl,rfl,rfl,rfl,trivial⟩ (cs:=[sV Qh,sV Qh,sV Tj,sV OX]) (by kernel_rfl) rfl ?_;clear S;intro a w17 b7 hz7 hk14 S
      obtain ⟨r5,hr5,h⟩:=Fa h
      refine Hl 5 S (b:=O) rfl rfl (fun _=>.blk O [U,iV r5.2] 25) (fun _=>Dp (vs:=[.pointer (some ⟨O,0,none⟩),.slice (some ⟨b7,0,none⟩) 4 4]) ⟨(S.tm rfl),(S.tm rfl),trivial⟩ call33) (Ol _ O U Aq (Am.mono (S.le_arg (Iv (i:=5) (e:=.blk O [U,iV r4.2] 25) rfl))) r4.2 (S.holds _ (List.mem_of_getElem? (i:=5) rfl)) (.slice (some ⟨b7,0,none⟩) 4 4) [Qh,Qh,Tj,OX] (Jx Ta S (i:=0) rfl rfl rfl rfl ((Mo (i:=5) (j:=0) (e:=.blk O [U,iV r4.2] 25) (e':=.blk b7 [sV Qh,sV Qh,sV Tj,sV OX] 9) S rfl rfl rfl) _ rfl)) _ hr5) rfl (fun _ _ _ h=>⟨h.1,fun _ hc=>by cases hc;rfl⟩) ?_;clear S;intro v6 a w18 hv5 hk15 hn5 S
      replace hv5:=hv5.2
      subst hv5
      refine Vf Mq S rfl rfl fun a S=>Ex S (S.tm rfl) (S.tm rfl) (i:=2) (off:=4) rfl sizeOf9 (vs:=[sV r4.1]) rfl rfl rfl rfl ?_;clear S;intro w19 hk16 S
      refine Vf Re S rfl rfl fun a S=>Ex S (S.tm rfl) (S.tm rfl) (i:=2) (off:=6) rfl sizeOf9 (vs:=[sV r5.1]) rfl rfl rfl rfl ?_;clear S;intro w20 hk17 S
      refine Ld ?_
      replace S:=(S.nl [.blk b5 (Dk.enc (Dk.mk r2.1 (Ea (Gl x1 r2.1 (W ((Ea x1 r2.1 0) + 1))) r2.1 0) (W (x4 + r1.1)) r3.1 r4.1 An r5.1 0 0 An 0)) 101,.map b1 (Gt Value.string (Value.int .i64) (Gl x1 r2.1 (W ((Ea x1 r2.1 0) + 1)))) (Gl x1 r2.1 (W ((Ea x1 r2.1 0) + 1))).length,.own v1 101 11 x2.length (x2.flatMap Dk.enc),.blk O [U,iV r5.2] 25] [false,false,true,true,true,true] rfl).k7 0 5 6 7 8 10 11 rfl
      exact Tn (⟨r4.1,r5.1,r5.2,h,S.nf [true,true,true,true] rfl (subR rfl)⟩)
     ·exact wp_skip (Tn (⟨An,An,r3.2,h,S.nf [true,true,true,true] rfl (subR rfl)⟩))
    clear S h;rintro a w14 ⟨x6,x7,x8,h,S⟩;rw [hj2] at h;clear hj2 j2
    refine Tn (Fs (Fr (Vf Ok S rfl rfl fun a S=>Vl isAgg3 0 S rfl rfl rfl rfl fun a S=>Dl ?_)))
    obtain ⟨j3,hj3,h⟩:=Ep h
    refine Eg (fun a w'=>∃ x9 : ByteArray,∃ x10 : Int,∃ x11 : Int,∃ x12 : ByteArray,∃ x13 : Int,∃ x14 : Int,j3 x9 x10 x11 x12 x13 x14 = some r ∧ Sx w [O] nov [.blk b5 (Dk.enc (Dk.mk r2.1 (Ea (Gl x1 r2.1 (W ((Ea x1 r2.1 0) + 1))) r2.1 0) (W (x4 + r1.1)) r3.1 x6 x9 x7 x10 x11 x12 x13)) 101,.map b1 (Gt Value.string (Value.int .i64) (Gl x1 r2.1 (W ((Ea x1 r2.1 0) + 1)))) (Gl x1 r2.1 (W ((Ea x1 r2.1 0) + 1))).length,.own v1 101 11 x2.length (x2.flatMap Dk.enc),.blk O [U,iV x14] 25] [(0,.pointer (some ⟨O,0,none⟩)),(5,v1),(6,iV (W (x4 + r1.1))),(7,.map (some b1)),(8,.pointer (some ⟨b5,0,none⟩)),(10,iV Bq),(11,iV x5)] 130 a w') ?_ ?_
    ·refine wp_block (Fr (Vq S Im rfl rfl rfl fun a S=>Va S rfl rfl fun a S=>Dl ?_))
     obtain ⟨j4,hj4,h⟩:=Ep h
     refine Eg (fun a w'=>∃ x15 : ByteArray,∃ x16 : Int,∃ x17 : Int,∃ x18 : ByteArray,∃ x19 : Int,∃ x20 : Int,j4 x15 x16 x17 x18 x19 x20 = some r ∧ Sx w [O] nov [.blk b5 (Dk.enc (Dk.mk r2.1 (Ea (Gl x1 r2.1 (W ((Ea x1 r2.1 0) + 1))) r2.1 0) (W (x4 + r1.1)) r3.1 x6 x15 x7 x16 x17 x18 x19)) 101,.map b1 (Gt Value.string (Value.int .i64) (Gl x1 r2.1 (W ((Ea x1 r2.1 0) + 1)))) (Gl x1 r2.1 (W ((Ea x1 r2.1 0) + 1))).length,.own v1 101 11 x2.length (x2.flatMap Dk.enc),.blk O [U,iV x20] 25] [(0,.pointer (some ⟨O,0,none⟩)),(5,v1),(6,iV (W (x4 + r1.1))),(7,.map (some b1)),(8,.pointer (some ⟨b5,0,none⟩)),(10,iV Bq),(11,iV x5)] 130 a w') ?_ ?_
     ·refine Fc h (S.tm rfl) (fun hb3 h=>?_) (fun hb3 h=>?_)
      ·refine Fg (Vm S rfl rfl fun a S=>Er S underlying87 sizeOf9 zeroValue9 rfl rfl (pv:=[(0,sV Uf),(1,sV EK),(2,sV An)]) ⟨rfl,rfl,rfl,rfl,rfl,rfl,trivial⟩ (cs:=[sV Uf,sV EK,sV An]) (by kernel_rfl) rfl ?_);clear S;intro a w23 b8 hz8 hk18 S
       obtain ⟨r6,hr6,h⟩:=Fa h
       refine Hl 4 S (b:=O) rfl rfl (fun _=>.blk O [U,iV r6.2] 25) (fun _=>Dp (vs:=[.pointer (some ⟨O,0,none⟩),.slice (some ⟨b8,0,none⟩) 3 3]) ⟨(S.tm rfl),(S.tm rfl),trivial⟩ call33) (Ol _ O U Aq (Am.mono (S.le_arg (Iv (i:=4) (e:=.blk O [U,iV x8] 25) rfl))) x8 (S.holds _ (List.mem_of_getElem? (i:=4) rfl)) (.slice (some ⟨b8,0,none⟩) 3 3) [Uf,EK,An] (Jx Ta S (i:=0) rfl rfl rfl rfl ((Mo (i:=4) (j:=0) (e:=.blk O [U,iV x8] 25) (e':=.blk b8 [sV Uf,sV EK,sV An] 9) S rfl rfl rfl) _ rfl)) _ hr6) rfl (fun _ _ _ h=>⟨h.1,fun _ hc=>by cases hc;rfl⟩) ?_;clear S;intro v7 a w24 hv6 hk19 hn6 S
       replace hv6:=hv6.2
       subst hv6
       refine Vm S rfl rfl fun a S=>Er S underlying22 sizeOf3 zeroValue3 rfl rfl (pv:=[(0,iV 0),(1,iV 5900),(2,iV 6000),(3,iV 7000)]) ⟨rfl,rfl,rfl,rfl,rfl,rfl,rfl,rfl,trivial⟩ (cs:=[iV 0,iV 5900,iV 6000,iV 7000]) (by kernel_rfl) rfl ?_;clear S;intro a w25 b9 hz9 hk20 S
       obtain ⟨r7,hr7,h⟩:=Fa h
       refine Hl 5 S (b:=O) rfl rfl (fun _=>.blk O [U,iV r7.2] 25) (fun _=>Dp (vs:=[.pointer (some ⟨O,0,none⟩),.slice (some ⟨b9,0,none⟩) 4 4]) ⟨(S.tm rfl),(S.tm rfl),trivial⟩ call32) (Je _ O U Aq (Am.mono (S.le_arg (Iv (i:=5) (e:=.blk O [U,iV r6.2] 25) rfl))) r6.2 (S.holds _ (List.mem_of_getElem? (i:=5) rfl)) (.slice (some ⟨b9,0,none⟩) 4 4) [0,5900,6000,7000] (Jx Ik S (i:=0) rfl rfl rfl rfl ((Mo (i:=5) (j:=0) (e:=.blk O [U,iV r6.2] 25) (e':=.blk b9 [iV 0,iV 5900,iV 6000,iV 7000] 3) S rfl rfl rfl) _ rfl)) _ hr7) rfl (fun _ _ _ h=>⟨h.1,fun _ hc=>by cases hc;rfl⟩) ?_;clear S;intro v8 a w26 hv7 hk21 hn7 S
       replace hv7:=hv7.2
       subst hv7
       refine Vf Tp S rfl rfl fun a S=>Ex S (S.tm rfl) (S.tm rfl) (i:=2) (off:=5) rfl sizeOf9 (vs:=[sV r6.1]) rfl rfl rfl rfl ?_;clear S;intro w27 hk22 S
       refine Vf Sd S rfl rfl fun a S=>Ex S (S.tm rfl) (S.tm rfl) (i:=2) (off:=7) rfl sizeOf3 (vs:=[iV r7.1]) rfl rfl rfl rfl ?_;clear S;intro w28 hk23 S
       refine Ld ?_
       replace S:=(S.nl [.blk b5 (Dk.enc (Dk.mk r2.1 (Ea (Gl x1 r2.1 (W ((Ea x1 r2.1 0) + 1))) r2.1 0) (W (x4 + r1.1)) r3.1 x6 r6.1 x7 r7.1 0 An 0)) 101,.map b1 (Gt Value.string (Value.int .i64) (Gl x1 r2.1 (W ((Ea x1 r2.1 0) + 1)))) (Gl x1 r2.1 (W ((Ea x1 r2.1 0) + 1))).length,.own v1 101 11 x2.length (x2.flatMap Dk.enc),.blk O [U,iV r7.2] 25] [false,false,true,true,true,true] rfl).k7 0 5 6 7 8 10 11 rfl
       exact Tn (⟨r6.1,r7.1,0,An,0,r7.2,h,S.nf [true,true,true,true] rfl (subR rfl)⟩)
      ·refine Fr (Vq S Im rfl rfl rfl fun a S=>Va S rfl rfl fun a S=>Dl ?_)
       obtain ⟨j5,hj5,h⟩:=Ep h
       refine Eg (fun a w'=>∃ x21 : Int,∃ x22 : Int,∃ x23 : ByteArray,∃ x24 : Int,∃ x25 : Int,j5 x21 x22 x23 x24 x25 = some r ∧ Sx w [O] nov [.blk b5 (Dk.enc (Dk.mk r2.1 (Ea (Gl x1 r2.1 (W ((Ea x1 r2.1 0) + 1))) r2.1 0) (W (x4 + r1.1)) r3.1 x6 An x7 x21 x22 x23 x24)) 101,.map b1 (Gt Value.string (Value.int .i64) (Gl x1 r2.1 (W ((Ea x1 r2.1 0) + 1)))) (Gl x1 r2.1 (W ((Ea x1 r2.1 0) + 1))).length,.own v1 101 11 x2.length (x2.flatMap Dk.enc),.blk O [U,iV x25] 25] [(0,.pointer (some ⟨O,0,none⟩)),(5,v1),(6,iV (W (x4 + r1.1))),(7,.map (some b1)),(8,.pointer (some ⟨b5,0,none⟩)),(10,iV Bq),(11,iV x5)] 130 a w') ?_ ?_
       ·refine Fc h (S.tm rfl) (fun hb4 h=>?_) (fun hb4 h=>?_)
        ·refine Fg (Vm S rfl rfl fun a S=>Er S underlying22 sizeOf3 zeroValue3 rfl rfl (pv:=[(0,iV 0),(1,iV 5900),(2,iV 5900),(3,iV 6000),(4,iV 6100)]) ⟨rfl,rfl,rfl,rfl,rfl,rfl,rfl,rfl,rfl,rfl,trivial⟩ (cs:=[iV 0,iV 5900,iV 5900,iV 6000,iV 6100]) (by kernel_rfl) rfl ?_);clear S;intro a w30 b10 hz10 hk24 S
         obtain ⟨r8,hr8,h⟩:=Fa h
         refine Hl 4 S (b:=O) rfl rfl (fun _=>.blk O [U,iV r8.2] 25) (fun _=>Dp (vs:=[.pointer (some ⟨O,0,none⟩),.slice (some ⟨b10,0,none⟩) 5 5]) ⟨(S.tm rfl),(S.tm rfl),trivial⟩ call32) (Je _ O U Aq (Am.mono (S.le_arg (Iv (i:=4) (e:=.blk O [U,iV x8] 25) rfl))) x8 (S.holds _ (List.mem_of_getElem? (i:=4) rfl)) (.slice (some ⟨b10,0,none⟩) 5 5) [0,5900,5900,6000,6100] (Jx Ik S (i:=0) rfl rfl rfl rfl ((Mo (i:=4) (j:=0) (e:=.blk O [U,iV x8] 25) (e':=.blk b10 [iV 0,iV 5900,iV 5900,iV 6000,iV 6100] 3) S rfl rfl rfl) _ rfl)) _ hr8) rfl (fun _ _ _ h=>⟨h.1,fun _ hc=>by cases hc;rfl⟩) ?_;clear S;intro v9 a w31 hv8 hk25 hn8 S
         replace hv8:=hv8.2
         subst hv8
         refine Vm S rfl rfl fun a S=>Er S underlying22 sizeOf3 zeroValue3 rfl rfl (pv:=[(0,iV 0),(1,iV 0),(2,iV 0),(3,iV 0),(4,iV 3)]) ⟨rfl,rfl,rfl,rfl,rfl,rfl,rfl,rfl,rfl,rfl,trivial⟩ (cs:=[iV 0,iV 0,iV 0,iV 0,iV 3]) (by kernel_rfl) rfl ?_;clear S;intro a w32 b11 hz11 hk26 S
         obtain ⟨r9,hr9,h⟩:=Fa h
         refine Hl 5 S (b:=O) rfl rfl (fun _=>.blk O [U,iV r9.2] 25) (fun _=>Dp (vs:=[.pointer (some ⟨O,0,none⟩),.slice (some ⟨b11,0,none⟩) 5 5]) ⟨(S.tm rfl),(S.tm rfl),trivial⟩ call32) (Je _ O U Aq (Am.mono (S.le_arg (Iv (i:=5) (e:=.blk O [U,iV r8.2] 25) rfl))) r8.2 (S.holds _ (List.mem_of_getElem? (i:=5) rfl)) (.slice (some ⟨b11,0,none⟩) 5 5) [0,0,0,0,3] (Jx Ik S (i:=0) rfl rfl rfl rfl ((Mo (i:=5) (j:=0) (e:=.blk O [U,iV r8.2] 25) (e':=.blk b11 [iV 0,iV 0,iV 0,iV 0,iV 3] 3) S rfl rfl rfl) _ rfl)) _ hr9) rfl (fun _ _ _ h=>⟨h.1,fun _ hc=>by cases hc;rfl⟩) ?_;clear S;intro v10 a w33 hv9 hk27 hn9 S
         replace hv9:=hv9.2
         subst hv9
         refine Vf Sd S rfl rfl fun a S=>Ex S (S.tm rfl) (S.tm rfl) (i:=2) (off:=7) rfl sizeOf3 (vs:=[iV r8.1]) rfl rfl rfl rfl ?_;clear S;intro w34 hk28 S
         refine Vf Uo S rfl rfl fun a S=>Ex S (S.tm rfl) (S.tm rfl) (i:=2) (off:=8) rfl sizeOf3 (vs:=[iV r9.1]) rfl rfl rfl rfl ?_;clear S;intro w35 hk29 S
         refine Ld ?_
         replace S:=(S.nl [.blk b5 (Dk.enc (Dk.mk r2.1 (Ea (Gl x1 r2.1 (W ((Ea x1 r2.1 0) + 1))) r2.1 0) (W (x4 + r1.1)) r3.1 x6 An x7 r8.1 r9.1 An 0)) 101,.map b1 (Gt Value.string (Value.int .i64) (Gl x1 r2.1 (W ((Ea x1 r2.1 0) + 1)))) (Gl x1 r2.1 (W ((Ea x1 r2.1 0) + 1))).length,.own v1 101 11 x2.length (x2.flatMap Dk.enc),.blk O [U,iV r9.2] 25] [false,false,true,true,true,true] rfl).k7 0 5 6 7 8 10 11 rfl
         exact Tn (⟨r8.1,r9.1,An,0,r9.2,h,S.nf [true,true,true,true] rfl (subR rfl)⟩)
        ·refine Fr (Vq S Im rfl rfl rfl fun a S=>Va S rfl rfl fun a S=>Ld ?_)
         replace S:=S.k8 0 5 6 7 8 10 11 69 rfl
         refine Tn ?_
         obtain ⟨j6,hj6,h⟩:=Ep h
         refine Eg (fun a w'=>∃ x26 : ByteArray,∃ x27 : Int,∃ x28 : Int,j6 x26 x27 x28 = some r ∧ Sx w [O] nov [.blk b5 (Dk.enc (Dk.mk r2.1 (Ea (Gl x1 r2.1 (W ((Ea x1 r2.1 0) + 1))) r2.1 0) (W (x4 + r1.1)) r3.1 x6 An x7 0 0 x26 x27)) 101,.map b1 (Gt Value.string (Value.int .i64) (Gl x1 r2.1 (W ((Ea x1 r2.1 0) + 1)))) (Gl x1 r2.1 (W ((Ea x1 r2.1 0) + 1))).length,.own v1 101 11 x2.length (x2.flatMap Dk.enc),.blk O [U,iV x28] 25] [(0,.pointer (some ⟨O,0,none⟩)),(5,v1),(6,iV (W (x4 + r1.1))),(7,.map (some b1)),(8,.pointer (some ⟨b5,0,none⟩)),(10,iV Bq),(11,iV x5)] 130 a w') ?_ ?_
         ·refine Fc h (S.tm rfl) (fun hb5 h=>?_) (fun hb5 h=>?_)
          ·obtain ⟨r10,hr10,h⟩:=Fa h
           obtain ⟨r11,hr11,h⟩:=Fa h
           refine Hd [] ([O] ++ [b5]) Tryz.mixed S rfl (by kernel_rfl) ?_;clear S;intro w42 hk35 hsel S
           refine Eb 0 S hsel rfl rfl rfl (by kernel_rfl) (by kernel_rfl) rfl (fun _ hw=>(Rm (S.tm rfl))) fun a S=>Eb 3 S hsel rfl rfl rfl (by kernel_rfl) (by kernel_rfl) rfl (fun _ hw=>(Rm (S.tm rfl))) fun a S=>Eb 4 S hsel rfl rfl rfl (by kernel_rfl) (by kernel_rfl) rfl (fun _ hw=>(Rm (S.tm rfl))) fun a S=>Eb 5 S hsel rfl rfl rfl (by kernel_rfl) (by kernel_rfl) rfl (fun _ hw=>(Qa (kv:=Value.string) (vv:=(Value.int .i64)) (m:=(Gl x1 r2.1 (W ((Ea x1 r2.1 0) + 1)))) (key:=Sm) (z:=0) (S.map_kept (i:=1) rfl (ne_app (Mo (i:=3) (j:=1) (e:=.blk O [U,iV x8] 25) (e':=.map b1 (Gt Value.string (Value.int .i64) (Gl x1 r2.1 (W ((Ea x1 r2.1 0) + 1)))) (Gl x1 r2.1 (W ((Ea x1 r2.1 0) + 1))).length) S rfl rfl rfl) (Mo (i:=0) (j:=1) (e:=.blk b5 (Dk.enc (Dk.mk r2.1 (Ea (Gl x1 r2.1 (W ((Ea x1 r2.1 0) + 1))) r2.1 0) (W (x4 + r1.1)) r3.1 x6 An x7 0 0 An 0)) 101) (e':=.map b1 (Gt Value.string (Value.int .i64) (Gl x1 r2.1 (W ((Ea x1 r2.1 0) + 1)))) (Gl x1 r2.1 (W ((Ea x1 r2.1 0) + 1))).length) S rfl rfl rfl)) hw) underlying98 (Mx underlying9) zeroValue3 (S.tm rfl) rfl)) fun a S=>Eb 6 S hsel rfl rfl rfl (by kernel_rfl) (by kernel_rfl) rfl (fun _ hw=>(QA rfl (S.tm rfl))) fun a S=>He 1 (by kernel_rfl) rfl (Er S underlying87 sizeOf9 zeroValue9 rfl rfl (pv:=[(0,sV Sm),(1,sV Sm),(2,sV FQ)]) ⟨rfl,rfl,rfl,rfl,rfl,rfl,trivial⟩ (cs:=[sV Sm,sV Sm,sV FQ]) (by kernel_rfl) rfl ?_);clear S;intro a w43 b13 hz13 hk36 S
           refine Ld (Ig (Keep.none hk36) (He 2 (by kernel_rfl) rfl ?_))
           refine Hl 4 S (b:=O) rfl rfl (fun _=>.blk O [U,iV r10.2] 25) (fun _=>Dp (vs:=[.pointer (some ⟨O,0,none⟩),.slice (some ⟨b13,0,none⟩) 3 3]) ⟨(S.tm rfl),(S.tm rfl),trivial⟩ call33) (Ol _ O U Aq (Am.mono (S.le_arg (Iv (i:=4) (e:=.blk O [U,iV x8] 25) rfl))) x8 (S.holds _ (List.mem_of_getElem? (i:=4) rfl)) (.slice (some ⟨b13,0,none⟩) 3 3) [Sm,Sm,FQ] (Jx Ta S (i:=0) rfl rfl rfl rfl ((Mo (i:=4) (j:=0) (e:=.blk O [U,iV x8] 25) (e':=.blk b13 [sV Sm,sV Sm,sV FQ] 9) S rfl rfl rfl) _ rfl)) _ hr10) rfl (fun _ _ _ h=>⟨h.1,fun _ hc=>by cases hc;rfl⟩) ?_;clear S;intro v13 a w44 hv12 hk37 hn12 S
           replace hv12:=hv12.2
           subst hv12
           refine Ld ?_
           refine Ig (hk37.sub (by intro y hy;simp at hy ⊢;simp [hy])) ?_
           refine Eb 8 S hsel rfl rfl rfl (by kernel_rfl) (by kernel_rfl) rfl (fun _ hw=>(Fy Xa (S.tm rfl))) fun a S=>He 7 (by kernel_rfl) rfl ?_
           refine Hl 4 S (b:=O) rfl rfl (fun _=>.blk O [U,iV r11.2] 25) (fun _=>Dp (vs:=[.pointer (some ⟨O,0,none⟩),iV 1,iV (FL 1 (Ea (Gl x1 r2.1 (W ((Ea x1 r2.1 0) + 1))) Sm 0))]) ⟨(S.tm rfl),rfl,(S.tm rfl),trivial⟩ call6) (Pm _ O U Aq (Am.mono (S.le_arg (Iv (i:=4) (e:=.blk O [U,iV r10.2] 25) rfl))) r10.2 (S.holds _ (List.mem_of_getElem? (i:=4) rfl)) 1 (FL 1 (Ea (Gl x1 r2.1 (W ((Ea x1 r2.1 0) + 1))) Sm 0)) _ hr11) rfl (fun _ _ _ h=>⟨h.1,fun _ hc=>by cases hc;rfl⟩) ?_;clear S;intro v14 a w45 hv13 hk38 hn13 S
           replace hv13:=hv13.2
           subst hv13
           refine Ld ?_
           refine Ig (hk38.sub (by intro y hy;simp at hy ⊢;simp [hy])) ?_
           refine He 9 (by kernel_rfl) rfl (Ex S (S.tm rfl) (S.tm rfl) (i:=1) (off:=9) rfl sizeOf9 (vs:=[sV r10.1]) rfl rfl rfl rfl ?_);clear S;intro w46 hk39 S
           refine Ld ?_
           refine Ig (hk39.sub (by intro y hy;simp at hy ⊢;simp [hy])) ?_
           refine Eb 10 S hsel rfl rfl rfl (by kernel_rfl) (by kernel_rfl) rfl (fun _ hw=>(Fy Ty (S.tm rfl))) fun a S=>He 11 (by kernel_rfl) rfl (Ex S (S.tm rfl) (S.tm rfl) (i:=1) (off:=10) rfl sizeOf3 (vs:=[iV r11.1]) rfl rfl rfl rfl ?_);clear S;intro w47 hk40 S
           refine Ld ?_
           refine Ig (hk40.sub (by intro y hy;simp at hy ⊢;simp [hy])) ?_
           refine Xi (by kernel_rfl) ?_
           clear hsel
           replace S:=(S.nl [.blk b5 (Dk.enc (Dk.mk r2.1 (Ea (Gl x1 r2.1 (W ((Ea x1 r2.1 0) + 1))) r2.1 0) (W (x4 + r1.1)) r3.1 x6 An x7 0 0 r10.1 r11.1)) 101,.map b1 (Gt Value.string (Value.int .i64) (Gl x1 r2.1 (W ((Ea x1 r2.1 0) + 1)))) (Gl x1 r2.1 (W ((Ea x1 r2.1 0) + 1))).length,.own v1 101 11 x2.length (x2.flatMap Dk.enc),.blk O [U,iV r11.2] 25] [false,true,true,true,true] rfl).k7 0 5 6 7 8 10 11 rfl
           exact Tn (⟨r10.1,r11.1,r11.2,h,S.nf [true,true,true,true] rfl (subR rfl)⟩)
          ·exact wp_skip (Tn (⟨An,0,x8,h,S.nf [true,true,true,true] rfl (subR rfl)⟩))
         clear S h;rintro a w36 ⟨x26,x27,x28,h,S⟩;rw [hj6] at h;clear hj6 j6
         exact Tn (⟨0,0,x26,x27,x28,h,S.nf [true,true,true,true] rfl (subR rfl)⟩)
       clear S h;rintro a w29 ⟨x21,x22,x23,x24,x25,h,S⟩;rw [hj5] at h;clear hj5 j5
       exact Tn (⟨An,x21,x22,x23,x24,x25,h,S.nf [true,true,true,true] rfl (subR rfl)⟩)
     clear S h;rintro a w22 ⟨x15,x16,x17,x18,x19,x20,h,S⟩;rw [hj4] at h;clear hj4 j4
     exact Ho (Tn (⟨x15,x16,x17,x18,x19,x20,h,S.nf [true,true,true,true] rfl (subR rfl)⟩))
    clear S h;rintro a w21 ⟨x9,x10,x11,x12,x13,x14,h,S⟩;rw [hj3] at h;clear hj3 j3
    refine Tn (Fs (Fr (Vm S rfl rfl ?_)));clear S;intro a S
    obtain ⟨r12,hr12,h⟩:=Fa h
    refine Hl 3 S (b:=O) rfl rfl (fun _=>.blk O [U,iV r12.2] 25) (fun _=>Dp (vs:=[.pointer (some ⟨O,0,none⟩),iV 100]) ⟨(S.tm rfl),rfl,trivial⟩ call30) (Ya _ O U Aq (Am.mono (S.le_arg (Iv (i:=3) (e:=.blk O [U,iV x14] 25) rfl))) x14 (S.holds _ (List.mem_of_getElem? (i:=3) rfl)) 100 _ hr12) rfl (fun _ _ _ h=>⟨h.1,fun _ hc=>by cases hc;rfl⟩) ?_;clear S;intro v15 a w48 hv14 hk41 hn14 S
    replace hv14:=hv14.2
    subst hv14
    refine Dl ?_
    obtain ⟨j7,hj7,h⟩:=Ep h
    refine Eg (fun a w'=>∃ x29 : ByteArray,∃ x30 : Int,∃ x31 : Int,∃ x32 : ByteArray,∃ x33 : ByteArray,∃ x34 : ByteArray,∃ x35 : Int,∃ x36 : Int,∃ x37 : Int,∃ x38 : Int,j7 x29 x30 x31 x32 x33 x34 x35 x36 x37 x38 = some r ∧ Sx w [O] nov [.blk b5 (Dk.enc (Dk.mk x29 x30 (W (x4 + r1.1)) x31 x32 x33 x34 x35 x36 x12 x37)) 101,.map b1 (Gt Value.string (Value.int .i64) (Gl x1 r2.1 (W ((Ea x1 r2.1 0) + 1)))) (Gl x1 r2.1 (W ((Ea x1 r2.1 0) + 1))).length,.own v1 101 11 x2.length (x2.flatMap Dk.enc),.blk O [U,iV x38] 25] [(0,.pointer (some ⟨O,0,none⟩)),(5,v1),(6,iV (W (x4 + r1.1))),(7,.map (some b1)),(8,.pointer (some ⟨b5,0,none⟩)),(10,iV Bq),(11,iV x5)] 130 a w') ?_ ?_
    ·refine Fc h (S.tm rfl) (fun hb6 h=>?_) (fun hb6 h=>?_)
     ·refine Fr (Vm S rfl rfl ?_);clear S;intro a S
      obtain ⟨r13,hr13,h⟩:=Fa h
      refine Hl 3 S (b:=O) rfl rfl (fun _=>.blk O [U,iV r13.2] 25) (fun _=>Dp (vs:=[.pointer (some ⟨O,0,none⟩),iV 4]) ⟨(S.tm rfl),rfl,trivial⟩ call19) (Tq _ O U Aq (Am.mono (S.le_arg (Iv (i:=3) (e:=.blk O [U,iV r12.2] 25) rfl))) r12.2 (S.holds _ (List.mem_of_getElem? (i:=3) rfl)) 4 _ hr13) rfl (fun _ _ _ h=>⟨h.1,fun _ hc=>by cases hc;rfl⟩) ?_;clear S;intro v16 a w50 hv15 hk42 hn15 S
      replace hv15:=hv15.2
      subst hv15
      refine Dl ?_
      obtain ⟨j8,hj8,h⟩:=Ep h
      refine Eg (fun a w'=>∃ x39 : ByteArray,∃ x40 : Int,∃ x41 : Int,∃ x42 : ByteArray,∃ x43 : ByteArray,∃ x44 : ByteArray,∃ x45 : Int,∃ x46 : Int,∃ x47 : Int,∃ x48 : Int,j8 x39 x40 x41 x42 x43 x44 x45 x46 x47 x48 = some r ∧ Sx w [O] nov [.blk b5 (Dk.enc (Dk.mk x39 x40 (W (x4 + r1.1)) x41 x42 x43 x44 x45 x46 x12 x47)) 101,.map b1 (Gt Value.string (Value.int .i64) (Gl x1 r2.1 (W ((Ea x1 r2.1 0) + 1)))) (Gl x1 r2.1 (W ((Ea x1 r2.1 0) + 1))).length,.own v1 101 11 x2.length (x2.flatMap Dk.enc),.blk O [U,iV x48] 25] [(0,.pointer (some ⟨O,0,none⟩)),(5,v1),(6,iV (W (x4 + r1.1))),(7,.map (some b1)),(8,.pointer (some ⟨b5,0,none⟩)),(10,iV Bq),(11,iV x5)] 130 a w') ?_ ?_
      ·refine wp_block (Fr (Vq S Im rfl rfl rfl fun a S=>Va S rfl rfl fun a S=>Dl ?_))
       obtain ⟨j9,hj9,h⟩:=Ep h
       refine Eg (fun a w'=>∃ x49 : ByteArray,∃ x50 : Int,∃ x51 : Int,∃ x52 : ByteArray,∃ x53 : ByteArray,∃ x54 : ByteArray,∃ x55 : Int,∃ x56 : Int,∃ x57 : Int,∃ x58 : Int,j9 x49 x50 x51 x52 x53 x54 x55 x56 x57 x58 = some r ∧ Sx w [O] nov [.blk b5 (Dk.enc (Dk.mk x49 x50 (W (x4 + r1.1)) x51 x52 x53 x54 x55 x56 x12 x57)) 101,.map b1 (Gt Value.string (Value.int .i64) (Gl x1 r2.1 (W ((Ea x1 r2.1 0) + 1)))) (Gl x1 r2.1 (W ((Ea x1 r2.1 0) + 1))).length,.own v1 101 11 x2.length (x2.flatMap Dk.enc),.blk O [U,iV x58] 25] [(0,.pointer (some ⟨O,0,none⟩)),(5,v1),(6,iV (W (x4 + r1.1))),(7,.map (some b1)),(8,.pointer (some ⟨b5,0,none⟩)),(10,iV Bq),(11,iV x5)] 130 a w') ?_ ?_
       ·refine Fc h (S.tm rfl) (fun hb7 h=>?_) (fun hb7 h=>?_)
        ·refine Fg (Vm S rfl rfl fun a S=>Er S underlying87 sizeOf9 zeroValue9 rfl rfl (pv:=[(0,sV An),(1,sV Sm)]) ⟨rfl,rfl,rfl,rfl,trivial⟩ (cs:=[sV An,sV Sm]) (by kernel_rfl) rfl ?_);clear S;intro a w53 b14 hz14 hk43 S
         obtain ⟨r14,hr14,h⟩:=Fa h
         refine Hl 4 S (b:=O) rfl rfl (fun _=>.blk O [U,iV r14.2] 25) (fun _=>Dp (vs:=[.pointer (some ⟨O,0,none⟩),.slice (some ⟨b14,0,none⟩) 2 2]) ⟨(S.tm rfl),(S.tm rfl),trivial⟩ call33) (Ol _ O U Aq (Am.mono (S.le_arg (Iv (i:=4) (e:=.blk O [U,iV r13.2] 25) rfl))) r13.2 (S.holds _ (List.mem_of_getElem? (i:=4) rfl)) (.slice (some ⟨b14,0,none⟩) 2 2) [An,Sm] (Jx Ta S (i:=0) rfl rfl rfl rfl ((Mo (i:=4) (j:=0) (e:=.blk O [U,iV r13.2] 25) (e':=.blk b14 [sV An,sV Sm] 9) S rfl rfl rfl) _ rfl)) _ hr14) rfl (fun _ _ _ h=>⟨h.1,fun _ hc=>by cases hc;rfl⟩) ?_;clear S;intro v17 a w54 hv16 hk44 hn16 S
         replace hv16:=hv16.2
         subst hv16
         refine Vm S rfl rfl ?_;clear S;intro a S
         obtain ⟨r15,hr15,h⟩:=Fa h
         refine Hl 4 S (b:=O) rfl rfl (fun _=>.blk O [U,iV r15.2] 25) (fun _=>Dp (vs:=[.pointer (some ⟨O,0,none⟩),iV 1,iV 9]) ⟨(S.tm rfl),rfl,rfl,trivial⟩ call34) (Up _ O U Aq (Am.mono (S.le_arg (Iv (i:=4) (e:=.blk O [U,iV r14.2] 25) rfl))) r14.2 (S.holds _ (List.mem_of_getElem? (i:=4) rfl)) 1 9 _ hr15) rfl (fun _ _ _ h=>⟨h.1,fun _ hc=>by cases hc;rfl⟩) ?_;clear S;intro v18 a w55 hv17 hk45 hn17 S
         replace hv17:=hv17.2
         subst hv17
         refine Vf Pq S rfl rfl fun a S=>Ex S (S.tm rfl) (S.tm rfl) (i:=1) (off:=0) rfl sizeOf9 (vs:=[sV r14.1]) rfl rfl rfl rfl ?_;clear S;intro w56 hk46 S
         refine Vf Sc S rfl rfl fun a S=>Ex S (S.tm rfl) (S.tm rfl) (i:=1) (off:=1) rfl sizeOf3 (vs:=[iV r15.1]) rfl rfl rfl rfl ?_;clear S;intro w57 hk47 S
         refine Ld ?_
         replace S:=(S.nl [.blk b5 (Dk.enc (Dk.mk r14.1 r15.1 (W (x4 + r1.1)) r3.1 x6 x9 x7 x10 x11 x12 x13)) 101,.map b1 (Gt Value.string (Value.int .i64) (Gl x1 r2.1 (W ((Ea x1 r2.1 0) + 1)))) (Gl x1 r2.1 (W ((Ea x1 r2.1 0) + 1))).length,.own v1 101 11 x2.length (x2.flatMap Dk.enc),.blk O [U,iV r15.2] 25] [false,true,true,true,true] rfl).k7 0 5 6 7 8 10 11 rfl
         exact Tn (⟨r14.1,r15.1,r3.1,x6,x9,x7,x10,x11,x13,r15.2,h,S.nf [true,true,true,true] rfl (subR rfl)⟩)
        ·refine Fr (Vq S Im rfl rfl rfl fun a S=>Va S rfl rfl fun a S=>Ld ?_)
         replace S:=(S.nl [.blk b5 (Dk.enc (Dk.mk r2.1 (Ea (Gl x1 r2.1 (W ((Ea x1 r2.1 0) + 1))) r2.1 0) (W (x4 + r1.1)) r3.1 x6 x9 x7 x10 x11 x12 x13)) 101,.map b1 (Gt Value.string (Value.int .i64) (Gl x1 r2.1 (W ((Ea x1 r2.1 0) + 1)))) (Gl x1 r2.1 (W ((Ea x1 r2.1 0) + 1))).length,.own v1 101 11 x2.length (x2.flatMap Dk.enc),.blk O [U,iV r13.2] 25] [true,true,true,true] rfl).k9 0 5 6 7 8 10 11 84 103 rfl
         refine Tn ?_
         obtain ⟨j10,hj10,h⟩:=Ep h
         refine Eg (fun a w'=>∃ x59 : Int,∃ x60 : ByteArray,∃ x61 : ByteArray,∃ x62 : ByteArray,∃ x63 : Int,∃ x64 : Int,∃ x65 : Int,∃ x66 : Int,j10 x59 x60 x61 x62 x63 x64 x65 x66 = some r ∧ Sx w [O] nov [.blk b5 (Dk.enc (Dk.mk r2.1 (Ea (Gl x1 r2.1 (W ((Ea x1 r2.1 0) + 1))) r2.1 0) (W (x4 + r1.1)) x59 x60 x61 x62 x63 x64 x12 x65)) 101,.map b1 (Gt Value.string (Value.int .i64) (Gl x1 r2.1 (W ((Ea x1 r2.1 0) + 1)))) (Gl x1 r2.1 (W ((Ea x1 r2.1 0) + 1))).length,.own v1 101 11 x2.length (x2.flatMap Dk.enc),.blk O [U,iV x66] 25] [(0,.pointer (some ⟨O,0,none⟩)),(5,v1),(6,iV (W (x4 + r1.1))),(7,.map (some b1)),(8,.pointer (some ⟨b5,0,none⟩)),(10,iV Bq),(11,iV x5)] 130 a w') ?_ ?_
         ·refine Fc h (S.tm rfl) (fun hb8 h=>?_) (fun hb8 h=>?_)
          ·refine Fg (Vm S rfl rfl ?_);clear S;intro a S
           obtain ⟨r16,hr16,h⟩:=Fa h
           refine Hl 3 S (b:=O) rfl rfl (fun _=>.blk O [U,iV r16.2] 25) (fun _=>Dp (vs:=[.pointer (some ⟨O,0,none⟩),iV 1,iV 4]) ⟨(S.tm rfl),rfl,rfl,trivial⟩ call34) (Up _ O U Aq (Am.mono (S.le_arg (Iv (i:=3) (e:=.blk O [U,iV r13.2] 25) rfl))) r13.2 (S.holds _ (List.mem_of_getElem? (i:=3) rfl)) 1 4 _ hr16) rfl (fun _ _ _ h=>⟨h.1,fun _ hc=>by cases hc;rfl⟩) ?_;clear S;intro v19 a w59 hv18 hk48 hn18 S
           replace hv18:=hv18.2
           subst hv18
           refine Vf Ok S rfl rfl fun a S=>Ex S (S.tm rfl) (S.tm rfl) (i:=0) (off:=3) rfl sizeOf3 (vs:=[iV r16.1]) rfl rfl rfl rfl ?_;clear S;intro w60 hk49 S
           exact Dl (⟨r16.1,x6,x9,x7,x10,x11,x13,r16.2,h,S.nf [true,true,true,true] rfl (subR rfl)⟩)
          ·refine Fr (Vq S Im rfl rfl rfl fun a S=>Va S rfl rfl fun a S=>Dl ?_)
           obtain ⟨j11,hj11,h⟩:=Ep h
           refine Eg (fun a w'=>∃ x67 : ByteArray,∃ x68 : ByteArray,∃ x69 : ByteArray,∃ x70 : Int,∃ x71 : Int,∃ x72 : Int,∃ x73 : Int,j11 x67 x68 x69 x70 x71 x72 x73 = some r ∧ Sx w [O] nov [.blk b5 (Dk.enc (Dk.mk r2.1 (Ea (Gl x1 r2.1 (W ((Ea x1 r2.1 0) + 1))) r2.1 0) (W (x4 + r1.1)) r3.1 x67 x68 x69 x70 x71 x12 x72)) 101,.map b1 (Gt Value.string (Value.int .i64) (Gl x1 r2.1 (W ((Ea x1 r2.1 0) + 1)))) (Gl x1 r2.1 (W ((Ea x1 r2.1 0) + 1))).length,.own v1 101 11 x2.length (x2.flatMap Dk.enc),.blk O [U,iV x73] 25] [(0,.pointer (some ⟨O,0,none⟩)),(5,v1),(6,iV (W (x4 + r1.1))),(7,.map (some b1)),(8,.pointer (some ⟨b5,0,none⟩)),(10,iV Bq),(11,iV x5)] 130 a w') ?_ ?_
           ·refine Fc h (S.tm rfl) (fun hb9 h=>?_) (fun hb9 h=>?_)
            ·refine Fg (Vm S rfl rfl fun a S=>Er S underlying87 sizeOf9 zeroValue9 rfl rfl (pv:=[(0,sV An),(1,sV Wz)]) ⟨rfl,rfl,rfl,rfl,trivial⟩ (cs:=[sV An,sV Wz]) (by kernel_rfl) rfl ?_);clear S;intro a w62 b15 hz15 hk50 S
             obtain ⟨r17,hr17,h⟩:=Fa h
             refine Hl 4 S (b:=O) rfl rfl (fun _=>.blk O [U,iV r17.2] 25) (fun _=>Dp (vs:=[.pointer (some ⟨O,0,none⟩),.slice (some ⟨b15,0,none⟩) 2 2]) ⟨(S.tm rfl),(S.tm rfl),trivial⟩ call33) (Ol _ O U Aq (Am.mono (S.le_arg (Iv (i:=4) (e:=.blk O [U,iV r13.2] 25) rfl))) r13.2 (S.holds _ (List.mem_of_getElem? (i:=4) rfl)) (.slice (some ⟨b15,0,none⟩) 2 2) [An,Wz] (Jx Ta S (i:=0) rfl rfl rfl rfl ((Mo (i:=4) (j:=0) (e:=.blk O [U,iV r13.2] 25) (e':=.blk b15 [sV An,sV Wz] 9) S rfl rfl rfl) _ rfl)) _ hr17) rfl (fun _ _ _ h=>⟨h.1,fun _ hc=>by cases hc;rfl⟩) ?_;clear S;intro v20 a w63 hv19 hk51 hn19 S
             replace hv19:=hv19.2
             subst hv19
             refine Vm S rfl rfl fun a S=>Er S underlying87 sizeOf9 zeroValue9 rfl rfl (pv:=[(0,sV k_A),(1,sV Uf)]) ⟨rfl,rfl,rfl,rfl,trivial⟩ (cs:=[sV k_A,sV Uf]) (by kernel_rfl) rfl ?_;clear S;intro a w64 b16 hz16 hk52 S
             obtain ⟨r18,hr18,h⟩:=Fa h
             refine Hl 5 S (b:=O) rfl rfl (fun _=>.blk O [U,iV r18.2] 25) (fun _=>Dp (vs:=[.pointer (some ⟨O,0,none⟩),.slice (some ⟨b16,0,none⟩) 2 2]) ⟨(S.tm rfl),(S.tm rfl),trivial⟩ call33) (Ol _ O U Aq (Am.mono (S.le_arg (Iv (i:=5) (e:=.blk O [U,iV r17.2] 25) rfl))) r17.2 (S.holds _ (List.mem_of_getElem? (i:=5) rfl)) (.slice (some ⟨b16,0,none⟩) 2 2) [k_A,Uf] (Jx Ta S (i:=0) rfl rfl rfl rfl ((Mo (i:=5) (j:=0) (e:=.blk O [U,iV r17.2] 25) (e':=.blk b16 [sV k_A,sV Uf] 9) S rfl rfl rfl) _ rfl)) _ hr18) rfl (fun _ _ _ h=>⟨h.1,fun _ hc=>by cases hc;rfl⟩) ?_;clear S;intro v21 a w65 hv20 hk53 hn20 S
             replace hv20:=hv20.2
             subst hv20
             refine Vm S rfl rfl fun a S=>Er S underlying87 sizeOf9 zeroValue9 rfl rfl (pv:=[(0,sV An),(1,sV Qh)]) ⟨rfl,rfl,rfl,rfl,trivial⟩ (cs:=[sV An,sV Qh]) (by kernel_rfl) rfl ?_;clear S;intro a w66 b17 hz17 hk54 S
             obtain ⟨r19,hr19,h⟩:=Fa h
             refine Hl 6 S (b:=O) rfl rfl (fun _=>.blk O [U,iV r19.2] 25) (fun _=>Dp (vs:=[.pointer (some ⟨O,0,none⟩),.slice (some ⟨b17,0,none⟩) 2 2]) ⟨(S.tm rfl),(S.tm rfl),trivial⟩ call33) (Ol _ O U Aq (Am.mono (S.le_arg (Iv (i:=6) (e:=.blk O [U,iV r18.2] 25) rfl))) r18.2 (S.holds _ (List.mem_of_getElem? (i:=6) rfl)) (.slice (some ⟨b17,0,none⟩) 2 2) [An,Qh] (Jx Ta S (i:=0) rfl rfl rfl rfl ((Mo (i:=6) (j:=0) (e:=.blk O [U,iV r18.2] 25) (e':=.blk b17 [sV An,sV Qh] 9) S rfl rfl rfl) _ rfl)) _ hr19) rfl (fun _ _ _ h=>⟨h.1,fun _ hc=>by cases hc;rfl⟩) ?_;clear S;intro v22 a w67 hv21 hk55 hn21 S
             replace hv21:=hv21.2
             subst hv21
             refine Vf Mq S rfl rfl fun a S=>Ex S (S.tm rfl) (S.tm rfl) (i:=3) (off:=4) rfl sizeOf9 (vs:=[sV r17.1]) rfl rfl rfl rfl ?_;clear S;intro w68 hk56 S
             refine Vf Tp S rfl rfl fun a S=>Ex S (S.tm rfl) (S.tm rfl) (i:=3) (off:=5) rfl sizeOf9 (vs:=[sV r18.1]) rfl rfl rfl rfl ?_;clear S;intro w69 hk57 S
             refine Vf Re S rfl rfl fun a S=>Ex S (S.tm rfl) (S.tm rfl) (i:=3) (off:=6) rfl sizeOf9 (vs:=[sV r19.1]) rfl rfl rfl rfl ?_;clear S;intro w70 hk58 S
             refine Ld ?_
             replace S:=(S.nl [.blk b5 (Dk.enc (Dk.mk r2.1 (Ea (Gl x1 r2.1 (W ((Ea x1 r2.1 0) + 1))) r2.1 0) (W (x4 + r1.1)) r3.1 r17.1 r18.1 r19.1 x10 x11 x12 x13)) 101,.map b1 (Gt Value.string (Value.int .i64) (Gl x1 r2.1 (W ((Ea x1 r2.1 0) + 1)))) (Gl x1 r2.1 (W ((Ea x1 r2.1 0) + 1))).length,.own v1 101 11 x2.length (x2.flatMap Dk.enc),.blk O [U,iV r19.2] 25] [false,false,false,true,true,true,true] rfl).k7 0 5 6 7 8 10 11 rfl
             exact Tn (⟨r17.1,r18.1,r19.1,x10,x11,x13,r19.2,h,S.nf [true,true,true,true] rfl (subR rfl)⟩)
            ·refine Fg (Vm S rfl rfl ?_);clear S;intro a S
             obtain ⟨r20,hr20,h⟩:=Fa h
             refine Hl 3 S (b:=O) rfl rfl (fun _=>.blk O [U,iV r20.2] 25) (fun _=>Dp (vs:=[.pointer (some ⟨O,0,none⟩),iV 0,iV 360000]) ⟨(S.tm rfl),rfl,rfl,trivial⟩ call34) (Up _ O U Aq (Am.mono (S.le_arg (Iv (i:=3) (e:=.blk O [U,iV r13.2] 25) rfl))) r13.2 (S.holds _ (List.mem_of_getElem? (i:=3) rfl)) 0 360000 _ hr20) rfl (fun _ _ _ h=>⟨h.1,fun _ hc=>by cases hc;rfl⟩) ?_;clear S;intro v23 a w71 hv22 hk59 hn22 S
             replace hv22:=hv22.2
             subst hv22
             refine Vm S rfl rfl ?_;clear S;intro a S
             obtain ⟨r21,hr21,h⟩:=Fa h
             refine Hl 3 S (b:=O) rfl rfl (fun _=>.blk O [U,iV r21.2] 25) (fun _=>Dp (vs:=[.pointer (some ⟨O,0,none⟩),iV 0,iV 8]) ⟨(S.tm rfl),rfl,rfl,trivial⟩ call34) (Up _ O U Aq (Am.mono (S.le_arg (Iv (i:=3) (e:=.blk O [U,iV r20.2] 25) rfl))) r20.2 (S.holds _ (List.mem_of_getElem? (i:=3) rfl)) 0 8 _ hr21) rfl (fun _ _ _ h=>⟨h.1,fun _ hc=>by cases hc;rfl⟩) ?_;clear S;intro v24 a w72 hv23 hk60 hn23 S
             replace hv23:=hv23.2
             subst hv23
             refine Vm S rfl rfl ?_;clear S;intro a S
             obtain ⟨r22,hr22,h⟩:=Fa h
             refine Hl 3 S (b:=O) rfl rfl (fun _=>.blk O [U,iV r22.2] 25) (fun _=>Dp (vs:=[.pointer (some ⟨O,0,none⟩),iV 0,iV 5]) ⟨(S.tm rfl),rfl,rfl,trivial⟩ call34) (Up _ O U Aq (Am.mono (S.le_arg (Iv (i:=3) (e:=.blk O [U,iV r21.2] 25) rfl))) r21.2 (S.holds _ (List.mem_of_getElem? (i:=3) rfl)) 0 5 _ hr22) rfl (fun _ _ _ h=>⟨h.1,fun _ hc=>by cases hc;rfl⟩) ?_;clear S;intro v25 a w73 hv24 hk61 hn24 S
             replace hv24:=hv24.2
             subst hv24
             refine Vf Sd S rfl rfl fun a S=>Ex S (S.tm rfl) (S.tm rfl) (i:=0) (off:=7) rfl sizeOf3 (vs:=[iV r20.1]) rfl rfl rfl rfl ?_;clear S;intro w74 hk62 S
             refine Vf Uo S rfl rfl fun a S=>Ex S (S.tm rfl) (S.tm rfl) (i:=0) (off:=8) rfl sizeOf3 (vs:=[iV r21.1]) rfl rfl rfl rfl ?_;clear S;intro w75 hk63 S
             refine Vf Ty S rfl rfl fun a S=>Ex S (S.tm rfl) (S.tm rfl) (i:=0) (off:=10) rfl sizeOf3 (vs:=[iV r22.1]) rfl rfl rfl rfl ?_;clear S;intro w76 hk64 S
             refine Ld ?_
             replace S:=(S.nl [.blk b5 (Dk.enc (Dk.mk r2.1 (Ea (Gl x1 r2.1 (W ((Ea x1 r2.1 0) + 1))) r2.1 0) (W (x4 + r1.1)) r3.1 x6 x9 x7 r20.1 r21.1 x12 r22.1)) 101,.map b1 (Gt Value.string (Value.int .i64) (Gl x1 r2.1 (W ((Ea x1 r2.1 0) + 1)))) (Gl x1 r2.1 (W ((Ea x1 r2.1 0) + 1))).length,.own v1 101 11 x2.length (x2.flatMap Dk.enc),.blk O [U,iV r22.2] 25] [true,true,true,true] rfl).k7 0 5 6 7 8 10 11 rfl
             exact Tn (⟨x6,x9,x7,r20.1,r21.1,r22.1,r22.2,h,S.nf [true,true,true,true] rfl (subR rfl)⟩)
           clear S h;rintro a w61 ⟨x67,x68,x69,x70,x71,x72,x73,h,S⟩;rw [hj11] at h;clear hj11 j11
           exact Tn (⟨r3.1,x67,x68,x69,x70,x71,x72,x73,h,S.nf [true,true,true,true] rfl (subR rfl)⟩)
         clear S h;rintro a w58 ⟨x59,x60,x61,x62,x63,x64,x65,x66,h,S⟩;rw [hj10] at h;clear hj10 j10
         exact Tn (⟨r2.1,Ea (Gl x1 r2.1 (W ((Ea x1 r2.1 0) + 1))) r2.1 0,x59,x60,x61,x62,x63,x64,x65,x66,h,S.nf [true,true,true,true] rfl (subR rfl)⟩)
       clear S h;rintro a w52 ⟨x49,x50,x51,x52,x53,x54,x55,x56,x57,x58,h,S⟩;rw [hj9] at h;clear hj9 j9
       exact Ho (Tn (⟨x49,x50,x51,x52,x53,x54,x55,x56,x57,x58,h,S.nf [true,true,true,true] rfl (subR rfl)⟩))
      clear S h;rintro a w51 ⟨x39,x40,x41,x42,x43,x44,x45,x46,x47,x48,h,S⟩;rw [hj8] at h;clear hj8 j8
      exact Tn (⟨x39,x40,x41,x42,x43,x44,x45,x46,x47,x48,h,S.nf [true,true,true,true] rfl (subR rfl)⟩)
     ·exact wp_skip (Tn (⟨r2.1,Ea (Gl x1 r2.1 (W ((Ea x1 r2.1 0) + 1))) r2.1 0,r3.1,x6,x9,x7,x10,x11,x13,r12.2,h,S.nf [true,true,true,true] rfl (subR rfl)⟩))
    clear S h;rintro a w49 ⟨x29,x30,x31,x32,x33,x34,x35,x36,x37,x38,h,S⟩;rw [hj7] at h;clear hj7 j7
    refine Tn (Fg (Vm S rfl rfl fun a S=>lv S (Fp isAgg101 sizeOf101 (off:=0) (o:=0) (part:=(Dk.enc (Dk.mk x29 x30 (W (x4 + r1.1)) x31 x32 x33 x34 x35 x36 x12 x37))) rfl rfl (S.tm rfl) (S.cellsAt (i:=0) rfl)) rfl fun a S=>Er S underlying34 sizeOf101 zeroValue101 rfl rfl (pv:=[(0,.agg (Dk.enc (Dk.mk x29 x30 (W (x4 + r1.1)) x31 x32 x33 x34 x35 x36 x12 x37)).toArray)]) ⟨rfl,(S.tm rfl),trivial⟩ (cs:=[sV x29,iV x30,iV (W (x4 + r1.1)),iV x31,sV x32,sV x33,sV x34,iV x35,iV x36,sV x12,iV x37]) (by kernel_rfl) rfl ?_));clear S;intro a w77 b18 hz18 hk65 S
    obtain ⟨hc1,h⟩:=Ie h
    refine Ms Nj Dk.enc_ok S (S.tm rfl) (i:=3) rfl (S.tm rfl) (j:=0) rfl (ys:=[(Dk.mk x29 x30 (W (x4 + r1.1)) x31 x32 x33 x34 x35 x36 x12 x37)]) rfl rfl rfl rfl (by have:=Nd hc1;omega) rfl ?_;clear S;intro v26 a w78 hk66 S
    exact Va S rfl rfl fun a S=>Ld (Ho (Tn (Fg (Vq S Gc rfl rfl rfl fun a S=>Vm S rfl rfl fun a S=>Dl (⟨m1,⟨(Gl x1 r2.1 (W ((Ea x1 r2.1 0) + 1))),(x2 ++ [(Dk.mk x29 x30 (W (x4 + r1.1)) x31 x32 x33 x34 x35 x36 x12 x37)]),x38,W (x4 + r1.1),W (x5 + 1),v26,h,S.nf [false,false,true,true,true] rfl ⟨rfl,rfl,rfl,rfl,rfl,rfl,trivial⟩⟩,Nat.lt_succ_self _⟩)))))
   ·exact wp_exit (Ed (Ed (Gp (Tn (⟨x1,x2,x3,v1,h,S.nf [true,true,true] rfl ⟨rfl,trivial⟩⟩)))))
 clear S h;rintro a w3 ⟨x1,x2,x3,v1,h,S⟩;rw [hj1] at h;clear hj1 j1
 refine Tn (Fr (Vm S rfl rfl ?_));clear S;intro a S
 obtain ⟨r23,hr23,h⟩:=Fa h
 refine Pd 1 S rfl (fun _=>.own v1 101 11 r23.length (r23.flatMap Dk.enc)) (fun _=>Dp (vs:=[v1,.func (.func 36) #[] #[]]) ⟨(S.tm rfl),rfl,trivial⟩ call35) (Qq _ v1 x2 (S.holds _ (List.mem_of_getElem? (i:=1) rfl)) _ hr23) rfl (fun _ _ _ h=>⟨h.1,fun _ hc=>hc⟩) ?_;clear S;intro v27 a w79 hv25 hk67 hn25 S
 replace hv25:=hv25.2
 subst hv25
 refine Dz (Vm S rfl rfl fun a S=>Va S rfl rfl fun a S=>Dl (wp_ret ?_))
 obtain rfl:=Option.some.inj h
 exact Ej S results17 rfl ⟨(S.holds _ (List.mem_of_getElem? (i:=2) rfl)),(MS S (i:=1) rfl (fun c hc hh=>CF S (i:=2) rfl rfl (j:=1) rfl rfl (by simp at hc;subst hc;exact hh)))⟩
theorem Qn (w : World) (Ba : Int) (Bp : Int) (Bh : Int) (r : Bool) (h : Kh Ba Bp Bh = r) :
    Calls prog 71 [iV Ba,iV Bp,iV Bh].toArray w (Ret w [] fun _ v _=>v = bV r):=by
 refine Fe func71 rfl ntmps71 rfl fun a S=>?_
 unfold Kh at h
 replace S:=S.k3 0 1 2 rfl
 refine Fr (Vk S rfl rfl fun a S=>Dz (Vm S rfl rfl fun a S=>Vm S rfl rfl fun a S=>Vb S Uv rfl rfl rfl fun a S=>Vm S rfl rfl ?_));clear S;intro a S
 refine Hn 4 (fun a w'=>Keep [] w w' ∧ Sx w [] nov [] [(14,bV ((decide (Bp ≤ Ba)) && (decide (Ba ≤ Bh))))] 15 a w') ?_ ?_
 ·rcases Bool.eq_false_or_eq_true (decide (Bp ≤ Ba)) with hb1 | hb1
  ·exact Du S rfl rfl rfl hb1 (Vm S rfl rfl fun a S=>Du S rfl rfl rfl hb1 (Vm S rfl rfl fun a S=>Du S rfl rfl rfl hb1 (Vb S Uv rfl rfl rfl fun a S=>lv S (Hg hb1 (S.tm rfl) (S.tm rfl)) rfl fun a S=>Dl (⟨Keep.refl _ _,S.nf [] rfl ⟨rfl,trivial⟩⟩))))
  ·iterate 3 (refine Gn S rfl rfl rfl (Jh hb1) rfl ?_ rfl;clear S;intro a S)
   exact lv S (Hh (decide (Ba ≤ Bh)) hb1 (S.tm rfl) rfl) rfl fun a S=>Dl (⟨Keep.refl _ _,S.nf [] rfl ⟨rfl,trivial⟩⟩)
 clear S;rintro a w1 ⟨hk1,S⟩
 refine Va S rfl rfl fun a S=>Dl (wp_ret ?_)
 subst h
 exact Ej S results71 rfl rfl
theorem BP (w : World) (s : ByteArray) (c : Int) (r : Int) (h : Tb s c = r) : Calls prog 121 [.string s,.int .u8 c].toArray w (Ret w [] fun _ v _=>v = .int .i64 r):=by
  subst h
  exact GH (Any.strings_IndexByte Tryz.lays137 s c w)
theorem Zg (w : World) (Ar : ByteArray) (Cr : ByteArray) (r : Bool) (h : St Ar Cr = some r) :
    Calls prog 102 [sV Ar,sV Cr].toArray w (Ret w [] fun _ v _=>v = bV r):=by
 refine Fe func102 rfl ntmps102 rfl fun a S=>?_
 unfold St at h
 replace S:=S.k2 0 1 rfl
 refine Fr (Vk S rfl rfl fun a S=>Dl (Fs (Fr (Vm S rfl rfl fun a S=>Vu S (Zs underlying9) rfl rfl fun a S=>lv S (Rm rfl) rfl ?_))));clear S;intro a S
 refine Dl ?_
 replace S:=S.k4 0 1 7 8 rfl
 obtain ⟨j1,hj1,h⟩:=Ep h
 refine Eg (fun a w'=>j1 = some r ∧ Sx w [] nov [] [] 18 a w') ?_ ?_
 ·refine wp_block (Gx (fun (m1 : Nat) a w'=>∃ x1 : Int,Li Ar Cr j1 m1 x1 = some r ∧ Sx w [] nov [] [(0,sV Ar),(1,sV Cr),(7,iV (Ar.size : Int)),(8,iV x1)] 18 a w') id (((Ar.size : Int) - 0).toNat + 2) ⟨0,h,S.nf [] rfl (subR rfl)⟩ ?_)
  clear S h;rintro m1 a w1 ⟨x1,h,S⟩
  cases m1 with
  | zero=>rw [Li.eq_1] at h;cases h
  | succ m1 =>
   rw [Li.eq_2] at h
   refine Fr (Vb S Et rfl rfl rfl fun a S=>Dl (Fs (Fc h (S.tm rfl) (fun hb1 h=>?_) (fun hb1 h=>?_))))
   ·refine wp_skip (Tn (Fs (wp_block (Fr (Vm S rfl rfl fun a S=>Va S rfl rfl fun a S=>Dl (Fs ?_))))))
    refine Fg ?_
    iterate 3 (refine Vm S rfl rfl ?_;clear S;intro a S)
    obtain ⟨hc1,h⟩:=Ie h
    refine lv S (Xv underlying9 (S.tm rfl) (S.tm rfl) hc1) rfl fun a S=>Dw S (fun _=>Dp (vs:=[sV Cr,.int .u8 (Yk Ar x1)]) ⟨(S.tm rfl),(S.tm rfl),trivial⟩ call121) (BP _ Cr (Yk Ar x1) _ rfl) rfl ?_;clear S;intro v1 a w3 hv1 hk1 hn1 S
    subst hv1
    refine Vq S Et rfl rfl rfl fun a S=>Dl (Fc h (S.tm rfl) (fun hb2 h=>?_) (fun hb2 h=>?_))
    ·refine Fr (Vk S rfl rfl fun a S=>Dl (wp_ret (Fl (Dt (Dt (Fl (Dt ?_)))))))
     refine Dt ?_
     obtain rfl:=Option.some.inj h
     exact Ej S results102 rfl rfl
    ·exact wp_skip (Ho (Tn (Fg (Vq S Gc rfl rfl rfl fun a S=>Vm S rfl rfl fun a S=>Dl (⟨m1,⟨W (x1 + 1),h,S.nf [] rfl ⟨rfl,rfl,rfl,rfl,trivial⟩⟩,Nat.lt_succ_self _⟩)))))
   ·exact wp_exit (Ed (Ed (Gp (Tn (⟨h,S.nf [] rfl trivial⟩)))))
 clear S h;rintro a w2 ⟨h,S⟩;rw [hj1] at h;clear hj1 j1
 refine Tn (Fr (Vk S rfl rfl fun a S=>Dl (wp_ret ?_)))
 obtain rfl:=Option.some.inj h
 exact Ej S results102 rfl rfl
theorem Ss (w : World) (Ar : ByteArray) (r : Bool) (h : Ov Ar = some r) :
    Calls prog 70 [sV Ar].toArray w (Ret w [] fun _ v _=>v = bV r):=by
 refine Fe func70 rfl ntmps70 rfl fun a S=>?_
 unfold Ov at h
 replace S:=S.k1 0 rfl
 refine Fr (Vk S rfl rfl fun a S=>Dz (Vm S rfl rfl fun a S=>Vu S (Zs underlying9) rfl rfl fun a S=>Dw S (fun _=>Dp (vs:=[iV (Ar.size : Int),iV 1,iV 40]) ⟨(S.tm rfl),rfl,rfl,trivial⟩ call71) (Qn _ (Ar.size : Int) 1 40 _ rfl) rfl ?_));clear S;intro v1 a w1 hv1 hk1 hn1 S
 subst hv1
 refine Vm S rfl rfl ?_;clear S;intro a S
 obtain ⟨j1,hj1,h⟩:=Ep h
 refine Hn 4 (fun a w'=>∃ c1,j1 c1 = some r ∧ Keep [] w1 w' ∧ Sx w [] nov [] [(0,sV Ar),(10,bV c1)] 15 a w') ?_ ?_
 ·rcases Bool.eq_false_or_eq_true (Kh (Ar.size : Int) 1 40) with hb1 | hb1
  ·replace h:=Qc h hb1
   refine Du S rfl rfl rfl hb1 (Vm S rfl rfl fun a S=>Du S rfl rfl rfl hb1 ?_)
   obtain ⟨hc1,h⟩:=Ie h
   refine lv S (SO underlying9 (S.tm rfl) rfl hc1) rfl fun a S=>Du S rfl rfl rfl hb1 ?_
   obtain ⟨r1,hr1,h⟩:=Fa h
   refine Dw S (fun _=>Dp (vs:=[sV (MO Ar 0 1),sV Kn]) ⟨(S.tm rfl),rfl,trivial⟩ call102) (Zg _ (MO Ar 0 1) Kn _ hr1) rfl ?_;clear S;intro v2 a w3 hv2 hk2 hn2 S
   subst hv2
   exact lv S (Hg hb1 (S.tm rfl) (S.tm rfl)) rfl fun a S=>Dl (⟨_,h,hk2,S.nf [] rfl (subR rfl)⟩)
  ·replace h:=Qd h hb1
   iterate 3 (refine Gn S rfl rfl rfl (Jh hb1) rfl ?_ rfl;clear S;intro a S)
   exact Vq S (Hh true hb1) rfl rfl rfl fun a S=>Dl (⟨_,h,Keep.refl _ _,S.nf [] rfl (subR rfl)⟩)
 clear S h;rintro a w2 ⟨c1,h,hk3,S⟩;rw [hj1] at h;clear hj1 j1
 refine Vm S rfl rfl ?_;clear S;intro a S
 obtain ⟨j2,hj2,h⟩:=Ep h
 refine Hn 3 (fun a w'=>∃ c2,j2 c2 = some r ∧ Keep [] w2 w' ∧ Sx w [] nov [] [(14,bV c2)] 15 a w') ?_ ?_
 ·rcases Bool.eq_false_or_eq_true c1 with hb2 | hb2
  ·replace h:=Qc h hb2
   refine Du S rfl rfl rfl hb2 (Vm S rfl rfl fun a S=>Du S rfl rfl rfl hb2 ?_)
   obtain ⟨r2,hr2,h⟩:=Fa h
   refine Dw S (fun _=>Dp (vs:=[sV Ar,sV Hx]) ⟨(S.tm rfl),rfl,trivial⟩ call102) (Zg _ Ar Hx _ hr2) rfl ?_;clear S;intro v3 a w5 hv3 hk4 hn3 S
   subst hv3
   exact lv S (Hg hb2 (S.tm rfl) (S.tm rfl)) rfl fun a S=>Dl (⟨_,h,hk4,S.nf [] rfl ⟨rfl,trivial⟩⟩)
  ·replace h:=Qd h hb2
   exact Gn S rfl rfl rfl (Jh hb2) rfl (fun a S=>Gn S rfl rfl rfl (Jh hb2) rfl (fun a S=>Vq S (Hh true hb2) rfl rfl rfl fun a S=>Dl (⟨_,h,Keep.refl _ _,S.nf [] rfl ⟨rfl,trivial⟩⟩)) rfl) rfl
 clear S h;rintro a w4 ⟨c2,h,hk5,S⟩;rw [hj2] at h;clear hj2 j2
 refine Va S rfl rfl fun a S=>Dl (wp_ret ?_)
 obtain rfl:=Option.some.inj h
 exact Ej S results70 rfl rfl
theorem DS (w : World) (Bc : Int) (r : Bool) (h : Pk Bc = r) :
    Calls prog 72 [iV Bc].toArray w (Ret w [] fun _ v _=>v = bV r):=by
 refine Fe func72 rfl ntmps72 rfl fun a S=>?_
 unfold Pk at h
 replace S:=S.k1 0 rfl
 refine Fr (Vk S rfl rfl fun a S=>Dz (Vm S rfl rfl fun a S=>Dw S (fun _=>Dp (vs:=[iV Bc,iV 0,iV 345686399999]) ⟨(S.tm rfl),rfl,rfl,trivial⟩ call71) (Qn _ Bc 0 345686399999 _ rfl) rfl ?_));clear S;intro v1 a w1 hv1 hk1 hn1 S
 subst hv1
 refine Va S rfl rfl fun a S=>Dl (wp_ret ?_)
 subst h
 exact Ej S results72 rfl rfl
theorem AR (w : World) (Ag : Dk) (r : Int) (h : Qj Ag = some r) :
    Calls prog 37 [.agg (Dk.enc Ag).toArray].toArray w (Ret w [] fun _ v _=>v = iV r):=by
 refine Fe func37 rfl ntmps37 rfl fun a S=>?_
 unfold Qj at h
 replace S:=S.k1 0 rfl
 refine Fr (Mn S (S.tm rfl) (cs:=(Dk.enc Ag)) rfl rfl ?_);clear S;intro a w1 b1 hz1 hk1 S
 refine Vk S rfl rfl fun a S=>Dl (Fs (wp_block (Fr (Vf Pq S rfl rfl fun a S=>Vl isAgg9 0 S rfl rfl rfl rfl ?_))));clear S;intro a S
 obtain ⟨r1,hr1,h⟩:=Fa h
 refine Dw S (fun _=>Dp (vs:=[sV Ag.Site]) ⟨(S.tm rfl),trivial⟩ call70) (Ss _ Ag.Site _ hr1) rfl ?_;clear S;intro v1 a w2 hv1 hk2 hn1 S
 subst hv1
 refine Vu S Hj rfl rfl fun a S=>Va S rfl rfl fun a S=>Dl (Fc h (S.tm rfl) (fun hb1 h=>?_) (fun hb1 h=>?_))
 ·refine Fr (Vk S rfl rfl fun a S=>Dl (wp_ret (Fl (Dt ?_))))
  obtain rfl:=Option.some.inj h
  exact Ej S results37 rfl rfl
 ·refine Fr (Vf Sc S rfl rfl fun a S=>Vl isAgg3 0 S rfl rfl rfl rfl fun a S=>Dw S (fun _=>Dp (vs:=[iV Ag.No,iV 1,iV 1000000]) ⟨(S.tm rfl),rfl,rfl,trivial⟩ call71) (Qn _ Ag.No 1 1000000 _ rfl) rfl ?_);clear S;intro v2 a w3 hv2 hk3 hn2 S
  subst hv2
  refine Vu S Hj rfl rfl fun a S=>Vm S rfl rfl fun a S=>Hn 5 (fun a w'=>Keep [] w3 w' ∧ Sx w [] nov [.blk b1 (Dk.enc Ag) 101] [(1,.pointer (some ⟨b1,0,none⟩)),(19,bV ((!(Kh Ag.No 1 1000000)) || (!(Pk Ag.At))))] 117 a w') ?_ ?_
  ·rcases Bool.eq_false_or_eq_true (!(Kh Ag.No 1 1000000)) with hb2 | hb2
   ·iterate 4 (refine Gn S rfl rfl rfl (Kp hb2) rfl ?_ rfl;clear S;intro a S)
    exact lv S (Jq (!(Pk Ag.At)) hb2 (S.tm rfl) rfl) rfl fun a S=>Dl (⟨Keep.refl _ _,S.nf [true] rfl (subR rfl)⟩)
   ·refine Du S rfl rfl rfl hb2 (Vf Sr S rfl rfl fun a S=>Du S rfl rfl rfl hb2 (Vl isAgg3 0 S rfl rfl rfl rfl fun a S=>Du S rfl rfl rfl hb2 (Dw S (fun _=>Dp (vs:=[iV Ag.At]) ⟨(S.tm rfl),trivial⟩ call72) (DS _ Ag.At _ rfl) rfl ?_)));clear S;intro v3 a w5 hv3 hk4 hn3 S
    subst hv3
    exact Du S rfl rfl rfl hb2 (Vu S Hj rfl rfl fun a S=>lv S (Jr hb2 (S.tm rfl) (S.tm rfl)) rfl fun a S=>Dl (⟨hk4,S.nf [true] rfl (subR rfl)⟩))
  clear S;rintro a w4 ⟨hk5,S⟩
  refine Va S rfl rfl fun a S=>Dl (Fc h (S.tm rfl) (fun hb3 h=>?_) (fun hb3 h=>?_))
  ·refine Fr (Vk S rfl rfl fun a S=>Dl (wp_ret (Fl (Dt ?_))))
   obtain rfl:=Option.some.inj h
   exact Ej S results37 rfl rfl
  ·refine Fr (Vf Ok S rfl rfl fun a S=>Vl isAgg3 0 S rfl rfl rfl rfl fun a S=>Dw S (fun _=>Dp (vs:=[iV Ag.Kind,iV 1,iV 4]) ⟨(S.tm rfl),rfl,rfl,trivial⟩ call71) (Qn _ Ag.Kind 1 4 _ rfl) rfl ?_);clear S;intro v4 a w6 hv4 hk6 hn4 S
   subst hv4
   refine Vu S Hj rfl rfl fun a S=>Va S rfl rfl fun a S=>Dl (Fc h (S.tm rfl) (fun hb4 h=>?_) (fun hb4 h=>?_))
   ·refine Fr (Vk S rfl rfl fun a S=>Dl (wp_ret (Fl (Dt ?_))))
    obtain rfl:=Option.some.inj h
    exact Ej S results37 rfl rfl
   ·refine wp_skip (Ho (Tn (Fr (Vf Pq S rfl rfl fun a S=>Vl isAgg9 0 S rfl rfl rfl rfl fun a S=>Vf Sc S rfl rfl fun a S=>Vl isAgg3 0 S rfl rfl rfl rfl fun a S=>Vf Sr S rfl rfl fun a S=>Vl isAgg3 0 S rfl rfl rfl rfl ?_))));clear S;intro a S
    refine Vf Ok S rfl rfl fun a S=>Vl isAgg3 0 S rfl rfl rfl rfl fun a S=>lv S (Mr PB (pv:=[(0,sV Ag.Site),(1,iV Ag.No),(2,iV Ag.At),(3,iV Ag.Kind)]) ⟨rfl,(S.tm rfl),rfl,(S.tm rfl),rfl,(S.tm rfl),rfl,(S.tm rfl),trivial⟩ (cs:=[sV Ag.Site,iV Ag.No,iV Ag.At,iV Ag.Kind,sV An,sV An,sV An,iV 0,iV 0,sV An,iV 0]) (by kernel_rfl)) rfl fun a S=>Hs S zeroValue101 (cs:=[sV An,iV 0,iV 0,iV 0,sV An,sV An,sV An,iV 0,iV 0,sV An,iV 0]) rfl rfl ?_;clear S;intro a w7 b2 hz2 hk7 S
    refine Ex S (S.tm rfl) (S.tm rfl) (i:=0) (off:=0) rfl sizeOf101 (vs:=(Dk.enc (Dk.mk Ag.Site Ag.No Ag.At Ag.Kind An An An 0 0 An 0))) rfl rfl rfl rfl ?_;clear S;intro w8 hk8 S
    refine Ld ?_
    replace S:=(S.nl [.blk b2 (Dk.enc (Dk.mk Ag.Site Ag.No Ag.At Ag.Kind An An An 0 0 An 0)) 101,.blk b1 (Dk.enc Ag) 101] [true,true] rfl).k2 1 3 rfl
    refine Tn (Fs (Fr (Vf Ok S rfl rfl fun a S=>Vl isAgg3 1 S rfl rfl rfl rfl fun a S=>Vq S Im rfl rfl rfl fun a S=>Dl ?_)))
    obtain ⟨j1,hj1,h⟩:=Ep h
    refine Eg (fun a w'=>∃ x1 : ByteArray,∃ x2 : ByteArray,∃ x3 : ByteArray,∃ x4 : Int,j1 x1 x2 x3 x4 = some r ∧ Sx w [] nov [.blk b2 (Dk.enc (Dk.mk Ag.Site Ag.No Ag.At Ag.Kind x1 An x2 0 0 x3 x4)) 101,.blk b1 (Dk.enc Ag) 101] [(1,.pointer (some ⟨b1,0,none⟩)),(3,.pointer (some ⟨b2,0,none⟩))] 117 a w') ?_ ?_
    ·refine Fc h (S.tm rfl) (fun hb5 h=>?_) (fun hb5 h=>?_)
     ·refine Fs (Hd [] ([b2]) Tryz.mixed S rfl (by kernel_rfl) ?_);clear S;intro w12 hk11 hsel S
      refine Eb 0 S hsel rfl rfl rfl (by kernel_rfl) (by kernel_rfl) rfl (fun _ hw=>(Fy Xa (S.tm rfl))) fun a S=>Eb 1 S hsel rfl rfl rfl (by kernel_rfl) (by kernel_rfl) rfl (fun _ hw=>(Hm isAgg9 (off:=0) (o:=9) (S.tm rfl) ((S.blk_mem (i:=1) (cells:=(Dk.enc Ag)) (b:=b1) (T:=101) rfl (Mo (i:=0) (j:=1) (e:=.blk b2 (Dk.enc (Dk.mk Ag.Site Ag.No Ag.At Ag.Kind An An An 0 0 An 0)) 101) (e':=.blk b1 (Dk.enc Ag) 101) S rfl rfl rfl)).kept hw) rfl)) fun a S=>Eb 2 S hsel rfl rfl rfl (by kernel_rfl) (by kernel_rfl) rfl (fun _ hw=>(Fy Ty (S.tm rfl))) fun a S=>Eb 3 S hsel rfl rfl rfl (by kernel_rfl) (by kernel_rfl) rfl (fun _ hw=>(Hm isAgg3 (off:=0) (o:=10) (S.tm rfl) ((S.blk_mem (i:=1) (cells:=(Dk.enc Ag)) (b:=b1) (T:=101) rfl (Mo (i:=0) (j:=1) (e:=.blk b2 (Dk.enc (Dk.mk Ag.Site Ag.No Ag.At Ag.Kind An An An 0 0 An 0)) 101) (e':=.blk b1 (Dk.enc Ag) 101) S rfl rfl rfl)).kept hw) rfl)) fun a S=>Eb 4 S hsel rfl rfl rfl (by kernel_rfl) (by kernel_rfl) rfl (fun _ hw=>(Fy Xa (S.tm rfl))) fun a S=>He 5 (by kernel_rfl) rfl (Ex S (S.tm rfl) (S.tm rfl) (i:=0) (off:=9) rfl sizeOf9 (vs:=[sV Ag.Of]) rfl rfl rfl rfl ?_);clear S;intro w13 hk12 S
      refine Ld (Ig hk12 (Eb 6 S hsel rfl rfl rfl (by kernel_rfl) (by kernel_rfl) rfl (fun _ hw=>(Fy Ty (S.tm rfl))) fun a S=>He 7 (by kernel_rfl) rfl (Ex S (S.tm rfl) (S.tm rfl) (i:=0) (off:=10) rfl sizeOf3 (vs:=[iV Ag.Other]) rfl rfl rfl rfl ?_)));clear S;intro w14 hk13 S
      refine Ld (Ig hk13 (Xi (by kernel_rfl) ?_))
      clear hsel
      replace S:=(S.nl [.blk b2 (Dk.enc (Dk.mk Ag.Site Ag.No Ag.At Ag.Kind An An An 0 0 Ag.Of Ag.Other)) 101,.blk b1 (Dk.enc Ag) 101] [true,true] rfl).k2 1 3 rfl
      refine Tn (Fs (Fr (Vf Xa S rfl rfl fun a S=>Vl isAgg9 1 S rfl rfl rfl rfl ?_)));clear S;intro a S
      obtain ⟨r2,hr2,h⟩:=Fa h
      refine Dw S (fun _=>Dp (vs:=[sV Ag.Of]) ⟨(S.tm rfl),trivial⟩ call70) (Ss _ Ag.Of _ hr2) rfl ?_;clear S;intro v5 a w15 hv5 hk14 hn5 S
      subst hv5
      refine Vu S Hj rfl rfl fun a S=>Dl (Fc h (S.tm rfl) (fun hb6 h=>?_) (fun hb6 h=>?_))
      ·refine Fr (Vk S rfl rfl fun a S=>Dl (wp_ret ?_))
       iterate 3 (refine Dt ?_)
       obtain rfl:=Option.some.inj h
       exact Ej S results37 rfl rfl
      ·refine wp_skip (Tn (Fr (Vf Ty S rfl rfl fun a S=>Vl isAgg3 1 S rfl rfl rfl rfl fun a S=>Dw S (fun _=>Dp (vs:=[iV Ag.Other,iV 1,iV 1000000]) ⟨(S.tm rfl),rfl,rfl,trivial⟩ call71) (Qn _ Ag.Other 1 1000000 _ rfl) rfl ?_)));clear S;intro v6 a w16 hv6 hk15 hn6 S
       subst hv6
       refine Vu S Hj rfl rfl fun a S=>Dl (Fc h (S.tm rfl) (fun hb7 h=>?_) (fun hb7 h=>?_))
       ·refine Fr (Vk S rfl rfl fun a S=>Dl (wp_ret (Dt (Dt ?_))))
        obtain rfl:=Option.some.inj h
        exact Ej S results37 rfl rfl
       ·exact wp_skip (Tn (⟨An,An,Ag.Of,Ag.Other,h,S.nf [true,true] rfl (subR rfl)⟩))
     ·refine Fs (Hd [] ([b2]) Tryz.mixed S rfl (by kernel_rfl) ?_);clear S;intro w19 hk18 hsel S
      refine Eb 0 S hsel rfl rfl rfl (by kernel_rfl) (by kernel_rfl) rfl (fun _ hw=>(Fy Mq (S.tm rfl))) fun a S=>Eb 1 S hsel rfl rfl rfl (by kernel_rfl) (by kernel_rfl) rfl (fun _ hw=>(Hm isAgg9 (off:=0) (o:=4) (S.tm rfl) ((S.blk_mem (i:=1) (cells:=(Dk.enc Ag)) (b:=b1) (T:=101) rfl (Mo (i:=0) (j:=1) (e:=.blk b2 (Dk.enc (Dk.mk Ag.Site Ag.No Ag.At Ag.Kind An An An 0 0 An 0)) 101) (e':=.blk b1 (Dk.enc Ag) 101) S rfl rfl rfl)).kept hw) rfl)) fun a S=>Eb 2 S hsel rfl rfl rfl (by kernel_rfl) (by kernel_rfl) rfl (fun _ hw=>(Fy Re (S.tm rfl))) fun a S=>Eb 3 S hsel rfl rfl rfl (by kernel_rfl) (by kernel_rfl) rfl (fun _ hw=>(Hm isAgg9 (off:=0) (o:=6) (S.tm rfl) ((S.blk_mem (i:=1) (cells:=(Dk.enc Ag)) (b:=b1) (T:=101) rfl (Mo (i:=0) (j:=1) (e:=.blk b2 (Dk.enc (Dk.mk Ag.Site Ag.No Ag.At Ag.Kind An An An 0 0 An 0)) 101) (e':=.blk b1 (Dk.enc Ag) 101) S rfl rfl rfl)).kept hw) rfl)) fun a S=>Eb 4 S hsel rfl rfl rfl (by kernel_rfl) (by kernel_rfl) rfl (fun _ hw=>(Fy Mq (S.tm rfl))) fun a S=>He 5 (by kernel_rfl) rfl (Ex S (S.tm rfl) (S.tm rfl) (i:=0) (off:=4) rfl sizeOf9 (vs:=[sV Ag.Who]) rfl rfl rfl rfl ?_);clear S;intro w20 hk19 S
      refine Ld (Ig hk19 (Eb 6 S hsel rfl rfl rfl (by kernel_rfl) (by kernel_rfl) rfl (fun _ hw=>(Fy Re (S.tm rfl))) fun a S=>He 7 (by kernel_rfl) rfl (Ex S (S.tm rfl) (S.tm rfl) (i:=0) (off:=6) rfl sizeOf9 (vs:=[sV Ag.Race]) rfl rfl rfl rfl ?_)));clear S;intro w21 hk20 S
      refine Ld (Ig hk20 (Xi (by kernel_rfl) ?_))
      clear hsel
      replace S:=(S.nl [.blk b2 (Dk.enc (Dk.mk Ag.Site Ag.No Ag.At Ag.Kind Ag.Who An Ag.Race 0 0 An 0)) 101,.blk b1 (Dk.enc Ag) 101] [true,true] rfl).k2 1 3 rfl
      refine Tn (Fr (Vf Mq S rfl rfl fun a S=>Vl isAgg9 1 S rfl rfl rfl rfl ?_));clear S;intro a S
      obtain ⟨r3,hr3,h⟩:=Fa h
      refine Dw S (fun _=>Dp (vs:=[sV Ag.Who]) ⟨(S.tm rfl),trivial⟩ call70) (Ss _ Ag.Who _ hr3) rfl ?_;clear S;intro v7 a w22 hv7 hk21 hn7 S
      subst hv7
      refine Vu S Hj rfl rfl fun a S=>Vm S rfl rfl ?_;clear S;intro a S
      obtain ⟨j2,hj2,h⟩:=Ep h
      refine Hn 5 (fun a w'=>∃ c1,j2 c1 = some r ∧ Keep [] w22 w' ∧ Sx w [] nov [.blk b2 (Dk.enc (Dk.mk Ag.Site Ag.No Ag.At Ag.Kind Ag.Who An Ag.Race 0 0 An 0)) 101,.blk b1 (Dk.enc Ag) 101] [(1,.pointer (some ⟨b1,0,none⟩)),(3,.pointer (some ⟨b2,0,none⟩)),(66,bV c1)] 117 a w') ?_ ?_
      ·rcases Bool.eq_false_or_eq_true (!r3) with hb8 | hb8
       ·replace h:=Qc h hb8
        iterate 4 (refine Gn S rfl rfl rfl (Kp hb8) rfl ?_ rfl;clear S;intro a S)
        exact Vq S (Jq true hb8) rfl rfl rfl fun a S=>Dl (⟨_,h,Keep.refl _ _,S.nf [true,true] rfl (subR rfl)⟩)
       ·replace h:=Qd h hb8
        refine Du S rfl rfl rfl hb8 (Vf Re S rfl rfl fun a S=>Du S rfl rfl rfl hb8 (Vl isAgg9 1 S rfl rfl rfl rfl fun a S=>Du S rfl rfl rfl hb8 ?_))
        obtain ⟨r4,hr4,h⟩:=Fa h
        refine Dw S (fun _=>Dp (vs:=[sV Ag.Race]) ⟨(S.tm rfl),trivial⟩ call70) (Ss _ Ag.Race _ hr4) rfl ?_;clear S;intro v8 a w24 hv8 hk22 hn8 S
        subst hv8
        exact Du S rfl rfl rfl hb8 (Vu S Hj rfl rfl fun a S=>lv S (Jr hb8 (S.tm rfl) (S.tm rfl)) rfl fun a S=>Dl (⟨_,h,hk22,S.nf [true,true] rfl (subR rfl)⟩))
      clear S h;rintro a w23 ⟨c1,h,hk23,S⟩;rw [hj2] at h;clear hj2 j2
      refine Vm S rfl rfl ?_;clear S;intro a S
      obtain ⟨j3,hj3,h⟩:=Ep h
      refine Hn 15 (fun a w'=>∃ c2,j3 c2 = some r ∧ Keep [] w23 w' ∧ Sx w [] nov [.blk b2 (Dk.enc (Dk.mk Ag.Site Ag.No Ag.At Ag.Kind Ag.Who An Ag.Race 0 0 An 0)) 101,.blk b1 (Dk.enc Ag) 101] [(1,.pointer (some ⟨b1,0,none⟩)),(3,.pointer (some ⟨b2,0,none⟩)),(82,bV c2)] 117 a w') ?_ ?_
      ·rcases Bool.eq_false_or_eq_true c1 with hb9 | hb9
       ·replace h:=Qc h hb9
        iterate 4 (refine Gn S rfl rfl rfl (Kp hb9) rfl ?_ rfl;clear S;intro a S)
        iterate 3 (refine Xl S rfl rfl rfl rfl ?_;clear S;intro a S)
        refine Gn S rfl rfl rfl (Kp hb9) rfl (fun a S=>Gn S rfl rfl rfl (Kp hb9) rfl ?_ rfl) rfl;clear S;intro a S
        iterate 4 (refine Xl S rfl rfl rfl rfl ?_;clear S;intro a S)
        exact Gn S rfl rfl rfl (Kp hb9) rfl (fun a S=>Vq S (Jq true hb9) rfl rfl rfl fun a S=>Dl (⟨_,h,Keep.refl _ _,S.nf [true,true] rfl (subR rfl)⟩)) rfl
       ·replace h:=Qd h hb9
        refine Du S rfl rfl rfl hb9 (Vf Ok S rfl rfl fun a S=>Du S rfl rfl rfl hb9 (Vl isAgg3 1 S rfl rfl rfl rfl fun a S=>Du S rfl rfl rfl hb9 (Vq S Im rfl rfl rfl fun a S=>Du S rfl rfl rfl hb9 (Vm S rfl rfl fun a S=>Hn 4 (fun a w'=>Keep [] w23 w' ∧ Sx w [] nov [.blk b2 (Dk.enc (Dk.mk Ag.Site Ag.No Ag.At Ag.Kind Ag.Who An Ag.Race 0 0 An 0)) 101,.blk b1 (Dk.enc Ag) 101] [(1,.pointer (some ⟨b1,0,none⟩)),(3,.pointer (some ⟨b2,0,none⟩)),(67,bV c1),(75,bV ((decide (Ag.Kind = 1)) && (!decide (Ag.Club = An))))] 117 a w') ?_ ?_))))
        ·rcases Bool.eq_false_or_eq_true (decide (Ag.Kind = 1)) with hb10 | hb10
         ·exact Du S rfl rfl rfl hb10 (Vf Tp S rfl rfl fun a S=>Du S rfl rfl rfl hb10 (Vl isAgg9 1 S rfl rfl rfl rfl fun a S=>Du S rfl rfl rfl hb10 (Vq S CE rfl rfl rfl fun a S=>Du S rfl rfl rfl hb9 (lv S (Hg hb10 (S.tm rfl) (S.tm rfl)) rfl fun a S=>Dl (⟨Keep.refl _ _,S.nf [true,true] rfl (subR rfl)⟩)))))
         ·iterate 3 (refine Gn S rfl rfl rfl (Jh hb10) rfl ?_ rfl;clear S;intro a S)
          exact Du S rfl rfl rfl hb9 (lv S (Hh (!decide (Ag.Club = An)) hb10 (S.tm rfl) rfl) rfl fun a S=>Dl (⟨Keep.refl _ _,S.nf [true,true] rfl (subR rfl)⟩))
        clear S;rintro a w26 ⟨hk24,S⟩
        refine Du S rfl rfl rfl hb9 (Vm S rfl rfl ?_);clear S;intro a S
        obtain ⟨j4,hj4,h⟩:=Ep h
        refine Hn 5 (fun a w'=>∃ c3,j4 c3 = some r ∧ Keep [] w26 w' ∧ Sx w [] nov [.blk b2 (Dk.enc (Dk.mk Ag.Site Ag.No Ag.At Ag.Kind Ag.Who An Ag.Race 0 0 An 0)) 101,.blk b1 (Dk.enc Ag) 101] [(1,.pointer (some ⟨b1,0,none⟩)),(3,.pointer (some ⟨b2,0,none⟩)),(67,bV c1),(81,bV c3)] 117 a w') ?_ ?_
        ·rcases Bool.eq_false_or_eq_true ((decide (Ag.Kind = 1)) && (!decide (Ag.Club = An))) with hb11 | hb11
         ·replace h:=Qc h hb11
          refine Du S rfl rfl rfl hb11 (Vf Tp S rfl rfl fun a S=>Du S rfl rfl rfl hb11 (Vl isAgg9 1 S rfl rfl rfl rfl fun a S=>Du S rfl rfl rfl hb11 ?_))
          obtain ⟨r5,hr5,h⟩:=Fa h
          refine Dw S (fun _=>Dp (vs:=[sV Ag.Club]) ⟨(S.tm rfl),trivial⟩ call70) (Ss _ Ag.Club _ hr5) rfl ?_;clear S;intro v9 a w28 hv9 hk25 hn9 S
          subst hv9
          exact Du S rfl rfl rfl hb11 (Vu S Hj rfl rfl fun a S=>Du S rfl rfl rfl hb9 (lv S (Hg hb11 (S.tm rfl) (S.tm rfl)) rfl fun a S=>Dl (⟨_,h,hk25,S.nf [true,true] rfl (subR rfl)⟩)))
         ·replace h:=Qd h hb11
          iterate 4 (refine Gn S rfl rfl rfl (Jh hb11) rfl ?_ rfl;clear S;intro a S)
          exact Du S rfl rfl rfl hb9 (Vq S (Hh true hb11) rfl rfl rfl fun a S=>Dl (⟨_,h,Keep.refl _ _,S.nf [true,true] rfl (subR rfl)⟩))
        clear S h;rintro a w27 ⟨c3,h,hk26,S⟩;rw [hj4] at h;clear hj4 j4
        exact lv S (Jr hb9 (S.tm rfl) (S.tm rfl)) rfl fun a S=>Dl (⟨_,h,(hk24).trans hk26,S.nf [true,true] rfl (subR rfl)⟩)
      clear S h;rintro a w25 ⟨c2,h,hk27,S⟩;rw [hj3] at h;clear hj3 j3
      refine Dl (Fc h (S.tm rfl) (fun hb12 h=>?_) (fun hb12 h=>?_))
      ·refine Fr (Vk S rfl rfl fun a S=>Dl (wp_ret (Dt (Dt ?_))))
       obtain rfl:=Option.some.inj h
       exact Ej S results37 rfl rfl
      ·exact wp_skip (Tn (⟨Ag.Who,Ag.Race,An,0,h,S.nf [true,true] rfl (subR rfl)⟩))
    clear S h;rintro a w9 ⟨x1,x2,x3,x4,h,S⟩;rw [hj1] at h;clear hj1 j1
    refine Tn (Fs (Fr (Vf Ok S rfl rfl fun a S=>Vl isAgg3 1 S rfl rfl rfl rfl fun a S=>Vq S Im rfl rfl rfl fun a S=>Dl ?_)))
    obtain ⟨j5,hj5,h⟩:=Ep h
    refine Eg (fun a w'=>∃ x5 : ByteArray,j5 x5 = some r ∧ Sx w [] nov [.blk b2 (Dk.enc (Dk.mk Ag.Site Ag.No Ag.At Ag.Kind x1 x5 x2 0 0 x3 x4)) 101,.blk b1 (Dk.enc Ag) 101] [(1,.pointer (some ⟨b1,0,none⟩)),(3,.pointer (some ⟨b2,0,none⟩))] 117 a w') ?_ ?_
    ·refine Fc h (S.tm rfl) (fun hb13 h=>?_) (fun hb13 h=>?_)
     ·refine Fg (Vf Tp S rfl rfl fun a S=>Vl isAgg9 1 S rfl rfl rfl rfl fun a S=>Vf Tp S rfl rfl fun a S=>Ex S (S.tm rfl) (S.tm rfl) (i:=0) (off:=5) rfl sizeOf9 (vs:=[sV Ag.Club]) rfl rfl rfl rfl ?_);clear S;intro w30 hk28 S
      exact Dl (⟨Ag.Club,h,S.nf [true,true] rfl (subR rfl)⟩)
     ·exact wp_skip (Tn (⟨An,h,S.nf [true,true] rfl (subR rfl)⟩))
    clear S h;rintro a w29 ⟨x5,h,S⟩;rw [hj5] at h;clear hj5 j5
    refine Tn (Fs (Fr (Vf Ok S rfl rfl fun a S=>Vl isAgg3 1 S rfl rfl rfl rfl fun a S=>Vq S Im rfl rfl rfl fun a S=>Vm S rfl rfl fun a S=>Hn 4 (fun a w'=>Keep [] w29 w' ∧ Sx w [] nov [.blk b2 (Dk.enc (Dk.mk Ag.Site Ag.No Ag.At Ag.Kind x1 x5 x2 0 0 x3 x4)) 101,.blk b1 (Dk.enc Ag) 101] [(1,.pointer (some ⟨b1,0,none⟩)),(3,.pointer (some ⟨b2,0,none⟩)),(96,bV ((decide (Ag.Kind = 1)) || (decide (Ag.Kind = 3))))] 117 a w') ?_ ?_)))
    ·rcases Bool.eq_false_or_eq_true (decide (Ag.Kind = 1)) with hb14 | hb14
     ·iterate 3 (refine Gn S rfl rfl rfl (Kp hb14) rfl ?_ rfl;clear S;intro a S)
      exact lv S (Jq (decide (Ag.Kind = 3)) hb14 (S.tm rfl) rfl) rfl fun a S=>Dl (⟨Keep.refl _ _,S.nf [true,true] rfl (subR rfl)⟩)
     ·exact Du S rfl rfl rfl hb14 (Vf Ok S rfl rfl fun a S=>Du S rfl rfl rfl hb14 (Vl isAgg3 1 S rfl rfl rfl rfl fun a S=>Du S rfl rfl rfl hb14 (Vq S Im rfl rfl rfl fun a S=>lv S (Jr hb14 (S.tm rfl) (S.tm rfl)) rfl fun a S=>Dl (⟨Keep.refl _ _,S.nf [true,true] rfl (subR rfl)⟩))))
    clear S;rintro a w31 ⟨hk29,S⟩
    refine Dl ?_
    obtain ⟨j6,hj6,h⟩:=Ep h
    refine Eg (fun a w'=>∃ x6 : Int,j6 x6 = some r ∧ Sx w [] nov [.blk b2 (Dk.enc (Dk.mk Ag.Site Ag.No Ag.At Ag.Kind x1 x5 x2 x6 0 x3 x4)) 101,.blk b1 (Dk.enc Ag) 101] [(1,.pointer (some ⟨b1,0,none⟩)),(3,.pointer (some ⟨b2,0,none⟩))] 117 a w') ?_ ?_
    ·refine Fc h (S.tm rfl) (fun hb15 h=>?_) (fun hb15 h=>?_)
     ·refine Fr (Vf Sd S rfl rfl fun a S=>Vl isAgg3 1 S rfl rfl rfl rfl fun a S=>Vf Sd S rfl rfl fun a S=>Ex S (S.tm rfl) (S.tm rfl) (i:=0) (off:=7) rfl sizeOf3 (vs:=[iV Ag.Time]) rfl rfl rfl rfl ?_);clear S;intro w33 hk30 S
      refine Dz (Vf Sd S rfl rfl fun a S=>Vl isAgg3 1 S rfl rfl rfl rfl fun a S=>Dw S (fun _=>Dp (vs:=[iV Ag.Time,iV 0,iV 360000]) ⟨(S.tm rfl),rfl,rfl,trivial⟩ call71) (Qn _ Ag.Time 0 360000 _ rfl) rfl ?_);clear S;intro v10 a w34 hv10 hk31 hn10 S
      subst hv10
      refine Vu S Hj rfl rfl fun a S=>Dl (Fc h (S.tm rfl) (fun hb16 h=>?_) (fun hb16 h=>?_))
      ·refine Fr (Vk S rfl rfl fun a S=>Dl (wp_ret (Dt (Dt ?_))))
       obtain rfl:=Option.some.inj h
       exact Ej S results37 rfl rfl
      ·exact wp_skip (Tn (⟨Ag.Time,h,S.nf [true,true] rfl (subR rfl)⟩))
     ·exact wp_skip (Tn (⟨0,h,S.nf [true,true] rfl (subR rfl)⟩))
    clear S h;rintro a w32 ⟨x6,h,S⟩;rw [hj6] at h;clear hj6 j6
    refine Tn (Fs (Fr (Vf Ok S rfl rfl fun a S=>Vl isAgg3 1 S rfl rfl rfl rfl fun a S=>Vq S Im rfl rfl rfl fun a S=>Dl ?_)))
    obtain ⟨j7,hj7,h⟩:=Ep h
    refine Eg (fun a w'=>∃ x7 : Int,j7 x7 = some r ∧ Sx w [] nov [.blk b2 (Dk.enc (Dk.mk Ag.Site Ag.No Ag.At Ag.Kind x1 x5 x2 x6 x7 x3 x4)) 101,.blk b1 (Dk.enc Ag) 101] [(1,.pointer (some ⟨b1,0,none⟩)),(3,.pointer (some ⟨b2,0,none⟩))] 117 a w') ?_ ?_
    ·refine Fc h (S.tm rfl) (fun hb17 h=>?_) (fun hb17 h=>?_)
     ·refine Fr (Vf Uo S rfl rfl fun a S=>Vl isAgg3 1 S rfl rfl rfl rfl fun a S=>Vf Uo S rfl rfl fun a S=>Ex S (S.tm rfl) (S.tm rfl) (i:=0) (off:=8) rfl sizeOf3 (vs:=[iV Ag.Fault]) rfl rfl rfl rfl ?_);clear S;intro w36 hk32 S
      refine Dz (Vf Uo S rfl rfl fun a S=>Vl isAgg3 1 S rfl rfl rfl rfl fun a S=>Dw S (fun _=>Dp (vs:=[iV Ag.Fault,iV 0,iV 8]) ⟨(S.tm rfl),rfl,rfl,trivial⟩ call71) (Qn _ Ag.Fault 0 8 _ rfl) rfl ?_);clear S;intro v11 a w37 hv11 hk33 hn11 S
      subst hv11
      refine Vu S Hj rfl rfl fun a S=>Dl (Fc h (S.tm rfl) (fun hb18 h=>?_) (fun hb18 h=>?_))
      ·refine Fr (Vk S rfl rfl fun a S=>Dl (wp_ret (Dt (Dt ?_))))
       obtain rfl:=Option.some.inj h
       exact Ej S results37 rfl rfl
      ·exact wp_skip (Tn (⟨Ag.Fault,h,S.nf [true,true] rfl (subR rfl)⟩))
     ·exact wp_skip (Tn (⟨0,h,S.nf [true,true] rfl (subR rfl)⟩))
    clear S h;rintro a w35 ⟨x7,h,S⟩;rw [hj7] at h;clear hj7 j7
    refine Tn (Fs (Fr (lv S (Fp isAgg101 sizeOf101 (off:=0) (o:=0) (part:=(Dk.enc Ag)) rfl rfl (S.tm rfl) (S.cellsAt (i:=1) rfl)) rfl fun a S=>lv S (Fp isAgg101 sizeOf101 (off:=0) (o:=0) (part:=(Dk.enc (Dk.mk Ag.Site Ag.No Ag.At Ag.Kind x1 x5 x2 x6 x7 x3 x4))) rfl rfl (S.tm rfl) (S.cellsAt (i:=0) rfl)) rfl fun a S=>lv S (IE (m:=Ag) (n:=(Dk.mk Ag.Site Ag.No Ag.At Ag.Kind x1 x5 x2 x6 x7 x3 x4)) (S.tm rfl) (S.tm rfl)) rfl fun a S=>Dl (Fc h (S.tm rfl) (fun hb19 h=>?_) (fun hb19 h=>?_)))))
    ·refine Fr (Vk S rfl rfl fun a S=>Dl (wp_ret (Dt ?_)))
     obtain rfl:=Option.some.inj h
     exact Ej S results37 rfl rfl
    ·refine wp_skip (Tn (Fr (Vk S rfl rfl fun a S=>Dl (wp_ret ?_))))
     obtain rfl:=Option.some.inj h
     exact Ej S results37 rfl rfl
theorem DT (w : World) (Ap : Dk) (Au : Dk) (r : Bool) (h : Ut Ap Au = r) :
    Calls prog 40 [.agg (Dk.enc Ap).toArray,.agg (Dk.enc Au).toArray].toArray w (Ret w [] fun _ v _=>v = bV r):=by
 refine Fe func40 rfl ntmps40 rfl fun a S=>?_
 unfold Ut at h
 replace S:=S.k2 0 1 rfl
 refine Fr (Mn S (S.tm rfl) (cs:=(Dk.enc Ap)) rfl rfl ?_);clear S;intro a w1 b1 hz1 hk1 S
 refine Mn S (S.tm rfl) (cs:=(Dk.enc Au)) rfl rfl ?_;clear S;intro a w2 b2 hz2 hk2 S
 refine Vk S rfl rfl fun a S=>Dz (Vf Pq S rfl rfl fun a S=>Vl isAgg9 1 S rfl rfl rfl rfl fun a S=>Vf Pq S rfl rfl fun a S=>Vl isAgg9 0 S rfl rfl rfl rfl fun a S=>Vb S Ve rfl rfl rfl fun a S=>Vm S rfl rfl ?_);clear S;intro a S
 refine Hn 6 (fun a w'=>Keep [] w2 w' ∧ Sx w [] nov [.blk b2 (Dk.enc Au) 101,.blk b1 (Dk.enc Ap) 101] [(16,bV ((decide (Ap.Site = Au.Site)) && (decide (Ap.No = Au.No))))] 17 a w') ?_ ?_
 ·rcases Bool.eq_false_or_eq_true (decide (Ap.Site = Au.Site)) with hb1 | hb1
  ·refine Du S rfl rfl rfl hb1 (Vf Sc S rfl rfl fun a S=>Du S rfl rfl rfl hb1 (Vl isAgg3 1 S rfl rfl rfl rfl fun a S=>Du S rfl rfl rfl hb1 (Vf Sc S rfl rfl fun a S=>Du S rfl rfl rfl hb1 (Vl isAgg3 0 S rfl rfl rfl rfl fun a S=>Du S rfl rfl rfl hb1 (Vb S Im rfl rfl rfl fun a S=>lv S (Hg hb1 (S.tm rfl) (S.tm rfl)) rfl ?_)))));clear S;intro a S
   exact Dl (⟨Keep.refl _ _,S.nf [true,true] rfl ⟨rfl,trivial⟩⟩)
  ·iterate 5 (refine Gn S rfl rfl rfl (Jh hb1) rfl ?_ rfl;clear S;intro a S)
   exact lv S (Hh (decide (Ap.No = Au.No)) hb1 (S.tm rfl) rfl) rfl fun a S=>Dl (⟨Keep.refl _ _,S.nf [true,true] rfl ⟨rfl,trivial⟩⟩)
 clear S;rintro a w3 ⟨hk3,S⟩
 refine Va S rfl rfl fun a S=>Dl (wp_ret ?_)
 subst h
 exact Ej S results40 rfl rfl
theorem Yh (w : World) (Dc : Dk) (Ca : Nat) (Bk : Dk) (Cb : (view w []) Ca = some (.cells [sV Bk.Site,iV Bk.No,iV Bk.At,iV Bk.Kind,sV Bk.Who,sV Bk.Club,sV Bk.Race,iV Bk.Time,iV Bk.Fault,sV Bk.Of,iV Bk.Other].toArray 101 (0,0))) (r : Bool) (h : Oi Dc Bk = r) :
    Calls prog 39 [.agg (Dk.enc Dc).toArray,.pointer (some ⟨Ca,0,none⟩)].toArray w (Ret w [] fun _ v _=>v = bV r):=by
 refine Fe func39 rfl ntmps39 rfl fun a S=>?_
 unfold Oi at h
 replace S:=S.k2 0 1 rfl
 refine Fr (Mn S (S.tm rfl) (cs:=(Dk.enc Dc)) rfl rfl ?_);clear S;intro a w1 b1 hz1 hk1 S
 refine Vk S rfl rfl fun a S=>Dz (lv S (Fp isAgg101 sizeOf101 (off:=0) (o:=0) (part:=(Dk.enc Dc)) rfl rfl (S.tm rfl) (S.cellsAt (i:=0) rfl)) rfl fun a S=>lv S (Fp isAgg101 sizeOf101 (off:=0) (o:=0) (part:=(Dk.enc Bk)) rfl rfl (S.tm rfl) ((Ru Cb).at S.emb0)) rfl fun a S=>Dw S (fun _=>Dp (vs:=[.agg (Dk.enc Dc).toArray,.agg (Dk.enc Bk).toArray]) ⟨(S.tm rfl),(S.tm rfl),trivial⟩ call40) (DT _ Dc Bk _ rfl) rfl ?_);clear S;intro v1 a w2 hv1 hk2 hn1 S
 subst hv1
 refine Va S rfl rfl fun a S=>Dl (wp_ret ?_)
 subst h
 exact Ej S results39 rfl rfl
theorem Rh (w : World) (Ax : Value) (Ar : List Dk) (Bf : Slc (view w []) 11 Ax (Ar.map Dk.enc)) (Az : Nat) (Aw : Dk) (Bg : (view w []) Az = some (.cells [sV Aw.Site,iV Aw.No,iV Aw.At,iV Aw.Kind,sV Aw.Who,sV Aw.Club,sV Aw.Race,iV Aw.Time,iV Aw.Fault,sV Aw.Of,iV Aw.Other].toArray 101 (0,0))) (r : Int) (h : Lj Ar Aw = r) :
    Calls prog 73 [Ax,.func (.func 39) #[] #[.pointer (some ⟨Az,0,none⟩)]].toArray w (Ret w [] fun _ v _=>v = iV r):=by
 refine Fe func73 rfl ntmps73 rfl fun a S=>?_
 unfold Lj at h
 replace S:=S.k2 0 1 rfl
 refine Fr (Vk S rfl rfl fun a S=>Dl (Fs (Fr (Vm S rfl rfl fun a S=>lv S (Fq Nj (S.tm rfl) (Fj Bf)) rfl fun a S=>lv S (Rm rfl) rfl ?_))));clear S;intro a S
 refine Dl ?_
 replace S:=S.k4 0 1 7 8 rfl
 obtain ⟨j1,hj1,h⟩:=Ep h
 refine Eg (fun a w'=>j1 = r ∧ Sx w [] nov [] [] 19 a w') ?_ ?_
 ·refine wp_block (Gx (fun (ys1 : List Dk) a w'=>∃ i1 : Nat,(∃ dn,Ar = dn ++ ys1 ∧ dn.length = i1) ∧ Ew Aw j1 ys1 i1 = r ∧ Sx w [] nov [] [(0,Ax),(1,.func (.func 39) #[] #[.pointer (some ⟨Az,0,none⟩)]),(7,iV (Ar.length : Int)),(8,iV (i1 : Int))] 19 a w') List.length Ar ⟨0,⟨[],rfl,rfl⟩,h,S.nf [] rfl (subR rfl)⟩ ?_)
  clear S h;rintro ys1 a w1 ⟨i1,⟨dn,hd1,hi1⟩,h,S⟩
  cases ys1 with
  | nil =>
   rw [Ew.eq_1] at h
   refine Fr (Vb S Et rfl rfl rfl fun a S=>Ld ?_)
   replace S:=S.k5 0 1 7 8 9 rfl
   exact Tn (Fs (wp_cond_false ((S.tm rfl).trans (congrArg Value.bool (Il hd1 hi1))) (wp_exit (Ed (Ed (Gp (Tn (⟨h,S.nf [] rfl trivial⟩))))))))
  | cons y1 ys1 =>
   rw [Ew.eq_2] at h
   refine Fr (Vb S Et rfl rfl rfl fun a S=>Ld ?_)
   replace S:=S.k5 0 1 7 8 9 rfl
   refine Tn (Fs (wp_cond_true ((S.tm rfl).trans (congrArg Value.bool (Ht hd1 hi1))) (wp_skip (Tn (Fs (wp_block (Fr (Vm S rfl rfl fun a S=>Va S rfl rfl ?_))))))));clear S;intro a S
   refine Dl (Fs (Fg ?_))
   iterate 3 (refine Vm S rfl rfl ?_;clear S;intro a S)
   obtain ⟨b1,o1,hm1,hr1⟩:=Ev (a:=a) (x:=.tmp 12) (y:=.tmp 13) (ty:=0) Nj Bf (Io hd1 hi1) rfl (S.tm rfl) (S.tm rfl)
   refine lv S (hr1 _) rfl ?_;clear S;intro a S
   clear hr1
   refine lv S (Fp isAgg101 sizeOf101 (off:=o1) (o:=0) (part:=(Dk.enc y1)) rfl rfl (S.tm rfl) (hm1.at S.emb0)) rfl fun a S=>Dw S (fun _=>Ts (cap:=[.pointer (some ⟨Az,0,none⟩)]) (S.tm rfl) (vs:=[.agg (Dk.enc y1).toArray]) ⟨(S.tm rfl),trivial⟩ call39) (Yh _ y1 Az Aw ((S.le_arg Ec) _ _ Bg) _ rfl) rfl ?_;clear S;intro v1 a w3 hv1 hk1 hn1 S
   subst hv1
   refine Dl (Fc h (S.tm rfl) (fun hb1 h=>?_) (fun hb1 h=>?_))
   ·refine Fr (Vm S rfl rfl fun a S=>Va S rfl rfl fun a S=>Ld ?_)
    replace S:=S.k1 4 rfl
    refine Tn (wp_ret (Fl (Dt (Dt (Fl (Dt (Dt ?_)))))))
    subst h
    exact Ej S results73 rfl rfl
   ·exact wp_skip (Ho (Tn (Fg (Vq S Gc rfl rfl rfl fun a S=>Vm S rfl rfl fun a S=>Dl (⟨ys1,⟨i1 + 1,⟨_,(hd1).trans (List.append_cons _ _ _),by simp [hi1]⟩,h,S.nf [] rfl ⟨rfl,rfl,rfl,(congrArg (fun z=>some (Value.int .i64 z)) (Hu hd1 hi1 (Iz Bf))),trivial⟩⟩,Nat.lt_succ_self _⟩)))))
 clear S h;rintro a w2 ⟨h,S⟩;rw [hj1] at h;clear hj1 j1
 refine Tn (Fr (Vk S rfl rfl fun a S=>Dl (wp_ret ?_)))
 subst h
 exact Ej S results73 rfl rfl
theorem Qo (w : World) (Ax : Value) (Ar : List Dk) (Bf : Slc (view w []) 11 Ax (Ar.map Dk.enc)) (Az : Nat) (Aw : Dk) (Bg : (view w []) Az = some (.cells [sV Aw.Site,iV Aw.No,iV Aw.At,iV Aw.Kind,sV Aw.Who,sV Aw.Club,sV Aw.Race,iV Aw.Time,iV Aw.Fault,sV Aw.Of,iV Aw.Other].toArray 101 (0,0))) (r : Bool) (h : Iy Ar Aw = r) :
    Calls prog 38 [Ax,.func (.func 39) #[] #[.pointer (some ⟨Az,0,none⟩)]].toArray w (Ret w [] fun _ v _=>v = bV r):=by
 refine Fe func38 rfl ntmps38 rfl fun a S=>?_
 unfold Iy at h
 replace S:=S.k2 0 1 rfl
 refine Fr (Vk S rfl rfl fun a S=>Dz (Vm S rfl rfl fun a S=>Vm S rfl rfl fun a S=>Dw S (fun _=>Dp (vs:=[Ax,.func (.func 39) #[] #[.pointer (some ⟨Az,0,none⟩)]]) ⟨(S.tm rfl),(S.tm rfl),trivial⟩ call73) (Rh _ Ax Ar (Bf.mono (S.le_arg Ec)) Az Aw ((S.le_arg Ec) _ _ Bg) _ rfl) rfl ?_));clear S;intro v1 a w1 hv1 hk1 hn1 S
 subst hv1
 refine Vq S Qe rfl rfl rfl fun a S=>Va S rfl rfl fun a S=>Dl (wp_ret ?_)
 subst h
 exact Ej S results38 rfl rfl
set_option maxRecDepth 20000 in
theorem AF (w : World) (Ab : Value) (Ah : List Dk) (Af : Slc (view w []) 11 Ab (Ah.map Dk.enc)) (r : Int) (h : Po Ah = some r) :
    Calls prog 18 [Ab].toArray w (Ret w [] fun _ v _=>v = iV r):=by
 refine Fe func18 rfl ntmps18 rfl fun a S=>?_
 unfold Po at h
 replace S:=S.k1 0 rfl
 refine Fr (Vk S rfl rfl fun a S=>Dl (Fs (Fr (Vm S rfl rfl fun a S=>lv S (Fq Nj (S.tm rfl) (Fj Af)) rfl fun a S=>Vq S It rfl rfl rfl ?_))));clear S;intro a S
 refine Dl (Fc h (S.tm rfl) (fun hb1 h=>?_) (fun hb1 h=>?_))
 ·refine Fr (Vk S rfl rfl fun a S=>Dl (wp_ret (Dt ?_)))
  obtain rfl:=Option.some.inj h
  exact Ej S results18 rfl rfl
 ·refine wp_skip (Tn (Fs (Fr (Vm S rfl rfl fun a S=>lv S (Fq Nj (S.tm rfl) (Fj Af)) rfl fun a S=>lv S (Rm rfl) rfl fun a S=>Dl ?_))))
  replace S:=S.k4 0 11 12 13 rfl
  obtain ⟨j1,hj1,h⟩:=Ep h
  refine Eg (fun a w'=>j1 = some r ∧ Sx w [] nov [] [(0,Ab)] 49 a w') ?_ ?_
  ·refine wp_block (Gx (fun (ys1 : List Dk) a w'=>∃ i1 : Nat,(∃ dn,Ah = dn ++ ys1 ∧ dn.length = i1) ∧ Hy Ah j1 ys1 i1 = some r ∧ Sx w [] nov [] [(0,Ab),(11,Ab),(12,iV (Ah.length : Int)),(13,iV (i1 : Int))] 49 a w') List.length Ah ⟨0,⟨[],rfl,rfl⟩,h,S.nf [] rfl (subR rfl)⟩ ?_)
   clear S h;rintro ys1 a w1 ⟨i1,⟨dn,hd1,hi1⟩,h,S⟩
   cases ys1 with
   | nil =>
    rw [Hy.eq_1] at h
    refine Fr (Vb S Et rfl rfl rfl fun a S=>Ld ?_)
    replace S:=S.k5 0 11 12 13 14 rfl
    exact Tn (Fs (wp_cond_false ((S.tm rfl).trans (congrArg Value.bool (Il hd1 hi1))) (wp_exit (Ed (Ed (Gp (Tn (⟨h,S.nf [] rfl ⟨rfl,trivial⟩⟩))))))))
   | cons y1 ys1 =>
    rw [Hy.eq_2] at h
    refine Fr (Vb S Et rfl rfl rfl fun a S=>Ld ?_)
    replace S:=S.k5 0 11 12 13 14 rfl
    refine Tn (Fs (wp_cond_true ((S.tm rfl).trans (congrArg Value.bool (Ht hd1 hi1))) (wp_skip (Tn (Fs (wp_block (Fr (Vm S rfl rfl ?_))))))));clear S;intro a S
    obtain ⟨b1,o1,hm1,hr1⟩:=Ev (a:=a) (x:=.tmp 11) (y:=.tmp 13) (ty:=0) Nj Af (Io hd1 hi1) rfl (S.tm rfl) (S.tm rfl)
    refine lv S (hr1 _) rfl ?_;clear S;intro a S
    clear hr1
    refine lv S (Fp isAgg101 sizeOf101 (off:=o1) (o:=0) (part:=(Dk.enc y1)) rfl rfl (S.tm rfl) (hm1.at S.emb0)) rfl fun a S=>Hs S zeroValue101 (cs:=[sV An,iV 0,iV 0,iV 0,sV An,sV An,sV An,iV 0,iV 0,sV An,iV 0]) rfl rfl ?_;clear S;intro a w3 b2 hz1 hk1 S
    refine Va S rfl rfl fun a S=>Ex S (S.tm rfl) (S.tm rfl) (i:=0) (off:=0) rfl sizeOf101 (vs:=(Dk.enc y1)) rfl rfl rfl rfl ?_;clear S;intro w4 hk2 S
    refine Dl (Fs (Fr (lv S (Fp isAgg101 sizeOf101 (off:=0) (o:=0) (part:=(Dk.enc y1)) rfl rfl (S.tm rfl) (S.cellsAt (i:=0) rfl)) rfl ?_)));clear S;intro a S
    obtain ⟨r1,hr2,h⟩:=Fa h
    refine Dw S (fun _=>Dp (vs:=[.agg (Dk.enc y1).toArray]) ⟨(S.tm rfl),trivial⟩ call37) (AR _ y1 _ hr2) rfl ?_;clear S;intro v1 a w5 hv1 hk3 hn1 S
    subst hv1
    refine Va S rfl rfl fun a S=>Dz (Vm S rfl rfl fun a S=>Vq S Kw rfl rfl rfl fun a S=>Ld ?_)
    replace S:=(S.nl [.blk b2 (Dk.enc y1) 101] [true] rfl).k8 0 3 4 5 11 12 13 21 rfl
    refine Tn (Fc h (S.tm rfl) (fun hb2 h=>?_) (fun hb2 h=>?_))
    ·refine Fr (Vm S rfl rfl fun a S=>Va S rfl rfl fun a S=>Dl (wp_ret (Dt (Fl (Dt (Dt ?_))))))
     refine Fl (Dt (Dt ?_))
     obtain rfl:=Option.some.inj h
     exact Ej S results18 rfl rfl
    ·refine wp_skip (Tn (Fs ?_))
     obtain ⟨j2,hj2,h⟩:=Ep h
     refine Eg (fun a w'=>∃ x1 : Bool,j2 x1 = some r ∧ Sx w [] nov [] [(0,Ab),(11,Ab),(12,iV (Ah.length : Int)),(13,iV (i1 : Int)),(34,bV x1)] 49 a w') ?_ ?_
     ·rcases Bool.eq_false_or_eq_true (decide (0 < (i1 : Int))) with hb3 | hb3
      ·replace h:=Qc h hb3
       obtain ⟨hc1,h⟩:=Ie h
       refine Hd [] ([]) Tryz.mixed S rfl (by kernel_rfl) ?_;clear S;intro w8 hk5 hsel S
       refine Eb 0 S hsel rfl rfl rfl (by kernel_rfl) (by kernel_rfl) rfl (fun _ hw=>(Rm (S.tm rfl))) fun a S=>Eb 1 S hsel rfl rfl rfl (by kernel_rfl) (by kernel_rfl) rfl (fun _ hw=>(It (S.tm rfl) rfl)) fun a S=>Eb 2 S hsel rfl rfl rfl (by kernel_rfl) (by kernel_rfl) rfl (fun _ hw=>(Rm (S.tm rfl))) fun a S=>Eu 3 S hsel rfl rfl rfl rfl hb3 rfl rfl (by kernel_rfl) (by kernel_rfl) rfl (fun _ hw=>(Rm (S.tm rfl))) fun a S=>Eu 4 S hsel rfl rfl rfl rfl hb3 rfl rfl (by kernel_rfl) (by kernel_rfl) rfl (fun _ hw=>(Rm (S.tm rfl))) fun a S=>Eu 5 S hsel rfl rfl rfl rfl hb3 rfl rfl (by kernel_rfl) (by kernel_rfl) rfl (fun _ hw=>(Iu (S.tm rfl) rfl)) ?_;clear S;intro a S
       obtain ⟨b4,o3,hm3,hr4⟩:=Ev (a:=a) (x:=.tmp 26) (y:=.tmp 28) (ty:=0) Nj (Af.mono (S.le_arg Ec)) (Dx hc1).1 (Dx hc1).2 (S.tm rfl) (S.tm rfl)
       refine Eu 6 S hsel rfl rfl rfl rfl hb3 rfl rfl (by kernel_rfl) (by kernel_rfl) rfl (fun _ hw=>hr4 _) ?_;clear S;intro a S
       clear hr4
       refine Eu 7 S hsel rfl rfl rfl rfl hb3 rfl rfl (by kernel_rfl) (by kernel_rfl) rfl (fun _ hw=>(Fp isAgg101 sizeOf101 (off:=o3) (o:=0) (part:=(Dk.enc (nth Ah (W ((i1 : Int) - 1))))) rfl rfl (S.tm rfl) (hm3.kept hw))) fun a S=>Eu 8 S hsel rfl rfl rfl rfl hb3 rfl rfl (by kernel_rfl) (by kernel_rfl) rfl (fun _ hw=>(Fp isAgg101 sizeOf101 (off:=0) (o:=0) (part:=(Dk.enc y1)) rfl rfl (S.tm rfl) ((S.blk_mem (i:=0) (cells:=(Dk.enc y1)) (b:=b2) (T:=101) rfl (Ia (e':=.blk b2 (Dk.enc y1) 101))).kept hw))) fun a S=>He 9 (by kernel_rfl) rfl (Du S rfl rfl rfl hb3 (Dw S (fun _=>Dp (vs:=[.agg (Dk.enc (nth Ah (W ((i1 : Int) - 1)))).toArray,.agg (Dk.enc y1).toArray]) ⟨(S.tm rfl),(S.tm rfl),trivial⟩ call36) (We _ (nth Ah (W ((i1 : Int) - 1))) y1 _ rfl) rfl ?_));clear S;intro v3 a w9 hv3 hk6 hn3 S
       subst hv3
       refine Ld (Ig hk6 (Lw [10,11] hsel (by kernel_rfl) rfl ?_))
       clear hsel
       refine Ee S rfl rfl rfl rfl hb3 (Fb S (Qe (S.tm rfl) rfl) rfl fun a S=>Gm S rfl (Qu hb3 (S.tm rfl) (S.tm rfl)) rfl fun a S=>Hv ?_)
       replace S:=S.n0.k13 0 11 12 13 26 27 28 29 30 31 32 33 34 rfl
       exact Tn (⟨decide (0 ≤ (Jn (nth Ah (W ((i1 : Int) - 1))) y1)),h,S.nf [] rfl (subR rfl)⟩)
      ·replace h:=Qd h hb3
       refine Hd [] ([]) Tryz.mixed S rfl (by kernel_rfl) ?_;clear S;intro w10 hk7 hsel S
       refine Lw [0,1,2,3,4,5,6,7,8,9,10,11] hsel (by kernel_rfl) rfl ?_
       clear hsel
       refine Gm S rfl (Rm (S.tm rfl)) rfl fun a S=>Gm S rfl (It (S.tm rfl) rfl) rfl fun a S=>Gm S rfl (Rm (S.tm rfl)) rfl ?_;clear S;intro a S
       iterate 8 (refine Nk S rfl rfl rfl rfl (Jh hb3) rfl ?_ rfl;clear S;intro a S)
       refine Gm S rfl (Qv hb3 (S.tm rfl) rfl) rfl fun a S=>Hv ?_
       replace S:=S.n0.k5 0 11 12 13 34 rfl
       exact Tn (⟨false,h,S.nf [] rfl (subR rfl)⟩)
     clear S h;rintro a w6 ⟨x1,h,S⟩;rw [hj2] at h;clear hj2 j2
     refine Tn (Fc h (S.tm rfl) (fun hb4 h=>?_) (fun hb4 h=>?_))
     ·refine Fr (Vk S rfl rfl fun a S=>Dl (wp_ret (Fl (Dt (Dt (Fl (Dt ?_)))))))
      refine Dt ?_
      obtain rfl:=Option.some.inj h
      exact Ej S results18 rfl rfl
     ·exact wp_skip (Ho (Tn (Fg (Vq S Gc rfl rfl rfl fun a S=>Vm S rfl rfl fun a S=>Dl (⟨ys1,⟨i1 + 1,⟨_,(hd1).trans (List.append_cons _ _ _),by simp [hi1]⟩,h,S.nf [] rfl ⟨rfl,rfl,rfl,(congrArg (fun z=>some (Value.int .i64 z)) (Hu hd1 hi1 (Iz Af))),trivial⟩⟩,Nat.lt_succ_self _⟩)))))
  clear S h;rintro a w2 ⟨h,S⟩;rw [hj1] at h;clear hj1 j1
  refine Tn (Fs (Fr (Vm S rfl rfl fun a S=>lv S (Fq Nj (S.tm rfl) (Fj Af)) rfl fun a S=>lv S (Rm rfl) rfl fun a S=>Dl ?_)))
  replace S:=S.k4 0 36 37 38 rfl
  obtain ⟨j3,hj3,h⟩:=Ep h
  refine Eg (fun a w'=>j3 = some r ∧ Sx w [] nov [] [] 49 a w') ?_ ?_
  ·refine wp_block (Gx (fun (ys2 : List Dk) a w'=>∃ i2 : Nat,(∃ dn,Ah = dn ++ ys2 ∧ dn.length = i2) ∧ Ip Ah j3 ys2 i2 = some r ∧ Sx w [] nov [] [(0,Ab),(36,Ab),(37,iV (Ah.length : Int)),(38,iV (i2 : Int))] 49 a w') List.length Ah ⟨0,⟨[],rfl,rfl⟩,h,S.nf [] rfl (subR rfl)⟩ ?_)
   clear S h;rintro ys2 a w11 ⟨i2,⟨dn,hd2,hi2⟩,h,S⟩
   cases ys2 with
   | nil =>
    rw [Ip.eq_1] at h
    refine Fr (Vb S Et rfl rfl rfl fun a S=>Ld ?_)
    replace S:=S.k5 0 36 37 38 39 rfl
    exact Tn (Fs (wp_cond_false ((S.tm rfl).trans (congrArg Value.bool (Il hd2 hi2))) (wp_exit (Ed (Ed (Gp (Tn (⟨h,S.nf [] rfl trivial⟩))))))))
   | cons y2 ys2 =>
    rw [Ip.eq_2] at h
    refine Fr (Vb S Et rfl rfl rfl fun a S=>Ld ?_)
    replace S:=S.k5 0 36 37 38 39 rfl
    refine Tn (Fs (wp_cond_true ((S.tm rfl).trans (congrArg Value.bool (Ht hd2 hi2))) (wp_skip (Tn (Fs (wp_block (Fr (Vm S rfl rfl ?_))))))));clear S;intro a S
    obtain ⟨b5,o4,hm4,hr5⟩:=Ev (a:=a) (x:=.tmp 36) (y:=.tmp 38) (ty:=0) Nj Af (Io hd2 hi2) rfl (S.tm rfl) (S.tm rfl)
    refine lv S (hr5 _) rfl ?_;clear S;intro a S
    clear hr5
    refine lv S (Fp isAgg101 sizeOf101 (off:=o4) (o:=0) (part:=(Dk.enc y2)) rfl rfl (S.tm rfl) (hm4.at S.emb0)) rfl fun a S=>Hs S zeroValue101 (cs:=[sV An,iV 0,iV 0,iV 0,sV An,sV An,sV An,iV 0,iV 0,sV An,iV 0]) rfl rfl ?_;clear S;intro a w13 b6 hz2 hk8 S
    refine Va S rfl rfl fun a S=>Ex S (S.tm rfl) (S.tm rfl) (i:=0) (off:=0) rfl sizeOf101 (vs:=(Dk.enc y2)) rfl rfl rfl rfl ?_;clear S;intro w14 hk9 S
    refine Dz (Vm S rfl rfl fun a S=>Vm S rfl rfl ?_);clear S;intro a S
    obtain ⟨hc2,h⟩:=Ie h
    obtain ⟨v4,hs1,hr6⟩:=MT (a:=a) (x:=.tmp 43) (y':=.tmp 44) (ty:=34) Nj Af (S.tm rfl) (S.tm rfl) hc2
    refine lv S (hr6 _) rfl ?_;clear S;intro a S
    clear hr6
    refine lv S (Tg (us:=#[]) (xs:=[].toArray) (ys:=[.tmp 7].toArray) (by simp) (evA ⟨(S.tm rfl),trivial⟩ (vs:=[.pointer (some ⟨b6,0,none⟩)]))) rfl fun a S=>Dw S (fun _=>Dp (vs:=[v4,.func (.func 39) #[] #[.pointer (some ⟨b6,0,none⟩)]]) ⟨(S.tm rfl),(S.tm rfl),trivial⟩ call38) (Qo _ v4 (cut Ah 0 (i2 : Int)) (hs1.mono (S.le_arg Ec)) b6 y2 (S.blk_view (i:=0) rfl ((Ia (e':=.blk b6 (Dk.enc y2) 101)) _ rfl)) _ rfl) rfl ?_;clear S;intro v5 a w15 hv4 hk10 hn4 S
    subst hv4
    refine Ld ?_
    replace S:=S.n0.k5 0 36 37 38 47 rfl
    refine Tn (Fc h (S.tm rfl) (fun hb5 h=>?_) (fun hb5 h=>?_))
    ·refine Fr (Vk S rfl rfl fun a S=>Dl (wp_ret (Fl (Dt (Dt (Fl (Dt ?_)))))))
     refine Dt ?_
     obtain rfl:=Option.some.inj h
     exact Ej S results18 rfl rfl
    ·exact wp_skip (Ho (Tn (Fg (Vq S Gc rfl rfl rfl fun a S=>Vm S rfl rfl fun a S=>Dl (⟨ys2,⟨i2 + 1,⟨_,(hd2).trans (List.append_cons _ _ _),by simp [hi2]⟩,h,S.nf [] rfl ⟨rfl,rfl,rfl,(congrArg (fun z=>some (Value.int .i64 z)) (Hu hd2 hi2 (Iz Af))),trivial⟩⟩,Nat.lt_succ_self _⟩)))))
  clear S h;rintro a w12 ⟨h,S⟩;rw [hj3] at h;clear hj3 j3
  refine Tn (Fr (Vk S rfl rfl fun a S=>Dl (wp_ret ?_)))
  obtain rfl:=Option.some.inj h
  exact Ej S results18 rfl rfl
theorem BQ (w : World) (O : Nat) (U : Value) (Aq : List Int) (Am : Slc (view w [O]) 1 U (Aq.map eInt)) (Aj : Int) (Ao : (LEnt.blk O [U,iV Aj] 25).holds w) (Bq : Int) (r : (List Dk) × Int) (h : Rd Aq Aj Bq = some r) :
    Calls prog 5 [.pointer (some ⟨O,0,none⟩),iV Bq].toArray w (Ret w [O] fun τ v w'=>(LEnt.blk O [U,iV r.2] 25).holds w' ∧ Tf τ 101 11 v r.1.length (r.1.flatMap Dk.enc)):=by
 refine Mv [O] [.blk O [U,iV Aj] 25] func5 rfl ntmps5 rfl (fun e he=>by simp only [List.mem_singleton] at he;subst he;exact Ao) (by simp [fps,LEnt.fp]) (by simp [fps,LEnt.fp]) fun a S=>?_
 unfold Rd at h
 replace S:=(S.nl [.blk O [U,iV Aj] 25] [true] rfl).k2 0 1 rfl
 refine Fr (Vk S rfl rfl fun a S=>Dl (Fs (Fr (lv S (Rm rfl) rfl fun a S=>Dl ?_))))
 replace S:=S.k3 0 1 6 rfl
 obtain ⟨j1,hj1,h⟩:=Ep h
 refine Eg (fun a w'=>∃ x1 : Int,∃ φ1 : View,j1 x1 = some r ∧ View.le nov φ1 ∧ Sx w [O] φ1 [.blk O [U,iV x1] 25] [] 16 a w') ?_ ?_
 ·refine wp_block (Gx (fun (m1 : Nat) a w'=>∃ x1 : Int,∃ x2 : Int,∃ φ1 : View,Jz Aq Bq j1 m1 x1 x2 = some r ∧ View.le nov φ1 ∧ Sx w [O] φ1 [.blk O [U,iV x1] 25] [(0,.pointer (some ⟨O,0,none⟩)),(1,iV Bq),(6,iV x2)] 16 a w') id 7 ⟨Aj,0,nov,h,View.le_refl _,S.nf [true] rfl (subR rfl)⟩ ?_)
  clear S h;rintro m1 a w1 ⟨x1,x2,φ1,h,hl1,S⟩
  cases m1 with
  | zero=>rw [Jz.eq_1] at h;cases h
  | succ m1 =>
   rw [Jz.eq_2] at h
   refine Fr (Vq S Et rfl rfl rfl fun a S=>Dl (Fs (Fc h (S.tm rfl) (fun hb1 h=>?_) (fun hb1 h=>?_))))
   ·refine wp_skip (Tn (Fs (wp_block (Fr (Vm S rfl rfl fun a S=>Vm S rfl rfl ?_)))));clear S;intro a S
    obtain ⟨r1,hr1,h⟩:=Fa h
    have hz1:=S.keep.size
    refine Hl 0 S (b:=O) rfl rfl (fun _=>.blk O [U,iV r1.2] 25) (fun _=>Dp (vs:=[.pointer (some ⟨O,0,none⟩),iV Bq]) ⟨(S.tm rfl),(S.tm rfl),trivial⟩ call17) (GW _ O U Aq (Am.mono (S.le_arg (Iv (i:=0) (e:=.blk O [U,iV x1] 25) rfl))) x1 (S.holds _ (List.mem_of_getElem? (i:=0) rfl)) Bq _ hr1) rfl (fun _ _ _ h=>⟨h.1,fun _ hc=>by cases hc;rfl⟩) ?_;clear S;intro v1 a w3 hv1 hk1 hn1 S
    replace hv1:=hv1.2
    obtain ⟨φ2,hl2,hm1,S⟩:=S.see' hn1 hz1
    have hs1:=hv1.mono hm1
    refine Va S rfl rfl fun a S=>Dz (Vm S rfl rfl ?_);clear S;intro a S
    obtain ⟨r2,hr2,h⟩:=Fa h
    refine Dw S (fun _=>Dp (vs:=[v1]) ⟨(S.tm rfl),trivial⟩ call18) (AF _ v1 r1.1 ((Ga Dk.enc_ok hs1).mono (S.le_new Ec)) _ hr2) rfl ?_;clear S;intro v2 a w4 hv2 hk2 hn2 S
    subst hv2
    refine Vq S Im rfl rfl rfl fun a S=>Dl (Fc h (S.tm rfl) (fun hb2 h=>?_) (fun hb2 h=>?_))
    ·refine Fr (Vm S rfl rfl fun a S=>Va S rfl rfl fun a S=>Dl (wp_ret (Fl (Dt (Dt (Fl ?_))))))
     refine Dt (Dt ?_)
     obtain rfl:=Option.some.inj h
     exact Ej S results5 rfl ⟨(S.holds _ (List.mem_of_getElem? (i:=0) rfl)),((hs1).mono S.le_newer)⟩
    ·exact wp_skip (Ho (Tn (Fg (Vq S Gc rfl rfl rfl fun a S=>Vm S rfl rfl fun a S=>Dl (⟨m1,⟨r1.2,W (x2 + 1),φ2,h,(View.le_trans hl1 hl2),S.nf [true] rfl ⟨rfl,rfl,rfl,trivial⟩⟩,Nat.lt_succ_self _⟩)))))
   ·exact wp_exit (Ed (Ed (Gp (Tn (⟨x1,φ1,h,hl1,S.nf [true] rfl trivial⟩)))))
 clear S h;rintro a w2 ⟨x1,φ1,h,hl1,S⟩;rw [hj1] at h;clear hj1 j1
 refine Tn (Fr (Vk S rfl rfl fun a S=>Dl (wp_ret ?_)))
 obtain rfl:=Option.some.inj h
 exact Ej S results5 rfl ⟨(S.holds _ (List.mem_of_getElem? (i:=0) rfl)),(Qf _ _ _)⟩
theorem GX (w : World) (s c : ByteArray) (r : ByteArray) (h : Vj s c = some r) : Calls prog 117 [.string s,.string c].toArray w (Ret w [] fun _ v _=>v = .string r):=by
  unfold Vj at h
  obtain ⟨h1,h⟩:=Ie h
  obtain ⟨h2,h⟩:=Ie h
  obtain ⟨h3,h⟩:=Ie h
  obtain rfl:=Option.some.inj h
  exact LH (Any.strings_Trim_laid Tryz.lays160 (by kernel_rfl) s c w (by simpa using h1) (by simpa using h2) (fun j b hb=>by simpa using List.all_eq_true.1 h3 b (List.mem_of_getElem? hb)))
theorem Ij (w : World) (Ar : ByteArray) (r : Bool) (h : Gf Ar = some r) :
    Calls prog 95 [sV Ar].toArray w (Ret w [] fun _ v _=>v = bV r):=by
 refine Fe func95 rfl ntmps95 rfl fun a S=>?_
 unfold Gf at h
 replace S:=S.k1 0 rfl
 refine Fr (Vk S rfl rfl fun a S=>Dz (Vm S rfl rfl fun a S=>Vu S (Zs underlying9) rfl rfl fun a S=>Vq S Qe rfl rfl rfl fun a S=>Vm S rfl rfl ?_));clear S;intro a S
 refine Hn 4 (fun a w'=>Keep [] w w' ∧ Sx w [] nov [] [(0,sV Ar),(10,bV ((decide (1 ≤ (Ar.size : Int))) && (decide ((Ar.size : Int) ≤ 40))))] 26 a w') ?_ ?_
 ·rcases Bool.eq_false_or_eq_true (decide (1 ≤ (Ar.size : Int))) with hb1 | hb1
  ·exact Du S rfl rfl rfl hb1 (Vm S rfl rfl fun a S=>Du S rfl rfl rfl hb1 (Vu S (Zs underlying9) rfl rfl fun a S=>Du S rfl rfl rfl hb1 (Vq S Uv rfl rfl rfl fun a S=>lv S (Hg hb1 (S.tm rfl) (S.tm rfl)) rfl fun a S=>Dl (⟨Keep.refl _ _,S.nf [] rfl (subR rfl)⟩))))
  ·iterate 3 (refine Gn S rfl rfl rfl (Jh hb1) rfl ?_ rfl;clear S;intro a S)
   exact lv S (Hh (decide ((Ar.size : Int) ≤ 40)) hb1 (S.tm rfl) rfl) rfl fun a S=>Dl (⟨Keep.refl _ _,S.nf [] rfl (subR rfl)⟩)
 clear S;rintro a w1 ⟨hk1,S⟩
 refine Vm S rfl rfl ?_;clear S;intro a S
 obtain ⟨j1,hj1,h⟩:=Ep h
 refine Hn 4 (fun a w'=>∃ c1,j1 c1 = some r ∧ Keep [] w1 w' ∧ Sx w [] nov [] [(0,sV Ar),(15,bV c1)] 26 a w') ?_ ?_
 ·rcases Bool.eq_false_or_eq_true ((decide (1 ≤ (Ar.size : Int))) && (decide ((Ar.size : Int) ≤ 40))) with hb2 | hb2
  ·replace h:=Qc h hb2
   refine Du S rfl rfl rfl hb2 (Vm S rfl rfl fun a S=>Du S rfl rfl rfl hb2 ?_)
   obtain ⟨hc1,h⟩:=Ie h
   exact lv S (Xv underlying9 (S.tm rfl) rfl hc1) rfl fun a S=>Du S rfl rfl rfl hb2 (Vq S Qe rfl rfl rfl fun a S=>lv S (Hg hb2 (S.tm rfl) (S.tm rfl)) rfl fun a S=>Dl (⟨_,h,Keep.refl _ _,S.nf [] rfl (subR rfl)⟩))
  ·replace h:=Qd h hb2
   iterate 3 (refine Gn S rfl rfl rfl (Jh hb2) rfl ?_ rfl;clear S;intro a S)
   exact Vq S (Hh true hb2) rfl rfl rfl fun a S=>Dl (⟨_,h,Keep.refl _ _,S.nf [] rfl (subR rfl)⟩)
 clear S h;rintro a w2 ⟨c1,h,hk2,S⟩;rw [hj1] at h;clear hj1 j1
 refine Vm S rfl rfl ?_;clear S;intro a S
 obtain ⟨j2,hj2,h⟩:=Ep h
 refine Hn 4 (fun a w'=>∃ c2,j2 c2 = some r ∧ Keep [] w2 w' ∧ Sx w [] nov [] [(0,sV Ar),(20,bV c2)] 26 a w') ?_ ?_
 ·rcases Bool.eq_false_or_eq_true c1 with hb3 | hb3
  ·replace h:=Qc h hb3
   refine Du S rfl rfl rfl hb3 (Vm S rfl rfl fun a S=>Du S rfl rfl rfl hb3 ?_)
   obtain ⟨hc2,h⟩:=Ie h
   exact lv S (Xv underlying9 (S.tm rfl) rfl hc2) rfl fun a S=>Du S rfl rfl rfl hb3 (Vq S Uv rfl rfl rfl fun a S=>lv S (Hg hb3 (S.tm rfl) (S.tm rfl)) rfl fun a S=>Dl (⟨_,h,Keep.refl _ _,S.nf [] rfl (subR rfl)⟩))
  ·replace h:=Qd h hb3
   iterate 3 (refine Gn S rfl rfl rfl (Jh hb3) rfl ?_ rfl;clear S;intro a S)
   exact Vq S (Hh true hb3) rfl rfl rfl fun a S=>Dl (⟨_,h,Keep.refl _ _,S.nf [] rfl (subR rfl)⟩)
 clear S h;rintro a w3 ⟨c2,h,hk3,S⟩;rw [hj2] at h;clear hj2 j2
 refine Vm S rfl rfl ?_;clear S;intro a S
 obtain ⟨j3,hj3,h⟩:=Ep h
 refine Hn 4 (fun a w'=>∃ c3,j3 c3 = some r ∧ Keep [] w3 w' ∧ Sx w [] nov [] [(25,bV c3)] 26 a w') ?_ ?_
 ·rcases Bool.eq_false_or_eq_true c2 with hb4 | hb4
  ·replace h:=Qc h hb4
   refine Du S rfl rfl rfl hb4 (Vm S rfl rfl fun a S=>Du S rfl rfl rfl hb4 ?_)
   obtain ⟨r1,hr1,h⟩:=Fa h
   refine Dw S (fun _=>Dp (vs:=[sV Ar,sV Hx]) ⟨(S.tm rfl),rfl,trivial⟩ call117) (GX _ Ar Hx _ hr1) rfl ?_;clear S;intro v1 a w5 hv1 hk4 hn1 S
   subst hv1
   exact Du S rfl rfl rfl hb4 (Vq S Ve rfl rfl rfl fun a S=>lv S (Hg hb4 (S.tm rfl) (S.tm rfl)) rfl fun a S=>Dl (⟨_,h,hk4,S.nf [] rfl ⟨rfl,trivial⟩⟩))
  ·replace h:=Qd h hb4
   iterate 3 (refine Gn S rfl rfl rfl (Jh hb4) rfl ?_ rfl;clear S;intro a S)
   exact Vq S (Hh true hb4) rfl rfl rfl fun a S=>Dl (⟨_,h,Keep.refl _ _,S.nf [] rfl ⟨rfl,trivial⟩⟩)
 clear S h;rintro a w4 ⟨c3,h,hk5,S⟩;rw [hj3] at h;clear hj3 j3
 refine Va S rfl rfl fun a S=>Dl (wp_ret ?_)
 obtain rfl:=Option.some.inj h
 exact Ej S results95 rfl rfl
theorem Fm (w : World) (Ba : Int) (Bp : Int) (Bh : Int) (r : Bool) (h : Dv Ba Bp Bh = r) :
    Calls prog 55 [iV Ba,iV Bp,iV Bh].toArray w (Ret w [] fun _ v _=>v = bV r):=by
 refine Fe func55 rfl ntmps55 rfl fun a S=>?_
 unfold Dv at h
 replace S:=S.k3 0 1 2 rfl
 refine Fr (Vk S rfl rfl fun a S=>Dz (Vm S rfl rfl fun a S=>Vm S rfl rfl fun a S=>Vb S Qe rfl rfl rfl fun a S=>Vm S rfl rfl ?_));clear S;intro a S
 refine Hn 4 (fun a w'=>Keep [] w w' ∧ Sx w [] nov [] [(14,bV ((decide (Bp ≤ Ba)) && (decide (Ba ≤ Bh))))] 15 a w') ?_ ?_
 ·rcases Bool.eq_false_or_eq_true (decide (Bp ≤ Ba)) with hb1 | hb1
  ·exact Du S rfl rfl rfl hb1 (Vm S rfl rfl fun a S=>Du S rfl rfl rfl hb1 (Vm S rfl rfl fun a S=>Du S rfl rfl rfl hb1 (Vb S Uv rfl rfl rfl fun a S=>lv S (Hg hb1 (S.tm rfl) (S.tm rfl)) rfl fun a S=>Dl (⟨Keep.refl _ _,S.nf [] rfl ⟨rfl,trivial⟩⟩))))
  ·iterate 3 (refine Gn S rfl rfl rfl (Jh hb1) rfl ?_ rfl;clear S;intro a S)
   exact lv S (Hh (decide (Ba ≤ Bh)) hb1 (S.tm rfl) rfl) rfl fun a S=>Dl (⟨Keep.refl _ _,S.nf [] rfl ⟨rfl,trivial⟩⟩)
 clear S;rintro a w1 ⟨hk1,S⟩
 refine Va S rfl rfl fun a S=>Dl (wp_ret ?_)
 subst h
 exact Ej S results55 rfl rfl
theorem CV (w : World) (As : Dy) (r : Int) (h : Nw As = some r) :
    Calls prog 74 [.agg (Dy.enc As).toArray].toArray w (Ret w [] fun _ v _=>v = iV r):=by
 refine Fe func74 rfl ntmps74 rfl fun a S=>?_
 unfold Nw at h
 replace S:=S.k1 0 rfl
 refine Fr (Mn S (S.tm rfl) (cs:=(Dy.enc As)) rfl rfl ?_);clear S;intro a w1 b1 hz1 hk1 S
 refine Vk S rfl rfl fun a S=>Dl (Fs (wp_block (Fr (Vf Tx S rfl rfl fun a S=>Vl isAgg9 0 S rfl rfl rfl rfl ?_))));clear S;intro a S
 obtain ⟨r1,hr1,h⟩:=Fa h
 refine Dw S (fun _=>Dp (vs:=[sV As.Key]) ⟨(S.tm rfl),trivial⟩ call95) (Ij _ As.Key _ hr1) rfl ?_;clear S;intro v1 a w2 hv1 hk2 hn1 S
 subst hv1
 refine Vu S Hj rfl rfl fun a S=>Va S rfl rfl fun a S=>Dl (Fc h (S.tm rfl) (fun hb1 h=>?_) (fun hb1 h=>?_))
 ·refine Fr (Vk S rfl rfl fun a S=>Dl (wp_ret (Fl (Dt ?_))))
  obtain rfl:=Option.some.inj h
  exact Ej S results74 rfl rfl
 ·refine Fr (Vf LQ S rfl rfl fun a S=>Vl isAgg3 0 S rfl rfl rfl rfl fun a S=>Dw S (fun _=>Dp (vs:=[iV As.Stroke,iV 1,iV 5]) ⟨(S.tm rfl),rfl,rfl,trivial⟩ call55) (Fm _ As.Stroke 1 5 _ rfl) rfl ?_);clear S;intro v2 a w3 hv2 hk3 hn2 S
  subst hv2
  refine Vu S Hj rfl rfl fun a S=>Vm S rfl rfl fun a S=>Hn 5 (fun a w'=>Keep [] w3 w' ∧ Sx w [] nov [.blk b1 (Dy.enc As) 42] [(1,.pointer (some ⟨b1,0,none⟩)),(18,bV ((!(Dv As.Stroke 1 5)) || (!(Dv As.Sex 0 2))))] 95 a w') ?_ ?_
  ·rcases Bool.eq_false_or_eq_true (!(Dv As.Stroke 1 5)) with hb2 | hb2
   ·iterate 4 (refine Gn S rfl rfl rfl (Kp hb2) rfl ?_ rfl;clear S;intro a S)
    exact lv S (Jq (!(Dv As.Sex 0 2)) hb2 (S.tm rfl) rfl) rfl fun a S=>Dl (⟨Keep.refl _ _,S.nf [true] rfl (subR rfl)⟩)
   ·refine Du S rfl rfl rfl hb2 (Vf fa_42_5 S rfl rfl fun a S=>Du S rfl rfl rfl hb2 (Vl isAgg3 0 S rfl rfl rfl rfl fun a S=>Du S rfl rfl rfl hb2 (Dw S (fun _=>Dp (vs:=[iV As.Sex,iV 0,iV 2]) ⟨(S.tm rfl),rfl,rfl,trivial⟩ call55) (Fm _ As.Sex 0 2 _ rfl) rfl ?_)));clear S;intro v3 a w5 hv3 hk4 hn3 S
    subst hv3
    exact Du S rfl rfl rfl hb2 (Vu S Hj rfl rfl fun a S=>lv S (Jr hb2 (S.tm rfl) (S.tm rfl)) rfl fun a S=>Dl (⟨hk4,S.nf [true] rfl (subR rfl)⟩))
  clear S;rintro a w4 ⟨hk5,S⟩
  refine Va S rfl rfl fun a S=>Dl (Fc h (S.tm rfl) (fun hb3 h=>?_) (fun hb3 h=>?_))
  ·refine Fr (Vk S rfl rfl fun a S=>Dl (wp_ret (Fl (Dt ?_))))
   obtain rfl:=Option.some.inj h
   exact Ej S results74 rfl rfl
  ·refine Fr (Vf HQ S rfl rfl fun a S=>Vl isAgg3 0 S rfl rfl rfl rfl fun a S=>Vq S Kw rfl rfl rfl fun a S=>Vm S rfl rfl fun a S=>Hn 4 (fun a w'=>Keep [] w4 w' ∧ Sx w [] nov [.blk b1 (Dy.enc As) 42] [(1,.pointer (some ⟨b1,0,none⟩)),(27,bV ((!decide (As.Course = 25)) && (!decide (As.Course = 50))))] 95 a w') ?_ ?_)
   ·rcases Bool.eq_false_or_eq_true (!decide (As.Course = 25)) with hb4 | hb4
    ·exact Du S rfl rfl rfl hb4 (Vf HQ S rfl rfl fun a S=>Du S rfl rfl rfl hb4 (Vl isAgg3 0 S rfl rfl rfl rfl fun a S=>Du S rfl rfl rfl hb4 (Vq S Kw rfl rfl rfl fun a S=>lv S (Hg hb4 (S.tm rfl) (S.tm rfl)) rfl fun a S=>Dl (⟨Keep.refl _ _,S.nf [true] rfl (subR rfl)⟩))))
    ·iterate 3 (refine Gn S rfl rfl rfl (Jh hb4) rfl ?_ rfl;clear S;intro a S)
     exact lv S (Hh (!decide (As.Course = 50)) hb4 (S.tm rfl) rfl) rfl fun a S=>Dl (⟨Keep.refl _ _,S.nf [true] rfl (subR rfl)⟩)
   clear S;rintro a w6 ⟨hk6,S⟩
   refine Vm S rfl rfl fun a S=>Hn 5 (fun a w'=>Keep [] w6 w' ∧ Sx w [] nov [.blk b1 (Dy.enc As) 42] [(1,.pointer (some ⟨b1,0,none⟩)),(33,bV (((!decide (As.Course = 25)) && (!decide (As.Course = 50))) || (!(Dv As.Legs 1 4))))] 95 a w') ?_ ?_
   ·rcases Bool.eq_false_or_eq_true ((!decide (As.Course = 25)) && (!decide (As.Course = 50))) with hb5 | hb5
    ·iterate 4 (refine Gn S rfl rfl rfl (Kp hb5) rfl ?_ rfl;clear S;intro a S)
     exact lv S (Jq (!(Dv As.Legs 1 4)) hb5 (S.tm rfl) rfl) rfl fun a S=>Dl (⟨Keep.refl _ _,S.nf [true] rfl (subR rfl)⟩)
    ·refine Du S rfl rfl rfl hb5 (Vf EP S rfl rfl fun a S=>Du S rfl rfl rfl hb5 (Vl isAgg3 0 S rfl rfl rfl rfl fun a S=>Du S rfl rfl rfl hb5 (Dw S (fun _=>Dp (vs:=[iV As.Legs,iV 1,iV 4]) ⟨(S.tm rfl),rfl,rfl,trivial⟩ call55) (Fm _ As.Legs 1 4 _ rfl) rfl ?_)));clear S;intro v4 a w8 hv4 hk7 hn4 S
     subst hv4
     exact Du S rfl rfl rfl hb5 (Vu S Hj rfl rfl fun a S=>lv S (Jr hb5 (S.tm rfl) (S.tm rfl)) rfl fun a S=>Dl (⟨hk7,S.nf [true] rfl (subR rfl)⟩))
   clear S;rintro a w7 ⟨hk8,S⟩
   refine Vm S rfl rfl fun a S=>Hn 5 (fun a w'=>Keep [] w7 w' ∧ Sx w [] nov [.blk b1 (Dy.enc As) 42] [(1,.pointer (some ⟨b1,0,none⟩)),(39,bV ((((!decide (As.Course = 25)) && (!decide (As.Course = 50))) || (!(Dv As.Legs 1 4))) || (!(Dv As.Metres 25 1500))))] 95 a w') ?_ ?_
   ·rcases Bool.eq_false_or_eq_true (((!decide (As.Course = 25)) && (!decide (As.Course = 50))) || (!(Dv As.Legs 1 4))) with hb6 | hb6
    ·iterate 4 (refine Gn S rfl rfl rfl (Kp hb6) rfl ?_ rfl;clear S;intro a S)
     exact lv S (Jq (!(Dv As.Metres 25 1500)) hb6 (S.tm rfl) rfl) rfl fun a S=>Dl (⟨Keep.refl _ _,S.nf [true] rfl (subR rfl)⟩)
    ·refine Du S rfl rfl rfl hb6 (Vf LP S rfl rfl fun a S=>Du S rfl rfl rfl hb6 (Vl isAgg3 0 S rfl rfl rfl rfl fun a S=>Du S rfl rfl rfl hb6 (Dw S (fun _=>Dp (vs:=[iV As.Metres,iV 25,iV 1500]) ⟨(S.tm rfl),rfl,rfl,trivial⟩ call55) (Fm _ As.Metres 25 1500 _ rfl) rfl ?_)));clear S;intro v5 a w10 hv5 hk9 hn5 S
     subst hv5
     exact Du S rfl rfl rfl hb6 (Vu S Hj rfl rfl fun a S=>lv S (Jr hb6 (S.tm rfl) (S.tm rfl)) rfl fun a S=>Dl (⟨hk9,S.nf [true] rfl (subR rfl)⟩))
   clear S;rintro a w9 ⟨hk10,S⟩
   refine Vm S rfl rfl fun a S=>Hn 4 (fun a w'=>Keep [] w9 w' ∧ Sx w [] nov [.blk b1 (Dy.enc As) 42] [(1,.pointer (some ⟨b1,0,none⟩)),(44,bV (((((!decide (As.Course = 25)) && (!decide (As.Course = 50))) || (!(Dv As.Legs 1 4))) || (!(Dv As.Metres 25 1500))) || (decide (As.Young < 0))))] 95 a w') ?_ ?_
   ·rcases Bool.eq_false_or_eq_true ((((!decide (As.Course = 25)) && (!decide (As.Course = 50))) || (!(Dv As.Legs 1 4))) || (!(Dv As.Metres 25 1500))) with hb7 | hb7
    ·iterate 3 (refine Gn S rfl rfl rfl (Kp hb7) rfl ?_ rfl;clear S;intro a S)
     exact lv S (Jq (decide (As.Young < 0)) hb7 (S.tm rfl) rfl) rfl fun a S=>Dl (⟨Keep.refl _ _,S.nf [true] rfl (subR rfl)⟩)
    ·exact Du S rfl rfl rfl hb7 (Vf LR S rfl rfl fun a S=>Du S rfl rfl rfl hb7 (Vl isAgg3 0 S rfl rfl rfl rfl fun a S=>Du S rfl rfl rfl hb7 (Vq S Et rfl rfl rfl fun a S=>lv S (Jr hb7 (S.tm rfl) (S.tm rfl)) rfl fun a S=>Dl (⟨Keep.refl _ _,S.nf [true] rfl (subR rfl)⟩))))
   clear S;rintro a w11 ⟨hk11,S⟩
   refine Vm S rfl rfl fun a S=>Hn 6 (fun a w'=>Keep [] w11 w' ∧ Sx w [] nov [.blk b1 (Dy.enc As) 42] [(1,.pointer (some ⟨b1,0,none⟩)),(51,bV ((((((!decide (As.Course = 25)) && (!decide (As.Course = 50))) || (!(Dv As.Legs 1 4))) || (!(Dv As.Metres 25 1500))) || (decide (As.Young < 0))) || (decide (As.Old < As.Young))))] 95 a w') ?_ ?_
   ·rcases Bool.eq_false_or_eq_true (((((!decide (As.Course = 25)) && (!decide (As.Course = 50))) || (!(Dv As.Legs 1 4))) || (!(Dv As.Metres 25 1500))) || (decide (As.Young < 0))) with hb8 | hb8
    ·iterate 5 (refine Gn S rfl rfl rfl (Kp hb8) rfl ?_ rfl;clear S;intro a S)
     exact lv S (Jq (decide (As.Old < As.Young)) hb8 (S.tm rfl) rfl) rfl fun a S=>Dl (⟨Keep.refl _ _,S.nf [true] rfl (subR rfl)⟩)
    ·refine Du S rfl rfl rfl hb8 (Vf LR S rfl rfl fun a S=>Du S rfl rfl rfl hb8 (Vl isAgg3 0 S rfl rfl rfl rfl fun a S=>Du S rfl rfl rfl hb8 (Vf LS S rfl rfl fun a S=>Du S rfl rfl rfl hb8 (Vl isAgg3 0 S rfl rfl rfl rfl fun a S=>Du S rfl rfl rfl hb8 (Vb S It rfl rfl rfl fun a S=>lv S (Jr hb8 (S.tm rfl) (S.tm rfl)) rfl ?_)))));clear S;intro a S
     exact Dl (⟨Keep.refl _ _,S.nf [true] rfl (subR rfl)⟩)
   clear S;rintro a w12 ⟨hk12,S⟩
   refine Vm S rfl rfl fun a S=>Hn 4 (fun a w'=>Keep [] w12 w' ∧ Sx w [] nov [.blk b1 (Dy.enc As) 42] [(1,.pointer (some ⟨b1,0,none⟩)),(56,bV (((((((!decide (As.Course = 25)) && (!decide (As.Course = 50))) || (!(Dv As.Legs 1 4))) || (!(Dv As.Metres 25 1500))) || (decide (As.Young < 0))) || (decide (As.Old < As.Young))) || (decide (120 < As.Old))))] 95 a w') ?_ ?_
   ·rcases Bool.eq_false_or_eq_true ((((((!decide (As.Course = 25)) && (!decide (As.Course = 50))) || (!(Dv As.Legs 1 4))) || (!(Dv As.Metres 25 1500))) || (decide (As.Young < 0))) || (decide (As.Old < As.Young))) with hb9 | hb9
    ·iterate 3 (refine Gn S rfl rfl rfl (Kp hb9) rfl ?_ rfl;clear S;intro a S)
     exact lv S (Jq (decide (120 < As.Old)) hb9 (S.tm rfl) rfl) rfl fun a S=>Dl (⟨Keep.refl _ _,S.nf [true] rfl (subR rfl)⟩)
    ·exact Du S rfl rfl rfl hb9 (Vf LS S rfl rfl fun a S=>Du S rfl rfl rfl hb9 (Vl isAgg3 0 S rfl rfl rfl rfl fun a S=>Du S rfl rfl rfl hb9 (Vq S It rfl rfl rfl fun a S=>lv S (Jr hb9 (S.tm rfl) (S.tm rfl)) rfl fun a S=>Dl (⟨Keep.refl _ _,S.nf [true] rfl (subR rfl)⟩))))
   clear S;rintro a w13 ⟨hk13,S⟩
   refine Va S rfl rfl fun a S=>Dl (Fc h (S.tm rfl) (fun hb10 h=>?_) (fun hb10 h=>?_))
   ·refine Fr (Vk S rfl rfl fun a S=>Dl (wp_ret (Fl (Dt ?_))))
    obtain rfl:=Option.some.inj h
    exact Ej S results74 rfl rfl
   ·refine Fr (Vf LP S rfl rfl fun a S=>Vl isAgg3 0 S rfl rfl rfl rfl fun a S=>Vf HQ S rfl rfl fun a S=>Vl isAgg3 0 S rfl rfl rfl rfl ?_);clear S;intro a S
    obtain ⟨hc1,h⟩:=Ie h
    refine lv S (AX (S.tm rfl) (S.tm rfl) (Ud hc1)) rfl fun a S=>Vq S Kw rfl rfl rfl fun a S=>Va S rfl rfl fun a S=>Dl (Fc h (S.tm rfl) (fun hb11 h=>?_) (fun hb11 h=>?_))
    ·refine Fr (Vk S rfl rfl fun a S=>Dl (wp_ret (Fl (Dt ?_))))
     obtain rfl:=Option.some.inj h
     exact Ej S results74 rfl rfl
    ·refine Fs (Fr (Vf LQ S rfl rfl fun a S=>Vl isAgg3 0 S rfl rfl rfl rfl fun a S=>Vq S Im rfl rfl rfl fun a S=>Vm S rfl rfl fun a S=>Hn 4 (fun a w'=>Keep [] w13 w' ∧ Sx w [] nov [.blk b1 (Dy.enc As) 42] [(1,.pointer (some ⟨b1,0,none⟩)),(72,bV ((decide (As.Stroke = 5)) && (decide (As.Legs = 1))))] 95 a w') ?_ ?_))
     ·rcases Bool.eq_false_or_eq_true (decide (As.Stroke = 5)) with hb12 | hb12
      ·exact Du S rfl rfl rfl hb12 (Vf EP S rfl rfl fun a S=>Du S rfl rfl rfl hb12 (Vl isAgg3 0 S rfl rfl rfl rfl fun a S=>Du S rfl rfl rfl hb12 (Vq S Im rfl rfl rfl fun a S=>lv S (Hg hb12 (S.tm rfl) (S.tm rfl)) rfl fun a S=>Dl (⟨Keep.refl _ _,S.nf [true] rfl (subR rfl)⟩))))
      ·iterate 3 (refine Gn S rfl rfl rfl (Jh hb12) rfl ?_ rfl;clear S;intro a S)
       exact lv S (Hh (decide (As.Legs = 1)) hb12 (S.tm rfl) rfl) rfl fun a S=>Dl (⟨Keep.refl _ _,S.nf [true] rfl (subR rfl)⟩)
     clear S;rintro a w14 ⟨hk14,S⟩
     refine Vm S rfl rfl ?_;clear S;intro a S
     obtain ⟨j1,hj1,h⟩:=Ep h
     refine Hn 8 (fun a w'=>∃ c1,j1 c1 = some r ∧ Keep [] w14 w' ∧ Sx w [] nov [.blk b1 (Dy.enc As) 42] [(1,.pointer (some ⟨b1,0,none⟩)),(81,bV c1)] 95 a w') ?_ ?_
     ·rcases Bool.eq_false_or_eq_true ((decide (As.Stroke = 5)) && (decide (As.Legs = 1))) with hb13 | hb13
      ·replace h:=Qc h hb13
       refine Du S rfl rfl rfl hb13 (Vf LP S rfl rfl fun a S=>Du S rfl rfl rfl hb13 (Vl isAgg3 0 S rfl rfl rfl rfl fun a S=>Du S rfl rfl rfl hb13 (Vf HQ S rfl rfl fun a S=>Du S rfl rfl rfl hb13 (Vl isAgg3 0 S rfl rfl rfl rfl fun a S=>Du S rfl rfl rfl hb13 (Vu S (Yv rfl) rfl rfl fun a S=>Du S rfl rfl rfl hb13 ?_)))))
       obtain ⟨hc2,h⟩:=Ie h
       exact lv S (AX (S.tm rfl) (S.tm rfl) (Ud hc2)) rfl fun a S=>Du S rfl rfl rfl hb13 (Vq S Kw rfl rfl rfl fun a S=>lv S (Hg hb13 (S.tm rfl) (S.tm rfl)) rfl fun a S=>Dl (⟨_,h,Keep.refl _ _,S.nf [true] rfl (subR rfl)⟩))
      ·replace h:=Qd h hb13
       iterate 7 (refine Gn S rfl rfl rfl (Jh hb13) rfl ?_ rfl;clear S;intro a S)
       exact Vq S (Hh true hb13) rfl rfl rfl fun a S=>Dl (⟨_,h,Keep.refl _ _,S.nf [true] rfl (subR rfl)⟩)
     clear S h;rintro a w15 ⟨c1,h,hk15,S⟩;rw [hj1] at h;clear hj1 j1
     refine Va S rfl rfl fun a S=>Dl ?_
     obtain ⟨j2,hj2,h⟩:=Ep h
     refine Eg (fun a w'=>∃ x1 : Bool,j2 x1 = some r ∧ Sx w [] nov [.blk b1 (Dy.enc As) 42] [(64,bV x1)] 95 a w') ?_ ?_
     ·refine Fc h (S.tm rfl) (fun hb14 h=>?_) (fun hb14 h=>?_)
      ·exact wp_skip (Tn (⟨c1,h,S.nf [true] rfl ⟨rfl,trivial⟩⟩))
      ·refine Fg (Vf LQ S rfl rfl fun a S=>Vl isAgg3 0 S rfl rfl rfl rfl fun a S=>Vq S Im rfl rfl rfl fun a S=>Vm S rfl rfl fun a S=>Hn 4 (fun a w'=>Keep [] w15 w' ∧ Sx w [] nov [.blk b1 (Dy.enc As) 42] [(1,.pointer (some ⟨b1,0,none⟩)),(89,bV ((decide (As.Stroke = 5)) && (decide (1 < As.Legs))))] 95 a w') ?_ ?_)
       ·rcases Bool.eq_false_or_eq_true (decide (As.Stroke = 5)) with hb15 | hb15
        ·exact Du S rfl rfl rfl hb15 (Vf EP S rfl rfl fun a S=>Du S rfl rfl rfl hb15 (Vl isAgg3 0 S rfl rfl rfl rfl fun a S=>Du S rfl rfl rfl hb15 (Vq S It rfl rfl rfl fun a S=>lv S (Hg hb15 (S.tm rfl) (S.tm rfl)) rfl fun a S=>Dl (⟨Keep.refl _ _,S.nf [true] rfl (subR rfl)⟩))))
        ·iterate 3 (refine Gn S rfl rfl rfl (Jh hb15) rfl ?_ rfl;clear S;intro a S)
         exact lv S (Hh (decide (1 < As.Legs)) hb15 (S.tm rfl) rfl) rfl fun a S=>Dl (⟨Keep.refl _ _,S.nf [true] rfl (subR rfl)⟩)
       clear S;rintro a w17 ⟨hk16,S⟩
       refine Vm S rfl rfl fun a S=>Hn 4 (fun a w'=>Keep [] w17 w' ∧ Sx w [] nov [.blk b1 (Dy.enc As) 42] [(94,bV (((decide (As.Stroke = 5)) && (decide (1 < As.Legs))) && (!decide (As.Legs = 4))))] 95 a w') ?_ ?_
       ·rcases Bool.eq_false_or_eq_true ((decide (As.Stroke = 5)) && (decide (1 < As.Legs))) with hb16 | hb16
        ·exact Du S rfl rfl rfl hb16 (Vf EP S rfl rfl fun a S=>Du S rfl rfl rfl hb16 (Vl isAgg3 0 S rfl rfl rfl rfl fun a S=>Du S rfl rfl rfl hb16 (Vq S Kw rfl rfl rfl fun a S=>lv S (Hg hb16 (S.tm rfl) (S.tm rfl)) rfl fun a S=>Dl (⟨Keep.refl _ _,S.nf [true] rfl ⟨rfl,trivial⟩⟩))))
        ·iterate 3 (refine Gn S rfl rfl rfl (Jh hb16) rfl ?_ rfl;clear S;intro a S)
         exact lv S (Hh (!decide (As.Legs = 4)) hb16 (S.tm rfl) rfl) rfl fun a S=>Dl (⟨Keep.refl _ _,S.nf [true] rfl ⟨rfl,trivial⟩⟩)
       clear S;rintro a w18 ⟨hk17,S⟩
       exact Va S rfl rfl fun a S=>Dl (⟨(((decide (As.Stroke = 5)) && (decide (1 < As.Legs))) && (!decide (As.Legs = 4))),h,S.nf [true] rfl ⟨rfl,trivial⟩⟩)
     clear S h;rintro a w16 ⟨x1,h,S⟩;rw [hj2] at h;clear hj2 j2
     refine Tn (Fc h (S.tm rfl) (fun hb17 h=>?_) (fun hb17 h=>?_))
     ·refine Fr (Vk S rfl rfl fun a S=>Dl (wp_ret (Fl (Dt ?_))))
      obtain rfl:=Option.some.inj h
      exact Ej S results74 rfl rfl
     ·refine wp_skip (Ho (Tn (Fr (Vk S rfl rfl fun a S=>Dl (wp_ret ?_)))))
      obtain rfl:=Option.some.inj h
      exact Ej S results74 rfl rfl
theorem BR (w : World) (Ac : Dy) (Ca : Nat) (Bk : Dy) (Cb : (view w []) Ca = some (.cells [sV Bk.Key,iV Bk.Metres,iV Bk.Stroke,iV Bk.Course,iV Bk.Legs,iV Bk.Sex,iV Bk.Young,iV Bk.Old].toArray 42 (0,0))) (r : Bool) (h : Tc Ac Bk = r) :
    Calls prog 76 [.agg (Dy.enc Ac).toArray,.pointer (some ⟨Ca,0,none⟩)].toArray w (Ret w [] fun _ v _=>v = bV r):=by
 refine Fe func76 rfl ntmps76 rfl fun a S=>?_
 unfold Tc at h
 replace S:=S.k2 0 1 rfl
 refine Fr (Mn S (S.tm rfl) (cs:=(Dy.enc Ac)) rfl rfl ?_);clear S;intro a w1 b1 hz1 hk1 S
 refine Vk S rfl rfl fun a S=>Dz (Vf Tx S rfl rfl fun a S=>Vl isAgg9 0 S rfl rfl rfl rfl fun a S=>Vf Tx S rfl rfl fun a S=>lv S (Hm isAgg9 (off:=0) (o:=0) (S.tm rfl) ((Ru Cb).at S.emb0) rfl) rfl fun a S=>Vb S Ve rfl rfl rfl fun a S=>Va S rfl rfl ?_);clear S;intro a S
 refine Dl (wp_ret ?_)
 subst h
 exact Ej S results76 rfl rfl
theorem Sk (w : World) (Ax : Value) (Ar : List Dy) (Bf : Slc (view w []) 8 Ax (Ar.map Dy.enc)) (Az : Nat) (Aw : Dy) (Bg : (view w []) Az = some (.cells [sV Aw.Key,iV Aw.Metres,iV Aw.Stroke,iV Aw.Course,iV Aw.Legs,iV Aw.Sex,iV Aw.Young,iV Aw.Old].toArray 42 (0,0))) (r : Int) (h : Kl Ar Aw = r) :
    Calls prog 85 [Ax,.func (.func 76) #[] #[.pointer (some ⟨Az,0,none⟩)]].toArray w (Ret w [] fun _ v _=>v = iV r):=by
 refine Fe func85 rfl ntmps85 rfl fun a S=>?_
 unfold Kl at h
 replace S:=S.k2 0 1 rfl
 refine Fr (Vk S rfl rfl fun a S=>Dl (Fs (Fr (Vm S rfl rfl fun a S=>lv S (Fq Un (S.tm rfl) (Fj Bf)) rfl fun a S=>lv S (Rm rfl) rfl ?_))));clear S;intro a S
 refine Dl ?_
 replace S:=S.k4 0 1 7 8 rfl
 obtain ⟨j1,hj1,h⟩:=Ep h
 refine Eg (fun a w'=>j1 = r ∧ Sx w [] nov [] [] 19 a w') ?_ ?_
 ·refine wp_block (Gx (fun (ys1 : List Dy) a w'=>∃ i1 : Nat,(∃ dn,Ar = dn ++ ys1 ∧ dn.length = i1) ∧ Fz Aw j1 ys1 i1 = r ∧ Sx w [] nov [] [(0,Ax),(1,.func (.func 76) #[] #[.pointer (some ⟨Az,0,none⟩)]),(7,iV (Ar.length : Int)),(8,iV (i1 : Int))] 19 a w') List.length Ar ⟨0,⟨[],rfl,rfl⟩,h,S.nf [] rfl (subR rfl)⟩ ?_)
  clear S h;rintro ys1 a w1 ⟨i1,⟨dn,hd1,hi1⟩,h,S⟩
  cases ys1 with
  | nil =>
   rw [Fz.eq_1] at h
   refine Fr (Vb S Et rfl rfl rfl fun a S=>Ld ?_)
   replace S:=S.k5 0 1 7 8 9 rfl
   exact Tn (Fs (wp_cond_false ((S.tm rfl).trans (congrArg Value.bool (Il hd1 hi1))) (wp_exit (Ed (Ed (Gp (Tn (⟨h,S.nf [] rfl trivial⟩))))))))
  | cons y1 ys1 =>
   rw [Fz.eq_2] at h
   refine Fr (Vb S Et rfl rfl rfl fun a S=>Ld ?_)
   replace S:=S.k5 0 1 7 8 9 rfl
   refine Tn (Fs (wp_cond_true ((S.tm rfl).trans (congrArg Value.bool (Ht hd1 hi1))) (wp_skip (Tn (Fs (wp_block (Fr (Vm S rfl rfl fun a S=>Va S rfl rfl ?_))))))));clear S;intro a S
   refine Dl (Fs (Fg ?_))
   iterate 3 (refine Vm S rfl rfl ?_;clear S;intro a S)
   obtain ⟨b1,o1,hm1,hr1⟩:=Ev (a:=a) (x:=.tmp 12) (y:=.tmp 13) (ty:=0) Un Bf (Io hd1 hi1) rfl (S.tm rfl) (S.tm rfl)
   refine lv S (hr1 _) rfl ?_;clear S;intro a S
   clear hr1
   refine lv S (Fp isAgg42 sizeOf42 (off:=o1) (o:=0) (part:=(Dy.enc y1)) rfl rfl (S.tm rfl) (hm1.at S.emb0)) rfl fun a S=>Dw S (fun _=>Ts (cap:=[.pointer (some ⟨Az,0,none⟩)]) (S.tm rfl) (vs:=[.agg (Dy.enc y1).toArray]) ⟨(S.tm rfl),trivial⟩ call76) (BR _ y1 Az Aw ((S.le_arg Ec) _ _ Bg) _ rfl) rfl ?_;clear S;intro v1 a w3 hv1 hk1 hn1 S
   subst hv1
   refine Dl (Fc h (S.tm rfl) (fun hb1 h=>?_) (fun hb1 h=>?_))
   ·refine Fr (Vm S rfl rfl fun a S=>Va S rfl rfl fun a S=>Ld ?_)
    replace S:=S.k1 4 rfl
    refine Tn (wp_ret (Fl (Dt (Dt (Fl (Dt (Dt ?_)))))))
    subst h
    exact Ej S results85 rfl rfl
   ·exact wp_skip (Ho (Tn (Fg (Vq S Gc rfl rfl rfl fun a S=>Vm S rfl rfl fun a S=>Dl (⟨ys1,⟨i1 + 1,⟨_,(hd1).trans (List.append_cons _ _ _),by simp [hi1]⟩,h,S.nf [] rfl ⟨rfl,rfl,rfl,(congrArg (fun z=>some (Value.int .i64 z)) (Hu hd1 hi1 (Iz Bf))),trivial⟩⟩,Nat.lt_succ_self _⟩)))))
 clear S h;rintro a w2 ⟨h,S⟩;rw [hj1] at h;clear hj1 j1
 refine Tn (Fr (Vk S rfl rfl fun a S=>Dl (wp_ret ?_)))
 subst h
 exact Ej S results85 rfl rfl
theorem Rq (w : World) (Ax : Value) (Ar : List Dy) (Bf : Slc (view w []) 8 Ax (Ar.map Dy.enc)) (Az : Nat) (Aw : Dy) (Bg : (view w []) Az = some (.cells [sV Aw.Key,iV Aw.Metres,iV Aw.Stroke,iV Aw.Course,iV Aw.Legs,iV Aw.Sex,iV Aw.Young,iV Aw.Old].toArray 42 (0,0))) (r : Bool) (h : Iq Ar Aw = r) :
    Calls prog 75 [Ax,.func (.func 76) #[] #[.pointer (some ⟨Az,0,none⟩)]].toArray w (Ret w [] fun _ v _=>v = bV r):=by
 refine Fe func75 rfl ntmps75 rfl fun a S=>?_
 unfold Iq at h
 replace S:=S.k2 0 1 rfl
 refine Fr (Vk S rfl rfl fun a S=>Dz (Vm S rfl rfl fun a S=>Vm S rfl rfl fun a S=>Dw S (fun _=>Dp (vs:=[Ax,.func (.func 76) #[] #[.pointer (some ⟨Az,0,none⟩)]]) ⟨(S.tm rfl),(S.tm rfl),trivial⟩ call85) (Sk _ Ax Ar (Bf.mono (S.le_arg Ec)) Az Aw ((S.le_arg Ec) _ _ Bg) _ rfl) rfl ?_));clear S;intro v1 a w1 hv1 hk1 hn1 S
 subst hv1
 refine Vq S Qe rfl rfl rfl fun a S=>Va S rfl rfl fun a S=>Dl (wp_ret ?_)
 subst h
 exact Ej S results75 rfl rfl
theorem Xd (w : World) (Ay : Kr) (Ci : R28) (Cn : Xy (view w []) Ay Ci) (r : Int) (h : Oj Ay = some r) :
    Calls prog 77 [.agg (R28.enc Ci).toArray].toArray w (Ret w [] fun _ v _=>v = iV r):=by
 obtain ⟨u1,rfl,hs1⟩:=Cn
 refine Fe func77 rfl ntmps77 rfl fun a S=>?_
 unfold Oj at h
 replace S:=S.k1 0 rfl
 refine Fr (Mn S (S.tm rfl) (cs:=[u1.val,iV Ay.Relay,iV Ay.Most]) rfl rfl ?_);clear S;intro a w1 b1 hz1 hk1 S
 refine Vk S rfl rfl fun a S=>Dl (Fs (Fr (Vf AC S rfl rfl fun a S=>Vl isAgg22 0 S rfl rfl rfl rfl fun a S=>lv S (Fq Pf (S.tm rfl) (Fj hs1)) rfl fun a S=>Vq S It rfl rfl rfl fun a S=>Ld ?_)))
 refine Tn (Fc h (S.tm rfl) (fun hb1 h=>?_) (fun hb1 h=>?_))
 ·refine Fr (Vk S rfl rfl fun a S=>Dl (wp_ret (Dt ?_)))
  obtain rfl:=Option.some.inj h
  exact Ej S results77 rfl rfl
 ·refine wp_skip (Tn (Fs (Fr (Vf AC S rfl rfl fun a S=>Vl isAgg22 0 S rfl rfl rfl rfl fun a S=>lv S (Fq Pf (S.tm rfl) (Fj hs1)) rfl fun a S=>lv S (Rm rfl) rfl fun a S=>Dl ?_))))
  replace S:=(S.nl [.blk b1 [u1.val,iV Ay.Relay,iV Ay.Most] 28] [true] rfl).k4 1 10 11 12 rfl
  obtain ⟨j1,hj1,h⟩:=Ep h
  refine Eg (fun a w'=>j1 = some r ∧ Sx w [] nov [.blk b1 [u1.val,iV Ay.Relay,iV Ay.Most] 28] [(1,.pointer (some ⟨b1,0,none⟩))] 43 a w') ?_ ?_
  ·refine wp_block (Gx (fun (ys1 : List Int) a w'=>∃ i1 : Nat,(∃ dn,Ay.Points = dn ++ ys1 ∧ dn.length = i1) ∧ Ka Ay j1 ys1 i1 = some r ∧ Sx w [] nov [.blk b1 [u1.val,iV Ay.Relay,iV Ay.Most] 28] [(1,.pointer (some ⟨b1,0,none⟩)),(10,u1.val),(11,iV (Ay.Points.length : Int)),(12,iV (i1 : Int))] 43 a w') List.length Ay.Points ⟨0,⟨[],rfl,rfl⟩,h,S.nf [true] rfl (subR rfl)⟩ ?_)
   clear S h;rintro ys1 a w2 ⟨i1,⟨dn,hd1,hi1⟩,h,S⟩
   cases ys1 with
   | nil =>
    rw [Ka.eq_1] at h
    refine Fr (Vb S Et rfl rfl rfl fun a S=>Ld ?_)
    replace S:=S.k5 1 10 11 12 13 rfl
    exact Tn (Fs (wp_cond_false ((S.tm rfl).trans (congrArg Value.bool (Il hd1 hi1))) (wp_exit (Ed (Ed (Gp (Tn (⟨h,S.nf [true] rfl ⟨rfl,trivial⟩⟩))))))))
   | cons y1 ys1 =>
    rw [Ka.eq_2] at h
    refine Fr (Vb S Et rfl rfl rfl fun a S=>Ld ?_)
    replace S:=S.k5 1 10 11 12 13 rfl
    refine Tn (Fs (wp_cond_true ((S.tm rfl).trans (congrArg Value.bool (Ht hd1 hi1))) (wp_skip (Tn (Fs (wp_block (Fr (Vm S rfl rfl ?_))))))));clear S;intro a S
    obtain ⟨b2,o1,hm1,hr1⟩:=Ev (a:=a) (x:=.tmp 10) (y:=.tmp 12) (ty:=0) Pf hs1 (Io hd1 hi1) rfl (S.tm rfl) (S.tm rfl)
    refine lv S (hr1 _) rfl ?_;clear S;intro a S
    clear hr1
    refine lv S (Hm isAgg3 (off:=o1) (o:=0) (S.tm rfl) (hm1.at S.emb0) rfl) rfl fun a S=>Va S rfl rfl fun a S=>Va S rfl rfl fun a S=>Dl (Fs (Fr (Vm S rfl rfl fun a S=>Dw S (fun _=>Dp (vs:=[iV y1,iV 0,iV 10000]) ⟨(S.tm rfl),rfl,rfl,trivial⟩ call55) (Fm _ y1 0 10000 _ rfl) rfl ?_)));clear S;intro v1 a w4 hv1 hk2 hn1 S
    subst hv1
    refine Vu S Hj rfl rfl fun a S=>Dl (Fc h (S.tm rfl) (fun hb2 h=>?_) (fun hb2 h=>?_))
    ·refine Fr (Vk S rfl rfl fun a S=>Dl (wp_ret (Dt (Fl (Dt (Dt (Fl ?_)))))))
     refine Dt (Dt ?_)
     obtain rfl:=Option.some.inj h
     exact Ej S results77 rfl rfl
    ·refine wp_skip (Tn (Fr (Vm S rfl rfl fun a S=>Vq S It rfl rfl rfl fun a S=>Vm S rfl rfl ?_)));clear S;intro a S
     obtain ⟨j2,hj2,h⟩:=Ep h
     refine Hn 9 (fun a w'=>∃ c1,j2 c1 = some r ∧ Keep [] w4 w' ∧ Sx w [] nov [.blk b1 [u1.val,iV Ay.Relay,iV Ay.Most] 28] [(1,.pointer (some ⟨b1,0,none⟩)),(10,u1.val),(11,iV (Ay.Points.length : Int)),(12,iV (i1 : Int)),(31,bV c1)] 43 a w') ?_ ?_
     ·rcases Bool.eq_false_or_eq_true (decide (0 < (i1 : Int))) with hb3 | hb3
      ·replace h:=Qc h hb3
       refine Du S rfl rfl rfl hb3 (Vm S rfl rfl fun a S=>Du S rfl rfl rfl hb3 (Vf AC S rfl rfl fun a S=>Du S rfl rfl rfl hb3 (Vl isAgg22 0 S rfl rfl rfl rfl fun a S=>Du S rfl rfl rfl hb3 (Vm S rfl rfl fun a S=>Du S rfl rfl rfl hb3 (Vq S Iu rfl rfl rfl fun a S=>Du S rfl rfl rfl hb3 ?_)))))
       obtain ⟨hc1,h⟩:=Ie h
       obtain ⟨b3,o2,hm2,hr2⟩:=Ev (a:=a) (x:=.tmp 25) (y:=.tmp 27) (ty:=0) Pf hs1 (Dx hc1).1 (Dx hc1).2 (S.tm rfl) (S.tm rfl)
       refine lv S (hr2 _) rfl ?_;clear S;intro a S
       clear hr2
       exact Du S rfl rfl rfl hb3 (lv S (Hm isAgg3 (off:=o2) (o:=0) (S.tm rfl) (hm2.at S.emb0) rfl) rfl fun a S=>Du S rfl rfl rfl hb3 (Vb S It rfl rfl rfl fun a S=>lv S (Hg hb3 (S.tm rfl) (S.tm rfl)) rfl fun a S=>Dl (⟨_,h,Keep.refl _ _,S.nf [true] rfl (subR rfl)⟩)))
      ·replace h:=Qd h hb3
       iterate 8 (refine Gn S rfl rfl rfl (Jh hb3) rfl ?_ rfl;clear S;intro a S)
       exact Vq S (Hh true hb3) rfl rfl rfl fun a S=>Dl (⟨_,h,Keep.refl _ _,S.nf [true] rfl (subR rfl)⟩)
     clear S h;rintro a w5 ⟨c1,h,hk3,S⟩;rw [hj2] at h;clear hj2 j2
     refine Dl (Fc h (S.tm rfl) (fun hb4 h=>?_) (fun hb4 h=>?_))
     ·refine Fr (Vk S rfl rfl fun a S=>Dl (wp_ret (Fl (Dt (Dt (Fl (Dt ?_)))))))
      refine Dt ?_
      obtain rfl:=Option.some.inj h
      exact Ej S results77 rfl rfl
     ·exact wp_skip (Ho (Tn (Fg (Vq S Gc rfl rfl rfl fun a S=>Vm S rfl rfl fun a S=>Dl (⟨ys1,⟨i1 + 1,⟨_,(hd1).trans (List.append_cons _ _ _),by simp [hi1]⟩,h,S.nf [true] rfl ⟨rfl,rfl,rfl,(congrArg (fun z=>some (Value.int .i64 z)) (Hu hd1 hi1 (Iz hs1))),trivial⟩⟩,Nat.lt_succ_self _⟩)))))
  clear S h;rintro a w3 ⟨h,S⟩;rw [hj1] at h;clear hj1 j1
  refine Tn (Fs (Fr (Vf QJ S rfl rfl fun a S=>Vl isAgg3 0 S rfl rfl rfl rfl fun a S=>Dw S (fun _=>Dp (vs:=[iV Ay.Relay,iV 1,iV 10]) ⟨(S.tm rfl),rfl,rfl,trivial⟩ call55) (Fm _ Ay.Relay 1 10 _ rfl) rfl ?_)));clear S;intro v2 a w6 hv2 hk4 hn2 S
  subst hv2
  refine Vu S Hj rfl rfl fun a S=>Vm S rfl rfl fun a S=>Hn 5 (fun a w'=>Keep [] w6 w' ∧ Sx w [] nov [.blk b1 [u1.val,iV Ay.Relay,iV Ay.Most] 28] [(42,bV ((!(Dv Ay.Relay 1 10)) || (!(Dv Ay.Most 0 10))))] 43 a w') ?_ ?_
  ·rcases Bool.eq_false_or_eq_true (!(Dv Ay.Relay 1 10)) with hb5 | hb5
   ·iterate 4 (refine Gn S rfl rfl rfl (Kp hb5) rfl ?_ rfl;clear S;intro a S)
    exact lv S (Jq (!(Dv Ay.Most 0 10)) hb5 (S.tm rfl) rfl) rfl fun a S=>Dl (⟨Keep.refl _ _,S.nf [true] rfl ⟨rfl,trivial⟩⟩)
   ·refine Du S rfl rfl rfl hb5 (Vf LO S rfl rfl fun a S=>Du S rfl rfl rfl hb5 (Vl isAgg3 0 S rfl rfl rfl rfl fun a S=>Du S rfl rfl rfl hb5 (Dw S (fun _=>Dp (vs:=[iV Ay.Most,iV 0,iV 10]) ⟨(S.tm rfl),rfl,rfl,trivial⟩ call55) (Fm _ Ay.Most 0 10 _ rfl) rfl ?_)));clear S;intro v3 a w8 hv3 hk5 hn3 S
    subst hv3
    exact Du S rfl rfl rfl hb5 (Vu S Hj rfl rfl fun a S=>lv S (Jr hb5 (S.tm rfl) (S.tm rfl)) rfl fun a S=>Dl (⟨hk5,S.nf [true] rfl ⟨rfl,trivial⟩⟩))
  clear S;rintro a w7 ⟨hk6,S⟩
  refine Dl (Fc h (S.tm rfl) (fun hb6 h=>?_) (fun hb6 h=>?_))
  ·refine Fr (Vk S rfl rfl fun a S=>Dl (wp_ret (Dt ?_)))
   obtain rfl:=Option.some.inj h
   exact Ej S results77 rfl rfl
  ·refine wp_skip (Tn (Fr (Vk S rfl rfl fun a S=>Dl (wp_ret ?_))))
   obtain rfl:=Option.some.inj h
   exact Ej S results77 rfl rfl
theorem DU (w : World) (Ck : Sy) (r : Int) (h : Qw Ck = r) :
    Calls prog 78 [.agg (Sy.enc Ck).toArray].toArray w (Ret w [] fun _ v _=>v = iV r):=by
 refine Fe func78 rfl ntmps78 rfl fun a S=>?_
 unfold Qw at h
 replace S:=S.k1 0 rfl
 refine Fr (Mn S (S.tm rfl) (cs:=(Sy.enc Ck)) rfl rfl ?_);clear S;intro a w1 b1 hz1 hk1 S
 refine Vk S rfl rfl fun a S=>Dl (Fs (Fr (Vf fa_30_0 S rfl rfl fun a S=>Vl isAgg3 0 S rfl rfl rfl rfl fun a S=>Dw S (fun _=>Dp (vs:=[iV Ck.Size,iV 1,iV 10]) ⟨(S.tm rfl),rfl,rfl,trivial⟩ call55) (Fm _ Ck.Size 1 10 _ rfl) rfl ?_)));clear S;intro v1 a w2 hv1 hk2 hn1 S
 subst hv1
 refine Vu S Hj rfl rfl fun a S=>Vm S rfl rfl fun a S=>Hn 5 (fun a w'=>Keep [] w2 w' ∧ Sx w [] nov [.blk b1 (Sy.enc Ck) 30] [(1,.pointer (some ⟨b1,0,none⟩)),(12,bV ((!(Dv Ck.Size 1 10)) || (!(Dv Ck.Many 1 5))))] 19 a w') ?_ ?_
 ·rcases Bool.eq_false_or_eq_true (!(Dv Ck.Size 1 10)) with hb1 | hb1
  ·iterate 4 (refine Gn S rfl rfl rfl (Kp hb1) rfl ?_ rfl;clear S;intro a S)
   exact lv S (Jq (!(Dv Ck.Many 1 5)) hb1 (S.tm rfl) rfl) rfl fun a S=>Dl (⟨Keep.refl _ _,S.nf [true] rfl (subR rfl)⟩)
  ·refine Du S rfl rfl rfl hb1 (Vf fa_30_1 S rfl rfl fun a S=>Du S rfl rfl rfl hb1 (Vl isAgg3 0 S rfl rfl rfl rfl fun a S=>Du S rfl rfl rfl hb1 (Dw S (fun _=>Dp (vs:=[iV Ck.Many,iV 1,iV 5]) ⟨(S.tm rfl),rfl,rfl,trivial⟩ call55) (Fm _ Ck.Many 1 5 _ rfl) rfl ?_)));clear S;intro v2 a w4 hv2 hk3 hn2 S
   subst hv2
   exact Du S rfl rfl rfl hb1 (Vu S Hj rfl rfl fun a S=>lv S (Jr hb1 (S.tm rfl) (S.tm rfl)) rfl fun a S=>Dl (⟨hk3,S.nf [true] rfl (subR rfl)⟩))
 clear S;rintro a w3 ⟨hk4,S⟩
 refine Vm S rfl rfl fun a S=>Hn 5 (fun a w'=>Keep [] w3 w' ∧ Sx w [] nov [.blk b1 (Sy.enc Ck) 30] [(18,bV (((!(Dv Ck.Size 1 10)) || (!(Dv Ck.Many 1 5))) || (!(Dv Ck.Reserves 0 10))))] 19 a w') ?_ ?_
 ·rcases Bool.eq_false_or_eq_true ((!(Dv Ck.Size 1 10)) || (!(Dv Ck.Many 1 5))) with hb2 | hb2
  ·iterate 4 (refine Gn S rfl rfl rfl (Kp hb2) rfl ?_ rfl;clear S;intro a S)
   exact lv S (Jq (!(Dv Ck.Reserves 0 10)) hb2 (S.tm rfl) rfl) rfl fun a S=>Dl (⟨Keep.refl _ _,S.nf [true] rfl ⟨rfl,trivial⟩⟩)
  ·refine Du S rfl rfl rfl hb2 (Vf fa_30_2 S rfl rfl fun a S=>Du S rfl rfl rfl hb2 (Vl isAgg3 0 S rfl rfl rfl rfl fun a S=>Du S rfl rfl rfl hb2 (Dw S (fun _=>Dp (vs:=[iV Ck.Reserves,iV 0,iV 10]) ⟨(S.tm rfl),rfl,rfl,trivial⟩ call55) (Fm _ Ck.Reserves 0 10 _ rfl) rfl ?_)));clear S;intro v3 a w6 hv3 hk5 hn3 S
   subst hv3
   exact Du S rfl rfl rfl hb2 (Vu S Hj rfl rfl fun a S=>lv S (Jr hb2 (S.tm rfl) (S.tm rfl)) rfl fun a S=>Dl (⟨hk5,S.nf [true] rfl ⟨rfl,trivial⟩⟩))
 clear S;rintro a w5 ⟨hk6,S⟩
 refine Dl (Fc h (S.tm rfl) (fun hb3 h=>?_) (fun hb3 h=>?_))
 ·refine Fr (Vk S rfl rfl fun a S=>Dl (wp_ret (Dt ?_)))
  subst h
  exact Ej S results78 rfl rfl
 ·refine wp_skip (Tn (Fr (Vk S rfl rfl fun a S=>Dl (wp_ret ?_))))
  subst h
  exact Ej S results78 rfl rfl
theorem EX (w : World) (Ad : Iw) (By : R32) (Ce : Rk (view w []) Ad By) (r : Int) (h : Tk Ad = some r) :
    Calls prog 42 [.agg (R32.enc By).toArray].toArray w (Ret w [] fun _ v _=>v = iV r):=by
 obtain ⟨u1,u2,rfl,hs1,⟨u3,rfl,hs2⟩⟩:=Ce
 refine Fe func42 rfl ntmps42 rfl fun a S=>?_
 unfold Tk at h
 replace S:=S.k1 0 rfl
 refine Fr (Mn S (S.tm rfl) (cs:=[u1.val,u3.val,iV Ad.Table.Relay,iV Ad.Table.Most,iV Ad.Final.Size,iV Ad.Final.Many,iV Ad.Final.Reserves]) rfl rfl ?_);clear S;intro a w1 b1 hz1 hk1 S
 refine Vk S rfl rfl fun a S=>Dl (Fs (Fr (Vf Xo S rfl rfl fun a S=>Vl isAgg26 0 S rfl rfl rfl rfl fun a S=>lv S (Fq Un (S.tm rfl) (Fj hs1)) rfl fun a S=>Vq S It rfl rfl rfl fun a S=>Ld ?_)))
 refine Tn (Fc h (S.tm rfl) (fun hb1 h=>?_) (fun hb1 h=>?_))
 ·refine Fr (Vk S rfl rfl fun a S=>Dl (wp_ret (Dt ?_)))
  obtain rfl:=Option.some.inj h
  exact Ej S results42 rfl rfl
 ·refine wp_skip (Tn (Fs (Fr (Vf Xo S rfl rfl fun a S=>Vl isAgg26 0 S rfl rfl rfl rfl fun a S=>lv S (Fq Un (S.tm rfl) (Fj hs1)) rfl fun a S=>lv S (Rm rfl) rfl fun a S=>Dl ?_))))
  replace S:=(S.nl [.blk b1 [u1.val,u3.val,iV Ad.Table.Relay,iV Ad.Table.Most,iV Ad.Final.Size,iV Ad.Final.Many,iV Ad.Final.Reserves] 32] [true] rfl).k4 1 12 13 14 rfl
  obtain ⟨j1,hj1,h⟩:=Ep h
  refine Eg (fun a w'=>j1 = some r ∧ Sx w [] nov [.blk b1 [u1.val,u3.val,iV Ad.Table.Relay,iV Ad.Table.Most,iV Ad.Final.Size,iV Ad.Final.Many,iV Ad.Final.Reserves] 32] [(1,.pointer (some ⟨b1,0,none⟩))] 40 a w') ?_ ?_
  ·refine wp_block (Gx (fun (ys1 : List Dy) a w'=>∃ i1 : Nat,(∃ dn,Ad.Races = dn ++ ys1 ∧ dn.length = i1) ∧ Lu Ad j1 ys1 i1 = some r ∧ Sx w [] nov [.blk b1 [u1.val,u3.val,iV Ad.Table.Relay,iV Ad.Table.Most,iV Ad.Final.Size,iV Ad.Final.Many,iV Ad.Final.Reserves] 32] [(1,.pointer (some ⟨b1,0,none⟩)),(12,u1.val),(13,iV (Ad.Races.length : Int)),(14,iV (i1 : Int))] 40 a w') List.length Ad.Races ⟨0,⟨[],rfl,rfl⟩,h,S.nf [true] rfl (subR rfl)⟩ ?_)
   clear S h;rintro ys1 a w2 ⟨i1,⟨dn,hd1,hi1⟩,h,S⟩
   cases ys1 with
   | nil =>
    rw [Lu.eq_1] at h
    refine Fr (Vb S Et rfl rfl rfl fun a S=>Ld ?_)
    replace S:=S.k5 1 12 13 14 15 rfl
    exact Tn (Fs (wp_cond_false ((S.tm rfl).trans (congrArg Value.bool (Il hd1 hi1))) (wp_exit (Ed (Ed (Gp (Tn (⟨h,S.nf [true] rfl ⟨rfl,trivial⟩⟩))))))))
   | cons y1 ys1 =>
    rw [Lu.eq_2] at h
    refine Fr (Vb S Et rfl rfl rfl fun a S=>Ld ?_)
    replace S:=S.k5 1 12 13 14 15 rfl
    refine Tn (Fs (wp_cond_true ((S.tm rfl).trans (congrArg Value.bool (Ht hd1 hi1))) (wp_skip (Tn (Fs (wp_block (Fr (Vm S rfl rfl ?_))))))));clear S;intro a S
    obtain ⟨b2,o1,hm1,hr1⟩:=Ev (a:=a) (x:=.tmp 12) (y:=.tmp 14) (ty:=0) Un hs1 (Io hd1 hi1) rfl (S.tm rfl) (S.tm rfl)
    refine lv S (hr1 _) rfl ?_;clear S;intro a S
    clear hr1
    refine lv S (Fp isAgg42 sizeOf42 (off:=o1) (o:=0) (part:=(Dy.enc y1)) rfl rfl (S.tm rfl) (hm1.at S.emb0)) rfl fun a S=>Hs S zeroValue42 (cs:=[sV An,iV 0,iV 0,iV 0,iV 0,iV 0,iV 0,iV 0]) rfl rfl ?_;clear S;intro a w4 b3 hz2 hk2 S
    refine Va S rfl rfl fun a S=>Ex S (S.tm rfl) (S.tm rfl) (i:=0) (off:=0) rfl sizeOf42 (vs:=(Dy.enc y1)) rfl rfl rfl rfl ?_;clear S;intro w5 hk3 S
    refine Dl (Fs (Fr (lv S (Fp isAgg42 sizeOf42 (off:=0) (o:=0) (part:=(Dy.enc y1)) rfl rfl (S.tm rfl) (S.cellsAt (i:=0) rfl)) rfl ?_)));clear S;intro a S
    obtain ⟨r1,hr2,h⟩:=Fa h
    refine Dw S (fun _=>Dp (vs:=[.agg (Dy.enc y1).toArray]) ⟨(S.tm rfl),trivial⟩ call74) (CV _ y1 _ hr2) rfl ?_;clear S;intro v1 a w6 hv1 hk4 hn1 S
    subst hv1
    refine Va S rfl rfl fun a S=>Dz (Vm S rfl rfl fun a S=>Vq S Kw rfl rfl rfl fun a S=>Ld ?_)
    replace S:=(S.nl [.blk b3 (Dy.enc y1) 42,.blk b1 [u1.val,u3.val,iV Ad.Table.Relay,iV Ad.Table.Most,iV Ad.Final.Size,iV Ad.Final.Many,iV Ad.Final.Reserves] 32] [true,true] rfl).k8 1 3 4 5 12 13 14 22 rfl
    refine Tn (Fc h (S.tm rfl) (fun hb2 h=>?_) (fun hb2 h=>?_))
    ·refine Fr (Vm S rfl rfl fun a S=>Va S rfl rfl fun a S=>Dl (wp_ret (Dt (Fl (Dt (Dt ?_))))))
     refine Fl (Dt (Dt ?_))
     obtain rfl:=Option.some.inj h
     exact Ej S results42 rfl rfl
    ·refine wp_skip (Tn (Fr (Vf Xo S rfl rfl fun a S=>Vl isAgg26 1 S rfl rfl rfl rfl fun a S=>Vm S rfl rfl ?_)));clear S;intro a S
     obtain ⟨hc1,h⟩:=Ie h
     obtain ⟨v2,hs3,hr3⟩:=MT (a:=a) (x:=.tmp 25) (y':=.tmp 26) (ty:=26) Un hs1 (S.tm rfl) (S.tm rfl) hc1
     refine lv S (hr3 _) rfl ?_;clear S;intro a S
     clear hr3
     refine lv S (Tg (us:=#[]) (xs:=[].toArray) (ys:=[.tmp 4].toArray) (by simp) (evA ⟨(S.tm rfl),trivial⟩ (vs:=[.pointer (some ⟨b3,0,none⟩)]))) rfl fun a S=>Dw S (fun _=>Dp (vs:=[v2,.func (.func 76) #[] #[.pointer (some ⟨b3,0,none⟩)]]) ⟨(S.tm rfl),(S.tm rfl),trivial⟩ call75) (Rq _ v2 (cut Ad.Races 0 (i1 : Int)) (hs3.mono (S.le_arg Ec)) b3 y1 (S.blk_view (i:=0) rfl ((Ia (e':=.blk b3 (Dy.enc y1) 42)) _ rfl)) _ rfl) rfl ?_;clear S;intro v3 a w7 hv2 hk5 hn2 S
     subst hv2
     refine Dl (Fc h (S.tm rfl) (fun hb3 h=>?_) (fun hb3 h=>?_))
     ·refine Fr (Vk S rfl rfl fun a S=>Ld ?_)
      replace S:=S.n0.k1 2 rfl
      refine Tn (wp_ret (Fl (Dt (Dt (Fl (Dt (Dt ?_)))))))
      obtain rfl:=Option.some.inj h
      exact Ej S results42 rfl rfl
     ·refine wp_skip (Ho (Tn (Fg (Vq S Gc rfl rfl rfl fun a S=>Vm S rfl rfl fun a S=>Ld ?_))))
      replace S:=S.d0.k4 1 12 13 14 rfl
      exact Tn (⟨ys1,⟨i1 + 1,⟨_,(hd1).trans (List.append_cons _ _ _),by simp [hi1]⟩,h,S.nf [true] rfl ⟨rfl,rfl,rfl,(congrArg (fun z=>some (Value.int .i64 z)) (Hu hd1 hi1 (Iz hs1))),trivial⟩⟩,Nat.lt_succ_self _⟩)
  clear S h;rintro a w3 ⟨h,S⟩;rw [hj1] at h;clear hj1 j1
  refine Tn (Fs (Fr (Vf QK S rfl rfl fun a S=>lv S (Fp isAgg28 sizeOf28 (off:=0) (o:=1) (part:=[u3.val,iV Ad.Table.Relay,iV Ad.Table.Most]) rfl rfl (S.tm rfl) (S.cellsAt (i:=0) rfl)) rfl ?_)));clear S;intro a S
  obtain ⟨r2,hr4,h⟩:=Fa h
  refine Dw S (fun _=>Dp (vs:=[.agg (R28.enc (R28.mk u3 Ad.Table.Relay Ad.Table.Most)).toArray]) ⟨(S.tm rfl),trivial⟩ call77) (Xd _ Ad.Table (R28.mk u3 Ad.Table.Relay Ad.Table.Most) ⟨u3,rfl,(hs2.mono (S.le_arg Ec))⟩ _ hr4) rfl ?_;clear S;intro v4 a w8 hv3 hk6 hn3 S
  subst hv3
  refine Va S rfl rfl fun a S=>Dz (Vm S rfl rfl fun a S=>Vq S Kw rfl rfl rfl fun a S=>Dl (Fc h (S.tm rfl) (fun hb4 h=>?_) (fun hb4 h=>?_)))
  ·refine Fr (Vm S rfl rfl fun a S=>Va S rfl rfl fun a S=>Dl (wp_ret (Dt ?_)))
   obtain rfl:=Option.some.inj h
   exact Ej S results42 rfl rfl
  ·refine wp_skip (Tn (Fr (Vf fa_32_2 S rfl rfl fun a S=>lv S (Fp isAgg30 sizeOf30 (off:=0) (o:=4) (part:=(Sy.enc Ad.Final)) rfl rfl (S.tm rfl) (S.cellsAt (i:=0) rfl)) rfl fun a S=>Dw S (fun _=>Dp (vs:=[.agg (Sy.enc Ad.Final).toArray]) ⟨(S.tm rfl),trivial⟩ call78) (DU _ Ad.Final _ rfl) rfl ?_)));clear S;intro v5 a w9 hv4 hk7 hn4 S
   subst hv4
   refine Va S rfl rfl fun a S=>Dl (wp_ret ?_)
   obtain rfl:=Option.some.inj h
   exact Ej S results42 rfl rfl
theorem Td (w : World) (Ba : Int) (r : Bool) (h : Hz Ba = r) :
    Calls prog 44 [iV Ba].toArray w (Ret w [] fun _ v _=>v = bV r):=by
 refine Fe func44 rfl ntmps44 rfl fun a S=>?_
 unfold Hz at h
 replace S:=S.k1 0 rfl
 refine Fr (Vk S rfl rfl fun a S=>Dz (Vm S rfl rfl fun a S=>Vq S Qe rfl rfl rfl fun a S=>Vm S rfl rfl fun a S=>Hn 3 (fun a w'=>Keep [] w w' ∧ Sx w [] nov [] [(8,bV ((decide (0 ≤ Ba)) && (decide (Ba < 345686400000))))] 9 a w') ?_ ?_))
 ·rcases Bool.eq_false_or_eq_true (decide (0 ≤ Ba)) with hb1 | hb1
  ·exact Du S rfl rfl rfl hb1 (Vm S rfl rfl fun a S=>Du S rfl rfl rfl hb1 (Vq S Et rfl rfl rfl fun a S=>lv S (Hg hb1 (S.tm rfl) (S.tm rfl)) rfl fun a S=>Dl (⟨Keep.refl _ _,S.nf [] rfl ⟨rfl,trivial⟩⟩)))
  ·exact Gn S rfl rfl rfl (Jh hb1) rfl (fun a S=>Gn S rfl rfl rfl (Jh hb1) rfl (fun a S=>lv S (Hh (decide (Ba < 345686400000)) hb1 (S.tm rfl) rfl) rfl fun a S=>Dl (⟨Keep.refl _ _,S.nf [] rfl ⟨rfl,trivial⟩⟩)) rfl) rfl
 clear S;rintro a w1 ⟨hk1,S⟩
 refine Va S rfl rfl fun a S=>Dl (wp_ret ?_)
 subst h
 exact Ej S results44 rfl rfl
end Go.Proofs.YtfcmmengcdebnaaGreatDoor
