/- Each Go function computes its plain twin,by program. -/
import Derived.Test.YtombbefepcipcaaGreatDoorTab
import Derived.Test.YtombbefepcipcaaGreatDoorLay
import Derived.Test.YtombbefepcipcaaGreatDoorGrow
namespace Go.Proofs.YtombbefepcipcaaGreatDoor
open Go
open Go.Proofs.Tryz
theorem Pz (w : World) (Av : Int) (Bo : Int) (r : Int) (h : Lw Av Bo = some r) :
    Calls prog 39 [iV Av,iV Bo].toArray w (Ret w [] fun _ v _=>v = iV r):=by
 refine Fe func39 rfl ntmps39 rfl fun a S=>?_
 unfold Lw at h
 replace S:=S.k2 0 1 rfl
 refine Fr (Vk S rfl rfl fun a S=>Dl (Fs (Fr (Vm S rfl rfl fun a S=>Vq S Fu rfl rfl rfl fun a S=>Ld ?_))))
 refine Tn (Fc h (S.tm rfl) (fun hb1 h=>?_) (fun hb1 h=>?_))
 ·refine Fr (Vk S rfl rfl fun a S=>Dl (wp_ret (Ee ?_)))
  obtain rfl:=Option.some.inj h
  exact Fz S results39 rfl rfl
 ·refine wp_skip (Tn (Fr (Vm S rfl rfl fun a S=>Vm S rfl rfl ?_)));clear S;intro a S
  obtain ⟨hc1,h⟩:=Hs h
  refine lv S (Za (S.tm rfl) (S.tm rfl) (Vi hc1)) rfl fun a S=>Va S rfl rfl fun a S=>Dl (Fs (Fr (Vm S rfl rfl fun a S=>Vq S Fu rfl rfl rfl fun a S=>Dl ?_)))
  obtain ⟨j1,hj1,h⟩:=Gh h
  refine Fv (fun a w'=>∃ x1 : Int,j1 x1 = some r ∧ Sx w [] nov [] [(0,iV x1)] 16 a w') ?_ ?_
  ·refine Fc h (S.tm rfl) (fun hb2 h=>?_) (fun hb2 h=>?_)
   ·exact Fg (Vm S rfl rfl fun a S=>Vm S rfl rfl fun a S=>Vb S Gf rfl rfl rfl fun a S=>Va S rfl rfl fun a S=>Dl (⟨W ((Int.tmod Av Bo) + Bo),h,S.nf [] rfl ⟨rfl,trivial⟩⟩))
   ·exact wp_skip (Tn (⟨Int.tmod Av Bo,h,S.nf [] rfl ⟨rfl,trivial⟩⟩))
  clear S h;rintro a w1 ⟨x1,h,S⟩;rw [hj1] at h;clear hj1 j1
  refine Tn (Fr (Vm S rfl rfl fun a S=>Va S rfl rfl fun a S=>Dl (wp_ret ?_)))
  obtain rfl:=Option.some.inj h
  exact Fz S results39 rfl rfl
set_option maxRecDepth 20000 in
theorem Qa (w : World) (Ac : Nat) (Af : Value) (Bj : List Int) (Bl : Slc (view w [Ac]) 1 Af (Bj.map eInt)) (Aw : Int) (Bw : (LEnt.blk Ac [Af,iV Aw] 25).holds w) (Bo : Int) (r : Int × Int) (h : Mc Bj Aw Bo = some r) :
    Calls prog 18 [.pointer (some ⟨Ac,0,none⟩),iV Bo].toArray w (Ret w [Ac] fun _ v w'=>(LEnt.blk Ac [Af,iV r.2] 25).holds w' ∧ v = iV r.1):=by
 refine Kz [Ac] [.blk Ac [Af,iV Aw] 25] func18 rfl ntmps18 rfl (fun e he=>by simp only [List.mem_singleton] at he;subst he;exact Bw) (by simp [fps,LEnt.fp]) (by simp [fps,LEnt.fp]) fun a S=>?_
 unfold Mc at h
 replace S:=(S.nl [.blk Ac [Af,iV Aw] 25] [true] rfl).k2 0 1 rfl
 refine Fr (Vk S rfl rfl fun a S=>Dz (Vm S rfl rfl fun a S=>Vu S Ft rfl rfl fun a S=>Vf Wi S rfl rfl fun a S=>Vl isAgg3 0 S rfl rfl rfl rfl ?_));clear S;intro a S
 refine Vq S Gf rfl rfl rfl fun a S=>Vu S Ft rfl rfl fun a S=>Vf Wi S rfl rfl fun a S=>Kq S (S.tm rfl) (S.tm rfl) (i:=0) (off:=1) rfl sizeOf3 (vs:=[iV (W (Aw + 1))]) rfl rfl rfl rfl ?_;clear S;intro w1 hk1 S
 refine Dl (Fs (Fr (Vm S rfl rfl fun a S=>Vu S Ft rfl rfl fun a S=>Vf Yk S rfl rfl fun a S=>Vl isAgg22 0 S rfl rfl rfl rfl fun a S=>lv S (Gc Js (S.tm rfl) (Dy Bl)) rfl fun a S=>Vq S Ko rfl rfl rfl ?_)));clear S;intro a S
 refine Ld ?_
 replace S:=(S.nl [.blk Ac [Af,iV (W (Aw + 1))] 25] [true] rfl).k3 0 1 19 rfl
 refine Tn (Fc h (S.tm rfl) (fun hb1 h=>?_) (fun hb1 h=>?_))
 ·refine Fr (Vm S rfl rfl fun a S=>Vu S Ft rfl rfl fun a S=>Vf Wi S rfl rfl fun a S=>Vl isAgg3 0 S rfl rfl rfl rfl fun a S=>Vq S Yz rfl rfl rfl fun a S=>Vm S rfl rfl ?_);clear S;intro a S
  obtain ⟨r1,hr1,h⟩:=Gs h
  refine Eg S (fun _=>Eb (vs:=[iV (W ((W (Aw + 1)) * 7919)),iV Bo]) ⟨(S.tm rfl),(S.tm rfl),trivial⟩ call39) (Pz _ (W ((W (Aw + 1)) * 7919)) Bo _ hr1) rfl ?_;clear S;intro v1 a w2 hv1 hk2 hn1 S
  subst hv1
  refine Va S rfl rfl fun a S=>Dl (wp_ret (Ee ?_))
  obtain rfl:=Option.some.inj h
  exact Fz S results18 rfl ⟨(S.holds _ (List.mem_of_getElem? (i:=0) rfl)),rfl⟩
 ·refine wp_skip (Tn (Fs (Gz [] ([]) Tryz.mixed S rfl (by kernel_rfl) ?_)));clear S;intro w3 hk3 hsel S
  refine Jy [0,1,2,3,4,5,6,7,8,9,10,11] hsel (by kernel_rfl) rfl ?_
  clear hsel
  refine Gb S rfl (Rm (S.tm rfl)) rfl fun a S=>Gb S rfl (Ft (S.tm rfl)) rfl fun a S=>Gb S rfl (Gi Wi (S.tm rfl)) rfl fun a S=>Gb S rfl (Ky isAgg3 (S.tm rfl) (S.cell (i:=0) rfl rfl)) rfl fun a S=>Gb S rfl (Iw (S.tm rfl) rfl) rfl fun a S=>Gb S rfl (Rm (S.tm rfl)) rfl fun a S=>Gb S rfl (Ft (S.tm rfl)) rfl fun a S=>Gb S rfl (Gi Yk (S.tm rfl)) rfl fun a S=>Gb S rfl (Ky isAgg22 (S.tm rfl) (S.cell (i:=0) rfl rfl)) rfl fun a S=>Gb S rfl (Gc Js (S.tm rfl) (Dy Bl)) rfl ?_;clear S;intro a S
  obtain ⟨hc1,h⟩:=Hs h
  refine Gb S rfl (Za (S.tm rfl) (S.tm rfl) (Vi hc1)) rfl fun a S=>Gb S rfl (Ra (S.tm rfl)) rfl fun a S=>Ix ?_
  replace S:=S.k3 0 1 5 rfl
  refine Tn (Fs (Gz [] ([]) Tryz.mixed S rfl (by kernel_rfl) ?_));clear S;intro w4 hk4 hsel S
  refine Jy [0,1,2,3,4,5,6,7,8,9,10,11] hsel (by kernel_rfl) rfl ?_
  clear hsel
  refine Gb S rfl (Rm (S.tm rfl)) rfl fun a S=>Gb S rfl (Ft (S.tm rfl)) rfl fun a S=>Gb S rfl (Gi Wi (S.tm rfl)) rfl fun a S=>Gb S rfl (Ky isAgg3 (S.tm rfl) (S.cell (i:=0) rfl rfl)) rfl fun a S=>Gb S rfl (Iw (S.tm rfl) rfl) rfl fun a S=>Gb S rfl (Rm (S.tm rfl)) rfl fun a S=>Gb S rfl (Ft (S.tm rfl)) rfl fun a S=>Gb S rfl (Gi Yk (S.tm rfl)) rfl fun a S=>Gb S rfl (Ky isAgg22 (S.tm rfl) (S.cell (i:=0) rfl rfl)) rfl fun a S=>Gb S rfl (Gc Js (S.tm rfl) (Dy Bl)) rfl ?_;clear S;intro a S
  obtain ⟨hc2,h⟩:=Hs h
  refine Gb S rfl (rn_quo (S.tm rfl) (S.tm rfl) (Vi hc2)) rfl fun a S=>Gb S rfl (Ra (S.tm rfl)) rfl fun a S=>Ix ?_
  replace S:=S.k4 0 1 5 6 rfl
  refine Tn (Fr (Vm S rfl rfl fun a S=>Vu S Ft rfl rfl fun a S=>Vf Yk S rfl rfl fun a S=>Vl isAgg22 0 S rfl rfl rfl rfl fun a S=>Vm S rfl rfl ?_));clear S;intro a S
  obtain ⟨hc3,h⟩:=Hs h
  obtain ⟨b1,o1,hm1,hr2⟩:=Fo (a:=a) (x:=.tmp 52) (y:=.tmp 53) (ty:=0) Js Bl (Ef hc3).1 (Ef hc3).2 (S.tm rfl) (S.tm rfl)
  refine lv S (hr2 _) rfl ?_;clear S;intro a S
  clear hr2
  refine lv S (Ha isAgg3 (off:=o1) (o:=0) (S.tm rfl) (hm1.at S.emb0) rfl) rfl ?_;clear S;intro a S
  obtain ⟨r2,hr3,h⟩:=Gs h
  refine Eg S (fun _=>Eb (vs:=[iV (nth Bj (Int.tmod (W ((W (Aw + 1)) - 1)) (Bj.length : Int))),iV 1073741824]) ⟨(S.tm rfl),rfl,trivial⟩ call39) (Pz _ (nth Bj (Int.tmod (W ((W (Aw + 1)) - 1)) (Bj.length : Int))) 1073741824 _ hr3) rfl ?_;clear S;intro v2 a w5 hv2 hk5 hn2 S
  subst hv2
  refine Vm S rfl rfl fun a S=>Vm S rfl rfl fun a S=>Vu S (Gf rfl) rfl rfl fun a S=>Vb S Yz rfl rfl rfl fun a S=>Vb S Gf rfl rfl rfl fun a S=>Vm S rfl rfl ?_;clear S;intro a S
  obtain ⟨r3,hr4,h⟩:=Gs h
  refine Eg S (fun _=>Eb (vs:=[iV (W (r2 + (W ((W (Int.tdiv (W ((W (Aw + 1)) - 1)) (Bj.length : Int))) * (W (7919 + (Int.tmod (W ((W (Aw + 1)) - 1)) (Bj.length : Int)))))))),iV Bo]) ⟨(S.tm rfl),(S.tm rfl),trivial⟩ call39) (Pz _ (W (r2 + (W ((W (Int.tdiv (W ((W (Aw + 1)) - 1)) (Bj.length : Int))) * (W (7919 + (Int.tmod (W ((W (Aw + 1)) - 1)) (Bj.length : Int)))))))) Bo _ hr4) rfl ?_;clear S;intro v3 a w6 hv3 hk6 hn3 S
  subst hv3
  refine Va S rfl rfl fun a S=>Ld ?_
  replace S:=S.k1 4 rfl
  refine Tn (wp_ret ?_)
  obtain rfl:=Option.some.inj h
  exact Fz S results18 rfl ⟨(S.holds _ (List.mem_of_getElem? (i:=0) rfl)),rfl⟩
theorem Ub (w : World) (Ac : Nat) (Af : Value) (Bj : List Int) (Bl : Slc (view w [Ac]) 1 Af (Bj.map eInt)) (Aw : Int) (Bw : (LEnt.blk Ac [Af,iV Aw] 25).holds w) (Bo : Int) (r : Bool × Int) (h : Of Bj Aw Bo = some r) :
    Calls prog 13 [.pointer (some ⟨Ac,0,none⟩),iV Bo].toArray w (Ret w [Ac] fun _ v w'=>(LEnt.blk Ac [Af,iV r.2] 25).holds w' ∧ v = bV r.1):=by
 refine Kz [Ac] [.blk Ac [Af,iV Aw] 25] func13 rfl ntmps13 rfl (fun e he=>by simp only [List.mem_singleton] at he;subst he;exact Bw) (by simp [fps,LEnt.fp]) (by simp [fps,LEnt.fp]) fun a S=>?_
 unfold Of at h
 replace S:=(S.nl [.blk Ac [Af,iV Aw] 25] [true] rfl).k2 0 1 rfl
 refine Fr (Vk S rfl rfl fun a S=>Dz (Vm S rfl rfl fun a S=>Vm S rfl rfl ?_));clear S;intro a S
 obtain ⟨r1,hr1,h⟩:=Gs h
 refine Lu 0 S (b:=Ac) rfl rfl (fun _=>.blk Ac [Af,iV r1.2] 25) (fun _=>Eb (vs:=[.pointer (some ⟨Ac,0,none⟩),iV Bo]) ⟨(S.tm rfl),(S.tm rfl),trivial⟩ call18) (Qa _ Ac Af Bj (Bl.mono (S.le_arg (Er (i:=0) (e:=.blk Ac [Af,iV Aw] 25) rfl))) Aw (S.holds _ (List.mem_of_getElem? (i:=0) rfl)) Bo _ hr1) rfl (fun _ _ _ h=>⟨h.1,fun _ hc=>by cases hc;rfl⟩) ?_;clear S;intro v1 a w1 hv1 hk1 hn1 S
 replace hv1:=hv1.2
 subst hv1
 refine Vq S Ko rfl rfl rfl fun a S=>Va S rfl rfl fun a S=>Dl (wp_ret ?_)
 obtain rfl:=Option.some.inj h
 exact Fz S results13 rfl ⟨(S.holds _ (List.mem_of_getElem? (i:=0) rfl)),rfl⟩
theorem Qb (w : World) (Ac : Nat) (Af : Value) (Bj : List Int) (Bl : Slc (view w [Ac]) 1 Af (Bj.map eInt)) (Aw : Int) (Bw : (LEnt.blk Ac [Af,iV Aw] 25).holds w) (Ad : Value) (Ao : List Int) (Am : Slc (view w [Ac]) 1 Ad (Ao.map eInt)) (r : Int × Int) (h : Md Bj Aw Ao = some r) :
    Calls prog 14 [.pointer (some ⟨Ac,0,none⟩),Ad].toArray w (Ret w [Ac] fun _ v w'=>(LEnt.blk Ac [Af,iV r.2] 25).holds w' ∧ v = iV r.1):=by
 refine Kz [Ac] [.blk Ac [Af,iV Aw] 25] func14 rfl ntmps14 rfl (fun e he=>by simp only [List.mem_singleton] at he;subst he;exact Bw) (by simp [fps,LEnt.fp]) (by simp [fps,LEnt.fp]) fun a S=>?_
 unfold Md at h
 replace S:=(S.nl [.blk Ac [Af,iV Aw] 25] [true] rfl).k2 0 1 rfl
 refine Fr (Vk S rfl rfl fun a S=>Dl (Fs (Fg ?_)))
 iterate 3 (refine Vm S rfl rfl ?_;clear S;intro a S)
 refine lv S (Gc Js (S.tm rfl) (Dy Am)) rfl ?_;clear S;intro a S
 obtain ⟨r1,hr1,h⟩:=Gs h
 refine Lu 0 S (b:=Ac) rfl rfl (fun _=>.blk Ac [Af,iV r1.2] 25) (fun _=>Eb (vs:=[.pointer (some ⟨Ac,0,none⟩),iV (Ao.length : Int)]) ⟨(S.tm rfl),(S.tm rfl),trivial⟩ call18) (Qa _ Ac Af Bj (Bl.mono (S.le_arg (Er (i:=0) (e:=.blk Ac [Af,iV Aw] 25) rfl))) Aw (S.holds _ (List.mem_of_getElem? (i:=0) rfl)) (Ao.length : Int) _ hr1) rfl (fun _ _ _ h=>⟨h.1,fun _ hc=>by cases hc;rfl⟩) ?_;clear S;intro v1 a w1 hv1 hk1 hn1 S
 replace hv1:=hv1.2
 subst hv1
 obtain ⟨hc1,h⟩:=Hs h
 obtain ⟨b1,o1,hm1,hr2⟩:=Fo (a:=a) (x:=.tmp 5) (y:=.tmp 9) (ty:=0) Js Am (Ef hc1).1 (Ef hc1).2 (S.tm rfl) (S.tm rfl)
 refine lv S (hr2 _) rfl ?_;clear S;intro a S
 clear hr2
 refine lv S (Ha isAgg3 (off:=o1) (o:=0) (S.tm rfl) (hm1.at S.emb0) rfl) rfl fun a S=>Va S rfl rfl fun a S=>Dl (wp_ret ?_)
 obtain rfl:=Option.some.inj h
 exact Fz S results14 rfl ⟨(S.holds _ (List.mem_of_getElem? (i:=0) rfl)),rfl⟩
theorem Uc (w : World) (Ac : Nat) (Af : Value) (Bj : List Int) (Bl : Slc (view w [Ac]) 1 Af (Bj.map eInt)) (Aw : Int) (Bw : (LEnt.blk Ac [Af,iV Aw] 25).holds w) (Cg : Int) (r : (List An) × Int) (h : Me Bj Aw Cg = some r) :
    Calls prog 4 [.pointer (some ⟨Ac,0,none⟩),iV Cg].toArray w (Ret w [Ac] fun τ v w'=>(LEnt.blk Ac [Af,iV r.2] 25).holds w' ∧ Oa τ 43 5 v r.1.length (r.1.flatMap An.enc)):=by
 refine Kz [Ac] [.blk Ac [Af,iV Aw] 25] func4 rfl ntmps4 rfl (fun e he=>by simp only [List.mem_singleton] at he;subst he;exact Bw) (by simp [fps,LEnt.fp]) (by simp [fps,LEnt.fp]) fun a S=>?_
 unfold Me at h
 replace S:=(S.nl [.blk Ac [Af,iV Aw] 25] [true] rfl).k2 0 1 rfl
 refine Fr (Vk S rfl rfl fun a S=>Dz (Vk S rfl rfl ?_));clear S;intro a S
 replace S:=S.nil 43 5
 refine Dl (Fs (Fr (Ff S underlying31 sizeOf9 zeroValue9 rfl rfl (pv:=[(0,sV Tv),(1,sV Tw),(2,sV Tx),(3,sV Ty),(4,sV Vn)]) ⟨rfl,rfl,rfl,rfl,rfl,rfl,rfl,rfl,rfl,rfl,trivial⟩ (cs:=[sV Tv,sV Tw,sV Tx,sV Ty,sV Vn]) (by kernel_rfl) rfl ?_)));clear S;intro a w1 b1 hz1 hk1 S
 refine Vm S rfl rfl ?_;clear S;intro a S
 replace S:=S.litOwn (i:=0) (xs:=[Tv,Tw,Tx,Ty,Vn]) rfl Pt rfl rfl rfl
 replace S:=S.nk [.own (.slice (some ⟨b1,0,none⟩) 5 5) 9 1 ([Tv,Tw,Tx,Ty,Vn] : List ByteArray).length (([Tv,Tw,Tx,Ty,Vn] : List ByteArray).flatMap Qi),.own (.slice none 0 0) 43 5 ([] : List An).length (([] : List An).flatMap An.enc),.blk Ac [Af,iV Aw] 25] [(0,.pointer (some ⟨Ac,0,none⟩)),(1,iV Cg),(4,.slice none 0 0),(5,(.slice none 0 0)),(8,(.slice (some ⟨b1,0,none⟩) 5 5)),(9,iV Cg)] [] rfl (subR rfl)
 obtain ⟨φ1,hl1,hs1,S⟩:=S.freezeT (xs:=([Tv,Tw,Tx,Ty,Vn] : List ByteArray)) (enc:=Qi) (i:=0) rfl (fun c hc hh=>Um S (i:=2) rfl rfl (j:=0) rfl rfl (by simp at hc;subst hc;exact hh))
 replace S:=S.nk [.own (.slice none 0 0) 43 5 ([] : List An).length (([] : List An).flatMap An.enc),.blk Ac [Af,iV Aw] 25] [(0,.pointer (some ⟨Ac,0,none⟩)),(1,iV Cg),(4,.slice none 0 0),(5,(.slice none 0 0)),(8,(.slice (some ⟨b1,0,none⟩) 5 5)),(9,iV Cg)] [] rfl (subR rfl)
 obtain ⟨hc1,h⟩:=Hs h
 obtain ⟨v1,hs2,hr1⟩:=Ze (a:=a) (x:=.tmp 8) (y':=.tmp 9) (ty:=31) Pn (Fw Pt hs1) (S.tm rfl) (S.tm rfl) hc1
 refine lv S (hr1 _) rfl ?_;clear S;intro a S
 clear hr1
 refine lv S (Gc Pn (S.tm rfl) (Dy hs2)) rfl fun a S=>lv S (Rm rfl) rfl fun a S=>Dl ?_
 replace S:=(S.nl [.own (.slice none 0 0) 43 5 ([] : List An).length (([] : List An).flatMap An.enc),.blk Ac [Af,iV Aw] 25] [true,true] rfl).k5 0 5 10 11 12 rfl
 obtain ⟨j1,hj1,h⟩:=Gh h
 refine Fv (fun a w'=>∃ x1 : List An,∃ x2 : Int,∃ v2 : Value,j1 x1 x2 = some r ∧ Sx w [Ac] φ1 [.own v2 43 5 x1.length (x1.flatMap An.enc),.blk Ac [Af,iV x2] 25] [(5,v2)] 38 a w') ?_ ?_
 ·refine wp_block (Hr (fun (ys1 : List ByteArray) a w'=>∃ i1 : Nat,∃ x1 : List An,∃ x2 : Int,∃ v2 : Value,(∃ dn,cut ([Tv,Tw,Tx,Ty,Vn] : List ByteArray) 0 Cg = dn ++ ys1 ∧ dn.length = i1) ∧ Ht Bj j1 ys1 i1 x1 x2 = some r ∧ Sx w [Ac] φ1 [.own v2 43 5 x1.length (x1.flatMap An.enc),.blk Ac [Af,iV x2] 25] [(0,.pointer (some ⟨Ac,0,none⟩)),(5,v2),(10,v1),(11,iV ((cut ([Tv,Tw,Tx,Ty,Vn] : List ByteArray) 0 Cg).length : Int)),(12,iV (i1 : Int))] 38 a w') List.length (cut ([Tv,Tw,Tx,Ty,Vn] : List ByteArray) 0 Cg) ⟨0,([] : List An),Aw,(.slice none 0 0),⟨[],rfl,rfl⟩,h,S.nf [true,true] rfl (subR rfl)⟩ ?_)
  clear S h;rintro ys1 a w2 ⟨i1,x1,x2,v2,⟨dn,hd1,hi1⟩,h,S⟩
  cases ys1 with
  | nil =>
   rw [Ht.eq_1] at h
   refine Fr (Vb S Fu rfl rfl rfl fun a S=>Ld ?_)
   replace S:=S.k6 0 5 10 11 12 13 rfl
   exact Tn (Fs (wp_cond_false ((S.tm rfl).trans (congrArg Value.bool (Jd hd1 hi1))) (wp_exit (Fj (Fj (Hp (Tn (⟨x1,x2,v2,h,S.nf [true,true] rfl ⟨rfl,trivial⟩⟩))))))))
  | cons y1 ys1 =>
   rw [Ht.eq_2] at h
   refine Fr (Vb S Fu rfl rfl rfl fun a S=>Ld ?_)
   replace S:=S.k6 0 5 10 11 12 13 rfl
   refine Tn (Fs (wp_cond_true ((S.tm rfl).trans (congrArg Value.bool (Hx hd1 hi1))) (wp_skip (Tn (Fs ?_)))))
   obtain ⟨j2,hj2,h⟩:=Gh h
   refine Fv (fun a w'=>∃ x3 : List An,∃ x4 : Int,∃ v3 : Value,j2 x3 x4 = some r ∧ Sx w [Ac] φ1 [.own v3 43 5 x3.length (x3.flatMap An.enc),.blk Ac [Af,iV x4] 25] [(0,.pointer (some ⟨Ac,0,none⟩)),(5,v3),(10,v1),(11,iV ((cut ([Tv,Tw,Tx,Ty,Vn] : List ByteArray) 0 Cg).length : Int)),(12,iV (i1 : Int))] 38 a w') ?_ ?_
   ·refine wp_block (Fs (Fg ?_))
    obtain ⟨b2,o1,hm1,hr2⟩:=Fo (a:=a) (x:=.tmp 10) (y:=.tmp 12) (ty:=0) Pn hs2 (Il hd1 hi1) rfl (S.tm rfl) (S.tm rfl)
    refine lv S (hr2 _) rfl ?_;clear S;intro a S
    clear hr2
    refine lv S (Ha isAgg9 (off:=o1) (o:=0) (S.tm rfl) (hm1.at S.emb) rfl) rfl fun a S=>Va S rfl rfl fun a S=>Dz (Vm S rfl rfl ?_);clear S;intro a S
    obtain ⟨r1,hr3,h⟩:=Gs h
    refine Lu 1 S (b:=Ac) rfl rfl (fun _=>.blk Ac [Af,iV r1.2] 25) (fun _=>Eb (vs:=[.pointer (some ⟨Ac,0,none⟩),iV 6]) ⟨(S.tm rfl),rfl,trivial⟩ call13) (Ub _ Ac Af Bj (Bl.mono (S.le_arg (Er (i:=1) (e:=.blk Ac [Af,iV x2] 25) rfl))) x2 (S.holds _ (List.mem_of_getElem? (i:=1) rfl)) 6 _ hr3) rfl (fun _ _ _ h=>⟨h.1,fun _ hc=>by cases hc;rfl⟩) ?_;clear S;intro v4 a w5 hv1 hk2 hn1 S
    replace hv1:=hv1.2
    subst hv1
    refine Vu S Ip rfl rfl fun a S=>Dl ?_
    obtain ⟨j3,hj3,h⟩:=Gh h
    refine Fv (fun a w'=>∃ x5 : List An,∃ x6 : Int,∃ v5 : Value,j3 x5 x6 = some r ∧ Sx w [Ac] φ1 [.own v5 43 5 x5.length (x5.flatMap An.enc),.blk Ac [Af,iV x6] 25] [(0,.pointer (some ⟨Ac,0,none⟩)),(5,v5),(10,v1),(11,iV ((cut ([Tv,Tw,Tx,Ty,Vn] : List ByteArray) 0 Cg).length : Int)),(12,iV (i1 : Int))] 38 a w') ?_ ?_
    ·refine Fc h (S.tm rfl) (fun hb1 h=>?_) (fun hb1 h=>?_)
     ·refine Fg ?_
      iterate 3 (refine Vm S rfl rfl ?_;clear S;intro a S)
      refine Ff S underlying22 sizeOf3 zeroValue3 rfl rfl (pv:=[(0,iV 1),(1,iV 1),(2,iV 2),(3,iV 3)]) ⟨rfl,rfl,rfl,rfl,rfl,rfl,rfl,rfl,trivial⟩ (cs:=[iV 1,iV 1,iV 2,iV 3]) (by kernel_rfl) rfl ?_;clear S;intro a w7 b3 hz2 hk3 S
      obtain ⟨r2,hr4,h⟩:=Gs h
      refine Lu 2 S (b:=Ac) rfl rfl (fun _=>.blk Ac [Af,iV r2.2] 25) (fun _=>Eb (vs:=[.pointer (some ⟨Ac,0,none⟩),.slice (some ⟨b3,0,none⟩) 4 4]) ⟨(S.tm rfl),(S.tm rfl),trivial⟩ call14) (Qb _ Ac Af Bj (Bl.mono (S.le_arg (Er (i:=2) (e:=.blk Ac [Af,iV r1.2] 25) rfl))) r1.2 (S.holds _ (List.mem_of_getElem? (i:=2) rfl)) (.slice (some ⟨b3,0,none⟩) 4 4) [1,1,2,3] (Ob Ge S (i:=0) rfl rfl rfl rfl ((Rw (i:=2) (j:=0) (e:=.blk Ac [Af,iV r1.2] 25) (e':=.blk b3 [iV 1,iV 1,iV 2,iV 3] 3) S rfl rfl rfl) _ rfl)) _ hr4) rfl (fun _ _ _ h=>⟨h.1,fun _ hc=>by cases hc;rfl⟩) ?_;clear S;intro v6 a w8 hv2 hk4 hn2 S
      replace hv2:=hv2.2
      subst hv2
      refine Vm S rfl rfl fun a S=>Ff S underlying22 sizeOf3 zeroValue3 rfl rfl (pv:=[(0,iV 50),(1,iV 100)]) ⟨rfl,rfl,rfl,rfl,trivial⟩ (cs:=[iV 50,iV 100]) (by kernel_rfl) rfl ?_;clear S;intro a w9 b4 hz3 hk5 S
      obtain ⟨r3,hr5,h⟩:=Gs h
      refine Lu 3 S (b:=Ac) rfl rfl (fun _=>.blk Ac [Af,iV r3.2] 25) (fun _=>Eb (vs:=[.pointer (some ⟨Ac,0,none⟩),.slice (some ⟨b4,0,none⟩) 2 2]) ⟨(S.tm rfl),(S.tm rfl),trivial⟩ call14) (Qb _ Ac Af Bj (Bl.mono (S.le_arg (Er (i:=3) (e:=.blk Ac [Af,iV r2.2] 25) rfl))) r2.2 (S.holds _ (List.mem_of_getElem? (i:=3) rfl)) (.slice (some ⟨b4,0,none⟩) 2 2) [50,100] (Ob Ge S (i:=0) rfl rfl rfl rfl ((Rw (i:=3) (j:=0) (e:=.blk Ac [Af,iV r2.2] 25) (e':=.blk b4 [iV 50,iV 100] 3) S rfl rfl rfl) _ rfl)) _ hr5) rfl (fun _ _ _ h=>⟨h.1,fun _ hc=>by cases hc;rfl⟩) ?_;clear S;intro v7 a w10 hv3 hk6 hn3 S
      replace hv3:=hv3.2
      subst hv3
      refine Vm S rfl rfl fun a S=>Ff S underlying22 sizeOf3 zeroValue3 rfl rfl (pv:=[(0,iV 0),(1,iV 10),(2,iV 60)]) ⟨rfl,rfl,rfl,rfl,rfl,rfl,trivial⟩ (cs:=[iV 0,iV 10,iV 60]) (by kernel_rfl) rfl ?_;clear S;intro a w11 b5 hz4 hk7 S
      obtain ⟨r4,hr6,h⟩:=Gs h
      refine Lu 4 S (b:=Ac) rfl rfl (fun _=>.blk Ac [Af,iV r4.2] 25) (fun _=>Eb (vs:=[.pointer (some ⟨Ac,0,none⟩),.slice (some ⟨b5,0,none⟩) 3 3]) ⟨(S.tm rfl),(S.tm rfl),trivial⟩ call14) (Qb _ Ac Af Bj (Bl.mono (S.le_arg (Er (i:=4) (e:=.blk Ac [Af,iV r3.2] 25) rfl))) r3.2 (S.holds _ (List.mem_of_getElem? (i:=4) rfl)) (.slice (some ⟨b5,0,none⟩) 3 3) [0,10,60] (Ob Ge S (i:=0) rfl rfl rfl rfl ((Rw (i:=4) (j:=0) (e:=.blk Ac [Af,iV r3.2] 25) (e':=.blk b5 [iV 0,iV 10,iV 60] 3) S rfl rfl rfl) _ rfl)) _ hr6) rfl (fun _ _ _ h=>⟨h.1,fun _ hc=>by cases hc;rfl⟩) ?_;clear S;intro v8 a w12 hv4 hk8 hn4 S
      replace hv4:=hv4.2
      subst hv4
      refine Vm S rfl rfl fun a S=>Ff S underlying22 sizeOf3 zeroValue3 rfl rfl (pv:=[(0,iV 0),(1,iV 20),(2,iV 50),(3,iV 200)]) ⟨rfl,rfl,rfl,rfl,rfl,rfl,rfl,rfl,trivial⟩ (cs:=[iV 0,iV 20,iV 50,iV 200]) (by kernel_rfl) rfl ?_;clear S;intro a w13 b6 hz5 hk9 S
      obtain ⟨r5,hr7,h⟩:=Gs h
      refine Lu 5 S (b:=Ac) rfl rfl (fun _=>.blk Ac [Af,iV r5.2] 25) (fun _=>Eb (vs:=[.pointer (some ⟨Ac,0,none⟩),.slice (some ⟨b6,0,none⟩) 4 4]) ⟨(S.tm rfl),(S.tm rfl),trivial⟩ call14) (Qb _ Ac Af Bj (Bl.mono (S.le_arg (Er (i:=5) (e:=.blk Ac [Af,iV r4.2] 25) rfl))) r4.2 (S.holds _ (List.mem_of_getElem? (i:=5) rfl)) (.slice (some ⟨b6,0,none⟩) 4 4) [0,20,50,200] (Ob Ge S (i:=0) rfl rfl rfl rfl ((Rw (i:=5) (j:=0) (e:=.blk Ac [Af,iV r4.2] 25) (e':=.blk b6 [iV 0,iV 20,iV 50,iV 200] 3) S rfl rfl rfl) _ rfl)) _ hr7) rfl (fun _ _ _ h=>⟨h.1,fun _ hc=>by cases hc;rfl⟩) ?_;clear S;intro v9 a w14 hv5 hk10 hn5 S
      replace hv5:=hv5.2
      subst hv5
      refine lv S (Pk bt_43 (pv:=[(0,sV y1),(1,iV r2.1),(2,iV r3.1),(3,iV r4.1),(4,iV r5.1)]) ⟨rfl,(S.tm rfl),rfl,(S.tm rfl),rfl,(S.tm rfl),rfl,(S.tm rfl),rfl,(S.tm rfl),trivial⟩ (cs:=[sV y1,iV r2.1,iV r3.1,iV r4.1,iV r5.1]) (by kernel_rfl)) rfl fun a S=>Ff S underlying26 sizeOf43 zeroValue43 rfl rfl (pv:=[(0,.agg #[sV y1,iV r2.1,iV r3.1,iV r4.1,iV r5.1])]) ⟨rfl,(S.tm rfl),trivial⟩ (cs:=[sV y1,iV r2.1,iV r3.1,iV r4.1,iV r5.1]) (by kernel_rfl) rfl ?_;clear S;intro a w15 b7 hz6 hk11 S
      obtain ⟨hc2,h⟩:=Hs h
      refine Nj Jr An.enc_ok S (S.tm rfl) (i:=5) rfl (S.tm rfl) (j:=0) rfl (ys:=[(An.mk y1 r2.1 r3.1 r4.1 r5.1)]) rfl rfl rfl rfl (by have:=Kl hc2;omega) rfl ?_;clear S;intro v10 a w16 hk12 S
      refine Va S rfl rfl fun a S=>Ld ?_
      replace S:=(S.nl [.own v10 43 5 (x1 ++ [(An.mk y1 r2.1 r3.1 r4.1 r5.1)]).length ((x1 ++ [(An.mk y1 r2.1 r3.1 r4.1 r5.1)]).flatMap An.enc),.blk Ac [Af,iV r5.2] 25] [false,false,false,false,false,true,true] rfl).k5 0 5 10 11 12 rfl
      exact Tn (⟨(x1 ++ [(An.mk y1 r2.1 r3.1 r4.1 r5.1)]),r5.2,v10,h,S.nf [true,true] rfl (subR rfl)⟩)
     ·exact wp_skip (Tn (⟨x1,r1.2,v2,h,S.nf [true,true] rfl (subR rfl)⟩))
    clear S h;rintro a w6 ⟨x5,x6,v5,h,S⟩;rw [hj3] at h;clear hj3 j3
    exact Ja (Tn (⟨x5,x6,v5,h,S.nf [true,true] rfl (subR rfl)⟩))
   clear S h;rintro a w4 ⟨x3,x4,v3,h,S⟩;rw [hj2] at h;clear hj2 j2
   exact Tn (Fg (Vq S Gf rfl rfl rfl fun a S=>Vm S rfl rfl fun a S=>Dl (⟨ys1,⟨i1 + 1,x3,x4,v3,⟨_,(hd1).trans (List.append_cons _ _ _),by simp [hi1]⟩,h,S.nf [true,true] rfl ⟨rfl,rfl,rfl,rfl,(congrArg (fun z=>some (Value.int .i64 z)) (Hy hd1 hi1 (Km hs2))),trivial⟩⟩,Nat.lt_succ_self _⟩)))
 clear S h;rintro a w3 ⟨x1,x2,v2,h,S⟩;rw [hj1] at h;clear hj1 j1
 refine Tn (Fr (Vm S rfl rfl fun a S=>Va S rfl rfl fun a S=>Dl (wp_ret ?_)))
 obtain rfl:=Option.some.inj h
 exact Fz S results4 rfl ⟨(S.holds _ (List.mem_of_getElem? (i:=1) rfl)),(Zd S (i:=0) rfl (fun c hc hh=>Um S (i:=1) rfl rfl (j:=0) rfl rfl (by simp at hc;subst hc;exact hh)))⟩
theorem Qw (w : World) (Bc : Value) (Ba : List An) (Bu : Slc (view w []) 5 Bc (Ba.map An.enc)) (r : (List An)) (h : Lb Ba = some r) :
    Calls prog 15 [Bc].toArray w (Ret w [] fun τ v _=>Oa τ 43 5 v r.length (r.flatMap An.enc)):=by
 refine Fe func15 rfl ntmps15 rfl fun a S=>?_
 unfold Lb at h
 replace S:=S.k1 0 rfl
 refine Fr (Vk S rfl rfl fun a S=>Dl (Fs (Fr (Vm S rfl rfl fun a S=>lv S (DQ underlying26 (Dy Bu) (S.tm rfl) rfl) rfl fun a S=>Ld ?_))))
 refine Tn (Wz (S.tm rfl) (fun hb1=>?_) (fun hb1=>?_))
 ·have hx1:=DP Bu hb1
  subst hx1
  replace h : some ([] : List An) = some r:=h
  refine Fr (Vk S rfl rfl fun a S=>Dl (wp_ret (Ee ?_)))
  obtain rfl:=Option.some.inj h
  exact Fz S results15 rfl (Kn _ _ _)
 ·refine wp_skip (Tn (Fr (Vd S underlying26 sizeOf43 rfl ?_)));clear S;intro a w1 b1 hz1 hk1 S
  refine Vm S rfl rfl ?_;clear S;intro a S
  replace S:=S.litOwn (i:=0) (xs:=([] : List An)) rfl An.enc_ok rfl rfl rfl
  replace S:=S.nk [.own (.slice (some ⟨b1,0,none⟩) 0 0) 43 5 (([] : List An) : List An).length ((([] : List An) : List An).flatMap An.enc)] [(0,Bc),(2,.slice none 0 0),(3,Bc),(4,bV (IL Bc)),(5,(.slice (some ⟨b1,0,none⟩) 0 0)),(6,Bc)] [] rfl (subR rfl)
  obtain ⟨hc1,h⟩:=Hs h
  refine Xb (Y:=[]) Jr An.enc_ok S (S.tm rfl) (i:=0) rfl (S.tm rfl) (Bu.mono (S.le_arg (fun _ h=>by cases h))) rfl rfl (by have:=Kl hc1;omega) rfl ?_;clear S;intro v1 a w2 hk2 S
  refine Va S rfl rfl fun a S=>Dl (wp_ret ?_)
  obtain rfl:=Option.some.inj h
  exact Fz S results15 rfl (Oy S (i:=0) rfl rfl)
set_option maxRecDepth 20000 in
theorem Zx (w : World) (Av : Int) (r : Int) (h : Vo Av = some r) :
    Calls prog 73 [.int .u32 Av].toArray w (Ret w [] fun _ v _=>v = iV r):=by
 refine Fe func73 rfl ntmps73 rfl fun a S=>?_
 unfold Vo at h
 replace S:=S.k1 0 rfl
 refine Fr (Vk S rfl rfl fun a S=>Dl (Fs (Fr (Vm S rfl rfl fun a S=>Vq S Ns rfl rfl rfl fun a S=>Ld ?_))))
 refine Tn ?_
 obtain ⟨j1,hj1,h⟩:=Gh h
 refine Fv (fun a w'=>∃ x1 : Int,∃ x2 : Int,j1 x1 x2 = some r ∧ Sx w [] nov [] [(0,.int .u32 x1),(2,iV x2)] 19 a w') ?_ ?_
 ·refine Fc h (S.tm rfl) (fun hb1 h=>?_) (fun hb1 h=>?_)
  ·refine Fr (Vm S rfl rfl fun a S=>lv S (Ps (S.tm rfl) rfl (by decide)) rfl fun a S=>Va S rfl rfl fun a S=>Dl (Fg (Vk S rfl rfl fun a S=>Dl ?_)))
   exact ⟨Fl .u32 Av 16,16,h,S.nf [] rfl (subR rfl)⟩
  ·exact wp_skip (Tn (⟨Av,0,h,S.nf [] rfl (subR rfl)⟩))
 clear S h;rintro a w1 ⟨x1,x2,h,S⟩;rw [hj1] at h;clear hj1 j1
 refine Tn (Fs (Fr (Vm S rfl rfl fun a S=>Vq S Ns rfl rfl rfl fun a S=>Dl ?_)))
 obtain ⟨j2,hj2,h⟩:=Gh h
 refine Fv (fun a w'=>∃ x3 : Int,∃ x4 : Int,j2 x3 x4 = some r ∧ Sx w [] nov [] [(0,.int .u32 x3),(2,iV x4)] 19 a w') ?_ ?_
 ·refine Fc h (S.tm rfl) (fun hb2 h=>?_) (fun hb2 h=>?_)
  ·refine Fr (Vm S rfl rfl fun a S=>lv S (Ps (S.tm rfl) rfl (by decide)) rfl fun a S=>Va S rfl rfl fun a S=>Dl (Fg (Vm S rfl rfl fun a S=>Vq S Gf rfl rfl rfl fun a S=>Va S rfl rfl ?_)));clear S;intro a S
   exact Dl (⟨Fl .u32 x1 8,W (x2 + 8),h,S.nf [] rfl (subR rfl)⟩)
  ·exact wp_skip (Tn (⟨x1,x2,h,S.nf [] rfl (subR rfl)⟩))
 clear S h;rintro a w2 ⟨x3,x4,h,S⟩;rw [hj2] at h;clear hj2 j2
 refine Tn (Fr (Vm S rfl rfl fun a S=>Vm S rfl rfl fun a S=>Vu S (Pe underlying129 underlying5) rfl rfl ?_));clear S;intro a S
 obtain ⟨hc1,h⟩:=Hs h
 refine lv S (Sy underlying9 rfl (S.tm rfl) hc1) rfl fun a S=>Vu S (Pe underlying5 underlying3) rfl rfl fun a S=>Vb S Gf rfl rfl rfl fun a S=>Va S rfl rfl fun a S=>Dl (wp_ret ?_)
 obtain rfl:=Option.some.inj h
 exact Fz S results73 rfl rfl
set_option maxRecDepth 20000 in
theorem Ve (w : World) (Av : Int) (r : Int) (h : Sz Av = some r) :
    Calls prog 74 [.int .u64 Av].toArray w (Ret w [] fun _ v _=>v = iV r):=by
 refine Fe func74 rfl ntmps74 rfl fun a S=>?_
 unfold Sz at h
 replace S:=S.k1 0 rfl
 refine Fr (Vk S rfl rfl fun a S=>Dl (Fs (Fr (Vm S rfl rfl fun a S=>Vq S Ns rfl rfl rfl fun a S=>Ld ?_))))
 refine Tn ?_
 obtain ⟨j1,hj1,h⟩:=Gh h
 refine Fv (fun a w'=>∃ x1 : Int,∃ x2 : Int,j1 x1 x2 = some r ∧ Sx w [] nov [] [(0,.int .u64 x1),(2,iV x2)] 25 a w') ?_ ?_
 ·refine Fc h (S.tm rfl) (fun hb1 h=>?_) (fun hb1 h=>?_)
  ·refine Fr (Vm S rfl rfl fun a S=>lv S (Ps (S.tm rfl) rfl (by decide)) rfl fun a S=>Va S rfl rfl fun a S=>Dl (Fg (Vk S rfl rfl fun a S=>Dl ?_)))
   exact ⟨Fl .u64 Av 32,32,h,S.nf [] rfl (subR rfl)⟩
  ·exact wp_skip (Tn (⟨Av,0,h,S.nf [] rfl (subR rfl)⟩))
 clear S h;rintro a w1 ⟨x1,x2,h,S⟩;rw [hj1] at h;clear hj1 j1
 refine Tn (Fs (Fr (Vm S rfl rfl fun a S=>Vq S Ns rfl rfl rfl fun a S=>Dl ?_)))
 obtain ⟨j2,hj2,h⟩:=Gh h
 refine Fv (fun a w'=>∃ x3 : Int,∃ x4 : Int,j2 x3 x4 = some r ∧ Sx w [] nov [] [(0,.int .u64 x3),(2,iV x4)] 25 a w') ?_ ?_
 ·refine Fc h (S.tm rfl) (fun hb2 h=>?_) (fun hb2 h=>?_)
  ·refine Fr (Vm S rfl rfl fun a S=>lv S (Ps (S.tm rfl) rfl (by decide)) rfl fun a S=>Va S rfl rfl fun a S=>Dl (Fg (Vm S rfl rfl fun a S=>Vq S Gf rfl rfl rfl fun a S=>Va S rfl rfl ?_)));clear S;intro a S
   exact Dl (⟨Fl .u64 x1 16,W (x2 + 16),h,S.nf [] rfl (subR rfl)⟩)
  ·exact wp_skip (Tn (⟨x1,x2,h,S.nf [] rfl (subR rfl)⟩))
 clear S h;rintro a w2 ⟨x3,x4,h,S⟩;rw [hj2] at h;clear hj2 j2
 refine Tn (Fs (Fr (Vm S rfl rfl fun a S=>Vq S Ns rfl rfl rfl fun a S=>Dl ?_)))
 obtain ⟨j3,hj3,h⟩:=Gh h
 refine Fv (fun a w'=>∃ x5 : Int,∃ x6 : Int,j3 x5 x6 = some r ∧ Sx w [] nov [] [(0,.int .u64 x5),(2,iV x6)] 25 a w') ?_ ?_
 ·refine Fc h (S.tm rfl) (fun hb3 h=>?_) (fun hb3 h=>?_)
  ·refine Fr (Vm S rfl rfl fun a S=>lv S (Ps (S.tm rfl) rfl (by decide)) rfl fun a S=>Va S rfl rfl fun a S=>Dl (Fg (Vm S rfl rfl fun a S=>Vq S Gf rfl rfl rfl fun a S=>Va S rfl rfl ?_)));clear S;intro a S
   exact Dl (⟨Fl .u64 x3 8,W (x4 + 8),h,S.nf [] rfl (subR rfl)⟩)
  ·exact wp_skip (Tn (⟨x3,x4,h,S.nf [] rfl (subR rfl)⟩))
 clear S h;rintro a w3 ⟨x5,x6,h,S⟩;rw [hj3] at h;clear hj3 j3
 refine Tn (Fr (Vm S rfl rfl fun a S=>Vm S rfl rfl fun a S=>Vu S (Pe underlying131 underlying5) rfl rfl ?_));clear S;intro a S
 obtain ⟨hc1,h⟩:=Hs h
 refine lv S (Sy underlying9 rfl (S.tm rfl) hc1) rfl fun a S=>Vu S (Pe underlying5 underlying3) rfl rfl fun a S=>Vb S Gf rfl rfl rfl fun a S=>Va S rfl rfl fun a S=>Dl (wp_ret ?_)
 obtain rfl:=Option.some.inj h
 exact Fz S results74 rfl rfl
theorem Ud (w : World) (Av : Int) (r : Int) (h : Rq Av = some r) :
    Calls prog 38 [.int .u64 Av].toArray w (Ret w [] fun _ v _=>v = iV r):=by
 refine Fe func38 rfl ntmps38 rfl fun a S=>?_
 unfold Rq at h
 replace S:=S.k1 0 rfl
 refine Fr (Vk S rfl rfl fun a S=>Dl (Fs (Fc h rfl (fun hb1 h=>?_) (fun hb1 h=>?_))))
 ·refine Fr (Vm S rfl rfl fun a S=>Vu S (Pe underlying97 underlying129) rfl rfl ?_);clear S;intro a S
  obtain ⟨r1,hr1,h⟩:=Gs h
  refine Eg S (fun _=>Eb (vs:=[.int .u32 (IntKind.wrap .u32 Av)]) ⟨(S.tm rfl),trivial⟩ call73) (Zx _ (IntKind.wrap .u32 Av) _ hr1) rfl ?_;clear S;intro v1 a w1 hv1 hk1 hn1 S
  subst hv1
  refine Va S rfl rfl fun a S=>Dl (wp_ret (Ee ?_))
  obtain rfl:=Option.some.inj h
  exact Fz S results38 rfl rfl
 ·refine wp_skip (Tn (Fr (Vm S rfl rfl ?_)));clear S;intro a S
  obtain ⟨r2,hr2,h⟩:=Gs h
  refine Eg S (fun _=>Eb (vs:=[.int .u64 Av]) ⟨(S.tm rfl),trivial⟩ call74) (Ve _ Av _ hr2) rfl ?_;clear S;intro v2 a w2 hv2 hk2 hn2 S
  subst hv2
  refine Va S rfl rfl fun a S=>Dl (wp_ret ?_)
  obtain rfl:=Option.some.inj h
  exact Fz S results38 rfl rfl
theorem Sk (w : World) (Bb : An) (Bf : An) (r : Int) (h : Ih Bb Bf = r) :
    Calls prog 17 [.agg (An.enc Bb).toArray,.agg (An.enc Bf).toArray].toArray w (Ret w [] fun _ v _=>v = iV r):=by
 refine Fe func17 rfl ntmps17 rfl fun a S=>?_
 unfold Ih at h
 replace S:=S.k2 0 1 rfl
 refine Fr (Ox S (S.tm rfl) (cs:=(An.enc Bb)) rfl rfl ?_);clear S;intro a w1 b1 hz1 hk1 S
 refine Ox S (S.tm rfl) (cs:=(An.enc Bf)) rfl rfl ?_;clear S;intro a w2 b2 hz2 hk2 S
 refine Vk S rfl rfl fun a S=>Dl (Fs (Fr (Vf Ph S rfl rfl fun a S=>Vl isAgg9 1 S rfl rfl rfl rfl fun a S=>Vf Ph S rfl rfl fun a S=>Vl isAgg9 0 S rfl rfl rfl rfl fun a S=>Vb S rn_slss rfl rfl rfl ?_)));clear S;intro a S
 refine Dl (Fc h (S.tm rfl) (fun hb1 h=>?_) (fun hb1 h=>?_))
 ·refine Fr (Vk S rfl rfl fun a S=>Dl (wp_ret (Ee ?_)))
  subst h
  exact Fz S results17 rfl rfl
 ·refine wp_skip (Tn (Fr (Vk S rfl rfl fun a S=>Dl (wp_ret ?_))))
  subst h
  exact Fz S results17 rfl rfl
set_option maxRecDepth 20000 in
theorem Kv (w : World) (Aa : Value) (Ax : List An) (Bx : (LEnt.own Aa 43 5 Ax.length (Ax.flatMap An.enc)).holds w) (Bb : Int) (Bf : Int) (r : (List An)) (h : Gd Ax Bb Bf = some r) :
    Calls prog 65 [Aa,iV Bb,iV Bf,.func (.func 17) #[] #[]].toArray w (Ret w (Aa.ownBlock.toList) fun _ v w'=>(LEnt.own Aa 43 5 r.length (r.flatMap An.enc)).holds w' ∧ v = .tuple #[]):=by
 refine Kz (Aa.ownBlock.toList) [.own Aa 43 5 Ax.length (Ax.flatMap An.enc)] func65 rfl ntmps65 rfl (fun e he=>by simp only [List.mem_singleton] at he;subst he;exact Bx) (Kf _) (Lm _) fun a S=>?_
 unfold Gd at h
 replace S:=(S.nl [.own Aa 43 5 Ax.length (Ax.flatMap An.enc)] [true] rfl).k4 0 1 2 3 rfl
 refine Fr (Vm S rfl rfl fun a S=>Vq S Gf rfl rfl rfl fun a S=>Va S rfl rfl fun a S=>Dl ?_)
 replace S:=S.k5 0 1 2 3 8 rfl
 obtain ⟨j1,hj1,h⟩:=Gh h
 refine Fv (fun a w'=>∃ x1 : List An,j1 x1 = some r ∧ Sx w (Aa.ownBlock.toList) nov [.own Aa 43 5 x1.length (x1.flatMap An.enc)] [] 53 a w') ?_ ?_
 ·refine wp_block (Hr (fun (m1 : Nat) a w'=>∃ x1 : List An,∃ x2 : Int,Ep Bf Bb j1 m1 x1 x2 = some r ∧ Sx w (Aa.ownBlock.toList) nov [.own Aa 43 5 x1.length (x1.flatMap An.enc)] [(0,Aa),(1,iV Bb),(2,iV Bf),(3,.func (.func 17) #[] #[]),(8,iV x2)] 53 a w') id ((Bf - (W (Bb + 1))).toNat + 2) ⟨Ax,W (Bb + 1),h,S.nf [true] rfl (subR rfl)⟩ ?_)
  clear S h;rintro m1 a w1 ⟨x1,x2,h,S⟩
  cases m1 with
  | zero=>rw [Ep.eq_1] at h;cases h
  | succ m1 =>
   rw [Ep.eq_2] at h
   refine Fs (Fr (Vm S rfl rfl fun a S=>Vm S rfl rfl fun a S=>Vb S Fu rfl rfl rfl fun a S=>Dl (Fc h (S.tm rfl) (fun hb1 h=>?_) (fun hb1 h=>?_))))
   ·refine wp_skip (Tn (Fs (wp_block (Fr (Vm S rfl rfl fun a S=>Va S rfl rfl fun a S=>Dl ?_)))))
    replace S:=S.k6 0 1 2 3 8 9 rfl
    obtain ⟨j2,hj2,h⟩:=Gh h
    refine Fv (fun a w'=>∃ x3 : List An,j2 x3 = some r ∧ Sx w (Aa.ownBlock.toList) nov [.own Aa 43 5 x3.length (x3.flatMap An.enc)] [(0,Aa),(1,iV Bb),(2,iV Bf),(3,.func (.func 17) #[] #[]),(8,iV x2)] 53 a w') ?_ ?_
    ·refine wp_block (Hr (fun (m2 : Nat) a w'=>∃ x3 : List An,∃ x4 : Int,Ek Bb j2 m2 x3 x4 = some r ∧ Sx w (Aa.ownBlock.toList) nov [.own Aa 43 5 x3.length (x3.flatMap An.enc)] [(0,Aa),(1,iV Bb),(2,iV Bf),(3,.func (.func 17) #[] #[]),(8,iV x2),(9,iV x4)] 53 a w') id ((x2 - Bb).toNat + 2) ⟨x1,x2,h,S.nf [true] rfl (subR rfl)⟩ ?_)
     clear S h;rintro m2 a w3 ⟨x3,x4,h,S⟩
     cases m2 with
     | zero=>rw [Ek.eq_1] at h;cases h
     | succ m2 =>
      rw [Ek.eq_2] at h
      refine Fs (Fs ?_)
      obtain ⟨j3,hj3,h⟩:=Gh h
      refine Fv (fun a w'=>∃ x5 : Bool,j3 x5 = some r ∧ Sx w (Aa.ownBlock.toList) nov [.own Aa 43 5 x3.length (x3.flatMap An.enc)] [(0,Aa),(1,iV Bb),(2,iV Bf),(3,.func (.func 17) #[] #[]),(8,iV x2),(9,iV x4),(34,bV x5)] 53 a w') ?_ ?_
      ·rcases Bool.eq_false_or_eq_true (decide (Bb < x4)) with hb2 | hb2
       ·replace h:=Qr h hb2
        obtain ⟨hc1,h⟩:=Hs h
        obtain ⟨hc2,h⟩:=Hs h
        refine Gz [] ([]) Tryz.mixed S rfl (by kernel_rfl) ?_;clear S;intro w7 hk2 hsel S
        refine Ec 0 S hsel rfl rfl rfl (by kernel_rfl) (by kernel_rfl) rfl (fun _ hw=>(Rm (S.tm rfl))) fun a S=>Ec 1 S hsel rfl rfl rfl (by kernel_rfl) (by kernel_rfl) rfl (fun _ hw=>(Rm (S.tm rfl))) fun a S=>Ec 2 S hsel rfl rfl rfl (by kernel_rfl) (by kernel_rfl) rfl (fun _ hw=>(Kp (S.tm rfl) (S.tm rfl))) fun a S=>Ec 3 S hsel rfl rfl rfl (by kernel_rfl) (by kernel_rfl) rfl (fun _ hw=>(Rm (S.tm rfl))) fun a S=>Ew 4 S hsel rfl rfl rfl rfl hb2 rfl rfl (by kernel_rfl) (by kernel_rfl) rfl (fun _ hw=>(Rm (S.tm rfl))) fun a S=>Ew 5 S hsel rfl rfl rfl rfl hb2 rfl rfl (by kernel_rfl) (by kernel_rfl) rfl (fun _ hw=>(Rm (S.tm rfl))) fun a S=>Ew 6 S hsel rfl rfl rfl rfl hb2 rfl rfl (by kernel_rfl) (by kernel_rfl) rfl (fun _ hw=>(Rm (S.tm rfl))) ?_;clear S;intro a S
        obtain ⟨b3,hg3,hr3⟩:=Gv (a:=a) (x:=.tmp 23) (y:=.tmp 24) (ty:=0) Jr An.enc_ok S (i:=0) rfl (Ef hc1).1 (Ef hc1).2 (S.tm rfl) (S.tm rfl)
        refine Ew 7 S hsel rfl rfl rfl rfl hb2 rfl rfl (by kernel_rfl) (by kernel_rfl) rfl (fun _ hw=>(hr3 _)) ?_;clear S;intro a S
        clear hr3
        refine Ew 8 S hsel rfl rfl rfl rfl hb2 rfl rfl (by kernel_rfl) (by kernel_rfl) rfl (fun _ hw=>(Ie isAgg43 sizeOf43 (off:=x4.toNat * 5) (o:=0) (part:=(An.enc (nth x3 x4))) rfl rfl (S.tm rfl) ((Mr An.enc_ok S (i:=0) rfl hg3 (Ef hc1).1 (Gm (e':=.own Aa 43 5 x3.length (x3.flatMap An.enc)))).kept hw))) fun a S=>Ew 9 S hsel rfl rfl rfl rfl hb2 rfl rfl (by kernel_rfl) (by kernel_rfl) rfl (fun _ hw=>(Rm (S.tm rfl))) fun a S=>Ew 10 S hsel rfl rfl rfl rfl hb2 rfl rfl (by kernel_rfl) (by kernel_rfl) rfl (fun _ hw=>(Rm (S.tm rfl))) fun a S=>Ew 11 S hsel rfl rfl rfl rfl hb2 rfl rfl (by kernel_rfl) (by kernel_rfl) rfl (fun _ hw=>(Iw (S.tm rfl) rfl)) ?_;clear S;intro a S
        obtain ⟨b4,hg4,hr4⟩:=Gv (a:=a) (x:=.tmp 27) (y:=.tmp 29) (ty:=0) Jr An.enc_ok S (i:=0) rfl (Ef hc2).1 (Ef hc2).2 (S.tm rfl) (S.tm rfl)
        refine Ew 12 S hsel rfl rfl rfl rfl hb2 rfl rfl (by kernel_rfl) (by kernel_rfl) rfl (fun _ hw=>(hr4 _)) ?_;clear S;intro a S
        clear hr4
        refine Ew 13 S hsel rfl rfl rfl rfl hb2 rfl rfl (by kernel_rfl) (by kernel_rfl) rfl (fun _ hw=>(Ie isAgg43 sizeOf43 (off:=((W (x4 - 1)).toNat) * 5) (o:=0) (part:=(An.enc (nth x3 (W (x4 - 1))))) rfl rfl (S.tm rfl) ((Mr An.enc_ok S (i:=0) rfl hg4 (Ef hc2).1 (Gm (e':=.own Aa 43 5 x3.length (x3.flatMap An.enc)))).kept hw))) fun a S=>Fy 14 (by kernel_rfl) rfl (Ej S rfl rfl rfl hb2 (Eg S (fun _=>Ro (cap:=[]) (S.tm rfl) (vs:=[.agg (An.enc (nth x3 x4)).toArray,.agg (An.enc (nth x3 (W (x4 - 1)))).toArray]) ⟨(S.tm rfl),(S.tm rfl),trivial⟩ call17) (Sk _ (nth x3 x4) (nth x3 (W (x4 - 1))) _ rfl) rfl ?_));clear S;intro v2 a w8 hv2 hk3 hn2 S
        subst hv2
        refine Ld (Gr hk3 (Jy [15,16] hsel (by kernel_rfl) rfl ?_))
        clear hsel
        refine Ig S rfl rfl rfl rfl hb2 (Jq S (Fu (S.tm rfl) rfl) rfl fun a S=>Gb S rfl (Nk hb2 (S.tm rfl) (S.tm rfl)) rfl fun a S=>Ix ?_)
        replace S:=S.nk [.own Aa 43 5 x3.length (x3.flatMap An.enc)] [(0,Aa),(1,iV Bb),(2,iV Bf),(3,.func (.func 17) #[] #[]),(8,iV x2),(9,iV x4),(22,.func (.func 17) #[] #[]),(23,Aa),(24,iV x4),(25,.pointer (some ⟨b3,x4.toNat * 5,none⟩)),(26,.agg (An.enc (nth x3 x4)).toArray),(27,Aa),(28,iV x4),(29,iV (W (x4 - 1))),(30,.pointer (some ⟨b4,((W (x4 - 1)).toNat) * 5,none⟩)),(31,.agg (An.enc (nth x3 (W (x4 - 1)))).toArray),(32,iV (Ih (nth x3 x4) (nth x3 (W (x4 - 1))))),(33,bV (decide ((Ih (nth x3 x4) (nth x3 (W (x4 - 1)))) < 0))),(34,bV (decide ((Ih (nth x3 x4) (nth x3 (W (x4 - 1)))) < 0)))] [true] rfl (subR rfl)
        exact Tn (⟨decide ((Ih (nth x3 x4) (nth x3 (W (x4 - 1)))) < 0),h,S.nf [true] rfl (subR rfl)⟩)
       ·replace h:=Qs h hb2
        refine Gz [] ([]) Tryz.mixed S rfl (by kernel_rfl) ?_;clear S;intro w9 hk4 hsel S
        refine Jy [0,1,2,3,4,5,6,7,8,9,10,11,12,13,14,15,16] hsel (by kernel_rfl) rfl ?_
        clear hsel
        refine Gb S rfl (Rm (S.tm rfl)) rfl fun a S=>Gb S rfl (Rm (S.tm rfl)) rfl fun a S=>Gb S rfl (Kp (S.tm rfl) (S.tm rfl)) rfl fun a S=>Gb S rfl (Rm (S.tm rfl)) rfl ?_;clear S;intro a S
        iterate 12 (refine Rb S rfl rfl rfl rfl (Lg hb2) rfl ?_ rfl;clear S;intro a S)
        refine Gb S rfl (Nl hb2 (S.tm rfl) rfl) rfl fun a S=>Ix ?_
        replace S:=S.k7 0 1 2 3 8 9 34 rfl
        exact Tn (⟨false,h,S.nf [true] rfl (subR rfl)⟩)
      clear S h;rintro a w5 ⟨x5,h,S⟩;rw [hj3] at h;clear hj3 j3
      refine Tn (Fc h (S.tm rfl) (fun hb3 h=>?_) (fun hb3 h=>?_))
      ·refine wp_skip (Tn (Fs (wp_block ?_)))
       obtain ⟨hc3,h⟩:=Hs h
       obtain ⟨hc4,h⟩:=Hs h
       obtain ⟨hc5,h⟩:=Hs h
       obtain ⟨hc6,h⟩:=Hs h
       refine Gz [15,17] ([]) Tryz.mixed S rfl (by kernel_rfl) ?_;clear S;intro w14 hk9 hsel S
       refine Gw 0 S hsel rfl rfl (by kernel_rfl) (by kernel_rfl) rfl (fun _=>(Rm (S.tm rfl))) fun a S=>Gw 1 S hsel rfl rfl (by kernel_rfl) (by kernel_rfl) rfl (fun _=>(Rm (S.tm rfl))) fun a S=>Gw 2 S hsel rfl rfl (by kernel_rfl) (by kernel_rfl) rfl (fun _=>(Rm (S.tm rfl))) fun a S=>Gw 3 S hsel rfl rfl (by kernel_rfl) (by kernel_rfl) rfl (fun _=>(Rm (S.tm rfl))) fun a S=>Gw 4 S hsel rfl rfl (by kernel_rfl) (by kernel_rfl) rfl (fun _=>(Iw (S.tm rfl) rfl)) fun a S=>Gw 5 S hsel rfl rfl (by kernel_rfl) (by kernel_rfl) rfl (fun _=>(Rm (S.tm rfl))) fun a S=>Gw 6 S hsel rfl rfl (by kernel_rfl) (by kernel_rfl) rfl (fun _=>(Rm (S.tm rfl))) fun a S=>Gw 7 S hsel rfl rfl (by kernel_rfl) (by kernel_rfl) rfl (fun _=>(Iw (S.tm rfl) rfl)) ?_;clear S;intro a S
       obtain ⟨b9,hg9,hr9⟩:=Gv (a:=a) (x:=.tmp 42) (y:=.tmp 44) (ty:=0) Jr An.enc_ok S (i:=0) rfl (Ef hc3).1 (Ef hc3).2 (S.tm rfl) (S.tm rfl)
       refine Gw 8 S hsel rfl rfl (by kernel_rfl) (by kernel_rfl) rfl (fun _=>(hr9 _)) ?_;clear S;intro a S
       clear hr9
       refine Ec 9 S hsel rfl (by kernel_rfl) (by kernel_rfl) (by kernel_rfl) (by kernel_rfl) rfl (fun _ hw=>(Ie isAgg43 sizeOf43 (off:=((W (x4 - 1)).toNat) * 5) (o:=0) (part:=(An.enc (nth x3 (W (x4 - 1))))) rfl rfl (S.tm rfl) ((Mr An.enc_ok S (i:=0) rfl hg9 (Ef hc3).1 (Gm (e':=.own Aa 43 5 x3.length (x3.flatMap An.enc)))).kept hw))) fun a S=>Gw 10 S hsel rfl rfl (by kernel_rfl) (by kernel_rfl) rfl (fun _=>(Rm (S.tm rfl))) fun a S=>Gw 11 S hsel rfl rfl (by kernel_rfl) (by kernel_rfl) rfl (fun _=>(Rm (S.tm rfl))) ?_;clear S;intro a S
       obtain ⟨b10,hg10,hr10⟩:=Gv (a:=a) (x:=.tmp 47) (y:=.tmp 48) (ty:=0) Jr An.enc_ok S (i:=0) rfl (Ef hc4).1 (Ef hc4).2 (S.tm rfl) (S.tm rfl)
       refine Gw 12 S hsel rfl rfl (by kernel_rfl) (by kernel_rfl) rfl (fun _=>(hr10 _)) ?_;clear S;intro a S
       clear hr10
       refine Ec 13 S hsel rfl (by kernel_rfl) (by kernel_rfl) (by kernel_rfl) (by kernel_rfl) rfl (fun _ hw=>(Ie isAgg43 sizeOf43 (off:=x4.toNat * 5) (o:=0) (part:=(An.enc (nth x3 x4))) rfl rfl (S.tm rfl) ((Mr An.enc_ok S (i:=0) rfl hg10 (Ef hc4).1 (Gm (e':=.own Aa 43 5 x3.length (x3.flatMap An.enc)))).kept hw))) ?_;clear S;intro a S
       obtain ⟨b11,hg11,hr11⟩:=Gv (a:=a) (x:=.tmp 37) (y:=.tmp 38) (ty:=0) Jr An.enc_ok S (i:=0) rfl (Ef hc5).1 (Ef hc5).2 (S.tm rfl) (S.tm rfl)
       refine Gw 14 S hsel rfl rfl (by kernel_rfl) (by kernel_rfl) rfl (fun _=>(hr11 _)) ?_;clear S;intro a S
       clear hr11
       refine Wc 15 (Aa.ownBlock.toList) rfl (by kernel_rfl) rfl (Ng (c:=0) (j:=x4.toNat) (nth x3 (W (x4 - 1))) An.enc_ok S (S.tm rfl) (S.tm rfl) (i:=0) rfl hg11 (Ef hc5).1 sizeOf43 (vs:=[sV ((nth x3 (W (x4 - 1))).Key),iV ((nth x3 (W (x4 - 1))).Heats),iV ((nth x3 (W (x4 - 1))).Long),iV ((nth x3 (W (x4 - 1))).Gap),iV ((nth x3 (W (x4 - 1))).Break)]) rfl rfl rfl rfl rfl ?_);clear S;intro w16 hk11 S
       refine Ld (Wd ?_)
       obtain ⟨b12,hg12,hr12⟩:=Gv (a:=a) (x:=.tmp 39) (y:=.tmp 41) (ty:=0) Jr An.enc_ok S (i:=0) rfl (Ef hc6).1 (Ef hc6).2 (S.tm rfl) (S.tm rfl)
       refine Ec 16 S hsel rfl rfl rfl (by kernel_rfl) (by kernel_rfl) rfl (fun _ hw=>(hr12 _)) ?_;clear S;intro a S
       clear hr12
       refine Fy 17 (by kernel_rfl) rfl (Ng (c:=0) (j:=(W (x4 - 1)).toNat) (nth x3 x4) An.enc_ok S (S.tm rfl) (S.tm rfl) (i:=0) rfl hg12 (Ef hc6).1 sizeOf43 (vs:=[sV ((nth x3 x4).Key),iV ((nth x3 x4).Heats),iV ((nth x3 x4).Long),iV ((nth x3 x4).Gap),iV ((nth x3 x4).Break)]) rfl rfl rfl rfl rfl ?_);clear S;intro w18 hk13 S
       refine Ld (Gr hk13 (Sg (by kernel_rfl) ?_))
       clear hsel
       replace S:=(S.nl [.own Aa 43 5 ((x3.set x4.toNat (nth x3 (W (x4 - 1)))).set ((W (x4 - 1)).toNat) (nth x3 x4)).length (((x3.set x4.toNat (nth x3 (W (x4 - 1)))).set ((W (x4 - 1)).toNat) (nth x3 x4)).flatMap An.enc)] [true] rfl).k6 0 1 2 3 8 9 rfl
       exact Ja (Tn (Fg (Vm S rfl rfl fun a S=>Vq S Iw rfl rfl rfl fun a S=>Va S rfl rfl fun a S=>Dl (⟨m2,⟨((x3.set x4.toNat (nth x3 (W (x4 - 1)))).set ((W (x4 - 1)).toNat) (nth x3 x4)),W (x4 - 1),h,S.nf [true] rfl ⟨rfl,rfl,rfl,rfl,rfl,rfl,trivial⟩⟩,Nat.lt_succ_self _⟩))))
      ·exact wp_exit (Fj (Fj (Hp (Tn (⟨x3,h,S.nf [true] rfl (subR rfl)⟩)))))
    clear S h;rintro a w4 ⟨x3,h,S⟩;rw [hj2] at h;clear hj2 j2
    exact Ja (Tn (Fg (Vm S rfl rfl fun a S=>Vq S Gf rfl rfl rfl fun a S=>Va S rfl rfl fun a S=>Dl (⟨m1,⟨x3,W (x2 + 1),h,S.nf [true] rfl ⟨rfl,rfl,rfl,rfl,rfl,trivial⟩⟩,Nat.lt_succ_self _⟩))))
   ·exact wp_exit (Fj (Fj (Hp (Tn (⟨x1,h,S.nf [true] rfl trivial⟩)))))
 clear S h;rintro a w2 ⟨x1,h,S⟩;rw [hj1] at h;clear hj1 j1
 obtain rfl:=Option.some.inj h
 exact Rp S results65 ⟨(S.holds _ (List.mem_of_getElem? (i:=0) rfl)),rfl⟩
theorem Ly (w : World) (Aa : Value) (Ax : List An) (Bx : (LEnt.own Aa 43 5 Ax.length (Ax.flatMap An.enc)).holds w) (Bb : Int) (Bf : Int) (Cb : Int) (r : (List An)) (h : Hb Ax Bb Bf Cb = some r) :
    Calls prog 37 [Aa,iV Bb,iV Bf,iV Cb,.func (.func 17) #[] #[]].toArray w (Ret w (Aa.ownBlock.toList) fun _ v w'=>(LEnt.own Aa 43 5 r.length (r.flatMap An.enc)).holds w' ∧ v = .tuple #[]):=by
 refine Kz (Aa.ownBlock.toList) [.own Aa 43 5 Ax.length (Ax.flatMap An.enc)] func37 rfl ntmps37 rfl (fun e he=>by simp only [List.mem_singleton] at he;subst he;exact Bx) (Kf _) (Lm _) fun a S=>?_
 unfold Hb at h
 replace S:=(S.nl [.own Aa 43 5 Ax.length (Ax.flatMap An.enc)] [true] rfl).k5 0 1 2 3 4 rfl
 refine Fr (Vk S rfl rfl fun a S=>Dz (Vk S rfl rfl fun a S=>Dl ?_))
 replace S:=S.k6 0 1 2 3 4 10 rfl
 refine Fv (fun a w'=>False) ?_ ?_
 ·refine wp_block (Hr (fun (m1 : Nat) a w'=>∃ x1 : Int,∃ x2 : Int,∃ x3 : Int,∃ x4 : Bool,Ey Ax m1 x1 x2 x3 x4 = some r ∧ Sx w (Aa.ownBlock.toList) nov [.own Aa 43 5 Ax.length (Ax.flatMap An.enc)] [(0,Aa),(1,iV x1),(2,iV x2),(3,iV x3),(4,.func (.func 17) #[] #[]),(10,bV x4)] 148 a w') id 4611686018427387904 ⟨Bb,Bf,Cb,true,h,S.nf [true] rfl (subR rfl)⟩ ?_)
  clear S h;rintro m1 a w1 ⟨x1,x2,x3,x4,h,S⟩
  cases m1 with
  | zero=>rw [Ey.eq_1] at h;cases h
  | succ m1 =>
   rw [Ey.eq_2] at h
   refine wp_block (Fr (Vm S rfl rfl fun a S=>Vm S rfl rfl fun a S=>Vb S Iw rfl rfl rfl fun a S=>Va S rfl rfl fun a S=>Dl (Fs (Fs ?_))))
   refine Fg (Vm S rfl rfl fun a S=>Vq S St rfl rfl rfl fun a S=>Dl (Fc h (S.tm rfl) (fun hb1 h=>?_) (fun hb1 h=>?_)))
   ·refine Fs (Fg ?_)
    iterate 4 (refine Vm S rfl rfl ?_;clear S;intro a S)
    obtain ⟨r1,hr1,h⟩:=Gs h
    refine Pa 0 S rfl (fun _=>.own Aa 43 5 r1.length (r1.flatMap An.enc)) (fun _=>Eb (vs:=[Aa,iV x1,iV x2,.func (.func 17) #[] #[]]) ⟨(S.tm rfl),(S.tm rfl),(S.tm rfl),(S.tm rfl),trivial⟩ call65) (Kv _ Aa Ax (S.holds _ (List.mem_of_getElem? (i:=0) rfl)) x1 x2 _ hr1) rfl (fun _ _ _ h=>⟨h.1,fun _ hc=>hc⟩) ?_;clear S;intro v1 a w3 hv1 hk1 hn1 S
    replace hv1:=hv1.2
    subst hv1
    refine Ld ?_
    replace S:=(S.nl [.own Aa 43 5 r1.length (r1.flatMap An.enc)] [true] rfl).k0
    refine Tn (wp_ret (Ee (Gy (Ee (Gy (Ee ?_))))))
    obtain rfl:=Option.some.inj h
    exact Rp S results37 ⟨(S.holds _ (List.mem_of_getElem? (i:=0) rfl)),rfl⟩
   ·refine wp_skip (Tn (Fs (Fr (Vm S rfl rfl fun a S=>Vq S Ko rfl rfl rfl fun a S=>Dl (Fc h (S.tm rfl) (fun hb2 h=>?_) (fun hb2 h=>?_))))))
    ·refine Fs ?_
     cases h
    ·refine wp_skip (Tn (Fs (Fr (Vm S rfl rfl fun a S=>Vu S Ip rfl rfl fun a S=>Ld ?_))))
     replace S:=S.k1 39 rfl
     refine Tn (Fc h (S.tm rfl) (fun hb3 h=>?_) (fun hb3 h=>?_))
     ·refine Fs ?_
      cases h
     ·refine wp_skip (Tn (Fs ?_))
      cases h
 exact fun _ _ h=>h.elim
theorem Mt (w : World) (Bp : Value) (Av : List An) (Cy : (LEnt.own Bp 43 5 Av.length (Av.flatMap An.enc)).holds w) (r : (List An)) (h : Gx Av = some r) :
    Calls prog 16 [Bp,.func (.func 17) #[] #[]].toArray w (Ret w (Bp.ownBlock.toList) fun _ v w'=>(LEnt.own Bp 43 5 r.length (r.flatMap An.enc)).holds w' ∧ v = .tuple #[]):=by
 refine Kz (Bp.ownBlock.toList) [.own Bp 43 5 Av.length (Av.flatMap An.enc)] func16 rfl ntmps16 rfl (fun e he=>by simp only [List.mem_singleton] at he;subst he;exact Cy) (Kf _) (Lm _) fun a S=>?_
 unfold Gx at h
 replace S:=(S.nl [.own Bp 43 5 Av.length (Av.flatMap An.enc)] [true] rfl).k2 0 1 rfl
 refine Fr (Vm S rfl rfl fun a S=>lv S (Gc Jr (S.tm rfl) (Om (S.own_at (i:=0) rfl))) rfl fun a S=>Va S rfl rfl fun a S=>Dl (Fg ?_))
 iterate 3 (refine Vm S rfl rfl ?_;clear S;intro a S)
 refine Vu S (Pe underlying3 underlying97) rfl rfl ?_;clear S;intro a S
 obtain ⟨r1,hr1,h⟩:=Gs h
 refine Eg S (fun _=>Eb (vs:=[.int .u64 (IntKind.wrap .u64 (Av.length : Int))]) ⟨(S.tm rfl),trivial⟩ call38) (Ud _ (IntKind.wrap .u64 (Av.length : Int)) _ hr1) rfl ?_;clear S;intro v1 a w1 hv1 hk1 hn1 S
 subst hv1
 refine Vm S rfl rfl ?_;clear S;intro a S
 obtain ⟨r2,hr2,h⟩:=Gs h
 refine Pa 0 S rfl (fun _=>.own Bp 43 5 r2.length (r2.flatMap An.enc)) (fun _=>Eb (vs:=[Bp,iV 0,iV (Av.length : Int),iV r1,.func (.func 17) #[] #[]]) ⟨(S.tm rfl),rfl,(S.tm rfl),(S.tm rfl),(S.tm rfl),trivial⟩ call37) (Ly _ Bp Av (S.holds _ (List.mem_of_getElem? (i:=0) rfl)) 0 (Av.length : Int) r1 _ hr2) rfl (fun _ _ _ h=>⟨h.1,fun _ hc=>hc⟩) ?_;clear S;intro v2 a w2 hv2 hk2 hn2 S
 replace hv2:=hv2.2
 subst hv2
 refine Ld ?_
 obtain rfl:=Option.some.inj h
 exact Rp S results16 ⟨(S.holds _ (List.mem_of_getElem? (i:=0) rfl)),rfl⟩
theorem Ti (w : World) (Ac : Nat) (Af : Value) (Bj : List Int) (Bl : Slc (view w [Ac]) 1 Af (Bj.map eInt)) (Aw : Int) (Bw : (LEnt.blk Ac [Af,iV Aw] 25).holds w) (Cq : Int) (Cn : Int) (r : Int × Int) (h : On Bj Aw Cq Cn = some r) :
    Calls prog 6 [.pointer (some ⟨Ac,0,none⟩),iV Cq,iV Cn].toArray w (Ret w [Ac] fun _ v w'=>(LEnt.blk Ac [Af,iV r.2] 25).holds w' ∧ v = iV r.1):=by
 refine Kz [Ac] [.blk Ac [Af,iV Aw] 25] func6 rfl ntmps6 rfl (fun e he=>by simp only [List.mem_singleton] at he;subst he;exact Bw) (by simp [fps,LEnt.fp]) (by simp [fps,LEnt.fp]) fun a S=>?_
 unfold On at h
 replace S:=(S.nl [.blk Ac [Af,iV Aw] 25] [true] rfl).k3 0 1 2 rfl
 refine Fr (Vk S rfl rfl fun a S=>Dl (Fs (Fr (Vm S rfl rfl fun a S=>Vm S rfl rfl fun a S=>Vb S Fu rfl rfl rfl ?_))));clear S;intro a S
 refine Dl (Fc h (S.tm rfl) (fun hb1 h=>?_) (fun hb1 h=>?_))
 ·refine Fr (Vm S rfl rfl fun a S=>Va S rfl rfl fun a S=>Dl (wp_ret (Ee ?_)))
  obtain rfl:=Option.some.inj h
  exact Fz S results6 rfl ⟨(S.holds _ (List.mem_of_getElem? (i:=0) rfl)),rfl⟩
 ·refine wp_skip (Tn (Fs (Fg ?_)))
  iterate 4 (refine Vm S rfl rfl ?_;clear S;intro a S)
  refine Vb S Iw rfl rfl rfl fun a S=>Vq S Gf rfl rfl rfl ?_;clear S;intro a S
  obtain ⟨r1,hr1,h⟩:=Gs h
  refine Lu 0 S (b:=Ac) rfl rfl (fun _=>.blk Ac [Af,iV r1.2] 25) (fun _=>Eb (vs:=[.pointer (some ⟨Ac,0,none⟩),iV (W ((W (Cn - Cq)) + 1))]) ⟨(S.tm rfl),(S.tm rfl),trivial⟩ call18) (Qa _ Ac Af Bj (Bl.mono (S.le_arg (Er (i:=0) (e:=.blk Ac [Af,iV Aw] 25) rfl))) Aw (S.holds _ (List.mem_of_getElem? (i:=0) rfl)) (W ((W (Cn - Cq)) + 1)) _ hr1) rfl (fun _ _ _ h=>⟨h.1,fun _ hc=>by cases hc;rfl⟩) ?_;clear S;intro v1 a w1 hv1 hk1 hn1 S
  replace hv1:=hv1.2
  subst hv1
  refine Vb S Gf rfl rfl rfl fun a S=>Va S rfl rfl fun a S=>Ld ?_
  replace S:=(S.nl [.blk Ac [Af,iV r1.2] 25] [true] rfl).k1 6 rfl
  refine Tn (wp_ret ?_)
  obtain rfl:=Option.some.inj h
  exact Fz S results6 rfl ⟨(S.holds _ (List.mem_of_getElem? (i:=0) rfl)),rfl⟩
set_option maxRecDepth 20000 in
theorem Ue (w : World) (Ac : Nat) (Af : Value) (Bj : List Int) (Bl : Slc (view w [Ac]) 1 Af (Bj.map eInt)) (Aw : Int) (Bw : (LEnt.blk Ac [Af,iV Aw] 25).holds w) (Ah : Value) (Ak : List An) (Bd : Slc (view w [Ac]) 5 Ah (Ak.map An.enc)) (r : (List Eh) × Int) (h : Mf Bj Aw Ak = some r) :
    Calls prog 5 [.pointer (some ⟨Ac,0,none⟩),Ah].toArray w (Ret w [Ac] fun τ v w'=>(LEnt.blk Ac [Af,iV r.2] 25).holds w' ∧ Oa τ 52 3 v r.1.length (r.1.flatMap Eh.enc)):=by
 refine Kz [Ac] [.blk Ac [Af,iV Aw] 25] func5 rfl ntmps5 rfl (fun e he=>by simp only [List.mem_singleton] at he;subst he;exact Bw) (by simp [fps,LEnt.fp]) (by simp [fps,LEnt.fp]) fun a S=>?_
 unfold Mf at h
 replace S:=(S.nl [.blk Ac [Af,iV Aw] 25] [true] rfl).k2 0 1 rfl
 refine Fr (Vk S rfl rfl fun a S=>Dz (Vk S rfl rfl ?_));clear S;intro a S
 replace S:=S.nil 52 3
 refine Dl (Fs (Fr (Ff S underlying31 sizeOf9 zeroValue9 rfl rfl (pv:=[(0,sV Oc),(1,sV Od),(2,sV Oe)]) ⟨rfl,rfl,rfl,rfl,rfl,rfl,trivial⟩ (cs:=[sV Oc,sV Od,sV Oe]) (by kernel_rfl) rfl ?_)));clear S;intro a w1 b1 hz1 hk1 S
 refine lv S (Gc Pn (S.tm rfl) ⟨_,_,rfl⟩) rfl fun a S=>lv S (Rm rfl) rfl fun a S=>Dl ?_
 replace S:=(S.nl [.blk b1 [sV Oc,sV Od,sV Oe] 9,.own (.slice none 0 0) 52 3 ([] : List Eh).length (([] : List Eh).flatMap Eh.enc),.blk Ac [Af,iV Aw] 25] [true,true,true] rfl).k6 0 1 5 11 12 13 rfl
 replace S:=S.litOwn (i:=0) (xs:=[Oc,Od,Oe]) rfl Pt rfl rfl rfl
 replace S:=S.nk [.own (.slice (some ⟨b1,0,none⟩) 3 3) 9 1 ([Oc,Od,Oe] : List ByteArray).length (([Oc,Od,Oe] : List ByteArray).flatMap Qi),.own (.slice none 0 0) 52 3 ([] : List Eh).length (([] : List Eh).flatMap Eh.enc),.blk Ac [Af,iV Aw] 25] [(0,.pointer (some ⟨Ac,0,none⟩)),(1,Ah),(5,(.slice none 0 0)),(11,(.slice (some ⟨b1,0,none⟩) 3 3)),(12,iV (([Oc,Od,Oe] : List ByteArray).length : Int)),(13,iV 0)] [] rfl (subR rfl)
 obtain ⟨φ1,hl1,hs1,S⟩:=S.freezeT (xs:=([Oc,Od,Oe] : List ByteArray)) (enc:=Qi) (i:=0) rfl (fun c hc hh=>Um S (i:=2) rfl rfl (j:=0) rfl rfl (by simp at hc;subst hc;exact hh))
 replace S:=S.nk [.own (.slice none 0 0) 52 3 ([] : List Eh).length (([] : List Eh).flatMap Eh.enc),.blk Ac [Af,iV Aw] 25] [(0,.pointer (some ⟨Ac,0,none⟩)),(1,Ah),(5,(.slice none 0 0)),(11,(.slice (some ⟨b1,0,none⟩) 3 3)),(12,iV (([Oc,Od,Oe] : List ByteArray).length : Int)),(13,iV 0)] [] rfl (subR rfl)
 obtain ⟨j1,hj1,h⟩:=Gh h
 refine Fv (fun a w'=>∃ x1 : List Eh,∃ x2 : Int,∃ v1 : Value,j1 x1 x2 = some r ∧ Sx w [Ac] φ1 [.own v1 52 3 x1.length (x1.flatMap Eh.enc),.blk Ac [Af,iV x2] 25] [(5,v1)] 49 a w') ?_ ?_
 ·refine wp_block (Hr (fun (ys1 : List ByteArray) a w'=>∃ i1 : Nat,∃ x1 : List Eh,∃ x2 : Int,∃ v1 : Value,(∃ dn,([Oc,Od,Oe] : List ByteArray) = dn ++ ys1 ∧ dn.length = i1) ∧ Hd Ak Bj j1 ys1 i1 x1 x2 = some r ∧ Sx w [Ac] φ1 [.own v1 52 3 x1.length (x1.flatMap Eh.enc),.blk Ac [Af,iV x2] 25] [(0,.pointer (some ⟨Ac,0,none⟩)),(1,Ah),(5,v1),(11,(.slice (some ⟨b1,0,none⟩) 3 3)),(12,iV (([Oc,Od,Oe] : List ByteArray).length : Int)),(13,iV (i1 : Int))] 49 a w') List.length ([Oc,Od,Oe] : List ByteArray) ⟨0,([] : List Eh),Aw,(.slice none 0 0),⟨[],rfl,rfl⟩,h,S.nf [true,true] rfl (subR rfl)⟩ ?_)
  clear S h;rintro ys1 a w2 ⟨i1,x1,x2,v1,⟨dn,hd1,hi1⟩,h,S⟩
  cases ys1 with
  | nil =>
   rw [Hd.eq_1] at h
   refine Fr (Vb S Fu rfl rfl rfl fun a S=>Ld ?_)
   replace S:=S.k7 0 1 5 11 12 13 14 rfl
   exact Tn (Fs (wp_cond_false ((S.tm rfl).trans (congrArg Value.bool (Jd hd1 hi1))) (wp_exit (Fj (Fj (Hp (Tn (⟨x1,x2,v1,h,S.nf [true,true] rfl ⟨rfl,trivial⟩⟩))))))))
  | cons y1 ys1 =>
   rw [Hd.eq_2] at h
   refine Fr (Vb S Fu rfl rfl rfl fun a S=>Ld ?_)
   replace S:=S.k7 0 1 5 11 12 13 14 rfl
   refine Tn (Fs (wp_cond_true ((S.tm rfl).trans (congrArg Value.bool (Hx hd1 hi1))) (wp_skip (Tn (Fs (wp_block (Fs (Fg ?_))))))))
   obtain ⟨b2,o1,hm1,hr1⟩:=Fo (a:=a) (x:=.tmp 11) (y:=.tmp 13) (ty:=0) Pn (Fw Pt hs1) (Il hd1 hi1) rfl (S.tm rfl) (S.tm rfl)
   refine lv S (hr1 _) rfl ?_;clear S;intro a S
   clear hr1
   refine lv S (Ha isAgg9 (off:=o1) (o:=0) (S.tm rfl) (hm1.at S.emb) rfl) rfl fun a S=>Va S rfl rfl fun a S=>Dz (Vm S rfl rfl ?_);clear S;intro a S
   obtain ⟨r1,hr2,h⟩:=Gs h
   have hz2:=S.keep.size
   refine Eg S (fun _=>Eb (vs:=[Ah]) ⟨(S.tm rfl),trivial⟩ call15) (Qw _ Ah Ak (Bd.mono (S.le_arg Fk)) _ hr2) rfl ?_;clear S;intro v2 a w4 hv1 hk2 hn1 S
   replace S:=S.take hn1 hz2 hv1
   refine Va S rfl rfl fun a S=>Dz (Vm S rfl rfl ?_);clear S;intro a S
   obtain ⟨r2,hr3,h⟩:=Gs h
   refine Pa 0 S rfl (fun _=>.own v2 43 5 r2.length (r2.flatMap An.enc)) (fun _=>Eb (vs:=[v2,.func (.func 17) #[] #[]]) ⟨(S.tm rfl),rfl,trivial⟩ call16) (Mt _ v2 r1 (S.holds _ (List.mem_of_getElem? (i:=0) rfl)) _ hr3) rfl (fun _ _ _ h=>⟨h.1,fun _ hc=>hc⟩) ?_;clear S;intro v3 a w5 hv2 hk3 hn2 S
   replace hv2:=hv2.2
   subst hv2
   refine Ld ?_
   replace S:=(S.nl [.own v2 43 5 r2.length (r2.flatMap An.enc),.own v1 52 3 x1.length (x1.flatMap Eh.enc),.blk Ac [Af,iV x2] 25] [true,true,true] rfl).k8 0 1 5 7 8 11 12 13 rfl
   refine Tn (Fr (Vm S rfl rfl fun a S=>lv S (Gc Jr (S.tm rfl) (Om (S.own_at (i:=0) rfl))) rfl fun a S=>lv S (Rm rfl) rfl fun a S=>Dl ?_))
   replace S:=S.k10 0 1 5 7 11 12 13 21 22 23 rfl
   have hm2:=Yi (S.own_at (i:=0) rfl)
   obtain ⟨j2,hj2,h⟩:=Gh h
   refine Fv (fun a w'=>∃ x3 : List Eh,∃ x4 : Int,∃ v4 : Value,j2 x3 x4 = some r ∧ Sx w [Ac] φ1 [.own v2 43 5 r2.length (r2.flatMap An.enc),.own v4 52 3 x3.length (x3.flatMap Eh.enc),.blk Ac [Af,iV x4] 25] [(0,.pointer (some ⟨Ac,0,none⟩)),(1,Ah),(5,v4),(11,(.slice (some ⟨b1,0,none⟩) 3 3)),(12,iV (([Oc,Od,Oe] : List ByteArray).length : Int)),(13,iV (i1 : Int))] 49 a w') ?_ ?_
   ·refine wp_block (Hr (fun (ys2 : List An) a w'=>∃ i2 : Nat,∃ x3 : List Eh,∃ x4 : Int,∃ v4 : Value,(∃ dn,r2 = dn ++ ys2 ∧ dn.length = i2) ∧ Hu Bj y1 j2 ys2 i2 x3 x4 = some r ∧ Sx w [Ac] φ1 [.own v2 43 5 r2.length (r2.flatMap An.enc),.own v4 52 3 x3.length (x3.flatMap Eh.enc),.blk Ac [Af,iV x4] 25] [(0,.pointer (some ⟨Ac,0,none⟩)),(1,Ah),(5,v4),(7,sV y1),(11,(.slice (some ⟨b1,0,none⟩) 3 3)),(12,iV (([Oc,Od,Oe] : List ByteArray).length : Int)),(13,iV (i1 : Int)),(21,v2),(22,iV (r2.length : Int)),(23,iV (i2 : Int))] 49 a w') List.length r2 ⟨0,x1,x2,v1,⟨[],rfl,rfl⟩,h,S.nf [true,true,true] rfl (subR rfl)⟩ ?_)
    clear S h;rintro ys2 a w6 ⟨i2,x3,x4,v4,⟨dn,hd2,hi2⟩,h,S⟩
    cases ys2 with
    | nil =>
     rw [Hu.eq_1] at h
     refine Fr (Vb S Fu rfl rfl rfl fun a S=>Ld ?_)
     replace S:=S.k11 0 1 5 7 11 12 13 21 22 23 24 rfl
     exact Tn (Fs (wp_cond_false ((S.tm rfl).trans (congrArg Value.bool (Jd hd2 hi2))) (wp_exit (Fj (Fj (Hp (Tn (⟨x3,x4,v4,h,S.nf [true,true,true] rfl (subR rfl)⟩))))))))
    | cons y2 ys2 =>
     rw [Hu.eq_2] at h
     refine Fr (Vb S Fu rfl rfl rfl fun a S=>Ld ?_)
     replace S:=S.k11 0 1 5 7 11 12 13 21 22 23 24 rfl
     refine Tn (Fs (wp_cond_true ((S.tm rfl).trans (congrArg Value.bool (Hx hd2 hi2))) (wp_skip (Tn (Fs ?_)))))
     obtain ⟨j3,hj3,h⟩:=Gh h
     refine Fv (fun a w'=>∃ x5 : List Eh,∃ x6 : Int,∃ v5 : Value,j3 x5 x6 = some r ∧ Sx w [Ac] φ1 [.own v2 43 5 r2.length (r2.flatMap An.enc),.own v5 52 3 x5.length (x5.flatMap Eh.enc),.blk Ac [Af,iV x6] 25] [(0,.pointer (some ⟨Ac,0,none⟩)),(1,Ah),(5,v5),(7,sV y1),(11,(.slice (some ⟨b1,0,none⟩) 3 3)),(12,iV (([Oc,Od,Oe] : List ByteArray).length : Int)),(13,iV (i1 : Int)),(21,v2),(22,iV (r2.length : Int)),(23,iV (i2 : Int))] 49 a w') ?_ ?_
     ·refine wp_block (Fs (Fg ?_))
      obtain ⟨b3,hg1,hr4⟩:=Gv (a:=a) (x:=.tmp 21) (y:=.tmp 23) (ty:=0) Jr An.enc_ok S (i:=0) rfl (Il hd2 hi2) rfl (S.tm rfl) (S.tm rfl)
      refine lv S (hr4 _) rfl ?_;clear S;intro a S
      clear hr4
      refine lv S (Ie isAgg43 sizeOf43 (off:=i2 * 5) (o:=0) (part:=(An.enc y2)) rfl rfl (S.tm rfl) (Nm An.enc_ok S (i:=0) rfl hg1 (Il hd2 hi2))) rfl fun a S=>Nw S zeroValue43 (cs:=[sV Eo,iV 0,iV 0,iV 0,iV 0]) rfl rfl ?_;clear S;intro a w9 b4 hz3 hk4 S
      refine Kq S (S.tm rfl) (S.tm rfl) (i:=0) (off:=0) rfl sizeOf43 (vs:=(An.enc y2)) rfl rfl rfl rfl ?_;clear S;intro w10 hk5 S
      refine Dz (Vm S rfl rfl ?_);clear S;intro a S
      obtain ⟨r3,hr5,h⟩:=Gs h
      refine Lu 3 S (b:=Ac) rfl rfl (fun _=>.blk Ac [Af,iV r3.2] 25) (fun _=>Eb (vs:=[.pointer (some ⟨Ac,0,none⟩),iV 2]) ⟨(S.tm rfl),rfl,trivial⟩ call13) (Ub _ Ac Af Bj (Bl.mono (S.le_arg (Er (i:=3) (e:=.blk Ac [Af,iV x4] 25) rfl))) x4 (S.holds _ (List.mem_of_getElem? (i:=3) rfl)) 2 _ hr5) rfl (fun _ _ _ h=>⟨h.1,fun _ hc=>by cases hc;rfl⟩) ?_;clear S;intro v6 a w11 hv3 hk6 hn3 S
      replace hv3:=hv3.2
      subst hv3
      refine Vm S rfl rfl fun a S=>Jm 4 (fun a w'=>Keep [] w11 w' ∧ Sx w [Ac] φ1 [.blk b4 (An.enc y2) 43,.own v2 43 5 r2.length (r2.flatMap An.enc),.own v4 52 3 x3.length (x3.flatMap Eh.enc),.blk Ac [Af,iV r3.2] 25] [(0,.pointer (some ⟨Ac,0,none⟩)),(1,Ah),(5,v4),(7,sV y1),(10,.pointer (some ⟨b4,0,none⟩)),(11,(.slice (some ⟨b1,0,none⟩) 3 3)),(12,iV (([Oc,Od,Oe] : List ByteArray).length : Int)),(13,iV (i1 : Int)),(21,v2),(22,iV (r2.length : Int)),(23,iV (i2 : Int)),(33,bV (r3.1 && (decide (0 < y2.Heats))))] 49 a w') ?_ ?_
      ·rcases Bool.eq_false_or_eq_true r3.1 with hb1 | hb1
       ·exact Ej S rfl rfl rfl hb1 (Vf Td S rfl rfl fun a S=>Ej S rfl rfl rfl hb1 (Vl isAgg3 0 S rfl rfl rfl rfl fun a S=>Ej S rfl rfl rfl hb1 (Vq S Kp rfl rfl rfl fun a S=>lv S (Jk hb1 (S.tm rfl) (S.tm rfl)) rfl fun a S=>Dl (⟨Keep.refl _ _,S.nf [true,true,true,true] rfl (subR rfl)⟩))))
       ·iterate 3 (refine Ik S rfl rfl rfl (Lg hb1) rfl ?_ rfl;clear S;intro a S)
        exact lv S (Jl (decide (0 < y2.Heats)) hb1 (S.tm rfl) rfl) rfl fun a S=>Dl (⟨Keep.refl _ _,S.nf [true,true,true,true] rfl (subR rfl)⟩)
      clear S;rintro a w12 ⟨hk7,S⟩
      refine Dl ?_
      obtain ⟨j4,hj4,h⟩:=Gh h
      refine Fv (fun a w'=>∃ x7 : List Eh,∃ x8 : Int,∃ v7 : Value,j4 x7 x8 = some r ∧ Sx w [Ac] φ1 [.own v2 43 5 r2.length (r2.flatMap An.enc),.own v7 52 3 x7.length (x7.flatMap Eh.enc),.blk Ac [Af,iV x8] 25] [(0,.pointer (some ⟨Ac,0,none⟩)),(1,Ah),(5,v7),(7,sV y1),(11,(.slice (some ⟨b1,0,none⟩) 3 3)),(12,iV (([Oc,Od,Oe] : List ByteArray).length : Int)),(13,iV (i1 : Int)),(21,v2),(22,iV (r2.length : Int)),(23,iV (i2 : Int))] 49 a w') ?_ ?_
      ·refine Fc h (S.tm rfl) (fun hb2 h=>?_) (fun hb2 h=>?_)
       ·obtain ⟨r4,hr6,h⟩:=Gs h
        obtain ⟨hc1,h⟩:=Hs h
        refine Gz [] ([Ac] ++ v4.ownBlock.toList) Tryz.mixed S rfl (by kernel_rfl) ?_;clear S;intro w17 hk11 hsel S
        refine Ec 0 S hsel rfl rfl rfl (by kernel_rfl) (by kernel_rfl) rfl (fun _ hw=>(Rm (S.tm rfl))) fun a S=>Ec 1 S hsel rfl rfl rfl (by kernel_rfl) (by kernel_rfl) rfl (fun _ hw=>(Rm (S.tm rfl))) fun a S=>Ec 2 S hsel rfl rfl rfl (by kernel_rfl) (by kernel_rfl) rfl (fun _ hw=>(Gi Ph (S.tm rfl))) fun a S=>Ec 3 S hsel rfl rfl rfl (by kernel_rfl) (by kernel_rfl) rfl (fun _ hw=>(Ha isAgg9 (off:=0) (o:=0) (S.tm rfl) ((S.blk_mem (i:=0) (cells:=(An.enc y2)) (b:=b4) (T:=43) rfl (CD (Rw (i:=3) (j:=0) (e:=.blk Ac [Af,iV r3.2] 25) (e':=.blk b4 (An.enc y2) 43) S rfl rfl rfl) (Rw (i:=2) (j:=0) (e:=.own v4 52 3 x3.length (x3.flatMap Eh.enc)) (e':=.blk b4 (An.enc y2) 43) S rfl rfl rfl))).kept hw) rfl)) fun a S=>Ec 4 S hsel rfl rfl rfl (by kernel_rfl) (by kernel_rfl) rfl (fun _ hw=>(Rm (S.tm rfl))) fun a S=>Ec 5 S hsel rfl rfl rfl (by kernel_rfl) (by kernel_rfl) rfl (fun _ hw=>(Gi Td (S.tm rfl))) fun a S=>Ec 6 S hsel rfl rfl rfl (by kernel_rfl) (by kernel_rfl) rfl (fun _ hw=>(Ha isAgg3 (off:=0) (o:=1) (S.tm rfl) ((S.blk_mem (i:=0) (cells:=(An.enc y2)) (b:=b4) (T:=43) rfl (CD (Rw (i:=3) (j:=0) (e:=.blk Ac [Af,iV r3.2] 25) (e':=.blk b4 (An.enc y2) 43) S rfl rfl rfl) (Rw (i:=2) (j:=0) (e:=.own v4 52 3 x3.length (x3.flatMap Eh.enc)) (e':=.blk b4 (An.enc y2) 43) S rfl rfl rfl))).kept hw) rfl)) fun a S=>Ec 7 S hsel rfl rfl rfl (by kernel_rfl) (by kernel_rfl) rfl (fun _ hw=>(FU (S.tm rfl) rfl)) fun a S=>Fy 8 (by kernel_rfl) rfl ?_
        refine Lu 3 S (b:=Ac) rfl rfl (fun _=>.blk Ac [Af,iV r4.2] 25) (fun _=>Eb (vs:=[.pointer (some ⟨Ac,0,none⟩),iV 1,iV (DL y2.Heats 3)]) ⟨(S.tm rfl),rfl,(S.tm rfl),trivial⟩ call6) (Ti _ Ac Af Bj (Bl.mono (S.le_arg (Er (i:=3) (e:=.blk Ac [Af,iV r3.2] 25) rfl))) r3.2 (S.holds _ (List.mem_of_getElem? (i:=3) rfl)) 1 (DL y2.Heats 3) _ hr6) rfl (fun _ _ _ h=>⟨h.1,fun _ hc=>by cases hc;rfl⟩) ?_;clear S;intro v10 a w18 hv5 hk12 hn5 S
        replace hv5:=hv5.2
        subst hv5
        refine Ld ?_
        refine Gr (hk12.sub (by intro y hy;simp at hy ⊢;simp [hy])) ?_
        refine Ec 9 S hsel rfl rfl rfl (by kernel_rfl) (by kernel_rfl) rfl (fun _ hw=>(Pk bt_52 (pv:=[(0,sV y1),(1,sV y2.Key),(2,iV r4.1)]) ⟨rfl,(S.tm rfl),rfl,(S.tm rfl),rfl,(S.tm rfl),trivial⟩ (cs:=[sV y1,sV y2.Key,iV r4.1]) (by kernel_rfl))) fun a S=>Fy 10 (by kernel_rfl) rfl (Ff S underlying28 sizeOf52 zeroValue52 rfl rfl (pv:=[(0,.agg #[sV y1,sV y2.Key,iV r4.1])]) ⟨rfl,(S.tm rfl),trivial⟩ (cs:=[sV y1,sV y2.Key,iV r4.1]) (by kernel_rfl) rfl ?_);clear S;intro a w19 b6 hz5 hk13 S
        refine Ld (Gr (Keep.none hk13) (Fy 11 (by kernel_rfl) rfl ?_))
        refine Lv Si Eh.enc_ok S (S.tm rfl) (i:=3) rfl (S.tm rfl) (j:=0) rfl (ys:=[(Eh.mk y1 y2.Key r4.1)]) rfl rfl rfl rfl (by have:=Kl hc1;omega) rfl ?_;clear S;intro v11 a w20 hk14 hf1 S
        refine Ld ?_
        refine Mx ([Ac] ++ v11.ownBlock.toList) (hk14.sub (by intro y hy;simp at hy ⊢;simp [hy])) (by intro y hy;simp at hy ⊢;exact (hy.elim (fun hy=>(by simp [hy])) (fun hy=>(by rcases hf1 y hy with hy | hy <;> simp [hy])))) ?_
        refine Jy [12] hsel (by kernel_rfl) rfl ?_
        clear hsel
        refine Gb S rfl (Ra (S.tm rfl)) rfl fun a S=>Ix ?_
        replace S:=(S.nl [.own v2 43 5 r2.length (r2.flatMap An.enc),.own v11 52 3 (x3 ++ [(Eh.mk y1 y2.Key r4.1)]).length ((x3 ++ [(Eh.mk y1 y2.Key r4.1)]).flatMap Eh.enc),.blk Ac [Af,iV r4.2] 25] [false,false,true,true,true] rfl).k10 0 1 5 7 11 12 13 21 22 23 rfl
        exact Tn (⟨(x3 ++ [(Eh.mk y1 y2.Key r4.1)]),r4.2,v11,h,S.nf [true,true,true] rfl (subR rfl)⟩)
       ·exact wp_skip (Tn (⟨x3,r3.2,v4,h,S.nf [false,true,true,true] rfl (subR rfl)⟩))
      clear S h;rintro a w13 ⟨x7,x8,v7,h,S⟩;rw [hj4] at h;clear hj4 j4
      exact Ja (Tn (⟨x7,x8,v7,h,S.nf [true,true,true] rfl (subR rfl)⟩))
     clear S h;rintro a w8 ⟨x5,x6,v5,h,S⟩;rw [hj3] at h;clear hj3 j3
     exact Tn (Fg (Vq S Gf rfl rfl rfl fun a S=>Vm S rfl rfl fun a S=>Dl (⟨ys2,⟨i2 + 1,x5,x6,v5,⟨_,(hd2).trans (List.append_cons _ _ _),by simp [hi2]⟩,h,S.nf [true,true,true] rfl ⟨rfl,rfl,rfl,rfl,rfl,rfl,rfl,rfl,rfl,(congrArg (fun z=>some (Value.int .i64 z)) (Hy hd2 hi2 hm2)),trivial⟩⟩,Nat.lt_succ_self _⟩)))
   clear S h;rintro a w7 ⟨x3,x4,v4,h,S⟩;rw [hj2] at h;clear hj2 j2
   exact Ja (Tn (Fg (Vq S Gf rfl rfl rfl fun a S=>Vm S rfl rfl fun a S=>Dl (⟨ys1,⟨i1 + 1,x3,x4,v4,⟨_,(hd1).trans (List.append_cons _ _ _),by simp [hi1]⟩,h,S.nf [false,true,true] rfl ⟨rfl,rfl,rfl,rfl,rfl,(congrArg (fun z=>some (Value.int .i64 z)) (Hy hd1 hi1 (Km (Fw Pt hs1)))),trivial⟩⟩,Nat.lt_succ_self _⟩))))
 clear S h;rintro a w3 ⟨x1,x2,v1,h,S⟩;rw [hj1] at h;clear hj1 j1
 refine Tn (Fr (Vm S rfl rfl fun a S=>Va S rfl rfl fun a S=>Dl (wp_ret ?_)))
 obtain rfl:=Option.some.inj h
 exact Fz S results5 rfl ⟨(S.holds _ (List.mem_of_getElem? (i:=1) rfl)),(Zd S (i:=0) rfl (fun c hc hh=>Um S (i:=1) rfl rfl (j:=0) rfl rfl (by simp at hc;subst hc;exact hh)))⟩
theorem Yb (w : World) (s c : ByteArray) (r : ByteArray) (h : Ta s c = some r) : Calls prog 75 [.string s,.string c].toArray w (Ret w [] fun _ v _=>v = .string r):=by
  unfold Ta at h
  obtain ⟨h1,h⟩:=Hs h
  obtain ⟨h2,h⟩:=Hs h
  obtain ⟨h3,h⟩:=Hs h
  obtain rfl:=Option.some.inj h
  exact CE (Any.strings_Trim_laid Tryz.lays160 (by kernel_rfl) s c w (by simpa using h1) (by simpa using h2) (fun j b hb=>by simpa using List.all_eq_true.1 h3 b (List.mem_of_getElem? hb)))
theorem Jt (w : World) (Ba : ByteArray) (r : Bool) (h : Jh Ba = some r) :
    Calls prog 40 [sV Ba].toArray w (Ret w [] fun _ v _=>v = bV r):=by
 refine Fe func40 rfl ntmps40 rfl fun a S=>?_
 unfold Jh at h
 replace S:=S.k1 0 rfl
 refine Fr (Vk S rfl rfl fun a S=>Dz (Vm S rfl rfl fun a S=>Vu S (Zb underlying9) rfl rfl fun a S=>Vq S Ns rfl rfl rfl fun a S=>Vm S rfl rfl ?_));clear S;intro a S
 refine Jm 4 (fun a w'=>Keep [] w w' ∧ Sx w [] nov [] [(0,sV Ba),(10,bV ((decide (1 ≤ (Ba.size : Int))) && (decide ((Ba.size : Int) ≤ 40))))] 26 a w') ?_ ?_
 ·rcases Bool.eq_false_or_eq_true (decide (1 ≤ (Ba.size : Int))) with hb1 | hb1
  ·exact Ej S rfl rfl rfl hb1 (Vm S rfl rfl fun a S=>Ej S rfl rfl rfl hb1 (Vu S (Zb underlying9) rfl rfl fun a S=>Ej S rfl rfl rfl hb1 (Vq S St rfl rfl rfl fun a S=>lv S (Jk hb1 (S.tm rfl) (S.tm rfl)) rfl fun a S=>Dl (⟨Keep.refl _ _,S.nf [] rfl (subR rfl)⟩))))
  ·iterate 3 (refine Ik S rfl rfl rfl (Lg hb1) rfl ?_ rfl;clear S;intro a S)
   exact lv S (Jl (decide ((Ba.size : Int) ≤ 40)) hb1 (S.tm rfl) rfl) rfl fun a S=>Dl (⟨Keep.refl _ _,S.nf [] rfl (subR rfl)⟩)
 clear S;rintro a w1 ⟨hk1,S⟩
 refine Vm S rfl rfl ?_;clear S;intro a S
 obtain ⟨j1,hj1,h⟩:=Gh h
 refine Jm 4 (fun a w'=>∃ c1,j1 c1 = some r ∧ Keep [] w1 w' ∧ Sx w [] nov [] [(0,sV Ba),(15,bV c1)] 26 a w') ?_ ?_
 ·rcases Bool.eq_false_or_eq_true ((decide (1 ≤ (Ba.size : Int))) && (decide ((Ba.size : Int) ≤ 40))) with hb2 | hb2
  ·replace h:=Qr h hb2
   refine Ej S rfl rfl rfl hb2 (Vm S rfl rfl fun a S=>Ej S rfl rfl rfl hb2 ?_)
   obtain ⟨hc1,h⟩:=Hs h
   exact lv S (Sy underlying9 (S.tm rfl) rfl hc1) rfl fun a S=>Ej S rfl rfl rfl hb2 (Vq S Ns rfl rfl rfl fun a S=>lv S (Jk hb2 (S.tm rfl) (S.tm rfl)) rfl fun a S=>Dl (⟨_,h,Keep.refl _ _,S.nf [] rfl (subR rfl)⟩))
  ·replace h:=Qs h hb2
   iterate 3 (refine Ik S rfl rfl rfl (Lg hb2) rfl ?_ rfl;clear S;intro a S)
   exact Vq S (Jl true hb2) rfl rfl rfl fun a S=>Dl (⟨_,h,Keep.refl _ _,S.nf [] rfl (subR rfl)⟩)
 clear S h;rintro a w2 ⟨c1,h,hk2,S⟩;rw [hj1] at h;clear hj1 j1
 refine Vm S rfl rfl ?_;clear S;intro a S
 obtain ⟨j2,hj2,h⟩:=Gh h
 refine Jm 4 (fun a w'=>∃ c2,j2 c2 = some r ∧ Keep [] w2 w' ∧ Sx w [] nov [] [(0,sV Ba),(20,bV c2)] 26 a w') ?_ ?_
 ·rcases Bool.eq_false_or_eq_true c1 with hb3 | hb3
  ·replace h:=Qr h hb3
   refine Ej S rfl rfl rfl hb3 (Vm S rfl rfl fun a S=>Ej S rfl rfl rfl hb3 ?_)
   obtain ⟨hc2,h⟩:=Hs h
   exact lv S (Sy underlying9 (S.tm rfl) rfl hc2) rfl fun a S=>Ej S rfl rfl rfl hb3 (Vq S St rfl rfl rfl fun a S=>lv S (Jk hb3 (S.tm rfl) (S.tm rfl)) rfl fun a S=>Dl (⟨_,h,Keep.refl _ _,S.nf [] rfl (subR rfl)⟩))
  ·replace h:=Qs h hb3
   iterate 3 (refine Ik S rfl rfl rfl (Lg hb3) rfl ?_ rfl;clear S;intro a S)
   exact Vq S (Jl true hb3) rfl rfl rfl fun a S=>Dl (⟨_,h,Keep.refl _ _,S.nf [] rfl (subR rfl)⟩)
 clear S h;rintro a w3 ⟨c2,h,hk3,S⟩;rw [hj2] at h;clear hj2 j2
 refine Vm S rfl rfl ?_;clear S;intro a S
 obtain ⟨j3,hj3,h⟩:=Gh h
 refine Jm 4 (fun a w'=>∃ c3,j3 c3 = some r ∧ Keep [] w3 w' ∧ Sx w [] nov [] [(25,bV c3)] 26 a w') ?_ ?_
 ·rcases Bool.eq_false_or_eq_true c2 with hb4 | hb4
  ·replace h:=Qr h hb4
   refine Ej S rfl rfl rfl hb4 (Vm S rfl rfl fun a S=>Ej S rfl rfl rfl hb4 ?_)
   obtain ⟨r1,hr1,h⟩:=Gs h
   refine Eg S (fun _=>Eb (vs:=[sV Ba,sV My]) ⟨(S.tm rfl),rfl,trivial⟩ call75) (Yb _ Ba My _ hr1) rfl ?_;clear S;intro v1 a w5 hv1 hk4 hn1 S
   subst hv1
   exact Ej S rfl rfl rfl hb4 (Vq S Sv rfl rfl rfl fun a S=>lv S (Jk hb4 (S.tm rfl) (S.tm rfl)) rfl fun a S=>Dl (⟨_,h,hk4,S.nf [] rfl ⟨rfl,trivial⟩⟩))
  ·replace h:=Qs h hb4
   iterate 3 (refine Ik S rfl rfl rfl (Lg hb4) rfl ?_ rfl;clear S;intro a S)
   exact Vq S (Jl true hb4) rfl rfl rfl fun a S=>Dl (⟨_,h,Keep.refl _ _,S.nf [] rfl ⟨rfl,trivial⟩⟩)
 clear S h;rintro a w4 ⟨c3,h,hk5,S⟩;rw [hj3] at h;clear hj3 j3
 refine Va S rfl rfl fun a S=>Dl (wp_ret ?_)
 obtain rfl:=Option.some.inj h
 exact Fz S results40 rfl rfl
theorem Gq (w : World) (Bo : Int) (Cq : Int) (Cn : Int) (r : Bool) (h : En Bo Cq Cn = r) :
    Calls prog 20 [iV Bo,iV Cq,iV Cn].toArray w (Ret w [] fun _ v _=>v = bV r):=by
 refine Fe func20 rfl ntmps20 rfl fun a S=>?_
 unfold En at h
 replace S:=S.k3 0 1 2 rfl
 refine Fr (Vk S rfl rfl fun a S=>Dz (Vm S rfl rfl fun a S=>Vm S rfl rfl fun a S=>Vb S Ns rfl rfl rfl fun a S=>Vm S rfl rfl ?_));clear S;intro a S
 refine Jm 4 (fun a w'=>Keep [] w w' ∧ Sx w [] nov [] [(14,bV ((decide (Cq ≤ Bo)) && (decide (Bo ≤ Cn))))] 15 a w') ?_ ?_
 ·rcases Bool.eq_false_or_eq_true (decide (Cq ≤ Bo)) with hb1 | hb1
  ·exact Ej S rfl rfl rfl hb1 (Vm S rfl rfl fun a S=>Ej S rfl rfl rfl hb1 (Vm S rfl rfl fun a S=>Ej S rfl rfl rfl hb1 (Vb S St rfl rfl rfl fun a S=>lv S (Jk hb1 (S.tm rfl) (S.tm rfl)) rfl fun a S=>Dl (⟨Keep.refl _ _,S.nf [] rfl ⟨rfl,trivial⟩⟩))))
  ·iterate 3 (refine Ik S rfl rfl rfl (Lg hb1) rfl ?_ rfl;clear S;intro a S)
   exact lv S (Jl (decide (Bo ≤ Cn)) hb1 (S.tm rfl) rfl) rfl fun a S=>Dl (⟨Keep.refl _ _,S.nf [] rfl ⟨rfl,trivial⟩⟩)
 clear S;rintro a w1 ⟨hk1,S⟩
 refine Va S rfl rfl fun a S=>Dl (wp_ret ?_)
 subst h
 exact Fz S results20 rfl rfl
theorem Nt (w : World) (Ad : Value) (Ao : List An) (Am : Slc (view w []) 5 Ad (Ao.map An.enc)) (r : Int) (h : Iy Ao = some r) :
    Calls prog 27 [Ad].toArray w (Ret w [] fun _ v _=>v = iV r):=by
 refine Fe func27 rfl ntmps27 rfl fun a S=>?_
 unfold Iy at h
 replace S:=S.k1 0 rfl
 refine Fr (Vk S rfl rfl fun a S=>Dl (Fs (Fr (Vm S rfl rfl fun a S=>lv S (Gc Jr (S.tm rfl) (Dy Am)) rfl fun a S=>Vq S Kp rfl rfl rfl ?_))));clear S;intro a S
 refine Dl (Fc h (S.tm rfl) (fun hb1 h=>?_) (fun hb1 h=>?_))
 ·refine Fr (Vk S rfl rfl fun a S=>Dl (wp_ret (Ee ?_)))
  obtain rfl:=Option.some.inj h
  exact Fz S results27 rfl rfl
 ·refine wp_skip (Tn (Fr (AP (κ:=ByteArray) (ν:=Bool) S rfl Value.string Value.bool ?_)));clear S;intro a w1 b1 hz1 hk1 S
  refine Va S rfl rfl fun a S=>Dl (Fs (Fr (Vm S rfl rfl fun a S=>lv S (Gc Jr (S.tm rfl) (Dy Am)) rfl fun a S=>lv S (Rm rfl) rfl fun a S=>Dl ?_)))
  replace S:=(S.nl [.map b1 (La Value.string Value.bool ([] : List (ByteArray × Bool))) ([] : List (ByteArray × Bool)).length] [true] rfl).k4 3 10 11 12 rfl
  obtain ⟨j1,hj1,h⟩:=Gh h
  refine Fv (fun a w'=>∃ x1 : List (ByteArray × Bool),j1 x1 = some r ∧ Sx w [] nov [.map b1 (La Value.string Value.bool x1) x1.length] [] 53 a w') ?_ ?_
  ·refine wp_block (Hr (fun (ys1 : List An) a w'=>∃ i1 : Nat,∃ x1 : List (ByteArray × Bool),(∃ dn,Ao = dn ++ ys1 ∧ dn.length = i1) ∧ Hl j1 ys1 i1 x1 = some r ∧ Sx w [] nov [.map b1 (La Value.string Value.bool x1) x1.length] [(3,.map (some b1)),(10,Ad),(11,iV (Ao.length : Int)),(12,iV (i1 : Int))] 53 a w') List.length Ao ⟨0,([] : List (ByteArray × Bool)),⟨[],rfl,rfl⟩,h,S.nf [true] rfl (subR rfl)⟩ ?_)
   clear S h;rintro ys1 a w2 ⟨i1,x1,⟨dn,hd1,hi1⟩,h,S⟩
   cases ys1 with
   | nil =>
    rw [Hl.eq_1] at h
    refine Fr (Vb S Fu rfl rfl rfl fun a S=>Ld ?_)
    replace S:=S.k5 3 10 11 12 13 rfl
    exact Tn (Fs (wp_cond_false ((S.tm rfl).trans (congrArg Value.bool (Jd hd1 hi1))) (wp_exit (Fj (Fj (Hp (Tn (⟨x1,h,S.nf [true] rfl trivial⟩))))))))
   | cons y1 ys1 =>
    rw [Hl.eq_2] at h
    refine Fr (Vb S Fu rfl rfl rfl fun a S=>Ld ?_)
    replace S:=S.k5 3 10 11 12 13 rfl
    refine Tn (Fs (wp_cond_true ((S.tm rfl).trans (congrArg Value.bool (Hx hd1 hi1))) (wp_skip (Tn (Fs (wp_block (Fs (Fg ?_))))))))
    obtain ⟨b2,o1,hm1,hr1⟩:=Fo (a:=a) (x:=.tmp 10) (y:=.tmp 12) (ty:=0) Jr Am (Il hd1 hi1) rfl (S.tm rfl) (S.tm rfl)
    refine lv S (hr1 _) rfl ?_;clear S;intro a S
    clear hr1
    refine lv S (Ie isAgg43 sizeOf43 (off:=o1) (o:=0) (part:=(An.enc y1)) rfl rfl (S.tm rfl) (hm1.at S.emb0)) rfl fun a S=>Nw S zeroValue43 (cs:=[sV Eo,iV 0,iV 0,iV 0,iV 0]) rfl rfl ?_;clear S;intro a w4 b3 hz2 hk2 S
    refine Kq S (S.tm rfl) (S.tm rfl) (i:=0) (off:=0) rfl sizeOf43 (vs:=(An.enc y1)) rfl rfl rfl rfl ?_;clear S;intro w5 hk3 S
    refine Dl (Fs (wp_block (Fr (Vf Ph S rfl rfl fun a S=>Vl isAgg9 0 S rfl rfl rfl rfl ?_))));clear S;intro a S
    obtain ⟨r1,hr2,h⟩:=Gs h
    refine Eg S (fun _=>Eb (vs:=[sV y1.Key]) ⟨(S.tm rfl),trivial⟩ call40) (Jt _ y1.Key _ hr2) rfl ?_;clear S;intro v1 a w6 hv1 hk4 hn1 S
    subst hv1
    refine Vu S Ip rfl rfl fun a S=>Va S rfl rfl fun a S=>Dl (Fc h (S.tm rfl) (fun hb2 h=>?_) (fun hb2 h=>?_))
    ·refine Fr (Vk S rfl rfl fun a S=>Dl (wp_ret (Gy (Ee (Gy (Ee (Ee ?_)))))))
     refine Gy (Ee (Ee ?_))
     obtain rfl:=Option.some.inj h
     exact Fz S results27 rfl rfl
    ·refine Fr (Vm S rfl rfl fun a S=>Vf Ph S rfl rfl fun a S=>Vl isAgg9 0 S rfl rfl rfl rfl fun a S=>lv S (AQ (kv:=Value.string) (vv:=Value.bool) (m:=x1) (key:=y1.Key) (z:=false) (S.map_at (i:=1) rfl) underlying107 (DO underlying9) zeroValue4 (S.tm rfl) (S.tm rfl)) rfl fun a S=>Va S rfl rfl fun a S=>Ld ?_)
     replace S:=(S.nl [.blk b3 (An.enc y1) 43,.map b1 (La Value.string Value.bool x1) x1.length] [true,true] rfl).k6 3 5 10 11 12 21 rfl
     refine Tn (Fc h (S.tm rfl) (fun hb3 h=>?_) (fun hb3 h=>?_))
     ·refine Fr (Vk S rfl rfl fun a S=>Dl (wp_ret (Gy (Ee (Gy (Ee (Ee ?_)))))))
      refine Gy (Ee (Ee ?_))
      obtain rfl:=Option.some.inj h
      exact Fz S results27 rfl rfl
     ·refine Fr (Vf Td S rfl rfl fun a S=>Vl isAgg3 0 S rfl rfl rfl rfl fun a S=>Eg S (fun _=>Eb (vs:=[iV y1.Heats,iV 1,iV 60]) ⟨(S.tm rfl),rfl,rfl,trivial⟩ call20) (Gq _ y1.Heats 1 60 _ rfl) rfl ?_);clear S;intro v2 a w7 hv2 hk5 hn2 S
      subst hv2
      refine Vu S Ip rfl rfl fun a S=>Vm S rfl rfl fun a S=>Jm 5 (fun a w'=>Keep [] w7 w' ∧ Sx w [] nov [.blk b3 (An.enc y1) 43,.map b1 (La Value.string Value.bool x1) x1.length] [(3,.map (some b1)),(5,.pointer (some ⟨b3,0,none⟩)),(10,Ad),(11,iV (Ao.length : Int)),(12,iV (i1 : Int)),(36,bV ((!(En y1.Heats 1 60)) || (!(En y1.Long 1 3600000))))] 53 a w') ?_ ?_
      ·rcases Bool.eq_false_or_eq_true (!(En y1.Heats 1 60)) with hb4 | hb4
       ·iterate 4 (refine Ik S rfl rfl rfl (Nf hb4) rfl ?_ rfl;clear S;intro a S)
        exact lv S (Mv (!(En y1.Long 1 3600000)) hb4 (S.tm rfl) rfl) rfl fun a S=>Dl (⟨Keep.refl _ _,S.nf [true,true] rfl (subR rfl)⟩)
       ·refine Ej S rfl rfl rfl hb4 (Vf Te S rfl rfl fun a S=>Ej S rfl rfl rfl hb4 (Vl isAgg3 0 S rfl rfl rfl rfl fun a S=>Ej S rfl rfl rfl hb4 (Eg S (fun _=>Eb (vs:=[iV y1.Long,iV 1,iV 3600000]) ⟨(S.tm rfl),rfl,rfl,trivial⟩ call20) (Gq _ y1.Long 1 3600000 _ rfl) rfl ?_)));clear S;intro v3 a w9 hv3 hk6 hn3 S
        subst hv3
        exact Ej S rfl rfl rfl hb4 (Vu S Ip rfl rfl fun a S=>lv S (Mw hb4 (S.tm rfl) (S.tm rfl)) rfl fun a S=>Dl (⟨hk6,S.nf [true,true] rfl (subR rfl)⟩))
      clear S;rintro a w8 ⟨hk7,S⟩
      refine Vm S rfl rfl fun a S=>Jm 5 (fun a w'=>Keep [] w8 w' ∧ Sx w [] nov [.blk b3 (An.enc y1) 43,.map b1 (La Value.string Value.bool x1) x1.length] [(3,.map (some b1)),(5,.pointer (some ⟨b3,0,none⟩)),(10,Ad),(11,iV (Ao.length : Int)),(12,iV (i1 : Int)),(42,bV (((!(En y1.Heats 1 60)) || (!(En y1.Long 1 3600000))) || (!(En y1.Gap 0 3600000))))] 53 a w') ?_ ?_
      ·rcases Bool.eq_false_or_eq_true ((!(En y1.Heats 1 60)) || (!(En y1.Long 1 3600000))) with hb5 | hb5
       ·iterate 4 (refine Ik S rfl rfl rfl (Nf hb5) rfl ?_ rfl;clear S;intro a S)
        exact lv S (Mv (!(En y1.Gap 0 3600000)) hb5 (S.tm rfl) rfl) rfl fun a S=>Dl (⟨Keep.refl _ _,S.nf [true,true] rfl (subR rfl)⟩)
       ·refine Ej S rfl rfl rfl hb5 (Vf Yl S rfl rfl fun a S=>Ej S rfl rfl rfl hb5 (Vl isAgg3 0 S rfl rfl rfl rfl fun a S=>Ej S rfl rfl rfl hb5 (Eg S (fun _=>Eb (vs:=[iV y1.Gap,iV 0,iV 3600000]) ⟨(S.tm rfl),rfl,rfl,trivial⟩ call20) (Gq _ y1.Gap 0 3600000 _ rfl) rfl ?_)));clear S;intro v4 a w11 hv4 hk8 hn4 S
        subst hv4
        exact Ej S rfl rfl rfl hb5 (Vu S Ip rfl rfl fun a S=>lv S (Mw hb5 (S.tm rfl) (S.tm rfl)) rfl fun a S=>Dl (⟨hk8,S.nf [true,true] rfl (subR rfl)⟩))
      clear S;rintro a w10 ⟨hk9,S⟩
      refine Vm S rfl rfl fun a S=>Jm 5 (fun a w'=>Keep [] w10 w' ∧ Sx w [] nov [.blk b3 (An.enc y1) 43,.map b1 (La Value.string Value.bool x1) x1.length] [(3,.map (some b1)),(5,.pointer (some ⟨b3,0,none⟩)),(10,Ad),(11,iV (Ao.length : Int)),(12,iV (i1 : Int)),(48,bV ((((!(En y1.Heats 1 60)) || (!(En y1.Long 1 3600000))) || (!(En y1.Gap 0 3600000))) || (!(En y1.Break 0 3600000))))] 53 a w') ?_ ?_
      ·rcases Bool.eq_false_or_eq_true (((!(En y1.Heats 1 60)) || (!(En y1.Long 1 3600000))) || (!(En y1.Gap 0 3600000))) with hb6 | hb6
       ·iterate 4 (refine Ik S rfl rfl rfl (Nf hb6) rfl ?_ rfl;clear S;intro a S)
        exact lv S (Mv (!(En y1.Break 0 3600000)) hb6 (S.tm rfl) rfl) rfl fun a S=>Dl (⟨Keep.refl _ _,S.nf [true,true] rfl (subR rfl)⟩)
       ·refine Ej S rfl rfl rfl hb6 (Vf CL S rfl rfl fun a S=>Ej S rfl rfl rfl hb6 (Vl isAgg3 0 S rfl rfl rfl rfl fun a S=>Ej S rfl rfl rfl hb6 (Eg S (fun _=>Eb (vs:=[iV y1.Break,iV 0,iV 3600000]) ⟨(S.tm rfl),rfl,rfl,trivial⟩ call20) (Gq _ y1.Break 0 3600000 _ rfl) rfl ?_)));clear S;intro v5 a w13 hv5 hk10 hn5 S
        subst hv5
        exact Ej S rfl rfl rfl hb6 (Vu S Ip rfl rfl fun a S=>lv S (Mw hb6 (S.tm rfl) (S.tm rfl)) rfl fun a S=>Dl (⟨hk10,S.nf [true,true] rfl (subR rfl)⟩))
      clear S;rintro a w12 ⟨hk11,S⟩
      refine Va S rfl rfl fun a S=>Dl (Fc h (S.tm rfl) (fun hb7 h=>?_) (fun hb7 h=>?_))
      ·refine Fr (Vk S rfl rfl fun a S=>Dl (wp_ret (Gy (Ee (Gy (Ee (Ee ?_)))))))
       refine Gy (Ee (Ee ?_))
       obtain rfl:=Option.some.inj h
       exact Fz S results27 rfl rfl
      ·refine wp_skip (Ja (Tn (Fg (Vm S rfl rfl fun a S=>Vf Ph S rfl rfl fun a S=>Vl isAgg9 0 S rfl rfl rfl rfl fun a S=>Xv (kv:=Value.string) (vv:=Value.bool) (m:=x1) (key:=y1.Key) (val:=true) S (i:=1) rfl underlying107 (DO underlying9) (S.tm rfl) (S.tm rfl) rfl ?_))));clear S;intro w14 hk12 S
       exact Ld (Ja (Tn (Fg (Vq S Gf rfl rfl rfl fun a S=>Vm S rfl rfl fun a S=>Dl (⟨ys1,⟨i1 + 1,(Po x1 y1.Key true),⟨_,(hd1).trans (List.append_cons _ _ _),by simp [hi1]⟩,h,S.nf [false,true] rfl ⟨rfl,rfl,rfl,(congrArg (fun z=>some (Value.int .i64 z)) (Hy hd1 hi1 (Km Am))),trivial⟩⟩,Nat.lt_succ_self _⟩)))))
  clear S h;rintro a w3 ⟨x1,h,S⟩;rw [hj1] at h;clear hj1 j1
  refine Tn (Fr (Vk S rfl rfl fun a S=>Dl (wp_ret ?_)))
  obtain rfl:=Option.some.inj h
  exact Fz S results27 rfl rfl
theorem Uf (w : World) (Av : An) (Cz : Nat) (Dn : ByteArray) (Da : (view w []) Cz = some (.cells [sV Dn].toArray 9 (0,0))) (r : Bool) (h : Nx Av Dn = r) :
    Calls prog 49 [.agg (An.enc Av).toArray,.pointer (some ⟨Cz,0,none⟩)].toArray w (Ret w [] fun _ v _=>v = bV r):=by
 refine Fe func49 rfl ntmps49 rfl fun a S=>?_
 unfold Nx at h
 replace S:=S.k2 0 1 rfl
 refine Fr (Ox S (S.tm rfl) (cs:=(An.enc Av)) rfl rfl ?_);clear S;intro a w1 b1 hz1 hk1 S
 refine Vk S rfl rfl fun a S=>Dz (Vf Ph S rfl rfl fun a S=>Vl isAgg9 0 S rfl rfl rfl rfl fun a S=>lv S (Ha isAgg9 (off:=0) (o:=0) (S.tm rfl) ((CA Da).at S.emb0) rfl) rfl fun a S=>Vb S Sv rfl rfl rfl fun a S=>Va S rfl rfl fun a S=>Ld ?_)
 refine Tn (wp_ret ?_)
 subst h
 exact Fz S results49 rfl rfl
theorem Na (w : World) (Bc : Value) (Ba : List An) (Bu : Slc (view w []) 5 Bc (Ba.map An.enc)) (Cc : Nat) (Cr : ByteArray) (Cw : (view w []) Cc = some (.cells [sV Cr].toArray 9 (0,0))) (r : Int) (h : Ia Ba Cr = r) :
    Calls prog 48 [Bc,.func (.func 49) #[] #[.pointer (some ⟨Cc,0,none⟩)]].toArray w (Ret w [] fun _ v _=>v = iV r):=by
 refine Fe func48 rfl ntmps48 rfl fun a S=>?_
 unfold Ia at h
 replace S:=S.k2 0 1 rfl
 refine Fr (Vk S rfl rfl fun a S=>Dl (Fs (Fr (Vm S rfl rfl fun a S=>lv S (Gc Jr (S.tm rfl) (Dy Bu)) rfl fun a S=>lv S (Rm rfl) rfl ?_))));clear S;intro a S
 refine Dl ?_
 replace S:=S.k4 0 1 7 8 rfl
 obtain ⟨j1,hj1,h⟩:=Gh h
 refine Fv (fun a w'=>j1 = r ∧ Sx w [] nov [] [] 19 a w') ?_ ?_
 ·refine wp_block (Hr (fun (ys1 : List An) a w'=>∃ i1 : Nat,(∃ dn,Ba = dn ++ ys1 ∧ dn.length = i1) ∧ Ex Cr j1 ys1 i1 = r ∧ Sx w [] nov [] [(0,Bc),(1,.func (.func 49) #[] #[.pointer (some ⟨Cc,0,none⟩)]),(7,iV (Ba.length : Int)),(8,iV (i1 : Int))] 19 a w') List.length Ba ⟨0,⟨[],rfl,rfl⟩,h,S.nf [] rfl (subR rfl)⟩ ?_)
  clear S h;rintro ys1 a w1 ⟨i1,⟨dn,hd1,hi1⟩,h,S⟩
  cases ys1 with
  | nil =>
   rw [Ex.eq_1] at h
   refine Fr (Vb S Fu rfl rfl rfl fun a S=>Ld ?_)
   replace S:=S.k5 0 1 7 8 9 rfl
   exact Tn (Fs (wp_cond_false ((S.tm rfl).trans (congrArg Value.bool (Jd hd1 hi1))) (wp_exit (Fj (Fj (Hp (Tn (⟨h,S.nf [] rfl trivial⟩))))))))
  | cons y1 ys1 =>
   rw [Ex.eq_2] at h
   refine Fr (Vb S Fu rfl rfl rfl fun a S=>Ld ?_)
   replace S:=S.k5 0 1 7 8 9 rfl
   refine Tn (Fs (wp_cond_true ((S.tm rfl).trans (congrArg Value.bool (Hx hd1 hi1))) (wp_skip (Tn (Fs (wp_block (Fr (Vm S rfl rfl fun a S=>Va S rfl rfl ?_))))))));clear S;intro a S
   refine Dl (Fs (Fg ?_))
   iterate 3 (refine Vm S rfl rfl ?_;clear S;intro a S)
   obtain ⟨b1,o1,hm1,hr1⟩:=Fo (a:=a) (x:=.tmp 12) (y:=.tmp 13) (ty:=0) Jr Bu (Il hd1 hi1) rfl (S.tm rfl) (S.tm rfl)
   refine lv S (hr1 _) rfl ?_;clear S;intro a S
   clear hr1
   refine lv S (Ie isAgg43 sizeOf43 (off:=o1) (o:=0) (part:=(An.enc y1)) rfl rfl (S.tm rfl) (hm1.at S.emb0)) rfl fun a S=>Eg S (fun _=>Ro (cap:=[.pointer (some ⟨Cc,0,none⟩)]) (S.tm rfl) (vs:=[.agg (An.enc y1).toArray]) ⟨(S.tm rfl),trivial⟩ call49) (Uf _ y1 Cc Cr ((S.le_arg Fk) _ _ Cw) _ rfl) rfl ?_;clear S;intro v1 a w3 hv1 hk1 hn1 S
   subst hv1
   refine Dl (Fc h (S.tm rfl) (fun hb1 h=>?_) (fun hb1 h=>?_))
   ·refine Fr (Vm S rfl rfl fun a S=>Va S rfl rfl fun a S=>Ld ?_)
    replace S:=S.k1 4 rfl
    refine Tn (wp_ret (Gy (Ee (Ee (Gy (Ee (Ee ?_)))))))
    subst h
    exact Fz S results48 rfl rfl
   ·exact wp_skip (Ja (Tn (Fg (Vq S Gf rfl rfl rfl fun a S=>Vm S rfl rfl fun a S=>Dl (⟨ys1,⟨i1 + 1,⟨_,(hd1).trans (List.append_cons _ _ _),by simp [hi1]⟩,h,S.nf [] rfl ⟨rfl,rfl,rfl,(congrArg (fun z=>some (Value.int .i64 z)) (Hy hd1 hi1 (Km Bu))),trivial⟩⟩,Nat.lt_succ_self _⟩)))))
 clear S h;rintro a w2 ⟨h,S⟩;rw [hj1] at h;clear hj1 j1
 refine Tn (Fr (Vk S rfl rfl fun a S=>Dl (wp_ret ?_)))
 subst h
 exact Fz S results48 rfl rfl
theorem Qc (w : World) (Ad : Value) (Ao : List An) (Am : Slc (view w []) 5 Ad (Ao.map An.enc)) (Dk : ByteArray) (r : Int) (h : Ea Ao Dk = r) :
    Calls prog 28 [Ad,sV Dk].toArray w (Ret w [] fun _ v _=>v = iV r):=by
 refine Fe func28 rfl ntmps28 rfl fun a S=>?_
 unfold Ea at h
 replace S:=S.k2 0 1 rfl
 refine Fr (Ox S (S.tm rfl) (cs:=[sV Dk]) rfl rfl ?_);clear S;intro a w1 b1 hz1 hk1 S
 refine Vk S rfl rfl fun a S=>Dz (Vm S rfl rfl fun a S=>lv S (Xt (us:=#[]) (xs:=[].toArray) (ys:=[.tmp 3].toArray) (by simp) (evA ⟨(S.tm rfl),trivial⟩ (vs:=[.pointer (some ⟨b1,0,none⟩)]))) rfl fun a S=>Eg S (fun _=>Eb (vs:=[Ad,.func (.func 49) #[] #[.pointer (some ⟨b1,0,none⟩)]]) ⟨(S.tm rfl),(S.tm rfl),trivial⟩ call48) (Na _ Ad Ao (Am.mono (S.le_arg Fk)) b1 Dk (S.blk_view (i:=0) rfl ((Gm (e':=.blk b1 [sV Dk] 9)) _ rfl)) _ rfl) rfl ?_);clear S;intro v1 a w2 hv1 hk2 hn1 S
 subst hv1
 refine Va S rfl rfl fun a S=>Dl (wp_ret ?_)
 subst h
 exact Fz S results28 rfl rfl
theorem Pl (w : World) (s t : ByteArray) (r : Int) (h : Hw s t = r) : Calls prog 24 [.string s,.string t].toArray w (Ret w [] fun _ v _=>v = .int .i64 r):=by
  subst h
  exact DM (Any.strings_Compare Tryz.lays106 s t w)
theorem Sl (w : World) (Av : Int) (r : Bool) (h : Nn Av = r) :
    Calls prog 78 [iV Av].toArray w (Ret w [] fun _ v _=>v = bV r):=by
 refine Fe func78 rfl ntmps78 rfl fun a S=>?_
 unfold Nn at h
 replace S:=S.k1 0 rfl
 refine Fr (Vk S rfl rfl fun a S=>Dz (Vm S rfl rfl fun a S=>Vm S rfl rfl fun a S=>Vb S Mj rfl rfl rfl fun a S=>Va S rfl rfl ?_));clear S;intro a S
 refine Dl (wp_ret ?_)
 subst h
 exact Fz S results78 rfl rfl
theorem Nb (w : World) (Av : Int) (Bq : Int) (r : Int) (h : Ga Av Bq = r) :
    Calls prog 47 [iV Av,iV Bq].toArray w (Ret w [] fun _ v _=>v = iV r):=by
 refine Fe func47 rfl ntmps47 rfl fun a S=>?_
 unfold Ga at h
 replace S:=S.k2 0 1 rfl
 refine Fr (Vk S rfl rfl fun a S=>Dz (Vm S rfl rfl fun a S=>Eg S (fun _=>Eb (vs:=[iV Av]) ⟨(S.tm rfl),trivial⟩ call78) (Sl _ Av _ rfl) rfl ?_));clear S;intro v1 a w1 hv1 hk1 hn1 S
 subst hv1
 refine Va S rfl rfl fun a S=>Dz (Vm S rfl rfl fun a S=>Eg S (fun _=>Eb (vs:=[iV Bq]) ⟨(S.tm rfl),trivial⟩ call78) (Sl _ Bq _ rfl) rfl ?_);clear S;intro v2 a w2 hv2 hk2 hn2 S
 subst hv2
 refine Va S rfl rfl fun a S=>Dl (Fs (Fr (Vm S rfl rfl fun a S=>Dl (Fc h (S.tm rfl) (fun hb1 h=>?_) (fun hb1 h=>?_)))))
 ·refine Fs (Fr (Vm S rfl rfl fun a S=>Dl (Fc h (S.tm rfl) (fun hb2 h=>?_) (fun hb2 h=>?_))))
  ·refine Fr (Vk S rfl rfl fun a S=>Dl (wp_ret (Ee (Ee ?_))))
   subst h
   exact Fz S results47 rfl rfl
  ·refine wp_skip (Tn (Fr (Vk S rfl rfl fun a S=>Dl (wp_ret (Ee ?_)))))
   subst h
   exact Fz S results47 rfl rfl
 ·refine wp_skip (Tn (Fs (Fr (Vm S rfl rfl fun a S=>Dl (Fc h (S.tm rfl) (fun hb3 h=>?_) (fun hb3 h=>?_))))))
  ·refine Fr (Vk S rfl rfl fun a S=>Dl (wp_ret (Ee ?_)))
   subst h
   exact Fz S results47 rfl rfl
  ·refine wp_skip (Tn (Fs (Fr (Vm S rfl rfl fun a S=>Vm S rfl rfl fun a S=>Vb S Fu rfl rfl rfl fun a S=>Dl (Fc h (S.tm rfl) (fun hb4 h=>?_) (fun hb4 h=>?_))))))
   ·refine Fr (Vk S rfl rfl fun a S=>Dl (wp_ret (Ee ?_)))
    subst h
    exact Fz S results47 rfl rfl
   ·refine wp_skip (Tn (Fs (Fr (Vm S rfl rfl fun a S=>Vm S rfl rfl fun a S=>Vb S Kp rfl rfl rfl fun a S=>Ld ?_))))
    replace S:=S.k1 19 rfl
    refine Tn (Fc h (S.tm rfl) (fun hb5 h=>?_) (fun hb5 h=>?_))
    ·refine Fr (Vk S rfl rfl fun a S=>Dl (wp_ret (Ee ?_)))
     subst h
     exact Fz S results47 rfl rfl
    ·refine wp_skip (Tn (Fr (Vk S rfl rfl fun a S=>Dl (wp_ret ?_))))
     subst h
     exact Fz S results47 rfl rfl
theorem Vg (w : World) (Dj : Value) (Db : List Int) (Dc : Slc (view w []) 1 Dj (Db.map eInt)) (r : Int) (h : Mk Db = r) :
    Calls prog 46 [Dj].toArray w (Ret w [] fun _ v _=>v = iV r):=by
 refine Fe func46 rfl ntmps46 rfl fun a S=>?_
 unfold Mk at h
 replace S:=S.k1 0 rfl
 refine Fr (Vk S rfl rfl fun a S=>Dz (Vk S rfl rfl fun a S=>Dl (Fs ?_)))
 refine Fr (Vm S rfl rfl fun a S=>lv S (Gc Js (S.tm rfl) (Dy Dc)) rfl fun a S=>lv S (Rm rfl) rfl fun a S=>Dl ?_)
 replace S:=S.k4 3 6 7 8 rfl
 obtain ⟨j1,hj1,h⟩:=Gh h
 refine Fv (fun a w'=>j1 = r ∧ Sx w [] nov [] [(3,iV 0)] 18 a w') ?_ ?_
 ·refine wp_block (Hr (fun (ys1 : List Int) a w'=>∃ i1 : Nat,(∃ dn,Db = dn ++ ys1 ∧ dn.length = i1) ∧ Kg j1 ys1 i1 = r ∧ Sx w [] nov [] [(3,iV 0),(6,Dj),(7,iV (Db.length : Int)),(8,iV (i1 : Int))] 18 a w') List.length Db ⟨0,⟨[],rfl,rfl⟩,h,S.nf [] rfl (subR rfl)⟩ ?_)
  clear S h;rintro ys1 a w1 ⟨i1,⟨dn,hd1,hi1⟩,h,S⟩
  cases ys1 with
  | nil =>
   rw [Kg.eq_1] at h
   refine Fr (Vb S Fu rfl rfl rfl fun a S=>Ld ?_)
   replace S:=S.k5 3 6 7 8 9 rfl
   exact Tn (Fs (wp_cond_false ((S.tm rfl).trans (congrArg Value.bool (Jd hd1 hi1))) (wp_exit (Fj (Fj (Hp (Tn (⟨h,S.nf [] rfl ⟨rfl,trivial⟩⟩))))))))
  | cons y1 ys1 =>
   rw [Kg.eq_2] at h
   refine Fr (Vb S Fu rfl rfl rfl fun a S=>Ld ?_)
   replace S:=S.k5 3 6 7 8 9 rfl
   refine Tn (Fs (wp_cond_true ((S.tm rfl).trans (congrArg Value.bool (Hx hd1 hi1))) (wp_skip (Tn (Fs (wp_block (Fs (Fg ?_))))))))
   obtain ⟨b1,o1,hm1,hr1⟩:=Fo (a:=a) (x:=.tmp 6) (y:=.tmp 8) (ty:=0) Js Dc (Il hd1 hi1) rfl (S.tm rfl) (S.tm rfl)
   refine lv S (hr1 _) rfl ?_;clear S;intro a S
   clear hr1
   refine lv S (Ha isAgg3 (off:=o1) (o:=0) (S.tm rfl) (hm1.at S.emb0) rfl) rfl fun a S=>Va S rfl rfl fun a S=>Dz (Vm S rfl rfl fun a S=>Vm S rfl rfl fun a S=>Vb S Mj rfl rfl rfl fun a S=>Dl ?_)
   refine Fc h (S.tm rfl) (fun hb1 h=>?_) (fun hb1 h=>?_)
   ·refine Fr (Vm S rfl rfl fun a S=>Va S rfl rfl fun a S=>Dl (wp_ret (Gy (Ee (Ee (Gy ?_))))))
    refine Ee (Ee ?_)
    subst h
    exact Fz S results46 rfl rfl
   ·exact wp_skip (Ja (Tn (Fg (Vq S Gf rfl rfl rfl fun a S=>Vm S rfl rfl fun a S=>Dl (⟨ys1,⟨i1 + 1,⟨_,(hd1).trans (List.append_cons _ _ _),by simp [hi1]⟩,h,S.nf [] rfl ⟨rfl,rfl,rfl,(congrArg (fun z=>some (Value.int .i64 z)) (Hy hd1 hi1 (Km Dc))),trivial⟩⟩,Nat.lt_succ_self _⟩)))))
 clear S h;rintro a w2 ⟨h,S⟩;rw [hj1] at h;clear hj1 j1
 refine Tn (Fr (Vm S rfl rfl fun a S=>Va S rfl rfl fun a S=>Dl (wp_ret ?_)))
 subst h
 exact Fz S results46 rfl rfl
set_option maxRecDepth 20000 in
theorem Sm (w : World) (Bb : Eh) (Bf : Eh) (r : Int) (h : Jz Bb Bf = r) :
    Calls prog 41 [.agg (Eh.enc Bb).toArray,.agg (Eh.enc Bf).toArray].toArray w (Ret w [] fun _ v _=>v = iV r):=by
 refine Fe func41 rfl ntmps41 rfl fun a S=>?_
 unfold Jz at h
 replace S:=S.k2 0 1 rfl
 refine Fr (Ox S (S.tm rfl) (cs:=(Eh.enc Bb)) rfl rfl ?_);clear S;intro a w1 b1 hz1 hk1 S
 refine Ox S (S.tm rfl) (cs:=(Eh.enc Bf)) rfl rfl ?_;clear S;intro a w2 b2 hz2 hk2 S
 refine Vk S rfl rfl fun a S=>Dl (Fs (Gz [] ([]) Tryz.mixed S rfl (by kernel_rfl) ?_));clear S;intro w8 hk8 hsel S
 refine Ec 0 S hsel rfl rfl rfl (by kernel_rfl) (by kernel_rfl) rfl (fun _ hw=>(Gi Qq (S.tm rfl))) fun a S=>Ec 1 S hsel rfl rfl rfl (by kernel_rfl) (by kernel_rfl) rfl (fun _ hw=>(Ha isAgg9 (off:=0) (o:=0) (S.tm rfl) ((S.blk_mem (i:=1) (cells:=(Eh.enc Bb)) (b:=b1) (T:=52) rfl (Gm (e':=.blk b1 (Eh.enc Bb) 52))).kept hw) rfl)) fun a S=>Ec 2 S hsel rfl rfl rfl (by kernel_rfl) (by kernel_rfl) rfl (fun _ hw=>(Gi Qq (S.tm rfl))) fun a S=>Ec 3 S hsel rfl rfl rfl (by kernel_rfl) (by kernel_rfl) rfl (fun _ hw=>(Ha isAgg9 (off:=0) (o:=0) (S.tm rfl) ((S.blk_mem (i:=0) (cells:=(Eh.enc Bf)) (b:=b2) (T:=52) rfl (Gm (e':=.blk b2 (Eh.enc Bf) 52))).kept hw) rfl)) fun a S=>Ec 5 S hsel rfl rfl rfl (by kernel_rfl) (by kernel_rfl) rfl (fun _ hw=>(Gi Wj (S.tm rfl))) fun a S=>Ec 6 S hsel rfl rfl rfl (by kernel_rfl) (by kernel_rfl) rfl (fun _ hw=>(Ha isAgg9 (off:=0) (o:=1) (S.tm rfl) ((S.blk_mem (i:=1) (cells:=(Eh.enc Bb)) (b:=b1) (T:=52) rfl (Gm (e':=.blk b1 (Eh.enc Bb) 52))).kept hw) rfl)) fun a S=>Ec 7 S hsel rfl rfl rfl (by kernel_rfl) (by kernel_rfl) rfl (fun _ hw=>(Gi Wj (S.tm rfl))) fun a S=>Ec 8 S hsel rfl rfl rfl (by kernel_rfl) (by kernel_rfl) rfl (fun _ hw=>(Ha isAgg9 (off:=0) (o:=1) (S.tm rfl) ((S.blk_mem (i:=0) (cells:=(Eh.enc Bf)) (b:=b2) (T:=52) rfl (Gm (e':=.blk b2 (Eh.enc Bf) 52))).kept hw) rfl)) fun a S=>Ec 10 S hsel rfl rfl rfl (by kernel_rfl) (by kernel_rfl) rfl (fun _ hw=>(Gi Rz (S.tm rfl))) fun a S=>Ec 11 S hsel rfl rfl rfl (by kernel_rfl) (by kernel_rfl) rfl (fun _ hw=>(Ha isAgg3 (off:=0) (o:=2) (S.tm rfl) ((S.blk_mem (i:=1) (cells:=(Eh.enc Bb)) (b:=b1) (T:=52) rfl (Gm (e':=.blk b1 (Eh.enc Bb) 52))).kept hw) rfl)) fun a S=>Ec 12 S hsel rfl rfl rfl (by kernel_rfl) (by kernel_rfl) rfl (fun _ hw=>(Gi Rz (S.tm rfl))) ?_;clear S;intro a S
 refine Ec 13 S hsel rfl rfl rfl (by kernel_rfl) (by kernel_rfl) rfl (fun _ hw=>(Ha isAgg3 (off:=0) (o:=2) (S.tm rfl) ((S.blk_mem (i:=0) (cells:=(Eh.enc Bf)) (b:=b2) (T:=52) rfl (Gm (e':=.blk b2 (Eh.enc Bf) 52))).kept hw) rfl)) fun a S=>Fy 4 (by kernel_rfl) rfl (Eg S (fun _=>Eb (vs:=[sV Bb.Who,sV Bf.Who]) ⟨(S.tm rfl),(S.tm rfl),trivial⟩ call24) (Pl _ Bb.Who Bf.Who _ rfl) rfl ?_);clear S;intro v5 a w9 hv5 hk9 hn5 S
 subst hv5
 refine Ld (Gr hk9 (Fy 9 (by kernel_rfl) rfl (Eg S (fun _=>Eb (vs:=[sV Bb.Item,sV Bf.Item]) ⟨(S.tm rfl),(S.tm rfl),trivial⟩ call24) (Pl _ Bb.Item Bf.Item _ rfl) rfl ?_)));clear S;intro v6 a w10 hv6 hk10 hn6 S
 subst hv6
 refine Ld (Gr hk10 (Fy 14 (by kernel_rfl) rfl (Eg S (fun _=>Eb (vs:=[iV Bb.Heat,iV Bf.Heat]) ⟨(S.tm rfl),(S.tm rfl),trivial⟩ call47) (Nb _ Bb.Heat Bf.Heat _ rfl) rfl ?_)));clear S;intro v7 a w11 hv7 hk11 hn7 S
 subst hv7
 refine Ld (Gr hk11 (Fy 15 (by kernel_rfl) rfl (Ff S underlying22 sizeOf3 zeroValue3 rfl rfl (pv:=[(0,iV (Hw Bb.Who Bf.Who)),(1,iV (Hw Bb.Item Bf.Item)),(2,iV (Ga Bb.Heat Bf.Heat))]) ⟨rfl,(S.tm rfl),rfl,(S.tm rfl),rfl,(S.tm rfl),trivial⟩ (cs:=[iV (Hw Bb.Who Bf.Who),iV (Hw Bb.Item Bf.Item),iV (Ga Bb.Heat Bf.Heat)]) (by kernel_rfl) rfl ?_)));clear S;intro a w12 b4 hz4 hk12 S
 refine Ld (Gr hk12 (Fy 16 (by kernel_rfl) rfl (Eg S (fun _=>Eb (vs:=[.slice (some ⟨b4,0,none⟩) 3 3]) ⟨(S.tm rfl),trivial⟩ call46) (Vg _ (.slice (some ⟨b4,0,none⟩) 3 3) [(Hw Bb.Who Bf.Who),(Hw Bb.Item Bf.Item),(Ga Bb.Heat Bf.Heat)] (Ob Ge S (i:=0) rfl rfl rfl rfl ((Gm (e':=.blk b4 [iV (Hw Bb.Who Bf.Who),iV (Hw Bb.Item Bf.Item),iV (Ga Bb.Heat Bf.Heat)] 3)) _ rfl)) _ rfl) rfl ?_)));clear S;intro v8 a w13 hv8 hk13 hn8 S
 subst hv8
 refine Ld (Gr hk13 (Jy [17] hsel (by kernel_rfl) rfl ?_))
 clear hsel
 refine Gb S rfl (Ra (S.tm rfl)) rfl fun a S=>Ix ?_
 replace S:=S.n0.k1 4 rfl
 refine Tn (wp_ret ?_)
 subst h
 exact Fz S results41 rfl rfl
set_option maxRecDepth 20000 in
theorem Qh (w : World) (Ah : Value) (Ak : List An) (Bd : Slc (view w []) 5 Ah (Ak.map An.enc)) (Ad : Value) (Ao : List Eh) (Am : Slc (view w []) 3 Ad (Ao.map Eh.enc)) (r : Int) (h : Iz Ak Ao = some r) :
    Calls prog 19 [Ah,Ad].toArray w (Ret w [] fun _ v _=>v = iV r):=by
 refine Fe func19 rfl ntmps19 rfl fun a S=>?_
 unfold Iz at h
 replace S:=S.k2 0 1 rfl
 refine Fr (Vk S rfl rfl fun a S=>Dl (Fs (Fr (Vm S rfl rfl ?_))));clear S;intro a S
 obtain ⟨r1,hr1,h⟩:=Gs h
 refine Eg S (fun _=>Eb (vs:=[Ah]) ⟨(S.tm rfl),trivial⟩ call27) (Nt _ Ah Ak (Bd.mono (S.le_arg Fk)) _ hr1) rfl ?_;clear S;intro v1 a w1 hv1 hk1 hn1 S
 subst hv1
 refine Va S rfl rfl fun a S=>Dz (Vm S rfl rfl fun a S=>Vq S Mj rfl rfl rfl fun a S=>Dl (Fc h (S.tm rfl) (fun hb1 h=>?_) (fun hb1 h=>?_)))
 ·refine Fr (Vm S rfl rfl fun a S=>Va S rfl rfl fun a S=>Dl (wp_ret (Ee ?_)))
  obtain rfl:=Option.some.inj h
  exact Fz S results19 rfl rfl
 ·refine wp_skip (Tn (Fs (Fr (Vm S rfl rfl fun a S=>lv S (Gc Si (S.tm rfl) (Dy Am)) rfl fun a S=>Vq S Kp rfl rfl rfl fun a S=>Dl (Fc h (S.tm rfl) (fun hb2 h=>?_) (fun hb2 h=>?_))))))
  ·refine Fr (Vk S rfl rfl fun a S=>Dl (wp_ret (Ee ?_)))
   obtain rfl:=Option.some.inj h
   exact Fz S results19 rfl rfl
  ·refine wp_skip (Tn (Fs (Fr (Vm S rfl rfl fun a S=>lv S (Gc Si (S.tm rfl) (Dy Am)) rfl fun a S=>lv S (Rm rfl) rfl fun a S=>Dl ?_))))
   replace S:=S.k5 0 1 17 18 19 rfl
   obtain ⟨j1,hj1,h⟩:=Gh h
   refine Fv (fun a w'=>j1 = some r ∧ Sx w [] nov [] [] 56 a w') ?_ ?_
   ·refine wp_block (Hr (fun (ys1 : List Eh) a w'=>∃ i1 : Nat,(∃ dn,Ao = dn ++ ys1 ∧ dn.length = i1) ∧ Hm Ak Ao j1 ys1 i1 = some r ∧ Sx w [] nov [] [(0,Ah),(1,Ad),(17,Ad),(18,iV (Ao.length : Int)),(19,iV (i1 : Int))] 56 a w') List.length Ao ⟨0,⟨[],rfl,rfl⟩,h,S.nf [] rfl (subR rfl)⟩ ?_)
    clear S h;rintro ys1 a w2 ⟨i1,⟨dn,hd1,hi1⟩,h,S⟩
    cases ys1 with
    | nil =>
     rw [Hm.eq_1] at h
     refine Fr (Vb S Fu rfl rfl rfl fun a S=>Ld ?_)
     replace S:=S.k6 0 1 17 18 19 20 rfl
     exact Tn (Fs (wp_cond_false ((S.tm rfl).trans (congrArg Value.bool (Jd hd1 hi1))) (wp_exit (Fj (Fj (Hp (Tn (⟨h,S.nf [] rfl trivial⟩))))))))
    | cons y1 ys1 =>
     rw [Hm.eq_2] at h
     refine Fr (Vb S Fu rfl rfl rfl fun a S=>Ld ?_)
     replace S:=S.k6 0 1 17 18 19 20 rfl
     refine Tn (Fs (wp_cond_true ((S.tm rfl).trans (congrArg Value.bool (Hx hd1 hi1))) (wp_skip (Tn (Fs (wp_block (Fr (Vm S rfl rfl ?_))))))));clear S;intro a S
     obtain ⟨b1,o1,hm1,hr2⟩:=Fo (a:=a) (x:=.tmp 17) (y:=.tmp 19) (ty:=0) Si Am (Il hd1 hi1) rfl (S.tm rfl) (S.tm rfl)
     refine lv S (hr2 _) rfl ?_;clear S;intro a S
     clear hr2
     refine lv S (Ie isAgg52 sizeOf52 (off:=o1) (o:=0) (part:=(Eh.enc y1)) rfl rfl (S.tm rfl) (hm1.at S.emb0)) rfl fun a S=>Nw S zeroValue52 (cs:=[sV Eo,sV Eo,iV 0]) rfl rfl ?_;clear S;intro a w4 b2 hz1 hk2 S
     refine Va S rfl rfl fun a S=>Kq S (S.tm rfl) (S.tm rfl) (i:=0) (off:=0) rfl sizeOf52 (vs:=(Eh.enc y1)) rfl rfl rfl rfl ?_;clear S;intro w5 hk3 S
     refine Dl (Fs (Fr (Vf Qq S rfl rfl fun a S=>Vl isAgg9 0 S rfl rfl rfl rfl ?_)));clear S;intro a S
     obtain ⟨r2,hr3,h⟩:=Gs h
     refine Eg S (fun _=>Eb (vs:=[sV y1.Who]) ⟨(S.tm rfl),trivial⟩ call40) (Jt _ y1.Who _ hr3) rfl ?_;clear S;intro v2 a w6 hv2 hk4 hn2 S
     subst hv2
     refine Vu S Ip rfl rfl fun a S=>Ld ?_
     replace S:=(S.nl [.blk b2 (Eh.enc y1) 52] [true] rfl).k8 0 1 6 7 17 18 19 27 rfl
     refine Tn (Fc h (S.tm rfl) (fun hb3 h=>?_) (fun hb3 h=>?_))
     ·refine Fr (Vk S rfl rfl fun a S=>Dl (wp_ret (Ee (Gy (Ee (Ee (Gy ?_)))))))
      refine Ee (Ee ?_)
      obtain rfl:=Option.some.inj h
      exact Fz S results19 rfl rfl
     ·refine wp_skip (Tn (Fr (Vm S rfl rfl fun a S=>Vf Wj S rfl rfl fun a S=>Vl isAgg9 0 S rfl rfl rfl rfl fun a S=>Eg S (fun _=>Eb (vs:=[Ah,sV y1.Item]) ⟨(S.tm rfl),(S.tm rfl),trivial⟩ call28) (Qc _ Ah Ak (Bd.mono (S.le_arg Fk)) y1.Item _ rfl) rfl ?_)));clear S;intro v3 a w7 hv3 hk5 hn3 S
      subst hv3
      refine Va S rfl rfl fun a S=>Dl (Fs (Fr (Vm S rfl rfl fun a S=>Vq S Fu rfl rfl rfl fun a S=>Ld ?_)))
      replace S:=S.k9 0 1 6 7 8 17 18 19 33 rfl
      refine Tn (Fc h (S.tm rfl) (fun hb4 h=>?_) (fun hb4 h=>?_))
      ·refine Fr (Vk S rfl rfl fun a S=>Dl (wp_ret (Ee (Gy (Ee (Ee (Gy ?_)))))))
       refine Ee (Ee ?_)
       obtain rfl:=Option.some.inj h
       exact Fz S results19 rfl rfl
      ·refine wp_skip (Tn (Fs (Fs ?_)))
       obtain ⟨hc1,h⟩:=Hs h
       refine Gz [] ([]) Tryz.mixed S rfl (by kernel_rfl) ?_;clear S;intro w9 hk7 hsel S
       refine Ec 0 S hsel rfl rfl rfl (by kernel_rfl) (by kernel_rfl) rfl (fun _ hw=>(Gi Rz (S.tm rfl))) fun a S=>Ec 1 S hsel rfl rfl rfl (by kernel_rfl) (by kernel_rfl) rfl (fun _ hw=>(Ha isAgg3 (off:=0) (o:=2) (S.tm rfl) ((S.blk_mem (i:=0) (cells:=(Eh.enc y1)) (b:=b2) (T:=52) rfl (Gm (e':=.blk b2 (Eh.enc y1) 52))).kept hw) rfl)) fun a S=>Ec 2 S hsel rfl rfl rfl (by kernel_rfl) (by kernel_rfl) rfl (fun _ hw=>(Rm (S.tm rfl))) fun a S=>Ec 3 S hsel rfl rfl rfl (by kernel_rfl) (by kernel_rfl) rfl (fun _ hw=>(Rm (S.tm rfl))) ?_;clear S;intro a S
       obtain ⟨b4,o3,hm3,hr5⟩:=Fo (a:=a) (x:=.tmp 36) (y:=.tmp 37) (ty:=0) Jr (Bd.mono (S.le_arg Fk)) (Ef hc1).1 (Ef hc1).2 (S.tm rfl) (S.tm rfl)
       refine Ec 4 S hsel rfl rfl rfl (by kernel_rfl) (by kernel_rfl) rfl (fun _ hw=>hr5 _) ?_;clear S;intro a S
       clear hr5
       refine Ec 5 S hsel rfl rfl rfl (by kernel_rfl) (by kernel_rfl) rfl (fun _ hw=>(Gi Td (S.tm rfl))) fun a S=>Ec 6 S hsel rfl rfl rfl (by kernel_rfl) (by kernel_rfl) rfl (fun _ hw=>(Ha isAgg3 (off:=o3) (o:=1) (S.tm rfl) (hm3.kept hw) rfl)) fun a S=>Fy 7 (by kernel_rfl) rfl (Eg S (fun _=>Eb (vs:=[iV y1.Heat,iV 1,iV ((nth Ak (Ea Ak y1.Item)).Heats)]) ⟨(S.tm rfl),rfl,(S.tm rfl),trivial⟩ call20) (Gq _ y1.Heat 1 ((nth Ak (Ea Ak y1.Item)).Heats) _ rfl) rfl ?_);clear S;intro v5 a w10 hv5 hk8 hn5 S
       subst hv5
       refine Ld (Gr hk8 (Jy [8] hsel (by kernel_rfl) rfl ?_))
       clear hsel
       refine Gb S rfl (Ip (S.tm rfl)) rfl fun a S=>Ix ?_
       replace S:=S.k8 0 1 6 7 17 18 19 42 rfl
       refine Tn (Fc h (S.tm rfl) (fun hb5 h=>?_) (fun hb5 h=>?_))
       ·refine Fr (Vk S rfl rfl fun a S=>Dl (wp_ret (Ee (Gy (Ee (Ee (Gy ?_)))))))
        refine Ee (Ee ?_)
        obtain rfl:=Option.some.inj h
        exact Fz S results19 rfl rfl
       ·refine wp_skip (Tn (Fs ?_))
        obtain ⟨j2,hj2,h⟩:=Gh h
        refine Fv (fun a w'=>∃ x1 : Bool,j2 x1 = some r ∧ Sx w [] nov [] [(0,Ah),(1,Ad),(17,Ad),(18,iV (Ao.length : Int)),(19,iV (i1 : Int)),(54,bV x1)] 56 a w') ?_ ?_
        ·rcases Bool.eq_false_or_eq_true (decide (0 < (i1 : Int))) with hb6 | hb6
         ·replace h:=Qr h hb6
          obtain ⟨hc2,h⟩:=Hs h
          refine Gz [] ([]) Tryz.mixed S rfl (by kernel_rfl) ?_;clear S;intro w13 hk10 hsel S
          refine Ec 0 S hsel rfl rfl rfl (by kernel_rfl) (by kernel_rfl) rfl (fun _ hw=>(Rm (S.tm rfl))) fun a S=>Ec 1 S hsel rfl rfl rfl (by kernel_rfl) (by kernel_rfl) rfl (fun _ hw=>(Kp (S.tm rfl) rfl)) fun a S=>Ec 2 S hsel rfl rfl rfl (by kernel_rfl) (by kernel_rfl) rfl (fun _ hw=>(Rm (S.tm rfl))) fun a S=>Ew 3 S hsel rfl rfl rfl rfl hb6 rfl rfl (by kernel_rfl) (by kernel_rfl) rfl (fun _ hw=>(Rm (S.tm rfl))) fun a S=>Ew 4 S hsel rfl rfl rfl rfl hb6 rfl rfl (by kernel_rfl) (by kernel_rfl) rfl (fun _ hw=>(Rm (S.tm rfl))) fun a S=>Ew 5 S hsel rfl rfl rfl rfl hb6 rfl rfl (by kernel_rfl) (by kernel_rfl) rfl (fun _ hw=>(Iw (S.tm rfl) rfl)) ?_;clear S;intro a S
          obtain ⟨b6,o5,hm5,hr7⟩:=Fo (a:=a) (x:=.tmp 46) (y:=.tmp 48) (ty:=0) Si (Am.mono (S.le_arg Fk)) (Ef hc2).1 (Ef hc2).2 (S.tm rfl) (S.tm rfl)
          refine Ew 6 S hsel rfl rfl rfl rfl hb6 rfl rfl (by kernel_rfl) (by kernel_rfl) rfl (fun _ hw=>hr7 _) ?_;clear S;intro a S
          clear hr7
          refine Ew 7 S hsel rfl rfl rfl rfl hb6 rfl rfl (by kernel_rfl) (by kernel_rfl) rfl (fun _ hw=>(Ie isAgg52 sizeOf52 (off:=o5) (o:=0) (part:=(Eh.enc (nth Ao (W ((i1 : Int) - 1))))) rfl rfl (S.tm rfl) (hm5.kept hw))) fun a S=>Ew 8 S hsel rfl rfl rfl rfl hb6 rfl rfl (by kernel_rfl) (by kernel_rfl) rfl (fun _ hw=>(Ie isAgg52 sizeOf52 (off:=0) (o:=0) (part:=(Eh.enc y1)) rfl rfl (S.tm rfl) ((S.blk_mem (i:=0) (cells:=(Eh.enc y1)) (b:=b2) (T:=52) rfl (Gm (e':=.blk b2 (Eh.enc y1) 52))).kept hw))) fun a S=>Fy 9 (by kernel_rfl) rfl (Ej S rfl rfl rfl hb6 (Eg S (fun _=>Eb (vs:=[.agg (Eh.enc (nth Ao (W ((i1 : Int) - 1)))).toArray,.agg (Eh.enc y1).toArray]) ⟨(S.tm rfl),(S.tm rfl),trivial⟩ call41) (Sm _ (nth Ao (W ((i1 : Int) - 1))) y1 _ rfl) rfl ?_));clear S;intro v7 a w14 hv7 hk11 hn7 S
          subst hv7
          refine Ld (Gr hk11 (Jy [10,11] hsel (by kernel_rfl) rfl ?_))
          clear hsel
          refine Ig S rfl rfl rfl rfl hb6 (Jq S (Ns (S.tm rfl) rfl) rfl fun a S=>Gb S rfl (Nk hb6 (S.tm rfl) (S.tm rfl)) rfl fun a S=>Ix ?_)
          replace S:=S.n0.k14 0 1 17 18 19 46 47 48 49 50 51 52 53 54 rfl
          exact Tn (⟨decide (0 ≤ (Jz (nth Ao (W ((i1 : Int) - 1))) y1)),h,S.nf [] rfl (subR rfl)⟩)
         ·replace h:=Qs h hb6
          refine Gz [] ([]) Tryz.mixed S rfl (by kernel_rfl) ?_;clear S;intro w15 hk12 hsel S
          refine Jy [0,1,2,3,4,5,6,7,8,9,10,11] hsel (by kernel_rfl) rfl ?_
          clear hsel
          refine Gb S rfl (Rm (S.tm rfl)) rfl fun a S=>Gb S rfl (Kp (S.tm rfl) rfl) rfl fun a S=>Gb S rfl (Rm (S.tm rfl)) rfl ?_;clear S;intro a S
          iterate 8 (refine Rb S rfl rfl rfl rfl (Lg hb6) rfl ?_ rfl;clear S;intro a S)
          refine Gb S rfl (Nl hb6 (S.tm rfl) rfl) rfl fun a S=>Ix ?_
          replace S:=S.n0.k6 0 1 17 18 19 54 rfl
          exact Tn (⟨false,h,S.nf [] rfl (subR rfl)⟩)
        clear S h;rintro a w11 ⟨x1,h,S⟩;rw [hj2] at h;clear hj2 j2
        refine Tn (Fc h (S.tm rfl) (fun hb7 h=>?_) (fun hb7 h=>?_))
        ·refine Fr (Vk S rfl rfl fun a S=>Dl (wp_ret (Gy (Ee (Ee (Gy (Ee ?_)))))))
         refine Ee ?_
         obtain rfl:=Option.some.inj h
         exact Fz S results19 rfl rfl
        ·exact wp_skip (Ja (Tn (Fg (Vq S Gf rfl rfl rfl fun a S=>Vm S rfl rfl fun a S=>Dl (⟨ys1,⟨i1 + 1,⟨_,(hd1).trans (List.append_cons _ _ _),by simp [hi1]⟩,h,S.nf [] rfl ⟨rfl,rfl,rfl,rfl,(congrArg (fun z=>some (Value.int .i64 z)) (Hy hd1 hi1 (Km Am))),trivial⟩⟩,Nat.lt_succ_self _⟩)))))
   clear S h;rintro a w3 ⟨h,S⟩;rw [hj1] at h;clear hj1 j1
   refine Tn (Fr (Vk S rfl rfl fun a S=>Dl (wp_ret ?_)))
   obtain rfl:=Option.some.inj h
   exact Fz S results19 rfl rfl
theorem Qx (w : World) (Ad : Value) (Ao : List An) (Am : Slc (view w []) 5 Ad (Ao.map An.enc)) (Bh : Int) (r : (List Dx)) (h : Lc Ao Bh = some r) :
    Calls prog 22 [Ad,iV Bh].toArray w (Ret w [] fun τ v _=>Oa τ 75 4 v r.length (r.flatMap Dx.enc)):=by
 refine Fe func22 rfl ntmps22 rfl fun a S=>?_
 unfold Lc at h
 replace S:=S.k2 0 1 rfl
 refine Fr (Vk S rfl rfl fun a S=>Dz (Vk S rfl rfl ?_));clear S;intro a S
 replace S:=S.nil 75 4
 refine Dz (Vm S rfl rfl fun a S=>Va S rfl rfl fun a S=>Dl (Fs (Fs (Fg ?_))))
 refine Vm S rfl rfl fun a S=>lv S (Gc Jr (S.tm rfl) (Dy Am)) rfl fun a S=>lv S (Rm rfl) rfl fun a S=>Dl ?_
 replace S:=(S.nl [.own (.slice none 0 0) 75 4 ([] : List Dx).length (([] : List Dx).flatMap Dx.enc)] [true] rfl).k5 5 6 11 12 13 rfl
 obtain ⟨j1,hj1,h⟩:=Gh h
 refine Fv (fun a w'=>∃ x1 : List Dx,∃ v1 : Value,j1 x1 = some r ∧ Sx w [] nov [.own v1 75 4 x1.length (x1.flatMap Dx.enc)] [(5,v1)] 54 a w') ?_ ?_
 ·refine wp_block (Hr (fun (ys1 : List An) a w'=>∃ i1 : Nat,∃ x1 : List Dx,∃ x2 : Int,∃ v1 : Value,(∃ dn,Ao = dn ++ ys1 ∧ dn.length = i1) ∧ Hf j1 ys1 i1 x1 x2 = some r ∧ Sx w [] nov [.own v1 75 4 x1.length (x1.flatMap Dx.enc)] [(5,v1),(6,iV x2),(11,Ad),(12,iV (Ao.length : Int)),(13,iV (i1 : Int))] 54 a w') List.length Ao ⟨0,([] : List Dx),Bh,(.slice none 0 0),⟨[],rfl,rfl⟩,h,S.nf [true] rfl (subR rfl)⟩ ?_)
  clear S h;rintro ys1 a w1 ⟨i1,x1,x2,v1,⟨dn,hd1,hi1⟩,h,S⟩
  cases ys1 with
  | nil =>
   rw [Hf.eq_1] at h
   refine Fr (Vb S Fu rfl rfl rfl fun a S=>Ld ?_)
   replace S:=S.k6 5 6 11 12 13 14 rfl
   exact Tn (Fs (wp_cond_false ((S.tm rfl).trans (congrArg Value.bool (Jd hd1 hi1))) (wp_exit (Fj (Fj (Hp (Tn (⟨x1,v1,h,S.nf [true] rfl ⟨rfl,trivial⟩⟩))))))))
  | cons y1 ys1 =>
   rw [Hf.eq_2] at h
   refine Fr (Vb S Fu rfl rfl rfl fun a S=>Ld ?_)
   replace S:=S.k6 5 6 11 12 13 14 rfl
   refine Tn (Fs (wp_cond_true ((S.tm rfl).trans (congrArg Value.bool (Hx hd1 hi1))) (wp_skip (Tn (Fs (wp_block (Fs (Fg ?_))))))))
   obtain ⟨b1,o1,hm1,hr1⟩:=Fo (a:=a) (x:=.tmp 11) (y:=.tmp 13) (ty:=0) Jr Am (Il hd1 hi1) rfl (S.tm rfl) (S.tm rfl)
   refine lv S (hr1 _) rfl ?_;clear S;intro a S
   clear hr1
   refine lv S (Ie isAgg43 sizeOf43 (off:=o1) (o:=0) (part:=(An.enc y1)) rfl rfl (S.tm rfl) (hm1.at S.emb0)) rfl fun a S=>Nw S zeroValue43 (cs:=[sV Eo,iV 0,iV 0,iV 0,iV 0]) rfl rfl ?_;clear S;intro a w3 b2 hz1 hk1 S
   refine Kq S (S.tm rfl) (S.tm rfl) (i:=0) (off:=0) rfl sizeOf43 (vs:=(An.enc y1)) rfl rfl rfl rfl ?_;clear S;intro w4 hk2 S
   refine Dl (Fs (Fr (Vk S rfl rfl fun a S=>Dl ?_)))
   replace S:=(S.nl [.blk b2 (An.enc y1) 43,.own v1 75 4 x1.length (x1.flatMap Dx.enc)] [true,true] rfl).k7 5 6 8 9 11 12 13 rfl
   obtain ⟨j2,hj2,h⟩:=Gh h
   refine Fv (fun a w'=>∃ x3 : List Dx,∃ x4 : Int,∃ v2 : Value,j2 x3 x4 = some r ∧ Sx w [] nov [.blk b2 (An.enc y1) 43,.own v2 75 4 x3.length (x3.flatMap Dx.enc)] [(5,v2),(6,iV x4),(8,.pointer (some ⟨b2,0,none⟩)),(11,Ad),(12,iV (Ao.length : Int)),(13,iV (i1 : Int))] 54 a w') ?_ ?_
   ·refine wp_block (Hr (fun (m1 : Nat) a w'=>∃ x3 : List Dx,∃ x4 : Int,∃ x5 : Int,∃ v2 : Value,He y1 j2 m1 x3 x4 x5 = some r ∧ Sx w [] nov [.blk b2 (An.enc y1) 43,.own v2 75 4 x3.length (x3.flatMap Dx.enc)] [(5,v2),(6,iV x4),(8,.pointer (some ⟨b2,0,none⟩)),(9,iV x5),(11,Ad),(12,iV (Ao.length : Int)),(13,iV (i1 : Int))] 54 a w') id ((y1.Heats - 1).toNat + 2) ⟨x1,x2,1,v1,h,S.nf [true,true] rfl (subR rfl)⟩ ?_)
    clear S h;rintro m1 a w5 ⟨x3,x4,x5,v2,h,S⟩
    cases m1 with
    | zero=>rw [He.eq_1] at h;cases h
    | succ m1 =>
     rw [He.eq_2] at h
     refine Fs (Fr (Vm S rfl rfl fun a S=>Vf Td S rfl rfl fun a S=>Vl isAgg3 0 S rfl rfl rfl rfl fun a S=>Vb S St rfl rfl rfl fun a S=>Dl (Fc h (S.tm rfl) (fun hb1 h=>?_) (fun hb1 h=>?_))))
     ·refine wp_skip (Tn (Fs ?_))
      obtain ⟨j3,hj3,h⟩:=Gh h
      refine Fv (fun a w'=>∃ x6 : List Dx,∃ x7 : Int,∃ v3 : Value,j3 x6 x7 = some r ∧ Sx w [] nov [.blk b2 (An.enc y1) 43,.own v3 75 4 x6.length (x6.flatMap Dx.enc)] [(5,v3),(6,iV x7),(8,.pointer (some ⟨b2,0,none⟩)),(9,iV x5),(11,Ad),(12,iV (Ao.length : Int)),(13,iV (i1 : Int))] 54 a w') ?_ ?_
      ·refine wp_block (Fr (Vm S rfl rfl fun a S=>Vf Ph S rfl rfl fun a S=>Vl isAgg9 0 S rfl rfl rfl rfl ?_));clear S;intro a S
       iterate 3 (refine Vm S rfl rfl ?_;clear S;intro a S)
       refine Vf Te S rfl rfl fun a S=>Vl isAgg3 0 S rfl rfl rfl rfl fun a S=>Vb S Gf rfl rfl rfl fun a S=>lv S (Pk bt_73 (pv:=[(0,iV x4),(1,iV (W (x4 + y1.Long)))]) ⟨rfl,(S.tm rfl),rfl,(S.tm rfl),trivial⟩ (cs:=[iV x4,iV (W (x4 + y1.Long))]) (by kernel_rfl)) rfl fun a S=>lv S (Pk bt_75 (pv:=[(0,sV y1.Key),(1,iV x5),(2,.agg #[iV x4,iV (W (x4 + y1.Long))])]) ⟨rfl,(S.tm rfl),rfl,(S.tm rfl),rfl,(S.tm rfl),trivial⟩ (cs:=[sV y1.Key,iV x5,iV x4,iV (W (x4 + y1.Long))]) (by kernel_rfl)) rfl fun a S=>Ff S underlying57 sizeOf75 zeroValue75 rfl rfl (pv:=[(0,.agg #[sV y1.Key,iV x5,iV x4,iV (W (x4 + y1.Long))])]) ⟨rfl,(S.tm rfl),trivial⟩ (cs:=[sV y1.Key,iV x5,iV x4,iV (W (x4 + y1.Long))]) (by kernel_rfl) rfl ?_;clear S;intro a w8 b3 hz2 hk3 S
       obtain ⟨hc1,h⟩:=Hs h
       refine Nj Py Dx.enc_ok S (S.tm rfl) (i:=2) rfl (S.tm rfl) (j:=0) rfl (ys:=[(Dx.mk y1.Key x5 (Gt.mk x4 (W (x4 + y1.Long))))]) rfl rfl rfl rfl (by have:=Kl hc1;omega) rfl ?_;clear S;intro v4 a w9 hk4 S
       refine Va S rfl rfl fun a S=>Ld ?_
       replace S:=(S.nl [.blk b2 (An.enc y1) 43,.own v4 75 4 (x3 ++ [(Dx.mk y1.Key x5 (Gt.mk x4 (W (x4 + y1.Long))))]).length ((x3 ++ [(Dx.mk y1.Key x5 (Gt.mk x4 (W (x4 + y1.Long))))]).flatMap Dx.enc)] [false,true,true] rfl).k7 5 6 8 9 11 12 13 rfl
       refine Tn (Fr (Vm S rfl rfl fun a S=>Vf Te S rfl rfl fun a S=>Vl isAgg3 0 S rfl rfl rfl rfl fun a S=>Vb S Gf rfl rfl rfl fun a S=>Va S rfl rfl fun a S=>Dl (Fs ?_)))
       refine Fg (Vm S rfl rfl fun a S=>Vf Td S rfl rfl fun a S=>Vl isAgg3 0 S rfl rfl rfl rfl fun a S=>Vb S Fu rfl rfl rfl fun a S=>Ld ?_)
       replace S:=S.k8 5 6 8 9 11 12 13 43 rfl
       refine Tn ?_
       obtain ⟨j4,hj4,h⟩:=Gh h
       refine Fv (fun a w'=>∃ x8 : Int,j4 x8 = some r ∧ Sx w [] nov [.blk b2 (An.enc y1) 43,.own v4 75 4 (x3 ++ [(Dx.mk y1.Key x5 (Gt.mk x4 (W (x4 + y1.Long))))]).length ((x3 ++ [(Dx.mk y1.Key x5 (Gt.mk x4 (W (x4 + y1.Long))))]).flatMap Dx.enc)] [(5,v4),(6,iV x8),(8,.pointer (some ⟨b2,0,none⟩)),(9,iV x5),(11,Ad),(12,iV (Ao.length : Int)),(13,iV (i1 : Int))] 54 a w') ?_ ?_
       ·refine Fc h (S.tm rfl) (fun hb2 h=>?_) (fun hb2 h=>?_)
        ·exact Fg (Vm S rfl rfl fun a S=>Vf Yl S rfl rfl fun a S=>Vl isAgg3 0 S rfl rfl rfl rfl fun a S=>Vb S Gf rfl rfl rfl fun a S=>Va S rfl rfl fun a S=>Dl (⟨W ((W (x4 + y1.Long)) + y1.Gap),h,S.nf [true,true] rfl (subR rfl)⟩))
        ·exact wp_skip (Tn (⟨W (x4 + y1.Long),h,S.nf [true,true] rfl (subR rfl)⟩))
       clear S h;rintro a w10 ⟨x8,h,S⟩;rw [hj4] at h;clear hj4 j4
       exact Ja (Tn (⟨(x3 ++ [(Dx.mk y1.Key x5 (Gt.mk x4 (W (x4 + y1.Long))))]),x8,v4,h,S.nf [true,true] rfl (subR rfl)⟩))
      clear S h;rintro a w7 ⟨x6,x7,v3,h,S⟩;rw [hj3] at h;clear hj3 j3
      exact Tn (Fg (Vm S rfl rfl fun a S=>Vq S Gf rfl rfl rfl fun a S=>Va S rfl rfl fun a S=>Dl (⟨m1,⟨x6,x7,W (x5 + 1),v3,h,S.nf [true,true] rfl ⟨rfl,rfl,rfl,rfl,rfl,rfl,rfl,trivial⟩⟩,Nat.lt_succ_self _⟩)))
     ·exact wp_exit (Fj (Fj (Hp (Tn (⟨x3,x4,v2,h,S.nf [true,true] rfl (subR rfl)⟩)))))
   clear S h;rintro a w6 ⟨x3,x4,v2,h,S⟩;rw [hj2] at h;clear hj2 j2
   refine Tn (Fg (Vm S rfl rfl fun a S=>Vf CL S rfl rfl fun a S=>Vl isAgg3 0 S rfl rfl rfl rfl fun a S=>Vb S Gf rfl rfl rfl fun a S=>Va S rfl rfl fun a S=>Ld (Ja (Tn (Fg ?_)))))
   exact Vq S Gf rfl rfl rfl fun a S=>Vm S rfl rfl fun a S=>Dl (⟨ys1,⟨i1 + 1,x3,W (x4 + y1.Break),v2,⟨_,(hd1).trans (List.append_cons _ _ _),by simp [hi1]⟩,h,S.nf [false,true] rfl ⟨rfl,rfl,rfl,rfl,(congrArg (fun z=>some (Value.int .i64 z)) (Hy hd1 hi1 (Km Am))),trivial⟩⟩,Nat.lt_succ_self _⟩)
 clear S h;rintro a w2 ⟨x1,v1,h,S⟩;rw [hj1] at h;clear hj1 j1
 refine Tn (Fr (Vm S rfl rfl fun a S=>Va S rfl rfl fun a S=>Dl (wp_ret ?_)))
 obtain rfl:=Option.some.inj h
 exact Fz S results22 rfl (Oy S (i:=0) rfl rfl)
theorem Rr (w : World) (Ad : Value) (Ao : List Dx) (Am : Slc (view w []) 4 Ad (Ao.map Dx.enc)) (Bh : Int) (r : Int) (h : Og Ao Bh = some r) :
    Calls prog 21 [Ad,iV Bh].toArray w (Ret w [] fun _ v _=>v = iV r):=by
 refine Fe func21 rfl ntmps21 rfl fun a S=>?_
 unfold Og at h
 replace S:=S.k2 0 1 rfl
 refine Fr (Vk S rfl rfl fun a S=>Dl (Fs (Fr (Vm S rfl rfl fun a S=>lv S (Gc Py (S.tm rfl) (Dy Am)) rfl fun a S=>Vq S Ko rfl rfl rfl ?_))));clear S;intro a S
 refine Dl (Fc h (S.tm rfl) (fun hb1 h=>?_) (fun hb1 h=>?_))
 ·refine Fr (Vm S rfl rfl fun a S=>Va S rfl rfl fun a S=>Dl (wp_ret (Ee ?_)))
  obtain rfl:=Option.some.inj h
  exact Fz S results21 rfl rfl
 ·refine wp_skip (Tn (Fr (Vm S rfl rfl fun a S=>Vm S rfl rfl fun a S=>lv S (Gc Py (S.tm rfl) (Dy Am)) rfl fun a S=>Vq S Iw rfl rfl rfl ?_)));clear S;intro a S
  obtain ⟨hc1,h⟩:=Hs h
  obtain ⟨b1,o1,hm1,hr1⟩:=Fo (a:=a) (x:=.tmp 9) (y:=.tmp 12) (ty:=0) Py Am (Ef hc1).1 (Ef hc1).2 (S.tm rfl) (S.tm rfl)
  refine lv S (hr1 _) rfl ?_;clear S;intro a S
  clear hr1
  refine Vf Wm S rfl rfl fun a S=>Vf GG S rfl rfl fun a S=>lv S (Ha isAgg3 (off:=o1) (o:=3) (S.tm rfl) (hm1.at S.emb0) rfl) rfl fun a S=>Va S rfl rfl fun a S=>Dl (wp_ret ?_)
  obtain rfl:=Option.some.inj h
  exact Fz S results21 rfl rfl
theorem Uu (w : World) (Bb : An) (Bf : An) (r : Int) (h : Ka Bb Bf = r) :
    Calls prog 23 [.agg (An.enc Bb).toArray,.agg (An.enc Bf).toArray].toArray w (Ret w [] fun _ v _=>v = iV r):=by
 refine Fe func23 rfl ntmps23 rfl fun a S=>?_
 unfold Ka at h
 replace S:=S.k2 0 1 rfl
 refine Fr (Ox S (S.tm rfl) (cs:=(An.enc Bb)) rfl rfl ?_);clear S;intro a w1 b1 hz1 hk1 S
 refine Ox S (S.tm rfl) (cs:=(An.enc Bf)) rfl rfl ?_;clear S;intro a w2 b2 hz2 hk2 S
 refine Vk S rfl rfl fun a S=>Dz (Vf Ph S rfl rfl fun a S=>Vl isAgg9 1 S rfl rfl rfl rfl fun a S=>Vf Ph S rfl rfl fun a S=>Vl isAgg9 0 S rfl rfl rfl rfl fun a S=>Eg S (fun _=>Eb (vs:=[sV Bb.Key,sV Bf.Key]) ⟨(S.tm rfl),(S.tm rfl),trivial⟩ call24) (Pl _ Bb.Key Bf.Key _ rfl) rfl ?_);clear S;intro v1 a w3 hv1 hk3 hn1 S
 subst hv1
 refine Va S rfl rfl fun a S=>Dl (wp_ret ?_)
 subst h
 exact Fz S results23 rfl rfl
set_option maxRecDepth 20000 in
theorem Lk (w : World) (Aa : Value) (Ax : List An) (Bx : (LEnt.own Aa 43 5 Ax.length (Ax.flatMap An.enc)).holds w) (Bb : Int) (Bf : Int) (r : (List An)) (h : Gk Ax Bb Bf = some r) :
    Calls prog 65 [Aa,iV Bb,iV Bf,.func (.func 23) #[] #[]].toArray w (Ret w (Aa.ownBlock.toList) fun _ v w'=>(LEnt.own Aa 43 5 r.length (r.flatMap An.enc)).holds w' ∧ v = .tuple #[]):=by
 refine Kz (Aa.ownBlock.toList) [.own Aa 43 5 Ax.length (Ax.flatMap An.enc)] func65 rfl ntmps65 rfl (fun e he=>by simp only [List.mem_singleton] at he;subst he;exact Bx) (Kf _) (Lm _) fun a S=>?_
 unfold Gk at h
 replace S:=(S.nl [.own Aa 43 5 Ax.length (Ax.flatMap An.enc)] [true] rfl).k4 0 1 2 3 rfl
 refine Fr (Vm S rfl rfl fun a S=>Vq S Gf rfl rfl rfl fun a S=>Va S rfl rfl fun a S=>Dl ?_)
 replace S:=S.k5 0 1 2 3 8 rfl
 obtain ⟨j1,hj1,h⟩:=Gh h
 refine Fv (fun a w'=>∃ x1 : List An,j1 x1 = some r ∧ Sx w (Aa.ownBlock.toList) nov [.own Aa 43 5 x1.length (x1.flatMap An.enc)] [] 53 a w') ?_ ?_
 ·refine wp_block (Hr (fun (m1 : Nat) a w'=>∃ x1 : List An,∃ x2 : Int,Es Bf Bb j1 m1 x1 x2 = some r ∧ Sx w (Aa.ownBlock.toList) nov [.own Aa 43 5 x1.length (x1.flatMap An.enc)] [(0,Aa),(1,iV Bb),(2,iV Bf),(3,.func (.func 23) #[] #[]),(8,iV x2)] 53 a w') id ((Bf - (W (Bb + 1))).toNat + 2) ⟨Ax,W (Bb + 1),h,S.nf [true] rfl (subR rfl)⟩ ?_)
  clear S h;rintro m1 a w1 ⟨x1,x2,h,S⟩
  cases m1 with
  | zero=>rw [Es.eq_1] at h;cases h
  | succ m1 =>
   rw [Es.eq_2] at h
   refine Fs (Fr (Vm S rfl rfl fun a S=>Vm S rfl rfl fun a S=>Vb S Fu rfl rfl rfl fun a S=>Dl (Fc h (S.tm rfl) (fun hb1 h=>?_) (fun hb1 h=>?_))))
   ·refine wp_skip (Tn (Fs (wp_block (Fr (Vm S rfl rfl fun a S=>Va S rfl rfl fun a S=>Dl ?_)))))
    replace S:=S.k6 0 1 2 3 8 9 rfl
    obtain ⟨j2,hj2,h⟩:=Gh h
    refine Fv (fun a w'=>∃ x3 : List An,j2 x3 = some r ∧ Sx w (Aa.ownBlock.toList) nov [.own Aa 43 5 x3.length (x3.flatMap An.enc)] [(0,Aa),(1,iV Bb),(2,iV Bf),(3,.func (.func 23) #[] #[]),(8,iV x2)] 53 a w') ?_ ?_
    ·refine wp_block (Hr (fun (m2 : Nat) a w'=>∃ x3 : List An,∃ x4 : Int,El Bb j2 m2 x3 x4 = some r ∧ Sx w (Aa.ownBlock.toList) nov [.own Aa 43 5 x3.length (x3.flatMap An.enc)] [(0,Aa),(1,iV Bb),(2,iV Bf),(3,.func (.func 23) #[] #[]),(8,iV x2),(9,iV x4)] 53 a w') id ((x2 - Bb).toNat + 2) ⟨x1,x2,h,S.nf [true] rfl (subR rfl)⟩ ?_)
     clear S h;rintro m2 a w3 ⟨x3,x4,h,S⟩
     cases m2 with
     | zero=>rw [El.eq_1] at h;cases h
     | succ m2 =>
      rw [El.eq_2] at h
      refine Fs (Fs ?_)
      obtain ⟨j3,hj3,h⟩:=Gh h
      refine Fv (fun a w'=>∃ x5 : Bool,j3 x5 = some r ∧ Sx w (Aa.ownBlock.toList) nov [.own Aa 43 5 x3.length (x3.flatMap An.enc)] [(0,Aa),(1,iV Bb),(2,iV Bf),(3,.func (.func 23) #[] #[]),(8,iV x2),(9,iV x4),(34,bV x5)] 53 a w') ?_ ?_
      ·rcases Bool.eq_false_or_eq_true (decide (Bb < x4)) with hb2 | hb2
       ·replace h:=Qr h hb2
        obtain ⟨hc1,h⟩:=Hs h
        obtain ⟨hc2,h⟩:=Hs h
        refine Gz [] ([]) Tryz.mixed S rfl (by kernel_rfl) ?_;clear S;intro w7 hk2 hsel S
        refine Ec 0 S hsel rfl rfl rfl (by kernel_rfl) (by kernel_rfl) rfl (fun _ hw=>(Rm (S.tm rfl))) fun a S=>Ec 1 S hsel rfl rfl rfl (by kernel_rfl) (by kernel_rfl) rfl (fun _ hw=>(Rm (S.tm rfl))) fun a S=>Ec 2 S hsel rfl rfl rfl (by kernel_rfl) (by kernel_rfl) rfl (fun _ hw=>(Kp (S.tm rfl) (S.tm rfl))) fun a S=>Ec 3 S hsel rfl rfl rfl (by kernel_rfl) (by kernel_rfl) rfl (fun _ hw=>(Rm (S.tm rfl))) fun a S=>Ew 4 S hsel rfl rfl rfl rfl hb2 rfl rfl (by kernel_rfl) (by kernel_rfl) rfl (fun _ hw=>(Rm (S.tm rfl))) fun a S=>Ew 5 S hsel rfl rfl rfl rfl hb2 rfl rfl (by kernel_rfl) (by kernel_rfl) rfl (fun _ hw=>(Rm (S.tm rfl))) fun a S=>Ew 6 S hsel rfl rfl rfl rfl hb2 rfl rfl (by kernel_rfl) (by kernel_rfl) rfl (fun _ hw=>(Rm (S.tm rfl))) ?_;clear S;intro a S
        obtain ⟨b3,hg3,hr3⟩:=Gv (a:=a) (x:=.tmp 23) (y:=.tmp 24) (ty:=0) Jr An.enc_ok S (i:=0) rfl (Ef hc1).1 (Ef hc1).2 (S.tm rfl) (S.tm rfl)
        refine Ew 7 S hsel rfl rfl rfl rfl hb2 rfl rfl (by kernel_rfl) (by kernel_rfl) rfl (fun _ hw=>(hr3 _)) ?_;clear S;intro a S
        clear hr3
        refine Ew 8 S hsel rfl rfl rfl rfl hb2 rfl rfl (by kernel_rfl) (by kernel_rfl) rfl (fun _ hw=>(Ie isAgg43 sizeOf43 (off:=x4.toNat * 5) (o:=0) (part:=(An.enc (nth x3 x4))) rfl rfl (S.tm rfl) ((Mr An.enc_ok S (i:=0) rfl hg3 (Ef hc1).1 (Gm (e':=.own Aa 43 5 x3.length (x3.flatMap An.enc)))).kept hw))) fun a S=>Ew 9 S hsel rfl rfl rfl rfl hb2 rfl rfl (by kernel_rfl) (by kernel_rfl) rfl (fun _ hw=>(Rm (S.tm rfl))) fun a S=>Ew 10 S hsel rfl rfl rfl rfl hb2 rfl rfl (by kernel_rfl) (by kernel_rfl) rfl (fun _ hw=>(Rm (S.tm rfl))) fun a S=>Ew 11 S hsel rfl rfl rfl rfl hb2 rfl rfl (by kernel_rfl) (by kernel_rfl) rfl (fun _ hw=>(Iw (S.tm rfl) rfl)) ?_;clear S;intro a S
        obtain ⟨b4,hg4,hr4⟩:=Gv (a:=a) (x:=.tmp 27) (y:=.tmp 29) (ty:=0) Jr An.enc_ok S (i:=0) rfl (Ef hc2).1 (Ef hc2).2 (S.tm rfl) (S.tm rfl)
        refine Ew 12 S hsel rfl rfl rfl rfl hb2 rfl rfl (by kernel_rfl) (by kernel_rfl) rfl (fun _ hw=>(hr4 _)) ?_;clear S;intro a S
        clear hr4
        refine Ew 13 S hsel rfl rfl rfl rfl hb2 rfl rfl (by kernel_rfl) (by kernel_rfl) rfl (fun _ hw=>(Ie isAgg43 sizeOf43 (off:=((W (x4 - 1)).toNat) * 5) (o:=0) (part:=(An.enc (nth x3 (W (x4 - 1))))) rfl rfl (S.tm rfl) ((Mr An.enc_ok S (i:=0) rfl hg4 (Ef hc2).1 (Gm (e':=.own Aa 43 5 x3.length (x3.flatMap An.enc)))).kept hw))) fun a S=>Fy 14 (by kernel_rfl) rfl (Ej S rfl rfl rfl hb2 (Eg S (fun _=>Ro (cap:=[]) (S.tm rfl) (vs:=[.agg (An.enc (nth x3 x4)).toArray,.agg (An.enc (nth x3 (W (x4 - 1)))).toArray]) ⟨(S.tm rfl),(S.tm rfl),trivial⟩ call23) (Uu _ (nth x3 x4) (nth x3 (W (x4 - 1))) _ rfl) rfl ?_));clear S;intro v2 a w8 hv2 hk3 hn2 S
        subst hv2
        refine Ld (Gr hk3 (Jy [15,16] hsel (by kernel_rfl) rfl ?_))
        clear hsel
        refine Ig S rfl rfl rfl rfl hb2 (Jq S (Fu (S.tm rfl) rfl) rfl fun a S=>Gb S rfl (Nk hb2 (S.tm rfl) (S.tm rfl)) rfl fun a S=>Ix ?_)
        replace S:=S.nk [.own Aa 43 5 x3.length (x3.flatMap An.enc)] [(0,Aa),(1,iV Bb),(2,iV Bf),(3,.func (.func 23) #[] #[]),(8,iV x2),(9,iV x4),(22,.func (.func 23) #[] #[]),(23,Aa),(24,iV x4),(25,.pointer (some ⟨b3,x4.toNat * 5,none⟩)),(26,.agg (An.enc (nth x3 x4)).toArray),(27,Aa),(28,iV x4),(29,iV (W (x4 - 1))),(30,.pointer (some ⟨b4,((W (x4 - 1)).toNat) * 5,none⟩)),(31,.agg (An.enc (nth x3 (W (x4 - 1)))).toArray),(32,iV (Ka (nth x3 x4) (nth x3 (W (x4 - 1))))),(33,bV (decide ((Ka (nth x3 x4) (nth x3 (W (x4 - 1)))) < 0))),(34,bV (decide ((Ka (nth x3 x4) (nth x3 (W (x4 - 1)))) < 0)))] [true] rfl (subR rfl)
        exact Tn (⟨decide ((Ka (nth x3 x4) (nth x3 (W (x4 - 1)))) < 0),h,S.nf [true] rfl (subR rfl)⟩)
       ·replace h:=Qs h hb2
        refine Gz [] ([]) Tryz.mixed S rfl (by kernel_rfl) ?_;clear S;intro w9 hk4 hsel S
        refine Jy [0,1,2,3,4,5,6,7,8,9,10,11,12,13,14,15,16] hsel (by kernel_rfl) rfl ?_
        clear hsel
        refine Gb S rfl (Rm (S.tm rfl)) rfl fun a S=>Gb S rfl (Rm (S.tm rfl)) rfl fun a S=>Gb S rfl (Kp (S.tm rfl) (S.tm rfl)) rfl fun a S=>Gb S rfl (Rm (S.tm rfl)) rfl ?_;clear S;intro a S
        iterate 12 (refine Rb S rfl rfl rfl rfl (Lg hb2) rfl ?_ rfl;clear S;intro a S)
        refine Gb S rfl (Nl hb2 (S.tm rfl) rfl) rfl fun a S=>Ix ?_
        replace S:=S.k7 0 1 2 3 8 9 34 rfl
        exact Tn (⟨false,h,S.nf [true] rfl (subR rfl)⟩)
      clear S h;rintro a w5 ⟨x5,h,S⟩;rw [hj3] at h;clear hj3 j3
      refine Tn (Fc h (S.tm rfl) (fun hb3 h=>?_) (fun hb3 h=>?_))
      ·refine wp_skip (Tn (Fs (wp_block ?_)))
       obtain ⟨hc3,h⟩:=Hs h
       obtain ⟨hc4,h⟩:=Hs h
       obtain ⟨hc5,h⟩:=Hs h
       obtain ⟨hc6,h⟩:=Hs h
       refine Gz [15,17] ([]) Tryz.mixed S rfl (by kernel_rfl) ?_;clear S;intro w14 hk9 hsel S
       refine Gw 0 S hsel rfl rfl (by kernel_rfl) (by kernel_rfl) rfl (fun _=>(Rm (S.tm rfl))) fun a S=>Gw 1 S hsel rfl rfl (by kernel_rfl) (by kernel_rfl) rfl (fun _=>(Rm (S.tm rfl))) fun a S=>Gw 2 S hsel rfl rfl (by kernel_rfl) (by kernel_rfl) rfl (fun _=>(Rm (S.tm rfl))) fun a S=>Gw 3 S hsel rfl rfl (by kernel_rfl) (by kernel_rfl) rfl (fun _=>(Rm (S.tm rfl))) fun a S=>Gw 4 S hsel rfl rfl (by kernel_rfl) (by kernel_rfl) rfl (fun _=>(Iw (S.tm rfl) rfl)) fun a S=>Gw 5 S hsel rfl rfl (by kernel_rfl) (by kernel_rfl) rfl (fun _=>(Rm (S.tm rfl))) fun a S=>Gw 6 S hsel rfl rfl (by kernel_rfl) (by kernel_rfl) rfl (fun _=>(Rm (S.tm rfl))) fun a S=>Gw 7 S hsel rfl rfl (by kernel_rfl) (by kernel_rfl) rfl (fun _=>(Iw (S.tm rfl) rfl)) ?_;clear S;intro a S
       obtain ⟨b9,hg9,hr9⟩:=Gv (a:=a) (x:=.tmp 42) (y:=.tmp 44) (ty:=0) Jr An.enc_ok S (i:=0) rfl (Ef hc3).1 (Ef hc3).2 (S.tm rfl) (S.tm rfl)
       refine Gw 8 S hsel rfl rfl (by kernel_rfl) (by kernel_rfl) rfl (fun _=>(hr9 _)) ?_;clear S;intro a S
       clear hr9
       refine Ec 9 S hsel rfl (by kernel_rfl) (by kernel_rfl) (by kernel_rfl) (by kernel_rfl) rfl (fun _ hw=>(Ie isAgg43 sizeOf43 (off:=((W (x4 - 1)).toNat) * 5) (o:=0) (part:=(An.enc (nth x3 (W (x4 - 1))))) rfl rfl (S.tm rfl) ((Mr An.enc_ok S (i:=0) rfl hg9 (Ef hc3).1 (Gm (e':=.own Aa 43 5 x3.length (x3.flatMap An.enc)))).kept hw))) fun a S=>Gw 10 S hsel rfl rfl (by kernel_rfl) (by kernel_rfl) rfl (fun _=>(Rm (S.tm rfl))) fun a S=>Gw 11 S hsel rfl rfl (by kernel_rfl) (by kernel_rfl) rfl (fun _=>(Rm (S.tm rfl))) ?_;clear S;intro a S
       obtain ⟨b10,hg10,hr10⟩:=Gv (a:=a) (x:=.tmp 47) (y:=.tmp 48) (ty:=0) Jr An.enc_ok S (i:=0) rfl (Ef hc4).1 (Ef hc4).2 (S.tm rfl) (S.tm rfl)
       refine Gw 12 S hsel rfl rfl (by kernel_rfl) (by kernel_rfl) rfl (fun _=>(hr10 _)) ?_;clear S;intro a S
       clear hr10
       refine Ec 13 S hsel rfl (by kernel_rfl) (by kernel_rfl) (by kernel_rfl) (by kernel_rfl) rfl (fun _ hw=>(Ie isAgg43 sizeOf43 (off:=x4.toNat * 5) (o:=0) (part:=(An.enc (nth x3 x4))) rfl rfl (S.tm rfl) ((Mr An.enc_ok S (i:=0) rfl hg10 (Ef hc4).1 (Gm (e':=.own Aa 43 5 x3.length (x3.flatMap An.enc)))).kept hw))) ?_;clear S;intro a S
       obtain ⟨b11,hg11,hr11⟩:=Gv (a:=a) (x:=.tmp 37) (y:=.tmp 38) (ty:=0) Jr An.enc_ok S (i:=0) rfl (Ef hc5).1 (Ef hc5).2 (S.tm rfl) (S.tm rfl)
       refine Gw 14 S hsel rfl rfl (by kernel_rfl) (by kernel_rfl) rfl (fun _=>(hr11 _)) ?_;clear S;intro a S
       clear hr11
       refine Wc 15 (Aa.ownBlock.toList) rfl (by kernel_rfl) rfl (Ng (c:=0) (j:=x4.toNat) (nth x3 (W (x4 - 1))) An.enc_ok S (S.tm rfl) (S.tm rfl) (i:=0) rfl hg11 (Ef hc5).1 sizeOf43 (vs:=[sV ((nth x3 (W (x4 - 1))).Key),iV ((nth x3 (W (x4 - 1))).Heats),iV ((nth x3 (W (x4 - 1))).Long),iV ((nth x3 (W (x4 - 1))).Gap),iV ((nth x3 (W (x4 - 1))).Break)]) rfl rfl rfl rfl rfl ?_);clear S;intro w16 hk11 S
       refine Ld (Wd ?_)
       obtain ⟨b12,hg12,hr12⟩:=Gv (a:=a) (x:=.tmp 39) (y:=.tmp 41) (ty:=0) Jr An.enc_ok S (i:=0) rfl (Ef hc6).1 (Ef hc6).2 (S.tm rfl) (S.tm rfl)
       refine Ec 16 S hsel rfl rfl rfl (by kernel_rfl) (by kernel_rfl) rfl (fun _ hw=>(hr12 _)) ?_;clear S;intro a S
       clear hr12
       refine Fy 17 (by kernel_rfl) rfl (Ng (c:=0) (j:=(W (x4 - 1)).toNat) (nth x3 x4) An.enc_ok S (S.tm rfl) (S.tm rfl) (i:=0) rfl hg12 (Ef hc6).1 sizeOf43 (vs:=[sV ((nth x3 x4).Key),iV ((nth x3 x4).Heats),iV ((nth x3 x4).Long),iV ((nth x3 x4).Gap),iV ((nth x3 x4).Break)]) rfl rfl rfl rfl rfl ?_);clear S;intro w18 hk13 S
       refine Ld (Gr hk13 (Sg (by kernel_rfl) ?_))
       clear hsel
       replace S:=(S.nl [.own Aa 43 5 ((x3.set x4.toNat (nth x3 (W (x4 - 1)))).set ((W (x4 - 1)).toNat) (nth x3 x4)).length (((x3.set x4.toNat (nth x3 (W (x4 - 1)))).set ((W (x4 - 1)).toNat) (nth x3 x4)).flatMap An.enc)] [true] rfl).k6 0 1 2 3 8 9 rfl
       exact Ja (Tn (Fg (Vm S rfl rfl fun a S=>Vq S Iw rfl rfl rfl fun a S=>Va S rfl rfl fun a S=>Dl (⟨m2,⟨((x3.set x4.toNat (nth x3 (W (x4 - 1)))).set ((W (x4 - 1)).toNat) (nth x3 x4)),W (x4 - 1),h,S.nf [true] rfl ⟨rfl,rfl,rfl,rfl,rfl,rfl,trivial⟩⟩,Nat.lt_succ_self _⟩))))
      ·exact wp_exit (Fj (Fj (Hp (Tn (⟨x3,h,S.nf [true] rfl (subR rfl)⟩)))))
    clear S h;rintro a w4 ⟨x3,h,S⟩;rw [hj2] at h;clear hj2 j2
    exact Ja (Tn (Fg (Vm S rfl rfl fun a S=>Vq S Gf rfl rfl rfl fun a S=>Va S rfl rfl fun a S=>Dl (⟨m1,⟨x3,W (x2 + 1),h,S.nf [true] rfl ⟨rfl,rfl,rfl,rfl,rfl,trivial⟩⟩,Nat.lt_succ_self _⟩))))
   ·exact wp_exit (Fj (Fj (Hp (Tn (⟨x1,h,S.nf [true] rfl trivial⟩)))))
 clear S h;rintro a w2 ⟨x1,h,S⟩;rw [hj1] at h;clear hj1 j1
 obtain rfl:=Option.some.inj h
 exact Rp S results65 ⟨(S.holds _ (List.mem_of_getElem? (i:=0) rfl)),rfl⟩
theorem Mo (w : World) (Aa : Value) (Ax : List An) (Bx : (LEnt.own Aa 43 5 Ax.length (Ax.flatMap An.enc)).holds w) (Bb : Int) (Bf : Int) (Cb : Int) (r : (List An)) (h : Hn Ax Bb Bf Cb = some r) :
    Calls prog 37 [Aa,iV Bb,iV Bf,iV Cb,.func (.func 23) #[] #[]].toArray w (Ret w (Aa.ownBlock.toList) fun _ v w'=>(LEnt.own Aa 43 5 r.length (r.flatMap An.enc)).holds w' ∧ v = .tuple #[]):=by
 refine Kz (Aa.ownBlock.toList) [.own Aa 43 5 Ax.length (Ax.flatMap An.enc)] func37 rfl ntmps37 rfl (fun e he=>by simp only [List.mem_singleton] at he;subst he;exact Bx) (Kf _) (Lm _) fun a S=>?_
 unfold Hn at h
 replace S:=(S.nl [.own Aa 43 5 Ax.length (Ax.flatMap An.enc)] [true] rfl).k5 0 1 2 3 4 rfl
 refine Fr (Vk S rfl rfl fun a S=>Dz (Vk S rfl rfl fun a S=>Dl ?_))
 replace S:=S.k6 0 1 2 3 4 10 rfl
 refine Fv (fun a w'=>False) ?_ ?_
 ·refine wp_block (Hr (fun (m1 : Nat) a w'=>∃ x1 : Int,∃ x2 : Int,∃ x3 : Int,∃ x4 : Bool,Fa Ax m1 x1 x2 x3 x4 = some r ∧ Sx w (Aa.ownBlock.toList) nov [.own Aa 43 5 Ax.length (Ax.flatMap An.enc)] [(0,Aa),(1,iV x1),(2,iV x2),(3,iV x3),(4,.func (.func 23) #[] #[]),(10,bV x4)] 148 a w') id 4611686018427387904 ⟨Bb,Bf,Cb,true,h,S.nf [true] rfl (subR rfl)⟩ ?_)
  clear S h;rintro m1 a w1 ⟨x1,x2,x3,x4,h,S⟩
  cases m1 with
  | zero=>rw [Fa.eq_1] at h;cases h
  | succ m1 =>
   rw [Fa.eq_2] at h
   refine wp_block (Fr (Vm S rfl rfl fun a S=>Vm S rfl rfl fun a S=>Vb S Iw rfl rfl rfl fun a S=>Va S rfl rfl fun a S=>Dl (Fs (Fs ?_))))
   refine Fg (Vm S rfl rfl fun a S=>Vq S St rfl rfl rfl fun a S=>Dl (Fc h (S.tm rfl) (fun hb1 h=>?_) (fun hb1 h=>?_)))
   ·refine Fs (Fg ?_)
    iterate 4 (refine Vm S rfl rfl ?_;clear S;intro a S)
    obtain ⟨r1,hr1,h⟩:=Gs h
    refine Pa 0 S rfl (fun _=>.own Aa 43 5 r1.length (r1.flatMap An.enc)) (fun _=>Eb (vs:=[Aa,iV x1,iV x2,.func (.func 23) #[] #[]]) ⟨(S.tm rfl),(S.tm rfl),(S.tm rfl),(S.tm rfl),trivial⟩ call65) (Lk _ Aa Ax (S.holds _ (List.mem_of_getElem? (i:=0) rfl)) x1 x2 _ hr1) rfl (fun _ _ _ h=>⟨h.1,fun _ hc=>hc⟩) ?_;clear S;intro v1 a w3 hv1 hk1 hn1 S
    replace hv1:=hv1.2
    subst hv1
    refine Ld ?_
    replace S:=(S.nl [.own Aa 43 5 r1.length (r1.flatMap An.enc)] [true] rfl).k0
    refine Tn (wp_ret (Ee (Gy (Ee (Gy (Ee ?_))))))
    obtain rfl:=Option.some.inj h
    exact Rp S results37 ⟨(S.holds _ (List.mem_of_getElem? (i:=0) rfl)),rfl⟩
   ·refine wp_skip (Tn (Fs (Fr (Vm S rfl rfl fun a S=>Vq S Ko rfl rfl rfl fun a S=>Dl (Fc h (S.tm rfl) (fun hb2 h=>?_) (fun hb2 h=>?_))))))
    ·refine Fs ?_
     cases h
    ·refine wp_skip (Tn (Fs (Fr (Vm S rfl rfl fun a S=>Vu S Ip rfl rfl fun a S=>Ld ?_))))
     replace S:=S.k1 39 rfl
     refine Tn (Fc h (S.tm rfl) (fun hb3 h=>?_) (fun hb3 h=>?_))
     ·refine Fs ?_
      cases h
     ·refine wp_skip (Tn (Fs ?_))
      cases h
 exact fun _ _ h=>h.elim
theorem Nu (w : World) (Bp : Value) (Av : List An) (Cy : (LEnt.own Bp 43 5 Av.length (Av.flatMap An.enc)).holds w) (r : (List An)) (h : Hi Av = some r) :
    Calls prog 16 [Bp,.func (.func 23) #[] #[]].toArray w (Ret w (Bp.ownBlock.toList) fun _ v w'=>(LEnt.own Bp 43 5 r.length (r.flatMap An.enc)).holds w' ∧ v = .tuple #[]):=by
 refine Kz (Bp.ownBlock.toList) [.own Bp 43 5 Av.length (Av.flatMap An.enc)] func16 rfl ntmps16 rfl (fun e he=>by simp only [List.mem_singleton] at he;subst he;exact Cy) (Kf _) (Lm _) fun a S=>?_
 unfold Hi at h
 replace S:=(S.nl [.own Bp 43 5 Av.length (Av.flatMap An.enc)] [true] rfl).k2 0 1 rfl
 refine Fr (Vm S rfl rfl fun a S=>lv S (Gc Jr (S.tm rfl) (Om (S.own_at (i:=0) rfl))) rfl fun a S=>Va S rfl rfl fun a S=>Dl (Fg ?_))
 iterate 3 (refine Vm S rfl rfl ?_;clear S;intro a S)
 refine Vu S (Pe underlying3 underlying97) rfl rfl ?_;clear S;intro a S
 obtain ⟨r1,hr1,h⟩:=Gs h
 refine Eg S (fun _=>Eb (vs:=[.int .u64 (IntKind.wrap .u64 (Av.length : Int))]) ⟨(S.tm rfl),trivial⟩ call38) (Ud _ (IntKind.wrap .u64 (Av.length : Int)) _ hr1) rfl ?_;clear S;intro v1 a w1 hv1 hk1 hn1 S
 subst hv1
 refine Vm S rfl rfl ?_;clear S;intro a S
 obtain ⟨r2,hr2,h⟩:=Gs h
 refine Pa 0 S rfl (fun _=>.own Bp 43 5 r2.length (r2.flatMap An.enc)) (fun _=>Eb (vs:=[Bp,iV 0,iV (Av.length : Int),iV r1,.func (.func 23) #[] #[]]) ⟨(S.tm rfl),rfl,(S.tm rfl),(S.tm rfl),(S.tm rfl),trivial⟩ call37) (Mo _ Bp Av (S.holds _ (List.mem_of_getElem? (i:=0) rfl)) 0 (Av.length : Int) r1 _ hr2) rfl (fun _ _ _ h=>⟨h.1,fun _ hc=>hc⟩) ?_;clear S;intro v2 a w2 hv2 hk2 hn2 S
 replace hv2:=hv2.2
 subst hv2
 refine Ld ?_
 obtain rfl:=Option.some.inj h
 exact Rp S results16 ⟨(S.holds _ (List.mem_of_getElem? (i:=0) rfl)),rfl⟩
set_option maxRecDepth 4000 in
theorem Ug (w : World) (Ah : Value) (Ak : List An) (Bd : Slc (view w []) 5 Ah (Ak.map An.enc)) (Ad : Value) (Ao : List Eh) (Am : Slc (view w []) 3 Ad (Ao.map Eh.enc)) (Az : Int) (r : Int × List (List Dw)) (h : Mg Ak Ao Az = some r) :
    Calls prog 25 [Ah,Ad,iV Az].toArray w (Ret w [] fun τ v w'=>∃ (b : Nat) (u1 : Value) (rs : List RS),v = .pointer (some ⟨b,0,none⟩) ∧ Slc (Tu τ b) 1 u1 (rs.map RS.enc) ∧ Ii (Rh (Tu τ b)) r.2 rs ∧ Grp w w' [] [.blk b [Ah,iV r.1,u1,iV Az,.slice none 0 0,iV 0,iV 0,bV false] 65]):=by
 refine Kz [] [] func25 rfl ntmps25 rfl (by simp) (by simp [fps]) (by simp [fps]) fun a S=>?_
 unfold Mg at h
 replace S:=S.k3 0 1 2 rfl
 refine Fs ?_
 refine Fg ?_
 refine lv S (Ra rfl) rfl ?_;clear S;intro a S
 refine Ld ?_
 refine Tn ?_
 refine Fs ?_
 refine Fg ?_
 refine lv S (Rm (S.tm rfl)) rfl ?_;clear S;intro a S
 refine lv S (Rm (S.tm rfl)) rfl ?_;clear S;intro a S
 refine lv S (Pk bt_65 (pv:=[(0,Ah),(3,iV Az)]) ⟨rfl,(S.tm rfl),rfl,(S.tm rfl),trivial⟩ (cs:=[Ah,iV 0,.slice none 0 0,iV Az,.slice none 0 0,iV 0,iV 0,bV false]) (by obtain ⟨_,_,hv⟩:=(Dy Bd);rw [hv];clear hv;kernel_rfl)) rfl ?_;clear S;intro a S
 refine Ox S (S.tm rfl) (cs:=[Ah,iV 0,.slice none 0 0,iV Az,.slice none 0 0,iV 0,iV 0,bV false]) rfl rfl ?_;clear S;intro a w1 b1 hz1 hk1 S
 replace S:=S.nil 100 1
 refine lv S (Ra (S.tm rfl)) rfl ?_;clear S;intro a S
 refine Ld ?_
 refine Tn ?_
 refine Fs ?_
 refine Fs ?_
 refine Fg ?_
 refine lv S (Rm (S.tm rfl)) rfl ?_;clear S;intro a S
 refine lv S (Gc Si (S.tm rfl) (Dy Am)) rfl ?_;clear S;intro a S
 refine lv S (Rm rfl) rfl ?_;clear S;intro a S
 refine Ld ?_
 refine Tn ?_
 replace S : Sx w [] nov ([.own (.slice none 0 0) 100 1 ([] : List RS).length (([] : List RS).flatMap RS.enc),.blk b1 [Ah,iV 0,(.slice none 0 0),iV Az,(.slice none 0 0),iV 0,iV 0,bV false] 65] ++ Ku 103 2 Dw.enc (([] : List RS).map (·.val)) ([] : List (List Dw))) [(0,Ah),(1,Ad),(2,iV Az),(7,.pointer (some ⟨b1,0,none⟩)),(16,Ad),(17,iV (Ao.length : Int)),(18,iV 0)] 120 a w1:=S.sub (subR rfl)
 obtain ⟨j1,hj1,h⟩:=Gh h
 refine Fv (fun a w'=>∃ x1 : Int,∃ x2 : List (List Dw),∃ rs : List RS,∃ v1 : Value,j1 x1 x2 = some r ∧ rs.length = x2.length ∧ Sx w [] nov ([.own v1 100 1 rs.length (rs.flatMap RS.enc),.blk b1 [Ah,iV x1,v1,iV Az,(.slice none 0 0),iV 0,iV 0,bV false] 65] ++ Ku 103 2 Dw.enc (rs.map (·.val)) x2) [(7,.pointer (some ⟨b1,0,none⟩))] 120 a w') ?_ ?_
 ·refine wp_block (Hr (fun (ys1 : List Eh) a w'=>∃ i1 : Nat,∃ x1 : Int,∃ x2 : List (List Dw),∃ rs : List RS,∃ v1 : Value,(∃ dn,Ao = dn ++ ys1 ∧ dn.length = i1) ∧ Fx Ak Ao Az j1 ys1 i1 x1 x2 = some r ∧ rs.length = x2.length ∧ Sx w [] nov ([.own v1 100 1 rs.length (rs.flatMap RS.enc),.blk b1 [Ah,iV x1,v1,iV Az,(.slice none 0 0),iV 0,iV 0,bV false] 65] ++ Ku 103 2 Dw.enc (rs.map (·.val)) x2) [(0,Ah),(1,Ad),(2,iV Az),(7,.pointer (some ⟨b1,0,none⟩)),(16,Ad),(17,iV (Ao.length : Int)),(18,iV (i1 : Int))] 120 a w') List.length Ao ⟨0,0,[],[],_,⟨[],rfl,rfl⟩,h,rfl,S.sub (subR rfl)⟩ ?_)
  clear S h;rintro ys1 a w2 ⟨i1,x1,x2,rs,v1,⟨dn,hd1,hi1⟩,h,hl,S⟩
  cases ys1 with
  | nil =>
   rw [Fx.eq_1] at h
   refine Fr (Vb S Fu rfl rfl rfl fun a S=>Dl ?_)
   exact Fs (wp_cond_false ((S.tm rfl).trans (congrArg Value.bool (Jd hd1 hi1))) (wp_exit (Fj (Fj (Hp (Tn ⟨x1,x2,rs,v1,h,hl,S.sub (subR rfl)⟩))))))
  | cons y1 ys1 =>
   rw [Fx.eq_2] at h
   refine Fr (Vb S Fu rfl rfl rfl fun a S=>Dl ?_)
   refine Fs (wp_cond_true ((S.tm rfl).trans (congrArg Value.bool (Hx hd1 hi1))) (wp_skip (Tn (Fs ?_))))
   refine wp_block ?_
   refine Fs ?_
   refine Fg ?_
   refine lv S (Rm (S.tm rfl)) rfl ?_;clear S;intro a S
   obtain ⟨b2,o1,hm1,hr1⟩:=Fo (a:=a) (x:=.tmp 16) (y:=.tmp 18) (ty:=0) Si Am (Il hd1 hi1) rfl (S.tm rfl) (S.tm rfl)
   refine lv S (hr1 _) rfl ?_;clear S;intro a S
   clear hr1
   refine lv S (Ie isAgg52 sizeOf52 (off:=o1) (o:=0) (part:=(Eh.enc y1)) rfl rfl (S.tm rfl) (hm1.at S.emb0)) rfl ?_;clear S;intro a S
   refine Nw S zeroValue52 (cs:=[sV Eo,sV Eo,iV 0]) rfl rfl ?_;clear S;intro a w3 b3 hz2 hk2 S
   refine lv S (Ra (S.tm rfl)) rfl ?_;clear S;intro a S
   refine Kq S (S.tm rfl) (S.tm rfl) (i:=0) (off:=0) rfl sizeOf52 (vs:=(Eh.enc y1)) rfl rfl rfl rfl ?_;clear S;intro w4 hk3 S
   refine Ld ?_
   refine Tn ?_
   replace S : Sx w [] nov ([.blk b3 (Eh.enc y1) 52,.own v1 100 1 rs.length (rs.flatMap RS.enc),.blk b1 [Ah,iV x1,v1,iV Az,(.slice none 0 0),iV 0,iV 0,bV false] 65] ++ Ku 103 2 Dw.enc (rs.map (·.val)) x2) [(0,Ah),(1,Ad),(2,iV Az),(7,.pointer (some ⟨b1,0,none⟩)),(8,iV (i1 : Int)),(9,.pointer (some ⟨b3,0,none⟩)),(16,Ad),(17,iV (Ao.length : Int)),(18,iV (i1 : Int))] 120 a w4:=S.sub (subR rfl)
   obtain ⟨j2,hj2,h⟩:=Gh h
   refine Fs ?_
   refine Fs ?_
   refine Gz [] ([]) Tryz.mixed S rfl (by kernel_rfl) ?_;clear S;intro w5 hk4 hsel S
   refine Jy [0,1,2,3,4,5,6,7,8,9,10,11,12] hsel (by kernel_rfl) rfl ?_
   clear hsel
   refine Gb S rfl (Rm (S.tm rfl)) rfl ?_;clear S;intro a S
   refine Gb S rfl (Ko (S.tm rfl) rfl) rfl ?_;clear S;intro a S
   refine Gb S rfl (Rm (S.tm rfl)) rfl ?_;clear S;intro a S
   obtain ⟨jc,hjc,h⟩:=Gh h
   refine CG 10 (fun a w'=>∃ c1,jc c1 = some r ∧ Keep [] w5 w' ∧ Sx w [] nov ([.blk b3 (Eh.enc y1) 52,.own v1 100 1 rs.length (rs.flatMap RS.enc),.blk b1 [Ah,iV x1,v1,iV Az,(.slice none 0 0),iV 0,iV 0,bV false] 65] ++ Ku 103 2 Dw.enc (rs.map (·.val)) x2) [(0,Ah),(1,Ad),(2,iV Az),(7,.pointer (some ⟨b1,0,none⟩)),(9,.pointer (some ⟨b3,0,none⟩)),(16,Ad),(17,iV (Ao.length : Int)),(18,iV (i1 : Int)),(35,bV c1)] 120 a w') ?_ ?_
   ·rcases Bool.eq_false_or_eq_true (decide ((i1 : Int) = 0)) with hb1 | hb1
    ·replace h:=Qr h hb1
     iterate 9 (refine Rb S rfl rfl rfl rfl (Nf hb1) rfl ?_ rfl;clear S;intro a S)
     refine Gb S rfl (Mv true hb1 (S.tm rfl) rfl) rfl ?_;clear S;intro a S
     refine Ix ?_
     exact ⟨_,h,Keep.refl _ _,S.nf [true,true,true] rfl (subR rfl)⟩
    ·replace h:=Qs h hb1
     refine Ig S rfl rfl rfl rfl hb1 ?_
     refine Jq S (Rm (S.tm rfl)) rfl ?_;clear S;intro a S
     refine Ig S rfl rfl rfl rfl hb1 ?_
     refine Jq S (Rm (S.tm rfl)) rfl ?_;clear S;intro a S
     refine Ig S rfl rfl rfl rfl hb1 ?_
     refine Jq S (Iw (S.tm rfl) rfl) rfl ?_;clear S;intro a S
     refine Ig S rfl rfl rfl rfl hb1 ?_
     obtain ⟨hc1,h⟩:=Hs h
     obtain ⟨b4,o2,hm2,hr2⟩:=Fo (a:=a) (x:=.tmp 26) (y:=.tmp 28) (ty:=0) Si Am (Ef hc1).1 (Ef hc1).2 (S.tm rfl) (S.tm rfl)
     refine Jq S (hr2 _) rfl ?_;clear S;intro a S
     clear hr2
     refine Ig S rfl rfl rfl rfl hb1 ?_
     refine Jq S (Gi Qq (S.tm rfl)) rfl ?_;clear S;intro a S
     refine Ig S rfl rfl rfl rfl hb1 ?_
     refine Jq S (Ha isAgg9 (off:=o2) (o:=0) (S.tm rfl) (hm2.at S.emb0) rfl) rfl ?_;clear S;intro a S
     refine Ig S rfl rfl rfl rfl hb1 ?_
     refine Jq S (Gi Qq (S.tm rfl)) rfl ?_;clear S;intro a S
     refine Ig S rfl rfl rfl rfl hb1 ?_
     refine Jq S (Ky isAgg9 (S.tm rfl) (S.cell (i:=0) rfl rfl)) rfl ?_;clear S;intro a S
     refine Ig S rfl rfl rfl rfl hb1 ?_
     refine Jq S (FT (S.tm rfl) (S.tm rfl)) rfl ?_;clear S;intro a S
     refine Gb S rfl (Mw hb1 (S.tm rfl) (S.tm rfl)) rfl ?_;clear S;intro a S
     refine Ix ?_
     exact ⟨_,h,Keep.refl _ _,S.nf [true,true,true] rfl (subR rfl)⟩
   clear S h;rintro a w6 ⟨c1,h,hk5,S⟩;rw [hjc] at h;clear hjc jc
   refine Ix ?_
   refine Tn ?_
   refine Fv (fun a w'=>∃ x3 : List (List Dw),∃ rs3 : List RS,∃ v3 : Value,j2 x3 = some r ∧ rs3.length = x3.length ∧ Sx w [] nov ([.blk b3 (Eh.enc y1) 52,.own v3 100 1 rs3.length (rs3.flatMap RS.enc),.blk b1 [Ah,iV x1,v3,iV Az,(.slice none 0 0),iV 0,iV 0,bV false] 65] ++ Ku 103 2 Dw.enc (rs3.map (·.val)) x3) [(0,Ah),(1,Ad),(2,iV Az),(7,.pointer (some ⟨b1,0,none⟩)),(9,.pointer (some ⟨b3,0,none⟩)),(16,Ad),(17,iV (Ao.length : Int)),(18,iV (i1 : Int))] 120 a w') ?_ ?_
   ·refine Wz (S.tm rfl) (fun hb2=>?_) (fun hb2=>?_)
    ·replace h:=Qr h hb2
     obtain ⟨hc2,h⟩:=Hs h
     obtain ⟨hc3,h⟩:=Hs h
     refine Gz [12] (v1.ownBlock.toList) Tryz.mixed S rfl (by kernel_rfl) ?_;clear S;intro w12 hk10 hsel S
     refine Gw 0 S hsel rfl rfl (by kernel_rfl) (by kernel_rfl) rfl (fun _=>(Rm (S.tm rfl))) ?_;clear S;intro a S
     refine Gw 1 S hsel rfl rfl (by kernel_rfl) (by kernel_rfl) rfl (fun _=>(Rm (S.tm rfl))) ?_;clear S;intro a S
     refine Gw 2 S hsel rfl rfl (by kernel_rfl) (by kernel_rfl) rfl (fun _=>(Ft (S.tm rfl))) ?_;clear S;intro a S
     refine Gw 3 S hsel rfl rfl (by kernel_rfl) (by kernel_rfl) rfl (fun _=>(Gi Wl (S.tm rfl))) ?_;clear S;intro a S
     refine Ec 4 S hsel rfl (by kernel_rfl) (by kernel_rfl) (by kernel_rfl) (by kernel_rfl) rfl (fun _ hw=>(Ha isAgg63 (off:=0) (o:=2) (S.tm rfl) ((S.blk_mem (i:=2) (cells:=[Ah,iV x1,v1,iV Az,(.slice none 0 0),iV 0,iV 0,bV false]) (b:=b1) (T:=65) rfl (Rw (i:=1) (j:=2) (e:=_) (e':=.blk b1 [Ah,iV x1,v1,iV Az,(.slice none 0 0),iV 0,iV 0,bV false] 65) S rfl rfl rfl)).kept hw) rfl)) ?_;clear S;intro a S
     refine Gw 5 S hsel rfl rfl (by kernel_rfl) (by kernel_rfl) rfl (fun _=>(Rm (S.tm rfl))) ?_;clear S;intro a S
     refine Gw 6 S hsel rfl rfl (by kernel_rfl) (by kernel_rfl) rfl (fun _=>(Gc Jr (S.tm rfl) (Dy Bd))) ?_;clear S;intro a S
     refine Fy 7 (by kernel_rfl) rfl ?_
     refine IR (Z:=(Dw.mk 0 0)) S Zi Dw.enc_ok (by kernel_rfl) rfl rfl (S.tm rfl) (mk_lo hc2) (mk_hi hc2) rfl ?_;clear S;intro a w13 b7 hz5 hk11 S
     refine Ld ?_
     refine Gr (Keep.none hk11) ?_
     refine Fy 8 (by kernel_rfl) rfl ?_
     refine Ff S underlying63 sizeOf100 zeroValue100 rfl rfl (pv:=[(0,(.slice (some ⟨b7,0,none⟩) ((Ak.length : Int).toNat) ((Ak.length : Int).toNat)))]) ⟨rfl,(S.tm rfl),trivial⟩ (cs:=[(.slice (some ⟨b7,0,none⟩) ((Ak.length : Int).toNat) ((Ak.length : Int).toNat))]) (by kernel_rfl) rfl ?_;clear S;intro a w14 b8 hz6 hk12 S
     refine Ld ?_
     refine Gr (Keep.none hk12) ?_
     refine Fy 9 (by kernel_rfl) rfl ?_
     have hone : (Value.slice (some ⟨b7,0,none⟩) ((Ak.length : Int).toNat) ((Ak.length : Int).toNat)).oneCell' = true:=Ei.one ⟨_,_,rfl⟩
     refine Nj DZ RS.enc_ok S (S.tm rfl) (i:=3) rfl (S.tm rfl) (j:=0) rfl (ys:=[(⟨(.slice (some ⟨b7,0,none⟩) ((Ak.length : Int).toNat) ((Ak.length : Int).toNat)),hone⟩ : RS)]) rfl rfl rfl rfl (by have:=Kl hc3;simp;omega) rfl ?_;clear S;intro v3 a w15 hk13 S
     refine Ld ?_
     refine Gr hk13 ?_
     refine Gw 10 S hsel rfl rfl (by kernel_rfl) (by kernel_rfl) rfl (fun _=>(Ft (S.tm rfl))) ?_;clear S;intro a S
     refine Gw 11 S hsel rfl rfl (by kernel_rfl) (by kernel_rfl) rfl (fun _=>(Gi Wl (S.tm rfl))) ?_;clear S;intro a S
     refine Wc 12 ([b1]) rfl (by kernel_rfl) rfl ?_
     refine Kq S (S.tm rfl) (S.tm rfl) (i:=4) (off:=2) rfl sizeOf63 (vs:=[v3]) (Ei.cells (Om (S.own_at (i:=3) rfl))) rfl rfl (Ya (Ei.one (Om (S.own_at (i:=3) rfl))) rfl) ?_;clear S;intro w16 hk14 S
     refine Ld ?_
     refine Wd ?_
     refine Sg (by kernel_rfl) ?_
     clear hsel
     replace S : Sx w [] nov (.own (.slice (some ⟨b7,0,none⟩) ((Ak.length : Int).toNat) ((Ak.length : Int).toNat)) 103 2 (List.replicate ((Ak.length : Int).toNat) (Dw.mk 0 0)).length ((List.replicate ((Ak.length : Int).toNat) (Dw.mk 0 0)).flatMap Dw.enc) :: ([.blk b3 (Eh.enc y1) 52,.own v3 100 1 (rs ++ [(⟨(.slice (some ⟨b7,0,none⟩) ((Ak.length : Int).toNat) ((Ak.length : Int).toNat)),hone⟩ : RS)]).length ((rs ++ [(⟨(.slice (some ⟨b7,0,none⟩) ((Ak.length : Int).toNat) ((Ak.length : Int).toNat)),hone⟩ : RS)]).flatMap RS.enc),.blk b1 [Ah,iV x1,v3,iV Az,(.slice none 0 0),iV 0,iV 0,bV false] 65] ++ Ku 103 2 Dw.enc (rs.map (·.val)) x2)) [(0,Ah),(1,Ad),(2,iV Az),(7,.pointer (some ⟨b1,0,none⟩)),(9,.pointer (some ⟨b3,0,none⟩)),(16,Ad),(17,iV (Ao.length : Int)),(18,iV (i1 : Int))] 120 a w16:=(Sx.drop S (List.sublist_cons_self _ _)).sub (subR rfl)
     replace S:=Sx.join_rows (by rw [List.length_map];exact hl) S
     refine Tn ⟨x2 ++ [List.replicate ((Ak.length : Int).toNat) (Dw.mk 0 0)],rs ++ [(⟨(.slice (some ⟨b7,0,none⟩) ((Ak.length : Int).toNat) ((Ak.length : Int).toNat)),hone⟩ : RS)],v3,h,by simp [hl],?_⟩
     rw [List.map_append]
     exact S
    ·replace h:=Qs h hb2
     exact wp_skip (Tn ⟨x2,rs,v1,h,hl,S.sub (subR rfl)⟩)
   clear S h;rintro a w7 ⟨x3,rs3,v3,h,hl3,S⟩;rw [hj2] at h
   refine Tn ?_
   obtain ⟨hc4,h⟩:=Hs h
   obtain ⟨hc5,h⟩:=Hs h
   have hx3:=(Ef hc4).1
   have hz3:=(Ef hc4).2
   have hlr : ((rs3.length : Nat) : Int) = (x3.length : Int):=by rw [hl3]
   generalize hrow : nth x3 (W ((x3.length : Int) - 1)) = row at h hc5 hx3
   generalize hjr : (W ((x3.length : Int) - 1)).toNat = jr at h hx3 hz3
   obtain ⟨rw1,hr3⟩ : ∃ q,rs3[jr]? = some q:=⟨_,List.getElem?_eq_getElem (by rw [hl3];exact (List.getElem?_eq_some_iff.1 hx3).1)⟩
   have hv3 : (rs3.map (·.val))[jr]? = some rw1.val:=by rw [List.getElem?_map,hr3];rfl
   replace S:=S.take_row hv3 hx3
   generalize hkk : Ea Ak y1.Item = kk at h hc5
   obtain ⟨sp,hsp,hzk⟩ : ∃ sp,row[kk.toNat]? = some sp ∧ nth row kk = sp:=⟨_,(Ef hc5).1,rfl⟩
   rw [hzk] at h
   obtain ⟨j3,hj3,h⟩:=Gh h
   refine Fs ?_
   refine Fg ?_
   refine lv S (Rm (S.tm rfl)) rfl ?_;clear S;intro a S
   refine lv S (Gi Wj (S.tm rfl)) rfl ?_;clear S;intro a S
   refine lv S (Ky isAgg9 (S.tm rfl) (S.cell (i:=1) rfl rfl)) rfl ?_;clear S;intro a S
   refine Eg S (fun _=>Eb (vs:=[Ah,sV y1.Item]) ⟨(S.tm rfl),(S.tm rfl),trivial⟩ call28) (Qc _ Ah Ak (Bd.mono (S.le_arg Fk)) y1.Item _ hkk) rfl ?_;clear S;intro v4 a w17 hv1 hk15 hn1 S
   subst hv1
   refine lv S (Ra (S.tm rfl)) rfl ?_;clear S;intro a S
   refine Ld ?_
   refine Tn ?_
   refine Fs ?_
   refine Gz [] ([]) Tryz.mixed S rfl (by kernel_rfl) ?_;clear S;intro w18 hk16 hsel S
   refine Jy [0,1,2,3,4,5,6,7,8,9,10,11,12,13,14] hsel (by kernel_rfl) rfl ?_
   clear hsel
   refine Gb S rfl (Rm (S.tm rfl)) rfl ?_;clear S;intro a S
   refine Gb S rfl (Ft (S.tm rfl)) rfl ?_;clear S;intro a S
   refine Gb S rfl (Gi Wl (S.tm rfl)) rfl ?_;clear S;intro a S
   refine Gb S rfl (Ky isAgg63 (S.tm rfl) (S.cell (i:=3) rfl rfl)) rfl ?_;clear S;intro a S
   refine Gb S rfl (Rm (S.tm rfl)) rfl ?_;clear S;intro a S
   refine Gb S rfl (Ft (S.tm rfl)) rfl ?_;clear S;intro a S
   refine Gb S rfl (Gi Wl (S.tm rfl)) rfl ?_;clear S;intro a S
   refine Gb S rfl (Ky isAgg63 (S.tm rfl) (S.cell (i:=3) rfl rfl)) rfl ?_;clear S;intro a S
   refine Gb S rfl (Gc DZ (S.tm rfl) (Om (S.own_at (i:=2) rfl))) rfl ?_;clear S;intro a S
   refine Gb S rfl (Iw (S.tm rfl) rfl) rfl ?_;clear S;intro a S
   obtain ⟨b9,hg2,hr6⟩:=Gv (a:=a) (x:=.tmp 55) (y:=.tmp 61) (ty:=0) DZ RS.enc_ok S (i:=2) rfl hr3 (by rw [hlr];exact hz3) (S.tm rfl) (S.tm rfl)
   refine Gb S rfl (hr6 _) rfl ?_;clear S;intro a S
   clear hr6
   refine Gb S rfl (Ha isAgg100 (off:=jr * 1) (o:=0) (cs:=[rw1.val]) (v:=rw1.val) (S.tm rfl) (show Mb w18 b9 _ [rw1.val] from Nm (enc:=RS.enc) RS.enc_ok S (i:=2) rfl hg2 hr3) rfl) rfl ?_;clear S;intro a S
   refine Gb S rfl (Rm (S.tm rfl)) rfl ?_;clear S;intro a S
   obtain ⟨b10,hg3,hr7⟩:=Gv (a:=a) (x:=.tmp 63) (y:=.tmp 64) (ty:=0) Zi Dw.enc_ok S (i:=0) rfl hsp (Ef hc5).2 (S.tm rfl) (S.tm rfl)
   refine Gb S rfl (hr7 _) rfl ?_;clear S;intro a S
   clear hr7
   refine Gb S rfl (Ra (S.tm rfl)) rfl ?_;clear S;intro a S
   refine Ix ?_
   refine Tn ?_
   replace S : Sx w [] nov ([.own rw1.val 103 2 row.length (row.flatMap Dw.enc)] ++ ([.blk b3 (Eh.enc y1) 52,.own v3 100 1 rs3.length (rs3.flatMap RS.enc),.blk b1 [Ah,iV x1,v3,iV Az,(.slice none 0 0),iV 0,iV 0,bV false] 65] ++ Ku 103 2 Dw.enc ((rs3.map (·.val)).set jr (.slice none 0 0)) (x3.set jr []))) [(0,Ah),(1,Ad),(2,iV Az),(7,.pointer (some ⟨b1,0,none⟩)),(9,.pointer (some ⟨b3,0,none⟩)),(10,iV kk),(11,.pointer (some ⟨b10,kk.toNat * 2,none⟩)),(16,Ad),(17,iV (Ao.length : Int)),(18,iV (i1 : Int))] 120 a w18:=S.sub (subR rfl)
   refine Fs ?_
   refine Fs ?_
   refine Fg ?_
   refine lv S (Rm (S.tm rfl)) rfl ?_;clear S;intro a S
   refine lv S (Ft (S.tm rfl)) rfl ?_;clear S;intro a S
   refine lv S (Gi Sj (S.tm rfl)) rfl ?_;clear S;intro a S
   refine lv S (Ha isAgg3 (off:=kk.toNat * 2) (o:=1) (S.tm rfl) (Nm Dw.enc_ok S (i:=0) rfl hg3 hsp) rfl) rfl ?_;clear S;intro a S
   refine lv S (Ko (S.tm rfl) rfl) rfl ?_;clear S;intro a S
   refine Ld ?_
   refine Tn ?_
   refine Fv (fun a w'=>∃ x4 : Int,j3 x4 = some r ∧ Sx w [] nov ([.own rw1.val 103 2 (row.set kk.toNat (Dw.mk (if decide (sp.last_ = 0) then y1.Heat else sp.first_) sp.last_)).length ((row.set kk.toNat (Dw.mk (if decide (sp.last_ = 0) then y1.Heat else sp.first_) sp.last_)).flatMap Dw.enc)] ++ ([.blk b3 (Eh.enc y1) 52,.own v3 100 1 rs3.length (rs3.flatMap RS.enc),.blk b1 [Ah,iV x4,v3,iV Az,(.slice none 0 0),iV 0,iV 0,bV false] 65] ++ Ku 103 2 Dw.enc ((rs3.map (·.val)).set jr (.slice none 0 0)) (x3.set jr []))) [(0,Ah),(1,Ad),(2,iV Az),(7,.pointer (some ⟨b1,0,none⟩)),(9,.pointer (some ⟨b3,0,none⟩)),(11,.pointer (some ⟨b10,kk.toNat * 2,none⟩)),(16,Ad),(17,iV (Ao.length : Int)),(18,iV (i1 : Int))] 120 a w') ?_ ?_
   ·refine Wz (S.tm rfl) (fun hb3=>?_) (fun hb3=>?_)
    ·replace h:=Qr h hb3
     refine Fg ?_
     refine lv S (Rm (S.tm rfl)) rfl ?_;clear S;intro a S
     refine lv S (Gi Rz (S.tm rfl)) rfl ?_;clear S;intro a S
     refine lv S (Ky isAgg3 (S.tm rfl) (S.cell (i:=1) rfl rfl)) rfl ?_;clear S;intro a S
     refine lv S (Ft (S.tm rfl)) rfl ?_;clear S;intro a S
     refine lv S (Gi EA (S.tm rfl)) rfl ?_;clear S;intro a S
     refine Ng (c:=0) (j:=kk.toNat) (Dw.mk y1.Heat sp.last_) Dw.enc_ok S (S.tm rfl) (S.tm rfl) (i:=0) rfl hg3 hsp sizeOf3 (vs:=[iV y1.Heat]) rfl rfl rfl rfl rfl ?_;clear S;intro w19 hk17 S
     refine Ld (Tn ⟨x1,h,?_⟩)
     rw [if_pos hb3]
     exact S.sub (subR rfl)
    ·replace h:=Qs h hb3
     obtain ⟨hc6,h⟩:=Hs h
     refine Fs ?_
     refine Gz [] ([]) Tryz.mixed S rfl (by kernel_rfl) ?_;clear S;intro w19 hk17 hsel S
     refine Jy [0,1,2,3,4,5,6,7,8,9,10,11,12,13,14,15,16,17,18,19,20,21,22,23,24,25,26,27,28,29] hsel (by kernel_rfl) rfl ?_
     clear hsel
     refine Gb S rfl (Gi Rz (S.tm rfl)) rfl ?_;clear S;intro a S
     refine Gb S rfl (Ky isAgg3 (S.tm rfl) (S.cell (i:=1) rfl rfl)) rfl ?_;clear S;intro a S
     refine Gb S rfl (Rm (S.tm rfl)) rfl ?_;clear S;intro a S
     refine Gb S rfl (Ft (S.tm rfl)) rfl ?_;clear S;intro a S
     refine Gb S rfl (Gi Sj (S.tm rfl)) rfl ?_;clear S;intro a S
     refine Gb S rfl (Ha isAgg3 (off:=kk.toNat * 2) (o:=1) (cs:=[iV sp.first_,iV sp.last_]) (v:=iV sp.last_) (S.tm rfl) (show Mb w19 b10 _ [iV sp.first_,iV sp.last_] from Nm (enc:=Dw.enc) Dw.enc_ok S (i:=0) rfl hg3 hsp) rfl) rfl ?_;clear S;intro a S
     refine Gb S rfl (Iw (S.tm rfl) (S.tm rfl)) rfl ?_;clear S;intro a S
     refine Gb S rfl (Iw (S.tm rfl) rfl) rfl ?_;clear S;intro a S
     refine Gb S rfl (Rm (S.tm rfl)) rfl ?_;clear S;intro a S
     refine Gb S rfl (Rm (S.tm rfl)) rfl ?_;clear S;intro a S
     obtain ⟨b11,o3,hm3,hr8⟩:=Fo (a:=a) (x:=.tmp 84) (y:=.tmp 85) (ty:=0) Jr Bd (Ef hc6).1 (Ef hc6).2 (S.tm rfl) (S.tm rfl)
     refine Gb S rfl (hr8 _) rfl ?_;clear S;intro a S
     clear hr8
     refine Gb S rfl (Gi Te (S.tm rfl)) rfl ?_;clear S;intro a S
     refine Gb S rfl (Ha isAgg3 (off:=o3) (o:=2) (S.tm rfl) (hm3.at S.emb0) rfl) rfl ?_;clear S;intro a S
     refine Gb S rfl (Yz (S.tm rfl) (S.tm rfl)) rfl ?_;clear S;intro a S
     refine Gb S rfl (Gi Rz (S.tm rfl)) rfl ?_;clear S;intro a S
     refine Gb S rfl (Ky isAgg3 (S.tm rfl) (S.cell (i:=1) rfl rfl)) rfl ?_;clear S;intro a S
     refine Gb S rfl (Rm (S.tm rfl)) rfl ?_;clear S;intro a S
     refine Gb S rfl (Ft (S.tm rfl)) rfl ?_;clear S;intro a S
     refine Gb S rfl (Gi Sj (S.tm rfl)) rfl ?_;clear S;intro a S
     refine Gb S rfl (Ha isAgg3 (off:=kk.toNat * 2) (o:=1) (cs:=[iV sp.first_,iV sp.last_]) (v:=iV sp.last_) (S.tm rfl) (show Mb w19 b10 _ [iV sp.first_,iV sp.last_] from Nm (enc:=Dw.enc) Dw.enc_ok S (i:=0) rfl hg3 hsp) rfl) rfl ?_;clear S;intro a S
     refine Gb S rfl (Iw (S.tm rfl) (S.tm rfl)) rfl ?_;clear S;intro a S
     refine Gb S rfl (Rm (S.tm rfl)) rfl ?_;clear S;intro a S
     refine Gb S rfl (Rm (S.tm rfl)) rfl ?_;clear S;intro a S
     obtain ⟨b12,o4,hm4,hr9⟩:=Fo (a:=a) (x:=.tmp 97) (y:=.tmp 98) (ty:=0) Jr Bd (Ef hc6).1 (Ef hc6).2 (S.tm rfl) (S.tm rfl)
     refine Gb S rfl (hr9 _) rfl ?_;clear S;intro a S
     clear hr9
     refine Gb S rfl (Gi Yl (S.tm rfl)) rfl ?_;clear S;intro a S
     refine Gb S rfl (Ha isAgg3 (off:=o4) (o:=3) (S.tm rfl) (hm4.at S.emb0) rfl) rfl ?_;clear S;intro a S
     refine Gb S rfl (Yz (S.tm rfl) (S.tm rfl)) rfl ?_;clear S;intro a S
     refine Gb S rfl (Gf (S.tm rfl) (S.tm rfl)) rfl ?_;clear S;intro a S
     refine Gb S rfl (Rm (S.tm rfl)) rfl ?_;clear S;intro a S
     refine Gb S rfl (Fu (S.tm rfl) (S.tm rfl)) rfl ?_;clear S;intro a S
     refine Ix ?_
     refine Tn ?_
     have hsj : row.set kk.toNat (Dw.mk (if decide (sp.last_ = 0) then y1.Heat else sp.first_) sp.last_) = row:=by rw [if_neg (by rw [hb3];simp)];exact CI hsp
     rw [hsj]
     refine Wz (S.tm rfl) (fun hb4=>?_) (fun hb4=>?_)
     ·replace h:=Qr h hb4
      refine Fg ?_
      refine lv S (Rm (S.tm rfl)) rfl ?_;clear S;intro a S
      refine lv S (Ft (S.tm rfl)) rfl ?_;clear S;intro a S
      refine lv S (Gi CM (S.tm rfl)) rfl ?_;clear S;intro a S
      refine lv S (Ky isAgg3 (S.tm rfl) (S.cell (i:=3) rfl rfl)) rfl ?_;clear S;intro a S
      refine lv S (Gf (S.tm rfl) rfl) rfl ?_;clear S;intro a S
      refine lv S (Ft (S.tm rfl)) rfl ?_;clear S;intro a S
      refine lv S (Gi CM (S.tm rfl)) rfl ?_;clear S;intro a S
      refine Kq S (S.tm rfl) (S.tm rfl) (i:=3) (off:=1) rfl sizeOf3 (vs:=[iV (W (x1 + 1))]) rfl rfl rfl rfl ?_;clear S;intro w20 hk18 S
      exact Ld (Tn ⟨W (x1 + 1),h,S.sub (subR rfl)⟩)
     ·replace h:=Qs h hb4
      exact wp_skip (Tn ⟨x1,h,S.sub (subR rfl)⟩)
   clear S h;rintro a w19 ⟨x4,h,S⟩;rw [hj3] at h
   have hsp2 : (row.set kk.toNat (Dw.mk (if decide (sp.last_ = 0) then y1.Heat else sp.first_) sp.last_))[kk.toNat]? = some (Dw.mk (if decide (sp.last_ = 0) then y1.Heat else sp.first_) sp.last_):=CF hsp
   have hss : (row.set kk.toNat (Dw.mk (if decide (sp.last_ = 0) then y1.Heat else sp.first_) sp.last_)).set kk.toNat (Dw.mk (if decide (sp.last_ = 0) then y1.Heat else sp.first_) y1.Heat) = row.set kk.toNat (Dw.mk (if decide (sp.last_ = 0) then y1.Heat else sp.first_) y1.Heat):=List.set_set ..
   generalize row.set kk.toNat (Dw.mk (if decide (sp.last_ = 0) then y1.Heat else sp.first_) sp.last_) = rowj at S hsp2 hss
   refine Tn ?_
   refine Fg ?_
   refine lv S (Rm (S.tm rfl)) rfl ?_;clear S;intro a S
   refine lv S (Gi Rz (S.tm rfl)) rfl ?_;clear S;intro a S
   refine lv S (Ky isAgg3 (S.tm rfl) (S.cell (i:=1) rfl rfl)) rfl ?_;clear S;intro a S
   refine lv S (Ft (S.tm rfl)) rfl ?_;clear S;intro a S
   refine lv S (Gi Sj (S.tm rfl)) rfl ?_;clear S;intro a S
   refine Ng (c:=1) (j:=kk.toNat) (Dw.mk (if decide (sp.last_ = 0) then y1.Heat else sp.first_) y1.Heat) Dw.enc_ok S (S.tm rfl) (S.tm rfl) (i:=0) rfl hg3 hsp2 sizeOf3 (vs:=[iV y1.Heat]) rfl rfl rfl rfl rfl ?_;clear S;intro w20 hk18 S
   rw [hss] at S
   replace S : Sx w [] nov (.own rw1.val 103 2 (row.set kk.toNat (Dw.mk (if decide (sp.last_ = 0) then y1.Heat else sp.first_) y1.Heat)).length ((row.set kk.toNat (Dw.mk (if decide (sp.last_ = 0) then y1.Heat else sp.first_) y1.Heat)).flatMap Dw.enc) :: ([.blk b3 (Eh.enc y1) 52,.own v3 100 1 rs3.length (rs3.flatMap RS.enc),.blk b1 [Ah,iV x4,v3,iV Az,(.slice none 0 0),iV 0,iV 0,bV false] 65] ++ Ku 103 2 Dw.enc ((rs3.map (·.val)).set jr (.slice none 0 0)) (x3.set jr []))) [(0,Ah),(1,Ad),(2,iV Az),(7,.pointer (some ⟨b1,0,none⟩)),(16,Ad),(17,iV (Ao.length : Int)),(18,iV (i1 : Int))] 120 a w20:=S.sub (subR rfl)
   replace S:=S.put_row (CF hv3) (CF hx3)
   rw [List.set_set,CI hv3,List.set_set] at S
   refine Ld ?_
   refine Ja (Tn (Fg (Vq S Gf rfl rfl rfl fun a S=>Vm S rfl rfl fun a S=>Dl ?_)))
   exact ⟨ys1,⟨i1 + 1,x4,x3.set jr (row.set kk.toNat (Dw.mk (if decide (sp.last_ = 0) then y1.Heat else sp.first_) y1.Heat)),rs3,v3,⟨_,(hd1).trans (List.append_cons _ _ _),by simp [hi1]⟩,h,by rw [List.length_set];exact hl3,S.nf [false,true,true] rfl ⟨rfl,rfl,rfl,rfl,rfl,rfl,(congrArg (fun z=>some (Value.int .i64 z)) (Hy hd1 hi1 (Km Am))),trivial⟩⟩,Nat.lt_succ_self _⟩
 clear S h;rintro a w2 ⟨x1,x2,rs,v1,h,hl,S⟩;rw [hj1] at h;clear hj1 j1
 obtain rfl:=Option.some.inj h
 obtain ⟨φ1,hl1,hrows,S⟩:=Sx.seeRows rfl (by rw [List.length_map];exact hl) S
 obtain ⟨φ2,hl2,hown,S⟩:=S.freezeT (xs:=rs) (enc:=RS.enc) (i:=0) rfl (fun _ h=>by cases h)
 refine Tn ?_
 refine Fs ?_
 refine Fg ?_
 refine lv S (Rm (S.tm rfl)) rfl ?_;clear S;intro a S
 refine lv S (Ra (S.tm rfl)) rfl ?_;clear S;intro a S
 refine Ld ?_
 refine Tn ?_
 refine wp_ret ?_
 have hR : Ii (Rh φ2) x2 rs:=by
  exact (Zh hrows).chg fun x y hq=>Fw Dw.enc_ok (hq.mono hl2)
 exact Fz S results25 rfl ⟨b1,v1,rs,rfl,(Fw RS.enc_ok hown).mono (S.le_hideB (i:=0) rfl),Oi (S.le_hideB (i:=0) rfl) hR,S.grp [0] [] rfl rfl rfl⟩
theorem Lh (w : World) (Bc : Value) (Ba : List Int) (Bu : Slc (view w []) 1 Bc (Ba.map eInt)) (r : (List Int)) (h : Oo Ba = some r) :
    Calls prog 43 [Bc].toArray w (Ret w [] fun τ v _=>Oa τ 3 1 v r.length (r.flatMap eInt)):=by
 refine Fe func43 rfl ntmps43 rfl fun a S=>?_
 unfold Oo at h
 replace S:=S.k1 0 rfl
 refine Fr (Vk S rfl rfl fun a S=>Dl (Fs (Fr (Vm S rfl rfl fun a S=>lv S (DQ underlying22 (Dy Bu) (S.tm rfl) rfl) rfl fun a S=>Ld ?_))))
 refine Tn (Wz (S.tm rfl) (fun hb1=>?_) (fun hb1=>?_))
 ·have hx1:=DP Bu hb1
  subst hx1
  replace h : some ([] : List Int) = some r:=h
  refine Fr (Vk S rfl rfl fun a S=>Dl (wp_ret (Ee ?_)))
  obtain rfl:=Option.some.inj h
  exact Fz S results43 rfl (Kn _ _ _)
 ·refine wp_skip (Tn (Fr (Vd S underlying22 sizeOf3 rfl ?_)));clear S;intro a w1 b1 hz1 hk1 S
  refine Vm S rfl rfl ?_;clear S;intro a S
  replace S:=S.litOwn (i:=0) (xs:=([] : List Int)) rfl Ge rfl rfl rfl
  replace S:=S.nk [.own (.slice (some ⟨b1,0,none⟩) 0 0) 3 1 (([] : List Int) : List Int).length ((([] : List Int) : List Int).flatMap eInt)] [(0,Bc),(2,.slice none 0 0),(3,Bc),(4,bV (IL Bc)),(5,(.slice (some ⟨b1,0,none⟩) 0 0)),(6,Bc)] [] rfl (subR rfl)
  obtain ⟨hc1,h⟩:=Hs h
  refine Xb (Y:=[]) Js Ge S (S.tm rfl) (i:=0) rfl (S.tm rfl) (Bu.mono (S.le_arg (fun _ h=>by cases h))) rfl rfl (by have:=Kl hc1;omega) rfl ?_;clear S;intro v1 a w2 hk2 S
  refine Va S rfl rfl fun a S=>Dl (wp_ret ?_)
  obtain rfl:=Option.some.inj h
  exact Fz S results43 rfl (Oy S (i:=0) rfl rfl)
theorem Vs (w : World) (Bo : Int) (r : List Int) (h : Pg Bo = some r) : Calls prog 77 [(.slice none 0 0),iV Bo].toArray w (Ret w [] fun τ v _=>Oa τ 3 1 v r.length (r.flatMap eInt)):=by
  unfold Pg at h
  obtain ⟨hc,h⟩:=Hs h
  obtain rfl:=Option.some.inj h
  simp only [Bool.and_eq_true,decide_eq_true_eq] at hc
  exact IX (enc:=eInt) Tryz.laysg77 Js rfl rfl hc.1 hc.2 w
theorem It (w : World) (Cj : Value) (Ch : List (List Int)) (Di : List RS) (Ce : Slc (view w []) 1 Cj (Di.map RS.enc)) (Cf : Ii (Qn (view w [])) Ch Di) (r : (List Int)) (h : Mh Ch = some r) :
    Calls prog 44 [Cj].toArray w (Ret w [] fun τ v _=>Oa τ 3 1 v r.length (r.flatMap eInt)):=by
 refine Fe func44 rfl ntmps44 rfl fun a S=>?_
 unfold Mh at h
 replace S:=S.k1 0 rfl
 refine Fr (Vk S rfl rfl fun a S=>Dz (Vk S rfl rfl fun a S=>Dl (Fs ?_)))
 refine Fr (Vm S rfl rfl fun a S=>lv S (Gc CK (S.tm rfl) (Sh Ce Cf)) rfl fun a S=>lv S (Rm rfl) rfl fun a S=>Dl ?_)
 replace S:=S.k5 0 3 9 10 11 rfl
 obtain ⟨j1,hj1,h⟩:=Gh h
 refine Fv (fun a w'=>∃ x1 : Int,j1 x1 = some r ∧ Sx w [] nov [] [(0,Cj),(3,iV x1)] 36 a w') ?_ ?_
 ·refine wp_block (Hr (fun (ys1 : List (List Int)) a w'=>∃ i1 : Nat,∃ x1 : Int,(∃ dn,Ch = dn ++ ys1 ∧ dn.length = i1) ∧ Hg j1 ys1 i1 x1 = some r ∧ Sx w [] nov [] [(0,Cj),(3,iV x1),(9,Cj),(10,iV (Ch.length : Int)),(11,iV (i1 : Int))] 36 a w') List.length Ch ⟨0,0,⟨[],rfl,rfl⟩,h,S.nf [] rfl (subR rfl)⟩ ?_)
  clear S h;rintro ys1 a w1 ⟨i1,x1,⟨dn,hd1,hi1⟩,h,S⟩
  cases ys1 with
  | nil =>
   rw [Hg.eq_1] at h
   refine Fr (Vb S Fu rfl rfl rfl fun a S=>Ld ?_)
   replace S:=S.k6 0 3 9 10 11 12 rfl
   exact Tn (Fs (wp_cond_false ((S.tm rfl).trans (congrArg Value.bool (Jd hd1 hi1))) (wp_exit (Fj (Fj (Hp (Tn (⟨x1,h,S.nf [] rfl (subR rfl)⟩))))))))
  | cons y1 ys1 =>
   rw [Hg.eq_2] at h
   refine Fr (Vb S Fu rfl rfl rfl fun a S=>Ld ?_)
   replace S:=S.k6 0 3 9 10 11 12 rfl
   refine Tn (Fs (wp_cond_true ((S.tm rfl).trans (congrArg Value.bool (Hx hd1 hi1))) (wp_skip (Tn (Fs (wp_block (Fs (Fg ?_))))))))
   obtain ⟨r1,hg1,hl1⟩:=Ii.at Cf (Il hd1 hi1)
   have hs1:=hl1
   obtain ⟨b1,o1,hm1,hr1⟩:=Fo (a:=a) (x:=.tmp 9) (y:=.tmp 11) (ty:=0) CK Ce hg1 rfl (S.tm rfl) (S.tm rfl)
   refine lv S (hr1 _) rfl ?_;clear S;intro a S
   clear hr1
   refine lv S (Ha isAgg22 (off:=o1) (o:=0) (S.tm rfl) (hm1.at S.emb0) rfl) rfl fun a S=>Va S rfl rfl fun a S=>Dz (Vm S rfl rfl fun a S=>Vm S rfl rfl fun a S=>lv S (Gc Js (S.tm rfl) (Dy hs1)) rfl fun a S=>Vb S Gf rfl rfl rfl fun a S=>Va S rfl rfl ?_);clear S;intro a S
   refine Dz (Vm S rfl rfl fun a S=>Vq S Fu rfl rfl rfl fun a S=>Ld ?_)
   replace S:=S.k6 0 3 9 10 11 20 rfl
   refine Tn (Fc h (S.tm rfl) (fun hb1 h=>?_) (fun hb1 h=>?_))
   ·cases h
   ·exact wp_skip (Ja (Tn (Fg (Vq S Gf rfl rfl rfl fun a S=>Vm S rfl rfl fun a S=>Dl (⟨ys1,⟨i1 + 1,W (x1 + (y1.length : Int)),⟨_,(hd1).trans (List.append_cons _ _ _),by simp [hi1]⟩,h,S.nf [] rfl ⟨rfl,rfl,rfl,rfl,(congrArg (fun z=>some (Value.int .i64 z)) (Hy hd1 hi1 (Tt Ce Cf))),trivial⟩⟩,Nat.lt_succ_self _⟩)))))
 clear S h;rintro a w2 ⟨x1,h,S⟩;rw [hj1] at h;clear hj1 j1
 refine Tn (Fr (Vm S rfl rfl ?_));clear S;intro a S
 obtain ⟨r2,hr2,h⟩:=Gs h
 have hz1:=S.keep.size
 refine Eg S (fun _=>Eb (vs:=[.slice none 0 0,iV x1]) ⟨rfl,(S.tm rfl),trivial⟩ call77) (Vs _ x1 _ hr2) rfl ?_;clear S;intro v1 a w3 hv1 hk1 hn1 S
 replace S:=S.take hn1 hz1 hv1
 refine Va S rfl rfl fun a S=>Dl (Fs (Fr (Vm S rfl rfl fun a S=>lv S (Gc CK (S.tm rfl) (Sh Ce Cf)) rfl fun a S=>lv S (Rm rfl) rfl fun a S=>Dl ?_)))
 replace S:=(S.nl [.own v1 3 1 r2.length (r2.flatMap eInt)] [true] rfl).k4 6 25 26 27 rfl
 obtain ⟨j2,hj2,h⟩:=Gh h
 refine Fv (fun a w'=>∃ x2 : List Int,∃ v2 : Value,j2 x2 = some r ∧ Sx w [] nov [.own v2 3 1 x2.length (x2.flatMap eInt)] [(6,v2)] 36 a w') ?_ ?_
 ·refine wp_block (Hr (fun (ys2 : List (List Int)) a w'=>∃ i2 : Nat,∃ x2 : List Int,∃ v2 : Value,(∃ dn,Ch = dn ++ ys2 ∧ dn.length = i2) ∧ Hh j2 ys2 i2 x2 = some r ∧ Sx w [] nov [.own v2 3 1 x2.length (x2.flatMap eInt)] [(6,v2),(25,Cj),(26,iV (Ch.length : Int)),(27,iV (i2 : Int))] 36 a w') List.length Ch ⟨0,r2,v1,⟨[],rfl,rfl⟩,h,S.nf [true] rfl (subR rfl)⟩ ?_)
  clear S h;rintro ys2 a w4 ⟨i2,x2,v2,⟨dn,hd2,hi2⟩,h,S⟩
  cases ys2 with
  | nil =>
   rw [Hh.eq_1] at h
   refine Fr (Vb S Fu rfl rfl rfl fun a S=>Ld ?_)
   replace S:=S.k5 6 25 26 27 28 rfl
   exact Tn (Fs (wp_cond_false ((S.tm rfl).trans (congrArg Value.bool (Jd hd2 hi2))) (wp_exit (Fj (Fj (Hp (Tn (⟨x2,v2,h,S.nf [true] rfl ⟨rfl,trivial⟩⟩))))))))
  | cons y2 ys2 =>
   rw [Hh.eq_2] at h
   refine Fr (Vb S Fu rfl rfl rfl fun a S=>Ld ?_)
   replace S:=S.k5 6 25 26 27 28 rfl
   refine Tn (Fs (wp_cond_true ((S.tm rfl).trans (congrArg Value.bool (Hx hd2 hi2))) (wp_skip (Tn (Fs (wp_block (Fs (Fg ?_))))))))
   obtain ⟨r3,hg2,hl2⟩:=Ii.at Cf (Il hd2 hi2)
   have hs2:=hl2
   obtain ⟨b2,o2,hm2,hr3⟩:=Fo (a:=a) (x:=.tmp 25) (y:=.tmp 27) (ty:=0) CK Ce hg2 rfl (S.tm rfl) (S.tm rfl)
   refine lv S (hr3 _) rfl ?_;clear S;intro a S
   clear hr3
   refine lv S (Ha isAgg22 (off:=o2) (o:=0) (S.tm rfl) (hm2.at S.emb0) rfl) rfl fun a S=>Va S rfl rfl fun a S=>Dl (Fg (Vm S rfl rfl fun a S=>Vm S rfl rfl ?_));clear S;intro a S
   obtain ⟨hc1,h⟩:=Hs h
   refine Xb (Y:=[]) Js Ge S (S.tm rfl) (i:=0) rfl (S.tm rfl) (hs2.mono (S.le_arg (fun _ h=>by cases h))) rfl rfl (by have:=Kl hc1;omega) rfl ?_;clear S;intro v3 a w6 hk2 S
   exact Va S rfl rfl fun a S=>Ld (Ja (Tn (Fg (Vq S Gf rfl rfl rfl fun a S=>Vm S rfl rfl fun a S=>Dl (⟨ys2,⟨i2 + 1,(x2 ++ y2),v3,⟨_,(hd2).trans (List.append_cons _ _ _),by simp [hi2]⟩,h,S.nf [true] rfl ⟨rfl,rfl,rfl,(congrArg (fun z=>some (Value.int .i64 z)) (Hy hd2 hi2 (Tt Ce Cf))),trivial⟩⟩,Nat.lt_succ_self _⟩)))))
 clear S h;rintro a w5 ⟨x2,v2,h,S⟩;rw [hj2] at h;clear hj2 j2
 refine Tn (Fr (Vm S rfl rfl fun a S=>Va S rfl rfl fun a S=>Dl (wp_ret ?_)))
 obtain rfl:=Option.some.inj h
 exact Fz S results44 rfl (Oy S (i:=0) rfl rfl)
theorem Qd (w : World) (Av : An) (Dq : Int) (r : Int) (h : Gg Av Dq = r) :
    Calls prog 45 [.agg (An.enc Av).toArray,iV Dq].toArray w (Ret w [] fun _ v _=>v = iV r):=by
 refine Fe func45 rfl ntmps45 rfl fun a S=>?_
 unfold Gg at h
 replace S:=S.k2 0 1 rfl
 refine Fr (Ox S (S.tm rfl) (cs:=(An.enc Av)) rfl rfl ?_);clear S;intro a w1 b1 hz1 hk1 S
 refine Vk S rfl rfl fun a S=>Dz (Vm S rfl rfl fun a S=>Vq S Iw rfl rfl rfl fun a S=>Vf Te S rfl rfl fun a S=>Vl isAgg3 0 S rfl rfl rfl rfl fun a S=>Vf Yl S rfl rfl fun a S=>Vl isAgg3 0 S rfl rfl rfl rfl ?_);clear S;intro a S
 refine Vb S Gf rfl rfl rfl fun a S=>Vb S Yz rfl rfl rfl fun a S=>Va S rfl rfl fun a S=>Dl (wp_ret ?_)
 subst h
 exact Fz S results45 rfl rfl
end Go.Proofs.YtombbefepcipcaaGreatDoor
