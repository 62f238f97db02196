/- Each Go function computes its plain twin,by program. -/
import Derived.Test.YtancihamhcdboaaGreatDoorTab
import Derived.Test.YtancihamhcdboaaGreatDoorLay
import Derived.Test.YtancihamhcdboaaGreatDoorSeq
namespace Go.Proofs.YtancihamhcdboaaGreatDoor
open Go
open Go.Proofs.Tryz
theorem Xf (w : World) (Ac : Int) (Ba : Int) (r : Int) (h : Rk Ac Ba = some r) :
    Calls prog 80 [iV Ac,iV Ba].toArray w (Ret w [] fun _ v _=>v = iV r):=by
 refine Fe func80 rfl ntmps80 rfl fun a S=>?_
 unfold Rk at h
 replace S:=S.k2 0 1 rfl
 refine Fr (Vk S rfl rfl fun a S=>Dl (Fs (Fr (Vm S rfl rfl fun a S=>Vq S Ev rfl rfl rfl fun a S=>Ld ?_))))
 refine Tn (Fc h (S.tm rfl) (fun hb1 h=>?_) (fun hb1 h=>?_))
 ·refine Fr (Vk S rfl rfl fun a S=>Dl (wp_ret (Ec ?_)))
  obtain rfl:=Option.some.inj h
  exact Eu S results80 rfl rfl
 ·refine wp_skip (Tn (Fr (Vm S rfl rfl fun a S=>Vm S rfl rfl ?_)));clear S;intro a S
  obtain ⟨hc1,h⟩:=Ij h
  refine lv S (CJ (S.tm rfl) (S.tm rfl) (Vo hc1)) rfl fun a S=>Va S rfl rfl fun a S=>Dl (Fs (Fr (Vm S rfl rfl fun a S=>Vq S Ev rfl rfl rfl fun a S=>Dl ?_)))
  obtain ⟨j1,hj1,h⟩:=Ey h
  refine Es (fun a w'=>∃ x1 : Int,j1 x1 = some r ∧ Sx w [] nov [] [(0,iV x1)] 16 a w') ?_ ?_
  ·refine Fc h (S.tm rfl) (fun hb2 h=>?_) (fun hb2 h=>?_)
   ·exact Fg (Vm S rfl rfl fun a S=>Vm S rfl rfl fun a S=>Vb S Gf rfl rfl rfl fun a S=>Va S rfl rfl fun a S=>Dl (⟨W ((Int.tmod Ac Ba) + Ba),h,S.nf [] rfl ⟨rfl,trivial⟩⟩))
   ·exact wp_skip (Tn (⟨Int.tmod Ac Ba,h,S.nf [] rfl ⟨rfl,trivial⟩⟩))
  clear S h;rintro a w1 ⟨x1,h,S⟩;rw [hj1] at h;clear hj1 j1
  refine Tn (Fr (Vm S rfl rfl fun a S=>Va S rfl rfl fun a S=>Dl (wp_ret ?_)))
  obtain rfl:=Option.some.inj h
  exact Eu S results80 rfl rfl
set_option maxRecDepth 20000 in
theorem Uz (w : World) (U : Nat) (Aa : Value) (Aq : List Int) (Ao : Slc (view w [U]) 1 Aa (Aq.map eInt)) (Am : Int) (Ar : (LEnt.blk U [Aa,iV Am] 25).holds w) (Ba : Int) (r : Int × Int) (h : Qw Aq Am Ba = some r) :
    Calls prog 39 [.pointer (some ⟨U,0,none⟩),iV Ba].toArray w (Ret w [U] fun _ v w'=>(LEnt.blk U [Aa,iV r.2] 25).holds w' ∧ v = iV r.1):=by
 refine Lb [U] [.blk U [Aa,iV Am] 25] func39 rfl ntmps39 rfl (fun e he=>by simp only [List.mem_singleton] at he;subst he;exact Ar) (by simp [fps,LEnt.fp]) (by simp [fps,LEnt.fp]) fun a S=>?_
 unfold Qw at h
 replace S:=(S.nl [.blk U [Aa,iV Am] 25] [true] rfl).k2 0 1 rfl
 refine Fr (Vk S rfl rfl fun a S=>Dz (Vm S rfl rfl fun a S=>Vu S Lz rfl rfl fun a S=>Vf GL S rfl rfl fun a S=>Vl isAgg3 0 S rfl rfl rfl rfl ?_));clear S;intro a S
 refine Vq S Gf rfl rfl rfl fun a S=>Vu S Lz rfl rfl fun a S=>Vf GL S rfl rfl fun a S=>Fj S (S.tm rfl) (S.tm rfl) (i:=0) (off:=1) rfl sizeOf3 (vs:=[iV (W (Am + 1))]) rfl rfl rfl rfl ?_;clear S;intro w1 hk1 S
 refine Dl (Fs (Fr (Vm S rfl rfl fun a S=>Vu S Lz rfl rfl fun a S=>Vf JG S rfl rfl fun a S=>Vl isAgg22 0 S rfl rfl rfl rfl fun a S=>lv S (Fq Pj (S.tm rfl) (Fm Ao)) rfl fun a S=>Vq S Jh rfl rfl rfl ?_)));clear S;intro a S
 refine Ld ?_
 replace S:=(S.nl [.blk U [Aa,iV (W (Am + 1))] 25] [true] rfl).k3 0 1 19 rfl
 refine Tn (Fc h (S.tm rfl) (fun hb1 h=>?_) (fun hb1 h=>?_))
 ·refine Fr (Vm S rfl rfl fun a S=>Vu S Lz rfl rfl fun a S=>Vf GL S rfl rfl fun a S=>Vl isAgg3 0 S rfl rfl rfl rfl fun a S=>Vq S Xk rfl rfl rfl fun a S=>Vm S rfl rfl ?_);clear S;intro a S
  obtain ⟨r1,hr1,h⟩:=Fd h
  refine Ei S (fun _=>Ea (vs:=[iV (W ((W (Am + 1)) * 7919)),iV Ba]) ⟨(S.tm rfl),(S.tm rfl),trivial⟩ call80) (Xf _ (W ((W (Am + 1)) * 7919)) Ba _ hr1) rfl ?_;clear S;intro v1 a w2 hv1 hk2 hn1 S
  subst hv1
  refine Va S rfl rfl fun a S=>Dl (wp_ret (Ec ?_))
  obtain rfl:=Option.some.inj h
  exact Eu S results39 rfl ⟨(S.holds _ (List.mem_of_getElem? (i:=0) rfl)),rfl⟩
 ·refine wp_skip (Tn (Fs (Hd [] ([]) Tryz.mixed S rfl (by kernel_rfl) ?_)));clear S;intro w3 hk3 hsel S
  refine Lg [0,1,2,3,4,5,6,7,8,9,10,11] hsel (by kernel_rfl) rfl ?_
  clear hsel
  refine Gp S rfl (Rm (S.tm rfl)) rfl fun a S=>Gp S rfl (Lz (S.tm rfl)) rfl fun a S=>Gp S rfl (Gv GL (S.tm rfl)) rfl fun a S=>Gp S rfl (Nn isAgg3 (S.tm rfl) (S.cell (i:=0) rfl rfl)) rfl fun a S=>Gp S rfl (Iy (S.tm rfl) rfl) rfl fun a S=>Gp S rfl (Rm (S.tm rfl)) rfl fun a S=>Gp S rfl (Lz (S.tm rfl)) rfl fun a S=>Gp S rfl (Gv JG (S.tm rfl)) rfl fun a S=>Gp S rfl (Nn isAgg22 (S.tm rfl) (S.cell (i:=0) rfl rfl)) rfl fun a S=>Gp S rfl (Fq Pj (S.tm rfl) (Fm Ao)) rfl ?_;clear S;intro a S
  obtain ⟨hc1,h⟩:=Ij h
  refine Gp S rfl (CJ (S.tm rfl) (S.tm rfl) (Vo hc1)) rfl fun a S=>Gp S rfl (Ra (S.tm rfl)) rfl fun a S=>It ?_
  replace S:=S.k3 0 1 5 rfl
  refine Tn (Fs (Hd [] ([]) Tryz.mixed S rfl (by kernel_rfl) ?_));clear S;intro w4 hk4 hsel S
  refine Lg [0,1,2,3,4,5,6,7,8,9,10,11] hsel (by kernel_rfl) rfl ?_
  clear hsel
  refine Gp S rfl (Rm (S.tm rfl)) rfl fun a S=>Gp S rfl (Lz (S.tm rfl)) rfl fun a S=>Gp S rfl (Gv GL (S.tm rfl)) rfl fun a S=>Gp S rfl (Nn isAgg3 (S.tm rfl) (S.cell (i:=0) rfl rfl)) rfl fun a S=>Gp S rfl (Iy (S.tm rfl) rfl) rfl fun a S=>Gp S rfl (Rm (S.tm rfl)) rfl fun a S=>Gp S rfl (Lz (S.tm rfl)) rfl fun a S=>Gp S rfl (Gv JG (S.tm rfl)) rfl fun a S=>Gp S rfl (Nn isAgg22 (S.tm rfl) (S.cell (i:=0) rfl rfl)) rfl fun a S=>Gp S rfl (Fq Pj (S.tm rfl) (Fm Ao)) rfl ?_;clear S;intro a S
  obtain ⟨hc2,h⟩:=Ij h
  refine Gp S rfl (FF (S.tm rfl) (S.tm rfl) (Vo hc2)) rfl fun a S=>Gp S rfl (Ra (S.tm rfl)) rfl fun a S=>It ?_
  replace S:=S.k4 0 1 5 6 rfl
  refine Tn (Fr (Vm S rfl rfl fun a S=>Vu S Lz rfl rfl fun a S=>Vf JG S rfl rfl fun a S=>Vl isAgg22 0 S rfl rfl rfl rfl fun a S=>Vm S rfl rfl ?_));clear S;intro a S
  obtain ⟨hc3,h⟩:=Ij h
  obtain ⟨b1,o1,hm1,hr2⟩:=Fh (a:=a) (x:=.tmp 52) (y:=.tmp 53) (ty:=0) Pj Ao (Eh hc3).1 (Eh hc3).2 (S.tm rfl) (S.tm rfl)
  refine lv S (hr2 _) rfl ?_;clear S;intro a S
  clear hr2
  refine lv S (Ic isAgg3 (off:=o1) (o:=0) (S.tm rfl) (hm1.at S.emb0) rfl) rfl ?_;clear S;intro a S
  obtain ⟨r2,hr3,h⟩:=Fd h
  refine Ei S (fun _=>Ea (vs:=[iV (nth Aq (Int.tmod (W ((W (Am + 1)) - 1)) (Aq.length : Int))),iV 1073741824]) ⟨(S.tm rfl),rfl,trivial⟩ call80) (Xf _ (nth Aq (Int.tmod (W ((W (Am + 1)) - 1)) (Aq.length : Int))) 1073741824 _ hr3) rfl ?_;clear S;intro v2 a w5 hv2 hk5 hn2 S
  subst hv2
  refine Vm S rfl rfl fun a S=>Vm S rfl rfl fun a S=>Vu S (Gf rfl) rfl rfl fun a S=>Vb S Xk rfl rfl rfl fun a S=>Vb S Gf rfl rfl rfl fun a S=>Vm S rfl rfl ?_;clear S;intro a S
  obtain ⟨r3,hr4,h⟩:=Fd h
  refine Ei S (fun _=>Ea (vs:=[iV (W (r2 + (W ((W (Int.tdiv (W ((W (Am + 1)) - 1)) (Aq.length : Int))) * (W (7919 + (Int.tmod (W ((W (Am + 1)) - 1)) (Aq.length : Int)))))))),iV Ba]) ⟨(S.tm rfl),(S.tm rfl),trivial⟩ call80) (Xf _ (W (r2 + (W ((W (Int.tdiv (W ((W (Am + 1)) - 1)) (Aq.length : Int))) * (W (7919 + (Int.tmod (W ((W (Am + 1)) - 1)) (Aq.length : Int)))))))) Ba _ hr4) rfl ?_;clear S;intro v3 a w6 hv3 hk6 hn3 S
  subst hv3
  refine Va S rfl rfl fun a S=>Ld ?_
  replace S:=S.k1 4 rfl
  refine Tn (wp_ret ?_)
  obtain rfl:=Option.some.inj h
  exact Eu S results39 rfl ⟨(S.holds _ (List.mem_of_getElem? (i:=0) rfl)),rfl⟩
theorem Zj (w : World) (U : Nat) (Aa : Value) (Aq : List Int) (Ao : Slc (view w [U]) 1 Aa (Aq.map eInt)) (Am : Int) (Ar : (LEnt.blk U [Aa,iV Am] 25).holds w) (Ba : Int) (r : Bool × Int) (h : Tg Aq Am Ba = some r) :
    Calls prog 36 [.pointer (some ⟨U,0,none⟩),iV Ba].toArray w (Ret w [U] fun _ v w'=>(LEnt.blk U [Aa,iV r.2] 25).holds w' ∧ v = bV r.1):=by
 refine Lb [U] [.blk U [Aa,iV Am] 25] func36 rfl ntmps36 rfl (fun e he=>by simp only [List.mem_singleton] at he;subst he;exact Ar) (by simp [fps,LEnt.fp]) (by simp [fps,LEnt.fp]) fun a S=>?_
 unfold Tg at h
 replace S:=(S.nl [.blk U [Aa,iV Am] 25] [true] rfl).k2 0 1 rfl
 refine Fr (Vk S rfl rfl fun a S=>Dz (Vm S rfl rfl fun a S=>Vm S rfl rfl ?_));clear S;intro a S
 obtain ⟨r1,hr1,h⟩:=Fd h
 refine Hx 0 S (b:=U) rfl rfl (fun _=>.blk U [Aa,iV r1.2] 25) (fun _=>Ea (vs:=[.pointer (some ⟨U,0,none⟩),iV Ba]) ⟨(S.tm rfl),(S.tm rfl),trivial⟩ call39) (Uz _ U Aa Aq (Ao.mono (S.le_arg (Ji (i:=0) (e:=.blk U [Aa,iV Am] 25) rfl))) Am (S.holds _ (List.mem_of_getElem? (i:=0) rfl)) Ba _ hr1) rfl (fun _ _ _ h=>⟨h.1,fun _ hc=>by cases hc;rfl⟩) ?_;clear S;intro v1 a w1 hv1 hk1 hn1 S
 replace hv1:=hv1.2
 subst hv1
 refine Vq S Jh rfl rfl rfl fun a S=>Va S rfl rfl fun a S=>Dl (wp_ret ?_)
 obtain rfl:=Option.some.inj h
 exact Eu S results36 rfl ⟨(S.holds _ (List.mem_of_getElem? (i:=0) rfl)),rfl⟩
theorem Jt (w : World) (U : Nat) (Aa : Value) (Aq : List Int) (Ao : Slc (view w [U]) 1 Aa (Aq.map eInt)) (Am : Int) (Ar : (LEnt.blk U [Aa,iV Am] 25).holds w) (Ab : Value) (Ae : List Int) (Ag : Slc (view w [U]) 1 Ab (Ae.map eInt)) (r : Int × Int) (h : Kh Aq Am Ae = some r) :
    Calls prog 38 [.pointer (some ⟨U,0,none⟩),Ab].toArray w (Ret w [U] fun _ v w'=>(LEnt.blk U [Aa,iV r.2] 25).holds w' ∧ v = iV r.1):=by
 refine Lb [U] [.blk U [Aa,iV Am] 25] func38 rfl ntmps38 rfl (fun e he=>by simp only [List.mem_singleton] at he;subst he;exact Ar) (by simp [fps,LEnt.fp]) (by simp [fps,LEnt.fp]) fun a S=>?_
 unfold Kh at h
 replace S:=(S.nl [.blk U [Aa,iV Am] 25] [true] rfl).k2 0 1 rfl
 refine Fr (Vk S rfl rfl fun a S=>Dl (Fs (Fg ?_)))
 iterate 3 (refine Vm S rfl rfl ?_;clear S;intro a S)
 refine lv S (Fq Pj (S.tm rfl) (Fm Ag)) rfl ?_;clear S;intro a S
 obtain ⟨r1,hr1,h⟩:=Fd h
 refine Hx 0 S (b:=U) rfl rfl (fun _=>.blk U [Aa,iV r1.2] 25) (fun _=>Ea (vs:=[.pointer (some ⟨U,0,none⟩),iV (Ae.length : Int)]) ⟨(S.tm rfl),(S.tm rfl),trivial⟩ call39) (Uz _ U Aa Aq (Ao.mono (S.le_arg (Ji (i:=0) (e:=.blk U [Aa,iV Am] 25) rfl))) Am (S.holds _ (List.mem_of_getElem? (i:=0) rfl)) (Ae.length : Int) _ hr1) rfl (fun _ _ _ h=>⟨h.1,fun _ hc=>by cases hc;rfl⟩) ?_;clear S;intro v1 a w1 hv1 hk1 hn1 S
 replace hv1:=hv1.2
 subst hv1
 obtain ⟨hc1,h⟩:=Ij h
 obtain ⟨b1,o1,hm1,hr2⟩:=Fh (a:=a) (x:=.tmp 5) (y:=.tmp 9) (ty:=0) Pj Ag (Eh hc1).1 (Eh hc1).2 (S.tm rfl) (S.tm rfl)
 refine lv S (hr2 _) rfl ?_;clear S;intro a S
 clear hr2
 refine lv S (Ic isAgg3 (off:=o1) (o:=0) (S.tm rfl) (hm1.at S.emb0) rfl) rfl fun a S=>Va S rfl rfl fun a S=>Dl (wp_ret ?_)
 obtain rfl:=Option.some.inj h
 exact Eu S results38 rfl ⟨(S.holds _ (List.mem_of_getElem? (i:=0) rfl)),rfl⟩
theorem FM (w : World) (U : Nat) (Aa : Value) (Aq : List Int) (Ao : Slc (view w [U]) 1 Aa (Aq.map eInt)) (Am : Int) (Ar : (LEnt.blk U [Aa,iV Am] 25).holds w) (Br : ByteArray) (r : Em × Int) (h : Tx Aq Am Br = some r) :
    Calls prog 37 [.pointer (some ⟨U,0,none⟩),sV Br].toArray w (Ret w [U] fun _ v w'=>(LEnt.blk U [Aa,iV r.2] 25).holds w' ∧ v = .agg (Em.enc r.1).toArray):=by
 refine Lb [U] [.blk U [Aa,iV Am] 25] func37 rfl ntmps37 rfl (fun e he=>by simp only [List.mem_singleton] at he;subst he;exact Ar) (by simp [fps,LEnt.fp]) (by simp [fps,LEnt.fp]) fun a S=>?_
 unfold Tx at h
 replace S:=(S.nl [.blk U [Aa,iV Am] 25] [true] rfl).k2 0 1 rfl
 refine Fr (Hu S zeroValue43 (cs:=[sV An,iV 0,iV 0,iV 0,iV 0,iV 0,iV 0,iV 0]) rfl rfl ?_);clear S;intro a w1 b1 hz1 hk1 S
 refine Dz (Vm S rfl rfl fun a S=>Vm S rfl rfl fun a S=>Ff S underlying22 sizeOf3 zeroValue3 rfl rfl (pv:=[(0,iV 50),(1,iV 100),(2,iV 200)]) ⟨rfl,rfl,rfl,rfl,rfl,rfl,trivial⟩ (cs:=[iV 50,iV 100,iV 200]) (by kernel_rfl) rfl ?_);clear S;intro a w2 b2 hz2 hk2 S
 obtain ⟨r1,hr1,h⟩:=Fd h
 refine Hx 2 S (b:=U) rfl rfl (fun _=>.blk U [Aa,iV r1.2] 25) (fun _=>Ea (vs:=[.pointer (some ⟨U,0,none⟩),.slice (some ⟨b2,0,none⟩) 3 3]) ⟨(S.tm rfl),(S.tm rfl),trivial⟩ call38) (Jt _ U Aa Aq (Ao.mono (S.le_arg (Ji (i:=2) (e:=.blk U [Aa,iV Am] 25) rfl))) Am (S.holds _ (List.mem_of_getElem? (i:=2) rfl)) (.slice (some ⟨b2,0,none⟩) 3 3) [50,100,200] (Kv Jb S (i:=0) rfl rfl rfl rfl ((My (i:=2) (j:=0) (e:=.blk U [Aa,iV Am] 25) (e':=.blk b2 [iV 50,iV 100,iV 200] 3) S rfl rfl rfl) _ rfl)) _ hr1) rfl (fun _ _ _ h=>⟨h.1,fun _ hc=>by cases hc;rfl⟩) ?_;clear S;intro v1 a w3 hv1 hk3 hn1 S
 replace hv1:=hv1.2
 subst hv1
 refine Vm S rfl rfl fun a S=>Ff S underlying22 sizeOf3 zeroValue3 rfl rfl (pv:=[(0,iV 1),(1,iV 2),(2,iV 3),(3,iV 4)]) ⟨rfl,rfl,rfl,rfl,rfl,rfl,rfl,rfl,trivial⟩ (cs:=[iV 1,iV 2,iV 3,iV 4]) (by kernel_rfl) rfl ?_;clear S;intro a w4 b3 hz3 hk4 S
 obtain ⟨r2,hr2,h⟩:=Fd h
 refine Hx 3 S (b:=U) rfl rfl (fun _=>.blk U [Aa,iV r2.2] 25) (fun _=>Ea (vs:=[.pointer (some ⟨U,0,none⟩),.slice (some ⟨b3,0,none⟩) 4 4]) ⟨(S.tm rfl),(S.tm rfl),trivial⟩ call38) (Jt _ U Aa Aq (Ao.mono (S.le_arg (Ji (i:=3) (e:=.blk U [Aa,iV r1.2] 25) rfl))) r1.2 (S.holds _ (List.mem_of_getElem? (i:=3) rfl)) (.slice (some ⟨b3,0,none⟩) 4 4) [1,2,3,4] (Kv Jb S (i:=0) rfl rfl rfl rfl ((My (i:=3) (j:=0) (e:=.blk U [Aa,iV r1.2] 25) (e':=.blk b3 [iV 1,iV 2,iV 3,iV 4] 3) S rfl rfl rfl) _ rfl)) _ hr2) rfl (fun _ _ _ h=>⟨h.1,fun _ hc=>by cases hc;rfl⟩) ?_;clear S;intro v2 a w5 hv2 hk5 hn2 S
 replace hv2:=hv2.2
 subst hv2
 refine Vm S rfl rfl fun a S=>Ff S underlying22 sizeOf3 zeroValue3 rfl rfl (pv:=[(0,iV 25),(1,iV 50)]) ⟨rfl,rfl,rfl,rfl,trivial⟩ (cs:=[iV 25,iV 50]) (by kernel_rfl) rfl ?_;clear S;intro a w6 b4 hz4 hk6 S
 obtain ⟨r3,hr3,h⟩:=Fd h
 refine Hx 4 S (b:=U) rfl rfl (fun _=>.blk U [Aa,iV r3.2] 25) (fun _=>Ea (vs:=[.pointer (some ⟨U,0,none⟩),.slice (some ⟨b4,0,none⟩) 2 2]) ⟨(S.tm rfl),(S.tm rfl),trivial⟩ call38) (Jt _ U Aa Aq (Ao.mono (S.le_arg (Ji (i:=4) (e:=.blk U [Aa,iV r2.2] 25) rfl))) r2.2 (S.holds _ (List.mem_of_getElem? (i:=4) rfl)) (.slice (some ⟨b4,0,none⟩) 2 2) [25,50] (Kv Jb S (i:=0) rfl rfl rfl rfl ((My (i:=4) (j:=0) (e:=.blk U [Aa,iV r2.2] 25) (e':=.blk b4 [iV 25,iV 50] 3) S rfl rfl rfl) _ rfl)) _ hr3) rfl (fun _ _ _ h=>⟨h.1,fun _ hc=>by cases hc;rfl⟩) ?_;clear S;intro v3 a w7 hv3 hk7 hn3 S
 replace hv3:=hv3.2
 subst hv3
 refine Vm S rfl rfl fun a S=>Ff S underlying22 sizeOf3 zeroValue3 rfl rfl (pv:=[(0,iV 1),(1,iV 1),(2,iV 1),(3,iV 4)]) ⟨rfl,rfl,rfl,rfl,rfl,rfl,rfl,rfl,trivial⟩ (cs:=[iV 1,iV 1,iV 1,iV 4]) (by kernel_rfl) rfl ?_;clear S;intro a w8 b5 hz5 hk8 S
 obtain ⟨r4,hr4,h⟩:=Fd h
 refine Hx 5 S (b:=U) rfl rfl (fun _=>.blk U [Aa,iV r4.2] 25) (fun _=>Ea (vs:=[.pointer (some ⟨U,0,none⟩),.slice (some ⟨b5,0,none⟩) 4 4]) ⟨(S.tm rfl),(S.tm rfl),trivial⟩ call38) (Jt _ U Aa Aq (Ao.mono (S.le_arg (Ji (i:=5) (e:=.blk U [Aa,iV r3.2] 25) rfl))) r3.2 (S.holds _ (List.mem_of_getElem? (i:=5) rfl)) (.slice (some ⟨b5,0,none⟩) 4 4) [1,1,1,4] (Kv Jb S (i:=0) rfl rfl rfl rfl ((My (i:=5) (j:=0) (e:=.blk U [Aa,iV r3.2] 25) (e':=.blk b5 [iV 1,iV 1,iV 1,iV 4] 3) S rfl rfl rfl) _ rfl)) _ hr4) rfl (fun _ _ _ h=>⟨h.1,fun _ hc=>by cases hc;rfl⟩) ?_;clear S;intro v4 a w9 hv4 hk9 hn4 S
 replace hv4:=hv4.2
 subst hv4
 refine Vm S rfl rfl fun a S=>Ff S underlying22 sizeOf3 zeroValue3 rfl rfl (pv:=[(0,iV 0),(1,iV 1),(2,iV 2)]) ⟨rfl,rfl,rfl,rfl,rfl,rfl,trivial⟩ (cs:=[iV 0,iV 1,iV 2]) (by kernel_rfl) rfl ?_;clear S;intro a w10 b6 hz6 hk10 S
 obtain ⟨r5,hr5,h⟩:=Fd h
 refine Hx 6 S (b:=U) rfl rfl (fun _=>.blk U [Aa,iV r5.2] 25) (fun _=>Ea (vs:=[.pointer (some ⟨U,0,none⟩),.slice (some ⟨b6,0,none⟩) 3 3]) ⟨(S.tm rfl),(S.tm rfl),trivial⟩ call38) (Jt _ U Aa Aq (Ao.mono (S.le_arg (Ji (i:=6) (e:=.blk U [Aa,iV r4.2] 25) rfl))) r4.2 (S.holds _ (List.mem_of_getElem? (i:=6) rfl)) (.slice (some ⟨b6,0,none⟩) 3 3) [0,1,2] (Kv Jb S (i:=0) rfl rfl rfl rfl ((My (i:=6) (j:=0) (e:=.blk U [Aa,iV r4.2] 25) (e':=.blk b6 [iV 0,iV 1,iV 2] 3) S rfl rfl rfl) _ rfl)) _ hr5) rfl (fun _ _ _ h=>⟨h.1,fun _ hc=>by cases hc;rfl⟩) ?_;clear S;intro v5 a w11 hv5 hk11 hn5 S
 replace hv5:=hv5.2
 subst hv5
 refine Vm S rfl rfl fun a S=>Ff S underlying22 sizeOf3 zeroValue3 rfl rfl (pv:=[(0,iV 0),(1,iV 0),(2,iV 5),(3,iV 10)]) ⟨rfl,rfl,rfl,rfl,rfl,rfl,rfl,rfl,trivial⟩ (cs:=[iV 0,iV 0,iV 5,iV 10]) (by kernel_rfl) rfl ?_;clear S;intro a w12 b7 hz7 hk12 S
 obtain ⟨r6,hr6,h⟩:=Fd h
 refine Hx 7 S (b:=U) rfl rfl (fun _=>.blk U [Aa,iV r6.2] 25) (fun _=>Ea (vs:=[.pointer (some ⟨U,0,none⟩),.slice (some ⟨b7,0,none⟩) 4 4]) ⟨(S.tm rfl),(S.tm rfl),trivial⟩ call38) (Jt _ U Aa Aq (Ao.mono (S.le_arg (Ji (i:=7) (e:=.blk U [Aa,iV r5.2] 25) rfl))) r5.2 (S.holds _ (List.mem_of_getElem? (i:=7) rfl)) (.slice (some ⟨b7,0,none⟩) 4 4) [0,0,5,10] (Kv Jb S (i:=0) rfl rfl rfl rfl ((My (i:=7) (j:=0) (e:=.blk U [Aa,iV r5.2] 25) (e':=.blk b7 [iV 0,iV 0,iV 5,iV 10] 3) S rfl rfl rfl) _ rfl)) _ hr6) rfl (fun _ _ _ h=>⟨h.1,fun _ hc=>by cases hc;rfl⟩) ?_;clear S;intro v6 a w13 hv6 hk13 hn6 S
 replace hv6:=hv6.2
 subst hv6
 refine lv S (Nl TK (pv:=[(0,sV Br),(1,iV r1.1),(2,iV r2.1),(3,iV r3.1),(4,iV r4.1),(5,iV r5.1),(6,iV r6.1)]) ⟨rfl,(S.tm rfl),rfl,(S.tm rfl),rfl,(S.tm rfl),rfl,(S.tm rfl),rfl,(S.tm rfl),rfl,(S.tm rfl),rfl,(S.tm rfl),trivial⟩ (cs:=[sV Br,iV r1.1,iV r2.1,iV r3.1,iV r4.1,iV r5.1,iV r6.1,iV 0]) (by kernel_rfl)) rfl fun a S=>Hu S zeroValue43 (cs:=[sV An,iV 0,iV 0,iV 0,iV 0,iV 0,iV 0,iV 0]) rfl rfl ?_;clear S;intro a w14 b8 hz8 hk14 S
 refine Fj S (S.tm rfl) (S.tm rfl) (i:=0) (off:=0) rfl sizeOf43 (vs:=(Em.enc (Em.mk Br r1.1 r2.1 r3.1 r4.1 r5.1 r6.1 0))) rfl rfl rfl rfl ?_;clear S;intro w15 hk15 S
 refine Ld ?_
 replace S:=(S.nl [.blk b8 (Em.enc (Em.mk Br r1.1 r2.1 r3.1 r4.1 r5.1 r6.1 0)) 43,.blk b1 (Em.enc (Em.mk An 0 0 0 0 0 0 0)) 43,.blk U [Aa,iV r6.2] 25] [true,false,false,false,false,false,false,true,true] rfl).k3 0 4 5 rfl
 refine Tn (Fs ?_)
 obtain ⟨r7,hr7,h⟩:=Fd h
 refine Hd [7] ([U]) Tryz.mixed S rfl (by kernel_rfl) ?_;clear S;intro w19 hk19 hsel S
 refine Fz 0 S hsel rfl rfl (by kernel_rfl) (by kernel_rfl) rfl (fun _=>(Gv NU (S.tm rfl))) fun a S=>Ek 1 S hsel rfl (by kernel_rfl) (by kernel_rfl) (by kernel_rfl) (by kernel_rfl) rfl (fun _ hw=>(Ic isAgg3 (off:=0) (o:=6) (S.tm rfl) ((S.blk_mem (i:=0) (cells:=(Em.enc (Em.mk Br r1.1 r2.1 r3.1 r4.1 r5.1 r6.1 0))) (b:=b8) (T:=43) rfl (My (i:=2) (j:=0) (e:=.blk U [Aa,iV r6.2] 25) (e':=.blk b8 (Em.enc (Em.mk Br r1.1 r2.1 r3.1 r4.1 r5.1 r6.1 0)) 43) S rfl rfl rfl)).kept hw) rfl)) fun a S=>Fz 2 S hsel rfl rfl (by kernel_rfl) (by kernel_rfl) rfl (fun _=>(Rm (S.tm rfl))) fun a S=>Hi 3 (by kernel_rfl) rfl (Ff S underlying22 sizeOf3 zeroValue3 rfl rfl (pv:=[(0,iV 0),(1,iV 5),(2,iV 90)]) ⟨rfl,rfl,rfl,rfl,rfl,rfl,trivial⟩ (cs:=[iV 0,iV 5,iV 90]) (by kernel_rfl) rfl ?_);clear S;intro a w20 b10 hz10 hk20 S
 refine Ld (Ik (Keep.none hk20) (Hi 4 (by kernel_rfl) rfl ?_))
 refine Hx 3 S (b:=U) rfl rfl (fun _=>.blk U [Aa,iV r7.2] 25) (fun _=>Ea (vs:=[.pointer (some ⟨U,0,none⟩),.slice (some ⟨b10,0,none⟩) 3 3]) ⟨(S.tm rfl),(S.tm rfl),trivial⟩ call38) (Jt _ U Aa Aq (Ao.mono (S.le_arg (Ji (i:=3) (e:=.blk U [Aa,iV r6.2] 25) rfl))) r6.2 (S.holds _ (List.mem_of_getElem? (i:=3) rfl)) (.slice (some ⟨b10,0,none⟩) 3 3) [0,5,90] (Kv Jb S (i:=0) rfl rfl rfl rfl ((My (i:=3) (j:=0) (e:=.blk U [Aa,iV r6.2] 25) (e':=.blk b10 [iV 0,iV 5,iV 90] 3) S rfl rfl rfl) _ rfl)) _ hr7) rfl (fun _ _ _ h=>⟨h.1,fun _ hc=>by cases hc;rfl⟩) ?_;clear S;intro v8 a w21 hv8 hk21 hn8 S
 replace hv8:=hv8.2
 subst hv8
 refine Ld (Ik hk21 (Fz 5 S hsel rfl rfl (by kernel_rfl) (by kernel_rfl) rfl (fun _=>(Gf (S.tm rfl) (S.tm rfl))) fun a S=>Fz 6 S hsel rfl rfl (by kernel_rfl) (by kernel_rfl) rfl (fun _=>(Gv NV (S.tm rfl))) fun a S=>Wq 7 ([U] ++ [b8]) rfl (by kernel_rfl) rfl (Fj S (S.tm rfl) (S.tm rfl) (i:=1) (off:=7) rfl sizeOf3 (vs:=[iV (W (r6.1 + r7.1))]) rfl rfl rfl rfl ?_)));clear S;intro w22 hk22 S
 refine Ld (Wr (Wl (by kernel_rfl) ?_))
 clear hsel
 replace S:=(S.nl [.blk b8 (Em.enc (Em.mk Br r1.1 r2.1 r3.1 r4.1 r5.1 r6.1 (W (r6.1 + r7.1)))) 43,.blk b1 (Em.enc (Em.mk An 0 0 0 0 0 0 0)) 43,.blk U [Aa,iV r7.2] 25] [false,true,true,true] rfl).k2 4 5 rfl
 refine Tn (Fr (lv S (Fk isAgg43 sizeOf43 (off:=0) (o:=0) (part:=(Em.enc (Em.mk Br r1.1 r2.1 r3.1 r4.1 r5.1 r6.1 (W (r6.1 + r7.1))))) rfl rfl (S.tm rfl) (S.cellsAt (i:=0) rfl)) rfl fun a S=>Fj S (S.tm rfl) (S.tm rfl) (i:=1) (off:=0) rfl sizeOf43 (vs:=(Em.enc (Em.mk Br r1.1 r2.1 r3.1 r4.1 r5.1 r6.1 (W (r6.1 + r7.1))))) rfl rfl rfl rfl ?_));clear S;intro w23 hk23 S
 refine Dl (wp_ret ?_)
 obtain rfl:=Option.some.inj h
 exact Yp S (rs:=[.cell 4 43]) (vs:=[.agg (Em.enc (Em.mk Br r1.1 r2.1 r3.1 r4.1 r5.1 r6.1 (W (r6.1 + r7.1)))).toArray]) results37 ⟨(Tu (off:=0) S rfl isAgg43 sizeOf43 rfl (S.cellsAt (i:=1) rfl)),trivial⟩ rfl ⟨(S.holds _ (List.mem_of_getElem? (i:=2) rfl)),rfl⟩
theorem EO (w : World) (U : Nat) (Aa : Value) (Aq : List Int) (Ao : Slc (view w [U]) 1 Aa (Aq.map eInt)) (Am : Int) (Ar : (LEnt.blk U [Aa,iV Am] 25).holds w) (r : (List Em) × Int) (h : Vg Aq Am = some r) :
    Calls prog 16 [.pointer (some ⟨U,0,none⟩)].toArray w (Ret w [U] fun τ v w'=>(LEnt.blk U [Aa,iV r.2] 25).holds w' ∧ Up τ 43 8 v r.1.length (r.1.flatMap Em.enc)):=by
 refine Lb [U] [.blk U [Aa,iV Am] 25] func16 rfl ntmps16 rfl (fun e he=>by simp only [List.mem_singleton] at he;subst he;exact Ar) (by simp [fps,LEnt.fp]) (by simp [fps,LEnt.fp]) fun a S=>?_
 unfold Vg at h
 replace S:=(S.nl [.blk U [Aa,iV Am] 25] [true] rfl).k1 0 rfl
 refine Fr (Vk S rfl rfl fun a S=>Dz (Vk S rfl rfl ?_));clear S;intro a S
 replace S:=S.nil 43 8
 refine Dl (Fs (Fr (Ff S underlying95 sizeOf9 zeroValue9 rfl rfl (pv:=[(0,sV Rj),(1,sV Uu),(2,sV Xi)]) ⟨rfl,rfl,rfl,rfl,rfl,rfl,trivial⟩ (cs:=[sV Rj,sV Uu,sV Xi]) (by kernel_rfl) rfl ?_)));clear S;intro a w1 b1 hz1 hk1 S
 refine lv S (Fq AM (S.tm rfl) ⟨_,_,rfl⟩) rfl fun a S=>lv S (Rm rfl) rfl fun a S=>Dl ?_
 replace S:=(S.nl [.blk b1 [sV Rj,sV Uu,sV Xi] 9,.own (.slice none 0 0) 43 8 ([] : List Em).length (([] : List Em).flatMap Em.enc),.blk U [Aa,iV Am] 25] [true,true,true] rfl).k5 0 3 6 7 8 rfl
 replace S:=S.litOwn (i:=0) (xs:=[Rj,Uu,Xi]) rfl Uj rfl rfl rfl
 replace S:=S.nk [.own (.slice (some ⟨b1,0,none⟩) 3 3) 9 1 ([Rj,Uu,Xi] : List ByteArray).length (([Rj,Uu,Xi] : List ByteArray).flatMap EN),.own (.slice none 0 0) 43 8 ([] : List Em).length (([] : List Em).flatMap Em.enc),.blk U [Aa,iV Am] 25] [(0,.pointer (some ⟨U,0,none⟩)),(3,(.slice none 0 0)),(6,(.slice (some ⟨b1,0,none⟩) 3 3)),(7,iV (([Rj,Uu,Xi] : List ByteArray).length : Int)),(8,iV 0)] [] rfl (subR rfl)
 obtain ⟨φ1,hl1,hs1,S⟩:=S.freezeT (xs:=([Rj,Uu,Xi] : List ByteArray)) (enc:=EN) (i:=0) rfl (fun c hc hh=>DZ S (i:=2) rfl rfl (j:=0) rfl rfl (by simp at hc;subst hc;exact hh))
 replace S:=S.nk [.own (.slice none 0 0) 43 8 ([] : List Em).length (([] : List Em).flatMap Em.enc),.blk U [Aa,iV Am] 25] [(0,.pointer (some ⟨U,0,none⟩)),(3,(.slice none 0 0)),(6,(.slice (some ⟨b1,0,none⟩) 3 3)),(7,iV (([Rj,Uu,Xi] : List ByteArray).length : Int)),(8,iV 0)] [] rfl (subR rfl)
 obtain ⟨j1,hj1,h⟩:=Ey h
 refine Es (fun a w'=>∃ x1 : List Em,∃ x2 : Int,∃ v1 : Value,j1 x1 x2 = some r ∧ Sx w [U] φ1 [.own v1 43 8 x1.length (x1.flatMap Em.enc),.blk U [Aa,iV x2] 25] [(3,v1)] 23 a w') ?_ ?_
 ·refine wp_block (Gz (fun (ys1 : List ByteArray) a w'=>∃ i1 : Nat,∃ x1 : List Em,∃ x2 : Int,∃ v1 : Value,(∃ dn,([Rj,Uu,Xi] : List ByteArray) = dn ++ ys1 ∧ dn.length = i1) ∧ Lh Aq j1 ys1 i1 x1 x2 = some r ∧ Sx w [U] φ1 [.own v1 43 8 x1.length (x1.flatMap Em.enc),.blk U [Aa,iV x2] 25] [(0,.pointer (some ⟨U,0,none⟩)),(3,v1),(6,(.slice (some ⟨b1,0,none⟩) 3 3)),(7,iV (([Rj,Uu,Xi] : List ByteArray).length : Int)),(8,iV (i1 : Int))] 23 a w') List.length ([Rj,Uu,Xi] : List ByteArray) ⟨0,([] : List Em),Am,(.slice none 0 0),⟨[],rfl,rfl⟩,h,S.nf [true,true] rfl (subR rfl)⟩ ?_)
  clear S h;rintro ys1 a w2 ⟨i1,x1,x2,v1,⟨dn,hd1,hi1⟩,h,S⟩
  cases ys1 with
  | nil =>
   rw [Lh.eq_1] at h
   refine Fr (Vb S Ev rfl rfl rfl fun a S=>Ld ?_)
   replace S:=S.k6 0 3 6 7 8 9 rfl
   exact Tn (Fs (wp_cond_false ((S.tm rfl).trans (congrArg Value.bool (Im hd1 hi1))) (wp_exit (Ep (Ep (Gr (Tn (⟨x1,x2,v1,h,S.nf [true,true] rfl ⟨rfl,trivial⟩⟩))))))))
  | cons y1 ys1 =>
   rw [Lh.eq_2] at h
   refine Fr (Vb S Ev rfl rfl rfl fun a S=>Ld ?_)
   replace S:=S.k6 0 3 6 7 8 9 rfl
   refine Tn (Fs (wp_cond_true ((S.tm rfl).trans (congrArg Value.bool (Hr hd1 hi1))) (wp_skip (Tn (Fs ?_)))))
   obtain ⟨j2,hj2,h⟩:=Ey h
   refine Es (fun a w'=>∃ x3 : List Em,∃ x4 : Int,∃ v2 : Value,j2 x3 x4 = some r ∧ Sx w [U] φ1 [.own v2 43 8 x3.length (x3.flatMap Em.enc),.blk U [Aa,iV x4] 25] [(0,.pointer (some ⟨U,0,none⟩)),(3,v2),(6,(.slice (some ⟨b1,0,none⟩) 3 3)),(7,iV (([Rj,Uu,Xi] : List ByteArray).length : Int)),(8,iV (i1 : Int))] 23 a w') ?_ ?_
   ·refine wp_block (Fs (Fg ?_))
    obtain ⟨b2,o1,hm1,hr1⟩:=Fh (a:=a) (x:=.tmp 6) (y:=.tmp 8) (ty:=0) AM (Hg Uj hs1) (Iv hd1 hi1) rfl (S.tm rfl) (S.tm rfl)
    refine lv S (hr1 _) rfl ?_;clear S;intro a S
    clear hr1
    refine lv S (Ic isAgg9 (off:=o1) (o:=0) (S.tm rfl) (hm1.at S.emb) rfl) rfl fun a S=>Va S rfl rfl fun a S=>Dz (Vm S rfl rfl ?_);clear S;intro a S
    obtain ⟨r1,hr2,h⟩:=Fd h
    refine Hx 1 S (b:=U) rfl rfl (fun _=>.blk U [Aa,iV r1.2] 25) (fun _=>Ea (vs:=[.pointer (some ⟨U,0,none⟩),iV 6]) ⟨(S.tm rfl),rfl,trivial⟩ call36) (Zj _ U Aa Aq (Ao.mono (S.le_arg (Ji (i:=1) (e:=.blk U [Aa,iV x2] 25) rfl))) x2 (S.holds _ (List.mem_of_getElem? (i:=1) rfl)) 6 _ hr2) rfl (fun _ _ _ h=>⟨h.1,fun _ hc=>by cases hc;rfl⟩) ?_;clear S;intro v3 a w5 hv1 hk2 hn1 S
    replace hv1:=hv1.2
    subst hv1
    refine Vu S Hv rfl rfl fun a S=>Dl ?_
    obtain ⟨j3,hj3,h⟩:=Ey h
    refine Es (fun a w'=>∃ x5 : List Em,∃ x6 : Int,∃ v4 : Value,j3 x5 x6 = some r ∧ Sx w [U] φ1 [.own v4 43 8 x5.length (x5.flatMap Em.enc),.blk U [Aa,iV x6] 25] [(0,.pointer (some ⟨U,0,none⟩)),(3,v4),(6,(.slice (some ⟨b1,0,none⟩) 3 3)),(7,iV (([Rj,Uu,Xi] : List ByteArray).length : Int)),(8,iV (i1 : Int))] 23 a w') ?_ ?_
    ·refine Fc h (S.tm rfl) (fun hb1 h=>?_) (fun hb1 h=>?_)
     ·refine Fg ?_
      iterate 3 (refine Vm S rfl rfl ?_;clear S;intro a S)
      obtain ⟨r2,hr3,h⟩:=Fd h
      refine Hx 1 S (b:=U) rfl rfl (fun _=>.blk U [Aa,iV r2.2] 25) (fun _=>Ea (vs:=[.pointer (some ⟨U,0,none⟩),sV y1]) ⟨(S.tm rfl),(S.tm rfl),trivial⟩ call37) (FM _ U Aa Aq (Ao.mono (S.le_arg (Ji (i:=1) (e:=.blk U [Aa,iV r1.2] 25) rfl))) r1.2 (S.holds _ (List.mem_of_getElem? (i:=1) rfl)) y1 _ hr3) rfl (fun _ _ _ h=>⟨h.1,fun _ hc=>by cases hc;rfl⟩) ?_;clear S;intro v5 a w7 hv2 hk3 hn2 S
      replace hv2:=hv2.2
      subst hv2
      refine Ff S underlying26 sizeOf43 zeroValue43 rfl rfl (pv:=[(0,.agg (Em.enc r2.1).toArray)]) ⟨rfl,(S.tm rfl),trivial⟩ (cs:=[sV r2.1.Key,iV r2.1.Metres,iV r2.1.Stroke,iV r2.1.Course,iV r2.1.Legs,iV r2.1.Sex,iV r2.1.Young,iV r2.1.Old]) (by kernel_rfl) rfl ?_;clear S;intro a w8 b3 hz2 hk4 S
      obtain ⟨hc1,h⟩:=Ij h
      refine Np Th Em.enc_ok S (S.tm rfl) (i:=1) rfl (S.tm rfl) (j:=0) rfl (ys:=[r2.1]) rfl rfl rfl rfl (by have:=Ob hc1;omega) rfl ?_;clear S;intro v6 a w9 hk5 S
      refine Va S rfl rfl fun a S=>Ld ?_
      replace S:=(S.nl [.own v6 43 8 (x1 ++ [r2.1]).length ((x1 ++ [r2.1]).flatMap Em.enc),.blk U [Aa,iV r2.2] 25] [false,true,true] rfl).k5 0 3 6 7 8 rfl
      exact Tn (⟨(x1 ++ [r2.1]),r2.2,v6,h,S.nf [true,true] rfl (subR rfl)⟩)
     ·exact wp_skip (Tn (⟨x1,r1.2,v1,h,S.nf [true,true] rfl (subR rfl)⟩))
    clear S h;rintro a w6 ⟨x5,x6,v4,h,S⟩;rw [hj3] at h;clear hj3 j3
    exact Hn (Tn (⟨x5,x6,v4,h,S.nf [true,true] rfl (subR rfl)⟩))
   clear S h;rintro a w4 ⟨x3,x4,v2,h,S⟩;rw [hj2] at h;clear hj2 j2
   exact Tn (Fg (Vq S Gf rfl rfl rfl fun a S=>Vm S rfl rfl fun a S=>Dl (⟨ys1,⟨i1 + 1,x3,x4,v2,⟨_,(hd1).trans (List.append_cons _ _ _),by simp [hi1]⟩,h,S.nf [true,true] rfl ⟨rfl,rfl,rfl,rfl,(congrArg (fun z=>some (Value.int .i64 z)) (Hs hd1 hi1 (Jg (Hg Uj hs1)))),trivial⟩⟩,Nat.lt_succ_self _⟩)))
 clear S h;rintro a w3 ⟨x1,x2,v1,h,S⟩;rw [hj1] at h;clear hj1 j1
 refine Tn (Fr (Vm S rfl rfl fun a S=>Va S rfl rfl fun a S=>Dl (wp_ret ?_)))
 obtain rfl:=Option.some.inj h
 exact Eu S results16 rfl ⟨(S.holds _ (List.mem_of_getElem? (i:=1) rfl)),(OV S (i:=0) rfl (fun c hc hh=>DZ S (i:=1) rfl rfl (j:=0) rfl rfl (by simp at hc;subst hc;exact hh)))⟩
theorem Sa (w : World) (U : Nat) (Aa : Value) (Aq : List Int) (Ao : Slc (view w [U]) 1 Aa (Aq.map eInt)) (Am : Int) (Ar : (LEnt.blk U [Aa,iV Am] 25).holds w) (Bn : Int) (Bh : Int) (r : Int × Int) (h : Pq Aq Am Bn Bh = some r) :
    Calls prog 18 [.pointer (some ⟨U,0,none⟩),iV Bn,iV Bh].toArray w (Ret w [U] fun _ v w'=>(LEnt.blk U [Aa,iV r.2] 25).holds w' ∧ v = iV r.1):=by
 refine Lb [U] [.blk U [Aa,iV Am] 25] func18 rfl ntmps18 rfl (fun e he=>by simp only [List.mem_singleton] at he;subst he;exact Ar) (by simp [fps,LEnt.fp]) (by simp [fps,LEnt.fp]) fun a S=>?_
 unfold Pq at h
 replace S:=(S.nl [.blk U [Aa,iV Am] 25] [true] rfl).k3 0 1 2 rfl
 refine Fr (Vk S rfl rfl fun a S=>Dl (Fs (Fr (Vm S rfl rfl fun a S=>Vm S rfl rfl fun a S=>Vb S Ev rfl rfl rfl ?_))));clear S;intro a S
 refine Dl (Fc h (S.tm rfl) (fun hb1 h=>?_) (fun hb1 h=>?_))
 ·refine Fr (Vm S rfl rfl fun a S=>Va S rfl rfl fun a S=>Dl (wp_ret (Ec ?_)))
  obtain rfl:=Option.some.inj h
  exact Eu S results18 rfl ⟨(S.holds _ (List.mem_of_getElem? (i:=0) rfl)),rfl⟩
 ·refine wp_skip (Tn (Fs (Fg ?_)))
  iterate 4 (refine Vm S rfl rfl ?_;clear S;intro a S)
  refine Vb S Iy rfl rfl rfl fun a S=>Vq S Gf rfl rfl rfl ?_;clear S;intro a S
  obtain ⟨r1,hr1,h⟩:=Fd h
  refine Hx 0 S (b:=U) rfl rfl (fun _=>.blk U [Aa,iV r1.2] 25) (fun _=>Ea (vs:=[.pointer (some ⟨U,0,none⟩),iV (W ((W (Bh - Bn)) + 1))]) ⟨(S.tm rfl),(S.tm rfl),trivial⟩ call39) (Uz _ U Aa Aq (Ao.mono (S.le_arg (Ji (i:=0) (e:=.blk U [Aa,iV Am] 25) rfl))) Am (S.holds _ (List.mem_of_getElem? (i:=0) rfl)) (W ((W (Bh - Bn)) + 1)) _ hr1) rfl (fun _ _ _ h=>⟨h.1,fun _ hc=>by cases hc;rfl⟩) ?_;clear S;intro v1 a w1 hv1 hk1 hn1 S
  replace hv1:=hv1.2
  subst hv1
  refine Vb S Gf rfl rfl rfl fun a S=>Va S rfl rfl fun a S=>Ld ?_
  replace S:=(S.nl [.blk U [Aa,iV r1.2] 25] [true] rfl).k1 6 rfl
  refine Tn (wp_ret ?_)
  obtain rfl:=Option.some.inj h
  exact Eu S results18 rfl ⟨(S.holds _ (List.mem_of_getElem? (i:=0) rfl)),rfl⟩
theorem DF (w : World) (U : Nat) (Aa : Value) (Aq : List Int) (Ao : Slc (view w [U]) 1 Aa (Aq.map eInt)) (Am : Int) (Ar : (LEnt.blk U [Aa,iV Am] 25).holds w) (r : Mz × Int) (h : Sb Aq Am = some r) :
    Calls prog 17 [.pointer (some ⟨U,0,none⟩)].toArray w (Ret w [U] fun τ v w'=>(LEnt.blk U [Aa,iV r.2] 25).holds w' ∧ ∃ q : R28,v = .agg (R28.enc q).toArray ∧ Zh τ r.1 q):=by
 refine Lb [U] [.blk U [Aa,iV Am] 25] func17 rfl ntmps17 rfl (fun e he=>by simp only [List.mem_singleton] at he;subst he;exact Ar) (by simp [fps,LEnt.fp]) (by simp [fps,LEnt.fp]) fun a S=>?_
 unfold Sb at h
 replace S:=(S.nl [.blk U [Aa,iV Am] 25] [true] rfl).k1 0 rfl
 refine Fr (Hu S zeroValue28 (cs:=[.slice none 0 0,iV 0,iV 0]) rfl rfl ?_);clear S;intro a w1 b1 hz1 hk1 S
 replace S:=S.nil 3 1
 refine Dz (Vm S rfl rfl fun a S=>Ff S underlying22 sizeOf3 zeroValue3 rfl rfl (pv:=[(0,iV 1),(1,iV 2)]) ⟨rfl,rfl,rfl,rfl,trivial⟩ (cs:=[iV 1,iV 2]) (by kernel_rfl) rfl ?_);clear S;intro a w2 b2 hz2 hk2 S
 obtain ⟨r1,hr1,h⟩:=Fd h
 refine Hx 3 S (b:=U) rfl rfl (fun _=>.blk U [Aa,iV r1.2] 25) (fun _=>Ea (vs:=[.pointer (some ⟨U,0,none⟩),.slice (some ⟨b2,0,none⟩) 2 2]) ⟨(S.tm rfl),(S.tm rfl),trivial⟩ call38) (Jt _ U Aa Aq (Ao.mono (S.le_arg (Ji (i:=3) (e:=.blk U [Aa,iV Am] 25) rfl))) Am (S.holds _ (List.mem_of_getElem? (i:=3) rfl)) (.slice (some ⟨b2,0,none⟩) 2 2) [1,2] (Kv Jb S (i:=0) rfl rfl rfl rfl ((My (i:=3) (j:=0) (e:=.blk U [Aa,iV Am] 25) (e':=.blk b2 [iV 1,iV 2] 3) S rfl rfl rfl) _ rfl)) _ hr1) rfl (fun _ _ _ h=>⟨h.1,fun _ hc=>by cases hc;rfl⟩) ?_;clear S;intro v1 a w3 hv1 hk3 hn1 S
 replace hv1:=hv1.2
 subst hv1
 refine Vm S rfl rfl fun a S=>Ff S underlying22 sizeOf3 zeroValue3 rfl rfl (pv:=[(0,iV 0),(1,iV 0),(2,iV 1),(3,iV 2)]) ⟨rfl,rfl,rfl,rfl,rfl,rfl,rfl,rfl,trivial⟩ (cs:=[iV 0,iV 0,iV 1,iV 2]) (by kernel_rfl) rfl ?_;clear S;intro a w4 b3 hz3 hk4 S
 obtain ⟨r2,hr2,h⟩:=Fd h
 refine Hx 4 S (b:=U) rfl rfl (fun _=>.blk U [Aa,iV r2.2] 25) (fun _=>Ea (vs:=[.pointer (some ⟨U,0,none⟩),.slice (some ⟨b3,0,none⟩) 4 4]) ⟨(S.tm rfl),(S.tm rfl),trivial⟩ call38) (Jt _ U Aa Aq (Ao.mono (S.le_arg (Ji (i:=4) (e:=.blk U [Aa,iV r1.2] 25) rfl))) r1.2 (S.holds _ (List.mem_of_getElem? (i:=4) rfl)) (.slice (some ⟨b3,0,none⟩) 4 4) [0,0,1,2] (Kv Jb S (i:=0) rfl rfl rfl rfl ((My (i:=4) (j:=0) (e:=.blk U [Aa,iV r1.2] 25) (e':=.blk b3 [iV 0,iV 0,iV 1,iV 2] 3) S rfl rfl rfl) _ rfl)) _ hr2) rfl (fun _ _ _ h=>⟨h.1,fun _ hc=>by cases hc;rfl⟩) ?_;clear S;intro v2 a w5 hv2 hk5 hn2 S
 replace hv2:=hv2.2
 subst hv2
 refine lv S (Nl bt_28 (pv:=[(1,iV r1.1),(2,iV r2.1)]) ⟨rfl,(S.tm rfl),rfl,(S.tm rfl),trivial⟩ (cs:=[.slice none 0 0,iV r1.1,iV r2.1]) (by kernel_rfl)) rfl fun a S=>Hu S zeroValue28 (cs:=[.slice none 0 0,iV 0,iV 0]) rfl rfl ?_;clear S;intro a w6 b4 hz4 hk6 S
 replace S:=S.nil 3 1
 refine Fj S (S.tm rfl) (S.tm rfl) (i:=1) (off:=0) rfl sizeOf28 (vs:=[.slice none 0 0,iV r1.1,iV r2.1]) rfl rfl rfl rfl ?_;clear S;intro w7 hk7 S
 replace S:=S.nil 3 1
 refine Ld ?_
 replace S:=(S.nl [.own (.slice none 0 0) 3 1 ([] : List Int).length (([] : List Int).flatMap eInt),.blk b4 [(.slice none 0 0),iV r1.1,iV r2.1] 28,.own (.slice none 0 0) 3 1 ([] : List Int).length (([] : List Int).flatMap eInt),.blk b1 [(.slice none 0 0),iV 0,iV 0] 28,.blk U [Aa,iV r2.2] 25] [true,false,true,false,false,true,true,true] rfl).k3 0 2 3 rfl
 refine Tn (Fr (Vm S rfl rfl fun a S=>Ff S underlying22 sizeOf3 zeroValue3 rfl rfl (pv:=[(0,iV 10),(1,iV 9),(2,iV 7),(3,iV 5)]) ⟨rfl,rfl,rfl,rfl,rfl,rfl,rfl,rfl,trivial⟩ (cs:=[iV 10,iV 9,iV 7,iV 5]) (by kernel_rfl) rfl ?_));clear S;intro a w8 b5 hz5 hk8 S
 obtain ⟨r3,hr3,h⟩:=Fd h
 refine Hx 5 S (b:=U) rfl rfl (fun _=>.blk U [Aa,iV r3.2] 25) (fun _=>Ea (vs:=[.pointer (some ⟨U,0,none⟩),.slice (some ⟨b5,0,none⟩) 4 4]) ⟨(S.tm rfl),(S.tm rfl),trivial⟩ call38) (Jt _ U Aa Aq (Ao.mono (S.le_arg (Ji (i:=5) (e:=.blk U [Aa,iV r2.2] 25) rfl))) r2.2 (S.holds _ (List.mem_of_getElem? (i:=5) rfl)) (.slice (some ⟨b5,0,none⟩) 4 4) [10,9,7,5] (Kv Jb S (i:=0) rfl rfl rfl rfl ((My (i:=5) (j:=0) (e:=.blk U [Aa,iV r2.2] 25) (e':=.blk b5 [iV 10,iV 9,iV 7,iV 5] 3) S rfl rfl rfl) _ rfl)) _ hr3) rfl (fun _ _ _ h=>⟨h.1,fun _ hc=>by cases hc;rfl⟩) ?_;clear S;intro v3 a w9 hv3 hk9 hn3 S
 replace hv3:=hv3.2
 subst hv3
 refine Va S rfl rfl fun a S=>Ld ?_
 replace S:=(S.nl [.own (.slice none 0 0) 3 1 ([] : List Int).length (([] : List Int).flatMap eInt),.blk b4 [(.slice none 0 0),iV r1.1,iV r2.1] 28,.own (.slice none 0 0) 3 1 ([] : List Int).length (([] : List Int).flatMap eInt),.blk b1 [(.slice none 0 0),iV 0,iV 0] 28,.blk U [Aa,iV r3.2] 25] [false,true,true,true,true,true] rfl).k4 0 2 3 4 rfl
 refine Tn (Fs (Fr (Vm S rfl rfl ?_)));clear S;intro a S
 obtain ⟨r4,hr4,h⟩:=Fd h
 refine Hx 4 S (b:=U) rfl rfl (fun _=>.blk U [Aa,iV r4.2] 25) (fun _=>Ea (vs:=[.pointer (some ⟨U,0,none⟩),iV 0,iV 5]) ⟨(S.tm rfl),rfl,rfl,trivial⟩ call18) (Sa _ U Aa Aq (Ao.mono (S.le_arg (Ji (i:=4) (e:=.blk U [Aa,iV r3.2] 25) rfl))) r3.2 (S.holds _ (List.mem_of_getElem? (i:=4) rfl)) 0 5 _ hr4) rfl (fun _ _ _ h=>⟨h.1,fun _ hc=>by cases hc;rfl⟩) ?_;clear S;intro v4 a w10 hv4 hk10 hn4 S
 replace hv4:=hv4.2
 subst hv4
 refine lv S (Rm rfl) rfl fun a S=>Dl ?_
 replace S:=(S.nl [.own (.slice none 0 0) 3 1 ([] : List Int).length (([] : List Int).flatMap eInt),.blk b4 [(.slice none 0 0),iV r1.1,iV r2.1] 28,.own (.slice none 0 0) 3 1 ([] : List Int).length (([] : List Int).flatMap eInt),.blk b1 [(.slice none 0 0),iV 0,iV 0] 28,.blk U [Aa,iV r4.2] 25] [true,true,true,true,true] rfl).k6 0 2 3 4 16 17 rfl
 obtain ⟨j1,hj1,h⟩:=Ey h
 refine Es (fun a w'=>∃ x1 : List Int,∃ x2 : Int,∃ v5 : Value,j1 x1 x2 = some r ∧ Sx w [U] nov [.own v5 3 1 x1.length (x1.flatMap eInt),.blk b4 [v5,iV r1.1,iV r2.1] 28,.own (.slice none 0 0) 3 1 ([] : List Int).length (([] : List Int).flatMap eInt),.blk b1 [(.slice none 0 0),iV 0,iV 0] 28,.blk U [Aa,iV x2] 25] [(2,.pointer (some ⟨b1,0,none⟩)),(3,.pointer (some ⟨b4,0,none⟩))] 33 a w') ?_ ?_
 ·refine wp_block (Gz (fun (m1 : Nat) a w'=>∃ x1 : List Int,∃ x2 : Int,∃ x3 : Int,∃ x4 : Int,∃ v5 : Value,Kn r4 Aq j1 m1 x1 x2 x3 x4 = some r ∧ Sx w [U] nov [.own v5 3 1 x1.length (x1.flatMap eInt),.blk b4 [v5,iV r1.1,iV r2.1] 28,.own (.slice none 0 0) 3 1 ([] : List Int).length (([] : List Int).flatMap eInt),.blk b1 [(.slice none 0 0),iV 0,iV 0] 28,.blk U [Aa,iV x2] 25] [(0,.pointer (some ⟨U,0,none⟩)),(2,.pointer (some ⟨b1,0,none⟩)),(3,.pointer (some ⟨b4,0,none⟩)),(4,iV x3),(16,iV r4.1),(17,iV x4)] 33 a w') id ((r4.1 - 0).toNat + 2) ⟨([] : List Int),r4.2,r3.1,0,(.slice none 0 0),h,S.nf [true,true,true,true,true] rfl (subR rfl)⟩ ?_)
  clear S h;rintro m1 a w11 ⟨x1,x2,x3,x4,v5,h,S⟩
  cases m1 with
  | zero=>rw [Kn.eq_1] at h;cases h
  | succ m1 =>
   rw [Kn.eq_2] at h
   refine Fr (Vb S Ev rfl rfl rfl fun a S=>Dl (Fs (Fc h (S.tm rfl) (fun hb1 h=>?_) (fun hb1 h=>?_))))
   ·refine wp_skip (Tn (Fs (wp_block (Fr (Vf Yx S rfl rfl fun a S=>Vl isAgg22 1 S rfl rfl rfl rfl fun a S=>Vm S rfl rfl fun a S=>Ff S underlying22 sizeOf3 zeroValue3 rfl rfl (pv:=[(0,iV x3)]) ⟨rfl,(S.tm rfl),trivial⟩ (cs:=[iV x3]) (by kernel_rfl) rfl ?_)))));clear S;intro a w13 b6 hz6 hk11 S
    obtain ⟨hc1,h⟩:=Ij h
    refine Np Pj Jb S (S.tm rfl) (i:=1) rfl (S.tm rfl) (j:=0) rfl (ys:=[x3]) rfl rfl rfl rfl (by have:=Ob hc1;omega) rfl ?_;clear S;intro v6 a w14 hk12 S
    refine Vf Yx S rfl rfl fun a S=>Fj S (S.tm rfl) (S.tm rfl) (i:=2) (off:=0) rfl sizeOf22 (vs:=[v6]) (Ku.cells (Oh (S.own_at (i:=1) rfl))) rfl rfl (Qn (Ku.one (Oh (S.own_at (i:=1) rfl))) rfl) ?_;clear S;intro w15 hk13 S
    refine Ld ?_
    replace S:=(S.nl [.own v6 3 1 (x1 ++ [x3]).length ((x1 ++ [x3]).flatMap eInt),.blk b4 [v6,iV r1.1,iV r2.1] 28,.own (.slice none 0 0) 3 1 ([] : List Int).length (([] : List Int).flatMap eInt),.blk b1 [(.slice none 0 0),iV 0,iV 0] 28,.blk U [Aa,iV x2] 25] [false,true,true,true,true,true] rfl).k6 0 2 3 4 16 17 rfl
    refine Tn (Fg (Vm S rfl rfl fun a S=>Vm S rfl rfl fun a S=>Ff S underlying22 sizeOf3 zeroValue3 rfl rfl (pv:=[(0,iV 0),(1,iV 1),(2,iV 2),(3,iV 3)]) ⟨rfl,rfl,rfl,rfl,rfl,rfl,rfl,rfl,trivial⟩ (cs:=[iV 0,iV 1,iV 2,iV 3]) (by kernel_rfl) rfl ?_));clear S;intro a w16 b7 hz7 hk14 S
    obtain ⟨r5,hr5,h⟩:=Fd h
    refine Hx 5 S (b:=U) rfl rfl (fun _=>.blk U [Aa,iV r5.2] 25) (fun _=>Ea (vs:=[.pointer (some ⟨U,0,none⟩),.slice (some ⟨b7,0,none⟩) 4 4]) ⟨(S.tm rfl),(S.tm rfl),trivial⟩ call38) (Jt _ U Aa Aq (Ao.mono (S.le_arg (Ji (i:=5) (e:=.blk U [Aa,iV x2] 25) rfl))) x2 (S.holds _ (List.mem_of_getElem? (i:=5) rfl)) (.slice (some ⟨b7,0,none⟩) 4 4) [0,1,2,3] (Kv Jb S (i:=0) rfl rfl rfl rfl ((My (i:=5) (j:=0) (e:=.blk U [Aa,iV x2] 25) (e':=.blk b7 [iV 0,iV 1,iV 2,iV 3] 3) S rfl rfl rfl) _ rfl)) _ hr5) rfl (fun _ _ _ h=>⟨h.1,fun _ hc=>by cases hc;rfl⟩) ?_;clear S;intro v7 a w17 hv5 hk15 hn5 S
    replace hv5:=hv5.2
    subst hv5
    refine Vb S Iy rfl rfl rfl fun a S=>Vu S (SS rfl) rfl rfl fun a S=>Va S rfl rfl fun a S=>Ld ?_
    replace S:=(S.nl [.own v6 3 1 (x1 ++ [x3]).length ((x1 ++ [x3]).flatMap eInt),.blk b4 [v6,iV r1.1,iV r2.1] 28,.own (.slice none 0 0) 3 1 ([] : List Int).length (([] : List Int).flatMap eInt),.blk b1 [(.slice none 0 0),iV 0,iV 0] 28,.blk U [Aa,iV r5.2] 25] [false,true,true,true,true,true] rfl).k6 0 2 3 4 16 17 rfl
    exact Hn (Tn (Fg (Vq S Gf rfl rfl rfl fun a S=>Vm S rfl rfl fun a S=>Dl (⟨m1,⟨(x1 ++ [x3]),r5.2,HM 0 (W (x3 - r5.1)),W (x4 + 1),v6,h,S.nf [true,true,true,true,true] rfl ⟨rfl,rfl,rfl,rfl,rfl,rfl,trivial⟩⟩,Nat.lt_succ_self _⟩))))
   ·exact wp_exit (Ep (Ep (Gr (Tn (⟨x1,x2,v5,h,S.nf [true,true,true,true,true] rfl (subR rfl)⟩)))))
 clear S h;rintro a w12 ⟨x1,x2,v5,h,S⟩;rw [hj1] at h;clear hj1 j1
 refine Tn (Fr (lv S (Fk isAgg28 sizeOf28 (off:=0) (o:=0) (part:=[v5,iV r1.1,iV r2.1]) rfl rfl (S.tm rfl) (S.cellsAt (i:=1) rfl)) rfl fun a S=>Fj S (S.tm rfl) (S.tm rfl) (i:=3) (off:=0) rfl sizeOf28 (vs:=[v5,iV r1.1,iV r2.1]) rfl rfl rfl (Qn (Ku.one (Oh (S.own_at (i:=0) rfl))) (Qn rfl (Qn rfl rfl))) ?_));clear S;intro w18 hk16 S
 refine Dl (wp_ret ?_)
 obtain ⟨φ1,hl1,hs1,S⟩:=S.freezeT (xs:=x1) (enc:=eInt) (i:=0) rfl (fun c hc hh=>DZ S (i:=4) rfl rfl (j:=0) rfl rfl (by simp at hc;subst hc;exact hh))
 replace S:=S.nk [.blk b4 [v5,iV r1.1,iV r2.1] 28,.own (.slice none 0 0) 3 1 ([] : List Int).length (([] : List Int).flatMap eInt),.blk b1 [v5,iV r1.1,iV r2.1] 28,.blk U [Aa,iV x2] 25] [(2,.pointer (some ⟨b1,0,none⟩)),(3,.pointer (some ⟨b4,0,none⟩)),(32,.agg #[v5,iV r1.1,iV r2.1])] [] rfl (subR rfl)
 obtain rfl:=Option.some.inj h
 exact Yp S (rs:=[.cell 2 28]) (vs:=[.agg (R28.enc (R28.mk ⟨v5,Ku.one (Fm (Hg Jb hs1))⟩ r1.1 r2.1)).toArray]) results17 ⟨(Tu (off:=0) S rfl isAgg28 sizeOf28 rfl (S.cellsAt (i:=2) rfl)),trivial⟩ rfl ⟨(S.holds _ (List.mem_of_getElem? (i:=3) rfl)),⟨(R28.mk ⟨v5,Ku.one (Fm (Hg Jb hs1))⟩ r1.1 r2.1),rfl,Zx S.le_newer _ _ ⟨⟨v5,Ku.one (Fm (Hg Jb hs1))⟩,rfl,(Hg Jb hs1)⟩⟩⟩
theorem BQ (w : World) (Ax : Value) (Av : List Em) (Do : (LEnt.own Ax 43 8 Av.length (Av.flatMap Em.enc)).holds w) (r : (List Em)) (h : Qp Av = some r) :
    Calls prog 19 [Ax].toArray w (Ret w (Ax.ownBlock.toList) fun _ v w'=>(LEnt.own Ax 43 8 r.length (r.flatMap Em.enc)).holds w' ∧ v = .tuple #[]):=by
 refine Lb (Ax.ownBlock.toList) [.own Ax 43 8 Av.length (Av.flatMap Em.enc)] func19 rfl ntmps19 rfl (fun e he=>by simp only [List.mem_singleton] at he;subst he;exact Do) (Iu _) (Js _) fun a S=>?_
 unfold Qp at h
 replace S:=(S.nl [.own Ax 43 8 Av.length (Av.flatMap Em.enc)] [true] rfl).k1 0 rfl
 refine Fr (Vm S rfl rfl fun a S=>lv S (Fq Th (S.tm rfl) (Oh (S.own_at (i:=0) rfl))) rfl fun a S=>Vq S Iy rfl rfl rfl fun a S=>Vk S rfl rfl fun a S=>Va S rfl rfl fun a S=>Dl ?_)
 replace S:=S.k3 0 2 3 rfl
 obtain ⟨j1,hj1,h⟩:=Ey h
 refine Es (fun a w'=>∃ x1 : List Em,j1 x1 = some r ∧ Sx w (Ax.ownBlock.toList) nov [.own Ax 43 8 x1.length (x1.flatMap Em.enc)] [] 28 a w') ?_ ?_
 ·refine wp_block (Gz (fun (m1 : Nat) a w'=>∃ x1 : List Em,∃ x2 : Int,∃ x3 : Int,Jl j1 m1 x1 x2 x3 = some r ∧ Sx w (Ax.ownBlock.toList) nov [.own Ax 43 8 x1.length (x1.flatMap Em.enc)] [(0,Ax),(2,iV x2),(3,iV x3)] 28 a w') id (((W ((Av.length : Int) - 1)) - 0).toNat + 2) ⟨Av,0,W ((Av.length : Int) - 1),h,S.nf [true] rfl (subR rfl)⟩ ?_)
  clear S h;rintro m1 a w1 ⟨x1,x2,x3,h,S⟩
  cases m1 with
  | zero=>rw [Jl.eq_1] at h;cases h
  | succ m1 =>
   rw [Jl.eq_2] at h
   refine Fs (Fr (Vm S rfl rfl fun a S=>Vm S rfl rfl fun a S=>Vb S Ev rfl rfl rfl fun a S=>Dl (Fc h (S.tm rfl) (fun hb1 h=>?_) (fun hb1 h=>?_))))
   ·refine wp_skip (Tn (Fs (wp_block ?_)))
    obtain ⟨hc1,h⟩:=Ij h
    obtain ⟨hc2,h⟩:=Ij h
    obtain ⟨hc3,h⟩:=Ij h
    obtain ⟨hc4,h⟩:=Ij h
    refine Hd [13,15] ([]) Tryz.mixed S rfl (by kernel_rfl) ?_;clear S;intro w7 hk5 hsel S
    refine Fz 0 S hsel rfl rfl (by kernel_rfl) (by kernel_rfl) rfl (fun _=>(Rm (S.tm rfl))) fun a S=>Fz 1 S hsel rfl rfl (by kernel_rfl) (by kernel_rfl) rfl (fun _=>(Rm (S.tm rfl))) fun a S=>Fz 2 S hsel rfl rfl (by kernel_rfl) (by kernel_rfl) rfl (fun _=>(Rm (S.tm rfl))) fun a S=>Fz 3 S hsel rfl rfl (by kernel_rfl) (by kernel_rfl) rfl (fun _=>(Rm (S.tm rfl))) fun a S=>Fz 4 S hsel rfl rfl (by kernel_rfl) (by kernel_rfl) rfl (fun _=>(Rm (S.tm rfl))) fun a S=>Fz 5 S hsel rfl rfl (by kernel_rfl) (by kernel_rfl) rfl (fun _=>(Rm (S.tm rfl))) ?_;clear S;intro a S
    obtain ⟨b5,hg5,hr5⟩:=Gx (a:=a) (x:=.tmp 18) (y:=.tmp 19) (ty:=0) Th Em.enc_ok S (i:=0) rfl (Eh hc1).1 (Eh hc1).2 (S.tm rfl) (S.tm rfl)
    refine Fz 6 S hsel rfl rfl (by kernel_rfl) (by kernel_rfl) rfl (fun _=>(hr5 _)) ?_;clear S;intro a S
    clear hr5
    refine Ek 7 S hsel rfl (by kernel_rfl) (by kernel_rfl) (by kernel_rfl) (by kernel_rfl) rfl (fun _ hw=>(Fk isAgg43 sizeOf43 (off:=x3.toNat * 8) (o:=0) (part:=(Em.enc (nth x1 x3))) rfl rfl (S.tm rfl) ((Ns Em.enc_ok S (i:=0) rfl hg5 (Eh hc1).1 (Ie (e':=.own Ax 43 8 x1.length (x1.flatMap Em.enc)))).kept hw))) fun a S=>Fz 8 S hsel rfl rfl (by kernel_rfl) (by kernel_rfl) rfl (fun _=>(Rm (S.tm rfl))) fun a S=>Fz 9 S hsel rfl rfl (by kernel_rfl) (by kernel_rfl) rfl (fun _=>(Rm (S.tm rfl))) ?_;clear S;intro a S
    obtain ⟨b6,hg6,hr6⟩:=Gx (a:=a) (x:=.tmp 22) (y:=.tmp 23) (ty:=0) Th Em.enc_ok S (i:=0) rfl (Eh hc2).1 (Eh hc2).2 (S.tm rfl) (S.tm rfl)
    refine Fz 10 S hsel rfl rfl (by kernel_rfl) (by kernel_rfl) rfl (fun _=>(hr6 _)) ?_;clear S;intro a S
    clear hr6
    refine Ek 11 S hsel rfl (by kernel_rfl) (by kernel_rfl) (by kernel_rfl) (by kernel_rfl) rfl (fun _ hw=>(Fk isAgg43 sizeOf43 (off:=x2.toNat * 8) (o:=0) (part:=(Em.enc (nth x1 x2))) rfl rfl (S.tm rfl) ((Ns Em.enc_ok S (i:=0) rfl hg6 (Eh hc2).1 (Ie (e':=.own Ax 43 8 x1.length (x1.flatMap Em.enc)))).kept hw))) ?_;clear S;intro a S
    obtain ⟨b7,hg7,hr7⟩:=Gx (a:=a) (x:=.tmp 14) (y:=.tmp 15) (ty:=0) Th Em.enc_ok S (i:=0) rfl (Eh hc3).1 (Eh hc3).2 (S.tm rfl) (S.tm rfl)
    refine Fz 12 S hsel rfl rfl (by kernel_rfl) (by kernel_rfl) rfl (fun _=>(hr7 _)) ?_;clear S;intro a S
    clear hr7
    refine Wq 13 (Ax.ownBlock.toList) rfl (by kernel_rfl) rfl (Oe (c:=0) (j:=x2.toNat) (nth x1 x3) Em.enc_ok S (S.tm rfl) (S.tm rfl) (i:=0) rfl hg7 (Eh hc3).1 sizeOf43 (vs:=[sV ((nth x1 x3).Key),iV ((nth x1 x3).Metres),iV ((nth x1 x3).Stroke),iV ((nth x1 x3).Course),iV ((nth x1 x3).Legs),iV ((nth x1 x3).Sex),iV ((nth x1 x3).Young),iV ((nth x1 x3).Old)]) rfl rfl rfl rfl rfl ?_);clear S;intro w9 hk7 S
    refine Ld (Wr ?_)
    obtain ⟨b8,hg8,hr8⟩:=Gx (a:=a) (x:=.tmp 16) (y:=.tmp 17) (ty:=0) Th Em.enc_ok S (i:=0) rfl (Eh hc4).1 (Eh hc4).2 (S.tm rfl) (S.tm rfl)
    refine Ek 14 S hsel rfl rfl rfl (by kernel_rfl) (by kernel_rfl) rfl (fun _ hw=>(hr8 _)) ?_;clear S;intro a S
    clear hr8
    refine Hi 15 (by kernel_rfl) rfl (Oe (c:=0) (j:=x3.toNat) (nth x1 x2) Em.enc_ok S (S.tm rfl) (S.tm rfl) (i:=0) rfl hg8 (Eh hc4).1 sizeOf43 (vs:=[sV ((nth x1 x2).Key),iV ((nth x1 x2).Metres),iV ((nth x1 x2).Stroke),iV ((nth x1 x2).Course),iV ((nth x1 x2).Legs),iV ((nth x1 x2).Sex),iV ((nth x1 x2).Young),iV ((nth x1 x2).Old)]) rfl rfl rfl rfl rfl ?_);clear S;intro w11 hk9 S
    refine Ld (Ik hk9 (Wl (by kernel_rfl) ?_))
    clear hsel
    replace S:=(S.nl [.own Ax 43 8 ((x1.set x2.toNat (nth x1 x3)).set x3.toNat (nth x1 x2)).length (((x1.set x2.toNat (nth x1 x3)).set x3.toNat (nth x1 x2)).flatMap Em.enc)] [true] rfl).k3 0 2 3 rfl
    refine Hn (Tn (Fg (Vm S rfl rfl fun a S=>Vq S Gf rfl rfl rfl fun a S=>Vm S rfl rfl fun a S=>Vq S Iy rfl rfl rfl fun a S=>Va S rfl rfl fun a S=>Va S rfl rfl fun a S=>Dl ?_)))
    exact ⟨m1,⟨((x1.set x2.toNat (nth x1 x3)).set x3.toNat (nth x1 x2)),W (x2 + 1),W (x3 - 1),h,S.nf [true] rfl ⟨rfl,rfl,rfl,trivial⟩⟩,Nat.lt_succ_self _⟩
   ·exact wp_exit (Ep (Ep (Gr (Tn (⟨x1,h,S.nf [true] rfl trivial⟩)))))
 clear S h;rintro a w2 ⟨x1,h,S⟩;rw [hj1] at h;clear hj1 j1
 obtain rfl:=Option.some.inj h
 exact Ri S results19 ⟨(S.holds _ (List.mem_of_getElem? (i:=0) rfl)),rfl⟩
theorem Ys (w : World) (U : Nat) (Aa : Value) (Aq : List Int) (Ao : Slc (view w [U]) 1 Aa (Aq.map eInt)) (Am : Int) (Ar : (LEnt.blk U [Aa,iV Am] 25).holds w) (r : Kq × Int) (h : Rd Aq Am = some r) :
    Calls prog 4 [.pointer (some ⟨U,0,none⟩)].toArray w (Ret w [U] fun τ v w'=>(LEnt.blk U [Aa,iV r.2] 25).holds w' ∧ ∃ q : R32,v = .agg (R32.enc q).toArray ∧ Tp τ r.1 q):=by
 refine Lb [U] [.blk U [Aa,iV Am] 25] func4 rfl ntmps4 rfl (fun e he=>by simp only [List.mem_singleton] at he;subst he;exact Ar) (by simp [fps,LEnt.fp]) (by simp [fps,LEnt.fp]) fun a S=>?_
 unfold Rd at h
 replace S:=(S.nl [.blk U [Aa,iV Am] 25] [true] rfl).k1 0 rfl
 refine Fr (Hu S zeroValue32 (cs:=[.slice none 0 0,.slice none 0 0,iV 0,iV 0,iV 0,iV 0,iV 0]) rfl rfl ?_);clear S;intro a w1 b1 hz1 hk1 S
 refine Dz (Vm S rfl rfl ?_);clear S;intro a S
 obtain ⟨r1,hr1,h⟩:=Fd h
 have hz2:=S.keep.size
 refine Hx 1 S (b:=U) rfl rfl (fun _=>.blk U [Aa,iV r1.2] 25) (fun _=>Ea (vs:=[.pointer (some ⟨U,0,none⟩)]) ⟨(S.tm rfl),trivial⟩ call16) (EO _ U Aa Aq (Ao.mono (S.le_arg (Ji (i:=1) (e:=.blk U [Aa,iV Am] 25) rfl))) Am (S.holds _ (List.mem_of_getElem? (i:=1) rfl)) _ hr1) rfl (fun _ _ _ h=>⟨h.1,fun _ hc=>by cases hc;rfl⟩) ?_;clear S;intro v1 a w2 hv1 hk2 hn1 S
 replace hv1:=hv1.2
 replace S:=S.take hn1 hz2 hv1
 refine Vm S rfl rfl ?_;clear S;intro a S
 obtain ⟨r2,hr2,h⟩:=Fd h
 have hz3:=S.keep.size
 refine Hx 2 S (b:=U) rfl rfl (fun _=>.blk U [Aa,iV r2.2] 25) (fun _=>Ea (vs:=[.pointer (some ⟨U,0,none⟩)]) ⟨(S.tm rfl),trivial⟩ call17) (DF _ U Aa Aq (Ao.mono (S.le_arg (Ji (i:=2) (e:=.blk U [Aa,iV r1.2] 25) rfl))) r1.2 (S.holds _ (List.mem_of_getElem? (i:=2) rfl)) _ hr2) rfl (fun _ _ _ h=>⟨h.1,fun _ hc=>by cases hc;rfl⟩) ?_;clear S;intro v2 a w3 hv2 hk3 hn2 S
 replace hv2:=hv2.2
 obtain ⟨q1,rfl,hq1⟩:=hv2
 obtain ⟨φ1,hl1,hm1,S⟩:=S.see' hn2 hz3
 obtain ⟨u3,rfl,hs1⟩:=Zx hm1 _ _ hq1
 refine Vm S rfl rfl ?_;clear S;intro a S
 obtain ⟨r3,hr3,h⟩:=Fd h
 refine Hx 2 S (b:=U) rfl rfl (fun _=>.blk U [Aa,iV r3.2] 25) (fun _=>Ea (vs:=[.pointer (some ⟨U,0,none⟩),iV 1,iV 3]) ⟨(S.tm rfl),rfl,rfl,trivial⟩ call18) (Sa _ U Aa Aq (Ao.mono (S.le_arg (Ji (i:=2) (e:=.blk U [Aa,iV r2.2] 25) rfl))) r2.2 (S.holds _ (List.mem_of_getElem? (i:=2) rfl)) 1 3 _ hr3) rfl (fun _ _ _ h=>⟨h.1,fun _ hc=>by cases hc;rfl⟩) ?_;clear S;intro v3 a w4 hv3 hk4 hn3 S
 replace hv3:=hv3.2
 subst hv3
 refine Vm S rfl rfl ?_;clear S;intro a S
 obtain ⟨r4,hr4,h⟩:=Fd h
 refine Hx 2 S (b:=U) rfl rfl (fun _=>.blk U [Aa,iV r4.2] 25) (fun _=>Ea (vs:=[.pointer (some ⟨U,0,none⟩),iV 1,iV 2]) ⟨(S.tm rfl),rfl,rfl,trivial⟩ call18) (Sa _ U Aa Aq (Ao.mono (S.le_arg (Ji (i:=2) (e:=.blk U [Aa,iV r3.2] 25) rfl))) r3.2 (S.holds _ (List.mem_of_getElem? (i:=2) rfl)) 1 2 _ hr4) rfl (fun _ _ _ h=>⟨h.1,fun _ hc=>by cases hc;rfl⟩) ?_;clear S;intro v4 a w5 hv4 hk5 hn4 S
 replace hv4:=hv4.2
 subst hv4
 refine Vm S rfl rfl ?_;clear S;intro a S
 obtain ⟨r5,hr5,h⟩:=Fd h
 refine Hx 2 S (b:=U) rfl rfl (fun _=>.blk U [Aa,iV r5.2] 25) (fun _=>Ea (vs:=[.pointer (some ⟨U,0,none⟩),iV 0,iV 2]) ⟨(S.tm rfl),rfl,rfl,trivial⟩ call18) (Sa _ U Aa Aq (Ao.mono (S.le_arg (Ji (i:=2) (e:=.blk U [Aa,iV r4.2] 25) rfl))) r4.2 (S.holds _ (List.mem_of_getElem? (i:=2) rfl)) 0 2 _ hr5) rfl (fun _ _ _ h=>⟨h.1,fun _ hc=>by cases hc;rfl⟩) ?_;clear S;intro v5 a w6 hv5 hk6 hn5 S
 replace hv5:=hv5.2
 subst hv5
 refine lv S (Nl bt_30 (pv:=[(0,iV r3.1),(1,iV r4.1),(2,iV r5.1)]) ⟨rfl,(S.tm rfl),rfl,(S.tm rfl),rfl,(S.tm rfl),trivial⟩ (cs:=[iV r3.1,iV r4.1,iV r5.1]) (by kernel_rfl)) rfl ?_;clear S;intro a S
 refine lv S (Nl bt_32 (pv:=[(0,v1),(1,.agg #[u3.val,iV r2.1.Relay,iV r2.1.Most]),(2,.agg #[iV r3.1,iV r4.1,iV r5.1])]) ⟨rfl,(S.tm rfl),rfl,(S.tm rfl),rfl,(S.tm rfl),trivial⟩ (cs:=[v1,u3.val,iV r2.1.Relay,iV r2.1.Most,iV r3.1,iV r4.1,iV r5.1]) (by obtain ⟨_,_,hv⟩:=(Oh (S.own_at (i:=0) rfl));rw [hv];clear hv;obtain ⟨_,_,hv⟩:=(Fm hs1);rw [hv];clear hv;kernel_rfl)) rfl ?_;clear S;intro a S
 refine Hu S zeroValue32 (cs:=[.slice none 0 0,.slice none 0 0,iV 0,iV 0,iV 0,iV 0,iV 0]) rfl rfl ?_;clear S;intro a w7 b2 hz4 hk7 S
 refine Fj S (S.tm rfl) (S.tm rfl) (i:=0) (off:=0) rfl sizeOf32 (vs:=[v1,u3.val,iV r2.1.Relay,iV r2.1.Most,iV r3.1,iV r4.1,iV r5.1]) rfl rfl rfl (Qn (Ku.one (Oh (S.own_at (i:=1) rfl))) (Qn (Ku.one (Fm hs1)) (Qn rfl (Qn rfl (Qn rfl (Qn rfl (Qn rfl rfl))))))) ?_;clear S;intro w8 hk8 S
 refine Ld ?_
 replace S:=(S.nl [.blk b2 [v1,u3.val,iV r2.1.Relay,iV r2.1.Most,iV r3.1,iV r4.1,iV r5.1] 32,.own v1 43 8 r1.1.length (r1.1.flatMap Em.enc),.blk b1 [.slice none 0 0,.slice none 0 0,iV 0,iV 0,iV 0,iV 0,iV 0] 32,.blk U [Aa,iV r5.2] 25] [true,true,true,true] rfl).k2 2 3 rfl
 refine Tn (Fr (Vf Xc S rfl rfl fun a S=>Vl isAgg26 0 S rfl rfl rfl rfl ?_));clear S;intro a S
 obtain ⟨r6,hr6,h⟩:=Fd h
 refine Mr 1 S rfl (fun _=>.own v1 43 8 r6.length (r6.flatMap Em.enc)) (fun _=>Ea (vs:=[v1]) ⟨(S.tm rfl),trivial⟩ call19) (BQ _ v1 r1.1 (S.holds _ (List.mem_of_getElem? (i:=1) rfl)) _ hr6) rfl (fun _ _ _ h=>⟨h.1,fun _ hc=>hc⟩) ?_;clear S;intro v6 a w9 hv6 hk9 hn6 S
 replace hv6:=hv6.2
 subst hv6
 refine Dz (lv S (Fk isAgg32 sizeOf32 (off:=0) (o:=0) (part:=[v1,u3.val,iV r2.1.Relay,iV r2.1.Most,iV r3.1,iV r4.1,iV r5.1]) rfl rfl (S.tm rfl) (S.cellsAt (i:=0) rfl)) rfl fun a S=>Fj S (S.tm rfl) (S.tm rfl) (i:=2) (off:=0) rfl sizeOf32 (vs:=[v1,u3.val,iV r2.1.Relay,iV r2.1.Most,iV r3.1,iV r4.1,iV r5.1]) rfl rfl rfl (Qn (Ku.one (Oh (S.own_at (i:=1) rfl))) (Qn (Ku.one (Fm hs1)) (Qn rfl (Qn rfl (Qn rfl (Qn rfl (Qn rfl rfl))))))) ?_);clear S;intro w10 hk10 S
 refine Dl (wp_ret ?_)
 obtain ⟨φ2,hl2,hs2,S⟩:=S.freezeT (xs:=r6) (enc:=Em.enc) (i:=1) rfl (fun c hc hh=>DZ S (i:=3) rfl rfl (j:=1) rfl rfl (by simp at hc;subst hc;exact hh))
 replace S:=S.nk [.blk b2 [v1,u3.val,iV r2.1.Relay,iV r2.1.Most,iV r3.1,iV r4.1,iV r5.1] 32,.blk b1 [v1,u3.val,iV r2.1.Relay,iV r2.1.Most,iV r3.1,iV r4.1,iV r5.1] 32,.blk U [Aa,iV r5.2] 25] [(2,.pointer (some ⟨b1,0,none⟩)),(3,.pointer (some ⟨b2,0,none⟩)),(16,.pointer (some ⟨b2,0,none⟩)),(17,v1),(19,.agg #[v1,u3.val,iV r2.1.Relay,iV r2.1.Most,iV r3.1,iV r4.1,iV r5.1])] [] rfl (subR rfl)
 obtain rfl:=Option.some.inj h
 exact Yp S (rs:=[.cell 2 32]) (vs:=[.agg (R32.enc (R32.mk ⟨v1,Ku.one (Fm (Hg Em.enc_ok hs2))⟩ (R28.mk u3 r2.1.Relay r2.1.Most) (Uh.mk r3.1 r4.1 r5.1))).toArray]) results4 ⟨(Tu (off:=0) S rfl isAgg32 sizeOf32 rfl (S.cellsAt (i:=1) rfl)),trivial⟩ rfl ⟨(S.holds _ (List.mem_of_getElem? (i:=2) rfl)),⟨(R32.mk ⟨v1,Ku.one (Fm (Hg Em.enc_ok hs2))⟩ (R28.mk u3 r2.1.Relay r2.1.Most) (Uh.mk r3.1 r4.1 r5.1)),rfl,Yi S.le_newer _ _ ⟨⟨v1,Ku.one (Fm (Hg Em.enc_ok hs2))⟩,(R28.mk u3 r2.1.Relay r2.1.Most),rfl,(Hg Em.enc_ok hs2),⟨u3,rfl,(hs1.mono hl2)⟩⟩⟩⟩
theorem Pu (w : World) (U : Nat) (Aa : Value) (Aq : List Int) (Ao : Slc (view w [U]) 1 Aa (Aq.map eInt)) (Am : Int) (Ar : (LEnt.blk U [Aa,iV Am] 25).holds w) (Ab : Value) (Ae : List ByteArray) (Ag : Slc (view w [U]) 1 Ab (Ae.map EN)) (r : ByteArray × Int) (h : Pb Aq Am Ae = some r) :
    Calls prog 40 [.pointer (some ⟨U,0,none⟩),Ab].toArray w (Ret w [U] fun _ v w'=>(LEnt.blk U [Aa,iV r.2] 25).holds w' ∧ v = sV r.1):=by
 refine Lb [U] [.blk U [Aa,iV Am] 25] func40 rfl ntmps40 rfl (fun e he=>by simp only [List.mem_singleton] at he;subst he;exact Ar) (by simp [fps,LEnt.fp]) (by simp [fps,LEnt.fp]) fun a S=>?_
 unfold Pb at h
 replace S:=(S.nl [.blk U [Aa,iV Am] 25] [true] rfl).k2 0 1 rfl
 refine Fr (Vk S rfl rfl fun a S=>Dl (Fs (Fg ?_)))
 iterate 3 (refine Vm S rfl rfl ?_;clear S;intro a S)
 refine lv S (Fq AM (S.tm rfl) (Fm Ag)) rfl ?_;clear S;intro a S
 obtain ⟨r1,hr1,h⟩:=Fd h
 refine Hx 0 S (b:=U) rfl rfl (fun _=>.blk U [Aa,iV r1.2] 25) (fun _=>Ea (vs:=[.pointer (some ⟨U,0,none⟩),iV (Ae.length : Int)]) ⟨(S.tm rfl),(S.tm rfl),trivial⟩ call39) (Uz _ U Aa Aq (Ao.mono (S.le_arg (Ji (i:=0) (e:=.blk U [Aa,iV Am] 25) rfl))) Am (S.holds _ (List.mem_of_getElem? (i:=0) rfl)) (Ae.length : Int) _ hr1) rfl (fun _ _ _ h=>⟨h.1,fun _ hc=>by cases hc;rfl⟩) ?_;clear S;intro v1 a w1 hv1 hk1 hn1 S
 replace hv1:=hv1.2
 subst hv1
 obtain ⟨hc1,h⟩:=Ij h
 obtain ⟨b1,o1,hm1,hr2⟩:=Fh (a:=a) (x:=.tmp 5) (y:=.tmp 9) (ty:=0) AM Ag (Eh hc1).1 (Eh hc1).2 (S.tm rfl) (S.tm rfl)
 refine lv S (hr2 _) rfl ?_;clear S;intro a S
 clear hr2
 refine lv S (Ic isAgg9 (off:=o1) (o:=0) (S.tm rfl) (hm1.at S.emb0) rfl) rfl fun a S=>Va S rfl rfl fun a S=>Dl (wp_ret ?_)
 obtain rfl:=Option.some.inj h
 exact Eu S results40 rfl ⟨(S.holds _ (List.mem_of_getElem? (i:=0) rfl)),rfl⟩
theorem Vz (w : World) (U : Nat) (Aa : Value) (Aq : List Int) (Ao : Slc (view w [U]) 1 Aa (Aq.map eInt)) (Am : Int) (Ar : (LEnt.blk U [Aa,iV Am] 25).holds w) (Bn : Int) (Bh : Int) (r : Int × Int) (h : Tj Aq Am Bn Bh = some r) :
    Calls prog 41 [.pointer (some ⟨U,0,none⟩),iV Bn,iV Bh].toArray w (Ret w [U] fun _ v w'=>(LEnt.blk U [Aa,iV r.2] 25).holds w' ∧ v = iV r.1):=by
 refine Lb [U] [.blk U [Aa,iV Am] 25] func41 rfl ntmps41 rfl (fun e he=>by simp only [List.mem_singleton] at he;subst he;exact Ar) (by simp [fps,LEnt.fp]) (by simp [fps,LEnt.fp]) fun a S=>?_
 unfold Tj at h
 replace S:=(S.nl [.blk U [Aa,iV Am] 25] [true] rfl).k3 0 1 2 rfl
 refine Fr (Vk S rfl rfl fun a S=>Dl (Fs (Fr (Vm S rfl rfl ?_))));clear S;intro a S
 obtain ⟨r1,hr1,h⟩:=Fd h
 refine Hx 0 S (b:=U) rfl rfl (fun _=>.blk U [Aa,iV r1.2] 25) (fun _=>Ea (vs:=[.pointer (some ⟨U,0,none⟩),iV 12]) ⟨(S.tm rfl),rfl,trivial⟩ call36) (Zj _ U Aa Aq (Ao.mono (S.le_arg (Ji (i:=0) (e:=.blk U [Aa,iV Am] 25) rfl))) Am (S.holds _ (List.mem_of_getElem? (i:=0) rfl)) 12 _ hr1) rfl (fun _ _ _ h=>⟨h.1,fun _ hc=>by cases hc;rfl⟩) ?_;clear S;intro v1 a w1 hv1 hk1 hn1 S
 replace hv1:=hv1.2
 subst hv1
 refine Dl (Fc h (S.tm rfl) (fun hb1 h=>?_) (fun hb1 h=>?_))
 ·refine Fr (Vm S rfl rfl fun a S=>Vm S rfl rfl fun a S=>Vq S Iy rfl rfl rfl fun a S=>Vm S rfl rfl fun a S=>Vq S Gf rfl rfl rfl fun a S=>Vm S rfl rfl fun a S=>Vm S rfl rfl fun a S=>Ff S underlying22 sizeOf3 zeroValue3 rfl rfl (pv:=[(0,iV (W (Bn - 1))),(1,iV (W (Bh + 1))),(2,iV Bn),(3,iV Bh),(4,iV (-1099511627776)),(5,iV 1099511627776)]) ⟨rfl,(S.tm rfl),rfl,(S.tm rfl),rfl,(S.tm rfl),rfl,(S.tm rfl),rfl,rfl,rfl,rfl,trivial⟩ (cs:=[iV (W (Bn - 1)),iV (W (Bh + 1)),iV Bn,iV Bh,iV (-1099511627776),iV 1099511627776]) (by kernel_rfl) rfl ?_);clear S;intro a w2 b1 hz1 hk2 S
  obtain ⟨r2,hr2,h⟩:=Fd h
  refine Hx 1 S (b:=U) rfl rfl (fun _=>.blk U [Aa,iV r2.2] 25) (fun _=>Ea (vs:=[.pointer (some ⟨U,0,none⟩),.slice (some ⟨b1,0,none⟩) 6 6]) ⟨(S.tm rfl),(S.tm rfl),trivial⟩ call38) (Jt _ U Aa Aq (Ao.mono (S.le_arg (Ji (i:=1) (e:=.blk U [Aa,iV r1.2] 25) rfl))) r1.2 (S.holds _ (List.mem_of_getElem? (i:=1) rfl)) (.slice (some ⟨b1,0,none⟩) 6 6) [W (Bn - 1),W (Bh + 1),Bn,Bh,(-1099511627776),1099511627776] (Kv Jb S (i:=0) rfl rfl rfl rfl ((My (i:=1) (j:=0) (e:=.blk U [Aa,iV r1.2] 25) (e':=.blk b1 [iV (W (Bn - 1)),iV (W (Bh + 1)),iV Bn,iV Bh,iV (-1099511627776),iV 1099511627776] 3) S rfl rfl rfl) _ rfl)) _ hr2) rfl (fun _ _ _ h=>⟨h.1,fun _ hc=>by cases hc;rfl⟩) ?_;clear S;intro v2 a w3 hv2 hk3 hn2 S
  replace hv2:=hv2.2
  subst hv2
  refine Va S rfl rfl fun a S=>Ld ?_
  replace S:=(S.nl [.blk U [Aa,iV r2.2] 25] [false,true] rfl).k1 6 rfl
  refine Tn (wp_ret (Ec ?_))
  obtain rfl:=Option.some.inj h
  exact Eu S results41 rfl ⟨(S.holds _ (List.mem_of_getElem? (i:=0) rfl)),rfl⟩
 ·refine wp_skip (Tn (Fs (Fg ?_)))
  iterate 3 (refine Vm S rfl rfl ?_;clear S;intro a S)
  obtain ⟨r3,hr3,h⟩:=Fd h
  refine Hx 0 S (b:=U) rfl rfl (fun _=>.blk U [Aa,iV r3.2] 25) (fun _=>Ea (vs:=[.pointer (some ⟨U,0,none⟩),iV Bn,iV Bh]) ⟨(S.tm rfl),(S.tm rfl),(S.tm rfl),trivial⟩ call18) (Sa _ U Aa Aq (Ao.mono (S.le_arg (Ji (i:=0) (e:=.blk U [Aa,iV r1.2] 25) rfl))) r1.2 (S.holds _ (List.mem_of_getElem? (i:=0) rfl)) Bn Bh _ hr3) rfl (fun _ _ _ h=>⟨h.1,fun _ hc=>by cases hc;rfl⟩) ?_;clear S;intro v3 a w4 hv3 hk4 hn3 S
  replace hv3:=hv3.2
  subst hv3
  refine Va S rfl rfl fun a S=>Dl (wp_ret ?_)
  obtain rfl:=Option.some.inj h
  exact Eu S results41 rfl ⟨(S.holds _ (List.mem_of_getElem? (i:=0) rfl)),rfl⟩
theorem AO (w : World) (Ba : Int) (r : Int) (h : Vx Ba = r) :
    Calls prog 82 [iV Ba].toArray w (Ret w [] fun _ v _=>v = iV r):=by
 refine Fe func82 rfl ntmps82 rfl fun a S=>?_
 unfold Vx at h
 replace S:=S.k1 0 rfl
 refine Fr (Vk S rfl rfl fun a S=>Dl (Fs (wp_block (Fr (Vm S rfl rfl fun a S=>Vq S Ev rfl rfl rfl ?_)))));clear S;intro a S
 refine Va S rfl rfl fun a S=>Dl (Fc h (S.tm rfl) (fun hb1 h=>?_) (fun hb1 h=>?_))
 ·refine Fr (Vk S rfl rfl fun a S=>Dl (wp_ret (Ga (Ec ?_))))
  subst h
  exact Eu S results82 rfl rfl
 ·refine Fr (Vm S rfl rfl fun a S=>Vq S Jj rfl rfl rfl fun a S=>Va S rfl rfl fun a S=>Dl (Fc h (S.tm rfl) (fun hb2 h=>?_) (fun hb2 h=>?_)))
  ·refine Fr (Vk S rfl rfl fun a S=>Dl (wp_ret (Ga (Ec ?_))))
   subst h
   exact Eu S results82 rfl rfl
  ·refine wp_skip (Hn (Tn (Fr (Vk S rfl rfl fun a S=>Dl (wp_ret ?_)))))
   subst h
   exact Eu S results82 rfl rfl
theorem Oy (w : World) (s t : ByteArray) (r : Int) (h : Hw s t = r) : Calls prog 53 [.string s,.string t].toArray w (Ret w [] fun _ v _=>v = .int .i64 r):=by
  subst h
  exact II (Any.strings_Compare Tryz.lays106 s t w)
theorem Xj (w : World) (Aj : Dx) (Al : Dx) (r : Int) (h : Ke Aj Al = r) :
    Calls prog 43 [.agg (Dx.enc Aj).toArray,.agg (Dx.enc Al).toArray].toArray w (Ret w [] fun _ v _=>v = iV r):=by
 refine Fe func43 rfl ntmps43 rfl fun a S=>?_
 unfold Ke at h
 replace S:=S.k2 0 1 rfl
 refine Fr (Mx S (S.tm rfl) (cs:=(Dx.enc Aj)) rfl rfl ?_);clear S;intro a w1 b1 hz1 hk1 S
 refine Mx S (S.tm rfl) (cs:=(Dx.enc Al)) rfl rfl ?_;clear S;intro a w2 b2 hz2 hk2 S
 refine Vk S rfl rfl fun a S=>Dl (Fs (wp_block (Fr (Vf Wg S rfl rfl fun a S=>Vl isAgg3 1 S rfl rfl rfl rfl fun a S=>Vf Wg S rfl rfl fun a S=>Vl isAgg3 0 S rfl rfl rfl rfl ?_))));clear S;intro a S
 refine Vb S Lf rfl rfl rfl fun a S=>Va S rfl rfl fun a S=>Dl (Fc h (S.tm rfl) (fun hb1 h=>?_) (fun hb1 h=>?_))
 ·refine Fr (Vf Wg S rfl rfl fun a S=>Vl isAgg3 1 S rfl rfl rfl rfl fun a S=>Vf Wg S rfl rfl fun a S=>Vl isAgg3 0 S rfl rfl rfl rfl fun a S=>Vb S Iy rfl rfl rfl fun a S=>Ei S (fun _=>Ea (vs:=[iV (W (Aj.At - Al.At))]) ⟨(S.tm rfl),trivial⟩ call82) (AO _ (W (Aj.At - Al.At)) _ rfl) rfl ?_);clear S;intro v1 a w3 hv1 hk3 hn1 S
  subst hv1
  refine Va S rfl rfl fun a S=>Ld ?_
  replace S:=S.n0.k1 4 rfl
  refine Tn (wp_ret (Ga (Ec ?_)))
  subst h
  exact Eu S results43 rfl rfl
 ·refine Fr (Vf Sy S rfl rfl fun a S=>Vl isAgg9 1 S rfl rfl rfl rfl fun a S=>Vf Sy S rfl rfl fun a S=>Vl isAgg9 0 S rfl rfl rfl rfl fun a S=>Vb S Zt rfl rfl rfl fun a S=>Va S rfl rfl fun a S=>Ld ?_)
  replace S:=(S.nl [.blk b2 (Dx.enc Al) 41,.blk b1 (Dx.enc Aj) 41] [true,true] rfl).k3 2 3 17 rfl
  refine Tn (Fc h (S.tm rfl) (fun hb2 h=>?_) (fun hb2 h=>?_))
  ·refine Fr (Vf Sy S rfl rfl fun a S=>Vl isAgg9 1 S rfl rfl rfl rfl fun a S=>Vf Sy S rfl rfl fun a S=>Vl isAgg9 0 S rfl rfl rfl rfl fun a S=>Ei S (fun _=>Ea (vs:=[sV Aj.Site,sV Al.Site]) ⟨(S.tm rfl),(S.tm rfl),trivial⟩ call53) (Oy _ Aj.Site Al.Site _ rfl) rfl ?_);clear S;intro v2 a w4 hv2 hk4 hn2 S
   subst hv2
   refine Va S rfl rfl fun a S=>Dl (wp_ret (Ga (Ec ?_)))
   subst h
   exact Eu S results43 rfl rfl
  ·refine wp_skip (Hn (Tn (Fr (Vf Vi S rfl rfl fun a S=>Vl isAgg3 1 S rfl rfl rfl rfl fun a S=>Vf Vi S rfl rfl fun a S=>Vl isAgg3 0 S rfl rfl rfl rfl fun a S=>Vb S Iy rfl rfl rfl fun a S=>Ei S (fun _=>Ea (vs:=[iV (W (Aj.No - Al.No))]) ⟨(S.tm rfl),trivial⟩ call82) (AO _ (W (Aj.No - Al.No)) _ rfl) rfl ?_))));clear S;intro v3 a w5 hv3 hk5 hn3 S
   subst hv3
   refine Va S rfl rfl fun a S=>Dl (wp_ret ?_)
   subst h
   exact Eu S results43 rfl rfl
set_option maxRecDepth 20000 in
theorem Nf (w : World) (O : Value) (Ai : List Dx) (Be : (LEnt.own O 41 11 Ai.length (Ai.flatMap Dx.enc)).holds w) (Aj : Int) (Al : Int) (r : (List Dx)) (h : Hp Ai Aj Al = some r) :
    Calls prog 88 [O,iV Aj,iV Al,.func (.func 43) #[] #[]].toArray w (Ret w (O.ownBlock.toList) fun _ v w'=>(LEnt.own O 41 11 r.length (r.flatMap Dx.enc)).holds w' ∧ v = .tuple #[]):=by
 refine Lb (O.ownBlock.toList) [.own O 41 11 Ai.length (Ai.flatMap Dx.enc)] func88 rfl ntmps88 rfl (fun e he=>by simp only [List.mem_singleton] at he;subst he;exact Be) (Iu _) (Js _) fun a S=>?_
 unfold Hp at h
 replace S:=(S.nl [.own O 41 11 Ai.length (Ai.flatMap Dx.enc)] [true] rfl).k4 0 1 2 3 rfl
 refine Fr (Vm S rfl rfl fun a S=>Vq S Gf rfl rfl rfl fun a S=>Va S rfl rfl fun a S=>Dl ?_)
 replace S:=S.k5 0 1 2 3 8 rfl
 obtain ⟨j1,hj1,h⟩:=Ey h
 refine Es (fun a w'=>∃ x1 : List Dx,j1 x1 = some r ∧ Sx w (O.ownBlock.toList) nov [.own O 41 11 x1.length (x1.flatMap Dx.enc)] [] 53 a w') ?_ ?_
 ·refine wp_block (Gz (fun (m1 : Nat) a w'=>∃ x1 : List Dx,∃ x2 : Int,Fo Al Aj j1 m1 x1 x2 = some r ∧ Sx w (O.ownBlock.toList) nov [.own O 41 11 x1.length (x1.flatMap Dx.enc)] [(0,O),(1,iV Aj),(2,iV Al),(3,.func (.func 43) #[] #[]),(8,iV x2)] 53 a w') id ((Al - (W (Aj + 1))).toNat + 2) ⟨Ai,W (Aj + 1),h,S.nf [true] rfl (subR rfl)⟩ ?_)
  clear S h;rintro m1 a w1 ⟨x1,x2,h,S⟩
  cases m1 with
  | zero=>rw [Fo.eq_1] at h;cases h
  | succ m1 =>
   rw [Fo.eq_2] at h
   refine Fs (Fr (Vm S rfl rfl fun a S=>Vm S rfl rfl fun a S=>Vb S Ev rfl rfl rfl fun a S=>Dl (Fc h (S.tm rfl) (fun hb1 h=>?_) (fun hb1 h=>?_))))
   ·refine wp_skip (Tn (Fs (wp_block (Fr (Vm S rfl rfl fun a S=>Va S rfl rfl fun a S=>Dl ?_)))))
    replace S:=S.k6 0 1 2 3 8 9 rfl
    obtain ⟨j2,hj2,h⟩:=Ey h
    refine Es (fun a w'=>∃ x3 : List Dx,j2 x3 = some r ∧ Sx w (O.ownBlock.toList) nov [.own O 41 11 x3.length (x3.flatMap Dx.enc)] [(0,O),(1,iV Aj),(2,iV Al),(3,.func (.func 43) #[] #[]),(8,iV x2)] 53 a w') ?_ ?_
    ·refine wp_block (Gz (fun (m2 : Nat) a w'=>∃ x3 : List Dx,∃ x4 : Int,Ew Aj j2 m2 x3 x4 = some r ∧ Sx w (O.ownBlock.toList) nov [.own O 41 11 x3.length (x3.flatMap Dx.enc)] [(0,O),(1,iV Aj),(2,iV Al),(3,.func (.func 43) #[] #[]),(8,iV x2),(9,iV x4)] 53 a w') id ((x2 - Aj).toNat + 2) ⟨x1,x2,h,S.nf [true] rfl (subR rfl)⟩ ?_)
     clear S h;rintro m2 a w3 ⟨x3,x4,h,S⟩
     cases m2 with
     | zero=>rw [Ew.eq_1] at h;cases h
     | succ m2 =>
      rw [Ew.eq_2] at h
      refine Fs (Fs ?_)
      obtain ⟨j3,hj3,h⟩:=Ey h
      refine Es (fun a w'=>∃ x5 : Bool,j3 x5 = some r ∧ Sx w (O.ownBlock.toList) nov [.own O 41 11 x3.length (x3.flatMap Dx.enc)] [(0,O),(1,iV Aj),(2,iV Al),(3,.func (.func 43) #[] #[]),(8,iV x2),(9,iV x4),(34,bV x5)] 53 a w') ?_ ?_
      ·rcases Bool.eq_false_or_eq_true (decide (Aj < x4)) with hb2 | hb2
       ·replace h:=Rg h hb2
        obtain ⟨hc1,h⟩:=Ij h
        obtain ⟨hc2,h⟩:=Ij h
        refine Hd [] ([]) Tryz.mixed S rfl (by kernel_rfl) ?_;clear S;intro w7 hk2 hsel S
        refine Ek 0 S hsel rfl rfl rfl (by kernel_rfl) (by kernel_rfl) rfl (fun _ hw=>(Rm (S.tm rfl))) fun a S=>Ek 1 S hsel rfl rfl rfl (by kernel_rfl) (by kernel_rfl) rfl (fun _ hw=>(Rm (S.tm rfl))) fun a S=>Ek 2 S hsel rfl rfl rfl (by kernel_rfl) (by kernel_rfl) rfl (fun _ hw=>(Jj (S.tm rfl) (S.tm rfl))) fun a S=>Ek 3 S hsel rfl rfl rfl (by kernel_rfl) (by kernel_rfl) rfl (fun _ hw=>(Rm (S.tm rfl))) fun a S=>Et 4 S hsel rfl rfl rfl rfl hb2 rfl rfl (by kernel_rfl) (by kernel_rfl) rfl (fun _ hw=>(Rm (S.tm rfl))) fun a S=>Et 5 S hsel rfl rfl rfl rfl hb2 rfl rfl (by kernel_rfl) (by kernel_rfl) rfl (fun _ hw=>(Rm (S.tm rfl))) fun a S=>Et 6 S hsel rfl rfl rfl rfl hb2 rfl rfl (by kernel_rfl) (by kernel_rfl) rfl (fun _ hw=>(Rm (S.tm rfl))) ?_;clear S;intro a S
        obtain ⟨b3,hg3,hr3⟩:=Gx (a:=a) (x:=.tmp 23) (y:=.tmp 24) (ty:=0) La Dx.enc_ok S (i:=0) rfl (Eh hc1).1 (Eh hc1).2 (S.tm rfl) (S.tm rfl)
        refine Et 7 S hsel rfl rfl rfl rfl hb2 rfl rfl (by kernel_rfl) (by kernel_rfl) rfl (fun _ hw=>(hr3 _)) ?_;clear S;intro a S
        clear hr3
        refine Et 8 S hsel rfl rfl rfl rfl hb2 rfl rfl (by kernel_rfl) (by kernel_rfl) rfl (fun _ hw=>(Fk isAgg41 sizeOf41 (off:=x4.toNat * 11) (o:=0) (part:=(Dx.enc (nth x3 x4))) rfl rfl (S.tm rfl) ((Ns Dx.enc_ok S (i:=0) rfl hg3 (Eh hc1).1 (Ie (e':=.own O 41 11 x3.length (x3.flatMap Dx.enc)))).kept hw))) fun a S=>Et 9 S hsel rfl rfl rfl rfl hb2 rfl rfl (by kernel_rfl) (by kernel_rfl) rfl (fun _ hw=>(Rm (S.tm rfl))) fun a S=>Et 10 S hsel rfl rfl rfl rfl hb2 rfl rfl (by kernel_rfl) (by kernel_rfl) rfl (fun _ hw=>(Rm (S.tm rfl))) fun a S=>Et 11 S hsel rfl rfl rfl rfl hb2 rfl rfl (by kernel_rfl) (by kernel_rfl) rfl (fun _ hw=>(Iy (S.tm rfl) rfl)) ?_;clear S;intro a S
        obtain ⟨b4,hg4,hr4⟩:=Gx (a:=a) (x:=.tmp 27) (y:=.tmp 29) (ty:=0) La Dx.enc_ok S (i:=0) rfl (Eh hc2).1 (Eh hc2).2 (S.tm rfl) (S.tm rfl)
        refine Et 12 S hsel rfl rfl rfl rfl hb2 rfl rfl (by kernel_rfl) (by kernel_rfl) rfl (fun _ hw=>(hr4 _)) ?_;clear S;intro a S
        clear hr4
        refine Et 13 S hsel rfl rfl rfl rfl hb2 rfl rfl (by kernel_rfl) (by kernel_rfl) rfl (fun _ hw=>(Fk isAgg41 sizeOf41 (off:=((W (x4 - 1)).toNat) * 11) (o:=0) (part:=(Dx.enc (nth x3 (W (x4 - 1))))) rfl rfl (S.tm rfl) ((Ns Dx.enc_ok S (i:=0) rfl hg4 (Eh hc2).1 (Ie (e':=.own O 41 11 x3.length (x3.flatMap Dx.enc)))).kept hw))) fun a S=>Hi 14 (by kernel_rfl) rfl (Ef S rfl rfl rfl hb2 (Ei S (fun _=>Ud (cap:=[]) (S.tm rfl) (vs:=[.agg (Dx.enc (nth x3 x4)).toArray,.agg (Dx.enc (nth x3 (W (x4 - 1)))).toArray]) ⟨(S.tm rfl),(S.tm rfl),trivial⟩ call43) (Xj _ (nth x3 x4) (nth x3 (W (x4 - 1))) _ rfl) rfl ?_));clear S;intro v2 a w8 hv2 hk3 hn2 S
        subst hv2
        refine Ld (Ik hk3 (Lg [15,16] hsel (by kernel_rfl) rfl ?_))
        clear hsel
        refine Gc S rfl rfl rfl rfl hb2 (Hm S (Ev (S.tm rfl) rfl) rfl fun a S=>Gp S rfl (Qi hb2 (S.tm rfl) (S.tm rfl)) rfl fun a S=>It ?_)
        replace S:=S.nk [.own O 41 11 x3.length (x3.flatMap Dx.enc)] [(0,O),(1,iV Aj),(2,iV Al),(3,.func (.func 43) #[] #[]),(8,iV x2),(9,iV x4),(22,.func (.func 43) #[] #[]),(23,O),(24,iV x4),(25,.pointer (some ⟨b3,x4.toNat * 11,none⟩)),(26,.agg (Dx.enc (nth x3 x4)).toArray),(27,O),(28,iV x4),(29,iV (W (x4 - 1))),(30,.pointer (some ⟨b4,((W (x4 - 1)).toNat) * 11,none⟩)),(31,.agg (Dx.enc (nth x3 (W (x4 - 1)))).toArray),(32,iV (Ke (nth x3 x4) (nth x3 (W (x4 - 1))))),(33,bV (decide ((Ke (nth x3 x4) (nth x3 (W (x4 - 1)))) < 0))),(34,bV (decide ((Ke (nth x3 x4) (nth x3 (W (x4 - 1)))) < 0)))] [true] rfl (subR rfl)
        exact Tn (⟨decide ((Ke (nth x3 x4) (nth x3 (W (x4 - 1)))) < 0),h,S.nf [true] rfl (subR rfl)⟩)
       ·replace h:=Rh h hb2
        refine Hd [] ([]) Tryz.mixed S rfl (by kernel_rfl) ?_;clear S;intro w9 hk4 hsel S
        refine Lg [0,1,2,3,4,5,6,7,8,9,10,11,12,13,14,15,16] hsel (by kernel_rfl) rfl ?_
        clear hsel
        refine Gp S rfl (Rm (S.tm rfl)) rfl fun a S=>Gp S rfl (Rm (S.tm rfl)) rfl fun a S=>Gp S rfl (Jj (S.tm rfl) (S.tm rfl)) rfl fun a S=>Gp S rfl (Rm (S.tm rfl)) rfl ?_;clear S;intro a S
        iterate 12 (refine Qs S rfl rfl rfl rfl (Jw hb2) rfl ?_ rfl;clear S;intro a S)
        refine Gp S rfl (Qj hb2 (S.tm rfl) rfl) rfl fun a S=>It ?_
        replace S:=S.k7 0 1 2 3 8 9 34 rfl
        exact Tn (⟨false,h,S.nf [true] rfl (subR rfl)⟩)
      clear S h;rintro a w5 ⟨x5,h,S⟩;rw [hj3] at h;clear hj3 j3
      refine Tn (Fc h (S.tm rfl) (fun hb3 h=>?_) (fun hb3 h=>?_))
      ·refine wp_skip (Tn (Fs (wp_block ?_)))
       obtain ⟨hc3,h⟩:=Ij h
       obtain ⟨hc4,h⟩:=Ij h
       obtain ⟨hc5,h⟩:=Ij h
       obtain ⟨hc6,h⟩:=Ij h
       refine Hd [15,17] ([]) Tryz.mixed S rfl (by kernel_rfl) ?_;clear S;intro w14 hk9 hsel S
       refine Fz 0 S hsel rfl rfl (by kernel_rfl) (by kernel_rfl) rfl (fun _=>(Rm (S.tm rfl))) fun a S=>Fz 1 S hsel rfl rfl (by kernel_rfl) (by kernel_rfl) rfl (fun _=>(Rm (S.tm rfl))) fun a S=>Fz 2 S hsel rfl rfl (by kernel_rfl) (by kernel_rfl) rfl (fun _=>(Rm (S.tm rfl))) fun a S=>Fz 3 S hsel rfl rfl (by kernel_rfl) (by kernel_rfl) rfl (fun _=>(Rm (S.tm rfl))) fun a S=>Fz 4 S hsel rfl rfl (by kernel_rfl) (by kernel_rfl) rfl (fun _=>(Iy (S.tm rfl) rfl)) fun a S=>Fz 5 S hsel rfl rfl (by kernel_rfl) (by kernel_rfl) rfl (fun _=>(Rm (S.tm rfl))) fun a S=>Fz 6 S hsel rfl rfl (by kernel_rfl) (by kernel_rfl) rfl (fun _=>(Rm (S.tm rfl))) fun a S=>Fz 7 S hsel rfl rfl (by kernel_rfl) (by kernel_rfl) rfl (fun _=>(Iy (S.tm rfl) rfl)) ?_;clear S;intro a S
       obtain ⟨b9,hg9,hr9⟩:=Gx (a:=a) (x:=.tmp 42) (y:=.tmp 44) (ty:=0) La Dx.enc_ok S (i:=0) rfl (Eh hc3).1 (Eh hc3).2 (S.tm rfl) (S.tm rfl)
       refine Fz 8 S hsel rfl rfl (by kernel_rfl) (by kernel_rfl) rfl (fun _=>(hr9 _)) ?_;clear S;intro a S
       clear hr9
       refine Ek 9 S hsel rfl (by kernel_rfl) (by kernel_rfl) (by kernel_rfl) (by kernel_rfl) rfl (fun _ hw=>(Fk isAgg41 sizeOf41 (off:=((W (x4 - 1)).toNat) * 11) (o:=0) (part:=(Dx.enc (nth x3 (W (x4 - 1))))) rfl rfl (S.tm rfl) ((Ns Dx.enc_ok S (i:=0) rfl hg9 (Eh hc3).1 (Ie (e':=.own O 41 11 x3.length (x3.flatMap Dx.enc)))).kept hw))) fun a S=>Fz 10 S hsel rfl rfl (by kernel_rfl) (by kernel_rfl) rfl (fun _=>(Rm (S.tm rfl))) fun a S=>Fz 11 S hsel rfl rfl (by kernel_rfl) (by kernel_rfl) rfl (fun _=>(Rm (S.tm rfl))) ?_;clear S;intro a S
       obtain ⟨b10,hg10,hr10⟩:=Gx (a:=a) (x:=.tmp 47) (y:=.tmp 48) (ty:=0) La Dx.enc_ok S (i:=0) rfl (Eh hc4).1 (Eh hc4).2 (S.tm rfl) (S.tm rfl)
       refine Fz 12 S hsel rfl rfl (by kernel_rfl) (by kernel_rfl) rfl (fun _=>(hr10 _)) ?_;clear S;intro a S
       clear hr10
       refine Ek 13 S hsel rfl (by kernel_rfl) (by kernel_rfl) (by kernel_rfl) (by kernel_rfl) rfl (fun _ hw=>(Fk isAgg41 sizeOf41 (off:=x4.toNat * 11) (o:=0) (part:=(Dx.enc (nth x3 x4))) rfl rfl (S.tm rfl) ((Ns Dx.enc_ok S (i:=0) rfl hg10 (Eh hc4).1 (Ie (e':=.own O 41 11 x3.length (x3.flatMap Dx.enc)))).kept hw))) ?_;clear S;intro a S
       obtain ⟨b11,hg11,hr11⟩:=Gx (a:=a) (x:=.tmp 37) (y:=.tmp 38) (ty:=0) La Dx.enc_ok S (i:=0) rfl (Eh hc5).1 (Eh hc5).2 (S.tm rfl) (S.tm rfl)
       refine Fz 14 S hsel rfl rfl (by kernel_rfl) (by kernel_rfl) rfl (fun _=>(hr11 _)) ?_;clear S;intro a S
       clear hr11
       refine Wq 15 (O.ownBlock.toList) rfl (by kernel_rfl) rfl (Oe (c:=0) (j:=x4.toNat) (nth x3 (W (x4 - 1))) Dx.enc_ok S (S.tm rfl) (S.tm rfl) (i:=0) rfl hg11 (Eh hc5).1 sizeOf41 (vs:=[sV ((nth x3 (W (x4 - 1))).Site),iV ((nth x3 (W (x4 - 1))).No),iV ((nth x3 (W (x4 - 1))).At),iV ((nth x3 (W (x4 - 1))).Kind),sV ((nth x3 (W (x4 - 1))).Who),sV ((nth x3 (W (x4 - 1))).Club),sV ((nth x3 (W (x4 - 1))).Race),iV ((nth x3 (W (x4 - 1))).Time),iV ((nth x3 (W (x4 - 1))).Fault),sV ((nth x3 (W (x4 - 1))).Of),iV ((nth x3 (W (x4 - 1))).Other)]) rfl rfl rfl rfl rfl ?_);clear S;intro w16 hk11 S
       refine Ld (Wr ?_)
       obtain ⟨b12,hg12,hr12⟩:=Gx (a:=a) (x:=.tmp 39) (y:=.tmp 41) (ty:=0) La Dx.enc_ok S (i:=0) rfl (Eh hc6).1 (Eh hc6).2 (S.tm rfl) (S.tm rfl)
       refine Ek 16 S hsel rfl rfl rfl (by kernel_rfl) (by kernel_rfl) rfl (fun _ hw=>(hr12 _)) ?_;clear S;intro a S
       clear hr12
       refine Hi 17 (by kernel_rfl) rfl (Oe (c:=0) (j:=(W (x4 - 1)).toNat) (nth x3 x4) Dx.enc_ok S (S.tm rfl) (S.tm rfl) (i:=0) rfl hg12 (Eh hc6).1 sizeOf41 (vs:=[sV ((nth x3 x4).Site),iV ((nth x3 x4).No),iV ((nth x3 x4).At),iV ((nth x3 x4).Kind),sV ((nth x3 x4).Who),sV ((nth x3 x4).Club),sV ((nth x3 x4).Race),iV ((nth x3 x4).Time),iV ((nth x3 x4).Fault),sV ((nth x3 x4).Of),iV ((nth x3 x4).Other)]) rfl rfl rfl rfl rfl ?_);clear S;intro w18 hk13 S
       refine Ld (Ik hk13 (Wl (by kernel_rfl) ?_))
       clear hsel
       replace S:=(S.nl [.own O 41 11 ((x3.set x4.toNat (nth x3 (W (x4 - 1)))).set ((W (x4 - 1)).toNat) (nth x3 x4)).length (((x3.set x4.toNat (nth x3 (W (x4 - 1)))).set ((W (x4 - 1)).toNat) (nth x3 x4)).flatMap Dx.enc)] [true] rfl).k6 0 1 2 3 8 9 rfl
       exact Hn (Tn (Fg (Vm S rfl rfl fun a S=>Vq S Iy rfl rfl rfl fun a S=>Va S rfl rfl fun a S=>Dl (⟨m2,⟨((x3.set x4.toNat (nth x3 (W (x4 - 1)))).set ((W (x4 - 1)).toNat) (nth x3 x4)),W (x4 - 1),h,S.nf [true] rfl ⟨rfl,rfl,rfl,rfl,rfl,rfl,trivial⟩⟩,Nat.lt_succ_self _⟩))))
      ·exact wp_exit (Ep (Ep (Gr (Tn (⟨x3,h,S.nf [true] rfl (subR rfl)⟩)))))
    clear S h;rintro a w4 ⟨x3,h,S⟩;rw [hj2] at h;clear hj2 j2
    exact Hn (Tn (Fg (Vm S rfl rfl fun a S=>Vq S Gf rfl rfl rfl fun a S=>Va S rfl rfl fun a S=>Dl (⟨m1,⟨x3,W (x2 + 1),h,S.nf [true] rfl ⟨rfl,rfl,rfl,rfl,rfl,trivial⟩⟩,Nat.lt_succ_self _⟩))))
   ·exact wp_exit (Ep (Ep (Gr (Tn (⟨x1,h,S.nf [true] rfl trivial⟩)))))
 clear S h;rintro a w2 ⟨x1,h,S⟩;rw [hj1] at h;clear hj1 j1
 obtain rfl:=Option.some.inj h
 exact Ri S results88 ⟨(S.holds _ (List.mem_of_getElem? (i:=0) rfl)),rfl⟩
theorem Sj (w : World) (O : Value) (Ai : List Dx) (Be : (LEnt.own O 41 11 Ai.length (Ai.flatMap Dx.enc)).holds w) (Ba : Int) (r : (List Dx)) (h : Jx Ai Ba = some r) :
    Calls prog 81 [O,iV Ba,.func (.func 43) #[] #[]].toArray w (Ret w (O.ownBlock.toList) fun _ v w'=>(LEnt.own O 41 11 r.length (r.flatMap Dx.enc)).holds w' ∧ v = .tuple #[]):=by
 refine Lb (O.ownBlock.toList) [.own O 41 11 Ai.length (Ai.flatMap Dx.enc)] func81 rfl ntmps81 rfl (fun e he=>by simp only [List.mem_singleton] at he;subst he;exact Be) (Iu _) (Js _) fun a S=>?_
 unfold Jx at h
 replace S:=(S.nl [.own O 41 11 Ai.length (Ai.flatMap Dx.enc)] [true] rfl).k3 0 1 2 rfl
 refine Fr (Vk S rfl rfl fun a S=>Dz (Vm S rfl rfl fun a S=>Vk S rfl rfl fun a S=>Va S rfl rfl fun a S=>Ld ?_))
 refine Tn (Fs ?_)
 replace S:=S.k6 0 1 2 6 7 8 rfl
 obtain ⟨j1,hj1,h⟩:=Ey h
 refine Es (fun a w'=>∃ x1 : List Dx,∃ x2 : Int,j1 x1 x2 = some r ∧ Sx w (O.ownBlock.toList) nov [.own O 41 11 x1.length (x1.flatMap Dx.enc)] [(0,O),(1,iV Ba),(2,.func (.func 43) #[] #[]),(6,iV 20),(7,iV x2)] 63 a w') ?_ ?_
 ·refine wp_block (Gz (fun (m1 : Nat) a w'=>∃ x1 : List Dx,∃ x2 : Int,∃ x3 : Int,Gi Ba j1 m1 x1 x2 x3 = some r ∧ Sx w (O.ownBlock.toList) nov [.own O 41 11 x1.length (x1.flatMap Dx.enc)] [(0,O),(1,iV Ba),(2,.func (.func 43) #[] #[]),(6,iV 20),(7,iV x2),(8,iV x3)] 63 a w') id ((Ba - 20).toNat + 2) ⟨Ai,0,20,h,S.nf [true] rfl (subR rfl)⟩ ?_)
  clear S h;rintro m1 a w1 ⟨x1,x2,x3,h,S⟩
  cases m1 with
  | zero=>rw [Gi.eq_1] at h;cases h
  | succ m1 =>
   rw [Gi.eq_2] at h
   refine Fs (Fr (Vm S rfl rfl fun a S=>Vm S rfl rfl fun a S=>Vb S Us rfl rfl rfl fun a S=>Dl (Fc h (S.tm rfl) (fun hb1 h=>?_) (fun hb1 h=>?_))))
   ·refine wp_skip (Tn (wp_block (Fs (Fg ?_))))
    iterate 4 (refine Vm S rfl rfl ?_;clear S;intro a S)
    obtain ⟨r1,hr1,h⟩:=Fd h
    refine Mr 0 S rfl (fun _=>.own O 41 11 r1.length (r1.flatMap Dx.enc)) (fun _=>Ea (vs:=[O,iV x2,iV x3,.func (.func 43) #[] #[]]) ⟨(S.tm rfl),(S.tm rfl),(S.tm rfl),(S.tm rfl),trivial⟩ call88) (Nf _ O x1 (S.holds _ (List.mem_of_getElem? (i:=0) rfl)) x2 x3 _ hr1) rfl (fun _ _ _ h=>⟨h.1,fun _ hc=>hc⟩) ?_;clear S;intro v1 a w3 hv1 hk1 hn1 S
    replace hv1:=hv1.2
    subst hv1
    refine Dz (Vm S rfl rfl fun a S=>Va S rfl rfl fun a S=>Ld ?_)
    replace S:=(S.nl [.own O 41 11 r1.length (r1.flatMap Dx.enc)] [true] rfl).k6 0 1 2 6 7 8 rfl
    exact Tn (Fg (Vm S rfl rfl fun a S=>Vm S rfl rfl fun a S=>Vb S Gf rfl rfl rfl fun a S=>Va S rfl rfl fun a S=>Ld (Hn (Tn (⟨m1,⟨r1,x3,W (x3 + 20),h,S.nf [true] rfl ⟨rfl,rfl,rfl,rfl,rfl,rfl,trivial⟩⟩,Nat.lt_succ_self _⟩)))))
   ·exact wp_exit (Ep (Ep (Gr (Tn (⟨x1,x2,h,S.nf [true] rfl (subR rfl)⟩)))))
 clear S h;rintro a w2 ⟨x1,x2,h,S⟩;rw [hj1] at h;clear hj1 j1
 refine Tn (Fs (Fg ?_))
 iterate 4 (refine Vm S rfl rfl ?_;clear S;intro a S)
 obtain ⟨r2,hr2,h⟩:=Fd h
 refine Mr 0 S rfl (fun _=>.own O 41 11 r2.length (r2.flatMap Dx.enc)) (fun _=>Ea (vs:=[O,iV x2,iV Ba,.func (.func 43) #[] #[]]) ⟨(S.tm rfl),(S.tm rfl),(S.tm rfl),(S.tm rfl),trivial⟩ call88) (Nf _ O x1 (S.holds _ (List.mem_of_getElem? (i:=0) rfl)) x2 Ba _ hr2) rfl (fun _ _ _ h=>⟨h.1,fun _ hc=>hc⟩) ?_;clear S;intro v2 a w4 hv2 hk2 hn2 S
 replace hv2:=hv2.2
 subst hv2
 refine Dl ?_
 replace S:=(S.nl [.own O 41 11 r2.length (r2.flatMap Dx.enc)] [true] rfl).k2 1 6 rfl
 obtain ⟨j2,hj2,h⟩:=Ey h
 refine Es (fun a w'=>j2 = some r ∧ Sx w (O.ownBlock.toList) nov [.own O 41 11 r2.length (r2.flatMap Dx.enc)] [] 63 a w') ?_ ?_
 ·refine wp_block (Gz (fun (m2 : Nat) a w'=>∃ x4 : Int,Gj Ba j2 m2 x4 = some r ∧ Sx w (O.ownBlock.toList) nov [.own O 41 11 r2.length (r2.flatMap Dx.enc)] [(1,iV Ba),(6,iV x4)] 63 a w') id ((Ba - 20).toNat + 2) ⟨20,h,S.nf [true] rfl (subR rfl)⟩ ?_)
  clear S h;rintro m2 a w5 ⟨x4,h,S⟩
  cases m2 with
  | zero=>rw [Gj.eq_1] at h;cases h
  | succ m2 =>
   rw [Gj.eq_2] at h
   refine Fs (Fr (Vm S rfl rfl fun a S=>Vm S rfl rfl fun a S=>Vb S Ev rfl rfl rfl fun a S=>Dl (Fc h (S.tm rfl) (fun hb2 h=>?_) (fun hb2 h=>?_))))
   ·refine wp_skip (Tn (wp_block (Fr (Vm S rfl rfl fun a S=>Vu S (Xk rfl) rfl rfl fun a S=>Vk S rfl rfl fun a S=>Va S rfl rfl fun a S=>Dl ?_))))
    refine Fs ?_
    replace S:=S.k4 1 6 7 8 rfl
    obtain ⟨j3,hj3,h⟩:=Ey h
    refine Es (fun a w'=>∃ x5 : Int,j3 x5 = some r ∧ Sx w (O.ownBlock.toList) nov [.own O 41 11 r2.length (r2.flatMap Dx.enc)] [(1,iV Ba),(6,iV x4),(7,iV x5)] 63 a w') ?_ ?_
    ·refine wp_block (Gz (fun (m3 : Nat) a w'=>∃ x5 : Int,∃ x6 : Int,Hj Ba j3 m3 x5 x6 = some r ∧ Sx w (O.ownBlock.toList) nov [.own O 41 11 r2.length (r2.flatMap Dx.enc)] [(1,iV Ba),(6,iV x4),(7,iV x5),(8,iV x6)] 63 a w') id ((Ba - (W (2 * x4))).toNat + 2) ⟨0,W (2 * x4),h,S.nf [true] rfl (subR rfl)⟩ ?_)
     clear S h;rintro m3 a w7 ⟨x5,x6,h,S⟩
     cases m3 with
     | zero=>rw [Hj.eq_1] at h;cases h
     | succ m3 =>
      rw [Hj.eq_2] at h
      refine Fs (Fr (Vm S rfl rfl fun a S=>Vm S rfl rfl fun a S=>Vb S Us rfl rfl rfl fun a S=>Dl (Fc h (S.tm rfl) (fun hb3 h=>?_) (fun hb3 h=>?_))))
      ·refine wp_skip (Tn (wp_block (Fs ?_)))
       cases h
      ·exact wp_exit (Ep (Ep (Gr (Tn (⟨x5,h,S.nf [true] rfl (subR rfl)⟩)))))
    clear S h;rintro a w8 ⟨x5,h,S⟩;rw [hj3] at h;clear hj3 j3
    refine Tn (Fs (Fr (Vm S rfl rfl fun a S=>Vm S rfl rfl fun a S=>Vb S Gf rfl rfl rfl fun a S=>Va S rfl rfl fun a S=>Dl (Fs ?_))))
    refine Fg (Vm S rfl rfl fun a S=>Vm S rfl rfl fun a S=>Vb S Ev rfl rfl rfl fun a S=>Dl (Fc h (S.tm rfl) (fun hb4 h=>?_) (fun hb4 h=>?_)))
    ·cases h
    ·exact wp_skip (Tn (Fg (Vm S rfl rfl fun a S=>Vq S Xk rfl rfl rfl fun a S=>Va S rfl rfl fun a S=>Ld (Hn (Tn (⟨m2,⟨W (x4 * 2),h,S.nf [true] rfl ⟨rfl,rfl,trivial⟩⟩,Nat.lt_succ_self _⟩))))))
   ·exact wp_exit (Ep (Ep (Gr (Tn (⟨h,S.nf [true] rfl trivial⟩)))))
 clear S h;rintro a w6 ⟨h,S⟩;rw [hj2] at h;clear hj2 j2
 obtain rfl:=Option.some.inj h
 exact Ri S results81 ⟨(S.holds _ (List.mem_of_getElem? (i:=0) rfl)),rfl⟩
theorem Ru (w : World) (Ay : Value) (Ac : List Dx) (Ci : (LEnt.own Ay 41 11 Ac.length (Ac.flatMap Dx.enc)).holds w) (r : (List Dx)) (h : Ig Ac = some r) :
    Calls prog 42 [Ay,.func (.func 43) #[] #[]].toArray w (Ret w (Ay.ownBlock.toList) fun _ v w'=>(LEnt.own Ay 41 11 r.length (r.flatMap Dx.enc)).holds w' ∧ v = .tuple #[]):=by
 refine Lb (Ay.ownBlock.toList) [.own Ay 41 11 Ac.length (Ac.flatMap Dx.enc)] func42 rfl ntmps42 rfl (fun e he=>by simp only [List.mem_singleton] at he;subst he;exact Ci) (Iu _) (Js _) fun a S=>?_
 unfold Ig at h
 replace S:=(S.nl [.own Ay 41 11 Ac.length (Ac.flatMap Dx.enc)] [true] rfl).k2 0 1 rfl
 refine Fg (Vm S rfl rfl fun a S=>Vm S rfl rfl fun a S=>lv S (Fq La (S.tm rfl) (Oh (S.own_at (i:=0) rfl))) rfl fun a S=>Vm S rfl rfl ?_);clear S;intro a S
 obtain ⟨r1,hr1,h⟩:=Fd h
 refine Mr 0 S rfl (fun _=>.own Ay 41 11 r1.length (r1.flatMap Dx.enc)) (fun _=>Ea (vs:=[Ay,iV (Ac.length : Int),.func (.func 43) #[] #[]]) ⟨(S.tm rfl),(S.tm rfl),(S.tm rfl),trivial⟩ call81) (Sj _ Ay Ac (S.holds _ (List.mem_of_getElem? (i:=0) rfl)) (Ac.length : Int) _ hr1) rfl (fun _ _ _ h=>⟨h.1,fun _ hc=>hc⟩) ?_;clear S;intro v1 a w1 hv1 hk1 hn1 S
 replace hv1:=hv1.2
 subst hv1
 refine Ld ?_
 obtain rfl:=Option.some.inj h
 exact Ri S results42 ⟨(S.holds _ (List.mem_of_getElem? (i:=0) rfl)),rfl⟩
theorem IV (w : World) (U : Nat) (Aa : Value) (Aq : List Int) (Ao : Slc (view w [U]) 1 Aa (Aq.map eInt)) (Am : Int) (Ar : (LEnt.blk U [Aa,iV Am] 25).holds w) (Bp : Int) (r : (List Dx) × Int) (h : Wu Aq Am Bp = some r) :
    Calls prog 20 [.pointer (some ⟨U,0,none⟩),iV Bp].toArray w (Ret w [U] fun τ v w'=>(LEnt.blk U [Aa,iV r.2] 25).holds w' ∧ Up τ 41 11 v r.1.length (r.1.flatMap Dx.enc)):=by
 refine Lb [U] [.blk U [Aa,iV Am] 25] func20 rfl ntmps20 rfl (fun e he=>by simp only [List.mem_singleton] at he;subst he;exact Ar) (by simp [fps,LEnt.fp]) (by simp [fps,LEnt.fp]) fun a S=>?_
 unfold Wu at h
 replace S:=(S.nl [.blk U [Aa,iV Am] 25] [true] rfl).k2 0 1 rfl
 refine Fr (Vk S rfl rfl fun a S=>Dz (Vk S rfl rfl ?_));clear S;intro a S
 replace S:=S.nil 41 11
 refine Dz (Vk S rfl rfl fun a S=>Dz (Rc (κ:=ByteArray) (ν:=Int) S rfl Value.string (Value.int .i64) ?_));clear S;intro a w1 b1 hz1 hk1 S
 refine Va S rfl rfl fun a S=>Dl (Fs (Fr (Vm S rfl rfl fun a S=>lv S (Rm rfl) rfl fun a S=>Dl ?_)))
 replace S:=(S.nl [.map b1 (Ft Value.string (Value.int .i64) ([] : List (ByteArray × Int))) ([] : List (ByteArray × Int)).length,.own (.slice none 0 0) 41 11 ([] : List Dx).length (([] : List Dx).flatMap Dx.enc),.blk U [Aa,iV Am] 25] [true,true,true] rfl).k6 0 5 6 7 10 11 rfl
 obtain ⟨j1,hj1,h⟩:=Ey h
 refine Es (fun a w'=>∃ x1 : List (ByteArray × Int),∃ x2 : List Dx,∃ x3 : Int,∃ v1 : Value,j1 x1 x2 x3 = some r ∧ Sx w [U] nov [.map b1 (Ft Value.string (Value.int .i64) x1) x1.length,.own v1 41 11 x2.length (x2.flatMap Dx.enc),.blk U [Aa,iV x3] 25] [(5,v1)] 130 a w') ?_ ?_
 ·refine wp_block (Gz (fun (m1 : Nat) a w'=>∃ x1 : List (ByteArray × Int),∃ x2 : List Dx,∃ x3 : Int,∃ x4 : Int,∃ x5 : Int,∃ v1 : Value,Ny Bp Aq j1 m1 x1 x2 x3 x4 x5 = some r ∧ Sx w [U] nov [.map b1 (Ft Value.string (Value.int .i64) x1) x1.length,.own v1 41 11 x2.length (x2.flatMap Dx.enc),.blk U [Aa,iV x3] 25] [(0,.pointer (some ⟨U,0,none⟩)),(5,v1),(6,iV x4),(7,.map (some b1)),(10,iV Bp),(11,iV x5)] 130 a w') id ((Bp - 0).toNat + 2) ⟨([] : List (ByteArray × Int)),([] : List Dx),Am,0,0,(.slice none 0 0),h,S.nf [true,true,true] rfl (subR rfl)⟩ ?_)
  clear S h;rintro m1 a w2 ⟨x1,x2,x3,x4,x5,v1,h,S⟩
  cases m1 with
  | zero=>rw [Ny.eq_1] at h;cases h
  | succ m1 =>
   rw [Ny.eq_2] at h
   refine Fr (Vb S Ev rfl rfl rfl fun a S=>Dl (Fs (Fc h (S.tm rfl) (fun hb1 h=>?_) (fun hb1 h=>?_))))
   ·refine wp_skip (Tn (Fs (wp_block (Fr (Vm S rfl rfl fun a S=>Vm S rfl rfl fun a S=>Ff S underlying22 sizeOf3 zeroValue3 rfl rfl (pv:=[(0,iV 0),(1,iV 1),(2,iV 5)]) ⟨rfl,rfl,rfl,rfl,rfl,rfl,trivial⟩ (cs:=[iV 0,iV 1,iV 5]) (by kernel_rfl) rfl ?_)))));clear S;intro a w4 b2 hz2 hk2 S
    obtain ⟨r1,hr1,h⟩:=Fd h
    refine Hx 3 S (b:=U) rfl rfl (fun _=>.blk U [Aa,iV r1.2] 25) (fun _=>Ea (vs:=[.pointer (some ⟨U,0,none⟩),.slice (some ⟨b2,0,none⟩) 3 3]) ⟨(S.tm rfl),(S.tm rfl),trivial⟩ call38) (Jt _ U Aa Aq (Ao.mono (S.le_arg (Ji (i:=3) (e:=.blk U [Aa,iV x3] 25) rfl))) x3 (S.holds _ (List.mem_of_getElem? (i:=3) rfl)) (.slice (some ⟨b2,0,none⟩) 3 3) [0,1,5] (Kv Jb S (i:=0) rfl rfl rfl rfl ((My (i:=3) (j:=0) (e:=.blk U [Aa,iV x3] 25) (e':=.blk b2 [iV 0,iV 1,iV 5] 3) S rfl rfl rfl) _ rfl)) _ hr1) rfl (fun _ _ _ h=>⟨h.1,fun _ hc=>by cases hc;rfl⟩) ?_;clear S;intro v2 a w5 hv1 hk3 hn1 S
    replace hv1:=hv1.2
    subst hv1
    refine Vb S Gf rfl rfl rfl fun a S=>Va S rfl rfl fun a S=>Dz (Vm S rfl rfl fun a S=>Ff S underlying95 sizeOf9 zeroValue9 rfl rfl (pv:=[(0,sV Tw),(1,sV Tw),(2,sV HT)]) ⟨rfl,rfl,rfl,rfl,rfl,rfl,trivial⟩ (cs:=[sV Tw,sV Tw,sV HT]) (by kernel_rfl) rfl ?_);clear S;intro a w6 b3 hz3 hk4 S
    obtain ⟨r2,hr2,h⟩:=Fd h
    refine Hx 4 S (b:=U) rfl rfl (fun _=>.blk U [Aa,iV r2.2] 25) (fun _=>Ea (vs:=[.pointer (some ⟨U,0,none⟩),.slice (some ⟨b3,0,none⟩) 3 3]) ⟨(S.tm rfl),(S.tm rfl),trivial⟩ call40) (Pu _ U Aa Aq (Ao.mono (S.le_arg (Ji (i:=4) (e:=.blk U [Aa,iV r1.2] 25) rfl))) r1.2 (S.holds _ (List.mem_of_getElem? (i:=4) rfl)) (.slice (some ⟨b3,0,none⟩) 3 3) [Tw,Tw,HT] (Kv Uj S (i:=0) rfl rfl rfl rfl ((My (i:=4) (j:=0) (e:=.blk U [Aa,iV r1.2] 25) (e':=.blk b3 [sV Tw,sV Tw,sV HT] 9) S rfl rfl rfl) _ rfl)) _ hr2) rfl (fun _ _ _ h=>⟨h.1,fun _ hc=>by cases hc;rfl⟩) ?_;clear S;intro v3 a w7 hv2 hk5 hn2 S
    replace hv2:=hv2.2
    subst hv2
    refine Vm S rfl rfl fun a S=>Vm S rfl rfl fun a S=>Ff S underlying22 sizeOf3 zeroValue3 rfl rfl (pv:=[(0,iV 1),(1,iV 1),(2,iV 1),(3,iV 3),(4,iV 3),(5,iV 3),(6,iV 2),(7,iV 4)]) ⟨rfl,rfl,rfl,rfl,rfl,rfl,rfl,rfl,rfl,rfl,rfl,rfl,rfl,rfl,rfl,rfl,trivial⟩ (cs:=[iV 1,iV 1,iV 1,iV 3,iV 3,iV 3,iV 2,iV 4]) (by kernel_rfl) rfl ?_;clear S;intro a w8 b4 hz4 hk6 S
    obtain ⟨r3,hr3,h⟩:=Fd h
    refine Hx 5 S (b:=U) rfl rfl (fun _=>.blk U [Aa,iV r3.2] 25) (fun _=>Ea (vs:=[.pointer (some ⟨U,0,none⟩),.slice (some ⟨b4,0,none⟩) 8 8]) ⟨(S.tm rfl),(S.tm rfl),trivial⟩ call38) (Jt _ U Aa Aq (Ao.mono (S.le_arg (Ji (i:=5) (e:=.blk U [Aa,iV r2.2] 25) rfl))) r2.2 (S.holds _ (List.mem_of_getElem? (i:=5) rfl)) (.slice (some ⟨b4,0,none⟩) 8 8) [1,1,1,3,3,3,2,4] (Kv Jb S (i:=0) rfl rfl rfl rfl ((My (i:=5) (j:=0) (e:=.blk U [Aa,iV r2.2] 25) (e':=.blk b4 [iV 1,iV 1,iV 1,iV 3,iV 3,iV 3,iV 2,iV 4] 3) S rfl rfl rfl) _ rfl)) _ hr3) rfl (fun _ _ _ h=>⟨h.1,fun _ hc=>by cases hc;rfl⟩) ?_;clear S;intro v4 a w9 hv3 hk7 hn3 S
    replace hv3:=hv3.2
    subst hv3
    refine lv S (Nl XE (pv:=[(0,sV r2.1),(2,iV (W (x4 + r1.1))),(3,iV r3.1)]) ⟨rfl,(S.tm rfl),rfl,(S.tm rfl),rfl,(S.tm rfl),trivial⟩ (cs:=[sV r2.1,iV 0,iV (W (x4 + r1.1)),iV r3.1,sV An,sV An,sV An,iV 0,iV 0,sV An,iV 0]) (by kernel_rfl)) rfl fun a S=>Hu S zeroValue41 (cs:=[sV An,iV 0,iV 0,iV 0,sV An,sV An,sV An,iV 0,iV 0,sV An,iV 0]) rfl rfl ?_;clear S;intro a w10 b5 hz5 hk8 S
    refine Fj S (S.tm rfl) (S.tm rfl) (i:=0) (off:=0) rfl sizeOf41 (vs:=(Dx.enc (Dx.mk r2.1 0 (W (x4 + r1.1)) r3.1 An An An 0 0 An 0))) rfl rfl rfl rfl ?_;clear S;intro w11 hk9 S
    refine Ld ?_
    replace S:=(S.nl [.blk b5 (Dx.enc (Dx.mk r2.1 0 (W (x4 + r1.1)) r3.1 An An An 0 0 An 0)) 41,.map b1 (Ft Value.string (Value.int .i64) x1) x1.length,.own v1 41 11 x2.length (x2.flatMap Dx.enc),.blk U [Aa,iV r3.2] 25] [true,false,false,false,true,true,true] rfl).k7 0 5 6 7 8 10 11 rfl
    refine Tn (Fr (Vm S rfl rfl fun a S=>Vf Sy S rfl rfl fun a S=>Vl isAgg9 0 S rfl rfl rfl rfl fun a S=>lv S (Qk (kv:=Value.string) (vv:=(Value.int .i64)) (m:=x1) (key:=r2.1) (z:=0) (S.map_at (i:=1) rfl) underlying108 (Mq underlying9) zeroValue3 (S.tm rfl) (S.tm rfl)) rfl fun a S=>Vq S Gf rfl rfl rfl fun a S=>Oi (kv:=Value.string) (vv:=(Value.int .i64)) (m:=x1) (key:=r2.1) (val:=W ((El x1 r2.1 0) + 1)) S (i:=1) rfl underlying108 (Mq underlying9) (S.tm rfl) (S.tm rfl) (S.tm rfl) ?_));clear S;intro w12 hk10 S
    refine Dz (Vm S rfl rfl fun a S=>Vf Sy S rfl rfl fun a S=>Vl isAgg9 0 S rfl rfl rfl rfl fun a S=>lv S (Qk (kv:=Value.string) (vv:=(Value.int .i64)) (m:=(Gw x1 r2.1 (W ((El x1 r2.1 0) + 1)))) (key:=r2.1) (z:=0) (S.map_at (i:=1) rfl) underlying108 (Mq underlying9) zeroValue3 (S.tm rfl) (S.tm rfl)) rfl fun a S=>Vf Vi S rfl rfl fun a S=>Fj S (S.tm rfl) (S.tm rfl) (i:=0) (off:=1) rfl sizeOf3 (vs:=[iV (El (Gw x1 r2.1 (W ((El x1 r2.1 0) + 1))) r2.1 0)]) rfl rfl rfl rfl ?_);clear S;intro w13 hk11 S
    refine Ld ?_
    replace S:=(S.nl [.blk b5 (Dx.enc (Dx.mk r2.1 (El (Gw x1 r2.1 (W ((El x1 r2.1 0) + 1))) r2.1 0) (W (x4 + r1.1)) r3.1 An An An 0 0 An 0)) 41,.map b1 (Ft Value.string (Value.int .i64) (Gw x1 r2.1 (W ((El x1 r2.1 0) + 1)))) (Gw x1 r2.1 (W ((El x1 r2.1 0) + 1))).length,.own v1 41 11 x2.length (x2.flatMap Dx.enc),.blk U [Aa,iV r3.2] 25] [true,true,true,true] rfl).k7 0 5 6 7 8 10 11 rfl
    refine Tn (Fs (Fr (Vf Qu S rfl rfl fun a S=>Vl isAgg3 0 S rfl rfl rfl rfl fun a S=>Vq S Lf rfl rfl rfl fun a S=>Dl ?_)))
    obtain ⟨j2,hj2,h⟩:=Ey h
    refine Es (fun a w'=>∃ x6 : ByteArray,∃ x7 : ByteArray,∃ x8 : Int,j2 x6 x7 x8 = some r ∧ Sx w [U] nov [.blk b5 (Dx.enc (Dx.mk r2.1 (El (Gw x1 r2.1 (W ((El x1 r2.1 0) + 1))) r2.1 0) (W (x4 + r1.1)) r3.1 x6 An x7 0 0 An 0)) 41,.map b1 (Ft Value.string (Value.int .i64) (Gw x1 r2.1 (W ((El x1 r2.1 0) + 1)))) (Gw x1 r2.1 (W ((El x1 r2.1 0) + 1))).length,.own v1 41 11 x2.length (x2.flatMap Dx.enc),.blk U [Aa,iV x8] 25] [(0,.pointer (some ⟨U,0,none⟩)),(5,v1),(6,iV (W (x4 + r1.1))),(7,.map (some b1)),(8,.pointer (some ⟨b5,0,none⟩)),(10,iV Bp),(11,iV x5)] 130 a w') ?_ ?_
    ·refine Fc h (S.tm rfl) (fun hb2 h=>?_) (fun hb2 h=>?_)
     ·refine Fg (Vm S rfl rfl fun a S=>Ff S underlying95 sizeOf9 zeroValue9 rfl rfl (pv:=[(0,sV Yg),(1,sV CS),(2,sV CT),(3,sV CU)]) ⟨rfl,rfl,rfl,rfl,rfl,rfl,rfl,rfl,trivial⟩ (cs:=[sV Yg,sV CS,sV CT,sV CU]) (by kernel_rfl) rfl ?_);clear S;intro a w15 b6 hz6 hk12 S
      obtain ⟨r4,hr4,h⟩:=Fd h
      refine Hx 4 S (b:=U) rfl rfl (fun _=>.blk U [Aa,iV r4.2] 25) (fun _=>Ea (vs:=[.pointer (some ⟨U,0,none⟩),.slice (some ⟨b6,0,none⟩) 4 4]) ⟨(S.tm rfl),(S.tm rfl),trivial⟩ call40) (Pu _ U Aa Aq (Ao.mono (S.le_arg (Ji (i:=4) (e:=.blk U [Aa,iV r3.2] 25) rfl))) r3.2 (S.holds _ (List.mem_of_getElem? (i:=4) rfl)) (.slice (some ⟨b6,0,none⟩) 4 4) [Yg,CS,CT,CU] (Kv Uj S (i:=0) rfl rfl rfl rfl ((My (i:=4) (j:=0) (e:=.blk U [Aa,iV r3.2] 25) (e':=.blk b6 [sV Yg,sV CS,sV CT,sV CU] 9) S rfl rfl rfl) _ rfl)) _ hr4) rfl (fun _ _ _ h=>⟨h.1,fun _ hc=>by cases hc;rfl⟩) ?_;clear S;intro v5 a w16 hv4 hk13 hn4 S
      replace hv4:=hv4.2
      subst hv4
      refine Vm S rfl rfl fun a S=>Ff S underlying95 sizeOf9 zeroValue9 rfl rfl (pv:=[(0,sV Rj),(1,sV Rj),(2,sV Uu),(3,sV RM)]) ⟨rfl,rfl,rfl,rfl,rfl,rfl,rfl,rfl,trivial⟩ (cs:=[sV Rj,sV Rj,sV Uu,sV RM]) (by kernel_rfl) rfl ?_;clear S;intro a w17 b7 hz7 hk14 S
      obtain ⟨r5,hr5,h⟩:=Fd h
      refine Hx 5 S (b:=U) rfl rfl (fun _=>.blk U [Aa,iV r5.2] 25) (fun _=>Ea (vs:=[.pointer (some ⟨U,0,none⟩),.slice (some ⟨b7,0,none⟩) 4 4]) ⟨(S.tm rfl),(S.tm rfl),trivial⟩ call40) (Pu _ U Aa Aq (Ao.mono (S.le_arg (Ji (i:=5) (e:=.blk U [Aa,iV r4.2] 25) rfl))) r4.2 (S.holds _ (List.mem_of_getElem? (i:=5) rfl)) (.slice (some ⟨b7,0,none⟩) 4 4) [Rj,Rj,Uu,RM] (Kv Uj S (i:=0) rfl rfl rfl rfl ((My (i:=5) (j:=0) (e:=.blk U [Aa,iV r4.2] 25) (e':=.blk b7 [sV Rj,sV Rj,sV Uu,sV RM] 9) S rfl rfl rfl) _ rfl)) _ hr5) rfl (fun _ _ _ h=>⟨h.1,fun _ hc=>by cases hc;rfl⟩) ?_;clear S;intro v6 a w18 hv5 hk15 hn5 S
      replace hv5:=hv5.2
      subst hv5
      refine Vf Qc S rfl rfl fun a S=>Fj S (S.tm rfl) (S.tm rfl) (i:=2) (off:=4) rfl sizeOf9 (vs:=[sV r4.1]) rfl rfl rfl rfl ?_;clear S;intro w19 hk16 S
      refine Vf Un S rfl rfl fun a S=>Fj S (S.tm rfl) (S.tm rfl) (i:=2) (off:=6) rfl sizeOf9 (vs:=[sV r5.1]) rfl rfl rfl rfl ?_;clear S;intro w20 hk17 S
      refine Ld ?_
      replace S:=(S.nl [.blk b5 (Dx.enc (Dx.mk r2.1 (El (Gw x1 r2.1 (W ((El x1 r2.1 0) + 1))) r2.1 0) (W (x4 + r1.1)) r3.1 r4.1 An r5.1 0 0 An 0)) 41,.map b1 (Ft Value.string (Value.int .i64) (Gw x1 r2.1 (W ((El x1 r2.1 0) + 1)))) (Gw x1 r2.1 (W ((El x1 r2.1 0) + 1))).length,.own v1 41 11 x2.length (x2.flatMap Dx.enc),.blk U [Aa,iV r5.2] 25] [false,false,true,true,true,true] rfl).k7 0 5 6 7 8 10 11 rfl
      exact Tn (⟨r4.1,r5.1,r5.2,h,S.nf [true,true,true,true] rfl (subR rfl)⟩)
     ·exact wp_skip (Tn (⟨An,An,r3.2,h,S.nf [true,true,true,true] rfl (subR rfl)⟩))
    clear S h;rintro a w14 ⟨x6,x7,x8,h,S⟩;rw [hj2] at h;clear hj2 j2
    refine Tn (Fs (Fr (Vf Qu S rfl rfl fun a S=>Vl isAgg3 0 S rfl rfl rfl rfl fun a S=>Dl ?_)))
    obtain ⟨j3,hj3,h⟩:=Ey h
    refine Es (fun a w'=>∃ x9 : ByteArray,∃ x10 : Int,∃ x11 : Int,∃ x12 : ByteArray,∃ x13 : Int,∃ x14 : Int,j3 x9 x10 x11 x12 x13 x14 = some r ∧ Sx w [U] nov [.blk b5 (Dx.enc (Dx.mk r2.1 (El (Gw x1 r2.1 (W ((El x1 r2.1 0) + 1))) r2.1 0) (W (x4 + r1.1)) r3.1 x6 x9 x7 x10 x11 x12 x13)) 41,.map b1 (Ft Value.string (Value.int .i64) (Gw x1 r2.1 (W ((El x1 r2.1 0) + 1)))) (Gw x1 r2.1 (W ((El x1 r2.1 0) + 1))).length,.own v1 41 11 x2.length (x2.flatMap Dx.enc),.blk U [Aa,iV x14] 25] [(0,.pointer (some ⟨U,0,none⟩)),(5,v1),(6,iV (W (x4 + r1.1))),(7,.map (some b1)),(8,.pointer (some ⟨b5,0,none⟩)),(10,iV Bp),(11,iV x5)] 130 a w') ?_ ?_
    ·refine wp_block (Fr (Vq S Jh rfl rfl rfl fun a S=>Va S rfl rfl fun a S=>Dl ?_))
     obtain ⟨j4,hj4,h⟩:=Ey h
     refine Es (fun a w'=>∃ x15 : ByteArray,∃ x16 : Int,∃ x17 : Int,∃ x18 : ByteArray,∃ x19 : Int,∃ x20 : Int,j4 x15 x16 x17 x18 x19 x20 = some r ∧ Sx w [U] nov [.blk b5 (Dx.enc (Dx.mk r2.1 (El (Gw x1 r2.1 (W ((El x1 r2.1 0) + 1))) r2.1 0) (W (x4 + r1.1)) r3.1 x6 x15 x7 x16 x17 x18 x19)) 41,.map b1 (Ft Value.string (Value.int .i64) (Gw x1 r2.1 (W ((El x1 r2.1 0) + 1)))) (Gw x1 r2.1 (W ((El x1 r2.1 0) + 1))).length,.own v1 41 11 x2.length (x2.flatMap Dx.enc),.blk U [Aa,iV x20] 25] [(0,.pointer (some ⟨U,0,none⟩)),(5,v1),(6,iV (W (x4 + r1.1))),(7,.map (some b1)),(8,.pointer (some ⟨b5,0,none⟩)),(10,iV Bp),(11,iV x5)] 130 a w') ?_ ?_
     ·refine Fc h (S.tm rfl) (fun hb3 h=>?_) (fun hb3 h=>?_)
      ·refine Fg (Vm S rfl rfl fun a S=>Ff S underlying95 sizeOf9 zeroValue9 rfl rfl (pv:=[(0,sV Uv),(1,sV FA),(2,sV An)]) ⟨rfl,rfl,rfl,rfl,rfl,rfl,trivial⟩ (cs:=[sV Uv,sV FA,sV An]) (by kernel_rfl) rfl ?_);clear S;intro a w23 b8 hz8 hk18 S
       obtain ⟨r6,hr6,h⟩:=Fd h
       refine Hx 4 S (b:=U) rfl rfl (fun _=>.blk U [Aa,iV r6.2] 25) (fun _=>Ea (vs:=[.pointer (some ⟨U,0,none⟩),.slice (some ⟨b8,0,none⟩) 3 3]) ⟨(S.tm rfl),(S.tm rfl),trivial⟩ call40) (Pu _ U Aa Aq (Ao.mono (S.le_arg (Ji (i:=4) (e:=.blk U [Aa,iV x8] 25) rfl))) x8 (S.holds _ (List.mem_of_getElem? (i:=4) rfl)) (.slice (some ⟨b8,0,none⟩) 3 3) [Uv,FA,An] (Kv Uj S (i:=0) rfl rfl rfl rfl ((My (i:=4) (j:=0) (e:=.blk U [Aa,iV x8] 25) (e':=.blk b8 [sV Uv,sV FA,sV An] 9) S rfl rfl rfl) _ rfl)) _ hr6) rfl (fun _ _ _ h=>⟨h.1,fun _ hc=>by cases hc;rfl⟩) ?_;clear S;intro v7 a w24 hv6 hk19 hn6 S
       replace hv6:=hv6.2
       subst hv6
       refine Vm S rfl rfl fun a S=>Ff S underlying22 sizeOf3 zeroValue3 rfl rfl (pv:=[(0,iV 0),(1,iV 5900),(2,iV 6000),(3,iV 7000)]) ⟨rfl,rfl,rfl,rfl,rfl,rfl,rfl,rfl,trivial⟩ (cs:=[iV 0,iV 5900,iV 6000,iV 7000]) (by kernel_rfl) rfl ?_;clear S;intro a w25 b9 hz9 hk20 S
       obtain ⟨r7,hr7,h⟩:=Fd h
       refine Hx 5 S (b:=U) rfl rfl (fun _=>.blk U [Aa,iV r7.2] 25) (fun _=>Ea (vs:=[.pointer (some ⟨U,0,none⟩),.slice (some ⟨b9,0,none⟩) 4 4]) ⟨(S.tm rfl),(S.tm rfl),trivial⟩ call38) (Jt _ U Aa Aq (Ao.mono (S.le_arg (Ji (i:=5) (e:=.blk U [Aa,iV r6.2] 25) rfl))) r6.2 (S.holds _ (List.mem_of_getElem? (i:=5) rfl)) (.slice (some ⟨b9,0,none⟩) 4 4) [0,5900,6000,7000] (Kv Jb S (i:=0) rfl rfl rfl rfl ((My (i:=5) (j:=0) (e:=.blk U [Aa,iV r6.2] 25) (e':=.blk b9 [iV 0,iV 5900,iV 6000,iV 7000] 3) S rfl rfl rfl) _ rfl)) _ hr7) rfl (fun _ _ _ h=>⟨h.1,fun _ hc=>by cases hc;rfl⟩) ?_;clear S;intro v8 a w26 hv7 hk21 hn7 S
       replace hv7:=hv7.2
       subst hv7
       refine Vf Um S rfl rfl fun a S=>Fj S (S.tm rfl) (S.tm rfl) (i:=2) (off:=5) rfl sizeOf9 (vs:=[sV r6.1]) rfl rfl rfl rfl ?_;clear S;intro w27 hk22 S
       refine Vf Wh S rfl rfl fun a S=>Fj S (S.tm rfl) (S.tm rfl) (i:=2) (off:=7) rfl sizeOf3 (vs:=[iV r7.1]) rfl rfl rfl rfl ?_;clear S;intro w28 hk23 S
       refine Ld ?_
       replace S:=(S.nl [.blk b5 (Dx.enc (Dx.mk r2.1 (El (Gw x1 r2.1 (W ((El x1 r2.1 0) + 1))) r2.1 0) (W (x4 + r1.1)) r3.1 x6 r6.1 x7 r7.1 0 An 0)) 41,.map b1 (Ft Value.string (Value.int .i64) (Gw x1 r2.1 (W ((El x1 r2.1 0) + 1)))) (Gw x1 r2.1 (W ((El x1 r2.1 0) + 1))).length,.own v1 41 11 x2.length (x2.flatMap Dx.enc),.blk U [Aa,iV r7.2] 25] [false,false,true,true,true,true] rfl).k7 0 5 6 7 8 10 11 rfl
       exact Tn (⟨r6.1,r7.1,0,An,0,r7.2,h,S.nf [true,true,true,true] rfl (subR rfl)⟩)
      ·refine Fr (Vq S Jh rfl rfl rfl fun a S=>Va S rfl rfl fun a S=>Dl ?_)
       obtain ⟨j5,hj5,h⟩:=Ey h
       refine Es (fun a w'=>∃ x21 : Int,∃ x22 : Int,∃ x23 : ByteArray,∃ x24 : Int,∃ x25 : Int,j5 x21 x22 x23 x24 x25 = some r ∧ Sx w [U] nov [.blk b5 (Dx.enc (Dx.mk r2.1 (El (Gw x1 r2.1 (W ((El x1 r2.1 0) + 1))) r2.1 0) (W (x4 + r1.1)) r3.1 x6 An x7 x21 x22 x23 x24)) 41,.map b1 (Ft Value.string (Value.int .i64) (Gw x1 r2.1 (W ((El x1 r2.1 0) + 1)))) (Gw x1 r2.1 (W ((El x1 r2.1 0) + 1))).length,.own v1 41 11 x2.length (x2.flatMap Dx.enc),.blk U [Aa,iV x25] 25] [(0,.pointer (some ⟨U,0,none⟩)),(5,v1),(6,iV (W (x4 + r1.1))),(7,.map (some b1)),(8,.pointer (some ⟨b5,0,none⟩)),(10,iV Bp),(11,iV x5)] 130 a w') ?_ ?_
       ·refine Fc h (S.tm rfl) (fun hb4 h=>?_) (fun hb4 h=>?_)
        ·refine Fg (Vm S rfl rfl fun a S=>Ff S underlying22 sizeOf3 zeroValue3 rfl rfl (pv:=[(0,iV 0),(1,iV 5900),(2,iV 5900),(3,iV 6000),(4,iV 6100)]) ⟨rfl,rfl,rfl,rfl,rfl,rfl,rfl,rfl,rfl,rfl,trivial⟩ (cs:=[iV 0,iV 5900,iV 5900,iV 6000,iV 6100]) (by kernel_rfl) rfl ?_);clear S;intro a w30 b10 hz10 hk24 S
         obtain ⟨r8,hr8,h⟩:=Fd h
         refine Hx 4 S (b:=U) rfl rfl (fun _=>.blk U [Aa,iV r8.2] 25) (fun _=>Ea (vs:=[.pointer (some ⟨U,0,none⟩),.slice (some ⟨b10,0,none⟩) 5 5]) ⟨(S.tm rfl),(S.tm rfl),trivial⟩ call38) (Jt _ U Aa Aq (Ao.mono (S.le_arg (Ji (i:=4) (e:=.blk U [Aa,iV x8] 25) rfl))) x8 (S.holds _ (List.mem_of_getElem? (i:=4) rfl)) (.slice (some ⟨b10,0,none⟩) 5 5) [0,5900,5900,6000,6100] (Kv Jb S (i:=0) rfl rfl rfl rfl ((My (i:=4) (j:=0) (e:=.blk U [Aa,iV x8] 25) (e':=.blk b10 [iV 0,iV 5900,iV 5900,iV 6000,iV 6100] 3) S rfl rfl rfl) _ rfl)) _ hr8) rfl (fun _ _ _ h=>⟨h.1,fun _ hc=>by cases hc;rfl⟩) ?_;clear S;intro v9 a w31 hv8 hk25 hn8 S
         replace hv8:=hv8.2
         subst hv8
         refine Vm S rfl rfl fun a S=>Ff S underlying22 sizeOf3 zeroValue3 rfl rfl (pv:=[(0,iV 0),(1,iV 0),(2,iV 0),(3,iV 0),(4,iV 3)]) ⟨rfl,rfl,rfl,rfl,rfl,rfl,rfl,rfl,rfl,rfl,trivial⟩ (cs:=[iV 0,iV 0,iV 0,iV 0,iV 3]) (by kernel_rfl) rfl ?_;clear S;intro a w32 b11 hz11 hk26 S
         obtain ⟨r9,hr9,h⟩:=Fd h
         refine Hx 5 S (b:=U) rfl rfl (fun _=>.blk U [Aa,iV r9.2] 25) (fun _=>Ea (vs:=[.pointer (some ⟨U,0,none⟩),.slice (some ⟨b11,0,none⟩) 5 5]) ⟨(S.tm rfl),(S.tm rfl),trivial⟩ call38) (Jt _ U Aa Aq (Ao.mono (S.le_arg (Ji (i:=5) (e:=.blk U [Aa,iV r8.2] 25) rfl))) r8.2 (S.holds _ (List.mem_of_getElem? (i:=5) rfl)) (.slice (some ⟨b11,0,none⟩) 5 5) [0,0,0,0,3] (Kv Jb S (i:=0) rfl rfl rfl rfl ((My (i:=5) (j:=0) (e:=.blk U [Aa,iV r8.2] 25) (e':=.blk b11 [iV 0,iV 0,iV 0,iV 0,iV 3] 3) S rfl rfl rfl) _ rfl)) _ hr9) rfl (fun _ _ _ h=>⟨h.1,fun _ hc=>by cases hc;rfl⟩) ?_;clear S;intro v10 a w33 hv9 hk27 hn9 S
         replace hv9:=hv9.2
         subst hv9
         refine Vf Wh S rfl rfl fun a S=>Fj S (S.tm rfl) (S.tm rfl) (i:=2) (off:=7) rfl sizeOf3 (vs:=[iV r8.1]) rfl rfl rfl rfl ?_;clear S;intro w34 hk28 S
         refine Vf Xz S rfl rfl fun a S=>Fj S (S.tm rfl) (S.tm rfl) (i:=2) (off:=8) rfl sizeOf3 (vs:=[iV r9.1]) rfl rfl rfl rfl ?_;clear S;intro w35 hk29 S
         refine Ld ?_
         replace S:=(S.nl [.blk b5 (Dx.enc (Dx.mk r2.1 (El (Gw x1 r2.1 (W ((El x1 r2.1 0) + 1))) r2.1 0) (W (x4 + r1.1)) r3.1 x6 An x7 r8.1 r9.1 An 0)) 41,.map b1 (Ft Value.string (Value.int .i64) (Gw x1 r2.1 (W ((El x1 r2.1 0) + 1)))) (Gw x1 r2.1 (W ((El x1 r2.1 0) + 1))).length,.own v1 41 11 x2.length (x2.flatMap Dx.enc),.blk U [Aa,iV r9.2] 25] [false,false,true,true,true,true] rfl).k7 0 5 6 7 8 10 11 rfl
         exact Tn (⟨r8.1,r9.1,An,0,r9.2,h,S.nf [true,true,true,true] rfl (subR rfl)⟩)
        ·refine Fr (Vq S Jh rfl rfl rfl fun a S=>Va S rfl rfl fun a S=>Ld ?_)
         replace S:=S.k8 0 5 6 7 8 10 11 69 rfl
         refine Tn ?_
         obtain ⟨j6,hj6,h⟩:=Ey h
         refine Es (fun a w'=>∃ x26 : ByteArray,∃ x27 : Int,∃ x28 : Int,j6 x26 x27 x28 = some r ∧ Sx w [U] nov [.blk b5 (Dx.enc (Dx.mk r2.1 (El (Gw x1 r2.1 (W ((El x1 r2.1 0) + 1))) r2.1 0) (W (x4 + r1.1)) r3.1 x6 An x7 0 0 x26 x27)) 41,.map b1 (Ft Value.string (Value.int .i64) (Gw x1 r2.1 (W ((El x1 r2.1 0) + 1)))) (Gw x1 r2.1 (W ((El x1 r2.1 0) + 1))).length,.own v1 41 11 x2.length (x2.flatMap Dx.enc),.blk U [Aa,iV x28] 25] [(0,.pointer (some ⟨U,0,none⟩)),(5,v1),(6,iV (W (x4 + r1.1))),(7,.map (some b1)),(8,.pointer (some ⟨b5,0,none⟩)),(10,iV Bp),(11,iV x5)] 130 a w') ?_ ?_
         ·refine Fc h (S.tm rfl) (fun hb5 h=>?_) (fun hb5 h=>?_)
          ·obtain ⟨r10,hr10,h⟩:=Fd h
           obtain ⟨r11,hr11,h⟩:=Fd h
           refine Hd [] ([U] ++ [b5]) Tryz.mixed S rfl (by kernel_rfl) ?_;clear S;intro w42 hk35 hsel S
           refine Ek 0 S hsel rfl rfl rfl (by kernel_rfl) (by kernel_rfl) rfl (fun _ hw=>(Rm (S.tm rfl))) fun a S=>Ek 3 S hsel rfl rfl rfl (by kernel_rfl) (by kernel_rfl) rfl (fun _ hw=>(Rm (S.tm rfl))) fun a S=>Ek 4 S hsel rfl rfl rfl (by kernel_rfl) (by kernel_rfl) rfl (fun _ hw=>(Rm (S.tm rfl))) fun a S=>Ek 5 S hsel rfl rfl rfl (by kernel_rfl) (by kernel_rfl) rfl (fun _ hw=>(Qk (kv:=Value.string) (vv:=(Value.int .i64)) (m:=(Gw x1 r2.1 (W ((El x1 r2.1 0) + 1)))) (key:=Tw) (z:=0) (S.map_kept (i:=1) rfl (ne_app (My (i:=3) (j:=1) (e:=.blk U [Aa,iV x8] 25) (e':=.map b1 (Ft Value.string (Value.int .i64) (Gw x1 r2.1 (W ((El x1 r2.1 0) + 1)))) (Gw x1 r2.1 (W ((El x1 r2.1 0) + 1))).length) S rfl rfl rfl) (My (i:=0) (j:=1) (e:=.blk b5 (Dx.enc (Dx.mk r2.1 (El (Gw x1 r2.1 (W ((El x1 r2.1 0) + 1))) r2.1 0) (W (x4 + r1.1)) r3.1 x6 An x7 0 0 An 0)) 41) (e':=.map b1 (Ft Value.string (Value.int .i64) (Gw x1 r2.1 (W ((El x1 r2.1 0) + 1)))) (Gw x1 r2.1 (W ((El x1 r2.1 0) + 1))).length) S rfl rfl rfl)) hw) underlying108 (Mq underlying9) zeroValue3 (S.tm rfl) rfl)) fun a S=>Ek 6 S hsel rfl rfl rfl (by kernel_rfl) (by kernel_rfl) rfl (fun _ hw=>(SS rfl (S.tm rfl))) fun a S=>Hi 1 (by kernel_rfl) rfl (Ff S underlying95 sizeOf9 zeroValue9 rfl rfl (pv:=[(0,sV Tw),(1,sV Tw),(2,sV HT)]) ⟨rfl,rfl,rfl,rfl,rfl,rfl,trivial⟩ (cs:=[sV Tw,sV Tw,sV HT]) (by kernel_rfl) rfl ?_);clear S;intro a w43 b13 hz13 hk36 S
           refine Ld (Ik (Keep.none hk36) (Hi 2 (by kernel_rfl) rfl ?_))
           refine Hx 4 S (b:=U) rfl rfl (fun _=>.blk U [Aa,iV r10.2] 25) (fun _=>Ea (vs:=[.pointer (some ⟨U,0,none⟩),.slice (some ⟨b13,0,none⟩) 3 3]) ⟨(S.tm rfl),(S.tm rfl),trivial⟩ call40) (Pu _ U Aa Aq (Ao.mono (S.le_arg (Ji (i:=4) (e:=.blk U [Aa,iV x8] 25) rfl))) x8 (S.holds _ (List.mem_of_getElem? (i:=4) rfl)) (.slice (some ⟨b13,0,none⟩) 3 3) [Tw,Tw,HT] (Kv Uj S (i:=0) rfl rfl rfl rfl ((My (i:=4) (j:=0) (e:=.blk U [Aa,iV x8] 25) (e':=.blk b13 [sV Tw,sV Tw,sV HT] 9) S rfl rfl rfl) _ rfl)) _ hr10) rfl (fun _ _ _ h=>⟨h.1,fun _ hc=>by cases hc;rfl⟩) ?_;clear S;intro v13 a w44 hv12 hk37 hn12 S
           replace hv12:=hv12.2
           subst hv12
           refine Ld ?_
           refine Ik (hk37.sub (by intro y hy;simp at hy ⊢;simp [hy])) ?_
           refine Ek 8 S hsel rfl rfl rfl (by kernel_rfl) (by kernel_rfl) rfl (fun _ hw=>(Gv Zz (S.tm rfl))) fun a S=>Hi 7 (by kernel_rfl) rfl ?_
           refine Hx 4 S (b:=U) rfl rfl (fun _=>.blk U [Aa,iV r11.2] 25) (fun _=>Ea (vs:=[.pointer (some ⟨U,0,none⟩),iV 1,iV (HM 1 (El (Gw x1 r2.1 (W ((El x1 r2.1 0) + 1))) Tw 0))]) ⟨(S.tm rfl),rfl,(S.tm rfl),trivial⟩ call18) (Sa _ U Aa Aq (Ao.mono (S.le_arg (Ji (i:=4) (e:=.blk U [Aa,iV r10.2] 25) rfl))) r10.2 (S.holds _ (List.mem_of_getElem? (i:=4) rfl)) 1 (HM 1 (El (Gw x1 r2.1 (W ((El x1 r2.1 0) + 1))) Tw 0)) _ hr11) rfl (fun _ _ _ h=>⟨h.1,fun _ hc=>by cases hc;rfl⟩) ?_;clear S;intro v14 a w45 hv13 hk38 hn13 S
           replace hv13:=hv13.2
           subst hv13
           refine Ld ?_
           refine Ik (hk38.sub (by intro y hy;simp at hy ⊢;simp [hy])) ?_
           refine Hi 9 (by kernel_rfl) rfl (Fj S (S.tm rfl) (S.tm rfl) (i:=1) (off:=9) rfl sizeOf9 (vs:=[sV r10.1]) rfl rfl rfl rfl ?_);clear S;intro w46 hk39 S
           refine Ld ?_
           refine Ik (hk39.sub (by intro y hy;simp at hy ⊢;simp [hy])) ?_
           refine Ek 10 S hsel rfl rfl rfl (by kernel_rfl) (by kernel_rfl) rfl (fun _ hw=>(Gv Xd (S.tm rfl))) fun a S=>Hi 11 (by kernel_rfl) rfl (Fj S (S.tm rfl) (S.tm rfl) (i:=1) (off:=10) rfl sizeOf3 (vs:=[iV r11.1]) rfl rfl rfl rfl ?_);clear S;intro w47 hk40 S
           refine Ld ?_
           refine Ik (hk40.sub (by intro y hy;simp at hy ⊢;simp [hy])) ?_
           refine Wl (by kernel_rfl) ?_
           clear hsel
           replace S:=(S.nl [.blk b5 (Dx.enc (Dx.mk r2.1 (El (Gw x1 r2.1 (W ((El x1 r2.1 0) + 1))) r2.1 0) (W (x4 + r1.1)) r3.1 x6 An x7 0 0 r10.1 r11.1)) 41,.map b1 (Ft Value.string (Value.int .i64) (Gw x1 r2.1 (W ((El x1 r2.1 0) + 1)))) (Gw x1 r2.1 (W ((El x1 r2.1 0) + 1))).length,.own v1 41 11 x2.length (x2.flatMap Dx.enc),.blk U [Aa,iV r11.2] 25] [false,true,true,true,true] rfl).k7 0 5 6 7 8 10 11 rfl
           exact Tn (⟨r10.1,r11.1,r11.2,h,S.nf [true,true,true,true] rfl (subR rfl)⟩)
          ·exact wp_skip (Tn (⟨An,0,x8,h,S.nf [true,true,true,true] rfl (subR rfl)⟩))
         clear S h;rintro a w36 ⟨x26,x27,x28,h,S⟩;rw [hj6] at h;clear hj6 j6
         exact Tn (⟨0,0,x26,x27,x28,h,S.nf [true,true,true,true] rfl (subR rfl)⟩)
       clear S h;rintro a w29 ⟨x21,x22,x23,x24,x25,h,S⟩;rw [hj5] at h;clear hj5 j5
       exact Tn (⟨An,x21,x22,x23,x24,x25,h,S.nf [true,true,true,true] rfl (subR rfl)⟩)
     clear S h;rintro a w22 ⟨x15,x16,x17,x18,x19,x20,h,S⟩;rw [hj4] at h;clear hj4 j4
     exact Hn (Tn (⟨x15,x16,x17,x18,x19,x20,h,S.nf [true,true,true,true] rfl (subR rfl)⟩))
    clear S h;rintro a w21 ⟨x9,x10,x11,x12,x13,x14,h,S⟩;rw [hj3] at h;clear hj3 j3
    refine Tn (Fs (Fr (Vm S rfl rfl ?_)));clear S;intro a S
    obtain ⟨r12,hr12,h⟩:=Fd h
    refine Hx 3 S (b:=U) rfl rfl (fun _=>.blk U [Aa,iV r12.2] 25) (fun _=>Ea (vs:=[.pointer (some ⟨U,0,none⟩),iV 100]) ⟨(S.tm rfl),rfl,trivial⟩ call36) (Zj _ U Aa Aq (Ao.mono (S.le_arg (Ji (i:=3) (e:=.blk U [Aa,iV x14] 25) rfl))) x14 (S.holds _ (List.mem_of_getElem? (i:=3) rfl)) 100 _ hr12) rfl (fun _ _ _ h=>⟨h.1,fun _ hc=>by cases hc;rfl⟩) ?_;clear S;intro v15 a w48 hv14 hk41 hn14 S
    replace hv14:=hv14.2
    subst hv14
    refine Dl ?_
    obtain ⟨j7,hj7,h⟩:=Ey h
    refine Es (fun a w'=>∃ x29 : ByteArray,∃ x30 : Int,∃ x31 : Int,∃ x32 : ByteArray,∃ x33 : ByteArray,∃ x34 : ByteArray,∃ x35 : Int,∃ x36 : Int,∃ x37 : Int,∃ x38 : Int,j7 x29 x30 x31 x32 x33 x34 x35 x36 x37 x38 = some r ∧ Sx w [U] nov [.blk b5 (Dx.enc (Dx.mk x29 x30 (W (x4 + r1.1)) x31 x32 x33 x34 x35 x36 x12 x37)) 41,.map b1 (Ft Value.string (Value.int .i64) (Gw x1 r2.1 (W ((El x1 r2.1 0) + 1)))) (Gw x1 r2.1 (W ((El x1 r2.1 0) + 1))).length,.own v1 41 11 x2.length (x2.flatMap Dx.enc),.blk U [Aa,iV x38] 25] [(0,.pointer (some ⟨U,0,none⟩)),(5,v1),(6,iV (W (x4 + r1.1))),(7,.map (some b1)),(8,.pointer (some ⟨b5,0,none⟩)),(10,iV Bp),(11,iV x5)] 130 a w') ?_ ?_
    ·refine Fc h (S.tm rfl) (fun hb6 h=>?_) (fun hb6 h=>?_)
     ·refine Fr (Vm S rfl rfl ?_);clear S;intro a S
      obtain ⟨r13,hr13,h⟩:=Fd h
      refine Hx 3 S (b:=U) rfl rfl (fun _=>.blk U [Aa,iV r13.2] 25) (fun _=>Ea (vs:=[.pointer (some ⟨U,0,none⟩),iV 4]) ⟨(S.tm rfl),rfl,trivial⟩ call39) (Uz _ U Aa Aq (Ao.mono (S.le_arg (Ji (i:=3) (e:=.blk U [Aa,iV r12.2] 25) rfl))) r12.2 (S.holds _ (List.mem_of_getElem? (i:=3) rfl)) 4 _ hr13) rfl (fun _ _ _ h=>⟨h.1,fun _ hc=>by cases hc;rfl⟩) ?_;clear S;intro v16 a w50 hv15 hk42 hn15 S
      replace hv15:=hv15.2
      subst hv15
      refine Dl ?_
      obtain ⟨j8,hj8,h⟩:=Ey h
      refine Es (fun a w'=>∃ x39 : ByteArray,∃ x40 : Int,∃ x41 : Int,∃ x42 : ByteArray,∃ x43 : ByteArray,∃ x44 : ByteArray,∃ x45 : Int,∃ x46 : Int,∃ x47 : Int,∃ x48 : Int,j8 x39 x40 x41 x42 x43 x44 x45 x46 x47 x48 = some r ∧ Sx w [U] nov [.blk b5 (Dx.enc (Dx.mk x39 x40 (W (x4 + r1.1)) x41 x42 x43 x44 x45 x46 x12 x47)) 41,.map b1 (Ft Value.string (Value.int .i64) (Gw x1 r2.1 (W ((El x1 r2.1 0) + 1)))) (Gw x1 r2.1 (W ((El x1 r2.1 0) + 1))).length,.own v1 41 11 x2.length (x2.flatMap Dx.enc),.blk U [Aa,iV x48] 25] [(0,.pointer (some ⟨U,0,none⟩)),(5,v1),(6,iV (W (x4 + r1.1))),(7,.map (some b1)),(8,.pointer (some ⟨b5,0,none⟩)),(10,iV Bp),(11,iV x5)] 130 a w') ?_ ?_
      ·refine wp_block (Fr (Vq S Jh rfl rfl rfl fun a S=>Va S rfl rfl fun a S=>Dl ?_))
       obtain ⟨j9,hj9,h⟩:=Ey h
       refine Es (fun a w'=>∃ x49 : ByteArray,∃ x50 : Int,∃ x51 : Int,∃ x52 : ByteArray,∃ x53 : ByteArray,∃ x54 : ByteArray,∃ x55 : Int,∃ x56 : Int,∃ x57 : Int,∃ x58 : Int,j9 x49 x50 x51 x52 x53 x54 x55 x56 x57 x58 = some r ∧ Sx w [U] nov [.blk b5 (Dx.enc (Dx.mk x49 x50 (W (x4 + r1.1)) x51 x52 x53 x54 x55 x56 x12 x57)) 41,.map b1 (Ft Value.string (Value.int .i64) (Gw x1 r2.1 (W ((El x1 r2.1 0) + 1)))) (Gw x1 r2.1 (W ((El x1 r2.1 0) + 1))).length,.own v1 41 11 x2.length (x2.flatMap Dx.enc),.blk U [Aa,iV x58] 25] [(0,.pointer (some ⟨U,0,none⟩)),(5,v1),(6,iV (W (x4 + r1.1))),(7,.map (some b1)),(8,.pointer (some ⟨b5,0,none⟩)),(10,iV Bp),(11,iV x5)] 130 a w') ?_ ?_
       ·refine Fc h (S.tm rfl) (fun hb7 h=>?_) (fun hb7 h=>?_)
        ·refine Fg (Vm S rfl rfl fun a S=>Ff S underlying95 sizeOf9 zeroValue9 rfl rfl (pv:=[(0,sV An),(1,sV Tw)]) ⟨rfl,rfl,rfl,rfl,trivial⟩ (cs:=[sV An,sV Tw]) (by kernel_rfl) rfl ?_);clear S;intro a w53 b14 hz14 hk43 S
         obtain ⟨r14,hr14,h⟩:=Fd h
         refine Hx 4 S (b:=U) rfl rfl (fun _=>.blk U [Aa,iV r14.2] 25) (fun _=>Ea (vs:=[.pointer (some ⟨U,0,none⟩),.slice (some ⟨b14,0,none⟩) 2 2]) ⟨(S.tm rfl),(S.tm rfl),trivial⟩ call40) (Pu _ U Aa Aq (Ao.mono (S.le_arg (Ji (i:=4) (e:=.blk U [Aa,iV r13.2] 25) rfl))) r13.2 (S.holds _ (List.mem_of_getElem? (i:=4) rfl)) (.slice (some ⟨b14,0,none⟩) 2 2) [An,Tw] (Kv Uj S (i:=0) rfl rfl rfl rfl ((My (i:=4) (j:=0) (e:=.blk U [Aa,iV r13.2] 25) (e':=.blk b14 [sV An,sV Tw] 9) S rfl rfl rfl) _ rfl)) _ hr14) rfl (fun _ _ _ h=>⟨h.1,fun _ hc=>by cases hc;rfl⟩) ?_;clear S;intro v17 a w54 hv16 hk44 hn16 S
         replace hv16:=hv16.2
         subst hv16
         refine Vm S rfl rfl ?_;clear S;intro a S
         obtain ⟨r15,hr15,h⟩:=Fd h
         refine Hx 4 S (b:=U) rfl rfl (fun _=>.blk U [Aa,iV r15.2] 25) (fun _=>Ea (vs:=[.pointer (some ⟨U,0,none⟩),iV 1,iV 9]) ⟨(S.tm rfl),rfl,rfl,trivial⟩ call41) (Vz _ U Aa Aq (Ao.mono (S.le_arg (Ji (i:=4) (e:=.blk U [Aa,iV r14.2] 25) rfl))) r14.2 (S.holds _ (List.mem_of_getElem? (i:=4) rfl)) 1 9 _ hr15) rfl (fun _ _ _ h=>⟨h.1,fun _ hc=>by cases hc;rfl⟩) ?_;clear S;intro v18 a w55 hv17 hk45 hn17 S
         replace hv17:=hv17.2
         subst hv17
         refine Vf Sy S rfl rfl fun a S=>Fj S (S.tm rfl) (S.tm rfl) (i:=1) (off:=0) rfl sizeOf9 (vs:=[sV r14.1]) rfl rfl rfl rfl ?_;clear S;intro w56 hk46 S
         refine Vf Vi S rfl rfl fun a S=>Fj S (S.tm rfl) (S.tm rfl) (i:=1) (off:=1) rfl sizeOf3 (vs:=[iV r15.1]) rfl rfl rfl rfl ?_;clear S;intro w57 hk47 S
         refine Ld ?_
         replace S:=(S.nl [.blk b5 (Dx.enc (Dx.mk r14.1 r15.1 (W (x4 + r1.1)) r3.1 x6 x9 x7 x10 x11 x12 x13)) 41,.map b1 (Ft Value.string (Value.int .i64) (Gw x1 r2.1 (W ((El x1 r2.1 0) + 1)))) (Gw x1 r2.1 (W ((El x1 r2.1 0) + 1))).length,.own v1 41 11 x2.length (x2.flatMap Dx.enc),.blk U [Aa,iV r15.2] 25] [false,true,true,true,true] rfl).k7 0 5 6 7 8 10 11 rfl
         exact Tn (⟨r14.1,r15.1,r3.1,x6,x9,x7,x10,x11,x13,r15.2,h,S.nf [true,true,true,true] rfl (subR rfl)⟩)
        ·refine Fr (Vq S Jh rfl rfl rfl fun a S=>Va S rfl rfl fun a S=>Ld ?_)
         replace S:=(S.nl [.blk b5 (Dx.enc (Dx.mk r2.1 (El (Gw x1 r2.1 (W ((El x1 r2.1 0) + 1))) r2.1 0) (W (x4 + r1.1)) r3.1 x6 x9 x7 x10 x11 x12 x13)) 41,.map b1 (Ft Value.string (Value.int .i64) (Gw x1 r2.1 (W ((El x1 r2.1 0) + 1)))) (Gw x1 r2.1 (W ((El x1 r2.1 0) + 1))).length,.own v1 41 11 x2.length (x2.flatMap Dx.enc),.blk U [Aa,iV r13.2] 25] [true,true,true,true] rfl).k9 0 5 6 7 8 10 11 84 103 rfl
         refine Tn ?_
         obtain ⟨j10,hj10,h⟩:=Ey h
         refine Es (fun a w'=>∃ x59 : Int,∃ x60 : ByteArray,∃ x61 : ByteArray,∃ x62 : ByteArray,∃ x63 : Int,∃ x64 : Int,∃ x65 : Int,∃ x66 : Int,j10 x59 x60 x61 x62 x63 x64 x65 x66 = some r ∧ Sx w [U] nov [.blk b5 (Dx.enc (Dx.mk r2.1 (El (Gw x1 r2.1 (W ((El x1 r2.1 0) + 1))) r2.1 0) (W (x4 + r1.1)) x59 x60 x61 x62 x63 x64 x12 x65)) 41,.map b1 (Ft Value.string (Value.int .i64) (Gw x1 r2.1 (W ((El x1 r2.1 0) + 1)))) (Gw x1 r2.1 (W ((El x1 r2.1 0) + 1))).length,.own v1 41 11 x2.length (x2.flatMap Dx.enc),.blk U [Aa,iV x66] 25] [(0,.pointer (some ⟨U,0,none⟩)),(5,v1),(6,iV (W (x4 + r1.1))),(7,.map (some b1)),(8,.pointer (some ⟨b5,0,none⟩)),(10,iV Bp),(11,iV x5)] 130 a w') ?_ ?_
         ·refine Fc h (S.tm rfl) (fun hb8 h=>?_) (fun hb8 h=>?_)
          ·refine Fg (Vm S rfl rfl ?_);clear S;intro a S
           obtain ⟨r16,hr16,h⟩:=Fd h
           refine Hx 3 S (b:=U) rfl rfl (fun _=>.blk U [Aa,iV r16.2] 25) (fun _=>Ea (vs:=[.pointer (some ⟨U,0,none⟩),iV 1,iV 4]) ⟨(S.tm rfl),rfl,rfl,trivial⟩ call41) (Vz _ U Aa Aq (Ao.mono (S.le_arg (Ji (i:=3) (e:=.blk U [Aa,iV r13.2] 25) rfl))) r13.2 (S.holds _ (List.mem_of_getElem? (i:=3) rfl)) 1 4 _ hr16) rfl (fun _ _ _ h=>⟨h.1,fun _ hc=>by cases hc;rfl⟩) ?_;clear S;intro v19 a w59 hv18 hk48 hn18 S
           replace hv18:=hv18.2
           subst hv18
           refine Vf Qu S rfl rfl fun a S=>Fj S (S.tm rfl) (S.tm rfl) (i:=0) (off:=3) rfl sizeOf3 (vs:=[iV r16.1]) rfl rfl rfl rfl ?_;clear S;intro w60 hk49 S
           exact Dl (⟨r16.1,x6,x9,x7,x10,x11,x13,r16.2,h,S.nf [true,true,true,true] rfl (subR rfl)⟩)
          ·refine Fr (Vq S Jh rfl rfl rfl fun a S=>Va S rfl rfl fun a S=>Dl ?_)
           obtain ⟨j11,hj11,h⟩:=Ey h
           refine Es (fun a w'=>∃ x67 : ByteArray,∃ x68 : ByteArray,∃ x69 : ByteArray,∃ x70 : Int,∃ x71 : Int,∃ x72 : Int,∃ x73 : Int,j11 x67 x68 x69 x70 x71 x72 x73 = some r ∧ Sx w [U] nov [.blk b5 (Dx.enc (Dx.mk r2.1 (El (Gw x1 r2.1 (W ((El x1 r2.1 0) + 1))) r2.1 0) (W (x4 + r1.1)) r3.1 x67 x68 x69 x70 x71 x12 x72)) 41,.map b1 (Ft Value.string (Value.int .i64) (Gw x1 r2.1 (W ((El x1 r2.1 0) + 1)))) (Gw x1 r2.1 (W ((El x1 r2.1 0) + 1))).length,.own v1 41 11 x2.length (x2.flatMap Dx.enc),.blk U [Aa,iV x73] 25] [(0,.pointer (some ⟨U,0,none⟩)),(5,v1),(6,iV (W (x4 + r1.1))),(7,.map (some b1)),(8,.pointer (some ⟨b5,0,none⟩)),(10,iV Bp),(11,iV x5)] 130 a w') ?_ ?_
           ·refine Fc h (S.tm rfl) (fun hb9 h=>?_) (fun hb9 h=>?_)
            ·refine Fg (Vm S rfl rfl fun a S=>Ff S underlying95 sizeOf9 zeroValue9 rfl rfl (pv:=[(0,sV An),(1,sV Yg)]) ⟨rfl,rfl,rfl,rfl,trivial⟩ (cs:=[sV An,sV Yg]) (by kernel_rfl) rfl ?_);clear S;intro a w62 b15 hz15 hk50 S
             obtain ⟨r17,hr17,h⟩:=Fd h
             refine Hx 4 S (b:=U) rfl rfl (fun _=>.blk U [Aa,iV r17.2] 25) (fun _=>Ea (vs:=[.pointer (some ⟨U,0,none⟩),.slice (some ⟨b15,0,none⟩) 2 2]) ⟨(S.tm rfl),(S.tm rfl),trivial⟩ call40) (Pu _ U Aa Aq (Ao.mono (S.le_arg (Ji (i:=4) (e:=.blk U [Aa,iV r13.2] 25) rfl))) r13.2 (S.holds _ (List.mem_of_getElem? (i:=4) rfl)) (.slice (some ⟨b15,0,none⟩) 2 2) [An,Yg] (Kv Uj S (i:=0) rfl rfl rfl rfl ((My (i:=4) (j:=0) (e:=.blk U [Aa,iV r13.2] 25) (e':=.blk b15 [sV An,sV Yg] 9) S rfl rfl rfl) _ rfl)) _ hr17) rfl (fun _ _ _ h=>⟨h.1,fun _ hc=>by cases hc;rfl⟩) ?_;clear S;intro v20 a w63 hv19 hk51 hn19 S
             replace hv19:=hv19.2
             subst hv19
             refine Vm S rfl rfl fun a S=>Ff S underlying95 sizeOf9 zeroValue9 rfl rfl (pv:=[(0,sV k_A),(1,sV Uv)]) ⟨rfl,rfl,rfl,rfl,trivial⟩ (cs:=[sV k_A,sV Uv]) (by kernel_rfl) rfl ?_;clear S;intro a w64 b16 hz16 hk52 S
             obtain ⟨r18,hr18,h⟩:=Fd h
             refine Hx 5 S (b:=U) rfl rfl (fun _=>.blk U [Aa,iV r18.2] 25) (fun _=>Ea (vs:=[.pointer (some ⟨U,0,none⟩),.slice (some ⟨b16,0,none⟩) 2 2]) ⟨(S.tm rfl),(S.tm rfl),trivial⟩ call40) (Pu _ U Aa Aq (Ao.mono (S.le_arg (Ji (i:=5) (e:=.blk U [Aa,iV r17.2] 25) rfl))) r17.2 (S.holds _ (List.mem_of_getElem? (i:=5) rfl)) (.slice (some ⟨b16,0,none⟩) 2 2) [k_A,Uv] (Kv Uj S (i:=0) rfl rfl rfl rfl ((My (i:=5) (j:=0) (e:=.blk U [Aa,iV r17.2] 25) (e':=.blk b16 [sV k_A,sV Uv] 9) S rfl rfl rfl) _ rfl)) _ hr18) rfl (fun _ _ _ h=>⟨h.1,fun _ hc=>by cases hc;rfl⟩) ?_;clear S;intro v21 a w65 hv20 hk53 hn20 S
             replace hv20:=hv20.2
             subst hv20
             refine Vm S rfl rfl fun a S=>Ff S underlying95 sizeOf9 zeroValue9 rfl rfl (pv:=[(0,sV An),(1,sV Rj)]) ⟨rfl,rfl,rfl,rfl,trivial⟩ (cs:=[sV An,sV Rj]) (by kernel_rfl) rfl ?_;clear S;intro a w66 b17 hz17 hk54 S
             obtain ⟨r19,hr19,h⟩:=Fd h
             refine Hx 6 S (b:=U) rfl rfl (fun _=>.blk U [Aa,iV r19.2] 25) (fun _=>Ea (vs:=[.pointer (some ⟨U,0,none⟩),.slice (some ⟨b17,0,none⟩) 2 2]) ⟨(S.tm rfl),(S.tm rfl),trivial⟩ call40) (Pu _ U Aa Aq (Ao.mono (S.le_arg (Ji (i:=6) (e:=.blk U [Aa,iV r18.2] 25) rfl))) r18.2 (S.holds _ (List.mem_of_getElem? (i:=6) rfl)) (.slice (some ⟨b17,0,none⟩) 2 2) [An,Rj] (Kv Uj S (i:=0) rfl rfl rfl rfl ((My (i:=6) (j:=0) (e:=.blk U [Aa,iV r18.2] 25) (e':=.blk b17 [sV An,sV Rj] 9) S rfl rfl rfl) _ rfl)) _ hr19) rfl (fun _ _ _ h=>⟨h.1,fun _ hc=>by cases hc;rfl⟩) ?_;clear S;intro v22 a w67 hv21 hk55 hn21 S
             replace hv21:=hv21.2
             subst hv21
             refine Vf Qc S rfl rfl fun a S=>Fj S (S.tm rfl) (S.tm rfl) (i:=3) (off:=4) rfl sizeOf9 (vs:=[sV r17.1]) rfl rfl rfl rfl ?_;clear S;intro w68 hk56 S
             refine Vf Um S rfl rfl fun a S=>Fj S (S.tm rfl) (S.tm rfl) (i:=3) (off:=5) rfl sizeOf9 (vs:=[sV r18.1]) rfl rfl rfl rfl ?_;clear S;intro w69 hk57 S
             refine Vf Un S rfl rfl fun a S=>Fj S (S.tm rfl) (S.tm rfl) (i:=3) (off:=6) rfl sizeOf9 (vs:=[sV r19.1]) rfl rfl rfl rfl ?_;clear S;intro w70 hk58 S
             refine Ld ?_
             replace S:=(S.nl [.blk b5 (Dx.enc (Dx.mk r2.1 (El (Gw x1 r2.1 (W ((El x1 r2.1 0) + 1))) r2.1 0) (W (x4 + r1.1)) r3.1 r17.1 r18.1 r19.1 x10 x11 x12 x13)) 41,.map b1 (Ft Value.string (Value.int .i64) (Gw x1 r2.1 (W ((El x1 r2.1 0) + 1)))) (Gw x1 r2.1 (W ((El x1 r2.1 0) + 1))).length,.own v1 41 11 x2.length (x2.flatMap Dx.enc),.blk U [Aa,iV r19.2] 25] [false,false,false,true,true,true,true] rfl).k7 0 5 6 7 8 10 11 rfl
             exact Tn (⟨r17.1,r18.1,r19.1,x10,x11,x13,r19.2,h,S.nf [true,true,true,true] rfl (subR rfl)⟩)
            ·refine Fg (Vm S rfl rfl ?_);clear S;intro a S
             obtain ⟨r20,hr20,h⟩:=Fd h
             refine Hx 3 S (b:=U) rfl rfl (fun _=>.blk U [Aa,iV r20.2] 25) (fun _=>Ea (vs:=[.pointer (some ⟨U,0,none⟩),iV 0,iV 360000]) ⟨(S.tm rfl),rfl,rfl,trivial⟩ call41) (Vz _ U Aa Aq (Ao.mono (S.le_arg (Ji (i:=3) (e:=.blk U [Aa,iV r13.2] 25) rfl))) r13.2 (S.holds _ (List.mem_of_getElem? (i:=3) rfl)) 0 360000 _ hr20) rfl (fun _ _ _ h=>⟨h.1,fun _ hc=>by cases hc;rfl⟩) ?_;clear S;intro v23 a w71 hv22 hk59 hn22 S
             replace hv22:=hv22.2
             subst hv22
             refine Vm S rfl rfl ?_;clear S;intro a S
             obtain ⟨r21,hr21,h⟩:=Fd h
             refine Hx 3 S (b:=U) rfl rfl (fun _=>.blk U [Aa,iV r21.2] 25) (fun _=>Ea (vs:=[.pointer (some ⟨U,0,none⟩),iV 0,iV 8]) ⟨(S.tm rfl),rfl,rfl,trivial⟩ call41) (Vz _ U Aa Aq (Ao.mono (S.le_arg (Ji (i:=3) (e:=.blk U [Aa,iV r20.2] 25) rfl))) r20.2 (S.holds _ (List.mem_of_getElem? (i:=3) rfl)) 0 8 _ hr21) rfl (fun _ _ _ h=>⟨h.1,fun _ hc=>by cases hc;rfl⟩) ?_;clear S;intro v24 a w72 hv23 hk60 hn23 S
             replace hv23:=hv23.2
             subst hv23
             refine Vm S rfl rfl ?_;clear S;intro a S
             obtain ⟨r22,hr22,h⟩:=Fd h
             refine Hx 3 S (b:=U) rfl rfl (fun _=>.blk U [Aa,iV r22.2] 25) (fun _=>Ea (vs:=[.pointer (some ⟨U,0,none⟩),iV 0,iV 5]) ⟨(S.tm rfl),rfl,rfl,trivial⟩ call41) (Vz _ U Aa Aq (Ao.mono (S.le_arg (Ji (i:=3) (e:=.blk U [Aa,iV r21.2] 25) rfl))) r21.2 (S.holds _ (List.mem_of_getElem? (i:=3) rfl)) 0 5 _ hr22) rfl (fun _ _ _ h=>⟨h.1,fun _ hc=>by cases hc;rfl⟩) ?_;clear S;intro v25 a w73 hv24 hk61 hn24 S
             replace hv24:=hv24.2
             subst hv24
             refine Vf Wh S rfl rfl fun a S=>Fj S (S.tm rfl) (S.tm rfl) (i:=0) (off:=7) rfl sizeOf3 (vs:=[iV r20.1]) rfl rfl rfl rfl ?_;clear S;intro w74 hk62 S
             refine Vf Xz S rfl rfl fun a S=>Fj S (S.tm rfl) (S.tm rfl) (i:=0) (off:=8) rfl sizeOf3 (vs:=[iV r21.1]) rfl rfl rfl rfl ?_;clear S;intro w75 hk63 S
             refine Vf Xd S rfl rfl fun a S=>Fj S (S.tm rfl) (S.tm rfl) (i:=0) (off:=10) rfl sizeOf3 (vs:=[iV r22.1]) rfl rfl rfl rfl ?_;clear S;intro w76 hk64 S
             refine Ld ?_
             replace S:=(S.nl [.blk b5 (Dx.enc (Dx.mk r2.1 (El (Gw x1 r2.1 (W ((El x1 r2.1 0) + 1))) r2.1 0) (W (x4 + r1.1)) r3.1 x6 x9 x7 r20.1 r21.1 x12 r22.1)) 41,.map b1 (Ft Value.string (Value.int .i64) (Gw x1 r2.1 (W ((El x1 r2.1 0) + 1)))) (Gw x1 r2.1 (W ((El x1 r2.1 0) + 1))).length,.own v1 41 11 x2.length (x2.flatMap Dx.enc),.blk U [Aa,iV r22.2] 25] [true,true,true,true] rfl).k7 0 5 6 7 8 10 11 rfl
             exact Tn (⟨x6,x9,x7,r20.1,r21.1,r22.1,r22.2,h,S.nf [true,true,true,true] rfl (subR rfl)⟩)
           clear S h;rintro a w61 ⟨x67,x68,x69,x70,x71,x72,x73,h,S⟩;rw [hj11] at h;clear hj11 j11
           exact Tn (⟨r3.1,x67,x68,x69,x70,x71,x72,x73,h,S.nf [true,true,true,true] rfl (subR rfl)⟩)
         clear S h;rintro a w58 ⟨x59,x60,x61,x62,x63,x64,x65,x66,h,S⟩;rw [hj10] at h;clear hj10 j10
         exact Tn (⟨r2.1,El (Gw x1 r2.1 (W ((El x1 r2.1 0) + 1))) r2.1 0,x59,x60,x61,x62,x63,x64,x65,x66,h,S.nf [true,true,true,true] rfl (subR rfl)⟩)
       clear S h;rintro a w52 ⟨x49,x50,x51,x52,x53,x54,x55,x56,x57,x58,h,S⟩;rw [hj9] at h;clear hj9 j9
       exact Hn (Tn (⟨x49,x50,x51,x52,x53,x54,x55,x56,x57,x58,h,S.nf [true,true,true,true] rfl (subR rfl)⟩))
      clear S h;rintro a w51 ⟨x39,x40,x41,x42,x43,x44,x45,x46,x47,x48,h,S⟩;rw [hj8] at h;clear hj8 j8
      exact Tn (⟨x39,x40,x41,x42,x43,x44,x45,x46,x47,x48,h,S.nf [true,true,true,true] rfl (subR rfl)⟩)
     ·exact wp_skip (Tn (⟨r2.1,El (Gw x1 r2.1 (W ((El x1 r2.1 0) + 1))) r2.1 0,r3.1,x6,x9,x7,x10,x11,x13,r12.2,h,S.nf [true,true,true,true] rfl (subR rfl)⟩))
    clear S h;rintro a w49 ⟨x29,x30,x31,x32,x33,x34,x35,x36,x37,x38,h,S⟩;rw [hj7] at h;clear hj7 j7
    refine Tn (Fg (Vm S rfl rfl fun a S=>lv S (Fk isAgg41 sizeOf41 (off:=0) (o:=0) (part:=(Dx.enc (Dx.mk x29 x30 (W (x4 + r1.1)) x31 x32 x33 x34 x35 x36 x12 x37))) rfl rfl (S.tm rfl) (S.cellsAt (i:=0) rfl)) rfl fun a S=>Ff S underlying34 sizeOf41 zeroValue41 rfl rfl (pv:=[(0,.agg (Dx.enc (Dx.mk x29 x30 (W (x4 + r1.1)) x31 x32 x33 x34 x35 x36 x12 x37)).toArray)]) ⟨rfl,(S.tm rfl),trivial⟩ (cs:=[sV x29,iV x30,iV (W (x4 + r1.1)),iV x31,sV x32,sV x33,sV x34,iV x35,iV x36,sV x12,iV x37]) (by kernel_rfl) rfl ?_));clear S;intro a w77 b18 hz18 hk65 S
    obtain ⟨hc1,h⟩:=Ij h
    refine Np La Dx.enc_ok S (S.tm rfl) (i:=3) rfl (S.tm rfl) (j:=0) rfl (ys:=[(Dx.mk x29 x30 (W (x4 + r1.1)) x31 x32 x33 x34 x35 x36 x12 x37)]) rfl rfl rfl rfl (by have:=Ob hc1;omega) rfl ?_;clear S;intro v26 a w78 hk66 S
    exact Va S rfl rfl fun a S=>Ld (Hn (Tn (Fg (Vq S Gf rfl rfl rfl fun a S=>Vm S rfl rfl fun a S=>Dl (⟨m1,⟨(Gw x1 r2.1 (W ((El x1 r2.1 0) + 1))),(x2 ++ [(Dx.mk x29 x30 (W (x4 + r1.1)) x31 x32 x33 x34 x35 x36 x12 x37)]),x38,W (x4 + r1.1),W (x5 + 1),v26,h,S.nf [false,false,true,true,true] rfl ⟨rfl,rfl,rfl,rfl,rfl,rfl,trivial⟩⟩,Nat.lt_succ_self _⟩)))))
   ·exact wp_exit (Ep (Ep (Gr (Tn (⟨x1,x2,x3,v1,h,S.nf [true,true,true] rfl ⟨rfl,trivial⟩⟩)))))
 clear S h;rintro a w3 ⟨x1,x2,x3,v1,h,S⟩;rw [hj1] at h;clear hj1 j1
 refine Tn (Fr (Vm S rfl rfl ?_));clear S;intro a S
 obtain ⟨r23,hr23,h⟩:=Fd h
 refine Mr 1 S rfl (fun _=>.own v1 41 11 r23.length (r23.flatMap Dx.enc)) (fun _=>Ea (vs:=[v1,.func (.func 43) #[] #[]]) ⟨(S.tm rfl),rfl,trivial⟩ call42) (Ru _ v1 x2 (S.holds _ (List.mem_of_getElem? (i:=1) rfl)) _ hr23) rfl (fun _ _ _ h=>⟨h.1,fun _ hc=>hc⟩) ?_;clear S;intro v27 a w79 hv25 hk67 hn25 S
 replace hv25:=hv25.2
 subst hv25
 refine Dz (Vm S rfl rfl fun a S=>Va S rfl rfl fun a S=>Dl (wp_ret ?_))
 obtain rfl:=Option.some.inj h
 exact Eu S results20 rfl ⟨(S.holds _ (List.mem_of_getElem? (i:=2) rfl)),(OV S (i:=1) rfl (fun c hc hh=>DZ S (i:=2) rfl rfl (j:=1) rfl rfl (by simp at hc;subst hc;exact hh)))⟩
theorem Rq (w : World) (Ba : Int) (Bn : Int) (Bh : Int) (r : Bool) (h : Le Ba Bn Bh = r) :
    Calls prog 84 [iV Ba,iV Bn,iV Bh].toArray w (Ret w [] fun _ v _=>v = bV r):=by
 refine Fe func84 rfl ntmps84 rfl fun a S=>?_
 unfold Le at h
 replace S:=S.k3 0 1 2 rfl
 refine Fr (Vk S rfl rfl fun a S=>Dz (Vm S rfl rfl fun a S=>Vm S rfl rfl fun a S=>Vb S Us rfl rfl rfl fun a S=>Vm S rfl rfl ?_));clear S;intro a S
 refine Ib 4 (fun a w'=>Keep [] w w' ∧ Sx w [] nov [] [(14,bV ((decide (Bn ≤ Ba)) && (decide (Ba ≤ Bh))))] 15 a w') ?_ ?_
 ·rcases Bool.eq_false_or_eq_true (decide (Bn ≤ Ba)) with hb1 | hb1
  ·exact Ef S rfl rfl rfl hb1 (Vm S rfl rfl fun a S=>Ef S rfl rfl rfl hb1 (Vm S rfl rfl fun a S=>Ef S rfl rfl rfl hb1 (Vb S Us rfl rfl rfl fun a S=>lv S (Hz hb1 (S.tm rfl) (S.tm rfl)) rfl fun a S=>Dl (⟨Keep.refl _ _,S.nf [] rfl ⟨rfl,trivial⟩⟩))))
  ·iterate 3 (refine Hh S rfl rfl rfl (Jw hb1) rfl ?_ rfl;clear S;intro a S)
   exact lv S (Ia (decide (Ba ≤ Bh)) hb1 (S.tm rfl) rfl) rfl fun a S=>Dl (⟨Keep.refl _ _,S.nf [] rfl ⟨rfl,trivial⟩⟩)
 clear S;rintro a w1 ⟨hk1,S⟩
 refine Va S rfl rfl fun a S=>Dl (wp_ret ?_)
 subst h
 exact Eu S results84 rfl rfl
theorem DH (w : World) (s : ByteArray) (c : Int) (r : Int) (h : Uk s c = r) : Calls prog 152 [.string s,.int .u8 c].toArray w (Ret w [] fun _ v _=>v = .int .i64 r):=by
  subst h
  exact II (Any.strings_IndexByte Tryz.lays137 s c w)
theorem AP (w : World) (Av : ByteArray) (Da : ByteArray) (r : Bool) (h : Ue Av Da = some r) :
    Calls prog 124 [sV Av,sV Da].toArray w (Ret w [] fun _ v _=>v = bV r):=by
 refine Fe func124 rfl ntmps124 rfl fun a S=>?_
 unfold Ue at h
 replace S:=S.k2 0 1 rfl
 refine Fr (Vk S rfl rfl fun a S=>Dl (Fs (Fr (Vm S rfl rfl fun a S=>Vu S (BE underlying9) rfl rfl fun a S=>lv S (Rm rfl) rfl ?_))));clear S;intro a S
 refine Dl ?_
 replace S:=S.k4 0 1 7 8 rfl
 obtain ⟨j1,hj1,h⟩:=Ey h
 refine Es (fun a w'=>j1 = some r ∧ Sx w [] nov [] [] 18 a w') ?_ ?_
 ·refine wp_block (Gz (fun (m1 : Nat) a w'=>∃ x1 : Int,Mh Av Da j1 m1 x1 = some r ∧ Sx w [] nov [] [(0,sV Av),(1,sV Da),(7,iV (Av.size : Int)),(8,iV x1)] 18 a w') id (((Av.size : Int) - 0).toNat + 2) ⟨0,h,S.nf [] rfl (subR rfl)⟩ ?_)
  clear S h;rintro m1 a w1 ⟨x1,h,S⟩
  cases m1 with
  | zero=>rw [Mh.eq_1] at h;cases h
  | succ m1 =>
   rw [Mh.eq_2] at h
   refine Fr (Vb S Ev rfl rfl rfl fun a S=>Dl (Fs (Fc h (S.tm rfl) (fun hb1 h=>?_) (fun hb1 h=>?_))))
   ·refine wp_skip (Tn (Fs (wp_block (Fr (Vm S rfl rfl fun a S=>Va S rfl rfl fun a S=>Dl (Fs ?_))))))
    refine Fg ?_
    iterate 3 (refine Vm S rfl rfl ?_;clear S;intro a S)
    obtain ⟨hc1,h⟩:=Ij h
    refine lv S (Zd underlying9 (S.tm rfl) (S.tm rfl) hc1) rfl fun a S=>Ei S (fun _=>Ea (vs:=[sV Da,.int .u8 (Zs Av x1)]) ⟨(S.tm rfl),(S.tm rfl),trivial⟩ call152) (DH _ Da (Zs Av x1) _ rfl) rfl ?_;clear S;intro v1 a w3 hv1 hk1 hn1 S
    subst hv1
    refine Vq S Ev rfl rfl rfl fun a S=>Dl (Fc h (S.tm rfl) (fun hb2 h=>?_) (fun hb2 h=>?_))
    ·refine Fr (Vk S rfl rfl fun a S=>Dl (wp_ret (Ga (Ec (Ec (Ga (Ec ?_)))))))
     refine Ec ?_
     obtain rfl:=Option.some.inj h
     exact Eu S results124 rfl rfl
    ·exact wp_skip (Hn (Tn (Fg (Vq S Gf rfl rfl rfl fun a S=>Vm S rfl rfl fun a S=>Dl (⟨m1,⟨W (x1 + 1),h,S.nf [] rfl ⟨rfl,rfl,rfl,rfl,trivial⟩⟩,Nat.lt_succ_self _⟩)))))
   ·exact wp_exit (Ep (Ep (Gr (Tn (⟨h,S.nf [] rfl trivial⟩)))))
 clear S h;rintro a w2 ⟨h,S⟩;rw [hj1] at h;clear hj1 j1
 refine Tn (Fr (Vk S rfl rfl fun a S=>Dl (wp_ret ?_)))
 obtain rfl:=Option.some.inj h
 exact Eu S results124 rfl rfl
theorem Ua (w : World) (Av : ByteArray) (r : Bool) (h : Pz Av = some r) :
    Calls prog 83 [sV Av].toArray w (Ret w [] fun _ v _=>v = bV r):=by
 refine Fe func83 rfl ntmps83 rfl fun a S=>?_
 unfold Pz at h
 replace S:=S.k1 0 rfl
 refine Fr (Vk S rfl rfl fun a S=>Dz (Vm S rfl rfl fun a S=>Vu S (BE underlying9) rfl rfl fun a S=>Ei S (fun _=>Ea (vs:=[iV (Av.size : Int),iV 1,iV 40]) ⟨(S.tm rfl),rfl,rfl,trivial⟩ call84) (Rq _ (Av.size : Int) 1 40 _ rfl) rfl ?_));clear S;intro v1 a w1 hv1 hk1 hn1 S
 subst hv1
 refine Vm S rfl rfl ?_;clear S;intro a S
 obtain ⟨j1,hj1,h⟩:=Ey h
 refine Ib 4 (fun a w'=>∃ c1,j1 c1 = some r ∧ Keep [] w1 w' ∧ Sx w [] nov [] [(0,sV Av),(10,bV c1)] 15 a w') ?_ ?_
 ·rcases Bool.eq_false_or_eq_true (Le (Av.size : Int) 1 40) with hb1 | hb1
  ·replace h:=Rg h hb1
   refine Ef S rfl rfl rfl hb1 (Vm S rfl rfl fun a S=>Ef S rfl rfl rfl hb1 ?_)
   obtain ⟨hc1,h⟩:=Ij h
   refine lv S (UZ underlying9 (S.tm rfl) rfl hc1) rfl fun a S=>Ef S rfl rfl rfl hb1 ?_
   obtain ⟨r1,hr1,h⟩:=Fd h
   refine Ei S (fun _=>Ea (vs:=[sV (OQ Av 0 1),sV Lo]) ⟨(S.tm rfl),rfl,trivial⟩ call124) (AP _ (OQ Av 0 1) Lo _ hr1) rfl ?_;clear S;intro v2 a w3 hv2 hk2 hn2 S
   subst hv2
   exact lv S (Hz hb1 (S.tm rfl) (S.tm rfl)) rfl fun a S=>Dl (⟨_,h,hk2,S.nf [] rfl (subR rfl)⟩)
  ·replace h:=Rh h hb1
   iterate 3 (refine Hh S rfl rfl rfl (Jw hb1) rfl ?_ rfl;clear S;intro a S)
   exact Vq S (Ia true hb1) rfl rfl rfl fun a S=>Dl (⟨_,h,Keep.refl _ _,S.nf [] rfl (subR rfl)⟩)
 clear S h;rintro a w2 ⟨c1,h,hk3,S⟩;rw [hj1] at h;clear hj1 j1
 refine Vm S rfl rfl ?_;clear S;intro a S
 obtain ⟨j2,hj2,h⟩:=Ey h
 refine Ib 3 (fun a w'=>∃ c2,j2 c2 = some r ∧ Keep [] w2 w' ∧ Sx w [] nov [] [(14,bV c2)] 15 a w') ?_ ?_
 ·rcases Bool.eq_false_or_eq_true c1 with hb2 | hb2
  ·replace h:=Rg h hb2
   refine Ef S rfl rfl rfl hb2 (Vm S rfl rfl fun a S=>Ef S rfl rfl rfl hb2 ?_)
   obtain ⟨r2,hr2,h⟩:=Fd h
   refine Ei S (fun _=>Ea (vs:=[sV Av,sV Io]) ⟨(S.tm rfl),rfl,trivial⟩ call124) (AP _ Av Io _ hr2) rfl ?_;clear S;intro v3 a w5 hv3 hk4 hn3 S
   subst hv3
   exact lv S (Hz hb2 (S.tm rfl) (S.tm rfl)) rfl fun a S=>Dl (⟨_,h,hk4,S.nf [] rfl ⟨rfl,trivial⟩⟩)
  ·replace h:=Rh h hb2
   exact Hh S rfl rfl rfl (Jw hb2) rfl (fun a S=>Hh S rfl rfl rfl (Jw hb2) rfl (fun a S=>Vq S (Ia true hb2) rfl rfl rfl fun a S=>Dl (⟨_,h,Keep.refl _ _,S.nf [] rfl ⟨rfl,trivial⟩⟩)) rfl) rfl
 clear S h;rintro a w4 ⟨c2,h,hk5,S⟩;rw [hj2] at h;clear hj2 j2
 refine Va S rfl rfl fun a S=>Dl (wp_ret ?_)
 obtain rfl:=Option.some.inj h
 exact Eu S results83 rfl rfl
theorem FN (w : World) (Bf : Int) (r : Bool) (h : Qo Bf = r) :
    Calls prog 85 [iV Bf].toArray w (Ret w [] fun _ v _=>v = bV r):=by
 refine Fe func85 rfl ntmps85 rfl fun a S=>?_
 unfold Qo at h
 replace S:=S.k1 0 rfl
 refine Fr (Vk S rfl rfl fun a S=>Dz (Vm S rfl rfl fun a S=>Ei S (fun _=>Ea (vs:=[iV Bf,iV 0,iV 345686399999]) ⟨(S.tm rfl),rfl,rfl,trivial⟩ call84) (Rq _ Bf 0 345686399999 _ rfl) rfl ?_));clear S;intro v1 a w1 hv1 hk1 hn1 S
 subst hv1
 refine Va S rfl rfl fun a S=>Dl (wp_ret ?_)
 subst h
 exact Eu S results85 rfl rfl
theorem CE (w : World) (Ah : Dx) (r : Int) (h : Rl Ah = some r) :
    Calls prog 44 [.agg (Dx.enc Ah).toArray].toArray w (Ret w [] fun _ v _=>v = iV r):=by
 refine Fe func44 rfl ntmps44 rfl fun a S=>?_
 unfold Rl at h
 replace S:=S.k1 0 rfl
 refine Fr (Mx S (S.tm rfl) (cs:=(Dx.enc Ah)) rfl rfl ?_);clear S;intro a w1 b1 hz1 hk1 S
 refine Vk S rfl rfl fun a S=>Dl (Fs (wp_block (Fr (Vf Sy S rfl rfl fun a S=>Vl isAgg9 0 S rfl rfl rfl rfl ?_))));clear S;intro a S
 obtain ⟨r1,hr1,h⟩:=Fd h
 refine Ei S (fun _=>Ea (vs:=[sV Ah.Site]) ⟨(S.tm rfl),trivial⟩ call83) (Ua _ Ah.Site _ hr1) rfl ?_;clear S;intro v1 a w2 hv1 hk2 hn1 S
 subst hv1
 refine Vu S Hv rfl rfl fun a S=>Va S rfl rfl fun a S=>Dl (Fc h (S.tm rfl) (fun hb1 h=>?_) (fun hb1 h=>?_))
 ·refine Fr (Vk S rfl rfl fun a S=>Dl (wp_ret (Ga (Ec ?_))))
  obtain rfl:=Option.some.inj h
  exact Eu S results44 rfl rfl
 ·refine Fr (Vf Vi S rfl rfl fun a S=>Vl isAgg3 0 S rfl rfl rfl rfl fun a S=>Ei S (fun _=>Ea (vs:=[iV Ah.No,iV 1,iV 1000000]) ⟨(S.tm rfl),rfl,rfl,trivial⟩ call84) (Rq _ Ah.No 1 1000000 _ rfl) rfl ?_);clear S;intro v2 a w3 hv2 hk3 hn2 S
  subst hv2
  refine Vu S Hv rfl rfl fun a S=>Vm S rfl rfl fun a S=>Ib 5 (fun a w'=>Keep [] w3 w' ∧ Sx w [] nov [.blk b1 (Dx.enc Ah) 41] [(1,.pointer (some ⟨b1,0,none⟩)),(19,bV ((!(Le Ah.No 1 1000000)) || (!(Qo Ah.At))))] 117 a w') ?_ ?_
  ·rcases Bool.eq_false_or_eq_true (!(Le Ah.No 1 1000000)) with hb2 | hb2
   ·iterate 4 (refine Hh S rfl rfl rfl (Nm hb2) rfl ?_ rfl;clear S;intro a S)
    exact lv S (Lj (!(Qo Ah.At)) hb2 (S.tm rfl) rfl) rfl fun a S=>Dl (⟨Keep.refl _ _,S.nf [true] rfl (subR rfl)⟩)
   ·refine Ef S rfl rfl rfl hb2 (Vf Wg S rfl rfl fun a S=>Ef S rfl rfl rfl hb2 (Vl isAgg3 0 S rfl rfl rfl rfl fun a S=>Ef S rfl rfl rfl hb2 (Ei S (fun _=>Ea (vs:=[iV Ah.At]) ⟨(S.tm rfl),trivial⟩ call85) (FN _ Ah.At _ rfl) rfl ?_)));clear S;intro v3 a w5 hv3 hk4 hn3 S
    subst hv3
    exact Ef S rfl rfl rfl hb2 (Vu S Hv rfl rfl fun a S=>lv S (Lk hb2 (S.tm rfl) (S.tm rfl)) rfl fun a S=>Dl (⟨hk4,S.nf [true] rfl (subR rfl)⟩))
  clear S;rintro a w4 ⟨hk5,S⟩
  refine Va S rfl rfl fun a S=>Dl (Fc h (S.tm rfl) (fun hb3 h=>?_) (fun hb3 h=>?_))
  ·refine Fr (Vk S rfl rfl fun a S=>Dl (wp_ret (Ga (Ec ?_))))
   obtain rfl:=Option.some.inj h
   exact Eu S results44 rfl rfl
  ·refine Fr (Vf Qu S rfl rfl fun a S=>Vl isAgg3 0 S rfl rfl rfl rfl fun a S=>Ei S (fun _=>Ea (vs:=[iV Ah.Kind,iV 1,iV 4]) ⟨(S.tm rfl),rfl,rfl,trivial⟩ call84) (Rq _ Ah.Kind 1 4 _ rfl) rfl ?_);clear S;intro v4 a w6 hv4 hk6 hn4 S
   subst hv4
   refine Vu S Hv rfl rfl fun a S=>Va S rfl rfl fun a S=>Dl (Fc h (S.tm rfl) (fun hb4 h=>?_) (fun hb4 h=>?_))
   ·refine Fr (Vk S rfl rfl fun a S=>Dl (wp_ret (Ga (Ec ?_))))
    obtain rfl:=Option.some.inj h
    exact Eu S results44 rfl rfl
   ·refine wp_skip (Hn (Tn (Fr (Vf Sy S rfl rfl fun a S=>Vl isAgg9 0 S rfl rfl rfl rfl fun a S=>Vf Vi S rfl rfl fun a S=>Vl isAgg3 0 S rfl rfl rfl rfl fun a S=>Vf Wg S rfl rfl fun a S=>Vl isAgg3 0 S rfl rfl rfl rfl ?_))));clear S;intro a S
    refine Vf Qu S rfl rfl fun a S=>Vl isAgg3 0 S rfl rfl rfl rfl fun a S=>lv S (Nl XE (pv:=[(0,sV Ah.Site),(1,iV Ah.No),(2,iV Ah.At),(3,iV Ah.Kind)]) ⟨rfl,(S.tm rfl),rfl,(S.tm rfl),rfl,(S.tm rfl),rfl,(S.tm rfl),trivial⟩ (cs:=[sV Ah.Site,iV Ah.No,iV Ah.At,iV Ah.Kind,sV An,sV An,sV An,iV 0,iV 0,sV An,iV 0]) (by kernel_rfl)) rfl fun a S=>Hu S zeroValue41 (cs:=[sV An,iV 0,iV 0,iV 0,sV An,sV An,sV An,iV 0,iV 0,sV An,iV 0]) rfl rfl ?_;clear S;intro a w7 b2 hz2 hk7 S
    refine Fj S (S.tm rfl) (S.tm rfl) (i:=0) (off:=0) rfl sizeOf41 (vs:=(Dx.enc (Dx.mk Ah.Site Ah.No Ah.At Ah.Kind An An An 0 0 An 0))) rfl rfl rfl rfl ?_;clear S;intro w8 hk8 S
    refine Ld ?_
    replace S:=(S.nl [.blk b2 (Dx.enc (Dx.mk Ah.Site Ah.No Ah.At Ah.Kind An An An 0 0 An 0)) 41,.blk b1 (Dx.enc Ah) 41] [true,true] rfl).k2 1 3 rfl
    refine Tn (Fs (Fr (Vf Qu S rfl rfl fun a S=>Vl isAgg3 1 S rfl rfl rfl rfl fun a S=>Vq S Jh rfl rfl rfl fun a S=>Dl ?_)))
    obtain ⟨j1,hj1,h⟩:=Ey h
    refine Es (fun a w'=>∃ x1 : ByteArray,∃ x2 : ByteArray,∃ x3 : ByteArray,∃ x4 : Int,j1 x1 x2 x3 x4 = some r ∧ Sx w [] nov [.blk b2 (Dx.enc (Dx.mk Ah.Site Ah.No Ah.At Ah.Kind x1 An x2 0 0 x3 x4)) 41,.blk b1 (Dx.enc Ah) 41] [(1,.pointer (some ⟨b1,0,none⟩)),(3,.pointer (some ⟨b2,0,none⟩))] 117 a w') ?_ ?_
    ·refine Fc h (S.tm rfl) (fun hb5 h=>?_) (fun hb5 h=>?_)
     ·refine Fs (Hd [] ([b2]) Tryz.mixed S rfl (by kernel_rfl) ?_);clear S;intro w12 hk11 hsel S
      refine Ek 0 S hsel rfl rfl rfl (by kernel_rfl) (by kernel_rfl) rfl (fun _ hw=>(Gv Zz (S.tm rfl))) fun a S=>Ek 1 S hsel rfl rfl rfl (by kernel_rfl) (by kernel_rfl) rfl (fun _ hw=>(Ic isAgg9 (off:=0) (o:=9) (S.tm rfl) ((S.blk_mem (i:=1) (cells:=(Dx.enc Ah)) (b:=b1) (T:=41) rfl (My (i:=0) (j:=1) (e:=.blk b2 (Dx.enc (Dx.mk Ah.Site Ah.No Ah.At Ah.Kind An An An 0 0 An 0)) 41) (e':=.blk b1 (Dx.enc Ah) 41) S rfl rfl rfl)).kept hw) rfl)) fun a S=>Ek 2 S hsel rfl rfl rfl (by kernel_rfl) (by kernel_rfl) rfl (fun _ hw=>(Gv Xd (S.tm rfl))) fun a S=>Ek 3 S hsel rfl rfl rfl (by kernel_rfl) (by kernel_rfl) rfl (fun _ hw=>(Ic isAgg3 (off:=0) (o:=10) (S.tm rfl) ((S.blk_mem (i:=1) (cells:=(Dx.enc Ah)) (b:=b1) (T:=41) rfl (My (i:=0) (j:=1) (e:=.blk b2 (Dx.enc (Dx.mk Ah.Site Ah.No Ah.At Ah.Kind An An An 0 0 An 0)) 41) (e':=.blk b1 (Dx.enc Ah) 41) S rfl rfl rfl)).kept hw) rfl)) fun a S=>Ek 4 S hsel rfl rfl rfl (by kernel_rfl) (by kernel_rfl) rfl (fun _ hw=>(Gv Zz (S.tm rfl))) fun a S=>Hi 5 (by kernel_rfl) rfl (Fj S (S.tm rfl) (S.tm rfl) (i:=0) (off:=9) rfl sizeOf9 (vs:=[sV Ah.Of]) rfl rfl rfl rfl ?_);clear S;intro w13 hk12 S
      refine Ld (Ik hk12 (Ek 6 S hsel rfl rfl rfl (by kernel_rfl) (by kernel_rfl) rfl (fun _ hw=>(Gv Xd (S.tm rfl))) fun a S=>Hi 7 (by kernel_rfl) rfl (Fj S (S.tm rfl) (S.tm rfl) (i:=0) (off:=10) rfl sizeOf3 (vs:=[iV Ah.Other]) rfl rfl rfl rfl ?_)));clear S;intro w14 hk13 S
      refine Ld (Ik hk13 (Wl (by kernel_rfl) ?_))
      clear hsel
      replace S:=(S.nl [.blk b2 (Dx.enc (Dx.mk Ah.Site Ah.No Ah.At Ah.Kind An An An 0 0 Ah.Of Ah.Other)) 41,.blk b1 (Dx.enc Ah) 41] [true,true] rfl).k2 1 3 rfl
      refine Tn (Fs (Fr (Vf Zz S rfl rfl fun a S=>Vl isAgg9 1 S rfl rfl rfl rfl ?_)));clear S;intro a S
      obtain ⟨r2,hr2,h⟩:=Fd h
      refine Ei S (fun _=>Ea (vs:=[sV Ah.Of]) ⟨(S.tm rfl),trivial⟩ call83) (Ua _ Ah.Of _ hr2) rfl ?_;clear S;intro v5 a w15 hv5 hk14 hn5 S
      subst hv5
      refine Vu S Hv rfl rfl fun a S=>Dl (Fc h (S.tm rfl) (fun hb6 h=>?_) (fun hb6 h=>?_))
      ·refine Fr (Vk S rfl rfl fun a S=>Dl (wp_ret ?_))
       iterate 3 (refine Ec ?_)
       obtain rfl:=Option.some.inj h
       exact Eu S results44 rfl rfl
      ·refine wp_skip (Tn (Fr (Vf Xd S rfl rfl fun a S=>Vl isAgg3 1 S rfl rfl rfl rfl fun a S=>Ei S (fun _=>Ea (vs:=[iV Ah.Other,iV 1,iV 1000000]) ⟨(S.tm rfl),rfl,rfl,trivial⟩ call84) (Rq _ Ah.Other 1 1000000 _ rfl) rfl ?_)));clear S;intro v6 a w16 hv6 hk15 hn6 S
       subst hv6
       refine Vu S Hv rfl rfl fun a S=>Dl (Fc h (S.tm rfl) (fun hb7 h=>?_) (fun hb7 h=>?_))
       ·refine Fr (Vk S rfl rfl fun a S=>Dl (wp_ret (Ec (Ec ?_))))
        obtain rfl:=Option.some.inj h
        exact Eu S results44 rfl rfl
       ·exact wp_skip (Tn (⟨An,An,Ah.Of,Ah.Other,h,S.nf [true,true] rfl (subR rfl)⟩))
     ·refine Fs (Hd [] ([b2]) Tryz.mixed S rfl (by kernel_rfl) ?_);clear S;intro w19 hk18 hsel S
      refine Ek 0 S hsel rfl rfl rfl (by kernel_rfl) (by kernel_rfl) rfl (fun _ hw=>(Gv Qc (S.tm rfl))) fun a S=>Ek 1 S hsel rfl rfl rfl (by kernel_rfl) (by kernel_rfl) rfl (fun _ hw=>(Ic isAgg9 (off:=0) (o:=4) (S.tm rfl) ((S.blk_mem (i:=1) (cells:=(Dx.enc Ah)) (b:=b1) (T:=41) rfl (My (i:=0) (j:=1) (e:=.blk b2 (Dx.enc (Dx.mk Ah.Site Ah.No Ah.At Ah.Kind An An An 0 0 An 0)) 41) (e':=.blk b1 (Dx.enc Ah) 41) S rfl rfl rfl)).kept hw) rfl)) fun a S=>Ek 2 S hsel rfl rfl rfl (by kernel_rfl) (by kernel_rfl) rfl (fun _ hw=>(Gv Un (S.tm rfl))) fun a S=>Ek 3 S hsel rfl rfl rfl (by kernel_rfl) (by kernel_rfl) rfl (fun _ hw=>(Ic isAgg9 (off:=0) (o:=6) (S.tm rfl) ((S.blk_mem (i:=1) (cells:=(Dx.enc Ah)) (b:=b1) (T:=41) rfl (My (i:=0) (j:=1) (e:=.blk b2 (Dx.enc (Dx.mk Ah.Site Ah.No Ah.At Ah.Kind An An An 0 0 An 0)) 41) (e':=.blk b1 (Dx.enc Ah) 41) S rfl rfl rfl)).kept hw) rfl)) fun a S=>Ek 4 S hsel rfl rfl rfl (by kernel_rfl) (by kernel_rfl) rfl (fun _ hw=>(Gv Qc (S.tm rfl))) fun a S=>Hi 5 (by kernel_rfl) rfl (Fj S (S.tm rfl) (S.tm rfl) (i:=0) (off:=4) rfl sizeOf9 (vs:=[sV Ah.Who]) rfl rfl rfl rfl ?_);clear S;intro w20 hk19 S
      refine Ld (Ik hk19 (Ek 6 S hsel rfl rfl rfl (by kernel_rfl) (by kernel_rfl) rfl (fun _ hw=>(Gv Un (S.tm rfl))) fun a S=>Hi 7 (by kernel_rfl) rfl (Fj S (S.tm rfl) (S.tm rfl) (i:=0) (off:=6) rfl sizeOf9 (vs:=[sV Ah.Race]) rfl rfl rfl rfl ?_)));clear S;intro w21 hk20 S
      refine Ld (Ik hk20 (Wl (by kernel_rfl) ?_))
      clear hsel
      replace S:=(S.nl [.blk b2 (Dx.enc (Dx.mk Ah.Site Ah.No Ah.At Ah.Kind Ah.Who An Ah.Race 0 0 An 0)) 41,.blk b1 (Dx.enc Ah) 41] [true,true] rfl).k2 1 3 rfl
      refine Tn (Fr (Vf Qc S rfl rfl fun a S=>Vl isAgg9 1 S rfl rfl rfl rfl ?_));clear S;intro a S
      obtain ⟨r3,hr3,h⟩:=Fd h
      refine Ei S (fun _=>Ea (vs:=[sV Ah.Who]) ⟨(S.tm rfl),trivial⟩ call83) (Ua _ Ah.Who _ hr3) rfl ?_;clear S;intro v7 a w22 hv7 hk21 hn7 S
      subst hv7
      refine Vu S Hv rfl rfl fun a S=>Vm S rfl rfl ?_;clear S;intro a S
      obtain ⟨j2,hj2,h⟩:=Ey h
      refine Ib 5 (fun a w'=>∃ c1,j2 c1 = some r ∧ Keep [] w22 w' ∧ Sx w [] nov [.blk b2 (Dx.enc (Dx.mk Ah.Site Ah.No Ah.At Ah.Kind Ah.Who An Ah.Race 0 0 An 0)) 41,.blk b1 (Dx.enc Ah) 41] [(1,.pointer (some ⟨b1,0,none⟩)),(3,.pointer (some ⟨b2,0,none⟩)),(66,bV c1)] 117 a w') ?_ ?_
      ·rcases Bool.eq_false_or_eq_true (!r3) with hb8 | hb8
       ·replace h:=Rg h hb8
        iterate 4 (refine Hh S rfl rfl rfl (Nm hb8) rfl ?_ rfl;clear S;intro a S)
        exact Vq S (Lj true hb8) rfl rfl rfl fun a S=>Dl (⟨_,h,Keep.refl _ _,S.nf [true,true] rfl (subR rfl)⟩)
       ·replace h:=Rh h hb8
        refine Ef S rfl rfl rfl hb8 (Vf Un S rfl rfl fun a S=>Ef S rfl rfl rfl hb8 (Vl isAgg9 1 S rfl rfl rfl rfl fun a S=>Ef S rfl rfl rfl hb8 ?_))
        obtain ⟨r4,hr4,h⟩:=Fd h
        refine Ei S (fun _=>Ea (vs:=[sV Ah.Race]) ⟨(S.tm rfl),trivial⟩ call83) (Ua _ Ah.Race _ hr4) rfl ?_;clear S;intro v8 a w24 hv8 hk22 hn8 S
        subst hv8
        exact Ef S rfl rfl rfl hb8 (Vu S Hv rfl rfl fun a S=>lv S (Lk hb8 (S.tm rfl) (S.tm rfl)) rfl fun a S=>Dl (⟨_,h,hk22,S.nf [true,true] rfl (subR rfl)⟩))
      clear S h;rintro a w23 ⟨c1,h,hk23,S⟩;rw [hj2] at h;clear hj2 j2
      refine Vm S rfl rfl ?_;clear S;intro a S
      obtain ⟨j3,hj3,h⟩:=Ey h
      refine Ib 15 (fun a w'=>∃ c2,j3 c2 = some r ∧ Keep [] w23 w' ∧ Sx w [] nov [.blk b2 (Dx.enc (Dx.mk Ah.Site Ah.No Ah.At Ah.Kind Ah.Who An Ah.Race 0 0 An 0)) 41,.blk b1 (Dx.enc Ah) 41] [(1,.pointer (some ⟨b1,0,none⟩)),(3,.pointer (some ⟨b2,0,none⟩)),(82,bV c2)] 117 a w') ?_ ?_
      ·rcases Bool.eq_false_or_eq_true c1 with hb9 | hb9
       ·replace h:=Rg h hb9
        iterate 4 (refine Hh S rfl rfl rfl (Nm hb9) rfl ?_ rfl;clear S;intro a S)
        iterate 3 (refine BF S rfl rfl rfl rfl ?_;clear S;intro a S)
        refine Hh S rfl rfl rfl (Nm hb9) rfl (fun a S=>Hh S rfl rfl rfl (Nm hb9) rfl ?_ rfl) rfl;clear S;intro a S
        iterate 4 (refine BF S rfl rfl rfl rfl ?_;clear S;intro a S)
        exact Hh S rfl rfl rfl (Nm hb9) rfl (fun a S=>Vq S (Lj true hb9) rfl rfl rfl fun a S=>Dl (⟨_,h,Keep.refl _ _,S.nf [true,true] rfl (subR rfl)⟩)) rfl
       ·replace h:=Rh h hb9
        refine Ef S rfl rfl rfl hb9 (Vf Qu S rfl rfl fun a S=>Ef S rfl rfl rfl hb9 (Vl isAgg3 1 S rfl rfl rfl rfl fun a S=>Ef S rfl rfl rfl hb9 (Vq S Jh rfl rfl rfl fun a S=>Ef S rfl rfl rfl hb9 (Vm S rfl rfl fun a S=>Ib 4 (fun a w'=>Keep [] w23 w' ∧ Sx w [] nov [.blk b2 (Dx.enc (Dx.mk Ah.Site Ah.No Ah.At Ah.Kind Ah.Who An Ah.Race 0 0 An 0)) 41,.blk b1 (Dx.enc Ah) 41] [(1,.pointer (some ⟨b1,0,none⟩)),(3,.pointer (some ⟨b2,0,none⟩)),(67,bV c1),(75,bV ((decide (Ah.Kind = 1)) && (!decide (Ah.Club = An))))] 117 a w') ?_ ?_))))
        ·rcases Bool.eq_false_or_eq_true (decide (Ah.Kind = 1)) with hb10 | hb10
         ·exact Ef S rfl rfl rfl hb10 (Vf Um S rfl rfl fun a S=>Ef S rfl rfl rfl hb10 (Vl isAgg9 1 S rfl rfl rfl rfl fun a S=>Ef S rfl rfl rfl hb10 (Vq S Zt rfl rfl rfl fun a S=>Ef S rfl rfl rfl hb9 (lv S (Hz hb10 (S.tm rfl) (S.tm rfl)) rfl fun a S=>Dl (⟨Keep.refl _ _,S.nf [true,true] rfl (subR rfl)⟩)))))
         ·iterate 3 (refine Hh S rfl rfl rfl (Jw hb10) rfl ?_ rfl;clear S;intro a S)
          exact Ef S rfl rfl rfl hb9 (lv S (Ia (!decide (Ah.Club = An)) hb10 (S.tm rfl) rfl) rfl fun a S=>Dl (⟨Keep.refl _ _,S.nf [true,true] rfl (subR rfl)⟩))
        clear S;rintro a w26 ⟨hk24,S⟩
        refine Ef S rfl rfl rfl hb9 (Vm S rfl rfl ?_);clear S;intro a S
        obtain ⟨j4,hj4,h⟩:=Ey h
        refine Ib 5 (fun a w'=>∃ c3,j4 c3 = some r ∧ Keep [] w26 w' ∧ Sx w [] nov [.blk b2 (Dx.enc (Dx.mk Ah.Site Ah.No Ah.At Ah.Kind Ah.Who An Ah.Race 0 0 An 0)) 41,.blk b1 (Dx.enc Ah) 41] [(1,.pointer (some ⟨b1,0,none⟩)),(3,.pointer (some ⟨b2,0,none⟩)),(67,bV c1),(81,bV c3)] 117 a w') ?_ ?_
        ·rcases Bool.eq_false_or_eq_true ((decide (Ah.Kind = 1)) && (!decide (Ah.Club = An))) with hb11 | hb11
         ·replace h:=Rg h hb11
          refine Ef S rfl rfl rfl hb11 (Vf Um S rfl rfl fun a S=>Ef S rfl rfl rfl hb11 (Vl isAgg9 1 S rfl rfl rfl rfl fun a S=>Ef S rfl rfl rfl hb11 ?_))
          obtain ⟨r5,hr5,h⟩:=Fd h
          refine Ei S (fun _=>Ea (vs:=[sV Ah.Club]) ⟨(S.tm rfl),trivial⟩ call83) (Ua _ Ah.Club _ hr5) rfl ?_;clear S;intro v9 a w28 hv9 hk25 hn9 S
          subst hv9
          exact Ef S rfl rfl rfl hb11 (Vu S Hv rfl rfl fun a S=>Ef S rfl rfl rfl hb9 (lv S (Hz hb11 (S.tm rfl) (S.tm rfl)) rfl fun a S=>Dl (⟨_,h,hk25,S.nf [true,true] rfl (subR rfl)⟩)))
         ·replace h:=Rh h hb11
          iterate 4 (refine Hh S rfl rfl rfl (Jw hb11) rfl ?_ rfl;clear S;intro a S)
          exact Ef S rfl rfl rfl hb9 (Vq S (Ia true hb11) rfl rfl rfl fun a S=>Dl (⟨_,h,Keep.refl _ _,S.nf [true,true] rfl (subR rfl)⟩))
        clear S h;rintro a w27 ⟨c3,h,hk26,S⟩;rw [hj4] at h;clear hj4 j4
        exact lv S (Lk hb9 (S.tm rfl) (S.tm rfl)) rfl fun a S=>Dl (⟨_,h,(hk24).trans hk26,S.nf [true,true] rfl (subR rfl)⟩)
      clear S h;rintro a w25 ⟨c2,h,hk27,S⟩;rw [hj3] at h;clear hj3 j3
      refine Dl (Fc h (S.tm rfl) (fun hb12 h=>?_) (fun hb12 h=>?_))
      ·refine Fr (Vk S rfl rfl fun a S=>Dl (wp_ret (Ec (Ec ?_))))
       obtain rfl:=Option.some.inj h
       exact Eu S results44 rfl rfl
      ·exact wp_skip (Tn (⟨Ah.Who,Ah.Race,An,0,h,S.nf [true,true] rfl (subR rfl)⟩))
    clear S h;rintro a w9 ⟨x1,x2,x3,x4,h,S⟩;rw [hj1] at h;clear hj1 j1
    refine Tn (Fs (Fr (Vf Qu S rfl rfl fun a S=>Vl isAgg3 1 S rfl rfl rfl rfl fun a S=>Vq S Jh rfl rfl rfl fun a S=>Dl ?_)))
    obtain ⟨j5,hj5,h⟩:=Ey h
    refine Es (fun a w'=>∃ x5 : ByteArray,j5 x5 = some r ∧ Sx w [] nov [.blk b2 (Dx.enc (Dx.mk Ah.Site Ah.No Ah.At Ah.Kind x1 x5 x2 0 0 x3 x4)) 41,.blk b1 (Dx.enc Ah) 41] [(1,.pointer (some ⟨b1,0,none⟩)),(3,.pointer (some ⟨b2,0,none⟩))] 117 a w') ?_ ?_
    ·refine Fc h (S.tm rfl) (fun hb13 h=>?_) (fun hb13 h=>?_)
     ·refine Fg (Vf Um S rfl rfl fun a S=>Vl isAgg9 1 S rfl rfl rfl rfl fun a S=>Vf Um S rfl rfl fun a S=>Fj S (S.tm rfl) (S.tm rfl) (i:=0) (off:=5) rfl sizeOf9 (vs:=[sV Ah.Club]) rfl rfl rfl rfl ?_);clear S;intro w30 hk28 S
      exact Dl (⟨Ah.Club,h,S.nf [true,true] rfl (subR rfl)⟩)
     ·exact wp_skip (Tn (⟨An,h,S.nf [true,true] rfl (subR rfl)⟩))
    clear S h;rintro a w29 ⟨x5,h,S⟩;rw [hj5] at h;clear hj5 j5
    refine Tn (Fs (Fr (Vf Qu S rfl rfl fun a S=>Vl isAgg3 1 S rfl rfl rfl rfl fun a S=>Vq S Jh rfl rfl rfl fun a S=>Vm S rfl rfl fun a S=>Ib 4 (fun a w'=>Keep [] w29 w' ∧ Sx w [] nov [.blk b2 (Dx.enc (Dx.mk Ah.Site Ah.No Ah.At Ah.Kind x1 x5 x2 0 0 x3 x4)) 41,.blk b1 (Dx.enc Ah) 41] [(1,.pointer (some ⟨b1,0,none⟩)),(3,.pointer (some ⟨b2,0,none⟩)),(96,bV ((decide (Ah.Kind = 1)) || (decide (Ah.Kind = 3))))] 117 a w') ?_ ?_)))
    ·rcases Bool.eq_false_or_eq_true (decide (Ah.Kind = 1)) with hb14 | hb14
     ·iterate 3 (refine Hh S rfl rfl rfl (Nm hb14) rfl ?_ rfl;clear S;intro a S)
      exact lv S (Lj (decide (Ah.Kind = 3)) hb14 (S.tm rfl) rfl) rfl fun a S=>Dl (⟨Keep.refl _ _,S.nf [true,true] rfl (subR rfl)⟩)
     ·exact Ef S rfl rfl rfl hb14 (Vf Qu S rfl rfl fun a S=>Ef S rfl rfl rfl hb14 (Vl isAgg3 1 S rfl rfl rfl rfl fun a S=>Ef S rfl rfl rfl hb14 (Vq S Jh rfl rfl rfl fun a S=>lv S (Lk hb14 (S.tm rfl) (S.tm rfl)) rfl fun a S=>Dl (⟨Keep.refl _ _,S.nf [true,true] rfl (subR rfl)⟩))))
    clear S;rintro a w31 ⟨hk29,S⟩
    refine Dl ?_
    obtain ⟨j6,hj6,h⟩:=Ey h
    refine Es (fun a w'=>∃ x6 : Int,j6 x6 = some r ∧ Sx w [] nov [.blk b2 (Dx.enc (Dx.mk Ah.Site Ah.No Ah.At Ah.Kind x1 x5 x2 x6 0 x3 x4)) 41,.blk b1 (Dx.enc Ah) 41] [(1,.pointer (some ⟨b1,0,none⟩)),(3,.pointer (some ⟨b2,0,none⟩))] 117 a w') ?_ ?_
    ·refine Fc h (S.tm rfl) (fun hb15 h=>?_) (fun hb15 h=>?_)
     ·refine Fr (Vf Wh S rfl rfl fun a S=>Vl isAgg3 1 S rfl rfl rfl rfl fun a S=>Vf Wh S rfl rfl fun a S=>Fj S (S.tm rfl) (S.tm rfl) (i:=0) (off:=7) rfl sizeOf3 (vs:=[iV Ah.Time]) rfl rfl rfl rfl ?_);clear S;intro w33 hk30 S
      refine Dz (Vf Wh S rfl rfl fun a S=>Vl isAgg3 1 S rfl rfl rfl rfl fun a S=>Ei S (fun _=>Ea (vs:=[iV Ah.Time,iV 0,iV 360000]) ⟨(S.tm rfl),rfl,rfl,trivial⟩ call84) (Rq _ Ah.Time 0 360000 _ rfl) rfl ?_);clear S;intro v10 a w34 hv10 hk31 hn10 S
      subst hv10
      refine Vu S Hv rfl rfl fun a S=>Dl (Fc h (S.tm rfl) (fun hb16 h=>?_) (fun hb16 h=>?_))
      ·refine Fr (Vk S rfl rfl fun a S=>Dl (wp_ret (Ec (Ec ?_))))
       obtain rfl:=Option.some.inj h
       exact Eu S results44 rfl rfl
      ·exact wp_skip (Tn (⟨Ah.Time,h,S.nf [true,true] rfl (subR rfl)⟩))
     ·exact wp_skip (Tn (⟨0,h,S.nf [true,true] rfl (subR rfl)⟩))
    clear S h;rintro a w32 ⟨x6,h,S⟩;rw [hj6] at h;clear hj6 j6
    refine Tn (Fs (Fr (Vf Qu S rfl rfl fun a S=>Vl isAgg3 1 S rfl rfl rfl rfl fun a S=>Vq S Jh rfl rfl rfl fun a S=>Dl ?_)))
    obtain ⟨j7,hj7,h⟩:=Ey h
    refine Es (fun a w'=>∃ x7 : Int,j7 x7 = some r ∧ Sx w [] nov [.blk b2 (Dx.enc (Dx.mk Ah.Site Ah.No Ah.At Ah.Kind x1 x5 x2 x6 x7 x3 x4)) 41,.blk b1 (Dx.enc Ah) 41] [(1,.pointer (some ⟨b1,0,none⟩)),(3,.pointer (some ⟨b2,0,none⟩))] 117 a w') ?_ ?_
    ·refine Fc h (S.tm rfl) (fun hb17 h=>?_) (fun hb17 h=>?_)
     ·refine Fr (Vf Xz S rfl rfl fun a S=>Vl isAgg3 1 S rfl rfl rfl rfl fun a S=>Vf Xz S rfl rfl fun a S=>Fj S (S.tm rfl) (S.tm rfl) (i:=0) (off:=8) rfl sizeOf3 (vs:=[iV Ah.Fault]) rfl rfl rfl rfl ?_);clear S;intro w36 hk32 S
      refine Dz (Vf Xz S rfl rfl fun a S=>Vl isAgg3 1 S rfl rfl rfl rfl fun a S=>Ei S (fun _=>Ea (vs:=[iV Ah.Fault,iV 0,iV 8]) ⟨(S.tm rfl),rfl,rfl,trivial⟩ call84) (Rq _ Ah.Fault 0 8 _ rfl) rfl ?_);clear S;intro v11 a w37 hv11 hk33 hn11 S
      subst hv11
      refine Vu S Hv rfl rfl fun a S=>Dl (Fc h (S.tm rfl) (fun hb18 h=>?_) (fun hb18 h=>?_))
      ·refine Fr (Vk S rfl rfl fun a S=>Dl (wp_ret (Ec (Ec ?_))))
       obtain rfl:=Option.some.inj h
       exact Eu S results44 rfl rfl
      ·exact wp_skip (Tn (⟨Ah.Fault,h,S.nf [true,true] rfl (subR rfl)⟩))
     ·exact wp_skip (Tn (⟨0,h,S.nf [true,true] rfl (subR rfl)⟩))
    clear S h;rintro a w35 ⟨x7,h,S⟩;rw [hj7] at h;clear hj7 j7
    refine Tn (Fs (Fr (lv S (Fk isAgg41 sizeOf41 (off:=0) (o:=0) (part:=(Dx.enc Ah)) rfl rfl (S.tm rfl) (S.cellsAt (i:=1) rfl)) rfl fun a S=>lv S (Fk isAgg41 sizeOf41 (off:=0) (o:=0) (part:=(Dx.enc (Dx.mk Ah.Site Ah.No Ah.At Ah.Kind x1 x5 x2 x6 x7 x3 x4))) rfl rfl (S.tm rfl) (S.cellsAt (i:=0) rfl)) rfl fun a S=>lv S (EE (m:=Ah) (n:=(Dx.mk Ah.Site Ah.No Ah.At Ah.Kind x1 x5 x2 x6 x7 x3 x4)) (S.tm rfl) (S.tm rfl)) rfl fun a S=>Dl (Fc h (S.tm rfl) (fun hb19 h=>?_) (fun hb19 h=>?_)))))
    ·refine Fr (Vk S rfl rfl fun a S=>Dl (wp_ret (Ec ?_)))
     obtain rfl:=Option.some.inj h
     exact Eu S results44 rfl rfl
    ·refine wp_skip (Tn (Fr (Vk S rfl rfl fun a S=>Dl (wp_ret ?_))))
     obtain rfl:=Option.some.inj h
     exact Eu S results44 rfl rfl
theorem FO (w : World) (Aj : Dx) (Al : Dx) (r : Bool) (h : Wd Aj Al = r) :
    Calls prog 47 [.agg (Dx.enc Aj).toArray,.agg (Dx.enc Al).toArray].toArray w (Ret w [] fun _ v _=>v = bV r):=by
 refine Fe func47 rfl ntmps47 rfl fun a S=>?_
 unfold Wd at h
 replace S:=S.k2 0 1 rfl
 refine Fr (Mx S (S.tm rfl) (cs:=(Dx.enc Aj)) rfl rfl ?_);clear S;intro a w1 b1 hz1 hk1 S
 refine Mx S (S.tm rfl) (cs:=(Dx.enc Al)) rfl rfl ?_;clear S;intro a w2 b2 hz2 hk2 S
 refine Vk S rfl rfl fun a S=>Dz (Vf Sy S rfl rfl fun a S=>Vl isAgg9 1 S rfl rfl rfl rfl fun a S=>Vf Sy S rfl rfl fun a S=>Vl isAgg9 0 S rfl rfl rfl rfl fun a S=>Vb S Xw rfl rfl rfl fun a S=>Vm S rfl rfl ?_);clear S;intro a S
 refine Ib 6 (fun a w'=>Keep [] w2 w' ∧ Sx w [] nov [.blk b2 (Dx.enc Al) 41,.blk b1 (Dx.enc Aj) 41] [(16,bV ((decide (Aj.Site = Al.Site)) && (decide (Aj.No = Al.No))))] 17 a w') ?_ ?_
 ·rcases Bool.eq_false_or_eq_true (decide (Aj.Site = Al.Site)) with hb1 | hb1
  ·refine Ef S rfl rfl rfl hb1 (Vf Vi S rfl rfl fun a S=>Ef S rfl rfl rfl hb1 (Vl isAgg3 1 S rfl rfl rfl rfl fun a S=>Ef S rfl rfl rfl hb1 (Vf Vi S rfl rfl fun a S=>Ef S rfl rfl rfl hb1 (Vl isAgg3 0 S rfl rfl rfl rfl fun a S=>Ef S rfl rfl rfl hb1 (Vb S Jh rfl rfl rfl fun a S=>lv S (Hz hb1 (S.tm rfl) (S.tm rfl)) rfl ?_)))));clear S;intro a S
   exact Dl (⟨Keep.refl _ _,S.nf [true,true] rfl ⟨rfl,trivial⟩⟩)
  ·iterate 5 (refine Hh S rfl rfl rfl (Jw hb1) rfl ?_ rfl;clear S;intro a S)
   exact lv S (Ia (decide (Aj.No = Al.No)) hb1 (S.tm rfl) rfl) rfl fun a S=>Dl (⟨Keep.refl _ _,S.nf [true,true] rfl ⟨rfl,trivial⟩⟩)
 clear S;rintro a w3 ⟨hk3,S⟩
 refine Va S rfl rfl fun a S=>Dl (wp_ret ?_)
 subst h
 exact Eu S results47 rfl rfl
theorem Zp (w : World) (Dp : Dx) (Cj : Nat) (Bt : Dx) (Ck : (view w []) Cj = some (.cells [sV Bt.Site,iV Bt.No,iV Bt.At,iV Bt.Kind,sV Bt.Who,sV Bt.Club,sV Bt.Race,iV Bt.Time,iV Bt.Fault,sV Bt.Of,iV Bt.Other].toArray 41 (0,0))) (r : Bool) (h : Ps Dp Bt = r) :
    Calls prog 46 [.agg (Dx.enc Dp).toArray,.pointer (some ⟨Cj,0,none⟩)].toArray w (Ret w [] fun _ v _=>v = bV r):=by
 refine Fe func46 rfl ntmps46 rfl fun a S=>?_
 unfold Ps at h
 replace S:=S.k2 0 1 rfl
 refine Fr (Mx S (S.tm rfl) (cs:=(Dx.enc Dp)) rfl rfl ?_);clear S;intro a w1 b1 hz1 hk1 S
 refine Vk S rfl rfl fun a S=>Dz (lv S (Fk isAgg41 sizeOf41 (off:=0) (o:=0) (part:=(Dx.enc Dp)) rfl rfl (S.tm rfl) (S.cellsAt (i:=0) rfl)) rfl fun a S=>lv S (Fk isAgg41 sizeOf41 (off:=0) (o:=0) (part:=(Dx.enc Bt)) rfl rfl (S.tm rfl) ((Ti Ck).at S.emb0)) rfl fun a S=>Ei S (fun _=>Ea (vs:=[.agg (Dx.enc Dp).toArray,.agg (Dx.enc Bt).toArray]) ⟨(S.tm rfl),(S.tm rfl),trivial⟩ call47) (FO _ Dp Bt _ rfl) rfl ?_);clear S;intro v1 a w2 hv1 hk2 hn1 S
 subst hv1
 refine Va S rfl rfl fun a S=>Dl (wp_ret ?_)
 subst h
 exact Eu S results46 rfl rfl
theorem Sk (w : World) (Ax : Value) (Av : List Dx) (Bg : Slc (view w []) 11 Ax (Av.map Dx.enc)) (Bb : Nat) (Az : Dx) (Bo : (view w []) Bb = some (.cells [sV Az.Site,iV Az.No,iV Az.At,iV Az.Kind,sV Az.Who,sV Az.Club,sV Az.Race,iV Az.Time,iV Az.Fault,sV Az.Of,iV Az.Other].toArray 41 (0,0))) (r : Int) (h : Mi Av Az = r) :
    Calls prog 86 [Ax,.func (.func 46) #[] #[.pointer (some ⟨Bb,0,none⟩)]].toArray w (Ret w [] fun _ v _=>v = iV r):=by
 refine Fe func86 rfl ntmps86 rfl fun a S=>?_
 unfold Mi at h
 replace S:=S.k2 0 1 rfl
 refine Fr (Vk S rfl rfl fun a S=>Dl (Fs (Fr (Vm S rfl rfl fun a S=>lv S (Fq La (S.tm rfl) (Fm Bg)) rfl fun a S=>lv S (Rm rfl) rfl ?_))));clear S;intro a S
 refine Dl ?_
 replace S:=S.k4 0 1 7 8 rfl
 obtain ⟨j1,hj1,h⟩:=Ey h
 refine Es (fun a w'=>j1 = r ∧ Sx w [] nov [] [] 19 a w') ?_ ?_
 ·refine wp_block (Gz (fun (ys1 : List Dx) a w'=>∃ i1 : Nat,(∃ dn,Av = dn ++ ys1 ∧ dn.length = i1) ∧ Fl Az j1 ys1 i1 = r ∧ Sx w [] nov [] [(0,Ax),(1,.func (.func 46) #[] #[.pointer (some ⟨Bb,0,none⟩)]),(7,iV (Av.length : Int)),(8,iV (i1 : Int))] 19 a w') List.length Av ⟨0,⟨[],rfl,rfl⟩,h,S.nf [] rfl (subR rfl)⟩ ?_)
  clear S h;rintro ys1 a w1 ⟨i1,⟨dn,hd1,hi1⟩,h,S⟩
  cases ys1 with
  | nil =>
   rw [Fl.eq_1] at h
   refine Fr (Vb S Ev rfl rfl rfl fun a S=>Ld ?_)
   replace S:=S.k5 0 1 7 8 9 rfl
   exact Tn (Fs (wp_cond_false ((S.tm rfl).trans (congrArg Value.bool (Im hd1 hi1))) (wp_exit (Ep (Ep (Gr (Tn (⟨h,S.nf [] rfl trivial⟩))))))))
  | cons y1 ys1 =>
   rw [Fl.eq_2] at h
   refine Fr (Vb S Ev rfl rfl rfl fun a S=>Ld ?_)
   replace S:=S.k5 0 1 7 8 9 rfl
   refine Tn (Fs (wp_cond_true ((S.tm rfl).trans (congrArg Value.bool (Hr hd1 hi1))) (wp_skip (Tn (Fs (wp_block (Fr (Vm S rfl rfl fun a S=>Va S rfl rfl ?_))))))));clear S;intro a S
   refine Dl (Fs (Fg ?_))
   iterate 3 (refine Vm S rfl rfl ?_;clear S;intro a S)
   obtain ⟨b1,o1,hm1,hr1⟩:=Fh (a:=a) (x:=.tmp 12) (y:=.tmp 13) (ty:=0) La Bg (Iv hd1 hi1) rfl (S.tm rfl) (S.tm rfl)
   refine lv S (hr1 _) rfl ?_;clear S;intro a S
   clear hr1
   refine lv S (Fk isAgg41 sizeOf41 (off:=o1) (o:=0) (part:=(Dx.enc y1)) rfl rfl (S.tm rfl) (hm1.at S.emb0)) rfl fun a S=>Ei S (fun _=>Ud (cap:=[.pointer (some ⟨Bb,0,none⟩)]) (S.tm rfl) (vs:=[.agg (Dx.enc y1).toArray]) ⟨(S.tm rfl),trivial⟩ call46) (Zp _ y1 Bb Az ((S.le_arg Er) _ _ Bo) _ rfl) rfl ?_;clear S;intro v1 a w3 hv1 hk1 hn1 S
   subst hv1
   refine Dl (Fc h (S.tm rfl) (fun hb1 h=>?_) (fun hb1 h=>?_))
   ·refine Fr (Vm S rfl rfl fun a S=>Va S rfl rfl fun a S=>Ld ?_)
    replace S:=S.k1 4 rfl
    refine Tn (wp_ret (Ga (Ec (Ec (Ga (Ec (Ec ?_)))))))
    subst h
    exact Eu S results86 rfl rfl
   ·exact wp_skip (Hn (Tn (Fg (Vq S Gf rfl rfl rfl fun a S=>Vm S rfl rfl fun a S=>Dl (⟨ys1,⟨i1 + 1,⟨_,(hd1).trans (List.append_cons _ _ _),by simp [hi1]⟩,h,S.nf [] rfl ⟨rfl,rfl,rfl,(congrArg (fun z=>some (Value.int .i64 z)) (Hs hd1 hi1 (Jg Bg))),trivial⟩⟩,Nat.lt_succ_self _⟩)))))
 clear S h;rintro a w2 ⟨h,S⟩;rw [hj1] at h;clear hj1 j1
 refine Tn (Fr (Vk S rfl rfl fun a S=>Dl (wp_ret ?_)))
 subst h
 exact Eu S results86 rfl rfl
theorem Rr (w : World) (Ax : Value) (Av : List Dx) (Bg : Slc (view w []) 11 Ax (Av.map Dx.enc)) (Bb : Nat) (Az : Dx) (Bo : (view w []) Bb = some (.cells [sV Az.Site,iV Az.No,iV Az.At,iV Az.Kind,sV Az.Who,sV Az.Club,sV Az.Race,iV Az.Time,iV Az.Fault,sV Az.Of,iV Az.Other].toArray 41 (0,0))) (r : Bool) (h : Jk Av Az = r) :
    Calls prog 45 [Ax,.func (.func 46) #[] #[.pointer (some ⟨Bb,0,none⟩)]].toArray w (Ret w [] fun _ v _=>v = bV r):=by
 refine Fe func45 rfl ntmps45 rfl fun a S=>?_
 unfold Jk at h
 replace S:=S.k2 0 1 rfl
 refine Fr (Vk S rfl rfl fun a S=>Dz (Vm S rfl rfl fun a S=>Vm S rfl rfl fun a S=>Ei S (fun _=>Ea (vs:=[Ax,.func (.func 46) #[] #[.pointer (some ⟨Bb,0,none⟩)]]) ⟨(S.tm rfl),(S.tm rfl),trivial⟩ call86) (Sk _ Ax Av (Bg.mono (S.le_arg Er)) Bb Az ((S.le_arg Er) _ _ Bo) _ rfl) rfl ?_));clear S;intro v1 a w1 hv1 hk1 hn1 S
 subst hv1
 refine Vq S Rt rfl rfl rfl fun a S=>Va S rfl rfl fun a S=>Dl (wp_ret ?_)
 subst h
 exact Eu S results45 rfl rfl
set_option maxRecDepth 20000 in
theorem BR (w : World) (Ab : Value) (Ae : List Dx) (Ag : Slc (view w []) 11 Ab (Ae.map Dx.enc)) (r : Int) (h : Qq Ae = some r) :
    Calls prog 21 [Ab].toArray w (Ret w [] fun _ v _=>v = iV r):=by
 refine Fe func21 rfl ntmps21 rfl fun a S=>?_
 unfold Qq at h
 replace S:=S.k1 0 rfl
 refine Fr (Vk S rfl rfl fun a S=>Dl (Fs (Fr (Vm S rfl rfl fun a S=>lv S (Fq La (S.tm rfl) (Fm Ag)) rfl fun a S=>Vq S Jj rfl rfl rfl ?_))));clear S;intro a S
 refine Dl (Fc h (S.tm rfl) (fun hb1 h=>?_) (fun hb1 h=>?_))
 ·refine Fr (Vk S rfl rfl fun a S=>Dl (wp_ret (Ec ?_)))
  obtain rfl:=Option.some.inj h
  exact Eu S results21 rfl rfl
 ·refine wp_skip (Tn (Fs (Fr (Vm S rfl rfl fun a S=>lv S (Fq La (S.tm rfl) (Fm Ag)) rfl fun a S=>lv S (Rm rfl) rfl fun a S=>Dl ?_))))
  replace S:=S.k4 0 11 12 13 rfl
  obtain ⟨j1,hj1,h⟩:=Ey h
  refine Es (fun a w'=>j1 = some r ∧ Sx w [] nov [] [(0,Ab)] 49 a w') ?_ ?_
  ·refine wp_block (Gz (fun (ys1 : List Dx) a w'=>∃ i1 : Nat,(∃ dn,Ae = dn ++ ys1 ∧ dn.length = i1) ∧ Ip Ae j1 ys1 i1 = some r ∧ Sx w [] nov [] [(0,Ab),(11,Ab),(12,iV (Ae.length : Int)),(13,iV (i1 : Int))] 49 a w') List.length Ae ⟨0,⟨[],rfl,rfl⟩,h,S.nf [] rfl (subR rfl)⟩ ?_)
   clear S h;rintro ys1 a w1 ⟨i1,⟨dn,hd1,hi1⟩,h,S⟩
   cases ys1 with
   | nil =>
    rw [Ip.eq_1] at h
    refine Fr (Vb S Ev rfl rfl rfl fun a S=>Ld ?_)
    replace S:=S.k5 0 11 12 13 14 rfl
    exact Tn (Fs (wp_cond_false ((S.tm rfl).trans (congrArg Value.bool (Im hd1 hi1))) (wp_exit (Ep (Ep (Gr (Tn (⟨h,S.nf [] rfl ⟨rfl,trivial⟩⟩))))))))
   | cons y1 ys1 =>
    rw [Ip.eq_2] at h
    refine Fr (Vb S Ev rfl rfl rfl fun a S=>Ld ?_)
    replace S:=S.k5 0 11 12 13 14 rfl
    refine Tn (Fs (wp_cond_true ((S.tm rfl).trans (congrArg Value.bool (Hr hd1 hi1))) (wp_skip (Tn (Fs (wp_block (Fr (Vm S rfl rfl ?_))))))));clear S;intro a S
    obtain ⟨b1,o1,hm1,hr1⟩:=Fh (a:=a) (x:=.tmp 11) (y:=.tmp 13) (ty:=0) La Ag (Iv hd1 hi1) rfl (S.tm rfl) (S.tm rfl)
    refine lv S (hr1 _) rfl ?_;clear S;intro a S
    clear hr1
    refine lv S (Fk isAgg41 sizeOf41 (off:=o1) (o:=0) (part:=(Dx.enc y1)) rfl rfl (S.tm rfl) (hm1.at S.emb0)) rfl fun a S=>Hu S zeroValue41 (cs:=[sV An,iV 0,iV 0,iV 0,sV An,sV An,sV An,iV 0,iV 0,sV An,iV 0]) rfl rfl ?_;clear S;intro a w3 b2 hz1 hk1 S
    refine Va S rfl rfl fun a S=>Fj S (S.tm rfl) (S.tm rfl) (i:=0) (off:=0) rfl sizeOf41 (vs:=(Dx.enc y1)) rfl rfl rfl rfl ?_;clear S;intro w4 hk2 S
    refine Dl (Fs (Fr (lv S (Fk isAgg41 sizeOf41 (off:=0) (o:=0) (part:=(Dx.enc y1)) rfl rfl (S.tm rfl) (S.cellsAt (i:=0) rfl)) rfl ?_)));clear S;intro a S
    obtain ⟨r1,hr2,h⟩:=Fd h
    refine Ei S (fun _=>Ea (vs:=[.agg (Dx.enc y1).toArray]) ⟨(S.tm rfl),trivial⟩ call44) (CE _ y1 _ hr2) rfl ?_;clear S;intro v1 a w5 hv1 hk3 hn1 S
    subst hv1
    refine Va S rfl rfl fun a S=>Dz (Vm S rfl rfl fun a S=>Vq S Lf rfl rfl rfl fun a S=>Ld ?_)
    replace S:=(S.nl [.blk b2 (Dx.enc y1) 41] [true] rfl).k8 0 3 4 5 11 12 13 21 rfl
    refine Tn (Fc h (S.tm rfl) (fun hb2 h=>?_) (fun hb2 h=>?_))
    ·refine Fr (Vm S rfl rfl fun a S=>Va S rfl rfl fun a S=>Dl (wp_ret (Ec (Ga (Ec (Ec ?_))))))
     refine Ga (Ec (Ec ?_))
     obtain rfl:=Option.some.inj h
     exact Eu S results21 rfl rfl
    ·refine wp_skip (Tn (Fs ?_))
     obtain ⟨j2,hj2,h⟩:=Ey h
     refine Es (fun a w'=>∃ x1 : Bool,j2 x1 = some r ∧ Sx w [] nov [] [(0,Ab),(11,Ab),(12,iV (Ae.length : Int)),(13,iV (i1 : Int)),(34,bV x1)] 49 a w') ?_ ?_
     ·rcases Bool.eq_false_or_eq_true (decide (0 < (i1 : Int))) with hb3 | hb3
      ·replace h:=Rg h hb3
       obtain ⟨hc1,h⟩:=Ij h
       refine Hd [] ([]) Tryz.mixed S rfl (by kernel_rfl) ?_;clear S;intro w8 hk5 hsel S
       refine Ek 0 S hsel rfl rfl rfl (by kernel_rfl) (by kernel_rfl) rfl (fun _ hw=>(Rm (S.tm rfl))) fun a S=>Ek 1 S hsel rfl rfl rfl (by kernel_rfl) (by kernel_rfl) rfl (fun _ hw=>(Jj (S.tm rfl) rfl)) fun a S=>Ek 2 S hsel rfl rfl rfl (by kernel_rfl) (by kernel_rfl) rfl (fun _ hw=>(Rm (S.tm rfl))) fun a S=>Et 3 S hsel rfl rfl rfl rfl hb3 rfl rfl (by kernel_rfl) (by kernel_rfl) rfl (fun _ hw=>(Rm (S.tm rfl))) fun a S=>Et 4 S hsel rfl rfl rfl rfl hb3 rfl rfl (by kernel_rfl) (by kernel_rfl) rfl (fun _ hw=>(Rm (S.tm rfl))) fun a S=>Et 5 S hsel rfl rfl rfl rfl hb3 rfl rfl (by kernel_rfl) (by kernel_rfl) rfl (fun _ hw=>(Iy (S.tm rfl) rfl)) ?_;clear S;intro a S
       obtain ⟨b4,o3,hm3,hr4⟩:=Fh (a:=a) (x:=.tmp 26) (y:=.tmp 28) (ty:=0) La (Ag.mono (S.le_arg Er)) (Eh hc1).1 (Eh hc1).2 (S.tm rfl) (S.tm rfl)
       refine Et 6 S hsel rfl rfl rfl rfl hb3 rfl rfl (by kernel_rfl) (by kernel_rfl) rfl (fun _ hw=>hr4 _) ?_;clear S;intro a S
       clear hr4
       refine Et 7 S hsel rfl rfl rfl rfl hb3 rfl rfl (by kernel_rfl) (by kernel_rfl) rfl (fun _ hw=>(Fk isAgg41 sizeOf41 (off:=o3) (o:=0) (part:=(Dx.enc (nth Ae (W ((i1 : Int) - 1))))) rfl rfl (S.tm rfl) (hm3.kept hw))) fun a S=>Et 8 S hsel rfl rfl rfl rfl hb3 rfl rfl (by kernel_rfl) (by kernel_rfl) rfl (fun _ hw=>(Fk isAgg41 sizeOf41 (off:=0) (o:=0) (part:=(Dx.enc y1)) rfl rfl (S.tm rfl) ((S.blk_mem (i:=0) (cells:=(Dx.enc y1)) (b:=b2) (T:=41) rfl (Ie (e':=.blk b2 (Dx.enc y1) 41))).kept hw))) fun a S=>Hi 9 (by kernel_rfl) rfl (Ef S rfl rfl rfl hb3 (Ei S (fun _=>Ea (vs:=[.agg (Dx.enc (nth Ae (W ((i1 : Int) - 1)))).toArray,.agg (Dx.enc y1).toArray]) ⟨(S.tm rfl),(S.tm rfl),trivial⟩ call43) (Xj _ (nth Ae (W ((i1 : Int) - 1))) y1 _ rfl) rfl ?_));clear S;intro v3 a w9 hv3 hk6 hn3 S
       subst hv3
       refine Ld (Ik hk6 (Lg [10,11] hsel (by kernel_rfl) rfl ?_))
       clear hsel
       refine Gc S rfl rfl rfl rfl hb3 (Hm S (Rt (S.tm rfl) rfl) rfl fun a S=>Gp S rfl (Qi hb3 (S.tm rfl) (S.tm rfl)) rfl fun a S=>It ?_)
       replace S:=S.n0.k13 0 11 12 13 26 27 28 29 30 31 32 33 34 rfl
       exact Tn (⟨decide (0 ≤ (Ke (nth Ae (W ((i1 : Int) - 1))) y1)),h,S.nf [] rfl (subR rfl)⟩)
      ·replace h:=Rh h hb3
       refine Hd [] ([]) Tryz.mixed S rfl (by kernel_rfl) ?_;clear S;intro w10 hk7 hsel S
       refine Lg [0,1,2,3,4,5,6,7,8,9,10,11] hsel (by kernel_rfl) rfl ?_
       clear hsel
       refine Gp S rfl (Rm (S.tm rfl)) rfl fun a S=>Gp S rfl (Jj (S.tm rfl) rfl) rfl fun a S=>Gp S rfl (Rm (S.tm rfl)) rfl ?_;clear S;intro a S
       iterate 8 (refine Qs S rfl rfl rfl rfl (Jw hb3) rfl ?_ rfl;clear S;intro a S)
       refine Gp S rfl (Qj hb3 (S.tm rfl) rfl) rfl fun a S=>It ?_
       replace S:=S.n0.k5 0 11 12 13 34 rfl
       exact Tn (⟨false,h,S.nf [] rfl (subR rfl)⟩)
     clear S h;rintro a w6 ⟨x1,h,S⟩;rw [hj2] at h;clear hj2 j2
     refine Tn (Fc h (S.tm rfl) (fun hb4 h=>?_) (fun hb4 h=>?_))
     ·refine Fr (Vk S rfl rfl fun a S=>Dl (wp_ret (Ga (Ec (Ec (Ga (Ec ?_)))))))
      refine Ec ?_
      obtain rfl:=Option.some.inj h
      exact Eu S results21 rfl rfl
     ·exact wp_skip (Hn (Tn (Fg (Vq S Gf rfl rfl rfl fun a S=>Vm S rfl rfl fun a S=>Dl (⟨ys1,⟨i1 + 1,⟨_,(hd1).trans (List.append_cons _ _ _),by simp [hi1]⟩,h,S.nf [] rfl ⟨rfl,rfl,rfl,(congrArg (fun z=>some (Value.int .i64 z)) (Hs hd1 hi1 (Jg Ag))),trivial⟩⟩,Nat.lt_succ_self _⟩)))))
  clear S h;rintro a w2 ⟨h,S⟩;rw [hj1] at h;clear hj1 j1
  refine Tn (Fs (Fr (Vm S rfl rfl fun a S=>lv S (Fq La (S.tm rfl) (Fm Ag)) rfl fun a S=>lv S (Rm rfl) rfl fun a S=>Dl ?_)))
  replace S:=S.k4 0 36 37 38 rfl
  obtain ⟨j3,hj3,h⟩:=Ey h
  refine Es (fun a w'=>j3 = some r ∧ Sx w [] nov [] [] 49 a w') ?_ ?_
  ·refine wp_block (Gz (fun (ys2 : List Dx) a w'=>∃ i2 : Nat,(∃ dn,Ae = dn ++ ys2 ∧ dn.length = i2) ∧ Jc Ae j3 ys2 i2 = some r ∧ Sx w [] nov [] [(0,Ab),(36,Ab),(37,iV (Ae.length : Int)),(38,iV (i2 : Int))] 49 a w') List.length Ae ⟨0,⟨[],rfl,rfl⟩,h,S.nf [] rfl (subR rfl)⟩ ?_)
   clear S h;rintro ys2 a w11 ⟨i2,⟨dn,hd2,hi2⟩,h,S⟩
   cases ys2 with
   | nil =>
    rw [Jc.eq_1] at h
    refine Fr (Vb S Ev rfl rfl rfl fun a S=>Ld ?_)
    replace S:=S.k5 0 36 37 38 39 rfl
    exact Tn (Fs (wp_cond_false ((S.tm rfl).trans (congrArg Value.bool (Im hd2 hi2))) (wp_exit (Ep (Ep (Gr (Tn (⟨h,S.nf [] rfl trivial⟩))))))))
   | cons y2 ys2 =>
    rw [Jc.eq_2] at h
    refine Fr (Vb S Ev rfl rfl rfl fun a S=>Ld ?_)
    replace S:=S.k5 0 36 37 38 39 rfl
    refine Tn (Fs (wp_cond_true ((S.tm rfl).trans (congrArg Value.bool (Hr hd2 hi2))) (wp_skip (Tn (Fs (wp_block (Fr (Vm S rfl rfl ?_))))))));clear S;intro a S
    obtain ⟨b5,o4,hm4,hr5⟩:=Fh (a:=a) (x:=.tmp 36) (y:=.tmp 38) (ty:=0) La Ag (Iv hd2 hi2) rfl (S.tm rfl) (S.tm rfl)
    refine lv S (hr5 _) rfl ?_;clear S;intro a S
    clear hr5
    refine lv S (Fk isAgg41 sizeOf41 (off:=o4) (o:=0) (part:=(Dx.enc y2)) rfl rfl (S.tm rfl) (hm4.at S.emb0)) rfl fun a S=>Hu S zeroValue41 (cs:=[sV An,iV 0,iV 0,iV 0,sV An,sV An,sV An,iV 0,iV 0,sV An,iV 0]) rfl rfl ?_;clear S;intro a w13 b6 hz2 hk8 S
    refine Va S rfl rfl fun a S=>Fj S (S.tm rfl) (S.tm rfl) (i:=0) (off:=0) rfl sizeOf41 (vs:=(Dx.enc y2)) rfl rfl rfl rfl ?_;clear S;intro w14 hk9 S
    refine Dz (Vm S rfl rfl fun a S=>Vm S rfl rfl ?_);clear S;intro a S
    obtain ⟨hc2,h⟩:=Ij h
    obtain ⟨v4,hs1,hr6⟩:=OW (a:=a) (x:=.tmp 43) (y':=.tmp 44) (ty:=34) La Ag (S.tm rfl) (S.tm rfl) hc2
    refine lv S (hr6 _) rfl ?_;clear S;intro a S
    clear hr6
    refine lv S (Wk (us:=#[]) (xs:=[].toArray) (ys:=[.tmp 7].toArray) (by simp) (evA ⟨(S.tm rfl),trivial⟩ (vs:=[.pointer (some ⟨b6,0,none⟩)]))) rfl fun a S=>Ei S (fun _=>Ea (vs:=[v4,.func (.func 46) #[] #[.pointer (some ⟨b6,0,none⟩)]]) ⟨(S.tm rfl),(S.tm rfl),trivial⟩ call45) (Rr _ v4 (cut Ae 0 (i2 : Int)) (hs1.mono (S.le_arg Er)) b6 y2 (S.blk_view (i:=0) rfl ((Ie (e':=.blk b6 (Dx.enc y2) 41)) _ rfl)) _ rfl) rfl ?_;clear S;intro v5 a w15 hv4 hk10 hn4 S
    subst hv4
    refine Ld ?_
    replace S:=S.n0.k5 0 36 37 38 47 rfl
    refine Tn (Fc h (S.tm rfl) (fun hb5 h=>?_) (fun hb5 h=>?_))
    ·refine Fr (Vk S rfl rfl fun a S=>Dl (wp_ret (Ga (Ec (Ec (Ga (Ec ?_)))))))
     refine Ec ?_
     obtain rfl:=Option.some.inj h
     exact Eu S results21 rfl rfl
    ·exact wp_skip (Hn (Tn (Fg (Vq S Gf rfl rfl rfl fun a S=>Vm S rfl rfl fun a S=>Dl (⟨ys2,⟨i2 + 1,⟨_,(hd2).trans (List.append_cons _ _ _),by simp [hi2]⟩,h,S.nf [] rfl ⟨rfl,rfl,rfl,(congrArg (fun z=>some (Value.int .i64 z)) (Hs hd2 hi2 (Jg Ag))),trivial⟩⟩,Nat.lt_succ_self _⟩)))))
  clear S h;rintro a w12 ⟨h,S⟩;rw [hj3] at h;clear hj3 j3
  refine Tn (Fr (Vk S rfl rfl fun a S=>Dl (wp_ret ?_)))
  obtain rfl:=Option.some.inj h
  exact Eu S results21 rfl rfl
theorem Yl (w : World) (U : Nat) (Aa : Value) (Aq : List Int) (Ao : Slc (view w [U]) 1 Aa (Aq.map eInt)) (Am : Int) (Ar : (LEnt.blk U [Aa,iV Am] 25).holds w) (Bp : Int) (r : (List Dx) × Int) (h : Ql Aq Am Bp = some r) :
    Calls prog 5 [.pointer (some ⟨U,0,none⟩),iV Bp].toArray w (Ret w [U] fun τ v w'=>(LEnt.blk U [Aa,iV r.2] 25).holds w' ∧ Up τ 41 11 v r.1.length (r.1.flatMap Dx.enc)):=by
 refine Lb [U] [.blk U [Aa,iV Am] 25] func5 rfl ntmps5 rfl (fun e he=>by simp only [List.mem_singleton] at he;subst he;exact Ar) (by simp [fps,LEnt.fp]) (by simp [fps,LEnt.fp]) fun a S=>?_
 unfold Ql at h
 replace S:=(S.nl [.blk U [Aa,iV Am] 25] [true] rfl).k2 0 1 rfl
 refine Fr (Vk S rfl rfl fun a S=>Dl (Fs (Fr (lv S (Rm rfl) rfl fun a S=>Dl ?_))))
 replace S:=S.k3 0 1 6 rfl
 obtain ⟨j1,hj1,h⟩:=Ey h
 refine Es (fun a w'=>∃ x1 : Int,∃ φ1 : View,j1 x1 = some r ∧ View.le nov φ1 ∧ Sx w [U] φ1 [.blk U [Aa,iV x1] 25] [] 16 a w') ?_ ?_
 ·refine wp_block (Gz (fun (m1 : Nat) a w'=>∃ x1 : Int,∃ x2 : Int,∃ φ1 : View,Ko Aq Bp j1 m1 x1 x2 = some r ∧ View.le nov φ1 ∧ Sx w [U] φ1 [.blk U [Aa,iV x1] 25] [(0,.pointer (some ⟨U,0,none⟩)),(1,iV Bp),(6,iV x2)] 16 a w') id 7 ⟨Am,0,nov,h,View.le_refl _,S.nf [true] rfl (subR rfl)⟩ ?_)
  clear S h;rintro m1 a w1 ⟨x1,x2,φ1,h,hl1,S⟩
  cases m1 with
  | zero=>rw [Ko.eq_1] at h;cases h
  | succ m1 =>
   rw [Ko.eq_2] at h
   refine Fr (Vq S Ev rfl rfl rfl fun a S=>Dl (Fs (Fc h (S.tm rfl) (fun hb1 h=>?_) (fun hb1 h=>?_))))
   ·refine wp_skip (Tn (Fs (wp_block (Fr (Vm S rfl rfl fun a S=>Vm S rfl rfl ?_)))));clear S;intro a S
    obtain ⟨r1,hr1,h⟩:=Fd h
    have hz1:=S.keep.size
    refine Hx 0 S (b:=U) rfl rfl (fun _=>.blk U [Aa,iV r1.2] 25) (fun _=>Ea (vs:=[.pointer (some ⟨U,0,none⟩),iV Bp]) ⟨(S.tm rfl),(S.tm rfl),trivial⟩ call20) (IV _ U Aa Aq (Ao.mono (S.le_arg (Ji (i:=0) (e:=.blk U [Aa,iV x1] 25) rfl))) x1 (S.holds _ (List.mem_of_getElem? (i:=0) rfl)) Bp _ hr1) rfl (fun _ _ _ h=>⟨h.1,fun _ hc=>by cases hc;rfl⟩) ?_;clear S;intro v1 a w3 hv1 hk1 hn1 S
    replace hv1:=hv1.2
    obtain ⟨φ2,hl2,hm1,S⟩:=S.see' hn1 hz1
    have hs1:=hv1.mono hm1
    refine Va S rfl rfl fun a S=>Dz (Vm S rfl rfl ?_);clear S;intro a S
    obtain ⟨r2,hr2,h⟩:=Fd h
    refine Ei S (fun _=>Ea (vs:=[v1]) ⟨(S.tm rfl),trivial⟩ call21) (BR _ v1 r1.1 ((Hg Dx.enc_ok hs1).mono (S.le_new Er)) _ hr2) rfl ?_;clear S;intro v2 a w4 hv2 hk2 hn2 S
    subst hv2
    refine Vq S Jh rfl rfl rfl fun a S=>Dl (Fc h (S.tm rfl) (fun hb2 h=>?_) (fun hb2 h=>?_))
    ·refine Fr (Vm S rfl rfl fun a S=>Va S rfl rfl fun a S=>Dl (wp_ret (Ga (Ec (Ec (Ga ?_))))))
     refine Ec (Ec ?_)
     obtain rfl:=Option.some.inj h
     exact Eu S results5 rfl ⟨(S.holds _ (List.mem_of_getElem? (i:=0) rfl)),((hs1).mono S.le_newer)⟩
    ·exact wp_skip (Hn (Tn (Fg (Vq S Gf rfl rfl rfl fun a S=>Vm S rfl rfl fun a S=>Dl (⟨m1,⟨r1.2,W (x2 + 1),φ2,h,(View.le_trans hl1 hl2),S.nf [true] rfl ⟨rfl,rfl,rfl,trivial⟩⟩,Nat.lt_succ_self _⟩)))))
   ·exact wp_exit (Ep (Ep (Gr (Tn (⟨x1,φ1,h,hl1,S.nf [true] rfl trivial⟩)))))
 clear S h;rintro a w2 ⟨x1,φ1,h,hl1,S⟩;rw [hj1] at h;clear hj1 j1
 refine Tn (Fr (Vk S rfl rfl fun a S=>Dl (wp_ret ?_)))
 obtain rfl:=Option.some.inj h
 exact Eu S results5 rfl ⟨(S.holds _ (List.mem_of_getElem? (i:=0) rfl)),(Oz _ _ _)⟩
theorem IW (w : World) (s c : ByteArray) (r : ByteArray) (h : Wv s c = some r) : Calls prog 125 [.string s,.string c].toArray w (Ret w [] fun _ v _=>v = .string r):=by
  unfold Wv at h
  obtain ⟨h1,h⟩:=Ij h
  obtain ⟨h2,h⟩:=Ij h
  obtain ⟨h3,h⟩:=Ij h
  obtain rfl:=Option.some.inj h
  exact NK (Any.strings_Trim_laid Tryz.lays160 (by kernel_rfl) s c w (by simpa using h1) (by simpa using h2) (fun j b hb=>by simpa using List.all_eq_true.1 h3 b (List.mem_of_getElem? hb)))
theorem Ja (w : World) (Av : ByteArray) (r : Bool) (h : Gy Av = some r) :
    Calls prog 87 [sV Av].toArray w (Ret w [] fun _ v _=>v = bV r):=by
 refine Fe func87 rfl ntmps87 rfl fun a S=>?_
 unfold Gy at h
 replace S:=S.k1 0 rfl
 refine Fr (Vk S rfl rfl fun a S=>Dz (Vm S rfl rfl fun a S=>Vu S (BE underlying9) rfl rfl fun a S=>Vq S Rt rfl rfl rfl fun a S=>Vm S rfl rfl ?_));clear S;intro a S
 refine Ib 4 (fun a w'=>Keep [] w w' ∧ Sx w [] nov [] [(0,sV Av),(10,bV ((decide (1 ≤ (Av.size : Int))) && (decide ((Av.size : Int) ≤ 40))))] 26 a w') ?_ ?_
 ·rcases Bool.eq_false_or_eq_true (decide (1 ≤ (Av.size : Int))) with hb1 | hb1
  ·exact Ef S rfl rfl rfl hb1 (Vm S rfl rfl fun a S=>Ef S rfl rfl rfl hb1 (Vu S (BE underlying9) rfl rfl fun a S=>Ef S rfl rfl rfl hb1 (Vq S Us rfl rfl rfl fun a S=>lv S (Hz hb1 (S.tm rfl) (S.tm rfl)) rfl fun a S=>Dl (⟨Keep.refl _ _,S.nf [] rfl (subR rfl)⟩))))
  ·iterate 3 (refine Hh S rfl rfl rfl (Jw hb1) rfl ?_ rfl;clear S;intro a S)
   exact lv S (Ia (decide ((Av.size : Int) ≤ 40)) hb1 (S.tm rfl) rfl) rfl fun a S=>Dl (⟨Keep.refl _ _,S.nf [] rfl (subR rfl)⟩)
 clear S;rintro a w1 ⟨hk1,S⟩
 refine Vm S rfl rfl ?_;clear S;intro a S
 obtain ⟨j1,hj1,h⟩:=Ey h
 refine Ib 4 (fun a w'=>∃ c1,j1 c1 = some r ∧ Keep [] w1 w' ∧ Sx w [] nov [] [(0,sV Av),(15,bV c1)] 26 a w') ?_ ?_
 ·rcases Bool.eq_false_or_eq_true ((decide (1 ≤ (Av.size : Int))) && (decide ((Av.size : Int) ≤ 40))) with hb2 | hb2
  ·replace h:=Rg h hb2
   refine Ef S rfl rfl rfl hb2 (Vm S rfl rfl fun a S=>Ef S rfl rfl rfl hb2 ?_)
   obtain ⟨hc1,h⟩:=Ij h
   exact lv S (Zd underlying9 (S.tm rfl) rfl hc1) rfl fun a S=>Ef S rfl rfl rfl hb2 (Vq S Rt rfl rfl rfl fun a S=>lv S (Hz hb2 (S.tm rfl) (S.tm rfl)) rfl fun a S=>Dl (⟨_,h,Keep.refl _ _,S.nf [] rfl (subR rfl)⟩))
  ·replace h:=Rh h hb2
   iterate 3 (refine Hh S rfl rfl rfl (Jw hb2) rfl ?_ rfl;clear S;intro a S)
   exact Vq S (Ia true hb2) rfl rfl rfl fun a S=>Dl (⟨_,h,Keep.refl _ _,S.nf [] rfl (subR rfl)⟩)
 clear S h;rintro a w2 ⟨c1,h,hk2,S⟩;rw [hj1] at h;clear hj1 j1
 refine Vm S rfl rfl ?_;clear S;intro a S
 obtain ⟨j2,hj2,h⟩:=Ey h
 refine Ib 4 (fun a w'=>∃ c2,j2 c2 = some r ∧ Keep [] w2 w' ∧ Sx w [] nov [] [(0,sV Av),(20,bV c2)] 26 a w') ?_ ?_
 ·rcases Bool.eq_false_or_eq_true c1 with hb3 | hb3
  ·replace h:=Rg h hb3
   refine Ef S rfl rfl rfl hb3 (Vm S rfl rfl fun a S=>Ef S rfl rfl rfl hb3 ?_)
   obtain ⟨hc2,h⟩:=Ij h
   exact lv S (Zd underlying9 (S.tm rfl) rfl hc2) rfl fun a S=>Ef S rfl rfl rfl hb3 (Vq S Us rfl rfl rfl fun a S=>lv S (Hz hb3 (S.tm rfl) (S.tm rfl)) rfl fun a S=>Dl (⟨_,h,Keep.refl _ _,S.nf [] rfl (subR rfl)⟩))
  ·replace h:=Rh h hb3
   iterate 3 (refine Hh S rfl rfl rfl (Jw hb3) rfl ?_ rfl;clear S;intro a S)
   exact Vq S (Ia true hb3) rfl rfl rfl fun a S=>Dl (⟨_,h,Keep.refl _ _,S.nf [] rfl (subR rfl)⟩)
 clear S h;rintro a w3 ⟨c2,h,hk3,S⟩;rw [hj2] at h;clear hj2 j2
 refine Vm S rfl rfl ?_;clear S;intro a S
 obtain ⟨j3,hj3,h⟩:=Ey h
 refine Ib 4 (fun a w'=>∃ c3,j3 c3 = some r ∧ Keep [] w3 w' ∧ Sx w [] nov [] [(25,bV c3)] 26 a w') ?_ ?_
 ·rcases Bool.eq_false_or_eq_true c2 with hb4 | hb4
  ·replace h:=Rg h hb4
   refine Ef S rfl rfl rfl hb4 (Vm S rfl rfl fun a S=>Ef S rfl rfl rfl hb4 ?_)
   obtain ⟨r1,hr1,h⟩:=Fd h
   refine Ei S (fun _=>Ea (vs:=[sV Av,sV Io]) ⟨(S.tm rfl),rfl,trivial⟩ call125) (IW _ Av Io _ hr1) rfl ?_;clear S;intro v1 a w5 hv1 hk4 hn1 S
   subst hv1
   exact Ef S rfl rfl rfl hb4 (Vq S Xw rfl rfl rfl fun a S=>lv S (Hz hb4 (S.tm rfl) (S.tm rfl)) rfl fun a S=>Dl (⟨_,h,hk4,S.nf [] rfl ⟨rfl,trivial⟩⟩))
  ·replace h:=Rh h hb4
   iterate 3 (refine Hh S rfl rfl rfl (Jw hb4) rfl ?_ rfl;clear S;intro a S)
   exact Vq S (Ia true hb4) rfl rfl rfl fun a S=>Dl (⟨_,h,Keep.refl _ _,S.nf [] rfl ⟨rfl,trivial⟩⟩)
 clear S h;rintro a w4 ⟨c3,h,hk5,S⟩;rw [hj3] at h;clear hj3 j3
 refine Va S rfl rfl fun a S=>Dl (wp_ret ?_)
 obtain rfl:=Option.some.inj h
 exact Eu S results87 rfl rfl
theorem Ge (w : World) (Ba : Int) (Bn : Int) (Bh : Int) (r : Bool) (h : Ed Ba Bn Bh = r) :
    Calls prog 67 [iV Ba,iV Bn,iV Bh].toArray w (Ret w [] fun _ v _=>v = bV r):=by
 refine Fe func67 rfl ntmps67 rfl fun a S=>?_
 unfold Ed at h
 replace S:=S.k3 0 1 2 rfl
 refine Fr (Vk S rfl rfl fun a S=>Dz (Vm S rfl rfl fun a S=>Vm S rfl rfl fun a S=>Vb S Rt rfl rfl rfl fun a S=>Vm S rfl rfl ?_));clear S;intro a S
 refine Ib 4 (fun a w'=>Keep [] w w' ∧ Sx w [] nov [] [(14,bV ((decide (Bn ≤ Ba)) && (decide (Ba ≤ Bh))))] 15 a w') ?_ ?_
 ·rcases Bool.eq_false_or_eq_true (decide (Bn ≤ Ba)) with hb1 | hb1
  ·exact Ef S rfl rfl rfl hb1 (Vm S rfl rfl fun a S=>Ef S rfl rfl rfl hb1 (Vm S rfl rfl fun a S=>Ef S rfl rfl rfl hb1 (Vb S Us rfl rfl rfl fun a S=>lv S (Hz hb1 (S.tm rfl) (S.tm rfl)) rfl fun a S=>Dl (⟨Keep.refl _ _,S.nf [] rfl ⟨rfl,trivial⟩⟩))))
  ·iterate 3 (refine Hh S rfl rfl rfl (Jw hb1) rfl ?_ rfl;clear S;intro a S)
   exact lv S (Ia (decide (Ba ≤ Bh)) hb1 (S.tm rfl) rfl) rfl fun a S=>Dl (⟨Keep.refl _ _,S.nf [] rfl ⟨rfl,trivial⟩⟩)
 clear S;rintro a w1 ⟨hk1,S⟩
 refine Va S rfl rfl fun a S=>Dl (wp_ret ?_)
 subst h
 exact Eu S results67 rfl rfl
theorem Uo (w : World) (Ba : Int) (r : Bool) (h : Iz Ba = r) :
    Calls prog 60 [iV Ba].toArray w (Ret w [] fun _ v _=>v = bV r):=by
 refine Fe func60 rfl ntmps60 rfl fun a S=>?_
 unfold Iz at h
 replace S:=S.k1 0 rfl
 refine Fr (Vk S rfl rfl fun a S=>Dz (Vm S rfl rfl fun a S=>Vq S Rt rfl rfl rfl fun a S=>Vm S rfl rfl fun a S=>Ib 3 (fun a w'=>Keep [] w w' ∧ Sx w [] nov [] [(8,bV ((decide (0 ≤ Ba)) && (decide (Ba < 345686400000))))] 9 a w') ?_ ?_))
 ·rcases Bool.eq_false_or_eq_true (decide (0 ≤ Ba)) with hb1 | hb1
  ·exact Ef S rfl rfl rfl hb1 (Vm S rfl rfl fun a S=>Ef S rfl rfl rfl hb1 (Vq S Ev rfl rfl rfl fun a S=>lv S (Hz hb1 (S.tm rfl) (S.tm rfl)) rfl fun a S=>Dl (⟨Keep.refl _ _,S.nf [] rfl ⟨rfl,trivial⟩⟩)))
  ·exact Hh S rfl rfl rfl (Jw hb1) rfl (fun a S=>Hh S rfl rfl rfl (Jw hb1) rfl (fun a S=>lv S (Ia (decide (Ba < 345686400000)) hb1 (S.tm rfl) rfl) rfl fun a S=>Dl (⟨Keep.refl _ _,S.nf [] rfl ⟨rfl,trivial⟩⟩)) rfl) rfl
 clear S;rintro a w1 ⟨hk1,S⟩
 refine Va S rfl rfl fun a S=>Dl (wp_ret ?_)
 subst h
 exact Eu S results60 rfl rfl
set_option maxRecDepth 20000 in
theorem GT (w : World) (Ac : Dx) (r : Int) (h : Ro Ac = some r) :
    Calls prog 48 [.agg (Dx.enc Ac).toArray].toArray w (Ret w [] fun _ v _=>v = iV r):=by
 refine Fe func48 rfl ntmps48 rfl fun a S=>?_
 unfold Ro at h
 replace S:=S.k1 0 rfl
 refine Fr (Mx S (S.tm rfl) (cs:=(Dx.enc Ac)) rfl rfl ?_);clear S;intro a w1 b1 hz1 hk1 S
 refine Vk S rfl rfl fun a S=>Dl (Fs (wp_block (Fr (Vf Sy S rfl rfl fun a S=>Vl isAgg9 0 S rfl rfl rfl rfl ?_))));clear S;intro a S
 obtain ⟨r1,hr1,h⟩:=Fd h
 refine Ei S (fun _=>Ea (vs:=[sV Ac.Site]) ⟨(S.tm rfl),trivial⟩ call87) (Ja _ Ac.Site _ hr1) rfl ?_;clear S;intro v1 a w2 hv1 hk2 hn1 S
 subst hv1
 refine Vu S Hv rfl rfl fun a S=>Va S rfl rfl fun a S=>Dl (Fc h (S.tm rfl) (fun hb1 h=>?_) (fun hb1 h=>?_))
 ·refine Fr (Vk S rfl rfl fun a S=>Dl (wp_ret (Ga (Ec ?_))))
  obtain rfl:=Option.some.inj h
  exact Eu S results48 rfl rfl
 ·refine Fr (Vf Vi S rfl rfl fun a S=>Vl isAgg3 0 S rfl rfl rfl rfl fun a S=>Ei S (fun _=>Ea (vs:=[iV Ac.No,iV 1,iV 1000000]) ⟨(S.tm rfl),rfl,rfl,trivial⟩ call67) (Ge _ Ac.No 1 1000000 _ rfl) rfl ?_);clear S;intro v2 a w3 hv2 hk3 hn2 S
  subst hv2
  refine Vu S Hv rfl rfl fun a S=>Vm S rfl rfl fun a S=>Ib 5 (fun a w'=>Keep [] w3 w' ∧ Sx w [] nov [.blk b1 (Dx.enc Ac) 41] [(1,.pointer (some ⟨b1,0,none⟩)),(22,bV ((!(Ed Ac.No 1 1000000)) || (!(Iz Ac.At))))] 152 a w') ?_ ?_
  ·rcases Bool.eq_false_or_eq_true (!(Ed Ac.No 1 1000000)) with hb2 | hb2
   ·iterate 4 (refine Hh S rfl rfl rfl (Nm hb2) rfl ?_ rfl;clear S;intro a S)
    exact lv S (Lj (!(Iz Ac.At)) hb2 (S.tm rfl) rfl) rfl fun a S=>Dl (⟨Keep.refl _ _,S.nf [true] rfl (subR rfl)⟩)
   ·refine Ef S rfl rfl rfl hb2 (Vf Wg S rfl rfl fun a S=>Ef S rfl rfl rfl hb2 (Vl isAgg3 0 S rfl rfl rfl rfl fun a S=>Ef S rfl rfl rfl hb2 (Ei S (fun _=>Ea (vs:=[iV Ac.At]) ⟨(S.tm rfl),trivial⟩ call60) (Uo _ Ac.At _ rfl) rfl ?_)));clear S;intro v3 a w5 hv3 hk4 hn3 S
    subst hv3
    exact Ef S rfl rfl rfl hb2 (Vu S Hv rfl rfl fun a S=>lv S (Lk hb2 (S.tm rfl) (S.tm rfl)) rfl fun a S=>Dl (⟨hk4,S.nf [true] rfl (subR rfl)⟩))
  clear S;rintro a w4 ⟨hk5,S⟩
  refine Va S rfl rfl fun a S=>Dl (Fc h (S.tm rfl) (fun hb3 h=>?_) (fun hb3 h=>?_))
  ·refine Fr (Vk S rfl rfl fun a S=>Dl (wp_ret (Ga (Ec ?_))))
   obtain rfl:=Option.some.inj h
   exact Eu S results48 rfl rfl
  ·refine Fr (Vf Qu S rfl rfl fun a S=>Vl isAgg3 0 S rfl rfl rfl rfl fun a S=>Ei S (fun _=>Ea (vs:=[iV Ac.Kind,iV 1,iV 4]) ⟨(S.tm rfl),rfl,rfl,trivial⟩ call67) (Ge _ Ac.Kind 1 4 _ rfl) rfl ?_);clear S;intro v4 a w6 hv4 hk6 hn4 S
   subst hv4
   refine Vu S Hv rfl rfl fun a S=>Va S rfl rfl fun a S=>Dl (Fc h (S.tm rfl) (fun hb4 h=>?_) (fun hb4 h=>?_))
   ·refine Fr (Vk S rfl rfl fun a S=>Dl (wp_ret (Ga (Ec ?_))))
    obtain rfl:=Option.some.inj h
    exact Eu S results48 rfl rfl
   ·refine wp_skip (Hn (Tn (Fs (Hd [] ([]) Tryz.mixed S rfl (by kernel_rfl) ?_))));clear S;intro w7 hk7 hsel S
    refine Lg [0,1,2,3,4,5,6,7,8,9,10,11] hsel (by kernel_rfl) rfl ?_
    clear hsel
    refine Gp S rfl (Gv Qu (S.tm rfl)) rfl fun a S=>Gp S rfl (Nn isAgg3 (S.tm rfl) (S.cell (i:=0) rfl rfl)) rfl fun a S=>Gp S rfl (Jh (S.tm rfl) rfl) rfl fun a S=>Gp S rfl (Gv Qu (S.tm rfl)) rfl fun a S=>Gp S rfl (Nn isAgg3 (S.tm rfl) (S.cell (i:=0) rfl rfl)) rfl fun a S=>Gp S rfl (Jh (S.tm rfl) rfl) rfl fun a S=>Gp S rfl (Gv Qu (S.tm rfl)) rfl fun a S=>Gp S rfl (Nn isAgg3 (S.tm rfl) (S.cell (i:=0) rfl rfl)) rfl fun a S=>Gp S rfl (Jh (S.tm rfl) rfl) rfl ?_;clear S;intro a S
    iterate 3 (refine Gp S rfl (Ra (S.tm rfl)) rfl ?_;clear S;intro a S)
    refine It ?_
    replace S:=(S.nl [.blk b1 (Dx.enc Ac) 41] [true] rfl).k4 1 3 4 5 rfl
    refine Tn (Fs (wp_block (Fs (Fr (Vm S rfl rfl fun a S=>Vu S Hv rfl rfl fun a S=>Vm S rfl rfl ?_)))));clear S;intro a S
    obtain ⟨j1,hj1,h⟩:=Ey h
    refine Ib 11 (fun a w'=>∃ c1,j1 c1 = some r ∧ Keep [] w7 w' ∧ Sx w [] nov [.blk b1 (Dx.enc Ac) 41] [(1,.pointer (some ⟨b1,0,none⟩)),(3,bV (decide (Ac.Kind = 1))),(4,bV (decide (Ac.Kind = 3))),(5,bV (decide (Ac.Kind = 4))),(51,bV c1)] 152 a w') ?_ ?_
    ·rcases Bool.eq_false_or_eq_true (!(decide (Ac.Kind = 4))) with hb5 | hb5
     ·replace h:=Rg h hb5
      refine Ef S rfl rfl rfl hb5 (Vf Qc S rfl rfl fun a S=>Ef S rfl rfl rfl hb5 (Vl isAgg9 0 S rfl rfl rfl rfl fun a S=>Ef S rfl rfl rfl hb5 ?_))
      obtain ⟨r2,hr2,h⟩:=Fd h
      refine Ei S (fun _=>Ea (vs:=[sV Ac.Who]) ⟨(S.tm rfl),trivial⟩ call87) (Ja _ Ac.Who _ hr2) rfl ?_;clear S;intro v5 a w9 hv5 hk8 hn5 S
      subst hv5
      refine Ef S rfl rfl rfl hb5 (Vu S Hv rfl rfl fun a S=>Ef S rfl rfl rfl hb5 (Vm S rfl rfl ?_));clear S;intro a S
      obtain ⟨j2,hj2,h⟩:=Ey h
      refine Ib 5 (fun a w'=>∃ c2,j2 c2 = some r ∧ Keep [] w9 w' ∧ Sx w [] nov [.blk b1 (Dx.enc Ac) 41] [(1,.pointer (some ⟨b1,0,none⟩)),(3,bV (decide (Ac.Kind = 1))),(4,bV (decide (Ac.Kind = 3))),(5,bV (decide (Ac.Kind = 4))),(40,bV (!(decide (Ac.Kind = 4)))),(50,bV c2)] 152 a w') ?_ ?_
      ·rcases Bool.eq_false_or_eq_true (!r2) with hb6 | hb6
       ·replace h:=Rg h hb6
        iterate 4 (refine Hh S rfl rfl rfl (Nm hb6) rfl ?_ rfl;clear S;intro a S)
        exact Ef S rfl rfl rfl hb5 (Vq S (Lj true hb6) rfl rfl rfl fun a S=>Dl (⟨_,h,Keep.refl _ _,S.nf [true] rfl (subR rfl)⟩))
       ·replace h:=Rh h hb6
        refine Ef S rfl rfl rfl hb6 (Vf Un S rfl rfl fun a S=>Ef S rfl rfl rfl hb6 (Vl isAgg9 0 S rfl rfl rfl rfl fun a S=>Ef S rfl rfl rfl hb6 ?_))
        obtain ⟨r3,hr3,h⟩:=Fd h
        refine Ei S (fun _=>Ea (vs:=[sV Ac.Race]) ⟨(S.tm rfl),trivial⟩ call87) (Ja _ Ac.Race _ hr3) rfl ?_;clear S;intro v6 a w11 hv6 hk9 hn6 S
        subst hv6
        exact Ef S rfl rfl rfl hb6 (Vu S Hv rfl rfl fun a S=>Ef S rfl rfl rfl hb5 (lv S (Lk hb6 (S.tm rfl) (S.tm rfl)) rfl fun a S=>Dl (⟨_,h,hk9,S.nf [true] rfl (subR rfl)⟩)))
      clear S h;rintro a w10 ⟨c2,h,hk10,S⟩;rw [hj2] at h;clear hj2 j2
      exact lv S (Hz hb5 (S.tm rfl) (S.tm rfl)) rfl fun a S=>Dl (⟨_,h,(hk8).trans hk10,S.nf [true] rfl (subR rfl)⟩)
     ·replace h:=Rh h hb5
      iterate 5 (refine Hh S rfl rfl rfl (Jw hb5) rfl ?_ rfl;clear S;intro a S)
      iterate 4 (refine BF S rfl rfl rfl rfl ?_;clear S;intro a S)
      exact Hh S rfl rfl rfl (Jw hb5) rfl (fun a S=>Vq S (Ia true hb5) rfl rfl rfl fun a S=>Dl (⟨_,h,Keep.refl _ _,S.nf [true] rfl (subR rfl)⟩)) rfl
    clear S h;rintro a w8 ⟨c1,h,hk11,S⟩;rw [hj1] at h;clear hj1 j1
    refine Va S rfl rfl fun a S=>Dl ?_
    obtain ⟨j3,hj3,h⟩:=Ey h
    refine Es (fun a w'=>∃ x1 : Bool,j3 x1 = some r ∧ Sx w [] nov [.blk b1 (Dx.enc Ac) 41] [(1,.pointer (some ⟨b1,0,none⟩)),(3,bV (decide (Ac.Kind = 1))),(4,bV (decide (Ac.Kind = 3))),(5,bV (decide (Ac.Kind = 4))),(37,bV x1)] 152 a w') ?_ ?_
    ·refine Fc h (S.tm rfl) (fun hb7 h=>?_) (fun hb7 h=>?_)
     ·exact wp_skip (Tn (⟨c1,h,S.nf [true] rfl (subR rfl)⟩))
     ·refine Fg (Vm S rfl rfl fun a S=>Vm S rfl rfl fun a S=>Ib 4 (fun a w'=>Keep [] w8 w' ∧ Sx w [] nov [.blk b1 (Dx.enc Ac) 41] [(1,.pointer (some ⟨b1,0,none⟩)),(3,bV (decide (Ac.Kind = 1))),(4,bV (decide (Ac.Kind = 3))),(5,bV (decide (Ac.Kind = 4))),(57,bV ((decide (Ac.Kind = 1)) && (!decide (Ac.Club = An))))] 152 a w') ?_ ?_)
      ·rcases Bool.eq_false_or_eq_true (decide (Ac.Kind = 1)) with hb8 | hb8
       ·exact Ef S rfl rfl rfl hb8 (Vf Um S rfl rfl fun a S=>Ef S rfl rfl rfl hb8 (Vl isAgg9 0 S rfl rfl rfl rfl fun a S=>Ef S rfl rfl rfl hb8 (Vq S Zt rfl rfl rfl fun a S=>lv S (Hz hb8 (S.tm rfl) (S.tm rfl)) rfl fun a S=>Dl (⟨Keep.refl _ _,S.nf [true] rfl (subR rfl)⟩))))
       ·iterate 3 (refine Hh S rfl rfl rfl (Jw hb8) rfl ?_ rfl;clear S;intro a S)
        exact lv S (Ia (!decide (Ac.Club = An)) hb8 (S.tm rfl) rfl) rfl fun a S=>Dl (⟨Keep.refl _ _,S.nf [true] rfl (subR rfl)⟩)
      clear S;rintro a w13 ⟨hk12,S⟩
      refine Vm S rfl rfl ?_;clear S;intro a S
      obtain ⟨j4,hj4,h⟩:=Ey h
      refine Ib 5 (fun a w'=>∃ c3,j4 c3 = some r ∧ Keep [] w13 w' ∧ Sx w [] nov [.blk b1 (Dx.enc Ac) 41] [(1,.pointer (some ⟨b1,0,none⟩)),(3,bV (decide (Ac.Kind = 1))),(4,bV (decide (Ac.Kind = 3))),(5,bV (decide (Ac.Kind = 4))),(63,bV c3)] 152 a w') ?_ ?_
      ·rcases Bool.eq_false_or_eq_true ((decide (Ac.Kind = 1)) && (!decide (Ac.Club = An))) with hb9 | hb9
       ·replace h:=Rg h hb9
        refine Ef S rfl rfl rfl hb9 (Vf Um S rfl rfl fun a S=>Ef S rfl rfl rfl hb9 (Vl isAgg9 0 S rfl rfl rfl rfl fun a S=>Ef S rfl rfl rfl hb9 ?_))
        obtain ⟨r4,hr4,h⟩:=Fd h
        refine Ei S (fun _=>Ea (vs:=[sV Ac.Club]) ⟨(S.tm rfl),trivial⟩ call87) (Ja _ Ac.Club _ hr4) rfl ?_;clear S;intro v7 a w15 hv7 hk13 hn7 S
        subst hv7
        exact Ef S rfl rfl rfl hb9 (Vu S Hv rfl rfl fun a S=>lv S (Hz hb9 (S.tm rfl) (S.tm rfl)) rfl fun a S=>Dl (⟨_,h,hk13,S.nf [true] rfl (subR rfl)⟩))
       ·replace h:=Rh h hb9
        iterate 4 (refine Hh S rfl rfl rfl (Jw hb9) rfl ?_ rfl;clear S;intro a S)
        exact Vq S (Ia true hb9) rfl rfl rfl fun a S=>Dl (⟨_,h,Keep.refl _ _,S.nf [true] rfl (subR rfl)⟩)
      clear S h;rintro a w14 ⟨c3,h,hk14,S⟩;rw [hj4] at h;clear hj4 j4
      exact Va S rfl rfl fun a S=>Dl (⟨c3,h,S.nf [true] rfl (subR rfl)⟩)
    clear S h;rintro a w12 ⟨x1,h,S⟩;rw [hj3] at h;clear hj3 j3
    refine Tn (Fc h (S.tm rfl) (fun hb10 h=>?_) (fun hb10 h=>?_))
    ·refine Fr (Vk S rfl rfl fun a S=>Dl (wp_ret (Ga (Ec ?_))))
     obtain rfl:=Option.some.inj h
     exact Eu S results48 rfl rfl
    ·refine Fs (Fr (Vm S rfl rfl fun a S=>Vm S rfl rfl fun a S=>Ib 2 (fun a w'=>Keep [] w12 w' ∧ Sx w [] nov [.blk b1 (Dx.enc Ac) 41] [(1,.pointer (some ⟨b1,0,none⟩)),(3,bV (decide (Ac.Kind = 1))),(4,bV (decide (Ac.Kind = 3))),(5,bV (decide (Ac.Kind = 4))),(68,bV ((decide (Ac.Kind = 1)) || (decide (Ac.Kind = 3))))] 152 a w') ?_ ?_))
     ·rcases Bool.eq_false_or_eq_true (decide (Ac.Kind = 1)) with hb11 | hb11
      ·exact Hh S rfl rfl rfl (Nm hb11) rfl (fun a S=>lv S (Lj (decide (Ac.Kind = 3)) hb11 (S.tm rfl) rfl) rfl fun a S=>Dl (⟨Keep.refl _ _,S.nf [true] rfl (subR rfl)⟩)) rfl
      ·exact Ef S rfl rfl rfl hb11 (Vm S rfl rfl fun a S=>lv S (Lk hb11 (S.tm rfl) (S.tm rfl)) rfl fun a S=>Dl (⟨Keep.refl _ _,S.nf [true] rfl (subR rfl)⟩))
     clear S;rintro a w16 ⟨hk15,S⟩
     refine Vm S rfl rfl fun a S=>Ib 5 (fun a w'=>Keep [] w16 w' ∧ Sx w [] nov [.blk b1 (Dx.enc Ac) 41] [(1,.pointer (some ⟨b1,0,none⟩)),(3,bV (decide (Ac.Kind = 1))),(4,bV (decide (Ac.Kind = 3))),(5,bV (decide (Ac.Kind = 4))),(74,bV (((decide (Ac.Kind = 1)) || (decide (Ac.Kind = 3))) && (!(Ed Ac.Time 0 360000))))] 152 a w') ?_ ?_
     ·rcases Bool.eq_false_or_eq_true ((decide (Ac.Kind = 1)) || (decide (Ac.Kind = 3))) with hb12 | hb12
      ·refine Ef S rfl rfl rfl hb12 (Vf Wh S rfl rfl fun a S=>Ef S rfl rfl rfl hb12 (Vl isAgg3 0 S rfl rfl rfl rfl fun a S=>Ef S rfl rfl rfl hb12 (Ei S (fun _=>Ea (vs:=[iV Ac.Time,iV 0,iV 360000]) ⟨(S.tm rfl),rfl,rfl,trivial⟩ call67) (Ge _ Ac.Time 0 360000 _ rfl) rfl ?_)));clear S;intro v8 a w18 hv8 hk16 hn8 S
       subst hv8
       exact Ef S rfl rfl rfl hb12 (Vu S Hv rfl rfl fun a S=>lv S (Hz hb12 (S.tm rfl) (S.tm rfl)) rfl fun a S=>Dl (⟨hk16,S.nf [true] rfl (subR rfl)⟩))
      ·iterate 4 (refine Hh S rfl rfl rfl (Jw hb12) rfl ?_ rfl;clear S;intro a S)
       exact lv S (Ia (!(Ed Ac.Time 0 360000)) hb12 (S.tm rfl) rfl) rfl fun a S=>Dl (⟨Keep.refl _ _,S.nf [true] rfl (subR rfl)⟩)
     clear S;rintro a w17 ⟨hk17,S⟩
     refine Va S rfl rfl fun a S=>Dl ?_
     obtain ⟨j5,hj5,h⟩:=Ey h
     refine Es (fun a w'=>∃ x2 : Bool,j5 x2 = some r ∧ Sx w [] nov [.blk b1 (Dx.enc Ac) 41] [(1,.pointer (some ⟨b1,0,none⟩)),(3,bV (decide (Ac.Kind = 1))),(4,bV (decide (Ac.Kind = 3))),(5,bV (decide (Ac.Kind = 4))),(64,bV x2)] 152 a w') ?_ ?_
     ·refine Fc h (S.tm rfl) (fun hb13 h=>?_) (fun hb13 h=>?_)
      ·exact wp_skip (Tn (⟨(((decide (Ac.Kind = 1)) || (decide (Ac.Kind = 3))) && (!(Ed Ac.Time 0 360000))),h,S.nf [true] rfl (subR rfl)⟩))
      ·refine Fg (Vm S rfl rfl fun a S=>Vm S rfl rfl fun a S=>Ib 5 (fun a w'=>Keep [] w17 w' ∧ Sx w [] nov [.blk b1 (Dx.enc Ac) 41] [(1,.pointer (some ⟨b1,0,none⟩)),(3,bV (decide (Ac.Kind = 1))),(4,bV (decide (Ac.Kind = 3))),(5,bV (decide (Ac.Kind = 4))),(81,bV ((decide (Ac.Kind = 3)) && (!(Ed Ac.Fault 0 8))))] 152 a w') ?_ ?_)
       ·rcases Bool.eq_false_or_eq_true (decide (Ac.Kind = 3)) with hb14 | hb14
        ·refine Ef S rfl rfl rfl hb14 (Vf Xz S rfl rfl fun a S=>Ef S rfl rfl rfl hb14 (Vl isAgg3 0 S rfl rfl rfl rfl fun a S=>Ef S rfl rfl rfl hb14 (Ei S (fun _=>Ea (vs:=[iV Ac.Fault,iV 0,iV 8]) ⟨(S.tm rfl),rfl,rfl,trivial⟩ call67) (Ge _ Ac.Fault 0 8 _ rfl) rfl ?_)));clear S;intro v9 a w21 hv9 hk18 hn9 S
         subst hv9
         exact Ef S rfl rfl rfl hb14 (Vu S Hv rfl rfl fun a S=>lv S (Hz hb14 (S.tm rfl) (S.tm rfl)) rfl fun a S=>Dl (⟨hk18,S.nf [true] rfl (subR rfl)⟩))
        ·iterate 4 (refine Hh S rfl rfl rfl (Jw hb14) rfl ?_ rfl;clear S;intro a S)
         exact lv S (Ia (!(Ed Ac.Fault 0 8)) hb14 (S.tm rfl) rfl) rfl fun a S=>Dl (⟨Keep.refl _ _,S.nf [true] rfl (subR rfl)⟩)
       clear S;rintro a w20 ⟨hk19,S⟩
       exact Va S rfl rfl fun a S=>Dl (⟨((decide (Ac.Kind = 3)) && (!(Ed Ac.Fault 0 8))),h,S.nf [true] rfl (subR rfl)⟩)
     clear S h;rintro a w19 ⟨x2,h,S⟩;rw [hj5] at h;clear hj5 j5
     refine Tn (Fc h (S.tm rfl) (fun hb15 h=>?_) (fun hb15 h=>?_))
     ·refine Fr (Vk S rfl rfl fun a S=>Dl (wp_ret (Ga (Ec ?_))))
      obtain rfl:=Option.some.inj h
      exact Eu S results48 rfl rfl
     ·refine Fr (Vm S rfl rfl fun a S=>Vm S rfl rfl ?_);clear S;intro a S
      obtain ⟨j6,hj6,h⟩:=Ey h
      refine Ib 5 (fun a w'=>∃ c4,j6 c4 = some r ∧ Keep [] w19 w' ∧ Sx w [] nov [.blk b1 (Dx.enc Ac) 41] [(1,.pointer (some ⟨b1,0,none⟩)),(3,bV (decide (Ac.Kind = 1))),(4,bV (decide (Ac.Kind = 3))),(5,bV (decide (Ac.Kind = 4))),(89,bV c4)] 152 a w') ?_ ?_
      ·rcases Bool.eq_false_or_eq_true (decide (Ac.Kind = 4)) with hb16 | hb16
       ·replace h:=Rg h hb16
        refine Ef S rfl rfl rfl hb16 (Vf Zz S rfl rfl fun a S=>Ef S rfl rfl rfl hb16 (Vl isAgg9 0 S rfl rfl rfl rfl fun a S=>Ef S rfl rfl rfl hb16 ?_))
        obtain ⟨r5,hr5,h⟩:=Fd h
        refine Ei S (fun _=>Ea (vs:=[sV Ac.Of]) ⟨(S.tm rfl),trivial⟩ call87) (Ja _ Ac.Of _ hr5) rfl ?_;clear S;intro v10 a w23 hv10 hk20 hn10 S
        subst hv10
        exact Ef S rfl rfl rfl hb16 (Vu S Hv rfl rfl fun a S=>lv S (Hz hb16 (S.tm rfl) (S.tm rfl)) rfl fun a S=>Dl (⟨_,h,hk20,S.nf [true] rfl (subR rfl)⟩))
       ·replace h:=Rh h hb16
        iterate 4 (refine Hh S rfl rfl rfl (Jw hb16) rfl ?_ rfl;clear S;intro a S)
        exact Vq S (Ia true hb16) rfl rfl rfl fun a S=>Dl (⟨_,h,Keep.refl _ _,S.nf [true] rfl (subR rfl)⟩)
      clear S h;rintro a w22 ⟨c4,h,hk21,S⟩;rw [hj6] at h;clear hj6 j6
      refine Va S rfl rfl fun a S=>Dl (Fc h (S.tm rfl) (fun hb17 h=>?_) (fun hb17 h=>?_))
      ·refine Fr (Vk S rfl rfl fun a S=>Dl (wp_ret (Ga (Ec ?_))))
       obtain rfl:=Option.some.inj h
       exact Eu S results48 rfl rfl
      ·refine Fr (Vm S rfl rfl fun a S=>Vm S rfl rfl fun a S=>Ib 5 (fun a w'=>Keep [] w22 w' ∧ Sx w [] nov [.blk b1 (Dx.enc Ac) 41] [(1,.pointer (some ⟨b1,0,none⟩)),(3,bV (decide (Ac.Kind = 1))),(4,bV (decide (Ac.Kind = 3))),(5,bV (decide (Ac.Kind = 4))),(97,bV ((decide (Ac.Kind = 4)) && (!(Ed Ac.Other 1 1000000))))] 152 a w') ?_ ?_)
       ·rcases Bool.eq_false_or_eq_true (decide (Ac.Kind = 4)) with hb18 | hb18
        ·refine Ef S rfl rfl rfl hb18 (Vf Xd S rfl rfl fun a S=>Ef S rfl rfl rfl hb18 (Vl isAgg3 0 S rfl rfl rfl rfl fun a S=>Ef S rfl rfl rfl hb18 (Ei S (fun _=>Ea (vs:=[iV Ac.Other,iV 1,iV 1000000]) ⟨(S.tm rfl),rfl,rfl,trivial⟩ call67) (Ge _ Ac.Other 1 1000000 _ rfl) rfl ?_)));clear S;intro v11 a w25 hv11 hk22 hn11 S
         subst hv11
         exact Ef S rfl rfl rfl hb18 (Vu S Hv rfl rfl fun a S=>lv S (Hz hb18 (S.tm rfl) (S.tm rfl)) rfl fun a S=>Dl (⟨hk22,S.nf [true] rfl (subR rfl)⟩))
        ·iterate 4 (refine Hh S rfl rfl rfl (Jw hb18) rfl ?_ rfl;clear S;intro a S)
         exact lv S (Ia (!(Ed Ac.Other 1 1000000)) hb18 (S.tm rfl) rfl) rfl fun a S=>Dl (⟨Keep.refl _ _,S.nf [true] rfl (subR rfl)⟩)
       clear S;rintro a w24 ⟨hk23,S⟩
       refine Va S rfl rfl fun a S=>Dl (Fc h (S.tm rfl) (fun hb19 h=>?_) (fun hb19 h=>?_))
       ·refine Fr (Vk S rfl rfl fun a S=>Dl (wp_ret (Ga (Ec ?_))))
        obtain rfl:=Option.some.inj h
        exact Eu S results48 rfl rfl
       ·refine wp_skip (Hn (Tn (Fr (Vf Sy S rfl rfl fun a S=>Vl isAgg9 0 S rfl rfl rfl rfl fun a S=>Vf Vi S rfl rfl fun a S=>Vl isAgg3 0 S rfl rfl rfl rfl fun a S=>Vf Wg S rfl rfl fun a S=>Vl isAgg3 0 S rfl rfl rfl rfl ?_))));clear S;intro a S
        refine Vf Qu S rfl rfl fun a S=>Vl isAgg3 0 S rfl rfl rfl rfl fun a S=>lv S (Nl XE (pv:=[(0,sV Ac.Site),(1,iV Ac.No),(2,iV Ac.At),(3,iV Ac.Kind)]) ⟨rfl,(S.tm rfl),rfl,(S.tm rfl),rfl,(S.tm rfl),rfl,(S.tm rfl),trivial⟩ (cs:=[sV Ac.Site,iV Ac.No,iV Ac.At,iV Ac.Kind,sV An,sV An,sV An,iV 0,iV 0,sV An,iV 0]) (by kernel_rfl)) rfl fun a S=>Hu S zeroValue41 (cs:=[sV An,iV 0,iV 0,iV 0,sV An,sV An,sV An,iV 0,iV 0,sV An,iV 0]) rfl rfl ?_;clear S;intro a w26 b2 hz2 hk24 S
        refine Fj S (S.tm rfl) (S.tm rfl) (i:=0) (off:=0) rfl sizeOf41 (vs:=(Dx.enc (Dx.mk Ac.Site Ac.No Ac.At Ac.Kind An An An 0 0 An 0))) rfl rfl rfl rfl ?_;clear S;intro w27 hk25 S
        refine Ld ?_
        replace S:=(S.nl [.blk b2 (Dx.enc (Dx.mk Ac.Site Ac.No Ac.At Ac.Kind An An An 0 0 An 0)) 41,.blk b1 (Dx.enc Ac) 41] [true,true] rfl).k5 1 3 4 5 6 rfl
        refine Tn (Fs ?_)
        obtain ⟨j7,hj7,h⟩:=Ey h
        refine Es (fun a w'=>∃ x3 : ByteArray,∃ x4 : ByteArray,∃ x5 : ByteArray,∃ x6 : Int,∃ x7 : Int,∃ x8 : ByteArray,∃ x9 : Int,j7 x3 x4 x5 x6 x7 x8 x9 = some r ∧ Sx w [] nov [.blk b2 (Dx.enc (Dx.mk Ac.Site Ac.No Ac.At Ac.Kind x3 x4 x5 x6 x7 x8 x9)) 41,.blk b1 (Dx.enc Ac) 41] [(1,.pointer (some ⟨b1,0,none⟩)),(6,.pointer (some ⟨b2,0,none⟩))] 152 a w') ?_ ?_
        ·refine wp_block (Fr (Vm S rfl rfl fun a S=>Va S rfl rfl fun a S=>Dl ?_))
         obtain ⟨j8,hj8,h⟩:=Ey h
         refine Es (fun a w'=>∃ x10 : ByteArray,∃ x11 : ByteArray,∃ x12 : ByteArray,∃ x13 : Int,∃ x14 : Int,∃ x15 : ByteArray,∃ x16 : Int,j8 x10 x11 x12 x13 x14 x15 x16 = some r ∧ Sx w [] nov [.blk b2 (Dx.enc (Dx.mk Ac.Site Ac.No Ac.At Ac.Kind x10 x11 x12 x13 x14 x15 x16)) 41,.blk b1 (Dx.enc Ac) 41] [(1,.pointer (some ⟨b1,0,none⟩)),(6,.pointer (some ⟨b2,0,none⟩))] 152 a w') ?_ ?_
         ·refine Fc h (S.tm rfl) (fun hb20 h=>?_) (fun hb20 h=>?_)
          ·refine Hd [] ([b2]) Tryz.mixed S rfl (by kernel_rfl) ?_;clear S;intro w34 hk30 hsel S
           refine Ek 0 S hsel rfl rfl rfl (by kernel_rfl) (by kernel_rfl) rfl (fun _ hw=>(Gv Qc (S.tm rfl))) fun a S=>Ek 1 S hsel rfl rfl rfl (by kernel_rfl) (by kernel_rfl) rfl (fun _ hw=>(Ic isAgg9 (off:=0) (o:=4) (S.tm rfl) ((S.blk_mem (i:=1) (cells:=(Dx.enc Ac)) (b:=b1) (T:=41) rfl (My (i:=0) (j:=1) (e:=.blk b2 (Dx.enc (Dx.mk Ac.Site Ac.No Ac.At Ac.Kind An An An 0 0 An 0)) 41) (e':=.blk b1 (Dx.enc Ac) 41) S rfl rfl rfl)).kept hw) rfl)) fun a S=>Ek 2 S hsel rfl rfl rfl (by kernel_rfl) (by kernel_rfl) rfl (fun _ hw=>(Gv Um (S.tm rfl))) fun a S=>Ek 3 S hsel rfl rfl rfl (by kernel_rfl) (by kernel_rfl) rfl (fun _ hw=>(Ic isAgg9 (off:=0) (o:=5) (S.tm rfl) ((S.blk_mem (i:=1) (cells:=(Dx.enc Ac)) (b:=b1) (T:=41) rfl (My (i:=0) (j:=1) (e:=.blk b2 (Dx.enc (Dx.mk Ac.Site Ac.No Ac.At Ac.Kind An An An 0 0 An 0)) 41) (e':=.blk b1 (Dx.enc Ac) 41) S rfl rfl rfl)).kept hw) rfl)) fun a S=>Ek 4 S hsel rfl rfl rfl (by kernel_rfl) (by kernel_rfl) rfl (fun _ hw=>(Gv Un (S.tm rfl))) fun a S=>Ek 5 S hsel rfl rfl rfl (by kernel_rfl) (by kernel_rfl) rfl (fun _ hw=>(Ic isAgg9 (off:=0) (o:=6) (S.tm rfl) ((S.blk_mem (i:=1) (cells:=(Dx.enc Ac)) (b:=b1) (T:=41) rfl (My (i:=0) (j:=1) (e:=.blk b2 (Dx.enc (Dx.mk Ac.Site Ac.No Ac.At Ac.Kind An An An 0 0 An 0)) 41) (e':=.blk b1 (Dx.enc Ac) 41) S rfl rfl rfl)).kept hw) rfl)) fun a S=>Ek 6 S hsel rfl rfl rfl (by kernel_rfl) (by kernel_rfl) rfl (fun _ hw=>(Gv Wh (S.tm rfl))) fun a S=>Ek 7 S hsel rfl rfl rfl (by kernel_rfl) (by kernel_rfl) rfl (fun _ hw=>(Ic isAgg3 (off:=0) (o:=7) (S.tm rfl) ((S.blk_mem (i:=1) (cells:=(Dx.enc Ac)) (b:=b1) (T:=41) rfl (My (i:=0) (j:=1) (e:=.blk b2 (Dx.enc (Dx.mk Ac.Site Ac.No Ac.At Ac.Kind An An An 0 0 An 0)) 41) (e':=.blk b1 (Dx.enc Ac) 41) S rfl rfl rfl)).kept hw) rfl)) ?_;clear S;intro a S
           refine Ek 8 S hsel rfl rfl rfl (by kernel_rfl) (by kernel_rfl) rfl (fun _ hw=>(Gv Qc (S.tm rfl))) fun a S=>Hi 9 (by kernel_rfl) rfl (Fj S (S.tm rfl) (S.tm rfl) (i:=0) (off:=4) rfl sizeOf9 (vs:=[sV Ac.Who]) rfl rfl rfl rfl ?_);clear S;intro w35 hk31 S
           refine Ld (Ik hk31 (Ek 10 S hsel rfl rfl rfl (by kernel_rfl) (by kernel_rfl) rfl (fun _ hw=>(Gv Um (S.tm rfl))) fun a S=>Hi 11 (by kernel_rfl) rfl (Fj S (S.tm rfl) (S.tm rfl) (i:=0) (off:=5) rfl sizeOf9 (vs:=[sV Ac.Club]) rfl rfl rfl rfl ?_)));clear S;intro w36 hk32 S
           refine Ld (Ik hk32 (Ek 12 S hsel rfl rfl rfl (by kernel_rfl) (by kernel_rfl) rfl (fun _ hw=>(Gv Un (S.tm rfl))) fun a S=>Hi 13 (by kernel_rfl) rfl (Fj S (S.tm rfl) (S.tm rfl) (i:=0) (off:=6) rfl sizeOf9 (vs:=[sV Ac.Race]) rfl rfl rfl rfl ?_)));clear S;intro w37 hk33 S
           refine Ld (Ik hk33 (Ek 14 S hsel rfl rfl rfl (by kernel_rfl) (by kernel_rfl) rfl (fun _ hw=>(Gv Wh (S.tm rfl))) fun a S=>Hi 15 (by kernel_rfl) rfl (Fj S (S.tm rfl) (S.tm rfl) (i:=0) (off:=7) rfl sizeOf3 (vs:=[iV Ac.Time]) rfl rfl rfl rfl ?_)));clear S;intro w38 hk34 S
           refine Ld (Ik hk34 (Wl (by kernel_rfl) ?_))
           clear hsel
           replace S:=(S.nl [.blk b2 (Dx.enc (Dx.mk Ac.Site Ac.No Ac.At Ac.Kind Ac.Who Ac.Club Ac.Race Ac.Time 0 An 0)) 41,.blk b1 (Dx.enc Ac) 41] [true,true] rfl).k2 1 6 rfl
           exact Tn (⟨Ac.Who,Ac.Club,Ac.Race,Ac.Time,0,An,0,h,S.nf [true,true] rfl (subR rfl)⟩)
          ·refine Fr (Vm S rfl rfl fun a S=>Va S rfl rfl fun a S=>Dl ?_)
           obtain ⟨j9,hj9,h⟩:=Ey h
           refine Es (fun a w'=>∃ x17 : ByteArray,∃ x18 : ByteArray,∃ x19 : Int,∃ x20 : Int,∃ x21 : ByteArray,∃ x22 : Int,j9 x17 x18 x19 x20 x21 x22 = some r ∧ Sx w [] nov [.blk b2 (Dx.enc (Dx.mk Ac.Site Ac.No Ac.At Ac.Kind x17 An x18 x19 x20 x21 x22)) 41,.blk b1 (Dx.enc Ac) 41] [(1,.pointer (some ⟨b1,0,none⟩)),(6,.pointer (some ⟨b2,0,none⟩))] 152 a w') ?_ ?_
           ·refine Fc h (S.tm rfl) (fun hb21 h=>?_) (fun hb21 h=>?_)
            ·refine Hd [] ([b2]) Tryz.mixed S rfl (by kernel_rfl) ?_;clear S;intro w44 hk39 hsel S
             refine Ek 0 S hsel rfl rfl rfl (by kernel_rfl) (by kernel_rfl) rfl (fun _ hw=>(Gv Qc (S.tm rfl))) fun a S=>Ek 1 S hsel rfl rfl rfl (by kernel_rfl) (by kernel_rfl) rfl (fun _ hw=>(Ic isAgg9 (off:=0) (o:=4) (S.tm rfl) ((S.blk_mem (i:=1) (cells:=(Dx.enc Ac)) (b:=b1) (T:=41) rfl (My (i:=0) (j:=1) (e:=.blk b2 (Dx.enc (Dx.mk Ac.Site Ac.No Ac.At Ac.Kind An An An 0 0 An 0)) 41) (e':=.blk b1 (Dx.enc Ac) 41) S rfl rfl rfl)).kept hw) rfl)) fun a S=>Ek 2 S hsel rfl rfl rfl (by kernel_rfl) (by kernel_rfl) rfl (fun _ hw=>(Gv Un (S.tm rfl))) fun a S=>Ek 3 S hsel rfl rfl rfl (by kernel_rfl) (by kernel_rfl) rfl (fun _ hw=>(Ic isAgg9 (off:=0) (o:=6) (S.tm rfl) ((S.blk_mem (i:=1) (cells:=(Dx.enc Ac)) (b:=b1) (T:=41) rfl (My (i:=0) (j:=1) (e:=.blk b2 (Dx.enc (Dx.mk Ac.Site Ac.No Ac.At Ac.Kind An An An 0 0 An 0)) 41) (e':=.blk b1 (Dx.enc Ac) 41) S rfl rfl rfl)).kept hw) rfl)) fun a S=>Ek 4 S hsel rfl rfl rfl (by kernel_rfl) (by kernel_rfl) rfl (fun _ hw=>(Gv Wh (S.tm rfl))) fun a S=>Ek 5 S hsel rfl rfl rfl (by kernel_rfl) (by kernel_rfl) rfl (fun _ hw=>(Ic isAgg3 (off:=0) (o:=7) (S.tm rfl) ((S.blk_mem (i:=1) (cells:=(Dx.enc Ac)) (b:=b1) (T:=41) rfl (My (i:=0) (j:=1) (e:=.blk b2 (Dx.enc (Dx.mk Ac.Site Ac.No Ac.At Ac.Kind An An An 0 0 An 0)) 41) (e':=.blk b1 (Dx.enc Ac) 41) S rfl rfl rfl)).kept hw) rfl)) fun a S=>Ek 6 S hsel rfl rfl rfl (by kernel_rfl) (by kernel_rfl) rfl (fun _ hw=>(Gv Xz (S.tm rfl))) fun a S=>Ek 7 S hsel rfl rfl rfl (by kernel_rfl) (by kernel_rfl) rfl (fun _ hw=>(Ic isAgg3 (off:=0) (o:=8) (S.tm rfl) ((S.blk_mem (i:=1) (cells:=(Dx.enc Ac)) (b:=b1) (T:=41) rfl (My (i:=0) (j:=1) (e:=.blk b2 (Dx.enc (Dx.mk Ac.Site Ac.No Ac.At Ac.Kind An An An 0 0 An 0)) 41) (e':=.blk b1 (Dx.enc Ac) 41) S rfl rfl rfl)).kept hw) rfl)) ?_;clear S;intro a S
             refine Ek 8 S hsel rfl rfl rfl (by kernel_rfl) (by kernel_rfl) rfl (fun _ hw=>(Gv Qc (S.tm rfl))) fun a S=>Hi 9 (by kernel_rfl) rfl (Fj S (S.tm rfl) (S.tm rfl) (i:=0) (off:=4) rfl sizeOf9 (vs:=[sV Ac.Who]) rfl rfl rfl rfl ?_);clear S;intro w45 hk40 S
             refine Ld (Ik hk40 (Ek 10 S hsel rfl rfl rfl (by kernel_rfl) (by kernel_rfl) rfl (fun _ hw=>(Gv Un (S.tm rfl))) fun a S=>Hi 11 (by kernel_rfl) rfl (Fj S (S.tm rfl) (S.tm rfl) (i:=0) (off:=6) rfl sizeOf9 (vs:=[sV Ac.Race]) rfl rfl rfl rfl ?_)));clear S;intro w46 hk41 S
             refine Ld (Ik hk41 (Ek 12 S hsel rfl rfl rfl (by kernel_rfl) (by kernel_rfl) rfl (fun _ hw=>(Gv Wh (S.tm rfl))) fun a S=>Hi 13 (by kernel_rfl) rfl (Fj S (S.tm rfl) (S.tm rfl) (i:=0) (off:=7) rfl sizeOf3 (vs:=[iV Ac.Time]) rfl rfl rfl rfl ?_)));clear S;intro w47 hk42 S
             refine Ld (Ik hk42 (Ek 14 S hsel rfl rfl rfl (by kernel_rfl) (by kernel_rfl) rfl (fun _ hw=>(Gv Xz (S.tm rfl))) fun a S=>Hi 15 (by kernel_rfl) rfl (Fj S (S.tm rfl) (S.tm rfl) (i:=0) (off:=8) rfl sizeOf3 (vs:=[iV Ac.Fault]) rfl rfl rfl rfl ?_)));clear S;intro w48 hk43 S
             refine Ld (Ik hk43 (Wl (by kernel_rfl) ?_))
             clear hsel
             replace S:=(S.nl [.blk b2 (Dx.enc (Dx.mk Ac.Site Ac.No Ac.At Ac.Kind Ac.Who An Ac.Race Ac.Time Ac.Fault An 0)) 41,.blk b1 (Dx.enc Ac) 41] [true,true] rfl).k2 1 6 rfl
             exact Tn (⟨Ac.Who,Ac.Race,Ac.Time,Ac.Fault,An,0,h,S.nf [true,true] rfl (subR rfl)⟩)
            ·refine Fr (Vm S rfl rfl fun a S=>Va S rfl rfl fun a S=>Dl ?_)
             obtain ⟨j10,hj10,h⟩:=Ey h
             refine Es (fun a w'=>∃ x23 : ByteArray,∃ x24 : ByteArray,∃ x25 : ByteArray,∃ x26 : Int,j10 x23 x24 x25 x26 = some r ∧ Sx w [] nov [.blk b2 (Dx.enc (Dx.mk Ac.Site Ac.No Ac.At Ac.Kind x23 An x24 0 0 x25 x26)) 41,.blk b1 (Dx.enc Ac) 41] [(1,.pointer (some ⟨b1,0,none⟩)),(6,.pointer (some ⟨b2,0,none⟩))] 152 a w') ?_ ?_
             ·refine Fc h (S.tm rfl) (fun hb22 h=>?_) (fun hb22 h=>?_)
              ·refine Hd [] ([b2]) Tryz.mixed S rfl (by kernel_rfl) ?_;clear S;intro w52 hk46 hsel S
               refine Ek 0 S hsel rfl rfl rfl (by kernel_rfl) (by kernel_rfl) rfl (fun _ hw=>(Gv Zz (S.tm rfl))) fun a S=>Ek 1 S hsel rfl rfl rfl (by kernel_rfl) (by kernel_rfl) rfl (fun _ hw=>(Ic isAgg9 (off:=0) (o:=9) (S.tm rfl) ((S.blk_mem (i:=1) (cells:=(Dx.enc Ac)) (b:=b1) (T:=41) rfl (My (i:=0) (j:=1) (e:=.blk b2 (Dx.enc (Dx.mk Ac.Site Ac.No Ac.At Ac.Kind An An An 0 0 An 0)) 41) (e':=.blk b1 (Dx.enc Ac) 41) S rfl rfl rfl)).kept hw) rfl)) fun a S=>Ek 2 S hsel rfl rfl rfl (by kernel_rfl) (by kernel_rfl) rfl (fun _ hw=>(Gv Xd (S.tm rfl))) fun a S=>Ek 3 S hsel rfl rfl rfl (by kernel_rfl) (by kernel_rfl) rfl (fun _ hw=>(Ic isAgg3 (off:=0) (o:=10) (S.tm rfl) ((S.blk_mem (i:=1) (cells:=(Dx.enc Ac)) (b:=b1) (T:=41) rfl (My (i:=0) (j:=1) (e:=.blk b2 (Dx.enc (Dx.mk Ac.Site Ac.No Ac.At Ac.Kind An An An 0 0 An 0)) 41) (e':=.blk b1 (Dx.enc Ac) 41) S rfl rfl rfl)).kept hw) rfl)) fun a S=>Ek 4 S hsel rfl rfl rfl (by kernel_rfl) (by kernel_rfl) rfl (fun _ hw=>(Gv Zz (S.tm rfl))) fun a S=>Hi 5 (by kernel_rfl) rfl (Fj S (S.tm rfl) (S.tm rfl) (i:=0) (off:=9) rfl sizeOf9 (vs:=[sV Ac.Of]) rfl rfl rfl rfl ?_);clear S;intro w53 hk47 S
               refine Ld (Ik hk47 (Ek 6 S hsel rfl rfl rfl (by kernel_rfl) (by kernel_rfl) rfl (fun _ hw=>(Gv Xd (S.tm rfl))) fun a S=>Hi 7 (by kernel_rfl) rfl (Fj S (S.tm rfl) (S.tm rfl) (i:=0) (off:=10) rfl sizeOf3 (vs:=[iV Ac.Other]) rfl rfl rfl rfl ?_)));clear S;intro w54 hk48 S
               refine Ld (Ik hk48 (Wl (by kernel_rfl) ?_))
               clear hsel
               replace S:=(S.nl [.blk b2 (Dx.enc (Dx.mk Ac.Site Ac.No Ac.At Ac.Kind An An An 0 0 Ac.Of Ac.Other)) 41,.blk b1 (Dx.enc Ac) 41] [true,true] rfl).k2 1 6 rfl
               exact Tn (⟨An,An,Ac.Of,Ac.Other,h,S.nf [true,true] rfl (subR rfl)⟩)
              ·refine Hd [] ([b2]) Tryz.mixed S rfl (by kernel_rfl) ?_;clear S;intro w57 hk51 hsel S
               refine Ek 0 S hsel rfl rfl rfl (by kernel_rfl) (by kernel_rfl) rfl (fun _ hw=>(Gv Qc (S.tm rfl))) fun a S=>Ek 1 S hsel rfl rfl rfl (by kernel_rfl) (by kernel_rfl) rfl (fun _ hw=>(Ic isAgg9 (off:=0) (o:=4) (S.tm rfl) ((S.blk_mem (i:=1) (cells:=(Dx.enc Ac)) (b:=b1) (T:=41) rfl (My (i:=0) (j:=1) (e:=.blk b2 (Dx.enc (Dx.mk Ac.Site Ac.No Ac.At Ac.Kind An An An 0 0 An 0)) 41) (e':=.blk b1 (Dx.enc Ac) 41) S rfl rfl rfl)).kept hw) rfl)) fun a S=>Ek 2 S hsel rfl rfl rfl (by kernel_rfl) (by kernel_rfl) rfl (fun _ hw=>(Gv Un (S.tm rfl))) fun a S=>Ek 3 S hsel rfl rfl rfl (by kernel_rfl) (by kernel_rfl) rfl (fun _ hw=>(Ic isAgg9 (off:=0) (o:=6) (S.tm rfl) ((S.blk_mem (i:=1) (cells:=(Dx.enc Ac)) (b:=b1) (T:=41) rfl (My (i:=0) (j:=1) (e:=.blk b2 (Dx.enc (Dx.mk Ac.Site Ac.No Ac.At Ac.Kind An An An 0 0 An 0)) 41) (e':=.blk b1 (Dx.enc Ac) 41) S rfl rfl rfl)).kept hw) rfl)) fun a S=>Ek 4 S hsel rfl rfl rfl (by kernel_rfl) (by kernel_rfl) rfl (fun _ hw=>(Gv Qc (S.tm rfl))) fun a S=>Hi 5 (by kernel_rfl) rfl (Fj S (S.tm rfl) (S.tm rfl) (i:=0) (off:=4) rfl sizeOf9 (vs:=[sV Ac.Who]) rfl rfl rfl rfl ?_);clear S;intro w58 hk52 S
               refine Ld (Ik hk52 (Ek 6 S hsel rfl rfl rfl (by kernel_rfl) (by kernel_rfl) rfl (fun _ hw=>(Gv Un (S.tm rfl))) fun a S=>Hi 7 (by kernel_rfl) rfl (Fj S (S.tm rfl) (S.tm rfl) (i:=0) (off:=6) rfl sizeOf9 (vs:=[sV Ac.Race]) rfl rfl rfl rfl ?_)));clear S;intro w59 hk53 S
               refine Ld (Ik hk53 (Wl (by kernel_rfl) ?_))
               clear hsel
               replace S:=(S.nl [.blk b2 (Dx.enc (Dx.mk Ac.Site Ac.No Ac.At Ac.Kind Ac.Who An Ac.Race 0 0 An 0)) 41,.blk b1 (Dx.enc Ac) 41] [true,true] rfl).k2 1 6 rfl
               exact Tn (⟨Ac.Who,Ac.Race,An,0,h,S.nf [true,true] rfl (subR rfl)⟩)
             clear S h;rintro a w49 ⟨x23,x24,x25,x26,h,S⟩;rw [hj10] at h;clear hj10 j10
             exact Tn (⟨x23,x24,0,0,x25,x26,h,S.nf [true,true] rfl (subR rfl)⟩)
           clear S h;rintro a w39 ⟨x17,x18,x19,x20,x21,x22,h,S⟩;rw [hj9] at h;clear hj9 j9
           exact Tn (⟨x17,An,x18,x19,x20,x21,x22,h,S.nf [true,true] rfl (subR rfl)⟩)
         clear S h;rintro a w29 ⟨x10,x11,x12,x13,x14,x15,x16,h,S⟩;rw [hj8] at h;clear hj8 j8
         exact Hn (Tn (⟨x10,x11,x12,x13,x14,x15,x16,h,S.nf [true,true] rfl (subR rfl)⟩))
        clear S h;rintro a w28 ⟨x3,x4,x5,x6,x7,x8,x9,h,S⟩;rw [hj7] at h;clear hj7 j7
        refine Tn (Fs (Fr (lv S (Fk isAgg41 sizeOf41 (off:=0) (o:=0) (part:=(Dx.enc Ac)) rfl rfl (S.tm rfl) (S.cellsAt (i:=1) rfl)) rfl fun a S=>lv S (Fk isAgg41 sizeOf41 (off:=0) (o:=0) (part:=(Dx.enc (Dx.mk Ac.Site Ac.No Ac.At Ac.Kind x3 x4 x5 x6 x7 x8 x9))) rfl rfl (S.tm rfl) (S.cellsAt (i:=0) rfl)) rfl fun a S=>lv S (EE (m:=Ac) (n:=(Dx.mk Ac.Site Ac.No Ac.At Ac.Kind x3 x4 x5 x6 x7 x8 x9)) (S.tm rfl) (S.tm rfl)) rfl fun a S=>Dl (Fc h (S.tm rfl) (fun hb23 h=>?_) (fun hb23 h=>?_)))))
        ·refine Fr (Vk S rfl rfl fun a S=>Dl (wp_ret (Ec ?_)))
         obtain rfl:=Option.some.inj h
         exact Eu S results48 rfl rfl
        ·refine wp_skip (Tn (Fr (Vk S rfl rfl fun a S=>Dl (wp_ret ?_))))
         obtain rfl:=Option.some.inj h
         exact Eu S results48 rfl rfl
theorem AQ (w : World) (Ac : Int) (r : Bool) (h : Uf Ac = r) :
    Calls prog 98 [iV Ac].toArray w (Ret w [] fun _ v _=>v = bV r):=by
 refine Fe func98 rfl ntmps98 rfl fun a S=>?_
 unfold Uf at h
 replace S:=S.k1 0 rfl
 refine Fr (Vk S rfl rfl fun a S=>Dz (Vm S rfl rfl fun a S=>Vm S rfl rfl fun a S=>Vb S Lf rfl rfl rfl fun a S=>Va S rfl rfl ?_));clear S;intro a S
 refine Dl (wp_ret ?_)
 subst h
 exact Eu S results98 rfl rfl
theorem Zk (w : World) (Ac : Int) (Bj : Int) (r : Int) (h : Kr Ac Bj = r) :
    Calls prog 52 [iV Ac,iV Bj].toArray w (Ret w [] fun _ v _=>v = iV r):=by
 refine Fe func52 rfl ntmps52 rfl fun a S=>?_
 unfold Kr at h
 replace S:=S.k2 0 1 rfl
 refine Fr (Vk S rfl rfl fun a S=>Dz (Vm S rfl rfl fun a S=>Ei S (fun _=>Ea (vs:=[iV Ac]) ⟨(S.tm rfl),trivial⟩ call98) (AQ _ Ac _ rfl) rfl ?_));clear S;intro v1 a w1 hv1 hk1 hn1 S
 subst hv1
 refine Va S rfl rfl fun a S=>Dz (Vm S rfl rfl fun a S=>Ei S (fun _=>Ea (vs:=[iV Bj]) ⟨(S.tm rfl),trivial⟩ call98) (AQ _ Bj _ rfl) rfl ?_);clear S;intro v2 a w2 hv2 hk2 hn2 S
 subst hv2
 refine Va S rfl rfl fun a S=>Dl (Fs (Fr (Vm S rfl rfl fun a S=>Dl (Fc h (S.tm rfl) (fun hb1 h=>?_) (fun hb1 h=>?_)))))
 ·refine Fs (Fr (Vm S rfl rfl fun a S=>Dl (Fc h (S.tm rfl) (fun hb2 h=>?_) (fun hb2 h=>?_))))
  ·refine Fr (Vk S rfl rfl fun a S=>Dl (wp_ret (Ec (Ec ?_))))
   subst h
   exact Eu S results52 rfl rfl
  ·refine wp_skip (Tn (Fr (Vk S rfl rfl fun a S=>Dl (wp_ret (Ec ?_)))))
   subst h
   exact Eu S results52 rfl rfl
 ·refine wp_skip (Tn (Fs (Fr (Vm S rfl rfl fun a S=>Dl (Fc h (S.tm rfl) (fun hb3 h=>?_) (fun hb3 h=>?_))))))
  ·refine Fr (Vk S rfl rfl fun a S=>Dl (wp_ret (Ec ?_)))
   subst h
   exact Eu S results52 rfl rfl
  ·refine wp_skip (Tn (Fs (Fr (Vm S rfl rfl fun a S=>Vm S rfl rfl fun a S=>Vb S Ev rfl rfl rfl fun a S=>Dl (Fc h (S.tm rfl) (fun hb4 h=>?_) (fun hb4 h=>?_))))))
   ·refine Fr (Vk S rfl rfl fun a S=>Dl (wp_ret (Ec ?_)))
    subst h
    exact Eu S results52 rfl rfl
   ·refine wp_skip (Tn (Fs (Fr (Vm S rfl rfl fun a S=>Vm S rfl rfl fun a S=>Vb S Jj rfl rfl rfl fun a S=>Ld ?_))))
    replace S:=S.k1 19 rfl
    refine Tn (Fc h (S.tm rfl) (fun hb5 h=>?_) (fun hb5 h=>?_))
    ·refine Fr (Vk S rfl rfl fun a S=>Dl (wp_ret (Ec ?_)))
     subst h
     exact Eu S results52 rfl rfl
    ·refine wp_skip (Tn (Fr (Vk S rfl rfl fun a S=>Dl (wp_ret ?_))))
     subst h
     exact Eu S results52 rfl rfl
theorem FB (w : World) (Di : Value) (Dd : List Int) (De : Slc (view w []) 1 Di (Dd.map eInt)) (r : Int) (h : Uw Dd = r) :
    Calls prog 51 [Di].toArray w (Ret w [] fun _ v _=>v = iV r):=by
 refine Fe func51 rfl ntmps51 rfl fun a S=>?_
 unfold Uw at h
 replace S:=S.k1 0 rfl
 refine Fr (Vk S rfl rfl fun a S=>Dz (Vk S rfl rfl fun a S=>Dl (Fs ?_)))
 refine Fr (Vm S rfl rfl fun a S=>lv S (Fq Pj (S.tm rfl) (Fm De)) rfl fun a S=>lv S (Rm rfl) rfl fun a S=>Dl ?_)
 replace S:=S.k4 3 6 7 8 rfl
 obtain ⟨j1,hj1,h⟩:=Ey h
 refine Es (fun a w'=>j1 = r ∧ Sx w [] nov [] [(3,iV 0)] 18 a w') ?_ ?_
 ·refine wp_block (Gz (fun (ys1 : List Int) a w'=>∃ i1 : Nat,(∃ dn,Dd = dn ++ ys1 ∧ dn.length = i1) ∧ Nh j1 ys1 i1 = r ∧ Sx w [] nov [] [(3,iV 0),(6,Di),(7,iV (Dd.length : Int)),(8,iV (i1 : Int))] 18 a w') List.length Dd ⟨0,⟨[],rfl,rfl⟩,h,S.nf [] rfl (subR rfl)⟩ ?_)
  clear S h;rintro ys1 a w1 ⟨i1,⟨dn,hd1,hi1⟩,h,S⟩
  cases ys1 with
  | nil =>
   rw [Nh.eq_1] at h
   refine Fr (Vb S Ev rfl rfl rfl fun a S=>Ld ?_)
   replace S:=S.k5 3 6 7 8 9 rfl
   exact Tn (Fs (wp_cond_false ((S.tm rfl).trans (congrArg Value.bool (Im hd1 hi1))) (wp_exit (Ep (Ep (Gr (Tn (⟨h,S.nf [] rfl ⟨rfl,trivial⟩⟩))))))))
  | cons y1 ys1 =>
   rw [Nh.eq_2] at h
   refine Fr (Vb S Ev rfl rfl rfl fun a S=>Ld ?_)
   replace S:=S.k5 3 6 7 8 9 rfl
   refine Tn (Fs (wp_cond_true ((S.tm rfl).trans (congrArg Value.bool (Hr hd1 hi1))) (wp_skip (Tn (Fs (wp_block (Fs (Fg ?_))))))))
   obtain ⟨b1,o1,hm1,hr1⟩:=Fh (a:=a) (x:=.tmp 6) (y:=.tmp 8) (ty:=0) Pj De (Iv hd1 hi1) rfl (S.tm rfl) (S.tm rfl)
   refine lv S (hr1 _) rfl ?_;clear S;intro a S
   clear hr1
   refine lv S (Ic isAgg3 (off:=o1) (o:=0) (S.tm rfl) (hm1.at S.emb0) rfl) rfl fun a S=>Va S rfl rfl fun a S=>Dz (Vm S rfl rfl fun a S=>Vm S rfl rfl fun a S=>Vb S Lf rfl rfl rfl fun a S=>Dl ?_)
   refine Fc h (S.tm rfl) (fun hb1 h=>?_) (fun hb1 h=>?_)
   ·refine Fr (Vm S rfl rfl fun a S=>Va S rfl rfl fun a S=>Dl (wp_ret (Ga (Ec (Ec (Ga ?_))))))
    refine Ec (Ec ?_)
    subst h
    exact Eu S results51 rfl rfl
   ·exact wp_skip (Hn (Tn (Fg (Vq S Gf rfl rfl rfl fun a S=>Vm S rfl rfl fun a S=>Dl (⟨ys1,⟨i1 + 1,⟨_,(hd1).trans (List.append_cons _ _ _),by simp [hi1]⟩,h,S.nf [] rfl ⟨rfl,rfl,rfl,(congrArg (fun z=>some (Value.int .i64 z)) (Hs hd1 hi1 (Jg De))),trivial⟩⟩,Nat.lt_succ_self _⟩)))))
 clear S h;rintro a w2 ⟨h,S⟩;rw [hj1] at h;clear hj1 j1
 refine Tn (Fr (Vm S rfl rfl fun a S=>Va S rfl rfl fun a S=>Dl (wp_ret ?_)))
 subst h
 exact Eu S results51 rfl rfl
set_option maxRecDepth 20000 in
theorem BZ (w : World) (Aj : Dx) (Al : Dx) (r : Int) (h : Kj Aj Al = r) :
    Calls prog 26 [.agg (Dx.enc Aj).toArray,.agg (Dx.enc Al).toArray].toArray w (Ret w [] fun _ v _=>v = iV r):=by
 refine Fe func26 rfl ntmps26 rfl fun a S=>?_
 unfold Kj at h
 replace S:=S.k2 0 1 rfl
 refine Fr (Mx S (S.tm rfl) (cs:=(Dx.enc Aj)) rfl rfl ?_);clear S;intro a w1 b1 hz1 hk1 S
 refine Mx S (S.tm rfl) (cs:=(Dx.enc Al)) rfl rfl ?_;clear S;intro a w2 b2 hz2 hk2 S
 refine Vk S rfl rfl fun a S=>Dl (Fs (Hd [] ([]) Tryz.mixed S rfl (by kernel_rfl) ?_));clear S;intro w8 hk8 hsel S
 refine Ek 0 S hsel rfl rfl rfl (by kernel_rfl) (by kernel_rfl) rfl (fun _ hw=>(Gv Wg (S.tm rfl))) fun a S=>Ek 1 S hsel rfl rfl rfl (by kernel_rfl) (by kernel_rfl) rfl (fun _ hw=>(Ic isAgg3 (off:=0) (o:=2) (S.tm rfl) ((S.blk_mem (i:=1) (cells:=(Dx.enc Aj)) (b:=b1) (T:=41) rfl (Ie (e':=.blk b1 (Dx.enc Aj) 41))).kept hw) rfl)) fun a S=>Ek 2 S hsel rfl rfl rfl (by kernel_rfl) (by kernel_rfl) rfl (fun _ hw=>(Gv Wg (S.tm rfl))) fun a S=>Ek 3 S hsel rfl rfl rfl (by kernel_rfl) (by kernel_rfl) rfl (fun _ hw=>(Ic isAgg3 (off:=0) (o:=2) (S.tm rfl) ((S.blk_mem (i:=0) (cells:=(Dx.enc Al)) (b:=b2) (T:=41) rfl (Ie (e':=.blk b2 (Dx.enc Al) 41))).kept hw) rfl)) fun a S=>Ek 5 S hsel rfl rfl rfl (by kernel_rfl) (by kernel_rfl) rfl (fun _ hw=>(Gv Sy (S.tm rfl))) fun a S=>Ek 6 S hsel rfl rfl rfl (by kernel_rfl) (by kernel_rfl) rfl (fun _ hw=>(Ic isAgg9 (off:=0) (o:=0) (S.tm rfl) ((S.blk_mem (i:=1) (cells:=(Dx.enc Aj)) (b:=b1) (T:=41) rfl (Ie (e':=.blk b1 (Dx.enc Aj) 41))).kept hw) rfl)) fun a S=>Ek 7 S hsel rfl rfl rfl (by kernel_rfl) (by kernel_rfl) rfl (fun _ hw=>(Gv Sy (S.tm rfl))) fun a S=>Ek 8 S hsel rfl rfl rfl (by kernel_rfl) (by kernel_rfl) rfl (fun _ hw=>(Ic isAgg9 (off:=0) (o:=0) (S.tm rfl) ((S.blk_mem (i:=0) (cells:=(Dx.enc Al)) (b:=b2) (T:=41) rfl (Ie (e':=.blk b2 (Dx.enc Al) 41))).kept hw) rfl)) fun a S=>Ek 10 S hsel rfl rfl rfl (by kernel_rfl) (by kernel_rfl) rfl (fun _ hw=>(Gv Vi (S.tm rfl))) fun a S=>Ek 11 S hsel rfl rfl rfl (by kernel_rfl) (by kernel_rfl) rfl (fun _ hw=>(Ic isAgg3 (off:=0) (o:=1) (S.tm rfl) ((S.blk_mem (i:=1) (cells:=(Dx.enc Aj)) (b:=b1) (T:=41) rfl (Ie (e':=.blk b1 (Dx.enc Aj) 41))).kept hw) rfl)) fun a S=>Ek 12 S hsel rfl rfl rfl (by kernel_rfl) (by kernel_rfl) rfl (fun _ hw=>(Gv Vi (S.tm rfl))) ?_;clear S;intro a S
 refine Ek 13 S hsel rfl rfl rfl (by kernel_rfl) (by kernel_rfl) rfl (fun _ hw=>(Ic isAgg3 (off:=0) (o:=1) (S.tm rfl) ((S.blk_mem (i:=0) (cells:=(Dx.enc Al)) (b:=b2) (T:=41) rfl (Ie (e':=.blk b2 (Dx.enc Al) 41))).kept hw) rfl)) fun a S=>Hi 4 (by kernel_rfl) rfl (Ei S (fun _=>Ea (vs:=[iV Aj.At,iV Al.At]) ⟨(S.tm rfl),(S.tm rfl),trivial⟩ call52) (Zk _ Aj.At Al.At _ rfl) rfl ?_);clear S;intro v5 a w9 hv5 hk9 hn5 S
 subst hv5
 refine Ld (Ik hk9 (Hi 9 (by kernel_rfl) rfl (Ei S (fun _=>Ea (vs:=[sV Aj.Site,sV Al.Site]) ⟨(S.tm rfl),(S.tm rfl),trivial⟩ call53) (Oy _ Aj.Site Al.Site _ rfl) rfl ?_)));clear S;intro v6 a w10 hv6 hk10 hn6 S
 subst hv6
 refine Ld (Ik hk10 (Hi 14 (by kernel_rfl) rfl (Ei S (fun _=>Ea (vs:=[iV Aj.No,iV Al.No]) ⟨(S.tm rfl),(S.tm rfl),trivial⟩ call52) (Zk _ Aj.No Al.No _ rfl) rfl ?_)));clear S;intro v7 a w11 hv7 hk11 hn7 S
 subst hv7
 refine Ld (Ik hk11 (Hi 15 (by kernel_rfl) rfl (Ff S underlying22 sizeOf3 zeroValue3 rfl rfl (pv:=[(0,iV (Kr Aj.At Al.At)),(1,iV (Hw Aj.Site Al.Site)),(2,iV (Kr Aj.No Al.No))]) ⟨rfl,(S.tm rfl),rfl,(S.tm rfl),rfl,(S.tm rfl),trivial⟩ (cs:=[iV (Kr Aj.At Al.At),iV (Hw Aj.Site Al.Site),iV (Kr Aj.No Al.No)]) (by kernel_rfl) rfl ?_)));clear S;intro a w12 b4 hz4 hk12 S
 refine Ld (Ik hk12 (Hi 16 (by kernel_rfl) rfl (Ei S (fun _=>Ea (vs:=[.slice (some ⟨b4,0,none⟩) 3 3]) ⟨(S.tm rfl),trivial⟩ call51) (FB _ (.slice (some ⟨b4,0,none⟩) 3 3) [(Kr Aj.At Al.At),(Hw Aj.Site Al.Site),(Kr Aj.No Al.No)] (Kv Jb S (i:=0) rfl rfl rfl rfl ((Ie (e':=.blk b4 [iV (Kr Aj.At Al.At),iV (Hw Aj.Site Al.Site),iV (Kr Aj.No Al.No)] 3)) _ rfl)) _ rfl) rfl ?_)));clear S;intro v8 a w13 hv8 hk13 hn8 S
 subst hv8
 refine Ld (Ik hk13 (Lg [17] hsel (by kernel_rfl) rfl ?_))
 clear hsel
 refine Gp S rfl (Ra (S.tm rfl)) rfl fun a S=>It ?_
 replace S:=S.n0.k1 4 rfl
 refine Tn (wp_ret ?_)
 subst h
 exact Eu S results26 rfl rfl
theorem Ub (w : World) (Ac : Dx) (r : Eo) (h : En Ac = r) :
    Calls prog 23 [.agg (Dx.enc Ac).toArray].toArray w (Ret w [] fun _ v _=>v = .agg (Eo.enc r).toArray):=by
 refine Fe func23 rfl ntmps23 rfl fun a S=>?_
 unfold En at h
 replace S:=S.k1 0 rfl
 refine Fr (Mx S (S.tm rfl) (cs:=(Dx.enc Ac)) rfl rfl ?_);clear S;intro a w1 b1 hz1 hk1 S
 refine Hu S zeroValue70 (cs:=[sV An,iV 0]) rfl rfl ?_;clear S;intro a w2 b2 hz2 hk2 S
 refine Dz (Vf Sy S rfl rfl fun a S=>Vl isAgg9 1 S rfl rfl rfl rfl fun a S=>Vf Vi S rfl rfl fun a S=>Vl isAgg3 1 S rfl rfl rfl rfl fun a S=>lv S (Nl bt_70 (pv:=[(0,sV Ac.Site),(1,iV Ac.No)]) ⟨rfl,(S.tm rfl),rfl,(S.tm rfl),trivial⟩ (cs:=[sV Ac.Site,iV Ac.No]) (by kernel_rfl)) rfl fun a S=>Fj S (S.tm rfl) (S.tm rfl) (i:=0) (off:=0) rfl sizeOf70 (vs:=[sV Ac.Site,iV Ac.No]) rfl rfl rfl rfl ?_);clear S;intro w3 hk3 S
 refine Dl (wp_ret ?_)
 subst h
 exact Yp S (rs:=[.cell 2 70]) (vs:=[.agg #[sV Ac.Site,iV Ac.No]]) results23 ⟨(Tu (off:=0) S rfl isAgg70 sizeOf70 rfl (S.cellsAt (i:=0) rfl)),trivial⟩ rfl rfl
end Go.Proofs.YtancihamhcdboaaGreatDoor
