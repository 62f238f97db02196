/- Each Go function computes its plain twin,by program. -/
import Derived.Test.YtcgffkkagmkhkaaGreatDoorTab
import Derived.Test.YtcgffkkagmkhkaaGreatDoorLay
import Derived.Test.YtcgffkkagmkhkaaGreatDoorGrow
namespace Go.Proofs.YtcgffkkagmkhkaaGreatDoor
open Go
open Go.Proofs.Tryz
theorem Rb (w : World) (Az : Int) (Bv : Int) (r : Int) (h : Mu Az Bv = some r) :
    Calls prog 49 [iV Az,iV Bv].toArray w (Ret w [] fun _ v _=>v = iV r):=by
 refine Fe func49 rfl ntmps49 rfl fun a S=>?_
 unfold Mu at h
 replace S:=S.k2 0 1 rfl
 refine Fr (Vk S rfl rfl fun a S=>Dl (Fs (Fr (Vm S rfl rfl fun a S=>Vq S Fm rfl rfl rfl fun a S=>Ld ?_))))
 refine Tn (Fc h (S.tm rfl) (fun hb1 h=>?_) (fun hb1 h=>?_))
 ·refine Fr (Vk S rfl rfl fun a S=>Dl (wp_ret (Ek ?_)))
  obtain rfl:=Option.some.inj h
  exact Fw S results49 rfl rfl
 ·refine wp_skip (Tn (Fr (Vm S rfl rfl fun a S=>Vm S rfl rfl ?_)));clear S;intro a S
  obtain ⟨hc1,h⟩:=Hu h
  refine lv S (Zo (S.tm rfl) (S.tm rfl) (Wk hc1)) rfl fun a S=>Va S rfl rfl fun a S=>Dl (Fs (Fr (Vm S rfl rfl fun a S=>Vq S Fm rfl rfl rfl fun a S=>Dl ?_)))
  obtain ⟨j1,hj1,h⟩:=Ge h
  refine Ft (fun a w'=>∃ x1 : Int,j1 x1 = some r ∧ Sx w [] nov [] [(0,iV x1)] 16 a w') ?_ ?_
  ·refine Fc h (S.tm rfl) (fun hb2 h=>?_) (fun hb2 h=>?_)
   ·exact Fg (Vm S rfl rfl fun a S=>Vm S rfl rfl fun a S=>Vb S Gd rfl rfl rfl fun a S=>Va S rfl rfl fun a S=>Dl (⟨W ((Int.tmod Az Bv) + Bv),h,S.nf [] rfl ⟨rfl,trivial⟩⟩))
   ·exact wp_skip (Tn (⟨Int.tmod Az Bv,h,S.nf [] rfl ⟨rfl,trivial⟩⟩))
  clear S h;rintro a w1 ⟨x1,h,S⟩;rw [hj1] at h;clear hj1 j1
  refine Tn (Fr (Vm S rfl rfl fun a S=>Va S rfl rfl fun a S=>Dl (wp_ret ?_)))
  obtain rfl:=Option.some.inj h
  exact Fw S results49 rfl rfl
set_option maxRecDepth 20000 in
theorem Po (w : World) (U : Nat) (Ae : Value) (Be : List Int) (Bg : Slc (view w [U]) 1 Ae (Be.map eInt)) (Au : Int) (Bs : (LEnt.blk U [Ae,iV Au] 25).holds w) (Bv : Int) (r : Int × Int) (h : Li Be Au Bv = some r) :
    Calls prog 25 [.pointer (some ⟨U,0,none⟩),iV Bv].toArray w (Ret w [U] fun _ v w'=>(LEnt.blk U [Ae,iV r.2] 25).holds w' ∧ v = iV r.1):=by
 refine Kw [U] [.blk U [Ae,iV Au] 25] func25 rfl ntmps25 rfl (fun e he=>by simp only [List.mem_singleton] at he;subst he;exact Bs) (by simp [fps,LEnt.fp]) (by simp [fps,LEnt.fp]) fun a S=>?_
 unfold Li at h
 replace S:=(S.nl [.blk U [Ae,iV Au] 25] [true] rfl).k2 0 1 rfl
 refine Fr (Vk S rfl rfl fun a S=>Dz (Vm S rfl rfl fun a S=>Vu S Fu rfl rfl fun a S=>Vf Xd S rfl rfl fun a S=>Vl isAgg3 0 S rfl rfl rfl rfl ?_));clear S;intro a S
 refine Vq S Gd rfl rfl rfl fun a S=>Vu S Fu rfl rfl fun a S=>Vf Xd S rfl rfl fun a S=>Ki S (S.tm rfl) (S.tm rfl) (i:=0) (off:=1) rfl sizeOf3 (vs:=[iV (W (Au + 1))]) rfl rfl rfl rfl ?_;clear S;intro w1 hk1 S
 refine Dl (Fs (Fr (Vm S rfl rfl fun a S=>Vu S Fu rfl rfl fun a S=>Vf Ze S rfl rfl fun a S=>Vl isAgg22 0 S rfl rfl rfl rfl fun a S=>lv S (Fy Ll (S.tm rfl) (Eh Bg)) rfl fun a S=>Vq S Mc rfl rfl rfl ?_)));clear S;intro a S
 refine Ld ?_
 replace S:=(S.nl [.blk U [Ae,iV (W (Au + 1))] 25] [true] rfl).k3 0 1 19 rfl
 refine Tn (Fc h (S.tm rfl) (fun hb1 h=>?_) (fun hb1 h=>?_))
 ·refine Fr (Vm S rfl rfl fun a S=>Vu S Fu rfl rfl fun a S=>Vf Xd S rfl rfl fun a S=>Vl isAgg3 0 S rfl rfl rfl rfl fun a S=>Vq S Xw rfl rfl rfl fun a S=>Vm S rfl rfl ?_);clear S;intro a S
  obtain ⟨r1,hr1,h⟩:=Gf h
  refine Em S (fun _=>Eg (vs:=[iV (W ((W (Au + 1)) * 7919)),iV Bv]) ⟨(S.tm rfl),(S.tm rfl),trivial⟩ call49) (Rb _ (W ((W (Au + 1)) * 7919)) Bv _ hr1) rfl ?_;clear S;intro v1 a w2 hv1 hk2 hn1 S
  subst hv1
  refine Va S rfl rfl fun a S=>Dl (wp_ret (Ek ?_))
  obtain rfl:=Option.some.inj h
  exact Fw S results25 rfl ⟨(S.holds _ (List.mem_of_getElem? (i:=0) rfl)),rfl⟩
 ·refine wp_skip (Tn (Fs (Gq [] ([]) Tryz.mixed S rfl (by kernel_rfl) ?_)));clear S;intro w3 hk3 hsel S
  refine Jn [0,1,2,3,4,5,6,7,8,9,10,11] hsel (by kernel_rfl) rfl ?_
  clear hsel
  refine Fk S rfl (Rm (S.tm rfl)) rfl fun a S=>Fk S rfl (Fu (S.tm rfl)) rfl fun a S=>Fk S rfl (Fz Xd (S.tm rfl)) rfl fun a S=>Fk S rfl (Lj isAgg3 (S.tm rfl) (S.cell (i:=0) rfl rfl)) rfl fun a S=>Fk S rfl (Iq (S.tm rfl) rfl) rfl fun a S=>Fk S rfl (Rm (S.tm rfl)) rfl fun a S=>Fk S rfl (Fu (S.tm rfl)) rfl fun a S=>Fk S rfl (Fz Ze (S.tm rfl)) rfl fun a S=>Fk S rfl (Lj isAgg22 (S.tm rfl) (S.cell (i:=0) rfl rfl)) rfl fun a S=>Fk S rfl (Fy Ll (S.tm rfl) (Eh Bg)) rfl ?_;clear S;intro a S
  obtain ⟨hc1,h⟩:=Hu h
  refine Fk S rfl (Zo (S.tm rfl) (S.tm rfl) (Wk hc1)) rfl fun a S=>Fk S rfl (Ra (S.tm rfl)) rfl fun a S=>Hx ?_
  replace S:=S.k3 0 1 5 rfl
  refine Tn (Fs (Gq [] ([]) Tryz.mixed S rfl (by kernel_rfl) ?_));clear S;intro w4 hk4 hsel S
  refine Jn [0,1,2,3,4,5,6,7,8,9,10,11] hsel (by kernel_rfl) rfl ?_
  clear hsel
  refine Fk S rfl (Rm (S.tm rfl)) rfl fun a S=>Fk S rfl (Fu (S.tm rfl)) rfl fun a S=>Fk S rfl (Fz Xd (S.tm rfl)) rfl fun a S=>Fk S rfl (Lj isAgg3 (S.tm rfl) (S.cell (i:=0) rfl rfl)) rfl fun a S=>Fk S rfl (Iq (S.tm rfl) rfl) rfl fun a S=>Fk S rfl (Rm (S.tm rfl)) rfl fun a S=>Fk S rfl (Fu (S.tm rfl)) rfl fun a S=>Fk S rfl (Fz Ze (S.tm rfl)) rfl fun a S=>Fk S rfl (Lj isAgg22 (S.tm rfl) (S.cell (i:=0) rfl rfl)) rfl fun a S=>Fk S rfl (Fy Ll (S.tm rfl) (Eh Bg)) rfl ?_;clear S;intro a S
  obtain ⟨hc2,h⟩:=Hu h
  refine Fk S rfl (rn_quo (S.tm rfl) (S.tm rfl) (Wk hc2)) rfl fun a S=>Fk S rfl (Ra (S.tm rfl)) rfl fun a S=>Hx ?_
  replace S:=S.k4 0 1 5 6 rfl
  refine Tn (Fr (Vm S rfl rfl fun a S=>Vu S Fu rfl rfl fun a S=>Vf Ze S rfl rfl fun a S=>Vl isAgg22 0 S rfl rfl rfl rfl fun a S=>Vm S rfl rfl ?_));clear S;intro a S
  obtain ⟨hc3,h⟩:=Hu h
  obtain ⟨b1,o1,hm1,hr2⟩:=Ff (a:=a) (x:=.tmp 52) (y:=.tmp 53) (ty:=0) Ll Bg (El hc3).1 (El hc3).2 (S.tm rfl) (S.tm rfl)
  refine lv S (hr2 _) rfl ?_;clear S;intro a S
  clear hr2
  refine lv S (Gt isAgg3 (off:=o1) (o:=0) (S.tm rfl) (hm1.at S.emb0) rfl) rfl ?_;clear S;intro a S
  obtain ⟨r2,hr3,h⟩:=Gf h
  refine Em S (fun _=>Eg (vs:=[iV (nth Be (Int.tmod (W ((W (Au + 1)) - 1)) (Be.length : Int))),iV 1073741824]) ⟨(S.tm rfl),rfl,trivial⟩ call49) (Rb _ (nth Be (Int.tmod (W ((W (Au + 1)) - 1)) (Be.length : Int))) 1073741824 _ hr3) rfl ?_;clear S;intro v2 a w5 hv2 hk5 hn2 S
  subst hv2
  refine Vm S rfl rfl fun a S=>Vm S rfl rfl fun a S=>Vu S (Gd rfl) rfl rfl fun a S=>Vb S Xw rfl rfl rfl fun a S=>Vb S Gd rfl rfl rfl fun a S=>Vm S rfl rfl ?_;clear S;intro a S
  obtain ⟨r3,hr4,h⟩:=Gf h
  refine Em S (fun _=>Eg (vs:=[iV (W (r2 + (W ((W (Int.tdiv (W ((W (Au + 1)) - 1)) (Be.length : Int))) * (W (7919 + (Int.tmod (W ((W (Au + 1)) - 1)) (Be.length : Int)))))))),iV Bv]) ⟨(S.tm rfl),(S.tm rfl),trivial⟩ call49) (Rb _ (W (r2 + (W ((W (Int.tdiv (W ((W (Au + 1)) - 1)) (Be.length : Int))) * (W (7919 + (Int.tmod (W ((W (Au + 1)) - 1)) (Be.length : Int)))))))) Bv _ hr4) rfl ?_;clear S;intro v3 a w6 hv3 hk6 hn3 S
  subst hv3
  refine Va S rfl rfl fun a S=>Ld ?_
  replace S:=S.k1 4 rfl
  refine Tn (wp_ret ?_)
  obtain rfl:=Option.some.inj h
  exact Fw S results25 rfl ⟨(S.holds _ (List.mem_of_getElem? (i:=0) rfl)),rfl⟩
theorem Pp (w : World) (U : Nat) (Ae : Value) (Be : List Int) (Bg : Slc (view w [U]) 1 Ae (Be.map eInt)) (Au : Int) (Bs : (LEnt.blk U [Ae,iV Au] 25).holds w) (Bv : Int) (r : Bool × Int) (h : Lo Be Au Bv = some r) :
    Calls prog 19 [.pointer (some ⟨U,0,none⟩),iV Bv].toArray w (Ret w [U] fun _ v w'=>(LEnt.blk U [Ae,iV r.2] 25).holds w' ∧ v = bV r.1):=by
 refine Kw [U] [.blk U [Ae,iV Au] 25] func19 rfl ntmps19 rfl (fun e he=>by simp only [List.mem_singleton] at he;subst he;exact Bs) (by simp [fps,LEnt.fp]) (by simp [fps,LEnt.fp]) fun a S=>?_
 unfold Lo at h
 replace S:=(S.nl [.blk U [Ae,iV Au] 25] [true] rfl).k2 0 1 rfl
 refine Fr (Vk S rfl rfl fun a S=>Dz (Vm S rfl rfl fun a S=>Vm S rfl rfl ?_));clear S;intro a S
 obtain ⟨r1,hr1,h⟩:=Gf h
 refine Jf 0 S (b:=U) rfl rfl (fun _=>.blk U [Ae,iV r1.2] 25) (fun _=>Eg (vs:=[.pointer (some ⟨U,0,none⟩),iV Bv]) ⟨(S.tm rfl),(S.tm rfl),trivial⟩ call25) (Po _ U Ae Be (Bg.mono (S.le_arg (Ew (i:=0) (e:=.blk U [Ae,iV Au] 25) rfl))) Au (S.holds _ (List.mem_of_getElem? (i:=0) rfl)) Bv _ hr1) rfl (fun _ _ _ h=>⟨h.1,fun _ hc=>by cases hc;rfl⟩) ?_;clear S;intro v1 a w1 hv1 hk1 hn1 S
 replace hv1:=hv1.2
 subst hv1
 refine Vq S Mc rfl rfl rfl fun a S=>Va S rfl rfl fun a S=>Dl (wp_ret ?_)
 obtain rfl:=Option.some.inj h
 exact Fw S results19 rfl ⟨(S.holds _ (List.mem_of_getElem? (i:=0) rfl)),rfl⟩
theorem Nx (w : World) (U : Nat) (Ae : Value) (Be : List Int) (Bg : Slc (view w [U]) 1 Ae (Be.map eInt)) (Au : Int) (Bs : (LEnt.blk U [Ae,iV Au] 25).holds w) (Ab : Value) (Al : List Int) (Ao : Slc (view w [U]) 1 Ab (Al.map eInt)) (r : Int × Int) (h : Lp Be Au Al = some r) :
    Calls prog 20 [.pointer (some ⟨U,0,none⟩),Ab].toArray w (Ret w [U] fun _ v w'=>(LEnt.blk U [Ae,iV r.2] 25).holds w' ∧ v = iV r.1):=by
 refine Kw [U] [.blk U [Ae,iV Au] 25] func20 rfl ntmps20 rfl (fun e he=>by simp only [List.mem_singleton] at he;subst he;exact Bs) (by simp [fps,LEnt.fp]) (by simp [fps,LEnt.fp]) fun a S=>?_
 unfold Lp at h
 replace S:=(S.nl [.blk U [Ae,iV Au] 25] [true] rfl).k2 0 1 rfl
 refine Fr (Vk S rfl rfl fun a S=>Dl (Fs (Fg ?_)))
 iterate 3 (refine Vm S rfl rfl ?_;clear S;intro a S)
 refine lv S (Fy Ll (S.tm rfl) (Eh Ao)) rfl ?_;clear S;intro a S
 obtain ⟨r1,hr1,h⟩:=Gf h
 refine Jf 0 S (b:=U) rfl rfl (fun _=>.blk U [Ae,iV r1.2] 25) (fun _=>Eg (vs:=[.pointer (some ⟨U,0,none⟩),iV (Al.length : Int)]) ⟨(S.tm rfl),(S.tm rfl),trivial⟩ call25) (Po _ U Ae Be (Bg.mono (S.le_arg (Ew (i:=0) (e:=.blk U [Ae,iV Au] 25) rfl))) Au (S.holds _ (List.mem_of_getElem? (i:=0) rfl)) (Al.length : Int) _ hr1) rfl (fun _ _ _ h=>⟨h.1,fun _ hc=>by cases hc;rfl⟩) ?_;clear S;intro v1 a w1 hv1 hk1 hn1 S
 replace hv1:=hv1.2
 subst hv1
 obtain ⟨hc1,h⟩:=Hu h
 obtain ⟨b1,o1,hm1,hr2⟩:=Ff (a:=a) (x:=.tmp 5) (y:=.tmp 9) (ty:=0) Ll Ao (El hc1).1 (El hc1).2 (S.tm rfl) (S.tm rfl)
 refine lv S (hr2 _) rfl ?_;clear S;intro a S
 clear hr2
 refine lv S (Gt isAgg3 (off:=o1) (o:=0) (S.tm rfl) (hm1.at S.emb0) rfl) rfl fun a S=>Va S rfl rfl fun a S=>Dl (wp_ret ?_)
 obtain rfl:=Option.some.inj h
 exact Fw S results20 rfl ⟨(S.holds _ (List.mem_of_getElem? (i:=0) rfl)),rfl⟩
theorem Rv (w : World) (U : Nat) (Ae : Value) (Be : List Int) (Bg : Slc (view w [U]) 1 Ae (Be.map eInt)) (Au : Int) (Bs : (LEnt.blk U [Ae,iV Au] 25).holds w) (Ck : Int) (r : (List Ed) × Int) (h : Ly Be Au Ck = some r) :
    Calls prog 4 [.pointer (some ⟨U,0,none⟩),iV Ck].toArray w (Ret w [U] fun τ v w'=>(LEnt.blk U [Ae,iV r.2] 25).holds w' ∧ Of τ 54 5 v r.1.length (r.1.flatMap Ed.enc)):=by
 refine Kw [U] [.blk U [Ae,iV Au] 25] func4 rfl ntmps4 rfl (fun e he=>by simp only [List.mem_singleton] at he;subst he;exact Bs) (by simp [fps,LEnt.fp]) (by simp [fps,LEnt.fp]) fun a S=>?_
 unfold Ly at h
 replace S:=(S.nl [.blk U [Ae,iV Au] 25] [true] rfl).k2 0 1 rfl
 refine Fr (Vk S rfl rfl fun a S=>Dz (Vk S rfl rfl ?_));clear S;intro a S
 replace S:=S.nil 54 5
 refine Dl (Fs (Fr (Fo S underlying47 sizeOf9 zeroValue9 rfl rfl (pv:=[(0,sV Uo),(1,sV Up),(2,sV Uq),(3,sV Ur),(4,sV Wl)]) ⟨rfl,rfl,rfl,rfl,rfl,rfl,rfl,rfl,rfl,rfl,trivial⟩ (cs:=[sV Uo,sV Up,sV Uq,sV Ur,sV Wl]) (by kernel_rfl) rfl ?_)));clear S;intro a w1 b1 hz1 hk1 S
 refine Vm S rfl rfl ?_;clear S;intro a S
 replace S:=S.litOwn (i:=0) (xs:=[Uo,Up,Uq,Ur,Wl]) rfl Rr rfl rfl rfl
 replace S:=S.nk [.own (.slice (some ⟨b1,0,none⟩) 5 5) 9 1 ([Uo,Up,Uq,Ur,Wl] : List ByteArray).length (([Uo,Up,Uq,Ur,Wl] : List ByteArray).flatMap Si),.own (.slice none 0 0) 54 5 ([] : List Ed).length (([] : List Ed).flatMap Ed.enc),.blk U [Ae,iV Au] 25] [(0,.pointer (some ⟨U,0,none⟩)),(1,iV Ck),(4,.slice none 0 0),(5,(.slice none 0 0)),(8,(.slice (some ⟨b1,0,none⟩) 5 5)),(9,iV Ck)] [] rfl (subR rfl)
 obtain ⟨φ1,hl1,hs1,S⟩:=S.freezeT (xs:=([Uo,Up,Uq,Ur,Wl] : List ByteArray)) (enc:=Si) (i:=0) rfl (fun c hc hh=>Vh S (i:=2) rfl rfl (j:=0) rfl rfl (by simp at hc;subst hc;exact hh))
 replace S:=S.nk [.own (.slice none 0 0) 54 5 ([] : List Ed).length (([] : List Ed).flatMap Ed.enc),.blk U [Ae,iV Au] 25] [(0,.pointer (some ⟨U,0,none⟩)),(1,iV Ck),(4,.slice none 0 0),(5,(.slice none 0 0)),(8,(.slice (some ⟨b1,0,none⟩) 5 5)),(9,iV Ck)] [] rfl (subR rfl)
 obtain ⟨hc1,h⟩:=Hu h
 obtain ⟨v1,hs2,hr1⟩:=Zs (a:=a) (x:=.tmp 8) (y':=.tmp 9) (ty:=47) Qi (Fv Rr hs1) (S.tm rfl) (S.tm rfl) hc1
 refine lv S (hr1 _) rfl ?_;clear S;intro a S
 clear hr1
 refine lv S (Fy Qi (S.tm rfl) (Eh hs2)) rfl fun a S=>lv S (Rm rfl) rfl fun a S=>Dl ?_
 replace S:=(S.nl [.own (.slice none 0 0) 54 5 ([] : List Ed).length (([] : List Ed).flatMap Ed.enc),.blk U [Ae,iV Au] 25] [true,true] rfl).k5 0 5 10 11 12 rfl
 obtain ⟨j1,hj1,h⟩:=Ge h
 refine Ft (fun a w'=>∃ x1 : List Ed,∃ x2 : Int,∃ v2 : Value,j1 x1 x2 = some r ∧ Sx w [U] φ1 [.own v2 54 5 x1.length (x1.flatMap Ed.enc),.blk U [Ae,iV x2] 25] [(5,v2)] 38 a w') ?_ ?_
 ·refine wp_block (Hh (fun (ys1 : List ByteArray) a w'=>∃ i1 : Nat,∃ x1 : List Ed,∃ x2 : Int,∃ v2 : Value,(∃ dn,cut ([Uo,Up,Uq,Ur,Wl] : List ByteArray) 0 Ck = dn ++ ys1 ∧ dn.length = i1) ∧ Ia Be j1 ys1 i1 x1 x2 = some r ∧ Sx w [U] φ1 [.own v2 54 5 x1.length (x1.flatMap Ed.enc),.blk U [Ae,iV x2] 25] [(0,.pointer (some ⟨U,0,none⟩)),(5,v2),(10,v1),(11,iV ((cut ([Uo,Up,Uq,Ur,Wl] : List ByteArray) 0 Ck).length : Int)),(12,iV (i1 : Int))] 38 a w') List.length (cut ([Uo,Up,Uq,Ur,Wl] : List ByteArray) 0 Ck) ⟨0,([] : List Ed),Au,(.slice none 0 0),⟨[],rfl,rfl⟩,h,S.nf [true,true] rfl (subR rfl)⟩ ?_)
  clear S h;rintro ys1 a w2 ⟨i1,x1,x2,v2,⟨dn,hd1,hi1⟩,h,S⟩
  cases ys1 with
  | nil =>
   rw [Ia.eq_1] at h
   refine Fr (Vb S Fm rfl rfl rfl fun a S=>Ld ?_)
   replace S:=S.k6 0 5 10 11 12 13 rfl
   exact Tn (Fs (wp_cond_false ((S.tm rfl).trans (congrArg Value.bool (Ih hd1 hi1))) (wp_exit (Fj (Fj (He (Tn (⟨x1,x2,v2,h,S.nf [true,true] rfl ⟨rfl,trivial⟩⟩))))))))
  | cons y1 ys1 =>
   rw [Ia.eq_2] at h
   refine Fr (Vb S Fm rfl rfl rfl fun a S=>Ld ?_)
   replace S:=S.k6 0 5 10 11 12 13 rfl
   refine Tn (Fs (wp_cond_true ((S.tm rfl).trans (congrArg Value.bool (Hb hd1 hi1))) (wp_skip (Tn (Fs ?_)))))
   obtain ⟨j2,hj2,h⟩:=Ge h
   refine Ft (fun a w'=>∃ x3 : List Ed,∃ x4 : Int,∃ v3 : Value,j2 x3 x4 = some r ∧ Sx w [U] φ1 [.own v3 54 5 x3.length (x3.flatMap Ed.enc),.blk U [Ae,iV x4] 25] [(0,.pointer (some ⟨U,0,none⟩)),(5,v3),(10,v1),(11,iV ((cut ([Uo,Up,Uq,Ur,Wl] : List ByteArray) 0 Ck).length : Int)),(12,iV (i1 : Int))] 38 a w') ?_ ?_
   ·refine wp_block (Fs (Fg ?_))
    obtain ⟨b2,o1,hm1,hr2⟩:=Ff (a:=a) (x:=.tmp 10) (y:=.tmp 12) (ty:=0) Qi hs2 (Ig hd1 hi1) rfl (S.tm rfl) (S.tm rfl)
    refine lv S (hr2 _) rfl ?_;clear S;intro a S
    clear hr2
    refine lv S (Gt isAgg9 (off:=o1) (o:=0) (S.tm rfl) (hm1.at S.emb) rfl) rfl fun a S=>Va S rfl rfl fun a S=>Dz (Vm S rfl rfl ?_);clear S;intro a S
    obtain ⟨r1,hr3,h⟩:=Gf h
    refine Jf 1 S (b:=U) rfl rfl (fun _=>.blk U [Ae,iV r1.2] 25) (fun _=>Eg (vs:=[.pointer (some ⟨U,0,none⟩),iV 6]) ⟨(S.tm rfl),rfl,trivial⟩ call19) (Pp _ U Ae Be (Bg.mono (S.le_arg (Ew (i:=1) (e:=.blk U [Ae,iV x2] 25) rfl))) x2 (S.holds _ (List.mem_of_getElem? (i:=1) rfl)) 6 _ hr3) rfl (fun _ _ _ h=>⟨h.1,fun _ hc=>by cases hc;rfl⟩) ?_;clear S;intro v4 a w5 hv1 hk2 hn1 S
    replace hv1:=hv1.2
    subst hv1
    refine Vu S Jd rfl rfl fun a S=>Dl ?_
    obtain ⟨j3,hj3,h⟩:=Ge h
    refine Ft (fun a w'=>∃ x5 : List Ed,∃ x6 : Int,∃ v5 : Value,j3 x5 x6 = some r ∧ Sx w [U] φ1 [.own v5 54 5 x5.length (x5.flatMap Ed.enc),.blk U [Ae,iV x6] 25] [(0,.pointer (some ⟨U,0,none⟩)),(5,v5),(10,v1),(11,iV ((cut ([Uo,Up,Uq,Ur,Wl] : List ByteArray) 0 Ck).length : Int)),(12,iV (i1 : Int))] 38 a w') ?_ ?_
    ·refine Fc h (S.tm rfl) (fun hb1 h=>?_) (fun hb1 h=>?_)
     ·refine Fg ?_
      iterate 3 (refine Vm S rfl rfl ?_;clear S;intro a S)
      refine Fo S underlying22 sizeOf3 zeroValue3 rfl rfl (pv:=[(0,iV 1),(1,iV 1),(2,iV 2),(3,iV 3)]) ⟨rfl,rfl,rfl,rfl,rfl,rfl,rfl,rfl,trivial⟩ (cs:=[iV 1,iV 1,iV 2,iV 3]) (by kernel_rfl) rfl ?_;clear S;intro a w7 b3 hz2 hk3 S
      obtain ⟨r2,hr4,h⟩:=Gf h
      refine Jf 2 S (b:=U) rfl rfl (fun _=>.blk U [Ae,iV r2.2] 25) (fun _=>Eg (vs:=[.pointer (some ⟨U,0,none⟩),.slice (some ⟨b3,0,none⟩) 4 4]) ⟨(S.tm rfl),(S.tm rfl),trivial⟩ call20) (Nx _ U Ae Be (Bg.mono (S.le_arg (Ew (i:=2) (e:=.blk U [Ae,iV r1.2] 25) rfl))) r1.2 (S.holds _ (List.mem_of_getElem? (i:=2) rfl)) (.slice (some ⟨b3,0,none⟩) 4 4) [1,1,2,3] (Ou Gw S (i:=0) rfl rfl rfl rfl ((Ob (i:=2) (j:=0) (e:=.blk U [Ae,iV r1.2] 25) (e':=.blk b3 [iV 1,iV 1,iV 2,iV 3] 3) S rfl rfl rfl) _ rfl)) _ hr4) rfl (fun _ _ _ h=>⟨h.1,fun _ hc=>by cases hc;rfl⟩) ?_;clear S;intro v6 a w8 hv2 hk4 hn2 S
      replace hv2:=hv2.2
      subst hv2
      refine Vm S rfl rfl fun a S=>Fo S underlying22 sizeOf3 zeroValue3 rfl rfl (pv:=[(0,iV 50),(1,iV 100)]) ⟨rfl,rfl,rfl,rfl,trivial⟩ (cs:=[iV 50,iV 100]) (by kernel_rfl) rfl ?_;clear S;intro a w9 b4 hz3 hk5 S
      obtain ⟨r3,hr5,h⟩:=Gf h
      refine Jf 3 S (b:=U) rfl rfl (fun _=>.blk U [Ae,iV r3.2] 25) (fun _=>Eg (vs:=[.pointer (some ⟨U,0,none⟩),.slice (some ⟨b4,0,none⟩) 2 2]) ⟨(S.tm rfl),(S.tm rfl),trivial⟩ call20) (Nx _ U Ae Be (Bg.mono (S.le_arg (Ew (i:=3) (e:=.blk U [Ae,iV r2.2] 25) rfl))) r2.2 (S.holds _ (List.mem_of_getElem? (i:=3) rfl)) (.slice (some ⟨b4,0,none⟩) 2 2) [50,100] (Ou Gw S (i:=0) rfl rfl rfl rfl ((Ob (i:=3) (j:=0) (e:=.blk U [Ae,iV r2.2] 25) (e':=.blk b4 [iV 50,iV 100] 3) S rfl rfl rfl) _ rfl)) _ hr5) rfl (fun _ _ _ h=>⟨h.1,fun _ hc=>by cases hc;rfl⟩) ?_;clear S;intro v7 a w10 hv3 hk6 hn3 S
      replace hv3:=hv3.2
      subst hv3
      refine Vm S rfl rfl fun a S=>Fo S underlying22 sizeOf3 zeroValue3 rfl rfl (pv:=[(0,iV 0),(1,iV 10),(2,iV 60)]) ⟨rfl,rfl,rfl,rfl,rfl,rfl,trivial⟩ (cs:=[iV 0,iV 10,iV 60]) (by kernel_rfl) rfl ?_;clear S;intro a w11 b5 hz4 hk7 S
      obtain ⟨r4,hr6,h⟩:=Gf h
      refine Jf 4 S (b:=U) rfl rfl (fun _=>.blk U [Ae,iV r4.2] 25) (fun _=>Eg (vs:=[.pointer (some ⟨U,0,none⟩),.slice (some ⟨b5,0,none⟩) 3 3]) ⟨(S.tm rfl),(S.tm rfl),trivial⟩ call20) (Nx _ U Ae Be (Bg.mono (S.le_arg (Ew (i:=4) (e:=.blk U [Ae,iV r3.2] 25) rfl))) r3.2 (S.holds _ (List.mem_of_getElem? (i:=4) rfl)) (.slice (some ⟨b5,0,none⟩) 3 3) [0,10,60] (Ou Gw S (i:=0) rfl rfl rfl rfl ((Ob (i:=4) (j:=0) (e:=.blk U [Ae,iV r3.2] 25) (e':=.blk b5 [iV 0,iV 10,iV 60] 3) S rfl rfl rfl) _ rfl)) _ hr6) rfl (fun _ _ _ h=>⟨h.1,fun _ hc=>by cases hc;rfl⟩) ?_;clear S;intro v8 a w12 hv4 hk8 hn4 S
      replace hv4:=hv4.2
      subst hv4
      refine Vm S rfl rfl fun a S=>Fo S underlying22 sizeOf3 zeroValue3 rfl rfl (pv:=[(0,iV 0),(1,iV 20),(2,iV 50),(3,iV 200)]) ⟨rfl,rfl,rfl,rfl,rfl,rfl,rfl,rfl,trivial⟩ (cs:=[iV 0,iV 20,iV 50,iV 200]) (by kernel_rfl) rfl ?_;clear S;intro a w13 b6 hz5 hk9 S
      obtain ⟨r5,hr7,h⟩:=Gf h
      refine Jf 5 S (b:=U) rfl rfl (fun _=>.blk U [Ae,iV r5.2] 25) (fun _=>Eg (vs:=[.pointer (some ⟨U,0,none⟩),.slice (some ⟨b6,0,none⟩) 4 4]) ⟨(S.tm rfl),(S.tm rfl),trivial⟩ call20) (Nx _ U Ae Be (Bg.mono (S.le_arg (Ew (i:=5) (e:=.blk U [Ae,iV r4.2] 25) rfl))) r4.2 (S.holds _ (List.mem_of_getElem? (i:=5) rfl)) (.slice (some ⟨b6,0,none⟩) 4 4) [0,20,50,200] (Ou Gw S (i:=0) rfl rfl rfl rfl ((Ob (i:=5) (j:=0) (e:=.blk U [Ae,iV r4.2] 25) (e':=.blk b6 [iV 0,iV 20,iV 50,iV 200] 3) S rfl rfl rfl) _ rfl)) _ hr7) rfl (fun _ _ _ h=>⟨h.1,fun _ hc=>by cases hc;rfl⟩) ?_;clear S;intro v9 a w14 hv5 hk10 hn5 S
      replace hv5:=hv5.2
      subst hv5
      refine lv S (Nl bt_54 (pv:=[(0,sV y1),(1,iV r2.1),(2,iV r3.1),(3,iV r4.1),(4,iV r5.1)]) ⟨rfl,(S.tm rfl),rfl,(S.tm rfl),rfl,(S.tm rfl),rfl,(S.tm rfl),rfl,(S.tm rfl),trivial⟩ (cs:=[sV y1,iV r2.1,iV r3.1,iV r4.1,iV r5.1]) (by kernel_rfl)) rfl fun a S=>Fo S underlying26 sizeOf54 zeroValue54 rfl rfl (pv:=[(0,.agg #[sV y1,iV r2.1,iV r3.1,iV r4.1,iV r5.1])]) ⟨rfl,(S.tm rfl),trivial⟩ (cs:=[sV y1,iV r2.1,iV r3.1,iV r4.1,iV r5.1]) (by kernel_rfl) rfl ?_;clear S;intro a w15 b7 hz6 hk11 S
      obtain ⟨hc2,h⟩:=Hu h
      refine Ov Jp Ed.enc_ok S (S.tm rfl) (i:=5) rfl (S.tm rfl) (j:=0) rfl (ys:=[(Ed.mk y1 r2.1 r3.1 r4.1 r5.1)]) rfl rfl rfl rfl (by have:=Le hc2;omega) rfl ?_;clear S;intro v10 a w16 hk12 S
      refine Va S rfl rfl fun a S=>Ld ?_
      replace S:=(S.nl [.own v10 54 5 (x1 ++ [(Ed.mk y1 r2.1 r3.1 r4.1 r5.1)]).length ((x1 ++ [(Ed.mk y1 r2.1 r3.1 r4.1 r5.1)]).flatMap Ed.enc),.blk U [Ae,iV r5.2] 25] [false,false,false,false,false,true,true] rfl).k5 0 5 10 11 12 rfl
      exact Tn (⟨(x1 ++ [(Ed.mk y1 r2.1 r3.1 r4.1 r5.1)]),r5.2,v10,h,S.nf [true,true] rfl (subR rfl)⟩)
     ·exact wp_skip (Tn (⟨x1,r1.2,v2,h,S.nf [true,true] rfl (subR rfl)⟩))
    clear S h;rintro a w6 ⟨x5,x6,v5,h,S⟩;rw [hj3] at h;clear hj3 j3
    exact Jc (Tn (⟨x5,x6,v5,h,S.nf [true,true] rfl (subR rfl)⟩))
   clear S h;rintro a w4 ⟨x3,x4,v3,h,S⟩;rw [hj2] at h;clear hj2 j2
   exact Tn (Fg (Vq S Gd rfl rfl rfl fun a S=>Vm S rfl rfl fun a S=>Dl (⟨ys1,⟨i1 + 1,x3,x4,v3,⟨_,(hd1).trans (List.append_cons _ _ _),by simp [hi1]⟩,h,S.nf [true,true] rfl ⟨rfl,rfl,rfl,rfl,(congrArg (fun z=>some (Value.int .i64 z)) (Hc hd1 hi1 (Jx hs2))),trivial⟩⟩,Nat.lt_succ_self _⟩)))
 clear S h;rintro a w3 ⟨x1,x2,v2,h,S⟩;rw [hj1] at h;clear hj1 j1
 refine Tn (Fr (Vm S rfl rfl fun a S=>Va S rfl rfl fun a S=>Dl (wp_ret ?_)))
 obtain rfl:=Option.some.inj h
 exact Fw S results4 rfl ⟨(S.holds _ (List.mem_of_getElem? (i:=1) rfl)),(Zr S (i:=0) rfl (fun c hc hh=>Vh S (i:=1) rfl rfl (j:=0) rfl rfl (by simp at hc;subst hc;exact hh)))⟩
theorem Rw (w : World) (Bw : Value) (Bj : List Ed) (Ca : Slc (view w []) 5 Bw (Bj.map Ed.enc)) (r : (List Ed)) (h : Lz Bj = some r) :
    Calls prog 21 [Bw].toArray w (Ret w [] fun τ v _=>Of τ 54 5 v r.length (r.flatMap Ed.enc)):=by
 refine Fe func21 rfl ntmps21 rfl fun a S=>?_
 unfold Lz at h
 replace S:=S.k1 0 rfl
 refine Fr (Vk S rfl rfl fun a S=>Dl (Fs (Fr (Vm S rfl rfl fun a S=>lv S (DD underlying26 (Eh Ca) (S.tm rfl) rfl) rfl fun a S=>Ld ?_))))
 refine Tn (Xx (S.tm rfl) (fun hb1=>?_) (fun hb1=>?_))
 ·have hx1:=DC Ca hb1
  subst hx1
  replace h : some ([] : List Ed) = some r:=h
  refine Fr (Vk S rfl rfl fun a S=>Dl (wp_ret (Ek ?_)))
  obtain rfl:=Option.some.inj h
  exact Fw S results21 rfl (Jz _ _ _)
 ·refine wp_skip (Tn (Fr (Wg S underlying26 sizeOf54 rfl ?_)));clear S;intro a w1 b1 hz1 hk1 S
  refine Vm S rfl rfl ?_;clear S;intro a S
  replace S:=S.litOwn (i:=0) (xs:=([] : List Ed)) rfl Ed.enc_ok rfl rfl rfl
  replace S:=S.nk [.own (.slice (some ⟨b1,0,none⟩) 0 0) 54 5 (([] : List Ed) : List Ed).length ((([] : List Ed) : List Ed).flatMap Ed.enc)] [(0,Bw),(2,.slice none 0 0),(3,Bw),(4,bV (HO Bw)),(5,(.slice (some ⟨b1,0,none⟩) 0 0)),(6,Bw)] [] rfl (subR rfl)
  obtain ⟨hc1,h⟩:=Hu h
  refine Xy (Y:=[]) Jp Ed.enc_ok S (S.tm rfl) (i:=0) rfl (S.tm rfl) (Ca.mono (S.le_arg (fun _ h=>by cases h))) rfl rfl (by have:=Le hc1;omega) rfl ?_;clear S;intro v1 a w2 hk2 S
  refine Va S rfl rfl fun a S=>Dl (wp_ret ?_)
  obtain rfl:=Option.some.inj h
  exact Fw S results21 rfl (Qb S (i:=0) rfl rfl)
set_option maxRecDepth 20000 in
theorem AO (w : World) (Az : Int) (r : Int) (h : Wm Az = some r) :
    Calls prog 84 [.int .u32 Az].toArray w (Ret w [] fun _ v _=>v = iV r):=by
 refine Fe func84 rfl ntmps84 rfl fun a S=>?_
 unfold Wm at h
 replace S:=S.k1 0 rfl
 refine Fr (Vk S rfl rfl fun a S=>Dl (Fs (Fr (Vm S rfl rfl fun a S=>Vq S Ph rfl rfl rfl fun a S=>Ld ?_))))
 refine Tn ?_
 obtain ⟨j1,hj1,h⟩:=Ge h
 refine Ft (fun a w'=>∃ x1 : Int,∃ x2 : Int,j1 x1 x2 = some r ∧ Sx w [] nov [] [(0,.int .u32 x1),(2,iV x2)] 19 a w') ?_ ?_
 ·refine Fc h (S.tm rfl) (fun hb1 h=>?_) (fun hb1 h=>?_)
  ·refine Fr (Vm S rfl rfl fun a S=>lv S (Qt (S.tm rfl) rfl (by decide)) rfl fun a S=>Va S rfl rfl fun a S=>Dl (Fg (Vk S rfl rfl fun a S=>Dl ?_)))
   exact ⟨Fx .u32 Az 16,16,h,S.nf [] rfl (subR rfl)⟩
  ·exact wp_skip (Tn (⟨Az,0,h,S.nf [] rfl (subR rfl)⟩))
 clear S h;rintro a w1 ⟨x1,x2,h,S⟩;rw [hj1] at h;clear hj1 j1
 refine Tn (Fs (Fr (Vm S rfl rfl fun a S=>Vq S Ph rfl rfl rfl fun a S=>Dl ?_)))
 obtain ⟨j2,hj2,h⟩:=Ge h
 refine Ft (fun a w'=>∃ x3 : Int,∃ x4 : Int,j2 x3 x4 = some r ∧ Sx w [] nov [] [(0,.int .u32 x3),(2,iV x4)] 19 a w') ?_ ?_
 ·refine Fc h (S.tm rfl) (fun hb2 h=>?_) (fun hb2 h=>?_)
  ·refine Fr (Vm S rfl rfl fun a S=>lv S (Qt (S.tm rfl) rfl (by decide)) rfl fun a S=>Va S rfl rfl fun a S=>Dl (Fg (Vm S rfl rfl fun a S=>Vq S Gd rfl rfl rfl fun a S=>Va S rfl rfl ?_)));clear S;intro a S
   exact Dl (⟨Fx .u32 x1 8,W (x2 + 8),h,S.nf [] rfl (subR rfl)⟩)
  ·exact wp_skip (Tn (⟨x1,x2,h,S.nf [] rfl (subR rfl)⟩))
 clear S h;rintro a w2 ⟨x3,x4,h,S⟩;rw [hj2] at h;clear hj2 j2
 refine Tn (Fr (Vm S rfl rfl fun a S=>Vm S rfl rfl fun a S=>Vu S (Qj underlying145 underlying5) rfl rfl ?_));clear S;intro a S
 obtain ⟨hc1,h⟩:=Hu h
 refine lv S (Ts underlying9 rfl (S.tm rfl) hc1) rfl fun a S=>Vu S (Qj underlying5 underlying3) rfl rfl fun a S=>Vb S Gd rfl rfl rfl fun a S=>Va S rfl rfl fun a S=>Dl (wp_ret ?_)
 obtain rfl:=Option.some.inj h
 exact Fw S results84 rfl rfl
set_option maxRecDepth 20000 in
theorem Wh (w : World) (Az : Int) (r : Int) (h : Tw Az = some r) :
    Calls prog 85 [.int .u64 Az].toArray w (Ret w [] fun _ v _=>v = iV r):=by
 refine Fe func85 rfl ntmps85 rfl fun a S=>?_
 unfold Tw at h
 replace S:=S.k1 0 rfl
 refine Fr (Vk S rfl rfl fun a S=>Dl (Fs (Fr (Vm S rfl rfl fun a S=>Vq S Ph rfl rfl rfl fun a S=>Ld ?_))))
 refine Tn ?_
 obtain ⟨j1,hj1,h⟩:=Ge h
 refine Ft (fun a w'=>∃ x1 : Int,∃ x2 : Int,j1 x1 x2 = some r ∧ Sx w [] nov [] [(0,.int .u64 x1),(2,iV x2)] 25 a w') ?_ ?_
 ·refine Fc h (S.tm rfl) (fun hb1 h=>?_) (fun hb1 h=>?_)
  ·refine Fr (Vm S rfl rfl fun a S=>lv S (Qt (S.tm rfl) rfl (by decide)) rfl fun a S=>Va S rfl rfl fun a S=>Dl (Fg (Vk S rfl rfl fun a S=>Dl ?_)))
   exact ⟨Fx .u64 Az 32,32,h,S.nf [] rfl (subR rfl)⟩
  ·exact wp_skip (Tn (⟨Az,0,h,S.nf [] rfl (subR rfl)⟩))
 clear S h;rintro a w1 ⟨x1,x2,h,S⟩;rw [hj1] at h;clear hj1 j1
 refine Tn (Fs (Fr (Vm S rfl rfl fun a S=>Vq S Ph rfl rfl rfl fun a S=>Dl ?_)))
 obtain ⟨j2,hj2,h⟩:=Ge h
 refine Ft (fun a w'=>∃ x3 : Int,∃ x4 : Int,j2 x3 x4 = some r ∧ Sx w [] nov [] [(0,.int .u64 x3),(2,iV x4)] 25 a w') ?_ ?_
 ·refine Fc h (S.tm rfl) (fun hb2 h=>?_) (fun hb2 h=>?_)
  ·refine Fr (Vm S rfl rfl fun a S=>lv S (Qt (S.tm rfl) rfl (by decide)) rfl fun a S=>Va S rfl rfl fun a S=>Dl (Fg (Vm S rfl rfl fun a S=>Vq S Gd rfl rfl rfl fun a S=>Va S rfl rfl ?_)));clear S;intro a S
   exact Dl (⟨Fx .u64 x1 16,W (x2 + 16),h,S.nf [] rfl (subR rfl)⟩)
  ·exact wp_skip (Tn (⟨x1,x2,h,S.nf [] rfl (subR rfl)⟩))
 clear S h;rintro a w2 ⟨x3,x4,h,S⟩;rw [hj2] at h;clear hj2 j2
 refine Tn (Fs (Fr (Vm S rfl rfl fun a S=>Vq S Ph rfl rfl rfl fun a S=>Dl ?_)))
 obtain ⟨j3,hj3,h⟩:=Ge h
 refine Ft (fun a w'=>∃ x5 : Int,∃ x6 : Int,j3 x5 x6 = some r ∧ Sx w [] nov [] [(0,.int .u64 x5),(2,iV x6)] 25 a w') ?_ ?_
 ·refine Fc h (S.tm rfl) (fun hb3 h=>?_) (fun hb3 h=>?_)
  ·refine Fr (Vm S rfl rfl fun a S=>lv S (Qt (S.tm rfl) rfl (by decide)) rfl fun a S=>Va S rfl rfl fun a S=>Dl (Fg (Vm S rfl rfl fun a S=>Vq S Gd rfl rfl rfl fun a S=>Va S rfl rfl ?_)));clear S;intro a S
   exact Dl (⟨Fx .u64 x3 8,W (x4 + 8),h,S.nf [] rfl (subR rfl)⟩)
  ·exact wp_skip (Tn (⟨x3,x4,h,S.nf [] rfl (subR rfl)⟩))
 clear S h;rintro a w3 ⟨x5,x6,h,S⟩;rw [hj3] at h;clear hj3 j3
 refine Tn (Fr (Vm S rfl rfl fun a S=>Vm S rfl rfl fun a S=>Vu S (Qj underlying147 underlying5) rfl rfl ?_));clear S;intro a S
 obtain ⟨hc1,h⟩:=Hu h
 refine lv S (Ts underlying9 rfl (S.tm rfl) hc1) rfl fun a S=>Vu S (Qj underlying5 underlying3) rfl rfl fun a S=>Vb S Gd rfl rfl rfl fun a S=>Va S rfl rfl fun a S=>Dl (wp_ret ?_)
 obtain rfl:=Option.some.inj h
 exact Fw S results85 rfl rfl
theorem Ut (w : World) (Az : Int) (r : Int) (h : Sj Az = some r) :
    Calls prog 48 [.int .u64 Az].toArray w (Ret w [] fun _ v _=>v = iV r):=by
 refine Fe func48 rfl ntmps48 rfl fun a S=>?_
 unfold Sj at h
 replace S:=S.k1 0 rfl
 refine Fr (Vk S rfl rfl fun a S=>Dl (Fs (Fc h rfl (fun hb1 h=>?_) (fun hb1 h=>?_))))
 ·refine Fr (Vm S rfl rfl fun a S=>Vu S (Qj underlying110 underlying145) rfl rfl ?_);clear S;intro a S
  obtain ⟨r1,hr1,h⟩:=Gf h
  refine Em S (fun _=>Eg (vs:=[.int .u32 (IntKind.wrap .u32 Az)]) ⟨(S.tm rfl),trivial⟩ call84) (AO _ (IntKind.wrap .u32 Az) _ hr1) rfl ?_;clear S;intro v1 a w1 hv1 hk1 hn1 S
  subst hv1
  refine Va S rfl rfl fun a S=>Dl (wp_ret (Ek ?_))
  obtain rfl:=Option.some.inj h
  exact Fw S results48 rfl rfl
 ·refine wp_skip (Tn (Fr (Vm S rfl rfl ?_)));clear S;intro a S
  obtain ⟨r2,hr2,h⟩:=Gf h
  refine Em S (fun _=>Eg (vs:=[.int .u64 Az]) ⟨(S.tm rfl),trivial⟩ call85) (Wh _ Az _ hr2) rfl ?_;clear S;intro v2 a w2 hv2 hk2 hn2 S
  subst hv2
  refine Va S rfl rfl fun a S=>Dl (wp_ret ?_)
  obtain rfl:=Option.some.inj h
  exact Fw S results48 rfl rfl
theorem Te (w : World) (Bf : Ed) (Bi : Ed) (r : Int) (h : Ir Bf Bi = r) :
    Calls prog 23 [.agg (Ed.enc Bf).toArray,.agg (Ed.enc Bi).toArray].toArray w (Ret w [] fun _ v _=>v = iV r):=by
 refine Fe func23 rfl ntmps23 rfl fun a S=>?_
 unfold Ir at h
 replace S:=S.k2 0 1 rfl
 refine Fr (Qp S (S.tm rfl) (cs:=(Ed.enc Bf)) rfl rfl ?_);clear S;intro a w1 b1 hz1 hk1 S
 refine Qp S (S.tm rfl) (cs:=(Ed.enc Bi)) rfl rfl ?_;clear S;intro a w2 b2 hz2 hk2 S
 refine Vk S rfl rfl fun a S=>Dl (Fs (Fr (Vf Qn S rfl rfl fun a S=>Vl isAgg9 1 S rfl rfl rfl rfl fun a S=>Vf Qn S rfl rfl fun a S=>Vl isAgg9 0 S rfl rfl rfl rfl fun a S=>Vb S rn_slss rfl rfl rfl ?_)));clear S;intro a S
 refine Dl (Fc h (S.tm rfl) (fun hb1 h=>?_) (fun hb1 h=>?_))
 ·refine Fr (Vk S rfl rfl fun a S=>Dl (wp_ret (Ek ?_)))
  subst h
  exact Fw S results23 rfl rfl
 ·refine wp_skip (Tn (Fr (Vk S rfl rfl fun a S=>Dl (wp_ret ?_))))
  subst h
  exact Fw S results23 rfl rfl
set_option maxRecDepth 20000 in
theorem Lu (w : World) (Af : Value) (Ba : List Ed) (Cb : (LEnt.own Af 54 5 Ba.length (Ba.flatMap Ed.enc)).holds w) (Bf : Int) (Bi : Int) (r : (List Ed)) (h : Gi Ba Bf Bi = some r) :
    Calls prog 76 [Af,iV Bf,iV Bi,.func (.func 23) #[] #[]].toArray w (Ret w (Af.ownBlock.toList) fun _ v w'=>(LEnt.own Af 54 5 r.length (r.flatMap Ed.enc)).holds w' ∧ v = .tuple #[]):=by
 refine Kw (Af.ownBlock.toList) [.own Af 54 5 Ba.length (Ba.flatMap Ed.enc)] func76 rfl ntmps76 rfl (fun e he=>by simp only [List.mem_singleton] at he;subst he;exact Cb) (Kb _) (Lh _) fun a S=>?_
 unfold Gi at h
 replace S:=(S.nl [.own Af 54 5 Ba.length (Ba.flatMap Ed.enc)] [true] rfl).k4 0 1 2 3 rfl
 refine Fr (Vm S rfl rfl fun a S=>Vq S Gd rfl rfl rfl fun a S=>Va S rfl rfl fun a S=>Dl ?_)
 replace S:=S.k5 0 1 2 3 8 rfl
 obtain ⟨j1,hj1,h⟩:=Ge h
 refine Ft (fun a w'=>∃ x1 : List Ed,j1 x1 = some r ∧ Sx w (Af.ownBlock.toList) nov [.own Af 54 5 x1.length (x1.flatMap Ed.enc)] [] 53 a w') ?_ ?_
 ·refine wp_block (Hh (fun (m1 : Nat) a w'=>∃ x1 : List Ed,∃ x2 : Int,Ex Bi Bf j1 m1 x1 x2 = some r ∧ Sx w (Af.ownBlock.toList) nov [.own Af 54 5 x1.length (x1.flatMap Ed.enc)] [(0,Af),(1,iV Bf),(2,iV Bi),(3,.func (.func 23) #[] #[]),(8,iV x2)] 53 a w') id ((Bi - (W (Bf + 1))).toNat + 2) ⟨Ba,W (Bf + 1),h,S.nf [true] rfl (subR rfl)⟩ ?_)
  clear S h;rintro m1 a w1 ⟨x1,x2,h,S⟩
  cases m1 with
  | zero=>rw [Ex.eq_1] at h;cases h
  | succ m1 =>
   rw [Ex.eq_2] at h
   refine Fs (Fr (Vm S rfl rfl fun a S=>Vm S rfl rfl fun a S=>Vb S Fm rfl rfl rfl fun a S=>Dl (Fc h (S.tm rfl) (fun hb1 h=>?_) (fun hb1 h=>?_))))
   ·refine wp_skip (Tn (Fs (wp_block (Fr (Vm S rfl rfl fun a S=>Va S rfl rfl fun a S=>Dl ?_)))))
    replace S:=S.k6 0 1 2 3 8 9 rfl
    obtain ⟨j2,hj2,h⟩:=Ge h
    refine Ft (fun a w'=>∃ x3 : List Ed,j2 x3 = some r ∧ Sx w (Af.ownBlock.toList) nov [.own Af 54 5 x3.length (x3.flatMap Ed.enc)] [(0,Af),(1,iV Bf),(2,iV Bi),(3,.func (.func 23) #[] #[]),(8,iV x2)] 53 a w') ?_ ?_
    ·refine wp_block (Hh (fun (m2 : Nat) a w'=>∃ x3 : List Ed,∃ x4 : Int,Ep Bf j2 m2 x3 x4 = some r ∧ Sx w (Af.ownBlock.toList) nov [.own Af 54 5 x3.length (x3.flatMap Ed.enc)] [(0,Af),(1,iV Bf),(2,iV Bi),(3,.func (.func 23) #[] #[]),(8,iV x2),(9,iV x4)] 53 a w') id ((x2 - Bf).toNat + 2) ⟨x1,x2,h,S.nf [true] rfl (subR rfl)⟩ ?_)
     clear S h;rintro m2 a w3 ⟨x3,x4,h,S⟩
     cases m2 with
     | zero=>rw [Ep.eq_1] at h;cases h
     | succ m2 =>
      rw [Ep.eq_2] at h
      refine Fs (Fs ?_)
      obtain ⟨j3,hj3,h⟩:=Ge h
      refine Ft (fun a w'=>∃ x5 : Bool,j3 x5 = some r ∧ Sx w (Af.ownBlock.toList) nov [.own Af 54 5 x3.length (x3.flatMap Ed.enc)] [(0,Af),(1,iV Bf),(2,iV Bi),(3,.func (.func 23) #[] #[]),(8,iV x2),(9,iV x4),(34,bV x5)] 53 a w') ?_ ?_
      ·rcases Bool.eq_false_or_eq_true (decide (Bf < x4)) with hb2 | hb2
       ·replace h:=Py h hb2
        obtain ⟨hc1,h⟩:=Hu h
        obtain ⟨hc2,h⟩:=Hu h
        refine Gq [] ([]) Tryz.mixed S rfl (by kernel_rfl) ?_;clear S;intro w7 hk2 hsel S
        refine Ej 0 S hsel rfl rfl rfl (by kernel_rfl) (by kernel_rfl) rfl (fun _ hw=>(Rm (S.tm rfl))) fun a S=>Ej 1 S hsel rfl rfl rfl (by kernel_rfl) (by kernel_rfl) rfl (fun _ hw=>(Rm (S.tm rfl))) fun a S=>Ej 2 S hsel rfl rfl rfl (by kernel_rfl) (by kernel_rfl) rfl (fun _ hw=>(Kh (S.tm rfl) (S.tm rfl))) fun a S=>Ej 3 S hsel rfl rfl rfl (by kernel_rfl) (by kernel_rfl) rfl (fun _ hw=>(Rm (S.tm rfl))) fun a S=>Fb 4 S hsel rfl rfl rfl rfl hb2 rfl rfl (by kernel_rfl) (by kernel_rfl) rfl (fun _ hw=>(Rm (S.tm rfl))) fun a S=>Fb 5 S hsel rfl rfl rfl rfl hb2 rfl rfl (by kernel_rfl) (by kernel_rfl) rfl (fun _ hw=>(Rm (S.tm rfl))) fun a S=>Fb 6 S hsel rfl rfl rfl rfl hb2 rfl rfl (by kernel_rfl) (by kernel_rfl) rfl (fun _ hw=>(Rm (S.tm rfl))) ?_;clear S;intro a S
        obtain ⟨b3,hg3,hr3⟩:=Gz (a:=a) (x:=.tmp 23) (y:=.tmp 24) (ty:=0) Jp Ed.enc_ok S (i:=0) rfl (El hc1).1 (El hc1).2 (S.tm rfl) (S.tm rfl)
        refine Fb 7 S hsel rfl rfl rfl rfl hb2 rfl rfl (by kernel_rfl) (by kernel_rfl) rfl (fun _ hw=>(hr3 _)) ?_;clear S;intro a S
        clear hr3
        refine Fb 8 S hsel rfl rfl rfl rfl hb2 rfl rfl (by kernel_rfl) (by kernel_rfl) rfl (fun _ hw=>(Hf isAgg54 sizeOf54 (off:=x4.toNat * 5) (o:=0) (part:=(Ed.enc (nth x3 x4))) rfl rfl (S.tm rfl) ((Pb Ed.enc_ok S (i:=0) rfl hg3 (El hc1).1 (Gr (e':=.own Af 54 5 x3.length (x3.flatMap Ed.enc)))).kept hw))) fun a S=>Fb 9 S hsel rfl rfl rfl rfl hb2 rfl rfl (by kernel_rfl) (by kernel_rfl) rfl (fun _ hw=>(Rm (S.tm rfl))) fun a S=>Fb 10 S hsel rfl rfl rfl rfl hb2 rfl rfl (by kernel_rfl) (by kernel_rfl) rfl (fun _ hw=>(Rm (S.tm rfl))) fun a S=>Fb 11 S hsel rfl rfl rfl rfl hb2 rfl rfl (by kernel_rfl) (by kernel_rfl) rfl (fun _ hw=>(Iq (S.tm rfl) rfl)) ?_;clear S;intro a S
        obtain ⟨b4,hg4,hr4⟩:=Gz (a:=a) (x:=.tmp 27) (y:=.tmp 29) (ty:=0) Jp Ed.enc_ok S (i:=0) rfl (El hc2).1 (El hc2).2 (S.tm rfl) (S.tm rfl)
        refine Fb 12 S hsel rfl rfl rfl rfl hb2 rfl rfl (by kernel_rfl) (by kernel_rfl) rfl (fun _ hw=>(hr4 _)) ?_;clear S;intro a S
        clear hr4
        refine Fb 13 S hsel rfl rfl rfl rfl hb2 rfl rfl (by kernel_rfl) (by kernel_rfl) rfl (fun _ hw=>(Hf isAgg54 sizeOf54 (off:=((W (x4 - 1)).toNat) * 5) (o:=0) (part:=(Ed.enc (nth x3 (W (x4 - 1))))) rfl rfl (S.tm rfl) ((Pb Ed.enc_ok S (i:=0) rfl hg4 (El hc2).1 (Gr (e':=.own Af 54 5 x3.length (x3.flatMap Ed.enc)))).kept hw))) fun a S=>Ga 14 (by kernel_rfl) rfl (Er S rfl rfl rfl hb2 (Em S (fun _=>Vi (cap:=[]) (S.tm rfl) (vs:=[.agg (Ed.enc (nth x3 x4)).toArray,.agg (Ed.enc (nth x3 (W (x4 - 1)))).toArray]) ⟨(S.tm rfl),(S.tm rfl),trivial⟩ call23) (Te _ (nth x3 x4) (nth x3 (W (x4 - 1))) _ rfl) rfl ?_));clear S;intro v2 a w8 hv2 hk3 hn2 S
        subst hv2
        refine Ld (Gn hk3 (Jn [15,16] hsel (by kernel_rfl) rfl ?_))
        clear hsel
        refine Gx S rfl rfl rfl rfl hb2 (Io S (Fm (S.tm rfl) rfl) rfl fun a S=>Fk S rfl (Mz hb2 (S.tm rfl) (S.tm rfl)) rfl fun a S=>Hx ?_)
        replace S:=S.nk [.own Af 54 5 x3.length (x3.flatMap Ed.enc)] [(0,Af),(1,iV Bf),(2,iV Bi),(3,.func (.func 23) #[] #[]),(8,iV x2),(9,iV x4),(22,.func (.func 23) #[] #[]),(23,Af),(24,iV x4),(25,.pointer (some ⟨b3,x4.toNat * 5,none⟩)),(26,.agg (Ed.enc (nth x3 x4)).toArray),(27,Af),(28,iV x4),(29,iV (W (x4 - 1))),(30,.pointer (some ⟨b4,((W (x4 - 1)).toNat) * 5,none⟩)),(31,.agg (Ed.enc (nth x3 (W (x4 - 1)))).toArray),(32,iV (Ir (nth x3 x4) (nth x3 (W (x4 - 1))))),(33,bV (decide ((Ir (nth x3 x4) (nth x3 (W (x4 - 1)))) < 0))),(34,bV (decide ((Ir (nth x3 x4) (nth x3 (W (x4 - 1)))) < 0)))] [true] rfl (subR rfl)
        exact Tn (⟨decide ((Ir (nth x3 x4) (nth x3 (W (x4 - 1)))) < 0),h,S.nf [true] rfl (subR rfl)⟩)
       ·replace h:=Pz h hb2
        refine Gq [] ([]) Tryz.mixed S rfl (by kernel_rfl) ?_;clear S;intro w9 hk4 hsel S
        refine Jn [0,1,2,3,4,5,6,7,8,9,10,11,12,13,14,15,16] hsel (by kernel_rfl) rfl ?_
        clear hsel
        refine Fk S rfl (Rm (S.tm rfl)) rfl fun a S=>Fk S rfl (Rm (S.tm rfl)) rfl fun a S=>Fk S rfl (Kh (S.tm rfl) (S.tm rfl)) rfl fun a S=>Fk S rfl (Rm (S.tm rfl)) rfl ?_;clear S;intro a S
        iterate 12 (refine Pv S rfl rfl rfl rfl (Lk hb2) rfl ?_ rfl;clear S;intro a S)
        refine Fk S rfl (Na hb2 (S.tm rfl) rfl) rfl fun a S=>Hx ?_
        replace S:=S.k7 0 1 2 3 8 9 34 rfl
        exact Tn (⟨false,h,S.nf [true] rfl (subR rfl)⟩)
      clear S h;rintro a w5 ⟨x5,h,S⟩;rw [hj3] at h;clear hj3 j3
      refine Tn (Fc h (S.tm rfl) (fun hb3 h=>?_) (fun hb3 h=>?_))
      ·refine wp_skip (Tn (Fs (wp_block ?_)))
       obtain ⟨hc3,h⟩:=Hu h
       obtain ⟨hc4,h⟩:=Hu h
       obtain ⟨hc5,h⟩:=Hu h
       obtain ⟨hc6,h⟩:=Hu h
       refine Gq [15,17] ([]) Tryz.mixed S rfl (by kernel_rfl) ?_;clear S;intro w14 hk9 hsel S
       refine Ij 0 S hsel rfl rfl (by kernel_rfl) (by kernel_rfl) rfl (fun _=>(Rm (S.tm rfl))) fun a S=>Ij 1 S hsel rfl rfl (by kernel_rfl) (by kernel_rfl) rfl (fun _=>(Rm (S.tm rfl))) fun a S=>Ij 2 S hsel rfl rfl (by kernel_rfl) (by kernel_rfl) rfl (fun _=>(Rm (S.tm rfl))) fun a S=>Ij 3 S hsel rfl rfl (by kernel_rfl) (by kernel_rfl) rfl (fun _=>(Rm (S.tm rfl))) fun a S=>Ij 4 S hsel rfl rfl (by kernel_rfl) (by kernel_rfl) rfl (fun _=>(Iq (S.tm rfl) rfl)) fun a S=>Ij 5 S hsel rfl rfl (by kernel_rfl) (by kernel_rfl) rfl (fun _=>(Rm (S.tm rfl))) fun a S=>Ij 6 S hsel rfl rfl (by kernel_rfl) (by kernel_rfl) rfl (fun _=>(Rm (S.tm rfl))) fun a S=>Ij 7 S hsel rfl rfl (by kernel_rfl) (by kernel_rfl) rfl (fun _=>(Iq (S.tm rfl) rfl)) ?_;clear S;intro a S
       obtain ⟨b9,hg9,hr9⟩:=Gz (a:=a) (x:=.tmp 42) (y:=.tmp 44) (ty:=0) Jp Ed.enc_ok S (i:=0) rfl (El hc3).1 (El hc3).2 (S.tm rfl) (S.tm rfl)
       refine Ij 8 S hsel rfl rfl (by kernel_rfl) (by kernel_rfl) rfl (fun _=>(hr9 _)) ?_;clear S;intro a S
       clear hr9
       refine Ej 9 S hsel rfl (by kernel_rfl) (by kernel_rfl) (by kernel_rfl) (by kernel_rfl) rfl (fun _ hw=>(Hf isAgg54 sizeOf54 (off:=((W (x4 - 1)).toNat) * 5) (o:=0) (part:=(Ed.enc (nth x3 (W (x4 - 1))))) rfl rfl (S.tm rfl) ((Pb Ed.enc_ok S (i:=0) rfl hg9 (El hc3).1 (Gr (e':=.own Af 54 5 x3.length (x3.flatMap Ed.enc)))).kept hw))) fun a S=>Ij 10 S hsel rfl rfl (by kernel_rfl) (by kernel_rfl) rfl (fun _=>(Rm (S.tm rfl))) fun a S=>Ij 11 S hsel rfl rfl (by kernel_rfl) (by kernel_rfl) rfl (fun _=>(Rm (S.tm rfl))) ?_;clear S;intro a S
       obtain ⟨b10,hg10,hr10⟩:=Gz (a:=a) (x:=.tmp 47) (y:=.tmp 48) (ty:=0) Jp Ed.enc_ok S (i:=0) rfl (El hc4).1 (El hc4).2 (S.tm rfl) (S.tm rfl)
       refine Ij 12 S hsel rfl rfl (by kernel_rfl) (by kernel_rfl) rfl (fun _=>(hr10 _)) ?_;clear S;intro a S
       clear hr10
       refine Ej 13 S hsel rfl (by kernel_rfl) (by kernel_rfl) (by kernel_rfl) (by kernel_rfl) rfl (fun _ hw=>(Hf isAgg54 sizeOf54 (off:=x4.toNat * 5) (o:=0) (part:=(Ed.enc (nth x3 x4))) rfl rfl (S.tm rfl) ((Pb Ed.enc_ok S (i:=0) rfl hg10 (El hc4).1 (Gr (e':=.own Af 54 5 x3.length (x3.flatMap Ed.enc)))).kept hw))) ?_;clear S;intro a S
       obtain ⟨b11,hg11,hr11⟩:=Gz (a:=a) (x:=.tmp 37) (y:=.tmp 38) (ty:=0) Jp Ed.enc_ok S (i:=0) rfl (El hc5).1 (El hc5).2 (S.tm rfl) (S.tm rfl)
       refine Ij 14 S hsel rfl rfl (by kernel_rfl) (by kernel_rfl) rfl (fun _=>(hr11 _)) ?_;clear S;intro a S
       clear hr11
       refine Zc 15 (Af.ownBlock.toList) rfl (by kernel_rfl) rfl (Mt (c:=0) (j:=x4.toNat) (nth x3 (W (x4 - 1))) Ed.enc_ok S (S.tm rfl) (S.tm rfl) (i:=0) rfl hg11 (El hc5).1 sizeOf54 (vs:=[sV ((nth x3 (W (x4 - 1))).Key),iV ((nth x3 (W (x4 - 1))).Heats),iV ((nth x3 (W (x4 - 1))).Long),iV ((nth x3 (W (x4 - 1))).Gap),iV ((nth x3 (W (x4 - 1))).Break)]) rfl rfl rfl rfl rfl ?_);clear S;intro w16 hk11 S
       refine Ld (Zd ?_)
       obtain ⟨b12,hg12,hr12⟩:=Gz (a:=a) (x:=.tmp 39) (y:=.tmp 41) (ty:=0) Jp Ed.enc_ok S (i:=0) rfl (El hc6).1 (El hc6).2 (S.tm rfl) (S.tm rfl)
       refine Ej 16 S hsel rfl rfl rfl (by kernel_rfl) (by kernel_rfl) rfl (fun _ hw=>(hr12 _)) ?_;clear S;intro a S
       clear hr12
       refine Ga 17 (by kernel_rfl) rfl (Mt (c:=0) (j:=(W (x4 - 1)).toNat) (nth x3 x4) Ed.enc_ok S (S.tm rfl) (S.tm rfl) (i:=0) rfl hg12 (El hc6).1 sizeOf54 (vs:=[sV ((nth x3 x4).Key),iV ((nth x3 x4).Heats),iV ((nth x3 x4).Long),iV ((nth x3 x4).Gap),iV ((nth x3 x4).Break)]) rfl rfl rfl rfl rfl ?_);clear S;intro w18 hk13 S
       refine Ld (Gn hk13 (Ta (by kernel_rfl) ?_))
       clear hsel
       replace S:=(S.nl [.own Af 54 5 ((x3.set x4.toNat (nth x3 (W (x4 - 1)))).set ((W (x4 - 1)).toNat) (nth x3 x4)).length (((x3.set x4.toNat (nth x3 (W (x4 - 1)))).set ((W (x4 - 1)).toNat) (nth x3 x4)).flatMap Ed.enc)] [true] rfl).k6 0 1 2 3 8 9 rfl
       exact Jc (Tn (Fg (Vm S rfl rfl fun a S=>Vq S Iq rfl rfl rfl fun a S=>Va S rfl rfl fun a S=>Dl (⟨m2,⟨((x3.set x4.toNat (nth x3 (W (x4 - 1)))).set ((W (x4 - 1)).toNat) (nth x3 x4)),W (x4 - 1),h,S.nf [true] rfl ⟨rfl,rfl,rfl,rfl,rfl,rfl,trivial⟩⟩,Nat.lt_succ_self _⟩))))
      ·exact wp_exit (Fj (Fj (He (Tn (⟨x3,h,S.nf [true] rfl (subR rfl)⟩)))))
    clear S h;rintro a w4 ⟨x3,h,S⟩;rw [hj2] at h;clear hj2 j2
    exact Jc (Tn (Fg (Vm S rfl rfl fun a S=>Vq S Gd rfl rfl rfl fun a S=>Va S rfl rfl fun a S=>Dl (⟨m1,⟨x3,W (x2 + 1),h,S.nf [true] rfl ⟨rfl,rfl,rfl,rfl,rfl,trivial⟩⟩,Nat.lt_succ_self _⟩))))
   ·exact wp_exit (Fj (Fj (He (Tn (⟨x1,h,S.nf [true] rfl trivial⟩)))))
 clear S h;rintro a w2 ⟨x1,h,S⟩;rw [hj1] at h;clear hj1 j1
 obtain rfl:=Option.some.inj h
 exact Qu S results76 ⟨(S.holds _ (List.mem_of_getElem? (i:=0) rfl)),rfl⟩
theorem Mw (w : World) (Af : Value) (Ba : List Ed) (Cb : (LEnt.own Af 54 5 Ba.length (Ba.flatMap Ed.enc)).holds w) (Bf : Int) (Bi : Int) (Cf : Int) (r : (List Ed)) (h : Hg Ba Bf Bi Cf = some r) :
    Calls prog 47 [Af,iV Bf,iV Bi,iV Cf,.func (.func 23) #[] #[]].toArray w (Ret w (Af.ownBlock.toList) fun _ v w'=>(LEnt.own Af 54 5 r.length (r.flatMap Ed.enc)).holds w' ∧ v = .tuple #[]):=by
 refine Kw (Af.ownBlock.toList) [.own Af 54 5 Ba.length (Ba.flatMap Ed.enc)] func47 rfl ntmps47 rfl (fun e he=>by simp only [List.mem_singleton] at he;subst he;exact Cb) (Kb _) (Lh _) fun a S=>?_
 unfold Hg at h
 replace S:=(S.nl [.own Af 54 5 Ba.length (Ba.flatMap Ed.enc)] [true] rfl).k5 0 1 2 3 4 rfl
 refine Fr (Vk S rfl rfl fun a S=>Dz (Vk S rfl rfl fun a S=>Dl ?_))
 replace S:=S.k6 0 1 2 3 4 10 rfl
 refine Ft (fun a w'=>False) ?_ ?_
 ·refine wp_block (Hh (fun (m1 : Nat) a w'=>∃ x1 : Int,∃ x2 : Int,∃ x3 : Int,∃ x4 : Bool,Fl Ba m1 x1 x2 x3 x4 = some r ∧ Sx w (Af.ownBlock.toList) nov [.own Af 54 5 Ba.length (Ba.flatMap Ed.enc)] [(0,Af),(1,iV x1),(2,iV x2),(3,iV x3),(4,.func (.func 23) #[] #[]),(10,bV x4)] 148 a w') id 4611686018427387904 ⟨Bf,Bi,Cf,true,h,S.nf [true] rfl (subR rfl)⟩ ?_)
  clear S h;rintro m1 a w1 ⟨x1,x2,x3,x4,h,S⟩
  cases m1 with
  | zero=>rw [Fl.eq_1] at h;cases h
  | succ m1 =>
   rw [Fl.eq_2] at h
   refine wp_block (Fr (Vm S rfl rfl fun a S=>Vm S rfl rfl fun a S=>Vb S Iq rfl rfl rfl fun a S=>Va S rfl rfl fun a S=>Dl (Fs (Fs ?_))))
   refine Fg (Vm S rfl rfl fun a S=>Vq S Ss rfl rfl rfl fun a S=>Dl (Fc h (S.tm rfl) (fun hb1 h=>?_) (fun hb1 h=>?_)))
   ·refine Fs (Fg ?_)
    iterate 4 (refine Vm S rfl rfl ?_;clear S;intro a S)
    obtain ⟨r1,hr1,h⟩:=Gf h
    refine Nv 0 S rfl (fun _=>.own Af 54 5 r1.length (r1.flatMap Ed.enc)) (fun _=>Eg (vs:=[Af,iV x1,iV x2,.func (.func 23) #[] #[]]) ⟨(S.tm rfl),(S.tm rfl),(S.tm rfl),(S.tm rfl),trivial⟩ call76) (Lu _ Af Ba (S.holds _ (List.mem_of_getElem? (i:=0) rfl)) x1 x2 _ hr1) rfl (fun _ _ _ h=>⟨h.1,fun _ hc=>hc⟩) ?_;clear S;intro v1 a w3 hv1 hk1 hn1 S
    replace hv1:=hv1.2
    subst hv1
    refine Ld ?_
    replace S:=(S.nl [.own Af 54 5 r1.length (r1.flatMap Ed.enc)] [true] rfl).k0
    refine Tn (wp_ret (Ek (Gu (Ek (Gu (Ek ?_))))))
    obtain rfl:=Option.some.inj h
    exact Qu S results47 ⟨(S.holds _ (List.mem_of_getElem? (i:=0) rfl)),rfl⟩
   ·refine wp_skip (Tn (Fs (Fr (Vm S rfl rfl fun a S=>Vq S Mc rfl rfl rfl fun a S=>Dl (Fc h (S.tm rfl) (fun hb2 h=>?_) (fun hb2 h=>?_))))))
    ·refine Fs ?_
     cases h
    ·refine wp_skip (Tn (Fs (Fr (Vm S rfl rfl fun a S=>Vu S Jd rfl rfl fun a S=>Ld ?_))))
     replace S:=S.k1 39 rfl
     refine Tn (Fc h (S.tm rfl) (fun hb3 h=>?_) (fun hb3 h=>?_))
     ·refine Fs ?_
      cases h
     ·refine wp_skip (Tn (Fs ?_))
      cases h
 exact fun _ _ h=>h.elim
theorem Ny (w : World) (Bp : Value) (Az : List Ed) (Dd : (LEnt.own Bp 54 5 Az.length (Az.flatMap Ed.enc)).holds w) (r : (List Ed)) (h : Hd Az = some r) :
    Calls prog 22 [Bp,.func (.func 23) #[] #[]].toArray w (Ret w (Bp.ownBlock.toList) fun _ v w'=>(LEnt.own Bp 54 5 r.length (r.flatMap Ed.enc)).holds w' ∧ v = .tuple #[]):=by
 refine Kw (Bp.ownBlock.toList) [.own Bp 54 5 Az.length (Az.flatMap Ed.enc)] func22 rfl ntmps22 rfl (fun e he=>by simp only [List.mem_singleton] at he;subst he;exact Dd) (Kb _) (Lh _) fun a S=>?_
 unfold Hd at h
 replace S:=(S.nl [.own Bp 54 5 Az.length (Az.flatMap Ed.enc)] [true] rfl).k2 0 1 rfl
 refine Fr (Vm S rfl rfl fun a S=>lv S (Fy Jp (S.tm rfl) (Nc (S.own_at (i:=0) rfl))) rfl fun a S=>Va S rfl rfl fun a S=>Dl (Fg ?_))
 iterate 3 (refine Vm S rfl rfl ?_;clear S;intro a S)
 refine Vu S (Qj underlying3 underlying110) rfl rfl ?_;clear S;intro a S
 obtain ⟨r1,hr1,h⟩:=Gf h
 refine Em S (fun _=>Eg (vs:=[.int .u64 (IntKind.wrap .u64 (Az.length : Int))]) ⟨(S.tm rfl),trivial⟩ call48) (Ut _ (IntKind.wrap .u64 (Az.length : Int)) _ hr1) rfl ?_;clear S;intro v1 a w1 hv1 hk1 hn1 S
 subst hv1
 refine Vm S rfl rfl ?_;clear S;intro a S
 obtain ⟨r2,hr2,h⟩:=Gf h
 refine Nv 0 S rfl (fun _=>.own Bp 54 5 r2.length (r2.flatMap Ed.enc)) (fun _=>Eg (vs:=[Bp,iV 0,iV (Az.length : Int),iV r1,.func (.func 23) #[] #[]]) ⟨(S.tm rfl),rfl,(S.tm rfl),(S.tm rfl),(S.tm rfl),trivial⟩ call47) (Mw _ Bp Az (S.holds _ (List.mem_of_getElem? (i:=0) rfl)) 0 (Az.length : Int) r1 _ hr2) rfl (fun _ _ _ h=>⟨h.1,fun _ hc=>hc⟩) ?_;clear S;intro v2 a w2 hv2 hk2 hn2 S
 replace hv2:=hv2.2
 subst hv2
 refine Ld ?_
 obtain rfl:=Option.some.inj h
 exact Qu S results22 ⟨(S.holds _ (List.mem_of_getElem? (i:=0) rfl)),rfl⟩
theorem Ue (w : World) (U : Nat) (Ae : Value) (Be : List Int) (Bg : Slc (view w [U]) 1 Ae (Be.map eInt)) (Au : Int) (Bs : (LEnt.blk U [Ae,iV Au] 25).holds w) (Bz : Int) (Bu : Int) (r : Int × Int) (h : Oi Be Au Bz Bu = some r) :
    Calls prog 24 [.pointer (some ⟨U,0,none⟩),iV Bz,iV Bu].toArray w (Ret w [U] fun _ v w'=>(LEnt.blk U [Ae,iV r.2] 25).holds w' ∧ v = iV r.1):=by
 refine Kw [U] [.blk U [Ae,iV Au] 25] func24 rfl ntmps24 rfl (fun e he=>by simp only [List.mem_singleton] at he;subst he;exact Bs) (by simp [fps,LEnt.fp]) (by simp [fps,LEnt.fp]) fun a S=>?_
 unfold Oi at h
 replace S:=(S.nl [.blk U [Ae,iV Au] 25] [true] rfl).k3 0 1 2 rfl
 refine Fr (Vk S rfl rfl fun a S=>Dl (Fs (Fr (Vm S rfl rfl fun a S=>Vm S rfl rfl fun a S=>Vb S Fm rfl rfl rfl ?_))));clear S;intro a S
 refine Dl (Fc h (S.tm rfl) (fun hb1 h=>?_) (fun hb1 h=>?_))
 ·refine Fr (Vm S rfl rfl fun a S=>Va S rfl rfl fun a S=>Dl (wp_ret (Ek ?_)))
  obtain rfl:=Option.some.inj h
  exact Fw S results24 rfl ⟨(S.holds _ (List.mem_of_getElem? (i:=0) rfl)),rfl⟩
 ·refine wp_skip (Tn (Fs (Fg ?_)))
  iterate 4 (refine Vm S rfl rfl ?_;clear S;intro a S)
  refine Vb S Iq rfl rfl rfl fun a S=>Vq S Gd rfl rfl rfl ?_;clear S;intro a S
  obtain ⟨r1,hr1,h⟩:=Gf h
  refine Jf 0 S (b:=U) rfl rfl (fun _=>.blk U [Ae,iV r1.2] 25) (fun _=>Eg (vs:=[.pointer (some ⟨U,0,none⟩),iV (W ((W (Bu - Bz)) + 1))]) ⟨(S.tm rfl),(S.tm rfl),trivial⟩ call25) (Po _ U Ae Be (Bg.mono (S.le_arg (Ew (i:=0) (e:=.blk U [Ae,iV Au] 25) rfl))) Au (S.holds _ (List.mem_of_getElem? (i:=0) rfl)) (W ((W (Bu - Bz)) + 1)) _ hr1) rfl (fun _ _ _ h=>⟨h.1,fun _ hc=>by cases hc;rfl⟩) ?_;clear S;intro v1 a w1 hv1 hk1 hn1 S
  replace hv1:=hv1.2
  subst hv1
  refine Vb S Gd rfl rfl rfl fun a S=>Va S rfl rfl fun a S=>Ld ?_
  replace S:=(S.nl [.blk U [Ae,iV r1.2] 25] [true] rfl).k1 6 rfl
  refine Tn (wp_ret ?_)
  obtain rfl:=Option.some.inj h
  exact Fw S results24 rfl ⟨(S.holds _ (List.mem_of_getElem? (i:=0) rfl)),rfl⟩
set_option maxRecDepth 20000 in
theorem Rx (w : World) (U : Nat) (Ae : Value) (Be : List Int) (Bg : Slc (view w [U]) 1 Ae (Be.map eInt)) (Au : Int) (Bs : (LEnt.blk U [Ae,iV Au] 25).holds w) (Ag : Value) (Aj : List Ed) (Aw : Slc (view w [U]) 5 Ag (Aj.map Ed.enc)) (r : (List Es) × Int) (h : Ma Be Au Aj = some r) :
    Calls prog 5 [.pointer (some ⟨U,0,none⟩),Ag].toArray w (Ret w [U] fun τ v w'=>(LEnt.blk U [Ae,iV r.2] 25).holds w' ∧ Of τ 59 3 v r.1.length (r.1.flatMap Es.enc)):=by
 refine Kw [U] [.blk U [Ae,iV Au] 25] func5 rfl ntmps5 rfl (fun e he=>by simp only [List.mem_singleton] at he;subst he;exact Bs) (by simp [fps,LEnt.fp]) (by simp [fps,LEnt.fp]) fun a S=>?_
 unfold Ma at h
 replace S:=(S.nl [.blk U [Ae,iV Au] 25] [true] rfl).k2 0 1 rfl
 refine Fr (Vk S rfl rfl fun a S=>Dz (Vk S rfl rfl ?_));clear S;intro a S
 replace S:=S.nil 59 3
 refine Dl (Fs (Fr (Fo S underlying47 sizeOf9 zeroValue9 rfl rfl (pv:=[(0,sV Pi),(1,sV Pj),(2,sV Pk)]) ⟨rfl,rfl,rfl,rfl,rfl,rfl,trivial⟩ (cs:=[sV Pi,sV Pj,sV Pk]) (by kernel_rfl) rfl ?_)));clear S;intro a w1 b1 hz1 hk1 S
 refine lv S (Fy Qi (S.tm rfl) ⟨_,_,rfl⟩) rfl fun a S=>lv S (Rm rfl) rfl fun a S=>Dl ?_
 replace S:=(S.nl [.blk b1 [sV Pi,sV Pj,sV Pk] 9,.own (.slice none 0 0) 59 3 ([] : List Es).length (([] : List Es).flatMap Es.enc),.blk U [Ae,iV Au] 25] [true,true,true] rfl).k6 0 1 5 11 12 13 rfl
 replace S:=S.litOwn (i:=0) (xs:=[Pi,Pj,Pk]) rfl Rr rfl rfl rfl
 replace S:=S.nk [.own (.slice (some ⟨b1,0,none⟩) 3 3) 9 1 ([Pi,Pj,Pk] : List ByteArray).length (([Pi,Pj,Pk] : List ByteArray).flatMap Si),.own (.slice none 0 0) 59 3 ([] : List Es).length (([] : List Es).flatMap Es.enc),.blk U [Ae,iV Au] 25] [(0,.pointer (some ⟨U,0,none⟩)),(1,Ag),(5,(.slice none 0 0)),(11,(.slice (some ⟨b1,0,none⟩) 3 3)),(12,iV (([Pi,Pj,Pk] : List ByteArray).length : Int)),(13,iV 0)] [] rfl (subR rfl)
 obtain ⟨φ1,hl1,hs1,S⟩:=S.freezeT (xs:=([Pi,Pj,Pk] : List ByteArray)) (enc:=Si) (i:=0) rfl (fun c hc hh=>Vh S (i:=2) rfl rfl (j:=0) rfl rfl (by simp at hc;subst hc;exact hh))
 replace S:=S.nk [.own (.slice none 0 0) 59 3 ([] : List Es).length (([] : List Es).flatMap Es.enc),.blk U [Ae,iV Au] 25] [(0,.pointer (some ⟨U,0,none⟩)),(1,Ag),(5,(.slice none 0 0)),(11,(.slice (some ⟨b1,0,none⟩) 3 3)),(12,iV (([Pi,Pj,Pk] : List ByteArray).length : Int)),(13,iV 0)] [] rfl (subR rfl)
 obtain ⟨j1,hj1,h⟩:=Ge h
 refine Ft (fun a w'=>∃ x1 : List Es,∃ x2 : Int,∃ v1 : Value,j1 x1 x2 = some r ∧ Sx w [U] φ1 [.own v1 59 3 x1.length (x1.flatMap Es.enc),.blk U [Ae,iV x2] 25] [(5,v1)] 49 a w') ?_ ?_
 ·refine wp_block (Hh (fun (ys1 : List ByteArray) a w'=>∃ i1 : Nat,∃ x1 : List Es,∃ x2 : Int,∃ v1 : Value,(∃ dn,([Pi,Pj,Pk] : List ByteArray) = dn ++ ys1 ∧ dn.length = i1) ∧ Hi Aj Be j1 ys1 i1 x1 x2 = some r ∧ Sx w [U] φ1 [.own v1 59 3 x1.length (x1.flatMap Es.enc),.blk U [Ae,iV x2] 25] [(0,.pointer (some ⟨U,0,none⟩)),(1,Ag),(5,v1),(11,(.slice (some ⟨b1,0,none⟩) 3 3)),(12,iV (([Pi,Pj,Pk] : List ByteArray).length : Int)),(13,iV (i1 : Int))] 49 a w') List.length ([Pi,Pj,Pk] : List ByteArray) ⟨0,([] : List Es),Au,(.slice none 0 0),⟨[],rfl,rfl⟩,h,S.nf [true,true] rfl (subR rfl)⟩ ?_)
  clear S h;rintro ys1 a w2 ⟨i1,x1,x2,v1,⟨dn,hd1,hi1⟩,h,S⟩
  cases ys1 with
  | nil =>
   rw [Hi.eq_1] at h
   refine Fr (Vb S Fm rfl rfl rfl fun a S=>Ld ?_)
   replace S:=S.k7 0 1 5 11 12 13 14 rfl
   exact Tn (Fs (wp_cond_false ((S.tm rfl).trans (congrArg Value.bool (Ih hd1 hi1))) (wp_exit (Fj (Fj (He (Tn (⟨x1,x2,v1,h,S.nf [true,true] rfl ⟨rfl,trivial⟩⟩))))))))
  | cons y1 ys1 =>
   rw [Hi.eq_2] at h
   refine Fr (Vb S Fm rfl rfl rfl fun a S=>Ld ?_)
   replace S:=S.k7 0 1 5 11 12 13 14 rfl
   refine Tn (Fs (wp_cond_true ((S.tm rfl).trans (congrArg Value.bool (Hb hd1 hi1))) (wp_skip (Tn (Fs (wp_block (Fs (Fg ?_))))))))
   obtain ⟨b2,o1,hm1,hr1⟩:=Ff (a:=a) (x:=.tmp 11) (y:=.tmp 13) (ty:=0) Qi (Fv Rr hs1) (Ig hd1 hi1) rfl (S.tm rfl) (S.tm rfl)
   refine lv S (hr1 _) rfl ?_;clear S;intro a S
   clear hr1
   refine lv S (Gt isAgg9 (off:=o1) (o:=0) (S.tm rfl) (hm1.at S.emb) rfl) rfl fun a S=>Va S rfl rfl fun a S=>Dz (Vm S rfl rfl ?_);clear S;intro a S
   obtain ⟨r1,hr2,h⟩:=Gf h
   have hz2:=S.keep.size
   refine Em S (fun _=>Eg (vs:=[Ag]) ⟨(S.tm rfl),trivial⟩ call21) (Rw _ Ag Aj (Aw.mono (S.le_arg Fh)) _ hr2) rfl ?_;clear S;intro v2 a w4 hv1 hk2 hn1 S
   replace S:=S.take hn1 hz2 hv1
   refine Va S rfl rfl fun a S=>Dz (Vm S rfl rfl ?_);clear S;intro a S
   obtain ⟨r2,hr3,h⟩:=Gf h
   refine Nv 0 S rfl (fun _=>.own v2 54 5 r2.length (r2.flatMap Ed.enc)) (fun _=>Eg (vs:=[v2,.func (.func 23) #[] #[]]) ⟨(S.tm rfl),rfl,trivial⟩ call22) (Ny _ v2 r1 (S.holds _ (List.mem_of_getElem? (i:=0) rfl)) _ hr3) rfl (fun _ _ _ h=>⟨h.1,fun _ hc=>hc⟩) ?_;clear S;intro v3 a w5 hv2 hk3 hn2 S
   replace hv2:=hv2.2
   subst hv2
   refine Ld ?_
   replace S:=(S.nl [.own v2 54 5 r2.length (r2.flatMap Ed.enc),.own v1 59 3 x1.length (x1.flatMap Es.enc),.blk U [Ae,iV x2] 25] [true,true,true] rfl).k8 0 1 5 7 8 11 12 13 rfl
   refine Tn (Fr (Vm S rfl rfl fun a S=>lv S (Fy Jp (S.tm rfl) (Nc (S.own_at (i:=0) rfl))) rfl fun a S=>lv S (Rm rfl) rfl fun a S=>Dl ?_))
   replace S:=S.k10 0 1 5 7 11 12 13 21 22 23 rfl
   have hm2:=Tr (S.own_at (i:=0) rfl)
   obtain ⟨j2,hj2,h⟩:=Ge h
   refine Ft (fun a w'=>∃ x3 : List Es,∃ x4 : Int,∃ v4 : Value,j2 x3 x4 = some r ∧ Sx w [U] φ1 [.own v2 54 5 r2.length (r2.flatMap Ed.enc),.own v4 59 3 x3.length (x3.flatMap Es.enc),.blk U [Ae,iV x4] 25] [(0,.pointer (some ⟨U,0,none⟩)),(1,Ag),(5,v4),(11,(.slice (some ⟨b1,0,none⟩) 3 3)),(12,iV (([Pi,Pj,Pk] : List ByteArray).length : Int)),(13,iV (i1 : Int))] 49 a w') ?_ ?_
   ·refine wp_block (Hh (fun (ys2 : List Ed) a w'=>∃ i2 : Nat,∃ x3 : List Es,∃ x4 : Int,∃ v4 : Value,(∃ dn,r2 = dn ++ ys2 ∧ dn.length = i2) ∧ Ib Be y1 j2 ys2 i2 x3 x4 = some r ∧ Sx w [U] φ1 [.own v2 54 5 r2.length (r2.flatMap Ed.enc),.own v4 59 3 x3.length (x3.flatMap Es.enc),.blk U [Ae,iV x4] 25] [(0,.pointer (some ⟨U,0,none⟩)),(1,Ag),(5,v4),(7,sV y1),(11,(.slice (some ⟨b1,0,none⟩) 3 3)),(12,iV (([Pi,Pj,Pk] : List ByteArray).length : Int)),(13,iV (i1 : Int)),(21,v2),(22,iV (r2.length : Int)),(23,iV (i2 : Int))] 49 a w') List.length r2 ⟨0,x1,x2,v1,⟨[],rfl,rfl⟩,h,S.nf [true,true,true] rfl (subR rfl)⟩ ?_)
    clear S h;rintro ys2 a w6 ⟨i2,x3,x4,v4,⟨dn,hd2,hi2⟩,h,S⟩
    cases ys2 with
    | nil =>
     rw [Ib.eq_1] at h
     refine Fr (Vb S Fm rfl rfl rfl fun a S=>Ld ?_)
     replace S:=S.k11 0 1 5 7 11 12 13 21 22 23 24 rfl
     exact Tn (Fs (wp_cond_false ((S.tm rfl).trans (congrArg Value.bool (Ih hd2 hi2))) (wp_exit (Fj (Fj (He (Tn (⟨x3,x4,v4,h,S.nf [true,true,true] rfl (subR rfl)⟩))))))))
    | cons y2 ys2 =>
     rw [Ib.eq_2] at h
     refine Fr (Vb S Fm rfl rfl rfl fun a S=>Ld ?_)
     replace S:=S.k11 0 1 5 7 11 12 13 21 22 23 24 rfl
     refine Tn (Fs (wp_cond_true ((S.tm rfl).trans (congrArg Value.bool (Hb hd2 hi2))) (wp_skip (Tn (Fs ?_)))))
     obtain ⟨j3,hj3,h⟩:=Ge h
     refine Ft (fun a w'=>∃ x5 : List Es,∃ x6 : Int,∃ v5 : Value,j3 x5 x6 = some r ∧ Sx w [U] φ1 [.own v2 54 5 r2.length (r2.flatMap Ed.enc),.own v5 59 3 x5.length (x5.flatMap Es.enc),.blk U [Ae,iV x6] 25] [(0,.pointer (some ⟨U,0,none⟩)),(1,Ag),(5,v5),(7,sV y1),(11,(.slice (some ⟨b1,0,none⟩) 3 3)),(12,iV (([Pi,Pj,Pk] : List ByteArray).length : Int)),(13,iV (i1 : Int)),(21,v2),(22,iV (r2.length : Int)),(23,iV (i2 : Int))] 49 a w') ?_ ?_
     ·refine wp_block (Fs (Fg ?_))
      obtain ⟨b3,hg1,hr4⟩:=Gz (a:=a) (x:=.tmp 21) (y:=.tmp 23) (ty:=0) Jp Ed.enc_ok S (i:=0) rfl (Ig hd2 hi2) rfl (S.tm rfl) (S.tm rfl)
      refine lv S (hr4 _) rfl ?_;clear S;intro a S
      clear hr4
      refine lv S (Hf isAgg54 sizeOf54 (off:=i2 * 5) (o:=0) (part:=(Ed.enc y2)) rfl rfl (S.tm rfl) (Nb Ed.enc_ok S (i:=0) rfl hg1 (Ig hd2 hi2))) rfl fun a S=>Lm S zeroValue54 (cs:=[sV En,iV 0,iV 0,iV 0,iV 0]) rfl rfl ?_;clear S;intro a w9 b4 hz3 hk4 S
      refine Ki S (S.tm rfl) (S.tm rfl) (i:=0) (off:=0) rfl sizeOf54 (vs:=(Ed.enc y2)) rfl rfl rfl rfl ?_;clear S;intro w10 hk5 S
      refine Dz (Vm S rfl rfl ?_);clear S;intro a S
      obtain ⟨r3,hr5,h⟩:=Gf h
      refine Jf 3 S (b:=U) rfl rfl (fun _=>.blk U [Ae,iV r3.2] 25) (fun _=>Eg (vs:=[.pointer (some ⟨U,0,none⟩),iV 2]) ⟨(S.tm rfl),rfl,trivial⟩ call19) (Pp _ U Ae Be (Bg.mono (S.le_arg (Ew (i:=3) (e:=.blk U [Ae,iV x4] 25) rfl))) x4 (S.holds _ (List.mem_of_getElem? (i:=3) rfl)) 2 _ hr5) rfl (fun _ _ _ h=>⟨h.1,fun _ hc=>by cases hc;rfl⟩) ?_;clear S;intro v6 a w11 hv3 hk6 hn3 S
      replace hv3:=hv3.2
      subst hv3
      refine Vm S rfl rfl fun a S=>Jy 4 (fun a w'=>Keep [] w11 w' ∧ Sx w [U] φ1 [.blk b4 (Ed.enc y2) 54,.own v2 54 5 r2.length (r2.flatMap Ed.enc),.own v4 59 3 x3.length (x3.flatMap Es.enc),.blk U [Ae,iV r3.2] 25] [(0,.pointer (some ⟨U,0,none⟩)),(1,Ag),(5,v4),(7,sV y1),(10,.pointer (some ⟨b4,0,none⟩)),(11,(.slice (some ⟨b1,0,none⟩) 3 3)),(12,iV (([Pi,Pj,Pk] : List ByteArray).length : Int)),(13,iV (i1 : Int)),(21,v2),(22,iV (r2.length : Int)),(23,iV (i2 : Int)),(33,bV (r3.1 && (decide (0 < y2.Heats))))] 49 a w') ?_ ?_
      ·rcases Bool.eq_false_or_eq_true r3.1 with hb1 | hb1
       ·exact Er S rfl rfl rfl hb1 (Vf Rs S rfl rfl fun a S=>Er S rfl rfl rfl hb1 (Vl isAgg3 0 S rfl rfl rfl rfl fun a S=>Er S rfl rfl rfl hb1 (Vq S Kh rfl rfl rfl fun a S=>lv S (Ju hb1 (S.tm rfl) (S.tm rfl)) rfl fun a S=>Dl (⟨Keep.refl _ _,S.nf [true,true,true,true] rfl (subR rfl)⟩))))
       ·iterate 3 (refine Iy S rfl rfl rfl (Lk hb1) rfl ?_ rfl;clear S;intro a S)
        exact lv S (Jv (decide (0 < y2.Heats)) hb1 (S.tm rfl) rfl) rfl fun a S=>Dl (⟨Keep.refl _ _,S.nf [true,true,true,true] rfl (subR rfl)⟩)
      clear S;rintro a w12 ⟨hk7,S⟩
      refine Dl ?_
      obtain ⟨j4,hj4,h⟩:=Ge h
      refine Ft (fun a w'=>∃ x7 : List Es,∃ x8 : Int,∃ v7 : Value,j4 x7 x8 = some r ∧ Sx w [U] φ1 [.own v2 54 5 r2.length (r2.flatMap Ed.enc),.own v7 59 3 x7.length (x7.flatMap Es.enc),.blk U [Ae,iV x8] 25] [(0,.pointer (some ⟨U,0,none⟩)),(1,Ag),(5,v7),(7,sV y1),(11,(.slice (some ⟨b1,0,none⟩) 3 3)),(12,iV (([Pi,Pj,Pk] : List ByteArray).length : Int)),(13,iV (i1 : Int)),(21,v2),(22,iV (r2.length : Int)),(23,iV (i2 : Int))] 49 a w') ?_ ?_
      ·refine Fc h (S.tm rfl) (fun hb2 h=>?_) (fun hb2 h=>?_)
       ·obtain ⟨r4,hr6,h⟩:=Gf h
        obtain ⟨hc1,h⟩:=Hu h
        refine Gq [] ([U] ++ v4.ownBlock.toList) Tryz.mixed S rfl (by kernel_rfl) ?_;clear S;intro w17 hk11 hsel S
        refine Ej 0 S hsel rfl rfl rfl (by kernel_rfl) (by kernel_rfl) rfl (fun _ hw=>(Rm (S.tm rfl))) fun a S=>Ej 1 S hsel rfl rfl rfl (by kernel_rfl) (by kernel_rfl) rfl (fun _ hw=>(Rm (S.tm rfl))) fun a S=>Ej 2 S hsel rfl rfl rfl (by kernel_rfl) (by kernel_rfl) rfl (fun _ hw=>(Fz Qn (S.tm rfl))) fun a S=>Ej 3 S hsel rfl rfl rfl (by kernel_rfl) (by kernel_rfl) rfl (fun _ hw=>(Gt isAgg9 (off:=0) (o:=0) (S.tm rfl) ((S.blk_mem (i:=0) (cells:=(Ed.enc y2)) (b:=b4) (T:=54) rfl (Tt (Ob (i:=3) (j:=0) (e:=.blk U [Ae,iV r3.2] 25) (e':=.blk b4 (Ed.enc y2) 54) S rfl rfl rfl) (Ob (i:=2) (j:=0) (e:=.own v4 59 3 x3.length (x3.flatMap Es.enc)) (e':=.blk b4 (Ed.enc y2) 54) S rfl rfl rfl))).kept hw) rfl)) fun a S=>Ej 4 S hsel rfl rfl rfl (by kernel_rfl) (by kernel_rfl) rfl (fun _ hw=>(Rm (S.tm rfl))) fun a S=>Ej 5 S hsel rfl rfl rfl (by kernel_rfl) (by kernel_rfl) rfl (fun _ hw=>(Fz Rs (S.tm rfl))) fun a S=>Ej 6 S hsel rfl rfl rfl (by kernel_rfl) (by kernel_rfl) rfl (fun _ hw=>(Gt isAgg3 (off:=0) (o:=1) (S.tm rfl) ((S.blk_mem (i:=0) (cells:=(Ed.enc y2)) (b:=b4) (T:=54) rfl (Tt (Ob (i:=3) (j:=0) (e:=.blk U [Ae,iV r3.2] 25) (e':=.blk b4 (Ed.enc y2) 54) S rfl rfl rfl) (Ob (i:=2) (j:=0) (e:=.own v4 59 3 x3.length (x3.flatMap Es.enc)) (e':=.blk b4 (Ed.enc y2) 54) S rfl rfl rfl))).kept hw) rfl)) fun a S=>Ej 7 S hsel rfl rfl rfl (by kernel_rfl) (by kernel_rfl) rfl (fun _ hw=>(BY (S.tm rfl) rfl)) fun a S=>Ga 8 (by kernel_rfl) rfl ?_
        refine Jf 3 S (b:=U) rfl rfl (fun _=>.blk U [Ae,iV r4.2] 25) (fun _=>Eg (vs:=[.pointer (some ⟨U,0,none⟩),iV 1,iV (Tl y2.Heats 3)]) ⟨(S.tm rfl),rfl,(S.tm rfl),trivial⟩ call24) (Ue _ U Ae Be (Bg.mono (S.le_arg (Ew (i:=3) (e:=.blk U [Ae,iV r3.2] 25) rfl))) r3.2 (S.holds _ (List.mem_of_getElem? (i:=3) rfl)) 1 (Tl y2.Heats 3) _ hr6) rfl (fun _ _ _ h=>⟨h.1,fun _ hc=>by cases hc;rfl⟩) ?_;clear S;intro v10 a w18 hv5 hk12 hn5 S
        replace hv5:=hv5.2
        subst hv5
        refine Ld ?_
        refine Gn (hk12.sub (by intro y hy;simp at hy ⊢;simp [hy])) ?_
        refine Ej 9 S hsel rfl rfl rfl (by kernel_rfl) (by kernel_rfl) rfl (fun _ hw=>(Nl bt_59 (pv:=[(0,sV y1),(1,sV y2.Key),(2,iV r4.1)]) ⟨rfl,(S.tm rfl),rfl,(S.tm rfl),rfl,(S.tm rfl),trivial⟩ (cs:=[sV y1,sV y2.Key,iV r4.1]) (by kernel_rfl))) fun a S=>Ga 10 (by kernel_rfl) rfl (Fo S underlying28 sizeOf59 zeroValue59 rfl rfl (pv:=[(0,.agg #[sV y1,sV y2.Key,iV r4.1])]) ⟨rfl,(S.tm rfl),trivial⟩ (cs:=[sV y1,sV y2.Key,iV r4.1]) (by kernel_rfl) rfl ?_);clear S;intro a w19 b6 hz5 hk13 S
        refine Ld (Gn (Keep.none hk13) (Ga 11 (by kernel_rfl) rfl ?_))
        refine Ms Rg Es.enc_ok S (S.tm rfl) (i:=3) rfl (S.tm rfl) (j:=0) rfl (ys:=[(Es.mk y1 y2.Key r4.1)]) rfl rfl rfl rfl (by have:=Le hc1;omega) rfl ?_;clear S;intro v11 a w20 hk14 hf1 S
        refine Ld ?_
        refine Og ([U] ++ v11.ownBlock.toList) (hk14.sub (by intro y hy;simp at hy ⊢;simp [hy])) (by intro y hy;simp at hy ⊢;exact (hy.elim (fun hy=>(by simp [hy])) (fun hy=>(by rcases hf1 y hy with hy | hy <;> simp [hy])))) ?_
        refine Jn [12] hsel (by kernel_rfl) rfl ?_
        clear hsel
        refine Fk S rfl (Ra (S.tm rfl)) rfl fun a S=>Hx ?_
        replace S:=(S.nl [.own v2 54 5 r2.length (r2.flatMap Ed.enc),.own v11 59 3 (x3 ++ [(Es.mk y1 y2.Key r4.1)]).length ((x3 ++ [(Es.mk y1 y2.Key r4.1)]).flatMap Es.enc),.blk U [Ae,iV r4.2] 25] [false,false,true,true,true] rfl).k10 0 1 5 7 11 12 13 21 22 23 rfl
        exact Tn (⟨(x3 ++ [(Es.mk y1 y2.Key r4.1)]),r4.2,v11,h,S.nf [true,true,true] rfl (subR rfl)⟩)
       ·exact wp_skip (Tn (⟨x3,r3.2,v4,h,S.nf [false,true,true,true] rfl (subR rfl)⟩))
      clear S h;rintro a w13 ⟨x7,x8,v7,h,S⟩;rw [hj4] at h;clear hj4 j4
      exact Jc (Tn (⟨x7,x8,v7,h,S.nf [true,true,true] rfl (subR rfl)⟩))
     clear S h;rintro a w8 ⟨x5,x6,v5,h,S⟩;rw [hj3] at h;clear hj3 j3
     exact Tn (Fg (Vq S Gd rfl rfl rfl fun a S=>Vm S rfl rfl fun a S=>Dl (⟨ys2,⟨i2 + 1,x5,x6,v5,⟨_,(hd2).trans (List.append_cons _ _ _),by simp [hi2]⟩,h,S.nf [true,true,true] rfl ⟨rfl,rfl,rfl,rfl,rfl,rfl,rfl,rfl,rfl,(congrArg (fun z=>some (Value.int .i64 z)) (Hc hd2 hi2 hm2)),trivial⟩⟩,Nat.lt_succ_self _⟩)))
   clear S h;rintro a w7 ⟨x3,x4,v4,h,S⟩;rw [hj2] at h;clear hj2 j2
   exact Jc (Tn (Fg (Vq S Gd rfl rfl rfl fun a S=>Vm S rfl rfl fun a S=>Dl (⟨ys1,⟨i1 + 1,x3,x4,v4,⟨_,(hd1).trans (List.append_cons _ _ _),by simp [hi1]⟩,h,S.nf [false,true,true] rfl ⟨rfl,rfl,rfl,rfl,rfl,(congrArg (fun z=>some (Value.int .i64 z)) (Hc hd1 hi1 (Jx (Fv Rr hs1)))),trivial⟩⟩,Nat.lt_succ_self _⟩))))
 clear S h;rintro a w3 ⟨x1,x2,v1,h,S⟩;rw [hj1] at h;clear hj1 j1
 refine Tn (Fr (Vm S rfl rfl fun a S=>Va S rfl rfl fun a S=>Dl (wp_ret ?_)))
 obtain rfl:=Option.some.inj h
 exact Fw S results5 rfl ⟨(S.holds _ (List.mem_of_getElem? (i:=1) rfl)),(Zr S (i:=0) rfl (fun c hc hh=>Vh S (i:=1) rfl rfl (j:=0) rfl rfl (by simp at hc;subst hc;exact hh)))⟩
theorem AA (w : World) (U : Nat) (Ae : Value) (Be : List Int) (Bg : Slc (view w [U]) 1 Ae (Be.map eInt)) (Au : Int) (Bs : (LEnt.blk U [Ae,iV Au] 25).holds w) (Ab : Value) (Al : List ByteArray) (Ao : Slc (view w [U]) 1 Ab (Al.map Si)) (r : ByteArray × Int) (h : Pl Be Au Al = some r) :
    Calls prog 26 [.pointer (some ⟨U,0,none⟩),Ab].toArray w (Ret w [U] fun _ v w'=>(LEnt.blk U [Ae,iV r.2] 25).holds w' ∧ v = sV r.1):=by
 refine Kw [U] [.blk U [Ae,iV Au] 25] func26 rfl ntmps26 rfl (fun e he=>by simp only [List.mem_singleton] at he;subst he;exact Bs) (by simp [fps,LEnt.fp]) (by simp [fps,LEnt.fp]) fun a S=>?_
 unfold Pl at h
 replace S:=(S.nl [.blk U [Ae,iV Au] 25] [true] rfl).k2 0 1 rfl
 refine Fr (Vk S rfl rfl fun a S=>Dl (Fs (Fg ?_)))
 iterate 3 (refine Vm S rfl rfl ?_;clear S;intro a S)
 refine lv S (Fy Qi (S.tm rfl) (Eh Ao)) rfl ?_;clear S;intro a S
 obtain ⟨r1,hr1,h⟩:=Gf h
 refine Jf 0 S (b:=U) rfl rfl (fun _=>.blk U [Ae,iV r1.2] 25) (fun _=>Eg (vs:=[.pointer (some ⟨U,0,none⟩),iV (Al.length : Int)]) ⟨(S.tm rfl),(S.tm rfl),trivial⟩ call25) (Po _ U Ae Be (Bg.mono (S.le_arg (Ew (i:=0) (e:=.blk U [Ae,iV Au] 25) rfl))) Au (S.holds _ (List.mem_of_getElem? (i:=0) rfl)) (Al.length : Int) _ hr1) rfl (fun _ _ _ h=>⟨h.1,fun _ hc=>by cases hc;rfl⟩) ?_;clear S;intro v1 a w1 hv1 hk1 hn1 S
 replace hv1:=hv1.2
 subst hv1
 obtain ⟨hc1,h⟩:=Hu h
 obtain ⟨b1,o1,hm1,hr2⟩:=Ff (a:=a) (x:=.tmp 5) (y:=.tmp 9) (ty:=0) Qi Ao (El hc1).1 (El hc1).2 (S.tm rfl) (S.tm rfl)
 refine lv S (hr2 _) rfl ?_;clear S;intro a S
 clear hr2
 refine lv S (Gt isAgg9 (off:=o1) (o:=0) (S.tm rfl) (hm1.at S.emb0) rfl) rfl fun a S=>Va S rfl rfl fun a S=>Dl (wp_ret ?_)
 obtain rfl:=Option.some.inj h
 exact Fw S results26 rfl ⟨(S.holds _ (List.mem_of_getElem? (i:=0) rfl)),rfl⟩
theorem Wi (w : World) (U : Nat) (Ae : Value) (Be : List Int) (Bg : Slc (view w [U]) 1 Ae (Be.map eInt)) (Au : Int) (Bs : (LEnt.blk U [Ae,iV Au] 25).holds w) (Bz : Int) (Bu : Int) (r : Int × Int) (h : Me Be Au Bz Bu = some r) :
    Calls prog 27 [.pointer (some ⟨U,0,none⟩),iV Bz,iV Bu].toArray w (Ret w [U] fun _ v w'=>(LEnt.blk U [Ae,iV r.2] 25).holds w' ∧ v = iV r.1):=by
 refine Kw [U] [.blk U [Ae,iV Au] 25] func27 rfl ntmps27 rfl (fun e he=>by simp only [List.mem_singleton] at he;subst he;exact Bs) (by simp [fps,LEnt.fp]) (by simp [fps,LEnt.fp]) fun a S=>?_
 unfold Me at h
 replace S:=(S.nl [.blk U [Ae,iV Au] 25] [true] rfl).k3 0 1 2 rfl
 refine Fr (Vk S rfl rfl fun a S=>Dl (Fs (Fr (Vm S rfl rfl ?_))));clear S;intro a S
 obtain ⟨r1,hr1,h⟩:=Gf h
 refine Jf 0 S (b:=U) rfl rfl (fun _=>.blk U [Ae,iV r1.2] 25) (fun _=>Eg (vs:=[.pointer (some ⟨U,0,none⟩),iV 12]) ⟨(S.tm rfl),rfl,trivial⟩ call19) (Pp _ U Ae Be (Bg.mono (S.le_arg (Ew (i:=0) (e:=.blk U [Ae,iV Au] 25) rfl))) Au (S.holds _ (List.mem_of_getElem? (i:=0) rfl)) 12 _ hr1) rfl (fun _ _ _ h=>⟨h.1,fun _ hc=>by cases hc;rfl⟩) ?_;clear S;intro v1 a w1 hv1 hk1 hn1 S
 replace hv1:=hv1.2
 subst hv1
 refine Dl (Fc h (S.tm rfl) (fun hb1 h=>?_) (fun hb1 h=>?_))
 ·refine Fr (Vm S rfl rfl fun a S=>Vm S rfl rfl fun a S=>Vq S Iq rfl rfl rfl fun a S=>Vm S rfl rfl fun a S=>Vq S Gd rfl rfl rfl fun a S=>Vm S rfl rfl fun a S=>Vm S rfl rfl fun a S=>Fo S underlying22 sizeOf3 zeroValue3 rfl rfl (pv:=[(0,iV (W (Bz - 1))),(1,iV (W (Bu + 1))),(2,iV Bz),(3,iV Bu),(4,iV (-1099511627776)),(5,iV 1099511627776)]) ⟨rfl,(S.tm rfl),rfl,(S.tm rfl),rfl,(S.tm rfl),rfl,(S.tm rfl),rfl,rfl,rfl,rfl,trivial⟩ (cs:=[iV (W (Bz - 1)),iV (W (Bu + 1)),iV Bz,iV Bu,iV (-1099511627776),iV 1099511627776]) (by kernel_rfl) rfl ?_);clear S;intro a w2 b1 hz1 hk2 S
  obtain ⟨r2,hr2,h⟩:=Gf h
  refine Jf 1 S (b:=U) rfl rfl (fun _=>.blk U [Ae,iV r2.2] 25) (fun _=>Eg (vs:=[.pointer (some ⟨U,0,none⟩),.slice (some ⟨b1,0,none⟩) 6 6]) ⟨(S.tm rfl),(S.tm rfl),trivial⟩ call20) (Nx _ U Ae Be (Bg.mono (S.le_arg (Ew (i:=1) (e:=.blk U [Ae,iV r1.2] 25) rfl))) r1.2 (S.holds _ (List.mem_of_getElem? (i:=1) rfl)) (.slice (some ⟨b1,0,none⟩) 6 6) [W (Bz - 1),W (Bu + 1),Bz,Bu,(-1099511627776),1099511627776] (Ou Gw S (i:=0) rfl rfl rfl rfl ((Ob (i:=1) (j:=0) (e:=.blk U [Ae,iV r1.2] 25) (e':=.blk b1 [iV (W (Bz - 1)),iV (W (Bu + 1)),iV Bz,iV Bu,iV (-1099511627776),iV 1099511627776] 3) S rfl rfl rfl) _ rfl)) _ hr2) rfl (fun _ _ _ h=>⟨h.1,fun _ hc=>by cases hc;rfl⟩) ?_;clear S;intro v2 a w3 hv2 hk3 hn2 S
  replace hv2:=hv2.2
  subst hv2
  refine Va S rfl rfl fun a S=>Ld ?_
  replace S:=(S.nl [.blk U [Ae,iV r2.2] 25] [false,true] rfl).k1 6 rfl
  refine Tn (wp_ret (Ek ?_))
  obtain rfl:=Option.some.inj h
  exact Fw S results27 rfl ⟨(S.holds _ (List.mem_of_getElem? (i:=0) rfl)),rfl⟩
 ·refine wp_skip (Tn (Fs (Fg ?_)))
  iterate 3 (refine Vm S rfl rfl ?_;clear S;intro a S)
  obtain ⟨r3,hr3,h⟩:=Gf h
  refine Jf 0 S (b:=U) rfl rfl (fun _=>.blk U [Ae,iV r3.2] 25) (fun _=>Eg (vs:=[.pointer (some ⟨U,0,none⟩),iV Bz,iV Bu]) ⟨(S.tm rfl),(S.tm rfl),(S.tm rfl),trivial⟩ call24) (Ue _ U Ae Be (Bg.mono (S.le_arg (Ew (i:=0) (e:=.blk U [Ae,iV r1.2] 25) rfl))) r1.2 (S.holds _ (List.mem_of_getElem? (i:=0) rfl)) Bz Bu _ hr3) rfl (fun _ _ _ h=>⟨h.1,fun _ hc=>by cases hc;rfl⟩) ?_;clear S;intro v3 a w4 hv3 hk4 hn3 S
  replace hv3:=hv3.2
  subst hv3
  refine Va S rfl rfl fun a S=>Dl (wp_ret ?_)
  obtain rfl:=Option.some.inj h
  exact Fw S results27 rfl ⟨(S.holds _ (List.mem_of_getElem? (i:=0) rfl)),rfl⟩
theorem Uf (w : World) (U : Nat) (Ae : Value) (Be : List Int) (Bg : Slc (view w [U]) 1 Ae (Be.map eInt)) (Au : Int) (Bs : (LEnt.blk U [Ae,iV Au] 25).holds w) (Ag : Value) (Aj : List Ed) (Aw : Slc (view w [U]) 5 Ag (Aj.map Ed.enc)) (r : (List Ey) × Int) (h : Pr Be Au Aj = some r) :
    Calls prog 6 [.pointer (some ⟨U,0,none⟩),Ag].toArray w (Ret w [U] fun τ v w'=>(LEnt.blk U [Ae,iV r.2] 25).holds w' ∧ Of τ 62 3 v r.1.length (r.1.flatMap Ey.enc)):=by
 refine Kw [U] [.blk U [Ae,iV Au] 25] func6 rfl ntmps6 rfl (fun e he=>by simp only [List.mem_singleton] at he;subst he;exact Bs) (by simp [fps,LEnt.fp]) (by simp [fps,LEnt.fp]) fun a S=>?_
 unfold Pr at h
 replace S:=(S.nl [.blk U [Ae,iV Au] 25] [true] rfl).k2 0 1 rfl
 refine Fr (Vk S rfl rfl fun a S=>Dz (Vk S rfl rfl ?_));clear S;intro a S
 replace S:=S.nil 62 3
 refine Dz (Vk S rfl rfl fun a S=>Dl (Fs (Fr (Vm S rfl rfl ?_))));clear S;intro a S
 refine lv S (Fy Jp (S.tm rfl) (Eh Aw)) rfl fun a S=>lv S (Rm rfl) rfl fun a S=>Dl ?_
 replace S:=(S.nl [.own (.slice none 0 0) 62 3 ([] : List Ey).length (([] : List Ey).flatMap Ey.enc),.blk U [Ae,iV Au] 25] [true,true] rfl).k6 0 5 6 11 12 13 rfl
 obtain ⟨j1,hj1,h⟩:=Ge h
 refine Ft (fun a w'=>∃ x1 : List Ey,∃ x2 : Int,∃ v1 : Value,j1 x1 x2 = some r ∧ Sx w [U] nov [.own v1 62 3 x1.length (x1.flatMap Ey.enc),.blk U [Ae,iV x2] 25] [(0,.pointer (some ⟨U,0,none⟩)),(5,v1)] 74 a w') ?_ ?_
 ·refine wp_block (Hh (fun (ys1 : List Ed) a w'=>∃ i1 : Nat,∃ x1 : List Ey,∃ x2 : Int,∃ x3 : Int,∃ v1 : Value,(∃ dn,Aj = dn ++ ys1 ∧ dn.length = i1) ∧ Jo Be j1 ys1 i1 x1 x2 x3 = some r ∧ Sx w [U] nov [.own v1 62 3 x1.length (x1.flatMap Ey.enc),.blk U [Ae,iV x2] 25] [(0,.pointer (some ⟨U,0,none⟩)),(5,v1),(6,iV x3),(11,Ag),(12,iV (Aj.length : Int)),(13,iV (i1 : Int))] 74 a w') List.length Aj ⟨0,([] : List Ey),Au,0,(.slice none 0 0),⟨[],rfl,rfl⟩,h,S.nf [true,true] rfl (subR rfl)⟩ ?_)
  clear S h;rintro ys1 a w1 ⟨i1,x1,x2,x3,v1,⟨dn,hd1,hi1⟩,h,S⟩
  cases ys1 with
  | nil =>
   rw [Jo.eq_1] at h
   refine Fr (Vb S Fm rfl rfl rfl fun a S=>Ld ?_)
   replace S:=S.k7 0 5 6 11 12 13 14 rfl
   exact Tn (Fs (wp_cond_false ((S.tm rfl).trans (congrArg Value.bool (Ih hd1 hi1))) (wp_exit (Fj (Fj (He (Tn (⟨x1,x2,v1,h,S.nf [true,true] rfl (subR rfl)⟩))))))))
  | cons y1 ys1 =>
   rw [Jo.eq_2] at h
   refine Fr (Vb S Fm rfl rfl rfl fun a S=>Ld ?_)
   replace S:=S.k7 0 5 6 11 12 13 14 rfl
   refine Tn (Fs (wp_cond_true ((S.tm rfl).trans (congrArg Value.bool (Hb hd1 hi1))) (wp_skip (Tn (Fs (wp_block (Fs (Fg ?_))))))))
   obtain ⟨b1,o1,hm1,hr1⟩:=Ff (a:=a) (x:=.tmp 11) (y:=.tmp 13) (ty:=0) Jp Aw (Ig hd1 hi1) rfl (S.tm rfl) (S.tm rfl)
   refine lv S (hr1 _) rfl ?_;clear S;intro a S
   clear hr1
   refine lv S (Hf isAgg54 sizeOf54 (off:=o1) (o:=0) (part:=(Ed.enc y1)) rfl rfl (S.tm rfl) (hm1.at S.emb0)) rfl fun a S=>Lm S zeroValue54 (cs:=[sV En,iV 0,iV 0,iV 0,iV 0]) rfl rfl ?_;clear S;intro a w3 b2 hz1 hk1 S
   refine Ki S (S.tm rfl) (S.tm rfl) (i:=0) (off:=0) rfl sizeOf54 (vs:=(Ed.enc y1)) rfl rfl rfl rfl ?_;clear S;intro w4 hk2 S
   refine Dz (Vk S rfl rfl fun a S=>Dl ?_)
   replace S:=(S.nl [.blk b2 (Ed.enc y1) 54,.own v1 62 3 x1.length (x1.flatMap Ey.enc),.blk U [Ae,iV x2] 25] [true,true,true] rfl).k8 0 5 6 8 9 11 12 13 rfl
   obtain ⟨j2,hj2,h⟩:=Ge h
   refine Ft (fun a w'=>∃ x4 : List Ey,∃ x5 : Int,∃ x6 : Int,∃ v2 : Value,j2 x4 x5 x6 = some r ∧ Sx w [U] nov [.blk b2 (Ed.enc y1) 54,.own v2 62 3 x4.length (x4.flatMap Ey.enc),.blk U [Ae,iV x5] 25] [(0,.pointer (some ⟨U,0,none⟩)),(5,v2),(6,iV x6),(11,Ag),(12,iV (Aj.length : Int)),(13,iV (i1 : Int))] 74 a w') ?_ ?_
   ·refine wp_block (Hh (fun (m1 : Nat) a w'=>∃ x4 : List Ey,∃ x5 : Int,∃ x6 : Int,∃ x7 : Int,∃ v2 : Value,Kc y1 Be j2 m1 x4 x5 x6 x7 = some r ∧ Sx w [U] nov [.blk b2 (Ed.enc y1) 54,.own v2 62 3 x4.length (x4.flatMap Ey.enc),.blk U [Ae,iV x5] 25] [(0,.pointer (some ⟨U,0,none⟩)),(5,v2),(6,iV x6),(8,.pointer (some ⟨b2,0,none⟩)),(9,iV x7),(11,Ag),(12,iV (Aj.length : Int)),(13,iV (i1 : Int))] 74 a w') id (((Tl y1.Heats 3) - 1).toNat + 2) ⟨x1,x2,x3,1,v1,h,S.nf [true,true,true] rfl (subR rfl)⟩ ?_)
    clear S h;rintro m1 a w5 ⟨x4,x5,x6,x7,v2,h,S⟩
    cases m1 with
    | zero=>rw [Kc.eq_1] at h;cases h
    | succ m1 =>
     rw [Kc.eq_2] at h
     refine Fs (Fr (Vm S rfl rfl fun a S=>Vf Rs S rfl rfl fun a S=>Vl isAgg3 0 S rfl rfl rfl rfl fun a S=>Vq S BY rfl rfl rfl fun a S=>Vb S Ss rfl rfl rfl fun a S=>Dl (Fc h (S.tm rfl) (fun hb1 h=>?_) (fun hb1 h=>?_))))
     ·refine wp_skip (Tn (Fs ?_))
      obtain ⟨j3,hj3,h⟩:=Ge h
      refine Ft (fun a w'=>∃ x8 : List Ey,∃ x9 : Int,∃ x10 : Int,∃ v3 : Value,j3 x8 x9 x10 = some r ∧ Sx w [U] nov [.blk b2 (Ed.enc y1) 54,.own v3 62 3 x8.length (x8.flatMap Ey.enc),.blk U [Ae,iV x9] 25] [(0,.pointer (some ⟨U,0,none⟩)),(5,v3),(6,iV x10),(8,.pointer (some ⟨b2,0,none⟩)),(9,iV x7),(11,Ag),(12,iV (Aj.length : Int)),(13,iV (i1 : Int))] 74 a w') ?_ ?_
      ·refine wp_block (Fr (Vm S rfl rfl fun a S=>Vm S rfl rfl fun a S=>Fo S underlying22 sizeOf3 zeroValue3 rfl rfl (pv:=[(0,iV 0),(1,iV 50),(2,iV 100),(3,iV 200)]) ⟨rfl,rfl,rfl,rfl,rfl,rfl,rfl,rfl,trivial⟩ (cs:=[iV 0,iV 50,iV 100,iV 200]) (by kernel_rfl) rfl ?_));clear S;intro a w8 b3 hz2 hk3 S
       obtain ⟨r1,hr2,h⟩:=Gf h
       refine Jf 3 S (b:=U) rfl rfl (fun _=>.blk U [Ae,iV r1.2] 25) (fun _=>Eg (vs:=[.pointer (some ⟨U,0,none⟩),.slice (some ⟨b3,0,none⟩) 4 4]) ⟨(S.tm rfl),(S.tm rfl),trivial⟩ call20) (Nx _ U Ae Be (Bg.mono (S.le_arg (Ew (i:=3) (e:=.blk U [Ae,iV x5] 25) rfl))) x5 (S.holds _ (List.mem_of_getElem? (i:=3) rfl)) (.slice (some ⟨b3,0,none⟩) 4 4) [0,50,100,200] (Ou Gw S (i:=0) rfl rfl rfl rfl ((Ob (i:=3) (j:=0) (e:=.blk U [Ae,iV x5] 25) (e':=.blk b3 [iV 0,iV 50,iV 100,iV 200] 3) S rfl rfl rfl) _ rfl)) _ hr2) rfl (fun _ _ _ h=>⟨h.1,fun _ hc=>by cases hc;rfl⟩) ?_;clear S;intro v4 a w9 hv1 hk4 hn1 S
       replace hv1:=hv1.2
       subst hv1
       refine Vb S Gd rfl rfl rfl fun a S=>Va S rfl rfl fun a S=>Ld ?_
       replace S:=(S.nl [.blk b2 (Ed.enc y1) 54,.own v2 62 3 x4.length (x4.flatMap Ey.enc),.blk U [Ae,iV r1.2] 25] [false,true,true,true] rfl).k8 0 5 6 8 9 11 12 13 rfl
       refine Tn (Fr (Vm S rfl rfl ?_));clear S;intro a S
       obtain ⟨r2,hr3,h⟩:=Gf h
       refine Jf 2 S (b:=U) rfl rfl (fun _=>.blk U [Ae,iV r2.2] 25) (fun _=>Eg (vs:=[.pointer (some ⟨U,0,none⟩),iV 3]) ⟨(S.tm rfl),rfl,trivial⟩ call19) (Pp _ U Ae Be (Bg.mono (S.le_arg (Ew (i:=2) (e:=.blk U [Ae,iV r1.2] 25) rfl))) r1.2 (S.holds _ (List.mem_of_getElem? (i:=2) rfl)) 3 _ hr3) rfl (fun _ _ _ h=>⟨h.1,fun _ hc=>by cases hc;rfl⟩) ?_;clear S;intro v5 a w10 hv2 hk5 hn2 S
       replace hv2:=hv2.2
       subst hv2
       refine Dl ?_
       obtain ⟨j4,hj4,h⟩:=Ge h
       refine Ft (fun a w'=>∃ x11 : List Ey,∃ v6 : Value,j4 x11 = some r ∧ Sx w [U] nov [.blk b2 (Ed.enc y1) 54,.own v6 62 3 x11.length (x11.flatMap Ey.enc),.blk U [Ae,iV r2.2] 25] [(0,.pointer (some ⟨U,0,none⟩)),(5,v6),(6,iV (W (x6 + r1.1))),(8,.pointer (some ⟨b2,0,none⟩)),(9,iV x7),(11,Ag),(12,iV (Aj.length : Int)),(13,iV (i1 : Int))] 74 a w') ?_ ?_
       ·refine Fc h (S.tm rfl) (fun hb2 h=>?_) (fun hb2 h=>?_)
        ·refine Fg (Vm S rfl rfl fun a S=>Vf Qn S rfl rfl fun a S=>Vl isAgg9 0 S rfl rfl rfl rfl fun a S=>Vm S rfl rfl fun a S=>Vm S rfl rfl fun a S=>lv S (Nl bt_62 (pv:=[(0,sV y1.Key),(1,iV x7),(2,iV (W (x6 + r1.1)))]) ⟨rfl,(S.tm rfl),rfl,(S.tm rfl),rfl,(S.tm rfl),trivial⟩ (cs:=[sV y1.Key,iV x7,iV (W (x6 + r1.1))]) (by kernel_rfl)) rfl fun a S=>Fo S underlying30 sizeOf62 zeroValue62 rfl rfl (pv:=[(0,.agg #[sV y1.Key,iV x7,iV (W (x6 + r1.1))])]) ⟨rfl,(S.tm rfl),trivial⟩ (cs:=[sV y1.Key,iV x7,iV (W (x6 + r1.1))]) (by kernel_rfl) rfl ?_);clear S;intro a w12 b4 hz3 hk6 S
         obtain ⟨hc1,h⟩:=Hu h
         refine Ov Sk Ey.enc_ok S (S.tm rfl) (i:=2) rfl (S.tm rfl) (j:=0) rfl (ys:=[(Ey.mk y1.Key x7 (W (x6 + r1.1)))]) rfl rfl rfl rfl (by have:=Le hc1;omega) rfl ?_;clear S;intro v7 a w13 hk7 S
         refine Va S rfl rfl fun a S=>Ld ?_
         replace S:=(S.nl [.blk b2 (Ed.enc y1) 54,.own v7 62 3 (x4 ++ [(Ey.mk y1.Key x7 (W (x6 + r1.1)))]).length ((x4 ++ [(Ey.mk y1.Key x7 (W (x6 + r1.1)))]).flatMap Ey.enc),.blk U [Ae,iV r2.2] 25] [false,true,true,true] rfl).k8 0 5 6 8 9 11 12 13 rfl
         exact Tn (⟨(x4 ++ [(Ey.mk y1.Key x7 (W (x6 + r1.1)))]),v7,h,S.nf [true,true,true] rfl (subR rfl)⟩)
        ·exact wp_skip (Tn (⟨x4,v2,h,S.nf [true,true,true] rfl (subR rfl)⟩))
       clear S h;rintro a w11 ⟨x11,v6,h,S⟩;rw [hj4] at h;clear hj4 j4
       exact Jc (Tn (⟨x11,r2.2,W (x6 + r1.1),v6,h,S.nf [true,true,true] rfl (subR rfl)⟩))
      clear S h;rintro a w7 ⟨x8,x9,x10,v3,h,S⟩;rw [hj3] at h;clear hj3 j3
      exact Tn (Fg (Vm S rfl rfl fun a S=>Vq S Gd rfl rfl rfl fun a S=>Va S rfl rfl fun a S=>Dl (⟨m1,⟨x8,x9,x10,W (x7 + 1),v3,h,S.nf [true,true,true] rfl ⟨rfl,rfl,rfl,rfl,rfl,rfl,rfl,rfl,trivial⟩⟩,Nat.lt_succ_self _⟩)))
     ·exact wp_exit (Fj (Fj (He (Tn (⟨x4,x5,x6,v2,h,S.nf [true,true,true] rfl (subR rfl)⟩)))))
   clear S h;rintro a w6 ⟨x4,x5,x6,v2,h,S⟩;rw [hj2] at h;clear hj2 j2
   exact Jc (Tn (Fg (Vq S Gd rfl rfl rfl fun a S=>Vm S rfl rfl fun a S=>Dl (⟨ys1,⟨i1 + 1,x4,x5,x6,v2,⟨_,(hd1).trans (List.append_cons _ _ _),by simp [hi1]⟩,h,S.nf [false,true,true] rfl ⟨rfl,rfl,rfl,rfl,rfl,(congrArg (fun z=>some (Value.int .i64 z)) (Hc hd1 hi1 (Jx Aw))),trivial⟩⟩,Nat.lt_succ_self _⟩))))
 clear S h;rintro a w2 ⟨x1,x2,v1,h,S⟩;rw [hj1] at h;clear hj1 j1
 refine Tn (Fs (Fr (Vm S rfl rfl fun a S=>lv S (Fy Sk (S.tm rfl) (Nc (S.own_at (i:=0) rfl))) rfl fun a S=>Vq S Kh rfl rfl rfl fun a S=>Vm S rfl rfl ?_)));clear S;intro a S
 obtain ⟨j5,hj5,h⟩:=Ge h
 refine Jy 3 (fun a w'=>∃ x12 : Int,∃ x13 : Bool,j5 x12 x13 = some r ∧ Sx w [U] nov [.own v1 62 3 x1.length (x1.flatMap Ey.enc),.blk U [Ae,iV x12] 25] [(0,.pointer (some ⟨U,0,none⟩)),(5,v1),(46,bV x13)] 74 a w') ?_ ?_
 ·rcases Bool.eq_false_or_eq_true (decide (0 < (x1.length : Int))) with hb3 | hb3
  ·replace h:=Py h hb3
   refine Er S rfl rfl rfl hb3 (Vm S rfl rfl fun a S=>Er S rfl rfl rfl hb3 ?_)
   obtain ⟨r3,hr4,h⟩:=Gf h
   refine Jf 1 S (b:=U) rfl rfl (fun _=>.blk U [Ae,iV r3.2] 25) (fun _=>Eg (vs:=[.pointer (some ⟨U,0,none⟩),iV 12]) ⟨(S.tm rfl),rfl,trivial⟩ call19) (Pp _ U Ae Be (Bg.mono (S.le_arg (Ew (i:=1) (e:=.blk U [Ae,iV x2] 25) rfl))) x2 (S.holds _ (List.mem_of_getElem? (i:=1) rfl)) 12 _ hr4) rfl (fun _ _ _ h=>⟨h.1,fun _ hc=>by cases hc;rfl⟩) ?_;clear S;intro v8 a w15 hv3 hk8 hn3 S
   replace hv3:=hv3.2
   subst hv3
   exact lv S (Mz hb3 (S.tm rfl) (S.tm rfl)) rfl fun a S=>Dl (⟨r3.2,r3.1,h,S.nf [true,true] rfl (subR rfl)⟩)
  ·replace h:=Pz h hb3
   exact Iy S rfl rfl rfl (Lk hb3) rfl (fun a S=>Iy S rfl rfl rfl (Lk hb3) rfl (fun a S=>Vq S (Na hb3) rfl rfl rfl fun a S=>Dl (⟨x2,false,h,S.nf [true,true] rfl (subR rfl)⟩)) rfl) rfl
 clear S h;rintro a w14 ⟨x12,x13,h,S⟩;rw [hj5] at h;clear hj5 j5
 refine Dl ?_
 obtain ⟨j6,hj6,h⟩:=Ge h
 refine Ft (fun a w'=>∃ x14 : List Ey,∃ x15 : Int,j6 x14 x15 = some r ∧ Sx w [U] nov [.own v1 62 3 x14.length (x14.flatMap Ey.enc),.blk U [Ae,iV x15] 25] [(5,v1)] 74 a w') ?_ ?_
 ·refine Fc h (S.tm rfl) (fun hb4 h=>?_) (fun hb4 h=>?_)
  ·refine Fs (Fg ?_)
   iterate 3 (refine Vm S rfl rfl ?_;clear S;intro a S)
   refine lv S (Fy Sk (S.tm rfl) (Nc (S.own_at (i:=0) rfl))) rfl ?_;clear S;intro a S
   obtain ⟨r4,hr5,h⟩:=Gf h
   refine Jf 1 S (b:=U) rfl rfl (fun _=>.blk U [Ae,iV r4.2] 25) (fun _=>Eg (vs:=[.pointer (some ⟨U,0,none⟩),iV (x1.length : Int)]) ⟨(S.tm rfl),(S.tm rfl),trivial⟩ call25) (Po _ U Ae Be (Bg.mono (S.le_arg (Ew (i:=1) (e:=.blk U [Ae,iV x12] 25) rfl))) x12 (S.holds _ (List.mem_of_getElem? (i:=1) rfl)) (x1.length : Int) _ hr5) rfl (fun _ _ _ h=>⟨h.1,fun _ hc=>by cases hc;rfl⟩) ?_;clear S;intro v9 a w17 hv4 hk9 hn4 S
   replace hv4:=hv4.2
   subst hv4
   obtain ⟨hc2,h⟩:=Hu h
   obtain ⟨b5,hg1,hr6⟩:=Gz (a:=a) (x:=.tmp 47) (y:=.tmp 51) (ty:=0) Sk Ey.enc_ok S (i:=0) rfl (El hc2).1 (El hc2).2 (S.tm rfl) (S.tm rfl)
   refine lv S (hr6 _) rfl ?_;clear S;intro a S
   clear hr6
   refine Va S rfl rfl fun a S=>Dl (Fg ?_)
   iterate 5 (refine Vm S rfl rfl ?_;clear S;intro a S)
   refine Vu S Fu rfl rfl fun a S=>Vf Xf S rfl rfl fun a S=>lv S (Gt isAgg9 (off:=r4.1.toNat * 3) (o:=0) (S.tm rfl) (Nb Ey.enc_ok S (i:=0) rfl hg1 (El hc2).1) rfl) rfl fun a S=>Fo S underlying47 sizeOf9 zeroValue9 rfl rfl (pv:=[(0,sV ((nth x1 r4.1).Item)),(1,sV DK)]) ⟨rfl,(S.tm rfl),rfl,rfl,trivial⟩ (cs:=[sV ((nth x1 r4.1).Item),sV DK]) (by kernel_rfl) rfl ?_;clear S;intro a w18 b6 hz4 hk10 S
   obtain ⟨r5,hr7,h⟩:=Gf h
   refine Jf 2 S (b:=U) rfl rfl (fun _=>.blk U [Ae,iV r5.2] 25) (fun _=>Eg (vs:=[.pointer (some ⟨U,0,none⟩),.slice (some ⟨b6,0,none⟩) 2 2]) ⟨(S.tm rfl),(S.tm rfl),trivial⟩ call26) (AA _ U Ae Be (Bg.mono (S.le_arg (Ew (i:=2) (e:=.blk U [Ae,iV r4.2] 25) rfl))) r4.2 (S.holds _ (List.mem_of_getElem? (i:=2) rfl)) (.slice (some ⟨b6,0,none⟩) 2 2) [(nth x1 r4.1).Item,DK] (Ou Rr S (i:=0) rfl rfl rfl rfl ((Ob (i:=2) (j:=0) (e:=.blk U [Ae,iV r4.2] 25) (e':=.blk b6 [sV ((nth x1 r4.1).Item),sV DK] 9) S rfl rfl rfl) _ rfl)) _ hr7) rfl (fun _ _ _ h=>⟨h.1,fun _ hc=>by cases hc;rfl⟩) ?_;clear S;intro v10 a w19 hv5 hk11 hn5 S
   replace hv5:=hv5.2
   subst hv5
   refine Vm S rfl rfl ?_;clear S;intro a S
   obtain ⟨r6,hr8,h⟩:=Gf h
   refine Jf 2 S (b:=U) rfl rfl (fun _=>.blk U [Ae,iV r6.2] 25) (fun _=>Eg (vs:=[.pointer (some ⟨U,0,none⟩),iV 1,iV 3]) ⟨(S.tm rfl),rfl,rfl,trivial⟩ call27) (Wi _ U Ae Be (Bg.mono (S.le_arg (Ew (i:=2) (e:=.blk U [Ae,iV r5.2] 25) rfl))) r5.2 (S.holds _ (List.mem_of_getElem? (i:=2) rfl)) 1 3 _ hr8) rfl (fun _ _ _ h=>⟨h.1,fun _ hc=>by cases hc;rfl⟩) ?_;clear S;intro v11 a w20 hv6 hk12 hn6 S
   replace hv6:=hv6.2
   subst hv6
   refine Vm S rfl rfl ?_;clear S;intro a S
   obtain ⟨r7,hr9,h⟩:=Gf h
   refine Jf 2 S (b:=U) rfl rfl (fun _=>.blk U [Ae,iV r7.2] 25) (fun _=>Eg (vs:=[.pointer (some ⟨U,0,none⟩),iV 0,iV 500]) ⟨(S.tm rfl),rfl,rfl,trivial⟩ call27) (Wi _ U Ae Be (Bg.mono (S.le_arg (Ew (i:=2) (e:=.blk U [Ae,iV r6.2] 25) rfl))) r6.2 (S.holds _ (List.mem_of_getElem? (i:=2) rfl)) 0 500 _ hr9) rfl (fun _ _ _ h=>⟨h.1,fun _ hc=>by cases hc;rfl⟩) ?_;clear S;intro v12 a w21 hv7 hk13 hn7 S
   replace hv7:=hv7.2
   subst hv7
   refine Vu S Fu rfl rfl fun a S=>Vf Xf S rfl rfl fun a S=>Mt (c:=0) (j:=r4.1.toNat) (Ey.mk r5.1 ((nth x1 r4.1).Heat) ((nth x1 r4.1).At)) Ey.enc_ok S (S.tm rfl) (S.tm rfl) (i:=1) rfl hg1 (El hc2).1 sizeOf9 (vs:=[sV r5.1]) rfl rfl rfl rfl rfl ?_;clear S;intro w23 hk15 S
   refine Vu S Fu rfl rfl fun a S=>Vf Vw S rfl rfl fun a S=>Mt (c:=1) (j:=r4.1.toNat) (Ey.mk r5.1 r6.1 ((nth x1 r4.1).At)) Ey.enc_ok S (S.tm rfl) (S.tm rfl) (i:=1) rfl hg1 (Vp (El hc2).1) sizeOf3 (vs:=[iV r6.1]) rfl rfl rfl rfl rfl ?_;clear S;intro w25 hk17 S
   refine Vu S Fu rfl rfl fun a S=>Vf Xg S rfl rfl fun a S=>Mt (c:=2) (j:=r4.1.toNat) (Ey.mk r5.1 r6.1 r7.1) Ey.enc_ok S (S.tm rfl) (S.tm rfl) (i:=1) rfl hg1 (Vp (Vp (El hc2).1)) sizeOf3 (vs:=[iV r7.1]) rfl rfl rfl rfl rfl ?_;clear S;intro w27 hk19 S
   refine Ld ?_
   replace S:=(S.nl [.own v1 62 3 (((x1.set r4.1.toNat (Ey.mk r5.1 ((nth x1 r4.1).Heat) ((nth x1 r4.1).At))).set r4.1.toNat (Ey.mk r5.1 r6.1 ((nth x1 r4.1).At))).set r4.1.toNat (Ey.mk r5.1 r6.1 r7.1)).length ((((x1.set r4.1.toNat (Ey.mk r5.1 ((nth x1 r4.1).Heat) ((nth x1 r4.1).At))).set r4.1.toNat (Ey.mk r5.1 r6.1 ((nth x1 r4.1).At))).set r4.1.toNat (Ey.mk r5.1 r6.1 r7.1)).flatMap Ey.enc),.blk U [Ae,iV r7.2] 25] [false,true,true] rfl).k1 5 rfl
   exact Tn (⟨(((x1.set r4.1.toNat (Ey.mk r5.1 ((nth x1 r4.1).Heat) ((nth x1 r4.1).At))).set r4.1.toNat (Ey.mk r5.1 r6.1 ((nth x1 r4.1).At))).set r4.1.toNat (Ey.mk r5.1 r6.1 r7.1)),r7.2,h,S.nf [true,true] rfl ⟨rfl,trivial⟩⟩)
  ·exact wp_skip (Tn (⟨x1,x12,h,S.nf [true,true] rfl ⟨rfl,trivial⟩⟩))
 clear S h;rintro a w16 ⟨x14,x15,h,S⟩;rw [hj6] at h;clear hj6 j6
 refine Tn (Fr (Vm S rfl rfl fun a S=>Va S rfl rfl fun a S=>Dl (wp_ret ?_)))
 obtain rfl:=Option.some.inj h
 exact Fw S results6 rfl ⟨(S.holds _ (List.mem_of_getElem? (i:=1) rfl)),(Zr S (i:=0) rfl (fun c hc hh=>Vh S (i:=1) rfl rfl (j:=0) rfl rfl (by simp at hc;subst hc;exact hh)))⟩
theorem Yt (w : World) (s c : ByteArray) (r : ByteArray) (h : Tx s c = some r) : Calls prog 86 [.string s,.string c].toArray w (Ret w [] fun _ v _=>v = .string r):=by
  unfold Tx at h
  obtain ⟨h1,h⟩:=Hu h
  obtain ⟨h2,h⟩:=Hu h
  obtain ⟨h3,h⟩:=Hu h
  obtain rfl:=Option.some.inj h
  exact CD (Any.strings_Trim_laid Tryz.lays160 (by kernel_rfl) s c w (by simpa using h1) (by simpa using h2) (fun j b hb=>by simpa using List.all_eq_true.1 h3 b (List.mem_of_getElem? hb)))
theorem Kl (w : World) (Bj : ByteArray) (r : Bool) (h : Js Bj = some r) :
    Calls prog 50 [sV Bj].toArray w (Ret w [] fun _ v _=>v = bV r):=by
 refine Fe func50 rfl ntmps50 rfl fun a S=>?_
 unfold Js at h
 replace S:=S.k1 0 rfl
 refine Fr (Vk S rfl rfl fun a S=>Dz (Vm S rfl rfl fun a S=>Vu S (Zp underlying9) rfl rfl fun a S=>Vq S Ph rfl rfl rfl fun a S=>Vm S rfl rfl ?_));clear S;intro a S
 refine Jy 4 (fun a w'=>Keep [] w w' ∧ Sx w [] nov [] [(0,sV Bj),(10,bV ((decide (1 ≤ (Bj.size : Int))) && (decide ((Bj.size : Int) ≤ 40))))] 26 a w') ?_ ?_
 ·rcases Bool.eq_false_or_eq_true (decide (1 ≤ (Bj.size : Int))) with hb1 | hb1
  ·exact Er S rfl rfl rfl hb1 (Vm S rfl rfl fun a S=>Er S rfl rfl rfl hb1 (Vu S (Zp underlying9) rfl rfl fun a S=>Er S rfl rfl rfl hb1 (Vq S Ss rfl rfl rfl fun a S=>lv S (Ju hb1 (S.tm rfl) (S.tm rfl)) rfl fun a S=>Dl (⟨Keep.refl _ _,S.nf [] rfl (subR rfl)⟩))))
  ·iterate 3 (refine Iy S rfl rfl rfl (Lk hb1) rfl ?_ rfl;clear S;intro a S)
   exact lv S (Jv (decide ((Bj.size : Int) ≤ 40)) hb1 (S.tm rfl) rfl) rfl fun a S=>Dl (⟨Keep.refl _ _,S.nf [] rfl (subR rfl)⟩)
 clear S;rintro a w1 ⟨hk1,S⟩
 refine Vm S rfl rfl ?_;clear S;intro a S
 obtain ⟨j1,hj1,h⟩:=Ge h
 refine Jy 4 (fun a w'=>∃ c1,j1 c1 = some r ∧ Keep [] w1 w' ∧ Sx w [] nov [] [(0,sV Bj),(15,bV c1)] 26 a w') ?_ ?_
 ·rcases Bool.eq_false_or_eq_true ((decide (1 ≤ (Bj.size : Int))) && (decide ((Bj.size : Int) ≤ 40))) with hb2 | hb2
  ·replace h:=Py h hb2
   refine Er S rfl rfl rfl hb2 (Vm S rfl rfl fun a S=>Er S rfl rfl rfl hb2 ?_)
   obtain ⟨hc1,h⟩:=Hu h
   exact lv S (Ts underlying9 (S.tm rfl) rfl hc1) rfl fun a S=>Er S rfl rfl rfl hb2 (Vq S Ph rfl rfl rfl fun a S=>lv S (Ju hb2 (S.tm rfl) (S.tm rfl)) rfl fun a S=>Dl (⟨_,h,Keep.refl _ _,S.nf [] rfl (subR rfl)⟩))
  ·replace h:=Pz h hb2
   iterate 3 (refine Iy S rfl rfl rfl (Lk hb2) rfl ?_ rfl;clear S;intro a S)
   exact Vq S (Jv true hb2) rfl rfl rfl fun a S=>Dl (⟨_,h,Keep.refl _ _,S.nf [] rfl (subR rfl)⟩)
 clear S h;rintro a w2 ⟨c1,h,hk2,S⟩;rw [hj1] at h;clear hj1 j1
 refine Vm S rfl rfl ?_;clear S;intro a S
 obtain ⟨j2,hj2,h⟩:=Ge h
 refine Jy 4 (fun a w'=>∃ c2,j2 c2 = some r ∧ Keep [] w2 w' ∧ Sx w [] nov [] [(0,sV Bj),(20,bV c2)] 26 a w') ?_ ?_
 ·rcases Bool.eq_false_or_eq_true c1 with hb3 | hb3
  ·replace h:=Py h hb3
   refine Er S rfl rfl rfl hb3 (Vm S rfl rfl fun a S=>Er S rfl rfl rfl hb3 ?_)
   obtain ⟨hc2,h⟩:=Hu h
   exact lv S (Ts underlying9 (S.tm rfl) rfl hc2) rfl fun a S=>Er S rfl rfl rfl hb3 (Vq S Ss rfl rfl rfl fun a S=>lv S (Ju hb3 (S.tm rfl) (S.tm rfl)) rfl fun a S=>Dl (⟨_,h,Keep.refl _ _,S.nf [] rfl (subR rfl)⟩))
  ·replace h:=Pz h hb3
   iterate 3 (refine Iy S rfl rfl rfl (Lk hb3) rfl ?_ rfl;clear S;intro a S)
   exact Vq S (Jv true hb3) rfl rfl rfl fun a S=>Dl (⟨_,h,Keep.refl _ _,S.nf [] rfl (subR rfl)⟩)
 clear S h;rintro a w3 ⟨c2,h,hk3,S⟩;rw [hj2] at h;clear hj2 j2
 refine Vm S rfl rfl ?_;clear S;intro a S
 obtain ⟨j3,hj3,h⟩:=Ge h
 refine Jy 4 (fun a w'=>∃ c3,j3 c3 = some r ∧ Keep [] w3 w' ∧ Sx w [] nov [] [(25,bV c3)] 26 a w') ?_ ?_
 ·rcases Bool.eq_false_or_eq_true c2 with hb4 | hb4
  ·replace h:=Py h hb4
   refine Er S rfl rfl rfl hb4 (Vm S rfl rfl fun a S=>Er S rfl rfl rfl hb4 ?_)
   obtain ⟨r1,hr1,h⟩:=Gf h
   refine Em S (fun _=>Eg (vs:=[sV Bj,sV Oh]) ⟨(S.tm rfl),rfl,trivial⟩ call86) (Yt _ Bj Oh _ hr1) rfl ?_;clear S;intro v1 a w5 hv1 hk4 hn1 S
   subst hv1
   exact Er S rfl rfl rfl hb4 (Vq S Tp rfl rfl rfl fun a S=>lv S (Ju hb4 (S.tm rfl) (S.tm rfl)) rfl fun a S=>Dl (⟨_,h,hk4,S.nf [] rfl ⟨rfl,trivial⟩⟩))
  ·replace h:=Pz h hb4
   iterate 3 (refine Iy S rfl rfl rfl (Lk hb4) rfl ?_ rfl;clear S;intro a S)
   exact Vq S (Jv true hb4) rfl rfl rfl fun a S=>Dl (⟨_,h,Keep.refl _ _,S.nf [] rfl ⟨rfl,trivial⟩⟩)
 clear S h;rintro a w4 ⟨c3,h,hk5,S⟩;rw [hj3] at h;clear hj3 j3
 refine Va S rfl rfl fun a S=>Dl (wp_ret ?_)
 obtain rfl:=Option.some.inj h
 exact Fw S results50 rfl rfl
theorem Gk (w : World) (Bv : Int) (Bz : Int) (Bu : Int) (r : Bool) (h : Ev Bv Bz Bu = r) :
    Calls prog 32 [iV Bv,iV Bz,iV Bu].toArray w (Ret w [] fun _ v _=>v = bV r):=by
 refine Fe func32 rfl ntmps32 rfl fun a S=>?_
 unfold Ev at h
 replace S:=S.k3 0 1 2 rfl
 refine Fr (Vk S rfl rfl fun a S=>Dz (Vm S rfl rfl fun a S=>Vm S rfl rfl fun a S=>Vb S Ph rfl rfl rfl fun a S=>Vm S rfl rfl ?_));clear S;intro a S
 refine Jy 4 (fun a w'=>Keep [] w w' ∧ Sx w [] nov [] [(14,bV ((decide (Bz ≤ Bv)) && (decide (Bv ≤ Bu))))] 15 a w') ?_ ?_
 ·rcases Bool.eq_false_or_eq_true (decide (Bz ≤ Bv)) with hb1 | hb1
  ·exact Er S rfl rfl rfl hb1 (Vm S rfl rfl fun a S=>Er S rfl rfl rfl hb1 (Vm S rfl rfl fun a S=>Er S rfl rfl rfl hb1 (Vb S Ss rfl rfl rfl fun a S=>lv S (Ju hb1 (S.tm rfl) (S.tm rfl)) rfl fun a S=>Dl (⟨Keep.refl _ _,S.nf [] rfl ⟨rfl,trivial⟩⟩))))
  ·iterate 3 (refine Iy S rfl rfl rfl (Lk hb1) rfl ?_ rfl;clear S;intro a S)
   exact lv S (Jv (decide (Bv ≤ Bu)) hb1 (S.tm rfl) rfl) rfl fun a S=>Dl (⟨Keep.refl _ _,S.nf [] rfl ⟨rfl,trivial⟩⟩)
 clear S;rintro a w1 ⟨hk1,S⟩
 refine Va S rfl rfl fun a S=>Dl (wp_ret ?_)
 subst h
 exact Fw S results32 rfl rfl
theorem Mx (w : World) (Ab : Value) (Al : List Ed) (Ao : Slc (view w []) 5 Ab (Al.map Ed.enc)) (r : Int) (h : Ik Al = some r) :
    Calls prog 28 [Ab].toArray w (Ret w [] fun _ v _=>v = iV r):=by
 refine Fe func28 rfl ntmps28 rfl fun a S=>?_
 unfold Ik at h
 replace S:=S.k1 0 rfl
 refine Fr (Vk S rfl rfl fun a S=>Dl (Fs (Fr (Vm S rfl rfl fun a S=>lv S (Fy Jp (S.tm rfl) (Eh Ao)) rfl fun a S=>Vq S Kh rfl rfl rfl ?_))));clear S;intro a S
 refine Dl (Fc h (S.tm rfl) (fun hb1 h=>?_) (fun hb1 h=>?_))
 ·refine Fr (Vk S rfl rfl fun a S=>Dl (wp_ret (Ek ?_)))
  obtain rfl:=Option.some.inj h
  exact Fw S results28 rfl rfl
 ·refine wp_skip (Tn (Fr (Vr (κ:=ByteArray) (ν:=Bool) S rfl Value.string Value.bool ?_)));clear S;intro a w1 b1 hz1 hk1 S
  refine Va S rfl rfl fun a S=>Dl (Fs (Fr (Vm S rfl rfl fun a S=>lv S (Fy Jp (S.tm rfl) (Eh Ao)) rfl fun a S=>lv S (Rm rfl) rfl fun a S=>Dl ?_)))
  replace S:=(S.nl [.map b1 (Hz Value.string Value.bool ([] : List (ByteArray × Bool))) ([] : List (ByteArray × Bool)).length] [true] rfl).k4 3 10 11 12 rfl
  obtain ⟨j1,hj1,h⟩:=Ge h
  refine Ft (fun a w'=>∃ x1 : List (ByteArray × Bool),j1 x1 = some r ∧ Sx w [] nov [.map b1 (Hz Value.string Value.bool x1) x1.length] [] 53 a w') ?_ ?_
  ·refine wp_block (Hh (fun (ys1 : List Ed) a w'=>∃ i1 : Nat,∃ x1 : List (ByteArray × Bool),(∃ dn,Al = dn ++ ys1 ∧ dn.length = i1) ∧ Hs j1 ys1 i1 x1 = some r ∧ Sx w [] nov [.map b1 (Hz Value.string Value.bool x1) x1.length] [(3,.map (some b1)),(10,Ab),(11,iV (Al.length : Int)),(12,iV (i1 : Int))] 53 a w') List.length Al ⟨0,([] : List (ByteArray × Bool)),⟨[],rfl,rfl⟩,h,S.nf [true] rfl (subR rfl)⟩ ?_)
   clear S h;rintro ys1 a w2 ⟨i1,x1,⟨dn,hd1,hi1⟩,h,S⟩
   cases ys1 with
   | nil =>
    rw [Hs.eq_1] at h
    refine Fr (Vb S Fm rfl rfl rfl fun a S=>Ld ?_)
    replace S:=S.k5 3 10 11 12 13 rfl
    exact Tn (Fs (wp_cond_false ((S.tm rfl).trans (congrArg Value.bool (Ih hd1 hi1))) (wp_exit (Fj (Fj (He (Tn (⟨x1,h,S.nf [true] rfl trivial⟩))))))))
   | cons y1 ys1 =>
    rw [Hs.eq_2] at h
    refine Fr (Vb S Fm rfl rfl rfl fun a S=>Ld ?_)
    replace S:=S.k5 3 10 11 12 13 rfl
    refine Tn (Fs (wp_cond_true ((S.tm rfl).trans (congrArg Value.bool (Hb hd1 hi1))) (wp_skip (Tn (Fs (wp_block (Fs (Fg ?_))))))))
    obtain ⟨b2,o1,hm1,hr1⟩:=Ff (a:=a) (x:=.tmp 10) (y:=.tmp 12) (ty:=0) Jp Ao (Ig hd1 hi1) rfl (S.tm rfl) (S.tm rfl)
    refine lv S (hr1 _) rfl ?_;clear S;intro a S
    clear hr1
    refine lv S (Hf isAgg54 sizeOf54 (off:=o1) (o:=0) (part:=(Ed.enc y1)) rfl rfl (S.tm rfl) (hm1.at S.emb0)) rfl fun a S=>Lm S zeroValue54 (cs:=[sV En,iV 0,iV 0,iV 0,iV 0]) rfl rfl ?_;clear S;intro a w4 b3 hz2 hk2 S
    refine Ki S (S.tm rfl) (S.tm rfl) (i:=0) (off:=0) rfl sizeOf54 (vs:=(Ed.enc y1)) rfl rfl rfl rfl ?_;clear S;intro w5 hk3 S
    refine Dl (Fs (wp_block (Fr (Vf Qn S rfl rfl fun a S=>Vl isAgg9 0 S rfl rfl rfl rfl ?_))));clear S;intro a S
    obtain ⟨r1,hr2,h⟩:=Gf h
    refine Em S (fun _=>Eg (vs:=[sV y1.Key]) ⟨(S.tm rfl),trivial⟩ call50) (Kl _ y1.Key _ hr2) rfl ?_;clear S;intro v1 a w6 hv1 hk4 hn1 S
    subst hv1
    refine Vu S Jd rfl rfl fun a S=>Va S rfl rfl fun a S=>Dl (Fc h (S.tm rfl) (fun hb2 h=>?_) (fun hb2 h=>?_))
    ·refine Fr (Vk S rfl rfl fun a S=>Dl (wp_ret (Gu (Ek (Gu (Ek (Ek ?_)))))))
     refine Gu (Ek (Ek ?_))
     obtain rfl:=Option.some.inj h
     exact Fw S results28 rfl rfl
    ·refine Fr (Vm S rfl rfl fun a S=>Vf Qn S rfl rfl fun a S=>Vl isAgg9 0 S rfl rfl rfl rfl fun a S=>lv S (Vs (kv:=Value.string) (vv:=Value.bool) (m:=x1) (key:=y1.Key) (z:=false) (S.map_at (i:=1) rfl) underlying111 (DB underlying9) zeroValue4 (S.tm rfl) (S.tm rfl)) rfl fun a S=>Va S rfl rfl fun a S=>Ld ?_)
     replace S:=(S.nl [.blk b3 (Ed.enc y1) 54,.map b1 (Hz Value.string Value.bool x1) x1.length] [true,true] rfl).k6 3 5 10 11 12 21 rfl
     refine Tn (Fc h (S.tm rfl) (fun hb3 h=>?_) (fun hb3 h=>?_))
     ·refine Fr (Vk S rfl rfl fun a S=>Dl (wp_ret (Gu (Ek (Gu (Ek (Ek ?_)))))))
      refine Gu (Ek (Ek ?_))
      obtain rfl:=Option.some.inj h
      exact Fw S results28 rfl rfl
     ·refine Fr (Vf Rs S rfl rfl fun a S=>Vl isAgg3 0 S rfl rfl rfl rfl fun a S=>Em S (fun _=>Eg (vs:=[iV y1.Heats,iV 1,iV 60]) ⟨(S.tm rfl),rfl,rfl,trivial⟩ call32) (Gk _ y1.Heats 1 60 _ rfl) rfl ?_);clear S;intro v2 a w7 hv2 hk5 hn2 S
      subst hv2
      refine Vu S Jd rfl rfl fun a S=>Vm S rfl rfl fun a S=>Jy 5 (fun a w'=>Keep [] w7 w' ∧ Sx w [] nov [.blk b3 (Ed.enc y1) 54,.map b1 (Hz Value.string Value.bool x1) x1.length] [(3,.map (some b1)),(5,.pointer (some ⟨b3,0,none⟩)),(10,Ab),(11,iV (Al.length : Int)),(12,iV (i1 : Int)),(36,bV ((!(Ev y1.Heats 1 60)) || (!(Ev y1.Long 1 3600000))))] 53 a w') ?_ ?_
      ·rcases Bool.eq_false_or_eq_true (!(Ev y1.Heats 1 60)) with hb4 | hb4
       ·iterate 4 (refine Iy S rfl rfl rfl (Nu hb4) rfl ?_ rfl;clear S;intro a S)
        exact lv S (Od (!(Ev y1.Long 1 3600000)) hb4 (S.tm rfl) rfl) rfl fun a S=>Dl (⟨Keep.refl _ _,S.nf [true,true] rfl (subR rfl)⟩)
       ·refine Er S rfl rfl rfl hb4 (Vf Ua S rfl rfl fun a S=>Er S rfl rfl rfl hb4 (Vl isAgg3 0 S rfl rfl rfl rfl fun a S=>Er S rfl rfl rfl hb4 (Em S (fun _=>Eg (vs:=[iV y1.Long,iV 1,iV 3600000]) ⟨(S.tm rfl),rfl,rfl,trivial⟩ call32) (Gk _ y1.Long 1 3600000 _ rfl) rfl ?_)));clear S;intro v3 a w9 hv3 hk6 hn3 S
        subst hv3
        exact Er S rfl rfl rfl hb4 (Vu S Jd rfl rfl fun a S=>lv S (Oe hb4 (S.tm rfl) (S.tm rfl)) rfl fun a S=>Dl (⟨hk6,S.nf [true,true] rfl (subR rfl)⟩))
      clear S;rintro a w8 ⟨hk7,S⟩
      refine Vm S rfl rfl fun a S=>Jy 5 (fun a w'=>Keep [] w8 w' ∧ Sx w [] nov [.blk b3 (Ed.enc y1) 54,.map b1 (Hz Value.string Value.bool x1) x1.length] [(3,.map (some b1)),(5,.pointer (some ⟨b3,0,none⟩)),(10,Ab),(11,iV (Al.length : Int)),(12,iV (i1 : Int)),(42,bV (((!(Ev y1.Heats 1 60)) || (!(Ev y1.Long 1 3600000))) || (!(Ev y1.Gap 0 3600000))))] 53 a w') ?_ ?_
      ·rcases Bool.eq_false_or_eq_true ((!(Ev y1.Heats 1 60)) || (!(Ev y1.Long 1 3600000))) with hb5 | hb5
       ·iterate 4 (refine Iy S rfl rfl rfl (Nu hb5) rfl ?_ rfl;clear S;intro a S)
        exact lv S (Od (!(Ev y1.Gap 0 3600000)) hb5 (S.tm rfl) rfl) rfl fun a S=>Dl (⟨Keep.refl _ _,S.nf [true,true] rfl (subR rfl)⟩)
       ·refine Er S rfl rfl rfl hb5 (Vf Zf S rfl rfl fun a S=>Er S rfl rfl rfl hb5 (Vl isAgg3 0 S rfl rfl rfl rfl fun a S=>Er S rfl rfl rfl hb5 (Em S (fun _=>Eg (vs:=[iV y1.Gap,iV 0,iV 3600000]) ⟨(S.tm rfl),rfl,rfl,trivial⟩ call32) (Gk _ y1.Gap 0 3600000 _ rfl) rfl ?_)));clear S;intro v4 a w11 hv4 hk8 hn4 S
        subst hv4
        exact Er S rfl rfl rfl hb5 (Vu S Jd rfl rfl fun a S=>lv S (Oe hb5 (S.tm rfl) (S.tm rfl)) rfl fun a S=>Dl (⟨hk8,S.nf [true,true] rfl (subR rfl)⟩))
      clear S;rintro a w10 ⟨hk9,S⟩
      refine Vm S rfl rfl fun a S=>Jy 5 (fun a w'=>Keep [] w10 w' ∧ Sx w [] nov [.blk b3 (Ed.enc y1) 54,.map b1 (Hz Value.string Value.bool x1) x1.length] [(3,.map (some b1)),(5,.pointer (some ⟨b3,0,none⟩)),(10,Ab),(11,iV (Al.length : Int)),(12,iV (i1 : Int)),(48,bV ((((!(Ev y1.Heats 1 60)) || (!(Ev y1.Long 1 3600000))) || (!(Ev y1.Gap 0 3600000))) || (!(Ev y1.Break 0 3600000))))] 53 a w') ?_ ?_
      ·rcases Bool.eq_false_or_eq_true (((!(Ev y1.Heats 1 60)) || (!(Ev y1.Long 1 3600000))) || (!(Ev y1.Gap 0 3600000))) with hb6 | hb6
       ·iterate 4 (refine Iy S rfl rfl rfl (Nu hb6) rfl ?_ rfl;clear S;intro a S)
        exact lv S (Od (!(Ev y1.Break 0 3600000)) hb6 (S.tm rfl) rfl) rfl fun a S=>Dl (⟨Keep.refl _ _,S.nf [true,true] rfl (subR rfl)⟩)
       ·refine Er S rfl rfl rfl hb6 (Vf CH S rfl rfl fun a S=>Er S rfl rfl rfl hb6 (Vl isAgg3 0 S rfl rfl rfl rfl fun a S=>Er S rfl rfl rfl hb6 (Em S (fun _=>Eg (vs:=[iV y1.Break,iV 0,iV 3600000]) ⟨(S.tm rfl),rfl,rfl,trivial⟩ call32) (Gk _ y1.Break 0 3600000 _ rfl) rfl ?_)));clear S;intro v5 a w13 hv5 hk10 hn5 S
        subst hv5
        exact Er S rfl rfl rfl hb6 (Vu S Jd rfl rfl fun a S=>lv S (Oe hb6 (S.tm rfl) (S.tm rfl)) rfl fun a S=>Dl (⟨hk10,S.nf [true,true] rfl (subR rfl)⟩))
      clear S;rintro a w12 ⟨hk11,S⟩
      refine Va S rfl rfl fun a S=>Dl (Fc h (S.tm rfl) (fun hb7 h=>?_) (fun hb7 h=>?_))
      ·refine Fr (Vk S rfl rfl fun a S=>Dl (wp_ret (Gu (Ek (Gu (Ek (Ek ?_)))))))
       refine Gu (Ek (Ek ?_))
       obtain rfl:=Option.some.inj h
       exact Fw S results28 rfl rfl
      ·refine wp_skip (Jc (Tn (Fg (Vm S rfl rfl fun a S=>Vf Qn S rfl rfl fun a S=>Vl isAgg9 0 S rfl rfl rfl rfl fun a S=>Sn (kv:=Value.string) (vv:=Value.bool) (m:=x1) (key:=y1.Key) (val:=true) S (i:=1) rfl underlying111 (DB underlying9) (S.tm rfl) (S.tm rfl) rfl ?_))));clear S;intro w14 hk12 S
       exact Ld (Jc (Tn (Fg (Vq S Gd rfl rfl rfl fun a S=>Vm S rfl rfl fun a S=>Dl (⟨ys1,⟨i1 + 1,(Nz x1 y1.Key true),⟨_,(hd1).trans (List.append_cons _ _ _),by simp [hi1]⟩,h,S.nf [false,true] rfl ⟨rfl,rfl,rfl,(congrArg (fun z=>some (Value.int .i64 z)) (Hc hd1 hi1 (Jx Ao))),trivial⟩⟩,Nat.lt_succ_self _⟩)))))
  clear S h;rintro a w3 ⟨x1,h,S⟩;rw [hj1] at h;clear hj1 j1
  refine Tn (Fr (Vk S rfl rfl fun a S=>Dl (wp_ret ?_)))
  obtain rfl:=Option.some.inj h
  exact Fw S results28 rfl rfl
theorem Pf (w : World) (Bv : Int) (r : Bool) (h : It Bv = r) :
    Calls prog 51 [iV Bv].toArray w (Ret w [] fun _ v _=>v = bV r):=by
 refine Fe func51 rfl ntmps51 rfl fun a S=>?_
 unfold It at h
 replace S:=S.k1 0 rfl
 refine Fr (Vk S rfl rfl fun a S=>Dz (Vm S rfl rfl fun a S=>Vq S Ph rfl rfl rfl fun a S=>Vm S rfl rfl fun a S=>Jy 3 (fun a w'=>Keep [] w w' ∧ Sx w [] nov [] [(8,bV ((decide (0 ≤ Bv)) && (decide (Bv < 345686400000))))] 9 a w') ?_ ?_))
 ·rcases Bool.eq_false_or_eq_true (decide (0 ≤ Bv)) with hb1 | hb1
  ·exact Er S rfl rfl rfl hb1 (Vm S rfl rfl fun a S=>Er S rfl rfl rfl hb1 (Vq S Fm rfl rfl rfl fun a S=>lv S (Ju hb1 (S.tm rfl) (S.tm rfl)) rfl fun a S=>Dl (⟨Keep.refl _ _,S.nf [] rfl ⟨rfl,trivial⟩⟩)))
  ·exact Iy S rfl rfl rfl (Lk hb1) rfl (fun a S=>Iy S rfl rfl rfl (Lk hb1) rfl (fun a S=>lv S (Jv (decide (Bv < 345686400000)) hb1 (S.tm rfl) rfl) rfl fun a S=>Dl (⟨Keep.refl _ _,S.nf [] rfl ⟨rfl,trivial⟩⟩)) rfl) rfl
 clear S;rintro a w1 ⟨hk1,S⟩
 refine Va S rfl rfl fun a S=>Dl (wp_ret ?_)
 subst h
 exact Fw S results51 rfl rfl
theorem Pq (w : World) (Ab : Value) (Al : List Ed) (Ao : Slc (view w []) 5 Ab (Al.map Ed.enc)) (Bd : Int) (r : (List Ee)) (h : Lf Al Bd = some r) :
    Calls prog 34 [Ab,iV Bd].toArray w (Ret w [] fun τ v _=>Of τ 40 4 v r.length (r.flatMap Ee.enc)):=by
 refine Fe func34 rfl ntmps34 rfl fun a S=>?_
 unfold Lf at h
 replace S:=S.k2 0 1 rfl
 refine Fr (Vk S rfl rfl fun a S=>Dz (Vk S rfl rfl ?_));clear S;intro a S
 replace S:=S.nil 40 4
 refine Dz (Vm S rfl rfl fun a S=>Va S rfl rfl fun a S=>Dl (Fs (Fs (Fg ?_))))
 refine Vm S rfl rfl fun a S=>lv S (Fy Jp (S.tm rfl) (Eh Ao)) rfl fun a S=>lv S (Rm rfl) rfl fun a S=>Dl ?_
 replace S:=(S.nl [.own (.slice none 0 0) 40 4 ([] : List Ee).length (([] : List Ee).flatMap Ee.enc)] [true] rfl).k5 5 6 11 12 13 rfl
 obtain ⟨j1,hj1,h⟩:=Ge h
 refine Ft (fun a w'=>∃ x1 : List Ee,∃ v1 : Value,j1 x1 = some r ∧ Sx w [] nov [.own v1 40 4 x1.length (x1.flatMap Ee.enc)] [(5,v1)] 54 a w') ?_ ?_
 ·refine wp_block (Hh (fun (ys1 : List Ed) a w'=>∃ i1 : Nat,∃ x1 : List Ee,∃ x2 : Int,∃ v1 : Value,(∃ dn,Al = dn ++ ys1 ∧ dn.length = i1) ∧ Hk j1 ys1 i1 x1 x2 = some r ∧ Sx w [] nov [.own v1 40 4 x1.length (x1.flatMap Ee.enc)] [(5,v1),(6,iV x2),(11,Ab),(12,iV (Al.length : Int)),(13,iV (i1 : Int))] 54 a w') List.length Al ⟨0,([] : List Ee),Bd,(.slice none 0 0),⟨[],rfl,rfl⟩,h,S.nf [true] rfl (subR rfl)⟩ ?_)
  clear S h;rintro ys1 a w1 ⟨i1,x1,x2,v1,⟨dn,hd1,hi1⟩,h,S⟩
  cases ys1 with
  | nil =>
   rw [Hk.eq_1] at h
   refine Fr (Vb S Fm rfl rfl rfl fun a S=>Ld ?_)
   replace S:=S.k6 5 6 11 12 13 14 rfl
   exact Tn (Fs (wp_cond_false ((S.tm rfl).trans (congrArg Value.bool (Ih hd1 hi1))) (wp_exit (Fj (Fj (He (Tn (⟨x1,v1,h,S.nf [true] rfl ⟨rfl,trivial⟩⟩))))))))
  | cons y1 ys1 =>
   rw [Hk.eq_2] at h
   refine Fr (Vb S Fm rfl rfl rfl fun a S=>Ld ?_)
   replace S:=S.k6 5 6 11 12 13 14 rfl
   refine Tn (Fs (wp_cond_true ((S.tm rfl).trans (congrArg Value.bool (Hb hd1 hi1))) (wp_skip (Tn (Fs (wp_block (Fs (Fg ?_))))))))
   obtain ⟨b1,o1,hm1,hr1⟩:=Ff (a:=a) (x:=.tmp 11) (y:=.tmp 13) (ty:=0) Jp Ao (Ig hd1 hi1) rfl (S.tm rfl) (S.tm rfl)
   refine lv S (hr1 _) rfl ?_;clear S;intro a S
   clear hr1
   refine lv S (Hf isAgg54 sizeOf54 (off:=o1) (o:=0) (part:=(Ed.enc y1)) rfl rfl (S.tm rfl) (hm1.at S.emb0)) rfl fun a S=>Lm S zeroValue54 (cs:=[sV En,iV 0,iV 0,iV 0,iV 0]) rfl rfl ?_;clear S;intro a w3 b2 hz1 hk1 S
   refine Ki S (S.tm rfl) (S.tm rfl) (i:=0) (off:=0) rfl sizeOf54 (vs:=(Ed.enc y1)) rfl rfl rfl rfl ?_;clear S;intro w4 hk2 S
   refine Dl (Fs (Fr (Vk S rfl rfl fun a S=>Dl ?_)))
   replace S:=(S.nl [.blk b2 (Ed.enc y1) 54,.own v1 40 4 x1.length (x1.flatMap Ee.enc)] [true,true] rfl).k7 5 6 8 9 11 12 13 rfl
   obtain ⟨j2,hj2,h⟩:=Ge h
   refine Ft (fun a w'=>∃ x3 : List Ee,∃ x4 : Int,∃ v2 : Value,j2 x3 x4 = some r ∧ Sx w [] nov [.blk b2 (Ed.enc y1) 54,.own v2 40 4 x3.length (x3.flatMap Ee.enc)] [(5,v2),(6,iV x4),(8,.pointer (some ⟨b2,0,none⟩)),(11,Ab),(12,iV (Al.length : Int)),(13,iV (i1 : Int))] 54 a w') ?_ ?_
   ·refine wp_block (Hh (fun (m1 : Nat) a w'=>∃ x3 : List Ee,∃ x4 : Int,∃ x5 : Int,∃ v2 : Value,Hj y1 j2 m1 x3 x4 x5 = some r ∧ Sx w [] nov [.blk b2 (Ed.enc y1) 54,.own v2 40 4 x3.length (x3.flatMap Ee.enc)] [(5,v2),(6,iV x4),(8,.pointer (some ⟨b2,0,none⟩)),(9,iV x5),(11,Ab),(12,iV (Al.length : Int)),(13,iV (i1 : Int))] 54 a w') id ((y1.Heats - 1).toNat + 2) ⟨x1,x2,1,v1,h,S.nf [true,true] rfl (subR rfl)⟩ ?_)
    clear S h;rintro m1 a w5 ⟨x3,x4,x5,v2,h,S⟩
    cases m1 with
    | zero=>rw [Hj.eq_1] at h;cases h
    | succ m1 =>
     rw [Hj.eq_2] at h
     refine Fs (Fr (Vm S rfl rfl fun a S=>Vf Rs S rfl rfl fun a S=>Vl isAgg3 0 S rfl rfl rfl rfl fun a S=>Vb S Ss rfl rfl rfl fun a S=>Dl (Fc h (S.tm rfl) (fun hb1 h=>?_) (fun hb1 h=>?_))))
     ·refine wp_skip (Tn (Fs ?_))
      obtain ⟨j3,hj3,h⟩:=Ge h
      refine Ft (fun a w'=>∃ x6 : List Ee,∃ x7 : Int,∃ v3 : Value,j3 x6 x7 = some r ∧ Sx w [] nov [.blk b2 (Ed.enc y1) 54,.own v3 40 4 x6.length (x6.flatMap Ee.enc)] [(5,v3),(6,iV x7),(8,.pointer (some ⟨b2,0,none⟩)),(9,iV x5),(11,Ab),(12,iV (Al.length : Int)),(13,iV (i1 : Int))] 54 a w') ?_ ?_
      ·refine wp_block (Fr (Vm S rfl rfl fun a S=>Vf Qn S rfl rfl fun a S=>Vl isAgg9 0 S rfl rfl rfl rfl ?_));clear S;intro a S
       iterate 3 (refine Vm S rfl rfl ?_;clear S;intro a S)
       refine Vf Ua S rfl rfl fun a S=>Vl isAgg3 0 S rfl rfl rfl rfl fun a S=>Vb S Gd rfl rfl rfl fun a S=>lv S (Nl bt_38 (pv:=[(0,iV x4),(1,iV (W (x4 + y1.Long)))]) ⟨rfl,(S.tm rfl),rfl,(S.tm rfl),trivial⟩ (cs:=[iV x4,iV (W (x4 + y1.Long))]) (by kernel_rfl)) rfl fun a S=>lv S (Nl bt_40 (pv:=[(0,sV y1.Key),(1,iV x5),(2,.agg #[iV x4,iV (W (x4 + y1.Long))])]) ⟨rfl,(S.tm rfl),rfl,(S.tm rfl),rfl,(S.tm rfl),trivial⟩ (cs:=[sV y1.Key,iV x5,iV x4,iV (W (x4 + y1.Long))]) (by kernel_rfl)) rfl fun a S=>Fo S underlying32 sizeOf40 zeroValue40 rfl rfl (pv:=[(0,.agg #[sV y1.Key,iV x5,iV x4,iV (W (x4 + y1.Long))])]) ⟨rfl,(S.tm rfl),trivial⟩ (cs:=[sV y1.Key,iV x5,iV x4,iV (W (x4 + y1.Long))]) (by kernel_rfl) rfl ?_;clear S;intro a w8 b3 hz2 hk3 S
       obtain ⟨hc1,h⟩:=Hu h
       refine Ov Nw Ee.enc_ok S (S.tm rfl) (i:=2) rfl (S.tm rfl) (j:=0) rfl (ys:=[(Ee.mk y1.Key x5 (Gs.mk x4 (W (x4 + y1.Long))))]) rfl rfl rfl rfl (by have:=Le hc1;omega) rfl ?_;clear S;intro v4 a w9 hk4 S
       refine Va S rfl rfl fun a S=>Ld ?_
       replace S:=(S.nl [.blk b2 (Ed.enc y1) 54,.own v4 40 4 (x3 ++ [(Ee.mk y1.Key x5 (Gs.mk x4 (W (x4 + y1.Long))))]).length ((x3 ++ [(Ee.mk y1.Key x5 (Gs.mk x4 (W (x4 + y1.Long))))]).flatMap Ee.enc)] [false,true,true] rfl).k7 5 6 8 9 11 12 13 rfl
       refine Tn (Fr (Vm S rfl rfl fun a S=>Vf Ua S rfl rfl fun a S=>Vl isAgg3 0 S rfl rfl rfl rfl fun a S=>Vb S Gd rfl rfl rfl fun a S=>Va S rfl rfl fun a S=>Dl (Fs ?_)))
       refine Fg (Vm S rfl rfl fun a S=>Vf Rs S rfl rfl fun a S=>Vl isAgg3 0 S rfl rfl rfl rfl fun a S=>Vb S Fm rfl rfl rfl fun a S=>Ld ?_)
       replace S:=S.k8 5 6 8 9 11 12 13 43 rfl
       refine Tn ?_
       obtain ⟨j4,hj4,h⟩:=Ge h
       refine Ft (fun a w'=>∃ x8 : Int,j4 x8 = some r ∧ Sx w [] nov [.blk b2 (Ed.enc y1) 54,.own v4 40 4 (x3 ++ [(Ee.mk y1.Key x5 (Gs.mk x4 (W (x4 + y1.Long))))]).length ((x3 ++ [(Ee.mk y1.Key x5 (Gs.mk x4 (W (x4 + y1.Long))))]).flatMap Ee.enc)] [(5,v4),(6,iV x8),(8,.pointer (some ⟨b2,0,none⟩)),(9,iV x5),(11,Ab),(12,iV (Al.length : Int)),(13,iV (i1 : Int))] 54 a w') ?_ ?_
       ·refine Fc h (S.tm rfl) (fun hb2 h=>?_) (fun hb2 h=>?_)
        ·exact Fg (Vm S rfl rfl fun a S=>Vf Zf S rfl rfl fun a S=>Vl isAgg3 0 S rfl rfl rfl rfl fun a S=>Vb S Gd rfl rfl rfl fun a S=>Va S rfl rfl fun a S=>Dl (⟨W ((W (x4 + y1.Long)) + y1.Gap),h,S.nf [true,true] rfl (subR rfl)⟩))
        ·exact wp_skip (Tn (⟨W (x4 + y1.Long),h,S.nf [true,true] rfl (subR rfl)⟩))
       clear S h;rintro a w10 ⟨x8,h,S⟩;rw [hj4] at h;clear hj4 j4
       exact Jc (Tn (⟨(x3 ++ [(Ee.mk y1.Key x5 (Gs.mk x4 (W (x4 + y1.Long))))]),x8,v4,h,S.nf [true,true] rfl (subR rfl)⟩))
      clear S h;rintro a w7 ⟨x6,x7,v3,h,S⟩;rw [hj3] at h;clear hj3 j3
      exact Tn (Fg (Vm S rfl rfl fun a S=>Vq S Gd rfl rfl rfl fun a S=>Va S rfl rfl fun a S=>Dl (⟨m1,⟨x6,x7,W (x5 + 1),v3,h,S.nf [true,true] rfl ⟨rfl,rfl,rfl,rfl,rfl,rfl,rfl,trivial⟩⟩,Nat.lt_succ_self _⟩)))
     ·exact wp_exit (Fj (Fj (He (Tn (⟨x3,x4,v2,h,S.nf [true,true] rfl (subR rfl)⟩)))))
   clear S h;rintro a w6 ⟨x3,x4,v2,h,S⟩;rw [hj2] at h;clear hj2 j2
   refine Tn (Fg (Vm S rfl rfl fun a S=>Vf CH S rfl rfl fun a S=>Vl isAgg3 0 S rfl rfl rfl rfl fun a S=>Vb S Gd rfl rfl rfl fun a S=>Va S rfl rfl fun a S=>Ld (Jc (Tn (Fg ?_)))))
   exact Vq S Gd rfl rfl rfl fun a S=>Vm S rfl rfl fun a S=>Dl (⟨ys1,⟨i1 + 1,x3,W (x4 + y1.Break),v2,⟨_,(hd1).trans (List.append_cons _ _ _),by simp [hi1]⟩,h,S.nf [false,true] rfl ⟨rfl,rfl,rfl,rfl,(congrArg (fun z=>some (Value.int .i64 z)) (Hc hd1 hi1 (Jx Ao))),trivial⟩⟩,Nat.lt_succ_self _⟩)
 clear S h;rintro a w2 ⟨x1,v1,h,S⟩;rw [hj1] at h;clear hj1 j1
 refine Tn (Fr (Vm S rfl rfl fun a S=>Va S rfl rfl fun a S=>Dl (wp_ret ?_)))
 obtain rfl:=Option.some.inj h
 exact Fw S results34 rfl (Qb S (i:=0) rfl rfl)
theorem Rc (w : World) (Ab : Value) (Al : List Ee) (Ao : Slc (view w []) 4 Ab (Al.map Ee.enc)) (Bd : Int) (r : Int) (h : Oc Al Bd = some r) :
    Calls prog 33 [Ab,iV Bd].toArray w (Ret w [] fun _ v _=>v = iV r):=by
 refine Fe func33 rfl ntmps33 rfl fun a S=>?_
 unfold Oc at h
 replace S:=S.k2 0 1 rfl
 refine Fr (Vk S rfl rfl fun a S=>Dl (Fs (Fr (Vm S rfl rfl fun a S=>lv S (Fy Nw (S.tm rfl) (Eh Ao)) rfl fun a S=>Vq S Mc rfl rfl rfl ?_))));clear S;intro a S
 refine Dl (Fc h (S.tm rfl) (fun hb1 h=>?_) (fun hb1 h=>?_))
 ·refine Fr (Vm S rfl rfl fun a S=>Va S rfl rfl fun a S=>Dl (wp_ret (Ek ?_)))
  obtain rfl:=Option.some.inj h
  exact Fw S results33 rfl rfl
 ·refine wp_skip (Tn (Fr (Vm S rfl rfl fun a S=>Vm S rfl rfl fun a S=>lv S (Fy Nw (S.tm rfl) (Eh Ao)) rfl fun a S=>Vq S Iq rfl rfl rfl ?_)));clear S;intro a S
  obtain ⟨hc1,h⟩:=Hu h
  obtain ⟨b1,o1,hm1,hr1⟩:=Ff (a:=a) (x:=.tmp 9) (y:=.tmp 12) (ty:=0) Nw Ao (El hc1).1 (El hc1).2 (S.tm rfl) (S.tm rfl)
  refine lv S (hr1 _) rfl ?_;clear S;intro a S
  clear hr1
  refine Vf Pt S rfl rfl fun a S=>Vf Vv S rfl rfl fun a S=>lv S (Gt isAgg3 (off:=o1) (o:=3) (S.tm rfl) (hm1.at S.emb0) rfl) rfl fun a S=>Va S rfl rfl fun a S=>Dl (wp_ret ?_)
  obtain rfl:=Option.some.inj h
  exact Fw S results33 rfl rfl
theorem Tf (w : World) (Ab : Value) (Al : List Ed) (Ao : Slc (view w []) 5 Ab (Al.map Ed.enc)) (Bd : Int) (r : (List Ee) × Int) (h : Ow Al Bd = some r) :
    Calls prog 29 [Ab,iV Bd].toArray w (Ret w [] fun τ v _=>∃ u1 : Value,v = .tuple #[u1,iV r.2] ∧ Of τ 40 4 u1 r.1.length (r.1.flatMap Ee.enc)):=by
 refine Fe func29 rfl ntmps29 rfl fun a S=>?_
 unfold Ow at h
 replace S:=S.k2 0 1 rfl
 refine Fr (Vk S rfl rfl fun a S=>Vk S rfl rfl fun a S=>Dl (Fs (Fr (Vm S rfl rfl fun a S=>Em S (fun _=>Eg (vs:=[iV Bd]) ⟨(S.tm rfl),trivial⟩ call51) (Pf _ Bd _ rfl) rfl ?_))));clear S;intro v1 a w1 hv1 hk1 hn1 S
 subst hv1
 refine Vu S Jd rfl rfl fun a S=>Dl (Fc h (S.tm rfl) (fun hb1 h=>?_) (fun hb1 h=>?_))
 ·refine Fr (Vk S rfl rfl fun a S=>Vk S rfl rfl fun a S=>Dl (wp_ret (Ek ?_)))
  obtain rfl:=Option.some.inj h
  exact Kx S results29 rfl rfl ⟨_,rfl,(Jz _ _ _)⟩
 ·refine wp_skip (Tn (Fr (Vm S rfl rfl fun a S=>Vm S rfl rfl ?_)));clear S;intro a S
  obtain ⟨r1,hr1,h⟩:=Gf h
  have hz1:=S.keep.size
  refine Em S (fun _=>Eg (vs:=[Ab,iV Bd]) ⟨(S.tm rfl),(S.tm rfl),trivial⟩ call34) (Pq _ Ab Al (Ao.mono (S.le_arg Fh)) Bd _ hr1) rfl ?_;clear S;intro v2 a w2 hv2 hk2 hn2 S
  obtain ⟨φ1,hl1,hm1,S⟩:=S.see' hn2 hz1
  have hs1:=hv2.mono hm1
  refine Va S rfl rfl fun a S=>Dl (Fs (Fr (Vm S rfl rfl fun a S=>Vm S rfl rfl ?_)));clear S;intro a S
  obtain ⟨r2,hr2,h⟩:=Gf h
  refine Em S (fun _=>Eg (vs:=[v2,iV Bd]) ⟨(S.tm rfl),(S.tm rfl),trivial⟩ call33) (Rc _ v2 r1 ((Fv Ee.enc_ok hs1).mono (S.le_new Fh)) Bd _ hr2) rfl ?_;clear S;intro v3 a w3 hv3 hk3 hn3 S
  subst hv3
  refine Vq S Kh rfl rfl rfl fun a S=>Ld ?_
  replace S:=S.k2 6 16 rfl
  refine Tn (Fc h (S.tm rfl) (fun hb2 h=>?_) (fun hb2 h=>?_))
  ·refine Fr (Vk S rfl rfl fun a S=>Vk S rfl rfl fun a S=>Dl (wp_ret (Ek ?_)))
   obtain rfl:=Option.some.inj h
   exact Kx S results29 rfl rfl ⟨_,rfl,(Jz _ _ _)⟩
  ·refine wp_skip (Tn (Fr (Vm S rfl rfl fun a S=>Va S rfl rfl fun a S=>Vk S rfl rfl fun a S=>Dl (wp_ret ?_))))
   obtain rfl:=Option.some.inj h
   exact Kx S results29 rfl rfl ⟨_,rfl,((hs1).mono S.le_newer)⟩
theorem Ry (w : World) (Ab : Value) (Al : List Ed) (Ao : Slc (view w []) 5 Ab (Al.map Ed.enc)) (Bd : Int) (r : (List Ee) × Int) (h : Mb Al Bd = some r) :
    Calls prog 7 [Ab,iV Bd].toArray w (Ret w [] fun τ v _=>∃ u1 : Value,v = .tuple #[u1,iV r.2] ∧ Of τ 40 4 u1 r.1.length (r.1.flatMap Ee.enc)):=by
 refine Fe func7 rfl ntmps7 rfl fun a S=>?_
 unfold Mb at h
 replace S:=S.k2 0 1 rfl
 refine Fr (Vk S rfl rfl fun a S=>Vk S rfl rfl fun a S=>Dl (Fs (Fr (Vm S rfl rfl ?_))));clear S;intro a S
 obtain ⟨r1,hr1,h⟩:=Gf h
 refine Em S (fun _=>Eg (vs:=[Ab]) ⟨(S.tm rfl),trivial⟩ call28) (Mx _ Ab Al (Ao.mono (S.le_arg Fh)) _ hr1) rfl ?_;clear S;intro v1 a w1 hv1 hk1 hn1 S
 subst hv1
 refine Va S rfl rfl fun a S=>Dz (Vm S rfl rfl fun a S=>Vq S Mq rfl rfl rfl fun a S=>Dl (Fc h (S.tm rfl) (fun hb1 h=>?_) (fun hb1 h=>?_)))
 ·refine Fr (Vm S rfl rfl fun a S=>Vk S rfl rfl fun a S=>Va S rfl rfl fun a S=>Dl (wp_ret (Ek ?_)))
  obtain rfl:=Option.some.inj h
  exact Kx S results7 rfl rfl ⟨_,rfl,(Jz _ _ _)⟩
 ·refine wp_skip (Tn (Fr (Vm S rfl rfl fun a S=>Vm S rfl rfl ?_)));clear S;intro a S
  obtain ⟨r2,hr2,h⟩:=Gf h
  have hz1:=S.keep.size
  refine Em S (fun _=>Eg (vs:=[Ab,iV Bd]) ⟨(S.tm rfl),(S.tm rfl),trivial⟩ call29) (Tf _ Ab Al (Ao.mono (S.le_arg Fh)) Bd _ hr2) rfl ?_;clear S;intro v2 a w2 hv2 hk2 hn2 S
  obtain ⟨u1,rfl,ho1⟩:=hv2
  obtain ⟨φ1,hl1,hm1,S⟩:=S.see' hn2 hz1
  have hs1:=ho1.mono hm1
  refine Vq S Gv rfl rfl rfl fun a S=>Vq S Gv rfl rfl rfl fun a S=>Va S rfl rfl fun a S=>Va S rfl rfl fun a S=>Dl (wp_ret ?_)
  obtain rfl:=Option.some.inj h
  exact Kx S results7 rfl rfl ⟨_,rfl,((hs1).mono S.le_newer)⟩
theorem Qq (w : World) (Ab : Value) (Al : List Ee) (De : (LEnt.own Ab 40 4 Al.length (Al.flatMap Ee.enc)).holds w) (r : (List Ee)) (h : Kp Al = some r) :
    Calls prog 8 [Ab].toArray w (Ret w (Ab.ownBlock.toList) fun _ v w'=>(LEnt.own Ab 40 4 r.length (r.flatMap Ee.enc)).holds w' ∧ v = .tuple #[]):=by
 refine Kw (Ab.ownBlock.toList) [.own Ab 40 4 Al.length (Al.flatMap Ee.enc)] func8 rfl ntmps8 rfl (fun e he=>by simp only [List.mem_singleton] at he;subst he;exact De) (Kb _) (Lh _) fun a S=>?_
 unfold Kp at h
 replace S:=(S.nl [.own Ab 40 4 Al.length (Al.flatMap Ee.enc)] [true] rfl).k1 0 rfl
 refine Fr (Lm S zeroValue40 (cs:=[sV En,iV 0,iV 0,iV 0]) rfl rfl ?_);clear S;intro a w1 b1 hz1 hk1 S
 refine Dz (Vm S rfl rfl fun a S=>lv S (Fy Nw (S.tm rfl) (Nc (S.own_at (i:=1) rfl))) rfl fun a S=>lv S (Rm rfl) rfl fun a S=>Dl ?_)
 replace S:=(S.nl [.blk b1 [sV En,iV 0,iV 0,iV 0] 40,.own Ab 40 4 Al.length (Al.flatMap Ee.enc)] [true,true] rfl).k4 0 2 5 6 rfl
 have hm1:=Tr (S.own_at (i:=1) rfl)
 obtain ⟨j1,hj1,h⟩:=Ge h
 refine Ft (fun a w'=>∃ x1 : List Ee,j1 x1 = some r ∧ Sx w (Ab.ownBlock.toList) nov [.blk b1 [sV En,iV 0,iV 0,iV 0] 40,.own Ab 40 4 x1.length (x1.flatMap Ee.enc)] [] 14 a w') ?_ ?_
 ·refine wp_block (Hh (fun (ys1 : List Ee) a w'=>∃ i1 : Nat,∃ x1 : List Ee,(∃ dn,Al = dn ++ ys1 ∧ dn.length = i1) ∧ Hn j1 ys1 i1 x1 = some r ∧ Sx w (Ab.ownBlock.toList) nov [.blk b1 [sV En,iV 0,iV 0,iV 0] 40,.own Ab 40 4 x1.length (x1.flatMap Ee.enc)] [(0,Ab),(2,.pointer (some ⟨b1,0,none⟩)),(5,iV (Al.length : Int)),(6,iV (i1 : Int))] 14 a w') List.length Al ⟨0,Al,⟨[],rfl,rfl⟩,h,S.nf [true,true] rfl (subR rfl)⟩ ?_)
  clear S h;rintro ys1 a w2 ⟨i1,x1,⟨dn,hd1,hi1⟩,h,S⟩
  cases ys1 with
  | nil =>
   rw [Hn.eq_1] at h
   refine Fr (Vb S Fm rfl rfl rfl fun a S=>Ld ?_)
   replace S:=S.k5 0 2 5 6 7 rfl
   exact Tn (Fs (wp_cond_false ((S.tm rfl).trans (congrArg Value.bool (Ih hd1 hi1))) (wp_exit (Fj (Fj (He (Tn (⟨x1,h,S.nf [true,true] rfl trivial⟩))))))))
  | cons y1 ys1 =>
   rw [Hn.eq_2] at h
   refine Fr (Vb S Fm rfl rfl rfl fun a S=>Ld ?_)
   replace S:=S.k5 0 2 5 6 7 rfl
   refine Tn (Fs (wp_cond_true ((S.tm rfl).trans (congrArg Value.bool (Hb hd1 hi1))) (wp_skip (Tn (Fs (wp_block (Fr (Vm S rfl rfl fun a S=>Va S rfl rfl ?_))))))));clear S;intro a S
   refine Dl (Fg (Vm S rfl rfl fun a S=>Vm S rfl rfl fun a S=>lv S (Hf isAgg40 sizeOf40 (off:=0) (o:=0) (part:=[sV En,iV 0,iV 0,iV 0]) rfl rfl (S.tm rfl) (S.cellsAt (i:=0) rfl)) rfl ?_));clear S;intro a S
   obtain ⟨hc1,h⟩:=Hu h
   obtain ⟨b2,hg1,hr1⟩:=Gz (a:=a) (x:=.tmp 9) (y:=.tmp 10) (ty:=0) Nw Ee.enc_ok S (i:=1) rfl (El hc1).1 (El hc1).2 (S.tm rfl) (S.tm rfl)
   refine lv S (hr1 _) rfl ?_;clear S;intro a S
   clear hr1
   refine Mt (c:=0) (j:=(i1 : Int).toNat) (Ee.mk En 0 (Gs.mk 0 0)) Ee.enc_ok S (S.tm rfl) (S.tm rfl) (i:=1) rfl hg1 (El hc1).1 sizeOf40 (vs:=[sV En,iV 0,iV 0,iV 0]) rfl rfl rfl rfl rfl ?_;clear S;intro w5 hk3 S
   exact Ld (Jc (Tn (Fg (Vq S Gd rfl rfl rfl fun a S=>Vm S rfl rfl fun a S=>Dl (⟨ys1,⟨i1 + 1,(x1.set ((i1 : Int).toNat) (Ee.mk En 0 (Gs.mk 0 0))),⟨_,(hd1).trans (List.append_cons _ _ _),by simp [hi1]⟩,h,S.nf [true,true] rfl ⟨rfl,rfl,rfl,(congrArg (fun z=>some (Value.int .i64 z)) (Hc hd1 hi1 hm1)),trivial⟩⟩,Nat.lt_succ_self _⟩)))))
 clear S h;rintro a w3 ⟨x1,h,S⟩;rw [hj1] at h;clear hj1 j1
 obtain rfl:=Option.some.inj h
 exact Qu S results8 ⟨(S.holds _ (List.mem_of_getElem? (i:=1) rfl)),rfl⟩
theorem Uu (w : World) (Az : Ed) (Dv : Nat) (Eb : ByteArray) (Dw : (view w []) Dv = some (.cells [sV Eb].toArray 9 (0,0))) (r : Bool) (h : Pc Az Eb = r) :
    Calls prog 62 [.agg (Ed.enc Az).toArray,.pointer (some ⟨Dv,0,none⟩)].toArray w (Ret w [] fun _ v _=>v = bV r):=by
 refine Fe func62 rfl ntmps62 rfl fun a S=>?_
 unfold Pc at h
 replace S:=S.k2 0 1 rfl
 refine Fr (Qp S (S.tm rfl) (cs:=(Ed.enc Az)) rfl rfl ?_);clear S;intro a w1 b1 hz1 hk1 S
 refine Vk S rfl rfl fun a S=>Dz (Vf Qn S rfl rfl fun a S=>Vl isAgg9 0 S rfl rfl rfl rfl fun a S=>lv S (Gt isAgg9 (off:=0) (o:=0) (S.tm rfl) ((FF Dw).at S.emb0) rfl) rfl fun a S=>Vb S Tp rfl rfl rfl fun a S=>Va S rfl rfl fun a S=>Ld ?_)
 refine Tn (wp_ret ?_)
 subst h
 exact Fw S results62 rfl rfl
theorem Ok (w : World) (Bw : Value) (Bj : List Ed) (Ca : Slc (view w []) 5 Bw (Bj.map Ed.enc)) (Da : Nat) (Dq : ByteArray) (Du : (view w []) Da = some (.cells [sV Dq].toArray 9 (0,0))) (r : Int) (h : Im Bj Dq = r) :
    Calls prog 61 [Bw,.func (.func 62) #[] #[.pointer (some ⟨Da,0,none⟩)]].toArray w (Ret w [] fun _ v _=>v = iV r):=by
 refine Fe func61 rfl ntmps61 rfl fun a S=>?_
 unfold Im at h
 replace S:=S.k2 0 1 rfl
 refine Fr (Vk S rfl rfl fun a S=>Dl (Fs (Fr (Vm S rfl rfl fun a S=>lv S (Fy Jp (S.tm rfl) (Eh Ca)) rfl fun a S=>lv S (Rm rfl) rfl ?_))));clear S;intro a S
 refine Dl ?_
 replace S:=S.k4 0 1 7 8 rfl
 obtain ⟨j1,hj1,h⟩:=Ge h
 refine Ft (fun a w'=>j1 = r ∧ Sx w [] nov [] [] 19 a w') ?_ ?_
 ·refine wp_block (Hh (fun (ys1 : List Ed) a w'=>∃ i1 : Nat,(∃ dn,Bj = dn ++ ys1 ∧ dn.length = i1) ∧ Fi Dq j1 ys1 i1 = r ∧ Sx w [] nov [] [(0,Bw),(1,.func (.func 62) #[] #[.pointer (some ⟨Da,0,none⟩)]),(7,iV (Bj.length : Int)),(8,iV (i1 : Int))] 19 a w') List.length Bj ⟨0,⟨[],rfl,rfl⟩,h,S.nf [] rfl (subR rfl)⟩ ?_)
  clear S h;rintro ys1 a w1 ⟨i1,⟨dn,hd1,hi1⟩,h,S⟩
  cases ys1 with
  | nil =>
   rw [Fi.eq_1] at h
   refine Fr (Vb S Fm rfl rfl rfl fun a S=>Ld ?_)
   replace S:=S.k5 0 1 7 8 9 rfl
   exact Tn (Fs (wp_cond_false ((S.tm rfl).trans (congrArg Value.bool (Ih hd1 hi1))) (wp_exit (Fj (Fj (He (Tn (⟨h,S.nf [] rfl trivial⟩))))))))
  | cons y1 ys1 =>
   rw [Fi.eq_2] at h
   refine Fr (Vb S Fm rfl rfl rfl fun a S=>Ld ?_)
   replace S:=S.k5 0 1 7 8 9 rfl
   refine Tn (Fs (wp_cond_true ((S.tm rfl).trans (congrArg Value.bool (Hb hd1 hi1))) (wp_skip (Tn (Fs (wp_block (Fr (Vm S rfl rfl fun a S=>Va S rfl rfl ?_))))))));clear S;intro a S
   refine Dl (Fs (Fg ?_))
   iterate 3 (refine Vm S rfl rfl ?_;clear S;intro a S)
   obtain ⟨b1,o1,hm1,hr1⟩:=Ff (a:=a) (x:=.tmp 12) (y:=.tmp 13) (ty:=0) Jp Ca (Ig hd1 hi1) rfl (S.tm rfl) (S.tm rfl)
   refine lv S (hr1 _) rfl ?_;clear S;intro a S
   clear hr1
   refine lv S (Hf isAgg54 sizeOf54 (off:=o1) (o:=0) (part:=(Ed.enc y1)) rfl rfl (S.tm rfl) (hm1.at S.emb0)) rfl fun a S=>Em S (fun _=>Vi (cap:=[.pointer (some ⟨Da,0,none⟩)]) (S.tm rfl) (vs:=[.agg (Ed.enc y1).toArray]) ⟨(S.tm rfl),trivial⟩ call62) (Uu _ y1 Da Dq ((S.le_arg Fh) _ _ Du) _ rfl) rfl ?_;clear S;intro v1 a w3 hv1 hk1 hn1 S
   subst hv1
   refine Dl (Fc h (S.tm rfl) (fun hb1 h=>?_) (fun hb1 h=>?_))
   ·refine Fr (Vm S rfl rfl fun a S=>Va S rfl rfl fun a S=>Ld ?_)
    replace S:=S.k1 4 rfl
    refine Tn (wp_ret (Gu (Ek (Ek (Gu (Ek (Ek ?_)))))))
    subst h
    exact Fw S results61 rfl rfl
   ·exact wp_skip (Jc (Tn (Fg (Vq S Gd rfl rfl rfl fun a S=>Vm S rfl rfl fun a S=>Dl (⟨ys1,⟨i1 + 1,⟨_,(hd1).trans (List.append_cons _ _ _),by simp [hi1]⟩,h,S.nf [] rfl ⟨rfl,rfl,rfl,(congrArg (fun z=>some (Value.int .i64 z)) (Hc hd1 hi1 (Jx Ca))),trivial⟩⟩,Nat.lt_succ_self _⟩)))))
 clear S h;rintro a w2 ⟨h,S⟩;rw [hj1] at h;clear hj1 j1
 refine Tn (Fr (Vk S rfl rfl fun a S=>Dl (wp_ret ?_)))
 subst h
 exact Fw S results61 rfl rfl
theorem Pg (w : World) (Ab : Value) (Al : List Ed) (Ao : Slc (view w []) 5 Ab (Al.map Ed.enc)) (Do : ByteArray) (r : Int) (h : Ef Al Do = r) :
    Calls prog 39 [Ab,sV Do].toArray w (Ret w [] fun _ v _=>v = iV r):=by
 refine Fe func39 rfl ntmps39 rfl fun a S=>?_
 unfold Ef at h
 replace S:=S.k2 0 1 rfl
 refine Fr (Qp S (S.tm rfl) (cs:=[sV Do]) rfl rfl ?_);clear S;intro a w1 b1 hz1 hk1 S
 refine Vk S rfl rfl fun a S=>Dz (Vm S rfl rfl fun a S=>lv S (CY (us:=#[]) (xs:=[].toArray) (ys:=[.tmp 3].toArray) (by simp) (evA ⟨(S.tm rfl),trivial⟩ (vs:=[.pointer (some ⟨b1,0,none⟩)]))) rfl fun a S=>Em S (fun _=>Eg (vs:=[Ab,.func (.func 62) #[] #[.pointer (some ⟨b1,0,none⟩)]]) ⟨(S.tm rfl),(S.tm rfl),trivial⟩ call61) (Ok _ Ab Al (Ao.mono (S.le_arg Fh)) b1 Do (S.blk_view (i:=0) rfl ((Gr (e':=.blk b1 [sV Do] 9)) _ rfl)) _ rfl) rfl ?_);clear S;intro v1 a w2 hv1 hk2 hn1 S
 subst hv1
 refine Va S rfl rfl fun a S=>Dl (wp_ret ?_)
 subst h
 exact Fw S results39 rfl rfl
theorem Qo (w : World) (s t : ByteArray) (r : Int) (h : Ii s t = r) : Calls prog 36 [.string s,.string t].toArray w (Ret w [] fun _ v _=>v = .int .i64 r):=by
  subst h
  exact DA (Any.strings_Compare Tryz.lays106 s t w)
theorem Tg (w : World) (Az : Int) (r : Bool) (h : Ox Az = r) :
    Calls prog 91 [iV Az].toArray w (Ret w [] fun _ v _=>v = bV r):=by
 refine Fe func91 rfl ntmps91 rfl fun a S=>?_
 unfold Ox at h
 replace S:=S.k1 0 rfl
 refine Fr (Vk S rfl rfl fun a S=>Dz (Vm S rfl rfl fun a S=>Vm S rfl rfl fun a S=>Vb S Mq rfl rfl rfl fun a S=>Va S rfl rfl ?_));clear S;intro a S
 refine Dl (wp_ret ?_)
 subst h
 exact Fw S results91 rfl rfl
theorem Ol (w : World) (Az : Int) (Bq : Int) (r : Int) (h : Gg Az Bq = r) :
    Calls prog 60 [iV Az,iV Bq].toArray w (Ret w [] fun _ v _=>v = iV r):=by
 refine Fe func60 rfl ntmps60 rfl fun a S=>?_
 unfold Gg at h
 replace S:=S.k2 0 1 rfl
 refine Fr (Vk S rfl rfl fun a S=>Dz (Vm S rfl rfl fun a S=>Em S (fun _=>Eg (vs:=[iV Az]) ⟨(S.tm rfl),trivial⟩ call91) (Tg _ Az _ rfl) rfl ?_));clear S;intro v1 a w1 hv1 hk1 hn1 S
 subst hv1
 refine Va S rfl rfl fun a S=>Dz (Vm S rfl rfl fun a S=>Em S (fun _=>Eg (vs:=[iV Bq]) ⟨(S.tm rfl),trivial⟩ call91) (Tg _ Bq _ rfl) rfl ?_);clear S;intro v2 a w2 hv2 hk2 hn2 S
 subst hv2
 refine Va S rfl rfl fun a S=>Dl (Fs (Fr (Vm S rfl rfl fun a S=>Dl (Fc h (S.tm rfl) (fun hb1 h=>?_) (fun hb1 h=>?_)))))
 ·refine Fs (Fr (Vm S rfl rfl fun a S=>Dl (Fc h (S.tm rfl) (fun hb2 h=>?_) (fun hb2 h=>?_))))
  ·refine Fr (Vk S rfl rfl fun a S=>Dl (wp_ret (Ek (Ek ?_))))
   subst h
   exact Fw S results60 rfl rfl
  ·refine wp_skip (Tn (Fr (Vk S rfl rfl fun a S=>Dl (wp_ret (Ek ?_)))))
   subst h
   exact Fw S results60 rfl rfl
 ·refine wp_skip (Tn (Fs (Fr (Vm S rfl rfl fun a S=>Dl (Fc h (S.tm rfl) (fun hb3 h=>?_) (fun hb3 h=>?_))))))
  ·refine Fr (Vk S rfl rfl fun a S=>Dl (wp_ret (Ek ?_)))
   subst h
   exact Fw S results60 rfl rfl
  ·refine wp_skip (Tn (Fs (Fr (Vm S rfl rfl fun a S=>Vm S rfl rfl fun a S=>Vb S Fm rfl rfl rfl fun a S=>Dl (Fc h (S.tm rfl) (fun hb4 h=>?_) (fun hb4 h=>?_))))))
   ·refine Fr (Vk S rfl rfl fun a S=>Dl (wp_ret (Ek ?_)))
    subst h
    exact Fw S results60 rfl rfl
   ·refine wp_skip (Tn (Fs (Fr (Vm S rfl rfl fun a S=>Vm S rfl rfl fun a S=>Vb S Kh rfl rfl rfl fun a S=>Ld ?_))))
    replace S:=S.k1 19 rfl
    refine Tn (Fc h (S.tm rfl) (fun hb5 h=>?_) (fun hb5 h=>?_))
    ·refine Fr (Vk S rfl rfl fun a S=>Dl (wp_ret (Ek ?_)))
     subst h
     exact Fw S results60 rfl rfl
    ·refine wp_skip (Tn (Fr (Vk S rfl rfl fun a S=>Dl (wp_ret ?_))))
     subst h
     exact Fw S results60 rfl rfl
theorem Wj (w : World) (Dn : Value) (Df : List Int) (Dg : Slc (view w []) 1 Dn (Df.map eInt)) (r : Int) (h : Nm Df = r) :
    Calls prog 59 [Dn].toArray w (Ret w [] fun _ v _=>v = iV r):=by
 refine Fe func59 rfl ntmps59 rfl fun a S=>?_
 unfold Nm at h
 replace S:=S.k1 0 rfl
 refine Fr (Vk S rfl rfl fun a S=>Dz (Vk S rfl rfl fun a S=>Dl (Fs ?_)))
 refine Fr (Vm S rfl rfl fun a S=>lv S (Fy Ll (S.tm rfl) (Eh Dg)) rfl fun a S=>lv S (Rm rfl) rfl fun a S=>Dl ?_)
 replace S:=S.k4 3 6 7 8 rfl
 obtain ⟨j1,hj1,h⟩:=Ge h
 refine Ft (fun a w'=>j1 = r ∧ Sx w [] nov [] [(3,iV 0)] 18 a w') ?_ ?_
 ·refine wp_block (Hh (fun (ys1 : List Int) a w'=>∃ i1 : Nat,(∃ dn,Df = dn ++ ys1 ∧ dn.length = i1) ∧ Ky j1 ys1 i1 = r ∧ Sx w [] nov [] [(3,iV 0),(6,Dn),(7,iV (Df.length : Int)),(8,iV (i1 : Int))] 18 a w') List.length Df ⟨0,⟨[],rfl,rfl⟩,h,S.nf [] rfl (subR rfl)⟩ ?_)
  clear S h;rintro ys1 a w1 ⟨i1,⟨dn,hd1,hi1⟩,h,S⟩
  cases ys1 with
  | nil =>
   rw [Ky.eq_1] at h
   refine Fr (Vb S Fm rfl rfl rfl fun a S=>Ld ?_)
   replace S:=S.k5 3 6 7 8 9 rfl
   exact Tn (Fs (wp_cond_false ((S.tm rfl).trans (congrArg Value.bool (Ih hd1 hi1))) (wp_exit (Fj (Fj (He (Tn (⟨h,S.nf [] rfl ⟨rfl,trivial⟩⟩))))))))
  | cons y1 ys1 =>
   rw [Ky.eq_2] at h
   refine Fr (Vb S Fm rfl rfl rfl fun a S=>Ld ?_)
   replace S:=S.k5 3 6 7 8 9 rfl
   refine Tn (Fs (wp_cond_true ((S.tm rfl).trans (congrArg Value.bool (Hb hd1 hi1))) (wp_skip (Tn (Fs (wp_block (Fs (Fg ?_))))))))
   obtain ⟨b1,o1,hm1,hr1⟩:=Ff (a:=a) (x:=.tmp 6) (y:=.tmp 8) (ty:=0) Ll Dg (Ig hd1 hi1) rfl (S.tm rfl) (S.tm rfl)
   refine lv S (hr1 _) rfl ?_;clear S;intro a S
   clear hr1
   refine lv S (Gt isAgg3 (off:=o1) (o:=0) (S.tm rfl) (hm1.at S.emb0) rfl) rfl fun a S=>Va S rfl rfl fun a S=>Dz (Vm S rfl rfl fun a S=>Vm S rfl rfl fun a S=>Vb S Mq rfl rfl rfl fun a S=>Dl ?_)
   refine Fc h (S.tm rfl) (fun hb1 h=>?_) (fun hb1 h=>?_)
   ·refine Fr (Vm S rfl rfl fun a S=>Va S rfl rfl fun a S=>Dl (wp_ret (Gu (Ek (Ek (Gu ?_))))))
    refine Ek (Ek ?_)
    subst h
    exact Fw S results59 rfl rfl
   ·exact wp_skip (Jc (Tn (Fg (Vq S Gd rfl rfl rfl fun a S=>Vm S rfl rfl fun a S=>Dl (⟨ys1,⟨i1 + 1,⟨_,(hd1).trans (List.append_cons _ _ _),by simp [hi1]⟩,h,S.nf [] rfl ⟨rfl,rfl,rfl,(congrArg (fun z=>some (Value.int .i64 z)) (Hc hd1 hi1 (Jx Dg))),trivial⟩⟩,Nat.lt_succ_self _⟩)))))
 clear S h;rintro a w2 ⟨h,S⟩;rw [hj1] at h;clear hj1 j1
 refine Tn (Fr (Vm S rfl rfl fun a S=>Va S rfl rfl fun a S=>Dl (wp_ret ?_)))
 subst h
 exact Fw S results59 rfl rfl
set_option maxRecDepth 20000 in
theorem Th (w : World) (Bf : Es) (Bi : Es) (r : Int) (h : Kq Bf Bi = r) :
    Calls prog 52 [.agg (Es.enc Bf).toArray,.agg (Es.enc Bi).toArray].toArray w (Ret w [] fun _ v _=>v = iV r):=by
 refine Fe func52 rfl ntmps52 rfl fun a S=>?_
 unfold Kq at h
 replace S:=S.k2 0 1 rfl
 refine Fr (Qp S (S.tm rfl) (cs:=(Es.enc Bf)) rfl rfl ?_);clear S;intro a w1 b1 hz1 hk1 S
 refine Qp S (S.tm rfl) (cs:=(Es.enc Bi)) rfl rfl ?_;clear S;intro a w2 b2 hz2 hk2 S
 refine Vk S rfl rfl fun a S=>Dl (Fs (Gq [] ([]) Tryz.mixed S rfl (by kernel_rfl) ?_));clear S;intro w8 hk8 hsel S
 refine Ej 0 S hsel rfl rfl rfl (by kernel_rfl) (by kernel_rfl) rfl (fun _ hw=>(Fz Rt (S.tm rfl))) fun a S=>Ej 1 S hsel rfl rfl rfl (by kernel_rfl) (by kernel_rfl) rfl (fun _ hw=>(Gt isAgg9 (off:=0) (o:=0) (S.tm rfl) ((S.blk_mem (i:=1) (cells:=(Es.enc Bf)) (b:=b1) (T:=59) rfl (Gr (e':=.blk b1 (Es.enc Bf) 59))).kept hw) rfl)) fun a S=>Ej 2 S hsel rfl rfl rfl (by kernel_rfl) (by kernel_rfl) rfl (fun _ hw=>(Fz Rt (S.tm rfl))) fun a S=>Ej 3 S hsel rfl rfl rfl (by kernel_rfl) (by kernel_rfl) rfl (fun _ hw=>(Gt isAgg9 (off:=0) (o:=0) (S.tm rfl) ((S.blk_mem (i:=0) (cells:=(Es.enc Bi)) (b:=b2) (T:=59) rfl (Gr (e':=.blk b2 (Es.enc Bi) 59))).kept hw) rfl)) fun a S=>Ej 5 S hsel rfl rfl rfl (by kernel_rfl) (by kernel_rfl) rfl (fun _ hw=>(Fz Xe (S.tm rfl))) fun a S=>Ej 6 S hsel rfl rfl rfl (by kernel_rfl) (by kernel_rfl) rfl (fun _ hw=>(Gt isAgg9 (off:=0) (o:=1) (S.tm rfl) ((S.blk_mem (i:=1) (cells:=(Es.enc Bf)) (b:=b1) (T:=59) rfl (Gr (e':=.blk b1 (Es.enc Bf) 59))).kept hw) rfl)) fun a S=>Ej 7 S hsel rfl rfl rfl (by kernel_rfl) (by kernel_rfl) rfl (fun _ hw=>(Fz Xe (S.tm rfl))) fun a S=>Ej 8 S hsel rfl rfl rfl (by kernel_rfl) (by kernel_rfl) rfl (fun _ hw=>(Gt isAgg9 (off:=0) (o:=1) (S.tm rfl) ((S.blk_mem (i:=0) (cells:=(Es.enc Bi)) (b:=b2) (T:=59) rfl (Gr (e':=.blk b2 (Es.enc Bi) 59))).kept hw) rfl)) fun a S=>Ej 10 S hsel rfl rfl rfl (by kernel_rfl) (by kernel_rfl) rfl (fun _ hw=>(Fz Sr (S.tm rfl))) fun a S=>Ej 11 S hsel rfl rfl rfl (by kernel_rfl) (by kernel_rfl) rfl (fun _ hw=>(Gt isAgg3 (off:=0) (o:=2) (S.tm rfl) ((S.blk_mem (i:=1) (cells:=(Es.enc Bf)) (b:=b1) (T:=59) rfl (Gr (e':=.blk b1 (Es.enc Bf) 59))).kept hw) rfl)) fun a S=>Ej 12 S hsel rfl rfl rfl (by kernel_rfl) (by kernel_rfl) rfl (fun _ hw=>(Fz Sr (S.tm rfl))) ?_;clear S;intro a S
 refine Ej 13 S hsel rfl rfl rfl (by kernel_rfl) (by kernel_rfl) rfl (fun _ hw=>(Gt isAgg3 (off:=0) (o:=2) (S.tm rfl) ((S.blk_mem (i:=0) (cells:=(Es.enc Bi)) (b:=b2) (T:=59) rfl (Gr (e':=.blk b2 (Es.enc Bi) 59))).kept hw) rfl)) fun a S=>Ga 4 (by kernel_rfl) rfl (Em S (fun _=>Eg (vs:=[sV Bf.Who,sV Bi.Who]) ⟨(S.tm rfl),(S.tm rfl),trivial⟩ call36) (Qo _ Bf.Who Bi.Who _ rfl) rfl ?_);clear S;intro v5 a w9 hv5 hk9 hn5 S
 subst hv5
 refine Ld (Gn hk9 (Ga 9 (by kernel_rfl) rfl (Em S (fun _=>Eg (vs:=[sV Bf.Item,sV Bi.Item]) ⟨(S.tm rfl),(S.tm rfl),trivial⟩ call36) (Qo _ Bf.Item Bi.Item _ rfl) rfl ?_)));clear S;intro v6 a w10 hv6 hk10 hn6 S
 subst hv6
 refine Ld (Gn hk10 (Ga 14 (by kernel_rfl) rfl (Em S (fun _=>Eg (vs:=[iV Bf.Heat,iV Bi.Heat]) ⟨(S.tm rfl),(S.tm rfl),trivial⟩ call60) (Ol _ Bf.Heat Bi.Heat _ rfl) rfl ?_)));clear S;intro v7 a w11 hv7 hk11 hn7 S
 subst hv7
 refine Ld (Gn hk11 (Ga 15 (by kernel_rfl) rfl (Fo S underlying22 sizeOf3 zeroValue3 rfl rfl (pv:=[(0,iV (Ii Bf.Who Bi.Who)),(1,iV (Ii Bf.Item Bi.Item)),(2,iV (Gg Bf.Heat Bi.Heat))]) ⟨rfl,(S.tm rfl),rfl,(S.tm rfl),rfl,(S.tm rfl),trivial⟩ (cs:=[iV (Ii Bf.Who Bi.Who),iV (Ii Bf.Item Bi.Item),iV (Gg Bf.Heat Bi.Heat)]) (by kernel_rfl) rfl ?_)));clear S;intro a w12 b4 hz4 hk12 S
 refine Ld (Gn hk12 (Ga 16 (by kernel_rfl) rfl (Em S (fun _=>Eg (vs:=[.slice (some ⟨b4,0,none⟩) 3 3]) ⟨(S.tm rfl),trivial⟩ call59) (Wj _ (.slice (some ⟨b4,0,none⟩) 3 3) [(Ii Bf.Who Bi.Who),(Ii Bf.Item Bi.Item),(Gg Bf.Heat Bi.Heat)] (Ou Gw S (i:=0) rfl rfl rfl rfl ((Gr (e':=.blk b4 [iV (Ii Bf.Who Bi.Who),iV (Ii Bf.Item Bi.Item),iV (Gg Bf.Heat Bi.Heat)] 3)) _ rfl)) _ rfl) rfl ?_)));clear S;intro v8 a w13 hv8 hk13 hn8 S
 subst hv8
 refine Ld (Gn hk13 (Jn [17] hsel (by kernel_rfl) rfl ?_))
 clear hsel
 refine Fk S rfl (Ra (S.tm rfl)) rfl fun a S=>Hx ?_
 replace S:=S.n0.k1 4 rfl
 refine Tn (wp_ret ?_)
 subst h
 exact Fw S results52 rfl rfl
set_option maxRecDepth 20000 in
theorem Rh (w : World) (Ag : Value) (Aj : List Ed) (Aw : Slc (view w []) 5 Ag (Aj.map Ed.enc)) (Ab : Value) (Al : List Es) (Ao : Slc (view w []) 3 Ab (Al.map Es.enc)) (r : Int) (h : Ko Aj Al = some r) :
    Calls prog 30 [Ag,Ab].toArray w (Ret w [] fun _ v _=>v = iV r):=by
 refine Fe func30 rfl ntmps30 rfl fun a S=>?_
 unfold Ko at h
 replace S:=S.k2 0 1 rfl
 refine Fr (Vk S rfl rfl fun a S=>Dl (Fs (Fr (Vm S rfl rfl ?_))));clear S;intro a S
 obtain ⟨r1,hr1,h⟩:=Gf h
 refine Em S (fun _=>Eg (vs:=[Ag]) ⟨(S.tm rfl),trivial⟩ call28) (Mx _ Ag Aj (Aw.mono (S.le_arg Fh)) _ hr1) rfl ?_;clear S;intro v1 a w1 hv1 hk1 hn1 S
 subst hv1
 refine Va S rfl rfl fun a S=>Dz (Vm S rfl rfl fun a S=>Vq S Mq rfl rfl rfl fun a S=>Dl (Fc h (S.tm rfl) (fun hb1 h=>?_) (fun hb1 h=>?_)))
 ·refine Fr (Vm S rfl rfl fun a S=>Va S rfl rfl fun a S=>Dl (wp_ret (Ek ?_)))
  obtain rfl:=Option.some.inj h
  exact Fw S results30 rfl rfl
 ·refine wp_skip (Tn (Fs (Fr (Vm S rfl rfl fun a S=>lv S (Fy Rg (S.tm rfl) (Eh Ao)) rfl fun a S=>Vq S Kh rfl rfl rfl fun a S=>Dl (Fc h (S.tm rfl) (fun hb2 h=>?_) (fun hb2 h=>?_))))))
  ·refine Fr (Vk S rfl rfl fun a S=>Dl (wp_ret (Ek ?_)))
   obtain rfl:=Option.some.inj h
   exact Fw S results30 rfl rfl
  ·refine wp_skip (Tn (Fs (Fr (Vm S rfl rfl fun a S=>lv S (Fy Rg (S.tm rfl) (Eh Ao)) rfl fun a S=>lv S (Rm rfl) rfl fun a S=>Dl ?_))))
   replace S:=S.k5 0 1 17 18 19 rfl
   obtain ⟨j1,hj1,h⟩:=Ge h
   refine Ft (fun a w'=>j1 = some r ∧ Sx w [] nov [] [] 56 a w') ?_ ?_
   ·refine wp_block (Hh (fun (ys1 : List Es) a w'=>∃ i1 : Nat,(∃ dn,Al = dn ++ ys1 ∧ dn.length = i1) ∧ Ht Aj Al j1 ys1 i1 = some r ∧ Sx w [] nov [] [(0,Ag),(1,Ab),(17,Ab),(18,iV (Al.length : Int)),(19,iV (i1 : Int))] 56 a w') List.length Al ⟨0,⟨[],rfl,rfl⟩,h,S.nf [] rfl (subR rfl)⟩ ?_)
    clear S h;rintro ys1 a w2 ⟨i1,⟨dn,hd1,hi1⟩,h,S⟩
    cases ys1 with
    | nil =>
     rw [Ht.eq_1] at h
     refine Fr (Vb S Fm rfl rfl rfl fun a S=>Ld ?_)
     replace S:=S.k6 0 1 17 18 19 20 rfl
     exact Tn (Fs (wp_cond_false ((S.tm rfl).trans (congrArg Value.bool (Ih hd1 hi1))) (wp_exit (Fj (Fj (He (Tn (⟨h,S.nf [] rfl trivial⟩))))))))
    | cons y1 ys1 =>
     rw [Ht.eq_2] at h
     refine Fr (Vb S Fm rfl rfl rfl fun a S=>Ld ?_)
     replace S:=S.k6 0 1 17 18 19 20 rfl
     refine Tn (Fs (wp_cond_true ((S.tm rfl).trans (congrArg Value.bool (Hb hd1 hi1))) (wp_skip (Tn (Fs (wp_block (Fr (Vm S rfl rfl ?_))))))));clear S;intro a S
     obtain ⟨b1,o1,hm1,hr2⟩:=Ff (a:=a) (x:=.tmp 17) (y:=.tmp 19) (ty:=0) Rg Ao (Ig hd1 hi1) rfl (S.tm rfl) (S.tm rfl)
     refine lv S (hr2 _) rfl ?_;clear S;intro a S
     clear hr2
     refine lv S (Hf isAgg59 sizeOf59 (off:=o1) (o:=0) (part:=(Es.enc y1)) rfl rfl (S.tm rfl) (hm1.at S.emb0)) rfl fun a S=>Lm S zeroValue59 (cs:=[sV En,sV En,iV 0]) rfl rfl ?_;clear S;intro a w4 b2 hz1 hk2 S
     refine Va S rfl rfl fun a S=>Ki S (S.tm rfl) (S.tm rfl) (i:=0) (off:=0) rfl sizeOf59 (vs:=(Es.enc y1)) rfl rfl rfl rfl ?_;clear S;intro w5 hk3 S
     refine Dl (Fs (Fr (Vf Rt S rfl rfl fun a S=>Vl isAgg9 0 S rfl rfl rfl rfl ?_)));clear S;intro a S
     obtain ⟨r2,hr3,h⟩:=Gf h
     refine Em S (fun _=>Eg (vs:=[sV y1.Who]) ⟨(S.tm rfl),trivial⟩ call50) (Kl _ y1.Who _ hr3) rfl ?_;clear S;intro v2 a w6 hv2 hk4 hn2 S
     subst hv2
     refine Vu S Jd rfl rfl fun a S=>Ld ?_
     replace S:=(S.nl [.blk b2 (Es.enc y1) 59] [true] rfl).k8 0 1 6 7 17 18 19 27 rfl
     refine Tn (Fc h (S.tm rfl) (fun hb3 h=>?_) (fun hb3 h=>?_))
     ·refine Fr (Vk S rfl rfl fun a S=>Dl (wp_ret (Ek (Gu (Ek (Ek (Gu ?_)))))))
      refine Ek (Ek ?_)
      obtain rfl:=Option.some.inj h
      exact Fw S results30 rfl rfl
     ·refine wp_skip (Tn (Fr (Vm S rfl rfl fun a S=>Vf Xe S rfl rfl fun a S=>Vl isAgg9 0 S rfl rfl rfl rfl fun a S=>Em S (fun _=>Eg (vs:=[Ag,sV y1.Item]) ⟨(S.tm rfl),(S.tm rfl),trivial⟩ call39) (Pg _ Ag Aj (Aw.mono (S.le_arg Fh)) y1.Item _ rfl) rfl ?_)));clear S;intro v3 a w7 hv3 hk5 hn3 S
      subst hv3
      refine Va S rfl rfl fun a S=>Dl (Fs (Fr (Vm S rfl rfl fun a S=>Vq S Fm rfl rfl rfl fun a S=>Ld ?_)))
      replace S:=S.k9 0 1 6 7 8 17 18 19 33 rfl
      refine Tn (Fc h (S.tm rfl) (fun hb4 h=>?_) (fun hb4 h=>?_))
      ·refine Fr (Vk S rfl rfl fun a S=>Dl (wp_ret (Ek (Gu (Ek (Ek (Gu ?_)))))))
       refine Ek (Ek ?_)
       obtain rfl:=Option.some.inj h
       exact Fw S results30 rfl rfl
      ·refine wp_skip (Tn (Fs (Fs ?_)))
       obtain ⟨hc1,h⟩:=Hu h
       refine Gq [] ([]) Tryz.mixed S rfl (by kernel_rfl) ?_;clear S;intro w9 hk7 hsel S
       refine Ej 0 S hsel rfl rfl rfl (by kernel_rfl) (by kernel_rfl) rfl (fun _ hw=>(Fz Sr (S.tm rfl))) fun a S=>Ej 1 S hsel rfl rfl rfl (by kernel_rfl) (by kernel_rfl) rfl (fun _ hw=>(Gt isAgg3 (off:=0) (o:=2) (S.tm rfl) ((S.blk_mem (i:=0) (cells:=(Es.enc y1)) (b:=b2) (T:=59) rfl (Gr (e':=.blk b2 (Es.enc y1) 59))).kept hw) rfl)) fun a S=>Ej 2 S hsel rfl rfl rfl (by kernel_rfl) (by kernel_rfl) rfl (fun _ hw=>(Rm (S.tm rfl))) fun a S=>Ej 3 S hsel rfl rfl rfl (by kernel_rfl) (by kernel_rfl) rfl (fun _ hw=>(Rm (S.tm rfl))) ?_;clear S;intro a S
       obtain ⟨b4,o3,hm3,hr5⟩:=Ff (a:=a) (x:=.tmp 36) (y:=.tmp 37) (ty:=0) Jp (Aw.mono (S.le_arg Fh)) (El hc1).1 (El hc1).2 (S.tm rfl) (S.tm rfl)
       refine Ej 4 S hsel rfl rfl rfl (by kernel_rfl) (by kernel_rfl) rfl (fun _ hw=>hr5 _) ?_;clear S;intro a S
       clear hr5
       refine Ej 5 S hsel rfl rfl rfl (by kernel_rfl) (by kernel_rfl) rfl (fun _ hw=>(Fz Rs (S.tm rfl))) fun a S=>Ej 6 S hsel rfl rfl rfl (by kernel_rfl) (by kernel_rfl) rfl (fun _ hw=>(Gt isAgg3 (off:=o3) (o:=1) (S.tm rfl) (hm3.kept hw) rfl)) fun a S=>Ga 7 (by kernel_rfl) rfl (Em S (fun _=>Eg (vs:=[iV y1.Heat,iV 1,iV ((nth Aj (Ef Aj y1.Item)).Heats)]) ⟨(S.tm rfl),rfl,(S.tm rfl),trivial⟩ call32) (Gk _ y1.Heat 1 ((nth Aj (Ef Aj y1.Item)).Heats) _ rfl) rfl ?_);clear S;intro v5 a w10 hv5 hk8 hn5 S
       subst hv5
       refine Ld (Gn hk8 (Jn [8] hsel (by kernel_rfl) rfl ?_))
       clear hsel
       refine Fk S rfl (Jd (S.tm rfl)) rfl fun a S=>Hx ?_
       replace S:=S.k8 0 1 6 7 17 18 19 42 rfl
       refine Tn (Fc h (S.tm rfl) (fun hb5 h=>?_) (fun hb5 h=>?_))
       ·refine Fr (Vk S rfl rfl fun a S=>Dl (wp_ret (Ek (Gu (Ek (Ek (Gu ?_)))))))
        refine Ek (Ek ?_)
        obtain rfl:=Option.some.inj h
        exact Fw S results30 rfl rfl
       ·refine wp_skip (Tn (Fs ?_))
        obtain ⟨j2,hj2,h⟩:=Ge h
        refine Ft (fun a w'=>∃ x1 : Bool,j2 x1 = some r ∧ Sx w [] nov [] [(0,Ag),(1,Ab),(17,Ab),(18,iV (Al.length : Int)),(19,iV (i1 : Int)),(54,bV x1)] 56 a w') ?_ ?_
        ·rcases Bool.eq_false_or_eq_true (decide (0 < (i1 : Int))) with hb6 | hb6
         ·replace h:=Py h hb6
          obtain ⟨hc2,h⟩:=Hu h
          refine Gq [] ([]) Tryz.mixed S rfl (by kernel_rfl) ?_;clear S;intro w13 hk10 hsel S
          refine Ej 0 S hsel rfl rfl rfl (by kernel_rfl) (by kernel_rfl) rfl (fun _ hw=>(Rm (S.tm rfl))) fun a S=>Ej 1 S hsel rfl rfl rfl (by kernel_rfl) (by kernel_rfl) rfl (fun _ hw=>(Kh (S.tm rfl) rfl)) fun a S=>Ej 2 S hsel rfl rfl rfl (by kernel_rfl) (by kernel_rfl) rfl (fun _ hw=>(Rm (S.tm rfl))) fun a S=>Fb 3 S hsel rfl rfl rfl rfl hb6 rfl rfl (by kernel_rfl) (by kernel_rfl) rfl (fun _ hw=>(Rm (S.tm rfl))) fun a S=>Fb 4 S hsel rfl rfl rfl rfl hb6 rfl rfl (by kernel_rfl) (by kernel_rfl) rfl (fun _ hw=>(Rm (S.tm rfl))) fun a S=>Fb 5 S hsel rfl rfl rfl rfl hb6 rfl rfl (by kernel_rfl) (by kernel_rfl) rfl (fun _ hw=>(Iq (S.tm rfl) rfl)) ?_;clear S;intro a S
          obtain ⟨b6,o5,hm5,hr7⟩:=Ff (a:=a) (x:=.tmp 46) (y:=.tmp 48) (ty:=0) Rg (Ao.mono (S.le_arg Fh)) (El hc2).1 (El hc2).2 (S.tm rfl) (S.tm rfl)
          refine Fb 6 S hsel rfl rfl rfl rfl hb6 rfl rfl (by kernel_rfl) (by kernel_rfl) rfl (fun _ hw=>hr7 _) ?_;clear S;intro a S
          clear hr7
          refine Fb 7 S hsel rfl rfl rfl rfl hb6 rfl rfl (by kernel_rfl) (by kernel_rfl) rfl (fun _ hw=>(Hf isAgg59 sizeOf59 (off:=o5) (o:=0) (part:=(Es.enc (nth Al (W ((i1 : Int) - 1))))) rfl rfl (S.tm rfl) (hm5.kept hw))) fun a S=>Fb 8 S hsel rfl rfl rfl rfl hb6 rfl rfl (by kernel_rfl) (by kernel_rfl) rfl (fun _ hw=>(Hf isAgg59 sizeOf59 (off:=0) (o:=0) (part:=(Es.enc y1)) rfl rfl (S.tm rfl) ((S.blk_mem (i:=0) (cells:=(Es.enc y1)) (b:=b2) (T:=59) rfl (Gr (e':=.blk b2 (Es.enc y1) 59))).kept hw))) fun a S=>Ga 9 (by kernel_rfl) rfl (Er S rfl rfl rfl hb6 (Em S (fun _=>Eg (vs:=[.agg (Es.enc (nth Al (W ((i1 : Int) - 1)))).toArray,.agg (Es.enc y1).toArray]) ⟨(S.tm rfl),(S.tm rfl),trivial⟩ call52) (Th _ (nth Al (W ((i1 : Int) - 1))) y1 _ rfl) rfl ?_));clear S;intro v7 a w14 hv7 hk11 hn7 S
          subst hv7
          refine Ld (Gn hk11 (Jn [10,11] hsel (by kernel_rfl) rfl ?_))
          clear hsel
          refine Gx S rfl rfl rfl rfl hb6 (Io S (Ph (S.tm rfl) rfl) rfl fun a S=>Fk S rfl (Mz hb6 (S.tm rfl) (S.tm rfl)) rfl fun a S=>Hx ?_)
          replace S:=S.n0.k14 0 1 17 18 19 46 47 48 49 50 51 52 53 54 rfl
          exact Tn (⟨decide (0 ≤ (Kq (nth Al (W ((i1 : Int) - 1))) y1)),h,S.nf [] rfl (subR rfl)⟩)
         ·replace h:=Pz h hb6
          refine Gq [] ([]) Tryz.mixed S rfl (by kernel_rfl) ?_;clear S;intro w15 hk12 hsel S
          refine Jn [0,1,2,3,4,5,6,7,8,9,10,11] hsel (by kernel_rfl) rfl ?_
          clear hsel
          refine Fk S rfl (Rm (S.tm rfl)) rfl fun a S=>Fk S rfl (Kh (S.tm rfl) rfl) rfl fun a S=>Fk S rfl (Rm (S.tm rfl)) rfl ?_;clear S;intro a S
          iterate 8 (refine Pv S rfl rfl rfl rfl (Lk hb6) rfl ?_ rfl;clear S;intro a S)
          refine Fk S rfl (Na hb6 (S.tm rfl) rfl) rfl fun a S=>Hx ?_
          replace S:=S.n0.k6 0 1 17 18 19 54 rfl
          exact Tn (⟨false,h,S.nf [] rfl (subR rfl)⟩)
        clear S h;rintro a w11 ⟨x1,h,S⟩;rw [hj2] at h;clear hj2 j2
        refine Tn (Fc h (S.tm rfl) (fun hb7 h=>?_) (fun hb7 h=>?_))
        ·refine Fr (Vk S rfl rfl fun a S=>Dl (wp_ret (Gu (Ek (Ek (Gu (Ek ?_)))))))
         refine Ek ?_
         obtain rfl:=Option.some.inj h
         exact Fw S results30 rfl rfl
        ·exact wp_skip (Jc (Tn (Fg (Vq S Gd rfl rfl rfl fun a S=>Vm S rfl rfl fun a S=>Dl (⟨ys1,⟨i1 + 1,⟨_,(hd1).trans (List.append_cons _ _ _),by simp [hi1]⟩,h,S.nf [] rfl ⟨rfl,rfl,rfl,rfl,(congrArg (fun z=>some (Value.int .i64 z)) (Hc hd1 hi1 (Jx Ao))),trivial⟩⟩,Nat.lt_succ_self _⟩)))))
   clear S h;rintro a w3 ⟨h,S⟩;rw [hj1] at h;clear hj1 j1
   refine Tn (Fr (Vk S rfl rfl fun a S=>Dl (wp_ret ?_)))
   obtain rfl:=Option.some.inj h
   exact Fw S results30 rfl rfl
theorem Yc (w : World) (Cy : Value) (Dh : List Ee) (Di : Slc (view w []) 4 Cy (Dh.map Ee.enc)) (r : (List (An × Ee))) (h : Jq Dh = r) :
    Calls prog 53 [Cy].toArray w (Ret w [] fun τ v _=>∃ b : Nat,v = .map (some b) ∧ τ b = some (.map (Hz (fun x=>Value.agg (An.enc x).toArray) (fun x=>Value.agg (Ee.enc x).toArray) r) r.length)):=by
 refine Fe func53 rfl ntmps53 rfl fun a S=>?_
 unfold Jq at h
 replace S:=S.k1 0 rfl
 refine Fr (Vk S rfl rfl fun a S=>Dz (Vr (κ:=An) (ν:=Ee) S rfl (fun x=>Value.agg (An.enc x).toArray) (fun x=>Value.agg (Ee.enc x).toArray) ?_));clear S;intro a w1 b1 hz1 hk1 S
 refine Va S rfl rfl fun a S=>Dl (Fs (Fr (Vm S rfl rfl fun a S=>lv S (Fy Nw (S.tm rfl) (Eh Di)) rfl fun a S=>lv S (Rm rfl) rfl fun a S=>Dl ?_)))
 replace S:=(S.nl [.map b1 (Hz (fun x=>Value.agg (An.enc x).toArray) (fun x=>Value.agg (Ee.enc x).toArray) ([] : List (An × Ee))) ([] : List (An × Ee)).length] [true] rfl).k4 3 7 8 9 rfl
 obtain ⟨j1,hj1,h⟩:=Ge h
 refine Ft (fun a w'=>∃ x1 : List (An × Ee),j1 x1 = r ∧ Sx w [] nov [.map b1 (Hz (fun x=>Value.agg (An.enc x).toArray) (fun x=>Value.agg (Ee.enc x).toArray) x1) x1.length] [(3,.map (some b1))] 22 a w') ?_ ?_
 ·refine wp_block (Hh (fun (ys1 : List Ee) a w'=>∃ i1 : Nat,∃ x1 : List (An × Ee),(∃ dn,Dh = dn ++ ys1 ∧ dn.length = i1) ∧ Ie j1 ys1 i1 x1 = r ∧ Sx w [] nov [.map b1 (Hz (fun x=>Value.agg (An.enc x).toArray) (fun x=>Value.agg (Ee.enc x).toArray) x1) x1.length] [(3,.map (some b1)),(7,Cy),(8,iV (Dh.length : Int)),(9,iV (i1 : Int))] 22 a w') List.length Dh ⟨0,([] : List (An × Ee)),⟨[],rfl,rfl⟩,h,S.nf [true] rfl (subR rfl)⟩ ?_)
  clear S h;rintro ys1 a w2 ⟨i1,x1,⟨dn,hd1,hi1⟩,h,S⟩
  cases ys1 with
  | nil =>
   rw [Ie.eq_1] at h
   refine Fr (Vb S Fm rfl rfl rfl fun a S=>Ld ?_)
   replace S:=S.k5 3 7 8 9 10 rfl
   exact Tn (Fs (wp_cond_false ((S.tm rfl).trans (congrArg Value.bool (Ih hd1 hi1))) (wp_exit (Fj (Fj (He (Tn (⟨x1,h,S.nf [true] rfl ⟨rfl,trivial⟩⟩))))))))
  | cons y1 ys1 =>
   rw [Ie.eq_2] at h
   refine Fr (Vb S Fm rfl rfl rfl fun a S=>Ld ?_)
   replace S:=S.k5 3 7 8 9 10 rfl
   refine Tn (Fs (wp_cond_true ((S.tm rfl).trans (congrArg Value.bool (Hb hd1 hi1))) (wp_skip (Tn (Fs (wp_block (Fs (Fg ?_))))))))
   obtain ⟨b2,o1,hm1,hr1⟩:=Ff (a:=a) (x:=.tmp 7) (y:=.tmp 9) (ty:=0) Nw Di (Ig hd1 hi1) rfl (S.tm rfl) (S.tm rfl)
   refine lv S (hr1 _) rfl ?_;clear S;intro a S
   clear hr1
   refine lv S (Hf isAgg40 sizeOf40 (off:=o1) (o:=0) (part:=(Ee.enc y1)) rfl rfl (S.tm rfl) (hm1.at S.emb0)) rfl fun a S=>Lm S zeroValue40 (cs:=[sV En,iV 0,iV 0,iV 0]) rfl rfl ?_;clear S;intro a w4 b3 hz2 hk2 S
   refine Ki S (S.tm rfl) (S.tm rfl) (i:=0) (off:=0) rfl sizeOf40 (vs:=(Ee.enc y1)) rfl rfl rfl rfl ?_;clear S;intro w5 hk3 S
   refine Dl (Fg (Vm S rfl rfl fun a S=>Vf FI S rfl rfl fun a S=>Vl isAgg9 0 S rfl rfl rfl rfl fun a S=>Vf FJ S rfl rfl fun a S=>Vl isAgg3 0 S rfl rfl rfl rfl fun a S=>lv S (Nl Zz (pv:=[(0,sV y1.Item),(1,iV y1.Heat)]) ⟨rfl,(S.tm rfl),rfl,(S.tm rfl),trivial⟩ (cs:=[sV y1.Item,iV y1.Heat]) (by kernel_rfl)) rfl fun a S=>lv S (Hf isAgg40 sizeOf40 (off:=0) (o:=0) (part:=(Ee.enc y1)) rfl rfl (S.tm rfl) (S.cellsAt (i:=0) rfl)) rfl fun a S=>Sn (kv:=(fun x=>Value.agg (An.enc x).toArray)) (vv:=(fun x=>Value.agg (Ee.enc x).toArray)) (m:=x1) (key:=(An.mk y1.Item y1.Heat)) (val:=y1) S (i:=1) rfl underlying114 Td (S.tm rfl) (S.tm rfl) (S.tm rfl) ?_));clear S;intro w6 hk4 S
   refine Ld ?_
   replace S:=(S.nl [.map b1 (Hz (fun x=>Value.agg (An.enc x).toArray) (fun x=>Value.agg (Ee.enc x).toArray) (Nz x1 (An.mk y1.Item y1.Heat) y1)) (Nz x1 (An.mk y1.Item y1.Heat) y1).length] [false,true] rfl).k4 3 7 8 9 rfl
   exact Jc (Tn (Fg (Vq S Gd rfl rfl rfl fun a S=>Vm S rfl rfl fun a S=>Dl (⟨ys1,⟨i1 + 1,(Nz x1 (An.mk y1.Item y1.Heat) y1),⟨_,(hd1).trans (List.append_cons _ _ _),by simp [hi1]⟩,h,S.nf [true] rfl ⟨rfl,rfl,rfl,(congrArg (fun z=>some (Value.int .i64 z)) (Hc hd1 hi1 (Jx Di))),trivial⟩⟩,Nat.lt_succ_self _⟩))))
 clear S h;rintro a w3 ⟨x1,h,S⟩;rw [hj1] at h;clear hj1 j1
 refine Tn (Fr (Vm S rfl rfl fun a S=>Va S rfl rfl fun a S=>Dl (wp_ret ?_)))
 subst h
 exact Fw S results53 rfl ⟨_,rfl,S.map_ret (i:=0) rfl rfl⟩
theorem Vz (w : World) (Bf : Ee) (Bi : Ee) (r : Int) (h : Kf Bf Bi = r) :
    Calls prog 88 [.agg (Ee.enc Bf).toArray,.agg (Ee.enc Bi).toArray].toArray w (Ret w [] fun _ v _=>v = iV r):=by
 refine Fe func88 rfl ntmps88 rfl fun a S=>?_
 unfold Kf at h
 replace S:=S.k2 0 1 rfl
 refine Fr (Qp S (S.tm rfl) (cs:=(Ee.enc Bf)) rfl rfl ?_);clear S;intro a w1 b1 hz1 hk1 S
 refine Qp S (S.tm rfl) (cs:=(Ee.enc Bi)) rfl rfl ?_;clear S;intro a w2 b2 hz2 hk2 S
 refine Vk S rfl rfl fun a S=>Dz (Vf Pt S rfl rfl fun a S=>Vf Vt S rfl rfl fun a S=>Vl isAgg3 1 S rfl rfl rfl rfl fun a S=>Vf Pt S rfl rfl fun a S=>Vf Vt S rfl rfl fun a S=>Vl isAgg3 0 S rfl rfl rfl rfl ?_);clear S;intro a S
 refine Em S (fun _=>Eg (vs:=[iV Bf.Time.From,iV Bi.Time.From]) ⟨(S.tm rfl),(S.tm rfl),trivial⟩ call60) (Ol _ Bf.Time.From Bi.Time.From _ rfl) rfl ?_;clear S;intro v1 a w3 hv1 hk3 hn1 S
 subst hv1
 refine Va S rfl rfl fun a S=>Dl (wp_ret ?_)
 subst h
 exact Fw S results88 rfl rfl
set_option maxRecDepth 20000 in
theorem Mi (w : World) (Af : Value) (Ba : List Ee) (Cb : (LEnt.own Af 40 4 Ba.length (Ba.flatMap Ee.enc)).holds w) (Bf : Int) (Bi : Int) (r : (List Ee)) (h : Gl Ba Bf Bi = some r) :
    Calls prog 115 [Af,iV Bf,iV Bi,.func (.func 88) #[] #[]].toArray w (Ret w (Af.ownBlock.toList) fun _ v w'=>(LEnt.own Af 40 4 r.length (r.flatMap Ee.enc)).holds w' ∧ v = .tuple #[]):=by
 refine Kw (Af.ownBlock.toList) [.own Af 40 4 Ba.length (Ba.flatMap Ee.enc)] func115 rfl ntmps115 rfl (fun e he=>by simp only [List.mem_singleton] at he;subst he;exact Cb) (Kb _) (Lh _) fun a S=>?_
 unfold Gl at h
 replace S:=(S.nl [.own Af 40 4 Ba.length (Ba.flatMap Ee.enc)] [true] rfl).k4 0 1 2 3 rfl
 refine Fr (Vm S rfl rfl fun a S=>Vq S Gd rfl rfl rfl fun a S=>Va S rfl rfl fun a S=>Dl ?_)
 replace S:=S.k5 0 1 2 3 8 rfl
 obtain ⟨j1,hj1,h⟩:=Ge h
 refine Ft (fun a w'=>∃ x1 : List Ee,j1 x1 = some r ∧ Sx w (Af.ownBlock.toList) nov [.own Af 40 4 x1.length (x1.flatMap Ee.enc)] [] 53 a w') ?_ ?_
 ·refine wp_block (Hh (fun (m1 : Nat) a w'=>∃ x1 : List Ee,∃ x2 : Int,Ez Bi Bf j1 m1 x1 x2 = some r ∧ Sx w (Af.ownBlock.toList) nov [.own Af 40 4 x1.length (x1.flatMap Ee.enc)] [(0,Af),(1,iV Bf),(2,iV Bi),(3,.func (.func 88) #[] #[]),(8,iV x2)] 53 a w') id ((Bi - (W (Bf + 1))).toNat + 2) ⟨Ba,W (Bf + 1),h,S.nf [true] rfl (subR rfl)⟩ ?_)
  clear S h;rintro m1 a w1 ⟨x1,x2,h,S⟩
  cases m1 with
  | zero=>rw [Ez.eq_1] at h;cases h
  | succ m1 =>
   rw [Ez.eq_2] at h
   refine Fs (Fr (Vm S rfl rfl fun a S=>Vm S rfl rfl fun a S=>Vb S Fm rfl rfl rfl fun a S=>Dl (Fc h (S.tm rfl) (fun hb1 h=>?_) (fun hb1 h=>?_))))
   ·refine wp_skip (Tn (Fs (wp_block (Fr (Vm S rfl rfl fun a S=>Va S rfl rfl fun a S=>Dl ?_)))))
    replace S:=S.k6 0 1 2 3 8 9 rfl
    obtain ⟨j2,hj2,h⟩:=Ge h
    refine Ft (fun a w'=>∃ x3 : List Ee,j2 x3 = some r ∧ Sx w (Af.ownBlock.toList) nov [.own Af 40 4 x3.length (x3.flatMap Ee.enc)] [(0,Af),(1,iV Bf),(2,iV Bi),(3,.func (.func 88) #[] #[]),(8,iV x2)] 53 a w') ?_ ?_
    ·refine wp_block (Hh (fun (m2 : Nat) a w'=>∃ x3 : List Ee,∃ x4 : Int,Et Bf j2 m2 x3 x4 = some r ∧ Sx w (Af.ownBlock.toList) nov [.own Af 40 4 x3.length (x3.flatMap Ee.enc)] [(0,Af),(1,iV Bf),(2,iV Bi),(3,.func (.func 88) #[] #[]),(8,iV x2),(9,iV x4)] 53 a w') id ((x2 - Bf).toNat + 2) ⟨x1,x2,h,S.nf [true] rfl (subR rfl)⟩ ?_)
     clear S h;rintro m2 a w3 ⟨x3,x4,h,S⟩
     cases m2 with
     | zero=>rw [Et.eq_1] at h;cases h
     | succ m2 =>
      rw [Et.eq_2] at h
      refine Fs (Fs ?_)
      obtain ⟨j3,hj3,h⟩:=Ge h
      refine Ft (fun a w'=>∃ x5 : Bool,j3 x5 = some r ∧ Sx w (Af.ownBlock.toList) nov [.own Af 40 4 x3.length (x3.flatMap Ee.enc)] [(0,Af),(1,iV Bf),(2,iV Bi),(3,.func (.func 88) #[] #[]),(8,iV x2),(9,iV x4),(34,bV x5)] 53 a w') ?_ ?_
      ·rcases Bool.eq_false_or_eq_true (decide (Bf < x4)) with hb2 | hb2
       ·replace h:=Py h hb2
        obtain ⟨hc1,h⟩:=Hu h
        obtain ⟨hc2,h⟩:=Hu h
        refine Gq [] ([]) Tryz.mixed S rfl (by kernel_rfl) ?_;clear S;intro w7 hk2 hsel S
        refine Ej 0 S hsel rfl rfl rfl (by kernel_rfl) (by kernel_rfl) rfl (fun _ hw=>(Rm (S.tm rfl))) fun a S=>Ej 1 S hsel rfl rfl rfl (by kernel_rfl) (by kernel_rfl) rfl (fun _ hw=>(Rm (S.tm rfl))) fun a S=>Ej 2 S hsel rfl rfl rfl (by kernel_rfl) (by kernel_rfl) rfl (fun _ hw=>(Kh (S.tm rfl) (S.tm rfl))) fun a S=>Ej 3 S hsel rfl rfl rfl (by kernel_rfl) (by kernel_rfl) rfl (fun _ hw=>(Rm (S.tm rfl))) fun a S=>Fb 4 S hsel rfl rfl rfl rfl hb2 rfl rfl (by kernel_rfl) (by kernel_rfl) rfl (fun _ hw=>(Rm (S.tm rfl))) fun a S=>Fb 5 S hsel rfl rfl rfl rfl hb2 rfl rfl (by kernel_rfl) (by kernel_rfl) rfl (fun _ hw=>(Rm (S.tm rfl))) fun a S=>Fb 6 S hsel rfl rfl rfl rfl hb2 rfl rfl (by kernel_rfl) (by kernel_rfl) rfl (fun _ hw=>(Rm (S.tm rfl))) ?_;clear S;intro a S
        obtain ⟨b3,hg3,hr3⟩:=Gz (a:=a) (x:=.tmp 23) (y:=.tmp 24) (ty:=0) Nw Ee.enc_ok S (i:=0) rfl (El hc1).1 (El hc1).2 (S.tm rfl) (S.tm rfl)
        refine Fb 7 S hsel rfl rfl rfl rfl hb2 rfl rfl (by kernel_rfl) (by kernel_rfl) rfl (fun _ hw=>(hr3 _)) ?_;clear S;intro a S
        clear hr3
        refine Fb 8 S hsel rfl rfl rfl rfl hb2 rfl rfl (by kernel_rfl) (by kernel_rfl) rfl (fun _ hw=>(Hf isAgg40 sizeOf40 (off:=x4.toNat * 4) (o:=0) (part:=(Ee.enc (Ee.mk ((nth x3 x4).Item) ((nth x3 x4).Heat) ((nth x3 x4).Time)))) rfl rfl (S.tm rfl) ((Pb Ee.enc_ok S (i:=0) rfl hg3 (El hc1).1 (Gr (e':=.own Af 40 4 x3.length (x3.flatMap Ee.enc)))).kept hw))) fun a S=>Fb 9 S hsel rfl rfl rfl rfl hb2 rfl rfl (by kernel_rfl) (by kernel_rfl) rfl (fun _ hw=>(Rm (S.tm rfl))) fun a S=>Fb 10 S hsel rfl rfl rfl rfl hb2 rfl rfl (by kernel_rfl) (by kernel_rfl) rfl (fun _ hw=>(Rm (S.tm rfl))) fun a S=>Fb 11 S hsel rfl rfl rfl rfl hb2 rfl rfl (by kernel_rfl) (by kernel_rfl) rfl (fun _ hw=>(Iq (S.tm rfl) rfl)) ?_;clear S;intro a S
        obtain ⟨b4,hg4,hr4⟩:=Gz (a:=a) (x:=.tmp 27) (y:=.tmp 29) (ty:=0) Nw Ee.enc_ok S (i:=0) rfl (El hc2).1 (El hc2).2 (S.tm rfl) (S.tm rfl)
        refine Fb 12 S hsel rfl rfl rfl rfl hb2 rfl rfl (by kernel_rfl) (by kernel_rfl) rfl (fun _ hw=>(hr4 _)) ?_;clear S;intro a S
        clear hr4
        refine Fb 13 S hsel rfl rfl rfl rfl hb2 rfl rfl (by kernel_rfl) (by kernel_rfl) rfl (fun _ hw=>(Hf isAgg40 sizeOf40 (off:=((W (x4 - 1)).toNat) * 4) (o:=0) (part:=(Ee.enc (Ee.mk ((nth x3 (W (x4 - 1))).Item) ((nth x3 (W (x4 - 1))).Heat) ((nth x3 (W (x4 - 1))).Time)))) rfl rfl (S.tm rfl) ((Pb Ee.enc_ok S (i:=0) rfl hg4 (El hc2).1 (Gr (e':=.own Af 40 4 x3.length (x3.flatMap Ee.enc)))).kept hw))) fun a S=>Ga 14 (by kernel_rfl) rfl (Er S rfl rfl rfl hb2 (Em S (fun _=>Vi (cap:=[]) (S.tm rfl) (vs:=[.agg (Ee.enc (Ee.mk ((nth x3 x4).Item) ((nth x3 x4).Heat) ((nth x3 x4).Time))).toArray,.agg (Ee.enc (Ee.mk ((nth x3 (W (x4 - 1))).Item) ((nth x3 (W (x4 - 1))).Heat) ((nth x3 (W (x4 - 1))).Time))).toArray]) ⟨(S.tm rfl),(S.tm rfl),trivial⟩ call88) (Vz _ (Ee.mk ((nth x3 x4).Item) ((nth x3 x4).Heat) ((nth x3 x4).Time)) (Ee.mk ((nth x3 (W (x4 - 1))).Item) ((nth x3 (W (x4 - 1))).Heat) ((nth x3 (W (x4 - 1))).Time)) _ rfl) rfl ?_));clear S;intro v2 a w8 hv2 hk3 hn2 S
        subst hv2
        refine Ld (Gn hk3 (Jn [15,16] hsel (by kernel_rfl) rfl ?_))
        clear hsel
        refine Gx S rfl rfl rfl rfl hb2 (Io S (Fm (S.tm rfl) rfl) rfl fun a S=>Fk S rfl (Mz hb2 (S.tm rfl) (S.tm rfl)) rfl fun a S=>Hx ?_)
        replace S:=S.nk [.own Af 40 4 x3.length (x3.flatMap Ee.enc)] [(0,Af),(1,iV Bf),(2,iV Bi),(3,.func (.func 88) #[] #[]),(8,iV x2),(9,iV x4),(22,.func (.func 88) #[] #[]),(23,Af),(24,iV x4),(25,.pointer (some ⟨b3,x4.toNat * 4,none⟩)),(26,.agg (Ee.enc (Ee.mk ((nth x3 x4).Item) ((nth x3 x4).Heat) ((nth x3 x4).Time))).toArray),(27,Af),(28,iV x4),(29,iV (W (x4 - 1))),(30,.pointer (some ⟨b4,((W (x4 - 1)).toNat) * 4,none⟩)),(31,.agg (Ee.enc (Ee.mk ((nth x3 (W (x4 - 1))).Item) ((nth x3 (W (x4 - 1))).Heat) ((nth x3 (W (x4 - 1))).Time))).toArray),(32,iV (Kf (Ee.mk ((nth x3 x4).Item) ((nth x3 x4).Heat) ((nth x3 x4).Time)) (Ee.mk ((nth x3 (W (x4 - 1))).Item) ((nth x3 (W (x4 - 1))).Heat) ((nth x3 (W (x4 - 1))).Time)))),(33,bV (decide ((Kf (Ee.mk ((nth x3 x4).Item) ((nth x3 x4).Heat) ((nth x3 x4).Time)) (Ee.mk ((nth x3 (W (x4 - 1))).Item) ((nth x3 (W (x4 - 1))).Heat) ((nth x3 (W (x4 - 1))).Time))) < 0))),(34,bV (decide ((Kf (Ee.mk ((nth x3 x4).Item) ((nth x3 x4).Heat) ((nth x3 x4).Time)) (Ee.mk ((nth x3 (W (x4 - 1))).Item) ((nth x3 (W (x4 - 1))).Heat) ((nth x3 (W (x4 - 1))).Time))) < 0)))] [true] rfl (subR rfl)
        exact Tn (⟨decide ((Kf (Ee.mk ((nth x3 x4).Item) ((nth x3 x4).Heat) ((nth x3 x4).Time)) (Ee.mk ((nth x3 (W (x4 - 1))).Item) ((nth x3 (W (x4 - 1))).Heat) ((nth x3 (W (x4 - 1))).Time))) < 0),h,S.nf [true] rfl (subR rfl)⟩)
       ·replace h:=Pz h hb2
        refine Gq [] ([]) Tryz.mixed S rfl (by kernel_rfl) ?_;clear S;intro w9 hk4 hsel S
        refine Jn [0,1,2,3,4,5,6,7,8,9,10,11,12,13,14,15,16] hsel (by kernel_rfl) rfl ?_
        clear hsel
        refine Fk S rfl (Rm (S.tm rfl)) rfl fun a S=>Fk S rfl (Rm (S.tm rfl)) rfl fun a S=>Fk S rfl (Kh (S.tm rfl) (S.tm rfl)) rfl fun a S=>Fk S rfl (Rm (S.tm rfl)) rfl ?_;clear S;intro a S
        iterate 12 (refine Pv S rfl rfl rfl rfl (Lk hb2) rfl ?_ rfl;clear S;intro a S)
        refine Fk S rfl (Na hb2 (S.tm rfl) rfl) rfl fun a S=>Hx ?_
        replace S:=S.k7 0 1 2 3 8 9 34 rfl
        exact Tn (⟨false,h,S.nf [true] rfl (subR rfl)⟩)
      clear S h;rintro a w5 ⟨x5,h,S⟩;rw [hj3] at h;clear hj3 j3
      refine Tn (Fc h (S.tm rfl) (fun hb3 h=>?_) (fun hb3 h=>?_))
      ·refine wp_skip (Tn (Fs (wp_block ?_)))
       obtain ⟨hc3,h⟩:=Hu h
       obtain ⟨hc4,h⟩:=Hu h
       obtain ⟨hc5,h⟩:=Hu h
       obtain ⟨hc6,h⟩:=Hu h
       refine Gq [15,17] ([]) Tryz.mixed S rfl (by kernel_rfl) ?_;clear S;intro w14 hk9 hsel S
       refine Ij 0 S hsel rfl rfl (by kernel_rfl) (by kernel_rfl) rfl (fun _=>(Rm (S.tm rfl))) fun a S=>Ij 1 S hsel rfl rfl (by kernel_rfl) (by kernel_rfl) rfl (fun _=>(Rm (S.tm rfl))) fun a S=>Ij 2 S hsel rfl rfl (by kernel_rfl) (by kernel_rfl) rfl (fun _=>(Rm (S.tm rfl))) fun a S=>Ij 3 S hsel rfl rfl (by kernel_rfl) (by kernel_rfl) rfl (fun _=>(Rm (S.tm rfl))) fun a S=>Ij 4 S hsel rfl rfl (by kernel_rfl) (by kernel_rfl) rfl (fun _=>(Iq (S.tm rfl) rfl)) fun a S=>Ij 5 S hsel rfl rfl (by kernel_rfl) (by kernel_rfl) rfl (fun _=>(Rm (S.tm rfl))) fun a S=>Ij 6 S hsel rfl rfl (by kernel_rfl) (by kernel_rfl) rfl (fun _=>(Rm (S.tm rfl))) fun a S=>Ij 7 S hsel rfl rfl (by kernel_rfl) (by kernel_rfl) rfl (fun _=>(Iq (S.tm rfl) rfl)) ?_;clear S;intro a S
       obtain ⟨b9,hg9,hr9⟩:=Gz (a:=a) (x:=.tmp 42) (y:=.tmp 44) (ty:=0) Nw Ee.enc_ok S (i:=0) rfl (El hc3).1 (El hc3).2 (S.tm rfl) (S.tm rfl)
       refine Ij 8 S hsel rfl rfl (by kernel_rfl) (by kernel_rfl) rfl (fun _=>(hr9 _)) ?_;clear S;intro a S
       clear hr9
       refine Ej 9 S hsel rfl (by kernel_rfl) (by kernel_rfl) (by kernel_rfl) (by kernel_rfl) rfl (fun _ hw=>(Hf isAgg40 sizeOf40 (off:=((W (x4 - 1)).toNat) * 4) (o:=0) (part:=(Ee.enc (Ee.mk ((nth x3 (W (x4 - 1))).Item) ((nth x3 (W (x4 - 1))).Heat) ((nth x3 (W (x4 - 1))).Time)))) rfl rfl (S.tm rfl) ((Pb Ee.enc_ok S (i:=0) rfl hg9 (El hc3).1 (Gr (e':=.own Af 40 4 x3.length (x3.flatMap Ee.enc)))).kept hw))) fun a S=>Ij 10 S hsel rfl rfl (by kernel_rfl) (by kernel_rfl) rfl (fun _=>(Rm (S.tm rfl))) fun a S=>Ij 11 S hsel rfl rfl (by kernel_rfl) (by kernel_rfl) rfl (fun _=>(Rm (S.tm rfl))) ?_;clear S;intro a S
       obtain ⟨b10,hg10,hr10⟩:=Gz (a:=a) (x:=.tmp 47) (y:=.tmp 48) (ty:=0) Nw Ee.enc_ok S (i:=0) rfl (El hc4).1 (El hc4).2 (S.tm rfl) (S.tm rfl)
       refine Ij 12 S hsel rfl rfl (by kernel_rfl) (by kernel_rfl) rfl (fun _=>(hr10 _)) ?_;clear S;intro a S
       clear hr10
       refine Ej 13 S hsel rfl (by kernel_rfl) (by kernel_rfl) (by kernel_rfl) (by kernel_rfl) rfl (fun _ hw=>(Hf isAgg40 sizeOf40 (off:=x4.toNat * 4) (o:=0) (part:=(Ee.enc (Ee.mk ((nth x3 x4).Item) ((nth x3 x4).Heat) ((nth x3 x4).Time)))) rfl rfl (S.tm rfl) ((Pb Ee.enc_ok S (i:=0) rfl hg10 (El hc4).1 (Gr (e':=.own Af 40 4 x3.length (x3.flatMap Ee.enc)))).kept hw))) ?_;clear S;intro a S
       obtain ⟨b11,hg11,hr11⟩:=Gz (a:=a) (x:=.tmp 37) (y:=.tmp 38) (ty:=0) Nw Ee.enc_ok S (i:=0) rfl (El hc5).1 (El hc5).2 (S.tm rfl) (S.tm rfl)
       refine Ij 14 S hsel rfl rfl (by kernel_rfl) (by kernel_rfl) rfl (fun _=>(hr11 _)) ?_;clear S;intro a S
       clear hr11
       refine Zc 15 (Af.ownBlock.toList) rfl (by kernel_rfl) rfl (Mt (c:=0) (j:=x4.toNat) (Ee.mk ((nth x3 (W (x4 - 1))).Item) ((nth x3 (W (x4 - 1))).Heat) ((nth x3 (W (x4 - 1))).Time)) Ee.enc_ok S (S.tm rfl) (S.tm rfl) (i:=0) rfl hg11 (El hc5).1 sizeOf40 (vs:=[sV ((nth x3 (W (x4 - 1))).Item),iV ((nth x3 (W (x4 - 1))).Heat),iV (((nth x3 (W (x4 - 1))).Time).From),iV (((nth x3 (W (x4 - 1))).Time).To)]) rfl rfl rfl rfl rfl ?_);clear S;intro w16 hk11 S
       refine Ld (Zd ?_)
       obtain ⟨b12,hg12,hr12⟩:=Gz (a:=a) (x:=.tmp 39) (y:=.tmp 41) (ty:=0) Nw Ee.enc_ok S (i:=0) rfl (El hc6).1 (El hc6).2 (S.tm rfl) (S.tm rfl)
       refine Ej 16 S hsel rfl rfl rfl (by kernel_rfl) (by kernel_rfl) rfl (fun _ hw=>(hr12 _)) ?_;clear S;intro a S
       clear hr12
       refine Ga 17 (by kernel_rfl) rfl (Mt (c:=0) (j:=(W (x4 - 1)).toNat) (Ee.mk ((nth x3 x4).Item) ((nth x3 x4).Heat) ((nth x3 x4).Time)) Ee.enc_ok S (S.tm rfl) (S.tm rfl) (i:=0) rfl hg12 (El hc6).1 sizeOf40 (vs:=[sV ((nth x3 x4).Item),iV ((nth x3 x4).Heat),iV (((nth x3 x4).Time).From),iV (((nth x3 x4).Time).To)]) rfl rfl rfl rfl rfl ?_);clear S;intro w18 hk13 S
       refine Ld (Gn hk13 (Ta (by kernel_rfl) ?_))
       clear hsel
       replace S:=(S.nl [.own Af 40 4 ((x3.set x4.toNat (Ee.mk ((nth x3 (W (x4 - 1))).Item) ((nth x3 (W (x4 - 1))).Heat) ((nth x3 (W (x4 - 1))).Time))).set ((W (x4 - 1)).toNat) (Ee.mk ((nth x3 x4).Item) ((nth x3 x4).Heat) ((nth x3 x4).Time))).length (((x3.set x4.toNat (Ee.mk ((nth x3 (W (x4 - 1))).Item) ((nth x3 (W (x4 - 1))).Heat) ((nth x3 (W (x4 - 1))).Time))).set ((W (x4 - 1)).toNat) (Ee.mk ((nth x3 x4).Item) ((nth x3 x4).Heat) ((nth x3 x4).Time))).flatMap Ee.enc)] [true] rfl).k6 0 1 2 3 8 9 rfl
       exact Jc (Tn (Fg (Vm S rfl rfl fun a S=>Vq S Iq rfl rfl rfl fun a S=>Va S rfl rfl fun a S=>Dl (⟨m2,⟨((x3.set x4.toNat (Ee.mk ((nth x3 (W (x4 - 1))).Item) ((nth x3 (W (x4 - 1))).Heat) ((nth x3 (W (x4 - 1))).Time))).set ((W (x4 - 1)).toNat) (Ee.mk ((nth x3 x4).Item) ((nth x3 x4).Heat) ((nth x3 x4).Time))),W (x4 - 1),h,S.nf [true] rfl ⟨rfl,rfl,rfl,rfl,rfl,rfl,trivial⟩⟩,Nat.lt_succ_self _⟩))))
      ·exact wp_exit (Fj (Fj (He (Tn (⟨x3,h,S.nf [true] rfl (subR rfl)⟩)))))
    clear S h;rintro a w4 ⟨x3,h,S⟩;rw [hj2] at h;clear hj2 j2
    exact Jc (Tn (Fg (Vm S rfl rfl fun a S=>Vq S Gd rfl rfl rfl fun a S=>Va S rfl rfl fun a S=>Dl (⟨m1,⟨x3,W (x2 + 1),h,S.nf [true] rfl ⟨rfl,rfl,rfl,rfl,rfl,trivial⟩⟩,Nat.lt_succ_self _⟩))))
   ·exact wp_exit (Fj (Fj (He (Tn (⟨x1,h,S.nf [true] rfl trivial⟩)))))
 clear S h;rintro a w2 ⟨x1,h,S⟩;rw [hj1] at h;clear hj1 j1
 obtain rfl:=Option.some.inj h
 exact Qu S results115 ⟨(S.holds _ (List.mem_of_getElem? (i:=0) rfl)),rfl⟩
theorem Np (w : World) (Af : Value) (Ba : List Ee) (Cb : (LEnt.own Af 40 4 Ba.length (Ba.flatMap Ee.enc)).holds w) (Bf : Int) (Bi : Int) (Cf : Int) (r : (List Ee)) (h : Hv Ba Bf Bi Cf = some r) :
    Calls prog 108 [Af,iV Bf,iV Bi,iV Cf,.func (.func 88) #[] #[]].toArray w (Ret w (Af.ownBlock.toList) fun _ v w'=>(LEnt.own Af 40 4 r.length (r.flatMap Ee.enc)).holds w' ∧ v = .tuple #[]):=by
 refine Kw (Af.ownBlock.toList) [.own Af 40 4 Ba.length (Ba.flatMap Ee.enc)] func108 rfl ntmps108 rfl (fun e he=>by simp only [List.mem_singleton] at he;subst he;exact Cb) (Kb _) (Lh _) fun a S=>?_
 unfold Hv at h
 replace S:=(S.nl [.own Af 40 4 Ba.length (Ba.flatMap Ee.enc)] [true] rfl).k5 0 1 2 3 4 rfl
 refine Fr (Vk S rfl rfl fun a S=>Dz (Vk S rfl rfl fun a S=>Dl ?_))
 replace S:=S.k6 0 1 2 3 4 10 rfl
 refine Ft (fun a w'=>False) ?_ ?_
 ·refine wp_block (Hh (fun (m1 : Nat) a w'=>∃ x1 : Int,∃ x2 : Int,∃ x3 : Int,∃ x4 : Bool,Fp Ba m1 x1 x2 x3 x4 = some r ∧ Sx w (Af.ownBlock.toList) nov [.own Af 40 4 Ba.length (Ba.flatMap Ee.enc)] [(0,Af),(1,iV x1),(2,iV x2),(3,iV x3),(4,.func (.func 88) #[] #[]),(10,bV x4)] 148 a w') id 4611686018427387904 ⟨Bf,Bi,Cf,true,h,S.nf [true] rfl (subR rfl)⟩ ?_)
  clear S h;rintro m1 a w1 ⟨x1,x2,x3,x4,h,S⟩
  cases m1 with
  | zero=>rw [Fp.eq_1] at h;cases h
  | succ m1 =>
   rw [Fp.eq_2] at h
   refine wp_block (Fr (Vm S rfl rfl fun a S=>Vm S rfl rfl fun a S=>Vb S Iq rfl rfl rfl fun a S=>Va S rfl rfl fun a S=>Dl (Fs (Fs ?_))))
   refine Fg (Vm S rfl rfl fun a S=>Vq S Ss rfl rfl rfl fun a S=>Dl (Fc h (S.tm rfl) (fun hb1 h=>?_) (fun hb1 h=>?_)))
   ·refine Fs (Fg ?_)
    iterate 4 (refine Vm S rfl rfl ?_;clear S;intro a S)
    obtain ⟨r1,hr1,h⟩:=Gf h
    refine Nv 0 S rfl (fun _=>.own Af 40 4 r1.length (r1.flatMap Ee.enc)) (fun _=>Eg (vs:=[Af,iV x1,iV x2,.func (.func 88) #[] #[]]) ⟨(S.tm rfl),(S.tm rfl),(S.tm rfl),(S.tm rfl),trivial⟩ call115) (Mi _ Af Ba (S.holds _ (List.mem_of_getElem? (i:=0) rfl)) x1 x2 _ hr1) rfl (fun _ _ _ h=>⟨h.1,fun _ hc=>hc⟩) ?_;clear S;intro v1 a w3 hv1 hk1 hn1 S
    replace hv1:=hv1.2
    subst hv1
    refine Ld ?_
    replace S:=(S.nl [.own Af 40 4 r1.length (r1.flatMap Ee.enc)] [true] rfl).k0
    refine Tn (wp_ret (Ek (Gu (Ek (Gu (Ek ?_))))))
    obtain rfl:=Option.some.inj h
    exact Qu S results108 ⟨(S.holds _ (List.mem_of_getElem? (i:=0) rfl)),rfl⟩
   ·refine wp_skip (Tn (Fs (Fr (Vm S rfl rfl fun a S=>Vq S Mc rfl rfl rfl fun a S=>Dl (Fc h (S.tm rfl) (fun hb2 h=>?_) (fun hb2 h=>?_))))))
    ·refine Fs ?_
     cases h
    ·refine wp_skip (Tn (Fs (Fr (Vm S rfl rfl fun a S=>Vu S Jd rfl rfl fun a S=>Ld ?_))))
     replace S:=S.k1 39 rfl
     refine Tn (Fc h (S.tm rfl) (fun hb3 h=>?_) (fun hb3 h=>?_))
     ·refine Fs ?_
      cases h
     ·refine wp_skip (Tn (Fs ?_))
      cases h
 exact fun _ _ h=>h.elim
theorem Oz (w : World) (Bp : Value) (Az : List Ee) (Dd : (LEnt.own Bp 40 4 Az.length (Az.flatMap Ee.enc)).holds w) (r : (List Ee)) (h : Gp Az = some r) :
    Calls prog 87 [Bp,.func (.func 88) #[] #[]].toArray w (Ret w (Bp.ownBlock.toList) fun _ v w'=>(LEnt.own Bp 40 4 r.length (r.flatMap Ee.enc)).holds w' ∧ v = .tuple #[]):=by
 refine Kw (Bp.ownBlock.toList) [.own Bp 40 4 Az.length (Az.flatMap Ee.enc)] func87 rfl ntmps87 rfl (fun e he=>by simp only [List.mem_singleton] at he;subst he;exact Dd) (Kb _) (Lh _) fun a S=>?_
 unfold Gp at h
 replace S:=(S.nl [.own Bp 40 4 Az.length (Az.flatMap Ee.enc)] [true] rfl).k2 0 1 rfl
 refine Fr (Vm S rfl rfl fun a S=>lv S (Fy Nw (S.tm rfl) (Nc (S.own_at (i:=0) rfl))) rfl fun a S=>Va S rfl rfl fun a S=>Dl (Fg ?_))
 iterate 3 (refine Vm S rfl rfl ?_;clear S;intro a S)
 refine Vu S (Qj underlying3 underlying110) rfl rfl ?_;clear S;intro a S
 obtain ⟨r1,hr1,h⟩:=Gf h
 refine Em S (fun _=>Eg (vs:=[.int .u64 (IntKind.wrap .u64 (Az.length : Int))]) ⟨(S.tm rfl),trivial⟩ call48) (Ut _ (IntKind.wrap .u64 (Az.length : Int)) _ hr1) rfl ?_;clear S;intro v1 a w1 hv1 hk1 hn1 S
 subst hv1
 refine Vm S rfl rfl ?_;clear S;intro a S
 obtain ⟨r2,hr2,h⟩:=Gf h
 refine Nv 0 S rfl (fun _=>.own Bp 40 4 r2.length (r2.flatMap Ee.enc)) (fun _=>Eg (vs:=[Bp,iV 0,iV (Az.length : Int),iV r1,.func (.func 88) #[] #[]]) ⟨(S.tm rfl),rfl,(S.tm rfl),(S.tm rfl),(S.tm rfl),trivial⟩ call108) (Np _ Bp Az (S.holds _ (List.mem_of_getElem? (i:=0) rfl)) 0 (Az.length : Int) r1 _ hr2) rfl (fun _ _ _ h=>⟨h.1,fun _ hc=>hc⟩) ?_;clear S;intro v2 a w2 hv2 hk2 hn2 S
 replace hv2:=hv2.2
 subst hv2
 refine Ld ?_
 obtain rfl:=Option.some.inj h
 exact Qu S results87 ⟨(S.holds _ (List.mem_of_getElem? (i:=0) rfl)),rfl⟩
theorem Yd (w : World) (Dj : Nat) (Ce : List (An × Ee)) (Ea : (view w []) Dj = some (.map (Hz (fun x=>Value.agg (An.enc x).toArray) (fun x=>Value.agg (Ee.enc x).toArray) Ce) Ce.length)) (Ab : Value) (Al : List Es) (Ao : Slc (view w []) 3 Ab (Al.map Es.enc)) (Dk : ByteArray) (r : (List Ee)) (h : Mk Ce Al Dk = some r) :
    Calls prog 54 [.map (some Dj),Ab,sV Dk].toArray w (Ret w [] fun τ v _=>Of τ 40 4 v r.length (r.flatMap Ee.enc)):=by
 refine Fe func54 rfl ntmps54 rfl fun a S=>?_
 unfold Mk at h
 replace S:=S.k3 0 1 2 rfl
 refine Fr (Vk S rfl rfl fun a S=>Dz (Vk S rfl rfl ?_));clear S;intro a S
 replace S:=S.nil 40 4
 refine Dl (Fs (Fr (Vm S rfl rfl fun a S=>lv S (Fy Rg (S.tm rfl) (Eh Ao)) rfl fun a S=>lv S (Rm rfl) rfl fun a S=>Dl ?_)))
 replace S:=(S.nl [.own (.slice none 0 0) 40 4 ([] : List Ee).length (([] : List Ee).flatMap Ee.enc)] [true] rfl).k6 0 2 7 10 11 12 rfl
 obtain ⟨j1,hj1,h⟩:=Ge h
 refine Ft (fun a w'=>∃ x1 : List Ee,∃ v1 : Value,j1 x1 = some r ∧ Sx w [] nov [.own v1 40 4 x1.length (x1.flatMap Ee.enc)] [(7,v1)] 34 a w') ?_ ?_
 ·refine wp_block (Hh (fun (ys1 : List Es) a w'=>∃ i1 : Nat,∃ x1 : List Ee,∃ v1 : Value,(∃ dn,Al = dn ++ ys1 ∧ dn.length = i1) ∧ Kg Dk Ce j1 ys1 i1 x1 = some r ∧ Sx w [] nov [.own v1 40 4 x1.length (x1.flatMap Ee.enc)] [(0,.map (some Dj)),(2,sV Dk),(7,v1),(10,Ab),(11,iV (Al.length : Int)),(12,iV (i1 : Int))] 34 a w') List.length Al ⟨0,([] : List Ee),(.slice none 0 0),⟨[],rfl,rfl⟩,h,S.nf [true] rfl (subR rfl)⟩ ?_)
  clear S h;rintro ys1 a w1 ⟨i1,x1,v1,⟨dn,hd1,hi1⟩,h,S⟩
  cases ys1 with
  | nil =>
   rw [Kg.eq_1] at h
   refine Fr (Vb S Fm rfl rfl rfl fun a S=>Ld ?_)
   replace S:=S.k7 0 2 7 10 11 12 13 rfl
   exact Tn (Fs (wp_cond_false ((S.tm rfl).trans (congrArg Value.bool (Ih hd1 hi1))) (wp_exit (Fj (Fj (He (Tn (⟨x1,v1,h,S.nf [true] rfl ⟨rfl,trivial⟩⟩))))))))
  | cons y1 ys1 =>
   rw [Kg.eq_2] at h
   refine Fr (Vb S Fm rfl rfl rfl fun a S=>Ld ?_)
   replace S:=S.k7 0 2 7 10 11 12 13 rfl
   refine Tn (Fs (wp_cond_true ((S.tm rfl).trans (congrArg Value.bool (Hb hd1 hi1))) (wp_skip (Tn (Fs ?_)))))
   obtain ⟨j2,hj2,h⟩:=Ge h
   refine Ft (fun a w'=>∃ x2 : List Ee,∃ v2 : Value,j2 x2 = some r ∧ Sx w [] nov [.own v2 40 4 x2.length (x2.flatMap Ee.enc)] [(0,.map (some Dj)),(2,sV Dk),(7,v2),(10,Ab),(11,iV (Al.length : Int)),(12,iV (i1 : Int))] 34 a w') ?_ ?_
   ·refine wp_block (Fs (Fg ?_))
    obtain ⟨b1,o1,hm1,hr1⟩:=Ff (a:=a) (x:=.tmp 10) (y:=.tmp 12) (ty:=0) Rg Ao (Ig hd1 hi1) rfl (S.tm rfl) (S.tm rfl)
    refine lv S (hr1 _) rfl ?_;clear S;intro a S
    clear hr1
    refine lv S (Hf isAgg59 sizeOf59 (off:=o1) (o:=0) (part:=(Es.enc y1)) rfl rfl (S.tm rfl) (hm1.at S.emb0)) rfl fun a S=>Lm S zeroValue59 (cs:=[sV En,sV En,iV 0]) rfl rfl ?_;clear S;intro a w4 b2 hz1 hk1 S
    refine Ki S (S.tm rfl) (S.tm rfl) (i:=0) (off:=0) rfl sizeOf59 (vs:=(Es.enc y1)) rfl rfl rfl rfl ?_;clear S;intro w5 hk2 S
    refine Dz (Vf Rt S rfl rfl fun a S=>Vl isAgg9 0 S rfl rfl rfl rfl fun a S=>Vm S rfl rfl fun a S=>Vb S Tp rfl rfl rfl fun a S=>Dl ?_)
    obtain ⟨j3,hj3,h⟩:=Ge h
    refine Ft (fun a w'=>∃ x3 : List Ee,∃ v3 : Value,j3 x3 = some r ∧ Sx w [] nov [.own v3 40 4 x3.length (x3.flatMap Ee.enc)] [(0,.map (some Dj)),(2,sV Dk),(7,v3),(10,Ab),(11,iV (Al.length : Int)),(12,iV (i1 : Int))] 34 a w') ?_ ?_
    ·refine Fc h (S.tm rfl) (fun hb1 h=>?_) (fun hb1 h=>?_)
     ·refine Fg (Vm S rfl rfl fun a S=>Vm S rfl rfl fun a S=>Vf Xe S rfl rfl fun a S=>Vl isAgg9 0 S rfl rfl rfl rfl fun a S=>Vf Sr S rfl rfl fun a S=>Vl isAgg3 0 S rfl rfl rfl rfl fun a S=>lv S (Nl Zz (pv:=[(0,sV y1.Item),(1,iV y1.Heat)]) ⟨rfl,(S.tm rfl),rfl,(S.tm rfl),trivial⟩ (cs:=[sV y1.Item,iV y1.Heat]) (by kernel_rfl)) rfl fun a S=>lv S (Vs (kv:=(fun x=>Value.agg (An.enc x).toArray)) (vv:=(fun x=>Value.agg (Ee.enc x).toArray)) (m:=Ce) (key:=(An.mk y1.Item y1.Heat)) (z:=(Ee.mk En 0 (Gs.mk 0 0))) (S.emb0 _ _ Ea) underlying114 Td zeroValue40 (S.tm rfl) (S.tm rfl)) rfl fun a S=>Fo S underlying32 sizeOf40 zeroValue40 rfl rfl (pv:=[(0,.agg (Ee.enc (Jj Ce (An.mk y1.Item y1.Heat) (Ee.mk En 0 (Gs.mk 0 0)))).toArray)]) ⟨rfl,(S.tm rfl),trivial⟩ (cs:=[sV ((Jj Ce (An.mk y1.Item y1.Heat) (Ee.mk En 0 (Gs.mk 0 0))).Item),iV ((Jj Ce (An.mk y1.Item y1.Heat) (Ee.mk En 0 (Gs.mk 0 0))).Heat),iV (((Jj Ce (An.mk y1.Item y1.Heat) (Ee.mk En 0 (Gs.mk 0 0))).Time).From),iV (((Jj Ce (An.mk y1.Item y1.Heat) (Ee.mk En 0 (Gs.mk 0 0))).Time).To)]) (by kernel_rfl) rfl ?_);clear S;intro a w7 b3 hz2 hk3 S
      obtain ⟨hc1,h⟩:=Hu h
      refine Ov Nw Ee.enc_ok S (S.tm rfl) (i:=2) rfl (S.tm rfl) (j:=0) rfl (ys:=[(Ee.mk ((Jj Ce (An.mk y1.Item y1.Heat) (Ee.mk En 0 (Gs.mk 0 0))).Item) ((Jj Ce (An.mk y1.Item y1.Heat) (Ee.mk En 0 (Gs.mk 0 0))).Heat) ((Jj Ce (An.mk y1.Item y1.Heat) (Ee.mk En 0 (Gs.mk 0 0))).Time))]) rfl rfl rfl rfl (by have:=Le hc1;omega) rfl ?_;clear S;intro v4 a w8 hk4 S
      refine Va S rfl rfl fun a S=>Ld ?_
      replace S:=(S.nl [.own v4 40 4 (x1 ++ [(Ee.mk ((Jj Ce (An.mk y1.Item y1.Heat) (Ee.mk En 0 (Gs.mk 0 0))).Item) ((Jj Ce (An.mk y1.Item y1.Heat) (Ee.mk En 0 (Gs.mk 0 0))).Heat) ((Jj Ce (An.mk y1.Item y1.Heat) (Ee.mk En 0 (Gs.mk 0 0))).Time))]).length ((x1 ++ [(Ee.mk ((Jj Ce (An.mk y1.Item y1.Heat) (Ee.mk En 0 (Gs.mk 0 0))).Item) ((Jj Ce (An.mk y1.Item y1.Heat) (Ee.mk En 0 (Gs.mk 0 0))).Heat) ((Jj Ce (An.mk y1.Item y1.Heat) (Ee.mk En 0 (Gs.mk 0 0))).Time))]).flatMap Ee.enc)] [false,false,true] rfl).k6 0 2 7 10 11 12 rfl
      exact Tn (⟨(x1 ++ [(Ee.mk ((Jj Ce (An.mk y1.Item y1.Heat) (Ee.mk En 0 (Gs.mk 0 0))).Item) ((Jj Ce (An.mk y1.Item y1.Heat) (Ee.mk En 0 (Gs.mk 0 0))).Heat) ((Jj Ce (An.mk y1.Item y1.Heat) (Ee.mk En 0 (Gs.mk 0 0))).Time))]),v4,h,S.nf [true] rfl (subR rfl)⟩)
     ·exact wp_skip (Tn (⟨x1,v1,h,S.nf [false,true] rfl (subR rfl)⟩))
    clear S h;rintro a w6 ⟨x3,v3,h,S⟩;rw [hj3] at h;clear hj3 j3
    exact Jc (Tn (⟨x3,v3,h,S.nf [true] rfl (subR rfl)⟩))
   clear S h;rintro a w3 ⟨x2,v2,h,S⟩;rw [hj2] at h;clear hj2 j2
   exact Tn (Fg (Vq S Gd rfl rfl rfl fun a S=>Vm S rfl rfl fun a S=>Dl (⟨ys1,⟨i1 + 1,x2,v2,⟨_,(hd1).trans (List.append_cons _ _ _),by simp [hi1]⟩,h,S.nf [true] rfl ⟨rfl,rfl,rfl,rfl,rfl,(congrArg (fun z=>some (Value.int .i64 z)) (Hc hd1 hi1 (Jx Ao))),trivial⟩⟩,Nat.lt_succ_self _⟩)))
 clear S h;rintro a w2 ⟨x1,v1,h,S⟩;rw [hj1] at h;clear hj1 j1
 refine Tn (Fr (Vm S rfl rfl ?_));clear S;intro a S
 obtain ⟨r1,hr2,h⟩:=Gf h
 refine Nv 0 S rfl (fun _=>.own v1 40 4 r1.length (r1.flatMap Ee.enc)) (fun _=>Eg (vs:=[v1,.func (.func 88) #[] #[]]) ⟨(S.tm rfl),rfl,trivial⟩ call87) (Oz _ v1 x1 (S.holds _ (List.mem_of_getElem? (i:=0) rfl)) _ hr2) rfl (fun _ _ _ h=>⟨h.1,fun _ hc=>hc⟩) ?_;clear S;intro v5 a w9 hv1 hk5 hn1 S
 replace hv1:=hv1.2
 subst hv1
 refine Dz (Vm S rfl rfl fun a S=>Va S rfl rfl fun a S=>Dl (wp_ret ?_))
 obtain rfl:=Option.some.inj h
 exact Fw S results54 rfl (Qb S (i:=0) rfl rfl)
set_option maxRecDepth 20000 in
theorem Ye (w : World) (Cy : Value) (Dh : List Ee) (Di : Slc (view w []) 4 Cy (Dh.map Ee.enc)) (Ab : Value) (Al : List Es) (Ao : Slc (view w []) 3 Ab (Al.map Es.enc)) (r : (List Gj)) (h : Qe Dh Al = some r) :
    Calls prog 31 [Cy,Ab].toArray w (Ret w [] fun τ v _=>Of τ 46 10 v r.length (r.flatMap Gj.enc)):=by
 refine Fe func31 rfl ntmps31 rfl fun a S=>?_
 unfold Qe at h
 replace S:=S.k2 0 1 rfl
 refine Fr (Vk S rfl rfl fun a S=>Dz (Vm S rfl rfl ?_));clear S;intro a S
 have hz1:=S.keep.size
 refine Em S (fun _=>Eg (vs:=[Cy]) ⟨(S.tm rfl),trivial⟩ call53) (Yc _ Cy Dh (Di.mono (S.le_arg Fh)) _ rfl) rfl ?_;clear S;intro v1 a w1 hv1 hk1 hn1 S
 obtain ⟨φ1,hl1,hm1,S⟩:=S.see' hn1 hz1
 obtain ⟨b1,rfl,hq1⟩:=hv1
 replace hq1:=hm1 _ _ hq1
 refine Va S rfl rfl fun a S=>Dz (Vk S rfl rfl ?_);clear S;intro a S
 replace S:=S.nil 46 10
 refine Dl (Fs (Fr (Vm S rfl rfl fun a S=>lv S (Fy Rg (S.tm rfl) (Eh Ao)) rfl fun a S=>lv S (Rm rfl) rfl fun a S=>Dl ?_)))
 replace S:=(S.nl [.own (.slice none 0 0) 46 10 ([] : List Gj).length (([] : List Gj).flatMap Gj.enc)] [true] rfl).k6 1 5 6 13 14 15 rfl
 obtain ⟨j1,hj1,h⟩:=Ge h
 refine Ft (fun a w'=>∃ x1 : List Gj,∃ φ2 : View,∃ v2 : Value,j1 x1 = some r ∧ View.le φ1 φ2 ∧ Sx w [] φ2 [.own v2 46 10 x1.length (x1.flatMap Gj.enc)] [(6,v2)] 75 a w') ?_ ?_
 ·refine wp_block (Hh (fun (ys1 : List Es) a w'=>∃ i1 : Nat,∃ x1 : List Gj,∃ φ2 : View,∃ v2 : Value,(∃ dn,Al = dn ++ ys1 ∧ dn.length = i1) ∧ Ho Dh Al j1 ys1 i1 x1 = some r ∧ View.le φ1 φ2 ∧ Sx w [] φ2 [.own v2 46 10 x1.length (x1.flatMap Gj.enc)] [(1,Ab),(5,.map (some b1)),(6,v2),(13,Ab),(14,iV (Al.length : Int)),(15,iV (i1 : Int))] 75 a w') List.length Al ⟨0,([] : List Gj),φ1,(.slice none 0 0),⟨[],rfl,rfl⟩,h,View.le_refl _,S.nf [true] rfl (subR rfl)⟩ ?_)
  clear S h;rintro ys1 a w2 ⟨i1,x1,φ2,v2,⟨dn,hd1,hi1⟩,h,hl2,S⟩
  cases ys1 with
  | nil =>
   rw [Ho.eq_1] at h
   refine Fr (Vb S Fm rfl rfl rfl fun a S=>Ld ?_)
   replace S:=S.k7 1 5 6 13 14 15 16 rfl
   exact Tn (Fs (wp_cond_false ((S.tm rfl).trans (congrArg Value.bool (Ih hd1 hi1))) (wp_exit (Fj (Fj (He (Tn (⟨x1,φ2,v2,h,hl2,S.nf [true] rfl ⟨rfl,trivial⟩⟩))))))))
  | cons y1 ys1 =>
   rw [Ho.eq_2] at h
   refine Fr (Vb S Fm rfl rfl rfl fun a S=>Ld ?_)
   replace S:=S.k7 1 5 6 13 14 15 16 rfl
   refine Tn (Fs (wp_cond_true ((S.tm rfl).trans (congrArg Value.bool (Hb hd1 hi1))) (wp_skip (Tn (Fs ?_)))))
   obtain ⟨j2,hj2,h⟩:=Ge h
   refine Ft (fun a w'=>∃ x2 : List Gj,∃ φ3 : View,∃ v3 : Value,j2 x2 = some r ∧ View.le φ2 φ3 ∧ Sx w [] φ3 [.own v3 46 10 x2.length (x2.flatMap Gj.enc)] [(1,Ab),(5,.map (some b1)),(6,v3),(13,Ab),(14,iV (Al.length : Int)),(15,iV (i1 : Int))] 75 a w') ?_ ?_
   ·refine wp_block (Fr (Vm S rfl rfl ?_));clear S;intro a S
    obtain ⟨b2,o1,hm2,hr1⟩:=Ff (a:=a) (x:=.tmp 13) (y:=.tmp 15) (ty:=0) Rg Ao (Ig hd1 hi1) rfl (S.tm rfl) (S.tm rfl)
    refine lv S (hr1 _) rfl ?_;clear S;intro a S
    clear hr1
    refine lv S (Hf isAgg59 sizeOf59 (off:=o1) (o:=0) (part:=(Es.enc y1)) rfl rfl (S.tm rfl) (hm2.at S.emb0)) rfl fun a S=>Lm S zeroValue59 (cs:=[sV En,sV En,iV 0]) rfl rfl ?_;clear S;intro a w5 b3 hz2 hk2 S
    refine Va S rfl rfl fun a S=>Ki S (S.tm rfl) (S.tm rfl) (i:=0) (off:=0) rfl sizeOf59 (vs:=(Es.enc y1)) rfl rfl rfl rfl ?_;clear S;intro w6 hk3 S
    refine Dl (Fs (Fs (Gq [] ([]) Tryz.mixed S rfl (by kernel_rfl) ?_)));clear S;intro w7 hk4 hsel S
    refine Jn [0,1,2,3,4,5,6,7,8,9,10,11,12] hsel (by kernel_rfl) rfl ?_
    clear hsel
    refine Fk S rfl (Rm (S.tm rfl)) rfl fun a S=>Fk S rfl (Kh (S.tm rfl) rfl) rfl fun a S=>Fk S rfl (Rm (S.tm rfl)) rfl ?_;clear S;intro a S
    obtain ⟨j3,hj3,h⟩:=Ge h
    refine Ya 10 (fun a w'=>∃ c1,j3 c1 = some r ∧ Keep [] w7 w' ∧ Sx w [] φ2 [.blk b3 (Es.enc y1) 59,.own v2 46 10 x1.length (x1.flatMap Gj.enc)] [(1,Ab),(5,.map (some b1)),(6,v2),(8,.pointer (some ⟨b3,0,none⟩)),(13,Ab),(14,iV (Al.length : Int)),(15,iV (i1 : Int)),(32,bV c1)] 75 a w') ?_ ?_
    ·rcases Bool.eq_false_or_eq_true (decide (0 < (i1 : Int))) with hb1 | hb1
     ·replace h:=Py h hb1
      refine Gx S rfl rfl rfl rfl hb1 (Io S (Rm (S.tm rfl)) rfl fun a S=>Gx S rfl rfl rfl rfl hb1 (Io S (Rm (S.tm rfl)) rfl fun a S=>Gx S rfl rfl rfl rfl hb1 (Io S (Iq (S.tm rfl) rfl) rfl fun a S=>Gx S rfl rfl rfl rfl hb1 ?_)))
      obtain ⟨hc1,h⟩:=Hu h
      obtain ⟨b4,o2,hm3,hr2⟩:=Ff (a:=a) (x:=.tmp 23) (y:=.tmp 25) (ty:=0) Rg Ao (El hc1).1 (El hc1).2 (S.tm rfl) (S.tm rfl)
      refine Io S (hr2 _) rfl ?_;clear S;intro a S
      clear hr2
      refine Gx S rfl rfl rfl rfl hb1 (Io S (Fz Rt (S.tm rfl)) rfl fun a S=>Gx S rfl rfl rfl rfl hb1 (Io S (Gt isAgg9 (off:=o2) (o:=0) (S.tm rfl) (hm3.at S.emb0) rfl) rfl fun a S=>Gx S rfl rfl rfl rfl hb1 (Io S (Fz Rt (S.tm rfl)) rfl fun a S=>Gx S rfl rfl rfl rfl hb1 (Io S (Lj isAgg9 (S.tm rfl) (S.cell (i:=0) rfl rfl)) rfl fun a S=>Gx S rfl rfl rfl rfl hb1 (Io S (Tp (S.tm rfl) (S.tm rfl)) rfl fun a S=>Fk S rfl (Ju hb1 (S.tm rfl) (S.tm rfl)) rfl ?_)))));clear S;intro a S
      exact Hx (⟨_,h,Keep.refl _ _,S.nf [true,true] rfl (subR rfl)⟩)
     ·replace h:=Pz h hb1
      iterate 9 (refine Pv S rfl rfl rfl rfl (Lk hb1) rfl ?_ rfl;clear S;intro a S)
      exact Fk S rfl (Jv true hb1 (S.tm rfl) rfl) rfl fun a S=>Hx (⟨_,h,Keep.refl _ _,S.nf [true,true] rfl (subR rfl)⟩)
    clear S h;rintro a w8 ⟨c1,h,hk5,S⟩;rw [hj3] at h;clear hj3 j3
    refine Hx ?_
    replace S:=(S.nl [.blk b3 (Es.enc y1) 59,.own v2 46 10 x1.length (x1.flatMap Gj.enc)] [true,true] rfl).k8 1 5 6 8 13 14 15 32 rfl
    refine Tn (Fc h (S.tm rfl) (fun hb2 h=>?_) (fun hb2 h=>?_))
    ·exact wp_exit (Fj (He (Tn (⟨x1,φ2,v2,h,(View.le_refl _),S.nf [false,true] rfl (subR rfl)⟩))))
    ·refine wp_skip (Tn (Fr (Vm S rfl rfl fun a S=>Vm S rfl rfl fun a S=>Vf Rt S rfl rfl fun a S=>Vl isAgg9 0 S rfl rfl rfl rfl ?_)));clear S;intro a S
     obtain ⟨r1,hr3,h⟩:=Gf h
     have hz3:=S.keep.size
     refine Em S (fun _=>Eg (vs:=[.map (some b1),Ab,sV y1.Who]) ⟨(S.tm rfl),(S.tm rfl),(S.tm rfl),trivial⟩ call54) (Yd _ b1 (Jq Dh) ((View.le_trans hl2 (S.le_new Fh)) _ _ hq1) Ab Al (Ao.mono (S.le_arg Fh)) y1.Who _ hr3) rfl ?_;clear S;intro v4 a w9 hv2 hk6 hn2 S
     obtain ⟨φ4,hl4,hm4,S⟩:=S.see' hn2 hz3
     have hs1:=hv2.mono hm4
     refine Va S rfl rfl fun a S=>Dz (Vk S rfl rfl fun a S=>Ld ?_)
     replace S:=S.k9 1 5 6 8 9 10 13 14 15 rfl
     refine Tn ?_
     obtain ⟨j4,hj4,h⟩:=Ge h
     refine Ft (fun a w'=>∃ x3 : List Gj,∃ v5 : Value,j4 x3 = some r ∧ Sx w [] φ4 [.blk b3 (Es.enc y1) 59,.own v5 46 10 x3.length (x3.flatMap Gj.enc)] [(1,Ab),(5,.map (some b1)),(6,v5),(13,Ab),(14,iV (Al.length : Int)),(15,iV (i1 : Int))] 75 a w') ?_ ?_
     ·refine wp_block (Hh (fun (m1 : Nat) a w'=>∃ x3 : List Gj,∃ x4 : Int,∃ v5 : Value,Jr r1 y1 j4 m1 x3 x4 = some r ∧ Sx w [] φ4 [.blk b3 (Es.enc y1) 59,.own v5 46 10 x3.length (x3.flatMap Gj.enc)] [(1,Ab),(5,.map (some b1)),(6,v5),(8,.pointer (some ⟨b3,0,none⟩)),(9,v4),(10,iV x4),(13,Ab),(14,iV (Al.length : Int)),(15,iV (i1 : Int))] 75 a w') id (((r1.length : Int) - 1).toNat + 2) ⟨x1,1,v2,h,S.nf [true,true] rfl (subR rfl)⟩ ?_)
      clear S h;rintro m1 a w10 ⟨x3,x4,v5,h,S⟩
      cases m1 with
      | zero=>rw [Jr.eq_1] at h;cases h
      | succ m1 =>
       rw [Jr.eq_2] at h
       refine Fs (Fr (Vm S rfl rfl fun a S=>Vm S rfl rfl fun a S=>lv S (Fy Nw (S.tm rfl) (Eh (Fv Ee.enc_ok hs1))) rfl fun a S=>Vb S Fm rfl rfl rfl fun a S=>Dl (Fc h (S.tm rfl) (fun hb3 h=>?_) (fun hb3 h=>?_))))
       ·refine wp_skip (Tn (Fs (wp_block ?_)))
        obtain ⟨hc2,h⟩:=Hu h
        obtain ⟨hc3,h⟩:=Hu h
        obtain ⟨hc4,h⟩:=Hu h
        obtain ⟨hc5,h⟩:=Hu h
        obtain ⟨hc6,h⟩:=Hu h
        refine Gq [] (v5.ownBlock.toList) Tryz.mixed S rfl (by kernel_rfl) ?_;clear S;intro w14 hk9 hsel S
        refine Ej 0 S hsel rfl rfl rfl (by kernel_rfl) (by kernel_rfl) rfl (fun _ hw=>(Rm (S.tm rfl))) fun a S=>Ej 1 S hsel rfl rfl rfl (by kernel_rfl) (by kernel_rfl) rfl (fun _ hw=>(Fz Rt (S.tm rfl))) fun a S=>Ej 2 S hsel rfl rfl rfl (by kernel_rfl) (by kernel_rfl) rfl (fun _ hw=>(Gt isAgg9 (off:=0) (o:=0) (S.tm rfl) ((S.blk_mem (i:=0) (cells:=(Es.enc y1)) (b:=b3) (T:=59) rfl (Ob (i:=1) (j:=0) (e:=.own v5 46 10 x3.length (x3.flatMap Gj.enc)) (e':=.blk b3 (Es.enc y1) 59) S rfl rfl rfl)).kept hw) rfl)) fun a S=>Ej 3 S hsel rfl rfl rfl (by kernel_rfl) (by kernel_rfl) rfl (fun _ hw=>(Rm (S.tm rfl))) fun a S=>Ej 4 S hsel rfl rfl rfl (by kernel_rfl) (by kernel_rfl) rfl (fun _ hw=>(Rm (S.tm rfl))) fun a S=>Ej 5 S hsel rfl rfl rfl (by kernel_rfl) (by kernel_rfl) rfl (fun _ hw=>(Iq (S.tm rfl) rfl)) ?_;clear S;intro a S
        obtain ⟨b10,o7,hm9,hr8⟩:=Ff (a:=a) (x:=.tmp 47) (y:=.tmp 49) (ty:=0) Nw ((Fv Ee.enc_ok hs1).mono (S.le_new (Ew (i:=1) (e:=.own v5 46 10 x3.length (x3.flatMap Gj.enc)) rfl))) (El hc2).1 (El hc2).2 (S.tm rfl) (S.tm rfl)
        refine Ej 6 S hsel rfl rfl rfl (by kernel_rfl) (by kernel_rfl) rfl (fun _ hw=>hr8 _) ?_;clear S;intro a S
        clear hr8
        refine Ej 7 S hsel rfl rfl rfl (by kernel_rfl) (by kernel_rfl) rfl (fun _ hw=>(Hf isAgg40 sizeOf40 (off:=o7) (o:=0) (part:=(Ee.enc (Ee.mk ((nth r1 (W (x4 - 1))).Item) ((nth r1 (W (x4 - 1))).Heat) ((nth r1 (W (x4 - 1))).Time)))) rfl rfl (S.tm rfl) (hm9.kept hw))) fun a S=>Ej 8 S hsel rfl rfl rfl (by kernel_rfl) (by kernel_rfl) rfl (fun _ hw=>(Rm (S.tm rfl))) fun a S=>Ej 9 S hsel rfl rfl rfl (by kernel_rfl) (by kernel_rfl) rfl (fun _ hw=>(Rm (S.tm rfl))) ?_;clear S;intro a S
        obtain ⟨b11,o8,hm10,hr9⟩:=Ff (a:=a) (x:=.tmp 52) (y:=.tmp 53) (ty:=0) Nw ((Fv Ee.enc_ok hs1).mono (S.le_new (Ew (i:=1) (e:=.own v5 46 10 x3.length (x3.flatMap Gj.enc)) rfl))) (El hc3).1 (El hc3).2 (S.tm rfl) (S.tm rfl)
        refine Ej 10 S hsel rfl rfl rfl (by kernel_rfl) (by kernel_rfl) rfl (fun _ hw=>hr9 _) ?_;clear S;intro a S
        clear hr9
        refine Ej 11 S hsel rfl rfl rfl (by kernel_rfl) (by kernel_rfl) rfl (fun _ hw=>(Hf isAgg40 sizeOf40 (off:=o8) (o:=0) (part:=(Ee.enc (Ee.mk ((nth r1 x4).Item) ((nth r1 x4).Heat) ((nth r1 x4).Time)))) rfl rfl (S.tm rfl) (hm10.kept hw))) fun a S=>Ej 12 S hsel rfl rfl rfl (by kernel_rfl) (by kernel_rfl) rfl (fun _ hw=>(Rm (S.tm rfl))) fun a S=>Ej 13 S hsel rfl rfl rfl (by kernel_rfl) (by kernel_rfl) rfl (fun _ hw=>(Rm (S.tm rfl))) ?_;clear S;intro a S
        obtain ⟨b12,o9,hm11,hr10⟩:=Ff (a:=a) (x:=.tmp 56) (y:=.tmp 57) (ty:=0) Nw ((Fv Ee.enc_ok hs1).mono (S.le_new (Ew (i:=1) (e:=.own v5 46 10 x3.length (x3.flatMap Gj.enc)) rfl))) (El hc4).1 (El hc4).2 (S.tm rfl) (S.tm rfl)
        refine Ej 14 S hsel rfl rfl rfl (by kernel_rfl) (by kernel_rfl) rfl (fun _ hw=>hr10 _) ?_;clear S;intro a S
        clear hr10
        refine Ej 15 S hsel rfl rfl rfl (by kernel_rfl) (by kernel_rfl) rfl (fun _ hw=>(Fz Pt (S.tm rfl))) fun a S=>Ej 16 S hsel rfl rfl rfl (by kernel_rfl) (by kernel_rfl) rfl (fun _ hw=>(Fz Vt (S.tm rfl))) fun a S=>Ej 17 S hsel rfl rfl rfl (by kernel_rfl) (by kernel_rfl) rfl (fun _ hw=>(Gt isAgg3 (off:=o9) (o:=2) (S.tm rfl) (hm11.kept hw) rfl)) fun a S=>Ej 18 S hsel rfl rfl rfl (by kernel_rfl) (by kernel_rfl) rfl (fun _ hw=>(Rm (S.tm rfl))) fun a S=>Ej 19 S hsel rfl rfl rfl (by kernel_rfl) (by kernel_rfl) rfl (fun _ hw=>(Rm (S.tm rfl))) fun a S=>Ej 20 S hsel rfl rfl rfl (by kernel_rfl) (by kernel_rfl) rfl (fun _ hw=>(Iq (S.tm rfl) rfl)) ?_;clear S;intro a S
        obtain ⟨b13,o10,hm12,hr11⟩:=Ff (a:=a) (x:=.tmp 62) (y:=.tmp 64) (ty:=0) Nw ((Fv Ee.enc_ok hs1).mono (S.le_new (Ew (i:=1) (e:=.own v5 46 10 x3.length (x3.flatMap Gj.enc)) rfl))) (El hc5).1 (El hc5).2 (S.tm rfl) (S.tm rfl)
        refine Ej 21 S hsel rfl rfl rfl (by kernel_rfl) (by kernel_rfl) rfl (fun _ hw=>hr11 _) ?_;clear S;intro a S
        clear hr11
        refine Ej 22 S hsel rfl rfl rfl (by kernel_rfl) (by kernel_rfl) rfl (fun _ hw=>(Fz Pt (S.tm rfl))) fun a S=>Ej 23 S hsel rfl rfl rfl (by kernel_rfl) (by kernel_rfl) rfl (fun _ hw=>(Fz Vv (S.tm rfl))) fun a S=>Ej 24 S hsel rfl rfl rfl (by kernel_rfl) (by kernel_rfl) rfl (fun _ hw=>(Gt isAgg3 (off:=o10) (o:=3) (S.tm rfl) (hm12.kept hw) rfl)) fun a S=>Ej 25 S hsel rfl rfl rfl (by kernel_rfl) (by kernel_rfl) rfl (fun _ hw=>(Iq (S.tm rfl) (S.tm rfl))) fun a S=>Ej 26 S hsel rfl rfl rfl (by kernel_rfl) (by kernel_rfl) rfl (fun _ hw=>(Nl bt_46 (pv:=[(0,sV y1.Who),(1,.agg (Ee.enc (Ee.mk ((nth r1 (W (x4 - 1))).Item) ((nth r1 (W (x4 - 1))).Heat) ((nth r1 (W (x4 - 1))).Time))).toArray),(2,.agg (Ee.enc (Ee.mk ((nth r1 x4).Item) ((nth r1 x4).Heat) ((nth r1 x4).Time))).toArray),(3,iV (W ((((nth r1 x4).Time).From) - (((nth r1 (W (x4 - 1))).Time).To))))]) ⟨rfl,(S.tm rfl),rfl,(S.tm rfl),rfl,(S.tm rfl),rfl,(S.tm rfl),trivial⟩ (cs:=[sV y1.Who,sV ((nth r1 (W (x4 - 1))).Item),iV ((nth r1 (W (x4 - 1))).Heat),iV (((nth r1 (W (x4 - 1))).Time).From),iV (((nth r1 (W (x4 - 1))).Time).To),sV ((nth r1 x4).Item),iV ((nth r1 x4).Heat),iV (((nth r1 x4).Time).From),iV (((nth r1 x4).Time).To),iV (W ((((nth r1 x4).Time).From) - (((nth r1 (W (x4 - 1))).Time).To)))]) (by kernel_rfl))) fun a S=>Ga 27 (by kernel_rfl) rfl (Fo S underlying41 sizeOf46 zeroValue46 rfl rfl (pv:=[(0,.agg (Gj.enc (Gj.mk y1.Who (Ee.mk ((nth r1 (W (x4 - 1))).Item) ((nth r1 (W (x4 - 1))).Heat) ((nth r1 (W (x4 - 1))).Time)) (Ee.mk ((nth r1 x4).Item) ((nth r1 x4).Heat) ((nth r1 x4).Time)) (W ((((nth r1 x4).Time).From) - (((nth r1 (W (x4 - 1))).Time).To))))).toArray)]) ⟨rfl,(S.tm rfl),trivial⟩ (cs:=[sV y1.Who,sV ((nth r1 (W (x4 - 1))).Item),iV ((nth r1 (W (x4 - 1))).Heat),iV (((nth r1 (W (x4 - 1))).Time).From),iV (((nth r1 (W (x4 - 1))).Time).To),sV ((nth r1 x4).Item),iV ((nth r1 x4).Heat),iV (((nth r1 x4).Time).From),iV (((nth r1 x4).Time).To),iV (W ((((nth r1 x4).Time).From) - (((nth r1 (W (x4 - 1))).Time).To)))]) (by kernel_rfl) rfl ?_);clear S;intro a w15 b14 hz5 hk10 S
        refine Ld (Gn (Keep.none hk10) (Ga 28 (by kernel_rfl) rfl ?_))
        refine Ms HY Gj.enc_ok S (S.tm rfl) (i:=2) rfl (S.tm rfl) (j:=0) rfl (ys:=[(Gj.mk y1.Who (Ee.mk ((nth r1 (W (x4 - 1))).Item) ((nth r1 (W (x4 - 1))).Heat) ((nth r1 (W (x4 - 1))).Time)) (Ee.mk ((nth r1 x4).Item) ((nth r1 x4).Heat) ((nth r1 x4).Time)) (W ((((nth r1 x4).Time).From) - (((nth r1 (W (x4 - 1))).Time).To))))]) rfl rfl rfl rfl (by have:=Le hc6;omega) rfl ?_;clear S;intro v7 a w16 hk11 hf1 S
        refine Ld ?_
        refine Og (v7.ownBlock.toList) hk11 (by intro y hy;simp at hy ⊢;exact (by rcases hf1 y hy with hy | hy <;> simp [hy])) ?_
        refine Jn [29] hsel (by kernel_rfl) rfl ?_
        clear hsel
        refine Fk S rfl (Ra (S.tm rfl)) rfl fun a S=>Hx ?_
        replace S:=(S.nl [.blk b3 (Es.enc y1) 59,.own v7 46 10 (x3 ++ [(Gj.mk y1.Who (Ee.mk ((nth r1 (W (x4 - 1))).Item) ((nth r1 (W (x4 - 1))).Heat) ((nth r1 (W (x4 - 1))).Time)) (Ee.mk ((nth r1 x4).Item) ((nth r1 x4).Heat) ((nth r1 x4).Time)) (W ((((nth r1 x4).Time).From) - (((nth r1 (W (x4 - 1))).Time).To))))]).length ((x3 ++ [(Gj.mk y1.Who (Ee.mk ((nth r1 (W (x4 - 1))).Item) ((nth r1 (W (x4 - 1))).Heat) ((nth r1 (W (x4 - 1))).Time)) (Ee.mk ((nth r1 x4).Item) ((nth r1 x4).Heat) ((nth r1 x4).Time)) (W ((((nth r1 x4).Time).From) - (((nth r1 (W (x4 - 1))).Time).To))))]).flatMap Gj.enc)] [false,true,true] rfl).k9 1 5 6 8 9 10 13 14 15 rfl
        exact Jc (Tn (Fg (Vm S rfl rfl fun a S=>Vq S Gd rfl rfl rfl fun a S=>Va S rfl rfl fun a S=>Dl (⟨m1,⟨(x3 ++ [(Gj.mk y1.Who (Ee.mk ((nth r1 (W (x4 - 1))).Item) ((nth r1 (W (x4 - 1))).Heat) ((nth r1 (W (x4 - 1))).Time)) (Ee.mk ((nth r1 x4).Item) ((nth r1 x4).Heat) ((nth r1 x4).Time)) (W ((((nth r1 x4).Time).From) - (((nth r1 (W (x4 - 1))).Time).To))))]),W (x4 + 1),v7,h,S.nf [true,true] rfl ⟨rfl,rfl,rfl,rfl,rfl,rfl,rfl,rfl,rfl,trivial⟩⟩,Nat.lt_succ_self _⟩))))
       ·exact wp_exit (Fj (Fj (He (Tn (⟨x3,v5,h,S.nf [true,true] rfl (subR rfl)⟩)))))
     clear S h;rintro a w11 ⟨x3,v5,h,S⟩;rw [hj4] at h;clear hj4 j4
     exact Jc (Tn (⟨x3,φ4,v5,h,hl4,S.nf [false,true] rfl (subR rfl)⟩))
   clear S h;rintro a w4 ⟨x2,φ3,v3,h,hl3,S⟩;rw [hj2] at h;clear hj2 j2
   exact Tn (Fg (Vq S Gd rfl rfl rfl fun a S=>Vm S rfl rfl fun a S=>Dl (⟨ys1,⟨i1 + 1,x2,φ3,v3,⟨_,(hd1).trans (List.append_cons _ _ _),by simp [hi1]⟩,h,(View.le_trans hl2 hl3),S.nf [true] rfl ⟨rfl,rfl,rfl,rfl,rfl,(congrArg (fun z=>some (Value.int .i64 z)) (Hc hd1 hi1 (Jx Ao))),trivial⟩⟩,Nat.lt_succ_self _⟩)))
 clear S h;rintro a w3 ⟨x1,φ2,v2,h,hl2,S⟩;rw [hj1] at h;clear hj1 j1
 refine Tn (Fr (Vm S rfl rfl fun a S=>Va S rfl rfl fun a S=>Dl (wp_ret ?_)))
 obtain rfl:=Option.some.inj h
 exact Fw S results31 rfl (Qb S (i:=0) rfl rfl)
theorem Yf (w : World) (Ag : Value) (Aj : List Ed) (Aw : Slc (view w []) 5 Ag (Aj.map Ed.enc)) (Ab : Value) (Al : List Es) (Ao : Slc (view w []) 3 Ab (Al.map Es.enc)) (Bd : Int) (r : (List Gj) × Int) (h : Qf Aj Al Bd = some r) :
    Calls prog 9 [Ag,Ab,iV Bd].toArray w (Ret w [] fun τ v _=>∃ u1 : Value,v = .tuple #[u1,iV r.2] ∧ Of τ 46 10 u1 r.1.length (r.1.flatMap Gj.enc)):=by
 refine Fe func9 rfl ntmps9 rfl fun a S=>?_
 unfold Qf at h
 replace S:=S.k3 0 1 2 rfl
 refine Fr (Vk S rfl rfl fun a S=>Vk S rfl rfl fun a S=>Dl (Fs (Fr (Vm S rfl rfl fun a S=>Vm S rfl rfl ?_))));clear S;intro a S
 obtain ⟨r1,hr1,h⟩:=Gf h
 refine Em S (fun _=>Eg (vs:=[Ag,Ab]) ⟨(S.tm rfl),(S.tm rfl),trivial⟩ call30) (Rh _ Ag Aj (Aw.mono (S.le_arg Fh)) Ab Al (Ao.mono (S.le_arg Fh)) _ hr1) rfl ?_;clear S;intro v1 a w1 hv1 hk1 hn1 S
 subst hv1
 refine Va S rfl rfl fun a S=>Dz (Vm S rfl rfl fun a S=>Vq S Mq rfl rfl rfl fun a S=>Dl (Fc h (S.tm rfl) (fun hb1 h=>?_) (fun hb1 h=>?_)))
 ·refine Fr (Vm S rfl rfl fun a S=>Vk S rfl rfl fun a S=>Va S rfl rfl fun a S=>Dl (wp_ret (Ek ?_)))
  obtain rfl:=Option.some.inj h
  exact Kx S results9 rfl rfl ⟨_,rfl,(Jz _ _ _)⟩
 ·refine wp_skip (Tn (Fr (Vm S rfl rfl fun a S=>Vm S rfl rfl ?_)));clear S;intro a S
  obtain ⟨r2,hr2,h⟩:=Gf h
  have hz1:=S.keep.size
  refine Em S (fun _=>Eg (vs:=[Ag,iV Bd]) ⟨(S.tm rfl),(S.tm rfl),trivial⟩ call29) (Tf _ Ag Aj (Aw.mono (S.le_arg Fh)) Bd _ hr2) rfl ?_;clear S;intro v2 a w2 hv2 hk2 hn2 S
  obtain ⟨u1,rfl,ho1⟩:=hv2
  obtain ⟨φ1,hl1,hm1,S⟩:=S.see' hn2 hz1
  have hs1:=ho1.mono hm1
  refine Vm S rfl rfl fun a S=>Vq S Gv rfl rfl rfl fun a S=>Vq S Gv rfl rfl rfl fun a S=>Va S rfl rfl fun a S=>Va S rfl rfl fun a S=>Ld ?_
  replace S:=S.k3 1 9 10 rfl
  refine Tn (Fs (Fr (Vm S rfl rfl fun a S=>Vq S Mq rfl rfl rfl fun a S=>Dl (Fc h (S.tm rfl) (fun hb2 h=>?_) (fun hb2 h=>?_)))))
  ·refine Fr (Vm S rfl rfl fun a S=>Vk S rfl rfl fun a S=>Va S rfl rfl fun a S=>Dl (wp_ret (Ek ?_)))
   obtain rfl:=Option.some.inj h
   exact Kx S results9 rfl rfl ⟨_,rfl,(Jz _ _ _)⟩
  ·refine wp_skip (Tn (Fr (Vm S rfl rfl fun a S=>Vm S rfl rfl ?_)));clear S;intro a S
   obtain ⟨r3,hr3,h⟩:=Gf h
   have hz2:=S.keep.size
   refine Em S (fun _=>Eg (vs:=[u1,Ab]) ⟨(S.tm rfl),(S.tm rfl),trivial⟩ call31) (Ye _ u1 r2.1 ((Fv Ee.enc_ok hs1).mono (S.le_new Fh)) Ab Al (Ao.mono (S.le_arg Fh)) _ hr3) rfl ?_;clear S;intro v3 a w3 hv3 hk3 hn3 S
   obtain ⟨φ2,hl2,hm2,S⟩:=S.see' hn3 hz2
   have hs2:=hv3.mono hm2
   refine Va S rfl rfl fun a S=>Vk S rfl rfl fun a S=>Dl (wp_ret ?_)
   obtain rfl:=Option.some.inj h
   exact Kx S results9 rfl rfl ⟨_,rfl,((hs2).mono S.le_newer)⟩
theorem Ti (w : World) (Ab : Value) (Al : List Gj) (De : (LEnt.own Ab 46 10 Al.length (Al.flatMap Gj.enc)).holds w) (r : (List Gj)) (h : Lq Al = some r) :
    Calls prog 10 [Ab].toArray w (Ret w (Ab.ownBlock.toList) fun _ v w'=>(LEnt.own Ab 46 10 r.length (r.flatMap Gj.enc)).holds w' ∧ v = .tuple #[]):=by
 refine Kw (Ab.ownBlock.toList) [.own Ab 46 10 Al.length (Al.flatMap Gj.enc)] func10 rfl ntmps10 rfl (fun e he=>by simp only [List.mem_singleton] at he;subst he;exact De) (Kb _) (Lh _) fun a S=>?_
 unfold Lq at h
 replace S:=(S.nl [.own Ab 46 10 Al.length (Al.flatMap Gj.enc)] [true] rfl).k1 0 rfl
 refine Fr (Lm S zeroValue46 (cs:=[sV En,sV En,iV 0,iV 0,iV 0,sV En,iV 0,iV 0,iV 0,iV 0]) rfl rfl ?_);clear S;intro a w1 b1 hz1 hk1 S
 refine Dz (Vm S rfl rfl fun a S=>lv S (Fy HY (S.tm rfl) (Nc (S.own_at (i:=1) rfl))) rfl fun a S=>lv S (Rm rfl) rfl fun a S=>Dl ?_)
 replace S:=(S.nl [.blk b1 [sV En,sV En,iV 0,iV 0,iV 0,sV En,iV 0,iV 0,iV 0,iV 0] 46,.own Ab 46 10 Al.length (Al.flatMap Gj.enc)] [true,true] rfl).k4 0 2 5 6 rfl
 have hm1:=Tr (S.own_at (i:=1) rfl)
 obtain ⟨j1,hj1,h⟩:=Ge h
 refine Ft (fun a w'=>∃ x1 : List Gj,j1 x1 = some r ∧ Sx w (Ab.ownBlock.toList) nov [.blk b1 [sV En,sV En,iV 0,iV 0,iV 0,sV En,iV 0,iV 0,iV 0,iV 0] 46,.own Ab 46 10 x1.length (x1.flatMap Gj.enc)] [] 14 a w') ?_ ?_
 ·refine wp_block (Hh (fun (ys1 : List Gj) a w'=>∃ i1 : Nat,∃ x1 : List Gj,(∃ dn,Al = dn ++ ys1 ∧ dn.length = i1) ∧ Hp j1 ys1 i1 x1 = some r ∧ Sx w (Ab.ownBlock.toList) nov [.blk b1 [sV En,sV En,iV 0,iV 0,iV 0,sV En,iV 0,iV 0,iV 0,iV 0] 46,.own Ab 46 10 x1.length (x1.flatMap Gj.enc)] [(0,Ab),(2,.pointer (some ⟨b1,0,none⟩)),(5,iV (Al.length : Int)),(6,iV (i1 : Int))] 14 a w') List.length Al ⟨0,Al,⟨[],rfl,rfl⟩,h,S.nf [true,true] rfl (subR rfl)⟩ ?_)
  clear S h;rintro ys1 a w2 ⟨i1,x1,⟨dn,hd1,hi1⟩,h,S⟩
  cases ys1 with
  | nil =>
   rw [Hp.eq_1] at h
   refine Fr (Vb S Fm rfl rfl rfl fun a S=>Ld ?_)
   replace S:=S.k5 0 2 5 6 7 rfl
   exact Tn (Fs (wp_cond_false ((S.tm rfl).trans (congrArg Value.bool (Ih hd1 hi1))) (wp_exit (Fj (Fj (He (Tn (⟨x1,h,S.nf [true,true] rfl trivial⟩))))))))
  | cons y1 ys1 =>
   rw [Hp.eq_2] at h
   refine Fr (Vb S Fm rfl rfl rfl fun a S=>Ld ?_)
   replace S:=S.k5 0 2 5 6 7 rfl
   refine Tn (Fs (wp_cond_true ((S.tm rfl).trans (congrArg Value.bool (Hb hd1 hi1))) (wp_skip (Tn (Fs (wp_block (Fr (Vm S rfl rfl fun a S=>Va S rfl rfl ?_))))))));clear S;intro a S
   refine Dl (Fg (Vm S rfl rfl fun a S=>Vm S rfl rfl fun a S=>lv S (Hf isAgg46 sizeOf46 (off:=0) (o:=0) (part:=[sV En,sV En,iV 0,iV 0,iV 0,sV En,iV 0,iV 0,iV 0,iV 0]) rfl rfl (S.tm rfl) (S.cellsAt (i:=0) rfl)) rfl ?_));clear S;intro a S
   obtain ⟨hc1,h⟩:=Hu h
   obtain ⟨b2,hg1,hr1⟩:=Gz (a:=a) (x:=.tmp 9) (y:=.tmp 10) (ty:=0) HY Gj.enc_ok S (i:=1) rfl (El hc1).1 (El hc1).2 (S.tm rfl) (S.tm rfl)
   refine lv S (hr1 _) rfl ?_;clear S;intro a S
   clear hr1
   refine Mt (c:=0) (j:=(i1 : Int).toNat) (Gj.mk En (Ee.mk En 0 (Gs.mk 0 0)) (Ee.mk En 0 (Gs.mk 0 0)) 0) Gj.enc_ok S (S.tm rfl) (S.tm rfl) (i:=1) rfl hg1 (El hc1).1 sizeOf46 (vs:=[sV En,sV En,iV 0,iV 0,iV 0,sV En,iV 0,iV 0,iV 0,iV 0]) rfl rfl rfl rfl rfl ?_;clear S;intro w5 hk3 S
   exact Ld (Jc (Tn (Fg (Vq S Gd rfl rfl rfl fun a S=>Vm S rfl rfl fun a S=>Dl (⟨ys1,⟨i1 + 1,(x1.set ((i1 : Int).toNat) (Gj.mk En (Ee.mk En 0 (Gs.mk 0 0)) (Ee.mk En 0 (Gs.mk 0 0)) 0)),⟨_,(hd1).trans (List.append_cons _ _ _),by simp [hi1]⟩,h,S.nf [true,true] rfl ⟨rfl,rfl,rfl,(congrArg (fun z=>some (Value.int .i64 z)) (Hc hd1 hi1 hm1)),trivial⟩⟩,Nat.lt_succ_self _⟩)))))
 clear S h;rintro a w3 ⟨x1,h,S⟩;rw [hj1] at h;clear hj1 j1
 obtain rfl:=Option.some.inj h
 exact Qu S results10 ⟨(S.holds _ (List.mem_of_getElem? (i:=1) rfl)),rfl⟩
theorem Wa (w : World) (Bf : Ed) (Bi : Ed) (r : Int) (h : Kr Bf Bi = r) :
    Calls prog 35 [.agg (Ed.enc Bf).toArray,.agg (Ed.enc Bi).toArray].toArray w (Ret w [] fun _ v _=>v = iV r):=by
 refine Fe func35 rfl ntmps35 rfl fun a S=>?_
 unfold Kr at h
 replace S:=S.k2 0 1 rfl
 refine Fr (Qp S (S.tm rfl) (cs:=(Ed.enc Bf)) rfl rfl ?_);clear S;intro a w1 b1 hz1 hk1 S
 refine Qp S (S.tm rfl) (cs:=(Ed.enc Bi)) rfl rfl ?_;clear S;intro a w2 b2 hz2 hk2 S
 refine Vk S rfl rfl fun a S=>Dz (Vf Qn S rfl rfl fun a S=>Vl isAgg9 1 S rfl rfl rfl rfl fun a S=>Vf Qn S rfl rfl fun a S=>Vl isAgg9 0 S rfl rfl rfl rfl fun a S=>Em S (fun _=>Eg (vs:=[sV Bf.Key,sV Bi.Key]) ⟨(S.tm rfl),(S.tm rfl),trivial⟩ call36) (Qo _ Bf.Key Bi.Key _ rfl) rfl ?_);clear S;intro v1 a w3 hv1 hk3 hn1 S
 subst hv1
 refine Va S rfl rfl fun a S=>Dl (wp_ret ?_)
 subst h
 exact Fw S results35 rfl rfl
set_option maxRecDepth 20000 in
theorem Mj (w : World) (Af : Value) (Ba : List Ed) (Cb : (LEnt.own Af 54 5 Ba.length (Ba.flatMap Ed.enc)).holds w) (Bf : Int) (Bi : Int) (r : (List Ed)) (h : Gm Ba Bf Bi = some r) :
    Calls prog 76 [Af,iV Bf,iV Bi,.func (.func 35) #[] #[]].toArray w (Ret w (Af.ownBlock.toList) fun _ v w'=>(LEnt.own Af 54 5 r.length (r.flatMap Ed.enc)).holds w' ∧ v = .tuple #[]):=by
 refine Kw (Af.ownBlock.toList) [.own Af 54 5 Ba.length (Ba.flatMap Ed.enc)] func76 rfl ntmps76 rfl (fun e he=>by simp only [List.mem_singleton] at he;subst he;exact Cb) (Kb _) (Lh _) fun a S=>?_
 unfold Gm at h
 replace S:=(S.nl [.own Af 54 5 Ba.length (Ba.flatMap Ed.enc)] [true] rfl).k4 0 1 2 3 rfl
 refine Fr (Vm S rfl rfl fun a S=>Vq S Gd rfl rfl rfl fun a S=>Va S rfl rfl fun a S=>Dl ?_)
 replace S:=S.k5 0 1 2 3 8 rfl
 obtain ⟨j1,hj1,h⟩:=Ge h
 refine Ft (fun a w'=>∃ x1 : List Ed,j1 x1 = some r ∧ Sx w (Af.ownBlock.toList) nov [.own Af 54 5 x1.length (x1.flatMap Ed.enc)] [] 53 a w') ?_ ?_
 ·refine wp_block (Hh (fun (m1 : Nat) a w'=>∃ x1 : List Ed,∃ x2 : Int,Fa Bi Bf j1 m1 x1 x2 = some r ∧ Sx w (Af.ownBlock.toList) nov [.own Af 54 5 x1.length (x1.flatMap Ed.enc)] [(0,Af),(1,iV Bf),(2,iV Bi),(3,.func (.func 35) #[] #[]),(8,iV x2)] 53 a w') id ((Bi - (W (Bf + 1))).toNat + 2) ⟨Ba,W (Bf + 1),h,S.nf [true] rfl (subR rfl)⟩ ?_)
  clear S h;rintro m1 a w1 ⟨x1,x2,h,S⟩
  cases m1 with
  | zero=>rw [Fa.eq_1] at h;cases h
  | succ m1 =>
   rw [Fa.eq_2] at h
   refine Fs (Fr (Vm S rfl rfl fun a S=>Vm S rfl rfl fun a S=>Vb S Fm rfl rfl rfl fun a S=>Dl (Fc h (S.tm rfl) (fun hb1 h=>?_) (fun hb1 h=>?_))))
   ·refine wp_skip (Tn (Fs (wp_block (Fr (Vm S rfl rfl fun a S=>Va S rfl rfl fun a S=>Dl ?_)))))
    replace S:=S.k6 0 1 2 3 8 9 rfl
    obtain ⟨j2,hj2,h⟩:=Ge h
    refine Ft (fun a w'=>∃ x3 : List Ed,j2 x3 = some r ∧ Sx w (Af.ownBlock.toList) nov [.own Af 54 5 x3.length (x3.flatMap Ed.enc)] [(0,Af),(1,iV Bf),(2,iV Bi),(3,.func (.func 35) #[] #[]),(8,iV x2)] 53 a w') ?_ ?_
    ·refine wp_block (Hh (fun (m2 : Nat) a w'=>∃ x3 : List Ed,∃ x4 : Int,Eu Bf j2 m2 x3 x4 = some r ∧ Sx w (Af.ownBlock.toList) nov [.own Af 54 5 x3.length (x3.flatMap Ed.enc)] [(0,Af),(1,iV Bf),(2,iV Bi),(3,.func (.func 35) #[] #[]),(8,iV x2),(9,iV x4)] 53 a w') id ((x2 - Bf).toNat + 2) ⟨x1,x2,h,S.nf [true] rfl (subR rfl)⟩ ?_)
     clear S h;rintro m2 a w3 ⟨x3,x4,h,S⟩
     cases m2 with
     | zero=>rw [Eu.eq_1] at h;cases h
     | succ m2 =>
      rw [Eu.eq_2] at h
      refine Fs (Fs ?_)
      obtain ⟨j3,hj3,h⟩:=Ge h
      refine Ft (fun a w'=>∃ x5 : Bool,j3 x5 = some r ∧ Sx w (Af.ownBlock.toList) nov [.own Af 54 5 x3.length (x3.flatMap Ed.enc)] [(0,Af),(1,iV Bf),(2,iV Bi),(3,.func (.func 35) #[] #[]),(8,iV x2),(9,iV x4),(34,bV x5)] 53 a w') ?_ ?_
      ·rcases Bool.eq_false_or_eq_true (decide (Bf < x4)) with hb2 | hb2
       ·replace h:=Py h hb2
        obtain ⟨hc1,h⟩:=Hu h
        obtain ⟨hc2,h⟩:=Hu h
        refine Gq [] ([]) Tryz.mixed S rfl (by kernel_rfl) ?_;clear S;intro w7 hk2 hsel S
        refine Ej 0 S hsel rfl rfl rfl (by kernel_rfl) (by kernel_rfl) rfl (fun _ hw=>(Rm (S.tm rfl))) fun a S=>Ej 1 S hsel rfl rfl rfl (by kernel_rfl) (by kernel_rfl) rfl (fun _ hw=>(Rm (S.tm rfl))) fun a S=>Ej 2 S hsel rfl rfl rfl (by kernel_rfl) (by kernel_rfl) rfl (fun _ hw=>(Kh (S.tm rfl) (S.tm rfl))) fun a S=>Ej 3 S hsel rfl rfl rfl (by kernel_rfl) (by kernel_rfl) rfl (fun _ hw=>(Rm (S.tm rfl))) fun a S=>Fb 4 S hsel rfl rfl rfl rfl hb2 rfl rfl (by kernel_rfl) (by kernel_rfl) rfl (fun _ hw=>(Rm (S.tm rfl))) fun a S=>Fb 5 S hsel rfl rfl rfl rfl hb2 rfl rfl (by kernel_rfl) (by kernel_rfl) rfl (fun _ hw=>(Rm (S.tm rfl))) fun a S=>Fb 6 S hsel rfl rfl rfl rfl hb2 rfl rfl (by kernel_rfl) (by kernel_rfl) rfl (fun _ hw=>(Rm (S.tm rfl))) ?_;clear S;intro a S
        obtain ⟨b3,hg3,hr3⟩:=Gz (a:=a) (x:=.tmp 23) (y:=.tmp 24) (ty:=0) Jp Ed.enc_ok S (i:=0) rfl (El hc1).1 (El hc1).2 (S.tm rfl) (S.tm rfl)
        refine Fb 7 S hsel rfl rfl rfl rfl hb2 rfl rfl (by kernel_rfl) (by kernel_rfl) rfl (fun _ hw=>(hr3 _)) ?_;clear S;intro a S
        clear hr3
        refine Fb 8 S hsel rfl rfl rfl rfl hb2 rfl rfl (by kernel_rfl) (by kernel_rfl) rfl (fun _ hw=>(Hf isAgg54 sizeOf54 (off:=x4.toNat * 5) (o:=0) (part:=(Ed.enc (nth x3 x4))) rfl rfl (S.tm rfl) ((Pb Ed.enc_ok S (i:=0) rfl hg3 (El hc1).1 (Gr (e':=.own Af 54 5 x3.length (x3.flatMap Ed.enc)))).kept hw))) fun a S=>Fb 9 S hsel rfl rfl rfl rfl hb2 rfl rfl (by kernel_rfl) (by kernel_rfl) rfl (fun _ hw=>(Rm (S.tm rfl))) fun a S=>Fb 10 S hsel rfl rfl rfl rfl hb2 rfl rfl (by kernel_rfl) (by kernel_rfl) rfl (fun _ hw=>(Rm (S.tm rfl))) fun a S=>Fb 11 S hsel rfl rfl rfl rfl hb2 rfl rfl (by kernel_rfl) (by kernel_rfl) rfl (fun _ hw=>(Iq (S.tm rfl) rfl)) ?_;clear S;intro a S
        obtain ⟨b4,hg4,hr4⟩:=Gz (a:=a) (x:=.tmp 27) (y:=.tmp 29) (ty:=0) Jp Ed.enc_ok S (i:=0) rfl (El hc2).1 (El hc2).2 (S.tm rfl) (S.tm rfl)
        refine Fb 12 S hsel rfl rfl rfl rfl hb2 rfl rfl (by kernel_rfl) (by kernel_rfl) rfl (fun _ hw=>(hr4 _)) ?_;clear S;intro a S
        clear hr4
        refine Fb 13 S hsel rfl rfl rfl rfl hb2 rfl rfl (by kernel_rfl) (by kernel_rfl) rfl (fun _ hw=>(Hf isAgg54 sizeOf54 (off:=((W (x4 - 1)).toNat) * 5) (o:=0) (part:=(Ed.enc (nth x3 (W (x4 - 1))))) rfl rfl (S.tm rfl) ((Pb Ed.enc_ok S (i:=0) rfl hg4 (El hc2).1 (Gr (e':=.own Af 54 5 x3.length (x3.flatMap Ed.enc)))).kept hw))) fun a S=>Ga 14 (by kernel_rfl) rfl (Er S rfl rfl rfl hb2 (Em S (fun _=>Vi (cap:=[]) (S.tm rfl) (vs:=[.agg (Ed.enc (nth x3 x4)).toArray,.agg (Ed.enc (nth x3 (W (x4 - 1)))).toArray]) ⟨(S.tm rfl),(S.tm rfl),trivial⟩ call35) (Wa _ (nth x3 x4) (nth x3 (W (x4 - 1))) _ rfl) rfl ?_));clear S;intro v2 a w8 hv2 hk3 hn2 S
        subst hv2
        refine Ld (Gn hk3 (Jn [15,16] hsel (by kernel_rfl) rfl ?_))
        clear hsel
        refine Gx S rfl rfl rfl rfl hb2 (Io S (Fm (S.tm rfl) rfl) rfl fun a S=>Fk S rfl (Mz hb2 (S.tm rfl) (S.tm rfl)) rfl fun a S=>Hx ?_)
        replace S:=S.nk [.own Af 54 5 x3.length (x3.flatMap Ed.enc)] [(0,Af),(1,iV Bf),(2,iV Bi),(3,.func (.func 35) #[] #[]),(8,iV x2),(9,iV x4),(22,.func (.func 35) #[] #[]),(23,Af),(24,iV x4),(25,.pointer (some ⟨b3,x4.toNat * 5,none⟩)),(26,.agg (Ed.enc (nth x3 x4)).toArray),(27,Af),(28,iV x4),(29,iV (W (x4 - 1))),(30,.pointer (some ⟨b4,((W (x4 - 1)).toNat) * 5,none⟩)),(31,.agg (Ed.enc (nth x3 (W (x4 - 1)))).toArray),(32,iV (Kr (nth x3 x4) (nth x3 (W (x4 - 1))))),(33,bV (decide ((Kr (nth x3 x4) (nth x3 (W (x4 - 1)))) < 0))),(34,bV (decide ((Kr (nth x3 x4) (nth x3 (W (x4 - 1)))) < 0)))] [true] rfl (subR rfl)
        exact Tn (⟨decide ((Kr (nth x3 x4) (nth x3 (W (x4 - 1)))) < 0),h,S.nf [true] rfl (subR rfl)⟩)
       ·replace h:=Pz h hb2
        refine Gq [] ([]) Tryz.mixed S rfl (by kernel_rfl) ?_;clear S;intro w9 hk4 hsel S
        refine Jn [0,1,2,3,4,5,6,7,8,9,10,11,12,13,14,15,16] hsel (by kernel_rfl) rfl ?_
        clear hsel
        refine Fk S rfl (Rm (S.tm rfl)) rfl fun a S=>Fk S rfl (Rm (S.tm rfl)) rfl fun a S=>Fk S rfl (Kh (S.tm rfl) (S.tm rfl)) rfl fun a S=>Fk S rfl (Rm (S.tm rfl)) rfl ?_;clear S;intro a S
        iterate 12 (refine Pv S rfl rfl rfl rfl (Lk hb2) rfl ?_ rfl;clear S;intro a S)
        refine Fk S rfl (Na hb2 (S.tm rfl) rfl) rfl fun a S=>Hx ?_
        replace S:=S.k7 0 1 2 3 8 9 34 rfl
        exact Tn (⟨false,h,S.nf [true] rfl (subR rfl)⟩)
      clear S h;rintro a w5 ⟨x5,h,S⟩;rw [hj3] at h;clear hj3 j3
      refine Tn (Fc h (S.tm rfl) (fun hb3 h=>?_) (fun hb3 h=>?_))
      ·refine wp_skip (Tn (Fs (wp_block ?_)))
       obtain ⟨hc3,h⟩:=Hu h
       obtain ⟨hc4,h⟩:=Hu h
       obtain ⟨hc5,h⟩:=Hu h
       obtain ⟨hc6,h⟩:=Hu h
       refine Gq [15,17] ([]) Tryz.mixed S rfl (by kernel_rfl) ?_;clear S;intro w14 hk9 hsel S
       refine Ij 0 S hsel rfl rfl (by kernel_rfl) (by kernel_rfl) rfl (fun _=>(Rm (S.tm rfl))) fun a S=>Ij 1 S hsel rfl rfl (by kernel_rfl) (by kernel_rfl) rfl (fun _=>(Rm (S.tm rfl))) fun a S=>Ij 2 S hsel rfl rfl (by kernel_rfl) (by kernel_rfl) rfl (fun _=>(Rm (S.tm rfl))) fun a S=>Ij 3 S hsel rfl rfl (by kernel_rfl) (by kernel_rfl) rfl (fun _=>(Rm (S.tm rfl))) fun a S=>Ij 4 S hsel rfl rfl (by kernel_rfl) (by kernel_rfl) rfl (fun _=>(Iq (S.tm rfl) rfl)) fun a S=>Ij 5 S hsel rfl rfl (by kernel_rfl) (by kernel_rfl) rfl (fun _=>(Rm (S.tm rfl))) fun a S=>Ij 6 S hsel rfl rfl (by kernel_rfl) (by kernel_rfl) rfl (fun _=>(Rm (S.tm rfl))) fun a S=>Ij 7 S hsel rfl rfl (by kernel_rfl) (by kernel_rfl) rfl (fun _=>(Iq (S.tm rfl) rfl)) ?_;clear S;intro a S
       obtain ⟨b9,hg9,hr9⟩:=Gz (a:=a) (x:=.tmp 42) (y:=.tmp 44) (ty:=0) Jp Ed.enc_ok S (i:=0) rfl (El hc3).1 (El hc3).2 (S.tm rfl) (S.tm rfl)
       refine Ij 8 S hsel rfl rfl (by kernel_rfl) (by kernel_rfl) rfl (fun _=>(hr9 _)) ?_;clear S;intro a S
       clear hr9
       refine Ej 9 S hsel rfl (by kernel_rfl) (by kernel_rfl) (by kernel_rfl) (by kernel_rfl) rfl (fun _ hw=>(Hf isAgg54 sizeOf54 (off:=((W (x4 - 1)).toNat) * 5) (o:=0) (part:=(Ed.enc (nth x3 (W (x4 - 1))))) rfl rfl (S.tm rfl) ((Pb Ed.enc_ok S (i:=0) rfl hg9 (El hc3).1 (Gr (e':=.own Af 54 5 x3.length (x3.flatMap Ed.enc)))).kept hw))) fun a S=>Ij 10 S hsel rfl rfl (by kernel_rfl) (by kernel_rfl) rfl (fun _=>(Rm (S.tm rfl))) fun a S=>Ij 11 S hsel rfl rfl (by kernel_rfl) (by kernel_rfl) rfl (fun _=>(Rm (S.tm rfl))) ?_;clear S;intro a S
       obtain ⟨b10,hg10,hr10⟩:=Gz (a:=a) (x:=.tmp 47) (y:=.tmp 48) (ty:=0) Jp Ed.enc_ok S (i:=0) rfl (El hc4).1 (El hc4).2 (S.tm rfl) (S.tm rfl)
       refine Ij 12 S hsel rfl rfl (by kernel_rfl) (by kernel_rfl) rfl (fun _=>(hr10 _)) ?_;clear S;intro a S
       clear hr10
       refine Ej 13 S hsel rfl (by kernel_rfl) (by kernel_rfl) (by kernel_rfl) (by kernel_rfl) rfl (fun _ hw=>(Hf isAgg54 sizeOf54 (off:=x4.toNat * 5) (o:=0) (part:=(Ed.enc (nth x3 x4))) rfl rfl (S.tm rfl) ((Pb Ed.enc_ok S (i:=0) rfl hg10 (El hc4).1 (Gr (e':=.own Af 54 5 x3.length (x3.flatMap Ed.enc)))).kept hw))) ?_;clear S;intro a S
       obtain ⟨b11,hg11,hr11⟩:=Gz (a:=a) (x:=.tmp 37) (y:=.tmp 38) (ty:=0) Jp Ed.enc_ok S (i:=0) rfl (El hc5).1 (El hc5).2 (S.tm rfl) (S.tm rfl)
       refine Ij 14 S hsel rfl rfl (by kernel_rfl) (by kernel_rfl) rfl (fun _=>(hr11 _)) ?_;clear S;intro a S
       clear hr11
       refine Zc 15 (Af.ownBlock.toList) rfl (by kernel_rfl) rfl (Mt (c:=0) (j:=x4.toNat) (nth x3 (W (x4 - 1))) Ed.enc_ok S (S.tm rfl) (S.tm rfl) (i:=0) rfl hg11 (El hc5).1 sizeOf54 (vs:=[sV ((nth x3 (W (x4 - 1))).Key),iV ((nth x3 (W (x4 - 1))).Heats),iV ((nth x3 (W (x4 - 1))).Long),iV ((nth x3 (W (x4 - 1))).Gap),iV ((nth x3 (W (x4 - 1))).Break)]) rfl rfl rfl rfl rfl ?_);clear S;intro w16 hk11 S
       refine Ld (Zd ?_)
       obtain ⟨b12,hg12,hr12⟩:=Gz (a:=a) (x:=.tmp 39) (y:=.tmp 41) (ty:=0) Jp Ed.enc_ok S (i:=0) rfl (El hc6).1 (El hc6).2 (S.tm rfl) (S.tm rfl)
       refine Ej 16 S hsel rfl rfl rfl (by kernel_rfl) (by kernel_rfl) rfl (fun _ hw=>(hr12 _)) ?_;clear S;intro a S
       clear hr12
       refine Ga 17 (by kernel_rfl) rfl (Mt (c:=0) (j:=(W (x4 - 1)).toNat) (nth x3 x4) Ed.enc_ok S (S.tm rfl) (S.tm rfl) (i:=0) rfl hg12 (El hc6).1 sizeOf54 (vs:=[sV ((nth x3 x4).Key),iV ((nth x3 x4).Heats),iV ((nth x3 x4).Long),iV ((nth x3 x4).Gap),iV ((nth x3 x4).Break)]) rfl rfl rfl rfl rfl ?_);clear S;intro w18 hk13 S
       refine Ld (Gn hk13 (Ta (by kernel_rfl) ?_))
       clear hsel
       replace S:=(S.nl [.own Af 54 5 ((x3.set x4.toNat (nth x3 (W (x4 - 1)))).set ((W (x4 - 1)).toNat) (nth x3 x4)).length (((x3.set x4.toNat (nth x3 (W (x4 - 1)))).set ((W (x4 - 1)).toNat) (nth x3 x4)).flatMap Ed.enc)] [true] rfl).k6 0 1 2 3 8 9 rfl
       exact Jc (Tn (Fg (Vm S rfl rfl fun a S=>Vq S Iq rfl rfl rfl fun a S=>Va S rfl rfl fun a S=>Dl (⟨m2,⟨((x3.set x4.toNat (nth x3 (W (x4 - 1)))).set ((W (x4 - 1)).toNat) (nth x3 x4)),W (x4 - 1),h,S.nf [true] rfl ⟨rfl,rfl,rfl,rfl,rfl,rfl,trivial⟩⟩,Nat.lt_succ_self _⟩))))
      ·exact wp_exit (Fj (Fj (He (Tn (⟨x3,h,S.nf [true] rfl (subR rfl)⟩)))))
    clear S h;rintro a w4 ⟨x3,h,S⟩;rw [hj2] at h;clear hj2 j2
    exact Jc (Tn (Fg (Vm S rfl rfl fun a S=>Vq S Gd rfl rfl rfl fun a S=>Va S rfl rfl fun a S=>Dl (⟨m1,⟨x3,W (x2 + 1),h,S.nf [true] rfl ⟨rfl,rfl,rfl,rfl,rfl,trivial⟩⟩,Nat.lt_succ_self _⟩))))
   ·exact wp_exit (Fj (Fj (He (Tn (⟨x1,h,S.nf [true] rfl trivial⟩)))))
 clear S h;rintro a w2 ⟨x1,h,S⟩;rw [hj1] at h;clear hj1 j1
 obtain rfl:=Option.some.inj h
 exact Qu S results76 ⟨(S.holds _ (List.mem_of_getElem? (i:=0) rfl)),rfl⟩
theorem Nq (w : World) (Af : Value) (Ba : List Ed) (Cb : (LEnt.own Af 54 5 Ba.length (Ba.flatMap Ed.enc)).holds w) (Bf : Int) (Bi : Int) (Cf : Int) (r : (List Ed)) (h : Hw Ba Bf Bi Cf = some r) :
    Calls prog 47 [Af,iV Bf,iV Bi,iV Cf,.func (.func 35) #[] #[]].toArray w (Ret w (Af.ownBlock.toList) fun _ v w'=>(LEnt.own Af 54 5 r.length (r.flatMap Ed.enc)).holds w' ∧ v = .tuple #[]):=by
 refine Kw (Af.ownBlock.toList) [.own Af 54 5 Ba.length (Ba.flatMap Ed.enc)] func47 rfl ntmps47 rfl (fun e he=>by simp only [List.mem_singleton] at he;subst he;exact Cb) (Kb _) (Lh _) fun a S=>?_
 unfold Hw at h
 replace S:=(S.nl [.own Af 54 5 Ba.length (Ba.flatMap Ed.enc)] [true] rfl).k5 0 1 2 3 4 rfl
 refine Fr (Vk S rfl rfl fun a S=>Dz (Vk S rfl rfl fun a S=>Dl ?_))
 replace S:=S.k6 0 1 2 3 4 10 rfl
 refine Ft (fun a w'=>False) ?_ ?_
 ·refine wp_block (Hh (fun (m1 : Nat) a w'=>∃ x1 : Int,∃ x2 : Int,∃ x3 : Int,∃ x4 : Bool,Fq Ba m1 x1 x2 x3 x4 = some r ∧ Sx w (Af.ownBlock.toList) nov [.own Af 54 5 Ba.length (Ba.flatMap Ed.enc)] [(0,Af),(1,iV x1),(2,iV x2),(3,iV x3),(4,.func (.func 35) #[] #[]),(10,bV x4)] 148 a w') id 4611686018427387904 ⟨Bf,Bi,Cf,true,h,S.nf [true] rfl (subR rfl)⟩ ?_)
  clear S h;rintro m1 a w1 ⟨x1,x2,x3,x4,h,S⟩
  cases m1 with
  | zero=>rw [Fq.eq_1] at h;cases h
  | succ m1 =>
   rw [Fq.eq_2] at h
   refine wp_block (Fr (Vm S rfl rfl fun a S=>Vm S rfl rfl fun a S=>Vb S Iq rfl rfl rfl fun a S=>Va S rfl rfl fun a S=>Dl (Fs (Fs ?_))))
   refine Fg (Vm S rfl rfl fun a S=>Vq S Ss rfl rfl rfl fun a S=>Dl (Fc h (S.tm rfl) (fun hb1 h=>?_) (fun hb1 h=>?_)))
   ·refine Fs (Fg ?_)
    iterate 4 (refine Vm S rfl rfl ?_;clear S;intro a S)
    obtain ⟨r1,hr1,h⟩:=Gf h
    refine Nv 0 S rfl (fun _=>.own Af 54 5 r1.length (r1.flatMap Ed.enc)) (fun _=>Eg (vs:=[Af,iV x1,iV x2,.func (.func 35) #[] #[]]) ⟨(S.tm rfl),(S.tm rfl),(S.tm rfl),(S.tm rfl),trivial⟩ call76) (Mj _ Af Ba (S.holds _ (List.mem_of_getElem? (i:=0) rfl)) x1 x2 _ hr1) rfl (fun _ _ _ h=>⟨h.1,fun _ hc=>hc⟩) ?_;clear S;intro v1 a w3 hv1 hk1 hn1 S
    replace hv1:=hv1.2
    subst hv1
    refine Ld ?_
    replace S:=(S.nl [.own Af 54 5 r1.length (r1.flatMap Ed.enc)] [true] rfl).k0
    refine Tn (wp_ret (Ek (Gu (Ek (Gu (Ek ?_))))))
    obtain rfl:=Option.some.inj h
    exact Qu S results47 ⟨(S.holds _ (List.mem_of_getElem? (i:=0) rfl)),rfl⟩
   ·refine wp_skip (Tn (Fs (Fr (Vm S rfl rfl fun a S=>Vq S Mc rfl rfl rfl fun a S=>Dl (Fc h (S.tm rfl) (fun hb2 h=>?_) (fun hb2 h=>?_))))))
    ·refine Fs ?_
     cases h
    ·refine wp_skip (Tn (Fs (Fr (Vm S rfl rfl fun a S=>Vu S Jd rfl rfl fun a S=>Ld ?_))))
     replace S:=S.k1 39 rfl
     refine Tn (Fc h (S.tm rfl) (fun hb3 h=>?_) (fun hb3 h=>?_))
     ·refine Fs ?_
      cases h
     ·refine wp_skip (Tn (Fs ?_))
      cases h
 exact fun _ _ h=>h.elim
theorem Pa (w : World) (Bp : Value) (Az : List Ed) (Dd : (LEnt.own Bp 54 5 Az.length (Az.flatMap Ed.enc)).holds w) (r : (List Ed)) (h : Hq Az = some r) :
    Calls prog 22 [Bp,.func (.func 35) #[] #[]].toArray w (Ret w (Bp.ownBlock.toList) fun _ v w'=>(LEnt.own Bp 54 5 r.length (r.flatMap Ed.enc)).holds w' ∧ v = .tuple #[]):=by
 refine Kw (Bp.ownBlock.toList) [.own Bp 54 5 Az.length (Az.flatMap Ed.enc)] func22 rfl ntmps22 rfl (fun e he=>by simp only [List.mem_singleton] at he;subst he;exact Dd) (Kb _) (Lh _) fun a S=>?_
 unfold Hq at h
 replace S:=(S.nl [.own Bp 54 5 Az.length (Az.flatMap Ed.enc)] [true] rfl).k2 0 1 rfl
 refine Fr (Vm S rfl rfl fun a S=>lv S (Fy Jp (S.tm rfl) (Nc (S.own_at (i:=0) rfl))) rfl fun a S=>Va S rfl rfl fun a S=>Dl (Fg ?_))
 iterate 3 (refine Vm S rfl rfl ?_;clear S;intro a S)
 refine Vu S (Qj underlying3 underlying110) rfl rfl ?_;clear S;intro a S
 obtain ⟨r1,hr1,h⟩:=Gf h
 refine Em S (fun _=>Eg (vs:=[.int .u64 (IntKind.wrap .u64 (Az.length : Int))]) ⟨(S.tm rfl),trivial⟩ call48) (Ut _ (IntKind.wrap .u64 (Az.length : Int)) _ hr1) rfl ?_;clear S;intro v1 a w1 hv1 hk1 hn1 S
 subst hv1
 refine Vm S rfl rfl ?_;clear S;intro a S
 obtain ⟨r2,hr2,h⟩:=Gf h
 refine Nv 0 S rfl (fun _=>.own Bp 54 5 r2.length (r2.flatMap Ed.enc)) (fun _=>Eg (vs:=[Bp,iV 0,iV (Az.length : Int),iV r1,.func (.func 35) #[] #[]]) ⟨(S.tm rfl),rfl,(S.tm rfl),(S.tm rfl),(S.tm rfl),trivial⟩ call47) (Nq _ Bp Az (S.holds _ (List.mem_of_getElem? (i:=0) rfl)) 0 (Az.length : Int) r1 _ hr2) rfl (fun _ _ _ h=>⟨h.1,fun _ hc=>hc⟩) ?_;clear S;intro v2 a w2 hv2 hk2 hn2 S
 replace hv2:=hv2.2
 subst hv2
 refine Ld ?_
 obtain rfl:=Option.some.inj h
 exact Qu S results22 ⟨(S.holds _ (List.mem_of_getElem? (i:=0) rfl)),rfl⟩
end Go.Proofs.YtcgffkkagmkhkaaGreatDoor
